import Derived.Test.YtmibehbhnkeaiaaGreatP2
set_option linter.unusedVariables false
set_option linter.unusedSimpArgs false
open Bool renaming not_true->FR,eq_iff_iff->F5,not_false->F9,and_eq_true->GG,true_and->GV,not_eq_true'->Ga,false_eq_true->Gk,not_eq_true->Gr,and_self->Gy
open Classical renaming not_not->GZ
open Eq renaming trans->Gm
open Iff renaming rfl->Gz
open Int renaming toNat->FN,toNat_natCast->FO,le_refl->FZ,eq_ofNat_of_zero_le->GI,le_trans->GQ,toNat_zero->GR,tmod->GS,tdiv->GT,tdiv_eq_ediv_of_nonneg->GX,fdiv->Gc,toNat_of_nonneg->Gh,tmod_lt_of_pos->Gj,tmod_nonneg->Gu,not_lt->Gx
open List renaming length->FK,mem_singleton->FP,mem_append->FQ,length_append->FS,getElem_mem->FT,mem_cons_of_mem->FU,nil_append->FV,length_take->FW,drop_eq_getElem_cons->FX,mem_cons->FY,length_cons->F0,getElem_of_mem->F2,pairwise_cons->F3,mem_append_left->F4,length_set->F6,length_nil->GA,mem_map->GB,getElem?_eq_getElem->GC,filter_eq_self->GD,take_length->GE,drop_zero->GF,length_drop->GJ,filter_eq_nil_iff->GK,mem_append_right->GL,mem_of_mem_take->GM,mem_filter->GN,foldl_cons->GO,mem_cons_self->GP,append_assoc->GU,append_nil->GW,take_add_one->GY,filter_cons->Gb,length_map->Gd,length_filter_le->Ge,foldl_nil->Gg,filter_append->Gi,reverse_cons->Gn,drop_length->Gp,ext_getElem->Gq,cons_append->Gs,not_mem_nil->Gt,set_set->G0
open Nat renaming le_succ_of_le->FM,le_trans->F1,zero_le->F7,le_refl->F8,le_succ->Gf,lt_or_eq_of_le->Gl,min_eq_left->Gv,mul_le_mul->Gw
open Option renaming bind_some->FJ,bind->FL
namespace Go.Proofs.YtmibehbhnkeaiaaGreatEv
open Go
variable (K:Nat)
theorem sE {α A R:Type}(k:α->Int)(x:α)(t:List α)(hA:Asc k t)(Y S1:List α->Nat->A)(I:List α->Option R){step:(A->Option R)->A->Option R}
  (h0:∀ (rec:A->Option R) (r:List α) (i:Nat) (O:i<t.length),r.length=i->(∀ y∈t.take i,k y<k x)->step rec (Y r i)=if k t[i]<k x then rec (Y (r++[t[i]]) (i+1)) else if k t[i]=k x then rec (S1 (r++[x]) (i+1)) else rec (S1 (r++[x]++[t[i]]) (i+1)))
  (h1:∀ (rec:A->Option R) (r:List α) (i:Nat) (O:i<t.length),r.length<=i+1->k x<k t[i]->step rec (S1 r i)=rec (S1 (r++[t[i]]) (i+1)))
  (e0:∀ (rec:A->Option R) (r:List α),r.length=t.length->(∀ y∈t,k y<k x)->step rec (Y r t.length)=I (r++[x]))
  (e1:∀ (rec:A->Option R) (r:List α),r.length<=t.length+1->step rec (S1 r t.length)=I r) {K:Nat} (Z:t.length<K):ae step K (Y [] 0)=I (bD k x t):=by
 have r1:∀ (n i K:Nat) (r:List α),i+n=t.length->n<K->r.length<=i+1->(∀ y∈t.drop i,k x<k y)->ae step K (S1 r i)=I (r++t.drop i):=by
  intro n;induction n with
  |zero =>
   intro i K r O Z M _;obtain⟨K,rfl⟩:∃ X,K=X+1:=⟨K-1,by omega⟩;have:i=t.length:=by omega
   subst this;show step (ae step K) _=_;rw[e1 _ _ M,Gp,GW]
  |succ n ih =>
   intro i K r O Z M hg;obtain⟨K,rfl⟩:∃ X,K=X+1:=⟨K-1,by omega⟩;have u:i<t.length:=by omega
   rw[FX u]at hg;show step (ae step K) _=_;rw[h1 _ _ _ u M (hg _ (.head _)),ih (i+1) K _ (by omega) (by omega) (by simp;omega) (λy z=>hg y (.tail _ z)),FX u];simp
 have H:∀ i (O:i<t.length),∀ y∈t.drop (i+1),k t[i]<k y:=λi O y z=>by
  have:=List.Pairwise.drop (i:=i) hA;rw[FX O]at this;exact (F3.1 this).1 y z
 have r0:∀ (n i K:Nat) (r:List α),i+n=t.length->n<K->r=t.take i->(∀ y∈t.take i,k y<k x)->ae step K (Y r i)=I (bD k x t):=by
  intro n;induction n with
  |zero =>
   intro i K r O Z M J;obtain⟨K,rfl⟩:∃ X,K=X+1:=⟨K-1,by omega⟩;have:i=t.length:=by omega
   subst this;rw[GE]at M J;subst M;show step (ae step K) _=_;rw[e0 _ _ rfl J];unfold bD;rw[GD.2 (by simpa using J),GK.2 (λy z=>by have:=J y z;simp;omega)]
  |succ n ih =>
   intro i K r O Z M J;obtain⟨K,rfl⟩:∃ X,K=X+1:=⟨K-1,by omega⟩;have u:i<t.length:=by omega
   subst M;have a1:(t.take i).length=i:=by rw[FW];omega
   show step (ae step K) _=_;rw[h0 _ _ _ u a1 J];have a0:k x<=k t[i]->bD k x t=t.take i++x::(t.drop i).filter (λy=>decide (k x<k y)):=λhc=>by
    unfold bD;conv=>lhs;rw[<- List.take_append_drop i t]
    rw[Gi,Gi,GD.2 (by simpa using J),(GK (l:=t.take i)).2 (λy z=>by have:=J y z;simp;omega),FV];rw[FX u,Gb,if_neg (by simp;omega),GK.2 (λy z=>by have:=H i u y z;simp;omega),GW]
   by_cases hc:k t[i]<k x
   ·rw[if_pos hc];refine ih (i+1) K _ (by omega) (by omega) (by rw[GY,GC u];rfl) λy z=>?_
    rw[GY,GC u]at z;rcases FQ.1 z with z|z
    ·exact J y z
    ·simp at z;rw[z];exact hc
   ·rw[if_neg hc,a0 (by omega),FX u];by_cases he:k t[i]=k x
    ·rw[if_pos he,r1 n (i+1) K _ (by omega) (by omega) (by simp;omega) (λy z=>by have:=H i u y z;omega),Gb,if_neg (by simp;omega),GD.2 (λy z=>by have:=H i u y z;simp;omega)];simp
    ·rw[if_neg he,r1 n (i+1) K _ (by omega) (by omega) (by simp;omega) (λy z=>by have:=H i u y z;omega),Gb,if_pos (by simp;omega),GD.2 (λy z=>by have:=H i u y z;simp;omega)];simp
 exact r0 t.length 0 K [] (by omega) Z rfl (by simp)
theorem yT {t:List ah}{f:ah}(h:∀ g∈t,g.1<f.1):(bZ t f).1=t++[f]:=by
 rw[iU (λg r e=>by have:=h g r;omega)];unfold bD;rw[GD.2 (by simpa using h),GK.2 (λy u=>by have:=h y u;simp;omega)]
theorem qS:∀ {fs t:List ah},Asc (λf:ah=>f.1) fs->(∀ g∈t,∀ f∈fs,g.1<f.1)->putAll t fs=t++fs
 |[],t,_,_=>by simp[putAll]
 |f::fs,t,u,h=>by
  show putAll (bZ t f).1 fs=_;rw[yT (λg r=>h g r f (by simp)),qS (F3.1 u).2 ?_]
  ·simp
  ·intro g r e y;rcases FQ.1 r with r|r
   ·exact h g r e (by simp[y])
   ·rw[FP.1 r];exact (F3.1 u).1 e y
theorem xq {fs:List ah}(h:aE fs):putAll [] fs=fs:=by
 rw[qS h.2 (by simp)];rfl
theorem BP (a b:List ah)(r:aE a)(u:aE b)(y:Kb K):Q155.f K (a,b,())=some ((putAll a b,()),()):=by
 simp only[Q155.f,Q155.pre];obtain⟨R,I,J⟩:=gW K a (cf r) y;obtain⟨X,M,O⟩:=gW K b (cf u) y;have:=cf r;have:=cf u;rw[I,M,J.2 r,O.2 u];simp only[FJ,FR,cond_false];rw[szb _ _ _ (by omega) (by show (FK ([]:List ah))+a.length<=_;simp;omega)];simp only[cond_true,FV];refine pq a b r u.1 (step:=Q155.s0 K (a,b,())) (λt=>some ((t,()),())) ?_ ?_ (by omega)
 ·intro rec t i H z;simp only[Q155.s0];rw[bt (by omega:(i:Int)<(FK b:Int)),af H,ar i (by omega)];simp only[cond_true,FJ];rw[xh K t _ (cf z) z.2 y];rfl
 ·intro rec t;simp only[Q155.s0,aS];rfl
theorem qd {u:Int}{l:List ch}(h:dn u l)(s:Int):aE (fg l s):=by
 rcases sn (l:=l) (s:=s) with e|⟨x,r,_,e⟩ <;> rw[e]
 ·exact⟨by simp,List.Pairwise.nil⟩
 ·exact (h.1 x r).2.2.2.1
theorem olen {u:Int}{l:List ch}(h:dn u l):l.length<=1048576:=F1 (jx h.2 λx r=>⟨(h.1 x r).1.1,GQ (h.1 x r).1.2 (by decide)⟩) (by decide)
theorem yU (n:aa)(s:Int)(t:List ah)(h:dn n.1 (aa.others n))(r:aE t)(y:Kb K):Q156.f K (n,s,t,())=some ((putAll (fg (aa.others n) s) t,()),()):=by
 have z:=olen h;refine qG (step:=Q156.s0 K (n,s,t,())) (aa.others n) s (λl=>some ((putAll l t,()),())) ?_ ?_ (aa.others n).length 0 K (by omega) (by omega)
 ·intro rec i u;simp only[Q156.s0];rw[bt (by omega:(i:Int)<(FK (aa.others n):Int)),af u,ar i (by omega)];simp only[cond_true,FJ];cases (aa.others n)[i].1==s with
  |false=>rfl
  |true=>exact bT' (BP K _ t (h.1 _ (FT u)).2.2.2.1 r y) rfl
 ·intro rec;simp only[Q156.s0,aS,cond_false];rw[xq r];refine (congrArg (λb=>bif b then _ else _) (szb (FK ([]:List ah)) t.length 32 (by omega) ?_)).trans rfl;have:=cf r;simp;omega
theorem sum_s (n:aa)(s:Int)(t:List ah)(h:dn n.1 (aa.others n))(R:Kb K):Q157.f K (n,s,t,())=some ((oa n (bD (λx:ch=>x.1) (s,t) (aa.others n)),()),()):=by
 have X:=olen h;refine sE (step:=Q157.s0 K (n,s,t,())) (λx:ch=>x.1) (s,t) (aa.others n) h.2 (λr i=>(r,false,(i:Int))) (λr i=>(r,true,(i:Int))) (λo=>some ((oa n o,()),())) ?_ ?_ ?_ ?_ (by omega)
 ·intro rec r i I H _;simp only[Q157.s0,zcp4,zcp8];rw[bt (by omega:(i:Int)<(FK (aa.others n):Int)),af I,ar i (by omega)];simp only[cond_true,FJ,F9];have z:=szb r.length 1 32 (by omega) (by omega);have O:=szb (r++[(s,t)]).length 1 32 (by omega) (by simp;omega);generalize (aa.others n)[i]=y at *;by_cases J:y.1<s
  ·rw[if_pos J,show decide (y.1>=s)=false from decide_eq_false (by omega),show (y.1 != s)=true by simp;omega];exact (congrArg (λb=>bif b then _ else _) z).trans rfl
  ·rw[if_neg J,show decide (y.1>=s)=true from decide_eq_true (by omega)];refine (congrArg (λb=>bif b then _ else _) z).trans ?_;by_cases u:y.1=s
   ·rw[if_pos u,show (y.1 != s)=false by simpa using u];rfl
   ·rw[if_neg u,show (y.1 != s)=true by simpa using u];exact (congrArg (λb=>bif b then _ else _) O).trans rfl
 ·intro rec r i I H M;simp only[Q157.s0,zcp4,zcp8];rw[bt (by omega:(i:Int)<(FK (aa.others n):Int)),af I,ar i (by omega)];simp only[cond_true,FJ,FR,cond_false];have z:=szb r.length 1 32 (by omega) (by omega);rw[show ((aa.others n)[i].1 != s)=true by simp;have:s<_:=M;omega];exact (congrArg (λb=>bif b then _ else _) z).trans rfl
 ·intro rec r H _;simp only[Q157.s0,zcp4,zcp8,aS,cond_false,F9,cond_true];exact (congrArg (λb=>bif b then _ else _) (szb r.length 1 32 (by omega) (by omega))).trans rfl
 ·intro rec r H;simp only[Q157.s0,zcp4,zcp8,aS,cond_false,FR];rfl
theorem At (a b:List ah)(Z:a.length<=1048576)(Y:Kb K):Q158.f K (a,b,())=rb (decide (a≠b)):=by
 simp only[Q158.f,Q158.pre];by_cases M:a.length=b.length
 ·rw[show ((FK a:Int) != (FK b:Int))=false by simp;omega];have:=cG (step:=Q158.s0 K (a,b,())) a.length (λi=>(i:Int)) (λj=>∃ (h:j<a.length) (X:j<b.length),a[j]≠b[j]) (rb false) (λ_=>rb true) ?_ ?_ a.length K 0 (by omega) (by omega)
  ·rcases this with ⟨H,u⟩|⟨j,_,H,⟨y,I,O⟩,_,u⟩
   ·refine (u:Q158.l0 K (a,b,()) 0=_).trans ?_;rw[decide_eq_false];rintro z;exact z (Gq M λi y I=>GZ.1 λR=>H i (F7 _) y ⟨y,I,R⟩)
   ·refine (u:Q158.l0 K (a,b,()) 0=_).trans ?_;rw[decide_eq_true];rintro rfl;exact O rfl
  ·intro rec i J;simp only[Q158.s0];rw[bt (by omega:(i:Int)<(FK a:Int)),af J,ar i (by omega),af (show i<b.length by omega)];simp only[cond_true,FJ];rw[show Ty.eqv t2 a[i] (b[i]'(by omega))=decide (a[i]=b[i]'(by omega)) from iE _ _];by_cases r:a[i]=b[i]'(by omega)
   ·exact .inl ⟨λ⟨_,_,h⟩=>h r,by rw[decide_eq_true r];rfl⟩
   ·exact .inr ⟨⟨J,by omega,r⟩,by rw[decide_eq_false r];rfl⟩
  ·intro rec;simp only[Q158.s0,aS];rfl
 ·rw[show ((FK a:Int) != (FK b:Int))=true by simp;omega,decide_eq_true (show a≠b from λe=>M (by rw[e]))];rfl
theorem rP (l:List Int)(t:Int)(u:l.length<=1048576):Q164.f K (l,t,())=some ((dC l t,()),()):=by
 simp only[Q164.f];rw[szb _ _ _ (by omega) (by show (FK ([]:List Int))+l.length<=_;simp;omega)];simp only[cond_true,FV];rw[szb _ _ _ (by omega) (by show l.length+[t].length<=_;simp;omega)];simp only[cond_true];have r:(l++[t]).length=l.length+1:=by simp
 show (bif decide (((l++[t]).length:Int)>3) then (bif decide (0<=wr .i64 (((l++[t]).length:Int)-3))&&decide (wr .i64 (((l++[t]).length:Int)-3)<=((l++[t]).length:Int))&&decide (((l++[t]).length:Int)<=((l++[t]).length:Int))&&true then some ((((l++[t]).take (FN ((l++[t]).length:Int))).drop (FN (wr .i64 (((l++[t]).length:Int)-3))),()),()) else none) else some ((l++[t],()),()))=_;by_cases h:l.length+1>3
 ·rw[aC (by omega) (by omega),decide_eq_true (by omega:((l++[t]).length:Int)>3),decide_eq_true (by omega:(0:Int)<=((l++[t]).length:Int)-3),decide_eq_true (by omega:((l++[t]).length:Int)-3<=((l++[t]).length:Int)),decide_eq_true (FZ _)];simp only[Gy,cond_true,dC];rw[show FN (((l++[t]).length:Int)-3)=(l++[t]).length-3 by omega,FO,GE]
 ·rw[decide_eq_false (by omega:¬ ((l++[t]).length:Int)>3)];simp only[cond_false,dC];rw[show (l++[t]).length-3=0 by omega,GF]
theorem plen {u:Int}{l:List cm}(h:eT u l):l.length<=1048576:=F1 (jx h.2 λx r=>(h.1 x r).1) (by decide)
theorem pA {y:Int}{l:List cm}(h:eT y l)(r:Int):(ci l r).length<=3:=by
 unfold ci;cases u:l.find? λp=>p.1==r with
 |none=>simp
 |some p =>
  have:=(h.1 p (List.mem_of_find?_eq_some u)).2.2.2.2.1.2;show p.2.2.length<=3;omega
theorem BQ (l:List cm)(r:Int)(c:cW)(t:Int)(me:Int)(h:eT me l)(hK:Kb K):Q165.f K (l,r,c,t,())=some ((jQ l r c t,()),()):=by
 have hl:=plen h;have h3:=pA h r;refine sE (step:=Q165.s0 K (l,r,c,t,())) (λx:cm=>x.1) (r,c,dC (ci l r) t) l h.2 (λu i=>(u,false,(i:Int),[])) (λu i=>(u,true,(i:Int),dC (ci l r) t)) (λo=>some ((o,()),())) ?_ ?_ ?_ ?_ (by omega)
 ·intro rec u i I J z;simp only[Q165.s0];rw[bt (by omega:(i:Int)<(FK l:Int)),af I,ar i (by omega)];simp only[cond_true,FJ,F9];have X:=szb u.length 1 64 (by omega) (by omega);have z2:=szb (u++[(r,c,dC (ci l r) t)]).length 1 64 (by omega) (by simp;omega);have M:l[i].1=r->ci l r=l[i].2.2:=λe=>by unfold ci;rw[mR h.2 I e];rfl
  have O:r<l[i].1->ci l r=[]:=λe=>by
   unfold ci;rw[mo (k:=λp:cm=>p.1)]
   ·rfl
   intro y R;obtain⟨j,hj,rfl⟩:=F2 R;by_cases a0:j<i
   ·have:=z l[j] (by rw[List.mem_take_iff_getElem];exact⟨j,by omega,rfl⟩);show l[j].1≠r;have:l[j].1<r:=this;omega
   ·have:l[i].1<=l[j].1:=by
     by_cases e:i=j
     ·subst e;exact FZ _
     ·exact Int.le_of_lt (ct.1 h.2 i j I hj (by omega))
    show l[j].1≠r;omega
  have a1:=(h.1 _ (FT I)).2.2.2.2.1.2;generalize l[i]=y at *;by_cases Y:y.1<r
  ·rw[if_pos Y,show decide (y.1>=r)=false from decide_eq_false (by omega),show (y.1 != r)=true by simp;omega,show (y.1==r)=false by simp;omega];exact (congrArg (λb=>bif b then _ else _) X).trans rfl
  ·rw[if_neg Y,show decide (y.1>=r)=true from decide_eq_true (by omega)];by_cases H:y.1=r
   ·rw[if_pos H,show (y.1 != r)=false by simpa using H,show (y.1==r)=true by simpa using H];simp only[cond_true,cond_false];rw[<- M H];refine bT' (rP K _ t (by omega)) ?_;exact (congrArg (λb=>bif b then _ else _) X).trans rfl
   ·rw[if_neg H,show (y.1 != r)=true by simpa using H,show (y.1==r)=false by simpa using H];simp only[cond_true,cond_false];have e:=O (by omega);rw[e]at z2 ⊢;refine bT' (rP K [] t (by simp)) ?_;refine (congrArg (λb=>bif b then _ else _) X).trans ?_;exact (congrArg (λb=>bif b then _ else _) z2).trans rfl
 ·intro rec u i I J Z;simp only[Q165.s0];rw[bt (by omega:(i:Int)<(FK l:Int)),af I,ar i (by omega)];have Z:r<l[i].1:=Z;simp only[cond_true,FJ,FR,cond_false];rw[show (l[i].1 != r)=true by simp;omega,show (l[i].1==r)=false by simp;omega];exact (congrArg (λb=>bif b then _ else _) (szb u.length 1 64 (by omega) (by omega))).trans rfl
 ·intro rec u J z;simp only[Q165.s0,aS,cond_false,F9,cond_true];have e:ci l r=[]:=by
   unfold ci;rw[mo (k:=λp:cm=>p.1) (λy R=>by have:y.1<r:=z y R;show y.1≠r;omega)];rfl
  rw[e];refine bT' (rP K [] t (by simp)) ?_;exact (congrArg (λb=>bif b then _ else _) (szb u.length 1 64 (by omega) (by omega))).trans rfl
 ·intro rec u J;simp only[Q165.s0,aS,cond_false,FR]
def iZ (n u r:Int):Int:=if n<u then u else if n>r then r else n
theorem di (n z y:Int):Q163.f K (n,z,y,())=some ((iZ n z y,()),()):=by
 simp only[Q163.f,iZ];by_cases r:n<z
 ·rw[decide_eq_true r,if_pos r];rfl
 ·rw[decide_eq_false r,if_neg r];by_cases u:n>y
  ·rw[decide_eq_true u,if_pos u];rfl
  ·rw[decide_eq_false u,if_neg u];rfl
theorem BR {n u r:Int}(h:u<=r):InP (iZ n u r) u r:=by
 unfold iZ;split
 ·exact⟨FZ _,h⟩
 ·split
  ·exact⟨h,FZ _⟩
  ·exact⟨by omega,by omega⟩
def gy (n:aa):Int:=iZ ((cg n-(aa.probe n).2.1)*1000+500) 1 60000
noncomputable def nc (w:aj)(c:cW)(p:cm):cW:=bif p.1==w.2.2.1 then lg K c (aj.coord w) (lA K p.2.2) w.2.2.2.2.1 else c
def gI (n:aa)(w:aj):List cm:=jQ (aa.places n) w.2.2.1 (aj.coord w) (gy n)
def jR (n:aa)(w:aj):Bool:=!decide ((aa.probe n).1<0)&&(aa.probe n).1==w.2.2.1&&(aa.probe n).2.2.1==w.2.2.2.2.1&&w.2.2.2.2.2.1==w.2.2.1
noncomputable def cX (n:aa)(w:aj):aa:=bif jR n w then oc n ((gI n w).foldl (nc K w) (aa.coord n)) (gI n w) else n
theorem wt {K:Nat}{w:aj}{c:cW}{p:cm}(r:bX c)(u:Kb K):bX (nc K w c p):=by
 unfold nc;cases p.1==w.2.2.1 with
 |false=>exact r
 |true=>exact (uA K c _ _ _ r u).2
theorem nd {n:aa}(h:UpX n)(H:¬ (aa.probe n).1<0):(aa.probe n).1≠n.1/\InP (aa.probe n).1 0 7/\ak (aa.probe n).1=ak n.1/\InP (aa.probe n).2.1 0 (cg n):=by
 have r:=h.probe;unfold dm at r;rw[if_neg (by omega)]at r;obtain⟨y,⟨f,u,e⟩,z,_⟩:=r;exact⟨y,e ▸ (h.table.1 f u).1,e ▸ h.site f u,z⟩
theorem rQ {n:aa}{w:aj}(h:UpX n)(J:bX (aj.coord w))(r:jR n w=true):eT n.1 (gI n w):=by
 simp only[jR,GG,Ga,decide_eq_false_iff_not,beq_iff_eq]at r;obtain⟨⟨⟨H,I⟩,M⟩,O⟩:=r;obtain⟨u,y,z,_⟩:=nd h H;rw[I]at u y z;exact xo h.places y z u J (BR (by decide))
theorem ack_s (n:aa)(w:aj)(h:UpN n)(hw:bX (aj.coord w))(J:Kb K):Q176.f K (n,w,())=some ((cX K n w,()),()):=by
 simp only[Q176.f,Q176.pre,zc00556];have H:jR n w=(!decide ((aa.probe n).1<0)&&(aa.probe n).1==w.2.2.1&&(aa.probe n).2.2.1==w.2.2.2.2.1&&w.2.2.2.2.2.1==w.2.2.1):=rfl;by_cases r:(aa.probe n).1<0
 ·rw[show decide (n.2.2.2.2.2.2.2.2.2.2.1.1<0)=true from decide_eq_true r];rw[show cX K n w=n by unfold cX;rw[H,decide_eq_true r];rfl];rfl
 ·rw[show decide (n.2.2.2.2.2.2.2.2.2.2.1.1<0)=false from decide_eq_false r];cases u:(aa.probe n).1==w.2.2.1 with
  |false =>
   rw[show cX K n w=n by unfold cX;rw[H,decide_eq_false r,u];rfl];rw[show (n.2.2.2.2.2.2.2.2.2.2.1.1 != w.2.2.1)=true by unfold bne;rw[show (n.2.2.2.2.2.2.2.2.2.2.1.1==w.2.2.1)=false from u];rfl];rfl
  |true =>
   rw[show (n.2.2.2.2.2.2.2.2.2.2.1.1 != w.2.2.1)=false by unfold bne;rw[show (n.2.2.2.2.2.2.2.2.2.2.1.1==w.2.2.1)=true from u];rfl];cases z:(aa.probe n).2.2.1==w.2.2.2.2.1 with
   |false =>
    rw[show cX K n w=n by unfold cX;rw[H,decide_eq_false r,u,z];rfl];rw[show (n.2.2.2.2.2.2.2.2.2.2.1.2.2.1 != w.2.2.2.2.1)=true by unfold bne;rw[show (n.2.2.2.2.2.2.2.2.2.2.1.2.2.1==w.2.2.2.2.1)=false from z];rfl];rfl
   |true =>
    rw[show (n.2.2.2.2.2.2.2.2.2.2.1.2.2.1 != w.2.2.2.2.1)=false by unfold bne;rw[show (n.2.2.2.2.2.2.2.2.2.2.1.2.2.1==w.2.2.2.2.1)=true from z];rfl];cases I:w.2.2.2.2.2.1==w.2.2.1 with
    |false =>
     rw[show cX K n w=n by unfold cX;rw[H,decide_eq_false r,u,z,I];rfl];rw[show (w.2.2.2.2.2.1 != w.2.2.1)=true by unfold bne;rw[I];rfl];rfl
    |true =>
     have O:jR n w=true:=by rw[H,decide_eq_false r,u,z,I];rfl
     rw[show (w.2.2.2.2.2.1 != w.2.2.1)=false by unfold bne;rw[I];rfl];have Y:=(nd h.x r).2.2.2;have hn:=h.now1;have R:=rQ h.x hw O;simp only[cond_false];rw[show wr .i64 (wr .i64 (wr .i64 (n.2.2.2.2.2.1-n.2.2.2.2.2.2.2.2.2.2.1.2.1)*1000)+500)=(cg n-(aa.probe n).2.1)*1000+500 by
      obtain⟨p1,p2⟩:=Y;show wr .i64 (wr .i64 (wr .i64 (cg n-(aa.probe n).2.1)*1000)+500)=_;rw[aC (n:=cg n-_) (by omega) (by omega),aC (n:=_*1000) (by omega) (by omega),aC (by omega) (by omega)]]
     rw[di];simp only[FJ];refine bT' (BQ K (aa.places n) w.2.2.1 (aj.coord w) (gy n) n.1 h.x.places J) ?_;simp only[FJ];rw[show cX K n w=oc n ((gI n w).foldl (nc K w) (aa.coord n)) (gI n w) by unfold cX;rw[O];rfl];show Q176.l0 K (n,w,()) (0,(aa.coord n).1,(aa.coord n).2.1,(aa.coord n).2.2.1,(aa.coord n).2.2.2,gI n w)=_;have hl:=plen R;refine lw (step:=Q176.s0 K (n,w,())) (gI n w) (nc K w) bX (λc i=>((i:Int),c.1,c.2.1,c.2.2.1,c.2.2.2,gI n w)) (λc=>some ((oc n c (gI n w),()),())) (aa.coord n) h.x.coord ?_ ?_ (by omega)
     ·intro rec c i X M;refine⟨?_,wt M J⟩;simp only[Q176.s0,zc00556,zcp8];rw[bt (by omega:(i:Int)<(FK (gI n w):Int)),FO,af X,ar i (by omega)];simp only[cond_true,FJ];have Z:=(R.1 _ (FT X)).2.2.2.2.1.2;generalize (gI n w)[i]=y at *;unfold nc;cases y.1==w.2.2.1 with
      |false=>rfl
      |true =>
       simp only[cond_true];refine bT' (Bc K y.2.2 (by omega) J) ?_;refine (congrArg (λo=>FL o _) (uA K c (aj.coord w) (lA K y.2.2) w.2.2.2.2.1 M J).1).trans ?_;rfl
     ·intro rec c M;simp only[Q176.s0,zc00556,zcp8,aS,cond_false];rfl
theorem CH {K:Nat}{n:aa}{w:aj}(h:UpN n)(z:bX (aj.coord w))(r:Kb K):UpN (cX K n w)/\(cX K n w).1=n.1/\(cX K n w).2.2.1=n.2.2.1:=by
 unfold cX;cases u:jR n w with
 |false=>exact⟨h,rfl,rfl⟩
 |true=>exact⟨h.heard (mW (Inv:=bX) h.x.coord λc p _ y=>wt y r) (rQ h.x z u),rfl,rfl⟩
def ge (n:aa)(w:aj):Prop:=n.2.1=true/\n.2.2.1=false/\w.2.2.2.1=n.1/\w.2.2.1≠n.1 /\
 (if w.1=2 then w.2.1=6/\ak w.2.2.1≠ak n.1/\(cn (aj.table w) (ak n.1)\/cn (aj.table w) (ak w.2.2.1)) else ak w.2.2.1=ak n.1/\(w.2.1≠6\/¬ cn (aj.table w) (ak n.1)))
theorem rR (n:aa)(w:aj)(J:(aj.table w).length<=1048576)(I:Kb K):Ret (Q146.f K (n,w,())) (ge n w):=by
 refine (Ret.cndN (P:=¬ n.2.1=true) (b:=!n.2.1) (by simp) λ_=>Ret.cndN (P:=n.2.2.1=true) (b:=n.2.2.1) Gz λ_=>Ret.cndN (P:=w.2.2.2.1≠n.1) (b:=w.2.2.2.1 != n.1) (by simp) λ_=>Ret.cndN (P:=w.2.2.1=n.1) (b:=w.2.2.1==n.1) (by simp) λ_ =>
  (?_:Ret _ (if w.1=2 then w.2.1=6/\ak w.2.2.1≠ak n.1/\(cn (aj.table w) (ak n.1)\/cn (aj.table w) (ak w.2.2.1)) else ak w.2.2.1=ak n.1/\(w.2.1≠6\/¬ cn (aj.table w) (ak n.1))))).iff ?_
 ·refine Ret.vl (de K n.1) ?_;obtain⟨z,H,y⟩:=eo K (aj.table w) (ak n.1) J I;obtain⟨M,O,R⟩:=eo K (aj.table w) (ak w.2.2.1) J I;by_cases u:w.1=2
  ·rw[show (w.1==2)=true by simpa using u,if_pos u];refine Ret.cnd (P:=w.2.1=6) (b:=w.2.1==6) (by simp) λ_=>?_
   refine Ret.cnd (P:=ak w.2.2.1≠ak n.1) (b:=ak w.2.2.1 != ak n.1) (by simp) λ_=>Ret.vl H ?_
   cases z with
   |true=>exact Ret.yes (.inl (y.1 rfl))
   |false =>
    refine Ret.vl O ?_;exact Ret.of (b:=M) (R.trans ⟨.inr,λh=>h.resolve_left λh=>by have:=y.2 h;cases this⟩)
  ·rw[show (w.1==2)=false by simpa using u,if_neg u];refine Ret.cnd (P:=ak w.2.2.1=ak n.1) (b:=ak w.2.2.1==ak n.1) (by simp) λ_=>?_
   by_cases r:w.2.1=6
   ·show Ret (bif w.2.1 != 6 then _ else _) _;rw[show (w.2.1 != 6)=false by simpa using r];refine Ret.vl H (Ret.of (b:=!z) ?_);rw[Ga,<- Gr,y];exact⟨.inr,λh=>h.resolve_left λh=>h r⟩
   ·show Ret (bif w.2.1 != 6 then _ else _) _;rw[show (w.2.1 != 6)=true by simpa using r];exact Ret.yes (.inl r)
 ·unfold ge;rw[GZ,Gr,GZ]
def qT (u:Int)(n:aa)(to y r:Int)(t:List ah):aj:=(1,u,n.1,to,y,r,aa.coord n,t)
theorem qU (n:aa)(u to y r:Int)(t:List ah)(z:t.length<=1048576):Q147.f K (n,u,to,y,r,t,())=some ((qT u n to y r t,()),()):=by
 simp only[Q147.f];rw[szb _ _ _ (by omega) (by show (FK ([]:List ah))+t.length<=_;simp;omega)];rfl
def ne (t:List ah)(s:Int):Bool:=t.all λf=>ak f.1==s
theorem lB {t:List ah}{s:Int}:ne t s=true<->cn t s:=by simp[ne,cn]
def cz (t:List ah):ah:=(t.head?).getD (0,0,0,false)
def bN (n:aa)(w:aj):List ah:=putAll (fg (aa.others n) (ak (cz (aj.table w)).1)) (aj.table w)
def xt (n:aa)(w:aj):aj:=(2,6,n.1,w.2.2.1,0,n.1,aa.coord n,bN n w)
def DE (n:aa)(w:aj):aa:=oa n (bD (λx:ch=>x.1) (ak (cz (aj.table w)).1,bN n w) (aa.others n))
def fw (n:aa)(w:aj):aa×List aj:=bif ne (aj.table w) (ak n.1) then (gB n (aj.table w) n.1,[]) else
 (DE n w,bif w.1==2&&decide (aj.table w≠bN n w) then [xt n w] else [])
theorem qW:∀ {fs t:List ah} {g:ah},g∈putAll t fs->g∈t\/g∈fs
 |[],_,_,h=>.inl h
 |f::fs,t,g,h=>by
  rcases qW (fs:=fs) h with h|h
  ·have h:g∈(bZ t f).1:=h;rcases iF t f with e|e
   ·rw[e]at h;exact .inl h
   ·rw[e]at h;rcases bd.1 h with rfl|⟨h,_⟩
    ·exact .inr (by simp)
    ·exact .inl h
  ·exact .inr (by simp[h])
theorem qX:∀ {fs t:List ah} {g:ah},g∈t->∃ y∈putAll t fs,y.1=g.1
 |[],_,g,h=>⟨g,h,rfl⟩
 |f::fs,t,g,h=>by
  obtain⟨J,H,r⟩:=nV (f:=f) h;obtain⟨z,I,u⟩:=qX (fs:=fs) H;exact⟨z,I,u.trans r⟩
theorem vM {t:List ah}(H:Asc (λg:ah=>g.1) t)(f:ah):∃ g∈(bZ t f).1,g.1=f.1:=by
 by_cases h:∃ g∈t,g.1=f.1
 ·obtain⟨g,r,e⟩:=h;obtain⟨u,y,z⟩:=nV (f:=f) r;exact⟨u,y,z.trans e⟩
 ·rw[iU λg r e=>h ⟨g,r,e⟩];exact⟨f,bd.2 (.inl rfl),rfl⟩
theorem lC {n:aa}{w:aj}(h:dn n.1 (aa.others n))(M:aE (aj.table w))(u:mS (aj.table w)):aE (bN n w)/\bN n w≠[]/\cn (bN n w) (ak (cz (aj.table w)).1):=by
 have z:=qd h (ak (cz (aj.table w)).1);refine⟨su z M.1,?_,?_⟩
 ·unfold bN;cases y:aj.table w with
  |nil=>rw[y]at u;exact u.elim
  |cons f l =>
   obtain⟨g,I,_⟩:=vM (f:=f) (t:=fg (aa.others n) (ak (cz (f::l)).1)) (by rw[y]at z;exact z.2);obtain⟨R,J,_⟩:=qX (fs:=l) I;exact List.ne_nil_of_mem J
 ·intro g r;rcases qW r with r|r
  ·rcases sn (l:=aa.others n) (s:=ak (cz (aj.table w)).1) with e|⟨x,O,H,e⟩
   ·rw[e]at r;cases r
   ·rw[e]at r;rw[<- H];exact (h.1 x O).2.2.2.2 g r
  ·cases y:aj.table w with
   |nil=>rw[y]at u;exact u.elim
   |cons f l =>
    rw[y]at u r;exact u g r
theorem wu {x:Int}(h:InP x 0 7):InP (ak x) 0 1:=by
 rw[jO h];obtain⟨r,u⟩:=h;constructor <;> omega
theorem uB {t:List ah}(r:mS t)(u:aE t):InP (cz t).1 0 7:=by
 cases t with
 |nil=>exact r.elim
 |cons f l=>exact (u.1 f (by simp)).1
theorem yV (n:aa)(w:aj)(h:UpN n)(r:aE (aj.table w))(z:mS (aj.table w))(u:Kb K):Q159.f K (n,w,())=some (((fw n w).1,(fw n w).2,()),()):=by
 simp only[Q159.f];rw[de K n.1];simp only[FJ];obtain⟨H,J,M⟩:=eo K (aj.table w) (ak n.1) (cf r) u;have O:ne (aj.table w) (ak n.1)=H:=by rw[F5,lB,M]
 unfold fw;rw[O];refine bT' J ?_;simp only[rb,FJ];cases H with
 |true =>
  simp only[cond_true];refine bT' (wm K n (aj.table w) n.1 h.learns r.1 (cf r) h.x.me u) rfl
 |false =>
  simp only[cond_false];obtain⟨I,X,Y⟩:=lC (n:=n) h.x.others r z;have y:idx (aj.table w) 0=some (cz (aj.table w)):=by
   cases R:aj.table w with
   |nil=>rw[R]at z;exact z.elim
   |cons f l=>rfl
  refine bT' y ?_;simp only[FJ];rw[de K];simp only[FJ];refine bT' (yU K n (ak (cz (aj.table w)).1) (aj.table w) h.x.others r u) ?_;simp only[FJ];refine bT' (sum_s K n (ak (cz (aj.table w)).1) (bN n w) h.x.others u) ?_;simp only[FJ];cases w.1==2 with
  |false=>rfl
  |true =>
   simp only[cond_true,GV];refine bT' (At K (aj.table w) (bN n w) (cf r) u) ?_;simp only[rb,FJ];cases decide (aj.table w≠bN n w) with
   |false=>rfl
   |true =>
    simp only[cond_true];refine bT' (qU K (DE n w) 6 w.2.2.1 0 n.1 (bN n w) (cf I)) rfl
theorem xu {n:aa}{w:aj}(h:UpN n)(z:n.2.2.1=false)(y:aE (aj.table w))(r:mS (aj.table w)):UpN (fw n w).1/\(fw n w).1.1=n.1/\(fw n w).1.2.2.1=false:=by
 unfold fw;cases u:ne (aj.table w) (ak n.1) with
 |true=>exact jP h z y (lB.1 u) (fX.me h.x.me)
 |false =>
  obtain⟨I,J,M⟩:=lC (n:=n) h.x.others y r;refine⟨h.setOthers (xn h.x.others (wu (uB r y)) (λe=>?_) J I M),rfl,z⟩;have:cn (aj.table w) (ak n.1):=by
   cases H:aj.table w with
   |nil=>rw[H]at r;exact r.elim
   |cons f l=>rw[H]at r e;rw[<- e];exact r
  rw[lB.2 this]at u;cases u
noncomputable def er (n:aa)(w:aj):aa×List aj :=
 bif w.2.1==1 then (bif ak w.2.2.2.2.2.1 != ak n.1 then (n,[]) else bif w.2.2.2.2.2.1==n.1 then (n,[]) else (jz n,[qT 2 (jz n) w.2.2.2.2.2.1 w.2.2.2.2.1 n.1 (iH n w.2.2.2.2.2.1)]))
 else bif w.2.1==3 then (bif ak w.2.2.2.2.2.1 != ak n.1 then (n,[]) else bif w.2.2.2.2.2.1==n.1 then (n,[]) else bif w.2.2.2.2.2.1==w.2.2.1 then (n,[]) else (jz n,[qT 1 (jz n) w.2.2.2.2.2.1 w.2.2.2.2.1 w.2.2.1 (iH n w.2.2.2.2.2.1)]))
 else bif w.2.1==4 then (n,[qT 5 n w.2.2.1 0 n.1 (aa.table n)]) else bif w.2.1==2 then (cX K n w,[]) else (n,[])
theorem Au (n:aa)(w:aj)(h:UpN n)(z:bX (aj.coord w))(r:Kb K):Q177.f K (n,w,())=some (((er K n w).1,(er K n w).2,()),()):=by
 simp only[Q177.f];rw[de K n.1];simp only[FJ];have u:=wo K n w.2.2.2.2.2.1 h.x.say r;have y:=cf (o6 h.x.say w.2.2.2.2.2.1);unfold er;cases w.2.1==1 with
 |true =>
  simp only[cond_true];rw[de K];simp only[FJ];cases ak w.2.2.2.2.2.1 != ak n.1 with
  |true=>rfl
  |false =>
   simp only[cond_false];cases w.2.2.2.2.2.1==n.1 with
   |true=>rfl
   |false =>
    simp only[cond_false];refine bT' u ?_;simp only[FJ];refine bT' (qU K (jz n) 2 w.2.2.2.2.2.1 w.2.2.2.2.1 n.1 _ y) rfl
 |false =>
  simp only[cond_false];cases w.2.1==3 with
  |true =>
   simp only[cond_true];rw[de K];simp only[FJ];cases ak w.2.2.2.2.2.1 != ak n.1 with
   |true=>rfl
   |false =>
    simp only[cond_false];cases w.2.2.2.2.2.1==n.1 with
    |true=>rfl
    |false =>
     simp only[cond_false];cases w.2.2.2.2.2.1==w.2.2.1 with
     |true=>rfl
     |false =>
      simp only[cond_false];refine bT' u ?_;simp only[FJ];refine bT' (qU K (jz n) 1 w.2.2.2.2.2.1 w.2.2.2.2.1 w.2.2.1 _ y) rfl
  |false =>
   simp only[cond_false];cases w.2.1==4 with
   |true=>exact bT' (qU K n 5 w.2.2.1 0 n.1 (aa.table n) (cf h.x.table)) rfl
   |false =>
    simp only[cond_false];cases w.2.1==2 with
    |true=>exact bT' (ack_s K n w h z r) rfl
    |false=>rfl
theorem yW {K:Nat}{n:aa}{w:aj}(h:UpN n)(u:bX (aj.coord w))(r:Kb K):UpN (er K n w).1/\(er K n w).1.1=n.1/\(er K n w).1.2.2.1=n.2.2.1:=by
 unfold er;cases w.2.1==1 <;> cases w.2.1==3 <;> cases w.2.1==4 <;> cases w.2.1==2 <;> cases ak w.2.2.2.2.2.1 != ak n.1 <;> cases w.2.2.2.2.2.1==n.1 <;> cases w.2.2.2.2.2.1==w.2.2.1 <;> first|exact⟨h,rfl,rfl⟩|exact⟨h.way,rfl,rfl⟩|exact CH h u r
open Classical in
noncomputable def bO (n:aa)(w:aj):aa×List aj :=
 if dz w/\ge n w then (if w.2.1=6 then fw n w else er K (gB n (aj.table w) w.2.2.1) w) else (n,[])
theorem jC {n:aa}{w:aj}(H:dz w)(h:ge n w)(u:w.2.1≠6):cn (aj.table w) (ak n.1)/\fX n w.2.2.1:=by
 obtain⟨_,_,w3,_,_,_,_,_,z⟩:=H;rw[if_neg u]at z;obtain⟨_,_,_,_,r⟩:=h;by_cases y:w.1=2
 ·rw[if_pos y]at r;exact absurd r.1 u
 ·rw[if_neg y]at r;exact⟨r.1 ▸ z,w3,r.1⟩
theorem yX (n:aa)(w:aj)(h:n.2.1=true->UpN n)(J:(aj.table w).length<=1048576)(y:Kb K):Q178.f K (n,w,())=some (((bO K n w).1,(bO K n w).2,()),()):=by
 simp only[Q178.f];obtain⟨Y,e1,M⟩:=mT K w J y;obtain⟨Z,e2,O⟩:=rR K n w J y;rw[e1];cases Y with
 |false =>
  unfold bO;rw[if_neg λh=>by have:=M.2 h.1;cases this];rfl
 |true =>
  have z:=M.1 rfl;simp only[rb,FJ,FR,cond_false];refine bT' e2 ?_;cases Z with
  |false =>
   unfold bO;rw[if_neg λh=>by have:=O.2 h.2;cases this];rfl
  |true =>
   have H:=O.1 rfl;have I:=h H.1;simp only[rb,FJ,FR,cond_false];unfold bO;rw[if_pos ⟨z,H⟩];have r:=z.2.2.2.2.2.2.2.1;by_cases u:w.2.1=6
   ·rw[if_pos u,show (w.2.1==6)=true by simpa using u];have X:=z.2.2.2.2.2.2.2.2;rw[if_pos u]at X;exact bT' (yV K n w I r X y) rfl
   ·rw[if_neg u,show (w.2.1==6)=false by simpa using u];obtain⟨hs,R⟩:=jC z H u;have hl:=(jP I H.2.1 r hs R).1;refine bT' (wm K n (aj.table w) w.2.2.1 I.learns r.1 J R.1 y) ?_;exact (congrArg (λo=>FL o _) (Au K _ w hl z.2.2.2.2.2.2.1 y)).trans rfl
theorem rS {K:Nat}{n:aa}{w:aj}(h:UpN n)(M:Kb K):UpN (bO K n w).1/\(bO K n w).1.1=n.1/\(bO K n w).1.2.2.1=n.2.2.1:=by
 unfold bO;split
 ·rename_i R;obtain⟨y,r⟩:=R;have u:=y.2.2.2.2.2.2.2.1;split
  ·rename_i H;have J:=y.2.2.2.2.2.2.2.2;rw[if_pos H]at J;rw[r.2.1];exact xu h r.2.1 u J
  ·rename_i H;obtain⟨X,O⟩:=jC y r H;have I:=jP h r.2.1 u X O;have z:=yW (w:=w) I.1 y.2.2.2.2.2.2.1 M;exact⟨z.1,z.2.1.trans I.2.1,z.2.2.trans (I.2.2.trans r.2.1.symm)⟩
 ·exact⟨h,rfl,rfl⟩
theorem nf {K:Nat}{n:aa}{w:aj}(h:UpN n)(hK:Kb K):(bO K n w).2.length<=1/\∀ x∈(bO K n w).2,InP x.2.2.2.1 0 7/\(aj.table x).length<=1048576:=by
 unfold bO;split
 ·rename_i X;obtain⟨u,I⟩:=X;have y:=u.2.2.2.2.2.2.2.1;split
  ·rename_i z;have J:=u.2.2.2.2.2.2.2.2;rw[if_pos z]at J;obtain⟨O,a2,a3⟩:=lC (n:=n) h.x.others y J;unfold fw;cases ne (aj.table w) (ak n.1) with
   |true=>exact⟨by simp,by simp⟩
   |false =>
    simp only[cond_false];cases w.1==2&&decide (aj.table w≠bN n w) with
    |false=>exact⟨by simp,by simp⟩
    |true=>exact⟨by simp,λx r=>by rw[FP.1 r];exact⟨u.2.2.1,cf O⟩⟩
  ·rename_i z;obtain⟨Y,R⟩:=jC u I z;have M:=jP h I.2.1 y Y R;have Z:=cf (o6 M.1.x.say w.2.2.2.2.2.1);have H:=cf M.1.x.table;have w3:=u.2.2.1;have w6:=u.2.2.2.2.2.1;generalize gB n (aj.table w) w.2.2.1=m at *;unfold er;cases w.2.1==1 <;> cases w.2.1==3 <;> cases w.2.1==4 <;> cases w.2.1==2 <;> cases ak w.2.2.2.2.2.1 != ak m.1 <;> cases w.2.2.2.2.2.1==m.1 <;> cases w.2.2.2.2.2.1==w.2.2.1 <;>
    first|exact⟨F8 _,λx r=>by rw[FP.1 r];exact⟨w6,Z⟩⟩|exact⟨F8 _,λx r=>by rw[FP.1 r];exact⟨w3,H⟩⟩|exact⟨F7 _,λx r=>nomatch r⟩
 ·exact⟨by simp,by simp⟩
structure lR (n m:aa):Prop where
 ok:cH m
 me:m.1=n.1
 now_:m.2.2.2.2.2.1=n.2.2.2.2.2.1
 seq:m.2.2.2.2.2.2.1=n.2.2.2.2.2.2.1
 turn:m.2.2.2.2.2.2.2.1=n.2.2.2.2.2.2.2.1
 rest:m.2.2.2.2.2.2.2.2.2.2.2.2=n.2.2.2.2.2.2.2.2.2.2.2.2
 by_:∀ d∈aa.doubts m,d.2.2.2.length<=1048576
theorem lR.say {n m:aa}(h:lR n m){f:ah}(b:Int)(I:bw f):lR n (sayOf m f b):=by
 obtain⟨u,_,_,_,_,y,z,H,_,r⟩:=jy m f b;exact⟨iV h.ok I,u.trans h.me,y.trans h.now_,z.trans h.seq,H.trans h.turn,r.trans h.rest,Ab h.by_⟩
theorem lR.setP {n m:aa}(h:lR n m)(p:ah):lR n (setP m p):=⟨h.ok.setP p,h.me,h.now_,h.seq,h.turn,h.rest,h.by_⟩
theorem lR.nb {n m:aa}(h:lR n m)(u:NB n):NB m:=by
 have z:aa.places m=aa.places n:=congrArg (λr=>r.2.1) h.rest;have y:aa.others m=aa.others n:=congrArg (λr=>r.2.2) h.rest;exact⟨h.ok.lt,h.ok.lc,h.ok.ld,h.by_,by rw[z];exact u.places,by rw[z];exact u.trips,by rw[y];exact u.others,by rw[y];exact u.facts⟩
theorem lR.far {n m:aa}(h:lR n m)(u:o7 n):o7 m:=by
 have y:aa.others m=aa.others n:=congrArg (λr=>r.2.2) h.rest;exact⟨by rw[y];exact u.short,by rw[y];exact u.table⟩
theorem vN {n:aa}(h:∀ k,k<8->¬ iK n k):jA n=none:=by
 unfold jA;rw[List.find?_eq_none];intro x u;obtain⟨k,r,rfl⟩:=GB.1 u;have:=h k (by simpa using r);unfold iK at this;simpa using this
theorem vO {n:aa}{k:Nat}(y:k<8)(r:iK n k)(h:∀ j,j<k->¬ iK n j):jA n=some (cQ n k):=by
 unfold jA;rw[List.find?_map,List.find?_range_eq_some.2 ⟨?_,by simpa using y,λj u=>?_⟩]
 ·rfl
 ·unfold iK at r;simpa using r
 ·have:=h j u;unfold iK at this;simpa[Classical.or_iff_not_imp_left]using this
theorem wv (n:aa)(h:cH n)(X:uu n)(J:Kb K):Q213.f K (n,())=some (((d9 n).1,(d9 n).2,()),()):=by
 obtain⟨⟨Y,Z⟩,⟨t0,t1⟩⟩:=X;obtain⟨to,M,H⟩:=BI K n h t0 t1 J;simp only[Q213.f,zcp4];rw[M];simp only[FJ,d9];by_cases r:kt n>=999999
 ·rw[decide_eq_true r,show decide (n.2.2.2.2.2.2.1>=999999)=true from decide_eq_true r];cases decide (to<0) <;> rfl
 ·rw[decide_eq_false r,show decide (n.2.2.2.2.2.2.1>=999999)=false from decide_eq_false r];simp only[cond_false];rcases H with ⟨rfl,z⟩|⟨k,O,u,y,rfl⟩
  ·rw[vN z];rfl
  ·rw[vO O u y];have R:0<=cQ n k/\cQ n k<8:=⟨Gu _ (by omega),Gj _ (by omega)⟩;rw[decide_eq_false (by omega:¬ cQ n k<0)];simp only[cond_false];rw[wo K n _ h J];simp only[FJ];have I:wr .i64 (kt n+1)=kt n+1:=aC (by omega) (by omega);rw[show wr .i64 ((jz n).2.2.2.2.2.2.1+1)=n.2.2.2.2.2.2.1+1 from I,aC (n:=cQ n k+1) (by omega) (by omega)];simp only[Q147.f];rw[szb _ _ _ (by omega) (by have:=cf (o6 h (cQ n k));simp;omega)];rfl
def iL (w:aj):Prop:=InP w.2.2.2.1 0 7/\(aj.table w).length<=1048576
theorem uC {n:aa}(y:aE (aa.table n)):(dA n).2.length<=2/\∀ w∈(dA n).2,iL w:=by
 have r:([]:List aj).length<=2/\∀ w∈([]:List aj),iL w:=⟨by simp,by simp⟩;unfold dA;cases (aa.probe n).1==-1 with
 |true=>exact r
 |false =>
  cases !eZ (aT (aa.table n) (aa.probe n).1) with
  |true=>exact r
  |false =>
   cases decide (n.2.2.2.2.2.1-(aa.probe n).2.1>=4) with
   |true=>exact r
   |false =>
    cases decide (n.2.2.2.2.2.1-(aa.probe n).2.1>=2) with
    |false=>exact r
    |true =>
     cases !(aa.probe n).2.2.2 with
     |false=>exact r
     |true =>
      simp only[cond_true,cond_false];refine⟨by rw[Gd];exact List.length_take_le _ _,λw H=>?_⟩;obtain⟨to,u,rfl⟩:=GB.1 H;obtain⟨f,z,rfl⟩:=GB.1 (GM u);exact⟨(y.1 f (GN.1 z).1).1,F7 _⟩
theorem Bd {n:aa}(h:cH n):(d9 n).2.length<=1/\∀ w∈(d9 n).2,iL w:=by
 have r:([]:List aj).length<=1/\∀ w∈([]:List aj),iL w:=⟨by simp,by simp⟩;unfold d9;cases decide (kt n>=999999) with
 |true=>exact r
 |false =>
  simp only[cond_false];cases H:jA n with
  |none=>exact r
  |some to =>
   refine⟨by simp,λw z=>?_⟩;rw[FP.1 z];obtain⟨u,y,I⟩:=eP h.table (iG (sA H).2);exact⟨y ▸ u.1,cf (o6 h to)⟩
theorem CI {n:aa}(z:dn n.1 (aa.others n)){s d:Int}(I:InP s 0 1):InP (m7 n s d) 0 7:=by
 unfold m7;cases y:decide (gr (fg (aa.others n) s)≠[])&&bz .i64 d 4==0 with
 |true =>
  rw[GG,decide_eq_true_eq]at y;have:=(iY (d:=Gc d (2 ^ 3)) y.1).2.2;unfold gr at this;obtain⟨f,H,e⟩:=GB.1 (GM this);simp only[cond_true];show InP (iu (gr (fg (aa.others n) s)) (Gc d (2 ^ 3))) 0 7;unfold gr;rw[<- e];exact ((qd z s).1 f (GN.1 H).1).1
 |false =>
  obtain⟨r,u⟩:=mt (a:=Gc d (2 ^ 3)) (m:=3) (by omega);have r:0<=bz .i64 (Gc d (2 ^ 3)) 3:=r;have u:bz .i64 (Gc d (2 ^ 3)) 3<=3:=u;obtain⟨J,M⟩:=I;simp only[cond_false];exact⟨by omega,by omega⟩
theorem ww {n:aa}(I:aE (aa.table n))(J:dn n.1 (aa.others n))(r:Int):(kR n r).length<=2/\∀ w∈kR n r,iL w:=by
 have u:([]:List aj).length<=2/\∀ w∈([]:List aj),iL w:=⟨by simp,by simp⟩;unfold kR;cases bz .i64 r 3==1 with
 |true =>
  simp only[cond_true,m8];cases mu n with
  |false=>exact u
  |true =>
   refine⟨?_,λw H=>?_⟩
   ·show ((([0,1]:List Int).filter (λs=>s != ak n.1)).map _).length<=2;rw[Gd];exact Ge _ _
   ·obtain⟨s,R,rfl⟩:=GB.1 H;refine⟨CI J ?_,cf I⟩;have:=(GN.1 R).1;simp at this;rcases this with rfl|rfl <;> exact⟨by decide,by decide⟩
 |false =>
  simp only[cond_false];by_cases y:fW n=[]
  ·rw[decide_eq_true y,Bool.or_true];exact u
  ·rw[decide_eq_false y,Bool.or_false];obtain⟨f,M,e⟩:=GB.1 (iY (d:=Gc r (2 ^ 2)) y).2.2;have z:InP (iu (fW n) (Gc r (2 ^ 2))) 0 7:=by
    rw[<- e];exact (I.1 f (GN.1 M).1).1
   cases bz .i64 r 3==3 with
   |true=>exact u
   |false =>
    simp only[cond_false];cases bz .i64 r 3==0 with
    |true=>exact⟨by simp,λw H=>by rw[FP.1 H];exact⟨z,cf I⟩⟩
    |false =>
     simp only[cond_false,ut]
     match O:aa.others n with
     |[]=>exact u
     |x::_=>exact⟨by simp,λw H=>by rw[FP.1 H];exact⟨z,cf (J.1 x (by rw[O];simp)).2.2.2.1⟩⟩
theorem UpX.far {n:aa}(h:UpX n):o7 n:=⟨by rcases uq h.me h.others with e|⟨x,e⟩ <;> rw[e] <;> simp,λx r=>⟨(h.others.1 x r).2.2.2.1,cf (h.others.1 x r).2.2.2.1⟩⟩
theorem sG {n:aa}(h:UpX n)(I:cg n<=1000000):((aa.probe n).1=-1\/0<=(aa.probe n).1)/\0<=(aa.probe n).2.1/\(aa.probe n).2.1<=1000000:=by
 have r:=h.probe;have y:cg n=n.2.2.2.2.2.1:=rfl;unfold dm at r;split at r
 ·rename_i H;rw[r];exact⟨.inl rfl,by show (0:Int)<=0;omega,by show (0:Int)<=1000000;omega⟩
 ·obtain⟨_,⟨f,u,e⟩,⟨z,J⟩,_⟩:=r;have:=(h.table.1 f u).1.1;exact⟨.inr (e ▸ this),z,by omega⟩
theorem CJ {n:aa}(h:UpN n)(H:cg n<999999)(r:Int):(qP n r).length<=5/\∀ w∈qP n r,iL w:=by
 have O:=(nZ h.x.later (show dt (eE n) from h.self)).1.table;obtain⟨y,J⟩:=uC O;obtain⟨M,_,_⟩:=qQ h H;have z:=(rN h H).1;obtain⟨X,I⟩:=ww z.x.table z.x.others r;have R:(fY (fZ n).1).2.length<=1/\∀ w∈(fY (fZ n).1).2,iL w:=by
  unfold fY;cases (aa.probe (fZ n).1).1==-1 with
  |true=>exact Bd M.x.say
  |false=>exact⟨by simp,by simp⟩
 unfold qP;have y:(fZ n).2.length<=2:=y;refine⟨by rw[FS,FS];omega,λw u=>?_⟩;rcases FQ.1 u with u|u
 ·rcases FQ.1 u with u|u
  ·exact J w u
  ·exact R.2 w u
 ·exact I w u
theorem CK (n:aa)(H:Int)(h:UpN n)(hg:n.2.2.1=false)(hm:cg n<999999)(X:Kb K):Q220.f K (n,H,())=some ((ly n,qP n H,()),()):=by
 have a3:=h.x.now0;simp only[Q220.f,zcp4];refine (congrArg (λb=>bif !b then _ else _) h.up).trans ?_;refine (congrArg (λb=>bif b then _ else _) hg).trans ?_;refine (congrArg (λb=>bif b then _ else _) (decide_eq_false (show ¬ n.2.2.2.2.2.1>=999999 by have:cg n=n.2.2.2.2.2.1:=rfl;omega))).trans ?_;simp only[cond_false];rw[show wr .i64 (n.2.2.2.2.2.1+1)=n.2.2.2.2.2.1+1 from aC (by have:cg n=n.2.2.2.2.2.1:=rfl;omega) (by have:cg n=n.2.2.2.2.2.1:=rfl;omega)];have hl:UpX (eE n):=h.x.later;have a1:∀ d∈aa.doubts (eE n),0<=d.2.2.1/\d.2.2.1<=(eE n).2.2.2.2.2.1/\d.2.2.2.length<=1048576:=λd hd=>by
  obtain⟨_,⟨s0,s1⟩,_,h4⟩:=hl.doubts.1 d hd;exact⟨s0,s1,F1 (jx (k:=λx=>x) h4.2 λx hx=>(h4.1 x hx).1) (by decide)⟩
 have Y:∀ d∈aa.doubts (eE n),∃ f∈aa.table (eE n),f.1=d.1:=λd hd=>by
  obtain⟨⟨f,hf,e,_⟩,_⟩:=hl.doubts.1 d hd;exact⟨f,hf,e⟩
 have Z:(eE n).2.2.2.2.2.1<=1000000:=by show cg n+1<=1000000;omega
 refine bT' (Ct K (eE n) ⟨hl.say,Y,rfl⟩ a1 Z X) ?_;simp only[FJ];obtain⟨b1,b2,t,c,ds,eb⟩:=nZ hl (show dt (eE n) from h.self);have z:uu (fZ n).1:=(qQ h hm).1.seq;have a2:cg (la (eE n))=cg n+1:=by rw[eb];rfl
 have hp:=sG b1 (by omega);obtain⟨a0,_⟩:=uC b1.table;have R:=(rN h hm).1;have r:=CC K (ly n) H R.x.far R.x.table (cf R.x.table) X;have u:=(qQ h hm).1;obtain⟨I,_⟩:=Bd u.x.say;obtain⟨y,_⟩:=ww R.x.table R.x.others H;unfold ly fY fZ at r R y;unfold fZ at z u I;unfold qP ly fY fZ;generalize la (eE n)=m at *;rcases hp.1 with J|J
 ·have e0:dA m=(m,[]):=by unfold dA;rw[show ((aa.probe m).1==-1)=true by simpa using J];rfl
  rw[e0]at r z u I y ⊢;refine Z2 (decide_eq_false (show ¬ m.2.2.2.2.2.2.2.2.2.2.1.1>=0 by have:(aa.probe m).1=m.2.2.2.2.2.2.2.2.2.2.1.1:=rfl;omega)) ?_;refine (congrArg (λb=>bif b then _ else _) (decide_eq_true (show m.2.2.2.2.2.2.2.2.2.2.1.1<0 by have:(aa.probe m).1=m.2.2.2.2.2.2.2.2.2.2.1.1:=rfl;omega))).trans ?_;refine (congrArg (λo=>FL o _) (wv K m u.x.say z X)).trans ?_;simp only[FJ];rw[show ((aa.probe m).1==-1)=true by simpa using J]at r y ⊢;simp only[cond_true]at r y I ⊢;rw[szw _ _ _ (by omega) (by simp;omega)];simp only[cond_true];refine bT' r ?_;simp only[FJ];rw[szw _ _ _ (by omega) (by simp;omega)];rfl
 ·refine Z2 (decide_eq_true (show m.2.2.2.2.2.2.2.2.2.2.1.1>=0 from J)) ?_;refine (congrArg (λo=>FL o _) (Cu K m b1.say (by omega) hp.2.1 hp.2.2 b1.now0 (by have:cg m=m.2.2.2.2.2.1:=rfl;omega) X)).trans ?_;simp only[FJ];generalize dA m=fo at *;obtain⟨O,ws⟩:=fo;simp only at r z u I y a0 ⊢;have M:=(sG u.x (by have:=u.now1;omega)).1;rcases M with M|M
  ·refine Z2 (decide_eq_true (show O.2.2.2.2.2.2.2.2.2.2.1.1<0 by have:(aa.probe O).1=O.2.2.2.2.2.2.2.2.2.2.1.1:=rfl;omega)) ?_;refine (congrArg (λo=>FL o _) (wv K O u.x.say z X)).trans ?_;simp only[FJ];rw[show ((aa.probe O).1==-1)=true by simpa using M]at r y ⊢;simp only[cond_true]at r y ⊢;rw[szw _ _ _ (by omega) (by omega)];simp only[cond_true];refine bT' r ?_;simp only[FJ];rw[szw _ _ _ (by omega) (by rw[FS];omega)];rfl
  ·refine Z2 (decide_eq_false (show ¬ O.2.2.2.2.2.2.2.2.2.2.1.1<0 by have:(aa.probe O).1=O.2.2.2.2.2.2.2.2.2.2.1.1:=rfl;omega)) ?_;rw[show ((aa.probe O).1==-1)=false by simp;omega]at r y ⊢;simp only[cond_false]at r y ⊢;refine bT' r ?_;simp only[FJ,GW];rw[szw _ _ _ (by omega) (by omega)];rfl
theorem uD (l:List ah)(f:ah)(M:l.length<=1048576)(J:Kb K):Ret (Q200.f K (l,f,())) (f∈l):=by
 have:=cG (step:=Q200.s0 K (l,f,())) l.length (λi=>(i:Int)) (λj=>∃ h:j<l.length,l[j]=f) (rb false) (λ_=>rb true) ?_ ?_ l.length K 0 (by omega) (by omega)
 ·rcases this with ⟨y,r⟩|⟨j,_,_,⟨z,H⟩,_,r⟩
  ·refine⟨false,r,?_⟩;refine⟨λh=>absurd h (by decide),λI=>?_⟩;obtain⟨i,u,e⟩:=F2 I;exact absurd ⟨u,e⟩ (y i (F7 _) u)
  ·exact⟨true,r,λ_=>H ▸ FT z,λ_=>rfl⟩
 ·intro rec i u;simp only[Q200.s0];rw[bt (by omega:(i:Int)<(FK l:Int)),af u,ar i (by omega)];simp only[cond_true,FJ];rw[iE];by_cases h:l[i]=f
  ·rw[decide_eq_true h];exact .inr ⟨⟨u,h⟩,rfl⟩
  ·rw[decide_eq_false h];exact .inl ⟨λ⟨_,r⟩=>h r,rfl⟩
 ·intro rec;simp only[Q200.s0,aS];rfl
theorem UpN.nb {n:aa}(h:UpN n):NB n where
 table:=cf h.x.table
 cast:=by have:=clen h.x.say;omega
 doubts:=h.x.say.ld
 by_:=λd r=>by have:=(h.learns.by_ d r).len;omega
 places:=plen h.x.places
 trips:=λp u=>by have:=(h.x.places.1 p u).2.2.2.2.1.2;omega
 others:=olen h.x.others
 facts:=λx y=>cf (h.x.others.1 x y).2.2.2.1
def ka (r:Int)(g:Bool):aa:=(r,false,false,g,0,0,0,0,[],[],(0,0,0,false),[],(0,0,0,0),[],[])
structure eN (i:Nat) (n:aa):Prop where
 me:n.1=(i:Int)
 lt:i<8
 up:n.2.1=true->UpN n
 down:n.2.1=false->n=ka n.1 n.2.2.2.1
theorem eN.nb {i:Nat}{n:aa}(h:eN i n):NB n:=by
 cases r:n.2.1 with
 |true=>exact (h.up r).nb
 |false =>
  rw[h.down r];exact⟨by simp[ka,aa.table],by simp[ka,aa.cast],by simp[ka,aa.doubts],by simp[ka,aa.doubts],by simp[ka,aa.places],by simp[ka,aa.places],by simp[ka,aa.others],by simp[ka,aa.others]⟩
theorem eN.short {i:Nat}{n:aa}(h:eN i n):(aa.table n).length<=4:=by
 cases r:n.2.1 with
 |true=>exact vK (h.up r).x.table (h.up r).x.site
 |false=>rw[h.down r];exact F7 _
theorem eN.of {i:Nat}{n m:aa}(h:eN i n)(r:UpN m)(e:m.1=n.1):eN i m:=⟨e.trans h.me,h.lt,λ_=>r,λu=>by rw[r.up]at u;cases u⟩
def gC (l:List mr):Prop:=l.length<=60/\∀ f∈l,InP f.1 0 7/\f.2.1.size<=2000
structure WI (w:bY) (c:Nat):Prop where
 len:w.1.length=8
 node:∀ (i:Nat) (h:i<w.1.length),eN i w.1[i]
 radio:gC w.2.1
 sides:w.2.2.1.length=8
 born:w.2.2.2.length<=c
theorem WI.mono {w:bY}{c d:Nat}(h:WI w c)(r:c<=d):WI w d:=⟨h.len,h.node,h.radio,h.sides,F1 h.born r⟩
theorem WI.put {w:bY}{c:Nat}(h:WI w c){i:Nat}{n:aa}(y:eN i n){rd:List mr}(z:gC rd){b:List ah}{d:Nat}(r:b.length<=d):WI (w.1.set i n,rd,w.2.2.1,b) d:=by
 refine⟨by rw[F6];exact h.len,λj u=>?_,z,h.sides,r⟩;show eN j ((w.1.set i n)[j]'u);rw[List.getElem_set];split
 ·rename_i e;exact e ▸ y
 ·exact h.node j _
theorem yY (w:bY)(J:Int)(u:List aj)(hs:w.2.2.1.length=8)(y:InP J 0 7)(R:∀ x∈u,iL x)(hr:gC w.2.1)(hl:u.length<=1000)(hK:Kb K) :
  Tot (Q197.f K (w,J,u,())) λr=>∃ rd,gC rd/\r.1.1=(w.1,rd,w.2.2):=by
 simp only[Q197.f,Q197.pre];obtain⟨f0,f1⟩:=y;refine Tot.iter (step:=Q197.s0 K (w,J,u,())) (λa=>0<=a.1/\a.1<=u.length/\gC a.2) (λa=>u.length-a.1.toNat) ?_ K _ (by show u.length-FN 0<K;omega) ⟨by show (0:Int)<=0;omega,by show (0:Int)<=_;omega,hr⟩;rintro rec ⟨i,rd⟩ ⟨I,h1,H⟩ ih;simp only at I h1 H ih ⊢;simp only[Q197.s0];refine Tot.cnd (λh=>?_) λ_=>Tot.ret ⟨rd,H,rfl⟩
 have h:=of_decide_eq_true h;rw[aC (n:=i+1) (by omega) (by omega)];have M:∀ z,gC z->Tot (rec (i+1,z)) λr=>∃ rd,gC rd/\r.1.1=(w.1,rd,w.2.2):=λz O=>ih _ ⟨by show 0<=i+1;omega,by show i+1<=_;omega,O⟩ (by show u.length-FN (i+1)<u.length-FN i;omega)
 refine Tot.cnd (λh3=>?_) λ_=>M rd H
 have h3:=of_decide_eq_true h3;refine Tot.ix f0 (by omega) λ_ _ _=>Tot.ix I h λy2 X _=>?_
 obtain⟨⟨t0,t1⟩,_⟩:=R y2 X;refine Tot.ix t0 (by omega) λ_ _ _=>Tot.cnd (λ_=>Tot.fit (Tot.ix I h λy4 Y _=>Tot.ix I h λy5 Z _=>Tot.bind (pz K y5 (R y5 Z).2 hK) λv hv=>Tot.fit (M _ ⟨?_,λf y=>?_⟩) (by omega) ?_) (by omega) ?_) λ_=>M rd H
 ·simp;omega
 ·rcases FQ.1 y with y|y
  ·exact H.2 f (by simpa using y)
  ·rw[FP.1 y];exact⟨(R y4 Y).1,by show v.1.1.size<=2000;have:=hv.1;omega⟩
 ·simp;omega
 ·simp;omega
theorem Tot.ins {α:Type}{l:List α}{x:α}{a:Int}{c:Nat}{Q:(List α×Unit)×Unit->Prop}(u:0<=a)(y:a<=l.length)(H:l.length<=1048576)(z:c<=64)(k:∀ r:List α,r.length=l.length+1->Q ((r,()),())) :
  Tot (bif decide ((0:Int)<=0)&&decide (0<=a)&&decide (a<=(FK l:Int))&&true then (bif decide ((FK ([]:List α)+FK ((l.take (FN a)).drop (FN 0)))*c<=am) then (bif decide ((FK ([]++((l.take (FN a)).drop (FN 0)))+FK ([x]))*c<=am) then (bif decide (0<=a)&&decide (a<=(FK l:Int))&&decide ((FK l:Int)<=(FK l:Int))&&true then (bif decide ((FK (([]++((l.take (FN a)).drop (FN 0)))++([x]))+FK ((l.take (FN (FK l:Int))).drop (FN a)))*c<=am) then (some (((([]++((l.take (FN a)).drop (FN 0)))++([x]))++((l.take (FN (FK l:Int))).drop (FN a)),()),())) else none) else none) else none) else none) else none) Q:=by
 obtain⟨m,rfl⟩:=GI u;refine Tot.must (by simp;omega) (Tot.fit (Tot.fit (Tot.must (by simp;omega) (Tot.fit (Tot.ret (k _ ?_)) (by omega) ?_)) (by omega) ?_) (by omega) ?_) <;>
 simp only[FO,GR,GF,FV,FS,FW,GJ,F0,GA] <;> omega
theorem Av (f g:ah):Tot (Q198.f K (f,g,())) λ_=>True:=by
 simp only[Q198.f];exact Tot.cnd (λ_=>Tot.ret trivial) λ_=>Tot.bind (tZ K g f).tot λ_ _=>Tot.ret trivial
theorem yZ (l:List ah)(f:ah)(I:l.length<=1048576)(O:Kb K):Tot (Q199.f K (l,f,())) λr=>r.1.1.length<=l.length+1:=by
 simp only[Q199.f,Q199.pre];refine Tot.iter (A:=Int) (step:=Q199.s0 K (l,f,())) (λa=>0<=a/\a<=l.length) (λa=>l.length-a.toNat) ?_ K _ (by show l.length-FN 0<K;omega) ⟨by show (0:Int)<=0;omega,by show (0:Int)<=_;omega⟩;rintro rec i ⟨H,z⟩ J;simp only[Q199.s0];have u:=λ (z:i<=l.length)=>Tot.ins (x:=f) (c:=32) (Q:=λr=>r.1.1.length<=l.length+1) H z I (by omega) λr R=>by show r.length<=_;omega
 have y:l.length<=l.length+1:=Gf _;refine Tot.cnd (λh=>?_) λ_=>Tot.cnd (λh=>Tot.ix H (of_decide_eq_true h) λ_ _ _=>Tot.cnd (λ_=>Tot.ret y) λ_=>u z) λ_=>u z
 have h:i<(l.length:Int):=of_decide_eq_true h;rw[aC (n:=i+1) (by omega) (by omega)];refine Tot.ix H h λM _ _=>Tot.bind (Av K M f) λ_ _=>Tot.cnd (λ_=>J (i+1) ⟨by show 0<=i+1;omega,by show i+1<=(l.length:Int);omega⟩ (by show l.length-FN (i+1)<l.length-FN i;omega)) λ_=>Tot.cnd (λ_=>Tot.ix H h λ_ _ _=>Tot.cnd (λ_=>Tot.ret y) λ_=>u z) λ_=>u z
theorem Be (w:bY)(z y u:List ah)(R:z.length<=1048576)(X:y.length<=1048576)(h3:u.length<=100)(hb:w.2.2.2.length<=1000000)(M:Kb K) :
  Tot (Q201.f K (w,z,y,u,())) λr=>∃ b,b.length<=w.2.2.2.length+u.length/\r.1.1=(w.1,w.2.1,w.2.2.1,b):=by
 simp only[Q201.f,Q201.pre];refine Tot.iter (step:=Q201.s0 K (w,z,y,u,())) (λa=>0<=a.1/\a.1<=u.length/\(a.2.length:Int)<=w.2.2.2.length+a.1) (λa=>u.length-a.1.toNat) ?_ K _ (by show u.length-FN 0<K;omega) ⟨by show (0:Int)<=0;omega,by show (0:Int)<=_;omega,by show (w.2.2.2.length:Int)<=w.2.2.2.length+0;omega⟩;rintro rec ⟨i,b⟩ ⟨I,i1,i2⟩ O;simp only at I i1 i2 O ⊢;simp only[Q201.s0];refine Tot.cnd (λh=>?_) λ_=>Tot.ret ⟨b,by omega,rfl⟩
 have h:=of_decide_eq_true h;rw[aC (n:=i+1) (by omega) (by omega)];have J:∀ H:List ah,H.length<=b.length+1->Tot (rec (i+1,H)) λr=>∃ b,b.length<=w.2.2.2.length+u.length/\r.1.1=(w.1,w.2.1,w.2.2.1,b):=λH Y=>O _ ⟨by show 0<=i+1;omega,by show i+1<=_;omega,by show (H.length:Int)<=_+(i+1);omega⟩ (by show u.length-FN (i+1)<u.length-FN i;omega)
 refine Tot.ix I h λy1 _ _=>Tot.bind (uD K z y1 R M).tot λ_ _=>Tot.cnd (λ_=>?_) λ_=>J b (Gf _)
 refine Tot.ix I h λy3 _ _=>Tot.bind (uD K y y3 X M).tot λ_ _=>Tot.cnd (λ_=>?_) λ_=>J b (Gf _)
 exact Tot.ix I h λy5 _ _=>Tot.bind (yZ K b y5 (by omega) M) λv Z=>J v.1.1 Z
structure Bf (w:bY) (i:Nat) (n:aa) (ws:List aj) (heard:List ah) (c:Nat):Prop where
 wi:WI w c
 lt:i<8
 n:eN i n
 sent:∀ x∈ws,iL x
 wl:ws.length<=1000
 hl:heard.length<=1048576
 c:c<=1000000
theorem set_t (w:bY)(i:Nat)(n:aa)(H:List aj)(u:List ah)(c:Nat)(h:Bf w i n H u c)(I:Kb K):Tot (Q202.f K ((w,i),n,H,u,())) λr=>WI r.1.1 (c+4):=by
 simp only[Q202.f];have z:i<w.1.length:=by rw[h.wi.len];exact h.lt
 have O:=h.c;have M:=h.wi.born;have J:=h.n.short;rw[h.n.me];refine Tot.vl (af z) (Tot.vl (by rw[FO];exact af z) (Tot.vl (af z) (Tot.vl (by rw[FO];exact af z) ?_)));refine Tot.must (by simp) ?_;rw[FO];refine Tot.bind (Be K (w.1.set i n,w.2) (aa.table w.1[i]) u (aa.table n) (h.wi.node i z).nb.table h.hl (by omega) (by show w.2.2.2.length<=_;omega) I) ?_;rintro⟨⟨v,⟨⟩⟩,⟨⟩⟩ ⟨b,y,rfl⟩;refine Tot.bind (yY K (w.1.set i n,w.2.1,w.2.2.1,b) (i:Int) H h.wi.sides ⟨by omega,by have:=h.lt;omega⟩ h.sent h.wi.radio h.wl I) ?_;rintro⟨⟨v,⟨⟩⟩,⟨⟩⟩ ⟨rd,hr,rfl⟩;have y:b.length<=w.2.2.2.length+(aa.table n).length:=y;exact Tot.ret (h.wi.put h.n hr (by omega))
theorem CL (w:bY)(i:Nat)(n:aa)(H:List aj)(u:List ah)(c:Nat)(h:Bf w i n H u c)(I:Kb K):Tot (Q222.f K (w,n,H,u,())) λr=>WI r.1.1 (c+4):=by
 simp only[Q222.f];have z:i<w.1.length:=by rw[h.wi.len];exact h.lt
 have O:=h.c;have M:=h.wi.born;have J:=h.n.short;rw[h.n.me];refine Tot.vl (af z) (Tot.vl (by rw[FO];exact af z) (Tot.vl (af z) (Tot.vl (by rw[FO];exact af z) ?_)));rw[FO];refine Tot.bind (Be K (w.1.set i n,w.2) (aa.table w.1[i]) u (aa.table n) (h.wi.node i z).nb.table h.hl (by omega) (by show w.2.2.2.length<=_;omega) I) ?_;rintro⟨⟨v,⟨⟩⟩,⟨⟩⟩ ⟨b,y,rfl⟩;refine Tot.bind (yY K (w.1.set i n,w.2.1,w.2.2.1,b) (i:Int) H h.wi.sides ⟨by omega,by have:=h.lt;omega⟩ h.sent h.wi.radio h.wl I) ?_;rintro⟨⟨v,⟨⟩⟩,⟨⟩⟩ ⟨rd,hr,rfl⟩;have y:b.length<=w.2.2.2.length+(aa.table n).length:=y;exact Tot.ret (h.wi.put h.n hr (by omega))
theorem sH (l:List mr)(at_:Int)(z:0<=at_)(H:at_<l.length)(y:gC l):Tot (Q196.f K (l,at_,())) λr=>gC r.1.1:=by
 have I:=y.1;obtain⟨m,rfl⟩:=GI z;simp only[Q196.f];rw[ar m (by omega)];refine Tot.must (by simp;omega) (Tot.fit (Tot.must (by simp;omega) (Tot.fit (Tot.ret ⟨?_,λf u=>y.2 f ?_⟩) (by omega) ?_)) (by omega) ?_)
 ·simp only[FO,GR,GF,FV,FS,FW,GJ];omega
 ·simp only[FO,GR,GF,FV,GE]at u;rcases FQ.1 u with u|u
  ·exact GM u
  ·exact List.mem_of_mem_drop u
 ·simp only[FO,GR,GF,FV,FS,FW,GJ];omega
 ·simp only[FO,GR,GF,FV,FW,GA];omega
theorem sI (w:bY)(c:Nat)(h:WI w c)(Z:c<=1000000)(to:Int)(t0:0<=to)(t1:to<=7)(x:aj)(X:dz x)(H:Kb K){G:aa->aa->Option ((bY×Unit)×Unit)}
  (Y:∀ y:aa,G y y=(Q178.f K (y,x,())).bind λI=>(Q202.f K ((w,FN to),I.1.1,I.1.2.1,aj.table x,())).bind λR=>some ((R.1.1,()),())) :
  Tot ((idx w.1 to).bind λ_=>(idx w.1 (FN to:Nat)).bind λM=>(idx w.1 (FN to:Nat)).bind λO=>G M O) λr=>WI r.1.1 (c+4):=by
 obtain⟨i,rfl⟩:=GI t0;have J:i<w.1.length:=by rw[h.len];omega
 have z:=h.node i J;refine Tot.vl (af J) (Tot.vl (by rw[FO];exact af J) (Tot.vl (by rw[FO];exact af J) ?_));rw[Y,yX K w.1[i] x z.up (cf X.2.2.2.2.2.2.2.1) H];simp only[FJ,FO];refine Tot.bind (set_t K w i _ _ _ c ⟨h,z.lt,?_,?_,?_,cf X.2.2.2.2.2.2.2.1,Z⟩ H) λv hv=>Tot.ret hv
 ·cases u:w.1[i].2.1 with
  |true=>exact z.of (rS (z.up u) H).1 (rS (z.up u) H).2.1
  |false =>
   rw[show bO K w.1[i] x=(w.1[i],[]) by unfold bO;rw[if_neg λh=>by have:=h.2.1;rw[u]at this;cases this]];exact z
 ·cases u:w.1[i].2.1 with
  |true=>exact λy hy=>(nf (z.up u) H).2 y hy
  |false =>
   rw[show bO K w.1[i] x=(w.1[i],[]) by unfold bO;rw[if_neg λh=>by have:=h.2.1;rw[u]at this;cases this]];simp
 ·cases u:w.1[i].2.1 with
  |true=>have:=(nf (w:=x) (z.up u) H).1;omega
  |false =>
   rw[show bO K w.1[i] x=(w.1[i],[]) by unfold bO;rw[if_neg λh=>by have:=h.2.1;rw[u]at this;cases this]];simp
theorem BS (w:bY)(c:Nat)(h:WI w c)(hc:c<=1000000)(at_:Int)(keep:Bool)(h0:0<=at_)(h1:at_<w.2.1.length)(X:Kb K):Tot (Q203.f K (w,at_,keep,())) λr=>WI r.1.1 (c+4):=by
 simp only[Q203.f,zcp8];refine Tot.ix2 h0 h1 λf hf _=>?_
 obtain⟨⟨t0,t1⟩,a0⟩:=h.radio.2 f hf;have hs:=h.sides;refine Tot.cnd (λ_=>Tot.bind (sH K w.2.1 at_ h0 h1 h.radio) ?_) λ_=>Tot.bind (na K f.2.1 (by omega) X) ?_
 ·rintro⟨⟨rd,⟨⟩⟩,⟨⟩⟩ hr;have J:WI (w.1,rd,w.2.2) (c+4):=⟨h.len,h.node,hr,h.sides,F1 h.born (by omega)⟩;refine Tot.bind (na K f.2.1 (by omega) X) ?_;rintro⟨⟨(x:aj),ok,⟨⟩⟩,⟨⟩⟩ H;refine Tot.cnd (λ_=>Tot.ret J) λZ=>?_
  have H:dz x:=H (by simpa using Z);obtain⟨I,Y⟩:=H.2.2.1;have M:x.2.2.1<(w.2.2.1.length:Int):=by rw[hs];omega
  refine Tot.ix2 I M λ_ _ _=>Tot.ix2 t0 (by omega) λ_ _ _=>Tot.cnd (λ_=>Tot.ret J) λ_=>Tot.cnd (λ_=>Tot.ret J) λ_=>?_
  exact sI K (w.1,rd,w.2.2) c ⟨h.len,h.node,hr,h.sides,h.born⟩ hc f.1 t0 t1 x H X (G:=λu O=>(Q178.f K ((u.1,(u.2.1,(u.2.2.1,(u.2.2.2.1,(u.2.2.2.2.1,(u.2.2.2.2.2.1,(u.2.2.2.2.2.2.1,(u.2.2.2.2.2.2.2.1,(u.2.2.2.2.2.2.2.2.1,(u.2.2.2.2.2.2.2.2.2.1,(u.2.2.2.2.2.2.2.2.2.2.1,(O.2.2.2.2.2.2.2.2.2.2.2.1,u.2.2.2.2.2.2.2.2.2.2.2.2)))))))))))),x,())).bind λz=>(Q202.f K (((w.1,rd,w.2.2),FN f.1),z.1.1,z.1.2.1,aj.table x,())).bind λR=>some ((R.1.1,()),())) λy=>rfl
 ·rintro⟨⟨(x:aj),ok,⟨⟩⟩,⟨⟩⟩ H;have J:WI w (c+4):=h.mono (by omega);refine Tot.cnd (λ_=>Tot.ret J) λZ=>?_
  have H:dz x:=H (by simpa using Z);obtain⟨I,Y⟩:=H.2.2.1;have M:x.2.2.1<(w.2.2.1.length:Int):=by rw[hs];omega
  refine Tot.ix2 I M λ_ _ _=>Tot.ix2 t0 (by omega) λ_ _ _=>Tot.cnd (λ_=>Tot.ret J) λ_=>Tot.cnd (λ_=>Tot.ret J) λ_=>?_
  exact sI K w c h hc f.1 t0 t1 x H X (G:=λu O=>(Q178.f K ((u.1,(u.2.1,(u.2.2.1,(u.2.2.2.1,(u.2.2.2.2.1,(u.2.2.2.2.2.1,(u.2.2.2.2.2.2.1,(u.2.2.2.2.2.2.2.1,(u.2.2.2.2.2.2.2.2.1,(u.2.2.2.2.2.2.2.2.2.1,(u.2.2.2.2.2.2.2.2.2.2.1,(O.2.2.2.2.2.2.2.2.2.2.2.1,u.2.2.2.2.2.2.2.2.2.2.2.2)))))))))))),x,())).bind λz=>(Q202.f K (((w.1,w.2),FN f.1),z.1.1,z.1.2.1,aj.table x,())).bind λR=>some ((R.1.1,()),())) λy=>rfl
theorem BT (w:bY)(c:Nat)(h:WI w c)(at_ u:Int)(M:0<=at_)(O:at_<w.2.1.length):Tot (Q204.f K (w,at_,u,())) λr=>WI r.1.1 c:=by
 simp only[Q204.f];refine Tot.ix2 M O λf Z _=>?_
 obtain⟨J,I⟩:=h.radio.2 f Z;refine Tot.cnd (λ_=>Tot.ret h) λ_=>Tot.cnd (λ_=>Tot.ret h) λY=>?_
 have H:¬ (f.2.1.size:Int)=0:=by simpa using Y
 obtain⟨y,b1⟩:=mt (a:=u) (m:=4095) (by omega);have y:0<=bz .i64 u 4095:=y;have R:0<=GS (bz .i64 u 4095) (f.2.1.size:Int):=Gu _ y;have X:GS (bz .i64 u 4095) (f.2.1.size:Int)<((eS f.2.1).length:Int):=by rw[sD];exact Gj _ (by omega)
 refine Tot.not (decide_eq_false H) (Tot.ix2 R X λ_ _ _=>Tot.ix2 R X λ_ _ _=>Tot.ix2 M O λ_ _ _=>Tot.ret ⟨h.len,h.node,⟨?_,λg z=>?_⟩,h.sides,h.born⟩)
 ·show (w.2.1.set _ _).length<=60;rw[F6];exact h.radio.1
 ·rcases List.mem_or_eq_of_mem_set z with z|rfl
  ·exact h.radio.2 g z
  ·refine⟨J,?_⟩;show (ip _).size<=2000;rw[jB,F6,sD];exact I
def ng (i:Int)(g:Bool):aa:=(i,true,false,g,0,0,0,0,[(i,0,1,g)],[],(-1,0,0,false),[],(0,0,0,1500),[],[])
theorem BU {i:Int}{g:Bool}(h:InP i 0 7):UpN (ng i g):=by
 refine⟨⟨h,FZ _,⟨λf r=>?_,List.pairwise_singleton _ _⟩,λf r=>?_,⟨λx y=>(nomatch y),List.Pairwise.nil⟩,λx y=>(nomatch y),?_,⟨λd z=>(nomatch z),List.Pairwise.nil,rfl⟩,⟨?_,?_,?_,?_⟩,⟨λp u=>(nomatch u),List.Pairwise.nil⟩,⟨λp u=>(nomatch u),List.Pairwise.nil⟩⟩,?_,?_,⟨?_,?_⟩,?_,rfl⟩
 ·rw[FP.1 r];exact⟨h,⟨by show (0:Int)<=0;omega,by show (0:Int)<=999;omega⟩,by show (1:Int)<=1;omega,by show (1:Int)<=4;omega⟩
 ·rw[FP.1 r];rfl
 ·unfold dm;rw[if_pos (show (aa.probe (ng i g)).1=-1 from rfl)];rfl
 ·exact⟨by show (-100000:Int)<=0;omega,by show (0:Int)<=100000;omega⟩
 ·exact⟨by show (-100000:Int)<=0;omega,by show (0:Int)<=100000;omega⟩
 ·exact⟨by show (0:Int)<=0;omega,by show (0:Int)<=100000;omega⟩
 ·exact⟨by show (1:Int)<=1500;omega,by show (1500:Int)<=1500;omega⟩
 ·exact FP.2 rfl
 ·show (0:Int)<=999999;omega
 ·exact⟨by show (0:Int)<=0;omega,by show (0:Int)<=999999;omega⟩
 ·exact⟨by show (0:Int)<=0;omega,by show (0:Int)<=8;omega⟩
 ·exact⟨by show (0:Int)<=0;omega,by show (0:Int)<=999;omega⟩
theorem sJ (i:Int)(g:Bool)(h:InP i 0 7):Q143.f K (i,g,())=some ((ng i g,()),()):=by
 simp only[Q143.f];obtain⟨b,e,r⟩:=cK K i 0 7;rw[e,r.2 h];rfl
theorem eN.new (i:Nat)(g:Bool)(h:i<8):eN i (ng (i:Int) g):=⟨rfl,h,λ_=>BU ⟨by omega,by omega⟩,λr=>by cases r⟩
theorem CM (w:bY)(c:Nat)(h:WI w c)(M:c<=1000000)(u:Int)(y:InP u 0 7)(H:Kb K):Tot (Q224.f K (w,u,())) λr=>WI r.1.1 (c+4):=by
 have J:=h.born;have I:u.toNat<8:=by obtain⟨a,b⟩:=y;omega
 have z:=h.len;simp only[Q224.f,Q132.f,FJ];rw[sJ K u _ y];simp only[FJ];refine Tot.ix2 y.1 (by have:=y.2;omega) λ_ _ _=>?_
 refine Tot.vl (show idx (ng u (decide (GS u 4<3))).2.2.2.2.2.2.2.2.1 0=some (u,0,1,decide (GS u 4<3)) from rfl) (Tot.bind (yZ K w.2.2.2 _ (by omega) H) λv O=>Tot.ret (h.put ?_ h.radio (by omega)));have:=eN.new u.toNat (decide (GS u 4<3)) I
 rwa [Gh y.1]at this
theorem BV (n:aa)(w:aj)(hn:NB n)(u:(aj.table w).length<=1048576)(r:Kb K):Ret (Q52.f K (n,w,())) (ff n/\dz w/\ge n w):=by
 obtain⟨O,e1,J⟩:=p8 K n hn r;obtain⟨R,e2,M⟩:=ub K w u r;simp only[Q52.f];rw[e1];cases O with
 |false=>exact⟨false,rfl,by simp only[Gk,false_iff];exact λh=>by have:=J.2 h.1;cases this⟩
 |true =>
  simp only[rb,FJ,FR,cond_false];rw[e2];cases R with
  |false=>exact⟨false,rfl,by simp only[Gk,false_iff];exact λh=>by have:=M.2 h.2.1;cases this⟩
  |true =>
   have hP:=J.1 rfl;have I:=M.1 rfl;simp only[rb,FJ,FR,cond_false];obtain⟨X,h3,y⟩:=(eo K (aj.table w) (ak n.1) u r).same (gq K (aj.table w) (ak n.1) u r) Gz;obtain⟨Y,h4,z⟩:=(eo K (aj.table w) (ak w.2.2.1) u r).same (gq K (aj.table w) (ak w.2.2.1) u r) Gz;obtain⟨Z,h5,H⟩:=nQ K n w.2.2.1;have h6:Z=(ak w.2.2.1==ak n.1):=by
    rw[F5,H,beq_iff_eq];exact⟨λh=>h.2,λh=>⟨I.2.2.1,h⟩⟩
   have hp:InP w.1 1 2:=I.1;obtain⟨b,e4,e5⟩:=rR K n w u r;refine⟨b,?_,e5.trans ⟨λh=>⟨hP,I,h⟩,λh=>h.2.2⟩⟩;rw[<- e4];simp only[Q146.f,Q51.f];rw[h5,de K n.1,de K w.2.2.1,ml K w.2.2.1,mm K n,h6];simp only[FJ];rw[h3,h4,z,y];simp only[FJ,bne];generalize (ak w.2.2.1==ak n.1)=c1;generalize (w.2.2.2.1==n.1)=c2;generalize (w.2.2.1==n.1)=c3;generalize (w.2.1==6)=c4;generalize n.2.1=c5;generalize n.2.2.1=c6;rcases (by omega:w.1=1\/w.1=2) with h|h <;> rw[h] <;> cases c1 <;> cases c2 <;> cases c3 <;> cases c4 <;> cases c5 <;> cases c6 <;> cases X <;> cases Y <;> rfl
theorem za (n:aa)(r:Int)(w:aj)(h:cH n)(u:Kb K):Q89.f K (n,r,w,())=some ((qT r (jz n) w.2.2.2.2.2.1 w.2.2.2.2.1 n.1 (iH n w.2.2.2.2.2.1),()),(jz n,())):=by
 simp only[Q89.f,zcp4];refine bT' (xi K n w.2.2.2.2.2.1 h u) ?_;simp only[FJ,Q69.f];rfl
theorem Aw (n:aa)(x:Int)(u:InP x 0 7):Q43.f K (n,x,())=rb (ak x==ak n.1&&x != n.1):=by
 obtain⟨b,e,h⟩:=nQ K n x;simp only[Q43.f];rw[e];have r:b=(ak x==ak n.1):=by
  rw[F5,h,beq_iff_eq];exact⟨λh=>h.2,λh=>⟨u,h⟩⟩
 subst r;simp only[rb,FJ];cases ak x==ak n.1 with
 |true=>rfl
 |false=>rfl
theorem Ax (xs r:List ah)(X:xs.length<=1048576)(R:Kb K):Q68.f K (xs,r,())=rb (decide (xs=r)):=by
 simp only[Q68.f,Q68.pre];by_cases z:xs.length=r.length
 case neg =>
  rw[show ((FK xs:Int) != (FK r:Int))=true by simp only[bne_iff_ne,ne_eq];omega,decide_eq_false (λe=>z (by rw[e]))];rfl
 rw[show ((FK xs:Int) != (FK r:Int))=false by rw[z];simp];simp only[cond_false];have:=cG (step:=Q68.s0 K (xs,r,())) xs.length (λi=>(i:Int)) (λj=>∃ h:j<xs.length,xs[j]≠r[j]'(by omega)) (rb true) (λ_=>rb false) ?_ ?_ xs.length K 0 (by omega) (by omega)
 ·rcases this with ⟨I,u⟩|⟨j,_,I,⟨O,M⟩,_,u⟩
  ·rw[decide_eq_true (Gq z λi h _=>Classical.byContradiction λH=>I i (F7 _) h ⟨h,H⟩)];exact u
  ·rw[decide_eq_false (λe=>M (by subst e;rfl))];exact u
 ·intro rec i J;have y:i<r.length:=by omega
  simp only[Q68.s0];rw[bt (by omega:(i:Int)<(FK xs:Int)),af J,af y,ar i (by omega)];simp only[cond_true,FJ];by_cases e:xs[i]=r[i]
  ·left;refine⟨λ⟨_,h⟩=>h e,?_⟩;rw[show Ty.eqv t2 xs[i] r[i]=decide (xs[i]=r[i]) from iE _ _,decide_eq_true e];rfl
  ·right;refine⟨⟨J,e⟩,?_⟩;rw[show Ty.eqv t2 xs[i] r[i]=decide (xs[i]=r[i]) from iE _ _,decide_eq_false e];rfl
 ·intro rec;simp only[Q68.s0,aS];rfl
theorem Ay (t:List ch)(v:Int)(ht:t.length<=1048576)(z:Asc (λx:ch=>x.1) t)(h7:∀ d∈t,InP d.1 0 7)(R:InP v 0 7)(hK:Kb K) :
  ∃ m,m<=t.length/\(∀ i,(h:i<t.length)->i<m->t[i].1<v)/\(∀ i,(h:i<t.length)->m<=i->v<=t[i].1)/\Q66.f K (t,v,(λI=>(Q67.f K (I.1,I.2.1,())).map λy=>y.1.1),())=some ((((m:Nat):Int),decide (∃ h:m<t.length,t[m].1=v),()),()):=by
 let ks:Nat->Int:=λi=>if h:i<t.length then t[i].1 else 0
 have r:∀ i (h:i<t.length),ks i=t[i].1:=λi h=>by simp[ks,h]
 let u:Nat->Option ((Int×Bool×Unit)×Unit):=λm=>some ((((m:Nat):Int),decide (∃ h:m<t.length,t[m].1=v),()),())
 have X:∀ d∈t,((Q67.f K (d,v,())).map λy=>y.1.1)=some (d.1-v):=λd hd=>by
  obtain⟨a1,a2⟩:=h7 d hd;obtain⟨a3,a4⟩:=R;simp only[Q67.f];rw[aC (by omega) (by omega)];rfl
 have:=nO (step:=λrec a=>Q66.s0 K (t,v,(λI=>(Q67.f K (I.1,I.2.1,())).map λy=>y.1.1),()) rec a) (ks:=ks) (n:=t.length) (t:=v) u ht
  (λi j J O=>by
   rw[r i (by omega),r j O];exact ct.1 z i j (by omega) O J) ?_ ?_ t.length K 0 t.length (by omega) (F7 _) (F8 _) (by omega) (λi H=>by omega) (λi H R=>by omega)
 ·obtain⟨m,Z,h2,h3,h4⟩:=this;exact⟨m,Z,λi h H=>by rw[<- r i h];exact h2 i H,λi h H=>by rw[<- r i h];exact h3 i H h,h4⟩
 ·intro rec a b a0 hb;have M:(a+b) / 2<t.length:=by omega
  simp only[Q66.s0];rw[decide_eq_true (by omega:(a:Int)<(b:Int)),mj (by omega)];simp only[cond_true];rw[af M];simp only[FJ,X _ (FT M)];rw[r _ M,ar _ (by omega)];by_cases h:t[(a+b) / 2].1<v
  ·rw[if_pos h,decide_eq_true (by omega:t[(a+b) / 2].1-v<0)];rfl
  ·rw[if_neg h,decide_eq_false (by omega:¬ t[(a+b) / 2].1-v<0)];rfl
 ·intro rec a ha;simp only[Q66.s0];rw[decide_eq_false (by omega)];simp only[cond_false];by_cases h:a<t.length
  ·rw[decide_eq_true (by omega:(a:Int)<(FK t:Int)),af h];simp only[cond_true,FJ,X _ (FT h)];have:(t[a].1-v==0)=decide (∃ h:a<t.length,t[a].1=v):=by
    rw[F5];simp only[beq_iff_eq,decide_eq_true_eq];exact⟨λe=>⟨h,by omega⟩,λ⟨_,e⟩=>by omega⟩
   rw[this]
  ·rw[decide_eq_false (by omega:¬ (a:Int)<(FK t:Int))];simp only[cond_false,u];rw[decide_eq_false (λ⟨Y,_⟩=>h Y)]
theorem zb {R:Type}(K:Nat)(n m:aa)(w:aj)(X:InP w.1 1 2)(O:(bN n w).length<=1048576)(I:m.1=n.1)(J:aa.coord m=aa.coord n)(M:Kb K)(G:List aj->Option R) :
  (bif w.1==1 then G [] else ((Q68.f K (bN n w,aj.table w,())).bind λy=>bif y.1.1 then G [] else ((Q69.f K (m,6,w.2.2.1,())).bind λr=>(Q0.f K (bN n w,())).bind λH =>
   G [(2,r.1.1.2.1,r.1.1.2.2.1,r.1.1.2.2.2.1,r.1.1.2.2.2.2.1,r.1.1.2.2.2.2.2.1,r.1.1.2.2.2.2.2.2.1,H.1.1)])))=G (bif w.1==2&&decide (aj.table w≠bN n w) then [xt n w] else []):=by
 by_cases u:w.1=1
 ·rw[u];rfl
 ·have z:w.1=2:=by obtain⟨a,b⟩:=X;omega
  rw[show (w.1==1)=false by simpa using u,show (w.1==2)=true by simpa using z,Ax K _ _ O M];simp only[cond_false,rb,FJ,GV];by_cases e:bN n w=aj.table w
  ·rw[decide_eq_true e,decide_eq_false (p:=aj.table w≠bN n w) (λh=>h e.symm)];rfl
  ·rw[decide_eq_false e,decide_eq_true (p:=aj.table w≠bN n w) (λh=>e h.symm)];simp only[cond_false,cond_true,Q69.f,FJ,Q0.f];rw[dR (by show (bN n w).length*_<=_;omega)];simp only[FJ];unfold xt;rw[I,show m.2.2.2.2.2.2.2.2.2.2.2.2.1=aa.coord n from J]
theorem sum_i (n:aa)(w:aj)(hn:NB n)(h:UpN n)(hp:InP w.1 1 2)(Z:aE (aj.table w))(r:mS (aj.table w))(u:Kb K):Q70.f K (n,w,())=some (((fw n w).2,()),((fw n w).1,())):=by
 have z:idx (aj.table w) 0=some (cz (aj.table w)):=by
  cases ht:aj.table w with
  |nil=>rw[ht]at r;exact r.elim
  |cons f l=>rfl
 have Y:=wu (uB r Z);have a0:InP (ak (cz (aj.table w)).1) 0 7:=⟨Y.1,GQ Y.2 (by decide)⟩;have hb:ne (aj.table w) (ak n.1)=(ak (cz (aj.table w)).1==ak n.1):=by
  rw[F5,lB,beq_iff_eq];cases ht:aj.table w with
  |nil=>rw[ht]at r;exact r.elim
  |cons f l =>
   rw[ht]at r;exact⟨λh=>h f (by simp),λe g hg=>(r g hg).trans e⟩
 simp only[Q70.f,zcp4,zcp8];refine bT' z ?_;simp only[FJ];rw[ml K (cz (aj.table w)).1,mm K n];simp only[FJ];unfold fw;rw[hb];cases ak (cz (aj.table w)).1==ak n.1 with
 |true =>
  simp only[cond_true];refine bT' (rK K n (aj.table w) n.1 h.learns Z.1 (cf Z) h.x.me u) rfl
 |false =>
  simp only[cond_false];obtain⟨a1,a2,a3⟩:=lC (n:=n) h.x.others Z r;refine bT' (Bw K n (ak (cz (aj.table w)).1) hn u) ?_;simp only[FJ];refine bT' (Cz K (fg (aa.others n) (ak (cz (aj.table w)).1)) (aj.table w) (qd h.x.others _) Z u) ?_;simp only[FJ];have y:=h.x.others;have J:=olen y;obtain⟨m,hm,lo,hi,hs⟩:=Ay K (aa.others n) (ak (cz (aj.table w)).1) J y.2 (λx hx=>⟨(y.1 x hx).1.1,GQ (y.1 x hx).1.2 (by decide)⟩) a0 u;refine bT' hs ?_;simp only[FJ];by_cases hf:∃ h:m<(aa.others n).length,(aa.others n)[m].1=ak (cz (aj.table w)).1
  ·rw[decide_eq_true hf];obtain⟨O,e⟩:=hf;simp only[cond_true,FO];have I:idx (aa.others n) (m:Int)=some (aa.others n)[m]:=af O;refine bT' I ?_;simp only[FJ];refine bT' I ?_;simp only[FJ];rw[e];have X:(aa.others n).set m (ak (cz (aj.table w)).1,bN n w)=bD (λx:ch=>x.1) (ak (cz (aj.table w)).1,bN n w) (aa.others n):=gY (k:=λx:ch=>x.1) (x:=(ak (cz (aj.table w)).1,bN n w)) y.2 O e;have:=zb K n (oa n ((aa.others n).set m (ak (cz (aj.table w)).1,bN n w))) w hp (cf a1) rfl rfl u (λws=>some ((ws,()),(oa n ((aa.others n).set m (ak (cz (aj.table w)).1,bN n w)),())));refine Gm this ?_;rw[X];rfl
  ·rw[decide_eq_false hf];simp only[cond_false];have H:Q7.f K (aa.others n,(m:Int),[(ak (cz (aj.table w)).1,bN n w)],())=some (((aa.others n).take m++[(ak (cz (aj.table w)).1,bN n w)]++(aa.others n).drop m,()),()):=jl hm (by decide) J;refine bT' H ?_;simp only[FJ];have R:(aa.others n).take m++[(ak (cz (aj.table w)).1,bN n w)]++(aa.others n).drop m=bD (λx:ch=>x.1) (ak (cz (aj.table w)).1,bN n w) (aa.others n):=gu (k:=λx:ch=>x.1) (x:=(ak (cz (aj.table w)).1,bN n w)) hm lo (λj hj M=>by
    rcases Int.lt_or_eq_of_le (hi j hj M) with h|h
    ·exact h
    ·exfalso;rcases Gl M with h4|rfl
     ·have:(aa.others n)[m].1<(aa.others n)[j].1:=ct.1 y.2 m j (by omega) hj h4;have h5:=hi m (by omega) (F8 _);omega
     ·exact hf ⟨hj,h.symm⟩)
   have:=zb K n (oa n ((aa.others n).take m++[(ak (cz (aj.table w)).1,bN n w)]++(aa.others n).drop m)) w hp (cf a1) rfl rfl u (λws=>some ((ws,()),(oa n ((aa.others n).take m++[(ak (cz (aj.table w)).1,bN n w)]++(aa.others n).drop m),())));refine Gm this ?_;rw[R];rfl
theorem CO (n:aa)(w:aj)(Y:NB n)(h:UpN n)(u:dz w)(J:ge n w)(z:w.2.1≠2)(H:Kb K):Q100.f K (n,w,())=some (((bO K n w).2,()),((bO K n w).1,())):=by
 have r:=u.2.2.2.2.2.2.2.1;unfold bO;rw[if_pos ⟨u,J⟩];simp only[Q100.f,zcp4];by_cases y:w.2.1=6
 ·rw[if_pos y,show (w.2.1==6)=true by simpa using y];have R:=u.2.2.2.2.2.2.2.2;rw[if_pos y]at R;simp only[cond_true];exact bT' (sum_i K n w Y h u.1 r R H) rfl
 ·rw[if_neg y,show (w.2.1==6)=false by simpa using y];obtain⟨Z,O⟩:=jC u J y;have I:=(jP h J.2.1 r Z O).1;simp only[cond_false];refine bT' (rK K n (aj.table w) w.2.2.1 h.learns r.1 (cf r) O.1 H) ?_;simp only[FJ];generalize gB n (aj.table w) w.2.2.1=m at I ⊢;have M:=u.2.2.2.2.2.1;have X:=Aw K m w.2.2.2.2.2.1 M;rw[show (w.2.1==2)=false by simpa using z];unfold er;rw[show (w.2.1==2)=false by simpa using z];cases w.2.1==1 with
  |true =>
   simp only[cond_true];refine bT' X ?_;simp only[rb,FJ,bne];cases ak w.2.2.2.2.2.1==ak m.1 with
   |false=>rfl
   |true =>
    cases w.2.2.2.2.2.1==m.1 with
    |true=>rfl
    |false =>
     simp only[GV,F9,FR,cond_true,cond_false];exact bT' (za K m 2 w I.x.say H) rfl
  |false =>
   simp only[cond_false];cases w.2.1==3 with
   |true =>
    simp only[cond_true];refine bT' X ?_;simp only[rb,FJ,bne];cases ak w.2.2.2.2.2.1==ak m.1 with
    |false=>rfl
    |true =>
     cases w.2.2.2.2.2.1==m.1 with
     |true=>rfl
     |false =>
      simp only[GV,F9,FR,cond_true,cond_false];cases w.2.2.2.2.2.1==w.2.2.1 with
      |true=>rfl
      |false =>
       simp only[F9,cond_true,cond_false];exact bT' (za K m 1 w I.x.say H) rfl
   |false =>
    simp only[cond_false];cases w.2.1==4 with
    |true =>
     simp only[cond_true];exact bT' (BB K m 5 w.2.2.1 (cf I.x.table)) rfl
    |false=>rfl
theorem nh (n u r:Int)(h:u<=r):Q71.f K (n,u,r,())=some ((iZ n u r,()),()):=by
 simp only[Q71.f,iZ];by_cases z:n<u
 ·rw[if_pos z,decide_eq_false (by omega:¬ r<n)];simp only[cond_false];rw[decide_eq_false (by omega:¬ u<n)];rfl
 ·rw[if_neg z];by_cases H:n>r
  ·rw[if_pos H,decide_eq_true (by omega:r<n)];simp only[cond_true];by_cases y:u<r
   ·rw[decide_eq_true y];rfl
   ·rw[decide_eq_false y];have:u=r:=by omega
    rw[this];rfl
  ·rw[if_neg H,decide_eq_false (by omega:¬ r<n)];simp only[cond_false];by_cases y:u<n
   ·rw[decide_eq_true y];rfl
   ·rw[decide_eq_false y];have:u=n:=by omega
    rw[this];rfl
theorem od {x:Int}(h:InP x (-1000000000) 1000000000):gb x=x:=by
 obtain⟨r,u⟩:=h;unfold gb;split
 ·omega
 ·split <;> omega
theorem uE {x:Int}(h:InP x (-200000) 200000):0<=x*x/\x*x<=40000000000/\(x*x=0->x=0):=by
 obtain⟨u,y⟩:=h;have e:x*x=((x.natAbs*x.natAbs:Nat):Int):=Int.natAbs_mul_self.symm;have r:x.natAbs<=200000:=by omega
 have:=Gw r r;refine⟨by omega,by omega,λh=>?_⟩;rcases Int.mul_eq_zero.1 h with h|h <;> exact h
theorem sK (x y:Int)(J:InP x (-200000) 200000)(M:InP y (-200000) 200000)(I:Kb K):∃ r:Int,0<=r/\r<=1000000/\(r=0->x=0/\y=0)/\Q168.f K (x,y,())=some ((r,()),())/\Q95.f K (x,y,())=some ((r,()),()):=by
 simp only[Q168.f,Q95.f];obtain⟨x1,x2,x3⟩:=uE J;obtain⟨y1,y2,y3⟩:=uE M;have u:InP x (-1000000000) 1000000000:=by obtain⟨a,b⟩:=J;exact⟨by omega,by omega⟩
 have z:InP y (-1000000000) 1000000000:=by obtain⟨a,b⟩:=M;exact⟨by omega,by omega⟩
 rw[kS K x,kS K y,rO K x,rO K y,od u,od z];simp only[FJ];generalize hA:x*x=a at *;generalize hB:y*y=b at *;have O:wr .i64 a=a:=aC (by omega) (by omega);have R:wr .i64 b=b:=aC (by omega) (by omega);have X:wr .i64 (a+b)=(((a+b).toNat:Nat):Int):=(aC (by omega) (by omega)).trans (by omega);rw[O,R,X];obtain⟨r,H,Z⟩:=yR K (a+b).toNat (by omega) I;obtain⟨s,s1,s2⟩:=CE K (a+b).toNat (by omega) I;have:r=s:=H.eq s1;subst this;rw[Z,s2];simp only[FJ];have hr:r<=1000000:=by
  rcases Nat.lt_or_ge r 1000001 with h|h
  ·omega
  ·have h1:=Gw h h;have h2:=H.1;omega
 rw[kS K r,rO K r,od ⟨by omega,by omega⟩];refine⟨(r:Int),by omega,by omega,λh=>?_,rfl,rfl⟩;have Y:r=0:=by omega
 subst Y;have:=H.2;exact⟨x3 (by omega),y3 (by omega)⟩
theorem zc (c d:cW)(y:bX c)(z:bX d)(Z:Kb K):∃ r:Int,0<=r/\r<=2000000/\Q169.f K (c,d,())=some ((r,()),())/\Q96.f K (c,d,())=some ((r,()),()):=by
 simp only[Q169.f,Q96.f];obtain⟨b,H,I⟩:=fu K c;obtain⟨u,J,M⟩:=ji K c;obtain rfl:b=true:=I.2 y;obtain rfl:u=true:=M.2 y;obtain⟨b,O,R⟩:=fu K d;obtain⟨u,X,Y⟩:=ji K d;obtain rfl:b=true:=R.2 z;obtain rfl:u=true:=Y.2 z;rw[H,J];simp only[rb,FJ,FR,cond_false];rw[O,X];simp only[rb,FJ,FR,cond_false];obtain⟨⟨c1,c2⟩,⟨c3,c4⟩,⟨c5,c6⟩,_⟩:=y;obtain⟨⟨d1,d2⟩,⟨d3,d4⟩,⟨d5,d6⟩,_⟩:=z;rw[aC (n:=c.1-d.1) (by omega) (by omega),aC (n:=c.2.1-d.2.1) (by omega) (by omega)];obtain⟨r,r1,r2,_,r4,r5⟩:=sK K (c.1-d.1) (c.2.1-d.2.1) ⟨by omega,by omega⟩ ⟨by omega,by omega⟩ Z;rw[r4,r5];simp only[FJ];rw[aC (n:=r+c.2.2.1) (by omega) (by omega),aC (n:=r+c.2.2.1+d.2.2.1) (by omega) (by omega)];exact⟨_,by omega,by omega,rfl,rfl⟩
def gM (w t:Int):Int:=GT ((w.natAbs:Int)*1000) t
theorem uF {w t:Int}(r:InP t 1 60000)(u:InP w (-3000000) 3000000):0<=gM w t/\gM w t<=3000000000:=by
 obtain⟨t1,t2⟩:=r;obtain⟨w1,w2⟩:=u;unfold gM;refine⟨Int.tdiv_nonneg (by omega) (by omega),?_⟩;rw[GX (by omega)];exact Int.ediv_le_of_le_mul (by omega) (by
  have:(3000000000:Int)*1<=3000000000*t:=Int.mul_le_mul_of_nonneg_left t1 (by decide);omega)
noncomputable def Bg (a b:cW)(w t:Int):Int:=iZ (wr .i64 (a.2.2.2+(wr .i64 (GT (wr .i64 (GT (wr .i64 ((wr .i64 (iZ (gM w t) 0 1500-a.2.2.2))*a.2.2.2)) (wr .i64 (a.2.2.2+b.2.2.2)))) 4)))) 1 1500
theorem err_s (a b:cW)(w t:Int)(z:bX a)(H:bX b)(u:InP t 1 60000)(r:InP w (-3000000) 3000000):Q173.f K (a,b,w,t,())=some ((Bg a b w t,()),()):=by
 have Y:=uF u r;have J:=r;obtain⟨t1,t2⟩:=u;obtain⟨w1,w2⟩:=r;obtain⟨_,_,_,M,O⟩:=z;obtain⟨_,_,_,R,X⟩:=H;simp only[Q173.f,Q172.f];have I:¬ wr .i64 (a.2.2.2+b.2.2.2)=0:=by rw[aC (by omega) (by omega)];omega
 rw[decide_eq_false I,decide_eq_false (by omega:¬ t=0)];have y:(bif decide (w<0) then some ((wr .i64 (0-w),()),()) else some ((w,()),()))=some (((w.natAbs:Int),()),()):=by
  rw[aC (n:=0-w) (by omega) (by omega)];by_cases h:w<0
  ·rw[decide_eq_true h,show 0-w=(w.natAbs:Int) by omega];rfl
  ·rw[decide_eq_false h];have:w=(w.natAbs:Int):=by omega
   simp only[cond_false];rw[<- this]
 refine bT' y ?_;simp only[FJ,cond_false];rw[aC (n:=(w.natAbs:Int)*1000) (by omega) (by omega)];show (Q163.f K (wr .i64 (gM w t),0,1500,())).bind _=_;rw[aC (n:=gM w t) (by omega) (by omega),di];simp only[FJ];rw[di];rfl
theorem err_i (a b:cW)(w t:Int)(r:InP t 1 60000)(u:InP w (-3000000) 3000000):Q71.f K (wr .i64 (a.2.2.2+(wr .i64 (GT (wr .i64 (GT (wr .i64 ((wr .i64 ((bif decide (1500<(wr .i64 (GT (wr .i64 ((bif decide (w<(wr .i64 (0-w))) then wr .i64 (0-w) else w)*1000)) t))) then 1500 else wr .i64 (GT (wr .i64 ((bif decide (w<(wr .i64 (0-w))) then wr .i64 (0-w) else w)*1000)) t))-a.2.2.2))*a.2.2.2)) (wr .i64 (a.2.2.2+b.2.2.2)))) 4))),1,1500,())=some ((Bg a b w t,()),()):=by
 have H:=uF r u;obtain⟨t1,t2⟩:=r;obtain⟨w1,w2⟩:=u;have y:(bif decide (w<(wr .i64 (0-w))) then wr .i64 (0-w) else w)=(w.natAbs:Int):=by
  rw[aC (by omega) (by omega)];by_cases h:w<0-w
  ·rw[decide_eq_true h];simp only[cond_true];omega
  ·rw[decide_eq_false h];simp only[cond_false];omega
 rw[y,aC (n:=(w.natAbs:Int)*1000) (by omega) (by omega),show GT ((w.natAbs:Int)*1000) t=gM w t from rfl,aC (n:=gM w t) (by omega) (by omega)];have z:(bif decide (1500<gM w t) then 1500 else gM w t)=iZ (gM w t) 0 1500:=by
  unfold iZ;rw[if_neg (by omega)];by_cases h:gM w t>1500
  ·rw[if_pos h,decide_eq_true (by omega:1500<gM w t)];rfl
  ·rw[if_neg h,decide_eq_false (by omega:¬ 1500<gM w t)];rfl
 rw[z];exact nh K _ 1 1500 (by decide)
theorem CP (a b:cW)(t s:Int)(H:bX a)(hK:Kb K):Q97.f K (a,b,t,s,())=some ((lg K a b t s,()),()):=by
 refine Gm ?_ (uA K a b t s H hK).1;simp only[Q97.f,Q174.f];obtain⟨v,h1,h2⟩:=fu K a;obtain⟨v',h3,h4⟩:=ji K a;obtain rfl:v=true:=h2.2 H;obtain rfl:v'=true:=h4.2 H;obtain⟨v,h5,h6⟩:=fu K b;obtain⟨v',h7,h8⟩:=ji K b;obtain rfl:v=v':=by rw[F5,h6,h8]
 obtain⟨u,h9,R⟩:=cK K t 1 60000;obtain⟨u',a0,a3⟩:=eY K t 1 60000;obtain rfl:u=u':=by rw[F5,R,a3]
 rw[h1,h3];simp only[rb,FJ,FR,cond_false];rw[h5,h7];cases v with
 |false=>rfl
 |true =>
  simp only[rb,FJ,FR,cond_false];rw[h9,a0];cases u with
  |false=>rfl
  |true =>
   have O:=h6.1 rfl;have Y:=R.1 rfl;obtain⟨d,d1,d2,d3,d4⟩:=zc K a b H O hK;have t0:¬ t=0:=by obtain⟨t1,t2⟩:=Y;omega
   have tw:wr .i64 (t-d)=t-d:=by obtain⟨t1,t2⟩:=Y;exact aC (by omega) (by omega)
   have hw:InP (t-d) (-3000000) 3000000:=by obtain⟨t1,t2⟩:=Y;exact⟨by omega,by omega⟩
   have hs:¬ wr .i64 (a.2.2.2+b.2.2.2)=0:=by
    obtain⟨_,_,_,Z,a2⟩:=H;obtain⟨_,_,_,y,z⟩:=O;rw[aC (by omega) (by omega)];omega
   have x0:wr .i64 (a.1-b.1)=a.1-b.1:=by
    obtain⟨⟨Z,a2⟩,_⟩:=H;obtain⟨⟨y,z⟩,_⟩:=O;exact aC (by omega) (by omega)
   have y0:wr .i64 (a.2.1-b.2.1)=a.2.1-b.2.1:=by
    obtain⟨_,⟨Z,a2⟩,_⟩:=H;obtain⟨_,⟨y,z⟩,_⟩:=O;exact aC (by omega) (by omega)
   obtain⟨r,r1,r2,r3,r4,r5⟩:=sK K (a.1-b.1) (a.2.1-b.2.1) (by
    obtain⟨⟨Z,a2⟩,_⟩:=H;obtain⟨⟨y,z⟩,_⟩:=O;exact⟨by omega,by omega⟩) (by
    obtain⟨_,⟨Z,a2⟩,_⟩:=H;obtain⟨_,⟨y,z⟩,_⟩:=O;exact⟨by omega,by omega⟩) hK
   have J:=err_s K a b (t-d) t H O Y hw;have M:=err_i K a b (t-d) t Y hw;simp only[rb,FJ,FR,cond_false];rw[d3,d4];simp only[FJ,Q170.f,tw,x0,y0];rw[r4,r5,decide_eq_false hs];simp only[FJ,cond_false];generalize wr .i64 (GT (wr .i64 (GT (wr .i64 ((t-d)*a.2.2.2)) (wr .i64 (a.2.2.2+b.2.2.2)))) 4)=F;have cb:∀ n lo hi:Int,lo<=hi->Q71.f K (n,lo,hi,())=some ((iZ n lo hi,()),()):=nh K;have y:∀ n,Q71.f K (n,-100000,100000,())=some ((iZ n (-100000) 100000,()),()):=λn=>nh K n _ _ (by decide)
   have z:∀ n,Q71.f K (n,0,100000,())=some ((iZ n 0 100000,()),()):=λn=>nh K n _ _ (by decide)
   by_cases hr:r=0
   ·subst hr;obtain⟨xz,yz⟩:=r3 rfl;rw[xz,yz];rw[show ((0:Int)==0)=true from rfl,decide_eq_false (by omega:¬ (0:Int)>0),decide_eq_false t0];simp only[cond_true,cond_false];by_cases X:F>=0
    ·rw[decide_eq_true X,decide_eq_false (by omega:¬ F<0)];simp only[cond_true,cond_false,Q171.f];rcases and3 s with I|I|I|I <;> rw[I]
     ·rw[show idx [((1:Int),(0:Int)),(0,1),((-1),0),(0,(-1))] 0=some (1,0) from rfl];simp only[FJ,y,z,beq_self_eq_true,cond_true];rw[di];simp only[FJ];rw[di];simp only[FJ];rw[di];simp only[FJ];rw[J,M]
     ·rw[show idx [((1:Int),(0:Int)),(0,1),((-1),0),(0,(-1))] 1=some (0,1) from rfl,show ((1:Int)==0)=false from rfl];simp only[FJ,y,z,beq_self_eq_true,cond_true,cond_false];rw[di];simp only[FJ];rw[di];simp only[FJ];rw[di];simp only[FJ];rw[J,M]
     ·rw[show idx [((1:Int),(0:Int)),(0,1),((-1),0),(0,(-1))] 2=some (-1,0) from rfl,show ((2:Int)==0)=false from rfl,show ((2:Int)==1)=false from rfl];simp only[FJ,y,z,beq_self_eq_true,cond_true,cond_false];rw[di];simp only[FJ];rw[di];simp only[FJ];rw[di];simp only[FJ];rw[J,M]
     ·rw[show idx [((1:Int),(0:Int)),(0,1),((-1),0),(0,(-1))] 3=some (0,-1) from rfl,show ((3:Int)==0)=false from rfl,show ((3:Int)==1)=false from rfl,show ((3:Int)==2)=false from rfl];simp only[FJ,y,z,cond_false];rw[di];simp only[FJ];rw[di];simp only[FJ];rw[di];simp only[FJ];rw[J,M]
    ·rw[decide_eq_false X,decide_eq_true (by omega:F<0)];simp only[cond_true,cond_false,Q171.f,y,z,FJ];have aw:∃ p:Int×Int,(bif bz .i64 s 3==0 then some (((1:Int),(0:Int),()),()) else (bif bz .i64 s 3==1 then some ((0,1,()),()) else (bif bz .i64 s 3==2 then some (((-1),0,()),()) else some ((0,(-1),()),()))))=some ((p.1,p.2,()),()):=by
      rcases and3 s with I|I|I|I <;> rw[I]
      ·exact⟨(1,0),rfl⟩
      ·exact⟨(0,1),rfl⟩
      ·exact⟨(-1,0),rfl⟩
      ·exact⟨(0,-1),rfl⟩
     obtain⟨p,hp⟩:=aw;refine Gm ?_ (congrArg (λo=>FL o _) hp).symm;simp only[FJ];rw[di];simp only[FJ];rw[di];simp only[FJ];rw[di];simp only[FJ];rw[J,M]
   ·rw[show (r==0)=false by simpa using hr,decide_eq_true (by omega:r>0),decide_eq_false t0,decide_eq_false hr];simp only[cond_true,cond_false];by_cases X:F<wr .i64 (0-r)
    ·rw[decide_eq_true X];simp only[cond_true,y,z,FJ];rw[di];simp only[FJ];rw[di];simp only[FJ];rw[di];simp only[FJ];rw[J,M]
    ·rw[decide_eq_false X];simp only[cond_false,y,z,FJ];rw[di];simp only[FJ];rw[di];simp only[FJ];rw[di];simp only[FJ];rw[J,M]
theorem zd (t:List cm)(v:Int)(ht:t.length<=1048576)(z:Asc (λx:cm=>x.1) t)(h7:∀ d∈t,InP d.1 0 7)(R:InP v 0 7)(hK:Kb K) :
  ∃ m,m<=t.length/\(∀ i,(h:i<t.length)->i<m->t[i].1<v)/\(∀ i,(h:i<t.length)->m<=i->v<=t[i].1)/\Q91.f K (t,v,(λI=>(Q92.f K (I.1,I.2.1,())).map λy=>y.1.1),())=some ((((m:Nat):Int),decide (∃ h:m<t.length,t[m].1=v),()),()):=by
 let ks:Nat->Int:=λi=>if h:i<t.length then t[i].1 else 0
 have r:∀ i (h:i<t.length),ks i=t[i].1:=λi h=>by simp[ks,h]
 let u:Nat->Option ((Int×Bool×Unit)×Unit):=λm=>some ((((m:Nat):Int),decide (∃ h:m<t.length,t[m].1=v),()),())
 have X:∀ d∈t,((Q92.f K (d,v,())).map λy=>y.1.1)=some (d.1-v):=λd hd=>by
  obtain⟨a1,a2⟩:=h7 d hd;obtain⟨a3,a4⟩:=R;simp only[Q92.f];rw[aC (by omega) (by omega)];rfl
 have:=nO (step:=λrec a=>Q91.s0 K (t,v,(λI=>(Q92.f K (I.1,I.2.1,())).map λy=>y.1.1),()) rec a) (ks:=ks) (n:=t.length) (t:=v) u ht
  (λi j J O=>by
   rw[r i (by omega),r j O];exact ct.1 z i j (by omega) O J) ?_ ?_ t.length K 0 t.length (by omega) (F7 _) (F8 _) (by omega) (λi H=>by omega) (λi H R=>by omega)
 ·obtain⟨m,Z,h2,h3,h4⟩:=this;exact⟨m,Z,λi h H=>by rw[<- r i h];exact h2 i H,λi h H=>by rw[<- r i h];exact h3 i H h,h4⟩
 ·intro rec a b a0 hb;have M:(a+b) / 2<t.length:=by omega
  simp only[Q91.s0];rw[decide_eq_true (by omega:(a:Int)<(b:Int)),mj (by omega)];simp only[cond_true];rw[af M];simp only[FJ,X _ (FT M)];rw[r _ M,ar _ (by omega)];by_cases h:t[(a+b) / 2].1<v
  ·rw[if_pos h,decide_eq_true (by omega:t[(a+b) / 2].1-v<0)];rfl
  ·rw[if_neg h,decide_eq_false (by omega:¬ t[(a+b) / 2].1-v<0)];rfl
 ·intro rec a ha;simp only[Q91.s0];rw[decide_eq_false (by omega)];simp only[cond_false];by_cases h:a<t.length
  ·rw[decide_eq_true (by omega:(a:Int)<(FK t:Int)),af h];simp only[cond_true,FJ,X _ (FT h)];have:(t[a].1-v==0)=decide (∃ h:a<t.length,t[a].1=v):=by
    rw[F5];simp only[beq_iff_eq,decide_eq_true_eq];exact⟨λe=>⟨h,by omega⟩,λ⟨_,e⟩=>by omega⟩
   rw[this]
  ·rw[decide_eq_false (by omega:¬ (a:Int)<(FK t:Int))];simp only[cond_false,u];rw[decide_eq_false (λ⟨Y,_⟩=>h Y)]
theorem ze {α β:Type}{k:α->Int}{v:Int}{x:α}{g:β->α->β}{G:β->β}(I:∀ c p,k p≠v->g c p=c)(O:k x=v)(J:∀ c,g c x=G c):∀ {l:List α} {c:β},Asc k l->x∈l->l.foldl g c=G c:=by
 have no:∀ {l:List α} {c:β},(∀ p∈l,k p≠v)->l.foldl g c=c:=by
  intro l;induction l with
  |nil=>exact λ_=>rfl
  |cons p l z=>exact λh=>by rw[GO,I _ _ (h p (by simp))];exact z λq y=>h q (by simp[y])
 intro l;induction l with
 |nil=>exact λ_ h=>by simp at h
 |cons p l z =>
  intro c H M;rw[GO];have u:Asc k l:=(F3.1 H).2;have r:=(F3.1 H).1;rcases FY.1 M with rfl|h
  ·rw[J];exact no λq y=>by have:=r q y;omega
  ·rw[I _ _ (by have:=r x h;omega)];exact z u h
theorem CQ (n:aa)(h:UpN n)(r:¬ (aa.probe n).1<0):(bif decide (60000<wr .i64 (wr .i64 (wr .i64 (cg n-(aa.probe n).2.1)*1000)+500)) then 60000 else wr .i64 (wr .i64 (wr .i64 (cg n-(aa.probe n).2.1)*1000)+500))=gy n:=by
 obtain⟨y,z⟩:=(nd h.x r).2.2.2;have u:=h.now1;rw[aC (n:=cg n-_) (by omega) (by omega),aC (n:=_*1000) (by omega) (by omega),aC (by omega) (by omega)];unfold gy iZ;rw[if_neg (by omega)];by_cases h:(cg n-(aa.probe n).2.1)*1000+500>60000
 ·rw[if_pos h,decide_eq_true (by omega)];rfl
 ·rw[if_neg h,decide_eq_false (by omega)];rfl
theorem fit3 (l:List Int)(t:Int)(r:l.length<=3):decide ((FK l+FK [t])*8<=am)=true:=szb _ _ _ (by omega) (by show l.length+[t].length<=_;simp;omega)
theorem Bh (l:List Int)(t:Int)(u:l.length<=3):(bif decide (wr .i64 ((FK (l++[t]):Int)-3)<0) then 0 else wr .i64 ((FK (l++[t]):Int)-3))=(((l++[t]).length-3:Nat):Int):=by
 have r:(l++[t]).length=l.length+1:=by simp
 rw[aC (n:=((l++[t]).length:Int)-3) (by omega) (by omega)];by_cases h:((l++[t]).length:Int)-3<0
 ·rw[decide_eq_true h];simp only[cond_true];omega
 ·rw[decide_eq_false h];simp only[cond_false];omega
theorem cut3 (l:List Int)(t:Int):(decide (0<=(((l++[t]).length-3:Nat):Int))&&decide ((((l++[t]).length-3:Nat):Int)<=(FK (l++[t]):Int))&&decide ((FK (l++[t]):Int)<=(FK (l++[t]):Int))&&true)=true:=by
 rw[decide_eq_true (by omega:(0:Int)<=(((l++[t]).length-3:Nat):Int)),decide_eq_true (by omega:(((l++[t]).length-3:Nat):Int)<=((l++[t]).length:Int)),decide_eq_true (FZ _)];rfl
theorem zf (l:List Int)(t:Int)(u:l.length<=3):Q8.f K (((l++[t]).take (FN (FK (l++[t]):Int))).drop (FN (((l++[t]).length-3:Nat):Int)),())=some ((dC l t,()),()):=by
 have r:(l++[t]).length=l.length+1:=by simp
 simp only[FO,GE,Q8.f];exact dR (by rw[GJ];omega)
theorem xx (l:List Int)(t:Int):(dC l t).length<=3:=by
 unfold dC;rw[GJ];omega
def jS (v:Int):List Int->List Int
 |[]=>[v]
 |b::r=>if b<=v then b::jS v r else v::b::r
theorem uG (v:Int):∀ l:List Int,(jS v l).length=l.length+1
 |[]=>rfl
 |b::r=>by
  unfold jS;split
  ·rw[F0,uG v r,F0]
  ·rfl
theorem BW (x:ab Q175.ps)(us:List Int)(i:Nat)(H:i<us.length)(X:i<=1000)(r:Q175.A0->Option Q175.Res):∀ (B A:List Int) (k:Nat),A.length+B.length<=500->B.length<k ->
  ae (λy a=>Q175.s1 K x r y a) k (us,A++B,(i:Int),(A.length:Int))=r (us,A++jS us[i] B,((i+1:Nat):Int)):=by
 have u:∀ A B:List Int,A.length+B.length<=500->(bif decide (0<=0)&&decide (0<=(A.length:Int))&&decide ((A.length:Int)<=(FK (A++B):Int))&&true then (bif decide ((FK ([]:List (Ty.den (.int .i64)))+FK (((A++B).take (FN (A.length:Int))).drop (FN 0)))*8<=am) then ((idx us (i:Int)).bind λJ=>bif decide ((FK ([]++(((A++B).take (FN (A.length:Int))).drop (FN 0)))+FK ([J]))*8<=am) then (bif decide (0<=(A.length:Int))&&decide ((A.length:Int)<=(FK (A++B):Int))&&decide ((FK (A++B):Int)<=(FK (A++B):Int))&&true then (bif decide ((FK (([]++(((A++B).take (FN (A.length:Int))).drop (FN 0)))++([J]))+FK (((A++B).take (FN (FK (A++B):Int))).drop (FN (A.length:Int))))*8<=am) then (r (us,(([]++(((A++B).take (FN (A.length:Int))).drop (FN 0)))++([J]))++(((A++B).take (FN (FK (A++B):Int))).drop (FN (A.length:Int))),wr .i64 ((i:Int)+1))) else none) else none) else none) else none) else none)=r (us,A++us[i]::B,((i+1:Nat):Int)):=by
  intro A B h;have hl:(A++B).length=A.length+B.length:=FS;have O:List.drop (FN 0) (List.take (FN (A.length:Int)) (A++B))=A:=by simp
  have R:List.drop (FN (A.length:Int)) (List.take (FN (FK (A++B):Int)) (A++B))=B:=by
   rw[FO,FO,GE];simp
  rw[O,R,decide_eq_true (F8 0),decide_eq_true (by omega:(0:Int)<=(A.length:Int)),decide_eq_true (by omega:(A.length:Int)<=(FK (A++B):Int)),decide_eq_true (FZ _),ar i (by omega)];simp only[Gy,cond_true,FV];rw[af H];simp only[FJ];have Z:decide ((FK ([]:List Int)+FK A)*8<=am)=true:=szb _ _ _ (by decide) (by simp;omega);have z2:decide ((FK A+FK [us[i]])*8<=am)=true:=szb _ _ _ (by decide) (by simp;omega);have z3:decide ((FK (A++[us[i]])+FK B)*8<=am)=true:=szb _ _ _ (by decide) (by simp;omega);refine (congrArg (λb=>bif b then _ else _) Z).trans ?_;refine (congrArg (λb=>bif b then _ else _) z2).trans ?_;refine (congrArg (λb=>bif b then _ else _) z3).trans ?_;simp only[cond_true,GU,Gs,FV]
 intro B;induction B with
 |nil =>
  intro A k h M;obtain⟨k,rfl⟩:∃ I,k=I+1:=⟨k-1,by omega⟩;show Q175.s1 K x r _ _=_;simp only[Q175.s1];rw[decide_eq_false (by simp:¬ (A.length:Int)<(FK (A++([]:List Int)):Int))];simp only[cond_false];exact u A [] h
 |cons b B Y =>
  intro A k h M;obtain⟨k,rfl⟩:∃ I,k=I+1:=⟨k-1,by omega⟩;show Q175.s1 K x r _ _=_;simp only[Q175.s1];rw[decide_eq_true (by simp only[FS,F0];omega:(A.length:Int)<(FK (A++b::B):Int)),rL,af H];simp only[cond_true,FJ];by_cases z:b<=us[i]
  ·rw[decide_eq_true z,ar A.length (by omega)];simp only[cond_true];have:=Y (A++[b]) k (by simp only[FS,F0,GA]at h ⊢;omega) (by simp at M;omega);rw[GU,GU,FS]at this;refine this.trans ?_;simp only[jS,if_pos z,Gs,FV]
  ·rw[decide_eq_false z];simp only[cond_false,jS,if_neg z];have:=u A (b::B) h;rw[af H]at this;exact this
def uH (l:List Int):List Int:=l.foldl (λs v=>jS v s) []
theorem CR (l:List Int)(X:l.length<=3)(R:Kb K):Q175.f K (l,())=some (((uH l).getD (((uH l).length-1) / 2) 0,()),()):=by
 simp only[Q175.f,Q175.pre];rw[decide_eq_false (by omega:¬ (l.length:Int)>3)];simp only[cond_false];have y:∀ (d i k:Nat) (r:List Int),i+d=l.length->d<k->r.length=i->ae (λrec a=>Q175.s0 K (l,()) (Q175.l1 K (l,()) rec) rec a) k (l,r,(i:Int))=some ((((l.drop i).foldl (λs v=>jS v s) r).getD ((((l.drop i).foldl (λs v=>jS v s) r).length-1) / 2) 0,()),()):=by
  intro d;induction d with
  |zero =>
   intro i k r J M I;obtain⟨k,rfl⟩:∃ H,k=H+1:=⟨k-1,by omega⟩;have:i=l.length:=by omega
   subst this;show (λrec a=>Q175.s0 K (l,()) (Q175.l1 K (l,()) rec) rec a) (ae _ k) _=_;simp only[Q175.s0];rw[aS,Gp];simp only[cond_false,Gg];by_cases z:r=[]
   ·subst z;rfl
   ·have Y:0<r.length:=List.length_pos_iff.2 z;rw[show ((r.length:Int)==0)=false by simp;exact z];simp only[cond_false];rw[aC (n:=(r.length:Int)-1) (by omega) (by omega),GX (by omega),aC (by omega) (by omega),show ((r.length:Int)-1) / 2=(((r.length-1) / 2:Nat):Int) by omega,af (by omega)];simp only[FJ];rw[List.getD_eq_getElem?_getD,GC (by omega)];rfl
  |succ d O =>
   intro i k r J M I;obtain⟨k,rfl⟩:∃ H,k=H+1:=⟨k-1,by omega⟩;have u:i<l.length:=by omega
   show (λrec a=>Q175.s0 K (l,()) (Q175.l1 K (l,()) rec) rec a) (ae _ k) _=_;simp only[Q175.s0];rw[bt (by omega:(i:Int)<(FK l:Int))];simp only[cond_true];refine (BW K (l,()) l i u (by omega) _ r [] K (by simp;omega) (by omega)).trans ?_;rw[FX u,GO];exact O (i+1) k (jS l[i] r) (by omega) (by omega) (by rw[uG,I])
 have:=y l.length 0 K [] (by omega) (by omega) rfl;rw[GF]at this;exact this
theorem tE (a b:Int):(a<=b/\ltZ b a=false)\/(¬ a<=b/\ltZ b a=true):=by
 by_cases h:a<=b
 ·exact .inl ⟨h,decide_eq_false (by omega)⟩
 ·exact .inr ⟨h,decide_eq_true (by omega)⟩
theorem Az:∀ (l:List Int),l.length<=3->uH l=cI ltZ [] l
 |[],_=>rfl
 |[a],_=>rfl
 |[a,b],_=>by
  simp only[uH,GO,Gg,jS,cI,dk,Gn,List.reverse_nil,FV];rcases tE a b with ⟨u,r⟩|⟨u,r⟩ <;> rw[r] <;> simp[u]
 |[a,b,c],_=>by
  simp only[uH,GO,Gg,jS,cI,dk,Gn,List.reverse_nil,FV];rcases tE a b with ⟨u,r⟩|⟨u,r⟩ <;> rcases tE a c with ⟨H,y⟩|⟨H,y⟩ <;> rcases tE b c with ⟨I,z⟩|⟨I,z⟩ <;> (first|(exfalso;omega)|simp[u,H,I,r,y,z,jS,dk])
 |_::_::_::_::_,h=>by simp at h
theorem med_i (l:List Int)(u:l.length<=3)(r:Kb K):Q98.f K (l,())=some ((lA K l,()),()):=by
 refine Gm ?_ (Bc K l (by omega) r);rw[CR K l u r,Az l u];simp only[Q98.f];rw[decide_eq_true u];simp only[cond_true];refine (congrArg (λo=>FL (Option.map _ o) _) (un K l (by omega) r)).trans ?_;rfl
theorem xy (n:aa)(w:aj)(h:UpN n)(hw:bX (aj.coord w))(hb:jR n w=true)(hK:Kb K):Q99.f K (n,w,())=some ((),(cX K n w,())):=by
 have Y:=hb;simp only[jR,GG,Ga,decide_eq_false_iff_not,beq_iff_eq]at Y;obtain⟨⟨⟨h1,h2⟩,h3⟩,h4⟩:=Y;obtain⟨p1,p2,p3,_⟩:=nd h.x h1;rw[h2]at p1 p2 p3;have O:=h.x.places;have hl:=plen O;have ht:(bif decide (60000<wr .i64 (wr .i64 (wr .i64 (n.2.2.2.2.2.1-n.2.2.2.2.2.2.2.2.2.2.1.2.1)*1000)+500)) then 60000 else wr .i64 (wr .i64 (wr .i64 (n.2.2.2.2.2.1-n.2.2.2.2.2.2.2.2.2.2.1.2.1)*1000)+500))=gy n:=CQ n h h1;obtain⟨m,hm,lo,hi,hs⟩:=zd K (aa.places n) w.2.2.1 hl O.2 (λx hx=>(O.1 x hx).1) p2 hK;have hA:cX K n w=oc n (lg K (aa.coord n) (aj.coord w) (lA K (dC (ci (aa.places n) w.2.2.1) (gy n))) w.2.2.2.2.1) (gI n w):=by
  have a4:=rQ h.x hw hb;have a1:((w.2.2.1,aj.coord w,dC (ci (aa.places n) w.2.2.1) (gy n)):cm)∈gI n w:=by unfold gI jQ bD;simp
  unfold cX;rw[hb];simp only[cond_true];rw[ze (k:=λp:cm=>p.1) (v:=w.2.2.1) (g:=nc K w) (G:=λc=>lg K c (aj.coord w) (lA K (dC (ci (aa.places n) w.2.2.1) (gy n))) w.2.2.2.2.1) (λc p hp=>?_) rfl (λc=>?_) a4.2 a1]
  ·unfold nc;rw[show (p.1==w.2.2.1)=false by simpa using hp];rfl
  ·unfold nc;rw[beq_self_eq_true];rfl
 rw[hA];have X:=xx (ci (aa.places n) w.2.2.1) (gy n);have z:=pA O w.2.2.1;have J:=med_i K _ X hK;have M:=CP K (aa.coord n) (aj.coord w) (lA K (dC (ci (aa.places n) w.2.2.1) (gy n))) w.2.2.2.2.1 h.x.coord hK;simp only[Q99.f,zcp8];rw[ht];refine bT' hs ?_;simp only[FJ,FO,Nat.beq_refl,cond_true];by_cases hf:∃ h:m<(aa.places n).length,(aa.places n)[m].1=w.2.2.1
 ·rw[decide_eq_true hf];obtain⟨u,e⟩:=hf;simp only[FR,cond_false];have r:idx (aa.places n) (m:Int)=some (aa.places n)[m]:=af u;have I:ci (aa.places n) w.2.2.1=(aa.places n)[m].2.2:=by unfold ci;rw[mR O.2 u e];rfl
  rw[I]at J M X z ⊢;have H:(aa.places n).set m (w.2.2.1,aj.coord w,dC (aa.places n)[m].2.2 (gy n))=gI n w:=by
   unfold gI jQ;rw[I];exact gY (k:=λx:cm=>x.1) O.2 u e
  refine bT' r ?_;simp only[FJ];refine bT' r ?_;simp only[FJ];refine bT' r ?_;simp only[FJ];rw[fit3 _ _ z,Bh _ _ z,cut3];simp only[cond_true];refine bT' (zf K _ _ z) ?_;simp only[FJ];refine bT' r ?_;simp only[FJ];refine bT' (oX u) ?_;simp only[FJ];rw[G0,e];refine bT' (oX u) ?_;simp only[FJ];refine bT' J ?_;simp only[FJ];refine bT' M ?_;rw[<- H];rfl
 ·rw[decide_eq_false hf];simp only[F9,cond_true];have a0:∀ j,(R:j<(aa.places n).length)->m<=j->w.2.2.1<(aa.places n)[j].1:=λj R a2=>by
   rcases Int.lt_or_eq_of_le (hi j R a2) with h|h
   ·exact h
   ·exfalso;rcases Gl a2 with h4|rfl
    ·have:(aa.places n)[m].1<(aa.places n)[j].1:=ct.1 O.2 m j (by omega) R h4;have h5:=hi m (by omega) (F8 _);omega
    ·exact hf ⟨R,h.symm⟩
  have I:ci (aa.places n) w.2.2.1=[]:=by
   unfold ci;rw[mo (k:=λp:cm=>p.1) (λy hy=>?_)]
   ·rfl
   ·obtain⟨j,R,rfl⟩:=F2 hy;show (aa.places n)[j].1≠_;by_cases a5:j<m
    ·have:=lo j R a5;omega
    ·have:=a0 j R (by omega);omega
  rw[I]at J M X z ⊢;have Z:Q10.f K (aa.places n,(m:Int),[(w.2.2.1,(0,0,0,0),[])],())=some (((aa.places n).take m++[(w.2.2.1,(0,0,0,0),[])]++(aa.places n).drop m,()),()):=jl hm (by decide) hl;have H:(aa.places n).take m++[(w.2.2.1,aj.coord w,dC [] (gy n))]++(aa.places n).drop m=gI n w:=by
   unfold gI jQ;rw[I];exact gu (k:=λx:cm=>x.1) hm lo a0
  have u:m<((aa.places n).take m++[((w.2.2.1,(0,0,0,0),[]):cm)]++(aa.places n).drop m).length:=by
   simp only[FS,FW,GJ,F0,GA];omega
  have r:idx ((aa.places n).take m++[((w.2.2.1,(0,0,0,0),[]):cm)]++(aa.places n).drop m) (m:Int)=some (w.2.2.1,(0,0,0,0),[]):=by
   rw[af u];congr 1;rw[List.getElem_append_left (by simp only[FS,FW,F0,GA];omega),List.getElem_append_right (by simp only[FW];omega)];simp[Gv hm]
  have a3:∀ v:cm,((aa.places n).take m++[((w.2.2.1,(0,0,0,0),[]):cm)]++(aa.places n).drop m).set m v=(aa.places n).take m++[v]++(aa.places n).drop m:=λv=>by
   rw[List.set_append_left _ _ (by simp only[FS,FW,F0,GA];omega),List.set_append_right _ _ (by simp only[FW];omega)];simp[Gv hm]
  refine bT' Z ?_;simp only[FJ];generalize hQ:(aa.places n).take m++[((w.2.2.1,(0,0,0,0),[]):cm)]++(aa.places n).drop m=Q at *;refine bT' r ?_;simp only[FJ];refine bT' r ?_;simp only[FJ];refine bT' r ?_;simp only[FJ];rw[fit3 _ _ z,Bh _ _ z,cut3];simp only[cond_true];refine bT' (zf K _ _ z) ?_;simp only[FJ];refine bT' r ?_;simp only[FJ];refine bT' (oX u) ?_;simp only[FJ];rw[G0];refine bT' (oX u) ?_;simp only[FJ];refine bT' J ?_;simp only[FJ];refine bT' M ?_;rw[<- H,<- a3];rfl
theorem BX {n:aa}(h:UpN n):(mp n).length<=8/\∀ x∈mp n,iL x:=by
 unfold mp;refine⟨?_,λx u=>?_⟩
 ·rw[Gd];exact F1 (Ge _ _) (jx h.x.table.2 λf r=>(h.x.table.1 f r).1)
 ·obtain⟨f,r,rfl⟩:=GB.1 u;exact⟨(h.x.table.1 f (GN.1 r).1).1,cf h.x.table⟩
theorem CS (w:bY)(c:Nat)(h:WI w c)(hc:c<=1000000)(e:ah)(h0:InP e.2.1 0 7)(O:Kb K):Tot (Q225.f K (w,e,())) λr=>WI r.1.1 (c+4):=by
 have a0:=h.len;have hs:=h.sides;obtain⟨a1,a2,u,keep⟩:=e;obtain⟨e0,e1⟩:=h0;simp only at e0 e1;obtain⟨i,rfl⟩:=GI e0;have X:i<w.1.length:=by omega
 have J:=h.node i X;have y:=h.mono (show c<=c+4 by omega);simp only[Q225.f];refine Tot.vl (af X) (Tot.vl (by rw[FO];exact af X) ?_);generalize w.1[i]=n at J ⊢;refine Tot.cnd (λ_=>?_) λ_=>Tot.cnd (λ_=>?_) λ_=>Tot.cnd (λ_=>?_) λ_=>?_
 ·
  rw[di];simp only[FJ];exact Tot.ix2 (by omega) (by omega) λ_ _ _=>Tot.ret ⟨y.len,y.node,y.radio,by show (w.2.2.1.set _ _).length=8;rw[F6];exact h.sides,y.born⟩
 ·
  simp only[Q223.f,FJ];refine Tot.ix2 (by omega) (by omega) λ_ _ _=>Tot.ret (y.put (i:=i) (n:=ka n.1 n.2.2.2.1) ?_ y.radio y.born)
  exact⟨J.me,J.lt,λM=>(by cases M),λ_=>rfl⟩
 ·
  exact Tot.cnd (λ_=>Tot.ret y) λ_=>Tot.bind (CM K w c h hc (i:Int) ⟨by omega,by omega⟩ O) λv H=>Tot.ret H
 ·refine Tot.cnd (λ_=>Tot.ret y) λM=>Tot.cnd (λ_=>Tot.ret y) λR=>?_
  have M:n.2.1=true:=by simpa using M
  have z:=J.up M;have set:=λ (m:aa) (Z:List aj) (I:UpN m) (em:m.1=n.1) (Y:∀ x∈Z,iL x) (hl:Z.length<=1000)=>CL K w i m Z [] c ⟨h,J.lt,J.of I em,Y,hl,F7 _,hc⟩ O
  refine Tot.cnd (λ_=>?_) λ_=>Tot.cnd (λ_=>?_) λ_=>Tot.cnd (λ_=>?_) λ_=>Tot.ret y
  ·refine Tot.cnd (λ_=>Tot.ret y) λI=>?_
   have I:cg n<999999:=by have I:¬ n.2.2.2.2.2.1>=999999:=of_decide_eq_false I;show n.2.2.2.2.2.1<999999;omega
   obtain⟨t1,t2,_⟩:=rN z I;obtain⟨w1,w2⟩:=CJ z I u;exact Tot.vl (CK K n u z R I O) (Tot.bind (set _ _ t1 t2 w2 (F1 w1 (by omega))) λv H=>Tot.ret H)
  ·obtain⟨t1,t2⟩:=Ao z R;obtain⟨w1,w2⟩:=BX t1;exact Tot.vl (BC K n z.nb z.ok M R O) (Tot.bind (set _ _ t1 t2 w2 (F1 w1 (by omega))) λv H=>Tot.ret H)
  ·refine Tot.bind (cK K u 0 7).tot λv H=>Tot.cnd (λ_=>Tot.ret y) λh1=>Tot.cnd (λ_=>Tot.ret y) λ_=>?_
   have hd:InP u 0 7:=H.1 (by simpa using h1);rw[de K,de K];simp only[FJ];refine Tot.cnd (λ_=>Tot.ret y) λ_=>?_
   refine Tot.vl (oZ K n 4 u (cf z.x.table)) (Tot.bind (set n _ z rfl (λx hx=>?_) (by simp)) λv H=>Tot.ret H);rw[FP.1 hx];exact⟨hd,cf z.x.table⟩
theorem do_t (w:bY)(c:Nat)(h:WI w c)(O:c<=1000000)(e:ah)(M:Kb K):Tot (Q227.f K (w,e,())) λr=>WI r.1.1 (c+4):=by
 have z:=h.mono (show c<=c+4 by omega);have hr:=h.radio.1;simp only[Q227.f];rw[aC (n:=(FK w.2.1:Int)-1) (by omega) (by omega)];have u:Tot ((Q112.f K (e.2.1,0,(FK w.2.1:Int)-1,())).bind λX=>bif !X.1.1 then (some ((w,false,()),())) else (bif e.1==2 then ((Q203.f K (w,e.2.1,e.2.2.2,())).bind λY=>some ((Y.1.1,true,()),())) else (bif e.1==4 then ((Q204.f K (w,e.2.1,e.2.2.1,())).bind λR=>some ((R.1.1,R.1.2.1,()),())) else ((Q196.f K (w.2.1,e.2.1,())).bind λZ=>some (((w.1,(Z.1.1,w.2.2)),true,()),()))))) λr=>WI r.1.1 (c+4):=by
  refine Tot.bind (cK K _ _ _).tot λv y=>Tot.cnd (λ_=>Tot.ret z) λI=>?_
  obtain⟨J,H⟩:InP e.2.1 0 ((FK w.2.1:Int)-1):=y.1 (by simpa using I);have H:e.2.1<(w.2.1.length:Int):=by omega
  refine Tot.cnd (λ_=>Tot.bind (BS K w c h O e.2.1 e.2.2.2 J H M) λv y=>Tot.ret y) λ_=>Tot.cnd (λ_=>Tot.bind (BT K w c h e.2.1 e.2.2.1 J H) λv y=>Tot.ret (WI.mono y (by omega))) λ_=>?_
  exact Tot.bind (sH K w.2.1 e.2.1 J H h.radio) λv y=>Tot.ret ⟨z.len,z.node,y,z.sides,z.born⟩
 refine Tot.cnd (λ_=>u) λ_=>Tot.cnd (λ_=>u) λ_=>Tot.cnd (λ_=>u) λ_=>?_
 exact Tot.bind (cK K _ _ _).tot λv y=>Tot.cnd (λ_=>Tot.ret z) λI=>Tot.bind (CS K w c h O e (y.1 (by simpa using I)) M) λv y=>Tot.ret y
theorem AA (w:bY)(O:w.1.length<=1048576)(I:∀ n∈w.1,NB n)(R:w.2.1.length<=1048576)(X:w.2.2.1.length<=1048576)(Y:w.2.2.2.length<=1048576)(y:Kb K):Q228.f K (w,())=some ((w,()),()):=by
 simp only[Q228.f,Q228.pre];rw[szb _ _ _ (by omega) (by show (FK ([]:List mr))+w.2.1.length<=_;simp;omega)];simp only[cond_true];rw[szb _ _ _ (by omega) (by show (FK ([]:List Int))+w.2.2.1.length<=_;simp;omega)];simp only[cond_true];rw[szb _ _ _ (by omega) (by show (FK ([]:List ah))+w.2.2.2.length<=_;simp;omega)];simp only[cond_true];have:∀ (d i k:Nat),i+d=w.1.length->d<k->ae (λrec a=>Q228.s0 K (w,()) rec a) k ((i:Int),w.1.take i)=some ((w,()),()):=by
  intro d;induction d with
  |zero =>
   intro i k z H;obtain⟨k,rfl⟩:∃ u,k=u+1:=⟨k-1,by omega⟩;have:i=w.1.length:=by omega
   subst this;show Q228.s0 K (w,()) _ _=_;simp only[Q228.s0,aS,GE];rfl
  |succ d M =>
   intro i k z H;obtain⟨k,rfl⟩:∃ u,k=u+1:=⟨k-1,by omega⟩;have r:i<w.1.length:=by omega
   show Q228.s0 K (w,()) _ _=_;simp only[Q228.s0];rw[bt (by omega:(i:Int)<(FK w.1:Int)),af r,ar i (by omega)];simp only[cond_true,FJ];refine bT' (nS K w.1[i] (I _ (FT r)) y) ?_;simp only[FJ];have J:decide (((w.1.take i).length+[w.1[i]].length)*232<=am)=true:=decide_eq_true (by
    rw[FW];simp only[F0,GA,am];omega)
   refine (congrArg (λb=>bif b then _ else _) J).trans ?_;have e:w.1.take i++[w.1[i]]=w.1.take (i+1):=by rw[GY,GC r];rfl
   rw[<- M (i+1) k (by omega) (by omega),<- e];rfl
 exact this w.1.length 0 K (by omega) (by omega)
theorem WI.copy {w:bY}{c:Nat}(h:WI w c)(M:c<=1000000)(K:Nat)(r:Kb K):Q228.f K (w,())=some ((w,()),()):=by
 have z:=h.len;have H:=h.radio.1;have I:=h.sides;have J:=h.born;refine AA K w (by omega) (λn y=>?_) (by omega) (by omega) (by omega) r;obtain⟨i,u,rfl⟩:=F2 y;exact (h.node i u).nb
theorem CT (w:bY)(c:Nat)(y:List ah)(h:WI w c)(hl:y.length<=1000)(Z:c<=900000)(O:Kb K):Tot (Q229.f K (w,y,())) λr=>WI r.1.1 (c+4*y.length)/\r.2.1=y:=by
 simp only[Q229.f,Q229.pre];refine Tot.iter (step:=Q229.s0 K (w,y,())) (λa=>0<=a.1/\a.1<=y.length/\WI a.2 (c+4*a.1.toNat)) (λa=>y.length-a.1.toNat) ?_ K _ (by show y.length-FN 0<K;omega) ⟨by show (0:Int)<=0;omega,by show (0:Int)<=_;omega,h⟩;rintro rec ⟨i,v⟩ ⟨M,X,H⟩ R;simp only at M X H R ⊢;simp only[Q229.s0];refine Tot.cnd (λz=>?_) λ_=>Tot.ret ⟨WI.mono H (by omega),rfl⟩
 have z:i<(y.length:Int):=of_decide_eq_true z;rw[aC (n:=i+1) (by omega) (by omega)];refine Tot.vl (H.copy (by omega) K O) (Tot.ix2 M z λe _ _=>Tot.bind (do_t K v _ H (by omega) e O) ?_);rintro⟨⟨v',ok,⟨⟩⟩,⟨⟩⟩ I;have I:WI v' (c+4*i.toNat+4):=I;have J:∀ u:bY,WI u (c+4*i.toNat+4)->Tot (rec (i+1,u)) λr=>WI r.1.1 (c+4*y.length)/\r.2.1=y:=λu Y=>R (i+1,u) ⟨by show 0<=i+1;omega,by show i+1<=_;omega,Y.mono (by show _<=c+4*(i+1).toNat;omega)⟩ (by show y.length-FN (i+1)<y.length-FN i;omega)
 exact Tot.cnd (λ_=>J v' I) λ_=>J v (H.mono (by omega))
theorem xA (hK:Kb K):Tot (Q144.f K ()) λr=>WI r.1.1 8:=by
 simp only[Q144.f,Q144.pre];refine Tot.iter (step:=Q144.s0 K ()) (λa=>0<=a.1/\a.1<=8/\a.2.1.length=a.1.toNat/\(∀ (j:Nat) (y:j<a.2.1.length),eN j a.2.1[j])/\a.2.2.1.length=a.1.toNat/\a.2.2.2.length=a.1.toNat) (λa=>8-a.1.toNat) ?_ K _ (by show 8-FN 0<K;omega) ⟨by show (0:Int)<=0;omega,by show (0:Int)<=8;omega,rfl,λj y=>(by cases y),rfl,rfl⟩;rintro rec ⟨i,z,X,O⟩ ⟨H,Y,Z,I,h4,h5⟩ R;simp only at H Y Z I h4 h5 R ⊢;simp only[Q144.s0];refine Tot.cnd (λu=>?_) λu=>?_
 ·have u:i<=7:=of_decide_eq_true u;rw[aC (n:=i+1) (by omega) (by omega)];simp only[Q132.f,FJ];refine Tot.vl (sJ K i _ ⟨H,u⟩) (Tot.fit (Tot.fit (Tot.vl (show idx (ng i (decide (GS i 4<3))).2.2.2.2.2.2.2.2.1 0=some (i,0,1,decide (GS i 4<3)) from rfl) (Tot.fit (R _ ⟨by show 0<=i+1;omega,by show i+1<=8;omega,?_,λj y=>?_,?_,?_⟩ (by show 8-FN (i+1)<8-FN i;omega)) (by omega) ?_)) (by omega) ?_) (by omega) ?_)
  ·show (z++[ng i _]).length=(i+1).toNat;simp;omega
  ·show eN j ((z++[ng i (decide (GS i 4<3))])[j]'y);rw[List.getElem_append];split
   ·exact I j _
   ·rename_i J;have y:j<(z++[ng i (decide (GS i 4<3))]).length:=y;have M:j=i.toNat:=by simp at y;omega
    subst M;have:=eN.new i.toNat (decide (GS i 4<3)) (by omega);rw[Gh H]at this;simpa using this
  ·show (X++[0]).length=(i+1).toNat;simp;omega
  ·show (O++[_]).length=(i+1).toNat;simp;omega
  ·simp;omega
  ·simp;omega
  ·simp;omega
 ·have J:=of_decide_eq_false u;refine Tot.ret ⟨?_,I,⟨F7 _,λf hf=>(nomatch hf)⟩,?_,?_⟩
  ·show z.length=8;omega
  ·show X.length=8;omega
  ·show O.length<=8;omega
abbrev LtP (v n:Int):Prop:=0<=v/\v<n
def bg (b:List Int)(m:Nat)(s:List Int×Int):Prop:=∃ q:Nat,q<=m/\s=(b,(q:Int))
theorem bg.up {b:List Int}{m:Nat}{s:List Int×Int}(h:bg b m s){m':Nat}(y:m<=m'):bg b m' s:=by obtain⟨q,u,r⟩:=h;exact⟨q,by omega,r⟩
section
variable {K:Nat} {b:List Int} {m:Nat} {s:List Int×Int}
theorem aD (h:gv b)(y:bg b m s)(n:Int)(u:1<=n)(I:m<=99000):Tot (Q129.f K (s,n,())) λr=>LtP r.1.1 n/\bg b (m+1) r.2.1:=by
 obtain⟨q,J,rfl⟩:=y;obtain⟨v,e,z,H⟩:=BH K b q n h (by omega) u;exact⟨_,e,⟨z,H⟩,q+1,by omega,rfl⟩
theorem CU (r:List Int)(z:∀ y∈r,0<=y/\y<=255)(I:r.length<=9223372036854775807):∃ u:List Int,gv u/\Q128.f K (r,())=some (((u,(0:Int)),()),()):=by
 simp only[Q128.f];by_cases h:(r.length:Int)>2000
 ·rw[decide_eq_true h,decide_eq_true (by omega:(2000:Int)<=(r.length:Int))];exact⟨(r.take 2000).drop 0,⟨λy H=>z y (GM (by simpa using H)),by simp;omega⟩,rfl⟩
 ·rw[decide_eq_false h];exact⟨r,⟨z,by omega⟩,rfl⟩
theorem zg (h:gv b)(O:bg b m s)(u:Int)(h0:0<=u)(h1:u<=1)(hm:m<=98000):Tot (Q133.f K (s,u,())) λr=>(bw r.1.1/\ak r.1.1.1=u)/\bg b (m+5) r.2.1:=by
 simp only[Q133.f];refine Tot.bind (aD h O 4 (by decide) (by omega)) λH ⟨⟨a1,b1⟩,R⟩=>Tot.bind (aD h R 3 (by decide) (by omega)) λv2 ⟨⟨a2,b2⟩,X⟩=>Tot.bind (aD h X 12 (by decide) (by omega)) λv3 ⟨⟨a3,b3⟩,Y⟩=>Tot.bind (aD h Y 3 (by decide) (by omega)) λv4 ⟨⟨J,M⟩,Z⟩=>Tot.ix2 J M λy z _=>Tot.bind (aD h Z 4 (by decide) (by omega)) λI ⟨⟨a5,b5⟩,s5⟩=>?_
 simp only[Q132.f,FJ];have z:InP y 0 999:=by
  simp only[FY,Gt,or_false]at z;rcases z with rfl|rfl|rfl <;> constructor <;> omega
 rw[aC (n:=u*4) (by omega) (by omega),aC (n:=u*4+H.1.1) (by omega) (by omega),aC (n:=1+I.1.1) (by omega) (by omega)];refine Tot.ret ⟨⟨⟨⟨?_,?_⟩,z,?_,?_⟩,?_⟩,s5⟩
 ·show (0:Int)<=u*4+H.1.1;omega
 ·show u*4+H.1.1<=7;omega
 ·show (1:Int)<=1+I.1.1;omega
 ·show (1:Int)+I.1.1<=4;omega
 ·show ak (u*4+H.1.1)=u;rw[jO ⟨by omega,by omega⟩];omega
theorem oe (h:gv b)(M:bg b m s)(hm:m<=97000):Tot (Q135.f K (s,())) λr=>bg b (m+8) r.2.1:=by
 simp only[Q135.f];refine Tot.bind (aD h M 2 (by decide) (by omega)) λY ⟨⟨I,b1⟩,O⟩=>Tot.bind (zg h O Y.1.1 I (by omega) (by omega)) λf ⟨_,R⟩=>Tot.bind (aD h R 12 (by decide) (by omega)) λZ ⟨_,H⟩=>?_
 have u:∀ {x y:Int} {G:(Int×Unit)×(List Int×Int)×Unit->Int->Option ((ah×Unit)×(List Int×Int)×Unit)},(∀ v z,Tot (G v z) λr=>r.2.1=v.2.1)->Tot ((Q129.f K (Z.2.1,2,())).bind λv=>(idx [x,y] v.1.1).bind λ_=>(idx [x,y] (FN v.1.1:Nat)).bind (G v)) λr=>bg b (m+8) r.2.1:=λJ=>Tot.bind (aD h H 2 (by decide) (by omega)) λv ⟨⟨a,b⟩,X⟩=>Tot.ix2 a b λz _ _=>(J v z).mono λr e=>by rw[e];exact X.up (by omega)
 refine Tot.cnd (λ_=>u λ_ _=>Tot.ret rfl) λ_=>Tot.cnd (λ_=>u λ_ _=>Tot.ret rfl) λ_=>Tot.cnd (λ_=>u λ_ _=>Tot.ret rfl) λ_=>Tot.cnd (λ_=>Tot.ret (H.up (by omega))) λ_=>Tot.ret (H.up (by omega))
theorem zh (t:List ah)(f:ah):(bZ t f).1.length<=t.length+1:=by
 rcases iF t f with e|e
 ·rw[e];omega
 ·rw[e];exact z9
theorem xB {t:List ah}{f:ah}{z:Int}(h:cn t z)(u:ak f.1=z):cn (bZ t f).1 z:=by
 rcases iF t f with e|e <;> rw[e]
 ·exact h
 ·intro g r;rcases bd.1 r with rfl|⟨r,_⟩
  ·exact u
  ·exact h g r
theorem o8 (h:gv b)(hs:bg b m s)(u:Int)(h0:-1<=u)(h1:u<=1)(hm:m<=96000)(hK:Kb K):Tot (Q134.f K (s,u,())) λr=>(aE r.1.1/\(0<=u->cn r.1.1 u)/\r.1.1.length<=5)/\bg b (m+31) r.2.1:=by
 simp only[Q134.f,Q134.pre];refine Tot.bind (aD h hs 6 (by decide) (by omega)) λv ⟨⟨v0,v1⟩,s1⟩=>?_
 refine Tot.iter (step:=Q134.s0 K (s,u,())) (λa=>∃ q:Nat,0<=a.2.1/\aE a.1/\(0<=u->cn a.1 u)/\(a.1.length:Int)+a.2.1<=5/\bg b q a.2.2/\q+6*a.2.1.toNat<=m+31) (λa=>a.2.1.toNat) ?_ K _ (by show v.1.1.toNat<K;omega) ⟨m+1,v0,⟨by simp,List.Pairwise.nil⟩,λ_ f Y=>(nomatch Y),by show ((0:Nat):Int)+v.1.1<=5;omega,s1,by show m+1+6*v.1.1.toNat<=m+31;omega⟩;rintro rec ⟨t,n,s2⟩ ⟨q,n0,O,X,hl,I,hq⟩ ih;simp only at n0 O X hl I hq ih ⊢;simp only[Q134.s0];refine Tot.cnd (λhn=>?_) λ_=>Tot.ret ⟨⟨O,X,by show t.length<=5;omega⟩,I.up (by omega)⟩
 have hn:n>0:=of_decide_eq_true hn;rw[aC (n:=n-1) (by omega) (by omega)];have go:∀ (z:Int) (J:Nat) (M:List Int×Int),0<=z->z<=1->(0<=u->z=u)->bg b J M->J<=q+1->Tot ((Q133.f K (M,z,())).bind λy3=>(Q131.f K (t,y3.1.1,())).bind λy4=>rec (y4.1.1,n-1,y3.2.1.1,y3.2.1.2)) λr=>(aE r.1.1/\(0<=u->cn r.1.1 u)/\r.1.1.length<=5)/\bg b (m+31) r.2.1:=λz J M z0 z1 hz a0 a2=>by
  refine Tot.bind (zg h a0 z z0 z1 (by omega)) λy ⟨⟨Y,Z⟩,a1⟩=>Tot.vl (xh K t y.1.1 (by omega) O.2 hK) (ih (_,_,y.2.1) ⟨J+5,by show 0<=n-1;omega,k8 O Y,λR=>xB (X R) (by rw[Z];exact hz R),?_,a1,by show J+5+6*(n-1).toNat<=m+31;omega⟩ (by show (n-1).toNat<n.toNat;omega))
  have:=zh t y.1.1;show ((bZ t y.1.1).1.length:Int)+(n-1)<=5;omega
 refine Tot.cnd (λH=>?_) λH=>?_
 ·have H:u<0:=of_decide_eq_true H;exact Tot.bind (aD h I 2 (by decide) (by omega)) λv ⟨⟨a,b⟩,M⟩=>go v.1.1 (q+1) v.2.1 a (by omega) (λR=>by omega) M (F8 _)
 ·have H:¬ u<0:=of_decide_eq_false H;exact go u q s2 (by omega) h1 (λ_=>rfl) I (by omega)
theorem qY (h:gv b)(R:bg b m s)(hm:m<=95000)(O:Kb K):Tot (Q136.f K (s,())) λr=>r.1.1.length<=6/\bg b (m+42) r.2.1:=by
 simp only[Q136.f];refine Tot.bind (o8 h R (-1) (by decide) (by decide) (by omega) O) λt ⟨⟨Z,_,hl⟩,J⟩=>?_
 refine Tot.cnd (λI=>?_) λ_=>Tot.ret ⟨by show t.1.1.length<=6;omega,J.up (by omega)⟩
 have I:(t.1.1.length:Int)>0:=of_decide_eq_true I;refine Tot.bind (aD h J 12 (by decide) (by omega)) λv2 ⟨_,M⟩=>Tot.cnd (λ_=>?_) λ_=>Tot.ret ⟨by show t.1.1.length<=6;omega,M.up (by omega)⟩
 refine Tot.bind (aD h M (t.1.1.length:Int) (by omega) (by omega)) λv3 ⟨⟨u,z⟩,X⟩=>Tot.bind (aD h X 3 (by decide) (by omega)) λv4 ⟨_,H⟩=>?_
 refine Tot.cnd (λ_=>Tot.bind (oe h H (by omega)) λf Y=>Tot.ix2 u z λ_ _ _=>Tot.ret ⟨by show (t.1.1.set _ _).length<=6;rw[F6];omega,Y.up (by omega)⟩) λ_=>?_
 refine Tot.cnd (λ_=>Tot.ix2 u z λy _ _=>Tot.fit (Tot.ret ⟨by show (t.1.1++[y]).length<=6;simp;omega,H.up (by omega)⟩) (by omega) (by simp;omega)) λ_=>Tot.ix2 u z λy _ _=>Tot.ret ⟨by show (t.1.1.set _ _).length<=6;rw[F6];omega,H.up (by omega)⟩
theorem BY (h:gv b)(Z:bg b m s)(u:Int)(R:-1<=u)(X:u<=1)(hm:m<=95000)(Y:Kb K):Tot (Q137.f K (s,u,())) λr=>r.1.1.length<=5/\bg b (m+36) r.2.1:=by
 simp only[Q137.f,Q137.pre];refine Tot.bind (o8 h Z u R X (by omega) Y) λt ⟨⟨hT,_,hl⟩,s1⟩=>?_
 refine Tot.iter (step:=Q137.s0 K (s,u,())) (λa=>a.2.1=t.1.1/\0<=a.2.2.1/\a.2.2.1<=t.1.1.length/\(a.1.length:Int)=a.2.2.1/\bg b (m+31+a.2.2.1.toNat) a.2.2.2) (λa=>t.1.1.length-a.2.2.1.toNat) ?_ K _ (by show t.1.1.length-FN 0<K;omega) ⟨rfl,by show (0:Int)<=0;omega,by show (0:Int)<=_;omega,rfl,s1⟩;rintro rec ⟨H,t',i,s2⟩ ⟨e,M,i1,J,z⟩ O;simp only at e M i1 J z O ⊢;subst e;simp only[Q137.s0];refine Tot.cnd (λI=>?_) λ_=>Tot.ret ⟨by show H.length<=5;omega,z.up (by omega)⟩
 have I:i<(t.1.1.length:Int):=of_decide_eq_true I;rw[aC (n:=i+1) (by omega) (by omega)];refine Tot.ix2 M I λy _ _=>Tot.bind (aD h z 4 (by decide) (by omega)) λv ⟨_,s3⟩=>Tot.fit (O (_,_,_,v.2.1) ⟨rfl,by show 0<=i+1;omega,by show i+1<=_;omega,?_,s3.up (by show _<=m+31+(i+1).toNat;omega)⟩ (by show t.1.1.length-(i+1).toNat<t.1.1.length-i.toNat;omega)) (by omega) (by simp;omega)
 show ((H++[_]).length:Int)=i+1;simp;omega
theorem xC (h:gv b)(Z:bg b m s)(hm:m<=94000)(Y:Kb K):Tot (Q138.f K (s,())) λr=>r.1.1.length<=6/\bg b (m+50) r.2.1:=by
 simp only[Q138.f];refine Tot.bind (BY h Z (-1) (by decide) (by decide) (by omega) Y) λt ⟨hl,M⟩=>?_
 refine Tot.cnd (λJ=>?_) λ_=>Tot.ret ⟨by show t.1.1.length<=6;omega,M.up (by omega)⟩
 have J:(t.1.1.length:Int)>0:=of_decide_eq_true J;refine Tot.bind (aD h M 10 (by decide) (by omega)) λv2 ⟨_,O⟩=>Tot.cnd (λ_=>?_) λ_=>Tot.ret ⟨by show t.1.1.length<=6;omega,O.up (by omega)⟩
 refine Tot.bind (aD h O (t.1.1.length:Int) (by omega) (by omega)) λv3 ⟨⟨u,z⟩,s3⟩=>Tot.bind (aD h s3 3 (by decide) (by omega)) λv4 ⟨_,H⟩=>?_
 refine Tot.cnd (λ_=>Tot.bind (aD h H 2 (by decide) (by omega)) λv5 ⟨⟨R,X⟩,I⟩=>Tot.ix2 R X λ_ _ _=>Tot.ix2 u z λ_ _ _=>Tot.ret ⟨by show (t.1.1.set _ _).length<=6;rw[F6];omega,I.up (by omega)⟩) λ_=>?_
 refine Tot.cnd (λ_=>Tot.bind (oe h H (by omega)) λf I=>Tot.ix2 u z λ_ _ _=>Tot.ret ⟨by show (t.1.1.set _ _).length<=6;rw[F6];omega,I.up (by omega)⟩) λ_=>?_
 exact Tot.ix2 u z λy _ _=>Tot.fit (Tot.ret ⟨by show (t.1.1++[y]).length<=6;simp;omega,H.up (by omega)⟩) (by omega) (by simp;omega)
theorem sL (h:gv b)(J:bg b m s)(Z:m<=95000):Tot (Q140.f K (s,())) λr=>bg b (m+6) r.2.1:=by
 simp only[Q140.f,Q139.f];refine Tot.bind (aD h J 6 (by decide) (by omega)) λv1 ⟨_,z⟩=>Tot.cnd (λ_=>Tot.ret (z.up (by omega))) λ_=>Tot.bind (aD h z 3 (by decide) (by omega)) λv3 ⟨⟨H,I⟩,M⟩=>Tot.ix2 H I λy u _=>?_
 have u:InP y 10 100000:=by
  simp only[FY,Gt,or_false]at u;rcases u with rfl|rfl|rfl <;> constructor <;> omega
 rw[aC (n:=2*y) (by omega) (by omega),aC (n:=2*y+1) (by omega) (by omega),aC (n:=y+1) (by omega) (by omega)];exact Tot.bind (aD h M _ (by omega) (by omega)) λv6 ⟨_,O⟩=>Tot.bind (aD h O _ (by omega) (by omega)) λv7 ⟨_,R⟩=>Tot.bind (aD h R _ (by omega) (by omega)) λv8 ⟨_,X⟩=>Tot.bind (aD h X _ (by decide) (by omega)) λv9 ⟨_,Y⟩=>Tot.ret Y
theorem ni (h:gv b)(z:bg b m s)(I:m<=94000):Tot (Q141.f K (s,())) λr=>bg b (m+8) r.2.1:=by
 simp only[Q141.f];exact Tot.bind (sL h z (by omega)) λc H=>Tot.bind (aD h H 16 (by decide) (by omega)) λJ ⟨_,y⟩=>Tot.cnd (λ_=>Tot.bind (aD h y 3 (by decide) (by omega)) λv ⟨⟨a,b⟩,u⟩=>Tot.ix2 a b λ_ _ _=>Tot.ret u) λ_=>Tot.cnd (λ_=>Tot.bind (aD h y 2 (by decide) (by omega)) λv ⟨⟨a,b⟩,u⟩=>Tot.ix2 a b λ_ _ _=>Tot.ret u) λ_=>Tot.cnd (λ_=>Tot.bind (aD h y 2 (by decide) (by omega)) λv ⟨⟨a,b⟩,u⟩=>Tot.ix2 a b λ_ _ _=>Tot.ret u) λ_=>Tot.ret (y.up (by omega))
theorem zi (h:gv b)(z:bg b m s)(w:bY)(I:m<=95000):Tot (Q230.f K (s,w,())) λr=>bg b (m+2) r.2.1:=by
 simp only[Q230.f];refine Tot.cnd (λ_=>Tot.ret (z.up (by omega))) λy=>?_
 have y:¬ (w.2.1.length:Int)=0:=by simpa using y
 refine Tot.bind (aD h z 3 (by decide) (by omega)) λJ ⟨_,H⟩=>Tot.cnd (λ_=>Tot.cnd (λ_=>Tot.bind (aD h H 4 (by decide) (by omega)) λv ⟨_,u⟩=>Tot.ret u) λ_=>?_) λ_=>?_ <;>
 exact Tot.bind (aD h H _ (by show (1:Int)<=(w.2.1.length:Int);omega) (by omega)) λv ⟨_,u⟩=>Tot.ret u
theorem BZ (h:gv b)(Y:bg b m s)(w:bY)(hm:m<=94000):Tot (Q231.f K (s,w,())) λr=>bg b (m+8) r.2.1:=by
 simp only[Q231.f];refine Tot.bind (aD h Y 8 (by decide) (by omega)) λv1 ⟨_,s1⟩=>Tot.bind (aD h s1 256 (by decide) (by omega)) λv2 ⟨_,s2⟩=>Tot.bind (aD h s2 16 (by decide) (by omega)) λv3 ⟨_,s3⟩=>Tot.bind (aD h s3 40 (by decide) (by omega)) λR ⟨_,y⟩=>?_
 have y:bg b (m+4) R.2.1:=y.up (by omega);generalize R.2.1=z at y ⊢;have u4:bg b (m+8) z:=y.up (by omega);have O:=zi (K:=K) h y w (by omega);have M:∀ n:Int,1<=n->Tot (Q129.f K (z,n,())) λr=>bg b (m+8) r.2.1:=λn H=>(aD h y n H (by omega)).mono λr I=>I.2.up (by omega)
 have Z:∀ (J:List Int×Int) (n:Int),bg b (m+4+2) J->1<=n->Tot (Q129.f K (J,n,())) λr=>bg b (m+8) r.2.1:=λJ n X H=>(aD h X n H (by omega)).mono λr I=>I.2.up (by omega)
 repeat' first
  |exact Tot.ret u4
  |exact Tot.bind O λv u=>Tot.ret (bg.up u (by omega))
  |exact Tot.bind O λv u=>Tot.bind (Z _ _ u (by decide)) λv u=>Tot.ret u
  |exact Tot.bind (M _ (by decide)) λv u=>Tot.ret u
  |exact Tot.bind (M _ (by decide)) λv u=>Tot.cnd (λ_=>Tot.ret u) λ_=>Tot.ret u
  |refine Tot.cnd (λ_=>?_) λ_=>?_
theorem B3 (h:gv b)(hs:bg b m s)(y:Int)(h1:1<=y)(h2:y<=200)(hm:m<=90000)(X:Kb K):Tot (Q232.f K (s,y,())) λr=>(WI r.1.2.1 2000/\r.1.1.length<=300)/\bg b (m+8*y.toNat+2) r.2.1:=by
 simp only[Q232.f,Q232.pre];have O:∀ (H:List ah) (n:Int) (z:List Int×Int) (w:bY) (q c:Nat),0<=n->n<y->H.length<=24->bg b q z->q<=m+2->WI w c->c<=200->Tot (Q232.l1 K (s,y,()) (H,n,z.1,z.2,w)) λr=>(WI r.1.2.1 2000/\r.1.1.length<=300)/\bg b (m+8*y.toNat+2) r.2.1:=λH n z w q c n0 n1 Y M hq I hc=>by
  refine Tot.iter (step:=Q232.s1 K (s,y,())) (λa=>∃ q c:Nat,0<=a.2.1/\a.2.1<y/\(a.1.length:Int)+a.2.1<=24+y/\bg b q (a.2.2.1,a.2.2.2.1)/\q+8*a.2.1.toNat<=m+8*y.toNat+2/\WI a.2.2.2.2 c/\c+4*a.2.1.toNat<=2000) (λa=>a.2.1.toNat) ?_ K _ (by show n.toNat<K;omega) ⟨q,c,n0,n1,by show (H.length:Int)+n<=_;omega,M,by show q+8*n.toNat<=_;omega,I,by show c+4*n.toNat<=2000;omega⟩;clear M hq I hc n0 n1 Y;rintro rec ⟨H,n,z1,z2,w⟩ ⟨q,c,n0,n1,Y,M,hq,I,hc⟩ ih;simp only at n0 n1 Y M hq I hc ih ⊢;simp only[Q232.s1];refine Tot.cnd (λhn=>?_) λ_=>Tot.vl (I.copy (by omega) K X) (Tot.ret ⟨⟨I.mono (by omega),by show H.length<=300;omega⟩,M.up (by omega)⟩)
  have hn:n>0:=of_decide_eq_true hn;rw[aC (n:=n-1) (by omega) (by omega)];refine Tot.bind (BZ h M w (by omega)) λe he=>Tot.fit (Tot.vl (I.copy (by omega) K X) (Tot.bind (do_t K w c I (by omega) e.1.1 X) ?_)) (by omega) (by simp;omega)
  rintro⟨⟨v',ok,⟨⟩⟩,⟨⟩⟩ hv;have R:∀ u:bY,WI u (c+4)->Tot (rec (H++[e.1.1],n-1,e.2.1.1,e.2.1.2,u)) λr=>(WI r.1.2.1 2000/\r.1.1.length<=300)/\bg b (m+8*y.toNat+2) r.2.1:=λu hu=>ih _ ⟨q+8,c+4,by show 0<=n-1;omega,by show n-1<y;omega,by show ((H++[e.1.1]).length:Int)+(n-1)<=_;simp;omega,he,by show q+8+8*(n-1).toNat<=_;omega,hu,by show c+4+4*(n-1).toNat<=2000;omega⟩ (by show (n-1).toNat<n.toNat;omega)
  exact Tot.cnd (λ_=>R v' hv) λ_=>R w (I.mono (by omega))
 refine Tot.bind (xA K X) λw0 Z=>Tot.bind (aD h hs 3 (by decide) (by omega)) λv2 ⟨_,s2⟩=>Tot.cnd (λ_=>?_) λ_=>Tot.bind (aD h s2 y h1 (by omega)) λv9 ⟨⟨a9,b9⟩,s9⟩=>O [] v9.1.1 v9.2.1 w0.1.1 (m+2) 8 a9 b9 (by simp) s9 (F8 _) Z (by omega)
 refine Tot.iter (step:=λrec a=>Q232.s0 K (s,y,()) (Q232.l1 K (s,y,())) rec a) (λa=>0<=a.2.1/\a.2.1<=8/\(a.1.length:Int)<=3*a.2.1/\bg b (m+1) (a.2.2.1,a.2.2.2.1)/\WI a.2.2.2.2 8) (λa=>8-a.2.1.toNat) ?_ K _ (by show 8-FN 0<K;omega) ⟨by show (0:Int)<=0;omega,by show (0:Int)<=8;omega,by show ((0:Nat):Int)<=3*0;omega,s2,Z⟩;rintro rec ⟨H,i,z1,z2,w⟩ ⟨i0,i1,Y,M,I⟩ ih;simp only at i0 i1 Y M I ih ⊢;simp only[Q232.s0];refine Tot.cnd (λhi=>?_) λ_=>?_
 ·have hi:i<=7:=of_decide_eq_true hi;rw[aC (n:=i+1) (by omega) (by omega)];have R:∀ J:List ah,(J.length:Int)<=3*(i+1)->Tot (rec (J,i+1,z1,z2,w)) λr=>(WI r.1.2.1 2000/\r.1.1.length<=300)/\bg b (m+8*y.toNat+2) r.2.1:=λJ a0=>ih _ ⟨by show 0<=i+1;omega,by show i+1<=8;omega,a0,M,I⟩ (by show 8-(i+1).toNat<8-i.toNat;omega)
  exact Tot.cnd (λ_=>Tot.fit (Tot.fit (R _ (by simp;omega)) (by omega) (by simp;omega)) (by omega) (by simp;omega)) λ_=>R H (by omega)
 ·refine Tot.bind (CT K w 8 H I (by omega) (by omega) X) λv ⟨hv,ev⟩=>Tot.bind (aD h M y h1 (by omega)) λv4 ⟨⟨a4,b4⟩,s4⟩=>?_
  exact O v.2.1 v4.1.1 v4.2.1 v.1.1 (m+1+1) _ a4 b4 (by rw[ev];omega) s4 (by omega) hv (by omega)
theorem B4 (h:gv b)(H:bg b m s)(z:m<=90000)(y:Kb K):Tot (Q233.f K (s,())) λr=>WI r.1.1 2000/\bg b (m+802) r.2.1:=by
 simp only[Q233.f];exact Tot.bind (B3 h H 100 (by decide) (by decide) z y) λv u=>Tot.ret ⟨u.1.1,u.2⟩
theorem EL (h:gv b)(J:bg b m s)(I:m<=90000)(z:Kb K):Tot (Q234.f K (s,())) λr=>(∃ i,eN i r.1.1)/\bg b (m+803) r.2.1:=by
 simp only[Q234.f];refine Tot.bind (B4 h J I z) λw ⟨u,O⟩=>Tot.bind (aD h O _ (by have:=u.len;show (1:Int)<=(w.1.1.1.length:Int);omega) (by omega)) λv ⟨⟨a,b⟩,R⟩=>Tot.ix a b λy M _=>Tot.ret ⟨?_,R⟩
 obtain⟨i,H,rfl⟩:=F2 M;exact⟨i,u.node i H⟩
structure NS (c:Nat) (n:aa):Prop where
 nb:NB n
 table:(aa.table n).length<=c
 cast:(aa.cast n).length<=c
 doubts:(aa.doubts n).length<=c
 places:(aa.places n).length<=c
 others:(aa.others n).length<=c
theorem eN.ns {i:Nat}{n:aa}(h:eN i n):NS 8 n:=by
 cases y:n.2.1 with
 |true =>
  have r:=h.up y;refine⟨h.nb,by have:=h.short;omega,by have:=clen r.x.say;omega,?_,?_,?_⟩
  ·exact F1 (jx r.x.say.asc r.x.say.inp) (by decide)
  ·exact F1 (jx r.x.places.2 λx u=>(r.x.places.1 x u).1) (by decide)
  ·exact F1 (jx r.x.others.2 λx u=>⟨(r.x.others.1 x u).1.1,GQ (r.x.others.1 x u).1.2 (by decide)⟩) (by decide)
 |false =>
  have e:=h.down y;refine⟨h.nb,?_,?_,?_,?_,?_⟩ <;> rw[e] <;> exact F7 _
theorem zj (h:gv b)(hs:bg b m s)(n:aa){c:Nat}(hn:NS c n)(h8:8<=c)(hc:c<=1000)(hm:m<=90000)(hK:Kb K):Tot (Q142.f K (s,n,())) λr=>NS (c+1) r.1.1/\bg b (m+60) r.2.1:=by
 simp only[Q142.f,zcp4,zcp8];rw[nS K n hn.nb hK];simp only[FJ];obtain⟨⟨n1,n2,n3,M,n5,O,n7,R⟩,Y,Z,l3,l4,l5⟩:=hn;refine Tot.bind (aD h hs 12 (by decide) (by omega)) λv2 ⟨_,I⟩=>?_
 have y:∀ (n':aa) (z:List Int×Int),n'.2.2.2.2.2.2.2.2=n.2.2.2.2.2.2.2.2->bg b (m+60) z->NS (c+1) n'/\bg b (m+60) z:=λn' z e hz=>by
  refine⟨⟨⟨?_,?_,?_,?_,?_,?_,?_,?_⟩,?_,?_,?_,?_,?_⟩,hz⟩ <;> simp only[aa.table,aa.cast,aa.doubts,aa.places,aa.others] <;> rw[e] <;> first|assumption|(refine F1 ?_ (Gf c);assumption)
 have u2:bg b (m+60) v2.2.1:=I.up (by omega);refine Tot.cnd (λ_=>Tot.bind (qY h I (by omega) hK) λt ⟨tl,J⟩=>Tot.ret ⟨⟨⟨by show t.1.1.length<=_;omega,n2,n3,M,n5,O,n7,R⟩,by show t.1.1.length<=_;omega,FM Z,FM l3,FM l4,FM l5⟩,J.up (by omega)⟩) λ_=>?_
 refine Tot.cnd (λ_=>Tot.bind (xC h I (by omega) hK) λt ⟨tl,J⟩=>Tot.ret ⟨⟨⟨n1,by show t.1.1.length<=_;omega,n3,M,n5,O,n7,R⟩,FM Y,by show t.1.1.length<=_;omega,FM l3,FM l4,FM l5⟩,J.up (by omega)⟩) λ_=>?_
 refine Tot.cnd (λ_=>Tot.ret (y _ _ rfl u2)) λ_=>?_
 refine Tot.cnd (λ_=>Tot.bind (aD h I 9 (by decide) (by omega)) λv5 ⟨_,s5⟩=>Tot.bind (aD h s5 3 (by decide) (by omega)) λv6 ⟨_,s6⟩=>Tot.bind (aD h s6 3 (by decide) (by omega)) λv7 ⟨_,s7⟩=>Tot.bind (aD h s7 2 (by decide) (by omega)) λv8 ⟨_,s8⟩=>Tot.ret ⟨⟨⟨n1,n2,n3,M,n5,O,n7,R⟩,FM Y,FM Z,FM l3,FM l4,FM l5⟩,s8.up (by omega)⟩) λ_=>?_
 refine Tot.cnd (λ_=>Tot.bind (aD h I 8 (by decide) (by omega)) λv9 ⟨_,X⟩=>Tot.bind (aD h X 8 (by decide) (by omega)) λa1 ⟨_,H⟩=>Tot.fit (Tot.ret ⟨⟨⟨n1,n2,?_,?_,n5,O,n7,R⟩,FM Y,FM Z,?_,FM l4,FM l5⟩,H.up (by omega)⟩) (by omega) ?_) λ_=>?_
 ·show (aa.doubts n++[_]).length<=_;simp;omega
 ·intro d u;rcases FQ.1 u with u|u
  ·exact M d u
  ·rw[FP.1 u];show ([a1.1.1]:List Int).length<=_;simp
 ·show (aa.doubts n++[_]).length<=_;simp;omega
 ·show (aa.doubts n).length+_<=_;simp;omega
 refine Tot.cnd (λ_=>Tot.bind (ni h I (by omega)) λc J=>Tot.ret ⟨⟨⟨n1,n2,n3,M,n5,O,n7,R⟩,FM Y,FM Z,FM l3,FM l4,FM l5⟩,J.up (by omega)⟩) λ_=>?_
 refine Tot.cnd (λ_=>Tot.bind (aD h I 9 (by decide) (by omega)) λv9 ⟨_,X⟩=>Tot.bind (ni h X (by omega)) λc H=>Tot.bind (aD h H 3 (by decide) (by omega)) λa2 ⟨_,a0⟩=>Tot.fit (Tot.ret ⟨⟨⟨n1,n2,n3,M,?_,?_,n7,R⟩,FM Y,FM Z,FM l3,?_,FM l5⟩,a0.up (by omega)⟩) (by omega) ?_) λ_=>?_
 ·show (aa.places n++[_]).length<=_;simp;omega
 ·intro d u;rcases FQ.1 u with u|u
  ·exact O d u
  ·rw[FP.1 u];show ([a2.1.1]:List Int).length<=_;simp
 ·show (aa.places n++[_]).length<=_;simp;omega
 ·show (aa.places n).length+_<=_;simp;omega
 refine Tot.cnd (λ_=>Tot.bind (aD h I 3 (by decide) (by omega)) λv9 ⟨_,X⟩=>Tot.bind (qY h X (by omega) hK) λt ⟨tl,H⟩=>Tot.fit (Tot.ret ⟨⟨⟨n1,n2,n3,M,n5,O,?_,?_⟩,FM Y,FM Z,FM l3,FM l4,?_⟩,H.up (by omega)⟩) (by omega) ?_) λ_=>?_
 ·show (aa.others n++[_]).length<=_;simp;omega
 ·intro d u;rcases FQ.1 u with u|u
  ·exact R d u
  ·rw[FP.1 u];show t.1.1.length<=_;omega
 ·show (aa.others n++[_]).length<=_;simp;omega
 ·show (aa.others n).length+_<=_;simp;omega
 refine Tot.cnd (λ_=>Tot.ret (y _ _ rfl u2)) λ_=>Tot.cnd (λ_=>Tot.ret (y _ _ rfl u2)) λ_=>?_
 refine Tot.cnd (λ_=>Tot.bind (aD h I 3 (by decide) (by omega)) λv ⟨⟨a,b⟩,J⟩=>Tot.ix2 a b λ_ _ _=>Tot.ret (y _ _ rfl (J.up (by omega)))) λ_=>?_
 exact Tot.bind (aD h I 8 (by decide) (by omega)) λv9 ⟨_,X⟩=>Tot.bind (aD h X 3 (by decide) (by omega)) λv ⟨⟨a,b⟩,J⟩=>Tot.ix2 a b λ_ _ _=>Tot.ret (y _ _ rfl (J.up (by omega)))
end
section
variable {K:Nat} {b:List Int} {m:Nat} {s:List Int×Int}
theorem EK (h:gv b)(Y:bg b m s)(hm:m<=89000)(u:Kb K):Tot (Q235.f K (s,())) λr=>NS 9 r.1.1/\bg b (m+864) r.2.1:=by
 simp only[Q235.f];refine Tot.bind (EL h Y (by omega) u) λn ⟨⟨i,y⟩,Z⟩=>Tot.bind (aD h Z 20 (by decide) (by omega)) λv ⟨_,z⟩=>Tot.cnd (λ_=>Tot.bind (zj h z n.1.1 y.ns (F8 _) (by omega) (by omega) u) λr X=>Tot.ret X) λ_=>Tot.ret ⟨?_,z.up (by omega)⟩
 obtain⟨H,I,J,M,O,R⟩:=y.ns;exact⟨H,FM I,FM J,FM M,FM O,FM R⟩
end
theorem bg.zero (b:List Int):bg b 0 (b,0):=⟨0,F8 _,rfl⟩
structure zk (code:List Int):Prop where
 byte:∀ y∈code,0<=y/\y<=255
 len:code.length<=9223372036854775807
theorem FF (u:List Int)(y:zk u)(H:Kb K):Tot (Q237.f K (u,())) λr=>NS 9 r.1.1:=by
 obtain⟨z,I,e⟩:=CU (K:=K) u y.byte y.len;simp only[Q237.f];exact Tot.vl e (Tot.bind (EK I (bg.zero z) (by omega) H) λn ⟨J,M⟩=>Tot.ret J)
theorem pB (xs:List Int)(z:xs.length<=1048576)(y:Kb K):Q108.f K (xs,xs,())=rb true:=by
 have u:Q108.l0 K (xs,xs,()) 0=rb true:=by
  refine fV (step:=Q108.s0 K (xs,xs,())) xs.length (λi=>(i:Int)) (rb true) ?_ ?_ (by omega)
  ·intro rec i r;simp only[Q108.s0];rw[decide_eq_true (by omega:(i:Int)<(FK xs:Int)),af r,ar i (by omega)];simp only[cond_true,FJ,bne_self_eq_false,cond_false]
  ·intro rec;simp only[Q108.s0,aS];rfl
 simp only[Q108.f,Q108.pre,bne_self_eq_false,cond_false];exact u
theorem uI (xs:List aO)(z:xs.length<=1048576)(y:Kb K):Q107.f K (xs,xs,())=rb true:=by
 have u:Q107.l0 K (xs,xs,()) 0=rb true:=by
  refine fV (step:=Q107.s0 K (xs,xs,())) xs.length (λi=>(i:Int)) (rb true) ?_ ?_ (by omega)
  ·intro rec i r;simp only[Q107.s0];rw[decide_eq_true (by omega:(i:Int)<(FK xs:Int)),af r,ar i (by omega)];simp only[cond_true,FJ];rw[show Ty.eqv t3 xs[i] xs[i]=true by
    show (Ty.eqv t2 xs[i].1 xs[i].1&&decide (xs[i].2=xs[i].2))=true;rw[show Ty.eqv t2 xs[i].1 xs[i].1=decide (xs[i].1=xs[i].1) from iE _ _,decide_eq_true rfl,decide_eq_true rfl];rfl]
   rfl
  ·intro rec;simp only[Q107.s0,aS];rfl
 simp only[Q107.f,Q107.pre,bne_self_eq_false,cond_false];exact u
theorem vP (n:aa)(u:NB n)(y:Kb K):Q109.f K (n,n,())=rb true:=by
 have J:Q109.l2 K (n,n,()) 0=rb true:=by
  have z:=u.others;refine fV (step:=Q109.s2 K (n,n,())) (aa.others n).length (λi=>(i:Int)) (rb true) ?_ ?_ (by omega)
  ·intro rec i r;simp only[Q109.s2];rw[bt (by omega:(i:Int)<(FK (aa.others n):Int)),af r,ar i (by omega)];simp only[cond_true,FJ,bne_self_eq_false,cond_false];refine bT' (lf K _ (u.facts _ (FT r)) y) rfl
  ·intro rec;simp only[Q109.s2,aS];rfl
 have I:Q109.l1 K (n,n,()) 0=rb true:=by
  have z:=u.places;refine fV (step:=λrec a=>Q109.s1 K (n,n,()) (Q109.l2 K (n,n,())) rec a) (aa.places n).length (λi=>(i:Int)) (rb true) ?_ ?_ (by omega)
  ·intro rec i r;simp only[Q109.s1];rw[bt (by omega:(i:Int)<(FK (aa.places n):Int)),af r,ar i (by omega)];simp only[cond_true,FJ,bne_self_eq_false,cond_false];rw[show Ty.eqv t9 (aa.places n)[i].2.1 (aa.places n)[i].2.1=decide ((aa.places n)[i].2.1=(aa.places n)[i].2.1) from qF _ _,decide_eq_true rfl];simp only[FR,cond_false];refine bT' (pB K _ (u.trips _ (FT r)) y) rfl
  ·intro rec;simp only[Q109.s1,aS];exact J
 have H:Q109.l0 K (n,n,()) 0=rb true:=by
  have z:=u.doubts;refine fV (step:=λrec a=>Q109.s0 K (n,n,()) (Q109.l1 K (n,n,())) rec a) (aa.doubts n).length (λi=>(i:Int)) (rb true) ?_ ?_ (by omega)
  ·intro rec i r;simp only[Q109.s0];rw[bt (by omega:(i:Int)<(FK (aa.doubts n):Int)),af r,ar i (by omega)];simp only[cond_true,FJ,bne_self_eq_false,cond_false];refine bT' (pB K _ (u.by_ _ (FT r)) y) rfl
  ·intro rec;simp only[Q109.s0,aS];exact I
 simp only[Q109.f,Q109.pre,bne_self_eq_false,cond_false];refine bT' (lf K (aa.table n) u.table y) ?_;simp only[rb,FJ,FR,cond_false];refine bT' (uI K (aa.cast n) u.cast y) ?_;simp only[rb,FJ,FR,cond_false];rw[show Ty.eqv t2 n.2.2.2.2.2.2.2.2.2.2.1 n.2.2.2.2.2.2.2.2.2.2.1=decide (aa.probe n=aa.probe n) from iE _ _,show Ty.eqv t9 n.2.2.2.2.2.2.2.2.2.2.2.2.1 n.2.2.2.2.2.2.2.2.2.2.2.2.1=decide (aa.coord n=aa.coord n) from qF _ _,decide_eq_true rfl,decide_eq_true rfl];exact H
theorem Dt {t:List ah}{f:ah}(r:aE t)(u:f∈t)(y:Kb K):Q22.f K (t,f.1,())=some ((f,true,()),()):=by
 rcases kg K t f.1 (cf r) y with ⟨h,_⟩|⟨_,⟨g,z,e,h⟩|⟨h,_⟩⟩
 ·exact absurd r h
 ·rw[h,iT r.2 z u e]
 ·exact absurd rfl (h f u)
theorem vQ (w:aj)(u:(aj.table w).length<=1048576)(r:Kb K):Q110.f K (w,w,())=rb true:=by
 simp only[Q110.f,beq_self_eq_true,cond_true];rw[show Ty.eqv t9 w.2.2.2.2.2.2.1 w.2.2.2.2.2.2.1=decide (w.2.2.2.2.2.2.1=w.2.2.2.2.2.2.1) from qF _ _,decide_eq_true rfl];simp only[cond_true];exact bT' (lf K (aj.table w) u r) rfl
theorem uJ (xs:List aj)(H:xs.length<=1048576)(z:∀ w∈xs,(aj.table w).length<=1048576)(u:Kb K):Q111.f K (xs,xs,())=rb true:=by
 have y:Q111.l0 K (xs,xs,()) 0=rb true:=by
  refine fV (step:=Q111.s0 K (xs,xs,())) xs.length (λi=>(i:Int)) (rb true) ?_ ?_ (by omega)
  ·intro rec i r;simp only[Q111.s0];rw[bt (by omega:(i:Int)<(FK xs:Int)),af r,ar i (by omega)];simp only[cond_true,FJ];exact bT' (vQ K _ (z _ (FT r)) u) rfl
  ·intro rec;simp only[Q111.s0,aS];rfl
 simp only[Q111.f,Q111.pre,bne_self_eq_false,cond_false];exact y
theorem ack_i {R:Type}(K:Nat)(n:aa)(w:aj)(h:UpN n)(M:bX (aj.coord w))(I:InP w.2.2.1 0 7)(z:Kb K)(G:aa->Option R) :
  (bif (aa.probe n).1==w.2.2.1 then (bif (aa.probe n).2.2.1==w.2.2.2.2.1 then (bif w.2.2.2.2.2.1==w.2.2.1 then ((Q99.f K (n,w,())).bind λO=>G O.2.1) else G n) else G n) else G n)=G (cX K n w):=by
 cases r:(aa.probe n).1==w.2.2.1 with
 |false=>rw[show cX K n w=n by unfold cX jR;rw[r];simp];rfl
 |true =>
  have J:¬ (aa.probe n).1<0:=by rw[beq_iff_eq.1 r];obtain⟨a,b⟩:=I;omega
  cases u:(aa.probe n).2.2.1==w.2.2.2.2.1 with
  |false=>rw[show cX K n w=n by unfold cX jR;rw[u];simp];rfl
  |true =>
   cases y:w.2.2.2.2.2.1==w.2.2.1 with
   |false=>rw[show cX K n w=n by unfold cX jR;rw[y];simp];rfl
   |true =>
    have H:jR n w=true:=by unfold jR;rw[decide_eq_false J,r,u,y];rfl
    simp only[cond_true];exact bT' (xy K n w h M H z) rfl
theorem B5 (n:aa)(w:aj)(X:NB n)(h:UpN n)(z:dz w)(H:ge n w)(I:Kb K):Q100.f K (n,w,())=some (((bO K n w).2,()),((bO K n w).1,())):=by
 by_cases u:w.2.1=2
 case neg=>exact CO K n w X h z H u I
 have r:=z.2.2.2.2.2.2.2.1;have M:w.2.1≠6:=by omega
 unfold bO;rw[if_pos ⟨z,H⟩,if_neg M];simp only[Q100.f,zcp4];rw[u,show ((2:Int)==6)=false from rfl,show ((2:Int)==1)=false from rfl,show ((2:Int)==3)=false from rfl,show ((2:Int)==4)=false from rfl];obtain⟨Y,J⟩:=jC z H M;have O:=(jP h H.2.1 r Y J).1;simp only[cond_false,cond_true,beq_self_eq_true];refine bT' (rK K n (aj.table w) w.2.2.1 h.learns r.1 (cf r) J.1 I) ?_;simp only[FJ];generalize gB n (aj.table w) w.2.2.1=m at O ⊢;have R:er K m w=(cX K m w,[]):=by unfold er;rw[u];rfl
 rw[R];exact ack_i K m w O z.2.2.2.2.2.2.1 J.1 I (λy=>some (([],()),(y,())))
theorem EQ (n:aa)(w:aj)(z:NB n)(Y:(aj.table w).length<=1048576)(u:Kb K):∃ y:aa,∃ M:List aj,NB y/\Q105.f K (n,w,())=some ((y,M,()),()) /\
  ((ff n/\dz w/\ge n w)->y=(bO K n w).1/\M=(bO K n w).2)/\(ff n->¬ (dz w/\ge n w)->y=n/\M=[]):=by
 obtain⟨b,Z,J⟩:=p8 K n z u;simp only[Q105.f,Q104.f];rw[Z];cases b with
 |false=>exact⟨mV,[],vD,rfl,λh=>(by have:=J.2 h.1;cases this),λh=>(by have:=J.2 h;cases this)⟩
 |true =>
  have O:=J.1 rfl;have I:n.2.1=true->UpN n:=λI=>UpN.of O I
  simp only[rb,FJ,FR,cond_false];rw[Aa K n z u];simp only[FJ,Q101.f];obtain⟨c,t2,t3⟩:=BV K n w z Y u;rw[t2];cases c with
  |false =>
   have r:¬ (dz w/\ge n w):=λh=>by have:=t3.2 ⟨O,h⟩;cases this
   exact⟨n,[],z,rfl,λh=>absurd h.2 r,λ_ _=>⟨rfl,rfl⟩⟩
  |true =>
   obtain⟨_,X,H⟩:=t3.1 rfl;have R:=I H.1;simp only[rb,FJ,FR,cond_false];rw[B5 K n w z R X H u];refine⟨(bO K n w).1,(bO K n w).2,(rS (w:=w) R u).1.nb,?_,λ_=>⟨rfl,rfl⟩,λ_ r=>absurd ⟨X,H⟩ r⟩;simp only[FJ,Q103.f];simp
theorem Dr {α:Type}{k:α->Int}:∀ {xs u:List α},Asc k xs->Asc k u->(∀ x,x∈xs<->x∈u)->xs=u
 |[],[],_,_,_=>rfl
 |[],y::u,_,_,h=>by have:=(h y).2 (by simp);simp at this
 |x::xs,[],_,_,h=>by have:=(h x).1 (by simp);simp at this
 |x::xs,y::u,M,O,h=>by
  have H:=F3.1 M;have I:=F3.1 O;have e:x=y:=by
   rcases FY.1 ((h x).1 (by simp)) with e|e
   ·exact e
   ·rcases FY.1 ((h y).2 (by simp)) with J|J
    ·exact J.symm
    ·have:=H.1 y J;have:=I.1 x e;omega
  subst e;rw[Dr H.2 I.2 λz=>⟨λr=>?_,λr=>?_⟩]
  ·rcases FY.1 ((h z).1 (FU _ r)) with rfl|e
   ·have:=H.1 _ r;omega
   ·exact e
  ·rcases FY.1 ((h z).2 (FU _ r)) with rfl|e
   ·have:=I.1 _ r;omega
   ·exact e
def Dh (fs:List ah)(g:ah):Prop:=g∈fs/\∀ h∈fs,h.1=g.1->rk h<=rk g
theorem Dy {f g:ah}(M:bw f)(O:bw g)(e:f.1=g.1)(h:rk f=rk g):f=g:=by
 obtain⟨_,_,z,H⟩:=M;obtain⟨_,_,I,J⟩:=O;obtain⟨a,b,c,d⟩:=f;obtain⟨R,r,u,y⟩:=g;unfold rk at h;simp only at h z H I J e;subst e;cases d <;> cases y <;> simp at h
 ·obtain rfl:b=r:=by omega
  obtain rfl:c=u:=by omega
  rfl
 ·omega
 ·omega
 ·obtain rfl:b=r:=by omega
  obtain rfl:c=u:=by omega
  rfl
theorem Df:∀ (B:List ah) (v:Int),(∃ h∈B,h.1=v)->∃ g∈B,g.1=v/\∀ h∈B,h.1=v->rk h<=rk g
 |[],_,⟨_,h,_⟩=>by simp at h
 |x::B,v,R=>by
  by_cases z:∃ h∈B,h.1=v
  ·obtain⟨g,M,e,I⟩:=Df B v z;by_cases H:x.1=v/\rk g<rk x
   ·refine⟨x,by simp,H.1,λh r y=>?_⟩;rcases FY.1 r with rfl|r
    ·exact FZ _
    ·have:=I h r y;omega
   ·refine⟨g,by simp[M],e,λh r y=>?_⟩;rcases FY.1 r with rfl|r
    ·exact Gx.1 λO=>H ⟨y,O⟩
    ·exact I h r y
  ·obtain⟨h,r,e⟩:=R;rcases FY.1 r with rfl|r
   ·refine⟨h,by simp,e,λJ u y=>?_⟩;rcases FY.1 u with rfl|u
    ·exact FZ _
    ·exact absurd ⟨J,u,y⟩ z
   ·exact absurd ⟨h,r,e⟩ z
theorem Du {t:List ah}(r:Asc (λg:ah=>g.1) t){g:ah}:Dh t g<->g∈t:=⟨λh=>h.1,λh=>⟨h,λy u e=>by rw[iT r u h e];exact FZ _⟩⟩
theorem Dx {A B:List ah}(h:∀ g,g∈A<->Dh B g)(fs:List ah)(g:ah):Dh (A++fs) g<->Dh (B++fs) g:=by
 constructor
 ·rintro⟨u,h2⟩;refine⟨?_,λx r e=>?_⟩
  ·rcases FQ.1 u with u|u
   ·exact F4 _ ((h g).1 u).1
   ·exact GL _ u
  ·rcases FQ.1 r with r|r
   ·obtain⟨m,O,J,M⟩:=Df B g.1 ⟨x,r,e⟩;have H:m∈A:=(h m).2 ⟨O,λy I z=>M y I (z.trans J)⟩;have:=h2 m (F4 _ H) J;have:=M x r e;omega
   ·exact h2 x (GL _ r) e
 ·rintro⟨u,h2⟩;refine⟨?_,λx r e=>?_⟩
  ·rcases FQ.1 u with u|u
   ·exact F4 _ ((h g).2 ⟨u,λy I z=>h2 y (F4 _ I) z⟩)
   ·exact GL _ u
  ·rcases FQ.1 r with r|r
   ·exact h2 x (F4 _ ((h x).1 r).1) e
   ·exact h2 x (GL _ r) e
theorem Dg {t:List ah}{f:ah}(z:aE t)(R:bw f){g:ah}:g∈(bZ t f).1<->Dh (t++[f]) g:=by
 have H:(∀ h∈t,h.1=f.1->rk h<rk f)->(g∈bD (λg:ah=>g.1) f t<->Dh (t++[f]) g):=λI=>by
  rw[bd];constructor
  ·rintro (rfl|⟨y,J⟩)
   ·refine⟨by simp,λx r e=>?_⟩;rcases FQ.1 r with r|r
    ·have:=I x r e;omega
    ·rw[FP.1 r];exact FZ _
   ·refine⟨by simp[y],λx r e=>?_⟩;rcases FQ.1 r with r|r
    ·rw[iT z.2 r y e];exact FZ _
    ·rw[FP.1 r]at e;exact absurd e.symm J
  ·rintro⟨y,J⟩;rcases FQ.1 y with y|y
   ·refine .inr ⟨y,λe=>?_⟩;have:=I g y e;have:=J f (by simp) e.symm;omega
   ·exact .inl (FP.1 y)
 by_cases h:∃ g∈t,g.1=f.1
 ·obtain⟨g0,u,M⟩:=h;obtain⟨i,Z,rfl⟩:=F2 u;rw[k7 z.2 Z M];by_cases I:bP f t[i]
  ·rw[if_pos I];exact H λh Y e=>by
    rw[iT z.2 Y u (e.trans M.symm)];exact (rM R (z.1 _ u)).1 I
  ·rw[if_neg I];have X:rk f<=rk t[i]:=Gx.1 λh=>I ((rM R (z.1 _ u)).2 h)
   show g∈t<->_;constructor
   ·intro O;refine⟨by simp[O],λx r e=>?_⟩;rcases FQ.1 r with r|r
    ·rw[iT z.2 r O e];exact FZ _
    ·rw[FP.1 r]at e ⊢;rw[<- iT z.2 u O (M.trans e)];exact X
   ·rintro⟨y,J⟩;rcases FQ.1 y with y|y
    ·exact y
    ·rw[FP.1 y]at J ⊢;have:=J t[i] (F4 _ u) M;rw[Dy R (z.1 _ u) M.symm (by omega)];exact u
 ·rw[iU λg O e=>h ⟨g,O,e⟩];exact H λx r e=>absurd ⟨x,r,e⟩ h
theorem Dq {fs:List ah}:∀ {t:List ah},aE t->(∀ f∈fs,bw f)->∀ g,g∈putAll t fs<->Dh (t++fs) g:=by
 induction fs with
 |nil=>intro t h _ g;rw[GW];exact (Du h.2).symm
 |cons f fs z =>
  intro t h u g;have r:=u f (by simp);show g∈putAll (bZ t f).1 fs<->_;rw[z (k8 h r) (λg y=>u g (by simp[y])),Dx (B:=t++[f]) (λx=>Dg h r) fs g,GU];rfl
theorem Dl {f:ah}{t:List ah}:(bD (λg:ah=>g.1) f t).map (·.1)=bD (λx:Int=>x) f.1 (t.map (·.1)):=by
 unfold bD;simp only[List.map_append,List.map_cons,List.filter_map];rfl
theorem Dn {t:List ah}(h:Asc (λg:ah=>g.1) t):Asc (λx:Int=>x) (t.map (·.1)):=List.pairwise_map.2 h
theorem Ds {ks:List Int}{v:Int}(r:Asc (λx:Int=>x) ks)(h:v∈ks):bD (λx:Int=>x) v ks=ks:=Dr (fI r) r λx=>by
 rw[bd];constructor
 ·rintro (rfl|⟨u,_⟩)
  ·exact h
  ·exact u
 ·intro y;by_cases e:x=v
  ·exact .inl e
  ·exact .inr ⟨y,e⟩
theorem Dj {t:List ah}(y:Asc (λg:ah=>g.1) t)(f:ah):(bZ t f).1.map (·.1)=bD (λx:Int=>x) f.1 (t.map (·.1)):=by
 by_cases h:∃ g∈t,g.1=f.1
 ·obtain⟨g0,r,u⟩:=h;obtain⟨i,I,rfl⟩:=F2 r;rw[k7 y I u];by_cases z:bP f t[i]
  ·rw[if_pos z];exact Dl
  ·rw[if_neg z];exact (Ds (Dn y) (by rw[<- u];exact GB.2 ⟨_,r,rfl⟩)).symm
 ·rw[iU λg H e=>h ⟨g,H,e⟩];exact Dl
structure Dd (me:Int) (A B:List ah):Prop where
 a:aE A
 b:aE B
 keys:A.map (·.1)=B.map (·.1)
 same:∀ g,g.1≠me->(g∈A<->g∈B)
theorem Dw {t:List ah}(u:aE t){f g:ah}(r:g.1≠f.1):g∈(bZ t f).1<->g∈t:=by
 rcases pt u.2 f with e|⟨e,_⟩
 ·rw[e]
 ·rw[e];show g∈bD _ _ _<->_;rw[bd];constructor
  ·rintro (rfl|⟨h,_⟩)
   ·exact absurd rfl r
   ·exact h
  ·exact λh=>.inr ⟨h,r⟩
theorem Dd.symm {r:Int}{A B:List ah}(h:Dd r A B):Dd r B A:=⟨h.b,h.a,h.keys.symm,λg u=>(h.same g u).symm⟩
theorem Dd.mine {r:Int}{A B:List ah}(h:Dd r A B)(z:r∈A.map (·.1)){f:ah}(e:f.1=r)(y:bw f):Dd r A (bZ B f).1:=by
 refine⟨h.a,k8 h.b y,?_,λg u=>?_⟩
 ·rw[Dj h.b.2,e,Ds (Dn h.b.2) (h.keys ▸ z),h.keys]
 ·rw[Dw h.b (by rw[e];exact u)];exact h.same g u
theorem Dd.other {I:Int}{A B:List ah}(h:Dd I A B){f:ah}(e:f.1≠I)(u:bw f):Dd I (bZ A f).1 (bZ B f).1:=by
 refine⟨k8 h.a u,k8 h.b u,?_,λg J=>?_⟩
 ·rw[Dj h.a.2,Dj h.b.2,h.keys]
 ·rw[Dg h.a u,Dg h.b u];have H:∀ x:ah,x.1=g.1->(x∈A++[f]<->x∈B++[f]):=λx M=>by
   rw[FQ,FQ,h.same x (by rw[M];exact J)]
  unfold Dh;rw[H g rfl];exact and_congr_right λ_=>forall_congr' λx=>⟨λy z r=>y ((H x r).2 z) r,λy z r=>y ((H x r).1 z) r⟩
theorem Dm (m:aa)(f:ah)(b:Int):aa.table (sayOf m f b)=(bZ (aa.table m) f).1:=by
 unfold sayOf;cases h:(bZ (aa.table m) f).2 with
 |true=>rfl
 |false =>
  have e:(bZ (aa.table m) f).1=aa.table m:=by
   revert h;unfold bZ;split
   ·split
    ·intro h;cases h
    ·exact λ_=>rfl
   ·intro h;cases h
  rw[e];rfl
theorem Do {m:aa}(h:UpN m):m.1∈(aa.table m).map (·.1):=by
 exact GB.2 ⟨_,h.self,rfl⟩
theorem Dv {m:aa}{B:List ah}{f:ah}{b:Int}(r:UpN m)(u:bw f)(h:Dd m.1 (aa.table m) B):Dd m.1 (aa.table (dI b m f)) (bZ B f).1:=by
 unfold dI;by_cases e:f.1=m.1
 ·rw[show (f.1==m.1)=true by simpa using e];show Dd m.1 (aa.table (e8 m f)) _;unfold e8;cases z:decide (bP f (aT (aa.table m) m.1))&&decide (f.2.1<999) with
  |false=>exact h.mine (Do r) e u
  |true =>
   rw[GG]at z;show Dd m.1 (aa.table (sayOf (gZ m (f.2.1+1)) (m.1,f.2.1+1,1,m.2.2.2.1) m.1)) _;rw[Dm];have y:=h.mine (Do r) e u;exact (y.symm.mine (y.keys ▸ Do r) (f:=(m.1,f.2.1+1,1,m.2.2.2.1)) rfl (rJ r.x.me u (of_decide_eq_true z.2))).symm
 ·rw[show (f.1==m.1)=false by simpa using e];show Dd m.1 (aa.table (sayOf m f b)) _;rw[Dm];exact h.other e u
theorem Di {b:Int}:∀ (fs:List ah) (m:aa) (B:List ah),UpN m->m.2.2.1=false->(∀ f∈fs,bw f/\ak f.1=ak m.1)->fX m b->Dd m.1 (aa.table m) B->Dd m.1 (aa.table (gB m fs b)) (putAll B fs)
 |[],_,_,_,_,_,_,h=>h
 |f::fs,m,B,J,O,y,u,h=>by
  obtain⟨H,M⟩:=y f (GP ..);obtain⟨R,z,X⟩:=uw J O H M u;have I:=Dv (b:=b) J H h;rw[<- z]at I ⊢;exact Di fs _ _ R X (λg r=>⟨(y g (FU _ r)).1,by rw[z];exact (y g (FU _ r)).2⟩) ⟨u.1,by rw[z];exact u.2⟩ I
theorem Dd.refl {r:Int}{A:List ah}(h:aE A):Dd r A A:=⟨h,h,rfl,λ_ _=>Gz⟩
def De (t x:List ah):Prop:=∀ f∈t,∃ g∈x,g.1=f.1/\rk f<=rk g
theorem De.refl (t:List ah):De t t:=λf r=>⟨f,r,rfl,FZ _⟩
theorem De.trans {a b c:List ah}(h:De a b)(h':De b c):De a c:=λf z=>by
 obtain⟨g,H,e,l⟩:=h f z;obtain⟨y,r,u,I⟩:=h' g H;exact⟨y,r,u.trans e,GQ l I⟩
theorem De.put {t:List ah}(H:aE t){f:ah}(I:bw f):De t (bZ t f).1:=λg u=>by
 obtain⟨m,J,e,r⟩:=Df (t++[f]) g.1 ⟨g,by simp[u],rfl⟩;exact⟨m,(Dg H I).2 ⟨J,λy M z=>r y M (z.trans e)⟩,e,r g (by simp[u]) rfl⟩
theorem De.putAll {t fs:List ah}(H:aE t)(I:∀ f∈fs,bw f):De t (putAll t fs):=λg u=>by
 obtain⟨m,J,e,r⟩:=Df (t++fs) g.1 ⟨g,by simp[u],rfl⟩;exact⟨m,(Dq H I m).2 ⟨J,λy M z=>r y M (z.trans e)⟩,e,r g (by simp[u]) rfl⟩
theorem D5 {m:aa}{f:ah}{b:Int}(r:aE (aa.table m))(u:bw f):De (aa.table m) (aa.table (sayOf m f b)):=by
 rw[Dm];exact De.put r u
theorem DY {m:aa}{f:ah}{b:Int}(r:UpN m)(y:bw f):De (aa.table m) (aa.table (dI b m f)):=by
 unfold dI;cases f.1==m.1 with
 |true =>
  show De _ (aa.table (e8 m f));unfold e8;cases u:decide (bP f (aT (aa.table m) m.1))&&decide (f.2.1<999) with
  |false=>exact De.refl _
  |true =>
   rw[GG]at u;show De (aa.table (gZ m (f.2.1+1))) (aa.table (sayOf (gZ m (f.2.1+1)) (m.1,f.2.1+1,1,m.2.2.2.1) m.1));have z:bw (m.1,f.2.1+1,1,m.2.2.2.1):=rJ r.x.me y (of_decide_eq_true u.2);have H:aE (aa.table (gZ m (f.2.1+1))):=r.x.table;rw[Dm];exact De.put H z
 |false =>
  show De (aa.table m) (aa.table (sayOf m f b));exact D5 r.x.table y
theorem DI {b:Int}:∀ (fs:List ah) (m:aa),UpN m->m.2.2.1=false->(∀ f∈fs,bw f/\ak f.1=ak m.1)->fX m b->De (aa.table m) (aa.table (gB m fs b))
 |[],_,_,_,_,_=>De.refl _
 |f::fs,m,H,M,y,u=>by
  obtain⟨z,J⟩:=y f (GP ..);obtain⟨O,I,R⟩:=uw H M z J u;exact (DY H z).trans (DI fs (dI b m f) O R (λg r=>⟨(y g (FU _ r)).1,by rw[I];exact (y g (FU _ r)).2⟩) ⟨u.1,by rw[I];exact u.2⟩)
def DA (m:aa)(f:ah):Prop:=∃ g∈aa.table m,g.1=f.1/\(rk f<=rk g\/(f.1=m.1/\¬ f.2.1<999))
theorem DA.keep {m m':aa}{f:ah}(h:DA m f)(M:De (aa.table m) (aa.table m'))(e:m'.1=m.1):DA m' f:=by
 obtain⟨g,J,y,h⟩:=h;obtain⟨z,u,r,O⟩:=M g J;refine⟨z,u,r.trans y,?_⟩;rcases h with h|⟨H,I⟩
 ·exact .inl (GQ h O)
 ·exact .inr ⟨by rw[e];exact H,I⟩
theorem DZ {m:aa}(h:UpN m):bw (aT (aa.table m) m.1)/\(aT (aa.table m) m.1).1=m.1/\aT (aa.table m) m.1∈aa.table m:=eP h.x.table ⟨_,h.self,rfl⟩
theorem DQ {m:aa}{f:ah}{b:Int}(h:UpN m)(J:bw f):DA (dI b m f) f:=by
 unfold dI;by_cases e:f.1=m.1
 ·rw[show (f.1==m.1)=true by simpa using e];show DA (e8 m f) f;obtain⟨o1,o2,o3⟩:=DZ h;unfold e8;cases I:decide (bP f (aT (aa.table m) m.1))&&decide (f.2.1<999) with
  |false =>
   refine⟨_,o3,o2.trans e.symm,?_⟩;by_cases X:bP f (aT (aa.table m) m.1)
   ·rw[decide_eq_true X,GV]at I;exact .inr ⟨e,of_decide_eq_false I⟩
   ·exact .inl (Gx.1 λZ=>X ((rM J o1).2 Z))
  |true =>
   rw[GG]at I;have Y:=rJ h.x.me J (of_decide_eq_true I.2);obtain⟨H,r,u,z⟩:=Df (aa.table (gZ m (f.2.1+1))++[((m.1,f.2.1+1,1,m.2.2.2.1):ah)]) m.1 ⟨(m.1,f.2.1+1,1,m.2.2.2.1),by simp,rfl⟩;refine⟨H,?_,u.trans e.symm,.inl ?_⟩
   ·show H∈aa.table (sayOf (gZ m (f.2.1+1)) (m.1,f.2.1+1,1,m.2.2.2.1) m.1);rw[Dm];exact (Dg (t:=aa.table (gZ m (f.2.1+1))) h.x.table Y).2 ⟨r,λy R M=>z y R (M.trans u)⟩
   ·have O:=z (m.1,f.2.1+1,1,m.2.2.2.1) (by simp) rfl;obtain⟨_,_,f3,f4⟩:=J;unfold rk at O ⊢;simp only at O;split <;> split at O <;> omega
 ·rw[show (f.1==m.1)=false by simpa using e];obtain⟨H,r,u,z⟩:=Df (aa.table m++[f]) f.1 ⟨f,by simp,rfl⟩;refine⟨H,?_,u,.inl (z f (by simp) rfl)⟩;show H∈aa.table (sayOf m f b);rw[Dm];exact (Dg h.x.table J).2 ⟨r,λy R M=>z y R (M.trans u)⟩
theorem DO {b:Int}:∀ (fs:List ah) (m:aa),UpN m->m.2.2.1=false->(∀ f∈fs,bw f/\ak f.1=ak m.1)->fX m b->(gB m fs b).1=m.1
 |[],_,_,_,_,_=>rfl
 |f::fs,m,J,M,y,u=>by
  obtain⟨H,I⟩:=y f (GP ..);obtain⟨O,z,R⟩:=uw J M H I u;exact (DO fs (dI b m f) O R (λg r=>⟨(y g (FU _ r)).1,by rw[z];exact (y g (FU _ r)).2⟩) ⟨u.1,by rw[z];exact u.2⟩).trans z
theorem DD {b:Int}:∀ (fs:List ah) (m:aa),UpN m->m.2.2.1=false->(∀ f∈fs,bw f/\ak f.1=ak m.1)->fX m b->∀ f∈fs,DA (gB m fs b) f
 |[],_,_,_,_,_,_,h=>by simp at h
 |f::fs,m,R,hg,I,H,Y,u=>by
  obtain⟨O,Z⟩:=I f (GP ..);obtain⟨J,X,M⟩:=uw R hg O Z H;have y:∀ g∈fs,bw g/\ak g.1=ak (dI b m f).1:=λg z=>⟨(I g (FU _ z)).1,by rw[X];exact (I g (FU _ z)).2⟩
  have r:fX (dI b m f) b:=⟨H.1,by rw[X];exact H.2⟩;rcases FY.1 u with rfl|u
  ·exact (DQ R O).keep (DI fs _ J M y r) (DO fs _ J M y r)
  ·exact DD fs _ J M y r Y u
structure Dz (m m':aa):Prop where
 me:m'.1=m.1
 inc:m'.2.2.2.2.1=m.2.2.2.2.1
 table:aa.table m'=aa.table m
 doubts:(aa.doubts m').length=(aa.doubts m).length
 others:aa.others m'=aa.others m
theorem Dz.refl (m:aa):Dz m m:=⟨rfl,rfl,rfl,rfl,rfl⟩
theorem Dz.trans {a b c:aa}(h:Dz a b)(h':Dz b c):Dz a c:=⟨h'.me.trans h.me,h'.inc.trans h.inc,h'.table.trans h.table,h'.doubts.trans h.doubts,h'.others.trans h.others⟩
theorem Dz.symm {a b:aa}(h:Dz a b):Dz b a:=⟨h.me.symm,h.inc.symm,h.table.symm,h.doubts.symm,h.others.symm⟩
end Go.Proofs.YtmibehbhnkeaiaaGreatEv
