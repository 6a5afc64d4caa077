/- What a node hears, by the specification: what it comes to. -/
import Derived.Test.YtaegajachoklkaaGreatP2
import Derived.Test.YtaegajachoklkaaGreatP1
set_option linter.unusedVariables false
set_option linter.unusedSimpArgs false
open Bool renaming not_true->B6,not_false->CQ,false_eq_true->Cj,not_eq_true'->Ck,and_eq_true->Cl,not_eq_true->Cm,eq_iff_iff->Cp
open Classical renaming not_not->Ca
open Int renaming toNat->BZ,toNat_natCast->B3,eq_ofNat_of_zero_le->CH,le_refl->CJ,toNat_zero->CR,tmod->CS,fdiv->Cc,toNat_of_nonneg->Cg,tmod_lt_of_pos->Ci,tmod_nonneg->Cq
open List renaming length->BV,mem_singleton->BY,getElem_mem->B4,length_append->B5,mem_append->B8,drop_eq_getElem_cons->CA,nil_append->CB,length_set->CC,getElem_of_mem->CD,mem_map->CE,filter_eq_self->CF,length_take->CG,filter_eq_nil_iff->CI,drop_zero->CK,mem_of_mem_take->CL,getElem?_eq_getElem->CM,length_map->CN,mem_filter->CO,length_nil->CP,length_filter_le->CT,take_length->CU,append_nil->CW,length_pos_iff->CX,pairwise_cons->CY,take_add_one->CZ,filter_cons->Cb,length_drop->Cd,length_take_le->Cf,filter_append->Ch,length_cons->Cn,not_mem_nil->Co,foldl_cons->Cr,mem_cons->Ct
open Nat renaming le_succ_of_le->BW,zero_le->B7,le_trans->B9,le_refl->CV,le_succ->Ce
open Option renaming bind_some->BU,bind->BX,map_some->Cs
namespace Go.Proofs.YtaegajachoklkaaGreatEv
open Go
theorem rB {α A R:Type}(k:α->Int)(x:α)(t:List α)(hA:Asc k t)(Z S1:List α->Nat->A)(I:List α->Option R){step:(A->Option R)->A->Option R}
  (h0:∀ (rec:A->Option R) (r:List α) (i:Nat) (O:i<t.length),r.length=i->(∀ y∈t.take i,k y<k x)->step rec (Z r i)=if k t[i]<k x then rec (Z (r++[t[i]]) (i+1)) else if k t[i]=k x then rec (S1 (r++[x]) (i+1)) else rec (S1 (r++[x]++[t[i]]) (i+1)))
  (h1:∀ (rec:A->Option R) (r:List α) (i:Nat) (O:i<t.length),r.length<=i+1->k x<k t[i]->step rec (S1 r i)=rec (S1 (r++[t[i]]) (i+1)))
  (e0:∀ (rec:A->Option R) (r:List α),r.length=t.length->(∀ y∈t,k y<k x)->step rec (Z r t.length)=I (r++[x]))
  (e1:∀ (rec:A->Option R) (r:List α),r.length<=t.length+1->step rec (S1 r t.length)=I r) {K:Nat} (Y:t.length<K):ae step K (Z [] 0)=I (bL k x t):=by
 have r1:∀ (n i K:Nat) (r:List α),i+n=t.length->n<K->r.length<=i+1->(∀ y∈t.drop i,k x<k y)->ae step K (S1 r i)=I (r++t.drop i):=by
  intro n;induction n with
  |zero =>
   intro i K r O Y M _;obtain⟨K,rfl⟩:∃ X,K=X+1:=⟨K-1,by omega⟩;have:i=t.length:=by omega
   subst this;show step (ae step K) _=_;rw[e1 _ _ M,List.drop_length,CW]
  |succ n ih =>
   intro i K r O Y M hg;obtain⟨K,rfl⟩:∃ X,K=X+1:=⟨K-1,by omega⟩;have u:i<t.length:=by omega
   rw[CA u]at hg;show step (ae step K) _=_;rw[h1 _ _ _ u M (hg _ (.head _)),ih (i+1) K _ (by omega) (by omega) (by simp;omega) (λy z=>hg y (.tail _ z)),CA u];simp
 have H:∀ i (O:i<t.length),∀ y∈t.drop (i+1),k t[i]<k y:=λi O y z=>by
  have:=List.Pairwise.drop (i:=i) hA;rw[CA O]at this;exact (CY.1 this).1 y z
 have r0:∀ (n i K:Nat) (r:List α),i+n=t.length->n<K->r=t.take i->(∀ y∈t.take i,k y<k x)->ae step K (Z r i)=I (bL k x t):=by
  intro n;induction n with
  |zero =>
   intro i K r O Y M J;obtain⟨K,rfl⟩:∃ X,K=X+1:=⟨K-1,by omega⟩;have:i=t.length:=by omega
   subst this;rw[CU]at M J;subst M;show step (ae step K) _=_;rw[e0 _ _ rfl J];unfold bL;rw[CF.2 (by simpa using J),CI.2 (λy z=>by have:=J y z;simp;omega)]
  |succ n ih =>
   intro i K r O Y M J;obtain⟨K,rfl⟩:∃ X,K=X+1:=⟨K-1,by omega⟩;have u:i<t.length:=by omega
   subst M;have a1:(t.take i).length=i:=by rw[CG];omega
   show step (ae step K) _=_;rw[h0 _ _ _ u a1 J];have a0:k x<=k t[i]->bL k x t=t.take i++x::(t.drop i).filter (λy=>decide (k x<k y)):=λhc=>by
    unfold bL;conv=>lhs;rw[<- List.take_append_drop i t]
    rw[Ch,Ch,CF.2 (by simpa using J),(CI (l:=t.take i)).2 (λy z=>by have:=J y z;simp;omega),CB];rw[CA u,Cb,if_neg (by simp;omega),CI.2 (λy z=>by have:=H i u y z;simp;omega),CW]
   by_cases hc:k t[i]<k x
   ·rw[if_pos hc];refine ih (i+1) K _ (by omega) (by omega) (by rw[CZ,CM u];rfl) λy z=>?_
    rw[CZ,CM u]at z;rcases B8.1 z with z|z
    ·exact J y z
    ·simp at z;rw[z];exact hc
   ·rw[if_neg hc,a0 (by omega),CA u];by_cases he:k t[i]=k x
    ·rw[if_pos he,r1 n (i+1) K _ (by omega) (by omega) (by simp;omega) (λy z=>by have:=H i u y z;omega),Cb,if_neg (by simp;omega),CF.2 (λy z=>by have:=H i u y z;simp;omega)];simp
    ·rw[if_neg he,r1 n (i+1) K _ (by omega) (by omega) (by simp;omega) (λy z=>by have:=H i u y z;omega),Cb,if_pos (by simp;omega),CF.2 (λy z=>by have:=H i u y z;simp;omega)];simp
 exact r0 t.length 0 K [] (by omega) Y rfl (by simp)
theorem xT {t:List af}{f:af}(h:∀ g∈t,g.1<f.1):(bW t f).1=t++[f]:=by
 rw[is (λg u e=>by have:=h g u;omega)];unfold bL;rw[CF.2 (by simpa using h),CI.2 (λy r=>by have:=h y r;simp;omega)]
theorem pZ:∀ {fs t:List af},Asc (λf:af=>f.1) fs->(∀ g∈t,∀ f∈fs,g.1<f.1)->fN t fs=t++fs
 |[],t,_,_=>by simp[fN]
 |f::fs,t,u,h=>by
  show fN (bW t f).1 fs=_;rw[xT (λg r=>h g r f (by simp)),pZ (CY.1 u).2 ?_]
  ·simp
  ·intro g r e y;rcases B8.1 r with r|r
   ·exact h g r e (by simp[y])
   ·rw[BY.1 r];exact (CY.1 u).1 e y
theorem wd {fs:List af}(h:az fs):fN [] fs=fs:=by
 rw[pZ h.2 (by simp)];rfl
theorem AE (K:Nat)(a b:List af)(u:az a)(r:az b)(y:1048577<K):Q161.f K (a,b,())=some ((fN a b,()),()):=by
 simp only[Q161.f,Q161.pre];obtain⟨X,J,H⟩:=gB K a (cM u) y;obtain⟨R,M,I⟩:=gB K b (cM r) y;have:=cM u;have:=cM r;rw[J,M,H.2 u,I.2 r];simp only[BU,B6,cond_false];rw[szb _ _ _ (by omega) (by show (BV ([]:List af))+a.length<=_;simp;omega)];simp only[cond_true,CB];refine ux a b u r.1 (step:=λrec x=>Q161.s0 K (a,b,()) rec x) (λt=>some ((t,()),())) ?_ ?_ (by omega)
 ·intro rec t i O z;simp only[Q161.s0];rw[bG (by omega:(i:Int)<(BV b:Int)),ag O,aq i (by omega)];simp only[cond_true,BU];rw[vV K t _ (cM z) z.2 y];rfl
 ·intro rec t;simp only[Q161.s0,aZ];rfl
theorem tz {r:Int}{l:List cY}(h:dg r l)(s:Int):az (dr l s):=by
 rcases mW (l:=l) (s:=s) with e|⟨x,u,_,e⟩ <;> rw[e]
 ·exact⟨by simp,List.Pairwise.nil⟩
 ·exact (h.1 x u).2.2.2.1
theorem olen {u:Int}{l:List cY}(h:dg u l):l.length<=1048576:=B9 (i9 h.2 λx r=>⟨(h.1 x r).1.1,Int.le_trans (h.1 x r).1.2 (by decide)⟩) (by decide)
theorem xU (K:Nat)(n:aa)(s:Int)(t:List af)(h:dg n.1 (aa.others n))(r:az t)(y:1048577<K):Q162.f K (n,s,t,())=some ((fN (dr (aa.others n) s) t,()),()):=by
 have z:=olen h;refine pL (step:=λrec a=>Q162.s0 K (n,s,t,()) rec a) (aa.others n) s (λl=>some ((fN l t,()),())) ?_ ?_ (aa.others n).length 0 K (by omega) (by omega)
 ·intro rec i u;simp only[Q162.s0];rw[bG (by omega:(i:Int)<(BV (aa.others n):Int)),ag u,aq i (by omega)];simp only[cond_true,BU];cases (aa.others n)[i].1==s with
  |false=>rfl
  |true=>exact (congrArg (λo=>BX o _) (AE K _ t (h.1 _ (B4 u)).2.2.2.1 r y)).trans rfl
 ·intro rec;simp only[Q162.s0,aZ,cond_false];rw[wd r];refine (congrArg (λb=>bif b then _ else _) (szb (BV ([]:List af)) t.length 32 (by omega) ?_)).trans rfl;have:=cM r;simp;omega
theorem sum_s (K:Nat)(n:aa)(s:Int)(t:List af)(h:dg n.1 (aa.others n))(R:1048577<K):Q163.f K (n,s,t,())=some ((setO n (bL (λx:cY=>x.1) (s,t) (aa.others n)),()),()):=by
 have X:=olen h;refine rB (step:=λrec a=>Q163.s0 K (n,s,t,()) rec a) (λx:cY=>x.1) (s,t) (aa.others n) h.2 (λr i=>(r,false,(i:Int))) (λr i=>(r,true,(i:Int))) (λo=>some ((setO n o,()),())) ?_ ?_ ?_ ?_ (by omega)
 ·intro rec r i I H _;simp only[Q163.s0,zcp4,zcp8];rw[bG (by omega:(i:Int)<(BV (aa.others n):Int)),ag I,aq i (by omega)];simp only[cond_true,BU,CQ];have u:=szb r.length 1 32 (by omega) (by omega);have O:=szb (r++[(s,t)]).length 1 32 (by omega) (by simp;omega);generalize (aa.others n)[i]=y at *;by_cases J:y.1<s
  ·rw[if_pos J,show decide (y.1>=s)=false from decide_eq_false (by omega),show (y.1 != s)=true by simp;omega];exact (congrArg (λb=>bif b then _ else _) u).trans rfl
  ·rw[if_neg J,show decide (y.1>=s)=true from decide_eq_true (by omega)];refine (congrArg (λb=>bif b then _ else _) u).trans ?_;by_cases z:y.1=s
   ·rw[if_pos z,show (y.1 != s)=false by simpa using z];rfl
   ·rw[if_neg z,show (y.1 != s)=true by simpa using z];exact (congrArg (λb=>bif b then _ else _) O).trans rfl
 ·intro rec r i I H M;simp only[Q163.s0,zcp4,zcp8];rw[bG (by omega:(i:Int)<(BV (aa.others n):Int)),ag I,aq i (by omega)];simp only[cond_true,BU,B6,cond_false];have u:=szb r.length 1 32 (by omega) (by omega);rw[show ((aa.others n)[i].1 != s)=true by simp;have:s<_:=M;omega];exact (congrArg (λb=>bif b then _ else _) u).trans rfl
 ·intro rec r H _;simp only[Q163.s0,zcp4,zcp8,aZ,cond_false,CQ,cond_true];exact (congrArg (λb=>bif b then _ else _) (szb r.length 1 32 (by omega) (by omega))).trans rfl
 ·intro rec r H;simp only[Q163.s0,zcp4,zcp8,aZ,cond_false,B6];rfl
theorem zu (K:Nat)(a b:List af)(Y:a.length<=1048576)(Z:1048577<K):Q164.f K (a,b,())=rb (decide (a≠b)):=by
 simp only[Q164.f,Q164.pre];by_cases M:a.length=b.length
 ·rw[show ((BV a:Int) != (BV b:Int))=false by simp;omega];have:=bS (step:=λrec x=>Q164.s0 K (a,b,()) rec x) a.length (λi=>(i:Int)) (λj=>∃ (h:j<a.length) (X:j<b.length),a[j]≠b[j]) (rb false) (λ_=>rb true) ?_ ?_ a.length K 0 (by omega) (by omega)
  ·rcases this with ⟨H,z⟩|⟨j,_,H,⟨u,I,R⟩,_,z⟩
   ·refine (z:Q164.l0 K (a,b,()) 0=_).trans ?_;rw[decide_eq_false];rintro y;exact y (List.ext_getElem M λi u I=>Ca.1 λO=>H i (B7 _) u ⟨u,I,O⟩)
   ·refine (z:Q164.l0 K (a,b,()) 0=_).trans ?_;rw[decide_eq_true];rintro rfl;exact R rfl
  ·intro rec i J;simp only[Q164.s0];rw[bG (by omega:(i:Int)<(BV a:Int)),ag J,aq i (by omega),ag (show i<b.length by omega)];simp only[cond_true,BU];rw[show Ty.eqv t2 a[i] (b[i]'(by omega))=decide (a[i]=b[i]'(by omega)) from mV _ _];by_cases r:a[i]=b[i]'(by omega)
   ·exact .inl ⟨λ⟨_,_,h⟩=>h r,by rw[decide_eq_true r];rfl⟩
   ·exact .inr ⟨⟨J,by omega,r⟩,by rw[decide_eq_false r];rfl⟩
  ·intro rec;simp only[Q164.s0,aZ];rfl
 ·rw[show ((BV a:Int) != (BV b:Int))=true by simp;omega,decide_eq_true (show a≠b from λe=>M (by rw[e]))];rfl
theorem qK (K:Nat)(l:List Int)(t:Int)(u:l.length<=1048576):Q170.f K (l,t,())=some ((ib l t,()),()):=by
 simp only[Q170.f];rw[szb _ _ _ (by omega) (by show (BV ([]:List Int))+l.length<=_;simp;omega)];simp only[cond_true,CB];rw[szb _ _ _ (by omega) (by show l.length+[t].length<=_;simp;omega)];simp only[cond_true];have r:(l++[t]).length=l.length+1:=by simp
 show (bif decide (((l++[t]).length:Int)>3) then (bif decide (0<=wr .i64 (((l++[t]).length:Int)-3))&&decide (wr .i64 (((l++[t]).length:Int)-3)<=((l++[t]).length:Int))&&decide (((l++[t]).length:Int)<=((l++[t]).length:Int))&&true then some ((((l++[t]).take (BZ ((l++[t]).length:Int))).drop (BZ (wr .i64 (((l++[t]).length:Int)-3))),()),()) else none) else some ((l++[t],()),()))=_;by_cases h:l.length+1>3
 ·rw[aA (by omega) (by omega),decide_eq_true (by omega:((l++[t]).length:Int)>3),decide_eq_true (by omega:(0:Int)<=((l++[t]).length:Int)-3),decide_eq_true (by omega:((l++[t]).length:Int)-3<=((l++[t]).length:Int)),decide_eq_true (CJ _)];simp only[Bool.and_self,cond_true,ib];rw[show BZ (((l++[t]).length:Int)-3)=(l++[t]).length-3 by omega,B3,CU]
 ·rw[decide_eq_false (by omega:¬ ((l++[t]).length:Int)>3)];simp only[cond_false,ib];rw[show (l++[t]).length-3=0 by omega,CK]
theorem plen {r:Int}{l:List dR}(h:eK r l):l.length<=1048576:=B9 (i9 h.2 λx u=>(h.1 x u).1) (by decide)
theorem uA {u:Int}{l:List dR}(h:eK u l)(r:Int):(dN l r).length<=3:=by
 unfold dN;cases y:l.find? λp=>p.1==r with
 |none=>simp
 |some p =>
  have:=(h.1 p (List.mem_of_find?_eq_some y)).2.2.2.2.1.2;show p.2.2.length<=3;omega
theorem AF (K:Nat)(l:List dR)(r:Int)(c:dD)(t:Int)(me:Int)(h:eK me l)(hK:1048577<K):Q171.f K (l,r,c,t,())=some ((pf l r c t,()),()):=by
 have hl:=plen h;have h3:=uA h r;refine rB (step:=λrec a=>Q171.s0 K (l,r,c,t,()) rec a) (λx:dR=>x.1) (r,c,ib (dN l r) t) l h.2 (λu i=>(u,false,(i:Int),[])) (λu i=>(u,true,(i:Int),ib (dN l r) t)) (λo=>some ((o,()),())) ?_ ?_ ?_ ?_ (by omega)
 ·intro rec u i I R z;simp only[Q171.s0];rw[bG (by omega:(i:Int)<(BV l:Int)),ag I,aq i (by omega)];simp only[cond_true,BU,CQ];have O:=szb u.length 1 64 (by omega) (by omega);have z2:=szb (u++[(r,c,ib (dN l r) t)]).length 1 64 (by omega) (by simp;omega);have X:l[i].1=r->dN l r=l[i].2.2:=λe=>by unfold dN;rw[pa h.2 I e];rfl
  have J:r<l[i].1->dN l r=[]:=λe=>by
   unfold dN;rw[nV (k:=λp:dR=>p.1)]
   ·rfl
   intro y M;obtain⟨j,hj,rfl⟩:=CD M;by_cases a1:j<i
   ·have:=z l[j] (by rw[List.mem_take_iff_getElem];exact⟨j,by omega,rfl⟩);show l[j].1≠r;have:l[j].1<r:=this;omega
   ·have:l[i].1<=l[j].1:=by
     by_cases e:i=j
     ·subst e;exact CJ _
     ·exact Int.le_of_lt (dw.1 h.2 i j I hj (by omega))
    show l[j].1≠r;omega
  have a0:=(h.1 _ (B4 I)).2.2.2.2.1.2;generalize l[i]=y at *;by_cases Z:y.1<r
  ·rw[if_pos Z,show decide (y.1>=r)=false from decide_eq_false (by omega),show (y.1 != r)=true by simp;omega,show (y.1==r)=false by simp;omega];exact (congrArg (λb=>bif b then _ else _) O).trans rfl
  ·rw[if_neg Z,show decide (y.1>=r)=true from decide_eq_true (by omega)];by_cases H:y.1=r
   ·rw[if_pos H,show (y.1 != r)=false by simpa using H,show (y.1==r)=true by simpa using H];simp only[cond_true,cond_false];rw[<- X H];refine (congrArg (λo=>BX o _) (qK K _ t (by omega))).trans ?_;exact (congrArg (λb=>bif b then _ else _) O).trans rfl
   ·rw[if_neg H,show (y.1 != r)=true by simpa using H,show (y.1==r)=false by simpa using H];simp only[cond_true,cond_false];have e:=J (by omega);rw[e]at z2 ⊢;refine (congrArg (λo=>BX o _) (qK K [] t (by simp))).trans ?_;refine (congrArg (λb=>bif b then _ else _) O).trans ?_;exact (congrArg (λb=>bif b then _ else _) z2).trans rfl
 ·intro rec u i I R Y;simp only[Q171.s0];rw[bG (by omega:(i:Int)<(BV l:Int)),ag I,aq i (by omega)];have Y:r<l[i].1:=Y;simp only[cond_true,BU,B6,cond_false];rw[show (l[i].1 != r)=true by simp;omega,show (l[i].1==r)=false by simp;omega];exact (congrArg (λb=>bif b then _ else _) (szb u.length 1 64 (by omega) (by omega))).trans rfl
 ·intro rec u R z;simp only[Q171.s0,aZ,cond_false,CQ,cond_true];have e:dN l r=[]:=by
   unfold dN;rw[nV (k:=λp:dR=>p.1) (λy M=>by have:y.1<r:=z y M;show y.1≠r;omega)];rfl
  rw[e];refine (congrArg (λo=>BX o _) (qK K [] t (by simp))).trans ?_;exact (congrArg (λb=>bif b then _ else _) (szb u.length 1 64 (by omega) (by omega))).trans rfl
 ·intro rec u R;simp only[Q171.s0,aZ,cond_false,B6]
def tA (n u r:Int):Int:=if n<u then u else if n>r then r else n
theorem z7 (K:Nat)(n y z:Int):Q169.f K (n,y,z,())=some ((tA n y z,()),()):=by
 simp only[Q169.f,tA];by_cases r:n<y
 ·rw[decide_eq_true r,if_pos r];rfl
 ·rw[decide_eq_false r,if_neg r];by_cases u:n>z
  ·rw[decide_eq_true u,if_pos u];rfl
  ·rw[decide_eq_false u,if_neg u];rfl
theorem AG {n u r:Int}(h:u<=r):InP (tA n u r) u r:=by
 unfold tA;split
 ·exact⟨CJ _,h⟩
 ·split
  ·exact⟨h,CJ _⟩
  ·exact⟨by omega,by omega⟩
def xV (n:aa):Int:=tA ((aL n-(aa.probe n).2.1)*1000+500) 1 60000
noncomputable def qL (K:Nat)(w:ar)(c:dD)(p:dR):dD:=bif p.1==w.2.2.1 then pY K c (ar.coord w) (su K p.2.2) w.2.2.2.2.1 else c
def kF (n:aa)(w:ar):List dR:=pf (aa.places n) w.2.2.1 (ar.coord w) (xV n)
def qM (n:aa)(w:ar):Bool:=!decide ((aa.probe n).1<0)&&(aa.probe n).1==w.2.2.1&&(aa.probe n).2.2.1==w.2.2.2.2.1&&w.2.2.2.2.2.1==w.2.2.1
noncomputable def fC (K:Nat)(n:aa)(w:ar):aa:=bif qM n w then pV n ((kF n w).foldl (qL K w) (aa.coord n)) (kF n w) else n
theorem va {K:Nat}{w:ar}{c:dD}{p:dR}(r:cJ c)(u:1048577<K):cJ (qL K w c p):=by
 unfold qL;cases p.1==w.2.2.1 with
 |false=>exact r
 |true=>exact (xS K c _ _ _ r u).2
theorem tB {n:aa}(h:UpX n)(H:¬ (aa.probe n).1<0):(aa.probe n).1≠n.1/\InP (aa.probe n).1 0 7/\ao (aa.probe n).1=ao n.1/\InP (aa.probe n).2.1 0 (aL n):=by
 have r:=h.probe;unfold c5 at r;rw[if_neg (by omega)]at r;obtain⟨y,⟨f,u,e⟩,z,_⟩:=r;exact⟨y,e ▸ (h.table.1 f u).1,e ▸ h.site f u,z⟩
theorem vd {n:aa}{w:ar}(h:UpX n)(H:cJ (ar.coord w))(u:qM n w=true):eK n.1 (kF n w):=by
 simp only[qM,Cl,Ck,decide_eq_false_iff_not,beq_iff_eq]at u;obtain⟨⟨⟨I,J⟩,O⟩,M⟩:=u;obtain⟨y,z,r,_⟩:=tB h I;rw[J]at y z r;exact wb h.places z r y H (AG (by decide))
theorem ack_s (K:Nat)(n:aa)(w:ar)(h:UpN n)(Y:cJ (ar.coord w))(I:1048577<K):Q182.f K (n,w,())=some ((fC K n w,()),()):=by
 simp only[Q182.f,Q182.pre,zc00556];have H:qM n w=(!decide ((aa.probe n).1<0)&&(aa.probe n).1==w.2.2.1&&(aa.probe n).2.2.1==w.2.2.2.2.1&&w.2.2.2.2.2.1==w.2.2.1):=rfl;by_cases r:(aa.probe n).1<0
 ·rw[show decide (n.2.2.2.2.2.2.2.2.2.2.1.1<0)=true from decide_eq_true r];rw[show fC K n w=n by unfold fC;rw[H,decide_eq_true r];rfl];rfl
 ·rw[show decide (n.2.2.2.2.2.2.2.2.2.2.1.1<0)=false from decide_eq_false r];cases u:(aa.probe n).1==w.2.2.1 with
  |false =>
   rw[show fC K n w=n by unfold fC;rw[H,decide_eq_false r,u];rfl];rw[show (n.2.2.2.2.2.2.2.2.2.2.1.1 != w.2.2.1)=true by unfold bne;rw[show (n.2.2.2.2.2.2.2.2.2.2.1.1==w.2.2.1)=false from u];rfl];rfl
  |true =>
   rw[show (n.2.2.2.2.2.2.2.2.2.2.1.1 != w.2.2.1)=false by unfold bne;rw[show (n.2.2.2.2.2.2.2.2.2.2.1.1==w.2.2.1)=true from u];rfl];cases z:(aa.probe n).2.2.1==w.2.2.2.2.1 with
   |false =>
    rw[show fC K n w=n by unfold fC;rw[H,decide_eq_false r,u,z];rfl];rw[show (n.2.2.2.2.2.2.2.2.2.2.1.2.2.1 != w.2.2.2.2.1)=true by unfold bne;rw[show (n.2.2.2.2.2.2.2.2.2.2.1.2.2.1==w.2.2.2.2.1)=false from z];rfl];rfl
   |true =>
    rw[show (n.2.2.2.2.2.2.2.2.2.2.1.2.2.1 != w.2.2.2.2.1)=false by unfold bne;rw[show (n.2.2.2.2.2.2.2.2.2.2.1.2.2.1==w.2.2.2.2.1)=true from z];rfl];cases J:w.2.2.2.2.2.1==w.2.2.1 with
    |false =>
     rw[show fC K n w=n by unfold fC;rw[H,decide_eq_false r,u,z,J];rfl];rw[show (w.2.2.2.2.2.1 != w.2.2.1)=true by unfold bne;rw[J];rfl];rfl
    |true =>
     have O:qM n w=true:=by rw[H,decide_eq_false r,u,z,J];rfl
     rw[show (w.2.2.2.2.2.1 != w.2.2.1)=false by unfold bne;rw[J];rfl];have hp:=(tB h.x r).2.2.2;have hn:=h.now1;have R:=vd h.x Y O;simp only[cond_false];rw[show wr .i64 (wr .i64 (wr .i64 (n.2.2.2.2.2.1-n.2.2.2.2.2.2.2.2.2.2.1.2.1)*1000)+500)=(aL n-(aa.probe n).2.1)*1000+500 by
      obtain⟨p1,p2⟩:=hp;show wr .i64 (wr .i64 (wr .i64 (aL n-(aa.probe n).2.1)*1000)+500)=_;rw[aA (n:=aL n-_) (by omega) (by omega),aA (n:=_*1000) (by omega) (by omega),aA (by omega) (by omega)]]
     rw[z7];simp only[BU];refine (congrArg (λo=>BX o _) (AF K (aa.places n) w.2.2.1 (ar.coord w) (xV n) n.1 h.x.places I)).trans ?_;simp only[BU];rw[show fC K n w=pV n ((kF n w).foldl (qL K w) (aa.coord n)) (kF n w) by unfold fC;rw[O];rfl];show Q182.l0 K (n,w,()) (0,(aa.coord n).1,(aa.coord n).2.1,(aa.coord n).2.2.1,(aa.coord n).2.2.2,kF n w)=_;have hl:=plen R;refine kT (step:=λrec a=>Q182.s0 K (n,w,()) rec a) (kF n w) (qL K w) cJ (λc i=>((i:Int),c.1,c.2.1,c.2.2.1,c.2.2.2,kF n w)) (λc=>some ((pV n c (kF n w),()),())) (aa.coord n) h.x.coord ?_ ?_ (by omega)
     ·intro rec c i X M;refine⟨?_,va M I⟩;simp only[Q182.s0,zc00556,zcp8];rw[bG (by omega:(i:Int)<(BV (kF n w):Int)),B3,ag X,aq i (by omega)];simp only[cond_true,BU];have Z:=(R.1 _ (B4 X)).2.2.2.2.1.2;generalize (kF n w)[i]=y at *;unfold qL;cases y.1==w.2.2.1 with
      |false=>rfl
      |true =>
       simp only[cond_true];refine (congrArg (λo=>BX o _) (med_s K y.2.2 (by omega) I)).trans ?_;refine (congrArg (λo=>BX o _) (xS K c (ar.coord w) (su K y.2.2) w.2.2.2.2.1 M I).1).trans ?_;rfl
     ·intro rec c M;simp only[Q182.s0,zc00556,zcp8,aZ,cond_false];rfl
theorem By {K:Nat}{n:aa}{w:ar}(h:UpN n)(r:cJ (ar.coord w))(u:1048577<K):UpN (fC K n w)/\(fC K n w).1=n.1/\(fC K n w).2.2.1=n.2.2.1:=by
 unfold fC;cases z:qM n w with
 |false=>exact⟨h,rfl,rfl⟩
 |true=>exact⟨h.heard (kD (Inv:=cJ) h.x.coord λc p _ y=>va y u) (vd h.x r z),rfl,rfl⟩
def p6 (n:aa)(w:ar):Prop:=n.2.1=true/\n.2.2.1=false/\w.2.2.2.1=n.1/\w.2.2.1≠n.1 /\
 (if w.1=2 then w.2.1=6/\ao w.2.2.1≠ao n.1/\(cj (ar.table w) (ao n.1)\/cj (ar.table w) (ao w.2.2.1)) else ao w.2.2.1=ao n.1/\(w.2.1≠6\/¬ cj (ar.table w) (ao n.1)))
theorem AH (K:Nat)(n:aa)(w:ar)(z:(ar.table w).length<=1048576)(H:1048577<K):Ret (Q152.f K (n,w,())) (p6 n w):=by
 refine (Ret.cndN (P:=¬ n.2.1=true) (b:=!n.2.1) (by simp) λ_=>Ret.cndN (P:=n.2.2.1=true) (b:=n.2.2.1) Iff.rfl λ_=>Ret.cndN (P:=w.2.2.2.1≠n.1) (b:=w.2.2.2.1 != n.1) (by simp) λ_=>Ret.cndN (P:=w.2.2.1=n.1) (b:=w.2.2.1==n.1) (by simp) λ_ =>
  (?_:Ret _ (if w.1=2 then w.2.1=6/\ao w.2.2.1≠ao n.1/\(cj (ar.table w) (ao n.1)\/cj (ar.table w) (ao w.2.2.1)) else ao w.2.2.1=ao n.1/\(w.2.1≠6\/¬ cj (ar.table w) (ao n.1))))).iff ?_
 ·refine Ret.vl (eQ K n.1) ?_;obtain⟨I,J,y⟩:=gC K (ar.table w) (ao n.1) z H;obtain⟨R,M,O⟩:=gC K (ar.table w) (ao w.2.2.1) z H;by_cases u:w.1=2
  ·rw[show (w.1==2)=true by simpa using u,if_pos u];refine Ret.cnd (P:=w.2.1=6) (b:=w.2.1==6) (by simp) λ_=>?_
   refine Ret.cnd (P:=ao w.2.2.1≠ao n.1) (b:=ao w.2.2.1 != ao n.1) (by simp) λ_=>Ret.vl J ?_
   cases I with
   |true=>exact Ret.yes (.inl (y.1 rfl))
   |false =>
    refine Ret.vl M ?_;exact Ret.of (b:=R) (O.trans ⟨.inr,λh=>h.resolve_left λh=>by have:=y.2 h;cases this⟩)
  ·rw[show (w.1==2)=false by simpa using u,if_neg u];refine Ret.cnd (P:=ao w.2.2.1=ao n.1) (b:=ao w.2.2.1==ao n.1) (by simp) λ_=>?_
   by_cases r:w.2.1=6
   ·show Ret (bif w.2.1 != 6 then _ else _) _;rw[show (w.2.1 != 6)=false by simpa using r];refine Ret.vl J (Ret.of (b:=!I) ?_);rw[Ck,<- Cm,y];exact⟨.inr,λh=>h.resolve_left λh=>h r⟩
   ·show Ret (bif w.2.1 != 6 then _ else _) _;rw[show (w.2.1 != 6)=true by simpa using r];exact Ret.yes (.inl r)
 ·unfold p6;rw[Ca,Cm,Ca]
def sv (u:Int)(n:aa)(to y r:Int)(t:List af):ar:=(1,u,n.1,to,y,r,aa.coord n,t)
theorem p7 (K:Nat)(n:aa)(u to y r:Int)(t:List af)(z:t.length<=1048576):Q153.f K (n,u,to,y,r,t,())=some ((sv u n to y r t,()),()):=by
 simp only[Q153.f];rw[szb _ _ _ (by omega) (by show (BV ([]:List af))+t.length<=_;simp;omega)];rfl
def n9 (t:List af)(s:Int):Bool:=t.all λf=>ao f.1==s
theorem ng {t:List af}{s:Int}:n9 t s=true<->cj t s:=by simp[n9,cj]
def jC (t:List af):af:=(t.head?).getD (0,0,0,false)
def fZ (n:aa)(w:ar):List af:=fN (dr (aa.others n) (ao (jC (ar.table w)).1)) (ar.table w)
def backW (n:aa)(w:ar):ar:=(2,6,n.1,w.2.2.1,0,n.1,aa.coord n,fZ n w)
def sumN (n:aa)(w:ar):aa:=setO n (bL (λx:cY=>x.1) (ao (jC (ar.table w)).1,fZ n w) (aa.others n))
def gW (n:aa)(w:ar):aa×List ar:=bif n9 (ar.table w) (ao n.1) then (jq n (ar.table w) n.1,[]) else
 (sumN n w,bif w.1==2&&decide (ar.table w≠fZ n w) then [backW n w] else [])
theorem p8:∀ {fs t:List af} {g:af},g∈fN t fs->g∈t\/g∈fs
 |[],_,_,h=>.inl h
 |f::fs,t,g,h=>by
  rcases p8 (fs:=fs) h with h|h
  ·have h:g∈(bW t f).1:=h;rcases ia t f with e|e
   ·rw[e]at h;exact .inl h
   ·rw[e]at h;rcases bd.1 h with rfl|⟨h,_⟩
    ·exact .inr (by simp)
    ·exact .inl h
  ·exact .inr (by simp[h])
theorem p9:∀ {fs t:List af} {g:af},g∈t->∃ H∈fN t fs,H.1=g.1
 |[],_,g,h=>⟨g,h,rfl⟩
 |f::fs,t,g,h=>by
  obtain⟨J,r,I⟩:=mZ (f:=f) h;obtain⟨z,y,u⟩:=p9 (fs:=fs) r;exact⟨z,y,u.trans I⟩
theorem uB {t:List af}(H:Asc (λg:af=>g.1) t)(f:af):∃ g∈(bW t f).1,g.1=f.1:=by
 by_cases h:∃ g∈t,g.1=f.1
 ·obtain⟨g,r,e⟩:=h;obtain⟨z,u,y⟩:=mZ (f:=f) r;exact⟨z,u,y.trans e⟩
 ·rw[is λg r e=>h ⟨g,r,e⟩];exact⟨f,bd.2 (.inl rfl),rfl⟩
theorem nh {n:aa}{w:ar}(h:dg n.1 (aa.others n))(H:az (ar.table w))(u:pN (ar.table w)):az (fZ n w)/\fZ n w≠[]/\cj (fZ n w) (ao (jC (ar.table w)).1):=by
 have z:=tz h (ao (jC (ar.table w)).1);refine⟨rr z H.1,?_,?_⟩
 ·unfold fZ;cases y:ar.table w with
  |nil=>rw[y]at u;exact u.elim
  |cons f l =>
   obtain⟨g,I,_⟩:=uB (f:=f) (t:=dr (aa.others n) (ao (jC (f::l)).1)) (by rw[y]at z;exact z.2);obtain⟨R,J,_⟩:=p9 (fs:=l) I;exact List.ne_nil_of_mem J
 ·intro g r;rcases p8 r with r|r
  ·rcases mW (l:=aa.others n) (s:=ao (jC (ar.table w)).1) with e|⟨x,M,O,e⟩
   ·rw[e]at r;cases r
   ·rw[e]at r;rw[<- O];exact (h.1 x M).2.2.2.2 g r
  ·cases y:ar.table w with
   |nil=>rw[y]at u;exact u.elim
   |cons f l =>
    rw[y]at u r;exact u g r
theorem AI {x:Int}(h:InP x 0 7):InP (ao x) 0 1:=by
 rw[kE h];obtain⟨u,r⟩:=h;constructor <;> omega
theorem zv {t:List af}(u:pN t)(r:az t):InP (jC t).1 0 7:=by
 cases t with
 |nil=>exact u.elim
 |cons f l=>exact (r.1 f (by simp)).1
theorem xW (K:Nat)(n:aa)(w:ar)(h:UpN n)(r:az (ar.table w))(z:pN (ar.table w))(u:1048577<K):Q165.f K (n,w,())=some (((gW n w).1,(gW n w).2,()),()):=by
 simp only[Q165.f];rw[eQ K n.1];simp only[BU];obtain⟨H,O,I⟩:=gC K (ar.table w) (ao n.1) (cM r) u;have M:n9 (ar.table w) (ao n.1)=H:=by rw[Cp,ng,I]
 unfold gW;rw[M];refine (congrArg (λo=>BX o _) O).trans ?_;simp only[rb,BU];cases H with
 |true =>
  simp only[cond_true];refine (congrArg (λo=>BX o _) (uZ K n (ar.table w) n.1 h.learns r.1 (cM r) h.x.me u)).trans rfl
 |false =>
  simp only[cond_false];obtain⟨J,Y,X⟩:=nh (n:=n) h.x.others r z;have y:idx (ar.table w) 0=some (jC (ar.table w)):=by
   cases R:ar.table w with
   |nil=>rw[R]at z;exact z.elim
   |cons f l=>rfl
  refine (congrArg (λo=>BX o _) y).trans ?_;simp only[BU];rw[eQ K];simp only[BU];refine (congrArg (λo=>BX o _) (xU K n (ao (jC (ar.table w)).1) (ar.table w) h.x.others r u)).trans ?_;simp only[BU];refine (congrArg (λo=>BX o _) (sum_s K n (ao (jC (ar.table w)).1) (fZ n w) h.x.others u)).trans ?_;simp only[BU];cases w.1==2 with
  |false=>rfl
  |true =>
   simp only[cond_true,Bool.true_and];refine (congrArg (λo=>BX o _) (zu K (ar.table w) (fZ n w) (cM r) u)).trans ?_;simp only[rb,BU];cases decide (ar.table w≠fZ n w) with
   |false=>rfl
   |true =>
    simp only[cond_true];refine (congrArg (λo=>BX o _) (p7 K (sumN n w) 6 w.2.2.1 0 n.1 (fZ n w) (cM J))).trans rfl
theorem we {n:aa}{w:ar}(h:UpN n)(H:n.2.2.1=false)(u:az (ar.table w))(r:pN (ar.table w)):UpN (gW n w).1/\(gW n w).1.1=n.1/\(gW n w).1.2.2.1=false:=by
 unfold gW;cases y:n9 (ar.table w) (ao n.1) with
 |true=>exact mr h H u (ng.1 y) (ft.me h.x.me)
 |false =>
  obtain⟨J,I,M⟩:=nh (n:=n) h.x.others u r;refine⟨h.setOthers (wa h.x.others (AI (zv r u)) (λe=>?_) I J M),rfl,H⟩;have:cj (ar.table w) (ao n.1):=by
   cases z:ar.table w with
   |nil=>rw[z]at r;exact r.elim
   |cons f l=>rw[z]at r e;rw[<- e];exact r
  rw[ng.2 this]at y;cases y
noncomputable def fY (K:Nat)(n:aa)(w:ar):aa×List ar :=
 bif w.2.1==1 then (bif ao w.2.2.2.2.2.1 != ao n.1 then (n,[]) else bif w.2.2.2.2.2.1==n.1 then (n,[]) else (iv n,[sv 2 (iv n) w.2.2.2.2.2.1 w.2.2.2.2.1 n.1 (jb n w.2.2.2.2.2.1)]))
 else bif w.2.1==3 then (bif ao w.2.2.2.2.2.1 != ao n.1 then (n,[]) else bif w.2.2.2.2.2.1==n.1 then (n,[]) else bif w.2.2.2.2.2.1==w.2.2.1 then (n,[]) else (iv n,[sv 1 (iv n) w.2.2.2.2.2.1 w.2.2.2.2.1 w.2.2.1 (jb n w.2.2.2.2.2.1)]))
 else bif w.2.1==4 then (n,[sv 5 n w.2.2.1 0 n.1 (aa.table n)]) else bif w.2.1==2 then (fC K n w,[]) else (n,[])
theorem zw (K:Nat)(n:aa)(w:ar)(h:UpN n)(z:cJ (ar.coord w))(u:1048577<K):Q183.f K (n,w,())=some (((fY K n w).1,(fY K n w).2,()),()):=by
 simp only[Q183.f];rw[eQ K n.1];simp only[BU];have r:=qG K n w.2.2.2.2.2.1 h.x.say u;have y:=cM (ko h.x.say w.2.2.2.2.2.1);unfold fY;cases w.2.1==1 with
 |true =>
  simp only[cond_true];rw[eQ K];simp only[BU];cases ao w.2.2.2.2.2.1 != ao n.1 with
  |true=>rfl
  |false =>
   simp only[cond_false];cases w.2.2.2.2.2.1==n.1 with
   |true=>rfl
   |false =>
    simp only[cond_false];refine (congrArg (λo=>BX o _) r).trans ?_;simp only[BU];refine (congrArg (λo=>BX o _) (p7 K (iv n) 2 w.2.2.2.2.2.1 w.2.2.2.2.1 n.1 _ y)).trans rfl
 |false =>
  simp only[cond_false];cases w.2.1==3 with
  |true =>
   simp only[cond_true];rw[eQ K];simp only[BU];cases ao w.2.2.2.2.2.1 != ao n.1 with
   |true=>rfl
   |false =>
    simp only[cond_false];cases w.2.2.2.2.2.1==n.1 with
    |true=>rfl
    |false =>
     simp only[cond_false];cases w.2.2.2.2.2.1==w.2.2.1 with
     |true=>rfl
     |false =>
      simp only[cond_false];refine (congrArg (λo=>BX o _) r).trans ?_;simp only[BU];refine (congrArg (λo=>BX o _) (p7 K (iv n) 1 w.2.2.2.2.2.1 w.2.2.2.2.1 w.2.2.1 _ y)).trans rfl
  |false =>
   simp only[cond_false];cases w.2.1==4 with
   |true=>exact (congrArg (λo=>BX o _) (p7 K n 5 w.2.2.1 0 n.1 (aa.table n) (cM h.x.table))).trans rfl
   |false =>
    simp only[cond_false];cases w.2.1==2 with
    |true=>exact (congrArg (λo=>BX o _) (ack_s K n w h z u)).trans rfl
    |false=>rfl
theorem xX {K:Nat}{n:aa}{w:ar}(h:UpN n)(r:cJ (ar.coord w))(u:1048577<K):UpN (fY K n w).1/\(fY K n w).1.1=n.1/\(fY K n w).1.2.2.1=n.2.2.1:=by
 unfold fY;cases w.2.1==1 <;> cases w.2.1==3 <;> cases w.2.1==4 <;> cases w.2.1==2 <;> cases ao w.2.2.2.2.2.1 != ao n.1 <;> cases w.2.2.2.2.2.1==n.1 <;> cases w.2.2.2.2.2.1==w.2.2.1 <;> first|exact⟨h,rfl,rfl⟩|exact⟨h.way,rfl,rfl⟩|exact By h r u
open Classical in
noncomputable def dK (K:Nat)(n:aa)(w:ar):aa×List ar :=
 if iY w/\p6 n w then (if w.2.1=6 then gW n w else fY K (jq n (ar.table w) w.2.2.1) w) else (n,[])
theorem mt {n:aa}{w:ar}(H:iY w)(h:p6 n w)(u:w.2.1≠6):cj (ar.table w) (ao n.1)/\ft n w.2.2.1:=by
 obtain⟨_,_,w3,_,_,_,_,_,z⟩:=H;rw[if_neg u]at z;obtain⟨_,_,_,_,r⟩:=h;by_cases y:w.1=2
 ·rw[if_pos y]at r;exact absurd r.1 u
 ·rw[if_neg y]at r;exact⟨r.1 ▸ z,w3,r.1⟩
theorem Bz (K:Nat)(n:aa)(w:ar)(h:n.2.1=true->UpN n)(I:(ar.table w).length<=1048576)(y:1048577<K):Q184.f K (n,w,())=some (((dK K n w).1,(dK K n w).2,()),()):=by
 simp only[Q184.f];obtain⟨b1,e1,M⟩:=sY K w I y;obtain⟨Y,e2,O⟩:=AH K n w I y;rw[e1];cases b1 with
 |false =>
  unfold dK;rw[if_neg λh=>by have:=M.2 h.1;cases this];rfl
 |true =>
  have z:=M.1 rfl;simp only[rb,BU,B6,cond_false];refine (congrArg (λo=>BX o _) e2).trans ?_;cases Y with
  |false =>
   unfold dK;rw[if_neg λh=>by have:=O.2 h.2;cases this];rfl
  |true =>
   have H:=O.1 rfl;have J:=h H.1;simp only[rb,BU,B6,cond_false];unfold dK;rw[if_pos ⟨z,H⟩];have r:=z.2.2.2.2.2.2.2.1;by_cases u:w.2.1=6
   ·rw[if_pos u,show (w.2.1==6)=true by simpa using u];have X:=z.2.2.2.2.2.2.2.2;rw[if_pos u]at X;exact (congrArg (λo=>BX o _) (xW K n w J r X y)).trans rfl
   ·rw[if_neg u,show (w.2.1==6)=false by simpa using u];obtain⟨Z,R⟩:=mt z H u;have hl:=(mr J H.2.1 r Z R).1;refine (congrArg (λo=>BX o _) (uZ K n (ar.table w) w.2.2.1 J.learns r.1 I R.1 y)).trans ?_;exact (congrArg (λo=>BX o _) (zw K _ w hl z.2.2.2.2.2.2.1 y)).trans rfl
theorem ve {K:Nat}{n:aa}{w:ar}(h:UpN n)(M:1048577<K):UpN (dK K n w).1/\(dK K n w).1.1=n.1/\(dK K n w).1.2.2.1=n.2.2.1:=by
 unfold dK;split
 ·rename_i R;obtain⟨y,r⟩:=R;have u:=y.2.2.2.2.2.2.2.1;split
  ·rename_i z;have J:=y.2.2.2.2.2.2.2.2;rw[if_pos z]at J;rw[r.2.1];exact we h r.2.1 u J
  ·rename_i z;obtain⟨O,X⟩:=mt y r z;have I:=mr h r.2.1 u O X;have H:=xX (w:=w) I.1 y.2.2.2.2.2.2.1 M;exact⟨H.1,H.2.1.trans I.2.1,H.2.2.trans (I.2.2.trans r.2.1.symm)⟩
 ·exact⟨h,rfl,rfl⟩
theorem qa {K:Nat}{n:aa}{w:ar}(h:UpN n)(hK:1048577<K):(dK K n w).2.length<=1/\∀ x∈(dK K n w).2,InP x.2.2.2.1 0 7/\(ar.table x).length<=1048576:=by
 unfold dK;split
 ·rename_i R;obtain⟨u,I⟩:=R;have y:=u.2.2.2.2.2.2.2.1;split
  ·rename_i H;have J:=u.2.2.2.2.2.2.2.2;rw[if_pos H]at J;obtain⟨O,a2,a3⟩:=nh (n:=n) h.x.others y J;unfold gW;cases n9 (ar.table w) (ao n.1) with
   |true=>exact⟨by simp,by simp⟩
   |false =>
    simp only[cond_false];cases w.1==2&&decide (ar.table w≠fZ n w) with
    |false=>exact⟨by simp,by simp⟩
    |true=>exact⟨by simp,λx r=>by rw[BY.1 r];exact⟨u.2.2.1,cM O⟩⟩
  ·rename_i H;obtain⟨X,Y⟩:=mt u I H;have M:=mr h I.2.1 y X Y;have ht:=cM (ko M.1.x.say w.2.2.2.2.2.1);have z:=cM M.1.x.table;have w3:=u.2.2.1;have Z:=u.2.2.2.2.2.1;generalize jq n (ar.table w) w.2.2.1=m at *;unfold fY;cases w.2.1==1 <;> cases w.2.1==3 <;> cases w.2.1==4 <;> cases w.2.1==2 <;> cases ao w.2.2.2.2.2.1 != ao m.1 <;> cases w.2.2.2.2.2.1==m.1 <;> cases w.2.2.2.2.2.1==w.2.2.1 <;>
    first|exact⟨CV _,λx r=>by rw[BY.1 r];exact⟨Z,ht⟩⟩|exact⟨CV _,λx r=>by rw[BY.1 r];exact⟨w3,z⟩⟩|exact⟨B7 _,λx r=>nomatch r⟩
 ·exact⟨by simp,by simp⟩
theorem uC {n:aa}(h:∀ k,k<8->¬ gU n k):gE n=none:=by
 unfold gE;rw[List.find?_eq_none];intro x u;obtain⟨k,r,rfl⟩:=CE.1 u;have:=h k (by simpa using r);unfold gU at this;simpa using this
theorem uD {n:aa}{k:Nat}(y:k<8)(r:gU n k)(h:∀ j,j<k->¬ gU n j):gE n=some (bo n k):=by
 unfold gE;rw[List.find?_map,List.find?_range_eq_some.2 ⟨?_,by simpa using y,λj u=>?_⟩]
 ·rfl
 ·unfold gU at r;simpa using r
 ·have:=h j u;unfold gU at this;simpa[Classical.or_iff_not_imp_left]using this
theorem vf (K:Nat)(n:aa)(h:cf n)(O:tr n)(J:1048577<K):Q201.f K (n,())=some (((dF n).1,(dF n).2,()),()):=by
 obtain⟨⟨Y,Z⟩,⟨t0,t1⟩⟩:=O;obtain⟨to,M,H⟩:=u7 K n h t0 t1 J;simp only[Q201.f,zcp4];rw[M];simp only[BU,dF];by_cases r:dm n>=999999
 ·rw[decide_eq_true r,show decide (n.2.2.2.2.2.2.1>=999999)=true from decide_eq_true r];cases decide (to<0) <;> rfl
 ·rw[decide_eq_false r,show decide (n.2.2.2.2.2.2.1>=999999)=false from decide_eq_false r];simp only[cond_false];rcases H with ⟨rfl,u⟩|⟨k,X,y,z,rfl⟩
  ·rw[uC u];rfl
  ·rw[uD X y z];have R:0<=bo n k/\bo n k<8:=⟨Cq _ (by omega),Ci _ (by omega)⟩;rw[decide_eq_false (by omega:¬ bo n k<0)];simp only[cond_false];rw[qG K n _ h J];simp only[BU];have I:wr .i64 (dm n+1)=dm n+1:=aA (by omega) (by omega);rw[show wr .i64 ((iv n).2.2.2.2.2.2.1+1)=n.2.2.2.2.2.2.1+1 from I,aA (n:=bo n k+1) (by omega) (by omega)];simp only[Q153.f];rw[szb _ _ _ (by omega) (by have:=cM (ko h (bo n k));simp;omega)];rfl
def ii (w:ar):Prop:=InP w.2.2.2.1 0 7/\(ar.table w).length<=1048576
theorem tC {n:aa}(H:az (aa.table n)):(aS n).2.length<=2/\∀ w∈(aS n).2,ii w:=by
 have r:([]:List ar).length<=2/\∀ w∈([]:List ar),ii w:=⟨by simp,by simp⟩;unfold aS;cases (aa.probe n).1==-1 with
 |true=>exact r
 |false =>
  cases !cK (aB (aa.table n) (aa.probe n).1) with
  |true=>exact r
  |false =>
   cases decide (n.2.2.2.2.2.1-(aa.probe n).2.1>=4) with
   |true=>exact r
   |false =>
    cases decide (n.2.2.2.2.2.1-(aa.probe n).2.1>=2) with
    |false=>exact r
    |true =>
     cases !(aa.probe n).2.2.2 with
     |false=>exact r
     |true =>
      simp only[cond_true,cond_false];refine⟨by rw[CN];exact Cf _ _,λw y=>?_⟩;obtain⟨to,u,rfl⟩:=CE.1 y;obtain⟨f,z,rfl⟩:=CE.1 (CL u);exact⟨(H.1 f (CO.1 z).1).1,B7 _⟩
theorem z8 {n:aa}(h:cf n):(dF n).2.length<=1/\∀ w∈(dF n).2,ii w:=by
 have r:([]:List ar).length<=1/\∀ w∈([]:List ar),ii w:=⟨by simp,by simp⟩;unfold dF;cases decide (dm n>=999999) with
 |true=>exact r
 |false =>
  simp only[cond_false];cases H:gE n with
  |none=>exact r
  |some to =>
   refine⟨by simp,λw u=>?_⟩;rw[BY.1 u];obtain⟨z,y,I⟩:=cm h.table (eC (rx H).2);exact⟨y ▸ z.1,cM (ko h to)⟩
theorem BA {n:aa}(I:dg n.1 (aa.others n)){s d:Int}(H:InP s 0 1):InP (jc n s d) 0 7:=by
 unfold jc;cases u:decide (dS (dr (aa.others n) s)≠[])&&aT .i64 d 4==0 with
 |true =>
  rw[Cl,decide_eq_true_eq]at u;have:=(eT (d:=Cc d (2 ^ 3)) u.1).2.2;unfold dS at this;obtain⟨f,z,e⟩:=CE.1 (CL this);simp only[cond_true];show InP (gV (dS (dr (aa.others n) s)) (Cc d (2 ^ 3))) 0 7;unfold dS;rw[<- e];exact ((tz I s).1 f (CO.1 z).1).1
 |false =>
  obtain⟨y,r⟩:=lQ (a:=Cc d (2 ^ 3)) (m:=3) (by omega);have y:0<=aT .i64 (Cc d (2 ^ 3)) 3:=y;have r:aT .i64 (Cc d (2 ^ 3)) 3<=3:=r;obtain⟨J,M⟩:=H;simp only[cond_false];exact⟨by omega,by omega⟩
theorem vg {n:aa}(I:az (aa.table n))(J:dg n.1 (aa.others n))(r:Int):(ff n r).length<=2/\∀ w∈ff n r,ii w:=by
 have u:([]:List ar).length<=2/\∀ w∈([]:List ar),ii w:=⟨by simp,by simp⟩;unfold ff;cases aT .i64 r 3==1 with
 |true =>
  simp only[cond_true,iw];cases iR n with
  |false=>exact u
  |true =>
   refine⟨?_,λw z=>?_⟩
   ·show ((([0,1]:List Int).filter (λs=>s != ao n.1)).map _).length<=2;rw[CN];exact CT _ _
   ·obtain⟨s,O,rfl⟩:=CE.1 z;refine⟨BA J ?_,cM I⟩;have:=(CO.1 O).1;simp at this;rcases this with rfl|rfl <;> exact⟨by decide,by decide⟩
 |false =>
  simp only[cond_false];by_cases y:ci n=[]
  ·rw[decide_eq_true y,Bool.or_true];exact u
  ·rw[decide_eq_false y,Bool.or_false];obtain⟨f,M,e⟩:=CE.1 (eT (d:=Cc r (2 ^ 2)) y).2.2;have H:InP (gV (ci n) (Cc r (2 ^ 2))) 0 7:=by
    rw[<- e];exact (I.1 f (CO.1 M).1).1
   cases aT .i64 r 3==3 with
   |true=>exact u
   |false =>
    simp only[cond_false];cases aT .i64 r 3==0 with
    |true=>exact⟨by simp,λw z=>by rw[BY.1 z];exact⟨H,cM I⟩⟩
    |false =>
     simp only[cond_false,nd]
     match R:aa.others n with
     |[]=>exact u
     |x::_=>exact⟨by simp,λw z=>by rw[BY.1 z];exact⟨H,cM (J.1 x (by rw[R];simp)).2.2.2.1⟩⟩
theorem UpX.far {n:aa}(h:UpX n):ig n:=⟨by rcases na h.me h.others with e|⟨x,e⟩ <;> rw[e] <;> simp,λx r=>⟨(h.others.1 x r).2.2.2.1,cM (h.others.1 x r).2.2.2.1⟩⟩
theorem rD {n:aa}(h:UpX n)(J:aL n<=1000000):((aa.probe n).1=-1\/0<=(aa.probe n).1)/\0<=(aa.probe n).2.1/\(aa.probe n).2.1<=1000000:=by
 have r:=h.probe;have u:aL n=n.2.2.2.2.2.1:=rfl;unfold c5 at r;split at r
 ·rename_i H;rw[r];exact⟨.inl rfl,by show (0:Int)<=0;omega,by show (0:Int)<=1000000;omega⟩
 ·obtain⟨_,⟨f,z,e⟩,⟨y,I⟩,_⟩:=r;have:=(h.table.1 f z).1.1;exact⟨.inr (e ▸ this),y,by omega⟩
theorem BB {n:aa}(h:UpN n)(H:aL n<999999)(r:Int):(nY n r).length<=5/\∀ w∈nY n r,ii w:=by
 have R:=(jP h.x.later (show dk (cq n) from h.self)).1.table;obtain⟨z,J⟩:=tC R;obtain⟨I,_,_⟩:=pU h H;have y:=(nZ h H).1;obtain⟨X,M⟩:=vg y.x.table y.x.others r;have O:(cZ (dY n).1).2.length<=1/\∀ w∈(cZ (dY n).1).2,ii w:=by
  unfold cZ;cases (aa.probe (dY n).1).1==-1 with
  |true=>exact z8 I.x.say
  |false=>exact⟨by simp,by simp⟩
 unfold nY;have z:(dY n).2.length<=2:=z;refine⟨by rw[B5,B5];omega,λw u=>?_⟩;rcases B8.1 u with u|u
 ·rcases B8.1 u with u|u
  ·exact J w u
  ·exact O.2 w u
 ·exact M w u
theorem xY (K:Nat)(n:aa)(H:Int)(h:UpN n)(hg:n.2.2.1=false)(hm:aL n<999999)(X:1048577<K):Q208.f K (n,H,())=some ((dG n,nY n H,()),()):=by
 have a3:=h.x.now0;simp only[Q208.f,zcp4];refine (congrArg (λb=>bif !b then _ else _) h.up).trans ?_;refine (congrArg (λb=>bif b then _ else _) hg).trans ?_;refine (congrArg (λb=>bif b then _ else _) (decide_eq_false (show ¬ n.2.2.2.2.2.1>=999999 by have:aL n=n.2.2.2.2.2.1:=rfl;omega))).trans ?_;simp only[cond_false];rw[show wr .i64 (n.2.2.2.2.2.1+1)=n.2.2.2.2.2.1+1 from aA (by have:aL n=n.2.2.2.2.2.1:=rfl;omega) (by have:aL n=n.2.2.2.2.2.1:=rfl;omega)];have hl:UpX (cq n):=h.x.later;have a0:∀ d∈aa.doubts (cq n),0<=d.2.2.1/\d.2.2.1<=(cq n).2.2.2.2.2.1/\d.2.2.2.length<=1048576:=λd hd=>by
  obtain⟨_,⟨s0,s1⟩,_,h4⟩:=hl.doubts.1 d hd;exact⟨s0,s1,B9 (i9 (k:=λx=>x) h4.2 λx hx=>(h4.1 x hx).1) (by decide)⟩
 have Y:∀ d∈aa.doubts (cq n),∃ f∈aa.table (cq n),f.1=d.1:=λd hd=>by
  obtain⟨⟨f,hf,e,_⟩,_⟩:=hl.doubts.1 d hd;exact⟨f,hf,e⟩
 have Z:(cq n).2.2.2.2.2.1<=1000000:=by show aL n+1<=1000000;omega
 refine (congrArg (λo=>BX o _) (xv K (cq n) ⟨hl.say,Y,rfl⟩ a0 Z X)).trans ?_;simp only[BU];obtain⟨b1,b2,t,c,ds,eb⟩:=jP hl (show dk (cq n) from h.self);have z:tr (dY n).1:=(pU h hm).1.seq;have a2:aL (cl (cq n))=aL n+1:=by rw[eb];rfl
 have hp:=rD b1 (by omega);obtain⟨a1,_⟩:=tC b1.table;have R:=(nZ h hm).1;have r:=xK K (dG n) H R.x.far R.x.table (cM R.x.table) X;have u:=(pU h hm).1;obtain⟨I,_⟩:=z8 u.x.say;obtain⟨y,_⟩:=vg R.x.table R.x.others H;unfold dG cZ dY at r R y;unfold dY at z u I;unfold nY dG cZ dY;generalize cl (cq n)=m at *;rcases hp.1 with M|M
 ·have e0:aS m=(m,[]):=by unfold aS;rw[show ((aa.probe m).1==-1)=true by simpa using M];rfl
  rw[e0]at r z u I y ⊢;refine (congrArg (λb=>bif b then _ else _) (decide_eq_false (show ¬ m.2.2.2.2.2.2.2.2.2.2.1.1>=0 by have:(aa.probe m).1=m.2.2.2.2.2.2.2.2.2.2.1.1:=rfl;omega))).trans ?_;refine (congrArg (λb=>bif b then _ else _) (decide_eq_true (show m.2.2.2.2.2.2.2.2.2.2.1.1<0 by have:(aa.probe m).1=m.2.2.2.2.2.2.2.2.2.2.1.1:=rfl;omega))).trans ?_;refine (congrArg (λo=>BX o _) (vf K m u.x.say z X)).trans ?_;simp only[BU];rw[show ((aa.probe m).1==-1)=true by simpa using M]at r y ⊢;simp only[cond_true]at r y I ⊢;rw[szw _ _ _ (by omega) (by simp;omega)];simp only[cond_true];refine (congrArg (λo=>BX o _) r).trans ?_;simp only[BU];rw[szw _ _ _ (by omega) (by simp;omega)];rfl
 ·refine (congrArg (λb=>bif b then _ else _) (decide_eq_true (show m.2.2.2.2.2.2.2.2.2.2.1.1>=0 from M))).trans ?_;refine (congrArg (λo=>BX o _) (xy K m b1.say (by omega) hp.2.1 hp.2.2 b1.now0 (by have:aL m=m.2.2.2.2.2.1:=rfl;omega) X)).trans ?_;simp only[BU];generalize aS m=fo at *;obtain⟨J,ws⟩:=fo;simp only at r z u I y a1 ⊢;have O:=(rD u.x (by have:=u.now1;omega)).1;rcases O with O|O
  ·refine (congrArg (λb=>bif b then _ else _) (decide_eq_true (show J.2.2.2.2.2.2.2.2.2.2.1.1<0 by have:(aa.probe J).1=J.2.2.2.2.2.2.2.2.2.2.1.1:=rfl;omega))).trans ?_;refine (congrArg (λo=>BX o _) (vf K J u.x.say z X)).trans ?_;simp only[BU];rw[show ((aa.probe J).1==-1)=true by simpa using O]at r y ⊢;simp only[cond_true]at r y ⊢;rw[szw _ _ _ (by omega) (by omega)];simp only[cond_true];refine (congrArg (λo=>BX o _) r).trans ?_;simp only[BU];rw[szw _ _ _ (by omega) (by rw[B5];omega)];rfl
  ·refine (congrArg (λb=>bif b then _ else _) (decide_eq_false (show ¬ J.2.2.2.2.2.2.2.2.2.2.1.1<0 by have:(aa.probe J).1=J.2.2.2.2.2.2.2.2.2.2.1.1:=rfl;omega))).trans ?_;rw[show ((aa.probe J).1==-1)=false by simp;omega]at r y ⊢;simp only[cond_false]at r y ⊢;refine (congrArg (λo=>BX o _) r).trans ?_;simp only[BU,CW];rw[szw _ _ _ (by omega) (by omega)];rfl
theorem tD (K:Nat)(l:List af)(f:af)(M:l.length<=1048576)(J:1048577<K):Ret (Q188.f K (l,f,())) (f∈l):=by
 have:=bS (step:=λrec a=>Q188.s0 K (l,f,()) rec a) l.length (λi=>(i:Int)) (λj=>∃ h:j<l.length,l[j]=f) (rb false) (λ_=>rb true) ?_ ?_ l.length K 0 (by omega) (by omega)
 ·rcases this with ⟨y,r⟩|⟨j,_,_,⟨z,I⟩,_,r⟩
  ·refine⟨false,r,?_⟩;refine⟨λh=>absurd h (by decide),λH=>?_⟩;obtain⟨i,u,e⟩:=CD H;exact absurd ⟨u,e⟩ (y i (B7 _) u)
  ·exact⟨true,r,λ_=>I ▸ B4 z,λ_=>rfl⟩
 ·intro rec i u;simp only[Q188.s0];rw[bG (by omega:(i:Int)<(BV l:Int)),ag u,aq i (by omega)];simp only[cond_true,BU];rw[mV];by_cases h:l[i]=f
  ·rw[decide_eq_true h];exact .inr ⟨⟨u,h⟩,rfl⟩
  ·rw[decide_eq_false h];exact .inl ⟨λ⟨_,r⟩=>h r,rfl⟩
 ·intro rec;simp only[Q188.s0,aZ];rfl
theorem UpN.nb {n:aa}(h:UpN n):NB n where
 table:=cM h.x.table
 cast:=by have:=clen h.x.say;omega
 doubts:=h.x.say.ld
 by_:=λd y=>by have:=(h.learns.by_ d y).len;omega
 places:=plen h.x.places
 trips:=λp u=>by have:=(h.x.places.1 p u).2.2.2.2.1.2;omega
 others:=olen h.x.others
 facts:=λx r=>cM (h.x.others.1 x r).2.2.2.1
def jD (r:Int)(g:Bool):aa:=(r,false,false,g,0,0,0,0,[],[],(0,0,0,false),[],(0,0,0,0),[],[])
structure dH (i:Nat) (n:aa):Prop where
 me:n.1=(i:Int)
 lt:i<8
 up:n.2.1=true->UpN n
 down:n.2.1=false->n=jD n.1 n.2.2.2.1
theorem dH.nb {i:Nat}{n:aa}(h:dH i n):NB n:=by
 cases r:n.2.1 with
 |true=>exact (h.up r).nb
 |false =>
  rw[h.down r];exact⟨by simp[jD,aa.table],by simp[jD,aa.cast],by simp[jD,aa.doubts],by simp[jD,aa.doubts],by simp[jD,aa.places],by simp[jD,aa.places],by simp[jD,aa.others],by simp[jD,aa.others]⟩
theorem dH.short {i:Nat}{n:aa}(h:dH i n):(aa.table n).length<=4:=by
 cases r:n.2.1 with
 |true=>exact uy (h.up r).x.table (h.up r).x.site
 |false=>rw[h.down r];exact B7 _
theorem dH.of {i:Nat}{n m:aa}(h:dH i n)(u:UpN m)(e:m.1=n.1):dH i m:=⟨e.trans h.me,h.lt,λ_=>u,λr=>by rw[u.up]at r;cases r⟩
def gX (l:List lP):Prop:=l.length<=60/\∀ f∈l,InP f.1 0 7/\f.2.1.size<=2000
structure WI (w:b7) (c:Nat):Prop where
 len:w.1.length=8
 node:∀ (i:Nat) (h:i<w.1.length),dH i w.1[i]
 radio:gX w.2.1
 sides:w.2.2.1.length=8
 born:w.2.2.2.length<=c
theorem WI.mono {w:b7}{c d:Nat}(h:WI w c)(r:c<=d):WI w d:=⟨h.len,h.node,h.radio,h.sides,B9 h.born r⟩
theorem WI.put {w:b7}{c:Nat}(h:WI w c){i:Nat}{n:aa}(z:dH i n){rd:List lP}(u:gX rd){b:List af}{d:Nat}(y:b.length<=d):WI (w.1.set i n,rd,w.2.2.1,b) d:=by
 refine⟨by rw[CC];exact h.len,λj r=>?_,u,h.sides,y⟩;show dH j ((w.1.set i n)[j]'r);rw[List.getElem_set];split
 ·rename_i e;exact e ▸ z
 ·exact h.node j _
theorem xZ (K:Nat)(w:b7)(X:Int)(u:List ar)(hs:w.2.2.1.length=8)(y:InP X 0 7)(J:∀ x∈u,ii x)(hr:gX w.2.1)(hl:u.length<=1000)(hK:1048577<K) :
  Tot (Q185.f K (w,X,u,())) λr=>∃ rd,gX rd/\r.1.1=(w.1,rd,w.2.2):=by
 simp only[Q185.f,Q185.pre];obtain⟨f0,f1⟩:=y;refine Tot.iter (step:=λrec a=>Q185.s0 K (w,X,u,()) rec a) (λa=>0<=a.1/\a.1<=u.length/\gX a.2) (λa=>u.length-a.1.toNat) ?_ K _ (by show u.length-BZ 0<K;omega) ⟨by show (0:Int)<=0;omega,by show (0:Int)<=_;omega,hr⟩;rintro rec ⟨i,rd⟩ ⟨I,h1,H⟩ ih;simp only at I h1 H ih ⊢;simp only[Q185.s0];refine Tot.cnd (λh=>?_) λ_=>Tot.ret ⟨rd,H,rfl⟩
 have h:=of_decide_eq_true h;rw[aA (n:=i+1) (by omega) (by omega)];have R:∀ z,gX z->Tot (rec (i+1,z)) λr=>∃ rd,gX rd/\r.1.1=(w.1,rd,w.2.2):=λz Z=>ih _ ⟨by show 0<=i+1;omega,by show i+1<=_;omega,Z⟩ (by show u.length-BZ (i+1)<u.length-BZ i;omega)
 refine Tot.cnd (λh3=>?_) λ_=>R rd H
 have h3:=of_decide_eq_true h3;refine Tot.ix f0 (by omega) λ_ _ _=>Tot.ix I h λy2 O _=>?_
 obtain⟨⟨t0,t1⟩,_⟩:=J y2 O;refine Tot.ix t0 (by omega) λ_ _ _=>Tot.cnd (λ_=>Tot.fit (Tot.ix I h λy4 Y _=>Tot.ix I h λy5 M _=>Tot.bind (oA K y5 (J y5 M).2 hK) λv hv=>Tot.fit (R _ ⟨?_,λf y=>?_⟩) (by omega) ?_) (by omega) ?_) λ_=>R rd H
 ·simp;omega
 ·rcases B8.1 y with y|y
  ·exact H.2 f (by simpa using y)
  ·rw[BY.1 y];exact⟨(J y4 Y).1,by show v.1.1.size<=2000;have:=hv.1;omega⟩
 ·simp;omega
 ·simp;omega
theorem Tot.ins {α:Type}{l:List α}{x:α}{a:Int}{c:Nat}{Q:(List α×Unit)×Unit->Prop}(u:0<=a)(y:a<=l.length)(z:l.length<=1048576)(H:c<=64)(k:∀ r:List α,r.length=l.length+1->Q ((r,()),())) :
  Tot (bif decide ((0:Int)<=0)&&decide (0<=a)&&decide (a<=(BV l:Int))&&true then (bif decide ((BV ([]:List α)+BV ((l.take (BZ a)).drop (BZ 0)))*c<=ak) then (bif decide ((BV ([]++((l.take (BZ a)).drop (BZ 0)))+BV ([x]))*c<=ak) then (bif decide (0<=a)&&decide (a<=(BV l:Int))&&decide ((BV l:Int)<=(BV l:Int))&&true then (bif decide ((BV (([]++((l.take (BZ a)).drop (BZ 0)))++([x]))+BV ((l.take (BZ (BV l:Int))).drop (BZ a)))*c<=ak) then (some (((([]++((l.take (BZ a)).drop (BZ 0)))++([x]))++((l.take (BZ (BV l:Int))).drop (BZ a)),()),())) else none) else none) else none) else none) else none) Q:=by
 obtain⟨m,rfl⟩:=CH u;refine Tot.must (by simp;omega) (Tot.fit (Tot.fit (Tot.must (by simp;omega) (Tot.fit (Tot.ret (k _ ?_)) (by omega) ?_)) (by omega) ?_) (by omega) ?_) <;>
 simp only[B3,CR,CK,CB,B5,CG,Cd,Cn,CP] <;> omega
theorem zx (K:Nat)(f g:af):Tot (Q186.f K (f,g,())) λ_=>True:=by
 simp only[Q186.f];exact Tot.cnd (λ_=>Tot.ret trivial) λ_=>Tot.bind (sU K g f).tot λ_ _=>Tot.ret trivial
theorem x3 (K:Nat)(l:List af)(f:af)(M:l.length<=1048576)(O:1048577<K):Tot (Q187.f K (l,f,())) λr=>r.1.1.length<=l.length+1:=by
 simp only[Q187.f,Q187.pre];refine Tot.iter (A:=Int) (step:=λrec a=>Q187.s0 K (l,f,()) rec a) (λa=>0<=a/\a<=l.length) (λa=>l.length-a.toNat) ?_ K _ (by show l.length-BZ 0<K;omega) ⟨by show (0:Int)<=0;omega,by show (0:Int)<=_;omega⟩;rintro rec i ⟨H,z⟩ J;simp only[Q187.s0];have u:=λ (z:i<=l.length)=>Tot.ins (x:=f) (c:=32) (Q:=λr=>r.1.1.length<=l.length+1) H z M (by omega) λr R=>by show r.length<=_;omega
 have y:l.length<=l.length+1:=Ce _;refine Tot.cnd (λh=>?_) λ_=>Tot.cnd (λh=>Tot.ix H (of_decide_eq_true h) λ_ _ _=>Tot.cnd (λ_=>Tot.ret y) λ_=>u z) λ_=>u z
 have h:i<(l.length:Int):=of_decide_eq_true h;rw[aA (n:=i+1) (by omega) (by omega)];refine Tot.ix H h λI _ _=>Tot.bind (zx K I f) λ_ _=>Tot.cnd (λ_=>J (i+1) ⟨by show 0<=i+1;omega,by show i+1<=(l.length:Int);omega⟩ (by show l.length-BZ (i+1)<l.length-BZ i;omega)) λ_=>Tot.cnd (λ_=>Tot.ix H h λ_ _ _=>Tot.cnd (λ_=>Tot.ret y) λ_=>u z) λ_=>u z
theorem z9 (K:Nat)(w:b7)(z y u:List af)(R:z.length<=1048576)(Z:y.length<=1048576)(h3:u.length<=100)(hb:w.2.2.2.length<=1000000)(M:1048577<K) :
  Tot (Q189.f K (w,z,y,u,())) λr=>∃ b,b.length<=w.2.2.2.length+u.length/\r.1.1=(w.1,w.2.1,w.2.2.1,b):=by
 simp only[Q189.f,Q189.pre];refine Tot.iter (step:=λrec a=>Q189.s0 K (w,z,y,u,()) rec a) (λa=>0<=a.1/\a.1<=u.length/\(a.2.length:Int)<=w.2.2.2.length+a.1) (λa=>u.length-a.1.toNat) ?_ K _ (by show u.length-BZ 0<K;omega) ⟨by show (0:Int)<=0;omega,by show (0:Int)<=_;omega,by show (w.2.2.2.length:Int)<=w.2.2.2.length+0;omega⟩;rintro rec ⟨i,b⟩ ⟨I,Y,i2⟩ O;simp only at I Y i2 O ⊢;simp only[Q189.s0];refine Tot.cnd (λh=>?_) λ_=>Tot.ret ⟨b,by omega,rfl⟩
 have h:=of_decide_eq_true h;rw[aA (n:=i+1) (by omega) (by omega)];have J:∀ H:List af,H.length<=b.length+1->Tot (rec (i+1,H)) λr=>∃ b,b.length<=w.2.2.2.length+u.length/\r.1.1=(w.1,w.2.1,w.2.2.1,b):=λH a0=>O _ ⟨by show 0<=i+1;omega,by show i+1<=_;omega,by show (H.length:Int)<=_+(i+1);omega⟩ (by show u.length-BZ (i+1)<u.length-BZ i;omega)
 refine Tot.ix I h λy1 _ _=>Tot.bind (tD K z y1 R M).tot λ_ _=>Tot.cnd (λ_=>?_) λ_=>J b (Ce _)
 refine Tot.ix I h λX _ _=>Tot.bind (tD K y X Z M).tot λ_ _=>Tot.cnd (λ_=>?_) λ_=>J b (Ce _)
 exact Tot.ix I h λy5 _ _=>Tot.bind (x3 K b y5 (by omega) M) λv hv=>J v.1.1 hv
structure Aa (w:b7) (i:Nat) (n:aa) (ws:List ar) (heard:List af) (c:Nat):Prop where
 wi:WI w c
 lt:i<8
 n:dH i n
 sent:∀ x∈ws,ii x
 wl:ws.length<=1000
 hl:heard.length<=1048576
 c:c<=1000000
theorem set_t (K:Nat)(w:b7)(i:Nat)(n:aa)(H:List ar)(u:List af)(c:Nat)(h:Aa w i n H u c)(I:1048577<K):Tot (Q190.f K ((w,i),n,H,u,())) λr=>WI r.1.1 (c+4):=by
 simp only[Q190.f];have y:i<w.1.length:=by rw[h.wi.len];exact h.lt
 have M:=h.c;have O:=h.wi.born;have J:=h.n.short;rw[h.n.me];refine Tot.vl (ag y) (Tot.vl (by rw[B3];exact ag y) (Tot.vl (ag y) (Tot.vl (by rw[B3];exact ag y) ?_)));refine Tot.must (by simp) ?_;rw[B3];refine Tot.bind (z9 K (w.1.set i n,w.2) (aa.table w.1[i]) u (aa.table n) (h.wi.node i y).nb.table h.hl (by omega) (by show w.2.2.2.length<=_;omega) I) ?_;rintro⟨⟨v,⟨⟩⟩,⟨⟩⟩ ⟨b,z,rfl⟩;refine Tot.bind (xZ K (w.1.set i n,w.2.1,w.2.2.1,b) (i:Int) H h.wi.sides ⟨by omega,by have:=h.lt;omega⟩ h.sent h.wi.radio h.wl I) ?_;rintro⟨⟨v,⟨⟩⟩,⟨⟩⟩ ⟨rd,hr,rfl⟩;have z:b.length<=w.2.2.2.length+(aa.table n).length:=z;exact Tot.ret (h.wi.put h.n hr (by omega))
theorem BC (K:Nat)(w:b7)(i:Nat)(n:aa)(H:List ar)(u:List af)(c:Nat)(h:Aa w i n H u c)(I:1048577<K):Tot (Q209.f K (w,n,H,u,())) λr=>WI r.1.1 (c+4):=by
 simp only[Q209.f];have y:i<w.1.length:=by rw[h.wi.len];exact h.lt
 have M:=h.c;have O:=h.wi.born;have J:=h.n.short;rw[h.n.me];refine Tot.vl (ag y) (Tot.vl (by rw[B3];exact ag y) (Tot.vl (ag y) (Tot.vl (by rw[B3];exact ag y) ?_)));rw[B3];refine Tot.bind (z9 K (w.1.set i n,w.2) (aa.table w.1[i]) u (aa.table n) (h.wi.node i y).nb.table h.hl (by omega) (by show w.2.2.2.length<=_;omega) I) ?_;rintro⟨⟨v,⟨⟩⟩,⟨⟩⟩ ⟨b,z,rfl⟩;refine Tot.bind (xZ K (w.1.set i n,w.2.1,w.2.2.1,b) (i:Int) H h.wi.sides ⟨by omega,by have:=h.lt;omega⟩ h.sent h.wi.radio h.wl I) ?_;rintro⟨⟨v,⟨⟩⟩,⟨⟩⟩ ⟨rd,hr,rfl⟩;have z:b.length<=w.2.2.2.length+(aa.table n).length:=z;exact Tot.ret (h.wi.put h.n hr (by omega))
theorem rE (K:Nat)(l:List lP)(at_:Int)(z:0<=at_)(H:at_<l.length)(y:gX l):Tot (Q151.f K (l,at_,())) λr=>gX r.1.1:=by
 have I:=y.1;obtain⟨m,rfl⟩:=CH z;simp only[Q151.f];rw[aq m (by omega)];refine Tot.must (by simp;omega) (Tot.fit (Tot.must (by simp;omega) (Tot.fit (Tot.ret ⟨?_,λf u=>y.2 f ?_⟩) (by omega) ?_)) (by omega) ?_)
 ·simp only[B3,CR,CK,CB,B5,CG,Cd];omega
 ·simp only[B3,CR,CK,CB,CU]at u;rcases B8.1 u with u|u
  ·exact CL u
  ·exact List.mem_of_mem_drop u
 ·simp only[B3,CR,CK,CB,B5,CG,Cd];omega
 ·simp only[B3,CR,CK,CB,CG,CP];omega
theorem rF (K:Nat)(w:b7)(c:Nat)(h:WI w c)(Z:c<=1000000)(to:Int)(t0:0<=to)(t1:to<=7)(x:ar)(X:iY x)(H:1048577<K){G:aa->aa->Option ((b7×Unit)×Unit)}
  (hG:∀ y:aa,G y y=(Q184.f K (y,x,())).bind λI=>(Q190.f K ((w,BZ to),I.1.1,I.1.2.1,ar.table x,())).bind λO=>some ((O.1.1,()),())) :
  Tot ((idx w.1 to).bind λ_=>(idx w.1 (BZ to:Nat)).bind λR=>(idx w.1 (BZ to:Nat)).bind λM=>G R M) λr=>WI r.1.1 (c+4):=by
 obtain⟨i,rfl⟩:=CH t0;have J:i<w.1.length:=by rw[h.len];omega
 have z:=h.node i J;refine Tot.vl (ag J) (Tot.vl (by rw[B3];exact ag J) (Tot.vl (by rw[B3];exact ag J) ?_));rw[hG,Bz K w.1[i] x z.up (cM X.2.2.2.2.2.2.2.1) H];simp only[BU,B3];refine Tot.bind (set_t K w i _ _ _ c ⟨h,z.lt,?_,?_,?_,cM X.2.2.2.2.2.2.2.1,Z⟩ H) λv hv=>Tot.ret hv
 ·cases u:w.1[i].2.1 with
  |true=>exact z.of (ve (z.up u) H).1 (ve (z.up u) H).2.1
  |false =>
   rw[show dK K w.1[i] x=(w.1[i],[]) by unfold dK;rw[if_neg λh=>by have:=h.2.1;rw[u]at this;cases this]];exact z
 ·cases u:w.1[i].2.1 with
  |true=>exact λy Y=>(qa (z.up u) H).2 y Y
  |false =>
   rw[show dK K w.1[i] x=(w.1[i],[]) by unfold dK;rw[if_neg λh=>by have:=h.2.1;rw[u]at this;cases this]];simp
 ·cases u:w.1[i].2.1 with
  |true=>have:=(qa (w:=x) (z.up u) H).1;omega
  |false =>
   rw[show dK K w.1[i] x=(w.1[i],[]) by unfold dK;rw[if_neg λh=>by have:=h.2.1;rw[u]at this;cases this]];simp
theorem AJ (K:Nat)(w:b7)(c:Nat)(h:WI w c)(hc:c<=1000000)(at_:Int)(keep:Bool)(h0:0<=at_)(h1:at_<w.2.1.length)(X:1048577<K):Tot (Q191.f K (w,at_,keep,())) λr=>WI r.1.1 (c+4):=by
 simp only[Q191.f,zcp8];refine Tot.ix2 h0 h1 λf hf _=>?_
 obtain⟨⟨t0,t1⟩,a0⟩:=h.radio.2 f hf;have hs:=h.sides;refine Tot.cnd (λ_=>Tot.bind (rE K w.2.1 at_ h0 h1 h.radio) ?_) λ_=>Tot.bind (pX K f.2.1 (by omega) X) ?_
 ·rintro⟨⟨rd,⟨⟩⟩,⟨⟩⟩ hr;have R:WI (w.1,rd,w.2.2) (c+4):=⟨h.len,h.node,hr,h.sides,B9 h.born (by omega)⟩;refine Tot.bind (pX K f.2.1 (by omega) X) ?_;rintro⟨⟨(x:ar),ok,⟨⟩⟩,⟨⟩⟩ H;refine Tot.cnd (λ_=>Tot.ret R) λY=>?_
  have H:iY x:=H (by simpa using Y);obtain⟨O,Z⟩:=H.2.2.1;have J:x.2.2.1<(w.2.2.1.length:Int):=by rw[hs];omega
  refine Tot.ix2 O J λ_ _ _=>Tot.ix2 t0 (by omega) λ_ _ _=>Tot.cnd (λ_=>Tot.ret R) λ_=>Tot.cnd (λ_=>Tot.ret R) λ_=>?_
  exact rF K (w.1,rd,w.2.2) c ⟨h.len,h.node,hr,h.sides,h.born⟩ hc f.1 t0 t1 x H X (G:=λu I=>(Q184.f K ((u.1,(u.2.1,(u.2.2.1,(u.2.2.2.1,(u.2.2.2.2.1,(u.2.2.2.2.2.1,(u.2.2.2.2.2.2.1,(u.2.2.2.2.2.2.2.1,(u.2.2.2.2.2.2.2.2.1,(u.2.2.2.2.2.2.2.2.2.1,(u.2.2.2.2.2.2.2.2.2.2.1,(I.2.2.2.2.2.2.2.2.2.2.2.1,u.2.2.2.2.2.2.2.2.2.2.2.2)))))))))))),x,())).bind λz=>(Q190.f K (((w.1,rd,w.2.2),BZ f.1),z.1.1,z.1.2.1,ar.table x,())).bind λM=>some ((M.1.1,()),())) λy=>rfl
 ·rintro⟨⟨(x:ar),ok,⟨⟩⟩,⟨⟩⟩ H;have R:WI w (c+4):=h.mono (by omega);refine Tot.cnd (λ_=>Tot.ret R) λY=>?_
  have H:iY x:=H (by simpa using Y);obtain⟨O,Z⟩:=H.2.2.1;have J:x.2.2.1<(w.2.2.1.length:Int):=by rw[hs];omega
  refine Tot.ix2 O J λ_ _ _=>Tot.ix2 t0 (by omega) λ_ _ _=>Tot.cnd (λ_=>Tot.ret R) λ_=>Tot.cnd (λ_=>Tot.ret R) λ_=>?_
  exact rF K w c h hc f.1 t0 t1 x H X (G:=λu I=>(Q184.f K ((u.1,(u.2.1,(u.2.2.1,(u.2.2.2.1,(u.2.2.2.2.1,(u.2.2.2.2.2.1,(u.2.2.2.2.2.2.1,(u.2.2.2.2.2.2.2.1,(u.2.2.2.2.2.2.2.2.1,(u.2.2.2.2.2.2.2.2.2.1,(u.2.2.2.2.2.2.2.2.2.2.1,(I.2.2.2.2.2.2.2.2.2.2.2.1,u.2.2.2.2.2.2.2.2.2.2.2.2)))))))))))),x,())).bind λz=>(Q190.f K (((w.1,w.2),BZ f.1),z.1.1,z.1.2.1,ar.table x,())).bind λM=>some ((M.1.1,()),())) λy=>rfl
theorem AK (K:Nat)(w:b7)(c:Nat)(h:WI w c)(at_ u:Int)(O:0<=at_)(M:at_<w.2.1.length):Tot (Q192.f K (w,at_,u,())) λr=>WI r.1.1 c:=by
 simp only[Q192.f];refine Tot.ix2 O M λf Y _=>?_
 obtain⟨z,I⟩:=h.radio.2 f Y;refine Tot.cnd (λ_=>Tot.ret h) λ_=>Tot.cnd (λ_=>Tot.ret h) λZ=>?_
 have y:¬ (f.2.1.size:Int)=0:=by simpa using Z
 obtain⟨J,b1⟩:=lQ (a:=u) (m:=4095) (by omega);have J:0<=aT .i64 u 4095:=J;have R:0<=CS (aT .i64 u 4095) (f.2.1.size:Int):=Cq _ J;have X:CS (aT .i64 u 4095) (f.2.1.size:Int)<((eJ f.2.1).length:Int):=by rw[rA];exact Ci _ (by omega)
 refine Tot.not (decide_eq_false y) (Tot.ix2 R X λ_ _ _=>Tot.ix2 R X λ_ _ _=>Tot.ix2 O M λ_ _ _=>Tot.ret ⟨h.len,h.node,⟨?_,λg H=>?_⟩,h.sides,h.born⟩)
 ·show (w.2.1.set _ _).length<=60;rw[CC];exact h.radio.1
 ·rcases List.mem_or_eq_of_mem_set H with H|rfl
  ·exact h.radio.2 g H
  ·refine⟨z,?_⟩;show (gP _).size<=2000;rw[jd,CC,rA];exact I
def mu (i:Int)(g:Bool):aa:=(i,true,false,g,0,0,0,0,[(i,0,1,g)],[],(-1,0,0,false),[],(0,0,0,1500),[],[])
theorem AL {i:Int}{g:Bool}(h:InP i 0 7):UpN (mu i g):=by
 refine⟨⟨h,CJ _,⟨λf r=>?_,List.pairwise_singleton _ _⟩,λf r=>?_,⟨λx y=>(nomatch y),List.Pairwise.nil⟩,λx y=>(nomatch y),?_,⟨λd z=>(nomatch z),List.Pairwise.nil,rfl⟩,⟨?_,?_,?_,?_⟩,⟨λp u=>(nomatch u),List.Pairwise.nil⟩,⟨λp u=>(nomatch u),List.Pairwise.nil⟩⟩,?_,?_,⟨?_,?_⟩,?_,rfl⟩
 ·rw[BY.1 r];exact⟨h,⟨by show (0:Int)<=0;omega,by show (0:Int)<=999;omega⟩,by show (1:Int)<=1;omega,by show (1:Int)<=4;omega⟩
 ·rw[BY.1 r];rfl
 ·unfold c5;rw[if_pos (show (aa.probe (mu i g)).1=-1 from rfl)];rfl
 ·exact⟨by show (-100000:Int)<=0;omega,by show (0:Int)<=100000;omega⟩
 ·exact⟨by show (-100000:Int)<=0;omega,by show (0:Int)<=100000;omega⟩
 ·exact⟨by show (0:Int)<=0;omega,by show (0:Int)<=100000;omega⟩
 ·exact⟨by show (1:Int)<=1500;omega,by show (1500:Int)<=1500;omega⟩
 ·exact BY.2 rfl
 ·show (0:Int)<=999999;omega
 ·exact⟨by show (0:Int)<=0;omega,by show (0:Int)<=999999;omega⟩
 ·exact⟨by show (0:Int)<=0;omega,by show (0:Int)<=8;omega⟩
 ·exact⟨by show (0:Int)<=0;omega,by show (0:Int)<=999;omega⟩
theorem rG (K:Nat)(i:Int)(g:Bool)(h:InP i 0 7):Q131.f K (i,g,())=some ((mu i g,()),()):=by
 simp only[Q131.f];obtain⟨b,e,r⟩:=cI K i 0 7;rw[e,r.2 h];rfl
theorem dH.new (i:Nat)(g:Bool)(h:i<8):dH i (mu (i:Int) g):=⟨rfl,h,λ_=>AL ⟨by omega,by omega⟩,λr=>by cases r⟩
theorem BD (K:Nat)(w:b7)(c:Nat)(h:WI w c)(M:c<=1000000)(u:Int)(y:InP u 0 7)(H:1048577<K):Tot (Q211.f K (w,u,())) λr=>WI r.1.1 (c+4):=by
 have O:=h.born;have I:u.toNat<8:=by obtain⟨a,b⟩:=y;omega
 have z:=h.len;simp only[Q211.f,Q120.f,BU];rw[rG K u _ y];simp only[BU];refine Tot.ix2 y.1 (by have:=y.2;omega) λ_ _ _=>?_
 refine Tot.vl (show idx (mu u (decide (CS u 4<3))).2.2.2.2.2.2.2.2.1 0=some (u,0,1,decide (CS u 4<3)) from rfl) (Tot.bind (x3 K w.2.2.2 _ (by omega) H) λv J=>Tot.ret (h.put ?_ h.radio (by omega)));have:=dH.new u.toNat (decide (CS u 4<3)) I
 rwa [Cg y.1]at this
theorem AM {n:aa}(h:UpN n):(lN n).length<=8/\∀ x∈lN n,ii x:=by
 unfold lN;refine⟨?_,λx u=>?_⟩
 ·rw[CN];exact B9 (CT _ _) (i9 h.x.table.2 λf r=>(h.x.table.1 f r).1)
 ·obtain⟨f,r,rfl⟩:=CE.1 u;exact⟨(h.x.table.1 f (CO.1 r).1).1,cM h.x.table⟩
theorem BE (K:Nat)(w:b7)(c:Nat)(h:WI w c)(hc:c<=1000000)(e:af)(h0:InP e.2.1 0 7)(O:1048577<K):Tot (Q213.f K (w,e,())) λr=>WI r.1.1 (c+4):=by
 have a2:=h.len;have hs:=h.sides;obtain⟨a1,a0,u,keep⟩:=e;obtain⟨e0,e1⟩:=h0;simp only at e0 e1;obtain⟨i,rfl⟩:=CH e0;have Z:i<w.1.length:=by omega
 have M:=h.node i Z;have y:=h.mono (show c<=c+4 by omega);simp only[Q213.f];refine Tot.vl (ag Z) (Tot.vl (by rw[B3];exact ag Z) ?_);generalize w.1[i]=n at M ⊢;refine Tot.cnd (λ_=>?_) λ_=>Tot.cnd (λ_=>?_) λ_=>Tot.cnd (λ_=>?_) λ_=>?_
 ·
  rw[z7];simp only[BU];exact Tot.ix2 (by omega) (by omega) λ_ _ _=>Tot.ret ⟨y.len,y.node,y.radio,by show (w.2.2.1.set _ _).length=8;rw[CC];exact h.sides,y.born⟩
 ·
  simp only[Q210.f,BU];refine Tot.ix2 (by omega) (by omega) λ_ _ _=>Tot.ret (y.put (i:=i) (n:=jD n.1 n.2.2.2.1) ?_ y.radio y.born)
  exact⟨M.me,M.lt,λJ=>(by cases J),λ_=>rfl⟩
 ·
  exact Tot.cnd (λ_=>Tot.ret y) λ_=>Tot.bind (BD K w c h hc (i:Int) ⟨by omega,by omega⟩ O) λv H=>Tot.ret H
 ·refine Tot.cnd (λ_=>Tot.ret y) λJ=>Tot.cnd (λ_=>Tot.ret y) λY=>?_
  have J:n.2.1=true:=by simpa using J
  have z:=M.up J;have set:=λ (m:aa) (R:List ar) (I:UpN m) (em:m.1=n.1) (X:∀ x∈R,ii x) (hl:R.length<=1000)=>BC K w i m R [] c ⟨h,M.lt,M.of I em,X,hl,B7 _,hc⟩ O
  refine Tot.cnd (λ_=>?_) λ_=>Tot.cnd (λ_=>?_) λ_=>Tot.cnd (λ_=>?_) λ_=>Tot.ret y
  ·refine Tot.cnd (λ_=>Tot.ret y) λI=>?_
   have I:aL n<999999:=by have I:¬ n.2.2.2.2.2.1>=999999:=of_decide_eq_false I;show n.2.2.2.2.2.1<999999;omega
   obtain⟨t1,t2,_⟩:=nZ z I;obtain⟨w1,w2⟩:=BB z I u;exact Tot.vl (xY K n u z Y I O) (Tot.bind (set _ _ t1 t2 w2 (B9 w1 (by omega))) λv H=>Tot.ret H)
  ·obtain⟨t1,t2⟩:=zp z Y;obtain⟨w1,w2⟩:=AM t1;exact Tot.vl (Ar K n z.nb z.ok J Y O) (Tot.bind (set _ _ t1 t2 w2 (B9 w1 (by omega))) λv H=>Tot.ret H)
  ·refine Tot.bind (cI K u 0 7).tot λv H=>Tot.cnd (λ_=>Tot.ret y) λh1=>Tot.cnd (λ_=>Tot.ret y) λ_=>?_
   have hd:InP u 0 7:=H.1 (by simpa using h1);rw[eQ K,eQ K];simp only[BU];refine Tot.cnd (λ_=>Tot.ret y) λ_=>?_
   refine Tot.vl (nX K n 4 u (cM z.x.table)) (Tot.bind (set n _ z rfl (λx hx=>?_) (by simp)) λv H=>Tot.ret H);rw[BY.1 hx];exact⟨hd,cM z.x.table⟩
theorem do_t (K:Nat)(w:b7)(c:Nat)(h:WI w c)(O:c<=1000000)(e:af)(R:1048577<K):Tot (Q215.f K (w,e,())) λr=>WI r.1.1 (c+4):=by
 have z:=h.mono (show c<=c+4 by omega);have hr:=h.radio.1;simp only[Q215.f];rw[aA (n:=(BV w.2.1:Int)-1) (by omega) (by omega)];have u:Tot ((Q50.f K (e.2.1,0,(BV w.2.1:Int)-1,())).bind λY=>bif !Y.1.1 then (some ((w,false,()),())) else (bif e.1==2 then ((Q191.f K (w,e.2.1,e.2.2.2,())).bind λZ=>some ((Z.1.1,true,()),())) else (bif e.1==4 then ((Q192.f K (w,e.2.1,e.2.2.1,())).bind λM=>some ((M.1.1,M.1.2.1,()),())) else ((Q151.f K (w.2.1,e.2.1,())).bind λX=>some (((w.1,(X.1.1,w.2.2)),true,()),()))))) λr=>WI r.1.1 (c+4):=by
  refine Tot.bind (cI K _ _ _).tot λv y=>Tot.cnd (λ_=>Tot.ret z) λI=>?_
  obtain⟨J,H⟩:InP e.2.1 0 ((BV w.2.1:Int)-1):=y.1 (by simpa using I);have H:e.2.1<(w.2.1.length:Int):=by omega
  refine Tot.cnd (λ_=>Tot.bind (AJ K w c h O e.2.1 e.2.2.2 J H R) λv y=>Tot.ret y) λ_=>Tot.cnd (λ_=>Tot.bind (AK K w c h e.2.1 e.2.2.1 J H) λv y=>Tot.ret (WI.mono y (by omega))) λ_=>?_
  exact Tot.bind (rE K w.2.1 e.2.1 J H h.radio) λv y=>Tot.ret ⟨z.len,z.node,y,z.sides,z.born⟩
 refine Tot.cnd (λ_=>u) λ_=>Tot.cnd (λ_=>u) λ_=>Tot.cnd (λ_=>u) λ_=>?_
 exact Tot.bind (cI K _ _ _).tot λv y=>Tot.cnd (λ_=>Tot.ret z) λI=>Tot.bind (BE K w c h O e (y.1 (by simpa using I)) R) λv y=>Tot.ret y
theorem zy (K:Nat)(w:b7)(O:w.1.length<=1048576)(J:∀ n∈w.1,NB n)(X:w.2.1.length<=1048576)(R:w.2.2.1.length<=1048576)(Y:w.2.2.2.length<=1048576)(H:1048577<K):Q216.f K (w,())=some ((w,()),()):=by
 simp only[Q216.f,Q216.pre];rw[szb _ _ _ (by omega) (by show (BV ([]:List lP))+w.2.1.length<=_;simp;omega)];simp only[cond_true];rw[szb _ _ _ (by omega) (by show (BV ([]:List Int))+w.2.2.1.length<=_;simp;omega)];simp only[cond_true];rw[szb _ _ _ (by omega) (by show (BV ([]:List af))+w.2.2.2.length<=_;simp;omega)];simp only[cond_true];have:∀ (d i k:Nat),i+d=w.1.length->d<k->ae (λrec a=>Q216.s0 K (w,()) rec a) k ((i:Int),w.1.take i)=some ((w,()),()):=by
  intro d;induction d with
  |zero =>
   intro i k I z;obtain⟨k,rfl⟩:∃ u,k=u+1:=⟨k-1,by omega⟩;have:i=w.1.length:=by omega
   subst this;show Q216.s0 K (w,()) _ _=_;simp only[Q216.s0,aZ,CU];rfl
  |succ d M =>
   intro i k I z;obtain⟨k,rfl⟩:∃ u,k=u+1:=⟨k-1,by omega⟩;have r:i<w.1.length:=by omega
   show Q216.s0 K (w,()) _ _=_;simp only[Q216.s0];rw[bG (by omega:(i:Int)<(BV w.1:Int)),ag r,aq i (by omega)];simp only[cond_true,BU];refine (congrArg (λo=>BX o _) (xt K w.1[i] (J _ (B4 r)) H)).trans ?_;simp only[BU];have y:decide (((w.1.take i).length+[w.1[i]].length)*232<=ak)=true:=decide_eq_true (by
    rw[CG];simp only[Cn,CP,ak];omega)
   refine (congrArg (λb=>bif b then _ else _) y).trans ?_;have e:w.1.take i++[w.1[i]]=w.1.take (i+1):=by rw[CZ,CM r];rfl
   rw[<- M (i+1) k (by omega) (by omega),<- e];rfl
 exact this w.1.length 0 K (by omega) (by omega)
theorem WI.copy {w:b7}{c:Nat}(h:WI w c)(M:c<=1000000)(K:Nat)(r:1048577<K):Q216.f K (w,())=some ((w,()),()):=by
 have z:=h.len;have H:=h.radio.1;have J:=h.sides;have I:=h.born;refine zy K w (by omega) (λn u=>?_) (by omega) (by omega) (by omega) r;obtain⟨i,y,rfl⟩:=CD u;exact (h.node i y).nb
theorem BF (K:Nat)(w:b7)(c:Nat)(y:List af)(h:WI w c)(hl:y.length<=1000)(Z:c<=900000)(O:1048577<K):Tot (Q217.f K (w,y,())) λr=>WI r.1.1 (c+4*y.length)/\r.2.1=y:=by
 simp only[Q217.f,Q217.pre];refine Tot.iter (step:=λrec a=>Q217.s0 K (w,y,()) rec a) (λa=>0<=a.1/\a.1<=y.length/\WI a.2 (c+4*a.1.toNat)) (λa=>y.length-a.1.toNat) ?_ K _ (by show y.length-BZ 0<K;omega) ⟨by show (0:Int)<=0;omega,by show (0:Int)<=_;omega,h⟩;rintro rec ⟨i,v⟩ ⟨J,X,H⟩ R;simp only at J X H R ⊢;simp only[Q217.s0];refine Tot.cnd (λz=>?_) λ_=>Tot.ret ⟨WI.mono H (by omega),rfl⟩
 have z:i<(y.length:Int):=of_decide_eq_true z;rw[aA (n:=i+1) (by omega) (by omega)];refine Tot.vl (H.copy (by omega) K O) (Tot.ix2 J z λe _ _=>Tot.bind (do_t K v _ H (by omega) e O) ?_);rintro⟨⟨v',ok,⟨⟩⟩,⟨⟩⟩ I;have I:WI v' (c+4*i.toNat+4):=I;have M:∀ u:b7,WI u (c+4*i.toNat+4)->Tot (rec (i+1,u)) λr=>WI r.1.1 (c+4*y.length)/\r.2.1=y:=λu Y=>R (i+1,u) ⟨by show 0<=i+1;omega,by show i+1<=_;omega,Y.mono (by show _<=c+4*(i+1).toNat;omega)⟩ (by show y.length-BZ (i+1)<y.length-BZ i;omega)
 exact Tot.cnd (λ_=>M v' I) λ_=>M v (H.mono (by omega))
theorem wg (K:Nat)(hK:1048577<K):Tot (Q132.f K ()) λr=>WI r.1.1 8:=by
 simp only[Q132.f,Q132.pre];refine Tot.iter (step:=λrec a=>Q132.s0 K () rec a) (λa=>0<=a.1/\a.1<=8/\a.2.1.length=a.1.toNat/\(∀ (j:Nat) (y:j<a.2.1.length),dH j a.2.1[j])/\a.2.2.1.length=a.1.toNat/\a.2.2.2.length=a.1.toNat) (λa=>8-a.1.toNat) ?_ K _ (by show 8-BZ 0<K;omega) ⟨by show (0:Int)<=0;omega,by show (0:Int)<=8;omega,rfl,λj y=>(by cases y),rfl,rfl⟩;rintro rec ⟨i,z,O,R⟩ ⟨I,Y,h2,H,h4,h5⟩ X;simp only at I Y h2 H h4 h5 X ⊢;simp only[Q132.s0];refine Tot.cnd (λu=>?_) λu=>?_
 ·have u:i<=7:=of_decide_eq_true u;rw[aA (n:=i+1) (by omega) (by omega)];simp only[Q120.f,BU];refine Tot.vl (rG K i _ ⟨I,u⟩) (Tot.fit (Tot.fit (Tot.vl (show idx (mu i (decide (CS i 4<3))).2.2.2.2.2.2.2.2.1 0=some (i,0,1,decide (CS i 4<3)) from rfl) (Tot.fit (X _ ⟨by show 0<=i+1;omega,by show i+1<=8;omega,?_,λj y=>?_,?_,?_⟩ (by show 8-BZ (i+1)<8-BZ i;omega)) (by omega) ?_)) (by omega) ?_) (by omega) ?_)
  ·show (z++[mu i _]).length=(i+1).toNat;simp;omega
  ·show dH j ((z++[mu i (decide (CS i 4<3))])[j]'y);rw[List.getElem_append];split
   ·exact H j _
   ·rename_i M;have y:j<(z++[mu i (decide (CS i 4<3))]).length:=y;have J:j=i.toNat:=by simp at y;omega
    subst J;have:=dH.new i.toNat (decide (CS i 4<3)) (by omega);rw[Cg I]at this;simpa using this
  ·show (O++[0]).length=(i+1).toNat;simp;omega
  ·show (R++[_]).length=(i+1).toNat;simp;omega
  ·simp;omega
  ·simp;omega
  ·simp;omega
 ·have M:=of_decide_eq_false u;refine Tot.ret ⟨?_,H,⟨B7 _,λf Z=>(nomatch Z)⟩,?_,?_⟩
  ·show z.length=8;omega
  ·show O.length=8;omega
  ·show R.length<=8;omega
abbrev LtP (v n:Int):Prop:=0<=v/\v<n
def bk (b:List Int)(m:Nat)(s:List Int×Int):Prop:=∃ q:Nat,q<=m/\s=(b,(q:Int))
theorem bk.up {b:List Int}{m:Nat}{s:List Int×Int}(h:bk b m s){m':Nat}(y:m<=m'):bk b m' s:=by obtain⟨q,u,r⟩:=h;exact⟨q,by omega,r⟩
section
variable {K:Nat} {b:List Int} {m:Nat} {s:List Int×Int}
theorem aG (h:fW b)(z:bk b m s)(n:Int)(H:1<=n)(J:m<=99000):Tot (Q117.f K (s,n,())) λr=>LtP r.1.1 n/\bk b (m+1) r.2.1:=by
 obtain⟨q,I,rfl⟩:=z;obtain⟨v,e,u,y⟩:=Aw K b q n h (by omega) H;exact⟨_,e,⟨u,y⟩,q+1,by omega,rfl⟩
theorem BG (r:List Int)(z:∀ y∈r,0<=y/\y<=255)(I:r.length<=9223372036854775807):∃ u:List Int,fW u/\Q116.f K (r,())=some (((u,(0:Int)),()),()):=by
 simp only[Q116.f];by_cases h:(r.length:Int)>2000
 ·rw[decide_eq_true h,decide_eq_true (by omega:(2000:Int)<=(r.length:Int))];exact⟨(r.take 2000).drop 0,⟨λy H=>z y (CL (by simpa using H)),by simp;omega⟩,rfl⟩
 ·rw[decide_eq_false h];exact⟨r,⟨z,by omega⟩,rfl⟩
theorem x4 (h:fW b)(Z:bk b m s)(u:Int)(h0:0<=u)(h1:u<=1)(hm:m<=98000):Tot (Q121.f K (s,u,())) λr=>(bD r.1.1/\ao r.1.1.1=u)/\bk b (m+5) r.2.1:=by
 simp only[Q121.f];refine Tot.bind (aG h Z 4 (by decide) (by omega)) λH ⟨⟨a1,b1⟩,R⟩=>Tot.bind (aG h R 3 (by decide) (by omega)) λv2 ⟨⟨a2,b2⟩,M⟩=>Tot.bind (aG h M 12 (by decide) (by omega)) λv3 ⟨⟨a3,b3⟩,s3⟩=>Tot.bind (aG h s3 3 (by decide) (by omega)) λv4 ⟨⟨J,Y⟩,O⟩=>Tot.ix2 J Y λy z _=>Tot.bind (aG h O 4 (by decide) (by omega)) λI ⟨⟨a5,b5⟩,X⟩=>?_
 simp only[Q120.f,BU];have z:InP y 0 999:=by
  simp only[Ct,Co,or_false]at z;rcases z with rfl|rfl|rfl <;> constructor <;> omega
 rw[aA (n:=u*4) (by omega) (by omega),aA (n:=u*4+H.1.1) (by omega) (by omega),aA (n:=1+I.1.1) (by omega) (by omega)];refine Tot.ret ⟨⟨⟨⟨?_,?_⟩,z,?_,?_⟩,?_⟩,X⟩
 ·show (0:Int)<=u*4+H.1.1;omega
 ·show u*4+H.1.1<=7;omega
 ·show (1:Int)<=1+I.1.1;omega
 ·show (1:Int)+I.1.1<=4;omega
 ·show ao (u*4+H.1.1)=u;rw[kE ⟨by omega,by omega⟩];omega
theorem rH (h:fW b)(X:bk b m s)(hm:m<=97000):Tot (Q123.f K (s,())) λr=>bk b (m+8) r.2.1:=by
 simp only[Q123.f];refine Tot.bind (aG h X 2 (by decide) (by omega)) λR ⟨⟨I,b1⟩,O⟩=>Tot.bind (x4 h O R.1.1 I (by omega) (by omega)) λf ⟨_,J⟩=>Tot.bind (aG h J 12 (by decide) (by omega)) λY ⟨_,H⟩=>?_
 have u:∀ {x y:Int} {G:(Int×Unit)×(List Int×Int)×Unit->Int->Option ((af×Unit)×(List Int×Int)×Unit)},(∀ v z,Tot (G v z) λr=>r.2.1=v.2.1)->Tot ((Q117.f K (Y.2.1,2,())).bind λv=>(idx [x,y] v.1.1).bind λ_=>(idx [x,y] (BZ v.1.1:Nat)).bind (G v)) λr=>bk b (m+8) r.2.1:=λZ=>Tot.bind (aG h H 2 (by decide) (by omega)) λv ⟨⟨a,b⟩,M⟩=>Tot.ix2 a b λz _ _=>(Z v z).mono λr e=>by rw[e];exact M.up (by omega)
 refine Tot.cnd (λ_=>u λ_ _=>Tot.ret rfl) λ_=>Tot.cnd (λ_=>u λ_ _=>Tot.ret rfl) λ_=>Tot.cnd (λ_=>u λ_ _=>Tot.ret rfl) λ_=>Tot.cnd (λ_=>Tot.ret (H.up (by omega))) λ_=>Tot.ret (H.up (by omega))
theorem x5 (t:List af)(f:af):(bW t f).1.length<=t.length+1:=by
 rcases ia t f with e|e
 ·rw[e];omega
 ·rw[e];exact yW
theorem wh {t:List af}{f:af}{z:Int}(h:cj t z)(u:ao f.1=z):cj (bW t f).1 z:=by
 rcases ia t f with e|e <;> rw[e]
 ·exact h
 ·intro g r;rcases bd.1 r with rfl|⟨r,_⟩
  ·exact u
  ·exact h g r
theorem vh (h:fW b)(hs:bk b m s)(u:Int)(h0:-1<=u)(h1:u<=1)(hm:m<=96000)(hK:1048577<K):Tot (Q122.f K (s,u,())) λr=>(az r.1.1/\(0<=u->cj r.1.1 u)/\r.1.1.length<=5)/\bk b (m+31) r.2.1:=by
 simp only[Q122.f,Q122.pre];refine Tot.bind (aG h hs 6 (by decide) (by omega)) λv ⟨⟨v0,v1⟩,s1⟩=>?_
 refine Tot.iter (step:=λrec a=>Q122.s0 K (s,u,()) rec a) (λa=>∃ q:Nat,0<=a.2.1/\az a.1/\(0<=u->cj a.1 u)/\(a.1.length:Int)+a.2.1<=5/\bk b q a.2.2/\q+6*a.2.1.toNat<=m+31) (λa=>a.2.1.toNat) ?_ K _ (by show v.1.1.toNat<K;omega) ⟨m+1,v0,⟨by simp,List.Pairwise.nil⟩,λ_ f Y=>(nomatch Y),by show ((0:Nat):Int)+v.1.1<=5;omega,s1,by show m+1+6*v.1.1.toNat<=m+31;omega⟩;rintro rec ⟨t,n,s2⟩ ⟨q,n0,O,Z,hl,I,hq⟩ ih;simp only at n0 O Z hl I hq ih ⊢;simp only[Q122.s0];refine Tot.cnd (λhn=>?_) λ_=>Tot.ret ⟨⟨O,Z,by show t.length<=5;omega⟩,I.up (by omega)⟩
 have hn:n>0:=of_decide_eq_true hn;rw[aA (n:=n-1) (by omega) (by omega)];have go:∀ (z:Int) (J:Nat) (M:List Int×Int),0<=z->z<=1->(0<=u->z=u)->bk b J M->J<=q+1->Tot ((Q121.f K (M,z,())).bind λR=>(Q119.f K (t,R.1.1,())).bind λy4=>rec (y4.1.1,n-1,R.2.1.1,R.2.1.2)) λr=>(az r.1.1/\(0<=u->cj r.1.1 u)/\r.1.1.length<=5)/\bk b (m+31) r.2.1:=λz J M z0 z1 hz X a2=>by
  refine Tot.bind (x4 h X z z0 z1 (by omega)) λy ⟨⟨Y,a1⟩,a0⟩=>Tot.vl (vV K t y.1.1 (by omega) O.2 hK) (ih (_,_,y.2.1) ⟨J+5,by show 0<=n-1;omega,kz O Y,λh9=>wh (Z h9) (by rw[a1];exact hz h9),?_,a0,by show J+5+6*(n-1).toNat<=m+31;omega⟩ (by show (n-1).toNat<n.toNat;omega))
  have:=x5 t y.1.1;show ((bW t y.1.1).1.length:Int)+(n-1)<=5;omega
 refine Tot.cnd (λH=>?_) λH=>?_
 ·have H:u<0:=of_decide_eq_true H;exact Tot.bind (aG h I 2 (by decide) (by omega)) λv ⟨⟨a,b⟩,M⟩=>go v.1.1 (q+1) v.2.1 a (by omega) (λh9=>by omega) M (CV _)
 ·have H:¬ u<0:=of_decide_eq_false H;exact go u q s2 (by omega) h1 (λ_=>rfl) I (by omega)
theorem qb (h:fW b)(X:bk b m s)(Z:m<=95000)(R:1048577<K):Tot (Q124.f K (s,())) λr=>r.1.1.length<=6/\bk b (m+42) r.2.1:=by
 simp only[Q124.f];refine Tot.bind (vh h X (-1) (by decide) (by decide) (by omega) R) λt ⟨⟨hT,_,hl⟩,M⟩=>?_
 refine Tot.cnd (λI=>?_) λ_=>Tot.ret ⟨by show t.1.1.length<=6;omega,M.up (by omega)⟩
 have I:(t.1.1.length:Int)>0:=of_decide_eq_true I;refine Tot.bind (aG h M 12 (by decide) (by omega)) λv2 ⟨_,J⟩=>Tot.cnd (λ_=>?_) λ_=>Tot.ret ⟨by show t.1.1.length<=6;omega,J.up (by omega)⟩
 refine Tot.bind (aG h J (t.1.1.length:Int) (by omega) (by omega)) λv3 ⟨⟨u,H⟩,Y⟩=>Tot.bind (aG h Y 3 (by decide) (by omega)) λv4 ⟨_,z⟩=>?_
 refine Tot.cnd (λ_=>Tot.bind (rH h z (by omega)) λf O=>Tot.ix2 u H λ_ _ _=>Tot.ret ⟨by show (t.1.1.set _ _).length<=6;rw[CC];omega,O.up (by omega)⟩) λ_=>?_
 refine Tot.cnd (λ_=>Tot.ix2 u H λy _ _=>Tot.fit (Tot.ret ⟨by show (t.1.1++[y]).length<=6;simp;omega,z.up (by omega)⟩) (by omega) (by simp;omega)) λ_=>Tot.ix2 u H λy _ _=>Tot.ret ⟨by show (t.1.1.set _ _).length<=6;rw[CC];omega,z.up (by omega)⟩
theorem AN (h:fW b)(hs:bk b m s)(u:Int)(X:-1<=u)(R:u<=1)(hm:m<=95000)(hK:1048577<K):Tot (Q125.f K (s,u,())) λr=>r.1.1.length<=5/\bk b (m+36) r.2.1:=by
 simp only[Q125.f,Q125.pre];refine Tot.bind (vh h hs u X R (by omega) hK) λt ⟨⟨hT,_,hl⟩,Z⟩=>?_
 refine Tot.iter (step:=λrec a=>Q125.s0 K (s,u,()) rec a) (λa=>a.2.1=t.1.1/\0<=a.2.2.1/\a.2.2.1<=t.1.1.length/\(a.1.length:Int)=a.2.2.1/\bk b (m+31+a.2.2.1.toNat) a.2.2.2) (λa=>t.1.1.length-a.2.2.1.toNat) ?_ K _ (by show t.1.1.length-BZ 0<K;omega) ⟨rfl,by show (0:Int)<=0;omega,by show (0:Int)<=_;omega,rfl,Z⟩;rintro rec ⟨H,t',i,s2⟩ ⟨e,M,Y,I,z⟩ O;simp only at e M Y I z O ⊢;subst e;simp only[Q125.s0];refine Tot.cnd (λJ=>?_) λ_=>Tot.ret ⟨by show H.length<=5;omega,z.up (by omega)⟩
 have J:i<(t.1.1.length:Int):=of_decide_eq_true J;rw[aA (n:=i+1) (by omega) (by omega)];refine Tot.ix2 M J λy _ _=>Tot.bind (aG h z 4 (by decide) (by omega)) λv ⟨_,s3⟩=>Tot.fit (O (_,_,_,v.2.1) ⟨rfl,by show 0<=i+1;omega,by show i+1<=_;omega,?_,s3.up (by show _<=m+31+(i+1).toNat;omega)⟩ (by show t.1.1.length-(i+1).toNat<t.1.1.length-i.toNat;omega)) (by omega) (by simp;omega)
 show ((H++[_]).length:Int)=i+1;simp;omega
theorem wj (h:fW b)(X:bk b m s)(hm:m<=94000)(R:1048577<K):Tot (Q126.f K (s,())) λr=>r.1.1.length<=6/\bk b (m+50) r.2.1:=by
 simp only[Q126.f];refine Tot.bind (AN h X (-1) (by decide) (by decide) (by omega) R) λt ⟨hl,O⟩=>?_
 refine Tot.cnd (λJ=>?_) λ_=>Tot.ret ⟨by show t.1.1.length<=6;omega,O.up (by omega)⟩
 have J:(t.1.1.length:Int)>0:=of_decide_eq_true J;refine Tot.bind (aG h O 10 (by decide) (by omega)) λv2 ⟨_,M⟩=>Tot.cnd (λ_=>?_) λ_=>Tot.ret ⟨by show t.1.1.length<=6;omega,M.up (by omega)⟩
 refine Tot.bind (aG h M (t.1.1.length:Int) (by omega) (by omega)) λv3 ⟨⟨u,I⟩,Y⟩=>Tot.bind (aG h Y 3 (by decide) (by omega)) λv4 ⟨_,z⟩=>?_
 refine Tot.cnd (λ_=>Tot.bind (aG h z 2 (by decide) (by omega)) λv5 ⟨⟨Z,b5⟩,H⟩=>Tot.ix2 Z b5 λ_ _ _=>Tot.ix2 u I λ_ _ _=>Tot.ret ⟨by show (t.1.1.set _ _).length<=6;rw[CC];omega,H.up (by omega)⟩) λ_=>?_
 refine Tot.cnd (λ_=>Tot.bind (rH h z (by omega)) λf H=>Tot.ix2 u I λ_ _ _=>Tot.ret ⟨by show (t.1.1.set _ _).length<=6;rw[CC];omega,H.up (by omega)⟩) λ_=>?_
 exact Tot.ix2 u I λy _ _=>Tot.fit (Tot.ret ⟨by show (t.1.1++[y]).length<=6;simp;omega,z.up (by omega)⟩) (by omega) (by simp;omega)
theorem x6 (h:fW b)(M:bk b m s)(hm:m<=95000):Tot (Q128.f K (s,())) λr=>bk b (m+6) r.2.1:=by
 simp only[Q128.f,Q127.f];refine Tot.bind (aG h M 6 (by decide) (by omega)) λv1 ⟨_,z⟩=>Tot.cnd (λ_=>Tot.ret (z.up (by omega))) λ_=>Tot.bind (aG h z 3 (by decide) (by omega)) λv3 ⟨⟨I,R⟩,X⟩=>Tot.ix2 I R λy u _=>?_
 have u:InP y 10 100000:=by
  simp only[Ct,Co,or_false]at u;rcases u with rfl|rfl|rfl <;> constructor <;> omega
 rw[aA (n:=2*y) (by omega) (by omega),aA (n:=2*y+1) (by omega) (by omega),aA (n:=y+1) (by omega) (by omega)];exact Tot.bind (aG h X _ (by omega) (by omega)) λv6 ⟨_,O⟩=>Tot.bind (aG h O _ (by omega) (by omega)) λv7 ⟨_,Y⟩=>Tot.bind (aG h Y _ (by omega) (by omega)) λv8 ⟨_,J⟩=>Tot.bind (aG h J _ (by decide) (by omega)) λZ ⟨_,H⟩=>Tot.ret H
theorem qc (h:fW b)(z:bk b m s)(J:m<=94000):Tot (Q129.f K (s,())) λr=>bk b (m+8) r.2.1:=by
 simp only[Q129.f];exact Tot.bind (x6 h z (by omega)) λc H=>Tot.bind (aG h H 16 (by decide) (by omega)) λI ⟨_,y⟩=>Tot.cnd (λ_=>Tot.bind (aG h y 3 (by decide) (by omega)) λv ⟨⟨a,b⟩,u⟩=>Tot.ix2 a b λ_ _ _=>Tot.ret u) λ_=>Tot.cnd (λ_=>Tot.bind (aG h y 2 (by decide) (by omega)) λv ⟨⟨a,b⟩,u⟩=>Tot.ix2 a b λ_ _ _=>Tot.ret u) λ_=>Tot.cnd (λ_=>Tot.bind (aG h y 2 (by decide) (by omega)) λv ⟨⟨a,b⟩,u⟩=>Tot.ix2 a b λ_ _ _=>Tot.ret u) λ_=>Tot.ret (y.up (by omega))
theorem x7 (h:fW b)(z:bk b m s)(w:b7)(J:m<=95000):Tot (Q218.f K (s,w,())) λr=>bk b (m+2) r.2.1:=by
 simp only[Q218.f];refine Tot.cnd (λ_=>Tot.ret (z.up (by omega))) λy=>?_
 have y:¬ (w.2.1.length:Int)=0:=by simpa using y
 refine Tot.bind (aG h z 3 (by decide) (by omega)) λI ⟨_,H⟩=>Tot.cnd (λ_=>Tot.cnd (λ_=>Tot.bind (aG h H 4 (by decide) (by omega)) λv ⟨_,u⟩=>Tot.ret u) λ_=>?_) λ_=>?_ <;>
 exact Tot.bind (aG h H _ (by show (1:Int)<=(w.2.1.length:Int);omega) (by omega)) λv ⟨_,u⟩=>Tot.ret u
theorem AO (h:fW b)(hs:bk b m s)(w:b7)(hm:m<=94000):Tot (Q219.f K (s,w,())) λr=>bk b (m+8) r.2.1:=by
 simp only[Q219.f];refine Tot.bind (aG h hs 8 (by decide) (by omega)) λv1 ⟨_,s1⟩=>Tot.bind (aG h s1 256 (by decide) (by omega)) λv2 ⟨_,Y⟩=>Tot.bind (aG h Y 16 (by decide) (by omega)) λv3 ⟨_,s3⟩=>Tot.bind (aG h s3 40 (by decide) (by omega)) λR ⟨_,y⟩=>?_
 have y:bk b (m+4) R.2.1:=y.up (by omega);generalize R.2.1=z at y ⊢;have u4:bk b (m+8) z:=y.up (by omega);have M:=x7 (K:=K) h y w (by omega);have O:∀ n:Int,1<=n->Tot (Q117.f K (z,n,())) λr=>bk b (m+8) r.2.1:=λn H=>(aG h y n H (by omega)).mono λr J=>J.2.up (by omega)
 have Z:∀ (I:List Int×Int) (n:Int),bk b (m+4+2) I->1<=n->Tot (Q117.f K (I,n,())) λr=>bk b (m+8) r.2.1:=λI n X H=>(aG h X n H (by omega)).mono λr J=>J.2.up (by omega)
 repeat' first
  |exact Tot.ret u4
  |exact Tot.bind M λv u=>Tot.ret (bk.up u (by omega))
  |exact Tot.bind M λv u=>Tot.bind (Z _ _ u (by decide)) λv u=>Tot.ret u
  |exact Tot.bind (O _ (by decide)) λv u=>Tot.ret u
  |exact Tot.bind (O _ (by decide)) λv u=>Tot.cnd (λ_=>Tot.ret u) λ_=>Tot.ret u
  |refine Tot.cnd (λ_=>?_) λ_=>?_
theorem AP (h:fW b)(hs:bk b m s)(y:Int)(h1:1<=y)(h2:y<=200)(hm:m<=90000)(Z:1048577<K):Tot (Q220.f K (s,y,())) λr=>(WI r.1.2.1 2000/\r.1.1.length<=300)/\bk b (m+8*y.toNat+2) r.2.1:=by
 simp only[Q220.f,Q220.pre];have O:∀ (H:List af) (n:Int) (z:List Int×Int) (w:b7) (q c:Nat),0<=n->n<y->H.length<=24->bk b q z->q<=m+2->WI w c->c<=200->Tot (Q220.l1 K (s,y,()) (H,n,z.1,z.2,w)) λr=>(WI r.1.2.1 2000/\r.1.1.length<=300)/\bk b (m+8*y.toNat+2) r.2.1:=λH n z w q c n0 n1 X M hq I hc=>by
  refine Tot.iter (step:=λrec a=>Q220.s1 K (s,y,()) rec a) (λa=>∃ q c:Nat,0<=a.2.1/\a.2.1<y/\(a.1.length:Int)+a.2.1<=24+y/\bk b q (a.2.2.1,a.2.2.2.1)/\q+8*a.2.1.toNat<=m+8*y.toNat+2/\WI a.2.2.2.2 c/\c+4*a.2.1.toNat<=2000) (λa=>a.2.1.toNat) ?_ K _ (by show n.toNat<K;omega) ⟨q,c,n0,n1,by show (H.length:Int)+n<=_;omega,M,by show q+8*n.toNat<=_;omega,I,by show c+4*n.toNat<=2000;omega⟩;clear M hq I hc n0 n1 X;rintro rec ⟨H,n,z1,z2,w⟩ ⟨q,c,n0,n1,X,M,hq,I,hc⟩ ih;simp only at n0 n1 X M hq I hc ih ⊢;simp only[Q220.s1];refine Tot.cnd (λhn=>?_) λ_=>Tot.vl (I.copy (by omega) K Z) (Tot.ret ⟨⟨I.mono (by omega),by show H.length<=300;omega⟩,M.up (by omega)⟩)
  have hn:n>0:=of_decide_eq_true hn;rw[aA (n:=n-1) (by omega) (by omega)];refine Tot.bind (AO h M w (by omega)) λe he=>Tot.fit (Tot.vl (I.copy (by omega) K Z) (Tot.bind (do_t K w c I (by omega) e.1.1 Z) ?_)) (by omega) (by simp;omega)
  rintro⟨⟨v',ok,⟨⟩⟩,⟨⟩⟩ hv;have Y:∀ u:b7,WI u (c+4)->Tot (rec (H++[e.1.1],n-1,e.2.1.1,e.2.1.2,u)) λr=>(WI r.1.2.1 2000/\r.1.1.length<=300)/\bk b (m+8*y.toNat+2) r.2.1:=λu hu=>ih _ ⟨q+8,c+4,by show 0<=n-1;omega,by show n-1<y;omega,by show ((H++[e.1.1]).length:Int)+(n-1)<=_;simp;omega,he,by show q+8+8*(n-1).toNat<=_;omega,hu,by show c+4+4*(n-1).toNat<=2000;omega⟩ (by show (n-1).toNat<n.toNat;omega)
  exact Tot.cnd (λ_=>Y v' hv) λ_=>Y w (I.mono (by omega))
 refine Tot.bind (wg K Z) λw0 R=>Tot.bind (aG h hs 3 (by decide) (by omega)) λv2 ⟨_,s2⟩=>Tot.cnd (λ_=>?_) λ_=>Tot.bind (aG h s2 y h1 (by omega)) λv9 ⟨⟨a9,b9⟩,s9⟩=>O [] v9.1.1 v9.2.1 w0.1.1 (m+2) 8 a9 b9 (by simp) s9 (CV _) R (by omega)
 refine Tot.iter (step:=λrec a=>Q220.s0 K (s,y,()) (Q220.l1 K (s,y,())) rec a) (λa=>0<=a.2.1/\a.2.1<=8/\(a.1.length:Int)<=3*a.2.1/\bk b (m+1) (a.2.2.1,a.2.2.2.1)/\WI a.2.2.2.2 8) (λa=>8-a.2.1.toNat) ?_ K _ (by show 8-BZ 0<K;omega) ⟨by show (0:Int)<=0;omega,by show (0:Int)<=8;omega,by show ((0:Nat):Int)<=3*0;omega,s2,R⟩;rintro rec ⟨H,i,z1,z2,w⟩ ⟨i0,i1,X,M,I⟩ ih;simp only at i0 i1 X M I ih ⊢;simp only[Q220.s0];refine Tot.cnd (λhi=>?_) λ_=>?_
 ·have hi:i<=7:=of_decide_eq_true hi;rw[aA (n:=i+1) (by omega) (by omega)];have Y:∀ J:List af,(J.length:Int)<=3*(i+1)->Tot (rec (J,i+1,z1,z2,w)) λr=>(WI r.1.2.1 2000/\r.1.1.length<=300)/\bk b (m+8*y.toNat+2) r.2.1:=λJ a0=>ih _ ⟨by show 0<=i+1;omega,by show i+1<=8;omega,a0,M,I⟩ (by show 8-(i+1).toNat<8-i.toNat;omega)
  exact Tot.cnd (λ_=>Tot.fit (Tot.fit (Y _ (by simp;omega)) (by omega) (by simp;omega)) (by omega) (by simp;omega)) λ_=>Y H (by omega)
 ·refine Tot.bind (BF K w 8 H I (by omega) (by omega) Z) λv ⟨hv,ev⟩=>Tot.bind (aG h M y h1 (by omega)) λv4 ⟨⟨a4,b4⟩,s4⟩=>?_
  exact O v.2.1 v4.1.1 v4.2.1 v.1.1 (m+1+1) _ a4 b4 (by rw[ev];omega) s4 (by omega) hv (by omega)
theorem AQ (h:fW b)(z:bk b m s)(H:m<=90000)(y:1048577<K):Tot (Q221.f K (s,())) λr=>WI r.1.1 2000/\bk b (m+802) r.2.1:=by
 simp only[Q221.f];exact Tot.bind (AP h z 100 (by decide) (by decide) H y) λv u=>Tot.ret ⟨u.1.1,u.2⟩
theorem tE (h:fW b)(J:bk b m s)(O:m<=90000)(z:1048577<K):Tot (Q222.f K (s,())) λr=>(∃ i,dH i r.1.1)/\bk b (m+803) r.2.1:=by
 simp only[Q222.f];refine Tot.bind (AQ h J O z) λw ⟨u,M⟩=>Tot.bind (aG h M _ (by have:=u.len;show (1:Int)<=(w.1.1.1.length:Int);omega) (by omega)) λv ⟨⟨a,b⟩,I⟩=>Tot.ix a b λy H _=>Tot.ret ⟨?_,I⟩
 obtain⟨i,R,rfl⟩:=CD H;exact⟨i,u.node i R⟩
structure NS (c:Nat) (n:aa):Prop where
 nb:NB n
 table:(aa.table n).length<=c
 cast:(aa.cast n).length<=c
 doubts:(aa.doubts n).length<=c
 places:(aa.places n).length<=c
 others:(aa.others n).length<=c
theorem dH.ns {i:Nat}{n:aa}(h:dH i n):NS 8 n:=by
 cases y:n.2.1 with
 |true =>
  have r:=h.up y;refine⟨h.nb,by have:=h.short;omega,by have:=clen r.x.say;omega,?_,?_,?_⟩
  ·exact B9 (i9 r.x.say.asc r.x.say.inp) (by decide)
  ·exact B9 (i9 r.x.places.2 λx u=>(r.x.places.1 x u).1) (by decide)
  ·exact B9 (i9 r.x.others.2 λx u=>⟨(r.x.others.1 x u).1.1,Int.le_trans (r.x.others.1 x u).1.2 (by decide)⟩) (by decide)
 |false =>
  have e:=h.down y;refine⟨h.nb,?_,?_,?_,?_,?_⟩ <;> rw[e] <;> exact B7 _
theorem x8 (h:fW b)(hs:bk b m s)(n:aa){c:Nat}(hn:NS c n)(h8:8<=c)(hc:c<=1000)(hm:m<=90000)(hK:1048577<K):Tot (Q130.f K (s,n,())) λr=>NS (c+1) r.1.1/\bk b (m+60) r.2.1:=by
 simp only[Q130.f,zcp4,zcp8];rw[xt K n hn.nb hK];simp only[BU];obtain⟨⟨n1,n2,Z,X,n5,R,n7,O⟩,l1,l2,Y,l4,l5⟩:=hn;refine Tot.bind (aG h hs 12 (by decide) (by omega)) λv2 ⟨_,I⟩=>?_
 have u:∀ (n':aa) (z:List Int×Int),n'.2.2.2.2.2.2.2.2=n.2.2.2.2.2.2.2.2->bk b (m+60) z->NS (c+1) n'/\bk b (m+60) z:=λn' z e hz=>by
  refine⟨⟨⟨?_,?_,?_,?_,?_,?_,?_,?_⟩,?_,?_,?_,?_,?_⟩,hz⟩ <;> simp only[aa.table,aa.cast,aa.doubts,aa.places,aa.others] <;> rw[e] <;> first|assumption|(refine B9 ?_ (Ce c);assumption)
 have u2:bk b (m+60) v2.2.1:=I.up (by omega);refine Tot.cnd (λ_=>Tot.bind (qb h I (by omega) hK) λt ⟨tl,J⟩=>Tot.ret ⟨⟨⟨by show t.1.1.length<=_;omega,n2,Z,X,n5,R,n7,O⟩,by show t.1.1.length<=_;omega,BW l2,BW Y,BW l4,BW l5⟩,J.up (by omega)⟩) λ_=>?_
 refine Tot.cnd (λ_=>Tot.bind (wj h I (by omega) hK) λt ⟨tl,J⟩=>Tot.ret ⟨⟨⟨n1,by show t.1.1.length<=_;omega,Z,X,n5,R,n7,O⟩,BW l1,by show t.1.1.length<=_;omega,BW Y,BW l4,BW l5⟩,J.up (by omega)⟩) λ_=>?_
 refine Tot.cnd (λ_=>Tot.ret (u _ _ rfl u2)) λ_=>?_
 refine Tot.cnd (λ_=>Tot.bind (aG h I 9 (by decide) (by omega)) λv5 ⟨_,s5⟩=>Tot.bind (aG h s5 3 (by decide) (by omega)) λv6 ⟨_,s6⟩=>Tot.bind (aG h s6 3 (by decide) (by omega)) λv7 ⟨_,s7⟩=>Tot.bind (aG h s7 2 (by decide) (by omega)) λv8 ⟨_,s8⟩=>Tot.ret ⟨⟨⟨n1,n2,Z,X,n5,R,n7,O⟩,BW l1,BW l2,BW Y,BW l4,BW l5⟩,s8.up (by omega)⟩) λ_=>?_
 refine Tot.cnd (λ_=>Tot.bind (aG h I 8 (by decide) (by omega)) λv9 ⟨_,M⟩=>Tot.bind (aG h M 8 (by decide) (by omega)) λa2 ⟨_,H⟩=>Tot.fit (Tot.ret ⟨⟨⟨n1,n2,?_,?_,n5,R,n7,O⟩,BW l1,BW l2,?_,BW l4,BW l5⟩,H.up (by omega)⟩) (by omega) ?_) λ_=>?_
 ·show (aa.doubts n++[_]).length<=_;simp;omega
 ·intro d y;rcases B8.1 y with y|y
  ·exact X d y
  ·rw[BY.1 y];show ([a2.1.1]:List Int).length<=_;simp
 ·show (aa.doubts n++[_]).length<=_;simp;omega
 ·show (aa.doubts n).length+_<=_;simp;omega
 refine Tot.cnd (λ_=>Tot.bind (qc h I (by omega)) λc J=>Tot.ret ⟨⟨⟨n1,n2,Z,X,n5,R,n7,O⟩,BW l1,BW l2,BW Y,BW l4,BW l5⟩,J.up (by omega)⟩) λ_=>?_
 refine Tot.cnd (λ_=>Tot.bind (aG h I 9 (by decide) (by omega)) λv9 ⟨_,M⟩=>Tot.bind (qc h M (by omega)) λc H=>Tot.bind (aG h H 3 (by decide) (by omega)) λa0 ⟨_,a1⟩=>Tot.fit (Tot.ret ⟨⟨⟨n1,n2,Z,X,?_,?_,n7,O⟩,BW l1,BW l2,BW Y,?_,BW l5⟩,a1.up (by omega)⟩) (by omega) ?_) λ_=>?_
 ·show (aa.places n++[_]).length<=_;simp;omega
 ·intro d y;rcases B8.1 y with y|y
  ·exact R d y
  ·rw[BY.1 y];show ([a0.1.1]:List Int).length<=_;simp
 ·show (aa.places n++[_]).length<=_;simp;omega
 ·show (aa.places n).length+_<=_;simp;omega
 refine Tot.cnd (λ_=>Tot.bind (aG h I 3 (by decide) (by omega)) λv9 ⟨_,M⟩=>Tot.bind (qb h M (by omega) hK) λt ⟨tl,H⟩=>Tot.fit (Tot.ret ⟨⟨⟨n1,n2,Z,X,n5,R,?_,?_⟩,BW l1,BW l2,BW Y,BW l4,?_⟩,H.up (by omega)⟩) (by omega) ?_) λ_=>?_
 ·show (aa.others n++[_]).length<=_;simp;omega
 ·intro d y;rcases B8.1 y with y|y
  ·exact O d y
  ·rw[BY.1 y];show t.1.1.length<=_;omega
 ·show (aa.others n++[_]).length<=_;simp;omega
 ·show (aa.others n).length+_<=_;simp;omega
 refine Tot.cnd (λ_=>Tot.ret (u _ _ rfl u2)) λ_=>Tot.cnd (λ_=>Tot.ret (u _ _ rfl u2)) λ_=>?_
 refine Tot.cnd (λ_=>Tot.bind (aG h I 3 (by decide) (by omega)) λv ⟨⟨a,b⟩,J⟩=>Tot.ix2 a b λ_ _ _=>Tot.ret (u _ _ rfl (J.up (by omega)))) λ_=>?_
 exact Tot.bind (aG h I 8 (by decide) (by omega)) λv9 ⟨_,M⟩=>Tot.bind (aG h M 3 (by decide) (by omega)) λv ⟨⟨a,b⟩,J⟩=>Tot.ix2 a b λ_ _ _=>Tot.ret (u _ _ rfl (J.up (by omega)))
end
section
variable {K:Nat} {b:List Int} {m:Nat} {s:List Int×Int}
theorem x9 (h:fW b)(Y:bk b m s)(hm:m<=89000)(y:1048577<K):Tot (Q223.f K (s,())) λr=>NS 9 r.1.1/\bk b (m+864) r.2.1:=by
 simp only[Q223.f];refine Tot.bind (tE h Y (by omega) y) λn ⟨⟨i,z⟩,M⟩=>Tot.bind (aG h M 20 (by decide) (by omega)) λv ⟨_,u⟩=>Tot.cnd (λ_=>Tot.bind (x8 h u n.1.1 z.ns (CV _) (by omega) (by omega) y) λr Z=>Tot.ret Z) λ_=>Tot.ret ⟨?_,u.up (by omega)⟩
 obtain⟨H,J,I,X,R,O⟩:=z.ns;exact⟨H,BW J,BW I,BW X,BW R,BW O⟩
end
theorem bk.zero (b:List Int):bk b 0 (b,0):=⟨0,CV _,rfl⟩
structure ya (code:List Int):Prop where
 byte:∀ y∈code,0<=y/\y<=255
 len:code.length<=9223372036854775807
theorem qd (K:Nat){t:List af}{f:af}(r:az t)(u:f∈t)(y:1048577<K):Q21.f K (t,f.1,())=some ((f,true,()),()):=by
 rcases iI K t f.1 (cM r) y with ⟨h,_⟩|⟨_,⟨g,z,e,h⟩|⟨h,_⟩⟩
 ·exact absurd r h
 ·rw[h,fK r.2 z u e]
 ·exact absurd rfl (h f u)
structure hM (n m:aa):Prop where
 ok:cf m
 me:m.1=n.1
 now_:m.2.2.2.2.2.1=n.2.2.2.2.2.1
 seq:m.2.2.2.2.2.2.1=n.2.2.2.2.2.2.1
 turn:m.2.2.2.2.2.2.2.1=n.2.2.2.2.2.2.2.1
 rest:m.2.2.2.2.2.2.2.2.2.2.2.2=n.2.2.2.2.2.2.2.2.2.2.2.2
 by_:∀ d∈aa.doubts m,d.2.2.2.length<=1048576
theorem hM.say {n m:aa}(h:hM n m){f:af}(b:Int)(u:bD f):hM n (sayOf m f b):=by
 obtain⟨H,_,_,_,_,y,z,I,_,r⟩:=c6 m f b;exact⟨jp h.ok u,H.trans h.me,y.trans h.now_,z.trans h.seq,I.trans h.turn,r.trans h.rest,yY h.by_⟩
theorem hM.setP {n m:aa}(h:hM n m)(p:af):hM n (setP m p):=⟨h.ok.setP p,h.me,h.now_,h.seq,h.turn,h.rest,h.by_⟩
theorem hM.nb {n m:aa}(h:hM n m)(u:NB n):NB m:=by
 have y:aa.places m=aa.places n:=congrArg (λr=>r.2.1) h.rest;have z:aa.others m=aa.others n:=congrArg (λr=>r.2.2) h.rest;exact⟨h.ok.lt,h.ok.lc,h.ok.ld,h.by_,by rw[y];exact u.places,by rw[y];exact u.trips,by rw[z];exact u.others,by rw[z];exact u.facts⟩
theorem hM.far {n m:aa}(h:hM n m)(u:ig n):ig m:=by
 have y:aa.others m=aa.others n:=congrArg (λr=>r.2.2) h.rest;exact⟨by rw[y];exact u.short,by rw[y];exact u.table⟩
theorem yb {n:aa}(h:hM n n)(y:∀ d∈aa.doubts n,∃ f∈aa.table n,f.1=d.1):hM n (cl n)/\aa.probe (cl n)=aa.probe n:=by
 have:=kD (st:=aQ) (Inv:=λm=>jN (aa.doubts n) n.2.2.2.2.2.1 m/\hM n m/\aa.probe m=aa.probe n) (ds:=aa.doubts n) (n:=n) ⟨⟨h.ok,y,rfl⟩,h,rfl⟩ (λm d u r=>by
  refine⟨li r.1 u,?_⟩;unfold aQ;cases eR m.2.2.2.2.2.1 d.2.2.1 d.2.2.2.length with
  |false=>exact r.2
  |true =>
   have z:=lO (cm r.1.ok.table (r.1.key d u)).1;exact⟨r.2.1.say _ z,(c6 m _ _).2.2.2.2.2.2.2.2.1.trans r.2.2⟩)
 exact this.2
theorem uE {n m:aa}(h:hM n m):hM n (aS m).1/\((aa.probe (aS m).1).1=-1\/(aa.probe (aS m).1).1=(aa.probe m).1)/\(aS m).2.length<=2/\∀ w∈(aS m).2,(ar.table w).length<=1048576:=by
 unfold aS;cases z:(aa.probe m).1==-1 with
 |true=>exact⟨h,.inr rfl,by simp,by simp⟩
 |false =>
  simp only[cond_false];cases y:cK (aB (aa.table m) (aa.probe m).1) with
  |false=>exact⟨h.setP _,.inl rfl,by simp,by simp⟩
  |true =>
   have u:=cm h.ok.table (eC y);simp only[B6,cond_false];cases decide (m.2.2.2.2.2.1-(aa.probe m).2.1>=4) with
   |true =>
    simp only[cond_true];cases (aB (aa.table m) (aa.probe m).1).2.2.1==1 with
    |true=>exact⟨(h.setP noP).say _ (qF u.1),.inl (congrArg (·.1) (c6 (setP m noP) _ _).2.2.2.2.2.2.2.2.1),by simp,by simp⟩
    |false=>exact⟨h.setP _,.inl rfl,by simp,by simp⟩
   |false =>
    simp only[cond_false];cases decide (m.2.2.2.2.2.1-(aa.probe m).2.1>=2) with
    |false=>exact⟨h,.inr rfl,by simp,by simp⟩
    |true =>
     simp only[cond_true];cases (aa.probe m).2.2.2 with
     |true=>exact⟨h,.inr rfl,by simp,by simp⟩
     |false =>
      refine⟨h.setP _,.inr rfl,?_,λw r=>?_⟩
      ·show ((cL m).map (askW m)).length<=2;rw[CN];exact Cf _ _
      ·obtain⟨to,_,rfl⟩:=CE.1 r;exact B7 _
theorem zz {n:aa}(H:ig n)(y:(aa.table n).length<=1048576)(r:Int):(ff n r).length<=2/\∀ w∈ff n r,(ar.table w).length<=1048576:=by
 unfold ff;cases aT .i64 r 3==1 with
 |true =>
  simp only[cond_true,iw];cases iR n with
  |false=>exact⟨by simp,by simp⟩
  |true =>
   refine⟨?_,λw u=>?_⟩
   ·show ((([0,1]:List Int).filter (λs=>s != ao n.1)).map _).length<=2;rw[CN];exact CT _ _
   ·obtain⟨s,_,rfl⟩:=CE.1 u;exact y
 |false =>
  simp only[cond_false];cases (aT .i64 r 3==3||decide (ci n=[])) with
  |true=>exact⟨by simp,by simp⟩
  |false =>
   simp only[cond_false];cases aT .i64 r 3==0 with
   |true =>
    refine⟨by simp,λw u=>?_⟩;rw[cond_true,BY]at u;subst u;exact y
   |false =>
    simp only[cond_false,nd]
    match z:aa.others n with
    |[]=>exact⟨by simp,by simp⟩
    |x::_ =>
     refine⟨by simp,λw u=>?_⟩;rw[BY]at u;subst u;exact (H.table x (by rw[z];simp)).2
def ek (n:aa):aa:=(n.1,n.2.1,n.2.2.1,n.2.2.2.1,n.2.2.2.2.1,n.2.2.2.2.2.1+1,n.2.2.2.2.2.2)
theorem yc (K:Nat)(n:aa)(z:Int)(Y:NB n)(hP:gn n)(hu:n.2.1=true)(hg:n.2.2.1=false)(a4:¬ n.2.2.2.2.2.1>=999999)(hK:1048577<K) :
  ∃ (y:aa) (O:List ar),NB y/\O.length<=1048576/\(∀ w∈O,(ar.table w).length<=1048576)/\Q208.f K (n,z,())=some ((y,O,()),())/\Q110.f K (n,z,())=some ((O,()),(y,())):=by
 have hU:=hP.up hu;have hs:=hU.say;obtain⟨hT,_,_,_,a1,hD,_,_,hO⟩:=hU;obtain⟨⟨cy,cp⟩,⟨dc,dd⟩,⟨ba,e0⟩,⟨a9,ad⟩,_⟩:=hP;have c4:=na ⟨cy,cp⟩ hO;have a5:ig n:=⟨by rcases c4 with e|⟨x,e⟩ <;> rw[e] <;> simp,λx hx=>⟨(hO.1 x hx).2.2.2.1,Y.facts x hx⟩⟩;have c1:hM (ek n) (ek n):=⟨⟨hs.table,hs.cast,hs.asc,hs.inp,hs.lt,hs.lc,hs.ld⟩,rfl,rfl,rfl,rfl,rfl,Y.by_⟩;have d3:NB (ek n):=⟨Y.table,Y.cast,Y.doubts,Y.by_,Y.places,Y.trips,Y.others,Y.facts⟩;have c3:ig (ek n):=⟨a5.short,a5.table⟩;have a6:∀ d∈aa.doubts (ek n),∃ f∈aa.table (ek n),f.1=d.1:=λd hd=>by
  obtain⟨f,hf,e,_⟩:=(hD.1 d hd).1;exact⟨f,hf,e⟩
 have b4:∀ d∈aa.doubts (ek n),0<=d.2.2.1/\d.2.2.1<=(ek n).2.2.2.2.2.1/\d.2.2.2.length<=1048576:=λd hd=>by
  obtain⟨s0,s1⟩:=(hD.1 d hd).2.1;refine⟨s0,?_,Y.by_ d hd⟩;show d.2.2.1<=n.2.2.2.2.2.1+1;omega
 have bl:jN (aa.doubts (ek n)) (ek n).2.2.2.2.2.1 (ek n):=⟨c1.ok,a6,rfl⟩;have a8:(ek n).2.2.2.2.2.1<=1000000:=by show n.2.2.2.2.2.1+1<=1000000;omega
 have eD:=xv K (ek n) bl b4 a8 hK;have eB:=Bn K (ek n) bl b4 a8 hK;obtain⟨R,a2⟩:=yb c1 a6;generalize cl (ek n)=m at eD eB R a2;have a2:aa.probe m=aa.probe n:=a2;have u:((aa.probe m).1=-1\/0<=(aa.probe m).1)/\0<=(aa.probe m).2.1/\(aa.probe m).2.1<=1000000:=by
  rw[a2];unfold c5 at a1;split at a1
  ·rename_i h1;rw[a1];exact⟨.inl rfl,by show (0:Int)<=0;omega,by show (0:Int)<=1000000;omega⟩
  ·obtain⟨_,⟨f,hf,e⟩,⟨s0,s1⟩,_⟩:=a1;have:=(hT.1 f hf).1.1;exact⟨.inr (e ▸ this),s0,by omega⟩
 have cc:m.2.2.2.2.2.1=n.2.2.2.2.2.1+1:=R.now_;have eF:=yZ K m R.ok u.2.1 u.2.2 (by omega) (by omega) hK;have eW:=λcx=>xy K m R.ok cx u.2.1 u.2.2 (by omega) (by omega) hK
 obtain⟨r,b0,b5,b3⟩:=uE R;have X:(aa.probe m).1=-1->aS m=(m,[]):=λh=>by unfold aS;rw[show ((aa.probe m).1==-1)=true by simpa using h];rfl
 generalize Z:aS m=fo at eF eW r b0 b5 b3 X;obtain⟨H,d1⟩:=fo;simp only at eF eW r b0 b5 b3;have c2:∃ (y:aa) (O:List ar),Q100.f K (H,())=some ((O,()),(y,()))/\((aa.probe H).1=-1->Q201.f K (H,())=some ((y,O,()),()))/\((aa.probe H).1≠-1->y=H/\O=[])/\NB y/\ig y/\az (aa.table y)/\O.length<=1/\∀ w∈O,(ar.table w).length<=1048576:=by
  have J:=r.nb d3;have Z:=r.far c3;by_cases I:(aa.probe H).1=-1
  ·obtain⟨y,O,e1,e2,h3⟩:=zj K H r.ok I (by rw[r.seq];exact ba) (by rw[r.seq];show n.2.2.2.2.2.2.1<=1000000;omega) (by rw[r.turn];exact a9) (by rw[r.turn];exact ad) hK;refine⟨y,O,e2,λ_=>e1,λh=>absurd I h,?_⟩;rcases h3 with ⟨rfl,rfl⟩|⟨to,rfl,rfl⟩
   ·exact⟨J,Z,r.ok.table,by simp,by simp⟩
   ·have M:=Bs r.ok;refine⟨⟨M.lt,M.lc,M.ld,J.by_,J.places,J.trips,J.others,J.facts⟩,⟨Z.short,Z.table⟩,M.table,by simp,λw bn=>?_⟩;rw[BY]at bn;subst bn;exact cM (ko r.ok to)
  ·refine⟨H,[],?_,λh=>absurd h I,λ_=>⟨rfl,rfl⟩,J,Z,r.ok.table,by simp,by simp⟩;simp only[Q100.f,Q100.pre];rw[show (H.2.2.2.2.2.2.2.2.2.2.1.1 != -1)=true by show ((aa.probe H).1 != -1)=true;simpa using I];rfl
 obtain⟨y,cu,eA,bb,b1,a0,b2,b9,e3,d2⟩:=c2;have bx:=Ay K y z a0 b2 b9 hK;have eM:=xK K y z b2 b9 a0.table hK;obtain⟨cw,c0⟩:=zz b2 a0.table z;generalize ff y z=cb at bx eM cw c0;have a7:(n.1,n.2.1,n.2.2.1,n.2.2.2.1,n.2.2.2.2.1,wr .i64 (n.2.2.2.2.2.1+1),n.2.2.2.2.2.2)=ek n:=by
  rw[aA (by omega) (by omega)];rfl
 refine⟨y,(d1++cu)++cb,a0,by simp only[B5];omega,λw M=>?_,?_,?_⟩
 ·simp only[B8]at M;rcases M with (M|M)|M
  ·exact b3 w M
  ·exact d2 w M
  ·exact c0 w M
 ·simp only[Q208.f,zcp4];rw[a7,hu,hg,decide_eq_false a4];simp only[B6,cond_false];rw[eD];simp only[BU];by_cases I:(aa.probe m).1=-1
  ·obtain⟨rfl,rfl⟩:=Prod.mk.inj (X I);rw[show decide (H.2.2.2.2.2.2.2.2.2.2.1.1>=0)=false from decide_eq_false (by show ¬ (aa.probe H).1>=0;omega),show decide (H.2.2.2.2.2.2.2.2.2.2.1.1<0)=true from decide_eq_true (by show (aa.probe H).1<0;omega)];simp only[cond_true,cond_false];rw[bb I];simp only[BU];rw[szw _ _ _ (by omega) (by simp only[CP];omega)];simp only[cond_true];rw[eM];simp only[BU];rw[szw _ _ _ (by omega) (by simp only[B5,CP];omega)];rfl
  ·rw[show decide (m.2.2.2.2.2.2.2.2.2.2.1.1>=0)=true from decide_eq_true (by show (aa.probe m).1>=0;omega)];simp only[cond_true];rw[eW I];simp only[BU];by_cases a3:(aa.probe H).1=-1
   ·rw[show decide (H.2.2.2.2.2.2.2.2.2.2.1.1<0)=true from decide_eq_true (by show (aa.probe H).1<0;omega)];simp only[cond_true];rw[bb a3];simp only[BU];rw[szw _ _ _ (by omega) (by omega)];simp only[cond_true];rw[eM];simp only[BU];rw[szw _ _ _ (by omega) (by simp only[B5];omega)];rfl
   ·rw[show decide (H.2.2.2.2.2.2.2.2.2.2.1.1<0)=false from decide_eq_false (by show ¬ (aa.probe H).1<0;rcases b0 with h|h <;> omega)];obtain⟨rfl,rfl⟩:=b1 a3;simp only[cond_false];rw[eM];simp only[BU];rw[szw _ _ _ (by omega) (by omega),CW];rfl
 ·simp only[Q110.f,zcp4,Q65.f];rw[a7,hu,hg,decide_eq_false a4];simp only[cond_true,BU,CQ,B6,cond_false];rw[eB];simp only[BU];rw[eF];simp only[BU];rw[eA];simp only[BU];rw[szw _ _ _ (by omega) (by omega)];simp only[cond_true];rw[bx];simp only[BU];rw[szw _ _ _ (by omega) (by simp only[B5];omega)];rfl
theorem yd (K:Nat)(n y:aa)(z:List ar)(r:Int)(J:NB n)(u:Q48.f K (n,())=rb true)(H:Q110.f K (n,r,())=some ((z,()),(y,())))(I:1048577<K):Q115.f K (n,r,())=some ((y,z,()),()):=by
 simp only[Q115.f,Q114.f];rw[u];simp only[BU,B6,cond_false];rw[yX K n J I];simp only[BU,Q111.f];rw[H];simp only[BU,Q113.f];simp
theorem wk (K:Nat)(n:aa)(r:Int)(H:NB n)(h:UpN n)(I:n.2.2.1=false)(J:aL n<999999)(u:1048577<K):Q115.f K (n,r,())=some ((dG n,nY n r,()),()):=by
 obtain⟨y,Y,_,_,_,z,X⟩:=yc K n r H h.ok h.up I (by have e:aL n=n.2.2.2.2.2.1:=rfl;omega) u;rw[xY K n r h I J u]at z;simp only[Option.some.injEq,Prod.mk.injEq,and_true]at z;obtain⟨rfl,rfl⟩:=z;obtain⟨b,R,O⟩:=mi K n H u;have M:=O.2 h.ok;subst M;exact yd K n _ _ r H R X u
theorem ye (n:aa):aa.probe (cl n)=aa.probe n/\aL (cl n)=aL n:=by
 unfold cl;generalize aa.doubts n=u;induction u generalizing n with
 |nil=>exact⟨rfl,rfl⟩
 |cons d u y =>
  rw[Cr];have r:aa.probe (aQ n d)=aa.probe n/\aL (aQ n d)=aL n:=by
   unfold aQ;cases eR n.2.2.2.2.2.1 d.2.2.1 d.2.2.2.length with
   |false=>exact⟨rfl,rfl⟩
   |true =>
    obtain⟨_,_,_,_,_,H,_,_,z,_⟩:=c6 n (fU (aB (aa.table n) d.1)) n.1;exact⟨z,H⟩
  exact⟨(y _).1.trans r.1,(y _).2.trans r.2⟩
theorem zA (n:aa):dm (cl n)=dm n:=by
 unfold cl;generalize aa.doubts n=r;induction r generalizing n with
 |nil=>rfl
 |cons d r u =>
  rw[Cr];refine (u _).trans ?_;unfold aQ;cases eR n.2.2.2.2.2.1 d.2.2.1 d.2.2.2.length with
  |false=>rfl
  |true=>exact (c6 n (fU (aB (aa.table n) d.1)) n.1).2.2.2.2.2.2.1
theorem tF (m:aa):dm (aS m).1=dm m/\aL (aS m).1=aL m/\((aa.probe (aS m).1).1=-1 \/
  ((aa.probe (aS m).1).1=(aa.probe m).1/\(aa.probe (aS m).1).2.1=(aa.probe m).2.1/\(aa.probe (aS m).1).2.2.1=(aa.probe m).2.2.1/\aL m-(aa.probe m).2.1<4)):=by
 unfold aS;cases z:(aa.probe m).1==-1 with
 |true=>exact⟨rfl,rfl,.inl (by simpa using z)⟩
 |false =>
  simp only[cond_false];cases cK (aB (aa.table m) (aa.probe m).1) with
  |false=>exact⟨rfl,rfl,.inl rfl⟩
  |true =>
   simp only[B6,cond_false];by_cases y:m.2.2.2.2.2.1-(aa.probe m).2.1>=4
   ·rw[decide_eq_true y];simp only[cond_true];cases (aB (aa.table m) (aa.probe m).1).2.2.1==1 with
    |false=>exact⟨rfl,rfl,.inl rfl⟩
    |true =>
     obtain⟨_,_,_,_,_,J,I,_,H,_⟩:=c6 (setP m noP) (ml (aB (aa.table m) (aa.probe m).1)) m.1;exact⟨I,J,.inl (by simp only[cond_true];rw[H];rfl)⟩
   ·rw[decide_eq_false y];have r:aL m-(aa.probe m).2.1<4:=by have e:aL m=m.2.2.2.2.2.1:=rfl;omega
    simp only[cond_false];by_cases u:m.2.2.2.2.2.1-(aa.probe m).2.1>=2
    ·rw[decide_eq_true u];cases (aa.probe m).2.2.2 with
     |true=>exact⟨rfl,rfl,.inr ⟨rfl,rfl,rfl,r⟩⟩
     |false=>exact⟨rfl,rfl,.inr ⟨rfl,rfl,rfl,r⟩⟩
    ·rw[decide_eq_false u];exact⟨rfl,rfl,.inr ⟨rfl,rfl,rfl,r⟩⟩
theorem wm (m:aa):dm m<=dm (cZ m).1/\aL (cZ m).1=aL m/\((aa.probe (cZ m).1=aa.probe m)\/(aa.probe (cZ m).1).2.2.1=dm m+1):=by
 unfold cZ;cases (aa.probe m).1==-1 with
 |false=>exact⟨CJ _,rfl,.inl rfl⟩
 |true =>
  simp only[cond_true,dF];cases decide (dm m>=999999) with
  |true=>exact⟨CJ _,rfl,.inl rfl⟩
  |false =>
   simp only[cond_false];cases gE m with
   |none=>exact⟨CJ _,rfl,.inl rfl⟩
   |some to=>exact⟨show dm m<=dm m+1 by omega,rfl,.inr rfl⟩
theorem wn (y:aa):dm y<=dm (dG y)/\aL (dG y)=aL y+1/\((aa.probe (dG y)).1=-1\/(aa.probe (dG y)).2.2.1=dm y+1 \/
  ((aa.probe (dG y)).1=(aa.probe y).1/\(aa.probe (dG y)).2.1=(aa.probe y).2.1/\(aa.probe (dG y)).2.2.1=(aa.probe y).2.2.1/\aL y+1-(aa.probe y).2.1<4)):=by
 obtain⟨J,H⟩:=ye (cq y);have J:aa.probe (cl (cq y))=aa.probe y:=J;have H:aL (cl (cq y))=aL y+1:=H;have M:dm (cl (cq y))=dm y:=zA (cq y);obtain⟨z,I,u⟩:=tF (cl (cq y));obtain⟨O,R,r⟩:=wm (dY y).1;have z:dm (dY y).1=dm y:=z.trans M;have I:aL (dY y).1=aL y+1:=I.trans H;refine⟨by rw[<- z];exact O,R.trans I,?_⟩;rcases r with r|r
 ·have r:aa.probe (dG y)=aa.probe (aS (cl (cq y))).1:=r;rw[r];rw[J,H]at u;rcases u with u|u
  ·exact .inl u
  ·exact .inr (.inr u)
 ·exact .inr (.inl (by rw[<- z];exact r))
def b8 (n:aa):Nat->aa
 |0=>n
 |j+1=>dG (b8 n j)
def dl (d:aY):Int:=if 7-(d.2.2.2.length:Int)<3 then 3 else 7-(d.2.2.2.length:Int)
theorem vi (d:aY)(u:d.2.2.2.length<=1048576):wr .i64 (wr .i64 (6-(BV d.2.2.2:Int))+1)=7-(d.2.2.2.length:Int):=by
 have r:wr .i64 (6-(BV d.2.2.2:Int))=6-(d.2.2.2.length:Int):=aA (by omega) (by omega);rw[r,aA (by omega) (by omega)];omega
theorem yf (K:Nat)(d:aY)(r:d.2.2.2.length<=1048576):Q226.f K (d,())=some ((dl d,()),()):=by
 simp only[Q226.f,dl];rw[vi d r];by_cases h:7-(d.2.2.2.length:Int)<3
 ·rw[decide_eq_true h,if_pos h];rfl
 ·rw[decide_eq_false h,if_neg h];rfl
theorem yg (K:Nat)(m:Int)(d:aY)(u:d.2.2.2.length<=1048576)(z:InP m 0 2000000)(y:InP d.2.2.1 0 2000000):Q193.f K (m,d,())=rb (decide (m-d.2.2.1>=dl d)):=by
 simp only[Q193.f];have e:wr .i64 (m-d.2.2.1)=m-d.2.2.1:=aA (by omega) (by omega);rw[vi d u,e];by_cases h:7-(d.2.2.2.length:Int)<3
 ·have r:dl d=3:=if_pos h;rw[decide_eq_true h,r];rfl
 ·have r:dl d=7-(d.2.2.2.length:Int):=if_neg h;rw[decide_eq_false h,r];rfl
def gp (r:Int)(d:aY):Int:=if dl d-(r-d.2.2.1)<0 then 0 else dl d-(r-d.2.2.1)
theorem AR (K:Nat)(n:aa)(v:Int)(d:aY)(Z:d.2.2.2.length<=1048576)(J:d.2.2.2≠[])(a0:InP n.2.2.2.2.2.1 0 999999)(hs:InP d.2.2.1 0 n.2.2.2.2.2.1)(hK:1048577<K)(u:Int->Option Q228.Res) :
  Q228.l1 K (n,v,()) u (0,d.1,d.2.1,d.2.2.1,d.2.2.2)=some ((gp n.2.2.2.2.2.1 d,true,()),()):=by
 have h1:1<=d.2.2.2.length:=CX.2 J;have hL:3<=dl d/\dl d<=6:=by unfold dl;split <;> omega
 have hr:0<=gp n.2.2.2.2.2.1 d/\gp n.2.2.2.2.2.1 d<=6:=by unfold gp;split <;> omega
 obtain⟨r,I⟩:∃ r:Nat,gp n.2.2.2.2.2.1 d=(r:Int):=⟨(gp n.2.2.2.2.2.1 d).toNat,by omega⟩;have M:∀ (e k i:Nat),i+e=r->e<k->ae (λrec a=>Q228.s1 K (n,v,()) u rec a) k ((i:Int),d.1,d.2.1,d.2.2.1,d.2.2.2)=some (((r:Int),true,()),()):=by
  intro e;induction e with
  |zero =>
   intro k i hi hk;obtain⟨k,rfl⟩:∃ R,k=R+1:=⟨k-1,by omega⟩;have:i=r:=by omega
   subst this;show Q228.s1 K (n,v,()) u _ _=_;simp only[Q228.s1];by_cases Y:(i:Int)<6
   ·rw[decide_eq_true Y];have O:wr .i64 (n.2.2.2.2.2.1+(i:Int))=n.2.2.2.2.2.1+i:=aA (by omega) (by omega);rw[O];have H:=yg K (n.2.2.2.2.2.1+(i:Int)) d Z (by constructor <;> omega) (by constructor <;> omega);have y:decide (n.2.2.2.2.2.1+(i:Int)-d.2.2.1>=dl d)=true:=decide_eq_true (by rw[<- I];unfold gp;split <;> omega);rw[y]at H;simp only[cond_true];exact (congrArg (λo=>BX o _) H).trans rfl
   ·rw[decide_eq_false Y];rfl
  |succ e X =>
   intro k i hi hk;obtain⟨k,rfl⟩:∃ R,k=R+1:=⟨k-1,by omega⟩;have X:=X k (i+1) (by omega) (by omega);show Q228.s1 K (n,v,()) u _ _=_;simp only[Q228.s1];rw[decide_eq_true (show (i:Int)<6 by omega),aq i (by omega)];have O:wr .i64 (n.2.2.2.2.2.1+(i:Int))=n.2.2.2.2.2.1+i:=aA (by omega) (by omega);rw[O];have H:=yg K (n.2.2.2.2.2.1+(i:Int)) d Z (by constructor <;> omega) (by constructor <;> omega);have y:decide (n.2.2.2.2.2.1+(i:Int)-d.2.2.1>=dl d)=false:=decide_eq_false (by
    have z:(i:Int)<gp n.2.2.2.2.2.1 d:=by omega
    unfold gp at z;split at z <;> omega)
   rw[y]at H;simp only[cond_true];exact ((congrArg (λo=>BX o _) H).trans rfl).trans X
 rw[I];exact M r K 0 (by omega) (by omega)
theorem pg (n:aa)(r:NB n)(h:pJ n):aa.doubts n=[]:=by
 obtain⟨_,_,_,_,_,h,_⟩:=h;have H:=r.table;have J:=r.cast;have O:=r.doubts;have M:=r.places;have I:=r.others;have z:wr .i64 ((BV (aa.table n):Int)+(BV (aa.cast n):Int))=(BV (aa.table n):Int)+(BV (aa.cast n):Int):=aA (by omega) (by omega);rw[z]at h;have y:wr .i64 ((BV (aa.table n):Int)+(BV (aa.cast n):Int)+(BV (aa.doubts n):Int))=(BV (aa.table n):Int)+(BV (aa.cast n):Int)+(BV (aa.doubts n):Int):=aA (by omega) (by omega);rw[y]at h;have u:wr .i64 ((BV (aa.table n):Int)+(BV (aa.cast n):Int)+(BV (aa.doubts n):Int)+(BV (aa.places n):Int))=(BV (aa.table n):Int)+(BV (aa.cast n):Int)+(BV (aa.doubts n):Int)+(BV (aa.places n):Int):=aA (by omega) (by omega);rw[u,aA (by omega) (by omega)]at h;exact List.eq_nil_of_length_eq_zero (by omega)
theorem wo (K:Nat)(n:aa)(v:Int)(O:NB n)(hK:1048577<K):∃ r:Int×Bool×Unit,Q227.f K (n,v,())=some (r,())/\(gn n->∀ d∈aa.doubts n,d.1=v->∃ e∈aa.doubts n,e.1=v/\r=(gp n.2.2.2.2.2.1 e,true,()))/\(r.2.1=true->gn n/\∃ d∈aa.doubts n,d.1=v):=by
 have hl:=O.doubts;obtain⟨b,h3,I⟩:=mi K n O hK;simp only[Q227.f];have R:=bS (step:=λrec a=>Q69.s0 K (aa.doubts n,(λM=>(Q225.f K (M.1,v,())).map λy=>y.1.1),()) rec a) (aa.doubts n).length (λi=>(i:Int)) (λj=>∃ h:j<(aa.doubts n).length,(aa.doubts n)[j].1=v) (some ((-1,()),())) (λj=>some ((((j:Nat):Int),()),())) ?_ ?_ (aa.doubts n).length K 0 (by omega) (by omega)
 ·have z:b=true->∀ j (h:j<(aa.doubts n).length),InP n.2.2.2.2.2.1 0 999999/\InP (aa.doubts n)[j].2.2.1 0 n.2.2.2.2.2.1/\(aa.doubts n)[j].2.2.2≠[]/\(aa.doubts n)[j].2.2.2.length<=1048576:=by
   intro X j u;have J:=I.1 X;have z:n.2.1=true:=by
    cases hu:n.2.1 with
    |true=>rfl
    |false =>
     have H:=J.2.2.2.2.2;rw[hu]at H;simp only[Cj,if_false]at H;have:=pg n O H;rw[this]at u;simp at u
   have H:=J.2.2.2.2.2;rw[if_pos z]at H;obtain⟨_,d2,Y,_⟩:=H.2.2.2.2.2.1.1 _ (B4 u);exact⟨J.2.1,d2,Y,O.by_ _ (B4 u)⟩
  rcases R with ⟨i1,i2⟩|⟨j,_,u,Z,j3,j4⟩
  ·have e:Q69.f K (aa.doubts n,(λM=>(Q225.f K (M.1,v,())).map λy=>y.1.1),())=some ((-1,()),()):=i2;rw[e];refine⟨(0,false,()),rfl,λ_ d hd e=>?_,λh=>by cases h⟩;obtain⟨j,hj,rfl⟩:=CD hd;exact absurd ⟨hj,e⟩ (i1 j (B7 _) hj)
  ·have e:Q69.f K (aa.doubts n,(λM=>(Q225.f K (M.1,v,())).map λy=>y.1.1),())=some ((((j:Nat):Int),()),()):=j4;rw[e];simp only[BU];rw[show decide (((j:Nat):Int)<0)=false from decide_eq_false (by omega),h3];simp only[cond_false,BU];cases b with
   |false=>exact⟨(0,false,()),rfl,λJ=>(by cases I.2 J),λh=>by cases h⟩
   |true =>
    obtain⟨a0,d2,Y,hb⟩:=z rfl j u;simp only[B6,cond_false];rw[ag u];simp only[BU];refine⟨_,?_,λ_ _ _ _=>⟨_,B4 u,Z.2,rfl⟩,λ_=>⟨I.1 rfl,_,B4 u,Z.2⟩⟩;rw[yf K _ hb];have h1:1<=(aa.doubts n)[j].2.2.2.length:=CX.2 Y;simp only[BU,gp];have hL:3<=dl (aa.doubts n)[j]/\dl (aa.doubts n)[j]<=7:=by unfold dl;split <;> omega
    generalize (aa.doubts n)[j]=d at *;have e1:wr .i64 (n.2.2.2.2.2.1-d.2.2.1)=n.2.2.2.2.2.1-d.2.2.1:=aA (by omega) (by omega);rw[e1];have e2:wr .i64 (dl d-(n.2.2.2.2.2.1-d.2.2.1))=dl d-(n.2.2.2.2.2.1-d.2.2.1):=aA (by omega) (by omega);rw[e2];by_cases h:dl d-(n.2.2.2.2.2.1-d.2.2.1)<0
    ·rw[decide_eq_true h,if_pos h];rfl
    ·rw[decide_eq_false h,if_neg h];rfl
 ·intro rec i R;simp only[Q69.s0];rw[decide_eq_true (show (i:Int)<(BV (aa.doubts n):Int) by omega),ag R,aq i (by omega)];simp only[cond_true,BU,Q225.f,Cs];by_cases h:(aa.doubts n)[i].1=v
  ·have e:((aa.doubts n)[i].1==v)=true:=by simpa using h
   rw[e];exact .inr ⟨⟨R,h⟩,rfl⟩
  ·have e:((aa.doubts n)[i].1==v)=false:=by simpa using h
   rw[e];exact .inl ⟨λ⟨_,I⟩=>h I,rfl⟩
 ·intro rec;simp only[Q69.s0,aZ];rfl
theorem sf (K:Nat)(n:aa)(v:Int)(Y:NB n)(hK:1048577<K):∃ r:Int×Bool×Unit,Q228.f K (n,v,())=some (r,())/\Q227.f K (n,v,())=some (r,())/\(gn n->∀ d∈aa.doubts n,d.1=v->∃ e∈aa.doubts n,e.1=v/\r=(gp n.2.2.2.2.2.1 e,true,()))/\(r.2.1=true->gn n/\∃ d∈aa.doubts n,d.1=v):=by
 have hl:=Y.doubts;obtain⟨b,h1,H⟩:=sW K n Y hK;have h3:Q48.f K (n,())=rb b:=by
  obtain⟨b',I,h5⟩:=mi K n Y hK;have:b=b':=by rw[Cp,H,h5]
  rw[this];exact I
 simp only[Q228.f,Q228.pre,Q227.f];rw[h1];have J:=bS (step:=λrec a=>Q69.s0 K (aa.doubts n,(λZ=>(Q225.f K (Z.1,v,())).map λy=>y.1.1),()) rec a) (aa.doubts n).length (λi=>(i:Int)) (λj=>∃ h:j<(aa.doubts n).length,(aa.doubts n)[j].1=v) (some ((-1,()),())) (λj=>some ((((j:Nat):Int),()),())) ?_ ?_ (aa.doubts n).length K 0 (by omega) (by omega)
 ·have z:b=true->∀ j (h:j<(aa.doubts n).length),InP n.2.2.2.2.2.1 0 999999/\InP (aa.doubts n)[j].2.2.1 0 n.2.2.2.2.2.1/\(aa.doubts n)[j].2.2.2≠[]/\(aa.doubts n)[j].2.2.2.length<=1048576:=by
   intro M j u;have X:=H.1 M;have z:n.2.1=true:=by
    cases hu:n.2.1 with
    |true=>rfl
    |false =>
     have I:=X.2.2.2.2.2;rw[hu]at I;simp only[Cj,if_false]at I;have:=pg n Y I;rw[this]at u;simp at u
   have I:=X.2.2.2.2.2;rw[if_pos z]at I;obtain⟨_,d2,d3,_⟩:=I.2.2.2.2.2.1.1 _ (B4 u);exact⟨X.2.1,d2,d3,Y.by_ _ (B4 u)⟩
  have hs:=λM:b=true=>bS (step:=λrec a=>Q228.s0 K (n,v,()) (Q228.l1 K (n,v,()) rec) rec a) (aa.doubts n).length (λi=>(i:Int)) (λj=>∃ h:j<(aa.doubts n).length,(aa.doubts n)[j].1=v) (some ((0,false,()),()))
   (λj=>(idx (aa.doubts n) (j:Int)).bind λy2=>some ((gp n.2.2.2.2.2.1 y2,true,()),())) (by
    intro rec i J;show _\/_;simp only[Q228.s0];rw[decide_eq_true (show (i:Int)<(BV (aa.doubts n):Int) by omega),ag J,aq i (by omega)];simp only[cond_true,BU];by_cases h:(aa.doubts n)[i].1=v
    ·have e:((aa.doubts n)[i].1 != v)=false:=by simpa using h
     rw[e];obtain⟨q1,q2,q3,q4⟩:=z M i J;exact .inr ⟨⟨J,h⟩,AR K n v _ q4 q3 q1 q2 hK rec⟩
    ·have e:((aa.doubts n)[i].1 != v)=true:=by simpa using h
     rw[e];exact .inl ⟨λ⟨_,H⟩=>h H,rfl⟩) (by
    intro rec;simp only[Q228.s0,aZ];rfl) (aa.doubts n).length K 0 (by omega) (by omega)
  rcases J with ⟨i1,i2⟩|⟨j,_,u,j2,j3,j4⟩
  ·have e:Q69.f K (aa.doubts n,(λZ=>(Q225.f K (Z.1,v,())).map λy=>y.1.1),())=some ((-1,()),()):=i2;rw[e];refine⟨(0,false,()),?_,rfl,λ_ d hd e=>?_,λh=>by cases h⟩
   case refine_2 =>
    obtain⟨j,hj,rfl⟩:=CD hd;exact absurd ⟨hj,e⟩ (i1 j (B7 _) hj)
   simp only[BU];cases b with
   |false=>rfl
   |true =>
    rcases hs rfl with ⟨_,O⟩|⟨R,_,s1,O,_⟩
    ·exact O
    ·exact absurd O (i1 R (B7 _) s1)
  ·have e:Q69.f K (aa.doubts n,(λZ=>(Q225.f K (Z.1,v,())).map λy=>y.1.1),())=some ((((j:Nat):Int),()),()):=j4;rw[e];simp only[BU];rw[show decide (((j:Nat):Int)<0)=false from decide_eq_false (by omega),h3];simp only[cond_false,BU];cases b with
   |false=>exact⟨(0,false,()),rfl,rfl,λX=>(by cases H.2 X),λh=>by cases h⟩
   |true =>
    obtain⟨a0,d2,d3,hb⟩:=z rfl j u;simp only[B6,cond_false];rw[ag u];simp only[BU];rcases hs rfl with ⟨s1,_⟩|⟨R,_,s1,O,s3,s4⟩
    ·exact absurd j2 (s1 j (B7 _) u)
    ·have hj:j=R:=by
      rcases Nat.lt_trichotomy j R with h|h|h
      ·exact absurd j2 (s3 j (B7 _) h)
      ·exact h
      ·exact absurd O (j3 R (B7 _) h)
     subst hj;rw[ag u]at s4;simp only[BU]at s4;refine⟨_,s4,?_,λ_ _ _ _=>⟨_,B4 u,j2.2,rfl⟩,λ_=>⟨H.1 rfl,_,B4 u,j2.2⟩⟩;rw[yf K _ hb];have h1:1<=(aa.doubts n)[j].2.2.2.length:=CX.2 d3;simp only[BU,gp];have hL:3<=dl (aa.doubts n)[j]/\dl (aa.doubts n)[j]<=7:=by unfold dl;split <;> omega
     generalize (aa.doubts n)[j]=d at *;have e1:wr .i64 (n.2.2.2.2.2.1-d.2.2.1)=n.2.2.2.2.2.1-d.2.2.1:=aA (by omega) (by omega);rw[e1];have e2:wr .i64 (dl d-(n.2.2.2.2.2.1-d.2.2.1))=dl d-(n.2.2.2.2.2.1-d.2.2.1):=aA (by omega) (by omega);rw[e2];by_cases h:dl d-(n.2.2.2.2.2.1-d.2.2.1)<0
     ·rw[decide_eq_true h,if_pos h];rfl
     ·rw[decide_eq_false h,if_neg h];rfl
 ·intro rec i J;simp only[Q69.s0];rw[decide_eq_true (show (i:Int)<(BV (aa.doubts n):Int) by omega),ag J,aq i (by omega)];simp only[cond_true,BU,Q225.f,Cs];by_cases h:(aa.doubts n)[i].1=v
  ·have e:((aa.doubts n)[i].1==v)=true:=by simpa using h
   rw[e];exact .inr ⟨⟨J,h⟩,rfl⟩
  ·have e:((aa.doubts n)[i].1==v)=false:=by simpa using h
   rw[e];exact .inl ⟨λ⟨_,H⟩=>h H,rfl⟩
 ·intro rec;simp only[Q69.s0,aZ];rfl
end Go.Proofs.YtaegajachoklkaaGreatEv
