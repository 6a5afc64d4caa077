/- What is ok of facts, tables, casts: the program and the specification say the same. -/
import Derived.Test.YtaegajachoklkaaGreatFns
import Derived.Test.YtaegajachoklkaaGreatP0
set_option linter.unusedVariables false
set_option linter.unusedSimpArgs false
open Bool renaming not_true->BH,false_eq_true->BK,not_false->BT
open Classical renaming not_not->BG
open Int renaming natCast_nonneg->BM
open List renaming length->BD,getElem_mem->BF,getElem?_eq_getElem->BI,getElem_of_mem->BJ,drop_eq_getElem_cons->BN,pairwise_map->BO,filter_cons->BP,drop_of_length_le->BQ,take_of_length_le->BR,length_singleton->BS,take_add_one->BV,getElem?_map->BW,mem_filter->BY,drop_zero->BZ,mem_map->B3
open Nat renaming zero_le->BL,le_refl->BX
open Option renaming bind_some->BE
open Prod.mk renaming injEq->BU
namespace Go.Proofs.YtaegajachoklkaaGreatEv
open Go
abbrev InP (n u r:Int):Prop:=u<=n/\n<=r
theorem fw (K:Nat)(n r u:Int):Ret (Q27.f K (n,r,u,())) (InP n r u):=by
 simp only[Q27.f];exact Ret.cnd (by simp) λ_=>Ret.dec
theorem cB (K:Nat)(n r u:Int):Ret (Q12.f K (n,r,u,())) (InP n r u):=by
 simp only[Q12.f];exact Ret.cnd (by simp) λ_=>Ret.dec
theorem Ret.id {o:Option RB}{P:Prop}(h:Ret o P):Ret (o.bind λy=>some ((y.1.1,()),())) P:=by
 obtain⟨b,u,r⟩:=h;exact⟨b,by rw[u];rfl,r⟩
theorem Ret.neg {o:Option RB}{P:Prop}(h:Ret o P):Ret (o.bind λy=>some ((!y.1.1,()),())) (¬ P):=by
 obtain⟨b,r,u⟩:=h;exact⟨!b,by rw[r];rfl,by cases b <;> simp_all⟩
def bA (f:af):Prop:=InP f.1 0 7/\InP f.2.1 0 999/\InP f.2.2.1 1 4
theorem oS (K:Nat)(n:Int):Ret (Q28.f K (n,())) (InP n 0 7):=(fw K n 0 7).id
theorem mc (K:Nat)(f:af):Ret (Q30.f K (f,())) (bA f) :=
 Ret.and (oS K f.1) (λ_=>Ret.and (fw K f.2.1 0 999) (λ_=>(fw K f.2.2.1 1 4).id) rfl) rfl
theorem oT (K:Nat)(f:af):Ret (Q13.f K (f,())) (bA f) :=
 Ret.and (cB K f.1 0 7) (λ_=>Ret.and (cB K f.2.1 0 999) (λ_=>(cB K f.2.2.1 1 4).id) rfl) rfl
def ax (t:List af):Prop:=(∀ f∈t,bA f)/\Asc (λf:af=>f.1) t
theorem sH {t:List af}:ax t<->∀ j,j<t.length->∃ h:j<t.length,bA t[j]/\(0<j->(t[j-1]'(by omega)).1<t[j].1):=by
 unfold ax;rw[dC,gI];constructor
 ·rintro⟨h1,h2⟩ j hj;exact⟨hj,h1 j hj,λu=>h2 j hj u⟩
 ·intro h;exact⟨λi r=>(h i r).2.1,λi r u=>(h i r).2.2 u⟩
theorem fb {P:Prop}:(P/\True)<->P:=by simp
theorem gp (K:Nat)(t:List af)(J:t.length<=1048576)(M:1048577<K):Ret (Q14.f K (t,())) (ax t):=by
 refine Ret.iff (qr (step:=λrec a=>Q14.s0 K (t,()) rec a) t.length (λi=>(i:Int)) (λj=>∃ h:j<t.length,bA t[j]/\(0<j->(t[j-1]'(by omega)).1<t[j].1)) (Q:=True) (rt:=rb true) ?_ ?_ (by omega) (λ_=>Ret.yes trivial)) (fb.trans sH.symm)
 ·intro rec i u;simp only[Q14.s0];rw[decide_eq_true (by omega:(i:Int)<(BD t:Int)),ag u,ar i (by omega)];simp only[cond_true,BE];obtain⟨b,H,y⟩:=oT K t[i];rw[H];simp only[BE];cases b with
  |false=>exact .inr ⟨λ⟨_,r,_⟩=>by simpa using y.2 r,rfl⟩
  |true =>
   simp only[BH,cond_false];by_cases z:(i:Int)>0
   ·rw[decide_eq_true z,eU i (by omega) (by omega),ag (by omega:i-1<t.length)];simp only[cond_true,BE];by_cases r:(t[i-1]'(by omega)).1>=t[i].1
    ·rw[decide_eq_true r];exact .inr ⟨λ⟨_,_,I⟩=>by have:=I (by omega);omega,rfl⟩
    ·rw[decide_eq_false r];exact .inl ⟨⟨u,y.1 rfl,λ_=>by omega⟩,rfl⟩
   ·rw[decide_eq_false z];exact .inl ⟨⟨u,y.1 rfl,λ_=>by omega⟩,rfl⟩
 ·intro rec;simp only[Q14.s0];rw[decide_eq_false (by omega:¬ ((t.length:Int)<(BD t:Int)))];rfl
theorem jF (K:Nat)(t:List af)(J:t.length<=1048576)(M:1048577<K):Ret (Q31.f K (t,())) (ax t):=by
 refine Ret.iff (qr (step:=λrec a=>Q31.s0 K (t,()) rec a) t.length (λi=>(i:Int)) (λj=>∃ h:j<t.length,bA t[j]/\(0<j->(t[j-1]'(by omega)).1<t[j].1)) (Q:=True) (rt:=rb true) ?_ ?_ (by omega) (λ_=>Ret.yes trivial)) (fb.trans sH.symm)
 ·intro rec i u;simp only[Q31.s0];rw[decide_eq_true (by omega:(i:Int)<(BD t:Int)),ag u,ar i (by omega)];simp only[cond_true,BE];obtain⟨b,H,y⟩:=mc K t[i];rw[H];simp only[BE];cases b with
  |false=>exact .inr ⟨λ⟨_,r,_⟩=>by simpa using y.2 r,rfl⟩
  |true =>
   simp only[BH,cond_false];by_cases z:(i:Int)>0
   ·rw[decide_eq_true z,eU i (by omega) (by omega),ag (by omega:i-1<t.length)];simp only[cond_true,BE];by_cases r:t[i].1<=(t[i-1]'(by omega)).1
    ·rw[decide_eq_true r];exact .inr ⟨λ⟨_,_,I⟩=>by have:=I (by omega);omega,rfl⟩
    ·rw[decide_eq_false r];exact .inl ⟨⟨u,y.1 rfl,λ_=>by omega⟩,rfl⟩
   ·rw[decide_eq_false z];exact .inl ⟨⟨u,y.1 rfl,λ_=>by omega⟩,rfl⟩
 ·intro rec;simp only[Q31.s0];rw[decide_eq_false (by omega:¬ ((t.length:Int)<(BD t:Int)))];rfl
inductive vH (t:List af) (node:Int):Option Nat->Prop where
 |at_ (i:Nat) (h:i<t.length) (e:t[i].1=node):vH t node (some i)
 |no (h:∀ f∈t,f.1≠node):vH t node none
theorem fy (K:Nat)(t:List af)(r:Int)(J:t.length<=1048576)(M:1048577<K) :
  ∃ o,vH t r o/\Q16.f K (t,r,())=some (((match o with|some i=>((i:Nat):Int)|none=>-1),()),()):=by
 have:=ch (step:=λrec a=>Q16.s0 K (t,r,()) rec a) t.length (λi=>(i:Int)) (λj=>∃ h:j<t.length,t[j].1=r) (some ((-1,()),())) (λj=>some ((((j:Nat):Int),()),())) ?_ ?_ t.length K 0 (by omega) (by omega)
 ·rcases this with ⟨y,z⟩|⟨j,_,y,⟨H,I⟩,_,z⟩
  ·refine⟨none,.no ?_,z⟩;rw[dC];exact λi u e=>y i (BL _) u ⟨u,e⟩
  ·exact⟨some j,.at_ j H I,z⟩
 ·intro rec i u;simp only[Q16.s0];rw[decide_eq_true (by omega:(i:Int)<(BD t:Int)),ag u,ar i (by omega)];simp only[cond_true,BE];by_cases h:t[i].1=r
  ·right;refine⟨⟨u,h⟩,?_⟩;have:(t[i].1==r)=true:=by simpa using h
   rw[this];rfl
  ·left;refine⟨λ⟨_,y⟩=>h y,?_⟩;have:(t[i].1==r)=false:=by simpa using h
   rw[this];rfl
 ·intro rec;simp only[Q16.s0];rw[decide_eq_false (by omega:¬ ((t.length:Int)<(BD t:Int)))];rfl
def fA (a b:Int):Int:=if a<b then -1 else if a>b then 1 else 0
theorem nP (K:Nat)(a b:Int):Q34.f K (a,b,())=some ((fA a b,()),()):=by
 have y:∀ x:Int,Q33.f K (x,())=rb false:=λx=>by simp[Q33.f]
 simp only[Q34.f,y,BE,cond_false,fA];by_cases u:a<b
 ·rw[decide_eq_true u,if_pos u];rfl
 ·rw[decide_eq_false u,if_neg u];by_cases r:a>b
  ·rw[decide_eq_true r,if_pos r];rfl
  ·rw[decide_eq_false r,if_neg r];rfl
theorem sI (a b:Int):fA a b<0<->a<b:=by
 unfold fA;by_cases r:a<b
 ·simp[r]
 ·by_cases u:a>b <;> simp[r,u]
theorem uP (a b:Int):fA a b>0<->a>b:=by
 unfold fA;by_cases r:a<b
 ·simp[r];omega
 ·by_cases u:a>b <;> simp[r,u]
theorem ik (a b:Int):fA a b=0<->a=b:=by
 unfold fA;by_cases r:a<b
 ·simp[r];omega
 ·by_cases u:a>b <;> simp[r,u] <;> omega
structure Cut (t:List af) (node:Int) (m:Nat):Prop where
 le:m<=t.length
 lo:∀ i,(h:i<t.length)->i<m->t[i].1<node
 hi:∀ i,(h:i<t.length)->m<=i->node<=t[i].1
theorem sJ (K:Nat)(t:List af)(r:Int)(ht:t.length<=1048576)(I:Asc (λf:af=>f.1) t)(hK:1048577<K) :
  ∃ m,Cut t r m/\Q36.f K (t,r,())=some ((((m:Nat):Int),decide (∃ h:m<t.length,t[m].1=r),()),()):=by
 let ks:Nat->Int:=λi=>if h:i<t.length then t[i].1 else 0
 have u:∀ i (h:i<t.length),ks i=t[i].1:=λi h=>by simp[ks,h]
 let H:Nat->Option ((Int×Bool×Unit)×Unit):=λm=>some ((((m:Nat):Int),decide (∃ h:m<t.length,t[m].1=r),()),())
 have Y:∀ f:af,((Q35.f K (f,r,())).map λy=>y.1.1)=some (fA f.1 r):=λf=>by
  simp only[Q35.f];rw[nP];rfl
 have:=w8 (step:=λrec a=>Q32.s0 K (t,r,(λJ=>(Q35.f K (J.1,J.2.1,())).map λy=>y.1.1),()) rec a) (ks:=ks) (n:=t.length) (t:=r) H ht
  (λi j R X=>by
   rw[u i (by omega),u j X];exact dn.1 I i j (by omega) X R) ?_ ?_ t.length K 0 t.length (by omega) (BL _) (BX _) (by omega) (λi M=>by omega) (λi M hn=>by omega)
 ·obtain⟨m,z,O,h3,h4⟩:=this;refine⟨m,⟨z,λi h M=>by rw[<- u i h];exact O i M,λi h M=>by rw[<- u i h];exact h3 i M h⟩,?_⟩;simp only[Q36.f];have e:Q32.f K (t,r,(λJ=>(Q35.f K (J.1,J.2.1,())).map λy=>y.1.1),())=H m:=h4;rw[e];rfl
 ·intro rec a b a0 hb;have Z:(a+b) / 2<t.length:=by omega
  simp only[Q32.s0];rw[decide_eq_true (by omega:(a:Int)<(b:Int)),uO (by omega)];simp only[cond_true];rw[ag Z];simp only[BE,Y];rw[u _ Z,ar _ (by omega)];by_cases h:t[(a+b) / 2].1<r
  ·rw[if_pos h,decide_eq_true ((sI _ _).2 h)];rfl
  ·rw[if_neg h,decide_eq_false (λz=>h ((sI _ _).1 z))];rfl
 ·intro rec a ha;simp only[Q32.s0];rw[decide_eq_false (by omega)];simp only[cond_false];by_cases h:a<t.length
  ·rw[decide_eq_true (by omega:(a:Int)<(BD t:Int)),ag h];simp only[cond_true,BE,Y,H];congr 3;by_cases z:t[a].1=r
   ·have:(fA t[a].1 r==0)=true:=by simpa using (ik t[a].1 r).2 z
    rw[this,decide_eq_true ⟨h,z⟩]
   ·have:(fA t[a].1 r==0)=false:=by
     rw[beq_eq_false_iff_ne];exact λe=>z ((ik _ _).1 e)
    rw[this,decide_eq_false (λ⟨_,O⟩=>z O)]
  ·rw[decide_eq_false (by omega)];simp only[cond_false,H];rw[decide_eq_false (λ⟨z,_⟩=>h z)]
def ao (n:Int):Int:=wr .i64 (Int.tdiv n 4)
theorem eG (K:Nat)(n:Int):Q11.f K (n,())=some ((ao n,()),()):=rfl
theorem xa (K:Nat)(n:Int):Q40.f K (n,())=some ((ao n,()),()):=rfl
theorem qs (K:Nat)(n:aa):Q43.f K (n,())=some ((ao n.1,()),()):=rfl
abbrev aa.table (n:aa):List af:=n.2.2.2.2.2.2.2.2.1
abbrev aa.cast (n:aa):List aM:=n.2.2.2.2.2.2.2.2.2.1
abbrev aa.probe (n:aa):af:=n.2.2.2.2.2.2.2.2.2.2.1
abbrev aa.doubts (n:aa):List bN:=n.2.2.2.2.2.2.2.2.2.2.2.1
abbrev aa.coord (n:aa):dw:=n.2.2.2.2.2.2.2.2.2.2.2.2.1
abbrev aa.places (n:aa):List dH:=n.2.2.2.2.2.2.2.2.2.2.2.2.2.1
abbrev aa.others (n:aa):List cV:=n.2.2.2.2.2.2.2.2.2.2.2.2.2.2
structure NB (n:aa):Prop where
 table:(aa.table n).length<=1048576
 cast:(aa.cast n).length<=1048576
 doubts:(aa.doubts n).length<=1048576
 by_:∀ d∈aa.doubts n,d.2.2.2.length<=1048576
 places:(aa.places n).length<=1048576
 trips:∀ p∈aa.places n,p.2.2.length<=1048576
 others:(aa.others n).length<=1048576
 facts:∀ x∈aa.others n,x.2.length<=1048576
def ce (t:List af)(s:Int):Prop:=∀ f∈t,ao f.1=s
theorem gq (K:Nat)(t:List af)(s:Int)(y:t.length<=1048576)(u:1048577<K):Ret (Q15.f K (t,s,())) (ce t s):=by
 refine (gn t (step:=λrec a=>Q15.s0 K (t,s,()) rec a) (λi r=>¬ ao t[i].1≠s) y ?_ ?_ u (λ_=>Ret.yes trivial)).iff (fb.trans ?_)
 ·intro rec i r;simp only[Q15.s0];rw[decide_eq_true (by omega:(i:Int)<(BD t:Int))];exact Rnd.ix (ag r) ((Rnd.cndN (P:=ao t[i].1≠s) (by simp[ao]) (λ_=>Rnd.end_)).iff (by simp))
 ·intro rec;simp only[Q15.s0];rw[decide_eq_false (by omega:¬ ((t.length:Int)<(BD t:Int)))];rfl
 ·rw[ce,dC];exact⟨λh i r=>BG.1 (h i r),λh i r=>BG.2 (h i r)⟩
theorem xb (K:Nat)(t:List af)(y:af×Unit->Option Bool)(p:af->Prop)(R:t.length<=1048576)(X:1048577<K)(hφ:∀ f∈t,∃ b,y (f,())=some b/\(b=true<->p f)) :
  Ret (Q39.f K (t,y,())) (∃ f∈t,p f):=by
 have:=ch (step:=λrec a=>Q38.s0 K (t,y,()) rec a) t.length (λi=>(i:Int)) (λj=>∃ h:j<t.length,p t[j]) (some ((-1,()),())) (λj=>some ((((j:Nat):Int),()),())) ?_ ?_ t.length K 0 (by omega) (by omega)
 ·simp only[Q39.f];rcases this with ⟨z,u⟩|⟨j,_,z,⟨I,O⟩,_,u⟩
  ·have e:Q38.f K (t,y,())=some ((-1,()),()):=u;rw[e];refine Ret.of ?_;simp only[ge_iff_le,decide_eq_true_eq];refine⟨λh=>absurd h (by decide),λ⟨f,H,M⟩=>?_⟩;obtain⟨i,r,J⟩:=BJ H;exact absurd ⟨r,J ▸ M⟩ (z i (BL _) r)
  ·have e:Q38.f K (t,y,())=some ((((j:Nat):Int),()),()):=u;rw[e];refine Ret.of ?_;simp only[ge_iff_le,decide_eq_true_eq];exact⟨λ_=>⟨t[j],BF I,O⟩,λ_=>BM j⟩
 ·intro rec i r;simp only[Q38.s0];rw[decide_eq_true (by omega:(i:Int)<(BD t:Int)),ag r,ar i (by omega)];simp only[cond_true,BE];obtain⟨b,z,u⟩:=hφ t[i] (BF r);rw[z];simp only[BE];cases b with
  |true=>exact .inr ⟨⟨r,u.1 rfl⟩,rfl⟩
  |false=>exact .inl ⟨λ⟨_,h⟩=>by simpa using u.2 h,rfl⟩
 ·intro rec;simp only[Q38.s0];rw[decide_eq_false (by omega:¬ ((t.length:Int)<(BD t:Int)))];rfl
theorem qX (K:Nat)(t:List aM)(y:aM×Unit->Option Bool)(p:aM->Prop)(R:t.length<=1048576)(X:1048577<K)(hφ:∀ f∈t,∃ b,y (f,())=some b/\(b=true<->p f)) :
  Ret (Q45.f K (t,y,())) (∃ f∈t,p f):=by
 have:=ch (step:=λrec a=>Q44.s0 K (t,y,()) rec a) t.length (λi=>(i:Int)) (λj=>∃ h:j<t.length,p t[j]) (some ((-1,()),())) (λj=>some ((((j:Nat):Int),()),())) ?_ ?_ t.length K 0 (by omega) (by omega)
 ·simp only[Q45.f];rcases this with ⟨z,u⟩|⟨j,_,z,⟨I,O⟩,_,u⟩
  ·have e:Q44.f K (t,y,())=some ((-1,()),()):=u;rw[e];refine Ret.of ?_;simp only[ge_iff_le,decide_eq_true_eq];refine⟨λh=>absurd h (by decide),λ⟨f,H,M⟩=>?_⟩;obtain⟨i,r,J⟩:=BJ H;exact absurd ⟨r,J ▸ M⟩ (z i (BL _) r)
  ·have e:Q44.f K (t,y,())=some ((((j:Nat):Int),()),()):=u;rw[e];refine Ret.of ?_;simp only[ge_iff_le,decide_eq_true_eq];exact⟨λ_=>⟨t[j],BF I,O⟩,λ_=>BM j⟩
 ·intro rec i r;simp only[Q44.s0];rw[decide_eq_true (by omega:(i:Int)<(BD t:Int)),ag r,ar i (by omega)];simp only[cond_true,BE];obtain⟨b,z,u⟩:=hφ t[i] (BF r);rw[z];simp only[BE];cases b with
  |true=>exact .inr ⟨⟨r,u.1 rfl⟩,rfl⟩
  |false=>exact .inl ⟨λ⟨_,h⟩=>by simpa using u.2 h,rfl⟩
 ·intro rec;simp only[Q44.s0];rw[decide_eq_false (by omega:¬ ((t.length:Int)<(BD t:Int)))];rfl
theorem yx (K:Nat)(t:List Int)(y:Int×Unit->Option Bool)(p:Int->Prop)(R:t.length<=1048576)(X:1048577<K)(hφ:∀ f∈t,∃ b,y (f,())=some b/\(b=true<->p f)) :
  Ret (Q61.f K (t,y,())) (∃ f∈t,p f):=by
 have:=ch (step:=λrec a=>Q60.s0 K (t,y,()) rec a) t.length (λi=>(i:Int)) (λj=>∃ h:j<t.length,p t[j]) (some ((-1,()),())) (λj=>some ((((j:Nat):Int),()),())) ?_ ?_ t.length K 0 (by omega) (by omega)
 ·simp only[Q61.f];rcases this with ⟨z,u⟩|⟨j,_,z,⟨I,O⟩,_,u⟩
  ·have e:Q60.f K (t,y,())=some ((-1,()),()):=u;rw[e];refine Ret.of ?_;simp only[ge_iff_le,decide_eq_true_eq];refine⟨λh=>absurd h (by decide),λ⟨f,H,M⟩=>?_⟩;obtain⟨i,r,J⟩:=BJ H;exact absurd ⟨r,J ▸ M⟩ (z i (BL _) r)
  ·have e:Q60.f K (t,y,())=some ((((j:Nat):Int),()),()):=u;rw[e];refine Ret.of ?_;simp only[ge_iff_le,decide_eq_true_eq];exact⟨λ_=>⟨t[j],BF I,O⟩,λ_=>BM j⟩
 ·intro rec i r;simp only[Q60.s0];rw[decide_eq_true (by omega:(i:Int)<(BD t:Int)),ag r,ar i (by omega)];simp only[cond_true,BE];obtain⟨b,z,u⟩:=hφ t[i] (BF r);rw[z];simp only[BE];cases b with
  |true=>exact .inr ⟨⟨r,u.1 rfl⟩,rfl⟩
  |false=>exact .inl ⟨λ⟨_,h⟩=>by simpa using u.2 h,rfl⟩
 ·intro rec;simp only[Q60.s0];rw[decide_eq_false (by omega:¬ ((t.length:Int)<(BD t:Int)))];rfl
theorem Ret.fn {o:Option RB}{P:Prop}(h:Ret o P):∃ b,(o.map λy=>y.1.1)=some b/\(b=true<->P):=by
 obtain⟨b,u,r⟩:=h;exact⟨b,by rw[u];rfl,r⟩
theorem oU (K:Nat)(t:List af)(s:Int)(H:t.length<=1048576)(z:1048577<K):Ret (Q42.f K (t,s,())) (ce t s):=by
 refine (Ret.neg (xb K t (λI=>(Q41.f K (I.1,s,())).map λy=>y.1.1) (λf=>ao f.1≠s) H z (λf _=>?_))).iff ?_
 ·exact⟨_,rfl,by simp[ao]⟩
 ·exact⟨λh f r=>BG.1 λu=>h ⟨f,r,u⟩,λh ⟨f,r,u⟩=>u (h f r)⟩
theorem gr (K:Nat)(t:List af)(r:Int)(H:t.length<=1048576)(M:1048577<K) :
  (¬ ax t/\Q37.f K (t,r,())=some (((0,(0,(0,false))),false,()),())) \/
  (ax t/\((∃ f∈t,f.1=r/\Q37.f K (t,r,())=some ((f,true,()),()))\/((∀ f∈t,f.1≠r)/\Q37.f K (t,r,())=some (((0,(0,(0,false))),false,()),())))):=by
 simp only[Q37.f];obtain⟨b,X,I⟩:=jF K t H M;rw[X];simp only[BE];cases b with
 |false=>exact .inl ⟨λh=>by simpa using I.2 h,rfl⟩
 |true =>
  have z:=I.1 rfl;obtain⟨m,O,R⟩:=sJ K t r H z.2 M;refine .inr ⟨z,?_⟩;simp only[BH,cond_false,R,BE];by_cases h:∃ h:m<t.length,t[m].1=r
  ·rw[decide_eq_true h];obtain⟨u,J⟩:=h;left;refine⟨t[m],BF u,J,?_⟩;simp only[BH,cond_false];rw[ag u];rfl
  ·rw[decide_eq_false h];right;refine⟨?_,rfl⟩;rw[dC];intro i y e;rcases Nat.lt_trichotomy i m with u|u|u
   ·have:=O.lo i y u;omega
   ·subst u;exact h ⟨y,e⟩
   ·have J:=O.hi m (by omega) (BX _);have Y:=dn.1 z.2 m i (by omega) y u;omega
def bR (f g:af):Prop:=if f.2.1≠g.2.1 then f.2.1>g.2.1 else if f.2.2.1≠g.2.2.1 then f.2.2.1>g.2.2.1 else f.2.2.2=true/\g.2.2.2=false
theorem sK (K:Nat)(f g:af):Ret (Q19.f K (f,g,())) (bR f g):=by
 simp only[Q19.f,bR];by_cases u:f.2.1=g.2.1
 ·have e:(f.2.1 != g.2.1)=false:=by simpa using u
  rw[e,if_neg (by simpa using u)];by_cases r:f.2.2.1=g.2.2.1
  ·have e:(f.2.2.1 != g.2.2.1)=false:=by simpa using r
   rw[e,if_neg (by simpa using r)];exact (Ret.cnd (b:=f.2.2.2) Iff.rfl (λ_=>Ret.of (b:=!g.2.2.2) (by simp))).iff Iff.rfl
  ·have e:(f.2.2.1 != g.2.2.1)=true:=by simpa using r
   rw[e,if_pos r];exact Ret.dec
 ·have e:(f.2.1 != g.2.1)=true:=by simpa using u
  rw[e,if_pos u];exact Ret.dec
def orI:List Int->Int
 |[]=>0
 |x::r=>if x≠0 then x else orI r
theorem AR (K:Nat)(xs:List Int)(J:xs.length<=1048576)(M:1048577<K):Q49.f K (xs,())=some ((orI xs,()),()):=by
 have u:∀ (d k i:Nat),i+d=xs.length->d<k->ae (λrec a=>Q49.s0 K (xs,()) rec a) k (i:Int)=some ((orI (xs.drop i),()),()):=by
  intro d;induction d with
  |zero =>
   intro k i H I;obtain⟨k,rfl⟩:∃ y,k=y+1:=⟨k-1,by omega⟩;show Q49.s0 K (xs,()) _ _=_;simp only[Q49.s0];rw[decide_eq_false (by omega:¬ ((i:Int)<(BD xs:Int))),BQ (by omega)];rfl
  |succ d z =>
   intro k i H I;obtain⟨k,rfl⟩:∃ y,k=y+1:=⟨k-1,by omega⟩;have z:=z k (i+1) (by omega) (by omega);show Q49.s0 K (xs,()) _ _=_;simp only[Q49.s0];have r:i<xs.length:=by omega
   rw[decide_eq_true (by omega:(i:Int)<(BD xs:Int)),ag r,ar i (by omega),BN r];simp only[cond_true,BE,orI];by_cases h:xs[i]=0
   ·have e:(xs[i] != 0)=false:=by simpa using h
    rw[e,if_neg (by simpa using h)];exact z
   ·have e:(xs[i] != 0)=true:=by simpa using h
    rw[e,if_pos h];rfl
 have:=u xs.length K 0 (by omega) (by omega)
 rwa [BZ]at this
def cmpF (f g:af):Int:=orI [fA f.1 g.1,fA f.2.1 g.2.1,fA f.2.2.1 g.2.2.1,if f.2.2.2=true/\g.2.2.2=false then 1 else if g.2.2.2=true/\f.2.2.2=false then -1 else 0]
theorem mR (K:Nat)(f g:af)(H:1048577<K):Q50.f K (f,g,())=some ((cmpF f g,()),()):=by
 obtain⟨a,b,c,d⟩:=f;obtain⟨y,r,u,I⟩:=g;have h:∀ z:Int,Q49.f K ([fA a y,fA b r,fA c u,z],())=some ((orI [fA a y,fA b r,fA c u,z],()),()):=λz=>AR K _ (by simp) H
 simp only[Q50.f,cmpF];cases d <;> cases I <;> simp only[BH,BT,cond_true,cond_false] <;> rw[nP,BE,nP,BE,nP,BE,h] <;> rfl
theorem oV {x:Int}(h:x=0)(xs:List Int):orI (x::xs)=orI xs:=by subst h;rfl
theorem uQ {x:Int}(h:x≠0)(xs:List Int):orI (x::xs)=x:=by simp[orI,h]
theorem jG {f g:af}(e:f.1=g.1):cmpF f g>0<->bR f g:=by
 unfold cmpF bR;rw[oV ((ik f.1 g.1).2 e)];by_cases u:f.2.1=g.2.1
 ·rw[oV ((ik f.2.1 g.2.1).2 u),if_neg (show ¬ f.2.1≠g.2.1 from λh=>h u)];by_cases r:f.2.2.1=g.2.2.1
  ·rw[oV ((ik f.2.2.1 g.2.2.1).2 r),if_neg (show ¬ f.2.2.1≠g.2.2.1 from λh=>h r)];cases f.2.2.2 <;> cases g.2.2.2 <;> simp[orI]
  ·rw[uQ (λh=>r ((ik f.2.2.1 g.2.2.1).1 h)),if_pos (show f.2.2.1≠g.2.2.1 from r)];exact uP _ _
 ·rw[uQ (λh=>u ((ik f.2.1 g.2.1).1 h)),if_pos (show f.2.1≠g.2.1 from u)];exact uP _ _
theorem vI (K:Nat)(f g:af)(r:1048577<K):Ret (Q51.f K (f,g,())) (bA f/\bA g/\f.1=g.1/\bR f g):=by
 refine Ret.and (mc K f) (λ_=>Ret.and (mc K g) (λ_=>?_) rfl) rfl;refine (Ret.cnd (b:=f.1==g.1) (P:=f.1=g.1) (by simp) (λe=>?_)).iff Iff.rfl;show Ret ((Q50.f K (f,g,())).bind _) _;rw[mR K f g r];refine Ret.of ?_;simp only[gt_iff_lt,decide_eq_true_eq];exact jG e
theorem bq {n:Nat}{m:Int}(h:(n:Int)<m):decide ((n:Int)<m)=true:=decide_eq_true h
theorem aQ (n:Nat):decide ((n:Int)<(n:Int))=false:=decide_eq_false (by omega)
def cR (l:List aM):Prop:=(∀ x∈l,bA x.1/\InP x.2 1 4)/\Asc (λx:aM=>x.1.1) l
theorem yy (K:Nat)(l:List aM)(y:l.length<=1048576)(z:1048577<K):Ret (Q18.f K (l,())) (cR l):=by
 refine (gn l (step:=λrec a=>Q18.s0 K (l,()) rec a) (λi r=>bA l[i].1/\InP l[i].2 1 4/\(0<i->¬ (l[i-1]'(by omega)).1.1>=l[i].1.1)/\True) y ?_ ?_ z (λ_=>Ret.yes trivial)).iff (fb.trans ?_)
 ·intro rec i r;simp only[Q18.s0];rw[decide_eq_true (by omega:(i:Int)<(BD l:Int))];simp only[cond_true];refine Rnd.ix (ag r) (Rnd.nx (oT K _) λ_=>Rnd.ix (ag r) (Rnd.nx (cB K _ 1 4) λ_=>Rnd.two (λu=>?_) Rnd.end_));rw[eU i u (by omega)];exact Rnd.ix (ag (by omega)) (Rnd.ix (ag r) (Rnd.cndN (by simp) λ_=>Rnd.end_))
 ·intro rec;simp only[Q18.s0,aQ];rfl
 ·rw[cR,dC,gI];constructor
  ·intro h;exact⟨λi r=>⟨(h i r).1,(h i r).2.1⟩,λi r u=>by have:=(h i r).2.2.1 u;omega⟩
  ·rintro⟨h1,h2⟩ i r;exact⟨(h1 i r).1,(h1 i r).2,λu=>by have:=h2 i r u;omega,trivial⟩
theorem uR (K:Nat)(l:List aM)(M:l.length<=1048576)(O:1048577<K):Q47.f K (l,())=some ((l.map (·.1),()),()):=by
 have u:∀ (d k i:Nat),i+d=l.length->d<k->ae (λrec a=>Q47.s0 K (l,()) rec a) k ((l.take i).map (·.1),(i:Int))=some ((l.map (·.1),()),()):=by
  intro d;induction d with
  |zero =>
   intro k i H I;obtain⟨k,rfl⟩:∃ y,k=y+1:=⟨k-1,by omega⟩;show Q47.s0 K (l,()) _ _=_;simp only[Q47.s0];rw[decide_eq_false (by omega:¬ ((i:Int)<(BD l:Int))),BR (by omega)];rfl
  |succ d z =>
   intro k i H I;obtain⟨k,rfl⟩:∃ y,k=y+1:=⟨k-1,by omega⟩;have z:=z k (i+1) (by omega) (by omega);show Q47.s0 K (l,()) _ _=_;have r:i<l.length:=by omega
   simp only[Q47.s0];rw[decide_eq_true (by omega:(i:Int)<(BD l:Int)),ag r,ar i (by omega)];simp only[cond_true,BE];have J:decide ((BD (List.map (λx:aM=>x.1) (List.take i l))+BD [l[i].1])*32<=ak)=true:=decide_eq_true (by simp only[ak,List.length_map,List.length_take,BS];omega);rw[J];have e:(List.take i l).map (λx:aM=>x.1)++[l[i].1]=(l.take (i+1)).map (·.1):=by
    rw[BV,BI r,List.map_append];rfl
   rw[e];exact z
 have:=u l.length K 0 (by omega) (by omega);exact this
theorem vJ {l:List aM}:ax (l.map (·.1))<->(∀ x∈l,bA x.1)/\Asc (λx:aM=>x.1.1) l:=by
 unfold ax Asc;rw[BO];simp
theorem xc (K:Nat)(x:aM):Ret (Q46.f K (x,())) (¬ InP x.2 1 4):=by
 simp only[Q46.f];exact (fw K x.2 1 4).neg
theorem yz (K:Nat)(l:List aM)(r:l.length<=1048576)(u:1048577<K):Ret (Q45.f K (l,(λz=>(Q46.f K (z.1,())).map λy=>y.1.1),())) (∃ x∈l,¬ InP x.2 1 4) :=
 qX K l _ (λx=>¬ InP x.2 1 4) r u (λx _=>Ret.fn (xc K x))
theorem oW (K:Nat)(l:List aM)(u:l.length<=1048576)(y:1048577<K):Ret (Q48.f K (l,())) (cR l):=by
 simp only[Q48.f];obtain⟨H,M,J⟩:=yz K l u y;obtain⟨z,O,I⟩:=jF K (l.map (·.1)) (by simpa using u) y;rw[uR K l u y,BE,O,BE,M,BE];have e:cR l<->(z=true/\H=false):=by
  rw[I,vJ,cR,<- Bool.not_eq_true,J];constructor
  ·rintro⟨h5,h6⟩;exact⟨⟨λx r=>(h5 x r).1,h6⟩,λ⟨x,r,h⟩=>h (h5 x r).2⟩
  ·rintro⟨⟨h5,h6⟩,h7⟩;exact⟨λx r=>⟨h5 x r,BG.1 λh=>h7 ⟨x,r,h⟩⟩,h6⟩
 refine Ret.iff ?_ e.symm;cases z <;> cases H <;> exact⟨_,rfl,by simp⟩
def gV (t:List af)(l:List aM):Prop:=∀ x∈l,∃ f∈t,f.1=x.1.1/\¬ bR x.1 f
theorem gR {t:List af}(h:Asc (λf:af=>f.1) t){f g:af}(u:f∈t)(r:g∈t)(e:f.1=g.1):f=g:=by
 obtain⟨i,y,rfl⟩:=BJ u;obtain⟨j,z,rfl⟩:=BJ r;have:=oR h y z e;subst this;rfl
theorem ug (K:Nat)(n:aa)(H:NB n)(J:ax (aa.table n))(z:1048577<K):Ret (Q20.f K (n,())) (cR (aa.cast n)/\gV (aa.table n) (aa.cast n)):=by
 refine Ret.nx (yy K _ H.cast z) λ_=>?_
 refine (gn (aa.cast n) (step:=λrec a=>Q20.s0 K (n,()) rec a) (λi r=>∃ f∈aa.table n,f.1=(aa.cast n)[i].1.1/\¬ bR (aa.cast n)[i].1 f) H.cast ?_ ?_ z (λ_=>Ret.yes trivial)).iff (fb.trans ?_)
 ·intro rec i r;simp only[Q20.s0];rw[decide_eq_true (by omega:(i:Int)<(BD (aa.cast n):Int))];simp only[cond_true];refine Rnd.ix (ag r) ?_;obtain⟨o,M,O⟩:=fy K (aa.table n) (aa.cast n)[i].1.1 H.table z;refine Rnd.vl O ?_;cases M with
  |no h =>
   rw[show decide ((-1:Int)<0)=true from rfl];exact .inr ⟨λ⟨f,u,e,_⟩=>h f u e,rfl⟩
  |at_ j y e =>
   simp only;rw[decide_eq_false (by omega:¬ ((j:Int)<0))];refine (Rnd.ix (ag r) (Rnd.ix (ag y) (Rnd.fx (sK K _ _) λ_=>Rnd.end_))).iff ⟨λh=>⟨_,BF y,e,h.1⟩,λ⟨f,u,I,h⟩=>⟨?_,trivial⟩⟩;have:=gR J.2 u (BF y) (I.trans e.symm)
   rwa [<- this]
 ·intro rec;simp only[Q20.s0,aQ];rfl
 ·rw[gV,dC]
theorem yA (K:Nat)(n:aa)(O:NB n)(J:ax (aa.table n))(R:cR (aa.cast n))(M:1048577<K) :
  Ret ((Q45.f K (aa.cast n,(λZ=>(Q52.f K (Z.1,n,())).map λy=>y.1.1),())).bind λX=>some ((!X.1.1,()),())) (gV (aa.table n) (aa.cast n)):=by
 refine (Ret.neg (qX K _ _ (λx=>¬ ∃ f∈aa.table n,f.1=x.1.1/\¬ bR x.1 f) O.cast M (λx z=>Ret.fn ?_))).iff ?_
 ·simp only[Q52.f];rcases gr K (aa.table n) x.1.1 O.table M with ⟨H,_⟩|⟨_,⟨f,r,e,H⟩|⟨u,H⟩⟩
  ·exact absurd J H
  ·refine Ret.vl H ?_;refine (vI K x.1 f M).id.iff ⟨λh ⟨g,hg,Y,I⟩=>?_,λh=>?_⟩
   ·have:=gR J.2 hg r (Y.trans e.symm);exact I (this ▸ h.2.2.2)
   ·refine⟨(R.1 x z).1,J.1 f r,e.symm,BG.1 λI=>h ⟨f,r,e,I⟩⟩
  ·refine Ret.vl H ?_;exact Ret.yes (λ⟨f,r,e,_⟩=>u f r e)
 ·exact⟨λh x z=>BG.1 λu=>h ⟨x,z,u⟩,λh ⟨x,z,u⟩=>u (h x z)⟩
def cL (n:aa):Prop:=((n.1,n.2.2.2.2.1,(if n.2.2.1=true then 4 else 1),n.2.2.2.1):af)∈aa.table n
theorem AS (K:Nat)(n:aa)(O:NB n)(z:ax (aa.table n))(M:1048577<K):Ret (Q17.f K (n,())) (cL n):=by
 simp only[Q17.f];obtain⟨o,I,J⟩:=fy K (aa.table n) n.1 O.table M;refine Ret.vl J ?_;cases I with
 |no h =>
  rw[show decide ((-1:Int)<0)=true from rfl];exact Ret.no (λy=>h _ y rfl)
 |at_ j u e =>
  simp only;rw[decide_eq_false (by omega:¬ ((j:Int)<0))];refine Ret.vl (ag u) ?_;have r:cL n<->(aa.table n)[j]=((n.1,n.2.2.2.2.1,(if n.2.2.1=true then 4 else 1),n.2.2.2.1):af):=by
   constructor
   ·intro h;exact gR z.2 (BF u) h e
   ·intro h;show _∈_;rw[<- h];exact BF u
  have H:(aa.table n)[j]=((n.1,n.2.2.2.2.1,(if n.2.2.1=true then 4 else 1),n.2.2.2.1):af)<->((aa.table n)[j].2.1=n.2.2.2.2.1/\(aa.table n)[j].2.2.1=(if n.2.2.1=true then 4 else 1)/\(aa.table n)[j].2.2.2=n.2.2.2.1):=by
   generalize (aa.table n)[j]=f at e ⊢;obtain⟨a,b,c,d⟩:=f;simp at e ⊢;intro _ _ _;exact e
  refine Ret.iff ?_ (r.trans H).symm;cases R:n.2.2.1 with
  |true=>exact Ret.cnd (by simp) λ_=>Ret.cnd (by simp) λ_=>Ret.of (by simp)
  |false=>exact Ret.cnd (by simp) λ_=>Ret.cnd (by simp) λ_=>Ret.of (by simp)
theorem gW (f g:af):Ty.eqv ty_impl_Fact_D f g=decide (f=g):=by
 obtain⟨a,b,c,d⟩:=f;obtain⟨z,u,y,r⟩:=g;show (decide (a=z)&&(decide (b=u)&&(decide (c=y)&&(d==r))))=_;cases d <;> cases r <;> simp[BU]
theorem pB (f g:dw):Ty.eqv ty_impl_Coord_D f g=decide (f=g):=by
 obtain⟨a,b,c,d⟩:=f;obtain⟨z,r,u,y⟩:=g;show (decide (a=z)&&(decide (b=r)&&(decide (c=u)&&decide (d=y))))=_;simp[BU]
theorem qt (K:Nat)(n:aa)(M:NB n)(J:1048577<K):Ret (Q53.f K (n,()))
  (ax (aa.table n)/\ce (aa.table n) (ao n.1)/\cL n/\cR (aa.cast n)/\gV (aa.table n) (aa.cast n)):=by
 have z:∀ (w:Int),ax (aa.table n)->Ret ((Q43.f K (n,())).bind λy2=>(Q42.f K (aa.table n,y2.1.1,())).bind λR=>bif !R.1.1 then rb false else
   ((Q48.f K (aa.cast n,())).bind λY=>bif !Y.1.1 then rb false else
    ((Q45.f K (aa.cast n,(λZ=>(Q52.f K (Z.1,n,())).map λy=>y.1.1),())).bind λO=>some ((!O.1.1,()),()))))
   (ce (aa.table n) (ao n.1)/\cR (aa.cast n)/\gV (aa.table n) (aa.cast n)):=by
  intro _ u;exact Ret.vl (qs K n) (Ret.nx (oU K _ _ M.table J) λ_=>Ret.nx (oW K _ M.cast J) λhC=>yA K n M u hC J)
 have r:∀ (w:Int),w=(if n.2.2.1=true then 4 else 1)->Ret ((Q37.f K (aa.table n,n.1,())).bind λy1=>bif !y1.1.2.1 then rb false else bif !Ty.eqv ty_impl_Fact_D y1.1.1 (n.1,(n.2.2.2.2.1,(w,n.2.2.2.1))) then rb false else
   ((Q43.f K (n,())).bind λy2=>(Q42.f K (aa.table n,y2.1.1,())).bind λR=>bif !R.1.1 then rb false else
   ((Q48.f K (aa.cast n,())).bind λY=>bif !Y.1.1 then rb false else
    ((Q45.f K (aa.cast n,(λZ=>(Q52.f K (Z.1,n,())).map λy=>y.1.1),())).bind λO=>some ((!O.1.1,()),())))))
   (ax (aa.table n)/\ce (aa.table n) (ao n.1)/\cL n/\cR (aa.cast n)/\gV (aa.table n) (aa.cast n)):=by
  intro w hw;rcases gr K (aa.table n) n.1 M.table J with ⟨H,X⟩|⟨u,⟨f,hf,e,H⟩|⟨X,H⟩⟩
  ·exact Ret.vl X (Ret.no (λh=>H h.1))
  ·refine Ret.vl H ?_;simp only[BH,cond_false];rw[gW];by_cases I:f=(n.1,(n.2.2.2.2.1,(w,n.2.2.2.1)))
   ·rw[decide_eq_true I];have hS:cL n:=by
     show _∈_;rw[<- hw,<- I];exact hf
    exact (z w u).iff ⟨λh=>⟨u,h.1,hS,h.2.1,h.2.2⟩,λh=>⟨h.2.1,h.2.2.2⟩⟩
   ·rw[decide_eq_false I];refine Ret.no (λh=>I ?_);have:=gR u.2 hf h.2.2.1 e;rw[this,hw]
  ·refine Ret.vl H (Ret.no (λh=>X _ h.2.2.1 rfl))
 simp only[Q53.f];cases hg:n.2.2.1 with
 |true=>exact r 4 (by rw[hg];rfl)
 |false=>exact r 1 (by rw[hg];rfl)
def cW (n:aa):Prop:=if (aa.probe n).1=-1 then aa.probe n=(-1,0,0,false) else
 (aa.probe n).1≠n.1/\(∃ f∈aa.table n,f.1=(aa.probe n).1)/\InP (aa.probe n).2.1 0 n.2.2.2.2.2.1/\InP (aa.probe n).2.2.1 1 n.2.2.2.2.2.2.1
theorem zV (K:Nat)(n:aa)(M:NB n)(J:1048577<K):Ret (Q21.f K (n,())) (cW n):=by
 simp only[Q21.f,cW];by_cases h:(aa.probe n).1=-1
 ·rw[if_pos h,show ((aa.probe n).1==-1)=true by simpa using h];refine (Ret.cnd (P:=(aa.probe n).2.1=0) (by simp) λ_=>Ret.cnd (P:=(aa.probe n).2.2.1=0) (by simp) λ_=>Ret.of (P:=(aa.probe n).2.2.2=false) (by simp)).iff ?_;generalize aa.probe n=p at h ⊢;obtain⟨a,b,c,d⟩:=p;simp at h ⊢;intro _ _ _;exact h
 ·rw[if_neg h,show ((aa.probe n).1==-1)=false by simpa using h];refine Ret.cnd (by simp) λ_=>?_
  obtain⟨o,H,I⟩:=fy K (aa.table n) (aa.probe n).1 M.table J;refine Ret.vl I ?_;cases H with
  |no y=>exact Ret.no (λ⟨⟨f,u,e⟩,_⟩=>y f u e)
  |at_ j z e =>
   simp only;rw[show decide ((j:Int)>=0)=true from decide_eq_true (by omega)];exact (Ret.px (cB K _ _ _) λ_=>(cB K _ _ _).id).iff ⟨λr=>⟨⟨_,BF z,e⟩,r⟩,λr=>r.2⟩
theorem zW (K:Nat)(n:aa)(H:NB n)(J:ax (aa.table n))(z:1048577<K):Ret (Q54.f K (n,())) (cW n):=by
 simp only[Q54.f,cW];by_cases h:(aa.probe n).1=-1
 ·rw[if_pos h,show ((aa.probe n).1==-1)=true by simpa using h,gW];exact Ret.dec
 ·rw[if_neg h,show ((aa.probe n).1==-1)=false by simpa using h];rcases gr K (aa.table n) (aa.probe n).1 H.table z with ⟨u,_⟩|⟨_,⟨f,y,e,u⟩|⟨I,u⟩⟩
  ·exact absurd J u
  ·refine Ret.vl u ?_;exact (Ret.cnd (P:=(aa.probe n).1≠n.1) (by simp) λ_=>Ret.px (fw K _ _ _) λ_=>(fw K _ _ _).id).iff ⟨λr=>⟨r.1,⟨f,y,e⟩,r.2⟩,λr=>⟨r.1,r.2.2⟩⟩
  ·exact Ret.vl u (Ret.no (λ⟨_,⟨f,y,e⟩,_⟩=>I f y e))
def cC (c:dw):Prop:=InP c.1 (-100000) 100000/\InP c.2.1 (-100000) 100000/\InP c.2.2.1 0 100000/\InP c.2.2.2 1 1500
theorem iD (K:Nat)(c:dw):Ret (Q23.f K (c,())) (cC c) :=
 Ret.px (cB K _ _ _) λ_=>Ret.px (cB K _ _ _) λ_=>Ret.px (cB K _ _ _) λ_=>(cB K _ _ _).id
theorem qu (K:Nat)(c:dw):Ret (Q57.f K (c,())) (cC c) :=
 Ret.px (fw K _ _ _) λ_=>Ret.px (fw K _ _ _) λ_=>Ret.px (fw K _ _ _) λ_=>(fw K _ _ _).id
def AT (r:Int)(p:dH):Prop:=InP p.1 0 7/\ao p.1=ao r/\p.1≠r/\cC p.2.1/\InP (p.2.2.length:Int) 1 3/\∀ t∈p.2.2,InP t 1 60000
def ew (r:Int)(l:List dH):Prop:=(∀ p∈l,AT r p)/\Asc (λp:dH=>p.1) l
theorem xd (K:Nat)(n:aa)(x:Int):Ret (Q55.f K (n,x,())) (InP x 0 7/\ao x=ao n.1):=by
 refine Ret.px (oS K x) λ_=>?_
 exact Ret.of (b:=ao x==ao n.1) (by simp)
theorem zX (K:Nat)(n:aa)(x:Int):Ret (Q59.f K (n,x,())) ((InP x 0 7/\ao x=ao n.1)/\x≠n.1):=by
 refine Ret.px (xd K n x) λ_=>?_
 exact Ret.of (b:=x != n.1) (by simp)
theorem yB (K:Nat)(n:aa)(Y:NB n)(hK:1048577<K):Ret (Q24.f K (n,())) (ew n.1 (aa.places n)):=by
 refine (gn (aa.places n) (step:=λrec a=>Q24.s0 K (n,()) (Q24.l1 K (n,()) rec) rec a)
  (λi y=>InP (aa.places n)[i].1 0 7/\¬ ao (aa.places n)[i].1≠ao n.1/\¬ (aa.places n)[i].1=n.1/\(0<i->¬ ((aa.places n)[i-1]'(by omega)).1>=(aa.places n)[i].1) /\
   cC (aa.places n)[i].2.1/\InP ((aa.places n)[i].2.2.length:Int) 1 3/\∀ k (z:k<(aa.places n)[i].2.2.length),InP (aa.places n)[i].2.2[k] 1 60000/\True) Y.places ?_ ?_ hK (λ_=>Ret.yes trivial)).iff (fb.trans ?_)
 ·intro rec i y;have Z:=Y.trips _ (BF y);have hl:=Y.places;have r:Rnd (Q24.l1 K (n,()) rec ((i:Int),0,(aa.places n)[i].1,(aa.places n)[i].2.1.1,(aa.places n)[i].2.1.2.1,(aa.places n)[i].2.1.2.2.1,(aa.places n)[i].2.1.2.2.2,(aa.places n)[i].2.2))
    (∀ k (z:k<(aa.places n)[i].2.2.length),InP (aa.places n)[i].2.2[k] 1 60000/\True) (rec (wr .i64 ((i:Int)+1))):=by
   generalize (aa.places n)[i]=p at Z;refine oQ p.2.2 (step:=λu a=>Q24.s1 K (n,()) rec u a) (λk=>((i:Int),(k:Int),p.1,p.2.1.1,p.2.1.2.1,p.2.1.2.2.1,p.2.1.2.2.2,p.2.2)) (λk z=>InP p.2.2[k] 1 60000/\True) Z ?_ ?_ hK
   ·intro u k z;simp only[Q24.s1];rw[decide_eq_true (by omega:(k:Int)<(BD p.2.2:Int)),ar k (by omega)];simp only[cond_true];exact Rnd.ix (ag z) (Rnd.nx (cB K _ _ _) λ_=>Rnd.end_)
   ·intro u;simp only[Q24.s1,aQ];rfl
  simp only[Q24.s0];rw[decide_eq_true (by omega:(i:Int)<(BD (aa.places n):Int))];simp only[cond_true];refine Rnd.ix (ag y) (Rnd.nx (cB K _ _ _) λ_=>Rnd.vl (eG K _) (Rnd.vl (eG K _) (Rnd.cndN (by simp) λ_=>Rnd.cndN (by simp) λ_=>Rnd.two (λH=>?_) ?_)))
  ·rw[eU i H (by omega)];exact Rnd.ix (ag (show i-1<(aa.places n).length by omega)) (Rnd.cndN (by simp) λ_=>Rnd.nx (iD K _) λ_=>Rnd.nx (cB K _ _ _) λ_=>r)
  ·exact Rnd.nx (iD K _) λ_=>Rnd.nx (cB K _ _ _) λ_=>r
 ·intro rec;simp only[Q24.s0,aQ];rfl
 ·rw[ew,dC,gI];constructor
  ·intro h;refine⟨λi y=>?_,λi y H=>?_⟩
   ·obtain⟨X,M,O,h4,R,J,I⟩:=h i y;exact⟨X,BG.1 M,O,R,J,dC.2 λk z=>(I k z).1⟩
   ·have:=(h i y).2.2.2.1 H;omega
  ·rintro⟨X,M⟩ i y;obtain⟨O,h4,R,J,I,h8⟩:=X i y;exact⟨O,BG.2 h4,R,λH=>by have:=M i y H;omega,J,I,λk z=>⟨dC.1 h8 k z,trivial⟩⟩
theorem yC (K:Nat)(n:aa)(Y:NB n)(hK:1048577<K):Ret (Q62.f K (n,())) (ew n.1 (aa.places n)):=by
 refine (gn (aa.places n) (step:=λrec a=>Q62.s0 K (n,()) rec a)
  (λi u=>((InP (aa.places n)[i].1 0 7/\ao (aa.places n)[i].1=ao n.1)/\(aa.places n)[i].1≠n.1)/\(0<i->¬ (aa.places n)[i].1<=((aa.places n)[i-1]'(by omega)).1) /\
   cC (aa.places n)[i].2.1/\InP ((aa.places n)[i].2.2.length:Int) 1 3/\(¬ ∃ t∈(aa.places n)[i].2.2,¬ InP t 1 60000)/\True) Y.places ?_ ?_ hK (λ_=>Ret.yes trivial)).iff (fb.trans ?_)
 ·intro rec i u;have hb:=Y.trips _ (BF u);have hl:=Y.places;have r:Ret (Q61.f K ((aa.places n)[i].2.2,(λy6=>(Q58.f K (y6.1,())).map λy=>y.1.1),())) (∃ t∈(aa.places n)[i].2.2,¬ InP t 1 60000) :=
   yx K _ _ _ hb hK (λt _=>Ret.fn (fw K t _ _).neg)
  simp only[Q62.s0];rw[decide_eq_true (by omega:(i:Int)<(BD (aa.places n):Int))];simp only[cond_true];refine Rnd.ix (ag u) (Rnd.nx (zX K n _) λ_=>Rnd.two (λz=>?_) ?_)
  ·rw[eU i z (by omega)];exact Rnd.ix (ag (show i-1<(aa.places n).length by omega)) (Rnd.cndN (by simp) λ_=>Rnd.nx (qu K _) λ_=>Rnd.nx (fw K _ _ _) λ_=>Rnd.fx r λ_=>Rnd.end_)
  ·exact Rnd.nx (qu K _) λ_=>Rnd.nx (fw K _ _ _) λ_=>Rnd.fx r λ_=>Rnd.end_
 ·intro rec;simp only[Q62.s0,aQ];rfl
 ·rw[ew,dC,gI];constructor
  ·intro h;refine⟨λi u=>?_,λi u z=>?_⟩
   ·obtain⟨⟨⟨X,M⟩,O⟩,h4,R,I,H,_⟩:=h i u;exact⟨X,M,O,R,I,λt J=>BG.1 λZ=>H ⟨t,J,Z⟩⟩
   ·have:=(h i u).2.1 z;omega
  ·rintro⟨X,M⟩ i u;obtain⟨O,h4,R,I,H,Z⟩:=X i u;exact⟨⟨⟨O,h4⟩,R⟩,λz=>by have:=M i u z;omega,I,H,λ⟨t,J,h9⟩=>h9 (Z t J),trivial⟩
def AU (r:Int)(x:cV):Prop:=InP x.1 0 1/\x.1≠ao r/\x.2≠[]/\ax x.2/\ce x.2 x.1
def c8 (r:Int)(l:List cV):Prop:=(∀ x∈l,AU r x)/\Asc (λx:cV=>x.1) l
theorem oX {α:Type}(l:List α):((BD l:Int)==0)=true<->l=[]:=by
 cases l <;> simp;omega
theorem yD (K:Nat)(n:aa)(H:NB n)(u:1048577<K):Ret (Q25.f K (n,())) (c8 n.1 (aa.others n)):=by
 refine (gn (aa.others n) (step:=λrec a=>Q25.s0 K (n,()) rec a)
  (λi r=>InP (aa.others n)[i].1 0 1/\¬ (aa.others n)[i].1=ao n.1/\(0<i->¬ ((aa.others n)[i-1]'(by omega)).1>=(aa.others n)[i].1) /\
   ¬ (aa.others n)[i].2=[]/\ax (aa.others n)[i].2/\ce (aa.others n)[i].2 (aa.others n)[i].1/\True) H.others ?_ ?_ u (λ_=>Ret.yes trivial)).iff (fb.trans ?_)
 ·intro rec i r;have z:=H.facts _ (BF r);have X:=H.others;simp only[Q25.s0];rw[decide_eq_true (by omega:(i:Int)<(BD (aa.others n):Int))];simp only[cond_true];refine Rnd.ix (ag r) (Rnd.nx (cB K _ _ _) λ_=>Rnd.vl (eG K _) (Rnd.cndN (by simp) λ_=>Rnd.two (λy=>?_) ?_))
  ·rw[eU i y (by omega)];exact Rnd.ix (ag (show i-1<(aa.others n).length by omega)) (Rnd.cndN (by simp) λ_=>Rnd.cndN (oX _) λ_=>Rnd.nx (gp K _ z u) λ_=>Rnd.nx (gq K _ _ z u) λ_=>Rnd.end_)
  ·exact Rnd.cndN (oX _) λ_=>Rnd.nx (gp K _ z u) λ_=>Rnd.nx (gq K _ _ z u) λ_=>Rnd.end_
 ·intro rec;simp only[Q25.s0,aQ];rfl
 ·rw[c8,dC,gI];constructor
  ·intro h;exact⟨λi r=>⟨(h i r).1,(h i r).2.1,(h i r).2.2.2.1,(h i r).2.2.2.2.1,(h i r).2.2.2.2.2.1⟩,λi r y=>by have:=(h i r).2.2.1 y;omega⟩
  ·rintro⟨h1,h2⟩ i r;obtain⟨M,R,O,J,I⟩:=h1 i r;exact⟨M,R,λy=>by have:=h2 i r y;omega,O,J,I,trivial⟩
theorem yE (K:Nat)(n:aa)(J:NB n)(y:1048577<K):Ret (Q63.f K (n,())) (c8 n.1 (aa.others n)):=by
 refine (gn (aa.others n) (step:=λrec a=>Q63.s0 K (n,()) rec a)
  (λi r=>InP (aa.others n)[i].1 0 1/\¬ (aa.others n)[i].1=ao n.1/\(0<i->¬ (aa.others n)[i].1<=((aa.others n)[i-1]'(by omega)).1) /\
   ¬ (aa.others n)[i].2=[]/\ax (aa.others n)[i].2/\ce (aa.others n)[i].2 (aa.others n)[i].1/\True) J.others ?_ ?_ y (λ_=>Ret.yes trivial)).iff (fb.trans ?_)
 ·intro rec i r;have I:=J.facts _ (BF r);have Y:=J.others;have H:ao 7=1:=by unfold ao;rw[aE (by decide) (by decide)];decide
  have u:=fw K (aa.others n)[i].1 0 (ao 7);rw[H]at u;simp only[Q63.s0];rw[decide_eq_true (by omega:(i:Int)<(BD (aa.others n):Int))];simp only[cond_true];refine Rnd.ix (ag r) (Rnd.vl (xa K 7) ?_);dsimp only;rw[H];refine Rnd.nx u λ_=>Rnd.vl (qs K n) (Rnd.cndN (by simp) λ_=>Rnd.two (λz=>?_) ?_)
  ·rw[eU i z (by omega)];exact Rnd.ix (ag (show i-1<(aa.others n).length by omega)) (Rnd.cndN (by simp) λ_=>Rnd.cndN (oX _) λ_=>Rnd.nx (jF K _ I y) λ_=>Rnd.nx (oU K _ _ I y) λ_=>Rnd.end_)
  ·exact Rnd.cndN (oX _) λ_=>Rnd.nx (jF K _ I y) λ_=>Rnd.nx (oU K _ _ I y) λ_=>Rnd.end_
 ·intro rec;simp only[Q63.s0,aQ];rfl
 ·rw[c8,dC,gI];constructor
  ·intro h;exact⟨λi r=>⟨(h i r).1,(h i r).2.1,(h i r).2.2.2.1,(h i r).2.2.2.2.1,(h i r).2.2.2.2.2.1⟩,λi r z=>by have:=(h i r).2.2.1 z;omega⟩
  ·rintro⟨h1,h2⟩ i r;obtain⟨O,X,R,M,H⟩:=h1 i r;exact⟨O,X,λz=>by have:=h2 i r z;omega,R,M,H,trivial⟩
def ByP (r:Int)(l:List Int):Prop:=(∀ b∈l,InP b 0 7/\ao b=ao r)/\Asc (λb:Int=>b) l
def lG (n:aa)(d:bN):Prop:=(∃ f∈aa.table n,f.1=d.1/\f.2.2.1=2/\f.2.1=d.2.1)/\InP d.2.2.1 0 n.2.2.2.2.2.1/\d.2.2.2≠[]/\ByP n.1 d.2.2.2
def aU (t:List af):List af:=t.filter λf=>f.2.2.1==2
def iE (n:aa):Prop:=(∀ d∈aa.doubts n,lG n d)/\Asc (λd:bN=>d.1) (aa.doubts n)/\(aU (aa.table n)).length=(aa.doubts n).length
theorem xe {y:Int}{l:List Int}:ByP y l<->∀ k (r:k<l.length),(InP l[k] 0 7/\ao l[k]=ao y)/\(0<k->¬ l[k-1]'(by omega)>=l[k]):=by
 rw[ByP,dC,gI];constructor
 ·rintro⟨h1,h2⟩ k r;exact⟨h1 k r,λu=>by have:=h2 k r u;omega⟩
 ·intro h;exact⟨λk r=>(h k r).1,λk r u=>by have:=(h k r).2 u;omega⟩
theorem zY (K:Nat)(n:aa)(M:NB n)(X:1048577<K):Q22.l2 K (n,()) (0,0)=rb (decide ((aU (aa.table n)).length=(aa.doubts n).length)):=by
 have R:=M.table;have u:∀ (d k i c:Nat),i+d=(aa.table n).length->d<k->c<=i ->
   ae (λrec a=>Q22.s2 K (n,()) rec a) k ((c:Int),(i:Int))=rb (decide (c+(aU ((aa.table n).drop i)).length=(aa.doubts n).length)):=by
  intro d;induction d with
  |zero =>
   intro k i c I J O;obtain⟨k,rfl⟩:∃ y,k=y+1:=⟨k-1,by omega⟩;show Q22.s2 K (n,()) _ _=_;simp only[Q22.s2];rw[decide_eq_false (show ¬ ((i:Int)<(BD (aa.table n):Int)) by omega),BQ (by omega)];simp only[cond_false,aU,List.filter_nil,List.length_nil,Nat.add_zero];have e:((c:Int)==(BD (aa.doubts n):Int))=decide (c=(aa.doubts n).length):=by
    by_cases h:c=(aa.doubts n).length
    ·rw[decide_eq_true h,h];simp
    ·rw[decide_eq_false h,beq_eq_false_iff_ne];omega
   exact congrArg rb e
  |succ d H =>
   intro k i c I J O;obtain⟨k,rfl⟩:∃ y,k=y+1:=⟨k-1,by omega⟩;have r:i<(aa.table n).length:=by omega
   show Q22.s2 K (n,()) _ _=_;simp only[Q22.s2];rw[decide_eq_true (show ((i:Int)<(BD (aa.table n):Int)) by omega),ag r,ar i (by omega),ar c (by omega),BN r];simp only[cond_true,BE];cases z:((aa.table n)[i].2.2.1==2) with
   |true =>
    have:=H k (i+1) (c+1) (by omega) (by omega) (by omega);simp only[cond_true];have e:c+1+(aU ((aa.table n).drop (i+1))).length=c+(aU ((aa.table n)[i]::(aa.table n).drop (i+1))).length:=by
     simp only[aU,BP,z,if_true,List.length_cons];omega
    rw[<- e];exact this
   |false =>
    have:=H k (i+1) c (by omega) (by omega) (by omega);simp only[cond_false];have e:aU ((aa.table n)[i]::(aa.table n).drop (i+1))=aU ((aa.table n).drop (i+1)):=by
     simp only[aU,BP,z,BK,if_false]
    rw[e];exact this
 have:=u (aa.table n).length K 0 0 (by omega) (by omega) (BX _);rw[BZ,Nat.zero_add]at this;exact this
theorem yF (K:Nat)(n:aa)(X:NB n)(hT:ax (aa.table n))(Y:1048577<K):Ret (Q22.f K (n,())) (iE n):=by
 refine (gn (aa.doubts n) (step:=λrec a=>Q22.s0 K (n,()) (Q22.l1 K (n,()) rec) (Q22.l2 K (n,())) rec a)
  (λi z=>(0<i->¬ ((aa.doubts n)[i-1]'(by omega)).1>=(aa.doubts n)[i].1)/\lG n (aa.doubts n)[i]) (Q:=(aU (aa.table n)).length=(aa.doubts n).length) (rt:=Q22.l2 K (n,()) (0,0)) X.doubts ?_ ?_ Y (λ_=>by rw[zY K n X Y];exact Ret.dec)).iff ?_
 ·intro rec i z;have Z:=X.by_ _ (BF z);have hl:=X.doubts;have u:Rnd (Q22.l1 K (n,()) rec ((i:Int),0,(aa.doubts n)[i].1,(aa.doubts n)[i].2.1,(aa.doubts n)[i].2.2.1,(aa.doubts n)[i].2.2.2)) (ByP n.1 (aa.doubts n)[i].2.2.2) (rec (wr .i64 ((i:Int)+1))):=by
   generalize (aa.doubts n)[i]=d at Z;refine (oQ d.2.2.2 (step:=λy a=>Q22.s1 K (n,()) rec y a) (λk=>((i:Int),(k:Int),d.1,d.2.1,d.2.2.1,d.2.2.2))
    (λk r=>InP d.2.2.2[k] 0 7/\¬ ao d.2.2.2[k]≠ao n.1/\(0<k->¬ d.2.2.2[k-1]'(by omega)>=d.2.2.2[k])/\True) Z ?_ ?_ Y).iff ?_
   ·intro y k r;simp only[Q22.s1];rw[decide_eq_true (by omega:(k:Int)<(BD d.2.2.2:Int)),ar k (by omega)];simp only[cond_true];refine Rnd.ix (ag r) (Rnd.nx (cB K _ _ _) λ_=>Rnd.ix (ag r) (Rnd.vl (eG K _) (Rnd.vl (eG K _) (Rnd.cndN (by simp) λ_=>Rnd.two (λH=>?_) Rnd.end_))));rw[eU k H (by omega)];exact Rnd.ix (ag (show k-1<d.2.2.2.length by omega)) (Rnd.ix (ag r) (Rnd.cndN (by simp) λ_=>Rnd.end_))
   ·intro y;simp only[Q22.s1,aQ];rfl
   ·rw[xe];constructor
    ·intro h k r;exact⟨⟨(h k r).1,BG.1 (h k r).2.1⟩,(h k r).2.2.1⟩
    ·intro h k r;exact⟨(h k r).1.1,BG.2 (h k r).1.2,(h k r).2,trivial⟩
  obtain⟨o,ho,O⟩:=fy K (aa.table n) (aa.doubts n)[i].1 X.table Y;simp only[Q22.s0];rw[decide_eq_true (show ((i:Int)<(BD (aa.doubts n):Int)) by omega)];simp only[cond_true];refine Rnd.ix (ag z) (Rnd.vl O ?_);cases ho with
  |no h =>
   have R:¬ lG n (aa.doubts n)[i]:=λ⟨⟨f,O,e,_⟩,_⟩=>h f O e
   refine Rnd.two (λH=>?_) ?_
   ·rw[eU i H (by omega)];refine Rnd.ix (ag (show i-1<(aa.doubts n).length by omega)) (Rnd.cndN (by simp) λ_=>?_);exact .inr ⟨R,rfl⟩
   ·exact .inr ⟨R,rfl⟩
  |at_ j M e =>
   have I:decide ((j:Int)<0)=false:=decide_eq_false (by omega);have J:lG n (aa.doubts n)[i]<->(¬ (aa.table n)[j].2.2.1≠2/\¬ (aa.table n)[j].2.1≠(aa.doubts n)[i].2.1/\InP (aa.doubts n)[i].2.2.1 0 n.2.2.2.2.2.1/\¬ (aa.doubts n)[i].2.2.2=[]/\ByP n.1 (aa.doubts n)[i].2.2.2):=by
    constructor
    ·rintro⟨⟨f,O,e1,e2,e3⟩,h2,h3,h4⟩;have:=gR hT.2 O (BF M) (e1.trans e.symm);subst this;exact⟨BG.2 e2,BG.2 e3,h2,h3,h4⟩
    ·rintro⟨e2,e3,h2,h3,h4⟩;exact⟨⟨_,BF M,e,BG.1 e2,BG.1 e3⟩,h2,h3,h4⟩
   refine Rnd.two (λH=>?_) ?_
   ·rw[eU i H (by omega)];refine Rnd.ix (ag (show i-1<(aa.doubts n).length by omega)) (Rnd.cndN (by simp) λ_=>?_);simp only[I,cond_false];refine Rnd.iff ?_ J.symm;exact Rnd.ix (ag M) (Rnd.cndN (by simp) λ_=>Rnd.ix (ag M) (Rnd.cndN (by simp) λ_=>Rnd.nx (cB K _ _ _) λ_=>Rnd.cndN (oX _) λ_=>u))
   ·simp only[I,cond_false];refine Rnd.iff ?_ J.symm;exact Rnd.ix (ag M) (Rnd.cndN (by simp) λ_=>Rnd.ix (ag M) (Rnd.cndN (by simp) λ_=>Rnd.nx (cB K _ _ _) λ_=>Rnd.cndN (oX _) λ_=>u))
 ·intro rec;simp only[Q22.s0,aQ];rfl
 ·rw[iE,dC,gI];constructor
  ·rintro⟨h1,h2⟩;exact⟨λi z=>(h1 i z).2,λi z H=>by have:=(h1 i z).1 H;omega,h2⟩
  ·rintro⟨h1,h2,h3⟩;exact⟨λi z=>⟨λH=>by have:=h2 i z H;omega,h1 i z⟩,h3⟩
theorem zZ (K:Nat)(n:aa)(Z:NB n)(S:List af)(hS:S.length=(aa.doubts n).length)(hK:1048577<K):Ret (Q56.l1 K (n,()) (S,0))
  (∀ i (u:i<(aa.doubts n).length),(aa.doubts n)[i].1=(S[i]'(by omega)).1/\(aa.doubts n)[i].2.1=(S[i]'(by omega)).2.1/\InP (aa.doubts n)[i].2.2.1 0 n.2.2.2.2.2.1/\(aa.doubts n)[i].2.2.2≠[]/\ByP n.1 (aa.doubts n)[i].2.2.2):=by
 have hl:=Z.doubts;have I:=mb (step:=λrec a=>Q56.s1 K (n,()) (Q56.l2 K (n,()) rec) rec a) (aa.doubts n).length (λi=>(S,(i:Int)))
  (λi=>∀ u:i<(aa.doubts n).length,¬ (aa.doubts n)[i].1≠(S[i]'(by omega)).1/\¬ (aa.doubts n)[i].2.1≠(S[i]'(by omega)).2.1/\InP (aa.doubts n)[i].2.2.1 0 n.2.2.2.2.2.1/\¬ (aa.doubts n)[i].2.2.2=[]/\ByP n.1 (aa.doubts n)[i].2.2.2)
  (rb true) (rb false) ?_ ?_ (aa.doubts n).length K 0 (by omega) (by omega)
 ·rcases I with ⟨R,J⟩|⟨R,J⟩
  ·refine⟨true,J,iff_of_true rfl λi u=>?_⟩;obtain⟨M,X,O⟩:=R i (BL _) u u;exact⟨BG.1 M,BG.1 X,O⟩
  ·refine⟨false,J,iff_of_false (by simp) λh=>R λi _ u _=>?_⟩;obtain⟨M,X,O⟩:=h i u;exact⟨BG.2 M,BG.2 X,O⟩
 ·intro rec i u;have Y:=Z.by_ _ (BF u);have H:Rnd (Q56.l2 K (n,()) rec (S,(i:Int),(aa.doubts n)[i].2.2.2,(BD (aa.doubts n)[i].2.2.2:Int),0,(aa.doubts n)[i].1,(aa.doubts n)[i].2.1,(aa.doubts n)[i].2.2.1,(aa.doubts n)[i].2.2.2)) (ByP n.1 (aa.doubts n)[i].2.2.2) (rec (S,wr .i64 ((i:Int)+1))):=by
   generalize (aa.doubts n)[i]=d at Y;refine (oQ d.2.2.2 (step:=λr a=>Q56.s2 K (n,()) rec r a) (λk=>(S,(i:Int),d.2.2.2,(BD d.2.2.2:Int),(k:Int),d.1,d.2.1,d.2.2.1,d.2.2.2))
    (λk z=>(InP d.2.2.2[k] 0 7/\ao d.2.2.2[k]=ao n.1)/\(0<k->¬ d.2.2.2[k]<=d.2.2.2[k-1]'(by omega))/\True) Y ?_ ?_ hK).iff ?_
   ·intro r k z;simp only[Q56.s2,zcp4];rw[decide_eq_true (by omega:(k:Int)<(BD d.2.2.2:Int)),ar k (by omega)];simp only[cond_true];refine Rnd.ix (ag z) (Rnd.nx (xd K n _) λ_=>Rnd.two (λh0=>?_) Rnd.end_);rw[eU k h0 (by omega)];exact Rnd.ix (ag (show k-1<d.2.2.2.length by omega)) (Rnd.cndN (by simp) λ_=>Rnd.end_)
   ·intro r;simp only[Q56.s2,zcp4,aQ];rfl
   ·rw[xe];constructor
    ·intro h k z;exact⟨(h k z).1,(h k z).2.1⟩
    ·intro h k z;exact⟨(h k z).1,(h k z).2,trivial⟩
  have y:i<S.length:=by omega
  have hr:Rnd (Q56.s1 K (n,()) (Q56.l2 K (n,()) rec) rec (S,(i:Int)))
    (¬ (aa.doubts n)[i].1≠S[i].1/\¬ (aa.doubts n)[i].2.1≠S[i].2.1/\InP (aa.doubts n)[i].2.2.1 0 n.2.2.2.2.2.1/\¬ (aa.doubts n)[i].2.2.2=[]/\ByP n.1 (aa.doubts n)[i].2.2.2) (rec (S,((i+1:Nat):Int))):=by
   rw[<- ar i (by omega)];simp only[Q56.s1];rw[decide_eq_true (show ((i:Int)<(BD (aa.doubts n):Int)) by omega),Int.toNat_natCast];simp only[cond_true];exact Rnd.ix (ag u) (Rnd.ix (ag y) (Rnd.ix (ag y) (Rnd.cndN (by simp) λ_=>Rnd.ix (ag y) (Rnd.ix (ag y) (Rnd.cndN (by simp) λ_=>Rnd.nx (fw K _ _ _) λ_=>Rnd.cndN (oX _) λ_=>H)))))
  exact hr.imp (λh=>⟨λ_=>h.1,h.2⟩) (λh=>⟨λJ=>h.1 (J u),h.2⟩)
 ·intro rec;simp only[Q56.s1,aQ];rfl
theorem yG (K:Nat)(n:aa)(hn:NB n)(hT:ax (aa.table n))(hK:1048577<K):Ret (Q56.f K (n,())) (iE n):=by
 have hl:=hn.table;have a1:=hn.doubts;have Z:∀ (d k i:Nat),i+d=(aa.table n).length->d<k->ae (λrec a=>Q56.s0 K (n,()) (Q56.l1 K (n,())) rec a) k (aU ((aa.table n).take i),(i:Int)) =
   (bif (BD (aa.doubts n):Int) != (BD (aU (aa.table n)):Int) then rb false else Q56.l1 K (n,()) (aU (aa.table n),0)):=by
  intro d;induction d with
  |zero =>
   intro k i y hk;obtain⟨k,rfl⟩:∃ k',k=k'+1:=⟨k-1,by omega⟩;show Q56.s0 K (n,()) _ _ _=_;simp only[Q56.s0];rw[decide_eq_false (show ¬ ((i:Int)<(BD (aa.table n):Int)) by omega),BR (by omega)];rfl
  |succ d J =>
   intro k i y hk;obtain⟨k,rfl⟩:∃ k',k=k'+1:=⟨k-1,by omega⟩;have J:=J k (i+1) (by omega) (by omega);have O:i<(aa.table n).length:=by omega
   show Q56.s0 K (n,()) _ _ _=_;simp only[Q56.s0];rw[decide_eq_true (show ((i:Int)<(BD (aa.table n):Int)) by omega),ag O,ar i (by omega)];simp only[cond_true,BE];have e:aU ((aa.table n).take (i+1))=aU ((aa.table n).take i)++(if (aa.table n)[i].2.2.1==2 then [(aa.table n)[i]] else []):=by
    rw[aU,BV,BI O,List.filter_append];simp[aU,BP]
   cases hb:((aa.table n)[i].2.2.1==2) with
   |true =>
    rw[hb]at e;simp only[if_true]at e;simp only[cond_true];have a2:(aU ((aa.table n).take i)).length<=i:=Nat.le_trans (List.length_filter_le _ _) (by simp;omega);have hs:decide ((BD (aU ((aa.table n).take i))+BD [(aa.table n)[i]])*32<=ak)=true:=decide_eq_true (by simp only[ak,BS];omega);rw[hs];rw[e]at J;exact J
   |false =>
    rw[hb]at e;simp only[BK,if_false,List.append_nil]at e;rw[e]at J;exact J
 have h0:Q56.f K (n,())=_:=Z (aa.table n).length K 0 (by omega) (by omega);rw[h0];have z:∀ f∈aU (aa.table n),f∈aa.table n/\f.2.2.1=2:=λf H=>by
  rw[aU,BY]at H;exact⟨H.1,by simpa using H.2⟩
 have u:Asc (λf:af=>f.1) (aU (aa.table n)):=List.Pairwise.filter _ hT.2;by_cases r:(aU (aa.table n)).length=(aa.doubts n).length
 ·have:((BD (aa.doubts n):Int) != (BD (aU (aa.table n)):Int))=false:=by simp[r]
  rw[this];refine (zZ K n hn _ r hK).iff ⟨λh=>⟨?_,?_,r⟩,λ⟨h1,h2,_⟩ i y=>?_⟩
  ·rw[dC];intro i y;obtain⟨R,h4,Y,X,h7⟩:=h i y;obtain⟨h8,h9⟩:=z _ (BF (show i<(aU (aa.table n)).length by omega));exact⟨⟨_,h8,R.symm,h9,h4.symm⟩,Y,X,h7⟩
  ·rw[dn]at u ⊢;intro i j y hj a0;have:=u i j (by omega) (by omega) a0;rw[(h i y).1,(h j hj).1];exact this
  ·have I:=jg ((aa.doubts n).map (·.1)) ((aU (aa.table n)).map (·.1)) (by rw[BO];exact h2) (by rw[BO];exact u) (by
    intro x hx;obtain⟨d,hd,rfl⟩:=B3.1 hx;obtain⟨⟨f,H,e1,e2,_⟩,_⟩:=h1 d hd;exact B3.2 ⟨f,by rw[aU,BY];exact⟨H,by simpa using e2⟩,e1⟩)
   have I:=I.2 (by simp[r]);have M:i<(aU (aa.table n)).length:=by omega
   have e:(aa.doubts n)[i].1=(aU (aa.table n))[i].1:=by
    have R:((aa.doubts n).map (·.1))[i]?=((aU (aa.table n)).map (·.1))[i]?:=by rw[I]
    rw[BW,BW,BI y,BI M]at R;simpa using R
   obtain⟨⟨f,H,e1,e2,e3⟩,h4,Y,X⟩:=h1 _ (BF y);have:=gR hT.2 H (z _ (BF M)).1 (e1.trans e);subst this;exact⟨e,e3.symm,h4,Y,X⟩
 ·have:((BD (aa.doubts n):Int) != (BD (aU (aa.table n)):Int))=true:=by simp;omega
  rw[this];exact Ret.no (λh=>r h.2.2)
def sf (n:aa):Prop:=n.2.2.1=false/\n.2.2.2.2.1=0/\n.2.2.2.2.2.1=0/\n.2.2.2.2.2.2.1=0/\n.2.2.2.2.2.2.2.1=0 /\
 wr .i64 (wr .i64 (wr .i64 (wr .i64 ((BD (aa.table n):Int)+(BD (aa.cast n):Int))+(BD (aa.doubts n):Int))+(BD (aa.places n):Int))+(BD (aa.others n):Int))=0 /\
 aa.probe n=(0,0,0,false)/\aa.coord n=(0,0,0,0)
def UpP (n:aa):Prop:=ax (aa.table n)/\ce (aa.table n) (ao n.1)/\cL n/\(cR (aa.cast n)/\gV (aa.table n) (aa.cast n))/\cW n/\iE n/\cC (aa.coord n)/\ew n.1 (aa.places n)/\c8 n.1 (aa.others n)
def hX (n:aa):Prop:=InP n.1 0 7/\InP n.2.2.2.2.2.1 0 999999/\InP n.2.2.2.2.2.2.1 0 999999/\InP n.2.2.2.2.2.2.2.1 0 8/\InP n.2.2.2.2.1 0 999/\(if n.2.1=true then UpP n else sf n)
theorem yH (K:Nat)(n:aa)(u:NB n)(r:1048577<K):Ret (Q26.f K (n,())) (hX n):=by
 refine Ret.nx (cB K _ _ _) λ_=>Ret.nx (cB K _ _ _) λ_=>Ret.nx (cB K _ _ _) λ_=>Ret.nx (cB K _ _ _) λ_=>Ret.nx (cB K _ _ _) λ_=>?_
 dsimp only;cases M:n.2.1 with
 |false =>
  simp only[BT,cond_true,BK,if_false,sf];refine Ret.cnd (by simp) λ_=>Ret.cnd (by simp) λ_=>Ret.cnd (by simp) λ_=>Ret.cnd (by simp) λ_=>Ret.cnd (by simp) λ_=>Ret.cnd (by simp) λ_=>?_
  refine Ret.iff (Ret.cnd (P:=(aa.probe n).1=0) (by simp) λ_=>Ret.cnd (P:=(aa.probe n).2.1=0) (by simp) λ_=>Ret.cnd (P:=(aa.probe n).2.2.1=0) (by simp) λ_=>Ret.cnd (P:=(aa.probe n).2.2.2=false) (by simp) λ_ =>
   Ret.cnd (P:=(aa.coord n).1=0) (by simp) λ_=>Ret.cnd (P:=(aa.coord n).2.1=0) (by simp) λ_=>Ret.cnd (P:=(aa.coord n).2.2.1=0) (by simp) λ_=>Ret.of (P:=(aa.coord n).2.2.2=0) (by simp)) ?_
  generalize aa.probe n=p;generalize aa.coord n=c;obtain⟨X,Y,O,H⟩:=p;obtain⟨R,z,I,J⟩:=c;simp only[BU];constructor
  ·rintro⟨h1,h2,h3,h4,h5,h6,h7,h8⟩;exact⟨⟨h1,h2,h3,h4⟩,h5,h6,h7,h8⟩
  ·rintro⟨⟨h1,h2,h3,h4⟩,h5,h6,h7,h8⟩;exact⟨h1,h2,h3,h4,h5,h6,h7,h8⟩
 |true =>
  simp only[BH,cond_false,if_true,UpP];exact Ret.px (gp K _ u.table r) λy=>Ret.vl (eG K _) (Ret.px (gq K _ _ u.table r) λ_=>Ret.px (AS K n u y r) λ_=>Ret.px (ug K n u y r) λ_=>Ret.px (zV K n u r) λ_ =>
   Ret.px (yF K n u y r) λ_=>Ret.px (iD K _) λ_=>Ret.px (yB K n u r) λ_=>(yD K n u r).id)
theorem AV (K:Nat)(n:aa):Ret (Q29.f K (n,())) (sf n):=by
 simp only[Q29.f,gW,pB,sf];exact Ret.cnd (by simp) λ_=>Ret.cnd (by simp) λ_=>Ret.cnd (by simp) λ_=>Ret.cnd (by simp) λ_=>Ret.cnd (by simp) λ_=>Ret.cnd (by simp) λ_=>Ret.cnd (by simp) λ_=>Ret.dec
theorem yI (K:Nat)(n:aa)(u:NB n)(r:1048577<K):Ret (Q64.f K (n,())) (hX n):=by
 refine Ret.nx (oS K _) λ_=>Ret.nx (fw K _ _ _) λ_=>Ret.nx (fw K _ _ _) λ_=>Ret.nx (fw K _ _ _) λ_=>Ret.nx (fw K _ _ _) λ_=>?_
 dsimp only;cases z:n.2.1 with
 |false =>
  simp only[BT,cond_true,BK,if_false];exact (AV K n).id
 |true =>
  simp only[BH,cond_false,if_true,UpP];refine Ret.iff (Ret.px (qt K n u r) λy=>Ret.px (zW K n u y.1 r) λ_=>Ret.px (yG K n u y.1 r) λ_=>Ret.px (qu K _) λ_=>Ret.px (yC K n u r) λ_=>(yE K n u r).id) ?_;constructor
  ·rintro⟨⟨h1,h2,h3,h4,h5⟩,h6,h7,h8,h9,h10⟩;exact⟨h1,h2,h3,⟨h4,h5⟩,h6,h7,h8,h9,h10⟩
  ·rintro⟨h1,h2,h3,⟨h4,h5⟩,h6,h7,h8,h9,h10⟩;exact⟨⟨h1,h2,h3,h4,h5⟩,h6,h7,h8,h9,h10⟩
theorem eV {A R:Type}{step:(A->Option R)->A->Option R}(n:Nat)(S:Nat->A)(rt:Option R)(h:∀ (rec:A->Option R) (i:Nat),i<n->step rec (S i)=rec (S (i+1)))(r:∀ rec:A->Option R,step rec (S n)=rt)
  {k:Nat} (y:n<k):ae step k (S 0)=rt:=by
 rcases mb (step:=step) n S (λ_=>True) rt none (λrec i z=>.inl ⟨trivial,h rec i z⟩) r n k 0 (by omega) y with ⟨_,u⟩|⟨u,_⟩
 ·exact u
 ·exact absurd (λ_ _ _=>trivial) u
def Szd (o:Option ((Int×Unit)×Unit))(left:Int)(Q:Prop):Prop:=∃ r,o=some ((r,()),())/\(r<0\/(0<=r/\r<=left/\Q))
theorem Szd.sub (left:Int)(n:Nat)(M:0<=left)(J:left<=1048576)(I:n<=9223372036854775807){g:Option ((Int×Unit)×Unit)}{Q:Prop}(y:wr .i64 (left-(n:Int))=left-n->(n:Int)<=left->Szd g (left-n) Q) :
  Szd (bif decide (wr .i64 (left-(n:Int))<0) then some ((-1,()),()) else g) left (n<=1048576/\Q):=by
 have e:wr .i64 (left-(n:Int))=left-n:=aE (by omega) (by omega);by_cases h:left-(n:Int)<0
 ·rw[e,decide_eq_true h];exact⟨-1,rfl,.inl (by decide)⟩
 ·rw[decide_eq_false (by rw[e];exact h)];obtain⟨r,z,H⟩:=y e (by omega);exact⟨r,z,H.imp id λu=>⟨u.1,by omega,by omega,u.2.2⟩⟩
theorem Szd.bind {o:Option ((Int×Unit)×Unit)}{left:Int}{P Q:Prop}{G:(Int×Unit)×Unit->Option ((Int×Unit)×Unit)}(h:Szd o left P)(J:∀ r,0<=r->r<=left->P->Szd (G ((r,()),())) r Q) :
  Szd (o.bind λy=>bif decide (y.1.1<0) then some ((-1,()),()) else G y) left (P/\Q):=by
 obtain⟨r,R,u⟩:=h;rw[R,BE];rcases u with u|⟨u,O,z⟩
 ·rw[decide_eq_true u];exact⟨-1,rfl,.inl (by decide)⟩
 ·rw[show decide (r<0)=false from decide_eq_false (by omega)];obtain⟨X,M,I⟩:=J r u O z;exact⟨X,M,I.imp id λH=>⟨H.1,by omega,z,H.2.2⟩⟩
theorem Szd.ret (r:Int)(h:0<=r):Szd (some ((r,()),())) r True:=⟨r,rfl,.inr ⟨h,Int.le_refl _,trivial⟩⟩
theorem Szd.iff {o:Option ((Int×Unit)×Unit)}{left:Int}{P Q:Prop}(h:Szd o left P)(e:P->Q):Szd o left Q:=by
 obtain⟨r,z,y⟩:=h;exact⟨r,z,y.imp id λu=>⟨u.1,u.2.1,e u.2.2⟩⟩
end Go.Proofs.YtaegajachoklkaaGreatEv
