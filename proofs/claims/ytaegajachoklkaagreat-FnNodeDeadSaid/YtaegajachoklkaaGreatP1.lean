/- What is ok of facts, tables, casts: the program and the specification say the same. -/
import Derived.Test.YtaegajachoklkaaGreatFns
import Derived.Test.YtaegajachoklkaaGreatP0
set_option linter.unusedVariables false
set_option linter.unusedSimpArgs false
open Bool renaming not_true->BO,false_eq_true->BR,not_false->B3
open Classical renaming not_not->BN
open Int renaming natCast_nonneg->BT
open List renaming length->BK,getElem_mem->BM,getElem?_eq_getElem->BP,getElem_of_mem->BQ,drop_eq_getElem_cons->BU,pairwise_map->BV,filter_cons->BW,drop_of_length_le->BX,take_of_length_le->BY,length_singleton->BZ,take_add_one->B5,getElem?_map->B6,mem_filter->B8,drop_zero->B9,mem_map->CA
open Nat renaming zero_le->BS,le_refl->B7
open Option renaming bind_some->BL
open Prod.mk renaming injEq->B4
namespace Go.Proofs.YtaegajachoklkaaGreatEv
open Go
abbrev InP (n r u:Int):Prop:=r<=n/\n<=u
theorem fA (K:Nat)(n u r:Int):Ret (Q27.f K (n,u,r,())) (InP n u r):=by
 simp only[Q27.f];exact Ret.cnd (by simp) λ_=>Ret.dec
theorem cC (K:Nat)(n u r:Int):Ret (Q12.f K (n,u,r,())) (InP n u r):=by
 simp only[Q12.f];exact Ret.cnd (by simp) λ_=>Ret.dec
theorem Ret.id {o:Option RB}{P:Prop}(h:Ret o P):Ret (o.bind λy=>some ((y.1.1,()),())) P:=by
 obtain⟨b,u,r⟩:=h;exact⟨b,by rw[u];rfl,r⟩
theorem Ret.neg {o:Option RB}{P:Prop}(h:Ret o P):Ret (o.bind λy=>some ((!y.1.1,()),())) (¬ P):=by
 obtain⟨b,r,u⟩:=h;exact⟨!b,by rw[r];rfl,by cases b <;> simp_all⟩
def bA (f:ag):Prop:=InP f.1 0 7/\InP f.2.1 0 999/\InP f.2.2.1 1 4
theorem oS (K:Nat)(n:Int):Ret (Q28.f K (n,())) (InP n 0 7):=(fA K n 0 7).id
theorem mf (K:Nat)(f:ag):Ret (Q30.f K (f,())) (bA f) :=
 Ret.and (oS K f.1) (λ_=>Ret.and (fA K f.2.1 0 999) (λ_=>(fA K f.2.2.1 1 4).id) rfl) rfl
theorem oT (K:Nat)(f:ag):Ret (Q13.f K (f,())) (bA f) :=
 Ret.and (cC K f.1 0 7) (λ_=>Ret.and (cC K f.2.1 0 999) (λ_=>(cC K f.2.2.1 1 4).id) rfl) rfl
def ax (t:List ag):Prop:=(∀ f∈t,bA f)/\Asc (λf:ag=>f.1) t
theorem sJ {t:List ag}:ax t<->∀ j,j<t.length->∃ h:j<t.length,bA t[j]/\(0<j->(t[j-1]'(by omega)).1<t[j].1):=by
 unfold ax;rw[dD,gM];constructor
 ·rintro⟨h1,h2⟩ j hj;exact⟨hj,h1 j hj,λu=>h2 j hj u⟩
 ·intro h;exact⟨λi r=>(h i r).2.1,λi r u=>(h i r).2.2 u⟩
theorem fe {P:Prop}:(P/\True)<->P:=by simp
theorem gr (K:Nat)(t:List ag)(J:t.length<=1048576)(M:1048577<K):Ret (Q14.f K (t,())) (ax t):=by
 refine Ret.iff (qs (step:=λrec a=>Q14.s0 K (t,()) rec a) t.length (λi=>(i:Int)) (λj=>∃ h:j<t.length,bA t[j]/\(0<j->(t[j-1]'(by omega)).1<t[j].1)) (Q:=True) (rt:=rb true) ?_ ?_ (by omega) (λ_=>Ret.yes trivial)) (fe.trans sJ.symm)
 ·intro rec i y;simp only[Q14.s0];rw[decide_eq_true (by omega:(i:Int)<(BK t:Int)),af y,ar i (by omega)];simp only[cond_true,BL];obtain⟨b,H,u⟩:=oT K t[i];rw[H];simp only[BL];cases b with
  |false=>exact .inr ⟨λ⟨_,r,_⟩=>by simpa using u.2 r,rfl⟩
  |true =>
   simp only[BO,cond_false];by_cases z:(i:Int)>0
   ·rw[decide_eq_true z,eX i (by omega) (by omega),af (by omega:i-1<t.length)];simp only[cond_true,BL];by_cases r:(t[i-1]'(by omega)).1>=t[i].1
    ·rw[decide_eq_true r];exact .inr ⟨λ⟨_,_,I⟩=>by have:=I (by omega);omega,rfl⟩
    ·rw[decide_eq_false r];exact .inl ⟨⟨y,u.1 rfl,λ_=>by omega⟩,rfl⟩
   ·rw[decide_eq_false z];exact .inl ⟨⟨y,u.1 rfl,λ_=>by omega⟩,rfl⟩
 ·intro rec;simp only[Q14.s0];rw[decide_eq_false (by omega:¬ ((t.length:Int)<(BK t:Int)))];rfl
theorem jI (K:Nat)(t:List ag)(J:t.length<=1048576)(M:1048577<K):Ret (Q31.f K (t,())) (ax t):=by
 refine Ret.iff (qs (step:=λrec a=>Q31.s0 K (t,()) rec a) t.length (λi=>(i:Int)) (λj=>∃ h:j<t.length,bA t[j]/\(0<j->(t[j-1]'(by omega)).1<t[j].1)) (Q:=True) (rt:=rb true) ?_ ?_ (by omega) (λ_=>Ret.yes trivial)) (fe.trans sJ.symm)
 ·intro rec i y;simp only[Q31.s0];rw[decide_eq_true (by omega:(i:Int)<(BK t:Int)),af y,ar i (by omega)];simp only[cond_true,BL];obtain⟨b,H,u⟩:=mf K t[i];rw[H];simp only[BL];cases b with
  |false=>exact .inr ⟨λ⟨_,r,_⟩=>by simpa using u.2 r,rfl⟩
  |true =>
   simp only[BO,cond_false];by_cases z:(i:Int)>0
   ·rw[decide_eq_true z,eX i (by omega) (by omega),af (by omega:i-1<t.length)];simp only[cond_true,BL];by_cases r:t[i].1<=(t[i-1]'(by omega)).1
    ·rw[decide_eq_true r];exact .inr ⟨λ⟨_,_,I⟩=>by have:=I (by omega);omega,rfl⟩
    ·rw[decide_eq_false r];exact .inl ⟨⟨y,u.1 rfl,λ_=>by omega⟩,rfl⟩
   ·rw[decide_eq_false z];exact .inl ⟨⟨y,u.1 rfl,λ_=>by omega⟩,rfl⟩
 ·intro rec;simp only[Q31.s0];rw[decide_eq_false (by omega:¬ ((t.length:Int)<(BK t:Int)))];rfl
inductive vI (t:List ag) (node:Int):Option Nat->Prop where
 |at_ (i:Nat) (h:i<t.length) (e:t[i].1=node):vI t node (some i)
 |no (h:∀ f∈t,f.1≠node):vI t node none
theorem fC (K:Nat)(t:List ag)(r:Int)(J:t.length<=1048576)(M:1048577<K) :
  ∃ o,vI t r o/\Q16.f K (t,r,())=some (((match o with|some i=>((i:Nat):Int)|none=>-1),()),()):=by
 have:=b7 (step:=λrec a=>Q16.s0 K (t,r,()) rec a) t.length (λi=>(i:Int)) (λj=>∃ h:j<t.length,t[j].1=r) (some ((-1,()),())) (λj=>some ((((j:Nat):Int),()),())) ?_ ?_ t.length K 0 (by omega) (by omega)
 ·rcases this with ⟨y,z⟩|⟨j,_,y,⟨H,I⟩,_,z⟩
  ·refine⟨none,.no ?_,z⟩;rw[dD];exact λi u e=>y i (BS _) u ⟨u,e⟩
  ·exact⟨some j,.at_ j H I,z⟩
 ·intro rec i u;simp only[Q16.s0];rw[decide_eq_true (by omega:(i:Int)<(BK t:Int)),af u,ar i (by omega)];simp only[cond_true,BL];by_cases h:t[i].1=r
  ·right;refine⟨⟨u,h⟩,?_⟩;have:(t[i].1==r)=true:=by simpa using h
   rw[this];rfl
  ·left;refine⟨λ⟨_,y⟩=>h y,?_⟩;have:(t[i].1==r)=false:=by simpa using h
   rw[this];rfl
 ·intro rec;simp only[Q16.s0];rw[decide_eq_false (by omega:¬ ((t.length:Int)<(BK t:Int)))];rfl
def fD (a b:Int):Int:=if a<b then -1 else if a>b then 1 else 0
theorem nQ (K:Nat)(a b:Int):Q34.f K (a,b,())=some ((fD a b,()),()):=by
 have y:∀ x:Int,Q33.f K (x,())=rb false:=λx=>by simp[Q33.f]
 simp only[Q34.f,y,BL,cond_false,fD];by_cases u:a<b
 ·rw[decide_eq_true u,if_pos u];rfl
 ·rw[decide_eq_false u,if_neg u];by_cases r:a>b
  ·rw[decide_eq_true r,if_pos r];rfl
  ·rw[decide_eq_false r,if_neg r];rfl
theorem sK (a b:Int):fD a b<0<->a<b:=by
 unfold fD;by_cases r:a<b
 ·simp[r]
 ·by_cases u:a>b <;> simp[r,u]
theorem uQ (a b:Int):fD a b>0<->a>b:=by
 unfold fD;by_cases r:a<b
 ·simp[r];omega
 ·by_cases u:a>b <;> simp[r,u]
theorem im (a b:Int):fD a b=0<->a=b:=by
 unfold fD;by_cases r:a<b
 ·simp[r];omega
 ·by_cases u:a>b <;> simp[r,u] <;> omega
structure Cut (t:List ag) (node:Int) (m:Nat):Prop where
 le:m<=t.length
 lo:∀ i,(h:i<t.length)->i<m->t[i].1<node
 hi:∀ i,(h:i<t.length)->m<=i->node<=t[i].1
theorem sL (K:Nat)(t:List ag)(r:Int)(ht:t.length<=1048576)(M:Asc (λf:ag=>f.1) t)(hK:1048577<K) :
  ∃ m,Cut t r m/\Q36.f K (t,r,())=some ((((m:Nat):Int),decide (∃ h:m<t.length,t[m].1=r),()),()):=by
 let ks:Nat->Int:=λi=>if h:i<t.length then t[i].1 else 0
 have u:∀ i (h:i<t.length),ks i=t[i].1:=λi h=>by simp[ks,h]
 let H:Nat->Option ((Int×Bool×Unit)×Unit):=λm=>some ((((m:Nat):Int),decide (∃ h:m<t.length,t[m].1=r),()),())
 have X:∀ f:ag,((Q35.f K (f,r,())).map λy=>y.1.1)=some (fD f.1 r):=λf=>by
  simp only[Q35.f];rw[nQ];rfl
 have:=xc (step:=λrec a=>Q32.s0 K (t,r,(λI=>(Q35.f K (I.1,I.2.1,())).map λy=>y.1.1),()) rec a) (ks:=ks) (n:=t.length) (t:=r) H ht
  (λi j O Z=>by
   rw[u i (by omega),u j Z];exact dn.1 M i j (by omega) Z O) ?_ ?_ t.length K 0 t.length (by omega) (BS _) (B7 _) (by omega) (λi J=>by omega) (λi J hn=>by omega)
 ·obtain⟨m,z,R,h3,h4⟩:=this;refine⟨m,⟨z,λi h J=>by rw[<- u i h];exact R i J,λi h J=>by rw[<- u i h];exact h3 i J h⟩,?_⟩;simp only[Q36.f];have e:Q32.f K (t,r,(λI=>(Q35.f K (I.1,I.2.1,())).map λy=>y.1.1),())=H m:=h4;rw[e];rfl
 ·intro rec a b a0 hb;have Y:(a+b) / 2<t.length:=by omega
  simp only[Q32.s0];rw[decide_eq_true (by omega:(a:Int)<(b:Int)),uP (by omega)];simp only[cond_true];rw[af Y];simp only[BL,X];rw[u _ Y,ar _ (by omega)];by_cases h:t[(a+b) / 2].1<r
  ·rw[if_pos h,decide_eq_true ((sK _ _).2 h)];rfl
  ·rw[if_neg h,decide_eq_false (λz=>h ((sK _ _).1 z))];rfl
 ·intro rec a ha;simp only[Q32.s0];rw[decide_eq_false (by omega)];simp only[cond_false];by_cases h:a<t.length
  ·rw[decide_eq_true (by omega:(a:Int)<(BK t:Int)),af h];simp only[cond_true,BL,X,H];congr 3;by_cases z:t[a].1=r
   ·have:(fD t[a].1 r==0)=true:=by simpa using (im t[a].1 r).2 z
    rw[this,decide_eq_true ⟨h,z⟩]
   ·have:(fD t[a].1 r==0)=false:=by
     rw[beq_eq_false_iff_ne];exact λe=>z ((im _ _).1 e)
    rw[this,decide_eq_false (λ⟨_,R⟩=>z R)]
  ·rw[decide_eq_false (by omega)];simp only[cond_false,H];rw[decide_eq_false (λ⟨z,_⟩=>h z)]
def ao (n:Int):Int:=wr .i64 (Int.tdiv n 4)
theorem eJ (K:Nat)(n:Int):Q11.f K (n,())=some ((ao n,()),()):=rfl
theorem xd (K:Nat)(n:Int):Q40.f K (n,())=some ((ao n,()),()):=rfl
theorem qt (K:Nat)(n:aa):Q43.f K (n,())=some ((ao n.1,()),()):=rfl
abbrev aa.table (n:aa):List ag:=n.2.2.2.2.2.2.2.2.1
abbrev aa.cast (n:aa):List aM:=n.2.2.2.2.2.2.2.2.2.1
abbrev aa.probe (n:aa):ag:=n.2.2.2.2.2.2.2.2.2.2.1
abbrev aa.doubts (n:aa):List bB:=n.2.2.2.2.2.2.2.2.2.2.2.1
abbrev aa.coord (n:aa):dw:=n.2.2.2.2.2.2.2.2.2.2.2.2.1
abbrev aa.places (n:aa):List dI:=n.2.2.2.2.2.2.2.2.2.2.2.2.2.1
abbrev aa.others (n:aa):List cU:=n.2.2.2.2.2.2.2.2.2.2.2.2.2.2
structure NB (n:aa):Prop where
 table:(aa.table n).length<=1048576
 cast:(aa.cast n).length<=1048576
 doubts:(aa.doubts n).length<=1048576
 by_:∀ d∈aa.doubts n,d.2.2.2.length<=1048576
 places:(aa.places n).length<=1048576
 trips:∀ p∈aa.places n,p.2.2.length<=1048576
 others:(aa.others n).length<=1048576
 facts:∀ x∈aa.others n,x.2.length<=1048576
def cf (t:List ag)(s:Int):Prop:=∀ f∈t,ao f.1=s
theorem gu (K:Nat)(t:List ag)(s:Int)(y:t.length<=1048576)(u:1048577<K):Ret (Q15.f K (t,s,())) (cf t s):=by
 refine (gq t (step:=λrec a=>Q15.s0 K (t,s,()) rec a) (λi r=>¬ ao t[i].1≠s) y ?_ ?_ u (λ_=>Ret.yes trivial)).iff (fe.trans ?_)
 ·intro rec i r;simp only[Q15.s0];rw[decide_eq_true (by omega:(i:Int)<(BK t:Int))];exact Rnd.ix (af r) ((Rnd.cndN (P:=ao t[i].1≠s) (by simp[ao]) (λ_=>Rnd.end_)).iff (by simp))
 ·intro rec;simp only[Q15.s0];rw[decide_eq_false (by omega:¬ ((t.length:Int)<(BK t:Int)))];rfl
 ·rw[cf,dD];exact⟨λh i r=>BN.1 (h i r),λh i r=>BN.2 (h i r)⟩
theorem xe (K:Nat)(t:List ag)(y:ag×Unit->Option Bool)(p:ag->Prop)(R:t.length<=1048576)(X:1048577<K)(hφ:∀ f∈t,∃ b,y (f,())=some b/\(b=true<->p f)) :
  Ret (Q39.f K (t,y,())) (∃ f∈t,p f):=by
 have:=b7 (step:=λrec a=>Q38.s0 K (t,y,()) rec a) t.length (λi=>(i:Int)) (λj=>∃ h:j<t.length,p t[j]) (some ((-1,()),())) (λj=>some ((((j:Nat):Int),()),())) ?_ ?_ t.length K 0 (by omega) (by omega)
 ·simp only[Q39.f];rcases this with ⟨z,r⟩|⟨j,_,z,⟨J,M⟩,_,r⟩
  ·have e:Q38.f K (t,y,())=some ((-1,()),()):=r;rw[e];refine Ret.of ?_;simp only[ge_iff_le,decide_eq_true_eq];refine⟨λh=>absurd h (by decide),λ⟨f,I,H⟩=>?_⟩;obtain⟨i,u,O⟩:=BQ I;exact absurd ⟨u,O ▸ H⟩ (z i (BS _) u)
  ·have e:Q38.f K (t,y,())=some ((((j:Nat):Int),()),()):=r;rw[e];refine Ret.of ?_;simp only[ge_iff_le,decide_eq_true_eq];exact⟨λ_=>⟨t[j],BM J,M⟩,λ_=>BT j⟩
 ·intro rec i u;simp only[Q38.s0];rw[decide_eq_true (by omega:(i:Int)<(BK t:Int)),af u,ar i (by omega)];simp only[cond_true,BL];obtain⟨b,z,r⟩:=hφ t[i] (BM u);rw[z];simp only[BL];cases b with
  |true=>exact .inr ⟨⟨u,r.1 rfl⟩,rfl⟩
  |false=>exact .inl ⟨λ⟨_,h⟩=>by simpa using r.2 h,rfl⟩
 ·intro rec;simp only[Q38.s0];rw[decide_eq_false (by omega:¬ ((t.length:Int)<(BK t:Int)))];rfl
theorem qZ (K:Nat)(t:List aM)(y:aM×Unit->Option Bool)(p:aM->Prop)(R:t.length<=1048576)(X:1048577<K)(hφ:∀ f∈t,∃ b,y (f,())=some b/\(b=true<->p f)) :
  Ret (Q45.f K (t,y,())) (∃ f∈t,p f):=by
 have:=b7 (step:=λrec a=>Q44.s0 K (t,y,()) rec a) t.length (λi=>(i:Int)) (λj=>∃ h:j<t.length,p t[j]) (some ((-1,()),())) (λj=>some ((((j:Nat):Int),()),())) ?_ ?_ t.length K 0 (by omega) (by omega)
 ·simp only[Q45.f];rcases this with ⟨z,r⟩|⟨j,_,z,⟨J,M⟩,_,r⟩
  ·have e:Q44.f K (t,y,())=some ((-1,()),()):=r;rw[e];refine Ret.of ?_;simp only[ge_iff_le,decide_eq_true_eq];refine⟨λh=>absurd h (by decide),λ⟨f,I,H⟩=>?_⟩;obtain⟨i,u,O⟩:=BQ I;exact absurd ⟨u,O ▸ H⟩ (z i (BS _) u)
  ·have e:Q44.f K (t,y,())=some ((((j:Nat):Int),()),()):=r;rw[e];refine Ret.of ?_;simp only[ge_iff_le,decide_eq_true_eq];exact⟨λ_=>⟨t[j],BM J,M⟩,λ_=>BT j⟩
 ·intro rec i u;simp only[Q44.s0];rw[decide_eq_true (by omega:(i:Int)<(BK t:Int)),af u,ar i (by omega)];simp only[cond_true,BL];obtain⟨b,z,r⟩:=hφ t[i] (BM u);rw[z];simp only[BL];cases b with
  |true=>exact .inr ⟨⟨u,r.1 rfl⟩,rfl⟩
  |false=>exact .inl ⟨λ⟨_,h⟩=>by simpa using r.2 h,rfl⟩
 ·intro rec;simp only[Q44.s0];rw[decide_eq_false (by omega:¬ ((t.length:Int)<(BK t:Int)))];rfl
theorem yC (K:Nat)(t:List Int)(y:Int×Unit->Option Bool)(p:Int->Prop)(R:t.length<=1048576)(X:1048577<K)(hφ:∀ f∈t,∃ b,y (f,())=some b/\(b=true<->p f)) :
  Ret (Q61.f K (t,y,())) (∃ f∈t,p f):=by
 have:=b7 (step:=λrec a=>Q60.s0 K (t,y,()) rec a) t.length (λi=>(i:Int)) (λj=>∃ h:j<t.length,p t[j]) (some ((-1,()),())) (λj=>some ((((j:Nat):Int),()),())) ?_ ?_ t.length K 0 (by omega) (by omega)
 ·simp only[Q61.f];rcases this with ⟨z,r⟩|⟨j,_,z,⟨J,M⟩,_,r⟩
  ·have e:Q60.f K (t,y,())=some ((-1,()),()):=r;rw[e];refine Ret.of ?_;simp only[ge_iff_le,decide_eq_true_eq];refine⟨λh=>absurd h (by decide),λ⟨f,I,H⟩=>?_⟩;obtain⟨i,u,O⟩:=BQ I;exact absurd ⟨u,O ▸ H⟩ (z i (BS _) u)
  ·have e:Q60.f K (t,y,())=some ((((j:Nat):Int),()),()):=r;rw[e];refine Ret.of ?_;simp only[ge_iff_le,decide_eq_true_eq];exact⟨λ_=>⟨t[j],BM J,M⟩,λ_=>BT j⟩
 ·intro rec i u;simp only[Q60.s0];rw[decide_eq_true (by omega:(i:Int)<(BK t:Int)),af u,ar i (by omega)];simp only[cond_true,BL];obtain⟨b,z,r⟩:=hφ t[i] (BM u);rw[z];simp only[BL];cases b with
  |true=>exact .inr ⟨⟨u,r.1 rfl⟩,rfl⟩
  |false=>exact .inl ⟨λ⟨_,h⟩=>by simpa using r.2 h,rfl⟩
 ·intro rec;simp only[Q60.s0];rw[decide_eq_false (by omega:¬ ((t.length:Int)<(BK t:Int)))];rfl
theorem Ret.fn {o:Option RB}{P:Prop}(h:Ret o P):∃ b,(o.map λy=>y.1.1)=some b/\(b=true<->P):=by
 obtain⟨b,u,r⟩:=h;exact⟨b,by rw[u];rfl,r⟩
theorem oU (K:Nat)(t:List ag)(s:Int)(I:t.length<=1048576)(z:1048577<K):Ret (Q42.f K (t,s,())) (cf t s):=by
 refine (Ret.neg (xe K t (λH=>(Q41.f K (H.1,s,())).map λy=>y.1.1) (λf=>ao f.1≠s) I z (λf _=>?_))).iff ?_
 ·exact⟨_,rfl,by simp[ao]⟩
 ·exact⟨λh f r=>BN.1 λu=>h ⟨f,r,u⟩,λh ⟨f,r,u⟩=>u (h f r)⟩
theorem gv (K:Nat)(t:List ag)(r:Int)(H:t.length<=1048576)(M:1048577<K) :
  (¬ ax t/\Q37.f K (t,r,())=some (((0,(0,(0,false))),false,()),())) \/
  (ax t/\((∃ f∈t,f.1=r/\Q37.f K (t,r,())=some ((f,true,()),()))\/((∀ f∈t,f.1≠r)/\Q37.f K (t,r,())=some (((0,(0,(0,false))),false,()),())))):=by
 simp only[Q37.f];obtain⟨b,R,O⟩:=jI K t H M;rw[R];simp only[BL];cases b with
 |false=>exact .inl ⟨λh=>by simpa using O.2 h,rfl⟩
 |true =>
  have y:=O.1 rfl;obtain⟨m,I,X⟩:=sL K t r H y.2 M;refine .inr ⟨y,?_⟩;simp only[BO,cond_false,X,BL];by_cases h:∃ h:m<t.length,t[m].1=r
  ·rw[decide_eq_true h];obtain⟨u,J⟩:=h;left;refine⟨t[m],BM u,J,?_⟩;simp only[BO,cond_false];rw[af u];rfl
  ·rw[decide_eq_false h];right;refine⟨?_,rfl⟩;rw[dD];intro i z e;rcases Nat.lt_trichotomy i m with u|u|u
   ·have:=I.lo i z u;omega
   ·subst u;exact h ⟨z,e⟩
   ·have J:=I.hi m (by omega) (B7 _);have Y:=dn.1 y.2 m i (by omega) z u;omega
def bR (f g:ag):Prop:=if f.2.1≠g.2.1 then f.2.1>g.2.1 else if f.2.2.1≠g.2.2.1 then f.2.2.1>g.2.2.1 else f.2.2.2=true/\g.2.2.2=false
theorem sM (K:Nat)(f g:ag):Ret (Q19.f K (f,g,())) (bR f g):=by
 simp only[Q19.f,bR];by_cases r:f.2.1=g.2.1
 ·have e:(f.2.1 != g.2.1)=false:=by simpa using r
  rw[e,if_neg (by simpa using r)];by_cases u:f.2.2.1=g.2.2.1
  ·have e:(f.2.2.1 != g.2.2.1)=false:=by simpa using u
   rw[e,if_neg (by simpa using u)];exact (Ret.cnd (b:=f.2.2.2) Iff.rfl (λ_=>Ret.of (b:=!g.2.2.2) (by simp))).iff Iff.rfl
  ·have e:(f.2.2.1 != g.2.2.1)=true:=by simpa using u
   rw[e,if_pos u];exact Ret.dec
 ·have e:(f.2.1 != g.2.1)=true:=by simpa using r
  rw[e,if_pos r];exact Ret.dec
def orI:List Int->Int
 |[]=>0
 |x::r=>if x≠0 then x else orI r
theorem AX (K:Nat)(xs:List Int)(J:xs.length<=1048576)(M:1048577<K):Q49.f K (xs,())=some ((orI xs,()),()):=by
 have u:∀ (d k i:Nat),i+d=xs.length->d<k->ae (λrec a=>Q49.s0 K (xs,()) rec a) k (i:Int)=some ((orI (xs.drop i),()),()):=by
  intro d;induction d with
  |zero =>
   intro k i I H;obtain⟨k,rfl⟩:∃ z,k=z+1:=⟨k-1,by omega⟩;show Q49.s0 K (xs,()) _ _=_;simp only[Q49.s0];rw[decide_eq_false (by omega:¬ ((i:Int)<(BK xs:Int))),BX (by omega)];rfl
  |succ d y =>
   intro k i I H;obtain⟨k,rfl⟩:∃ z,k=z+1:=⟨k-1,by omega⟩;have y:=y k (i+1) (by omega) (by omega);show Q49.s0 K (xs,()) _ _=_;simp only[Q49.s0];have r:i<xs.length:=by omega
   rw[decide_eq_true (by omega:(i:Int)<(BK xs:Int)),af r,ar i (by omega),BU r];simp only[cond_true,BL,orI];by_cases h:xs[i]=0
   ·have e:(xs[i] != 0)=false:=by simpa using h
    rw[e,if_neg (by simpa using h)];exact y
   ·have e:(xs[i] != 0)=true:=by simpa using h
    rw[e,if_pos h];rfl
 have:=u xs.length K 0 (by omega) (by omega)
 rwa [B9]at this
def cmpF (f g:ag):Int:=orI [fD f.1 g.1,fD f.2.1 g.2.1,fD f.2.2.1 g.2.2.1,if f.2.2.2=true/\g.2.2.2=false then 1 else if g.2.2.2=true/\f.2.2.2=false then -1 else 0]
theorem mT (K:Nat)(f g:ag)(H:1048577<K):Q50.f K (f,g,())=some ((cmpF f g,()),()):=by
 obtain⟨a,b,c,d⟩:=f;obtain⟨u,y,r,I⟩:=g;have h:∀ z:Int,Q49.f K ([fD a u,fD b y,fD c r,z],())=some ((orI [fD a u,fD b y,fD c r,z],()),()):=λz=>AX K _ (by simp) H
 simp only[Q50.f,cmpF];cases d <;> cases I <;> simp only[BO,B3,cond_true,cond_false] <;> rw[nQ,BL,nQ,BL,nQ,BL,h] <;> rfl
theorem oV {x:Int}(h:x=0)(xs:List Int):orI (x::xs)=orI xs:=by subst h;rfl
theorem uR {x:Int}(h:x≠0)(xs:List Int):orI (x::xs)=x:=by simp[orI,h]
theorem jJ {f g:ag}(e:f.1=g.1):cmpF f g>0<->bR f g:=by
 unfold cmpF bR;rw[oV ((im f.1 g.1).2 e)];by_cases r:f.2.1=g.2.1
 ·rw[oV ((im f.2.1 g.2.1).2 r),if_neg (show ¬ f.2.1≠g.2.1 from λh=>h r)];by_cases u:f.2.2.1=g.2.2.1
  ·rw[oV ((im f.2.2.1 g.2.2.1).2 u),if_neg (show ¬ f.2.2.1≠g.2.2.1 from λh=>h u)];cases f.2.2.2 <;> cases g.2.2.2 <;> simp[orI]
  ·rw[uR (λh=>u ((im f.2.2.1 g.2.2.1).1 h)),if_pos (show f.2.2.1≠g.2.2.1 from u)];exact uQ _ _
 ·rw[uR (λh=>r ((im f.2.1 g.2.1).1 h)),if_pos (show f.2.1≠g.2.1 from r)];exact uQ _ _
theorem vJ (K:Nat)(f g:ag)(r:1048577<K):Ret (Q51.f K (f,g,())) (bA f/\bA g/\f.1=g.1/\bR f g):=by
 refine Ret.and (mf K f) (λ_=>Ret.and (mf K g) (λ_=>?_) rfl) rfl;refine (Ret.cnd (b:=f.1==g.1) (P:=f.1=g.1) (by simp) (λe=>?_)).iff Iff.rfl;show Ret ((Q50.f K (f,g,())).bind _) _;rw[mT K f g r];refine Ret.of ?_;simp only[gt_iff_lt,decide_eq_true_eq];exact jJ e
theorem bk {n:Nat}{m:Int}(h:(n:Int)<m):decide ((n:Int)<m)=true:=decide_eq_true h
theorem aP (n:Nat):decide ((n:Int)<(n:Int))=false:=decide_eq_false (by omega)
def cQ (l:List aM):Prop:=(∀ x∈l,bA x.1/\InP x.2 1 4)/\Asc (λx:aM=>x.1.1) l
theorem yD (K:Nat)(l:List aM)(y:l.length<=1048576)(z:1048577<K):Ret (Q18.f K (l,())) (cQ l):=by
 refine (gq l (step:=λrec a=>Q18.s0 K (l,()) rec a) (λi r=>bA l[i].1/\InP l[i].2 1 4/\(0<i->¬ (l[i-1]'(by omega)).1.1>=l[i].1.1)/\True) y ?_ ?_ z (λ_=>Ret.yes trivial)).iff (fe.trans ?_)
 ·intro rec i r;simp only[Q18.s0];rw[decide_eq_true (by omega:(i:Int)<(BK l:Int))];simp only[cond_true];refine Rnd.ix (af r) (Rnd.nx (oT K _) λ_=>Rnd.ix (af r) (Rnd.nx (cC K _ 1 4) λ_=>Rnd.two (λu=>?_) Rnd.end_));rw[eX i u (by omega)];exact Rnd.ix (af (by omega)) (Rnd.ix (af r) (Rnd.cndN (by simp) λ_=>Rnd.end_))
 ·intro rec;simp only[Q18.s0,aP];rfl
 ·rw[cQ,dD,gM];constructor
  ·intro h;exact⟨λi r=>⟨(h i r).1,(h i r).2.1⟩,λi r u=>by have:=(h i r).2.2.1 u;omega⟩
  ·rintro⟨h1,h2⟩ i r;exact⟨(h1 i r).1,(h1 i r).2,λu=>by have:=h2 i r u;omega,trivial⟩
theorem uS (K:Nat)(l:List aM)(M:l.length<=1048576)(O:1048577<K):Q47.f K (l,())=some ((l.map (·.1),()),()):=by
 have u:∀ (d k i:Nat),i+d=l.length->d<k->ae (λrec a=>Q47.s0 K (l,()) rec a) k ((l.take i).map (·.1),(i:Int))=some ((l.map (·.1),()),()):=by
  intro d;induction d with
  |zero =>
   intro k i J H;obtain⟨k,rfl⟩:∃ z,k=z+1:=⟨k-1,by omega⟩;show Q47.s0 K (l,()) _ _=_;simp only[Q47.s0];rw[decide_eq_false (by omega:¬ ((i:Int)<(BK l:Int))),BY (by omega)];rfl
  |succ d y =>
   intro k i J H;obtain⟨k,rfl⟩:∃ z,k=z+1:=⟨k-1,by omega⟩;have y:=y k (i+1) (by omega) (by omega);show Q47.s0 K (l,()) _ _=_;have r:i<l.length:=by omega
   simp only[Q47.s0];rw[decide_eq_true (by omega:(i:Int)<(BK l:Int)),af r,ar i (by omega)];simp only[cond_true,BL];have I:decide ((BK (List.map (λx:aM=>x.1) (List.take i l))+BK [l[i].1])*32<=ak)=true:=decide_eq_true (by simp only[ak,List.length_map,List.length_take,BZ];omega);rw[I];have e:(List.take i l).map (λx:aM=>x.1)++[l[i].1]=(l.take (i+1)).map (·.1):=by
    rw[B5,BP r,List.map_append];rfl
   rw[e];exact y
 have:=u l.length K 0 (by omega) (by omega);exact this
theorem vK {l:List aM}:ax (l.map (·.1))<->(∀ x∈l,bA x.1)/\Asc (λx:aM=>x.1.1) l:=by
 unfold ax Asc;rw[BV];simp
theorem xf (K:Nat)(x:aM):Ret (Q46.f K (x,())) (¬ InP x.2 1 4):=by
 simp only[Q46.f];exact (fA K x.2 1 4).neg
theorem yE (K:Nat)(l:List aM)(r:l.length<=1048576)(u:1048577<K):Ret (Q45.f K (l,(λz=>(Q46.f K (z.1,())).map λy=>y.1.1),())) (∃ x∈l,¬ InP x.2 1 4) :=
 qZ K l _ (λx=>¬ InP x.2 1 4) r u (λx _=>Ret.fn (xf K x))
theorem oW (K:Nat)(l:List aM)(u:l.length<=1048576)(y:1048577<K):Ret (Q48.f K (l,())) (cQ l):=by
 simp only[Q48.f];obtain⟨H,O,M⟩:=yE K l u y;obtain⟨z,I,J⟩:=jI K (l.map (·.1)) (by simpa using u) y;rw[uS K l u y,BL,I,BL,O,BL];have e:cQ l<->(z=true/\H=false):=by
  rw[J,vK,cQ,<- Bool.not_eq_true,M];constructor
  ·rintro⟨h5,h6⟩;exact⟨⟨λx r=>(h5 x r).1,h6⟩,λ⟨x,r,h⟩=>h (h5 x r).2⟩
  ·rintro⟨⟨h5,h6⟩,h7⟩;exact⟨λx r=>⟨h5 x r,BN.1 λh=>h7 ⟨x,r,h⟩⟩,h6⟩
 refine Ret.iff ?_ e.symm;cases z <;> cases H <;> exact⟨_,rfl,by simp⟩
def gZ (t:List ag)(l:List aM):Prop:=∀ x∈l,∃ f∈t,f.1=x.1.1/\¬ bR x.1 f
theorem gw {t:List ag}(h:Asc (λf:ag=>f.1) t){f g:ag}(u:f∈t)(z:g∈t)(e:f.1=g.1):f=g:=by
 obtain⟨i,r,rfl⟩:=BQ u;obtain⟨j,y,rfl⟩:=BQ z;have:=md h r y e;subst this;rfl
theorem uh (K:Nat)(n:aa)(H:NB n)(J:ax (aa.table n))(u:1048577<K):Ret (Q20.f K (n,())) (cQ (aa.cast n)/\gZ (aa.table n) (aa.cast n)):=by
 refine Ret.nx (yD K _ H.cast u) λ_=>?_
 refine (gq (aa.cast n) (step:=λrec a=>Q20.s0 K (n,()) rec a) (λi y=>∃ f∈aa.table n,f.1=(aa.cast n)[i].1.1/\¬ bR (aa.cast n)[i].1 f) H.cast ?_ ?_ u (λ_=>Ret.yes trivial)).iff (fe.trans ?_)
 ·intro rec i y;simp only[Q20.s0];rw[decide_eq_true (by omega:(i:Int)<(BK (aa.cast n):Int))];simp only[cond_true];refine Rnd.ix (af y) ?_;obtain⟨o,I,M⟩:=fC K (aa.table n) (aa.cast n)[i].1.1 H.table u;refine Rnd.vl M ?_;cases I with
  |no h =>
   rw[show decide ((-1:Int)<0)=true from rfl];exact .inr ⟨λ⟨f,r,e,_⟩=>h f r e,rfl⟩
  |at_ j z e =>
   simp only;rw[decide_eq_false (by omega:¬ ((j:Int)<0))];refine (Rnd.ix (af y) (Rnd.ix (af z) (Rnd.fx (sM K _ _) λ_=>Rnd.end_))).iff ⟨λh=>⟨_,BM z,e,h.1⟩,λ⟨f,r,O,h⟩=>⟨?_,trivial⟩⟩;have:=gw J.2 r (BM z) (O.trans e.symm)
   rwa [<- this]
 ·intro rec;simp only[Q20.s0,aP];rfl
 ·rw[gZ,dD]
theorem yF (K:Nat)(n:aa)(O:NB n)(I:ax (aa.table n))(Z:cQ (aa.cast n))(J:1048577<K) :
  Ret ((Q45.f K (aa.cast n,(λy5=>(Q52.f K (y5.1,n,())).map λy=>y.1.1),())).bind λX=>some ((!X.1.1,()),())) (gZ (aa.table n) (aa.cast n)):=by
 refine (Ret.neg (qZ K _ _ (λx=>¬ ∃ f∈aa.table n,f.1=x.1.1/\¬ bR x.1 f) O.cast J (λx r=>Ret.fn ?_))).iff ?_
 ·simp only[Q52.f];rcases gv K (aa.table n) x.1.1 O.table J with ⟨z,_⟩|⟨_,⟨f,u,e,z⟩|⟨H,z⟩⟩
  ·exact absurd I z
  ·refine Ret.vl z ?_;refine (vJ K x.1 f J).id.iff ⟨λh ⟨g,R,Y,M⟩=>?_,λh=>?_⟩
   ·have:=gw I.2 R u (Y.trans e.symm);exact M (this ▸ h.2.2.2)
   ·refine⟨(Z.1 x r).1,I.1 f u,e.symm,BN.1 λM=>h ⟨f,u,e,M⟩⟩
  ·refine Ret.vl z ?_;exact Ret.yes (λ⟨f,u,e,_⟩=>H f u e)
 ·exact⟨λh x r=>BN.1 λH=>h ⟨x,r,H⟩,λh ⟨x,r,H⟩=>H (h x r)⟩
def cK (n:aa):Prop:=((n.1,n.2.2.2.2.1,(if n.2.2.1=true then 4 else 1),n.2.2.2.1):ag)∈aa.table n
theorem AY (K:Nat)(n:aa)(O:NB n)(H:ax (aa.table n))(J:1048577<K):Ret (Q17.f K (n,())) (cK n):=by
 simp only[Q17.f];obtain⟨o,z,I⟩:=fC K (aa.table n) n.1 O.table J;refine Ret.vl I ?_;cases z with
 |no h =>
  rw[show decide ((-1:Int)<0)=true from rfl];exact Ret.no (λM=>h _ M rfl)
 |at_ j u e =>
  simp only;rw[decide_eq_false (by omega:¬ ((j:Int)<0))];refine Ret.vl (af u) ?_;have r:cK n<->(aa.table n)[j]=((n.1,n.2.2.2.2.1,(if n.2.2.1=true then 4 else 1),n.2.2.2.1):ag):=by
   constructor
   ·intro h;exact gw H.2 (BM u) h e
   ·intro h;show _∈_;rw[<- h];exact BM u
  have y:(aa.table n)[j]=((n.1,n.2.2.2.2.1,(if n.2.2.1=true then 4 else 1),n.2.2.2.1):ag)<->((aa.table n)[j].2.1=n.2.2.2.2.1/\(aa.table n)[j].2.2.1=(if n.2.2.1=true then 4 else 1)/\(aa.table n)[j].2.2.2=n.2.2.2.1):=by
   generalize (aa.table n)[j]=f at e ⊢;obtain⟨a,b,c,d⟩:=f;simp at e ⊢;intro _ _ _;exact e
  refine Ret.iff ?_ (r.trans y).symm;cases R:n.2.2.1 with
  |true=>exact Ret.cnd (by simp) λ_=>Ret.cnd (by simp) λ_=>Ret.of (by simp)
  |false=>exact Ret.cnd (by simp) λ_=>Ret.cnd (by simp) λ_=>Ret.of (by simp)
theorem hH (f g:ag):Ty.eqv ty_impl_Fact_D f g=decide (f=g):=by
 obtain⟨a,b,c,d⟩:=f;obtain⟨y,z,u,r⟩:=g;show (decide (a=y)&&(decide (b=z)&&(decide (c=u)&&(d==r))))=_;cases d <;> cases r <;> simp[B4]
theorem pB (f g:dw):Ty.eqv ty_impl_Coord_D f g=decide (f=g):=by
 obtain⟨a,b,c,d⟩:=f;obtain⟨y,z,r,u⟩:=g;show (decide (a=y)&&(decide (b=z)&&(decide (c=r)&&decide (d=u))))=_;simp[B4]
theorem qu (K:Nat)(n:aa)(M:NB n)(I:1048577<K):Ret (Q53.f K (n,()))
  (ax (aa.table n)/\cf (aa.table n) (ao n.1)/\cK n/\cQ (aa.cast n)/\gZ (aa.table n) (aa.cast n)):=by
 have u:∀ (w:Int),ax (aa.table n)->Ret ((Q43.f K (n,())).bind λY=>(Q42.f K (aa.table n,Y.1.1,())).bind λy3=>bif !y3.1.1 then rb false else
   ((Q48.f K (aa.cast n,())).bind λO=>bif !O.1.1 then rb false else
    ((Q45.f K (aa.cast n,(λZ=>(Q52.f K (Z.1,n,())).map λy=>y.1.1),())).bind λR=>some ((!R.1.1,()),()))))
   (cf (aa.table n) (ao n.1)/\cQ (aa.cast n)/\gZ (aa.table n) (aa.cast n)):=by
  intro _ z;exact Ret.vl (qt K n) (Ret.nx (oU K _ _ M.table I) λ_=>Ret.nx (oW K _ M.cast I) λhC=>yF K n M z hC I)
 have r:∀ (w:Int),w=(if n.2.2.1=true then 4 else 1)->Ret ((Q37.f K (aa.table n,n.1,())).bind λy1=>bif !y1.1.2.1 then rb false else bif !Ty.eqv ty_impl_Fact_D y1.1.1 (n.1,(n.2.2.2.2.1,(w,n.2.2.2.1))) then rb false else
   ((Q43.f K (n,())).bind λY=>(Q42.f K (aa.table n,Y.1.1,())).bind λy3=>bif !y3.1.1 then rb false else
   ((Q48.f K (aa.cast n,())).bind λO=>bif !O.1.1 then rb false else
    ((Q45.f K (aa.cast n,(λZ=>(Q52.f K (Z.1,n,())).map λy=>y.1.1),())).bind λR=>some ((!R.1.1,()),())))))
   (ax (aa.table n)/\cf (aa.table n) (ao n.1)/\cK n/\cQ (aa.cast n)/\gZ (aa.table n) (aa.cast n)):=by
  intro w hw;rcases gv K (aa.table n) n.1 M.table I with ⟨H,X⟩|⟨z,⟨f,hf,e,H⟩|⟨X,H⟩⟩
  ·exact Ret.vl X (Ret.no (λh=>H h.1))
  ·refine Ret.vl H ?_;simp only[BO,cond_false];rw[hH];by_cases J:f=(n.1,(n.2.2.2.2.1,(w,n.2.2.2.1)))
   ·rw[decide_eq_true J];have hS:cK n:=by
     show _∈_;rw[<- hw,<- J];exact hf
    exact (u w z).iff ⟨λh=>⟨z,h.1,hS,h.2.1,h.2.2⟩,λh=>⟨h.2.1,h.2.2.2⟩⟩
   ·rw[decide_eq_false J];refine Ret.no (λh=>J ?_);have:=gw z.2 hf h.2.2.1 e;rw[this,hw]
  ·refine Ret.vl H (Ret.no (λh=>X _ h.2.2.1 rfl))
 simp only[Q53.f];cases hg:n.2.2.1 with
 |true=>exact r 4 (by rw[hg];rfl)
 |false=>exact r 1 (by rw[hg];rfl)
def cW (n:aa):Prop:=if (aa.probe n).1=-1 then aa.probe n=(-1,0,0,false) else
 (aa.probe n).1≠n.1/\(∃ f∈aa.table n,f.1=(aa.probe n).1)/\InP (aa.probe n).2.1 0 n.2.2.2.2.2.1/\InP (aa.probe n).2.2.1 1 n.2.2.2.2.2.2.1
theorem z7 (K:Nat)(n:aa)(M:NB n)(H:1048577<K):Ret (Q21.f K (n,())) (cW n):=by
 simp only[Q21.f,cW];by_cases h:(aa.probe n).1=-1
 ·rw[if_pos h,show ((aa.probe n).1==-1)=true by simpa using h];refine (Ret.cnd (P:=(aa.probe n).2.1=0) (by simp) λ_=>Ret.cnd (P:=(aa.probe n).2.2.1=0) (by simp) λ_=>Ret.of (P:=(aa.probe n).2.2.2=false) (by simp)).iff ?_;generalize aa.probe n=p at h ⊢;obtain⟨a,b,c,d⟩:=p;simp at h ⊢;intro _ _ _;exact h
 ·rw[if_neg h,show ((aa.probe n).1==-1)=false by simpa using h];refine Ret.cnd (by simp) λ_=>?_
  obtain⟨o,u,z⟩:=fC K (aa.table n) (aa.probe n).1 M.table H;refine Ret.vl z ?_;cases u with
  |no I=>exact Ret.no (λ⟨⟨f,y,e⟩,_⟩=>I f y e)
  |at_ j J e =>
   simp only;rw[show decide ((j:Int)>=0)=true from decide_eq_true (by omega)];exact (Ret.px (cC K _ _ _) λ_=>(cC K _ _ _).id).iff ⟨λr=>⟨⟨_,BM J,e⟩,r⟩,λr=>r.2⟩
theorem z8 (K:Nat)(n:aa)(I:NB n)(z:ax (aa.table n))(H:1048577<K):Ret (Q54.f K (n,())) (cW n):=by
 simp only[Q54.f,cW];by_cases h:(aa.probe n).1=-1
 ·rw[if_pos h,show ((aa.probe n).1==-1)=true by simpa using h,hH];exact Ret.dec
 ·rw[if_neg h,show ((aa.probe n).1==-1)=false by simpa using h];rcases gv K (aa.table n) (aa.probe n).1 I.table H with ⟨u,_⟩|⟨_,⟨f,y,e,u⟩|⟨J,u⟩⟩
  ·exact absurd z u
  ·refine Ret.vl u ?_;exact (Ret.cnd (P:=(aa.probe n).1≠n.1) (by simp) λ_=>Ret.px (fA K _ _ _) λ_=>(fA K _ _ _).id).iff ⟨λr=>⟨r.1,⟨f,y,e⟩,r.2⟩,λr=>⟨r.1,r.2.2⟩⟩
  ·exact Ret.vl u (Ret.no (λ⟨_,⟨f,y,e⟩,_⟩=>J f y e))
def cD (c:dw):Prop:=InP c.1 (-100000) 100000/\InP c.2.1 (-100000) 100000/\InP c.2.2.1 0 100000/\InP c.2.2.2 1 1500
theorem iF (K:Nat)(c:dw):Ret (Q23.f K (c,())) (cD c) :=
 Ret.px (cC K _ _ _) λ_=>Ret.px (cC K _ _ _) λ_=>Ret.px (cC K _ _ _) λ_=>(cC K _ _ _).id
theorem qv (K:Nat)(c:dw):Ret (Q57.f K (c,())) (cD c) :=
 Ret.px (fA K _ _ _) λ_=>Ret.px (fA K _ _ _) λ_=>Ret.px (fA K _ _ _) λ_=>(fA K _ _ _).id
def AZ (r:Int)(p:dI):Prop:=InP p.1 0 7/\ao p.1=ao r/\p.1≠r/\cD p.2.1/\InP (p.2.2.length:Int) 1 3/\∀ t∈p.2.2,InP t 1 60000
def ey (r:Int)(l:List dI):Prop:=(∀ p∈l,AZ r p)/\Asc (λp:dI=>p.1) l
theorem xg (K:Nat)(n:aa)(x:Int):Ret (Q55.f K (n,x,())) (InP x 0 7/\ao x=ao n.1):=by
 refine Ret.px (oS K x) λ_=>?_
 exact Ret.of (b:=ao x==ao n.1) (by simp)
theorem z9 (K:Nat)(n:aa)(x:Int):Ret (Q59.f K (n,x,())) ((InP x 0 7/\ao x=ao n.1)/\x≠n.1):=by
 refine Ret.px (xg K n x) λ_=>?_
 exact Ret.of (b:=x != n.1) (by simp)
theorem yG (K:Nat)(n:aa)(Y:NB n)(Z:1048577<K):Ret (Q24.f K (n,())) (ey n.1 (aa.places n)):=by
 refine (gq (aa.places n) (step:=λrec a=>Q24.s0 K (n,()) (Q24.l1 K (n,()) rec) rec a)
  (λi y=>InP (aa.places n)[i].1 0 7/\¬ ao (aa.places n)[i].1≠ao n.1/\¬ (aa.places n)[i].1=n.1/\(0<i->¬ ((aa.places n)[i-1]'(by omega)).1>=(aa.places n)[i].1) /\
   cD (aa.places n)[i].2.1/\InP ((aa.places n)[i].2.2.length:Int) 1 3/\∀ k (z:k<(aa.places n)[i].2.2.length),InP (aa.places n)[i].2.2[k] 1 60000/\True) Y.places ?_ ?_ Z (λ_=>Ret.yes trivial)).iff (fe.trans ?_)
 ·intro rec i y;have hb:=Y.trips _ (BM y);have hl:=Y.places;have u:Rnd (Q24.l1 K (n,()) rec ((i:Int),0,(aa.places n)[i].1,(aa.places n)[i].2.1.1,(aa.places n)[i].2.1.2.1,(aa.places n)[i].2.1.2.2.1,(aa.places n)[i].2.1.2.2.2,(aa.places n)[i].2.2))
    (∀ k (z:k<(aa.places n)[i].2.2.length),InP (aa.places n)[i].2.2[k] 1 60000/\True) (rec (wr .i64 ((i:Int)+1))):=by
   generalize (aa.places n)[i]=p at hb;refine oR p.2.2 (step:=λr a=>Q24.s1 K (n,()) rec r a) (λk=>((i:Int),(k:Int),p.1,p.2.1.1,p.2.1.2.1,p.2.1.2.2.1,p.2.1.2.2.2,p.2.2)) (λk z=>InP p.2.2[k] 1 60000/\True) hb ?_ ?_ Z
   ·intro r k z;simp only[Q24.s1];rw[decide_eq_true (by omega:(k:Int)<(BK p.2.2:Int)),ar k (by omega)];simp only[cond_true];exact Rnd.ix (af z) (Rnd.nx (cC K _ _ _) λ_=>Rnd.end_)
   ·intro r;simp only[Q24.s1,aP];rfl
  simp only[Q24.s0];rw[decide_eq_true (by omega:(i:Int)<(BK (aa.places n):Int))];simp only[cond_true];refine Rnd.ix (af y) (Rnd.nx (cC K _ _ _) λ_=>Rnd.vl (eJ K _) (Rnd.vl (eJ K _) (Rnd.cndN (by simp) λ_=>Rnd.cndN (by simp) λ_=>Rnd.two (λH=>?_) ?_)))
  ·rw[eX i H (by omega)];exact Rnd.ix (af (show i-1<(aa.places n).length by omega)) (Rnd.cndN (by simp) λ_=>Rnd.nx (iF K _) λ_=>Rnd.nx (cC K _ _ _) λ_=>u)
  ·exact Rnd.nx (iF K _) λ_=>Rnd.nx (cC K _ _ _) λ_=>u
 ·intro rec;simp only[Q24.s0,aP];rfl
 ·rw[ey,dD,gM];constructor
  ·intro h;refine⟨λi y=>?_,λi y H=>?_⟩
   ·obtain⟨M,O,X,h4,J,R,I⟩:=h i y;exact⟨M,BN.1 O,X,J,R,dD.2 λk z=>(I k z).1⟩
   ·have:=(h i y).2.2.2.1 H;omega
  ·rintro⟨M,O⟩ i y;obtain⟨X,h4,J,R,I,h8⟩:=M i y;exact⟨X,BN.2 h4,J,λH=>by have:=O i y H;omega,R,I,λk z=>⟨dD.1 h8 k z,trivial⟩⟩
theorem yH (K:Nat)(n:aa)(Z:NB n)(hK:1048577<K):Ret (Q62.f K (n,())) (ey n.1 (aa.places n)):=by
 refine (gq (aa.places n) (step:=λrec a=>Q62.s0 K (n,()) rec a)
  (λi u=>((InP (aa.places n)[i].1 0 7/\ao (aa.places n)[i].1=ao n.1)/\(aa.places n)[i].1≠n.1)/\(0<i->¬ (aa.places n)[i].1<=((aa.places n)[i-1]'(by omega)).1) /\
   cD (aa.places n)[i].2.1/\InP ((aa.places n)[i].2.2.length:Int) 1 3/\(¬ ∃ t∈(aa.places n)[i].2.2,¬ InP t 1 60000)/\True) Z.places ?_ ?_ hK (λ_=>Ret.yes trivial)).iff (fe.trans ?_)
 ·intro rec i u;have hb:=Z.trips _ (BM u);have hl:=Z.places;have r:Ret (Q61.f K ((aa.places n)[i].2.2,(λy6=>(Q58.f K (y6.1,())).map λy=>y.1.1),())) (∃ t∈(aa.places n)[i].2.2,¬ InP t 1 60000) :=
   yC K _ _ _ hb hK (λt _=>Ret.fn (fA K t _ _).neg)
  simp only[Q62.s0];rw[decide_eq_true (by omega:(i:Int)<(BK (aa.places n):Int))];simp only[cond_true];refine Rnd.ix (af u) (Rnd.nx (z9 K n _) λ_=>Rnd.two (λz=>?_) ?_)
  ·rw[eX i z (by omega)];exact Rnd.ix (af (show i-1<(aa.places n).length by omega)) (Rnd.cndN (by simp) λ_=>Rnd.nx (qv K _) λ_=>Rnd.nx (fA K _ _ _) λ_=>Rnd.fx r λ_=>Rnd.end_)
  ·exact Rnd.nx (qv K _) λ_=>Rnd.nx (fA K _ _ _) λ_=>Rnd.fx r λ_=>Rnd.end_
 ·intro rec;simp only[Q62.s0,aP];rfl
 ·rw[ey,dD,gM];constructor
  ·intro h;refine⟨λi u=>?_,λi u z=>?_⟩
   ·obtain⟨⟨⟨M,O⟩,Y⟩,h4,J,X,I,_⟩:=h i u;exact⟨M,O,Y,J,X,λt H=>BN.1 λR=>I ⟨t,H,R⟩⟩
   ·have:=(h i u).2.1 z;omega
  ·rintro⟨M,O⟩ i u;obtain⟨Y,h4,J,X,I,R⟩:=M i u;exact⟨⟨⟨Y,h4⟩,J⟩,λz=>by have:=O i u z;omega,X,I,λ⟨t,H,h9⟩=>h9 (R t H),trivial⟩
def Ba (r:Int)(x:cU):Prop:=InP x.1 0 1/\x.1≠ao r/\x.2≠[]/\ax x.2/\cf x.2 x.1
def c8 (r:Int)(l:List cU):Prop:=(∀ x∈l,Ba r x)/\Asc (λx:cU=>x.1) l
theorem oX {α:Type}(l:List α):((BK l:Int)==0)=true<->l=[]:=by
 cases l <;> simp;omega
theorem yI (K:Nat)(n:aa)(H:NB n)(y:1048577<K):Ret (Q25.f K (n,())) (c8 n.1 (aa.others n)):=by
 refine (gq (aa.others n) (step:=λrec a=>Q25.s0 K (n,()) rec a)
  (λi r=>InP (aa.others n)[i].1 0 1/\¬ (aa.others n)[i].1=ao n.1/\(0<i->¬ ((aa.others n)[i-1]'(by omega)).1>=(aa.others n)[i].1) /\
   ¬ (aa.others n)[i].2=[]/\ax (aa.others n)[i].2/\cf (aa.others n)[i].2 (aa.others n)[i].1/\True) H.others ?_ ?_ y (λ_=>Ret.yes trivial)).iff (fe.trans ?_)
 ·intro rec i r;have z:=H.facts _ (BM r);have X:=H.others;simp only[Q25.s0];rw[decide_eq_true (by omega:(i:Int)<(BK (aa.others n):Int))];simp only[cond_true];refine Rnd.ix (af r) (Rnd.nx (cC K _ _ _) λ_=>Rnd.vl (eJ K _) (Rnd.cndN (by simp) λ_=>Rnd.two (λu=>?_) ?_))
  ·rw[eX i u (by omega)];exact Rnd.ix (af (show i-1<(aa.others n).length by omega)) (Rnd.cndN (by simp) λ_=>Rnd.cndN (oX _) λ_=>Rnd.nx (gr K _ z y) λ_=>Rnd.nx (gu K _ _ z y) λ_=>Rnd.end_)
  ·exact Rnd.cndN (oX _) λ_=>Rnd.nx (gr K _ z y) λ_=>Rnd.nx (gu K _ _ z y) λ_=>Rnd.end_
 ·intro rec;simp only[Q25.s0,aP];rfl
 ·rw[c8,dD,gM];constructor
  ·intro h;exact⟨λi r=>⟨(h i r).1,(h i r).2.1,(h i r).2.2.2.1,(h i r).2.2.2.2.1,(h i r).2.2.2.2.2.1⟩,λi r u=>by have:=(h i r).2.2.1 u;omega⟩
  ·rintro⟨h1,h2⟩ i r;obtain⟨O,R,J,M,I⟩:=h1 i r;exact⟨O,R,λu=>by have:=h2 i r u;omega,J,M,I,trivial⟩
theorem yJ (K:Nat)(n:aa)(J:NB n)(z:1048577<K):Ret (Q63.f K (n,())) (c8 n.1 (aa.others n)):=by
 refine (gq (aa.others n) (step:=λrec a=>Q63.s0 K (n,()) rec a)
  (λi r=>InP (aa.others n)[i].1 0 1/\¬ (aa.others n)[i].1=ao n.1/\(0<i->¬ (aa.others n)[i].1<=((aa.others n)[i-1]'(by omega)).1) /\
   ¬ (aa.others n)[i].2=[]/\ax (aa.others n)[i].2/\cf (aa.others n)[i].2 (aa.others n)[i].1/\True) J.others ?_ ?_ z (λ_=>Ret.yes trivial)).iff (fe.trans ?_)
 ·intro rec i r;have I:=J.facts _ (BM r);have Y:=J.others;have H:ao 7=1:=by unfold ao;rw[aA (by decide) (by decide)];decide
  have u:=fA K (aa.others n)[i].1 0 (ao 7);rw[H]at u;simp only[Q63.s0];rw[decide_eq_true (by omega:(i:Int)<(BK (aa.others n):Int))];simp only[cond_true];refine Rnd.ix (af r) (Rnd.vl (xd K 7) ?_);dsimp only;rw[H];refine Rnd.nx u λ_=>Rnd.vl (qt K n) (Rnd.cndN (by simp) λ_=>Rnd.two (λy=>?_) ?_)
  ·rw[eX i y (by omega)];exact Rnd.ix (af (show i-1<(aa.others n).length by omega)) (Rnd.cndN (by simp) λ_=>Rnd.cndN (oX _) λ_=>Rnd.nx (jI K _ I z) λ_=>Rnd.nx (oU K _ _ I z) λ_=>Rnd.end_)
  ·exact Rnd.cndN (oX _) λ_=>Rnd.nx (jI K _ I z) λ_=>Rnd.nx (oU K _ _ I z) λ_=>Rnd.end_
 ·intro rec;simp only[Q63.s0,aP];rfl
 ·rw[c8,dD,gM];constructor
  ·intro h;exact⟨λi r=>⟨(h i r).1,(h i r).2.1,(h i r).2.2.2.1,(h i r).2.2.2.2.1,(h i r).2.2.2.2.2.1⟩,λi r y=>by have:=(h i r).2.2.1 y;omega⟩
  ·rintro⟨h1,h2⟩ i r;obtain⟨R,X,M,O,H⟩:=h1 i r;exact⟨R,X,λy=>by have:=h2 i r y;omega,M,O,H,trivial⟩
def ByP (r:Int)(l:List Int):Prop:=(∀ b∈l,InP b 0 7/\ao b=ao r)/\Asc (λb:Int=>b) l
def lI (n:aa)(d:bB):Prop:=(∃ f∈aa.table n,f.1=d.1/\f.2.2.1=2/\f.2.1=d.2.1)/\InP d.2.2.1 0 n.2.2.2.2.2.1/\d.2.2.2≠[]/\ByP n.1 d.2.2.2
def aV (t:List ag):List ag:=t.filter λf=>f.2.2.1==2
def iG (n:aa):Prop:=(∀ d∈aa.doubts n,lI n d)/\Asc (λd:bB=>d.1) (aa.doubts n)/\(aV (aa.table n)).length=(aa.doubts n).length
theorem xh {y:Int}{l:List Int}:ByP y l<->∀ k (r:k<l.length),(InP l[k] 0 7/\ao l[k]=ao y)/\(0<k->¬ l[k-1]'(by omega)>=l[k]):=by
 rw[ByP,dD,gM];constructor
 ·rintro⟨h1,h2⟩ k r;exact⟨h1 k r,λu=>by have:=h2 k r u;omega⟩
 ·intro h;exact⟨λk r=>(h k r).1,λk r u=>by have:=(h k r).2 u;omega⟩
theorem Aa (K:Nat)(n:aa)(O:NB n)(X:1048577<K):Q22.l2 K (n,()) (0,0)=rb (decide ((aV (aa.table n)).length=(aa.doubts n).length)):=by
 have R:=O.table;have u:∀ (d k i c:Nat),i+d=(aa.table n).length->d<k->c<=i ->
   ae (λrec a=>Q22.s2 K (n,()) rec a) k ((c:Int),(i:Int))=rb (decide (c+(aV ((aa.table n).drop i)).length=(aa.doubts n).length)):=by
  intro d;induction d with
  |zero =>
   intro k i c M J I;obtain⟨k,rfl⟩:∃ y,k=y+1:=⟨k-1,by omega⟩;show Q22.s2 K (n,()) _ _=_;simp only[Q22.s2];rw[decide_eq_false (show ¬ ((i:Int)<(BK (aa.table n):Int)) by omega),BX (by omega)];simp only[cond_false,aV,List.filter_nil,List.length_nil,Nat.add_zero];have e:((c:Int)==(BK (aa.doubts n):Int))=decide (c=(aa.doubts n).length):=by
    by_cases h:c=(aa.doubts n).length
    ·rw[decide_eq_true h,h];simp
    ·rw[decide_eq_false h,beq_eq_false_iff_ne];omega
   exact congrArg rb e
  |succ d z =>
   intro k i c M J I;obtain⟨k,rfl⟩:∃ y,k=y+1:=⟨k-1,by omega⟩;have r:i<(aa.table n).length:=by omega
   show Q22.s2 K (n,()) _ _=_;simp only[Q22.s2];rw[decide_eq_true (show ((i:Int)<(BK (aa.table n):Int)) by omega),af r,ar i (by omega),ar c (by omega),BU r];simp only[cond_true,BL];cases H:((aa.table n)[i].2.2.1==2) with
   |true =>
    have:=z k (i+1) (c+1) (by omega) (by omega) (by omega);simp only[cond_true];have e:c+1+(aV ((aa.table n).drop (i+1))).length=c+(aV ((aa.table n)[i]::(aa.table n).drop (i+1))).length:=by
     simp only[aV,BW,H,if_true,List.length_cons];omega
    rw[<- e];exact this
   |false =>
    have:=z k (i+1) c (by omega) (by omega) (by omega);simp only[cond_false];have e:aV ((aa.table n)[i]::(aa.table n).drop (i+1))=aV ((aa.table n).drop (i+1)):=by
     simp only[aV,BW,H,BR,if_false]
    rw[e];exact this
 have:=u (aa.table n).length K 0 0 (by omega) (by omega) (B7 _);rw[B9,Nat.zero_add]at this;exact this
theorem yK (K:Nat)(n:aa)(X:NB n)(hT:ax (aa.table n))(Y:1048577<K):Ret (Q22.f K (n,())) (iG n):=by
 refine (gq (aa.doubts n) (step:=λrec a=>Q22.s0 K (n,()) (Q22.l1 K (n,()) rec) (Q22.l2 K (n,())) rec a)
  (λi z=>(0<i->¬ ((aa.doubts n)[i-1]'(by omega)).1>=(aa.doubts n)[i].1)/\lI n (aa.doubts n)[i]) (Q:=(aV (aa.table n)).length=(aa.doubts n).length) (rt:=Q22.l2 K (n,()) (0,0)) X.doubts ?_ ?_ Y (λ_=>by rw[Aa K n X Y];exact Ret.dec)).iff ?_
 ·intro rec i z;have Z:=X.by_ _ (BM z);have hl:=X.doubts;have y:Rnd (Q22.l1 K (n,()) rec ((i:Int),0,(aa.doubts n)[i].1,(aa.doubts n)[i].2.1,(aa.doubts n)[i].2.2.1,(aa.doubts n)[i].2.2.2)) (ByP n.1 (aa.doubts n)[i].2.2.2) (rec (wr .i64 ((i:Int)+1))):=by
   generalize (aa.doubts n)[i]=d at Z;refine (oR d.2.2.2 (step:=λu a=>Q22.s1 K (n,()) rec u a) (λk=>((i:Int),(k:Int),d.1,d.2.1,d.2.2.1,d.2.2.2))
    (λk r=>InP d.2.2.2[k] 0 7/\¬ ao d.2.2.2[k]≠ao n.1/\(0<k->¬ d.2.2.2[k-1]'(by omega)>=d.2.2.2[k])/\True) Z ?_ ?_ Y).iff ?_
   ·intro u k r;simp only[Q22.s1];rw[decide_eq_true (by omega:(k:Int)<(BK d.2.2.2:Int)),ar k (by omega)];simp only[cond_true];refine Rnd.ix (af r) (Rnd.nx (cC K _ _ _) λ_=>Rnd.ix (af r) (Rnd.vl (eJ K _) (Rnd.vl (eJ K _) (Rnd.cndN (by simp) λ_=>Rnd.two (λH=>?_) Rnd.end_))));rw[eX k H (by omega)];exact Rnd.ix (af (show k-1<d.2.2.2.length by omega)) (Rnd.ix (af r) (Rnd.cndN (by simp) λ_=>Rnd.end_))
   ·intro u;simp only[Q22.s1,aP];rfl
   ·rw[xh];constructor
    ·intro h k r;exact⟨⟨(h k r).1,BN.1 (h k r).2.1⟩,(h k r).2.2.1⟩
    ·intro h k r;exact⟨(h k r).1.1,BN.2 (h k r).1.2,(h k r).2,trivial⟩
  obtain⟨o,ho,O⟩:=fC K (aa.table n) (aa.doubts n)[i].1 X.table Y;simp only[Q22.s0];rw[decide_eq_true (show ((i:Int)<(BK (aa.doubts n):Int)) by omega)];simp only[cond_true];refine Rnd.ix (af z) (Rnd.vl O ?_);cases ho with
  |no h =>
   have R:¬ lI n (aa.doubts n)[i]:=λ⟨⟨f,O,e,_⟩,_⟩=>h f O e
   refine Rnd.two (λH=>?_) ?_
   ·rw[eX i H (by omega)];refine Rnd.ix (af (show i-1<(aa.doubts n).length by omega)) (Rnd.cndN (by simp) λ_=>?_);exact .inr ⟨R,rfl⟩
   ·exact .inr ⟨R,rfl⟩
  |at_ j M e =>
   have J:decide ((j:Int)<0)=false:=decide_eq_false (by omega);have I:lI n (aa.doubts n)[i]<->(¬ (aa.table n)[j].2.2.1≠2/\¬ (aa.table n)[j].2.1≠(aa.doubts n)[i].2.1/\InP (aa.doubts n)[i].2.2.1 0 n.2.2.2.2.2.1/\¬ (aa.doubts n)[i].2.2.2=[]/\ByP n.1 (aa.doubts n)[i].2.2.2):=by
    constructor
    ·rintro⟨⟨f,O,e1,e2,e3⟩,h2,h3,h4⟩;have:=gw hT.2 O (BM M) (e1.trans e.symm);subst this;exact⟨BN.2 e2,BN.2 e3,h2,h3,h4⟩
    ·rintro⟨e2,e3,h2,h3,h4⟩;exact⟨⟨_,BM M,e,BN.1 e2,BN.1 e3⟩,h2,h3,h4⟩
   refine Rnd.two (λH=>?_) ?_
   ·rw[eX i H (by omega)];refine Rnd.ix (af (show i-1<(aa.doubts n).length by omega)) (Rnd.cndN (by simp) λ_=>?_);simp only[J,cond_false];refine Rnd.iff ?_ I.symm;exact Rnd.ix (af M) (Rnd.cndN (by simp) λ_=>Rnd.ix (af M) (Rnd.cndN (by simp) λ_=>Rnd.nx (cC K _ _ _) λ_=>Rnd.cndN (oX _) λ_=>y))
   ·simp only[J,cond_false];refine Rnd.iff ?_ I.symm;exact Rnd.ix (af M) (Rnd.cndN (by simp) λ_=>Rnd.ix (af M) (Rnd.cndN (by simp) λ_=>Rnd.nx (cC K _ _ _) λ_=>Rnd.cndN (oX _) λ_=>y))
 ·intro rec;simp only[Q22.s0,aP];rfl
 ·rw[iG,dD,gM];constructor
  ·rintro⟨h1,h2⟩;exact⟨λi z=>(h1 i z).2,λi z H=>by have:=(h1 i z).1 H;omega,h2⟩
  ·rintro⟨h1,h2,h3⟩;exact⟨λi z=>⟨λH=>by have:=h2 i z H;omega,h1 i z⟩,h3⟩
theorem Ab (K:Nat)(n:aa)(Z:NB n)(S:List ag)(hS:S.length=(aa.doubts n).length)(hK:1048577<K):Ret (Q56.l1 K (n,()) (S,0))
  (∀ i (u:i<(aa.doubts n).length),(aa.doubts n)[i].1=(S[i]'(by omega)).1/\(aa.doubts n)[i].2.1=(S[i]'(by omega)).2.1/\InP (aa.doubts n)[i].2.2.1 0 n.2.2.2.2.2.1/\(aa.doubts n)[i].2.2.2≠[]/\ByP n.1 (aa.doubts n)[i].2.2.2):=by
 have hl:=Z.doubts;have I:=mc (step:=λrec a=>Q56.s1 K (n,()) (Q56.l2 K (n,()) rec) rec a) (aa.doubts n).length (λi=>(S,(i:Int)))
  (λi=>∀ u:i<(aa.doubts n).length,¬ (aa.doubts n)[i].1≠(S[i]'(by omega)).1/\¬ (aa.doubts n)[i].2.1≠(S[i]'(by omega)).2.1/\InP (aa.doubts n)[i].2.2.1 0 n.2.2.2.2.2.1/\¬ (aa.doubts n)[i].2.2.2=[]/\ByP n.1 (aa.doubts n)[i].2.2.2)
  (rb true) (rb false) ?_ ?_ (aa.doubts n).length K 0 (by omega) (by omega)
 ·rcases I with ⟨O,J⟩|⟨O,J⟩
  ·refine⟨true,J,iff_of_true rfl λi u=>?_⟩;obtain⟨R,X,M⟩:=O i (BS _) u u;exact⟨BN.1 R,BN.1 X,M⟩
  ·refine⟨false,J,iff_of_false (by simp) λh=>O λi _ u _=>?_⟩;obtain⟨R,X,M⟩:=h i u;exact⟨BN.2 R,BN.2 X,M⟩
 ·intro rec i u;have Y:=Z.by_ _ (BM u);have H:Rnd (Q56.l2 K (n,()) rec (S,(i:Int),(aa.doubts n)[i].2.2.2,(BK (aa.doubts n)[i].2.2.2:Int),0,(aa.doubts n)[i].1,(aa.doubts n)[i].2.1,(aa.doubts n)[i].2.2.1,(aa.doubts n)[i].2.2.2)) (ByP n.1 (aa.doubts n)[i].2.2.2) (rec (S,wr .i64 ((i:Int)+1))):=by
   generalize (aa.doubts n)[i]=d at Y;refine (oR d.2.2.2 (step:=λr a=>Q56.s2 K (n,()) rec r a) (λk=>(S,(i:Int),d.2.2.2,(BK d.2.2.2:Int),(k:Int),d.1,d.2.1,d.2.2.1,d.2.2.2))
    (λk z=>(InP d.2.2.2[k] 0 7/\ao d.2.2.2[k]=ao n.1)/\(0<k->¬ d.2.2.2[k]<=d.2.2.2[k-1]'(by omega))/\True) Y ?_ ?_ hK).iff ?_
   ·intro r k z;simp only[Q56.s2,zcp4];rw[decide_eq_true (by omega:(k:Int)<(BK d.2.2.2:Int)),ar k (by omega)];simp only[cond_true];refine Rnd.ix (af z) (Rnd.nx (xg K n _) λ_=>Rnd.two (λh0=>?_) Rnd.end_);rw[eX k h0 (by omega)];exact Rnd.ix (af (show k-1<d.2.2.2.length by omega)) (Rnd.cndN (by simp) λ_=>Rnd.end_)
   ·intro r;simp only[Q56.s2,zcp4,aP];rfl
   ·rw[xh];constructor
    ·intro h k z;exact⟨(h k z).1,(h k z).2.1⟩
    ·intro h k z;exact⟨(h k z).1,(h k z).2,trivial⟩
  have y:i<S.length:=by omega
  have hr:Rnd (Q56.s1 K (n,()) (Q56.l2 K (n,()) rec) rec (S,(i:Int)))
    (¬ (aa.doubts n)[i].1≠S[i].1/\¬ (aa.doubts n)[i].2.1≠S[i].2.1/\InP (aa.doubts n)[i].2.2.1 0 n.2.2.2.2.2.1/\¬ (aa.doubts n)[i].2.2.2=[]/\ByP n.1 (aa.doubts n)[i].2.2.2) (rec (S,((i+1:Nat):Int))):=by
   rw[<- ar i (by omega)];simp only[Q56.s1];rw[decide_eq_true (show ((i:Int)<(BK (aa.doubts n):Int)) by omega),Int.toNat_natCast];simp only[cond_true];exact Rnd.ix (af u) (Rnd.ix (af y) (Rnd.ix (af y) (Rnd.cndN (by simp) λ_=>Rnd.ix (af y) (Rnd.ix (af y) (Rnd.cndN (by simp) λ_=>Rnd.nx (fA K _ _ _) λ_=>Rnd.cndN (oX _) λ_=>H)))))
  exact hr.imp (λh=>⟨λ_=>h.1,h.2⟩) (λh=>⟨λJ=>h.1 (J u),h.2⟩)
 ·intro rec;simp only[Q56.s1,aP];rfl
theorem yL (K:Nat)(n:aa)(hn:NB n)(hT:ax (aa.table n))(hK:1048577<K):Ret (Q56.f K (n,())) (iG n):=by
 have hl:=hn.table;have a1:=hn.doubts;have X:∀ (d k i:Nat),i+d=(aa.table n).length->d<k->ae (λrec a=>Q56.s0 K (n,()) (Q56.l1 K (n,())) rec a) k (aV ((aa.table n).take i),(i:Int)) =
   (bif (BK (aa.doubts n):Int) != (BK (aV (aa.table n)):Int) then rb false else Q56.l1 K (n,()) (aV (aa.table n),0)):=by
  intro d;induction d with
  |zero =>
   intro k i y hk;obtain⟨k,rfl⟩:∃ Y,k=Y+1:=⟨k-1,by omega⟩;show Q56.s0 K (n,()) _ _ _=_;simp only[Q56.s0];rw[decide_eq_false (show ¬ ((i:Int)<(BK (aa.table n):Int)) by omega),BY (by omega)];rfl
  |succ d J =>
   intro k i y hk;obtain⟨k,rfl⟩:∃ Y,k=Y+1:=⟨k-1,by omega⟩;have J:=J k (i+1) (by omega) (by omega);have O:i<(aa.table n).length:=by omega
   show Q56.s0 K (n,()) _ _ _=_;simp only[Q56.s0];rw[decide_eq_true (show ((i:Int)<(BK (aa.table n):Int)) by omega),af O,ar i (by omega)];simp only[cond_true,BL];have e:aV ((aa.table n).take (i+1))=aV ((aa.table n).take i)++(if (aa.table n)[i].2.2.1==2 then [(aa.table n)[i]] else []):=by
    rw[aV,B5,BP O,List.filter_append];simp[aV,BW]
   cases hb:((aa.table n)[i].2.2.1==2) with
   |true =>
    rw[hb]at e;simp only[if_true]at e;simp only[cond_true];have a2:(aV ((aa.table n).take i)).length<=i:=Nat.le_trans (List.length_filter_le _ _) (by simp;omega);have hs:decide ((BK (aV ((aa.table n).take i))+BK [(aa.table n)[i]])*32<=ak)=true:=decide_eq_true (by simp only[ak,BZ];omega);rw[hs];rw[e]at J;exact J
   |false =>
    rw[hb]at e;simp only[BR,if_false,List.append_nil]at e;rw[e]at J;exact J
 have h0:Q56.f K (n,())=_:=X (aa.table n).length K 0 (by omega) (by omega);rw[h0];have z:∀ f∈aV (aa.table n),f∈aa.table n/\f.2.2.1=2:=λf H=>by
  rw[aV,B8]at H;exact⟨H.1,by simpa using H.2⟩
 have u:Asc (λf:ag=>f.1) (aV (aa.table n)):=List.Pairwise.filter _ hT.2;by_cases r:(aV (aa.table n)).length=(aa.doubts n).length
 ·have:((BK (aa.doubts n):Int) != (BK (aV (aa.table n)):Int))=false:=by simp[r]
  rw[this];refine (Ab K n hn _ r hK).iff ⟨λh=>⟨?_,?_,r⟩,λ⟨h1,h2,_⟩ i y=>?_⟩
  ·rw[dD];intro i y;obtain⟨R,h4,Z,h6,h7⟩:=h i y;obtain⟨h8,h9⟩:=z _ (BM (show i<(aV (aa.table n)).length by omega));exact⟨⟨_,h8,R.symm,h9,h4.symm⟩,Z,h6,h7⟩
  ·rw[dn]at u ⊢;intro i j y hj a0;have:=u i j (by omega) (by omega) a0;rw[(h i y).1,(h j hj).1];exact this
  ·have I:=jj ((aa.doubts n).map (·.1)) ((aV (aa.table n)).map (·.1)) (by rw[BV];exact h2) (by rw[BV];exact u) (by
    intro x hx;obtain⟨d,hd,rfl⟩:=CA.1 hx;obtain⟨⟨f,H,e1,e2,_⟩,_⟩:=h1 d hd;exact CA.2 ⟨f,by rw[aV,B8];exact⟨H,by simpa using e2⟩,e1⟩)
   have I:=I.2 (by simp[r]);have M:i<(aV (aa.table n)).length:=by omega
   have e:(aa.doubts n)[i].1=(aV (aa.table n))[i].1:=by
    have R:((aa.doubts n).map (·.1))[i]?=((aV (aa.table n)).map (·.1))[i]?:=by rw[I]
    rw[B6,B6,BP y,BP M]at R;simpa using R
   obtain⟨⟨f,H,e1,e2,e3⟩,h4,Z,h6⟩:=h1 _ (BM y);have:=gw hT.2 H (z _ (BM M)).1 (e1.trans e);subst this;exact⟨e,e3.symm,h4,Z,h6⟩
 ·have:((BK (aa.doubts n):Int) != (BK (aV (aa.table n)):Int))=true:=by simp;omega
  rw[this];exact Ret.no (λh=>r h.2.2)
def pC (n:aa):Prop:=n.2.2.1=false/\n.2.2.2.2.1=0/\n.2.2.2.2.2.1=0/\n.2.2.2.2.2.2.1=0/\n.2.2.2.2.2.2.2.1=0 /\
 wr .i64 (wr .i64 (wr .i64 (wr .i64 ((BK (aa.table n):Int)+(BK (aa.cast n):Int))+(BK (aa.doubts n):Int))+(BK (aa.places n):Int))+(BK (aa.others n):Int))=0 /\
 aa.probe n=(0,0,0,false)/\aa.coord n=(0,0,0,0)
def UpP (n:aa):Prop:=ax (aa.table n)/\cf (aa.table n) (ao n.1)/\cK n/\(cQ (aa.cast n)/\gZ (aa.table n) (aa.cast n))/\cW n/\iG n/\cD (aa.coord n)/\ey n.1 (aa.places n)/\c8 n.1 (aa.others n)
def gb (n:aa):Prop:=InP n.1 0 7/\InP n.2.2.2.2.2.1 0 999999/\InP n.2.2.2.2.2.2.1 0 999999/\InP n.2.2.2.2.2.2.2.1 0 8/\InP n.2.2.2.2.1 0 999/\(if n.2.1=true then UpP n else pC n)
theorem yM (K:Nat)(n:aa)(u:NB n)(r:1048577<K):Ret (Q26.f K (n,())) (gb n):=by
 refine Ret.nx (cC K _ _ _) λ_=>Ret.nx (cC K _ _ _) λ_=>Ret.nx (cC K _ _ _) λ_=>Ret.nx (cC K _ _ _) λ_=>Ret.nx (cC K _ _ _) λ_=>?_
 dsimp only;cases O:n.2.1 with
 |false =>
  simp only[B3,cond_true,BR,if_false,pC];refine Ret.cnd (by simp) λ_=>Ret.cnd (by simp) λ_=>Ret.cnd (by simp) λ_=>Ret.cnd (by simp) λ_=>Ret.cnd (by simp) λ_=>Ret.cnd (by simp) λ_=>?_
  refine Ret.iff (Ret.cnd (P:=(aa.probe n).1=0) (by simp) λ_=>Ret.cnd (P:=(aa.probe n).2.1=0) (by simp) λ_=>Ret.cnd (P:=(aa.probe n).2.2.1=0) (by simp) λ_=>Ret.cnd (P:=(aa.probe n).2.2.2=false) (by simp) λ_ =>
   Ret.cnd (P:=(aa.coord n).1=0) (by simp) λ_=>Ret.cnd (P:=(aa.coord n).2.1=0) (by simp) λ_=>Ret.cnd (P:=(aa.coord n).2.2.1=0) (by simp) λ_=>Ret.of (P:=(aa.coord n).2.2.2=0) (by simp)) ?_
  generalize aa.probe n=p;generalize aa.coord n=c;obtain⟨z,X,J,H⟩:=p;obtain⟨M,R,I,Y⟩:=c;simp only[B4];constructor
  ·rintro⟨h1,h2,h3,h4,h5,h6,h7,h8⟩;exact⟨⟨h1,h2,h3,h4⟩,h5,h6,h7,h8⟩
  ·rintro⟨⟨h1,h2,h3,h4⟩,h5,h6,h7,h8⟩;exact⟨h1,h2,h3,h4,h5,h6,h7,h8⟩
 |true =>
  simp only[BO,cond_false,if_true,UpP];exact Ret.px (gr K _ u.table r) λy=>Ret.vl (eJ K _) (Ret.px (gu K _ _ u.table r) λ_=>Ret.px (AY K n u y r) λ_=>Ret.px (uh K n u y r) λ_=>Ret.px (z7 K n u r) λ_ =>
   Ret.px (yK K n u y r) λ_=>Ret.px (iF K _) λ_=>Ret.px (yG K n u r) λ_=>(yI K n u r).id)
theorem Bb (K:Nat)(n:aa):Ret (Q29.f K (n,())) (pC n):=by
 simp only[Q29.f,hH,pB,pC];exact Ret.cnd (by simp) λ_=>Ret.cnd (by simp) λ_=>Ret.cnd (by simp) λ_=>Ret.cnd (by simp) λ_=>Ret.cnd (by simp) λ_=>Ret.cnd (by simp) λ_=>Ret.cnd (by simp) λ_=>Ret.dec
theorem sN (K:Nat)(n:aa)(u:NB n)(r:1048577<K):Ret (Q64.f K (n,())) (gb n):=by
 refine Ret.nx (oS K _) λ_=>Ret.nx (fA K _ _ _) λ_=>Ret.nx (fA K _ _ _) λ_=>Ret.nx (fA K _ _ _) λ_=>Ret.nx (fA K _ _ _) λ_=>?_
 dsimp only;cases z:n.2.1 with
 |false =>
  simp only[B3,cond_true,BR,if_false];exact (Bb K n).id
 |true =>
  simp only[BO,cond_false,if_true,UpP];refine Ret.iff (Ret.px (qu K n u r) λy=>Ret.px (z8 K n u y.1 r) λ_=>Ret.px (yL K n u y.1 r) λ_=>Ret.px (qv K _) λ_=>Ret.px (yH K n u r) λ_=>(yJ K n u r).id) ?_;constructor
  ·rintro⟨⟨h1,h2,h3,h4,h5⟩,h6,h7,h8,h9,h10⟩;exact⟨h1,h2,h3,⟨h4,h5⟩,h6,h7,h8,h9,h10⟩
  ·rintro⟨h1,h2,h3,⟨h4,h5⟩,h6,h7,h8,h9,h10⟩;exact⟨⟨h1,h2,h3,h4,h5⟩,h6,h7,h8,h9,h10⟩
theorem ez {A R:Type}{step:(A->Option R)->A->Option R}(n:Nat)(S:Nat->A)(rt:Option R)(h:∀ (rec:A->Option R) (i:Nat),i<n->step rec (S i)=rec (S (i+1)))(r:∀ rec:A->Option R,step rec (S n)=rt)
  {k:Nat} (z:n<k):ae step k (S 0)=rt:=by
 rcases mc (step:=step) n S (λ_=>True) rt none (λrec i y=>.inl ⟨trivial,h rec i y⟩) r n k 0 (by omega) z with ⟨_,u⟩|⟨u,_⟩
 ·exact u
 ·exact absurd (λ_ _ _=>trivial) u
def Szd (o:Option ((Int×Unit)×Unit))(left:Int)(Q:Prop):Prop:=∃ r,o=some ((r,()),())/\(r<0\/(0<=r/\r<=left/\Q))
theorem Szd.sub (left:Int)(n:Nat)(I:0<=left)(M:left<=1048576)(J:n<=9223372036854775807){g:Option ((Int×Unit)×Unit)}{Q:Prop}(H:wr .i64 (left-(n:Int))=left-n->(n:Int)<=left->Szd g (left-n) Q) :
  Szd (bif decide (wr .i64 (left-(n:Int))<0) then some ((-1,()),()) else g) left (n<=1048576/\Q):=by
 have e:wr .i64 (left-(n:Int))=left-n:=aA (by omega) (by omega);by_cases h:left-(n:Int)<0
 ·rw[e,decide_eq_true h];exact⟨-1,rfl,.inl (by decide)⟩
 ·rw[decide_eq_false (by rw[e];exact h)];obtain⟨r,z,y⟩:=H e (by omega);exact⟨r,z,y.imp id λu=>⟨u.1,by omega,by omega,u.2.2⟩⟩
theorem Szd.bind {o:Option ((Int×Unit)×Unit)}{left:Int}{P Q:Prop}{G:(Int×Unit)×Unit->Option ((Int×Unit)×Unit)}(h:Szd o left P)(R:∀ r,0<=r->r<=left->P->Szd (G ((r,()),())) r Q) :
  Szd (o.bind λy=>bif decide (y.1.1<0) then some ((-1,()),()) else G y) left (P/\Q):=by
 obtain⟨r,M,u⟩:=h;rw[M,BL];rcases u with u|⟨u,X,z⟩
 ·rw[decide_eq_true u];exact⟨-1,rfl,.inl (by decide)⟩
 ·rw[show decide (r<0)=false from decide_eq_false (by omega)];obtain⟨O,I,J⟩:=R r u X z;exact⟨O,I,J.imp id λH=>⟨H.1,by omega,z,H.2.2⟩⟩
theorem Szd.ret (r:Int)(h:0<=r):Szd (some ((r,()),())) r True:=⟨r,rfl,.inr ⟨h,Int.le_refl _,trivial⟩⟩
theorem Szd.iff {o:Option ((Int×Unit)×Unit)}{left:Int}{P Q:Prop}(h:Szd o left P)(e:P->Q):Szd o left Q:=by
 obtain⟨r,z,y⟩:=h;exact⟨r,z,y.imp id λu=>⟨u.1,u.2.1,e u.2.2⟩⟩
end Go.Proofs.YtaegajachoklkaaGreatEv
