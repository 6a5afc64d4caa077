/- What is ok of facts, tables, casts: the program and the specification say the same. -/
import Derived.Test.YtaelpfghkndliaaGreatFns
import Derived.Test.YtaelpfghkndliaaGreatP0
set_option linter.unusedVariables false
set_option linter.unusedSimpArgs false
open Bool renaming not_true->BE,false_eq_true->BH,not_false->BQ
open Classical renaming not_not->BD
open Int renaming natCast_nonneg->BJ
open List renaming length->BA,getElem_mem->BC,getElem?_eq_getElem->BF,getElem_of_mem->BG,drop_eq_getElem_cons->BK,pairwise_map->BL,filter_cons->BM,drop_of_length_le->BN,take_of_length_le->BO,length_singleton->BP,take_add_one->BS,getElem?_map->BT,mem_filter->BV,drop_zero->BW,mem_map->BX
open Nat renaming zero_le->BI,le_refl->BU
open Option renaming bind_some->BB
open Prod.mk renaming injEq->BR
namespace Go.Proofs.YtaelpfghkndliaaGreatEv
open Go
abbrev InP (n r u:Int):Prop:=r<=n/\n<=u
theorem eH (K:Nat)(n r u:Int):Ret (Q64.f K (n,r,u,())) (InP n r u):=by
 simp only[Q64.f];exact Ret.cnd (by simp) λ_=>Ret.dec
theorem cF (K:Nat)(n r u:Int):Ret (Q11.f K (n,r,u,())) (InP n r u):=by
 simp only[Q11.f];exact Ret.cnd (by simp) λ_=>Ret.dec
theorem Ret.id {o:Option RB}{P:Prop}(h:Ret o P):Ret (o.bind λy=>some ((y.1.1,()),())) P:=by
 obtain⟨b,r,u⟩:=h;exact⟨b,by rw[r];rfl,u⟩
theorem Ret.neg {o:Option RB}{P:Prop}(h:Ret o P):Ret (o.bind λy=>some ((!y.1.1,()),())) (¬ P):=by
 obtain⟨b,r,u⟩:=h;exact⟨!b,by rw[r];rfl,by cases b <;> simp_all⟩
def bk (f:ag):Prop:=InP f.1 0 7/\InP f.2.1 0 999/\InP f.2.2.1 1 4
theorem i9 (K:Nat)(n:Int):Ret (Q65.f K (n,())) (InP n 0 7):=(eH K n 0 7).id
theorem lT (K:Nat)(f:ag):Ret (Q67.f K (f,())) (bk f) :=
 Ret.and (i9 K f.1) (λ_=>Ret.and (eH K f.2.1 0 999) (λ_=>(eH K f.2.2.1 1 4).id) rfl) rfl
theorem oO (K:Nat)(f:ag):Ret (Q12.f K (f,())) (bk f) :=
 Ret.and (cF K f.1 0 7) (λ_=>Ret.and (cF K f.2.1 0 999) (λ_=>(cF K f.2.2.1 1 4).id) rfl) rfl
def aA (t:List ag):Prop:=(∀ f∈t,bk f)/\Asc (λf:ag=>f.1) t
theorem sx {t:List ag}:aA t<->∀ j,j<t.length->∃ h:j<t.length,bk t[j]/\(0<j->(t[j-1]'(by omega)).1<t[j].1):=by
 unfold aA;rw[dE,gJ];constructor
 ·rintro⟨h1,h2⟩ j hj;exact⟨hj,h1 j hj,λr=>h2 j hj r⟩
 ·intro h;exact⟨λi u=>(h i u).2.1,λi u r=>(h i u).2.2 r⟩
theorem eU {P:Prop}:(P/\True)<->P:=by simp
theorem gm (K:Nat)(t:List ag)(J:t.length<=1048576)(M:1048577<K):Ret (Q13.f K (t,())) (aA t):=by
 refine Ret.iff (qn (step:=λrec a=>Q13.s0 K (t,()) rec a) t.length (λi=>(i:Int)) (λj=>∃ h:j<t.length,bk t[j]/\(0<j->(t[j-1]'(by omega)).1<t[j].1)) (Q:=True) (rt:=rb true) ?_ ?_ (by omega) (λ_=>Ret.yes trivial)) (eU.trans sx.symm)
 ·intro rec i u;simp only[Q13.s0];rw[decide_eq_true (by omega:(i:Int)<(BA t:Int)),af u,ar i (by omega)];simp only[cond_true,BB];obtain⟨b,I,y⟩:=oO K t[i];rw[I];simp only[BB];cases b with
  |false=>exact .inr ⟨λ⟨_,r,_⟩=>by simpa using y.2 r,rfl⟩
  |true =>
   simp only[BE,cond_false];by_cases z:(i:Int)>0
   ·rw[decide_eq_true z,eO i (by omega) (by omega),af (by omega:i-1<t.length)];simp only[cond_true,BB];by_cases r:(t[i-1]'(by omega)).1>=t[i].1
    ·rw[decide_eq_true r];exact .inr ⟨λ⟨_,_,H⟩=>by have:=H (by omega);omega,rfl⟩
    ·rw[decide_eq_false r];exact .inl ⟨⟨u,y.1 rfl,λ_=>by omega⟩,rfl⟩
   ·rw[decide_eq_false z];exact .inl ⟨⟨u,y.1 rfl,λ_=>by omega⟩,rfl⟩
 ·intro rec;simp only[Q13.s0];rw[decide_eq_false (by omega:¬ ((t.length:Int)<(BA t:Int)))];rfl
theorem gn (K:Nat)(t:List ag)(J:t.length<=1048576)(M:1048577<K):Ret (Q68.f K (t,())) (aA t):=by
 refine Ret.iff (qn (step:=λrec a=>Q68.s0 K (t,()) rec a) t.length (λi=>(i:Int)) (λj=>∃ h:j<t.length,bk t[j]/\(0<j->(t[j-1]'(by omega)).1<t[j].1)) (Q:=True) (rt:=rb true) ?_ ?_ (by omega) (λ_=>Ret.yes trivial)) (eU.trans sx.symm)
 ·intro rec i u;simp only[Q68.s0];rw[decide_eq_true (by omega:(i:Int)<(BA t:Int)),af u,ar i (by omega)];simp only[cond_true,BB];obtain⟨b,I,y⟩:=lT K t[i];rw[I];simp only[BB];cases b with
  |false=>exact .inr ⟨λ⟨_,r,_⟩=>by simpa using y.2 r,rfl⟩
  |true =>
   simp only[BE,cond_false];by_cases z:(i:Int)>0
   ·rw[decide_eq_true z,eO i (by omega) (by omega),af (by omega:i-1<t.length)];simp only[cond_true,BB];by_cases r:t[i].1<=(t[i-1]'(by omega)).1
    ·rw[decide_eq_true r];exact .inr ⟨λ⟨_,_,H⟩=>by have:=H (by omega);omega,rfl⟩
    ·rw[decide_eq_false r];exact .inl ⟨⟨u,y.1 rfl,λ_=>by omega⟩,rfl⟩
   ·rw[decide_eq_false z];exact .inl ⟨⟨u,y.1 rfl,λ_=>by omega⟩,rfl⟩
 ·intro rec;simp only[Q68.s0];rw[decide_eq_false (by omega:¬ ((t.length:Int)<(BA t:Int)))];rfl
inductive vq (t:List ag) (node:Int):Option Nat->Prop where
 |at_ (i:Nat) (h:i<t.length) (e:t[i].1=node):vq t node (some i)
 |no (h:∀ f∈t,f.1≠node):vq t node none
theorem fh (K:Nat)(t:List ag)(r:Int)(J:t.length<=1048576)(M:1048577<K) :
  ∃ o,vq t r o/\Q16.f K (t,r,())=some (((match o with|some i=>((i:Nat):Int)|none=>-1),()),()):=by
 have:=cq (step:=λrec a=>Q16.s0 K (t,r,()) rec a) t.length (λi=>(i:Int)) (λj=>∃ h:j<t.length,t[j].1=r) (some ((-1,()),())) (λj=>some ((((j:Nat):Int),()),())) ?_ ?_ t.length K 0 (by omega) (by omega)
 ·rcases this with ⟨y,z⟩|⟨j,_,y,⟨H,I⟩,_,z⟩
  ·refine⟨none,.no ?_,z⟩;rw[dE];exact λi u e=>y i (BI _) u ⟨u,e⟩
  ·exact⟨some j,.at_ j H I,z⟩
 ·intro rec i u;simp only[Q16.s0];rw[decide_eq_true (by omega:(i:Int)<(BA t:Int)),af u,ar i (by omega)];simp only[cond_true,BB];by_cases h:t[i].1=r
  ·right;refine⟨⟨u,h⟩,?_⟩;have:(t[i].1==r)=true:=by simpa using h
   rw[this];rfl
  ·left;refine⟨λ⟨_,y⟩=>h y,?_⟩;have:(t[i].1==r)=false:=by simpa using h
   rw[this];rfl
 ·intro rec;simp only[Q16.s0];rw[decide_eq_false (by omega:¬ ((t.length:Int)<(BA t:Int)))];rfl
def fj (a b:Int):Int:=if a<b then -1 else if a>b then 1 else 0
theorem nG (K:Nat)(a b:Int):Q71.f K (a,b,())=some ((fj a b,()),()):=by
 have y:∀ x:Int,Q70.f K (x,())=rb false:=λx=>by simp[Q70.f]
 simp only[Q71.f,y,BB,cond_false,fj];by_cases r:a<b
 ·rw[decide_eq_true r,if_pos r];rfl
 ·rw[decide_eq_false r,if_neg r];by_cases u:a>b
  ·rw[decide_eq_true u,if_pos u];rfl
  ·rw[decide_eq_false u,if_neg u];rfl
theorem sy (a b:Int):fj a b<0<->a<b:=by
 unfold fj;by_cases r:a<b
 ·simp[r]
 ·by_cases u:a>b <;> simp[r,u]
theorem uD (a b:Int):fj a b>0<->a>b:=by
 unfold fj;by_cases r:a<b
 ·simp[r];omega
 ·by_cases u:a>b <;> simp[r,u]
theorem ib (a b:Int):fj a b=0<->a=b:=by
 unfold fj;by_cases r:a<b
 ·simp[r];omega
 ·by_cases u:a>b <;> simp[r,u] <;> omega
structure Cut (t:List ag) (node:Int) (m:Nat):Prop where
 le:m<=t.length
 lo:∀ i,(h:i<t.length)->i<m->t[i].1<node
 hi:∀ i,(h:i<t.length)->m<=i->node<=t[i].1
theorem sA (K:Nat)(t:List ag)(r:Int)(ht:t.length<=1048576)(J:Asc (λf:ag=>f.1) t)(hK:1048577<K) :
  ∃ m,Cut t r m/\Q73.f K (t,r,())=some ((((m:Nat):Int),decide (∃ h:m<t.length,t[m].1=r),()),()):=by
 let ks:Nat->Int:=λi=>if h:i<t.length then t[i].1 else 0
 have u:∀ i (h:i<t.length),ks i=t[i].1:=λi h=>by simp[ks,h]
 let H:Nat->Option ((Int×Bool×Unit)×Unit):=λm=>some ((((m:Nat):Int),decide (∃ h:m<t.length,t[m].1=r),()),())
 have X:∀ f:ag,((Q72.f K (f,r,())).map λy=>y.1.1)=some (fj f.1 r):=λf=>by
  simp only[Q72.f];rw[nG];rfl
 have:=pw (step:=λrec a=>Q69.s0 K (t,r,(λM=>(Q72.f K (M.1,M.2.1,())).map λy=>y.1.1),()) rec a) (ks:=ks) (n:=t.length) (t:=r) H ht
  (λi j R Z=>by
   rw[u i (by omega),u j Z];exact cC.1 J i j (by omega) Z R) ?_ ?_ t.length K 0 t.length (by omega) (BI _) (BU _) (by omega) (λi I=>by omega) (λi I hn=>by omega)
 ·obtain⟨m,z,O,h3,h4⟩:=this;refine⟨m,⟨z,λi h I=>by rw[<- u i h];exact O i I,λi h I=>by rw[<- u i h];exact h3 i I h⟩,?_⟩;simp only[Q73.f];have e:Q69.f K (t,r,(λM=>(Q72.f K (M.1,M.2.1,())).map λy=>y.1.1),())=H m:=h4;rw[e];rfl
 ·intro rec a b a0 hb;have Y:(a+b) / 2<t.length:=by omega
  simp only[Q69.s0];rw[decide_eq_true (by omega:(a:Int)<(b:Int)),nF (by omega)];simp only[cond_true];rw[af Y];simp only[BB,X];rw[u _ Y,ar _ (by omega)];by_cases h:t[(a+b) / 2].1<r
  ·rw[if_pos h,decide_eq_true ((sy _ _).2 h)];rfl
  ·rw[if_neg h,decide_eq_false (λz=>h ((sy _ _).1 z))];rfl
 ·intro rec a ha;simp only[Q69.s0];rw[decide_eq_false (by omega)];simp only[cond_false];by_cases h:a<t.length
  ·rw[decide_eq_true (by omega:(a:Int)<(BA t:Int)),af h];simp only[cond_true,BB,X,H];congr 3;by_cases z:t[a].1=r
   ·have:(fj t[a].1 r==0)=true:=by simpa using (ib t[a].1 r).2 z
    rw[this,decide_eq_true ⟨h,z⟩]
   ·have:(fj t[a].1 r==0)=false:=by
     rw[beq_eq_false_iff_ne];exact λe=>z ((ib _ _).1 e)
    rw[this,decide_eq_false (λ⟨_,O⟩=>z O)]
  ·rw[decide_eq_false (by omega)];simp only[cond_false,H];rw[decide_eq_false (λ⟨z,_⟩=>h z)]
def am (n:Int):Int:=wr .i64 (Int.tdiv n 4)
theorem dj (K:Nat)(n:Int):Q15.f K (n,())=some ((am n,()),()):=rfl
theorem mH (K:Nat)(n:Int):Q77.f K (n,())=some ((am n,()),()):=rfl
theorem nH (K:Nat)(n:aa):Q80.f K (n,())=some ((am n.1,()),()):=rfl
abbrev aa.table (n:aa):List ag:=n.2.2.2.2.2.2.2.2.1
abbrev aa.cast (n:aa):List aL:=n.2.2.2.2.2.2.2.2.2.1
abbrev aa.probe (n:aa):ag:=n.2.2.2.2.2.2.2.2.2.2.1
abbrev aa.doubts (n:aa):List bN:=n.2.2.2.2.2.2.2.2.2.2.2.1
abbrev aa.coord (n:aa):dz:=n.2.2.2.2.2.2.2.2.2.2.2.2.1
abbrev aa.places (n:aa):List dI:=n.2.2.2.2.2.2.2.2.2.2.2.2.2.1
abbrev aa.others (n:aa):List bY:=n.2.2.2.2.2.2.2.2.2.2.2.2.2.2
structure NB (n:aa):Prop where
 table:(aa.table n).length<=1048576
 cast:(aa.cast n).length<=1048576
 doubts:(aa.doubts n).length<=1048576
 by_:∀ d∈aa.doubts n,d.2.2.2.length<=1048576
 places:(aa.places n).length<=1048576
 trips:∀ p∈aa.places n,p.2.2.length<=1048576
 others:(aa.others n).length<=1048576
 facts:∀ x∈aa.others n,x.2.length<=1048576
def ca (t:List ag)(s:Int):Prop:=∀ f∈t,am f.1=s
theorem eY (K:Nat)(t:List ag)(s:Int)(u:t.length<=1048576)(y:1048577<K):Ret (Q14.f K (t,s,())) (ca t s):=by
 refine (gl t (step:=λrec a=>Q14.s0 K (t,s,()) rec a) (λi r=>¬ am t[i].1≠s) u ?_ ?_ y (λ_=>Ret.yes trivial)).iff (eU.trans ?_)
 ·intro rec i r;simp only[Q14.s0];rw[decide_eq_true (by omega:(i:Int)<(BA t:Int))];exact Rnd.ix (af r) ((Rnd.cndN (P:=am t[i].1≠s) (by simp[am]) (λ_=>Rnd.end_)).iff (by simp))
 ·intro rec;simp only[Q14.s0];rw[decide_eq_false (by omega:¬ ((t.length:Int)<(BA t:Int)))];rfl
 ·rw[ca,dE];exact⟨λh i r=>BD.1 (h i r),λh i r=>BD.2 (h i r)⟩
theorem wN (K:Nat)(t:List ag)(y:ag×Unit->Option Bool)(p:ag->Prop)(R:t.length<=1048576)(X:1048577<K)(hφ:∀ f∈t,∃ b,y (f,())=some b/\(b=true<->p f)) :
  Ret (Q76.f K (t,y,())) (∃ f∈t,p f):=by
 have:=cq (step:=λrec a=>Q75.s0 K (t,y,()) rec a) t.length (λi=>(i:Int)) (λj=>∃ h:j<t.length,p t[j]) (some ((-1,()),())) (λj=>some ((((j:Nat):Int),()),())) ?_ ?_ t.length K 0 (by omega) (by omega)
 ·simp only[Q76.f];rcases this with ⟨z,u⟩|⟨j,_,z,⟨I,M⟩,_,u⟩
  ·have e:Q75.f K (t,y,())=some ((-1,()),()):=u;rw[e];refine Ret.of ?_;simp only[ge_iff_le,decide_eq_true_eq];refine⟨λh=>absurd h (by decide),λ⟨f,J,O⟩=>?_⟩;obtain⟨i,r,H⟩:=BG J;exact absurd ⟨r,H ▸ O⟩ (z i (BI _) r)
  ·have e:Q75.f K (t,y,())=some ((((j:Nat):Int),()),()):=u;rw[e];refine Ret.of ?_;simp only[ge_iff_le,decide_eq_true_eq];exact⟨λ_=>⟨t[j],BC I,M⟩,λ_=>BJ j⟩
 ·intro rec i r;simp only[Q75.s0];rw[decide_eq_true (by omega:(i:Int)<(BA t:Int)),af r,ar i (by omega)];simp only[cond_true,BB];obtain⟨b,z,u⟩:=hφ t[i] (BC r);rw[z];simp only[BB];cases b with
  |true=>exact .inr ⟨⟨r,u.1 rfl⟩,rfl⟩
  |false=>exact .inl ⟨λ⟨_,h⟩=>by simpa using u.2 h,rfl⟩
 ·intro rec;simp only[Q75.s0];rw[decide_eq_false (by omega:¬ ((t.length:Int)<(BA t:Int)))];rfl
theorem qR (K:Nat)(t:List aL)(y:aL×Unit->Option Bool)(p:aL->Prop)(R:t.length<=1048576)(X:1048577<K)(hφ:∀ f∈t,∃ b,y (f,())=some b/\(b=true<->p f)) :
  Ret (Q82.f K (t,y,())) (∃ f∈t,p f):=by
 have:=cq (step:=λrec a=>Q81.s0 K (t,y,()) rec a) t.length (λi=>(i:Int)) (λj=>∃ h:j<t.length,p t[j]) (some ((-1,()),())) (λj=>some ((((j:Nat):Int),()),())) ?_ ?_ t.length K 0 (by omega) (by omega)
 ·simp only[Q82.f];rcases this with ⟨z,u⟩|⟨j,_,z,⟨I,M⟩,_,u⟩
  ·have e:Q81.f K (t,y,())=some ((-1,()),()):=u;rw[e];refine Ret.of ?_;simp only[ge_iff_le,decide_eq_true_eq];refine⟨λh=>absurd h (by decide),λ⟨f,J,O⟩=>?_⟩;obtain⟨i,r,H⟩:=BG J;exact absurd ⟨r,H ▸ O⟩ (z i (BI _) r)
  ·have e:Q81.f K (t,y,())=some ((((j:Nat):Int),()),()):=u;rw[e];refine Ret.of ?_;simp only[ge_iff_le,decide_eq_true_eq];exact⟨λ_=>⟨t[j],BC I,M⟩,λ_=>BJ j⟩
 ·intro rec i r;simp only[Q81.s0];rw[decide_eq_true (by omega:(i:Int)<(BA t:Int)),af r,ar i (by omega)];simp only[cond_true,BB];obtain⟨b,z,u⟩:=hφ t[i] (BC r);rw[z];simp only[BB];cases b with
  |true=>exact .inr ⟨⟨r,u.1 rfl⟩,rfl⟩
  |false=>exact .inl ⟨λ⟨_,h⟩=>by simpa using u.2 h,rfl⟩
 ·intro rec;simp only[Q81.s0];rw[decide_eq_false (by omega:¬ ((t.length:Int)<(BA t:Int)))];rfl
theorem x6 (K:Nat)(t:List Int)(y:Int×Unit->Option Bool)(p:Int->Prop)(R:t.length<=1048576)(X:1048577<K)(hφ:∀ f∈t,∃ b,y (f,())=some b/\(b=true<->p f)) :
  Ret (Q98.f K (t,y,())) (∃ f∈t,p f):=by
 have:=cq (step:=λrec a=>Q97.s0 K (t,y,()) rec a) t.length (λi=>(i:Int)) (λj=>∃ h:j<t.length,p t[j]) (some ((-1,()),())) (λj=>some ((((j:Nat):Int),()),())) ?_ ?_ t.length K 0 (by omega) (by omega)
 ·simp only[Q98.f];rcases this with ⟨z,u⟩|⟨j,_,z,⟨I,M⟩,_,u⟩
  ·have e:Q97.f K (t,y,())=some ((-1,()),()):=u;rw[e];refine Ret.of ?_;simp only[ge_iff_le,decide_eq_true_eq];refine⟨λh=>absurd h (by decide),λ⟨f,J,O⟩=>?_⟩;obtain⟨i,r,H⟩:=BG J;exact absurd ⟨r,H ▸ O⟩ (z i (BI _) r)
  ·have e:Q97.f K (t,y,())=some ((((j:Nat):Int),()),()):=u;rw[e];refine Ret.of ?_;simp only[ge_iff_le,decide_eq_true_eq];exact⟨λ_=>⟨t[j],BC I,M⟩,λ_=>BJ j⟩
 ·intro rec i r;simp only[Q97.s0];rw[decide_eq_true (by omega:(i:Int)<(BA t:Int)),af r,ar i (by omega)];simp only[cond_true,BB];obtain⟨b,z,u⟩:=hφ t[i] (BC r);rw[z];simp only[BB];cases b with
  |true=>exact .inr ⟨⟨r,u.1 rfl⟩,rfl⟩
  |false=>exact .inl ⟨λ⟨_,h⟩=>by simpa using u.2 h,rfl⟩
 ·intro rec;simp only[Q97.s0];rw[decide_eq_false (by omega:¬ ((t.length:Int)<(BA t:Int)))];rfl
theorem Ret.fn {o:Option RB}{P:Prop}(h:Ret o P):∃ b,(o.map λy=>y.1.1)=some b/\(b=true<->P):=by
 obtain⟨b,r,u⟩:=h;exact⟨b,by rw[r];rfl,u⟩
theorem ic (K:Nat)(t:List ag)(s:Int)(H:t.length<=1048576)(I:1048577<K):Ret (Q79.f K (t,s,())) (ca t s):=by
 refine (Ret.neg (wN K t (λz=>(Q78.f K (z.1,s,())).map λy=>y.1.1) (λf=>am f.1≠s) H I (λf _=>?_))).iff ?_
 ·exact⟨_,rfl,by simp[am]⟩
 ·exact⟨λh f r=>BD.1 λu=>h ⟨f,r,u⟩,λh ⟨f,r,u⟩=>u (h f r)⟩
theorem js (K:Nat)(t:List ag)(r:Int)(J:t.length<=1048576)(M:1048577<K) :
  (¬ aA t/\Q74.f K (t,r,())=some (((0,(0,(0,false))),false,()),())) \/
  (aA t/\((∃ f∈t,f.1=r/\Q74.f K (t,r,())=some ((f,true,()),()))\/((∀ f∈t,f.1≠r)/\Q74.f K (t,r,())=some (((0,(0,(0,false))),false,()),())))):=by
 simp only[Q74.f];obtain⟨b,X,I⟩:=gn K t J M;rw[X];simp only[BB];cases b with
 |false=>exact .inl ⟨λh=>by simpa using I.2 h,rfl⟩
 |true =>
  have z:=I.1 rfl;obtain⟨m,O,R⟩:=sA K t r J z.2 M;refine .inr ⟨z,?_⟩;simp only[BE,cond_false,R,BB];by_cases h:∃ h:m<t.length,t[m].1=r
  ·rw[decide_eq_true h];obtain⟨u,H⟩:=h;left;refine⟨t[m],BC u,H,?_⟩;simp only[BE,cond_false];rw[af u];rfl
  ·rw[decide_eq_false h];right;refine⟨?_,rfl⟩;rw[dE];intro i y e;rcases Nat.lt_trichotomy i m with u|u|u
   ·have:=O.lo i y u;omega
   ·subst u;exact h ⟨y,e⟩
   ·have H:=O.hi m (by omega) (BU _);have Y:=cC.1 z.2 m i (by omega) y u;omega
def bI (f g:ag):Prop:=if f.2.1≠g.2.1 then f.2.1>g.2.1 else if f.2.2.1≠g.2.2.1 then f.2.2.1>g.2.2.1 else f.2.2.2=true/\g.2.2.2=false
theorem sC (K:Nat)(f g:ag):Ret (Q19.f K (f,g,())) (bI f g):=by
 simp only[Q19.f,bI];by_cases r:f.2.1=g.2.1
 ·have e:(f.2.1 != g.2.1)=false:=by simpa using r
  rw[e,if_neg (by simpa using r)];by_cases u:f.2.2.1=g.2.2.1
  ·have e:(f.2.2.1 != g.2.2.1)=false:=by simpa using u
   rw[e,if_neg (by simpa using u)];exact (Ret.cnd (b:=f.2.2.2) Iff.rfl (λ_=>Ret.of (b:=!g.2.2.2) (by simp))).iff Iff.rfl
  ·have e:(f.2.2.1 != g.2.2.1)=true:=by simpa using u
   rw[e,if_pos u];exact Ret.dec
 ·have e:(f.2.1 != g.2.1)=true:=by simpa using r
  rw[e,if_pos r];exact Ret.dec
def orI:List Int->Int
 |[]=>0
 |x::r=>if x≠0 then x else orI r
theorem Av (K:Nat)(xs:List Int)(J:xs.length<=1048576)(M:1048577<K):Q86.f K (xs,())=some ((orI xs,()),()):=by
 have z:∀ (d k i:Nat),i+d=xs.length->d<k->ae (λrec a=>Q86.s0 K (xs,()) rec a) k (i:Int)=some ((orI (xs.drop i),()),()):=by
  intro d;induction d with
  |zero =>
   intro k i H I;obtain⟨k,rfl⟩:∃ u,k=u+1:=⟨k-1,by omega⟩;show Q86.s0 K (xs,()) _ _=_;simp only[Q86.s0];rw[decide_eq_false (by omega:¬ ((i:Int)<(BA xs:Int))),BN (by omega)];rfl
  |succ d y =>
   intro k i H I;obtain⟨k,rfl⟩:∃ u,k=u+1:=⟨k-1,by omega⟩;have y:=y k (i+1) (by omega) (by omega);show Q86.s0 K (xs,()) _ _=_;simp only[Q86.s0];have r:i<xs.length:=by omega
   rw[decide_eq_true (by omega:(i:Int)<(BA xs:Int)),af r,ar i (by omega),BK r];simp only[cond_true,BB,orI];by_cases h:xs[i]=0
   ·have e:(xs[i] != 0)=false:=by simpa using h
    rw[e,if_neg (by simpa using h)];exact y
   ·have e:(xs[i] != 0)=true:=by simpa using h
    rw[e,if_pos h];rfl
 have:=z xs.length K 0 (by omega) (by omega)
 rwa [BW]at this
def cmpF (f g:ag):Int:=orI [fj f.1 g.1,fj f.2.1 g.2.1,fj f.2.2.1 g.2.2.1,if f.2.2.2=true/\g.2.2.2=false then 1 else if g.2.2.2=true/\f.2.2.2=false then -1 else 0]
theorem mI (K:Nat)(f g:ag)(I:1048577<K):Q87.f K (f,g,())=some ((cmpF f g,()),()):=by
 obtain⟨a,b,c,d⟩:=f;obtain⟨y,r,u,H⟩:=g;have h:∀ z:Int,Q86.f K ([fj a y,fj b r,fj c u,z],())=some ((orI [fj a y,fj b r,fj c u,z],()),()):=λz=>Av K _ (by simp) I
 simp only[Q87.f,cmpF];cases d <;> cases H <;> simp only[BE,BQ,cond_true,cond_false] <;> rw[nG,BB,nG,BB,nG,BB,h] <;> rfl
theorem oP {x:Int}(h:x=0)(xs:List Int):orI (x::xs)=orI xs:=by subst h;rfl
theorem uE {x:Int}(h:x≠0)(xs:List Int):orI (x::xs)=x:=by simp[orI,h]
theorem jt {f g:ag}(e:f.1=g.1):cmpF f g>0<->bI f g:=by
 unfold cmpF bI;rw[oP ((ib f.1 g.1).2 e)];by_cases r:f.2.1=g.2.1
 ·rw[oP ((ib f.2.1 g.2.1).2 r),if_neg (show ¬ f.2.1≠g.2.1 from λh=>h r)];by_cases u:f.2.2.1=g.2.2.1
  ·rw[oP ((ib f.2.2.1 g.2.2.1).2 u),if_neg (show ¬ f.2.2.1≠g.2.2.1 from λh=>h u)];cases f.2.2.2 <;> cases g.2.2.2 <;> simp[orI]
  ·rw[uE (λh=>u ((ib f.2.2.1 g.2.2.1).1 h)),if_pos (show f.2.2.1≠g.2.2.1 from u)];exact uD _ _
 ·rw[uE (λh=>r ((ib f.2.1 g.2.1).1 h)),if_pos (show f.2.1≠g.2.1 from r)];exact uD _ _
theorem pz (K:Nat)(f g:ag)(r:1048577<K):Ret (Q88.f K (f,g,())) (bk f/\bk g/\f.1=g.1/\bI f g):=by
 refine Ret.and (lT K f) (λ_=>Ret.and (lT K g) (λ_=>?_) rfl) rfl;refine (Ret.cnd (b:=f.1==g.1) (P:=f.1=g.1) (by simp) (λe=>?_)).iff Iff.rfl;show Ret ((Q87.f K (f,g,())).bind _) _;rw[mI K f g r];refine Ret.of ?_;simp only[gt_iff_lt,decide_eq_true_eq];exact jt e
theorem bm {n:Nat}{m:Int}(h:(n:Int)<m):decide ((n:Int)<m)=true:=decide_eq_true h
theorem aR (n:Nat):decide ((n:Int)<(n:Int))=false:=decide_eq_false (by omega)
def cQ (l:List aL):Prop:=(∀ x∈l,bk x.1/\InP x.2 1 4)/\Asc (λx:aL=>x.1.1) l
theorem x7 (K:Nat)(l:List aL)(y:l.length<=1048576)(z:1048577<K):Ret (Q18.f K (l,())) (cQ l):=by
 refine (gl l (step:=λrec a=>Q18.s0 K (l,()) rec a) (λi r=>bk l[i].1/\InP l[i].2 1 4/\(0<i->¬ (l[i-1]'(by omega)).1.1>=l[i].1.1)/\True) y ?_ ?_ z (λ_=>Ret.yes trivial)).iff (eU.trans ?_)
 ·intro rec i r;simp only[Q18.s0];rw[decide_eq_true (by omega:(i:Int)<(BA l:Int))];simp only[cond_true];refine Rnd.ix (af r) (Rnd.nx (oO K _) λ_=>Rnd.ix (af r) (Rnd.nx (cF K _ 1 4) λ_=>Rnd.two (λu=>?_) Rnd.end_));rw[eO i u (by omega)];exact Rnd.ix (af (by omega)) (Rnd.ix (af r) (Rnd.cndN (by simp) λ_=>Rnd.end_))
 ·intro rec;simp only[Q18.s0,aR];rfl
 ·rw[cQ,dE,gJ];constructor
  ·intro h;exact⟨λi r=>⟨(h i r).1,(h i r).2.1⟩,λi r u=>by have:=(h i r).2.2.1 u;omega⟩
  ·rintro⟨h1,h2⟩ i r;exact⟨(h1 i r).1,(h1 i r).2,λu=>by have:=h2 i r u;omega,trivial⟩
theorem uF (K:Nat)(l:List aL)(M:l.length<=1048576)(O:1048577<K):Q84.f K (l,())=some ((l.map (·.1),()),()):=by
 have y:∀ (d k i:Nat),i+d=l.length->d<k->ae (λrec a=>Q84.s0 K (l,()) rec a) k ((l.take i).map (·.1),(i:Int))=some ((l.map (·.1),()),()):=by
  intro d;induction d with
  |zero =>
   intro k i H J;obtain⟨k,rfl⟩:∃ u,k=u+1:=⟨k-1,by omega⟩;show Q84.s0 K (l,()) _ _=_;simp only[Q84.s0];rw[decide_eq_false (by omega:¬ ((i:Int)<(BA l:Int))),BO (by omega)];rfl
  |succ d z =>
   intro k i H J;obtain⟨k,rfl⟩:∃ u,k=u+1:=⟨k-1,by omega⟩;have z:=z k (i+1) (by omega) (by omega);show Q84.s0 K (l,()) _ _=_;have r:i<l.length:=by omega
   simp only[Q84.s0];rw[decide_eq_true (by omega:(i:Int)<(BA l:Int)),af r,ar i (by omega)];simp only[cond_true,BB];have I:decide ((BA (List.map (λx:aL=>x.1) (List.take i l))+BA [l[i].1])*32<=an)=true:=decide_eq_true (by simp only[an,List.length_map,List.length_take,BP];omega);rw[I];have e:(List.take i l).map (λx:aL=>x.1)++[l[i].1]=(l.take (i+1)).map (·.1):=by
    rw[BS,BF r,List.map_append];rfl
   rw[e];exact z
 have:=y l.length K 0 (by omega) (by omega);exact this
theorem vr {l:List aL}:aA (l.map (·.1))<->(∀ x∈l,bk x.1)/\Asc (λx:aL=>x.1.1) l:=by
 unfold aA Asc;rw[BL];simp
theorem wO (K:Nat)(x:aL):Ret (Q83.f K (x,())) (¬ InP x.2 1 4):=by
 simp only[Q83.f];exact (eH K x.2 1 4).neg
theorem x8 (K:Nat)(l:List aL)(u:l.length<=1048576)(z:1048577<K):Ret (Q82.f K (l,(λr=>(Q83.f K (r.1,())).map λy=>y.1.1),())) (∃ x∈l,¬ InP x.2 1 4) :=
 qR K l _ (λx=>¬ InP x.2 1 4) u z (λx _=>Ret.fn (wO K x))
theorem oQ (K:Nat)(l:List aL)(u:l.length<=1048576)(y:1048577<K):Ret (Q85.f K (l,())) (cQ l):=by
 simp only[Q85.f];obtain⟨z,I,J⟩:=x8 K l u y;obtain⟨H,M,O⟩:=gn K (l.map (·.1)) (by simpa using u) y;rw[uF K l u y,BB,M,BB,I,BB];have e:cQ l<->(H=true/\z=false):=by
  rw[O,vr,cQ,<- Bool.not_eq_true,J];constructor
  ·rintro⟨h5,h6⟩;exact⟨⟨λx r=>(h5 x r).1,h6⟩,λ⟨x,r,h⟩=>h (h5 x r).2⟩
  ·rintro⟨⟨h5,h6⟩,h7⟩;exact⟨λx r=>⟨h5 x r,BD.1 λh=>h7 ⟨x,r,h⟩⟩,h6⟩
 refine Ret.iff ?_ e.symm;cases H <;> cases z <;> exact⟨_,rfl,by simp⟩
def gR (t:List ag)(l:List aL):Prop:=∀ x∈l,∃ f∈t,f.1=x.1.1/\¬ bI x.1 f
theorem ig {t:List ag}(h:Asc (λf:ag=>f.1) t){f g:ag}(r:f∈t)(y:g∈t)(e:f.1=g.1):f=g:=by
 obtain⟨i,z,rfl⟩:=BG r;obtain⟨j,u,rfl⟩:=BG y;have:=oN h z u e;subst this;rfl
theorem tW (K:Nat)(n:aa)(z:NB n)(J:aA (aa.table n))(y:1048577<K):Ret (Q20.f K (n,())) (cQ (aa.cast n)/\gR (aa.table n) (aa.cast n)):=by
 refine Ret.nx (x7 K _ z.cast y) λ_=>?_
 refine (gl (aa.cast n) (step:=λrec a=>Q20.s0 K (n,()) rec a) (λi r=>∃ f∈aa.table n,f.1=(aa.cast n)[i].1.1/\¬ bI (aa.cast n)[i].1 f) z.cast ?_ ?_ y (λ_=>Ret.yes trivial)).iff (eU.trans ?_)
 ·intro rec i r;simp only[Q20.s0];rw[decide_eq_true (by omega:(i:Int)<(BA (aa.cast n):Int))];simp only[cond_true];refine Rnd.ix (af r) ?_;obtain⟨o,M,O⟩:=fh K (aa.table n) (aa.cast n)[i].1.1 z.table y;refine Rnd.vl O ?_;cases M with
  |no h =>
   rw[show decide ((-1:Int)<0)=true from rfl];exact .inr ⟨λ⟨f,u,e,_⟩=>h f u e,rfl⟩
  |at_ j H e =>
   simp only;rw[decide_eq_false (by omega:¬ ((j:Int)<0))];refine (Rnd.ix (af r) (Rnd.ix (af H) (Rnd.fx (sC K _ _) λ_=>Rnd.end_))).iff ⟨λh=>⟨_,BC H,e,h.1⟩,λ⟨f,u,I,h⟩=>⟨?_,trivial⟩⟩;have:=ig J.2 u (BC H) (I.trans e.symm)
   rwa [<- this]
 ·intro rec;simp only[Q20.s0,aR];rfl
 ·rw[gR,dE]
theorem x9 (K:Nat)(n:aa)(O:NB n)(M:aA (aa.table n))(Z:cQ (aa.cast n))(J:1048577<K) :
  Ret ((Q82.f K (aa.cast n,(λY=>(Q89.f K (Y.1,n,())).map λy=>y.1.1),())).bind λR=>some ((!R.1.1,()),())) (gR (aa.table n) (aa.cast n)):=by
 refine (Ret.neg (qR K _ _ (λx=>¬ ∃ f∈aa.table n,f.1=x.1.1/\¬ bI x.1 f) O.cast J (λx z=>Ret.fn ?_))).iff ?_
 ·simp only[Q89.f];rcases js K (aa.table n) x.1.1 O.table J with ⟨H,_⟩|⟨_,⟨f,r,e,H⟩|⟨u,H⟩⟩
  ·exact absurd M H
  ·refine Ret.vl H ?_;refine (pz K x.1 f J).id.iff ⟨λh ⟨g,hg,X,I⟩=>?_,λh=>?_⟩
   ·have:=ig M.2 hg r (X.trans e.symm);exact I (this ▸ h.2.2.2)
   ·refine⟨(Z.1 x z).1,M.1 f r,e.symm,BD.1 λI=>h ⟨f,r,e,I⟩⟩
  ·refine Ret.vl H ?_;exact Ret.yes (λ⟨f,r,e,_⟩=>u f r e)
 ·exact⟨λh x z=>BD.1 λu=>h ⟨x,z,u⟩,λh ⟨x,z,u⟩=>u (h x z)⟩
def da (n:aa):Prop:=((n.1,n.2.2.2.2.1,(if n.2.2.1=true then 4 else 1),n.2.2.2.1):ag)∈aa.table n
theorem Aw (K:Nat)(n:aa)(M:NB n)(H:aA (aa.table n))(I:1048577<K):Ret (Q17.f K (n,())) (da n):=by
 simp only[Q17.f];obtain⟨o,J,O⟩:=fh K (aa.table n) n.1 M.table I;refine Ret.vl O ?_;cases J with
 |no h =>
  rw[show decide ((-1:Int)<0)=true from rfl];exact Ret.no (λy=>h _ y rfl)
 |at_ j u e =>
  simp only;rw[decide_eq_false (by omega:¬ ((j:Int)<0))];refine Ret.vl (af u) ?_;have r:da n<->(aa.table n)[j]=((n.1,n.2.2.2.2.1,(if n.2.2.1=true then 4 else 1),n.2.2.2.1):ag):=by
   constructor
   ·intro h;exact ig H.2 (BC u) h e
   ·intro h;show _∈_;rw[<- h];exact BC u
  have z:(aa.table n)[j]=((n.1,n.2.2.2.2.1,(if n.2.2.1=true then 4 else 1),n.2.2.2.1):ag)<->((aa.table n)[j].2.1=n.2.2.2.2.1/\(aa.table n)[j].2.2.1=(if n.2.2.1=true then 4 else 1)/\(aa.table n)[j].2.2.2=n.2.2.2.1):=by
   generalize (aa.table n)[j]=f at e ⊢;obtain⟨a,b,c,d⟩:=f;simp at e ⊢;intro _ _ _;exact e
  refine Ret.iff ?_ (r.trans z).symm;cases R:n.2.2.1 with
  |true=>exact Ret.cnd (by simp) λ_=>Ret.cnd (by simp) λ_=>Ret.of (by simp)
  |false=>exact Ret.cnd (by simp) λ_=>Ret.cnd (by simp) λ_=>Ret.of (by simp)
theorem gS (f g:ag):Ty.eqv ty_impl_Fact_D f g=decide (f=g):=by
 obtain⟨a,b,c,d⟩:=f;obtain⟨z,u,y,r⟩:=g;show (decide (a=z)&&(decide (b=u)&&(decide (c=y)&&(d==r))))=_;cases d <;> cases r <;> simp[BR]
theorem pA (f g:dz):Ty.eqv ty_impl_Coord_D f g=decide (f=g):=by
 obtain⟨a,b,c,d⟩:=f;obtain⟨z,r,y,u⟩:=g;show (decide (a=z)&&(decide (b=r)&&(decide (c=y)&&decide (d=u))))=_;simp[BR]
theorem qo (K:Nat)(n:aa)(M:NB n)(J:1048577<K):Ret (Q90.f K (n,()))
  (aA (aa.table n)/\ca (aa.table n) (am n.1)/\da n/\cQ (aa.cast n)/\gR (aa.table n) (aa.cast n)):=by
 have u:∀ (w:Int),aA (aa.table n)->Ret ((Q80.f K (n,())).bind λy2=>(Q79.f K (aa.table n,y2.1.1,())).bind λO=>bif !O.1.1 then rb false else
   ((Q85.f K (aa.cast n,())).bind λY=>bif !Y.1.1 then rb false else
    ((Q82.f K (aa.cast n,(λZ=>(Q89.f K (Z.1,n,())).map λy=>y.1.1),())).bind λR=>some ((!R.1.1,()),()))))
   (ca (aa.table n) (am n.1)/\cQ (aa.cast n)/\gR (aa.table n) (aa.cast n)):=by
  intro _ z;exact Ret.vl (nH K n) (Ret.nx (ic K _ _ M.table J) λ_=>Ret.nx (oQ K _ M.cast J) λhC=>x9 K n M z hC J)
 have r:∀ (w:Int),w=(if n.2.2.1=true then 4 else 1)->Ret ((Q74.f K (aa.table n,n.1,())).bind λy1=>bif !y1.1.2.1 then rb false else bif !Ty.eqv ty_impl_Fact_D y1.1.1 (n.1,(n.2.2.2.2.1,(w,n.2.2.2.1))) then rb false else
   ((Q80.f K (n,())).bind λy2=>(Q79.f K (aa.table n,y2.1.1,())).bind λO=>bif !O.1.1 then rb false else
   ((Q85.f K (aa.cast n,())).bind λY=>bif !Y.1.1 then rb false else
    ((Q82.f K (aa.cast n,(λZ=>(Q89.f K (Z.1,n,())).map λy=>y.1.1),())).bind λR=>some ((!R.1.1,()),())))))
   (aA (aa.table n)/\ca (aa.table n) (am n.1)/\da n/\cQ (aa.cast n)/\gR (aa.table n) (aa.cast n)):=by
  intro w hw;rcases js K (aa.table n) n.1 M.table J with ⟨H,X⟩|⟨z,⟨f,hf,e,H⟩|⟨X,H⟩⟩
  ·exact Ret.vl X (Ret.no (λh=>H h.1))
  ·refine Ret.vl H ?_;simp only[BE,cond_false];rw[gS];by_cases I:f=(n.1,(n.2.2.2.2.1,(w,n.2.2.2.1)))
   ·rw[decide_eq_true I];have hS:da n:=by
     show _∈_;rw[<- hw,<- I];exact hf
    exact (u w z).iff ⟨λh=>⟨z,h.1,hS,h.2.1,h.2.2⟩,λh=>⟨h.2.1,h.2.2.2⟩⟩
   ·rw[decide_eq_false I];refine Ret.no (λh=>I ?_);have:=ig z.2 hf h.2.2.1 e;rw[this,hw]
  ·refine Ret.vl H (Ret.no (λh=>X _ h.2.2.1 rfl))
 simp only[Q90.f];cases hg:n.2.2.1 with
 |true=>exact r 4 (by rw[hg];rfl)
 |false=>exact r 1 (by rw[hg];rfl)
def cY (n:aa):Prop:=if (aa.probe n).1=-1 then aa.probe n=(-1,0,0,false) else
 (aa.probe n).1≠n.1/\(∃ f∈aa.table n,f.1=(aa.probe n).1)/\InP (aa.probe n).2.1 0 n.2.2.2.2.2.1/\InP (aa.probe n).2.2.1 1 n.2.2.2.2.2.2.1
theorem zx (K:Nat)(n:aa)(I:NB n)(z:1048577<K):Ret (Q21.f K (n,())) (cY n):=by
 simp only[Q21.f,cY];by_cases h:(aa.probe n).1=-1
 ·rw[if_pos h,show ((aa.probe n).1==-1)=true by simpa using h];refine (Ret.cnd (P:=(aa.probe n).2.1=0) (by simp) λ_=>Ret.cnd (P:=(aa.probe n).2.2.1=0) (by simp) λ_=>Ret.of (P:=(aa.probe n).2.2.2=false) (by simp)).iff ?_;generalize aa.probe n=p at h ⊢;obtain⟨a,b,c,d⟩:=p;simp at h ⊢;intro _ _ _;exact h
 ·rw[if_neg h,show ((aa.probe n).1==-1)=false by simpa using h];refine Ret.cnd (by simp) λ_=>?_
  obtain⟨o,H,J⟩:=fh K (aa.table n) (aa.probe n).1 I.table z;refine Ret.vl J ?_;cases H with
  |no y=>exact Ret.no (λ⟨⟨f,u,e⟩,_⟩=>y f u e)
  |at_ j M e =>
   simp only;rw[show decide ((j:Int)>=0)=true from decide_eq_true (by omega)];exact (Ret.px (cF K _ _ _) λ_=>(cF K _ _ _).id).iff ⟨λr=>⟨⟨_,BC M,e⟩,r⟩,λr=>r.2⟩
theorem zy (K:Nat)(n:aa)(I:NB n)(H:aA (aa.table n))(J:1048577<K):Ret (Q91.f K (n,())) (cY n):=by
 simp only[Q91.f,cY];by_cases h:(aa.probe n).1=-1
 ·rw[if_pos h,show ((aa.probe n).1==-1)=true by simpa using h,gS];exact Ret.dec
 ·rw[if_neg h,show ((aa.probe n).1==-1)=false by simpa using h];rcases js K (aa.table n) (aa.probe n).1 I.table J with ⟨r,_⟩|⟨_,⟨f,y,e,r⟩|⟨z,r⟩⟩
  ·exact absurd H r
  ·refine Ret.vl r ?_;exact (Ret.cnd (P:=(aa.probe n).1≠n.1) (by simp) λ_=>Ret.px (eH K _ _ _) λ_=>(eH K _ _ _).id).iff ⟨λu=>⟨u.1,⟨f,y,e⟩,u.2⟩,λu=>⟨u.1,u.2.2⟩⟩
  ·exact Ret.vl r (Ret.no (λ⟨_,⟨f,y,e⟩,_⟩=>z f y e))
def cG (c:dz):Prop:=InP c.1 (-100000) 100000/\InP c.2.1 (-100000) 100000/\InP c.2.2.1 0 100000/\InP c.2.2.2 1 1500
theorem iA (K:Nat)(c:dz):Ret (Q23.f K (c,())) (cG c) :=
 Ret.px (cF K _ _ _) λ_=>Ret.px (cF K _ _ _) λ_=>Ret.px (cF K _ _ _) λ_=>(cF K _ _ _).id
theorem nI (K:Nat)(c:dz):Ret (Q94.f K (c,())) (cG c) :=
 Ret.px (eH K _ _ _) λ_=>Ret.px (eH K _ _ _) λ_=>Ret.px (eH K _ _ _) λ_=>(eH K _ _ _).id
def Ax (r:Int)(p:dI):Prop:=InP p.1 0 7/\am p.1=am r/\p.1≠r/\cG p.2.1/\InP (p.2.2.length:Int) 1 3/\∀ t∈p.2.2,InP t 1 60000
def er (r:Int)(l:List dI):Prop:=(∀ p∈l,Ax r p)/\Asc (λp:dI=>p.1) l
theorem pB (K:Nat)(n:aa)(x:Int):Ret (Q92.f K (n,x,())) (InP x 0 7/\am x=am n.1):=by
 refine Ret.px (i9 K x) λ_=>?_
 exact Ret.of (b:=am x==am n.1) (by simp)
theorem zz (K:Nat)(n:aa)(x:Int):Ret (Q95.f K (n,x,())) ((InP x 0 7/\am x=am n.1)/\x≠n.1):=by
 refine Ret.px (pB K n x) λ_=>?_
 exact Ret.of (b:=x != n.1) (by simp)
theorem ya (K:Nat)(n:aa)(R:NB n)(hK:1048577<K):Ret (Q24.f K (n,())) (er n.1 (aa.places n)):=by
 refine (gl (aa.places n) (step:=λrec a=>Q24.s0 K (n,()) (Q24.l1 K (n,()) rec) rec a)
  (λi y=>InP (aa.places n)[i].1 0 7/\¬ am (aa.places n)[i].1≠am n.1/\¬ (aa.places n)[i].1=n.1/\(0<i->¬ ((aa.places n)[i-1]'(by omega)).1>=(aa.places n)[i].1) /\
   cG (aa.places n)[i].2.1/\InP ((aa.places n)[i].2.2.length:Int) 1 3/\∀ k (z:k<(aa.places n)[i].2.2.length),InP (aa.places n)[i].2.2[k] 1 60000/\True) R.places ?_ ?_ hK (λ_=>Ret.yes trivial)).iff (eU.trans ?_)
 ·intro rec i y;have Z:=R.trips _ (BC y);have hl:=R.places;have r:Rnd (Q24.l1 K (n,()) rec ((i:Int),0,(aa.places n)[i].1,(aa.places n)[i].2.1.1,(aa.places n)[i].2.1.2.1,(aa.places n)[i].2.1.2.2.1,(aa.places n)[i].2.1.2.2.2,(aa.places n)[i].2.2))
    (∀ k (z:k<(aa.places n)[i].2.2.length),InP (aa.places n)[i].2.2[k] 1 60000/\True) (rec (wr .i64 ((i:Int)+1))):=by
   generalize (aa.places n)[i]=p at Z;refine oM p.2.2 (step:=λu a=>Q24.s1 K (n,()) rec u a) (λk=>((i:Int),(k:Int),p.1,p.2.1.1,p.2.1.2.1,p.2.1.2.2.1,p.2.1.2.2.2,p.2.2)) (λk z=>InP p.2.2[k] 1 60000/\True) Z ?_ ?_ hK
   ·intro u k z;simp only[Q24.s1];rw[decide_eq_true (by omega:(k:Int)<(BA p.2.2:Int)),ar k (by omega)];simp only[cond_true];exact Rnd.ix (af z) (Rnd.nx (cF K _ _ _) λ_=>Rnd.end_)
   ·intro u;simp only[Q24.s1,aR];rfl
  simp only[Q24.s0];rw[decide_eq_true (by omega:(i:Int)<(BA (aa.places n):Int))];simp only[cond_true];refine Rnd.ix (af y) (Rnd.nx (cF K _ _ _) λ_=>Rnd.vl (dj K _) (Rnd.vl (dj K _) (Rnd.cndN (by simp) λ_=>Rnd.cndN (by simp) λ_=>Rnd.two (λH=>?_) ?_)))
  ·rw[eO i H (by omega)];exact Rnd.ix (af (show i-1<(aa.places n).length by omega)) (Rnd.cndN (by simp) λ_=>Rnd.nx (iA K _) λ_=>Rnd.nx (cF K _ _ _) λ_=>r)
  ·exact Rnd.nx (iA K _) λ_=>Rnd.nx (cF K _ _ _) λ_=>r
 ·intro rec;simp only[Q24.s0,aR];rfl
 ·rw[er,dE,gJ];constructor
  ·intro h;refine⟨λi y=>?_,λi y H=>?_⟩
   ·obtain⟨X,M,I,h4,J,Y,O⟩:=h i y;exact⟨X,BD.1 M,I,J,Y,dE.2 λk z=>(O k z).1⟩
   ·have:=(h i y).2.2.2.1 H;omega
  ·rintro⟨X,M⟩ i y;obtain⟨I,h4,J,Y,O,h8⟩:=X i y;exact⟨I,BD.2 h4,J,λH=>by have:=M i y H;omega,Y,O,λk z=>⟨dE.1 h8 k z,trivial⟩⟩
theorem yb (K:Nat)(n:aa)(X:NB n)(hK:1048577<K):Ret (Q99.f K (n,())) (er n.1 (aa.places n)):=by
 refine (gl (aa.places n) (step:=λrec a=>Q99.s0 K (n,()) rec a)
  (λi u=>((InP (aa.places n)[i].1 0 7/\am (aa.places n)[i].1=am n.1)/\(aa.places n)[i].1≠n.1)/\(0<i->¬ (aa.places n)[i].1<=((aa.places n)[i-1]'(by omega)).1) /\
   cG (aa.places n)[i].2.1/\InP ((aa.places n)[i].2.2.length:Int) 1 3/\(¬ ∃ t∈(aa.places n)[i].2.2,¬ InP t 1 60000)/\True) X.places ?_ ?_ hK (λ_=>Ret.yes trivial)).iff (eU.trans ?_)
 ·intro rec i u;have hb:=X.trips _ (BC u);have hl:=X.places;have r:Ret (Q98.f K ((aa.places n)[i].2.2,(λy6=>(Q96.f K (y6.1,())).map λy=>y.1.1),())) (∃ t∈(aa.places n)[i].2.2,¬ InP t 1 60000) :=
   x6 K _ _ _ hb hK (λt _=>Ret.fn (eH K t _ _).neg)
  simp only[Q99.s0];rw[decide_eq_true (by omega:(i:Int)<(BA (aa.places n):Int))];simp only[cond_true];refine Rnd.ix (af u) (Rnd.nx (zz K n _) λ_=>Rnd.two (λz=>?_) ?_)
  ·rw[eO i z (by omega)];exact Rnd.ix (af (show i-1<(aa.places n).length by omega)) (Rnd.cndN (by simp) λ_=>Rnd.nx (nI K _) λ_=>Rnd.nx (eH K _ _ _) λ_=>Rnd.fx r λ_=>Rnd.end_)
  ·exact Rnd.nx (nI K _) λ_=>Rnd.nx (eH K _ _ _) λ_=>Rnd.fx r λ_=>Rnd.end_
 ·intro rec;simp only[Q99.s0,aR];rfl
 ·rw[er,dE,gJ];constructor
  ·intro h;refine⟨λi u=>?_,λi u z=>?_⟩
   ·obtain⟨⟨⟨Y,J⟩,H⟩,h4,I,Z,R,_⟩:=h i u;exact⟨Y,J,H,I,Z,λt M=>BD.1 λO=>R ⟨t,M,O⟩⟩
   ·have:=(h i u).2.1 z;omega
  ·rintro⟨Y,J⟩ i u;obtain⟨H,h4,I,Z,R,O⟩:=Y i u;exact⟨⟨⟨H,h4⟩,I⟩,λz=>by have:=J i u z;omega,Z,R,λ⟨t,M,h9⟩=>h9 (O t M),trivial⟩
def Ay (r:Int)(x:bY):Prop:=InP x.1 0 1/\x.1≠am r/\x.2≠[]/\aA x.2/\ca x.2 x.1
def cZ (r:Int)(l:List bY):Prop:=(∀ x∈l,Ay r x)/\Asc (λx:bY=>x.1) l
theorem oR {α:Type}(l:List α):((BA l:Int)==0)=true<->l=[]:=by
 cases l <;> simp;omega
theorem yc (K:Nat)(n:aa)(H:NB n)(y:1048577<K):Ret (Q25.f K (n,())) (cZ n.1 (aa.others n)):=by
 refine (gl (aa.others n) (step:=λrec a=>Q25.s0 K (n,()) rec a)
  (λi r=>InP (aa.others n)[i].1 0 1/\¬ (aa.others n)[i].1=am n.1/\(0<i->¬ ((aa.others n)[i-1]'(by omega)).1>=(aa.others n)[i].1) /\
   ¬ (aa.others n)[i].2=[]/\aA (aa.others n)[i].2/\ca (aa.others n)[i].2 (aa.others n)[i].1/\True) H.others ?_ ?_ y (λ_=>Ret.yes trivial)).iff (eU.trans ?_)
 ·intro rec i r;have z:=H.facts _ (BC r);have X:=H.others;simp only[Q25.s0];rw[decide_eq_true (by omega:(i:Int)<(BA (aa.others n):Int))];simp only[cond_true];refine Rnd.ix (af r) (Rnd.nx (cF K _ _ _) λ_=>Rnd.vl (dj K _) (Rnd.cndN (by simp) λ_=>Rnd.two (λu=>?_) ?_))
  ·rw[eO i u (by omega)];exact Rnd.ix (af (show i-1<(aa.others n).length by omega)) (Rnd.cndN (by simp) λ_=>Rnd.cndN (oR _) λ_=>Rnd.nx (gm K _ z y) λ_=>Rnd.nx (eY K _ _ z y) λ_=>Rnd.end_)
  ·exact Rnd.cndN (oR _) λ_=>Rnd.nx (gm K _ z y) λ_=>Rnd.nx (eY K _ _ z y) λ_=>Rnd.end_
 ·intro rec;simp only[Q25.s0,aR];rfl
 ·rw[cZ,dE,gJ];constructor
  ·intro h;exact⟨λi r=>⟨(h i r).1,(h i r).2.1,(h i r).2.2.2.1,(h i r).2.2.2.2.1,(h i r).2.2.2.2.2.1⟩,λi r u=>by have:=(h i r).2.2.1 u;omega⟩
  ·rintro⟨h1,h2⟩ i r;obtain⟨I,M,J,R,O⟩:=h1 i r;exact⟨I,M,λu=>by have:=h2 i r u;omega,J,R,O,trivial⟩
theorem yd (K:Nat)(n:aa)(J:NB n)(y:1048577<K):Ret (Q100.f K (n,())) (cZ n.1 (aa.others n)):=by
 refine (gl (aa.others n) (step:=λrec a=>Q100.s0 K (n,()) rec a)
  (λi r=>InP (aa.others n)[i].1 0 1/\¬ (aa.others n)[i].1=am n.1/\(0<i->¬ (aa.others n)[i].1<=((aa.others n)[i-1]'(by omega)).1) /\
   ¬ (aa.others n)[i].2=[]/\aA (aa.others n)[i].2/\ca (aa.others n)[i].2 (aa.others n)[i].1/\True) J.others ?_ ?_ y (λ_=>Ret.yes trivial)).iff (eU.trans ?_)
 ·intro rec i r;have H:=J.facts _ (BC r);have Y:=J.others;have I:am 7=1:=by unfold am;rw[aJ (by decide) (by decide)];decide
  have z:=eH K (aa.others n)[i].1 0 (am 7);rw[I]at z;simp only[Q100.s0];rw[decide_eq_true (by omega:(i:Int)<(BA (aa.others n):Int))];simp only[cond_true];refine Rnd.ix (af r) (Rnd.vl (mH K 7) ?_);dsimp only;rw[I];refine Rnd.nx z λ_=>Rnd.vl (nH K n) (Rnd.cndN (by simp) λ_=>Rnd.two (λu=>?_) ?_)
  ·rw[eO i u (by omega)];exact Rnd.ix (af (show i-1<(aa.others n).length by omega)) (Rnd.cndN (by simp) λ_=>Rnd.cndN (oR _) λ_=>Rnd.nx (gn K _ H y) λ_=>Rnd.nx (ic K _ _ H y) λ_=>Rnd.end_)
  ·exact Rnd.cndN (oR _) λ_=>Rnd.nx (gn K _ H y) λ_=>Rnd.nx (ic K _ _ H y) λ_=>Rnd.end_
 ·intro rec;simp only[Q100.s0,aR];rfl
 ·rw[cZ,dE,gJ];constructor
  ·intro h;exact⟨λi r=>⟨(h i r).1,(h i r).2.1,(h i r).2.2.2.1,(h i r).2.2.2.2.1,(h i r).2.2.2.2.2.1⟩,λi r u=>by have:=(h i r).2.2.1 u;omega⟩
  ·rintro⟨h1,h2⟩ i r;obtain⟨M,R,O,X,I⟩:=h1 i r;exact⟨M,R,λu=>by have:=h2 i r u;omega,O,X,I,trivial⟩
def ByP (r:Int)(l:List Int):Prop:=(∀ b∈l,InP b 0 7/\am b=am r)/\Asc (λb:Int=>b) l
def lr (n:aa)(d:bN):Prop:=(∃ f∈aa.table n,f.1=d.1/\f.2.2.1=2/\f.2.1=d.2.1)/\InP d.2.2.1 0 n.2.2.2.2.2.1/\d.2.2.2≠[]/\ByP n.1 d.2.2.2
def aT (t:List ag):List ag:=t.filter λf=>f.2.2.1==2
def iB (n:aa):Prop:=(∀ d∈aa.doubts n,lr n d)/\Asc (λd:bN=>d.1) (aa.doubts n)/\(aT (aa.table n)).length=(aa.doubts n).length
theorem wP {y:Int}{l:List Int}:ByP y l<->∀ k (r:k<l.length),(InP l[k] 0 7/\am l[k]=am y)/\(0<k->¬ l[k-1]'(by omega)>=l[k]):=by
 rw[ByP,dE,gJ];constructor
 ·rintro⟨h1,h2⟩ k r;exact⟨h1 k r,λu=>by have:=h2 k r u;omega⟩
 ·intro h;exact⟨λk r=>(h k r).1,λk r u=>by have:=(h k r).2 u;omega⟩
theorem zA (K:Nat)(n:aa)(J:NB n)(X:1048577<K):Q22.l2 K (n,()) (0,0)=rb (decide ((aT (aa.table n)).length=(aa.doubts n).length)):=by
 have R:=J.table;have y:∀ (d k i c:Nat),i+d=(aa.table n).length->d<k->c<=i ->
   ae (λrec a=>Q22.s2 K (n,()) rec a) k ((c:Int),(i:Int))=rb (decide (c+(aT ((aa.table n).drop i)).length=(aa.doubts n).length)):=by
  intro d;induction d with
  |zero =>
   intro k i c I M O;obtain⟨k,rfl⟩:∃ u,k=u+1:=⟨k-1,by omega⟩;show Q22.s2 K (n,()) _ _=_;simp only[Q22.s2];rw[decide_eq_false (show ¬ ((i:Int)<(BA (aa.table n):Int)) by omega),BN (by omega)];simp only[cond_false,aT,List.filter_nil,List.length_nil,Nat.add_zero];have e:((c:Int)==(BA (aa.doubts n):Int))=decide (c=(aa.doubts n).length):=by
    by_cases h:c=(aa.doubts n).length
    ·rw[decide_eq_true h,h];simp
    ·rw[decide_eq_false h,beq_eq_false_iff_ne];omega
   exact congrArg rb e
  |succ d H =>
   intro k i c I M O;obtain⟨k,rfl⟩:∃ u,k=u+1:=⟨k-1,by omega⟩;have r:i<(aa.table n).length:=by omega
   show Q22.s2 K (n,()) _ _=_;simp only[Q22.s2];rw[decide_eq_true (show ((i:Int)<(BA (aa.table n):Int)) by omega),af r,ar i (by omega),ar c (by omega),BK r];simp only[cond_true,BB];cases z:((aa.table n)[i].2.2.1==2) with
   |true =>
    have:=H k (i+1) (c+1) (by omega) (by omega) (by omega);simp only[cond_true];have e:c+1+(aT ((aa.table n).drop (i+1))).length=c+(aT ((aa.table n)[i]::(aa.table n).drop (i+1))).length:=by
     simp only[aT,BM,z,if_true,List.length_cons];omega
    rw[<- e];exact this
   |false =>
    have:=H k (i+1) c (by omega) (by omega) (by omega);simp only[cond_false];have e:aT ((aa.table n)[i]::(aa.table n).drop (i+1))=aT ((aa.table n).drop (i+1)):=by
     simp only[aT,BM,z,BH,if_false]
    rw[e];exact this
 have:=y (aa.table n).length K 0 0 (by omega) (by omega) (BU _);rw[BW,Nat.zero_add]at this;exact this
theorem ye (K:Nat)(n:aa)(X:NB n)(hT:aA (aa.table n))(Y:1048577<K):Ret (Q22.f K (n,())) (iB n):=by
 refine (gl (aa.doubts n) (step:=λrec a=>Q22.s0 K (n,()) (Q22.l1 K (n,()) rec) (Q22.l2 K (n,())) rec a)
  (λi z=>(0<i->¬ ((aa.doubts n)[i-1]'(by omega)).1>=(aa.doubts n)[i].1)/\lr n (aa.doubts n)[i]) (Q:=(aT (aa.table n)).length=(aa.doubts n).length) (rt:=Q22.l2 K (n,()) (0,0)) X.doubts ?_ ?_ Y (λ_=>by rw[zA K n X Y];exact Ret.dec)).iff ?_
 ·intro rec i z;have Z:=X.by_ _ (BC z);have hl:=X.doubts;have u:Rnd (Q22.l1 K (n,()) rec ((i:Int),0,(aa.doubts n)[i].1,(aa.doubts n)[i].2.1,(aa.doubts n)[i].2.2.1,(aa.doubts n)[i].2.2.2)) (ByP n.1 (aa.doubts n)[i].2.2.2) (rec (wr .i64 ((i:Int)+1))):=by
   generalize (aa.doubts n)[i]=d at Z;refine (oM d.2.2.2 (step:=λy a=>Q22.s1 K (n,()) rec y a) (λk=>((i:Int),(k:Int),d.1,d.2.1,d.2.2.1,d.2.2.2))
    (λk r=>InP d.2.2.2[k] 0 7/\¬ am d.2.2.2[k]≠am n.1/\(0<k->¬ d.2.2.2[k-1]'(by omega)>=d.2.2.2[k])/\True) Z ?_ ?_ Y).iff ?_
   ·intro y k r;simp only[Q22.s1];rw[decide_eq_true (by omega:(k:Int)<(BA d.2.2.2:Int)),ar k (by omega)];simp only[cond_true];refine Rnd.ix (af r) (Rnd.nx (cF K _ _ _) λ_=>Rnd.ix (af r) (Rnd.vl (dj K _) (Rnd.vl (dj K _) (Rnd.cndN (by simp) λ_=>Rnd.two (λH=>?_) Rnd.end_))));rw[eO k H (by omega)];exact Rnd.ix (af (show k-1<d.2.2.2.length by omega)) (Rnd.ix (af r) (Rnd.cndN (by simp) λ_=>Rnd.end_))
   ·intro y;simp only[Q22.s1,aR];rfl
   ·rw[wP];constructor
    ·intro h k r;exact⟨⟨(h k r).1,BD.1 (h k r).2.1⟩,(h k r).2.2.1⟩
    ·intro h k r;exact⟨(h k r).1.1,BD.2 (h k r).1.2,(h k r).2,trivial⟩
  obtain⟨o,ho,R⟩:=fh K (aa.table n) (aa.doubts n)[i].1 X.table Y;simp only[Q22.s0];rw[decide_eq_true (show ((i:Int)<(BA (aa.doubts n):Int)) by omega)];simp only[cond_true];refine Rnd.ix (af z) (Rnd.vl R ?_);cases ho with
  |no h =>
   have O:¬ lr n (aa.doubts n)[i]:=λ⟨⟨f,R,e,_⟩,_⟩=>h f R e
   refine Rnd.two (λH=>?_) ?_
   ·rw[eO i H (by omega)];refine Rnd.ix (af (show i-1<(aa.doubts n).length by omega)) (Rnd.cndN (by simp) λ_=>?_);exact .inr ⟨O,rfl⟩
   ·exact .inr ⟨O,rfl⟩
  |at_ j M e =>
   have J:decide ((j:Int)<0)=false:=decide_eq_false (by omega);have I:lr n (aa.doubts n)[i]<->(¬ (aa.table n)[j].2.2.1≠2/\¬ (aa.table n)[j].2.1≠(aa.doubts n)[i].2.1/\InP (aa.doubts n)[i].2.2.1 0 n.2.2.2.2.2.1/\¬ (aa.doubts n)[i].2.2.2=[]/\ByP n.1 (aa.doubts n)[i].2.2.2):=by
    constructor
    ·rintro⟨⟨f,R,e1,e2,e3⟩,h2,h3,h4⟩;have:=ig hT.2 R (BC M) (e1.trans e.symm);subst this;exact⟨BD.2 e2,BD.2 e3,h2,h3,h4⟩
    ·rintro⟨e2,e3,h2,h3,h4⟩;exact⟨⟨_,BC M,e,BD.1 e2,BD.1 e3⟩,h2,h3,h4⟩
   refine Rnd.two (λH=>?_) ?_
   ·rw[eO i H (by omega)];refine Rnd.ix (af (show i-1<(aa.doubts n).length by omega)) (Rnd.cndN (by simp) λ_=>?_);simp only[J,cond_false];refine Rnd.iff ?_ I.symm;exact Rnd.ix (af M) (Rnd.cndN (by simp) λ_=>Rnd.ix (af M) (Rnd.cndN (by simp) λ_=>Rnd.nx (cF K _ _ _) λ_=>Rnd.cndN (oR _) λ_=>u))
   ·simp only[J,cond_false];refine Rnd.iff ?_ I.symm;exact Rnd.ix (af M) (Rnd.cndN (by simp) λ_=>Rnd.ix (af M) (Rnd.cndN (by simp) λ_=>Rnd.nx (cF K _ _ _) λ_=>Rnd.cndN (oR _) λ_=>u))
 ·intro rec;simp only[Q22.s0,aR];rfl
 ·rw[iB,dE,gJ];constructor
  ·rintro⟨h1,h2⟩;exact⟨λi z=>(h1 i z).2,λi z H=>by have:=(h1 i z).1 H;omega,h2⟩
  ·rintro⟨h1,h2,h3⟩;exact⟨λi z=>⟨λH=>by have:=h2 i z H;omega,h1 i z⟩,h3⟩
theorem zC (K:Nat)(n:aa)(Z:NB n)(S:List ag)(hS:S.length=(aa.doubts n).length)(hK:1048577<K):Ret (Q93.l1 K (n,()) (S,0))
  (∀ i (u:i<(aa.doubts n).length),(aa.doubts n)[i].1=(S[i]'(by omega)).1/\(aa.doubts n)[i].2.1=(S[i]'(by omega)).2.1/\InP (aa.doubts n)[i].2.2.1 0 n.2.2.2.2.2.1/\(aa.doubts n)[i].2.2.2≠[]/\ByP n.1 (aa.doubts n)[i].2.2.2):=by
 have hl:=Z.doubts;have J:=lS (step:=λrec a=>Q93.s1 K (n,()) (Q93.l2 K (n,()) rec) rec a) (aa.doubts n).length (λi=>(S,(i:Int)))
  (λi=>∀ u:i<(aa.doubts n).length,¬ (aa.doubts n)[i].1≠(S[i]'(by omega)).1/\¬ (aa.doubts n)[i].2.1≠(S[i]'(by omega)).2.1/\InP (aa.doubts n)[i].2.2.1 0 n.2.2.2.2.2.1/\¬ (aa.doubts n)[i].2.2.2=[]/\ByP n.1 (aa.doubts n)[i].2.2.2)
  (rb true) (rb false) ?_ ?_ (aa.doubts n).length K 0 (by omega) (by omega)
 ·rcases J with ⟨X,I⟩|⟨X,I⟩
  ·refine⟨true,I,iff_of_true rfl λi u=>?_⟩;obtain⟨M,R,O⟩:=X i (BI _) u u;exact⟨BD.1 M,BD.1 R,O⟩
  ·refine⟨false,I,iff_of_false (by simp) λh=>X λi _ u _=>?_⟩;obtain⟨M,R,O⟩:=h i u;exact⟨BD.2 M,BD.2 R,O⟩
 ·intro rec i u;have Y:=Z.by_ _ (BC u);have H:Rnd (Q93.l2 K (n,()) rec (S,(i:Int),(aa.doubts n)[i].2.2.2,(BA (aa.doubts n)[i].2.2.2:Int),0,(aa.doubts n)[i].1,(aa.doubts n)[i].2.1,(aa.doubts n)[i].2.2.1,(aa.doubts n)[i].2.2.2)) (ByP n.1 (aa.doubts n)[i].2.2.2) (rec (S,wr .i64 ((i:Int)+1))):=by
   generalize (aa.doubts n)[i]=d at Y;refine (oM d.2.2.2 (step:=λr a=>Q93.s2 K (n,()) rec r a) (λk=>(S,(i:Int),d.2.2.2,(BA d.2.2.2:Int),(k:Int),d.1,d.2.1,d.2.2.1,d.2.2.2))
    (λk z=>(InP d.2.2.2[k] 0 7/\am d.2.2.2[k]=am n.1)/\(0<k->¬ d.2.2.2[k]<=d.2.2.2[k-1]'(by omega))/\True) Y ?_ ?_ hK).iff ?_
   ·intro r k z;simp only[Q93.s2,zcp4];rw[decide_eq_true (by omega:(k:Int)<(BA d.2.2.2:Int)),ar k (by omega)];simp only[cond_true];refine Rnd.ix (af z) (Rnd.nx (pB K n _) λ_=>Rnd.two (λh0=>?_) Rnd.end_);rw[eO k h0 (by omega)];exact Rnd.ix (af (show k-1<d.2.2.2.length by omega)) (Rnd.cndN (by simp) λ_=>Rnd.end_)
   ·intro r;simp only[Q93.s2,zcp4,aR];rfl
   ·rw[wP];constructor
    ·intro h k z;exact⟨(h k z).1,(h k z).2.1⟩
    ·intro h k z;exact⟨(h k z).1,(h k z).2,trivial⟩
  have y:i<S.length:=by omega
  have hr:Rnd (Q93.s1 K (n,()) (Q93.l2 K (n,()) rec) rec (S,(i:Int)))
    (¬ (aa.doubts n)[i].1≠S[i].1/\¬ (aa.doubts n)[i].2.1≠S[i].2.1/\InP (aa.doubts n)[i].2.2.1 0 n.2.2.2.2.2.1/\¬ (aa.doubts n)[i].2.2.2=[]/\ByP n.1 (aa.doubts n)[i].2.2.2) (rec (S,((i+1:Nat):Int))):=by
   rw[<- ar i (by omega)];simp only[Q93.s1];rw[decide_eq_true (show ((i:Int)<(BA (aa.doubts n):Int)) by omega),Int.toNat_natCast];simp only[cond_true];exact Rnd.ix (af u) (Rnd.ix (af y) (Rnd.ix (af y) (Rnd.cndN (by simp) λ_=>Rnd.ix (af y) (Rnd.ix (af y) (Rnd.cndN (by simp) λ_=>Rnd.nx (eH K _ _ _) λ_=>Rnd.cndN (oR _) λ_=>H)))))
  exact hr.imp (λh=>⟨λ_=>h.1,h.2⟩) (λh=>⟨λI=>h.1 (I u),h.2⟩)
 ·intro rec;simp only[Q93.s1,aR];rfl
theorem yf (K:Nat)(n:aa)(hn:NB n)(hT:aA (aa.table n))(hK:1048577<K):Ret (Q93.f K (n,())) (iB n):=by
 have hl:=hn.table;have a2:=hn.doubts;have a1:∀ (d k i:Nat),i+d=(aa.table n).length->d<k->ae (λrec a=>Q93.s0 K (n,()) (Q93.l1 K (n,())) rec a) k (aT ((aa.table n).take i),(i:Int)) =
   (bif (BA (aa.doubts n):Int) != (BA (aT (aa.table n)):Int) then rb false else Q93.l1 K (n,()) (aT (aa.table n),0)):=by
  intro d;induction d with
  |zero =>
   intro k i y hk;obtain⟨k,rfl⟩:∃ X,k=X+1:=⟨k-1,by omega⟩;show Q93.s0 K (n,()) _ _ _=_;simp only[Q93.s0];rw[decide_eq_false (show ¬ ((i:Int)<(BA (aa.table n):Int)) by omega),BO (by omega)];rfl
  |succ d J =>
   intro k i y hk;obtain⟨k,rfl⟩:∃ X,k=X+1:=⟨k-1,by omega⟩;have J:=J k (i+1) (by omega) (by omega);have O:i<(aa.table n).length:=by omega
   show Q93.s0 K (n,()) _ _ _=_;simp only[Q93.s0];rw[decide_eq_true (show ((i:Int)<(BA (aa.table n):Int)) by omega),af O,ar i (by omega)];simp only[cond_true,BB];have e:aT ((aa.table n).take (i+1))=aT ((aa.table n).take i)++(if (aa.table n)[i].2.2.1==2 then [(aa.table n)[i]] else []):=by
    rw[aT,BS,BF O,List.filter_append];simp[aT,BM]
   cases hb:((aa.table n)[i].2.2.1==2) with
   |true =>
    rw[hb]at e;simp only[if_true]at e;simp only[cond_true];have a3:(aT ((aa.table n).take i)).length<=i:=Nat.le_trans (List.length_filter_le _ _) (by simp;omega);have hs:decide ((BA (aT ((aa.table n).take i))+BA [(aa.table n)[i]])*32<=an)=true:=decide_eq_true (by simp only[an,BP];omega);rw[hs];rw[e]at J;exact J
   |false =>
    rw[hb]at e;simp only[BH,if_false,List.append_nil]at e;rw[e]at J;exact J
 have h0:Q93.f K (n,())=_:=a1 (aa.table n).length K 0 (by omega) (by omega);rw[h0];have z:∀ f∈aT (aa.table n),f∈aa.table n/\f.2.2.1=2:=λf H=>by
  rw[aT,BV]at H;exact⟨H.1,by simpa using H.2⟩
 have u:Asc (λf:ag=>f.1) (aT (aa.table n)):=List.Pairwise.filter _ hT.2;by_cases r:(aT (aa.table n)).length=(aa.doubts n).length
 ·have:((BA (aa.doubts n):Int) != (BA (aT (aa.table n)):Int))=false:=by simp[r]
  rw[this];refine (zC K n hn _ r hK).iff ⟨λh=>⟨?_,?_,r⟩,λ⟨h1,h2,_⟩ i y=>?_⟩
  ·rw[dE];intro i y;obtain⟨R,h4,Z,h6,h7⟩:=h i y;obtain⟨h8,h9⟩:=z _ (BC (show i<(aT (aa.table n)).length by omega));exact⟨⟨_,h8,R.symm,h9,h4.symm⟩,Z,h6,h7⟩
  ·rw[cC]at u ⊢;intro i j y hj a0;have:=u i j (by omega) (by omega) a0;rw[(h i y).1,(h j hj).1];exact this
  ·have I:=i8 ((aa.doubts n).map (·.1)) ((aT (aa.table n)).map (·.1)) (by rw[BL];exact h2) (by rw[BL];exact u) (by
    intro x hx;obtain⟨d,hd,rfl⟩:=BX.1 hx;obtain⟨⟨f,H,Y,e2,_⟩,_⟩:=h1 d hd;exact BX.2 ⟨f,by rw[aT,BV];exact⟨H,by simpa using e2⟩,Y⟩)
   have I:=I.2 (by simp[r]);have M:i<(aT (aa.table n)).length:=by omega
   have e:(aa.doubts n)[i].1=(aT (aa.table n))[i].1:=by
    have R:((aa.doubts n).map (·.1))[i]?=((aT (aa.table n)).map (·.1))[i]?:=by rw[I]
    rw[BT,BT,BF y,BF M]at R;simpa using R
   obtain⟨⟨f,H,Y,e2,e3⟩,h4,Z,h6⟩:=h1 _ (BC y);have:=ig hT.2 H (z _ (BC M)).1 (Y.trans e);subst this;exact⟨e,e3.symm,h4,Z,h6⟩
 ·have:((BA (aa.doubts n):Int) != (BA (aT (aa.table n)):Int))=true:=by simp;omega
  rw[this];exact Ret.no (λh=>r h.2.2)
def r9 (n:aa):Prop:=n.2.2.1=false/\n.2.2.2.2.1=0/\n.2.2.2.2.2.1=0/\n.2.2.2.2.2.2.1=0/\n.2.2.2.2.2.2.2.1=0 /\
 wr .i64 (wr .i64 (wr .i64 (wr .i64 ((BA (aa.table n):Int)+(BA (aa.cast n):Int))+(BA (aa.doubts n):Int))+(BA (aa.places n):Int))+(BA (aa.others n):Int))=0 /\
 aa.probe n=(0,0,0,false)/\aa.coord n=(0,0,0,0)
def UpP (n:aa):Prop:=aA (aa.table n)/\ca (aa.table n) (am n.1)/\da n/\(cQ (aa.cast n)/\gR (aa.table n) (aa.cast n))/\cY n/\iB n/\cG (aa.coord n)/\er n.1 (aa.places n)/\cZ n.1 (aa.others n)
def fE (n:aa):Prop:=InP n.1 0 7/\InP n.2.2.2.2.2.1 0 999999/\InP n.2.2.2.2.2.2.1 0 999999/\InP n.2.2.2.2.2.2.2.1 0 8/\InP n.2.2.2.2.1 0 999/\(if n.2.1=true then UpP n else r9 n)
theorem oS (K:Nat)(n:aa)(r:NB n)(u:1048577<K):Ret (Q26.f K (n,())) (fE n):=by
 refine Ret.nx (cF K _ _ _) λ_=>Ret.nx (cF K _ _ _) λ_=>Ret.nx (cF K _ _ _) λ_=>Ret.nx (cF K _ _ _) λ_=>Ret.nx (cF K _ _ _) λ_=>?_
 dsimp only;cases J:n.2.1 with
 |false =>
  simp only[BQ,cond_true,BH,if_false,r9];refine Ret.cnd (by simp) λ_=>Ret.cnd (by simp) λ_=>Ret.cnd (by simp) λ_=>Ret.cnd (by simp) λ_=>Ret.cnd (by simp) λ_=>Ret.cnd (by simp) λ_=>?_
  refine Ret.iff (Ret.cnd (P:=(aa.probe n).1=0) (by simp) λ_=>Ret.cnd (P:=(aa.probe n).2.1=0) (by simp) λ_=>Ret.cnd (P:=(aa.probe n).2.2.1=0) (by simp) λ_=>Ret.cnd (P:=(aa.probe n).2.2.2=false) (by simp) λ_ =>
   Ret.cnd (P:=(aa.coord n).1=0) (by simp) λ_=>Ret.cnd (P:=(aa.coord n).2.1=0) (by simp) λ_=>Ret.cnd (P:=(aa.coord n).2.2.1=0) (by simp) λ_=>Ret.of (P:=(aa.coord n).2.2.2=0) (by simp)) ?_
  generalize aa.probe n=p;generalize aa.coord n=c;obtain⟨M,Y,I,R⟩:=p;obtain⟨z,X,O,H⟩:=c;simp only[BR];constructor
  ·rintro⟨h1,h2,h3,h4,h5,h6,h7,h8⟩;exact⟨⟨h1,h2,h3,h4⟩,h5,h6,h7,h8⟩
  ·rintro⟨⟨h1,h2,h3,h4⟩,h5,h6,h7,h8⟩;exact⟨h1,h2,h3,h4,h5,h6,h7,h8⟩
 |true =>
  simp only[BE,cond_false,if_true,UpP];exact Ret.px (gm K _ r.table u) λy=>Ret.vl (dj K _) (Ret.px (eY K _ _ r.table u) λ_=>Ret.px (Aw K n r y u) λ_=>Ret.px (tW K n r y u) λ_=>Ret.px (zx K n r u) λ_ =>
   Ret.px (ye K n r y u) λ_=>Ret.px (iA K _) λ_=>Ret.px (ya K n r u) λ_=>(yc K n r u).id)
theorem Az (K:Nat)(n:aa):Ret (Q66.f K (n,())) (r9 n):=by
 simp only[Q66.f,gS,pA,r9];exact Ret.cnd (by simp) λ_=>Ret.cnd (by simp) λ_=>Ret.cnd (by simp) λ_=>Ret.cnd (by simp) λ_=>Ret.cnd (by simp) λ_=>Ret.cnd (by simp) λ_=>Ret.cnd (by simp) λ_=>Ret.dec
theorem sD (K:Nat)(n:aa)(r:NB n)(u:1048577<K):Ret (Q101.f K (n,())) (fE n):=by
 refine Ret.nx (i9 K _) λ_=>Ret.nx (eH K _ _ _) λ_=>Ret.nx (eH K _ _ _) λ_=>Ret.nx (eH K _ _ _) λ_=>Ret.nx (eH K _ _ _) λ_=>?_
 dsimp only;cases z:n.2.1 with
 |false =>
  simp only[BQ,cond_true,BH,if_false];exact (Az K n).id
 |true =>
  simp only[BE,cond_false,if_true,UpP];refine Ret.iff (Ret.px (qo K n r u) λy=>Ret.px (zy K n r y.1 u) λ_=>Ret.px (yf K n r y.1 u) λ_=>Ret.px (nI K _) λ_=>Ret.px (yb K n r u) λ_=>(yd K n r u).id) ?_;constructor
  ·rintro⟨⟨h1,h2,h3,h4,h5⟩,h6,h7,h8,h9,h10⟩;exact⟨h1,h2,h3,⟨h4,h5⟩,h6,h7,h8,h9,h10⟩
  ·rintro⟨h1,h2,h3,⟨h4,h5⟩,h6,h7,h8,h9,h10⟩;exact⟨⟨h1,h2,h3,h4,h5⟩,h6,h7,h8,h9,h10⟩
theorem fk {A R:Type}{step:(A->Option R)->A->Option R}(n:Nat)(S:Nat->A)(rt:Option R)(h:∀ (rec:A->Option R) (i:Nat),i<n->step rec (S i)=rec (S (i+1)))(r:∀ rec:A->Option R,step rec (S n)=rt)
  {k:Nat} (y:n<k):ae step k (S 0)=rt:=by
 rcases lS (step:=step) n S (λ_=>True) rt none (λrec i z=>.inl ⟨trivial,h rec i z⟩) r n k 0 (by omega) y with ⟨_,u⟩|⟨u,_⟩
 ·exact u
 ·exact absurd (λ_ _ _=>trivial) u
def Szd (o:Option ((Int×Unit)×Unit))(left:Int)(Q:Prop):Prop:=∃ r,o=some ((r,()),())/\(r<0\/(0<=r/\r<=left/\Q))
theorem Szd.sub (left:Int)(n:Nat)(J:0<=left)(I:left<=1048576)(M:n<=9223372036854775807){g:Option ((Int×Unit)×Unit)}{Q:Prop}(H:wr .i64 (left-(n:Int))=left-n->(n:Int)<=left->Szd g (left-n) Q) :
  Szd (bif decide (wr .i64 (left-(n:Int))<0) then some ((-1,()),()) else g) left (n<=1048576/\Q):=by
 have e:wr .i64 (left-(n:Int))=left-n:=aJ (by omega) (by omega);by_cases h:left-(n:Int)<0
 ·rw[e,decide_eq_true h];exact⟨-1,rfl,.inl (by decide)⟩
 ·rw[decide_eq_false (by rw[e];exact h)];obtain⟨r,y,z⟩:=H e (by omega);exact⟨r,y,z.imp id λu=>⟨u.1,by omega,by omega,u.2.2⟩⟩
theorem Szd.bind {o:Option ((Int×Unit)×Unit)}{left:Int}{P Q:Prop}{G:(Int×Unit)×Unit->Option ((Int×Unit)×Unit)}(h:Szd o left P)(J:∀ r,0<=r->r<=left->P->Szd (G ((r,()),())) r Q) :
  Szd (o.bind λy=>bif decide (y.1.1<0) then some ((-1,()),()) else G y) left (P/\Q):=by
 obtain⟨r,M,u⟩:=h;rw[M,BB];rcases u with u|⟨u,O,z⟩
 ·rw[decide_eq_true u];exact⟨-1,rfl,.inl (by decide)⟩
 ·rw[show decide (r<0)=false from decide_eq_false (by omega)];obtain⟨X,R,I⟩:=J r u O z;exact⟨X,R,I.imp id λH=>⟨H.1,by omega,z,H.2.2⟩⟩
theorem Szd.ret (r:Int)(h:0<=r):Szd (some ((r,()),())) r True:=⟨r,rfl,.inr ⟨h,Int.le_refl _,trivial⟩⟩
theorem Szd.iff {o:Option ((Int×Unit)×Unit)}{left:Int}{P Q:Prop}(h:Szd o left P)(e:P->Q):Szd o left Q:=by
 obtain⟨r,y,z⟩:=h;exact⟨r,y,z.imp id λu=>⟨u.1,u.2.1,e u.2.2⟩⟩
end Go.Proofs.YtaelpfghkndliaaGreatEv
