/- What is ok of facts, tables, casts: the program and the specification say the same. -/
import Derived.Test.YtaelpfghkndliaaGreatFns
import Derived.Test.YtaelpfghkndliaaGreatP0
set_option linter.unusedVariables false
set_option linter.unusedSimpArgs false
open Bool renaming not_true->BE,false_eq_true->BH,not_false->BQ
open Classical renaming not_not->BD
open Int renaming natCast_nonneg->BJ
open List renaming length->BA,getElem_mem->BC,getElem?_eq_getElem->BF,getElem_of_mem->BG,drop_eq_getElem_cons->BK,pairwise_map->BL,filter_cons->BM,drop_of_length_le->BN,take_of_length_le->BO,length_singleton->BP,take_add_one->BS,getElem?_map->BT,mem_filter->BV,drop_zero->BW,mem_map->BX
open Nat renaming zero_le->BI,le_refl->BU
open Option renaming bind_some->BB
open Prod.mk renaming injEq->BR
namespace Go.Proofs.YtaelpfghkndliaaGreatEv
open Go
abbrev InP (n u r:Int):Prop:=u<=n/\n<=r
theorem eJ (K:Nat)(n r u:Int):Ret (Q64.f K (n,r,u,())) (InP n r u):=by
 simp only[Q64.f];exact Ret.cnd (by simp) λ_=>Ret.dec
theorem cG (K:Nat)(n r u:Int):Ret (Q11.f K (n,r,u,())) (InP n r u):=by
 simp only[Q11.f];exact Ret.cnd (by simp) λ_=>Ret.dec
theorem Ret.id {o:Option RB}{P:Prop}(h:Ret o P):Ret (o.bind λy=>some ((y.1.1,()),())) P:=by
 obtain⟨b,u,r⟩:=h;exact⟨b,by rw[u];rfl,r⟩
theorem Ret.neg {o:Option RB}{P:Prop}(h:Ret o P):Ret (o.bind λy=>some ((!y.1.1,()),())) (¬ P):=by
 obtain⟨b,r,u⟩:=h;exact⟨!b,by rw[r];rfl,by cases b <;> simp_all⟩
def bm (f:ah):Prop:=InP f.1 0 7/\InP f.2.1 0 999/\InP f.2.2.1 1 4
theorem ja (K:Nat)(n:Int):Ret (Q65.f K (n,())) (InP n 0 7):=(eJ K n 0 7).id
theorem lU (K:Nat)(f:ah):Ret (Q67.f K (f,())) (bm f) :=
 Ret.and (ja K f.1) (λ_=>Ret.and (eJ K f.2.1 0 999) (λ_=>(eJ K f.2.2.1 1 4).id) rfl) rfl
theorem oP (K:Nat)(f:ah):Ret (Q12.f K (f,())) (bm f) :=
 Ret.and (cG K f.1 0 7) (λ_=>Ret.and (cG K f.2.1 0 999) (λ_=>(cG K f.2.2.1 1 4).id) rfl) rfl
def aB (t:List ah):Prop:=(∀ f∈t,bm f)/\Asc (λf:ah=>f.1) t
theorem sy {t:List ah}:aB t<->∀ j,j<t.length->∃ h:j<t.length,bm t[j]/\(0<j->(t[j-1]'(by omega)).1<t[j].1):=by
 unfold aB;rw[dF,gM];constructor
 ·rintro⟨h1,h2⟩ j hj;exact⟨hj,h1 j hj,λr=>h2 j hj r⟩
 ·intro h;exact⟨λi u=>(h i u).2.1,λi u r=>(h i u).2.2 r⟩
theorem eV {P:Prop}:(P/\True)<->P:=by simp
theorem gp (K:Nat)(t:List ah)(M:t.length<=1048576)(J:1048577<K):Ret (Q13.f K (t,())) (aB t):=by
 refine Ret.iff (qo (step:=λrec a=>Q13.s0 K (t,()) rec a) t.length (λi=>(i:Int)) (λj=>∃ h:j<t.length,bm t[j]/\(0<j->(t[j-1]'(by omega)).1<t[j].1)) (Q:=True) (rt:=rb true) ?_ ?_ (by omega) (λ_=>Ret.yes trivial)) (eV.trans sy.symm)
 ·intro rec i u;simp only[Q13.s0];rw[decide_eq_true (by omega:(i:Int)<(BA t:Int)),ag u,au i (by omega)];simp only[cond_true,BB];obtain⟨b,H,y⟩:=oP K t[i];rw[H];simp only[BB];cases b with
  |false=>exact .inr ⟨λ⟨_,r,_⟩=>by simpa using y.2 r,rfl⟩
  |true =>
   simp only[BE,cond_false];by_cases z:(i:Int)>0
   ·rw[decide_eq_true z,eP i (by omega) (by omega),ag (by omega:i-1<t.length)];simp only[cond_true,BB];by_cases r:(t[i-1]'(by omega)).1>=t[i].1
    ·rw[decide_eq_true r];exact .inr ⟨λ⟨_,_,I⟩=>by have:=I (by omega);omega,rfl⟩
    ·rw[decide_eq_false r];exact .inl ⟨⟨u,y.1 rfl,λ_=>by omega⟩,rfl⟩
   ·rw[decide_eq_false z];exact .inl ⟨⟨u,y.1 rfl,λ_=>by omega⟩,rfl⟩
 ·intro rec;simp only[Q13.s0];rw[decide_eq_false (by omega:¬ ((t.length:Int)<(BA t:Int)))];rfl
theorem gq (K:Nat)(t:List ah)(M:t.length<=1048576)(J:1048577<K):Ret (Q68.f K (t,())) (aB t):=by
 refine Ret.iff (qo (step:=λrec a=>Q68.s0 K (t,()) rec a) t.length (λi=>(i:Int)) (λj=>∃ h:j<t.length,bm t[j]/\(0<j->(t[j-1]'(by omega)).1<t[j].1)) (Q:=True) (rt:=rb true) ?_ ?_ (by omega) (λ_=>Ret.yes trivial)) (eV.trans sy.symm)
 ·intro rec i u;simp only[Q68.s0];rw[decide_eq_true (by omega:(i:Int)<(BA t:Int)),ag u,au i (by omega)];simp only[cond_true,BB];obtain⟨b,H,y⟩:=lU K t[i];rw[H];simp only[BB];cases b with
  |false=>exact .inr ⟨λ⟨_,r,_⟩=>by simpa using y.2 r,rfl⟩
  |true =>
   simp only[BE,cond_false];by_cases z:(i:Int)>0
   ·rw[decide_eq_true z,eP i (by omega) (by omega),ag (by omega:i-1<t.length)];simp only[cond_true,BB];by_cases r:t[i].1<=(t[i-1]'(by omega)).1
    ·rw[decide_eq_true r];exact .inr ⟨λ⟨_,_,I⟩=>by have:=I (by omega);omega,rfl⟩
    ·rw[decide_eq_false r];exact .inl ⟨⟨u,y.1 rfl,λ_=>by omega⟩,rfl⟩
   ·rw[decide_eq_false z];exact .inl ⟨⟨u,y.1 rfl,λ_=>by omega⟩,rfl⟩
 ·intro rec;simp only[Q68.s0];rw[decide_eq_false (by omega:¬ ((t.length:Int)<(BA t:Int)))];rfl
inductive vr (t:List ah) (node:Int):Option Nat->Prop where
 |at_ (i:Nat) (h:i<t.length) (e:t[i].1=node):vr t node (some i)
 |no (h:∀ f∈t,f.1≠node):vr t node none
theorem fj (K:Nat)(t:List ah)(r:Int)(M:t.length<=1048576)(J:1048577<K) :
  ∃ o,vr t r o/\Q16.f K (t,r,())=some (((match o with|some i=>((i:Nat):Int)|none=>-1),()),()):=by
 have:=cr (step:=λrec a=>Q16.s0 K (t,r,()) rec a) t.length (λi=>(i:Int)) (λj=>∃ h:j<t.length,t[j].1=r) (some ((-1,()),())) (λj=>some ((((j:Nat):Int),()),())) ?_ ?_ t.length K 0 (by omega) (by omega)
 ·rcases this with ⟨y,z⟩|⟨j,_,y,⟨I,H⟩,_,z⟩
  ·refine⟨none,.no ?_,z⟩;rw[dF];exact λi u e=>y i (BI _) u ⟨u,e⟩
  ·exact⟨some j,.at_ j I H,z⟩
 ·intro rec i u;simp only[Q16.s0];rw[decide_eq_true (by omega:(i:Int)<(BA t:Int)),ag u,au i (by omega)];simp only[cond_true,BB];by_cases h:t[i].1=r
  ·right;refine⟨⟨u,h⟩,?_⟩;have:(t[i].1==r)=true:=by simpa using h
   rw[this];rfl
  ·left;refine⟨λ⟨_,y⟩=>h y,?_⟩;have:(t[i].1==r)=false:=by simpa using h
   rw[this];rfl
 ·intro rec;simp only[Q16.s0];rw[decide_eq_false (by omega:¬ ((t.length:Int)<(BA t:Int)))];rfl
def fk (a b:Int):Int:=if a<b then -1 else if a>b then 1 else 0
theorem nI (K:Nat)(a b:Int):Q71.f K (a,b,())=some ((fk a b,()),()):=by
 have y:∀ x:Int,Q70.f K (x,())=rb false:=λx=>by simp[Q70.f]
 simp only[Q71.f,y,BB,cond_false,fk];by_cases u:a<b
 ·rw[decide_eq_true u,if_pos u];rfl
 ·rw[decide_eq_false u,if_neg u];by_cases r:a>b
  ·rw[decide_eq_true r,if_pos r];rfl
  ·rw[decide_eq_false r,if_neg r];rfl
theorem sA (a b:Int):fk a b<0<->a<b:=by
 unfold fk;by_cases r:a<b
 ·simp[r]
 ·by_cases u:a>b <;> simp[r,u]
theorem uE (a b:Int):fk a b>0<->a>b:=by
 unfold fk;by_cases r:a<b
 ·simp[r];omega
 ·by_cases u:a>b <;> simp[r,u]
theorem ii (a b:Int):fk a b=0<->a=b:=by
 unfold fk;by_cases r:a<b
 ·simp[r];omega
 ·by_cases u:a>b <;> simp[r,u] <;> omega
structure Cut (t:List ah) (node:Int) (m:Nat):Prop where
 le:m<=t.length
 lo:∀ i,(h:i<t.length)->i<m->t[i].1<node
 hi:∀ i,(h:i<t.length)->m<=i->node<=t[i].1
theorem sC (K:Nat)(t:List ah)(r:Int)(ht:t.length<=1048576)(J:Asc (λf:ah=>f.1) t)(hK:1048577<K) :
  ∃ m,Cut t r m/\Q73.f K (t,r,())=some ((((m:Nat):Int),decide (∃ h:m<t.length,t[m].1=r),()),()):=by
 let ks:Nat->Int:=λi=>if h:i<t.length then t[i].1 else 0
 have u:∀ i (h:i<t.length),ks i=t[i].1:=λi h=>by simp[ks,h]
 let H:Nat->Option ((Int×Bool×Unit)×Unit):=λm=>some ((((m:Nat):Int),decide (∃ h:m<t.length,t[m].1=r),()),())
 have Y:∀ f:ah,((Q72.f K (f,r,())).map λy=>y.1.1)=some (fk f.1 r):=λf=>by
  simp only[Q72.f];rw[nI];rfl
 have:=pz (step:=λrec a=>Q69.s0 K (t,r,(λM=>(Q72.f K (M.1,M.2.1,())).map λy=>y.1.1),()) rec a) (ks:=ks) (n:=t.length) (t:=r) H ht
  (λi j R X=>by
   rw[u i (by omega),u j X];exact cD.1 J i j (by omega) X R) ?_ ?_ t.length K 0 t.length (by omega) (BI _) (BU _) (by omega) (λi I=>by omega) (λi I hn=>by omega)
 ·obtain⟨m,z,O,h3,h4⟩:=this;refine⟨m,⟨z,λi h I=>by rw[<- u i h];exact O i I,λi h I=>by rw[<- u i h];exact h3 i I h⟩,?_⟩;simp only[Q73.f];have e:Q69.f K (t,r,(λM=>(Q72.f K (M.1,M.2.1,())).map λy=>y.1.1),())=H m:=h4;rw[e];rfl
 ·intro rec a b a0 hb;have Z:(a+b) / 2<t.length:=by omega
  simp only[Q69.s0];rw[decide_eq_true (by omega:(a:Int)<(b:Int)),nH (by omega)];simp only[cond_true];rw[ag Z];simp only[BB,Y];rw[u _ Z,au _ (by omega)];by_cases h:t[(a+b) / 2].1<r
  ·rw[if_pos h,decide_eq_true ((sA _ _).2 h)];rfl
  ·rw[if_neg h,decide_eq_false (λz=>h ((sA _ _).1 z))];rfl
 ·intro rec a ha;simp only[Q69.s0];rw[decide_eq_false (by omega)];simp only[cond_false];by_cases h:a<t.length
  ·rw[decide_eq_true (by omega:(a:Int)<(BA t:Int)),ag h];simp only[cond_true,BB,Y,H];congr 3;by_cases z:t[a].1=r
   ·have:(fk t[a].1 r==0)=true:=by simpa using (ii t[a].1 r).2 z
    rw[this,decide_eq_true ⟨h,z⟩]
   ·have:(fk t[a].1 r==0)=false:=by
     rw[beq_eq_false_iff_ne];exact λe=>z ((ii _ _).1 e)
    rw[this,decide_eq_false (λ⟨_,O⟩=>z O)]
  ·rw[decide_eq_false (by omega)];simp only[cond_false,H];rw[decide_eq_false (λ⟨z,_⟩=>h z)]
def am (n:Int):Int:=wr .i64 (Int.tdiv n 4)
theorem dk (K:Nat)(n:Int):Q15.f K (n,())=some ((am n,()),()):=rfl
theorem mJ (K:Nat)(n:Int):Q77.f K (n,())=some ((am n,()),()):=rfl
theorem nJ (K:Nat)(n:aa):Q80.f K (n,())=some ((am n.1,()),()):=rfl
abbrev aa.table (n:aa):List ah:=n.2.2.2.2.2.2.2.2.1
abbrev aa.cast (n:aa):List aM:=n.2.2.2.2.2.2.2.2.2.1
abbrev aa.probe (n:aa):ah:=n.2.2.2.2.2.2.2.2.2.2.1
abbrev aa.doubts (n:aa):List bO:=n.2.2.2.2.2.2.2.2.2.2.2.1
abbrev aa.coord (n:aa):dA:=n.2.2.2.2.2.2.2.2.2.2.2.2.1
abbrev aa.places (n:aa):List dJ:=n.2.2.2.2.2.2.2.2.2.2.2.2.2.1
abbrev aa.others (n:aa):List bZ:=n.2.2.2.2.2.2.2.2.2.2.2.2.2.2
structure NB (n:aa):Prop where
 table:(aa.table n).length<=1048576
 cast:(aa.cast n).length<=1048576
 doubts:(aa.doubts n).length<=1048576
 by_:∀ d∈aa.doubts n,d.2.2.2.length<=1048576
 places:(aa.places n).length<=1048576
 trips:∀ p∈aa.places n,p.2.2.length<=1048576
 others:(aa.others n).length<=1048576
 facts:∀ x∈aa.others n,x.2.length<=1048576
def cd (t:List ah)(s:Int):Prop:=∀ f∈t,am f.1=s
theorem eZ (K:Nat)(t:List ah)(s:Int)(u:t.length<=1048576)(y:1048577<K):Ret (Q14.f K (t,s,())) (cd t s):=by
 refine (gn t (step:=λrec a=>Q14.s0 K (t,s,()) rec a) (λi r=>¬ am t[i].1≠s) u ?_ ?_ y (λ_=>Ret.yes trivial)).iff (eV.trans ?_)
 ·intro rec i r;simp only[Q14.s0];rw[decide_eq_true (by omega:(i:Int)<(BA t:Int))];exact Rnd.ix (ag r) ((Rnd.cndN (P:=am t[i].1≠s) (by simp[am]) (λ_=>Rnd.end_)).iff (by simp))
 ·intro rec;simp only[Q14.s0];rw[decide_eq_false (by omega:¬ ((t.length:Int)<(BA t:Int)))];rfl
 ·rw[cd,dF];exact⟨λh i r=>BD.1 (h i r),λh i r=>BD.2 (h i r)⟩
theorem wO (K:Nat)(t:List ah)(y:ah×Unit->Option Bool)(p:ah->Prop)(X:t.length<=1048576)(R:1048577<K)(hφ:∀ f∈t,∃ b,y (f,())=some b/\(b=true<->p f)) :
  Ret (Q76.f K (t,y,())) (∃ f∈t,p f):=by
 have:=cr (step:=λrec a=>Q75.s0 K (t,y,()) rec a) t.length (λi=>(i:Int)) (λj=>∃ h:j<t.length,p t[j]) (some ((-1,()),())) (λj=>some ((((j:Nat):Int),()),())) ?_ ?_ t.length K 0 (by omega) (by omega)
 ·simp only[Q76.f];rcases this with ⟨z,u⟩|⟨j,_,z,⟨M,J⟩,_,u⟩
  ·have e:Q75.f K (t,y,())=some ((-1,()),()):=u;rw[e];refine Ret.of ?_;simp only[ge_iff_le,decide_eq_true_eq];refine⟨λh=>absurd h (by decide),λ⟨f,O,I⟩=>?_⟩;obtain⟨i,r,H⟩:=BG O;exact absurd ⟨r,H ▸ I⟩ (z i (BI _) r)
  ·have e:Q75.f K (t,y,())=some ((((j:Nat):Int),()),()):=u;rw[e];refine Ret.of ?_;simp only[ge_iff_le,decide_eq_true_eq];exact⟨λ_=>⟨t[j],BC M,J⟩,λ_=>BJ j⟩
 ·intro rec i r;simp only[Q75.s0];rw[decide_eq_true (by omega:(i:Int)<(BA t:Int)),ag r,au i (by omega)];simp only[cond_true,BB];obtain⟨b,z,u⟩:=hφ t[i] (BC r);rw[z];simp only[BB];cases b with
  |true=>exact .inr ⟨⟨r,u.1 rfl⟩,rfl⟩
  |false=>exact .inl ⟨λ⟨_,h⟩=>by simpa using u.2 h,rfl⟩
 ·intro rec;simp only[Q75.s0];rw[decide_eq_false (by omega:¬ ((t.length:Int)<(BA t:Int)))];rfl
theorem qR (K:Nat)(t:List aM)(y:aM×Unit->Option Bool)(p:aM->Prop)(X:t.length<=1048576)(R:1048577<K)(hφ:∀ f∈t,∃ b,y (f,())=some b/\(b=true<->p f)) :
  Ret (Q82.f K (t,y,())) (∃ f∈t,p f):=by
 have:=cr (step:=λrec a=>Q81.s0 K (t,y,()) rec a) t.length (λi=>(i:Int)) (λj=>∃ h:j<t.length,p t[j]) (some ((-1,()),())) (λj=>some ((((j:Nat):Int),()),())) ?_ ?_ t.length K 0 (by omega) (by omega)
 ·simp only[Q82.f];rcases this with ⟨z,u⟩|⟨j,_,z,⟨M,J⟩,_,u⟩
  ·have e:Q81.f K (t,y,())=some ((-1,()),()):=u;rw[e];refine Ret.of ?_;simp only[ge_iff_le,decide_eq_true_eq];refine⟨λh=>absurd h (by decide),λ⟨f,O,I⟩=>?_⟩;obtain⟨i,r,H⟩:=BG O;exact absurd ⟨r,H ▸ I⟩ (z i (BI _) r)
  ·have e:Q81.f K (t,y,())=some ((((j:Nat):Int),()),()):=u;rw[e];refine Ret.of ?_;simp only[ge_iff_le,decide_eq_true_eq];exact⟨λ_=>⟨t[j],BC M,J⟩,λ_=>BJ j⟩
 ·intro rec i r;simp only[Q81.s0];rw[decide_eq_true (by omega:(i:Int)<(BA t:Int)),ag r,au i (by omega)];simp only[cond_true,BB];obtain⟨b,z,u⟩:=hφ t[i] (BC r);rw[z];simp only[BB];cases b with
  |true=>exact .inr ⟨⟨r,u.1 rfl⟩,rfl⟩
  |false=>exact .inl ⟨λ⟨_,h⟩=>by simpa using u.2 h,rfl⟩
 ·intro rec;simp only[Q81.s0];rw[decide_eq_false (by omega:¬ ((t.length:Int)<(BA t:Int)))];rfl
theorem x7 (K:Nat)(t:List Int)(y:Int×Unit->Option Bool)(p:Int->Prop)(X:t.length<=1048576)(R:1048577<K)(hφ:∀ f∈t,∃ b,y (f,())=some b/\(b=true<->p f)) :
  Ret (Q98.f K (t,y,())) (∃ f∈t,p f):=by
 have:=cr (step:=λrec a=>Q97.s0 K (t,y,()) rec a) t.length (λi=>(i:Int)) (λj=>∃ h:j<t.length,p t[j]) (some ((-1,()),())) (λj=>some ((((j:Nat):Int),()),())) ?_ ?_ t.length K 0 (by omega) (by omega)
 ·simp only[Q98.f];rcases this with ⟨z,u⟩|⟨j,_,z,⟨M,J⟩,_,u⟩
  ·have e:Q97.f K (t,y,())=some ((-1,()),()):=u;rw[e];refine Ret.of ?_;simp only[ge_iff_le,decide_eq_true_eq];refine⟨λh=>absurd h (by decide),λ⟨f,O,I⟩=>?_⟩;obtain⟨i,r,H⟩:=BG O;exact absurd ⟨r,H ▸ I⟩ (z i (BI _) r)
  ·have e:Q97.f K (t,y,())=some ((((j:Nat):Int),()),()):=u;rw[e];refine Ret.of ?_;simp only[ge_iff_le,decide_eq_true_eq];exact⟨λ_=>⟨t[j],BC M,J⟩,λ_=>BJ j⟩
 ·intro rec i r;simp only[Q97.s0];rw[decide_eq_true (by omega:(i:Int)<(BA t:Int)),ag r,au i (by omega)];simp only[cond_true,BB];obtain⟨b,z,u⟩:=hφ t[i] (BC r);rw[z];simp only[BB];cases b with
  |true=>exact .inr ⟨⟨r,u.1 rfl⟩,rfl⟩
  |false=>exact .inl ⟨λ⟨_,h⟩=>by simpa using u.2 h,rfl⟩
 ·intro rec;simp only[Q97.s0];rw[decide_eq_false (by omega:¬ ((t.length:Int)<(BA t:Int)))];rfl
theorem Ret.fn {o:Option RB}{P:Prop}(h:Ret o P):∃ b,(o.map λy=>y.1.1)=some b/\(b=true<->P):=by
 obtain⟨b,u,r⟩:=h;exact⟨b,by rw[u];rfl,r⟩
theorem ij (K:Nat)(t:List ah)(s:Int)(H:t.length<=1048576)(I:1048577<K):Ret (Q79.f K (t,s,())) (cd t s):=by
 refine (Ret.neg (wO K t (λz=>(Q78.f K (z.1,s,())).map λy=>y.1.1) (λf=>am f.1≠s) H I (λf _=>?_))).iff ?_
 ·exact⟨_,rfl,by simp[am]⟩
 ·exact⟨λh f r=>BD.1 λu=>h ⟨f,r,u⟩,λh ⟨f,r,u⟩=>u (h f r)⟩
theorem js (K:Nat)(t:List ah)(r:Int)(J:t.length<=1048576)(H:1048577<K) :
  (¬ aB t/\Q74.f K (t,r,())=some (((0,(0,(0,false))),false,()),())) \/
  (aB t/\((∃ f∈t,f.1=r/\Q74.f K (t,r,())=some ((f,true,()),()))\/((∀ f∈t,f.1≠r)/\Q74.f K (t,r,())=some (((0,(0,(0,false))),false,()),())))):=by
 simp only[Q74.f];obtain⟨b,R,I⟩:=gq K t J H;rw[R];simp only[BB];cases b with
 |false=>exact .inl ⟨λh=>by simpa using I.2 h,rfl⟩
 |true =>
  have y:=I.1 rfl;obtain⟨m,O,X⟩:=sC K t r J y.2 H;refine .inr ⟨y,?_⟩;simp only[BE,cond_false,X,BB];by_cases h:∃ h:m<t.length,t[m].1=r
  ·rw[decide_eq_true h];obtain⟨u,M⟩:=h;left;refine⟨t[m],BC u,M,?_⟩;simp only[BE,cond_false];rw[ag u];rfl
  ·rw[decide_eq_false h];right;refine⟨?_,rfl⟩;rw[dF];intro i z e;rcases Nat.lt_trichotomy i m with u|u|u
   ·have:=O.lo i z u;omega
   ·subst u;exact h ⟨z,e⟩
   ·have M:=O.hi m (by omega) (BU _);have Y:=cD.1 y.2 m i (by omega) z u;omega
def bI (f g:ah):Prop:=if f.2.1≠g.2.1 then f.2.1>g.2.1 else if f.2.2.1≠g.2.2.1 then f.2.2.1>g.2.2.1 else f.2.2.2=true/\g.2.2.2=false
theorem sD (K:Nat)(f g:ah):Ret (Q19.f K (f,g,())) (bI f g):=by
 simp only[Q19.f,bI];by_cases u:f.2.1=g.2.1
 ·have e:(f.2.1 != g.2.1)=false:=by simpa using u
  rw[e,if_neg (by simpa using u)];by_cases r:f.2.2.1=g.2.2.1
  ·have e:(f.2.2.1 != g.2.2.1)=false:=by simpa using r
   rw[e,if_neg (by simpa using r)];exact (Ret.cnd (b:=f.2.2.2) Iff.rfl (λ_=>Ret.of (b:=!g.2.2.2) (by simp))).iff Iff.rfl
  ·have e:(f.2.2.1 != g.2.2.1)=true:=by simpa using r
   rw[e,if_pos r];exact Ret.dec
 ·have e:(f.2.1 != g.2.1)=true:=by simpa using u
  rw[e,if_pos u];exact Ret.dec
def orI:List Int->Int
 |[]=>0
 |x::r=>if x≠0 then x else orI r
theorem Ax (K:Nat)(xs:List Int)(M:xs.length<=1048576)(J:1048577<K):Q86.f K (xs,())=some ((orI xs,()),()):=by
 have y:∀ (d k i:Nat),i+d=xs.length->d<k->af (λrec a=>Q86.s0 K (xs,()) rec a) k (i:Int)=some ((orI (xs.drop i),()),()):=by
  intro d;induction d with
  |zero =>
   intro k i I H;obtain⟨k,rfl⟩:∃ z,k=z+1:=⟨k-1,by omega⟩;show Q86.s0 K (xs,()) _ _=_;simp only[Q86.s0];rw[decide_eq_false (by omega:¬ ((i:Int)<(BA xs:Int))),BN (by omega)];rfl
  |succ d u =>
   intro k i I H;obtain⟨k,rfl⟩:∃ z,k=z+1:=⟨k-1,by omega⟩;have u:=u k (i+1) (by omega) (by omega);show Q86.s0 K (xs,()) _ _=_;simp only[Q86.s0];have r:i<xs.length:=by omega
   rw[decide_eq_true (by omega:(i:Int)<(BA xs:Int)),ag r,au i (by omega),BK r];simp only[cond_true,BB,orI];by_cases h:xs[i]=0
   ·have e:(xs[i] != 0)=false:=by simpa using h
    rw[e,if_neg (by simpa using h)];exact u
   ·have e:(xs[i] != 0)=true:=by simpa using h
    rw[e,if_pos h];rfl
 have:=y xs.length K 0 (by omega) (by omega)
 rwa [BW]at this
def cmpF (f g:ah):Int:=orI [fk f.1 g.1,fk f.2.1 g.2.1,fk f.2.2.1 g.2.2.1,if f.2.2.2=true/\g.2.2.2=false then 1 else if g.2.2.2=true/\f.2.2.2=false then -1 else 0]
theorem mK (K:Nat)(f g:ah)(I:1048577<K):Q87.f K (f,g,())=some ((cmpF f g,()),()):=by
 obtain⟨a,b,c,d⟩:=f;obtain⟨u,r,y,H⟩:=g;have h:∀ z:Int,Q86.f K ([fk a u,fk b r,fk c y,z],())=some ((orI [fk a u,fk b r,fk c y,z],()),()):=λz=>Ax K _ (by simp) I
 simp only[Q87.f,cmpF];cases d <;> cases H <;> simp only[BE,BQ,cond_true,cond_false] <;> rw[nI,BB,nI,BB,nI,BB,h] <;> rfl
theorem oQ {x:Int}(h:x=0)(xs:List Int):orI (x::xs)=orI xs:=by subst h;rfl
theorem uF {x:Int}(h:x≠0)(xs:List Int):orI (x::xs)=x:=by simp[orI,h]
theorem jt {f g:ah}(e:f.1=g.1):cmpF f g>0<->bI f g:=by
 unfold cmpF bI;rw[oQ ((ii f.1 g.1).2 e)];by_cases u:f.2.1=g.2.1
 ·rw[oQ ((ii f.2.1 g.2.1).2 u),if_neg (show ¬ f.2.1≠g.2.1 from λh=>h u)];by_cases r:f.2.2.1=g.2.2.1
  ·rw[oQ ((ii f.2.2.1 g.2.2.1).2 r),if_neg (show ¬ f.2.2.1≠g.2.2.1 from λh=>h r)];cases f.2.2.2 <;> cases g.2.2.2 <;> simp[orI]
  ·rw[uF (λh=>r ((ii f.2.2.1 g.2.2.1).1 h)),if_pos (show f.2.2.1≠g.2.2.1 from r)];exact uE _ _
 ·rw[uF (λh=>u ((ii f.2.1 g.2.1).1 h)),if_pos (show f.2.1≠g.2.1 from u)];exact uE _ _
theorem pA (K:Nat)(f g:ah)(r:1048577<K):Ret (Q88.f K (f,g,())) (bm f/\bm g/\f.1=g.1/\bI f g):=by
 refine Ret.and (lU K f) (λ_=>Ret.and (lU K g) (λ_=>?_) rfl) rfl;refine (Ret.cnd (b:=f.1==g.1) (P:=f.1=g.1) (by simp) (λe=>?_)).iff Iff.rfl;show Ret ((Q87.f K (f,g,())).bind _) _;rw[mK K f g r];refine Ret.of ?_;simp only[gt_iff_lt,decide_eq_true_eq];exact jt e
theorem bo {n:Nat}{m:Int}(h:(n:Int)<m):decide ((n:Int)<m)=true:=decide_eq_true h
theorem aS (n:Nat):decide ((n:Int)<(n:Int))=false:=decide_eq_false (by omega)
def cR (l:List aM):Prop:=(∀ x∈l,bm x.1/\InP x.2 1 4)/\Asc (λx:aM=>x.1.1) l
theorem x8 (K:Nat)(l:List aM)(y:l.length<=1048576)(z:1048577<K):Ret (Q18.f K (l,())) (cR l):=by
 refine (gn l (step:=λrec a=>Q18.s0 K (l,()) rec a) (λi r=>bm l[i].1/\InP l[i].2 1 4/\(0<i->¬ (l[i-1]'(by omega)).1.1>=l[i].1.1)/\True) y ?_ ?_ z (λ_=>Ret.yes trivial)).iff (eV.trans ?_)
 ·intro rec i r;simp only[Q18.s0];rw[decide_eq_true (by omega:(i:Int)<(BA l:Int))];simp only[cond_true];refine Rnd.ix (ag r) (Rnd.nx (oP K _) λ_=>Rnd.ix (ag r) (Rnd.nx (cG K _ 1 4) λ_=>Rnd.two (λu=>?_) Rnd.end_));rw[eP i u (by omega)];exact Rnd.ix (ag (by omega)) (Rnd.ix (ag r) (Rnd.cndN (by simp) λ_=>Rnd.end_))
 ·intro rec;simp only[Q18.s0,aS];rfl
 ·rw[cR,dF,gM];constructor
  ·intro h;exact⟨λi r=>⟨(h i r).1,(h i r).2.1⟩,λi r u=>by have:=(h i r).2.2.1 u;omega⟩
  ·rintro⟨h1,h2⟩ i r;exact⟨(h1 i r).1,(h1 i r).2,λu=>by have:=h2 i r u;omega,trivial⟩
theorem uG (K:Nat)(l:List aM)(O:l.length<=1048576)(M:1048577<K):Q84.f K (l,())=some ((l.map (·.1),()),()):=by
 have y:∀ (d k i:Nat),i+d=l.length->d<k->af (λrec a=>Q84.s0 K (l,()) rec a) k ((l.take i).map (·.1),(i:Int))=some ((l.map (·.1),()),()):=by
  intro d;induction d with
  |zero =>
   intro k i I H;obtain⟨k,rfl⟩:∃ z,k=z+1:=⟨k-1,by omega⟩;show Q84.s0 K (l,()) _ _=_;simp only[Q84.s0];rw[decide_eq_false (by omega:¬ ((i:Int)<(BA l:Int))),BO (by omega)];rfl
  |succ d u =>
   intro k i I H;obtain⟨k,rfl⟩:∃ z,k=z+1:=⟨k-1,by omega⟩;have u:=u k (i+1) (by omega) (by omega);show Q84.s0 K (l,()) _ _=_;have r:i<l.length:=by omega
   simp only[Q84.s0];rw[decide_eq_true (by omega:(i:Int)<(BA l:Int)),ag r,au i (by omega)];simp only[cond_true,BB];have J:decide ((BA (List.map (λx:aM=>x.1) (List.take i l))+BA [l[i].1])*32<=ao)=true:=decide_eq_true (by simp only[ao,List.length_map,List.length_take,BP];omega);rw[J];have e:(List.take i l).map (λx:aM=>x.1)++[l[i].1]=(l.take (i+1)).map (·.1):=by
    rw[BS,BF r,List.map_append];rfl
   rw[e];exact u
 have:=y l.length K 0 (by omega) (by omega);exact this
theorem vt {l:List aM}:aB (l.map (·.1))<->(∀ x∈l,bm x.1)/\Asc (λx:aM=>x.1.1) l:=by
 unfold aB Asc;rw[BL];simp
theorem wP (K:Nat)(x:aM):Ret (Q83.f K (x,())) (¬ InP x.2 1 4):=by
 simp only[Q83.f];exact (eJ K x.2 1 4).neg
theorem x9 (K:Nat)(l:List aM)(r:l.length<=1048576)(z:1048577<K):Ret (Q82.f K (l,(λu=>(Q83.f K (u.1,())).map λy=>y.1.1),())) (∃ x∈l,¬ InP x.2 1 4) :=
 qR K l _ (λx=>¬ InP x.2 1 4) r z (λx _=>Ret.fn (wP K x))
theorem oR (K:Nat)(l:List aM)(u:l.length<=1048576)(y:1048577<K):Ret (Q85.f K (l,())) (cR l):=by
 simp only[Q85.f];obtain⟨z,J,I⟩:=x9 K l u y;obtain⟨H,M,O⟩:=gq K (l.map (·.1)) (by simpa using u) y;rw[uG K l u y,BB,M,BB,J,BB];have e:cR l<->(H=true/\z=false):=by
  rw[O,vt,cR,<- Bool.not_eq_true,I];constructor
  ·rintro⟨h5,h6⟩;exact⟨⟨λx r=>(h5 x r).1,h6⟩,λ⟨x,r,h⟩=>h (h5 x r).2⟩
  ·rintro⟨⟨h5,h6⟩,h7⟩;exact⟨λx r=>⟨h5 x r,BD.1 λh=>h7 ⟨x,r,h⟩⟩,h6⟩
 refine Ret.iff ?_ e.symm;cases H <;> cases z <;> exact⟨_,rfl,by simp⟩
def gV (t:List ah)(l:List aM):Prop:=∀ x∈l,∃ f∈t,f.1=x.1.1/\¬ bI x.1 f
theorem ik {t:List ah}(h:Asc (λf:ah=>f.1) t){f g:ah}(u:f∈t)(r:g∈t)(e:f.1=g.1):f=g:=by
 obtain⟨i,y,rfl⟩:=BG u;obtain⟨j,z,rfl⟩:=BG r;have:=oO h y z e;subst this;rfl
theorem tX (K:Nat)(n:aa)(z:NB n)(I:aB (aa.table n))(u:1048577<K):Ret (Q20.f K (n,())) (cR (aa.cast n)/\gV (aa.table n) (aa.cast n)):=by
 refine Ret.nx (x8 K _ z.cast u) λ_=>?_
 refine (gn (aa.cast n) (step:=λrec a=>Q20.s0 K (n,()) rec a) (λi r=>∃ f∈aa.table n,f.1=(aa.cast n)[i].1.1/\¬ bI (aa.cast n)[i].1 f) z.cast ?_ ?_ u (λ_=>Ret.yes trivial)).iff (eV.trans ?_)
 ·intro rec i r;simp only[Q20.s0];rw[decide_eq_true (by omega:(i:Int)<(BA (aa.cast n):Int))];simp only[cond_true];refine Rnd.ix (ag r) ?_;obtain⟨o,J,O⟩:=fj K (aa.table n) (aa.cast n)[i].1.1 z.table u;refine Rnd.vl O ?_;cases J with
  |no h =>
   rw[show decide ((-1:Int)<0)=true from rfl];exact .inr ⟨λ⟨f,H,e,_⟩=>h f H e,rfl⟩
  |at_ j y e =>
   simp only;rw[decide_eq_false (by omega:¬ ((j:Int)<0))];refine (Rnd.ix (ag r) (Rnd.ix (ag y) (Rnd.fx (sD K _ _) λ_=>Rnd.end_))).iff ⟨λh=>⟨_,BC y,e,h.1⟩,λ⟨f,H,M,h⟩=>⟨?_,trivial⟩⟩;have:=ik I.2 H (BC y) (M.trans e.symm)
   rwa [<- this]
 ·intro rec;simp only[Q20.s0,aS];rfl
 ·rw[gV,dF]
theorem ya (K:Nat)(n:aa)(O:NB n)(I:aB (aa.table n))(hC:cR (aa.cast n))(J:1048577<K) :
  Ret ((Q82.f K (aa.cast n,(λR=>(Q89.f K (R.1,n,())).map λy=>y.1.1),())).bind λY=>some ((!Y.1.1,()),())) (gV (aa.table n) (aa.cast n)):=by
 refine (Ret.neg (qR K _ _ (λx=>¬ ∃ f∈aa.table n,f.1=x.1.1/\¬ bI x.1 f) O.cast J (λx z=>Ret.fn ?_))).iff ?_
 ·simp only[Q89.f];rcases js K (aa.table n) x.1.1 O.table J with ⟨u,_⟩|⟨_,⟨f,H,e,u⟩|⟨r,u⟩⟩
  ·exact absurd I u
  ·refine Ret.vl u ?_;refine (pA K x.1 f J).id.iff ⟨λh ⟨g,Z,X,M⟩=>?_,λh=>?_⟩
   ·have:=ik I.2 Z H (X.trans e.symm);exact M (this ▸ h.2.2.2)
   ·refine⟨(hC.1 x z).1,I.1 f H,e.symm,BD.1 λM=>h ⟨f,H,e,M⟩⟩
  ·refine Ret.vl u ?_;exact Ret.yes (λ⟨f,H,e,_⟩=>r f H e)
 ·exact⟨λh x z=>BD.1 λr=>h ⟨x,z,r⟩,λh ⟨x,z,r⟩=>r (h x z)⟩
def db (n:aa):Prop:=((n.1,n.2.2.2.2.1,(if n.2.2.1=true then 4 else 1),n.2.2.2.1):ah)∈aa.table n
theorem Ay (K:Nat)(n:aa)(M:NB n)(y:aB (aa.table n))(z:1048577<K):Ret (Q17.f K (n,())) (db n):=by
 simp only[Q17.f];obtain⟨o,H,J⟩:=fj K (aa.table n) n.1 M.table z;refine Ret.vl J ?_;cases H with
 |no h =>
  rw[show decide ((-1:Int)<0)=true from rfl];exact Ret.no (λI=>h _ I rfl)
 |at_ j u e =>
  simp only;rw[decide_eq_false (by omega:¬ ((j:Int)<0))];refine Ret.vl (ag u) ?_;have r:db n<->(aa.table n)[j]=((n.1,n.2.2.2.2.1,(if n.2.2.1=true then 4 else 1),n.2.2.2.1):ah):=by
   constructor
   ·intro h;exact ik y.2 (BC u) h e
   ·intro h;show _∈_;rw[<- h];exact BC u
  have O:(aa.table n)[j]=((n.1,n.2.2.2.2.1,(if n.2.2.1=true then 4 else 1),n.2.2.2.1):ah)<->((aa.table n)[j].2.1=n.2.2.2.2.1/\(aa.table n)[j].2.2.1=(if n.2.2.1=true then 4 else 1)/\(aa.table n)[j].2.2.2=n.2.2.2.1):=by
   generalize (aa.table n)[j]=f at e ⊢;obtain⟨a,b,c,d⟩:=f;simp at e ⊢;intro _ _ _;exact e
  refine Ret.iff ?_ (r.trans O).symm;cases R:n.2.2.1 with
  |true=>exact Ret.cnd (by simp) λ_=>Ret.cnd (by simp) λ_=>Ret.of (by simp)
  |false=>exact Ret.cnd (by simp) λ_=>Ret.cnd (by simp) λ_=>Ret.of (by simp)
theorem gW (f g:ah):Ty.eqv ty_impl_Fact_D f g=decide (f=g):=by
 obtain⟨a,b,c,d⟩:=f;obtain⟨y,u,z,r⟩:=g;show (decide (a=y)&&(decide (b=u)&&(decide (c=z)&&(d==r))))=_;cases d <;> cases r <;> simp[BR]
theorem pB (f g:dA):Ty.eqv ty_impl_Coord_D f g=decide (f=g):=by
 obtain⟨a,b,c,d⟩:=f;obtain⟨u,r,z,y⟩:=g;show (decide (a=u)&&(decide (b=r)&&(decide (c=z)&&decide (d=y))))=_;simp[BR]
theorem qp (K:Nat)(n:aa)(J:NB n)(I:1048577<K):Ret (Q90.f K (n,()))
  (aB (aa.table n)/\cd (aa.table n) (am n.1)/\db n/\cR (aa.cast n)/\gV (aa.table n) (aa.cast n)):=by
 have z:∀ (w:Int),aB (aa.table n)->Ret ((Q80.f K (n,())).bind λy2=>(Q79.f K (aa.table n,y2.1.1,())).bind λR=>bif !R.1.1 then rb false else
   ((Q85.f K (aa.cast n,())).bind λX=>bif !X.1.1 then rb false else
    ((Q82.f K (aa.cast n,(λO=>(Q89.f K (O.1,n,())).map λy=>y.1.1),())).bind λZ=>some ((!Z.1.1,()),()))))
   (cd (aa.table n) (am n.1)/\cR (aa.cast n)/\gV (aa.table n) (aa.cast n)):=by
  intro _ u;exact Ret.vl (nJ K n) (Ret.nx (ij K _ _ J.table I) λ_=>Ret.nx (oR K _ J.cast I) λhC=>ya K n J u hC I)
 have r:∀ (w:Int),w=(if n.2.2.1=true then 4 else 1)->Ret ((Q74.f K (aa.table n,n.1,())).bind λy1=>bif !y1.1.2.1 then rb false else bif !Ty.eqv ty_impl_Fact_D y1.1.1 (n.1,(n.2.2.2.2.1,(w,n.2.2.2.1))) then rb false else
   ((Q80.f K (n,())).bind λy2=>(Q79.f K (aa.table n,y2.1.1,())).bind λR=>bif !R.1.1 then rb false else
   ((Q85.f K (aa.cast n,())).bind λX=>bif !X.1.1 then rb false else
    ((Q82.f K (aa.cast n,(λO=>(Q89.f K (O.1,n,())).map λy=>y.1.1),())).bind λZ=>some ((!Z.1.1,()),())))))
   (aB (aa.table n)/\cd (aa.table n) (am n.1)/\db n/\cR (aa.cast n)/\gV (aa.table n) (aa.cast n)):=by
  intro w hw;rcases js K (aa.table n) n.1 J.table I with ⟨H,Y⟩|⟨u,⟨f,hf,e,H⟩|⟨Y,H⟩⟩
  ·exact Ret.vl Y (Ret.no (λh=>H h.1))
  ·refine Ret.vl H ?_;simp only[BE,cond_false];rw[gW];by_cases M:f=(n.1,(n.2.2.2.2.1,(w,n.2.2.2.1)))
   ·rw[decide_eq_true M];have hS:db n:=by
     show _∈_;rw[<- hw,<- M];exact hf
    exact (z w u).iff ⟨λh=>⟨u,h.1,hS,h.2.1,h.2.2⟩,λh=>⟨h.2.1,h.2.2.2⟩⟩
   ·rw[decide_eq_false M];refine Ret.no (λh=>M ?_);have:=ik u.2 hf h.2.2.1 e;rw[this,hw]
  ·refine Ret.vl H (Ret.no (λh=>Y _ h.2.2.1 rfl))
 simp only[Q90.f];cases hg:n.2.2.1 with
 |true=>exact r 4 (by rw[hg];rfl)
 |false=>exact r 1 (by rw[hg];rfl)
def cZ (n:aa):Prop:=if (aa.probe n).1=-1 then aa.probe n=(-1,0,0,false) else
 (aa.probe n).1≠n.1/\(∃ f∈aa.table n,f.1=(aa.probe n).1)/\InP (aa.probe n).2.1 0 n.2.2.2.2.2.1/\InP (aa.probe n).2.2.1 1 n.2.2.2.2.2.2.1
theorem zy (K:Nat)(n:aa)(J:NB n)(u:1048577<K):Ret (Q21.f K (n,())) (cZ n):=by
 simp only[Q21.f,cZ];by_cases h:(aa.probe n).1=-1
 ·rw[if_pos h,show ((aa.probe n).1==-1)=true by simpa using h];refine (Ret.cnd (P:=(aa.probe n).2.1=0) (by simp) λ_=>Ret.cnd (P:=(aa.probe n).2.2.1=0) (by simp) λ_=>Ret.of (P:=(aa.probe n).2.2.2=false) (by simp)).iff ?_;generalize aa.probe n=p at h ⊢;obtain⟨a,b,c,d⟩:=p;simp at h ⊢;intro _ _ _;exact h
 ·rw[if_neg h,show ((aa.probe n).1==-1)=false by simpa using h];refine Ret.cnd (by simp) λ_=>?_
  obtain⟨o,y,H⟩:=fj K (aa.table n) (aa.probe n).1 J.table u;refine Ret.vl H ?_;cases y with
  |no z=>exact Ret.no (λ⟨⟨f,M,e⟩,_⟩=>z f M e)
  |at_ j I e =>
   simp only;rw[show decide ((j:Int)>=0)=true from decide_eq_true (by omega)];exact (Ret.px (cG K _ _ _) λ_=>(cG K _ _ _).id).iff ⟨λr=>⟨⟨_,BC I,e⟩,r⟩,λr=>r.2⟩
theorem zz (K:Nat)(n:aa)(H:NB n)(z:aB (aa.table n))(J:1048577<K):Ret (Q91.f K (n,())) (cZ n):=by
 simp only[Q91.f,cZ];by_cases h:(aa.probe n).1=-1
 ·rw[if_pos h,show ((aa.probe n).1==-1)=true by simpa using h,gW];exact Ret.dec
 ·rw[if_neg h,show ((aa.probe n).1==-1)=false by simpa using h];rcases js K (aa.table n) (aa.probe n).1 H.table J with ⟨r,_⟩|⟨_,⟨f,y,e,r⟩|⟨I,r⟩⟩
  ·exact absurd z r
  ·refine Ret.vl r ?_;exact (Ret.cnd (P:=(aa.probe n).1≠n.1) (by simp) λ_=>Ret.px (eJ K _ _ _) λ_=>(eJ K _ _ _).id).iff ⟨λu=>⟨u.1,⟨f,y,e⟩,u.2⟩,λu=>⟨u.1,u.2.2⟩⟩
  ·exact Ret.vl r (Ret.no (λ⟨_,⟨f,y,e⟩,_⟩=>I f y e))
def cH (c:dA):Prop:=InP c.1 (-100000) 100000/\InP c.2.1 (-100000) 100000/\InP c.2.2.1 0 100000/\InP c.2.2.2 1 1500
theorem iD (K:Nat)(c:dA):Ret (Q23.f K (c,())) (cH c) :=
 Ret.px (cG K _ _ _) λ_=>Ret.px (cG K _ _ _) λ_=>Ret.px (cG K _ _ _) λ_=>(cG K _ _ _).id
theorem nK (K:Nat)(c:dA):Ret (Q94.f K (c,())) (cH c) :=
 Ret.px (eJ K _ _ _) λ_=>Ret.px (eJ K _ _ _) λ_=>Ret.px (eJ K _ _ _) λ_=>(eJ K _ _ _).id
def Az (r:Int)(p:dJ):Prop:=InP p.1 0 7/\am p.1=am r/\p.1≠r/\cH p.2.1/\InP (p.2.2.length:Int) 1 3/\∀ t∈p.2.2,InP t 1 60000
def eu (r:Int)(l:List dJ):Prop:=(∀ p∈l,Az r p)/\Asc (λp:dJ=>p.1) l
theorem pC (K:Nat)(n:aa)(x:Int):Ret (Q92.f K (n,x,())) (InP x 0 7/\am x=am n.1):=by
 refine Ret.px (ja K x) λ_=>?_
 exact Ret.of (b:=am x==am n.1) (by simp)
theorem zA (K:Nat)(n:aa)(x:Int):Ret (Q95.f K (n,x,())) ((InP x 0 7/\am x=am n.1)/\x≠n.1):=by
 refine Ret.px (pC K n x) λ_=>?_
 exact Ret.of (b:=x != n.1) (by simp)
theorem yb (K:Nat)(n:aa)(M:NB n)(hK:1048577<K):Ret (Q24.f K (n,())) (eu n.1 (aa.places n)):=by
 refine (gn (aa.places n) (step:=λrec a=>Q24.s0 K (n,()) (Q24.l1 K (n,()) rec) rec a)
  (λi y=>InP (aa.places n)[i].1 0 7/\¬ am (aa.places n)[i].1≠am n.1/\¬ (aa.places n)[i].1=n.1/\(0<i->¬ ((aa.places n)[i-1]'(by omega)).1>=(aa.places n)[i].1) /\
   cH (aa.places n)[i].2.1/\InP ((aa.places n)[i].2.2.length:Int) 1 3/\∀ k (z:k<(aa.places n)[i].2.2.length),InP (aa.places n)[i].2.2[k] 1 60000/\True) M.places ?_ ?_ hK (λ_=>Ret.yes trivial)).iff (eV.trans ?_)
 ·intro rec i y;have Z:=M.trips _ (BC y);have hl:=M.places;have r:Rnd (Q24.l1 K (n,()) rec ((i:Int),0,(aa.places n)[i].1,(aa.places n)[i].2.1.1,(aa.places n)[i].2.1.2.1,(aa.places n)[i].2.1.2.2.1,(aa.places n)[i].2.1.2.2.2,(aa.places n)[i].2.2))
    (∀ k (z:k<(aa.places n)[i].2.2.length),InP (aa.places n)[i].2.2[k] 1 60000/\True) (rec (wr .i64 ((i:Int)+1))):=by
   generalize (aa.places n)[i]=p at Z;refine oN p.2.2 (step:=λu a=>Q24.s1 K (n,()) rec u a) (λk=>((i:Int),(k:Int),p.1,p.2.1.1,p.2.1.2.1,p.2.1.2.2.1,p.2.1.2.2.2,p.2.2)) (λk z=>InP p.2.2[k] 1 60000/\True) Z ?_ ?_ hK
   ·intro u k z;simp only[Q24.s1];rw[decide_eq_true (by omega:(k:Int)<(BA p.2.2:Int)),au k (by omega)];simp only[cond_true];exact Rnd.ix (ag z) (Rnd.nx (cG K _ _ _) λ_=>Rnd.end_)
   ·intro u;simp only[Q24.s1,aS];rfl
  simp only[Q24.s0];rw[decide_eq_true (by omega:(i:Int)<(BA (aa.places n):Int))];simp only[cond_true];refine Rnd.ix (ag y) (Rnd.nx (cG K _ _ _) λ_=>Rnd.vl (dk K _) (Rnd.vl (dk K _) (Rnd.cndN (by simp) λ_=>Rnd.cndN (by simp) λ_=>Rnd.two (λH=>?_) ?_)))
  ·rw[eP i H (by omega)];exact Rnd.ix (ag (show i-1<(aa.places n).length by omega)) (Rnd.cndN (by simp) λ_=>Rnd.nx (iD K _) λ_=>Rnd.nx (cG K _ _ _) λ_=>r)
  ·exact Rnd.nx (iD K _) λ_=>Rnd.nx (cG K _ _ _) λ_=>r
 ·intro rec;simp only[Q24.s0,aS];rfl
 ·rw[eu,dF,gM];constructor
  ·intro h;refine⟨λi y=>?_,λi y H=>?_⟩
   ·obtain⟨J,I,O,h4,R,X,Y⟩:=h i y;exact⟨J,BD.1 I,O,R,X,dF.2 λk z=>(Y k z).1⟩
   ·have:=(h i y).2.2.2.1 H;omega
  ·rintro⟨J,I⟩ i y;obtain⟨O,h4,R,X,Y,h8⟩:=J i y;exact⟨O,BD.2 h4,R,λH=>by have:=I i y H;omega,X,Y,λk z=>⟨dF.1 h8 k z,trivial⟩⟩
theorem yc (K:Nat)(n:aa)(O:NB n)(hK:1048577<K):Ret (Q99.f K (n,())) (eu n.1 (aa.places n)):=by
 refine (gn (aa.places n) (step:=λrec a=>Q99.s0 K (n,()) rec a)
  (λi u=>((InP (aa.places n)[i].1 0 7/\am (aa.places n)[i].1=am n.1)/\(aa.places n)[i].1≠n.1)/\(0<i->¬ (aa.places n)[i].1<=((aa.places n)[i-1]'(by omega)).1) /\
   cH (aa.places n)[i].2.1/\InP ((aa.places n)[i].2.2.length:Int) 1 3/\(¬ ∃ t∈(aa.places n)[i].2.2,¬ InP t 1 60000)/\True) O.places ?_ ?_ hK (λ_=>Ret.yes trivial)).iff (eV.trans ?_)
 ·intro rec i u;have hb:=O.trips _ (BC u);have hl:=O.places;have r:Ret (Q98.f K ((aa.places n)[i].2.2,(λy6=>(Q96.f K (y6.1,())).map λy=>y.1.1),())) (∃ t∈(aa.places n)[i].2.2,¬ InP t 1 60000) :=
   x7 K _ _ _ hb hK (λt _=>Ret.fn (eJ K t _ _).neg)
  simp only[Q99.s0];rw[decide_eq_true (by omega:(i:Int)<(BA (aa.places n):Int))];simp only[cond_true];refine Rnd.ix (ag u) (Rnd.nx (zA K n _) λ_=>Rnd.two (λz=>?_) ?_)
  ·rw[eP i z (by omega)];exact Rnd.ix (ag (show i-1<(aa.places n).length by omega)) (Rnd.cndN (by simp) λ_=>Rnd.nx (nK K _) λ_=>Rnd.nx (eJ K _ _ _) λ_=>Rnd.fx r λ_=>Rnd.end_)
  ·exact Rnd.nx (nK K _) λ_=>Rnd.nx (eJ K _ _ _) λ_=>Rnd.fx r λ_=>Rnd.end_
 ·intro rec;simp only[Q99.s0,aS];rfl
 ·rw[eu,dF,gM];constructor
  ·intro h;refine⟨λi u=>?_,λi u z=>?_⟩
   ·obtain⟨⟨⟨J,I⟩,R⟩,h4,X,Y,Z,_⟩:=h i u;exact⟨J,I,R,X,Y,λt M=>BD.1 λH=>Z ⟨t,M,H⟩⟩
   ·have:=(h i u).2.1 z;omega
  ·rintro⟨J,I⟩ i u;obtain⟨R,h4,X,Y,Z,H⟩:=J i u;exact⟨⟨⟨R,h4⟩,X⟩,λz=>by have:=I i u z;omega,Y,Z,λ⟨t,M,h9⟩=>h9 (H t M),trivial⟩
def AA (r:Int)(x:bZ):Prop:=InP x.1 0 1/\x.1≠am r/\x.2≠[]/\aB x.2/\cd x.2 x.1
def c7 (r:Int)(l:List bZ):Prop:=(∀ x∈l,AA r x)/\Asc (λx:bZ=>x.1) l
theorem oS {α:Type}(l:List α):((BA l:Int)==0)=true<->l=[]:=by
 cases l <;> simp;omega
theorem yd (K:Nat)(n:aa)(H:NB n)(y:1048577<K):Ret (Q25.f K (n,())) (c7 n.1 (aa.others n)):=by
 refine (gn (aa.others n) (step:=λrec a=>Q25.s0 K (n,()) rec a)
  (λi r=>InP (aa.others n)[i].1 0 1/\¬ (aa.others n)[i].1=am n.1/\(0<i->¬ ((aa.others n)[i-1]'(by omega)).1>=(aa.others n)[i].1) /\
   ¬ (aa.others n)[i].2=[]/\aB (aa.others n)[i].2/\cd (aa.others n)[i].2 (aa.others n)[i].1/\True) H.others ?_ ?_ y (λ_=>Ret.yes trivial)).iff (eV.trans ?_)
 ·intro rec i r;have z:=H.facts _ (BC r);have X:=H.others;simp only[Q25.s0];rw[decide_eq_true (by omega:(i:Int)<(BA (aa.others n):Int))];simp only[cond_true];refine Rnd.ix (ag r) (Rnd.nx (cG K _ _ _) λ_=>Rnd.vl (dk K _) (Rnd.cndN (by simp) λ_=>Rnd.two (λu=>?_) ?_))
  ·rw[eP i u (by omega)];exact Rnd.ix (ag (show i-1<(aa.others n).length by omega)) (Rnd.cndN (by simp) λ_=>Rnd.cndN (oS _) λ_=>Rnd.nx (gp K _ z y) λ_=>Rnd.nx (eZ K _ _ z y) λ_=>Rnd.end_)
  ·exact Rnd.cndN (oS _) λ_=>Rnd.nx (gp K _ z y) λ_=>Rnd.nx (eZ K _ _ z y) λ_=>Rnd.end_
 ·intro rec;simp only[Q25.s0,aS];rfl
 ·rw[c7,dF,gM];constructor
  ·intro h;exact⟨λi r=>⟨(h i r).1,(h i r).2.1,(h i r).2.2.2.1,(h i r).2.2.2.2.1,(h i r).2.2.2.2.2.1⟩,λi r u=>by have:=(h i r).2.2.1 u;omega⟩
  ·rintro⟨h1,h2⟩ i r;obtain⟨J,I,M,O,R⟩:=h1 i r;exact⟨J,I,λu=>by have:=h2 i r u;omega,M,O,R,trivial⟩
theorem ye (K:Nat)(n:aa)(J:NB n)(z:1048577<K):Ret (Q100.f K (n,())) (c7 n.1 (aa.others n)):=by
 refine (gn (aa.others n) (step:=λrec a=>Q100.s0 K (n,()) rec a)
  (λi r=>InP (aa.others n)[i].1 0 1/\¬ (aa.others n)[i].1=am n.1/\(0<i->¬ (aa.others n)[i].1<=((aa.others n)[i-1]'(by omega)).1) /\
   ¬ (aa.others n)[i].2=[]/\aB (aa.others n)[i].2/\cd (aa.others n)[i].2 (aa.others n)[i].1/\True) J.others ?_ ?_ z (λ_=>Ret.yes trivial)).iff (eV.trans ?_)
 ·intro rec i r;have H:=J.facts _ (BC r);have Y:=J.others;have I:am 7=1:=by unfold am;rw[aH (by decide) (by decide)];decide
  have y:=eJ K (aa.others n)[i].1 0 (am 7);rw[I]at y;simp only[Q100.s0];rw[decide_eq_true (by omega:(i:Int)<(BA (aa.others n):Int))];simp only[cond_true];refine Rnd.ix (ag r) (Rnd.vl (mJ K 7) ?_);dsimp only;rw[I];refine Rnd.nx y λ_=>Rnd.vl (nJ K n) (Rnd.cndN (by simp) λ_=>Rnd.two (λu=>?_) ?_)
  ·rw[eP i u (by omega)];exact Rnd.ix (ag (show i-1<(aa.others n).length by omega)) (Rnd.cndN (by simp) λ_=>Rnd.cndN (oS _) λ_=>Rnd.nx (gq K _ H z) λ_=>Rnd.nx (ij K _ _ H z) λ_=>Rnd.end_)
  ·exact Rnd.cndN (oS _) λ_=>Rnd.nx (gq K _ H z) λ_=>Rnd.nx (ij K _ _ H z) λ_=>Rnd.end_
 ·intro rec;simp only[Q100.s0,aS];rfl
 ·rw[c7,dF,gM];constructor
  ·intro h;exact⟨λi r=>⟨(h i r).1,(h i r).2.1,(h i r).2.2.2.1,(h i r).2.2.2.2.1,(h i r).2.2.2.2.2.1⟩,λi r u=>by have:=(h i r).2.2.1 u;omega⟩
  ·rintro⟨h1,h2⟩ i r;obtain⟨O,M,R,X,I⟩:=h1 i r;exact⟨O,M,λu=>by have:=h2 i r u;omega,R,X,I,trivial⟩
def ByP (r:Int)(l:List Int):Prop:=(∀ b∈l,InP b 0 7/\am b=am r)/\Asc (λb:Int=>b) l
def lu (n:aa)(d:bO):Prop:=(∃ f∈aa.table n,f.1=d.1/\f.2.2.1=2/\f.2.1=d.2.1)/\InP d.2.2.1 0 n.2.2.2.2.2.1/\d.2.2.2≠[]/\ByP n.1 d.2.2.2
def aU (t:List ah):List ah:=t.filter λf=>f.2.2.1==2
def iE (n:aa):Prop:=(∀ d∈aa.doubts n,lu n d)/\Asc (λd:bO=>d.1) (aa.doubts n)/\(aU (aa.table n)).length=(aa.doubts n).length
theorem wQ {y:Int}{l:List Int}:ByP y l<->∀ k (r:k<l.length),(InP l[k] 0 7/\am l[k]=am y)/\(0<k->¬ l[k-1]'(by omega)>=l[k]):=by
 rw[ByP,dF,gM];constructor
 ·rintro⟨h1,h2⟩ k r;exact⟨h1 k r,λu=>by have:=h2 k r u;omega⟩
 ·intro h;exact⟨λk r=>(h k r).1,λk r u=>by have:=(h k r).2 u;omega⟩
theorem zC (K:Nat)(n:aa)(O:NB n)(R:1048577<K):Q22.l2 K (n,()) (0,0)=rb (decide ((aU (aa.table n)).length=(aa.doubts n).length)):=by
 have X:=O.table;have u:∀ (d k i c:Nat),i+d=(aa.table n).length->d<k->c<=i ->
   af (λrec a=>Q22.s2 K (n,()) rec a) k ((c:Int),(i:Int))=rb (decide (c+(aU ((aa.table n).drop i)).length=(aa.doubts n).length)):=by
  intro d;induction d with
  |zero =>
   intro k i c M J I;obtain⟨k,rfl⟩:∃ y,k=y+1:=⟨k-1,by omega⟩;show Q22.s2 K (n,()) _ _=_;simp only[Q22.s2];rw[decide_eq_false (show ¬ ((i:Int)<(BA (aa.table n):Int)) by omega),BN (by omega)];simp only[cond_false,aU,List.filter_nil,List.length_nil,Nat.add_zero];have e:((c:Int)==(BA (aa.doubts n):Int))=decide (c=(aa.doubts n).length):=by
    by_cases h:c=(aa.doubts n).length
    ·rw[decide_eq_true h,h];simp
    ·rw[decide_eq_false h,beq_eq_false_iff_ne];omega
   exact congrArg rb e
  |succ d z =>
   intro k i c M J I;obtain⟨k,rfl⟩:∃ y,k=y+1:=⟨k-1,by omega⟩;have r:i<(aa.table n).length:=by omega
   show Q22.s2 K (n,()) _ _=_;simp only[Q22.s2];rw[decide_eq_true (show ((i:Int)<(BA (aa.table n):Int)) by omega),ag r,au i (by omega),au c (by omega),BK r];simp only[cond_true,BB];cases H:((aa.table n)[i].2.2.1==2) with
   |true =>
    have:=z k (i+1) (c+1) (by omega) (by omega) (by omega);simp only[cond_true];have e:c+1+(aU ((aa.table n).drop (i+1))).length=c+(aU ((aa.table n)[i]::(aa.table n).drop (i+1))).length:=by
     simp only[aU,BM,H,if_true,List.length_cons];omega
    rw[<- e];exact this
   |false =>
    have:=z k (i+1) c (by omega) (by omega) (by omega);simp only[cond_false];have e:aU ((aa.table n)[i]::(aa.table n).drop (i+1))=aU ((aa.table n).drop (i+1)):=by
     simp only[aU,BM,H,BH,if_false]
    rw[e];exact this
 have:=u (aa.table n).length K 0 0 (by omega) (by omega) (BU _);rw[BW,Nat.zero_add]at this;exact this
theorem yf (K:Nat)(n:aa)(R:NB n)(hT:aB (aa.table n))(Y:1048577<K):Ret (Q22.f K (n,())) (iE n):=by
 refine (gn (aa.doubts n) (step:=λrec a=>Q22.s0 K (n,()) (Q22.l1 K (n,()) rec) (Q22.l2 K (n,())) rec a)
  (λi z=>(0<i->¬ ((aa.doubts n)[i-1]'(by omega)).1>=(aa.doubts n)[i].1)/\lu n (aa.doubts n)[i]) (Q:=(aU (aa.table n)).length=(aa.doubts n).length) (rt:=Q22.l2 K (n,()) (0,0)) R.doubts ?_ ?_ Y (λ_=>by rw[zC K n R Y];exact Ret.dec)).iff ?_
 ·intro rec i z;have Z:=R.by_ _ (BC z);have hl:=R.doubts;have u:Rnd (Q22.l1 K (n,()) rec ((i:Int),0,(aa.doubts n)[i].1,(aa.doubts n)[i].2.1,(aa.doubts n)[i].2.2.1,(aa.doubts n)[i].2.2.2)) (ByP n.1 (aa.doubts n)[i].2.2.2) (rec (wr .i64 ((i:Int)+1))):=by
   generalize (aa.doubts n)[i]=d at Z;refine (oN d.2.2.2 (step:=λy a=>Q22.s1 K (n,()) rec y a) (λk=>((i:Int),(k:Int),d.1,d.2.1,d.2.2.1,d.2.2.2))
    (λk r=>InP d.2.2.2[k] 0 7/\¬ am d.2.2.2[k]≠am n.1/\(0<k->¬ d.2.2.2[k-1]'(by omega)>=d.2.2.2[k])/\True) Z ?_ ?_ Y).iff ?_
   ·intro y k r;simp only[Q22.s1];rw[decide_eq_true (by omega:(k:Int)<(BA d.2.2.2:Int)),au k (by omega)];simp only[cond_true];refine Rnd.ix (ag r) (Rnd.nx (cG K _ _ _) λ_=>Rnd.ix (ag r) (Rnd.vl (dk K _) (Rnd.vl (dk K _) (Rnd.cndN (by simp) λ_=>Rnd.two (λH=>?_) Rnd.end_))));rw[eP k H (by omega)];exact Rnd.ix (ag (show k-1<d.2.2.2.length by omega)) (Rnd.ix (ag r) (Rnd.cndN (by simp) λ_=>Rnd.end_))
   ·intro y;simp only[Q22.s1,aS];rfl
   ·rw[wQ];constructor
    ·intro h k r;exact⟨⟨(h k r).1,BD.1 (h k r).2.1⟩,(h k r).2.2.1⟩
    ·intro h k r;exact⟨(h k r).1.1,BD.2 (h k r).1.2,(h k r).2,trivial⟩
  obtain⟨o,ho,X⟩:=fj K (aa.table n) (aa.doubts n)[i].1 R.table Y;simp only[Q22.s0];rw[decide_eq_true (show ((i:Int)<(BA (aa.doubts n):Int)) by omega)];simp only[cond_true];refine Rnd.ix (ag z) (Rnd.vl X ?_);cases ho with
  |no h =>
   have O:¬ lu n (aa.doubts n)[i]:=λ⟨⟨f,X,e,_⟩,_⟩=>h f X e
   refine Rnd.two (λH=>?_) ?_
   ·rw[eP i H (by omega)];refine Rnd.ix (ag (show i-1<(aa.doubts n).length by omega)) (Rnd.cndN (by simp) λ_=>?_);exact .inr ⟨O,rfl⟩
   ·exact .inr ⟨O,rfl⟩
  |at_ j M e =>
   have I:decide ((j:Int)<0)=false:=decide_eq_false (by omega);have J:lu n (aa.doubts n)[i]<->(¬ (aa.table n)[j].2.2.1≠2/\¬ (aa.table n)[j].2.1≠(aa.doubts n)[i].2.1/\InP (aa.doubts n)[i].2.2.1 0 n.2.2.2.2.2.1/\¬ (aa.doubts n)[i].2.2.2=[]/\ByP n.1 (aa.doubts n)[i].2.2.2):=by
    constructor
    ·rintro⟨⟨f,X,e1,e2,e3⟩,h2,h3,h4⟩;have:=ik hT.2 X (BC M) (e1.trans e.symm);subst this;exact⟨BD.2 e2,BD.2 e3,h2,h3,h4⟩
    ·rintro⟨e2,e3,h2,h3,h4⟩;exact⟨⟨_,BC M,e,BD.1 e2,BD.1 e3⟩,h2,h3,h4⟩
   refine Rnd.two (λH=>?_) ?_
   ·rw[eP i H (by omega)];refine Rnd.ix (ag (show i-1<(aa.doubts n).length by omega)) (Rnd.cndN (by simp) λ_=>?_);simp only[I,cond_false];refine Rnd.iff ?_ J.symm;exact Rnd.ix (ag M) (Rnd.cndN (by simp) λ_=>Rnd.ix (ag M) (Rnd.cndN (by simp) λ_=>Rnd.nx (cG K _ _ _) λ_=>Rnd.cndN (oS _) λ_=>u))
   ·simp only[I,cond_false];refine Rnd.iff ?_ J.symm;exact Rnd.ix (ag M) (Rnd.cndN (by simp) λ_=>Rnd.ix (ag M) (Rnd.cndN (by simp) λ_=>Rnd.nx (cG K _ _ _) λ_=>Rnd.cndN (oS _) λ_=>u))
 ·intro rec;simp only[Q22.s0,aS];rfl
 ·rw[iE,dF,gM];constructor
  ·rintro⟨h1,h2⟩;exact⟨λi z=>(h1 i z).2,λi z H=>by have:=(h1 i z).1 H;omega,h2⟩
  ·rintro⟨h1,h2,h3⟩;exact⟨λi z=>⟨λH=>by have:=h2 i z H;omega,h1 i z⟩,h3⟩
theorem zD (K:Nat)(n:aa)(Z:NB n)(S:List ah)(hS:S.length=(aa.doubts n).length)(hK:1048577<K):Ret (Q93.l1 K (n,()) (S,0))
  (∀ i (u:i<(aa.doubts n).length),(aa.doubts n)[i].1=(S[i]'(by omega)).1/\(aa.doubts n)[i].2.1=(S[i]'(by omega)).2.1/\InP (aa.doubts n)[i].2.2.1 0 n.2.2.2.2.2.1/\(aa.doubts n)[i].2.2.2≠[]/\ByP n.1 (aa.doubts n)[i].2.2.2):=by
 have hl:=Z.doubts;have J:=lT (step:=λrec a=>Q93.s1 K (n,()) (Q93.l2 K (n,()) rec) rec a) (aa.doubts n).length (λi=>(S,(i:Int)))
  (λi=>∀ u:i<(aa.doubts n).length,¬ (aa.doubts n)[i].1≠(S[i]'(by omega)).1/\¬ (aa.doubts n)[i].2.1≠(S[i]'(by omega)).2.1/\InP (aa.doubts n)[i].2.2.1 0 n.2.2.2.2.2.1/\¬ (aa.doubts n)[i].2.2.2=[]/\ByP n.1 (aa.doubts n)[i].2.2.2)
  (rb true) (rb false) ?_ ?_ (aa.doubts n).length K 0 (by omega) (by omega)
 ·rcases J with ⟨M,I⟩|⟨M,I⟩
  ·refine⟨true,I,iff_of_true rfl λi u=>?_⟩;obtain⟨R,O,X⟩:=M i (BI _) u u;exact⟨BD.1 R,BD.1 O,X⟩
  ·refine⟨false,I,iff_of_false (by simp) λh=>M λi _ u _=>?_⟩;obtain⟨R,O,X⟩:=h i u;exact⟨BD.2 R,BD.2 O,X⟩
 ·intro rec i u;have Y:=Z.by_ _ (BC u);have H:Rnd (Q93.l2 K (n,()) rec (S,(i:Int),(aa.doubts n)[i].2.2.2,(BA (aa.doubts n)[i].2.2.2:Int),0,(aa.doubts n)[i].1,(aa.doubts n)[i].2.1,(aa.doubts n)[i].2.2.1,(aa.doubts n)[i].2.2.2)) (ByP n.1 (aa.doubts n)[i].2.2.2) (rec (S,wr .i64 ((i:Int)+1))):=by
   generalize (aa.doubts n)[i]=d at Y;refine (oN d.2.2.2 (step:=λr a=>Q93.s2 K (n,()) rec r a) (λk=>(S,(i:Int),d.2.2.2,(BA d.2.2.2:Int),(k:Int),d.1,d.2.1,d.2.2.1,d.2.2.2))
    (λk z=>(InP d.2.2.2[k] 0 7/\am d.2.2.2[k]=am n.1)/\(0<k->¬ d.2.2.2[k]<=d.2.2.2[k-1]'(by omega))/\True) Y ?_ ?_ hK).iff ?_
   ·intro r k z;simp only[Q93.s2,zcp4];rw[decide_eq_true (by omega:(k:Int)<(BA d.2.2.2:Int)),au k (by omega)];simp only[cond_true];refine Rnd.ix (ag z) (Rnd.nx (pC K n _) λ_=>Rnd.two (λh0=>?_) Rnd.end_);rw[eP k h0 (by omega)];exact Rnd.ix (ag (show k-1<d.2.2.2.length by omega)) (Rnd.cndN (by simp) λ_=>Rnd.end_)
   ·intro r;simp only[Q93.s2,zcp4,aS];rfl
   ·rw[wQ];constructor
    ·intro h k z;exact⟨(h k z).1,(h k z).2.1⟩
    ·intro h k z;exact⟨(h k z).1,(h k z).2,trivial⟩
  have y:i<S.length:=by omega
  have hr:Rnd (Q93.s1 K (n,()) (Q93.l2 K (n,()) rec) rec (S,(i:Int)))
    (¬ (aa.doubts n)[i].1≠S[i].1/\¬ (aa.doubts n)[i].2.1≠S[i].2.1/\InP (aa.doubts n)[i].2.2.1 0 n.2.2.2.2.2.1/\¬ (aa.doubts n)[i].2.2.2=[]/\ByP n.1 (aa.doubts n)[i].2.2.2) (rec (S,((i+1:Nat):Int))):=by
   rw[<- au i (by omega)];simp only[Q93.s1];rw[decide_eq_true (show ((i:Int)<(BA (aa.doubts n):Int)) by omega),Int.toNat_natCast];simp only[cond_true];exact Rnd.ix (ag u) (Rnd.ix (ag y) (Rnd.ix (ag y) (Rnd.cndN (by simp) λ_=>Rnd.ix (ag y) (Rnd.ix (ag y) (Rnd.cndN (by simp) λ_=>Rnd.nx (eJ K _ _ _) λ_=>Rnd.cndN (oS _) λ_=>H)))))
  exact hr.imp (λh=>⟨λ_=>h.1,h.2⟩) (λh=>⟨λI=>h.1 (I u),h.2⟩)
 ·intro rec;simp only[Q93.s1,aS];rfl
theorem yg (K:Nat)(n:aa)(hn:NB n)(hT:aB (aa.table n))(hK:1048577<K):Ret (Q93.f K (n,())) (iE n):=by
 have hl:=hn.table;have a1:=hn.doubts;have Y:∀ (d k i:Nat),i+d=(aa.table n).length->d<k->af (λrec a=>Q93.s0 K (n,()) (Q93.l1 K (n,())) rec a) k (aU ((aa.table n).take i),(i:Int)) =
   (bif (BA (aa.doubts n):Int) != (BA (aU (aa.table n)):Int) then rb false else Q93.l1 K (n,()) (aU (aa.table n),0)):=by
  intro d;induction d with
  |zero =>
   intro k i y hk;obtain⟨k,rfl⟩:∃ Z,k=Z+1:=⟨k-1,by omega⟩;show Q93.s0 K (n,()) _ _ _=_;simp only[Q93.s0];rw[decide_eq_false (show ¬ ((i:Int)<(BA (aa.table n):Int)) by omega),BO (by omega)];rfl
  |succ d J =>
   intro k i y hk;obtain⟨k,rfl⟩:∃ Z,k=Z+1:=⟨k-1,by omega⟩;have J:=J k (i+1) (by omega) (by omega);have O:i<(aa.table n).length:=by omega
   show Q93.s0 K (n,()) _ _ _=_;simp only[Q93.s0];rw[decide_eq_true (show ((i:Int)<(BA (aa.table n):Int)) by omega),ag O,au i (by omega)];simp only[cond_true,BB];have e:aU ((aa.table n).take (i+1))=aU ((aa.table n).take i)++(if (aa.table n)[i].2.2.1==2 then [(aa.table n)[i]] else []):=by
    rw[aU,BS,BF O,List.filter_append];simp[aU,BM]
   cases hb:((aa.table n)[i].2.2.1==2) with
   |true =>
    rw[hb]at e;simp only[if_true]at e;simp only[cond_true];have a0:(aU ((aa.table n).take i)).length<=i:=Nat.le_trans (List.length_filter_le _ _) (by simp;omega);have hs:decide ((BA (aU ((aa.table n).take i))+BA [(aa.table n)[i]])*32<=ao)=true:=decide_eq_true (by simp only[ao,BP];omega);rw[hs];rw[e]at J;exact J
   |false =>
    rw[hb]at e;simp only[BH,if_false,List.append_nil]at e;rw[e]at J;exact J
 have h0:Q93.f K (n,())=_:=Y (aa.table n).length K 0 (by omega) (by omega);rw[h0];have z:∀ f∈aU (aa.table n),f∈aa.table n/\f.2.2.1=2:=λf I=>by
  rw[aU,BV]at I;exact⟨I.1,by simpa using I.2⟩
 have u:Asc (λf:ah=>f.1) (aU (aa.table n)):=List.Pairwise.filter _ hT.2;by_cases r:(aU (aa.table n)).length=(aa.doubts n).length
 ·have:((BA (aa.doubts n):Int) != (BA (aU (aa.table n)):Int))=false:=by simp[r]
  rw[this];refine (zD K n hn _ r hK).iff ⟨λh=>⟨?_,?_,r⟩,λ⟨h1,h2,_⟩ i y=>?_⟩
  ·rw[dF];intro i y;obtain⟨R,h4,h5,h6,h7⟩:=h i y;obtain⟨h8,h9⟩:=z _ (BC (show i<(aU (aa.table n)).length by omega));exact⟨⟨_,h8,R.symm,h9,h4.symm⟩,h5,h6,h7⟩
  ·rw[cD]at u ⊢;intro i j y hj X;have:=u i j (by omega) (by omega) X;rw[(h i y).1,(h j hj).1];exact this
  ·have H:=i9 ((aa.doubts n).map (·.1)) ((aU (aa.table n)).map (·.1)) (by rw[BL];exact h2) (by rw[BL];exact u) (by
    intro x hx;obtain⟨d,hd,rfl⟩:=BX.1 hx;obtain⟨⟨f,I,e1,e2,_⟩,_⟩:=h1 d hd;exact BX.2 ⟨f,by rw[aU,BV];exact⟨I,by simpa using e2⟩,e1⟩)
   have H:=H.2 (by simp[r]);have M:i<(aU (aa.table n)).length:=by omega
   have e:(aa.doubts n)[i].1=(aU (aa.table n))[i].1:=by
    have R:((aa.doubts n).map (·.1))[i]?=((aU (aa.table n)).map (·.1))[i]?:=by rw[H]
    rw[BT,BT,BF y,BF M]at R;simpa using R
   obtain⟨⟨f,I,e1,e2,e3⟩,h4,h5,h6⟩:=h1 _ (BC y);have:=ik hT.2 I (z _ (BC M)).1 (e1.trans e);subst this;exact⟨e,e3.symm,h4,h5,h6⟩
 ·have:((BA (aa.doubts n):Int) != (BA (aU (aa.table n)):Int))=true:=by simp;omega
  rw[this];exact Ret.no (λh=>r h.2.2)
def sa (n:aa):Prop:=n.2.2.1=false/\n.2.2.2.2.1=0/\n.2.2.2.2.2.1=0/\n.2.2.2.2.2.2.1=0/\n.2.2.2.2.2.2.2.1=0 /\
 wr .i64 (wr .i64 (wr .i64 (wr .i64 ((BA (aa.table n):Int)+(BA (aa.cast n):Int))+(BA (aa.doubts n):Int))+(BA (aa.places n):Int))+(BA (aa.others n):Int))=0 /\
 aa.probe n=(0,0,0,false)/\aa.coord n=(0,0,0,0)
def UpP (n:aa):Prop:=aB (aa.table n)/\cd (aa.table n) (am n.1)/\db n/\(cR (aa.cast n)/\gV (aa.table n) (aa.cast n))/\cZ n/\iE n/\cH (aa.coord n)/\eu n.1 (aa.places n)/\c7 n.1 (aa.others n)
def fF (n:aa):Prop:=InP n.1 0 7/\InP n.2.2.2.2.2.1 0 999999/\InP n.2.2.2.2.2.2.1 0 999999/\InP n.2.2.2.2.2.2.2.1 0 8/\InP n.2.2.2.2.1 0 999/\(if n.2.1=true then UpP n else sa n)
theorem oT (K:Nat)(n:aa)(r:NB n)(u:1048577<K):Ret (Q26.f K (n,())) (fF n):=by
 refine Ret.nx (cG K _ _ _) λ_=>Ret.nx (cG K _ _ _) λ_=>Ret.nx (cG K _ _ _) λ_=>Ret.nx (cG K _ _ _) λ_=>Ret.nx (cG K _ _ _) λ_=>?_
 dsimp only;cases X:n.2.1 with
 |false =>
  simp only[BQ,cond_true,BH,if_false,sa];refine Ret.cnd (by simp) λ_=>Ret.cnd (by simp) λ_=>Ret.cnd (by simp) λ_=>Ret.cnd (by simp) λ_=>Ret.cnd (by simp) λ_=>Ret.cnd (by simp) λ_=>?_
  refine Ret.iff (Ret.cnd (P:=(aa.probe n).1=0) (by simp) λ_=>Ret.cnd (P:=(aa.probe n).2.1=0) (by simp) λ_=>Ret.cnd (P:=(aa.probe n).2.2.1=0) (by simp) λ_=>Ret.cnd (P:=(aa.probe n).2.2.2=false) (by simp) λ_ =>
   Ret.cnd (P:=(aa.coord n).1=0) (by simp) λ_=>Ret.cnd (P:=(aa.coord n).2.1=0) (by simp) λ_=>Ret.cnd (P:=(aa.coord n).2.2.1=0) (by simp) λ_=>Ret.of (P:=(aa.coord n).2.2.2=0) (by simp)) ?_
  generalize aa.probe n=p;generalize aa.coord n=c;obtain⟨I,R,z,H⟩:=p;obtain⟨Y,J,O,M⟩:=c;simp only[BR];constructor
  ·rintro⟨h1,h2,h3,h4,h5,h6,h7,h8⟩;exact⟨⟨h1,h2,h3,h4⟩,h5,h6,h7,h8⟩
  ·rintro⟨⟨h1,h2,h3,h4⟩,h5,h6,h7,h8⟩;exact⟨h1,h2,h3,h4,h5,h6,h7,h8⟩
 |true =>
  simp only[BE,cond_false,if_true,UpP];exact Ret.px (gp K _ r.table u) λy=>Ret.vl (dk K _) (Ret.px (eZ K _ _ r.table u) λ_=>Ret.px (Ay K n r y u) λ_=>Ret.px (tX K n r y u) λ_=>Ret.px (zy K n r u) λ_ =>
   Ret.px (yf K n r y u) λ_=>Ret.px (iD K _) λ_=>Ret.px (yb K n r u) λ_=>(yd K n r u).id)
theorem AB (K:Nat)(n:aa):Ret (Q66.f K (n,())) (sa n):=by
 simp only[Q66.f,gW,pB,sa];exact Ret.cnd (by simp) λ_=>Ret.cnd (by simp) λ_=>Ret.cnd (by simp) λ_=>Ret.cnd (by simp) λ_=>Ret.cnd (by simp) λ_=>Ret.cnd (by simp) λ_=>Ret.cnd (by simp) λ_=>Ret.dec
theorem sE (K:Nat)(n:aa)(r:NB n)(u:1048577<K):Ret (Q101.f K (n,())) (fF n):=by
 refine Ret.nx (ja K _) λ_=>Ret.nx (eJ K _ _ _) λ_=>Ret.nx (eJ K _ _ _) λ_=>Ret.nx (eJ K _ _ _) λ_=>Ret.nx (eJ K _ _ _) λ_=>?_
 dsimp only;cases z:n.2.1 with
 |false =>
  simp only[BQ,cond_true,BH,if_false];exact (AB K n).id
 |true =>
  simp only[BE,cond_false,if_true,UpP];refine Ret.iff (Ret.px (qp K n r u) λy=>Ret.px (zz K n r y.1 u) λ_=>Ret.px (yg K n r y.1 u) λ_=>Ret.px (nK K _) λ_=>Ret.px (yc K n r u) λ_=>(ye K n r u).id) ?_;constructor
  ·rintro⟨⟨h1,h2,h3,h4,h5⟩,h6,h7,h8,h9,h10⟩;exact⟨h1,h2,h3,⟨h4,h5⟩,h6,h7,h8,h9,h10⟩
  ·rintro⟨h1,h2,h3,⟨h4,h5⟩,h6,h7,h8,h9,h10⟩;exact⟨⟨h1,h2,h3,h4,h5⟩,h6,h7,h8,h9,h10⟩
theorem fm {A R:Type}{step:(A->Option R)->A->Option R}(n:Nat)(S:Nat->A)(rt:Option R)(h:∀ (rec:A->Option R) (i:Nat),i<n->step rec (S i)=rec (S (i+1)))(r:∀ rec:A->Option R,step rec (S n)=rt)
  {k:Nat} (y:n<k):af step k (S 0)=rt:=by
 rcases lT (step:=step) n S (λ_=>True) rt none (λrec i z=>.inl ⟨trivial,h rec i z⟩) r n k 0 (by omega) y with ⟨_,u⟩|⟨u,_⟩
 ·exact u
 ·exact absurd (λ_ _ _=>trivial) u
def Szd (o:Option ((Int×Unit)×Unit))(left:Int)(Q:Prop):Prop:=∃ r,o=some ((r,()),())/\(r<0\/(0<=r/\r<=left/\Q))
theorem Szd.sub (left:Int)(n:Nat)(I:0<=left)(M:left<=1048576)(J:n<=9223372036854775807){g:Option ((Int×Unit)×Unit)}{Q:Prop}(y:wr .i64 (left-(n:Int))=left-n->(n:Int)<=left->Szd g (left-n) Q) :
  Szd (bif decide (wr .i64 (left-(n:Int))<0) then some ((-1,()),()) else g) left (n<=1048576/\Q):=by
 have e:wr .i64 (left-(n:Int))=left-n:=aH (by omega) (by omega);by_cases h:left-(n:Int)<0
 ·rw[e,decide_eq_true h];exact⟨-1,rfl,.inl (by decide)⟩
 ·rw[decide_eq_false (by rw[e];exact h)];obtain⟨r,z,H⟩:=y e (by omega);exact⟨r,z,H.imp id λu=>⟨u.1,by omega,by omega,u.2.2⟩⟩
theorem Szd.bind {o:Option ((Int×Unit)×Unit)}{left:Int}{P Q:Prop}{G:(Int×Unit)×Unit->Option ((Int×Unit)×Unit)}(h:Szd o left P)(M:∀ r,0<=r->r<=left->P->Szd (G ((r,()),())) r Q) :
  Szd (o.bind λy=>bif decide (y.1.1<0) then some ((-1,()),()) else G y) left (P/\Q):=by
 obtain⟨r,R,u⟩:=h;rw[R,BB];rcases u with u|⟨u,O,H⟩
 ·rw[decide_eq_true u];exact⟨-1,rfl,.inl (by decide)⟩
 ·rw[show decide (r<0)=false from decide_eq_false (by omega)];obtain⟨X,I,J⟩:=M r u O H;exact⟨X,I,J.imp id λz=>⟨z.1,by omega,H,z.2.2⟩⟩
theorem Szd.ret (r:Int)(h:0<=r):Szd (some ((r,()),())) r True:=⟨r,rfl,.inr ⟨h,Int.le_refl _,trivial⟩⟩
theorem Szd.iff {o:Option ((Int×Unit)×Unit)}{left:Int}{P Q:Prop}(h:Szd o left P)(e:P->Q):Szd o left Q:=by
 obtain⟨r,z,y⟩:=h;exact⟨r,z,y.imp id λu=>⟨u.1,u.2.1,e u.2.2⟩⟩
end Go.Proofs.YtaelpfghkndliaaGreatEv
