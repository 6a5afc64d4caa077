/- What is ok of facts, tables, casts: the program and the specification say the same. -/
import Derived.Test.YtmcbmojdeikcdaaGreatFns
import Derived.Test.YtmcbmojdeikcdaaGreatP0
set_option linter.unusedVariables false
set_option linter.unusedSimpArgs false
open Bool renaming not_true->AE,false_eq_true->AH,not_false->AQ
open Classical renaming not_not->AD
open Int renaming natCast_nonneg->AJ
open List renaming length->AA,getElem_mem->AC,getElem?_eq_getElem->AF,getElem_of_mem->AG,drop_eq_getElem_cons->AK,pairwise_map->AL,filter_cons->AM,drop_of_length_le->AN,take_of_length_le->AO,length_singleton->AP,take_add_one->AS,getElem?_map->AT,mem_filter->AV,drop_zero->AW,mem_map->AX
open Nat renaming zero_le->AI,le_refl->AU
open Option renaming bind_some->AB
open Prod.mk renaming injEq->AR
namespace Go.Proofs.YtmcbmojdeikcdaaGreatEv
open Go
abbrev InP (n lo hi:Int):Prop:=lo<=n/\n<=hi
theorem eZ (K:Nat)(n lo hi:Int):Ret (Q120.f K (n,lo,hi,())) (InP n lo hi):=by
 simp only[Q120.f];exact Ret.cnd (by simp) λ_=>Ret.dec
theorem cq (K:Nat)(n lo hi:Int):Ret (Q7.f K (n,lo,hi,())) (InP n lo hi):=by
 simp only[Q7.f];exact Ret.cnd (by simp) λ_=>Ret.dec
theorem Ret.id {o:Option RB}{P:Prop}(h:Ret o P):Ret (o.bind λy=>some ((y.1.1,()),())) P:=by
 obtain⟨b,h1,h2⟩:=h;exact⟨b,by rw[h1];rfl,h2⟩
theorem Ret.neg {o:Option RB}{P:Prop}(h:Ret o P):Ret (o.bind λy=>some ((!y.1.1,()),())) (¬ P):=by
 obtain⟨b,h1,h2⟩:=h;exact⟨!b,by rw[h1];rfl,by cases b <;> simp_all⟩
def bH (f:ag):Prop:=InP f.1 0 7/\InP f.2.1 0 999/\InP f.2.2.1 1 4
theorem nq (K:Nat)(n:Int):Ret (Q121.f K (n,())) (InP n 0 7):=(eZ K n 0 7).id
theorem nr (K:Nat)(f:ag):Ret (Q123.f K (f,())) (bH f) :=
 Ret.and (nq K f.1) (λ_=>Ret.and (eZ K f.2.1 0 999) (λ_=>(eZ K f.2.2.1 1 4).id) rfl) rfl
theorem nu (K:Nat)(f:ag):Ret (Q12.f K (f,())) (bH f) :=
 Ret.and (cq K f.1 0 7) (λ_=>Ret.and (cq K f.2.1 0 999) (λ_=>(cq K f.2.2.1 1 4).id) rfl) rfl
def aA (t:List ag):Prop:=(∀ f∈t,bH f)/\Asc (λf:ag=>f.1) t
theorem rm {t:List ag}:aA t<->∀ j,j<t.length->∃ h:j<t.length,bH t[j]/\(0<j->(t[j-1]'(by omega)).1<t[j].1):=by
 unfold aA;rw[dl,fV];constructor
 ·rintro⟨h1,h2⟩ j hj;exact⟨hj,h1 j hj,λh0=>h2 j hj h0⟩
 ·intro h;exact⟨λi hi=>(h i hi).2.1,λi hi h0=>(h i hi).2.2 h0⟩
theorem eu {P:Prop}:(P/\True)<->P:=by simp
theorem fG (K:Nat)(t:List ag)(ht:t.length<=1048576)(hK:1048577<K):Ret (Q13.f K (t,())) (aA t):=by
 refine Ret.iff (pe (step:=λrec a=>Q13.l0.step K (t,()) rec a) t.length (λi=>(i:Int)) (λj=>∃ h:j<t.length,bH t[j]/\(0<j->(t[j-1]'(by omega)).1<t[j].1)) (Q:=True) (rt:=rb true) ?_ ?_ (by omega) (λ_=>Ret.yes trivial)) (eu.trans rm.symm)
 ·intro rec i hi;simp only[Q13.l0.step];rw[decide_eq_true (by omega:(i:Int)<(AA t:Int)),ai hi,av i (by omega)];simp only[cond_true,AB];obtain⟨b,h1,h2⟩:=nu K t[i];rw[h1];simp only[AB];cases b with
  |false=>exact .inr ⟨λ⟨_,h3,_⟩=>by simpa using h2.2 h3,rfl⟩
  |true =>
   simp only[AE,cond_false];by_cases h0:(i:Int)>0
   ·rw[decide_eq_true h0,dS i (by omega) (by omega),ai (by omega:i-1<t.length)];simp only[cond_true,AB];by_cases h3:(t[i-1]'(by omega)).1>=t[i].1
    ·rw[decide_eq_true h3];exact .inr ⟨λ⟨_,_,h4⟩=>by have:=h4 (by omega);omega,rfl⟩
    ·rw[decide_eq_false h3];exact .inl ⟨⟨hi,h2.1 rfl,λ_=>by omega⟩,rfl⟩
   ·rw[decide_eq_false h0];exact .inl ⟨⟨hi,h2.1 rfl,λ_=>by omega⟩,rfl⟩
 ·intro rec;simp only[Q13.l0.step];rw[decide_eq_false (by omega:¬ ((t.length:Int)<(AA t:Int)))];rfl
theorem jN (K:Nat)(t:List ag)(ht:t.length<=1048576)(hK:1048577<K):Ret (Q124.f K (t,())) (aA t):=by
 refine Ret.iff (pe (step:=λrec a=>Q124.l0.step K (t,()) rec a) t.length (λi=>(i:Int)) (λj=>∃ h:j<t.length,bH t[j]/\(0<j->(t[j-1]'(by omega)).1<t[j].1)) (Q:=True) (rt:=rb true) ?_ ?_ (by omega) (λ_=>Ret.yes trivial)) (eu.trans rm.symm)
 ·intro rec i hi;simp only[Q124.l0.step];rw[decide_eq_true (by omega:(i:Int)<(AA t:Int)),ai hi,av i (by omega)];simp only[cond_true,AB];obtain⟨b,h1,h2⟩:=nr K t[i];rw[h1];simp only[AB];cases b with
  |false=>exact .inr ⟨λ⟨_,h3,_⟩=>by simpa using h2.2 h3,rfl⟩
  |true =>
   simp only[AE,cond_false];by_cases h0:(i:Int)>0
   ·rw[decide_eq_true h0,dS i (by omega) (by omega),ai (by omega:i-1<t.length)];simp only[cond_true,AB];by_cases h3:t[i].1<=(t[i-1]'(by omega)).1
    ·rw[decide_eq_true h3];exact .inr ⟨λ⟨_,_,h4⟩=>by have:=h4 (by omega);omega,rfl⟩
    ·rw[decide_eq_false h3];exact .inl ⟨⟨hi,h2.1 rfl,λ_=>by omega⟩,rfl⟩
   ·rw[decide_eq_false h0];exact .inl ⟨⟨hi,h2.1 rfl,λ_=>by omega⟩,rfl⟩
 ·intro rec;simp only[Q124.l0.step];rw[decide_eq_false (by omega:¬ ((t.length:Int)<(AA t:Int)))];rfl
inductive tX (t:List ag) (node:Int):Option Nat->Prop where
 |at_ (i:Nat) (h:i<t.length) (e:t[i].1=node):tX t node (some i)
 |no (h:∀ f∈t,f.1≠node):tX t node none
theorem ew (K:Nat)(t:List ag)(node:Int)(ht:t.length<=1048576)(hK:1048577<K) :
  ∃ o,tX t node o/\Q45.f K (t,node,())=some (((match o with|some i=>((i:Nat):Int)|none=>-1),()),()):=by
 have:=cK (step:=λrec a=>Q45.l0.step K (t,node,()) rec a) t.length (λi=>(i:Int)) (λj=>∃ h:j<t.length,t[j].1=node) (some ((-1,()),())) (λj=>some ((((j:Nat):Int),()),())) ?_ ?_ t.length K 0 (by omega) (by omega)
 ·rcases this with ⟨h1,h2⟩|⟨j,_,h1,⟨h3,h4⟩,_,h2⟩
  ·refine⟨none,.no ?_,h2⟩;rw[dl];exact λi hi e=>h1 i (AI _) hi ⟨hi,e⟩
  ·exact⟨some j,.at_ j h3 h4,h2⟩
 ·intro rec i hi;simp only[Q45.l0.step];rw[decide_eq_true (by omega:(i:Int)<(AA t:Int)),ai hi,av i (by omega)];simp only[cond_true,AB];by_cases h:t[i].1=node
  ·right;refine⟨⟨hi,h⟩,?_⟩;have:(t[i].1==node)=true:=by simpa using h
   rw[this];rfl
  ·left;refine⟨λ⟨_,h1⟩=>h h1,?_⟩;have:(t[i].1==node)=false:=by simpa using h
   rw[this];rfl
 ·intro rec;simp only[Q45.l0.step];rw[decide_eq_false (by omega:¬ ((t.length:Int)<(AA t:Int)))];rfl
def eM (a b:Int):Int:=if a<b then -1 else if a>b then 1 else 0
theorem kz (K:Nat)(a b:Int):Q127.f K (a,b,())=some ((eM a b,()),()):=by
 have hn:∀ x:Int,Q126.f K (x,())=rb false:=λx=>by simp[Q126.f]
 simp only[Q127.f,hn,AB,cond_false,eM];by_cases h1:a<b
 ·rw[decide_eq_true h1,if_pos h1];rfl
 ·rw[decide_eq_false h1,if_neg h1];by_cases h2:a>b
  ·rw[decide_eq_true h2,if_pos h2];rfl
  ·rw[decide_eq_false h2,if_neg h2];rfl
theorem nv (a b:Int):eM a b<0<->a<b:=by
 unfold eM;by_cases h1:a<b
 ·simp[h1]
 ·by_cases h2:a>b <;> simp[h1,h2]
theorem tf (a b:Int):eM a b>0<->a>b:=by
 unfold eM;by_cases h1:a<b
 ·simp[h1];omega
 ·by_cases h2:a>b <;> simp[h1,h2]
theorem gA (a b:Int):eM a b=0<->a=b:=by
 unfold eM;by_cases h1:a<b
 ·simp[h1];omega
 ·by_cases h2:a>b <;> simp[h1,h2] <;> omega
structure Cut (t:List ag) (node:Int) (m:Nat):Prop where
 le:m<=t.length
 lo:∀ i,(h:i<t.length)->i<m->t[i].1<node
 hi:∀ i,(h:i<t.length)->m<=i->node<=t[i].1
theorem yO (K:Nat)(t:List ag)(node:Int)(ht:t.length<=1048576)(hasc:Asc (λf:ag=>f.1) t)(hK:1048577<K) :
  ∃ m,Cut t node m/\Q129.f K (t,node,())=some ((((m:Nat):Int),decide (∃ h:m<t.length,t[m].1=node),()),()):=by
 let ks:Nat->Int:=λi=>if h:i<t.length then t[i].1 else 0
 have hks:∀ i (h:i<t.length),ks i=t[i].1:=λi h=>by simp[ks,h]
 let fin:Nat->Option ((Int×Bool×Unit)×Unit):=λm=>some ((((m:Nat):Int),decide (∃ h:m<t.length,t[m].1=node),()),())
 have φ:∀ f:ag,((Q128.f K (f,node,())).map λy=>y.1.1)=some (eM f.1 node):=λf=>by
  simp only[Q128.f];rw[kz];rfl
 have:=yN (step:=λrec a=>Q125.l0.step K (t,node,(λy1=>(Q128.f K (y1.1,y1.2.1,())).map λy=>y.1.1),()) rec a) (ks:=ks) (n:=t.length) (t:=node) fin ht
  (λi j hij hj=>by
   rw[hks i (by omega),hks j hj];exact ek.1 hasc i j (by omega) hj hij) ?_ ?_ t.length K 0 t.length (by omega) (AI _) (AU _) (by omega) (λi hi=>by omega) (λi hi hn=>by omega)
 ·obtain⟨m,h1,h2,h3,h4⟩:=this;refine⟨m,⟨h1,λi h hi=>by rw[<- hks i h];exact h2 i hi,λi h hi=>by rw[<- hks i h];exact h3 i hi h⟩,?_⟩;simp only[Q129.f];have e:Q125.f K (t,node,(λy1=>(Q128.f K (y1.1,y1.2.1,())).map λy=>y.1.1),())=fin m:=h4;rw[e];rfl
 ·intro rec a b hab hb;have hm:(a+b) / 2<t.length:=by omega
  simp only[Q125.l0.step];rw[decide_eq_true (by omega:(a:Int)<(b:Int)),xO (by omega)];simp only[cond_true];rw[ai hm];simp only[AB,φ];rw[hks _ hm,av _ (by omega)];by_cases h:t[(a+b) / 2].1<node
  ·rw[if_pos h,decide_eq_true ((nv _ _).2 h)];rfl
  ·rw[if_neg h,decide_eq_false (λh1=>h ((nv _ _).1 h1))];rfl
 ·intro rec a ha;simp only[Q125.l0.step];rw[decide_eq_false (by omega)];simp only[cond_false];by_cases h:a<t.length
  ·rw[decide_eq_true (by omega:(a:Int)<(AA t:Int)),ai h];simp only[cond_true,AB,φ,fin];congr 3;by_cases h1:t[a].1=node
   ·have:(eM t[a].1 node==0)=true:=by simpa using (gA t[a].1 node).2 h1
    rw[this,decide_eq_true ⟨h,h1⟩]
   ·have:(eM t[a].1 node==0)=false:=by
     rw[beq_eq_false_iff_ne];exact λe=>h1 ((gA _ _).1 e)
    rw[this,decide_eq_false (λ⟨_,h2⟩=>h1 h2)]
  ·rw[decide_eq_false (by omega)];simp only[cond_false,fin];rw[decide_eq_false (λ⟨h1,_⟩=>h h1)]
def aq (n:Int):Int:=wr .i64 (Int.tdiv n 4)
theorem dE (K:Nat)(n:Int):Q42.f K (n,())=some ((aq n,()),()):=rfl
theorem yP (K:Nat)(n:Int):Q131.f K (n,())=some ((aq n,()),()):=rfl
theorem tg (K:Nat)(n:aa):Q132.f K (n,())=some ((aq n.1,()),()):=rfl
abbrev aa.table (n:aa):List ag:=n.2.2.2.2.2.2.2.2.1
abbrev aa.cast (n:aa):List aV:=n.2.2.2.2.2.2.2.2.2.1
abbrev aa.probe (n:aa):ag:=n.2.2.2.2.2.2.2.2.2.2.1
abbrev aa.doubts (n:aa):List ce:=n.2.2.2.2.2.2.2.2.2.2.2.1
abbrev aa.coord (n:aa):cF:=n.2.2.2.2.2.2.2.2.2.2.2.2.1
abbrev aa.places (n:aa):List bf:=n.2.2.2.2.2.2.2.2.2.2.2.2.2.1
abbrev aa.others (n:aa):List cD:=n.2.2.2.2.2.2.2.2.2.2.2.2.2.2
structure NB (n:aa):Prop where
 table:(aa.table n).length<=1048576
 cast:(aa.cast n).length<=1048576
 doubts:(aa.doubts n).length<=1048576
 by_:∀ d∈aa.doubts n,d.2.2.2.length<=1048576
 places:(aa.places n).length<=1048576
 trips:∀ p∈aa.places n,p.2.2.length<=1048576
 others:(aa.others n).length<=1048576
 facts:∀ x∈aa.others n,x.2.length<=1048576
def b7 (t:List ag)(s:Int):Prop:=∀ f∈t,aq f.1=s
theorem fH (K:Nat)(t:List ag)(s:Int)(ht:t.length<=1048576)(hK:1048577<K):Ret (Q14.f K (t,s,())) (b7 t s):=by
 refine (fF t (step:=λrec a=>Q14.l0.step K (t,s,()) rec a) (λi hi=>¬ aq t[i].1≠s) ht ?_ ?_ hK (λ_=>Ret.yes trivial)).iff (eu.trans ?_)
 ·intro rec i hi;simp only[Q14.l0.step];rw[decide_eq_true (by omega:(i:Int)<(AA t:Int))];exact Rnd.ix (ai hi) ((Rnd.cndN (P:=aq t[i].1≠s) (by simp[aq]) (λ_=>Rnd.end_)).iff (by simp))
 ·intro rec;simp only[Q14.l0.step];rw[decide_eq_false (by omega:¬ ((t.length:Int)<(AA t:Int)))];rfl
 ·rw[b7,dl];exact⟨λh i hi=>AD.1 (h i hi),λh i hi=>AD.2 (h i hi)⟩
theorem vb (K:Nat)(t:List ag)(φ:ag×Unit->Option Bool)(p:ag->Prop)(ht:t.length<=1048576)(hK:1048577<K)(hφ:∀ f∈t,∃ b,φ (f,())=some b/\(b=true<->p f)) :
  Ret (Q134.f K (t,φ,())) (∃ f∈t,p f):=by
 have:=cK (step:=λrec a=>Q133.l0.step K (t,φ,()) rec a) t.length (λi=>(i:Int)) (λj=>∃ h:j<t.length,p t[j]) (some ((-1,()),())) (λj=>some ((((j:Nat):Int),()),())) ?_ ?_ t.length K 0 (by omega) (by omega)
 ·simp only[Q134.f];rcases this with ⟨h1,h2⟩|⟨j,_,h1,⟨h3,h4⟩,_,h2⟩
  ·have e:Q133.f K (t,φ,())=some ((-1,()),()):=h2;rw[e];refine Ret.of ?_;simp only[ge_iff_le,decide_eq_true_eq];refine⟨λh=>absurd h (by decide),λ⟨f,hf,hp⟩=>?_⟩;obtain⟨i,hi,e1⟩:=AG hf;exact absurd ⟨hi,e1 ▸ hp⟩ (h1 i (AI _) hi)
  ·have e:Q133.f K (t,φ,())=some ((((j:Nat):Int),()),()):=h2;rw[e];refine Ret.of ?_;simp only[ge_iff_le,decide_eq_true_eq];exact⟨λ_=>⟨t[j],AC h3,h4⟩,λ_=>AJ j⟩
 ·intro rec i hi;simp only[Q133.l0.step];rw[decide_eq_true (by omega:(i:Int)<(AA t:Int)),ai hi,av i (by omega)];simp only[cond_true,AB];obtain⟨b,h1,h2⟩:=hφ t[i] (AC hi);rw[h1];simp only[AB];cases b with
  |true=>exact .inr ⟨⟨hi,h2.1 rfl⟩,rfl⟩
  |false=>exact .inl ⟨λ⟨_,h⟩=>by simpa using h2.2 h,rfl⟩
 ·intro rec;simp only[Q133.l0.step];rw[decide_eq_false (by omega:¬ ((t.length:Int)<(AA t:Int)))];rfl
theorem pM (K:Nat)(t:List aV)(φ:aV×Unit->Option Bool)(p:aV->Prop)(ht:t.length<=1048576)(hK:1048577<K)(hφ:∀ f∈t,∃ b,φ (f,())=some b/\(b=true<->p f)) :
  Ret (Q138.f K (t,φ,())) (∃ f∈t,p f):=by
 have:=cK (step:=λrec a=>Q137.l0.step K (t,φ,()) rec a) t.length (λi=>(i:Int)) (λj=>∃ h:j<t.length,p t[j]) (some ((-1,()),())) (λj=>some ((((j:Nat):Int),()),())) ?_ ?_ t.length K 0 (by omega) (by omega)
 ·simp only[Q138.f];rcases this with ⟨h1,h2⟩|⟨j,_,h1,⟨h3,h4⟩,_,h2⟩
  ·have e:Q137.f K (t,φ,())=some ((-1,()),()):=h2;rw[e];refine Ret.of ?_;simp only[ge_iff_le,decide_eq_true_eq];refine⟨λh=>absurd h (by decide),λ⟨f,hf,hp⟩=>?_⟩;obtain⟨i,hi,e1⟩:=AG hf;exact absurd ⟨hi,e1 ▸ hp⟩ (h1 i (AI _) hi)
  ·have e:Q137.f K (t,φ,())=some ((((j:Nat):Int),()),()):=h2;rw[e];refine Ret.of ?_;simp only[ge_iff_le,decide_eq_true_eq];exact⟨λ_=>⟨t[j],AC h3,h4⟩,λ_=>AJ j⟩
 ·intro rec i hi;simp only[Q137.l0.step];rw[decide_eq_true (by omega:(i:Int)<(AA t:Int)),ai hi,av i (by omega)];simp only[cond_true,AB];obtain⟨b,h1,h2⟩:=hφ t[i] (AC hi);rw[h1];simp only[AB];cases b with
  |true=>exact .inr ⟨⟨hi,h2.1 rfl⟩,rfl⟩
  |false=>exact .inl ⟨λ⟨_,h⟩=>by simpa using h2.2 h,rfl⟩
 ·intro rec;simp only[Q137.l0.step];rw[decide_eq_false (by omega:¬ ((t.length:Int)<(AA t:Int)))];rfl
theorem wy (K:Nat)(t:List Int)(φ:Int×Unit->Option Bool)(p:Int->Prop)(ht:t.length<=1048576)(hK:1048577<K)(hφ:∀ f∈t,∃ b,φ (f,())=some b/\(b=true<->p f)) :
  Ret (Q154.f K (t,φ,())) (∃ f∈t,p f):=by
 have:=cK (step:=λrec a=>Q153.l0.step K (t,φ,()) rec a) t.length (λi=>(i:Int)) (λj=>∃ h:j<t.length,p t[j]) (some ((-1,()),())) (λj=>some ((((j:Nat):Int),()),())) ?_ ?_ t.length K 0 (by omega) (by omega)
 ·simp only[Q154.f];rcases this with ⟨h1,h2⟩|⟨j,_,h1,⟨h3,h4⟩,_,h2⟩
  ·have e:Q153.f K (t,φ,())=some ((-1,()),()):=h2;rw[e];refine Ret.of ?_;simp only[ge_iff_le,decide_eq_true_eq];refine⟨λh=>absurd h (by decide),λ⟨f,hf,hp⟩=>?_⟩;obtain⟨i,hi,e1⟩:=AG hf;exact absurd ⟨hi,e1 ▸ hp⟩ (h1 i (AI _) hi)
  ·have e:Q153.f K (t,φ,())=some ((((j:Nat):Int),()),()):=h2;rw[e];refine Ret.of ?_;simp only[ge_iff_le,decide_eq_true_eq];exact⟨λ_=>⟨t[j],AC h3,h4⟩,λ_=>AJ j⟩
 ·intro rec i hi;simp only[Q153.l0.step];rw[decide_eq_true (by omega:(i:Int)<(AA t:Int)),ai hi,av i (by omega)];simp only[cond_true,AB];obtain⟨b,h1,h2⟩:=hφ t[i] (AC hi);rw[h1];simp only[AB];cases b with
  |true=>exact .inr ⟨⟨hi,h2.1 rfl⟩,rfl⟩
  |false=>exact .inl ⟨λ⟨_,h⟩=>by simpa using h2.2 h,rfl⟩
 ·intro rec;simp only[Q153.l0.step];rw[decide_eq_false (by omega:¬ ((t.length:Int)<(AA t:Int)))];rfl
theorem Ret.fn {o:Option RB}{P:Prop}(h:Ret o P):∃ b,(o.map λy=>y.1.1)=some b/\(b=true<->P):=by
 obtain⟨b,h1,h2⟩:=h;exact⟨b,by rw[h1];rfl,h2⟩
theorem ny (K:Nat)(t:List ag)(s:Int)(ht:t.length<=1048576)(hK:1048577<K):Ret (Q136.f K (t,s,())) (b7 t s):=by
 refine (Ret.neg (vb K t (λy1=>(Q135.f K (y1.1,s,())).map λy=>y.1.1) (λf=>aq f.1≠s) ht hK (λf _=>?_))).iff ?_
 ·exact⟨_,rfl,by simp[aq]⟩
 ·exact⟨λh f hf=>AD.1 λh2=>h ⟨f,hf,h2⟩,λh ⟨f,hf,h2⟩=>h2 (h f hf)⟩
theorem iH (K:Nat)(t:List ag)(node:Int)(ht:t.length<=1048576)(hK:1048577<K) :
  (¬ aA t/\Q130.f K (t,node,())=some (((0,(0,(0,false))),false,()),())) \/
  (aA t/\((∃ f∈t,f.1=node/\Q130.f K (t,node,())=some ((f,true,()),()))\/((∀ f∈t,f.1≠node)/\Q130.f K (t,node,())=some (((0,(0,(0,false))),false,()),())))):=by
 simp only[Q130.f];obtain⟨b,h1,h2⟩:=jN K t ht hK;rw[h1];simp only[AB];cases b with
 |false=>exact .inl ⟨λh=>by simpa using h2.2 h,rfl⟩
 |true =>
  have hT:=h2.1 rfl;obtain⟨m,hm,h3⟩:=yO K t node ht hT.2 hK;refine .inr ⟨hT,?_⟩;simp only[AE,cond_false,h3,AB];by_cases h:∃ h:m<t.length,t[m].1=node
  ·rw[decide_eq_true h];obtain⟨h4,h5⟩:=h;left;refine⟨t[m],AC h4,h5,?_⟩;simp only[AE,cond_false];rw[ai h4];rfl
  ·rw[decide_eq_false h];right;refine⟨?_,rfl⟩;rw[dl];intro i hi e;rcases Nat.lt_trichotomy i m with h4|h4|h4
   ·have:=hm.lo i hi h4;omega
   ·subst h4;exact h ⟨hi,e⟩
   ·have h5:=hm.hi m (by omega) (AU _);have h6:=ek.1 hT.2 m i (by omega) hi h4;omega
def bV (f g:ag):Prop:=if f.2.1≠g.2.1 then f.2.1>g.2.1 else if f.2.2.1≠g.2.2.1 then f.2.2.1>g.2.2.1 else f.2.2.2=true/\g.2.2.2=false
theorem rq (K:Nat)(f g:ag):Ret (Q29.f K (f,g,())) (bV f g):=by
 simp only[Q29.f,bV];by_cases h1:f.2.1=g.2.1
 ·have e:(f.2.1 != g.2.1)=false:=by simpa using h1
  rw[e,if_neg (by simpa using h1)];by_cases h2:f.2.2.1=g.2.2.1
  ·have e:(f.2.2.1 != g.2.2.1)=false:=by simpa using h2
   rw[e,if_neg (by simpa using h2)];exact (Ret.cnd (b:=f.2.2.2) Iff.rfl (λ_=>Ret.of (b:=!g.2.2.2) (by simp))).iff Iff.rfl
  ·have e:(f.2.2.1 != g.2.2.1)=true:=by simpa using h2
   rw[e,if_pos h2];exact Ret.dec
 ·have e:(f.2.1 != g.2.1)=true:=by simpa using h1
  rw[e,if_pos h1];exact Ret.dec
def orI:List Int->Int
 |[]=>0
 |x::xs=>if x≠0 then x else orI xs
theorem yQ (K:Nat)(xs:List Int)(hx:xs.length<=1048576)(hK:1048577<K):Q142.f K (xs,())=some ((orI xs,()),()):=by
 have key:∀ (d k i:Nat),i+d=xs.length->d<k->ae (λrec a=>Q142.l0.step K (xs,()) rec a) k (i:Int)=some ((orI (xs.drop i),()),()):=by
  intro d;induction d with
  |zero =>
   intro k i hi hk;obtain⟨k,rfl⟩:∃ k',k=k'+1:=⟨k-1,by omega⟩;show Q142.l0.step K (xs,()) _ _=_;simp only[Q142.l0.step];rw[decide_eq_false (by omega:¬ ((i:Int)<(AA xs:Int))),AN (by omega)];rfl
  |succ d ih =>
   intro k i hi hk;obtain⟨k,rfl⟩:∃ k',k=k'+1:=⟨k-1,by omega⟩;have ih:=ih k (i+1) (by omega) (by omega);show Q142.l0.step K (xs,()) _ _=_;simp only[Q142.l0.step];have hi':i<xs.length:=by omega
   rw[decide_eq_true (by omega:(i:Int)<(AA xs:Int)),ai hi',av i (by omega),AK hi'];simp only[cond_true,AB,orI];by_cases h:xs[i]=0
   ·have e:(xs[i] != 0)=false:=by simpa using h
    rw[e,if_neg (by simpa using h)];exact ih
   ·have e:(xs[i] != 0)=true:=by simpa using h
    rw[e,if_pos h];rfl
 have:=key xs.length K 0 (by omega) (by omega)
 rwa [AW]at this
def cmpF (f g:ag):Int:=orI [eM f.1 g.1,eM f.2.1 g.2.1,eM f.2.2.1 g.2.2.1,if f.2.2.2=true/\g.2.2.2=false then 1 else if g.2.2.2=true/\f.2.2.2=false then -1 else 0]
theorem vc (K:Nat)(f g:ag)(hK:1048577<K):Q143.f K (f,g,())=some ((cmpF f g,()),()):=by
 obtain⟨a,b,c,d⟩:=f;obtain⟨a',b',c',d'⟩:=g;have h:∀ z:Int,Q142.f K ([eM a a',eM b b',eM c c',z],())=some ((orI [eM a a',eM b b',eM c c',z],()),()):=λz=>yQ K _ (by simp) hK
 simp only[Q143.f,cmpF];cases d <;> cases d' <;> simp only[AE,AQ,cond_true,cond_false] <;> rw[kz,AB,kz,AB,kz,AB,h] <;> rfl
theorem nz {x:Int}(h:x=0)(xs:List Int):orI (x::xs)=orI xs:=by subst h;rfl
theorem th {x:Int}(h:x≠0)(xs:List Int):orI (x::xs)=x:=by simp[orI,h]
theorem vd {f g:ag}(e:f.1=g.1):cmpF f g>0<->bV f g:=by
 unfold cmpF bV;rw[nz ((gA f.1 g.1).2 e)];by_cases h1:f.2.1=g.2.1
 ·rw[nz ((gA f.2.1 g.2.1).2 h1),if_neg (show ¬ f.2.1≠g.2.1 from λh=>h h1)];by_cases h2:f.2.2.1=g.2.2.1
  ·rw[nz ((gA f.2.2.1 g.2.2.1).2 h2),if_neg (show ¬ f.2.2.1≠g.2.2.1 from λh=>h h2)];cases f.2.2.2 <;> cases g.2.2.2 <;> simp[orI]
  ·rw[th (λh=>h2 ((gA f.2.2.1 g.2.2.1).1 h)),if_pos (show f.2.2.1≠g.2.2.1 from h2)];exact tf _ _
 ·rw[th (λh=>h1 ((gA f.2.1 g.2.1).1 h)),if_pos (show f.2.1≠g.2.1 from h1)];exact tf _ _
theorem tY (K:Nat)(f g:ag)(hK:1048577<K):Ret (Q144.f K (f,g,())) (bH f/\bH g/\f.1=g.1/\bV f g):=by
 refine Ret.and (nr K f) (λ_=>Ret.and (nr K g) (λ_=>?_) rfl) rfl;refine (Ret.cnd (b:=f.1==g.1) (P:=f.1=g.1) (by simp) (λe=>?_)).iff Iff.rfl;show Ret ((Q143.f K (f,g,())).bind _) _;rw[vc K f g hK];refine Ret.of ?_;simp only[gt_iff_lt,decide_eq_true_eq];exact vd e
theorem bM {n:Nat}{m:Int}(h:(n:Int)<m):decide ((n:Int)<m)=true:=decide_eq_true h
theorem bq (n:Nat):decide ((n:Int)<(n:Int))=false:=decide_eq_false (by omega)
def cY (l:List aV):Prop:=(∀ x∈l,bH x.1/\InP x.2 1 4)/\Asc (λx:aV=>x.1.1) l
theorem wz (K:Nat)(l:List aV)(hl:l.length<=1048576)(hK:1048577<K):Ret (Q172.f K (l,())) (cY l):=by
 refine (fF l (step:=λrec a=>Q172.l0.step K (l,()) rec a) (λi hi=>bH l[i].1/\InP l[i].2 1 4/\(0<i->¬ (l[i-1]'(by omega)).1.1>=l[i].1.1)/\True) hl ?_ ?_ hK (λ_=>Ret.yes trivial)).iff (eu.trans ?_)
 ·intro rec i hi;simp only[Q172.l0.step];rw[decide_eq_true (by omega:(i:Int)<(AA l:Int))];simp only[cond_true];refine Rnd.ix (ai hi) (Rnd.nx (nu K _) λ_=>Rnd.ix (ai hi) (Rnd.nx (cq K _ 1 4) λ_=>Rnd.two (λh0=>?_) Rnd.end_));rw[dS i h0 (by omega)];exact Rnd.ix (ai (by omega)) (Rnd.ix (ai hi) (Rnd.cndN (by simp) λ_=>Rnd.end_))
 ·intro rec;simp only[Q172.l0.step,bq];rfl
 ·rw[cY,dl,fV];constructor
  ·intro h;exact⟨λi hi=>⟨(h i hi).1,(h i hi).2.1⟩,λi hi h0=>by have:=(h i hi).2.2.1 h0;omega⟩
  ·rintro⟨h1,h2⟩ i hi;exact⟨(h1 i hi).1,(h1 i hi).2,λh0=>by have:=h2 i hi h0;omega,trivial⟩
theorem xP (K:Nat)(l:List aV)(hl:l.length<=1048576)(hK:1048577<K):Q140.f K (l,())=some ((l.map (·.1),()),()):=by
 have key:∀ (d k i:Nat),i+d=l.length->d<k->ae (λrec a=>Q140.l0.step K (l,()) rec a) k ((l.take i).map (·.1),(i:Int))=some ((l.map (·.1),()),()):=by
  intro d;induction d with
  |zero =>
   intro k i hi hk;obtain⟨k,rfl⟩:∃ k',k=k'+1:=⟨k-1,by omega⟩;show Q140.l0.step K (l,()) _ _=_;simp only[Q140.l0.step];rw[decide_eq_false (by omega:¬ ((i:Int)<(AA l:Int))),AO (by omega)];rfl
  |succ d ih =>
   intro k i hi hk;obtain⟨k,rfl⟩:∃ k',k=k'+1:=⟨k-1,by omega⟩;have ih:=ih k (i+1) (by omega) (by omega);show Q140.l0.step K (l,()) _ _=_;have hi':i<l.length:=by omega
   simp only[Q140.l0.step];rw[decide_eq_true (by omega:(i:Int)<(AA l:Int)),ai hi',av i (by omega)];simp only[cond_true,AB];have hs:decide ((AA (List.map (λx:aV=>x.1) (List.take i l))+AA [l[i].1])*32<=ah)=true:=decide_eq_true (by simp only[ah,List.length_map,List.length_take,AP];omega);rw[hs];have e:(List.take i l).map (λx:aV=>x.1)++[l[i].1]=(l.take (i+1)).map (·.1):=by
    rw[AS,AF hi',List.map_append];rfl
   rw[e];exact ih
 have:=key l.length K 0 (by omega) (by omega);exact this
theorem tZ {l:List aV}:aA (l.map (·.1))<->(∀ x∈l,bH x.1)/\Asc (λx:aV=>x.1.1) l:=by
 unfold aA Asc;rw[AL];simp
theorem ve (K:Nat)(x:aV):Ret (Q139.f K (x,())) (¬ InP x.2 1 4):=by
 simp only[Q139.f];exact (eZ K x.2 1 4).neg
theorem wA (K:Nat)(l:List aV)(hl:l.length<=1048576)(hK:1048577<K):Ret (Q138.f K (l,(λy3=>(Q139.f K (y3.1,())).map λy=>y.1.1),())) (∃ x∈l,¬ InP x.2 1 4) :=
 pM K l _ (λx=>¬ InP x.2 1 4) hl hK (λx _=>Ret.fn (ve K x))
theorem wB (K:Nat)(l:List aV)(hl:l.length<=1048576)(hK:1048577<K):Ret (Q141.f K (l,())) (cY l):=by
 simp only[Q141.f];obtain⟨b1,h1,h2⟩:=wA K l hl hK;obtain⟨b2,h3,h4⟩:=jN K (l.map (·.1)) (by simpa using hl) hK;rw[xP K l hl hK,AB,h3,AB,h1,AB];have e:cY l<->(b2=true/\b1=false):=by
  rw[h4,tZ,cY,<- Bool.not_eq_true,h2];constructor
  ·rintro⟨h5,h6⟩;exact⟨⟨λx hx=>(h5 x hx).1,h6⟩,λ⟨x,hx,h⟩=>h (h5 x hx).2⟩
  ·rintro⟨⟨h5,h6⟩,h7⟩;exact⟨λx hx=>⟨h5 x hx,AD.1 λh=>h7 ⟨x,hx,h⟩⟩,h6⟩
 refine Ret.iff ?_ e.symm;cases b2 <;> cases b1 <;> exact⟨_,rfl,by simp⟩
def gk (t:List ag)(l:List aV):Prop:=∀ x∈l,∃ f∈t,f.1=x.1.1/\¬ bV x.1 f
theorem gh {t:List ag}(h:Asc (λf:ag=>f.1) t){f g:ag}(hf:f∈t)(hg:g∈t)(e:f.1=g.1):f=g:=by
 obtain⟨i,hi,rfl⟩:=AG hf;obtain⟨j,hj,rfl⟩:=AG hg;have:=nn h hi hj e;subst this;rfl
theorem sG (K:Nat)(n:aa)(hn:NB n)(hT:aA (aa.table n))(hK:1048577<K):Ret (Q173.f K (n,())) (cY (aa.cast n)/\gk (aa.table n) (aa.cast n)):=by
 refine Ret.nx (wz K _ hn.cast hK) λ_=>?_
 refine (fF (aa.cast n) (step:=λrec a=>Q173.l0.step K (n,()) rec a) (λi hi=>∃ f∈aa.table n,f.1=(aa.cast n)[i].1.1/\¬ bV (aa.cast n)[i].1 f) hn.cast ?_ ?_ hK (λ_=>Ret.yes trivial)).iff (eu.trans ?_)
 ·intro rec i hi;simp only[Q173.l0.step];rw[decide_eq_true (by omega:(i:Int)<(AA (aa.cast n):Int))];simp only[cond_true];refine Rnd.ix (ai hi) ?_;obtain⟨o,ho,h1⟩:=ew K (aa.table n) (aa.cast n)[i].1.1 hn.table hK;refine Rnd.vl h1 ?_;cases ho with
  |no h =>
   rw[show decide ((-1:Int)<0)=true from rfl];exact .inr ⟨λ⟨f,hf,e,_⟩=>h f hf e,rfl⟩
  |at_ j hj e =>
   simp only;rw[decide_eq_false (by omega:¬ ((j:Int)<0))];refine (Rnd.ix (ai hi) (Rnd.ix (ai hj) (Rnd.fx (rq K _ _) λ_=>Rnd.end_))).iff ⟨λh=>⟨_,AC hj,e,h.1⟩,λ⟨f,hf,e2,h⟩=>⟨?_,trivial⟩⟩;have:=gh hT.2 hf (AC hj) (e2.trans e.symm)
   rwa [<- this]
 ·intro rec;simp only[Q173.l0.step,bq];rfl
 ·rw[gk,dl]
theorem wC (K:Nat)(n:aa)(hn:NB n)(hT:aA (aa.table n))(hC:cY (aa.cast n))(hK:1048577<K) :
  Ret ((Q138.f K (aa.cast n,(λy5=>(Q145.f K (y5.1,n,())).map λy=>y.1.1),())).bind λy6=>some ((!y6.1.1,()),())) (gk (aa.table n) (aa.cast n)):=by
 refine (Ret.neg (pM K _ _ (λx=>¬ ∃ f∈aa.table n,f.1=x.1.1/\¬ bV x.1 f) hn.cast hK (λx hx=>Ret.fn ?_))).iff ?_
 ·simp only[Q145.f];rcases iH K (aa.table n) x.1.1 hn.table hK with ⟨h1,_⟩|⟨_,⟨f,hf,e,h1⟩|⟨h2,h1⟩⟩
  ·exact absurd hT h1
  ·refine Ret.vl h1 ?_;refine (tY K x.1 f hK).id.iff ⟨λh ⟨g,hg,e2,h3⟩=>?_,λh=>?_⟩
   ·have:=gh hT.2 hg hf (e2.trans e.symm);exact h3 (this ▸ h.2.2.2)
   ·refine⟨(hC.1 x hx).1,hT.1 f hf,e.symm,AD.1 λh3=>h ⟨f,hf,e,h3⟩⟩
  ·refine Ret.vl h1 ?_;exact Ret.yes (λ⟨f,hf,e,_⟩=>h2 f hf e)
 ·exact⟨λh x hx=>AD.1 λh2=>h ⟨x,hx,h2⟩,λh ⟨x,hx,h2⟩=>h2 (h x hx)⟩
def cS (n:aa):Prop:=((n.1,n.2.2.2.2.1,(if n.2.2.1=true then 4 else 1),n.2.2.2.1):ag)∈aa.table n
theorem yR (K:Nat)(n:aa)(hn:NB n)(hT:aA (aa.table n))(hK:1048577<K):Ret (Q171.f K (n,())) (cS n):=by
 simp only[Q171.f];obtain⟨o,ho,h1⟩:=ew K (aa.table n) n.1 hn.table hK;refine Ret.vl h1 ?_;cases ho with
 |no h =>
  rw[show decide ((-1:Int)<0)=true from rfl];exact Ret.no (λh2=>h _ h2 rfl)
 |at_ j hj e =>
  simp only;rw[decide_eq_false (by omega:¬ ((j:Int)<0))];refine Ret.vl (ai hj) ?_;have hmem:cS n<->(aa.table n)[j]=((n.1,n.2.2.2.2.1,(if n.2.2.1=true then 4 else 1),n.2.2.2.1):ag):=by
   constructor
   ·intro h;exact gh hT.2 (AC hj) h e
   ·intro h;show _∈_;rw[<- h];exact AC hj
  have hx:(aa.table n)[j]=((n.1,n.2.2.2.2.1,(if n.2.2.1=true then 4 else 1),n.2.2.2.1):ag)<->((aa.table n)[j].2.1=n.2.2.2.2.1/\(aa.table n)[j].2.2.1=(if n.2.2.1=true then 4 else 1)/\(aa.table n)[j].2.2.2=n.2.2.2.1):=by
   generalize (aa.table n)[j]=f at e ⊢;obtain⟨a,b,c,d⟩:=f;simp at e ⊢;intro _ _ _;exact e
  refine Ret.iff ?_ (hmem.trans hx).symm;cases hg:n.2.2.1 with
  |true=>exact Ret.cnd (by simp) λ_=>Ret.cnd (by simp) λ_=>Ret.of (by simp)
  |false=>exact Ret.cnd (by simp) λ_=>Ret.cnd (by simp) λ_=>Ret.of (by simp)
theorem lL (f g:ag):Ty.eqv ty_impl_Fact_D f g=decide (f=g):=by
 obtain⟨a,b,c,d⟩:=f;obtain⟨a',b',c',d'⟩:=g;show (decide (a=a')&&(decide (b=b')&&(decide (c=c')&&(d==d'))))=_;cases d <;> cases d' <;> simp[AR]
theorem yS (f g:cF):Ty.eqv ty_impl_Coord_D f g=decide (f=g):=by
 obtain⟨a,b,c,d⟩:=f;obtain⟨a',b',c',d'⟩:=g;show (decide (a=a')&&(decide (b=b')&&(decide (c=c')&&decide (d=d'))))=_;simp[AR]
theorem pf (K:Nat)(n:aa)(hn:NB n)(hK:1048577<K):Ret (Q146.f K (n,()))
  (aA (aa.table n)/\b7 (aa.table n) (aq n.1)/\cS n/\cY (aa.cast n)/\gk (aa.table n) (aa.cast n)):=by
 have rest:∀ (w:Int),aA (aa.table n)->Ret ((Q132.f K (n,())).bind λy2=>(Q136.f K (aa.table n,y2.1.1,())).bind λy3=>bif !y3.1.1 then rb false else
   ((Q141.f K (aa.cast n,())).bind λy4=>bif !y4.1.1 then rb false else
    ((Q138.f K (aa.cast n,(λy5=>(Q145.f K (y5.1,n,())).map λy=>y.1.1),())).bind λy6=>some ((!y6.1.1,()),()))))
   (b7 (aa.table n) (aq n.1)/\cY (aa.cast n)/\gk (aa.table n) (aa.cast n)):=by
  intro _ hT;exact Ret.vl (tg K n) (Ret.nx (ny K _ _ hn.table hK) λ_=>Ret.nx (wB K _ hn.cast hK) λhC=>wC K n hn hT hC hK)
 have main:∀ (w:Int),w=(if n.2.2.1=true then 4 else 1)->Ret ((Q130.f K (aa.table n,n.1,())).bind λy1=>bif !y1.1.2.1 then rb false else bif !Ty.eqv ty_impl_Fact_D y1.1.1 (n.1,(n.2.2.2.2.1,(w,n.2.2.2.1))) then rb false else
   ((Q132.f K (n,())).bind λy2=>(Q136.f K (aa.table n,y2.1.1,())).bind λy3=>bif !y3.1.1 then rb false else
   ((Q141.f K (aa.cast n,())).bind λy4=>bif !y4.1.1 then rb false else
    ((Q138.f K (aa.cast n,(λy5=>(Q145.f K (y5.1,n,())).map λy=>y.1.1),())).bind λy6=>some ((!y6.1.1,()),())))))
   (aA (aa.table n)/\b7 (aa.table n) (aq n.1)/\cS n/\cY (aa.cast n)/\gk (aa.table n) (aa.cast n)):=by
  intro w hw;rcases iH K (aa.table n) n.1 hn.table hK with ⟨h1,h2⟩|⟨hT,⟨f,hf,e,h1⟩|⟨h2,h1⟩⟩
  ·exact Ret.vl h2 (Ret.no (λh=>h1 h.1))
  ·refine Ret.vl h1 ?_;simp only[AE,cond_false];rw[lL];by_cases h3:f=(n.1,(n.2.2.2.2.1,(w,n.2.2.2.1)))
   ·rw[decide_eq_true h3];have hS:cS n:=by
     show _∈_;rw[<- hw,<- h3];exact hf
    exact (rest w hT).iff ⟨λh=>⟨hT,h.1,hS,h.2.1,h.2.2⟩,λh=>⟨h.2.1,h.2.2.2⟩⟩
   ·rw[decide_eq_false h3];refine Ret.no (λh=>h3 ?_);have:=gh hT.2 hf h.2.2.1 e;rw[this,hw]
  ·refine Ret.vl h1 (Ret.no (λh=>h2 _ h.2.2.1 rfl))
 simp only[Q146.f];cases hg:n.2.2.1 with
 |true=>exact main 4 (by rw[hg];rfl)
 |false=>exact main 1 (by rw[hg];rfl)
def cO (n:aa):Prop:=if (aa.probe n).1=-1 then aa.probe n=(-1,0,0,false) else
 (aa.probe n).1≠n.1/\(∃ f∈aa.table n,f.1=(aa.probe n).1)/\InP (aa.probe n).2.1 0 n.2.2.2.2.2.1/\InP (aa.probe n).2.2.1 1 n.2.2.2.2.2.2.1
theorem xQ (K:Nat)(n:aa)(hn:NB n)(hK:1048577<K):Ret (Q174.f K (n,())) (cO n):=by
 simp only[Q174.f,cO];by_cases h:(aa.probe n).1=-1
 ·rw[if_pos h,show ((aa.probe n).1==-1)=true by simpa using h];refine (Ret.cnd (P:=(aa.probe n).2.1=0) (by simp) λ_=>Ret.cnd (P:=(aa.probe n).2.2.1=0) (by simp) λ_=>Ret.of (P:=(aa.probe n).2.2.2=false) (by simp)).iff ?_;generalize aa.probe n=p at h ⊢;obtain⟨a,b,c,d⟩:=p;simp at h ⊢;intro _ _ _;exact h
 ·rw[if_neg h,show ((aa.probe n).1==-1)=false by simpa using h];refine Ret.cnd (by simp) λ_=>?_
  obtain⟨o,ho,h1⟩:=ew K (aa.table n) (aa.probe n).1 hn.table hK;refine Ret.vl h1 ?_;cases ho with
  |no h2=>exact Ret.no (λ⟨⟨f,hf,e⟩,_⟩=>h2 f hf e)
  |at_ j hj e =>
   simp only;rw[show decide ((j:Int)>=0)=true from decide_eq_true (by omega)];exact (Ret.px (cq K _ _ _) λ_=>(cq K _ _ _).id).iff ⟨λh3=>⟨⟨_,AC hj,e⟩,h3⟩,λh3=>h3.2⟩
theorem xR (K:Nat)(n:aa)(hn:NB n)(hT:aA (aa.table n))(hK:1048577<K):Ret (Q147.f K (n,())) (cO n):=by
 simp only[Q147.f,cO];by_cases h:(aa.probe n).1=-1
 ·rw[if_pos h,show ((aa.probe n).1==-1)=true by simpa using h,lL];exact Ret.dec
 ·rw[if_neg h,show ((aa.probe n).1==-1)=false by simpa using h];rcases iH K (aa.table n) (aa.probe n).1 hn.table hK with ⟨h1,_⟩|⟨_,⟨f,hf,e,h1⟩|⟨h2,h1⟩⟩
  ·exact absurd hT h1
  ·refine Ret.vl h1 ?_;exact (Ret.cnd (P:=(aa.probe n).1≠n.1) (by simp) λ_=>Ret.px (eZ K _ _ _) λ_=>(eZ K _ _ _).id).iff ⟨λh3=>⟨h3.1,⟨f,hf,e⟩,h3.2⟩,λh3=>⟨h3.1,h3.2.2⟩⟩
  ·exact Ret.vl h1 (Ret.no (λ⟨_,⟨f,hf,e⟩,_⟩=>h2 f hf e))
def cr (c:cF):Prop:=InP c.1 (-100000) 100000/\InP c.2.1 (-100000) 100000/\InP c.2.2.1 0 100000/\InP c.2.2.2 1 1500
theorem fk (K:Nat)(c:cF):Ret (Q15.f K (c,())) (cr c) :=
 Ret.px (cq K _ _ _) λ_=>Ret.px (cq K _ _ _) λ_=>Ret.px (cq K _ _ _) λ_=>(cq K _ _ _).id
theorem kA (K:Nat)(c:cF):Ret (Q150.f K (c,())) (cr c) :=
 Ret.px (eZ K _ _ _) λ_=>Ret.px (eZ K _ _ _) λ_=>Ret.px (eZ K _ _ _) λ_=>(eZ K _ _ _).id
def yT (me:Int)(p:bf):Prop:=InP p.1 0 7/\aq p.1=aq me/\p.1≠me/\cr p.2.1/\InP (p.2.2.length:Int) 1 3/\∀ t∈p.2.2,InP t 1 60000
def dT (me:Int)(l:List bf):Prop:=(∀ p∈l,yT me p)/\Asc (λp:bf=>p.1) l
theorem vf (K:Nat)(n:aa)(x:Int):Ret (Q148.f K (n,x,())) (InP x 0 7/\aq x=aq n.1):=by
 refine Ret.px (nq K x) λ_=>?_
 exact Ret.of (b:=aq x==aq n.1) (by simp)
theorem xS (K:Nat)(n:aa)(x:Int):Ret (Q152.f K (n,x,())) ((InP x 0 7/\aq x=aq n.1)/\x≠n.1):=by
 refine Ret.px (vf K n x) λ_=>?_
 exact Ret.of (b:=x != n.1) (by simp)
theorem wD (K:Nat)(n:aa)(hn:NB n)(hK:1048577<K):Ret (Q176.f K (n,())) (dT n.1 (aa.places n)):=by
 refine (fF (aa.places n) (step:=λrec a=>Q176.l0.step K (n,()) (Q176.l1 K (n,()) rec) rec a)
  (λi hi=>InP (aa.places n)[i].1 0 7/\¬ aq (aa.places n)[i].1≠aq n.1/\¬ (aa.places n)[i].1=n.1/\(0<i->¬ ((aa.places n)[i-1]'(by omega)).1>=(aa.places n)[i].1) /\
   cr (aa.places n)[i].2.1/\InP ((aa.places n)[i].2.2.length:Int) 1 3/\∀ k (hk:k<(aa.places n)[i].2.2.length),InP (aa.places n)[i].2.2[k] 1 60000/\True) hn.places ?_ ?_ hK (λ_=>Ret.yes trivial)).iff (eu.trans ?_)
 ·intro rec i hi;have hb:=hn.trips _ (AC hi);have hl:=hn.places;have inner:Rnd (Q176.l1 K (n,()) rec ((i:Int),0,(aa.places n)[i].1,(aa.places n)[i].2.1.1,(aa.places n)[i].2.1.2.1,(aa.places n)[i].2.1.2.2.1,(aa.places n)[i].2.1.2.2.2,(aa.places n)[i].2.2))
    (∀ k (hk:k<(aa.places n)[i].2.2.length),InP (aa.places n)[i].2.2[k] 1 60000/\True) (rec (wr .i64 ((i:Int)+1))):=by
   generalize (aa.places n)[i]=p at hb;refine nm p.2.2 (step:=λrec1 a=>Q176.l1.step K (n,()) rec rec1 a) (λk=>((i:Int),(k:Int),p.1,p.2.1.1,p.2.1.2.1,p.2.1.2.2.1,p.2.1.2.2.2,p.2.2)) (λk hk=>InP p.2.2[k] 1 60000/\True) hb ?_ ?_ hK
   ·intro rec1 k hk;simp only[Q176.l1.step];rw[decide_eq_true (by omega:(k:Int)<(AA p.2.2:Int)),av k (by omega)];simp only[cond_true];exact Rnd.ix (ai hk) (Rnd.nx (cq K _ _ _) λ_=>Rnd.end_)
   ·intro rec1;simp only[Q176.l1.step,bq];rfl
  simp only[Q176.l0.step];rw[decide_eq_true (by omega:(i:Int)<(AA (aa.places n):Int))];simp only[cond_true];refine Rnd.ix (ai hi) (Rnd.nx (cq K _ _ _) λ_=>Rnd.vl (dE K _) (Rnd.vl (dE K _) (Rnd.cndN (by simp) λ_=>Rnd.cndN (by simp) λ_=>Rnd.two (λh0=>?_) ?_)))
  ·rw[dS i h0 (by omega)];exact Rnd.ix (ai (show i-1<(aa.places n).length by omega)) (Rnd.cndN (by simp) λ_=>Rnd.nx (fk K _) λ_=>Rnd.nx (cq K _ _ _) λ_=>inner)
  ·exact Rnd.nx (fk K _) λ_=>Rnd.nx (cq K _ _ _) λ_=>inner
 ·intro rec;simp only[Q176.l0.step,bq];rfl
 ·rw[dT,dl,fV];constructor
  ·intro h;refine⟨λi hi=>?_,λi hi h0=>?_⟩
   ·obtain⟨h1,h2,h3,h4,h5,h6,h7⟩:=h i hi;exact⟨h1,AD.1 h2,h3,h5,h6,dl.2 λk hk=>(h7 k hk).1⟩
   ·have:=(h i hi).2.2.2.1 h0;omega
  ·rintro⟨h1,h2⟩ i hi;obtain⟨h3,h4,h5,h6,h7,h8⟩:=h1 i hi;exact⟨h3,AD.2 h4,h5,λh0=>by have:=h2 i hi h0;omega,h6,h7,λk hk=>⟨dl.1 h8 k hk,trivial⟩⟩
theorem wE (K:Nat)(n:aa)(hn:NB n)(hK:1048577<K):Ret (Q155.f K (n,())) (dT n.1 (aa.places n)):=by
 refine (fF (aa.places n) (step:=λrec a=>Q155.l0.step K (n,()) rec a)
  (λi hi=>((InP (aa.places n)[i].1 0 7/\aq (aa.places n)[i].1=aq n.1)/\(aa.places n)[i].1≠n.1)/\(0<i->¬ (aa.places n)[i].1<=((aa.places n)[i-1]'(by omega)).1) /\
   cr (aa.places n)[i].2.1/\InP ((aa.places n)[i].2.2.length:Int) 1 3/\(¬ ∃ t∈(aa.places n)[i].2.2,¬ InP t 1 60000)/\True) hn.places ?_ ?_ hK (λ_=>Ret.yes trivial)).iff (eu.trans ?_)
 ·intro rec i hi;have hb:=hn.trips _ (AC hi);have hl:=hn.places;have inner:Ret (Q154.f K ((aa.places n)[i].2.2,(λy6=>(Q151.f K (y6.1,())).map λy=>y.1.1),())) (∃ t∈(aa.places n)[i].2.2,¬ InP t 1 60000) :=
   wy K _ _ _ hb hK (λt _=>Ret.fn (eZ K t _ _).neg)
  simp only[Q155.l0.step];rw[decide_eq_true (by omega:(i:Int)<(AA (aa.places n):Int))];simp only[cond_true];refine Rnd.ix (ai hi) (Rnd.nx (xS K n _) λ_=>Rnd.two (λh0=>?_) ?_)
  ·rw[dS i h0 (by omega)];exact Rnd.ix (ai (show i-1<(aa.places n).length by omega)) (Rnd.cndN (by simp) λ_=>Rnd.nx (kA K _) λ_=>Rnd.nx (eZ K _ _ _) λ_=>Rnd.fx inner λ_=>Rnd.end_)
  ·exact Rnd.nx (kA K _) λ_=>Rnd.nx (eZ K _ _ _) λ_=>Rnd.fx inner λ_=>Rnd.end_
 ·intro rec;simp only[Q155.l0.step,bq];rfl
 ·rw[dT,dl,fV];constructor
  ·intro h;refine⟨λi hi=>?_,λi hi h0=>?_⟩
   ·obtain⟨⟨⟨h1,h2⟩,h3⟩,h4,h5,h6,h7,_⟩:=h i hi;exact⟨h1,h2,h3,h5,h6,λt ht=>AD.1 λh8=>h7 ⟨t,ht,h8⟩⟩
   ·have:=(h i hi).2.1 h0;omega
  ·rintro⟨h1,h2⟩ i hi;obtain⟨h3,h4,h5,h6,h7,h8⟩:=h1 i hi;exact⟨⟨⟨h3,h4⟩,h5⟩,λh0=>by have:=h2 i hi h0;omega,h6,h7,λ⟨t,ht,h9⟩=>h9 (h8 t ht),trivial⟩
def yU (me:Int)(x:cD):Prop:=InP x.1 0 1/\x.1≠aq me/\x.2≠[]/\aA x.2/\b7 x.2 x.1
def cP (me:Int)(l:List cD):Prop:=(∀ x∈l,yU me x)/\Asc (λx:cD=>x.1) l
theorem nA {α:Type}(l:List α):((AA l:Int)==0)=true<->l=[]:=by
 cases l <;> simp;omega
theorem wF (K:Nat)(n:aa)(hn:NB n)(hK:1048577<K):Ret (Q177.f K (n,())) (cP n.1 (aa.others n)):=by
 refine (fF (aa.others n) (step:=λrec a=>Q177.l0.step K (n,()) rec a)
  (λi hi=>InP (aa.others n)[i].1 0 1/\¬ (aa.others n)[i].1=aq n.1/\(0<i->¬ ((aa.others n)[i-1]'(by omega)).1>=(aa.others n)[i].1) /\
   ¬ (aa.others n)[i].2=[]/\aA (aa.others n)[i].2/\b7 (aa.others n)[i].2 (aa.others n)[i].1/\True) hn.others ?_ ?_ hK (λ_=>Ret.yes trivial)).iff (eu.trans ?_)
 ·intro rec i hi;have hb:=hn.facts _ (AC hi);have hl:=hn.others;simp only[Q177.l0.step];rw[decide_eq_true (by omega:(i:Int)<(AA (aa.others n):Int))];simp only[cond_true];refine Rnd.ix (ai hi) (Rnd.nx (cq K _ _ _) λ_=>Rnd.vl (dE K _) (Rnd.cndN (by simp) λ_=>Rnd.two (λh0=>?_) ?_))
  ·rw[dS i h0 (by omega)];exact Rnd.ix (ai (show i-1<(aa.others n).length by omega)) (Rnd.cndN (by simp) λ_=>Rnd.cndN (nA _) λ_=>Rnd.nx (fG K _ hb hK) λ_=>Rnd.nx (fH K _ _ hb hK) λ_=>Rnd.end_)
  ·exact Rnd.cndN (nA _) λ_=>Rnd.nx (fG K _ hb hK) λ_=>Rnd.nx (fH K _ _ hb hK) λ_=>Rnd.end_
 ·intro rec;simp only[Q177.l0.step,bq];rfl
 ·rw[cP,dl,fV];constructor
  ·intro h;exact⟨λi hi=>⟨(h i hi).1,(h i hi).2.1,(h i hi).2.2.2.1,(h i hi).2.2.2.2.1,(h i hi).2.2.2.2.2.1⟩,λi hi h0=>by have:=(h i hi).2.2.1 h0;omega⟩
  ·rintro⟨h1,h2⟩ i hi;obtain⟨h3,h4,h5,h6,h7⟩:=h1 i hi;exact⟨h3,h4,λh0=>by have:=h2 i hi h0;omega,h5,h6,h7,trivial⟩
theorem wG (K:Nat)(n:aa)(hn:NB n)(hK:1048577<K):Ret (Q156.f K (n,())) (cP n.1 (aa.others n)):=by
 refine (fF (aa.others n) (step:=λrec a=>Q156.l0.step K (n,()) rec a)
  (λi hi=>InP (aa.others n)[i].1 0 1/\¬ (aa.others n)[i].1=aq n.1/\(0<i->¬ (aa.others n)[i].1<=((aa.others n)[i-1]'(by omega)).1) /\
   ¬ (aa.others n)[i].2=[]/\aA (aa.others n)[i].2/\b7 (aa.others n)[i].2 (aa.others n)[i].1/\True) hn.others ?_ ?_ hK (λ_=>Ret.yes trivial)).iff (eu.trans ?_)
 ·intro rec i hi;have hb:=hn.facts _ (AC hi);have hl:=hn.others;have h7:aq 7=1:=by unfold aq;rw[aL (by decide) (by decide)];decide
  have hin:=eZ K (aa.others n)[i].1 0 (aq 7);rw[h7]at hin;simp only[Q156.l0.step];rw[decide_eq_true (by omega:(i:Int)<(AA (aa.others n):Int))];simp only[cond_true];refine Rnd.ix (ai hi) (Rnd.vl (yP K 7) ?_);dsimp only;rw[h7];refine Rnd.nx hin λ_=>Rnd.vl (tg K n) (Rnd.cndN (by simp) λ_=>Rnd.two (λh0=>?_) ?_)
  ·rw[dS i h0 (by omega)];exact Rnd.ix (ai (show i-1<(aa.others n).length by omega)) (Rnd.cndN (by simp) λ_=>Rnd.cndN (nA _) λ_=>Rnd.nx (jN K _ hb hK) λ_=>Rnd.nx (ny K _ _ hb hK) λ_=>Rnd.end_)
  ·exact Rnd.cndN (nA _) λ_=>Rnd.nx (jN K _ hb hK) λ_=>Rnd.nx (ny K _ _ hb hK) λ_=>Rnd.end_
 ·intro rec;simp only[Q156.l0.step,bq];rfl
 ·rw[cP,dl,fV];constructor
  ·intro h;exact⟨λi hi=>⟨(h i hi).1,(h i hi).2.1,(h i hi).2.2.2.1,(h i hi).2.2.2.2.1,(h i hi).2.2.2.2.2.1⟩,λi hi h0=>by have:=(h i hi).2.2.1 h0;omega⟩
  ·rintro⟨h1,h2⟩ i hi;obtain⟨h3,h4,h5,h6,h7⟩:=h1 i hi;exact⟨h3,h4,λh0=>by have:=h2 i hi h0;omega,h5,h6,h7,trivial⟩
def ByP (me:Int)(l:List Int):Prop:=(∀ b∈l,InP b 0 7/\aq b=aq me)/\Asc (λb:Int=>b) l
def kB (n:aa)(d:ce):Prop:=(∃ f∈aa.table n,f.1=d.1/\f.2.2.1=2/\f.2.1=d.2.1)/\InP d.2.2.1 0 n.2.2.2.2.2.1/\d.2.2.2≠[]/\ByP n.1 d.2.2.2
def aS (t:List ag):List ag:=t.filter λf=>f.2.2.1==2
def gO (n:aa):Prop:=(∀ d∈aa.doubts n,kB n d)/\Asc (λd:ce=>d.1) (aa.doubts n)/\(aS (aa.table n)).length=(aa.doubts n).length
theorem vg {me:Int}{l:List Int}:ByP me l<->∀ k (hk:k<l.length),(InP l[k] 0 7/\aq l[k]=aq me)/\(0<k->¬ l[k-1]'(by omega)>=l[k]):=by
 rw[ByP,dl,fV];constructor
 ·rintro⟨h1,h2⟩ k hk;exact⟨h1 k hk,λh0=>by have:=h2 k hk h0;omega⟩
 ·intro h;exact⟨λk hk=>(h k hk).1,λk hk h0=>by have:=(h k hk).2 h0;omega⟩
theorem xT (K:Nat)(n:aa)(hn:NB n)(hK:1048577<K):Q175.l2 K (n,()) (0,0)=rb (decide ((aS (aa.table n)).length=(aa.doubts n).length)):=by
 have hl:=hn.table;have key:∀ (d k i c:Nat),i+d=(aa.table n).length->d<k->c<=i ->
   ae (λrec a=>Q175.l2.step K (n,()) rec a) k ((c:Int),(i:Int))=rb (decide (c+(aS ((aa.table n).drop i)).length=(aa.doubts n).length)):=by
  intro d;induction d with
  |zero =>
   intro k i c hi hk hc;obtain⟨k,rfl⟩:∃ k',k=k'+1:=⟨k-1,by omega⟩;show Q175.l2.step K (n,()) _ _=_;simp only[Q175.l2.step];rw[decide_eq_false (show ¬ ((i:Int)<(AA (aa.table n):Int)) by omega),AN (by omega)];simp only[cond_false,aS,List.filter_nil,List.length_nil,Nat.add_zero];have e:((c:Int)==(AA (aa.doubts n):Int))=decide (c=(aa.doubts n).length):=by
    by_cases h:c=(aa.doubts n).length
    ·rw[decide_eq_true h,h];simp
    ·rw[decide_eq_false h,beq_eq_false_iff_ne];omega
   exact congrArg rb e
  |succ d ih =>
   intro k i c hi hk hc;obtain⟨k,rfl⟩:∃ k',k=k'+1:=⟨k-1,by omega⟩;have hi':i<(aa.table n).length:=by omega
   show Q175.l2.step K (n,()) _ _=_;simp only[Q175.l2.step];rw[decide_eq_true (show ((i:Int)<(AA (aa.table n):Int)) by omega),ai hi',av i (by omega),av c (by omega),AK hi'];simp only[cond_true,AB];cases hb:((aa.table n)[i].2.2.1==2) with
   |true =>
    have:=ih k (i+1) (c+1) (by omega) (by omega) (by omega);simp only[cond_true];have e:c+1+(aS ((aa.table n).drop (i+1))).length=c+(aS ((aa.table n)[i]::(aa.table n).drop (i+1))).length:=by
     simp only[aS,AM,hb,if_true,List.length_cons];omega
    rw[<- e];exact this
   |false =>
    have:=ih k (i+1) c (by omega) (by omega) (by omega);simp only[cond_false];have e:aS ((aa.table n)[i]::(aa.table n).drop (i+1))=aS ((aa.table n).drop (i+1)):=by
     simp only[aS,AM,hb,AH,if_false]
    rw[e];exact this
 have:=key (aa.table n).length K 0 0 (by omega) (by omega) (AU _);rw[AW,Nat.zero_add]at this;exact this
theorem wH (K:Nat)(n:aa)(hn:NB n)(hT:aA (aa.table n))(hK:1048577<K):Ret (Q175.f K (n,())) (gO n):=by
 refine (fF (aa.doubts n) (step:=λrec a=>Q175.l0.step K (n,()) (Q175.l1 K (n,()) rec) (Q175.l2 K (n,())) rec a)
  (λi hi=>(0<i->¬ ((aa.doubts n)[i-1]'(by omega)).1>=(aa.doubts n)[i].1)/\kB n (aa.doubts n)[i]) (Q:=(aS (aa.table n)).length=(aa.doubts n).length) (rt:=Q175.l2 K (n,()) (0,0)) hn.doubts ?_ ?_ hK (λ_=>by rw[xT K n hn hK];exact Ret.dec)).iff ?_
 ·intro rec i hi;have hb:=hn.by_ _ (AC hi);have hl:=hn.doubts;have inner:Rnd (Q175.l1 K (n,()) rec ((i:Int),0,(aa.doubts n)[i].1,(aa.doubts n)[i].2.1,(aa.doubts n)[i].2.2.1,(aa.doubts n)[i].2.2.2)) (ByP n.1 (aa.doubts n)[i].2.2.2) (rec (wr .i64 ((i:Int)+1))):=by
   generalize (aa.doubts n)[i]=d at hb;refine (nm d.2.2.2 (step:=λrec1 a=>Q175.l1.step K (n,()) rec rec1 a) (λk=>((i:Int),(k:Int),d.1,d.2.1,d.2.2.1,d.2.2.2))
    (λk hk=>InP d.2.2.2[k] 0 7/\¬ aq d.2.2.2[k]≠aq n.1/\(0<k->¬ d.2.2.2[k-1]'(by omega)>=d.2.2.2[k])/\True) hb ?_ ?_ hK).iff ?_
   ·intro rec1 k hk;simp only[Q175.l1.step];rw[decide_eq_true (by omega:(k:Int)<(AA d.2.2.2:Int)),av k (by omega)];simp only[cond_true];refine Rnd.ix (ai hk) (Rnd.nx (cq K _ _ _) λ_=>Rnd.ix (ai hk) (Rnd.vl (dE K _) (Rnd.vl (dE K _) (Rnd.cndN (by simp) λ_=>Rnd.two (λh0=>?_) Rnd.end_))));rw[dS k h0 (by omega)];exact Rnd.ix (ai (show k-1<d.2.2.2.length by omega)) (Rnd.ix (ai hk) (Rnd.cndN (by simp) λ_=>Rnd.end_))
   ·intro rec1;simp only[Q175.l1.step,bq];rfl
   ·rw[vg];constructor
    ·intro h k hk;exact⟨⟨(h k hk).1,AD.1 (h k hk).2.1⟩,(h k hk).2.2.1⟩
    ·intro h k hk;exact⟨(h k hk).1.1,AD.2 (h k hk).1.2,(h k hk).2,trivial⟩
  obtain⟨o,ho,hf⟩:=ew K (aa.table n) (aa.doubts n)[i].1 hn.table hK;simp only[Q175.l0.step];rw[decide_eq_true (show ((i:Int)<(AA (aa.doubts n):Int)) by omega)];simp only[cond_true];refine Rnd.ix (ai hi) (Rnd.vl hf ?_);cases ho with
  |no h =>
   have hno:¬ kB n (aa.doubts n)[i]:=λ⟨⟨f,hf,e,_⟩,_⟩=>h f hf e
   refine Rnd.two (λh0=>?_) ?_
   ·rw[dS i h0 (by omega)];refine Rnd.ix (ai (show i-1<(aa.doubts n).length by omega)) (Rnd.cndN (by simp) λ_=>?_);exact .inr ⟨hno,rfl⟩
   ·exact .inr ⟨hno,rfl⟩
  |at_ j hj e =>
   have hdec:decide ((j:Int)<0)=false:=decide_eq_false (by omega);have hiff:kB n (aa.doubts n)[i]<->(¬ (aa.table n)[j].2.2.1≠2/\¬ (aa.table n)[j].2.1≠(aa.doubts n)[i].2.1/\InP (aa.doubts n)[i].2.2.1 0 n.2.2.2.2.2.1/\¬ (aa.doubts n)[i].2.2.2=[]/\ByP n.1 (aa.doubts n)[i].2.2.2):=by
    constructor
    ·rintro⟨⟨f,hf,e1,e2,e3⟩,h2,h3,h4⟩;have:=gh hT.2 hf (AC hj) (e1.trans e.symm);subst this;exact⟨AD.2 e2,AD.2 e3,h2,h3,h4⟩
    ·rintro⟨e2,e3,h2,h3,h4⟩;exact⟨⟨_,AC hj,e,AD.1 e2,AD.1 e3⟩,h2,h3,h4⟩
   refine Rnd.two (λh0=>?_) ?_
   ·rw[dS i h0 (by omega)];refine Rnd.ix (ai (show i-1<(aa.doubts n).length by omega)) (Rnd.cndN (by simp) λ_=>?_);simp only[hdec,cond_false];refine Rnd.iff ?_ hiff.symm;exact Rnd.ix (ai hj) (Rnd.cndN (by simp) λ_=>Rnd.ix (ai hj) (Rnd.cndN (by simp) λ_=>Rnd.nx (cq K _ _ _) λ_=>Rnd.cndN (nA _) λ_=>inner))
   ·simp only[hdec,cond_false];refine Rnd.iff ?_ hiff.symm;exact Rnd.ix (ai hj) (Rnd.cndN (by simp) λ_=>Rnd.ix (ai hj) (Rnd.cndN (by simp) λ_=>Rnd.nx (cq K _ _ _) λ_=>Rnd.cndN (nA _) λ_=>inner))
 ·intro rec;simp only[Q175.l0.step,bq];rfl
 ·rw[gO,dl,fV];constructor
  ·rintro⟨h1,h2⟩;exact⟨λi hi=>(h1 i hi).2,λi hi h0=>by have:=(h1 i hi).1 h0;omega,h2⟩
  ·rintro⟨h1,h2,h3⟩;exact⟨λi hi=>⟨λh0=>by have:=h2 i hi h0;omega,h1 i hi⟩,h3⟩
theorem xU (K:Nat)(n:aa)(hn:NB n)(S:List ag)(hS:S.length=(aa.doubts n).length)(hK:1048577<K):Ret (Q149.l1 K (n,()) (S,0))
  (∀ i (hi:i<(aa.doubts n).length),(aa.doubts n)[i].1=(S[i]'(by omega)).1/\(aa.doubts n)[i].2.1=(S[i]'(by omega)).2.1/\InP (aa.doubts n)[i].2.2.1 0 n.2.2.2.2.2.1/\(aa.doubts n)[i].2.2.2≠[]/\ByP n.1 (aa.doubts n)[i].2.2.2):=by
 have hl:=hn.doubts;have main:=kX (step:=λrec a=>Q149.l1.step K (n,()) (Q149.l2 K (n,()) rec) rec a) (aa.doubts n).length (λi=>(S,(i:Int)))
  (λi=>∀ hi:i<(aa.doubts n).length,¬ (aa.doubts n)[i].1≠(S[i]'(by omega)).1/\¬ (aa.doubts n)[i].2.1≠(S[i]'(by omega)).2.1/\InP (aa.doubts n)[i].2.2.1 0 n.2.2.2.2.2.1/\¬ (aa.doubts n)[i].2.2.2=[]/\ByP n.1 (aa.doubts n)[i].2.2.2)
  (rb true) (rb false) ?_ ?_ (aa.doubts n).length K 0 (by omega) (by omega)
 ·rcases main with ⟨h1,h2⟩|⟨h1,h2⟩
  ·refine⟨true,h2,iff_of_true rfl λi hi=>?_⟩;obtain⟨h3,h4,h5⟩:=h1 i (AI _) hi hi;exact⟨AD.1 h3,AD.1 h4,h5⟩
  ·refine⟨false,h2,iff_of_false (by simp) λh=>h1 λi _ hi _=>?_⟩;obtain⟨h3,h4,h5⟩:=h i hi;exact⟨AD.2 h3,AD.2 h4,h5⟩
 ·intro rec i hi;have hb:=hn.by_ _ (AC hi);have inner:Rnd (Q149.l2 K (n,()) rec (S,(i:Int),(aa.doubts n)[i].2.2.2,(AA (aa.doubts n)[i].2.2.2:Int),0,(aa.doubts n)[i].1,(aa.doubts n)[i].2.1,(aa.doubts n)[i].2.2.1,(aa.doubts n)[i].2.2.2)) (ByP n.1 (aa.doubts n)[i].2.2.2) (rec (S,wr .i64 ((i:Int)+1))):=by
   generalize (aa.doubts n)[i]=d at hb;refine (nm d.2.2.2 (step:=λrec1 a=>Q149.l2.step K (n,()) rec rec1 a) (λk=>(S,(i:Int),d.2.2.2,(AA d.2.2.2:Int),(k:Int),d.1,d.2.1,d.2.2.1,d.2.2.2))
    (λk hk=>(InP d.2.2.2[k] 0 7/\aq d.2.2.2[k]=aq n.1)/\(0<k->¬ d.2.2.2[k]<=d.2.2.2[k-1]'(by omega))/\True) hb ?_ ?_ hK).iff ?_
   ·intro rec1 k hk;simp only[Q149.l2.step];rw[decide_eq_true (by omega:(k:Int)<(AA d.2.2.2:Int)),av k (by omega)];simp only[cond_true];refine Rnd.ix (ai hk) (Rnd.nx (vf K n _) λ_=>Rnd.two (λh0=>?_) Rnd.end_);rw[dS k h0 (by omega)];exact Rnd.ix (ai (show k-1<d.2.2.2.length by omega)) (Rnd.cndN (by simp) λ_=>Rnd.end_)
   ·intro rec1;simp only[Q149.l2.step,bq];rfl
   ·rw[vg];constructor
    ·intro h k hk;exact⟨(h k hk).1,(h k hk).2.1⟩
    ·intro h k hk;exact⟨(h k hk).1,(h k hk).2,trivial⟩
  have hSi:i<S.length:=by omega
  have hr:Rnd (Q149.l1.step K (n,()) (Q149.l2 K (n,()) rec) rec (S,(i:Int)))
    (¬ (aa.doubts n)[i].1≠S[i].1/\¬ (aa.doubts n)[i].2.1≠S[i].2.1/\InP (aa.doubts n)[i].2.2.1 0 n.2.2.2.2.2.1/\¬ (aa.doubts n)[i].2.2.2=[]/\ByP n.1 (aa.doubts n)[i].2.2.2) (rec (S,((i+1:Nat):Int))):=by
   rw[<- av i (by omega)];simp only[Q149.l1.step];rw[decide_eq_true (show ((i:Int)<(AA (aa.doubts n):Int)) by omega),Int.toNat_natCast];simp only[cond_true];exact Rnd.ix (ai hi) (Rnd.ix (ai hSi) (Rnd.ix (ai hSi) (Rnd.cndN (by simp) λ_=>Rnd.ix (ai hSi) (Rnd.ix (ai hSi) (Rnd.cndN (by simp) λ_=>Rnd.nx (eZ K _ _ _) λ_=>Rnd.cndN (nA _) λ_=>inner)))))
  exact hr.imp (λh=>⟨λ_=>h.1,h.2⟩) (λh=>⟨λh2=>h.1 (h2 hi),h.2⟩)
 ·intro rec;simp only[Q149.l1.step,bq];rfl
theorem wI (K:Nat)(n:aa)(hn:NB n)(hT:aA (aa.table n))(hK:1048577<K):Ret (Q149.f K (n,())) (gO n):=by
 have hl:=hn.table;have hld:=hn.doubts;have key:∀ (d k i:Nat),i+d=(aa.table n).length->d<k->ae (λrec a=>Q149.l0.step K (n,()) (Q149.l1 K (n,())) rec a) k (aS ((aa.table n).take i),(i:Int)) =
   (bif (AA (aa.doubts n):Int) != (AA (aS (aa.table n)):Int) then rb false else Q149.l1 K (n,()) (aS (aa.table n),0)):=by
  intro d;induction d with
  |zero =>
   intro k i hi hk;obtain⟨k,rfl⟩:∃ k',k=k'+1:=⟨k-1,by omega⟩;show Q149.l0.step K (n,()) _ _ _=_;simp only[Q149.l0.step];rw[decide_eq_false (show ¬ ((i:Int)<(AA (aa.table n):Int)) by omega),AO (by omega)];rfl
  |succ d ih =>
   intro k i hi hk;obtain⟨k,rfl⟩:∃ k',k=k'+1:=⟨k-1,by omega⟩;have ih:=ih k (i+1) (by omega) (by omega);have hi':i<(aa.table n).length:=by omega
   show Q149.l0.step K (n,()) _ _ _=_;simp only[Q149.l0.step];rw[decide_eq_true (show ((i:Int)<(AA (aa.table n):Int)) by omega),ai hi',av i (by omega)];simp only[cond_true,AB];have e:aS ((aa.table n).take (i+1))=aS ((aa.table n).take i)++(if (aa.table n)[i].2.2.1==2 then [(aa.table n)[i]] else []):=by
    rw[aS,AS,AF hi',List.filter_append];simp[aS,AM]
   cases hb:((aa.table n)[i].2.2.1==2) with
   |true =>
    rw[hb]at e;simp only[if_true]at e;simp only[cond_true];have hle:(aS ((aa.table n).take i)).length<=i:=Nat.le_trans (List.length_filter_le _ _) (by simp;omega);have hs:decide ((AA (aS ((aa.table n).take i))+AA [(aa.table n)[i]])*32<=ah)=true:=decide_eq_true (by simp only[ah,AP];omega);rw[hs];rw[e]at ih;exact ih
   |false =>
    rw[hb]at e;simp only[AH,if_false,List.append_nil]at e;rw[e]at ih;exact ih
 have h0:Q149.f K (n,())=_:=key (aa.table n).length K 0 (by omega) (by omega);rw[h0];have hsub:∀ f∈aS (aa.table n),f∈aa.table n/\f.2.2.1=2:=λf hf=>by
  rw[aS,AV]at hf;exact⟨hf.1,by simpa using hf.2⟩
 have hasc:Asc (λf:ag=>f.1) (aS (aa.table n)):=List.Pairwise.filter _ hT.2;by_cases hlen:(aS (aa.table n)).length=(aa.doubts n).length
 ·have:((AA (aa.doubts n):Int) != (AA (aS (aa.table n)):Int))=false:=by simp[hlen]
  rw[this];refine (xU K n hn _ hlen hK).iff ⟨λh=>⟨?_,?_,hlen⟩,λ⟨h1,h2,_⟩ i hi=>?_⟩
  ·rw[dl];intro i hi;obtain⟨h3,h4,h5,h6,h7⟩:=h i hi;obtain⟨h8,h9⟩:=hsub _ (AC (show i<(aS (aa.table n)).length by omega));exact⟨⟨_,h8,h3.symm,h9,h4.symm⟩,h5,h6,h7⟩
  ·rw[ek]at hasc ⊢;intro i j hi hj hij;have:=hasc i j (by omega) (by omega) hij;rw[(h i hi).1,(h j hj).1];exact this
  ·have hAB:=il ((aa.doubts n).map (·.1)) ((aS (aa.table n)).map (·.1)) (by rw[AL];exact h2) (by rw[AL];exact hasc) (by
    intro x hx;obtain⟨d,hd,rfl⟩:=AX.1 hx;obtain⟨⟨f,hf,e1,e2,_⟩,_⟩:=h1 d hd;exact AX.2 ⟨f,by rw[aS,AV];exact⟨hf,by simpa using e2⟩,e1⟩)
   have hAB:=hAB.2 (by simp[hlen]);have hSi:i<(aS (aa.table n)).length:=by omega
   have e:(aa.doubts n)[i].1=(aS (aa.table n))[i].1:=by
    have h3:((aa.doubts n).map (·.1))[i]?=((aS (aa.table n)).map (·.1))[i]?:=by rw[hAB]
    rw[AT,AT,AF hi,AF hSi]at h3;simpa using h3
   obtain⟨⟨f,hf,e1,e2,e3⟩,h4,h5,h6⟩:=h1 _ (AC hi);have:=gh hT.2 hf (hsub _ (AC hSi)).1 (e1.trans e);subst this;exact⟨e,e3.symm,h4,h5,h6⟩
 ·have:((AA (aa.doubts n):Int) != (AA (aS (aa.table n)):Int))=true:=by simp;omega
  rw[this];exact Ret.no (λh=>hlen h.2.2)
def qM (n:aa):Prop:=n.2.2.1=false/\n.2.2.2.2.1=0/\n.2.2.2.2.2.1=0/\n.2.2.2.2.2.2.1=0/\n.2.2.2.2.2.2.2.1=0 /\
 wr .i64 (wr .i64 (wr .i64 (wr .i64 ((AA (aa.table n):Int)+(AA (aa.cast n):Int))+(AA (aa.doubts n):Int))+(AA (aa.places n):Int))+(AA (aa.others n):Int))=0 /\
 aa.probe n=(0,0,0,false)/\aa.coord n=(0,0,0,0)
def UpP (n:aa):Prop:=aA (aa.table n)/\b7 (aa.table n) (aq n.1)/\cS n/\(cY (aa.cast n)/\gk (aa.table n) (aa.cast n))/\cO n/\gO n/\cr (aa.coord n)/\dT n.1 (aa.places n)/\cP n.1 (aa.others n)
def e8 (n:aa):Prop:=InP n.1 0 7/\InP n.2.2.2.2.2.1 0 999999/\InP n.2.2.2.2.2.2.1 0 999999/\InP n.2.2.2.2.2.2.2.1 0 8/\InP n.2.2.2.2.1 0 999/\(if n.2.1=true then UpP n else qM n)
theorem wJ (K:Nat)(n:aa)(hn:NB n)(hK:1048577<K):Ret (Q178.f K (n,())) (e8 n):=by
 refine Ret.nx (cq K _ _ _) λ_=>Ret.nx (cq K _ _ _) λ_=>Ret.nx (cq K _ _ _) λ_=>Ret.nx (cq K _ _ _) λ_=>Ret.nx (cq K _ _ _) λ_=>?_
 dsimp only;cases hu:n.2.1 with
 |false =>
  simp only[AQ,cond_true,AH,if_false,qM];refine Ret.cnd (by simp) λ_=>Ret.cnd (by simp) λ_=>Ret.cnd (by simp) λ_=>Ret.cnd (by simp) λ_=>Ret.cnd (by simp) λ_=>Ret.cnd (by simp) λ_=>?_
  refine Ret.iff (Ret.cnd (P:=(aa.probe n).1=0) (by simp) λ_=>Ret.cnd (P:=(aa.probe n).2.1=0) (by simp) λ_=>Ret.cnd (P:=(aa.probe n).2.2.1=0) (by simp) λ_=>Ret.cnd (P:=(aa.probe n).2.2.2=false) (by simp) λ_ =>
   Ret.cnd (P:=(aa.coord n).1=0) (by simp) λ_=>Ret.cnd (P:=(aa.coord n).2.1=0) (by simp) λ_=>Ret.cnd (P:=(aa.coord n).2.2.1=0) (by simp) λ_=>Ret.of (P:=(aa.coord n).2.2.2=0) (by simp)) ?_
  generalize aa.probe n=p;generalize aa.coord n=c;obtain⟨p1,p2,p3,p4⟩:=p;obtain⟨c1,c2,c3,c4⟩:=c;simp only[AR];constructor
  ·rintro⟨h1,h2,h3,h4,h5,h6,h7,h8⟩;exact⟨⟨h1,h2,h3,h4⟩,h5,h6,h7,h8⟩
  ·rintro⟨⟨h1,h2,h3,h4⟩,h5,h6,h7,h8⟩;exact⟨h1,h2,h3,h4,h5,h6,h7,h8⟩
 |true =>
  simp only[AE,cond_false,if_true,UpP];exact Ret.px (fG K _ hn.table hK) λhT=>Ret.vl (dE K _) (Ret.px (fH K _ _ hn.table hK) λ_=>Ret.px (yR K n hn hT hK) λ_=>Ret.px (sG K n hn hT hK) λ_=>Ret.px (xQ K n hn hK) λ_ =>
   Ret.px (wH K n hn hT hK) λ_=>Ret.px (fk K _) λ_=>Ret.px (wD K n hn hK) λ_=>(wF K n hn hK).id)
theorem yV (K:Nat)(n:aa):Ret (Q122.f K (n,())) (qM n):=by
 simp only[Q122.f,lL,yS,qM];exact Ret.cnd (by simp) λ_=>Ret.cnd (by simp) λ_=>Ret.cnd (by simp) λ_=>Ret.cnd (by simp) λ_=>Ret.cnd (by simp) λ_=>Ret.cnd (by simp) λ_=>Ret.cnd (by simp) λ_=>Ret.dec
theorem rr (K:Nat)(n:aa)(hn:NB n)(hK:1048577<K):Ret (Q157.f K (n,())) (e8 n):=by
 refine Ret.nx (nq K _) λ_=>Ret.nx (eZ K _ _ _) λ_=>Ret.nx (eZ K _ _ _) λ_=>Ret.nx (eZ K _ _ _) λ_=>Ret.nx (eZ K _ _ _) λ_=>?_
 dsimp only;cases hu:n.2.1 with
 |false =>
  simp only[AQ,cond_true,AH,if_false];exact (yV K n).id
 |true =>
  simp only[AE,cond_false,if_true,UpP];refine Ret.iff (Ret.px (pf K n hn hK) λhT=>Ret.px (xR K n hn hT.1 hK) λ_=>Ret.px (wI K n hn hT.1 hK) λ_=>Ret.px (kA K _) λ_=>Ret.px (wE K n hn hK) λ_=>(wG K n hn hK).id) ?_;constructor
  ·rintro⟨⟨h1,h2,h3,h4,h5⟩,h6,h7,h8,h9,h10⟩;exact⟨h1,h2,h3,⟨h4,h5⟩,h6,h7,h8,h9,h10⟩
  ·rintro⟨h1,h2,h3,⟨h4,h5⟩,h6,h7,h8,h9,h10⟩;exact⟨⟨h1,h2,h3,h4,h5⟩,h6,h7,h8,h9,h10⟩
theorem jh {A R:Type}{step:(A->Option R)->A->Option R}(n:Nat)(S:Nat->A)(rt:Option R)(h:∀ (rec:A->Option R) (i:Nat),i<n->step rec (S i)=rec (S (i+1)))(hend:∀ rec:A->Option R,step rec (S n)=rt)
  {k:Nat} (hk:n<k):ae step k (S 0)=rt:=by
 rcases kX (step:=step) n S (λ_=>True) rt none (λrec i hi=>.inl ⟨trivial,h rec i hi⟩) hend n k 0 (by omega) hk with ⟨_,h1⟩|⟨h1,_⟩
 ·exact h1
 ·exact absurd (λ_ _ _=>trivial) h1
def Szd (o:Option ((Int×Unit)×Unit))(left:Int)(Q:Prop):Prop:=∃ r,o=some ((r,()),())/\(r<0\/(0<=r/\r<=left/\Q))
theorem Szd.sub (left:Int)(n:Nat)(h0:0<=left)(h1:left<=1048576)(hn:n<=9223372036854775807){g:Option ((Int×Unit)×Unit)}{Q:Prop}(hg:wr .i64 (left-(n:Int))=left-n->(n:Int)<=left->Szd g (left-n) Q) :
  Szd (bif decide (wr .i64 (left-(n:Int))<0) then some ((-1,()),()) else g) left (n<=1048576/\Q):=by
 have e:wr .i64 (left-(n:Int))=left-n:=aL (by omega) (by omega);by_cases h:left-(n:Int)<0
 ·rw[e,decide_eq_true h];exact⟨-1,rfl,.inl (by decide)⟩
 ·rw[decide_eq_false (by rw[e];exact h)];obtain⟨r,h2,h3⟩:=hg e (by omega);exact⟨r,h2,h3.imp id λh4=>⟨h4.1,by omega,by omega,h4.2.2⟩⟩
theorem Szd.bind {o:Option ((Int×Unit)×Unit)}{left:Int}{P Q:Prop}{G:(Int×Unit)×Unit->Option ((Int×Unit)×Unit)}(h:Szd o left P)(h2:∀ r,0<=r->r<=left->P->Szd (G ((r,()),())) r Q) :
  Szd (o.bind λy=>bif decide (y.1.1<0) then some ((-1,()),()) else G y) left (P/\Q):=by
 obtain⟨r,h3,h4⟩:=h;rw[h3,AB];rcases h4 with h4|⟨h4,h5,h6⟩
 ·rw[decide_eq_true h4];exact⟨-1,rfl,.inl (by decide)⟩
 ·rw[show decide (r<0)=false from decide_eq_false (by omega)];obtain⟨r2,h7,h8⟩:=h2 r h4 h5 h6;exact⟨r2,h7,h8.imp id λh9=>⟨h9.1,by omega,h6,h9.2.2⟩⟩
theorem Szd.ret (r:Int)(h:0<=r):Szd (some ((r,()),())) r True:=⟨r,rfl,.inr ⟨h,Int.le_refl _,trivial⟩⟩
theorem Szd.iff {o:Option ((Int×Unit)×Unit)}{left:Int}{P Q:Prop}(h:Szd o left P)(e:P->Q):Szd o left Q:=by
 obtain⟨r,h1,h2⟩:=h;exact⟨r,h1,h2.imp id λh3=>⟨h3.1,h3.2.1,e h3.2.2⟩⟩
end Go.Proofs.YtmcbmojdeikcdaaGreatEv
