/- What is ok of facts, tables, casts: the program and the specification say the same. -/
import Derived.Test.YtadlacffdemoiaaGreatFns
import Derived.Test.YtadlacffdemoiaaGreatP0
set_option linter.unusedVariables false
set_option linter.unusedSimpArgs false
open Bool renaming not_true->BE,false_eq_true->BH,not_false->BQ
open Classical renaming not_not->BD
open Int renaming natCast_nonneg->BJ
open List renaming length->BA,getElem_mem->BC,getElem?_eq_getElem->BF,getElem_of_mem->BG,drop_eq_getElem_cons->BK,pairwise_map->BL,filter_cons->BM,drop_of_length_le->BN,take_of_length_le->BO,length_singleton->BP,take_add_one->BS,getElem?_map->BT,mem_filter->BV,drop_zero->BW,mem_map->BX
open Nat renaming zero_le->BI,le_refl->BU
open Option renaming bind_some->BB
open Prod.mk renaming injEq->BR
namespace Go.Proofs.YtadlacffdemoiaaGreatEv
open Go
abbrev InP (n u r:Int):Prop:=u<=n/\n<=r
theorem eJ (K:Nat)(n u r:Int):Ret (Q12.f K (n,u,r,())) (InP n u r):=by
 simp only[Q12.f];exact Ret.cnd (by simp) λ_=>Ret.dec
theorem cI (K:Nat)(n u r:Int):Ret (Q97.f K (n,u,r,())) (InP n u r):=by
 simp only[Q97.f];exact Ret.cnd (by simp) λ_=>Ret.dec
theorem Ret.id {o:Option RB}{P:Prop}(h:Ret o P):Ret (o.bind λy=>some ((y.1.1,()),())) P:=by
 obtain⟨b,r,u⟩:=h;exact⟨b,by rw[r];rfl,u⟩
theorem Ret.neg {o:Option RB}{P:Prop}(h:Ret o P):Ret (o.bind λy=>some ((!y.1.1,()),())) (¬ P):=by
 obtain⟨b,r,u⟩:=h;exact⟨!b,by rw[r];rfl,by cases b <;> simp_all⟩
def bq (f:af):Prop:=InP f.1 0 7/\InP f.2.1 0 999/\InP f.2.2.1 1 4
theorem jb (K:Nat)(n:Int):Ret (Q13.f K (n,())) (InP n 0 7):=(eJ K n 0 7).id
theorem lX (K:Nat)(f:af):Ret (Q15.f K (f,())) (bq f) :=
 Ret.and (jb K f.1) (λ_=>Ret.and (eJ K f.2.1 0 999) (λ_=>(eJ K f.2.2.1 1 4).id) rfl) rfl
theorem oK (K:Nat)(f:af):Ret (Q98.f K (f,())) (bq f) :=
 Ret.and (cI K f.1 0 7) (λ_=>Ret.and (cI K f.2.1 0 999) (λ_=>(cI K f.2.2.1 1 4).id) rfl) rfl
def ax (t:List af):Prop:=(∀ f∈t,bq f)/\Asc (λf:af=>f.1) t
theorem sA {t:List af}:ax t<->∀ j,j<t.length->∃ h:j<t.length,bq t[j]/\(0<j->(t[j-1]'(by omega)).1<t[j].1):=by
 unfold ax;rw[dI,gK];constructor
 ·rintro⟨h1,h2⟩ j hj;exact⟨hj,h1 j hj,λu=>h2 j hj u⟩
 ·intro h;exact⟨λi r=>(h i r).2.1,λi r u=>(h i r).2.2 u⟩
theorem eV {P:Prop}:(P/\True)<->P:=by simp
theorem gl (K:Nat)(t:List af)(M:t.length<=1048576)(J:1048577<K):Ret (Q99.f K (t,())) (ax t):=by
 refine Ret.iff (qn (step:=λrec a=>Q99.s0 K (t,()) rec a) t.length (λi=>(i:Int)) (λj=>∃ h:j<t.length,bq t[j]/\(0<j->(t[j-1]'(by omega)).1<t[j].1)) (Q:=True) (rt:=rb true) ?_ ?_ (by omega) (λ_=>Ret.yes trivial)) (eV.trans sA.symm)
 ·intro rec i u;simp only[Q99.s0];rw[decide_eq_true (by omega:(i:Int)<(BA t:Int)),ag u,ar i (by omega)];simp only[cond_true,BB];obtain⟨b,H,y⟩:=oK K t[i];rw[H];simp only[BB];cases b with
  |false=>exact .inr ⟨λ⟨_,r,_⟩=>by simpa using y.2 r,rfl⟩
  |true =>
   simp only[BE,cond_false];by_cases z:(i:Int)>0
   ·rw[decide_eq_true z,eP i (by omega) (by omega),ag (by omega:i-1<t.length)];simp only[cond_true,BB];by_cases r:(t[i-1]'(by omega)).1>=t[i].1
    ·rw[decide_eq_true r];exact .inr ⟨λ⟨_,_,I⟩=>by have:=I (by omega);omega,rfl⟩
    ·rw[decide_eq_false r];exact .inl ⟨⟨u,y.1 rfl,λ_=>by omega⟩,rfl⟩
   ·rw[decide_eq_false z];exact .inl ⟨⟨u,y.1 rfl,λ_=>by omega⟩,rfl⟩
 ·intro rec;simp only[Q99.s0];rw[decide_eq_false (by omega:¬ ((t.length:Int)<(BA t:Int)))];rfl
theorem gm (K:Nat)(t:List af)(M:t.length<=1048576)(J:1048577<K):Ret (Q16.f K (t,())) (ax t):=by
 refine Ret.iff (qn (step:=λrec a=>Q16.s0 K (t,()) rec a) t.length (λi=>(i:Int)) (λj=>∃ h:j<t.length,bq t[j]/\(0<j->(t[j-1]'(by omega)).1<t[j].1)) (Q:=True) (rt:=rb true) ?_ ?_ (by omega) (λ_=>Ret.yes trivial)) (eV.trans sA.symm)
 ·intro rec i u;simp only[Q16.s0];rw[decide_eq_true (by omega:(i:Int)<(BA t:Int)),ag u,ar i (by omega)];simp only[cond_true,BB];obtain⟨b,H,y⟩:=lX K t[i];rw[H];simp only[BB];cases b with
  |false=>exact .inr ⟨λ⟨_,r,_⟩=>by simpa using y.2 r,rfl⟩
  |true =>
   simp only[BE,cond_false];by_cases z:(i:Int)>0
   ·rw[decide_eq_true z,eP i (by omega) (by omega),ag (by omega:i-1<t.length)];simp only[cond_true,BB];by_cases r:t[i].1<=(t[i-1]'(by omega)).1
    ·rw[decide_eq_true r];exact .inr ⟨λ⟨_,_,I⟩=>by have:=I (by omega);omega,rfl⟩
    ·rw[decide_eq_false r];exact .inl ⟨⟨u,y.1 rfl,λ_=>by omega⟩,rfl⟩
   ·rw[decide_eq_false z];exact .inl ⟨⟨u,y.1 rfl,λ_=>by omega⟩,rfl⟩
 ·intro rec;simp only[Q16.s0];rw[decide_eq_false (by omega:¬ ((t.length:Int)<(BA t:Int)))];rfl
inductive vp (t:List af) (node:Int):Option Nat->Prop where
 |at_ (i:Nat) (h:i<t.length) (e:t[i].1=node):vp t node (some i)
 |no (h:∀ f∈t,f.1≠node):vp t node none
theorem fk (K:Nat)(t:List af)(r:Int)(M:t.length<=1048576)(J:1048577<K) :
  ∃ o,vp t r o/\Q102.f K (t,r,())=some (((match o with|some i=>((i:Nat):Int)|none=>-1),()),()):=by
 have:=bX (step:=λrec a=>Q102.s0 K (t,r,()) rec a) t.length (λi=>(i:Int)) (λj=>∃ h:j<t.length,t[j].1=r) (some ((-1,()),())) (λj=>some ((((j:Nat):Int),()),())) ?_ ?_ t.length K 0 (by omega) (by omega)
 ·rcases this with ⟨y,z⟩|⟨j,_,y,⟨H,I⟩,_,z⟩
  ·refine⟨none,.no ?_,z⟩;rw[dI];exact λi u e=>y i (BI _) u ⟨u,e⟩
  ·exact⟨some j,.at_ j H I,z⟩
 ·intro rec i u;simp only[Q102.s0];rw[decide_eq_true (by omega:(i:Int)<(BA t:Int)),ag u,ar i (by omega)];simp only[cond_true,BB];by_cases h:t[i].1=r
  ·right;refine⟨⟨u,h⟩,?_⟩;have:(t[i].1==r)=true:=by simpa using h
   rw[this];rfl
  ·left;refine⟨λ⟨_,y⟩=>h y,?_⟩;have:(t[i].1==r)=false:=by simpa using h
   rw[this];rfl
 ·intro rec;simp only[Q102.s0];rw[decide_eq_false (by omega:¬ ((t.length:Int)<(BA t:Int)))];rfl
def fm (a b:Int):Int:=if a<b then -1 else if a>b then 1 else 0
theorem nG (K:Nat)(a b:Int):Q19.f K (a,b,())=some ((fm a b,()),()):=by
 have y:∀ x:Int,Q18.f K (x,())=rb false:=λx=>by simp[Q18.f]
 simp only[Q19.f,y,BB,cond_false,fm];by_cases r:a<b
 ·rw[decide_eq_true r,if_pos r];rfl
 ·rw[decide_eq_false r,if_neg r];by_cases u:a>b
  ·rw[decide_eq_true u,if_pos u];rfl
  ·rw[decide_eq_false u,if_neg u];rfl
theorem sC (a b:Int):fm a b<0<->a<b:=by
 unfold fm;by_cases r:a<b
 ·simp[r]
 ·by_cases u:a>b <;> simp[r,u]
theorem uB (a b:Int):fm a b>0<->a>b:=by
 unfold fm;by_cases r:a<b
 ·simp[r];omega
 ·by_cases u:a>b <;> simp[r,u]
theorem ic (a b:Int):fm a b=0<->a=b:=by
 unfold fm;by_cases r:a<b
 ·simp[r];omega
 ·by_cases u:a>b <;> simp[r,u] <;> omega
structure Cut (t:List af) (node:Int) (m:Nat):Prop where
 le:m<=t.length
 lo:∀ i,(h:i<t.length)->i<m->t[i].1<node
 hi:∀ i,(h:i<t.length)->m<=i->node<=t[i].1
theorem sD (K:Nat)(t:List af)(r:Int)(ht:t.length<=1048576)(J:Asc (λf:af=>f.1) t)(hK:1048577<K) :
  ∃ m,Cut t r m/\Q21.f K (t,r,())=some ((((m:Nat):Int),decide (∃ h:m<t.length,t[m].1=r),()),()):=by
 let ks:Nat->Int:=λi=>if h:i<t.length then t[i].1 else 0
 have u:∀ i (h:i<t.length),ks i=t[i].1:=λi h=>by simp[ks,h]
 let H:Nat->Option ((Int×Bool×Unit)×Unit):=λm=>some ((((m:Nat):Int),decide (∃ h:m<t.length,t[m].1=r),()),())
 have X:∀ f:af,((Q20.f K (f,r,())).map λy=>y.1.1)=some (fm f.1 r):=λf=>by
  simp only[Q20.f];rw[nG];rfl
 have:=pq (step:=λrec a=>Q17.s0 K (t,r,(λI=>(Q20.f K (I.1,I.2.1,())).map λy=>y.1.1),()) rec a) (ks:=ks) (n:=t.length) (t:=r) H ht
  (λi j R Y=>by
   rw[u i (by omega),u j Y];exact cE.1 J i j (by omega) Y R) ?_ ?_ t.length K 0 t.length (by omega) (BI _) (BU _) (by omega) (λi M=>by omega) (λi M hn=>by omega)
 ·obtain⟨m,z,O,h3,h4⟩:=this;refine⟨m,⟨z,λi h M=>by rw[<- u i h];exact O i M,λi h M=>by rw[<- u i h];exact h3 i M h⟩,?_⟩;simp only[Q21.f];have e:Q17.f K (t,r,(λI=>(Q20.f K (I.1,I.2.1,())).map λy=>y.1.1),())=H m:=h4;rw[e];rfl
 ·intro rec a b a0 hb;have Z:(a+b) / 2<t.length:=by omega
  simp only[Q17.s0];rw[decide_eq_true (by omega:(a:Int)<(b:Int)),nF (by omega)];simp only[cond_true];rw[ag Z];simp only[BB,X];rw[u _ Z,ar _ (by omega)];by_cases h:t[(a+b) / 2].1<r
  ·rw[if_pos h,decide_eq_true ((sC _ _).2 h)];rfl
  ·rw[if_neg h,decide_eq_false (λz=>h ((sC _ _).1 z))];rfl
 ·intro rec a ha;simp only[Q17.s0];rw[decide_eq_false (by omega)];simp only[cond_false];by_cases h:a<t.length
  ·rw[decide_eq_true (by omega:(a:Int)<(BA t:Int)),ag h];simp only[cond_true,BB,X,H];congr 3;by_cases z:t[a].1=r
   ·have:(fm t[a].1 r==0)=true:=by simpa using (ic t[a].1 r).2 z
    rw[this,decide_eq_true ⟨h,z⟩]
   ·have:(fm t[a].1 r==0)=false:=by
     rw[beq_eq_false_iff_ne];exact λe=>z ((ic _ _).1 e)
    rw[this,decide_eq_false (λ⟨_,O⟩=>z O)]
  ·rw[decide_eq_false (by omega)];simp only[cond_false,H];rw[decide_eq_false (λ⟨z,_⟩=>h z)]
def ak (n:Int):Int:=wr .i64 (Int.tdiv n 4)
theorem ez (K:Nat)(n:Int):Q101.f K (n,())=some ((ak n,()),()):=rfl
theorem pt (K:Nat)(n:Int):Q25.f K (n,())=some ((ak n,()),()):=rfl
theorem qo (K:Nat)(n:aa):Q28.f K (n,())=some ((ak n.1,()),()):=rfl
abbrev aa.table (n:aa):List af:=n.2.2.2.2.2.2.2.2.1
abbrev aa.cast (n:aa):List aL:=n.2.2.2.2.2.2.2.2.2.1
abbrev aa.probe (n:aa):af:=n.2.2.2.2.2.2.2.2.2.2.1
abbrev aa.doubts (n:aa):List bo:=n.2.2.2.2.2.2.2.2.2.2.2.1
abbrev aa.coord (n:aa):dC:=n.2.2.2.2.2.2.2.2.2.2.2.2.1
abbrev aa.places (n:aa):List dM:=n.2.2.2.2.2.2.2.2.2.2.2.2.2.1
abbrev aa.others (n:aa):List b8:=n.2.2.2.2.2.2.2.2.2.2.2.2.2.2
structure NB (n:aa):Prop where
 table:(aa.table n).length<=1048576
 cast:(aa.cast n).length<=1048576
 doubts:(aa.doubts n).length<=1048576
 by_:∀ d∈aa.doubts n,d.2.2.2.length<=1048576
 places:(aa.places n).length<=1048576
 trips:∀ p∈aa.places n,p.2.2.length<=1048576
 others:(aa.others n).length<=1048576
 facts:∀ x∈aa.others n,x.2.length<=1048576
def bP (t:List af)(s:Int):Prop:=∀ f∈t,ak f.1=s
theorem gn (K:Nat)(t:List af)(s:Int)(y:t.length<=1048576)(u:1048577<K):Ret (Q100.f K (t,s,())) (bP t s):=by
 refine (gj t (step:=λrec a=>Q100.s0 K (t,s,()) rec a) (λi r=>¬ ak t[i].1≠s) y ?_ ?_ u (λ_=>Ret.yes trivial)).iff (eV.trans ?_)
 ·intro rec i r;simp only[Q100.s0];rw[decide_eq_true (by omega:(i:Int)<(BA t:Int))];exact Rnd.ix (ag r) ((Rnd.cndN (P:=ak t[i].1≠s) (by simp[ak]) (λ_=>Rnd.end_)).iff (by simp))
 ·intro rec;simp only[Q100.s0];rw[decide_eq_false (by omega:¬ ((t.length:Int)<(BA t:Int)))];rfl
 ·rw[bP,dI];exact⟨λh i r=>BD.1 (h i r),λh i r=>BD.2 (h i r)⟩
theorem wO (K:Nat)(t:List af)(y:af×Unit->Option Bool)(p:af->Prop)(X:t.length<=1048576)(R:1048577<K)(hφ:∀ f∈t,∃ b,y (f,())=some b/\(b=true<->p f)) :
  Ret (Q24.f K (t,y,())) (∃ f∈t,p f):=by
 have:=bX (step:=λrec a=>Q23.s0 K (t,y,()) rec a) t.length (λi=>(i:Int)) (λj=>∃ h:j<t.length,p t[j]) (some ((-1,()),())) (λj=>some ((((j:Nat):Int),()),())) ?_ ?_ t.length K 0 (by omega) (by omega)
 ·simp only[Q24.f];rcases this with ⟨z,u⟩|⟨j,_,z,⟨H,O⟩,_,u⟩
  ·have e:Q23.f K (t,y,())=some ((-1,()),()):=u;rw[e];refine Ret.of ?_;simp only[ge_iff_le,decide_eq_true_eq];refine⟨λh=>absurd h (by decide),λ⟨f,M,I⟩=>?_⟩;obtain⟨i,r,J⟩:=BG M;exact absurd ⟨r,J ▸ I⟩ (z i (BI _) r)
  ·have e:Q23.f K (t,y,())=some ((((j:Nat):Int),()),()):=u;rw[e];refine Ret.of ?_;simp only[ge_iff_le,decide_eq_true_eq];exact⟨λ_=>⟨t[j],BC H,O⟩,λ_=>BJ j⟩
 ·intro rec i r;simp only[Q23.s0];rw[decide_eq_true (by omega:(i:Int)<(BA t:Int)),ag r,ar i (by omega)];simp only[cond_true,BB];obtain⟨b,z,u⟩:=hφ t[i] (BC r);rw[z];simp only[BB];cases b with
  |true=>exact .inr ⟨⟨r,u.1 rfl⟩,rfl⟩
  |false=>exact .inl ⟨λ⟨_,h⟩=>by simpa using u.2 h,rfl⟩
 ·intro rec;simp only[Q23.s0];rw[decide_eq_false (by omega:¬ ((t.length:Int)<(BA t:Int)))];rfl
theorem qS (K:Nat)(t:List aL)(y:aL×Unit->Option Bool)(p:aL->Prop)(X:t.length<=1048576)(R:1048577<K)(hφ:∀ f∈t,∃ b,y (f,())=some b/\(b=true<->p f)) :
  Ret (Q30.f K (t,y,())) (∃ f∈t,p f):=by
 have:=bX (step:=λrec a=>Q29.s0 K (t,y,()) rec a) t.length (λi=>(i:Int)) (λj=>∃ h:j<t.length,p t[j]) (some ((-1,()),())) (λj=>some ((((j:Nat):Int),()),())) ?_ ?_ t.length K 0 (by omega) (by omega)
 ·simp only[Q30.f];rcases this with ⟨z,u⟩|⟨j,_,z,⟨H,O⟩,_,u⟩
  ·have e:Q29.f K (t,y,())=some ((-1,()),()):=u;rw[e];refine Ret.of ?_;simp only[ge_iff_le,decide_eq_true_eq];refine⟨λh=>absurd h (by decide),λ⟨f,M,I⟩=>?_⟩;obtain⟨i,r,J⟩:=BG M;exact absurd ⟨r,J ▸ I⟩ (z i (BI _) r)
  ·have e:Q29.f K (t,y,())=some ((((j:Nat):Int),()),()):=u;rw[e];refine Ret.of ?_;simp only[ge_iff_le,decide_eq_true_eq];exact⟨λ_=>⟨t[j],BC H,O⟩,λ_=>BJ j⟩
 ·intro rec i r;simp only[Q29.s0];rw[decide_eq_true (by omega:(i:Int)<(BA t:Int)),ag r,ar i (by omega)];simp only[cond_true,BB];obtain⟨b,z,u⟩:=hφ t[i] (BC r);rw[z];simp only[BB];cases b with
  |true=>exact .inr ⟨⟨r,u.1 rfl⟩,rfl⟩
  |false=>exact .inl ⟨λ⟨_,h⟩=>by simpa using u.2 h,rfl⟩
 ·intro rec;simp only[Q29.s0];rw[decide_eq_false (by omega:¬ ((t.length:Int)<(BA t:Int)))];rfl
theorem yb (K:Nat)(t:List Int)(y:Int×Unit->Option Bool)(p:Int->Prop)(X:t.length<=1048576)(R:1048577<K)(hφ:∀ f∈t,∃ b,y (f,())=some b/\(b=true<->p f)) :
  Ret (Q46.f K (t,y,())) (∃ f∈t,p f):=by
 have:=bX (step:=λrec a=>Q45.s0 K (t,y,()) rec a) t.length (λi=>(i:Int)) (λj=>∃ h:j<t.length,p t[j]) (some ((-1,()),())) (λj=>some ((((j:Nat):Int),()),())) ?_ ?_ t.length K 0 (by omega) (by omega)
 ·simp only[Q46.f];rcases this with ⟨z,u⟩|⟨j,_,z,⟨H,O⟩,_,u⟩
  ·have e:Q45.f K (t,y,())=some ((-1,()),()):=u;rw[e];refine Ret.of ?_;simp only[ge_iff_le,decide_eq_true_eq];refine⟨λh=>absurd h (by decide),λ⟨f,M,I⟩=>?_⟩;obtain⟨i,r,J⟩:=BG M;exact absurd ⟨r,J ▸ I⟩ (z i (BI _) r)
  ·have e:Q45.f K (t,y,())=some ((((j:Nat):Int),()),()):=u;rw[e];refine Ret.of ?_;simp only[ge_iff_le,decide_eq_true_eq];exact⟨λ_=>⟨t[j],BC H,O⟩,λ_=>BJ j⟩
 ·intro rec i r;simp only[Q45.s0];rw[decide_eq_true (by omega:(i:Int)<(BA t:Int)),ag r,ar i (by omega)];simp only[cond_true,BB];obtain⟨b,z,u⟩:=hφ t[i] (BC r);rw[z];simp only[BB];cases b with
  |true=>exact .inr ⟨⟨r,u.1 rfl⟩,rfl⟩
  |false=>exact .inl ⟨λ⟨_,h⟩=>by simpa using u.2 h,rfl⟩
 ·intro rec;simp only[Q45.s0];rw[decide_eq_false (by omega:¬ ((t.length:Int)<(BA t:Int)))];rfl
theorem Ret.fn {o:Option RB}{P:Prop}(h:Ret o P):∃ b,(o.map λy=>y.1.1)=some b/\(b=true<->P):=by
 obtain⟨b,r,u⟩:=h;exact⟨b,by rw[r];rfl,u⟩
theorem kf (K:Nat)(t:List af)(s:Int)(I:t.length<=1048576)(z:1048577<K):Ret (Q27.f K (t,s,())) (bP t s):=by
 refine (Ret.neg (wO K t (λH=>(Q26.f K (H.1,s,())).map λy=>y.1.1) (λf=>ak f.1≠s) I z (λf _=>?_))).iff ?_
 ·exact⟨_,rfl,by simp[ak]⟩
 ·exact⟨λh f u=>BD.1 λr=>h ⟨f,u,r⟩,λh ⟨f,u,r⟩=>r (h f u)⟩
theorem iz (K:Nat)(t:List af)(r:Int)(M:t.length<=1048576)(H:1048577<K) :
  (¬ ax t/\Q22.f K (t,r,())=some (((0,(0,(0,false))),false,()),())) \/
  (ax t/\((∃ f∈t,f.1=r/\Q22.f K (t,r,())=some ((f,true,()),()))\/((∀ f∈t,f.1≠r)/\Q22.f K (t,r,())=some (((0,(0,(0,false))),false,()),())))):=by
 simp only[Q22.f];obtain⟨b,X,J⟩:=gm K t M H;rw[X];simp only[BB];cases b with
 |false=>exact .inl ⟨λh=>by simpa using J.2 h,rfl⟩
 |true =>
  have y:=J.1 rfl;obtain⟨m,O,R⟩:=sD K t r M y.2 H;refine .inr ⟨y,?_⟩;simp only[BE,cond_false,R,BB];by_cases h:∃ h:m<t.length,t[m].1=r
  ·rw[decide_eq_true h];obtain⟨u,I⟩:=h;left;refine⟨t[m],BC u,I,?_⟩;simp only[BE,cond_false];rw[ag u];rfl
  ·rw[decide_eq_false h];right;refine⟨?_,rfl⟩;rw[dI];intro i z e;rcases Nat.lt_trichotomy i m with u|u|u
   ·have:=O.lo i z u;omega
   ·subst u;exact h ⟨z,e⟩
   ·have I:=O.hi m (by omega) (BU _);have Y:=cE.1 y.2 m i (by omega) z u;omega
def bI (f g:af):Prop:=if f.2.1≠g.2.1 then f.2.1>g.2.1 else if f.2.2.1≠g.2.2.1 then f.2.2.1>g.2.2.1 else f.2.2.2=true/\g.2.2.2=false
theorem sE (K:Nat)(f g:af):Ret (Q105.f K (f,g,())) (bI f g):=by
 simp only[Q105.f,bI];by_cases r:f.2.1=g.2.1
 ·have e:(f.2.1 != g.2.1)=false:=by simpa using r
  rw[e,if_neg (by simpa using r)];by_cases u:f.2.2.1=g.2.2.1
  ·have e:(f.2.2.1 != g.2.2.1)=false:=by simpa using u
   rw[e,if_neg (by simpa using u)];exact (Ret.cnd (b:=f.2.2.2) Iff.rfl (λ_=>Ret.of (b:=!g.2.2.2) (by simp))).iff Iff.rfl
  ·have e:(f.2.2.1 != g.2.2.1)=true:=by simpa using u
   rw[e,if_pos u];exact Ret.dec
 ·have e:(f.2.1 != g.2.1)=true:=by simpa using r
  rw[e,if_pos r];exact Ret.dec
def orI:List Int->Int
 |[]=>0
 |x::r=>if x≠0 then x else orI r
theorem AA (K:Nat)(xs:List Int)(M:xs.length<=1048576)(J:1048577<K):Q34.f K (xs,())=some ((orI xs,()),()):=by
 have y:∀ (d k i:Nat),i+d=xs.length->d<k->ae (λrec a=>Q34.s0 K (xs,()) rec a) k (i:Int)=some ((orI (xs.drop i),()),()):=by
  intro d;induction d with
  |zero =>
   intro k i H I;obtain⟨k,rfl⟩:∃ z,k=z+1:=⟨k-1,by omega⟩;show Q34.s0 K (xs,()) _ _=_;simp only[Q34.s0];rw[decide_eq_false (by omega:¬ ((i:Int)<(BA xs:Int))),BN (by omega)];rfl
  |succ d u =>
   intro k i H I;obtain⟨k,rfl⟩:∃ z,k=z+1:=⟨k-1,by omega⟩;have u:=u k (i+1) (by omega) (by omega);show Q34.s0 K (xs,()) _ _=_;simp only[Q34.s0];have r:i<xs.length:=by omega
   rw[decide_eq_true (by omega:(i:Int)<(BA xs:Int)),ag r,ar i (by omega),BK r];simp only[cond_true,BB,orI];by_cases h:xs[i]=0
   ·have e:(xs[i] != 0)=false:=by simpa using h
    rw[e,if_neg (by simpa using h)];exact u
   ·have e:(xs[i] != 0)=true:=by simpa using h
    rw[e,if_pos h];rfl
 have:=y xs.length K 0 (by omega) (by omega)
 rwa [BW]at this
def cmpF (f g:af):Int:=orI [fm f.1 g.1,fm f.2.1 g.2.1,fm f.2.2.1 g.2.2.1,if f.2.2.2=true/\g.2.2.2=false then 1 else if g.2.2.2=true/\f.2.2.2=false then -1 else 0]
theorem mJ (K:Nat)(f g:af)(H:1048577<K):Q35.f K (f,g,())=some ((cmpF f g,()),()):=by
 obtain⟨a,b,c,d⟩:=f;obtain⟨u,y,r,I⟩:=g;have h:∀ z:Int,Q34.f K ([fm a u,fm b y,fm c r,z],())=some ((orI [fm a u,fm b y,fm c r,z],()),()):=λz=>AA K _ (by simp) H
 simp only[Q35.f,cmpF];cases d <;> cases I <;> simp only[BE,BQ,cond_true,cond_false] <;> rw[nG,BB,nG,BB,nG,BB,h] <;> rfl
theorem oL {x:Int}(h:x=0)(xs:List Int):orI (x::xs)=orI xs:=by subst h;rfl
theorem uC {x:Int}(h:x≠0)(xs:List Int):orI (x::xs)=x:=by simp[orI,h]
theorem jt {f g:af}(e:f.1=g.1):cmpF f g>0<->bI f g:=by
 unfold cmpF bI;rw[oL ((ic f.1 g.1).2 e)];by_cases r:f.2.1=g.2.1
 ·rw[oL ((ic f.2.1 g.2.1).2 r),if_neg (show ¬ f.2.1≠g.2.1 from λh=>h r)];by_cases u:f.2.2.1=g.2.2.1
  ·rw[oL ((ic f.2.2.1 g.2.2.1).2 u),if_neg (show ¬ f.2.2.1≠g.2.2.1 from λh=>h u)];cases f.2.2.2 <;> cases g.2.2.2 <;> simp[orI]
  ·rw[uC (λh=>u ((ic f.2.2.1 g.2.2.1).1 h)),if_pos (show f.2.2.1≠g.2.2.1 from u)];exact uB _ _
 ·rw[uC (λh=>r ((ic f.2.1 g.2.1).1 h)),if_pos (show f.2.1≠g.2.1 from r)];exact uB _ _
theorem pu (K:Nat)(f g:af)(r:1048577<K):Ret (Q36.f K (f,g,())) (bq f/\bq g/\f.1=g.1/\bI f g):=by
 refine Ret.and (lX K f) (λ_=>Ret.and (lX K g) (λ_=>?_) rfl) rfl;refine (Ret.cnd (b:=f.1==g.1) (P:=f.1=g.1) (by simp) (λe=>?_)).iff Iff.rfl;show Ret ((Q35.f K (f,g,())).bind _) _;rw[mJ K f g r];refine Ret.of ?_;simp only[gt_iff_lt,decide_eq_true_eq];exact jt e
theorem bD {n:Nat}{m:Int}(h:(n:Int)<m):decide ((n:Int)<m)=true:=decide_eq_true h
theorem aU (n:Nat):decide ((n:Int)<(n:Int))=false:=decide_eq_false (by omega)
def cU (l:List aL):Prop:=(∀ x∈l,bq x.1/\InP x.2 1 4)/\Asc (λx:aL=>x.1.1) l
theorem yc (K:Nat)(l:List aL)(z:l.length<=1048576)(y:1048577<K):Ret (Q104.f K (l,())) (cU l):=by
 refine (gj l (step:=λrec a=>Q104.s0 K (l,()) rec a) (λi r=>bq l[i].1/\InP l[i].2 1 4/\(0<i->¬ (l[i-1]'(by omega)).1.1>=l[i].1.1)/\True) z ?_ ?_ y (λ_=>Ret.yes trivial)).iff (eV.trans ?_)
 ·intro rec i r;simp only[Q104.s0];rw[decide_eq_true (by omega:(i:Int)<(BA l:Int))];simp only[cond_true];refine Rnd.ix (ag r) (Rnd.nx (oK K _) λ_=>Rnd.ix (ag r) (Rnd.nx (cI K _ 1 4) λ_=>Rnd.two (λu=>?_) Rnd.end_));rw[eP i u (by omega)];exact Rnd.ix (ag (by omega)) (Rnd.ix (ag r) (Rnd.cndN (by simp) λ_=>Rnd.end_))
 ·intro rec;simp only[Q104.s0,aU];rfl
 ·rw[cU,dI,gK];constructor
  ·intro h;exact⟨λi r=>⟨(h i r).1,(h i r).2.1⟩,λi r u=>by have:=(h i r).2.2.1 u;omega⟩
  ·rintro⟨h1,h2⟩ i r;exact⟨(h1 i r).1,(h1 i r).2,λu=>by have:=h2 i r u;omega,trivial⟩
theorem uD (K:Nat)(l:List aL)(O:l.length<=1048576)(M:1048577<K):Q32.f K (l,())=some ((l.map (·.1),()),()):=by
 have y:∀ (d k i:Nat),i+d=l.length->d<k->ae (λrec a=>Q32.s0 K (l,()) rec a) k ((l.take i).map (·.1),(i:Int))=some ((l.map (·.1),()),()):=by
  intro d;induction d with
  |zero =>
   intro k i H J;obtain⟨k,rfl⟩:∃ z,k=z+1:=⟨k-1,by omega⟩;show Q32.s0 K (l,()) _ _=_;simp only[Q32.s0];rw[decide_eq_false (by omega:¬ ((i:Int)<(BA l:Int))),BO (by omega)];rfl
  |succ d u =>
   intro k i H J;obtain⟨k,rfl⟩:∃ z,k=z+1:=⟨k-1,by omega⟩;have u:=u k (i+1) (by omega) (by omega);show Q32.s0 K (l,()) _ _=_;have r:i<l.length:=by omega
   simp only[Q32.s0];rw[decide_eq_true (by omega:(i:Int)<(BA l:Int)),ag r,ar i (by omega)];simp only[cond_true,BB];have I:decide ((BA (List.map (λx:aL=>x.1) (List.take i l))+BA [l[i].1])*32<=am)=true:=decide_eq_true (by simp only[am,List.length_map,List.length_take,BP];omega);rw[I];have e:(List.take i l).map (λx:aL=>x.1)++[l[i].1]=(l.take (i+1)).map (·.1):=by
    rw[BS,BF r,List.map_append];rfl
   rw[e];exact u
 have:=y l.length K 0 (by omega) (by omega);exact this
theorem vq {l:List aL}:ax (l.map (·.1))<->(∀ x∈l,bq x.1)/\Asc (λx:aL=>x.1.1) l:=by
 unfold ax Asc;rw[BL];simp
theorem wP (K:Nat)(x:aL):Ret (Q31.f K (x,())) (¬ InP x.2 1 4):=by
 simp only[Q31.f];exact (eJ K x.2 1 4).neg
theorem yd (K:Nat)(l:List aL)(z:l.length<=1048576)(r:1048577<K):Ret (Q30.f K (l,(λu=>(Q31.f K (u.1,())).map λy=>y.1.1),())) (∃ x∈l,¬ InP x.2 1 4) :=
 qS K l _ (λx=>¬ InP x.2 1 4) z r (λx _=>Ret.fn (wP K x))
theorem oM (K:Nat)(l:List aL)(y:l.length<=1048576)(u:1048577<K):Ret (Q33.f K (l,())) (cU l):=by
 simp only[Q33.f];obtain⟨H,I,M⟩:=yd K l y u;obtain⟨z,O,J⟩:=gm K (l.map (·.1)) (by simpa using y) u;rw[uD K l y u,BB,O,BB,I,BB];have e:cU l<->(z=true/\H=false):=by
  rw[J,vq,cU,<- Bool.not_eq_true,M];constructor
  ·rintro⟨h5,h6⟩;exact⟨⟨λx r=>(h5 x r).1,h6⟩,λ⟨x,r,h⟩=>h (h5 x r).2⟩
  ·rintro⟨⟨h5,h6⟩,h7⟩;exact⟨λx r=>⟨h5 x r,BD.1 λh=>h7 ⟨x,r,h⟩⟩,h6⟩
 refine Ret.iff ?_ e.symm;cases z <;> cases H <;> exact⟨_,rfl,by simp⟩
def gU (t:List af)(l:List aL):Prop:=∀ x∈l,∃ f∈t,f.1=x.1.1/\¬ bI x.1 f
theorem gp {t:List af}(h:Asc (λf:af=>f.1) t){f g:af}(r:f∈t)(z:g∈t)(e:f.1=g.1):f=g:=by
 obtain⟨i,u,rfl⟩:=BG r;obtain⟨j,y,rfl⟩:=BG z;have:=lW h u y e;subst this;rfl
theorem tY (K:Nat)(n:aa)(H:NB n)(I:ax (aa.table n))(r:1048577<K):Ret (Q106.f K (n,())) (cU (aa.cast n)/\gU (aa.table n) (aa.cast n)):=by
 refine Ret.nx (yc K _ H.cast r) λ_=>?_
 refine (gj (aa.cast n) (step:=λrec a=>Q106.s0 K (n,()) rec a) (λi u=>∃ f∈aa.table n,f.1=(aa.cast n)[i].1.1/\¬ bI (aa.cast n)[i].1 f) H.cast ?_ ?_ r (λ_=>Ret.yes trivial)).iff (eV.trans ?_)
 ·intro rec i u;simp only[Q106.s0];rw[decide_eq_true (by omega:(i:Int)<(BA (aa.cast n):Int))];simp only[cond_true];refine Rnd.ix (ag u) ?_;obtain⟨o,O,M⟩:=fk K (aa.table n) (aa.cast n)[i].1.1 H.table r;refine Rnd.vl M ?_;cases O with
  |no h =>
   rw[show decide ((-1:Int)<0)=true from rfl];exact .inr ⟨λ⟨f,y,e,_⟩=>h f y e,rfl⟩
  |at_ j z e =>
   simp only;rw[decide_eq_false (by omega:¬ ((j:Int)<0))];refine (Rnd.ix (ag u) (Rnd.ix (ag z) (Rnd.fx (sE K _ _) λ_=>Rnd.end_))).iff ⟨λh=>⟨_,BC z,e,h.1⟩,λ⟨f,y,J,h⟩=>⟨?_,trivial⟩⟩;have:=gp I.2 y (BC z) (J.trans e.symm)
   rwa [<- this]
 ·intro rec;simp only[Q106.s0,aU];rfl
 ·rw[gU,dI]
theorem ye (K:Nat)(n:aa)(O:NB n)(I:ax (aa.table n))(Y:cU (aa.cast n))(J:1048577<K) :
  Ret ((Q30.f K (aa.cast n,(λR=>(Q37.f K (R.1,n,())).map λy=>y.1.1),())).bind λZ=>some ((!Z.1.1,()),())) (gU (aa.table n) (aa.cast n)):=by
 refine (Ret.neg (qS K _ _ (λx=>¬ ∃ f∈aa.table n,f.1=x.1.1/\¬ bI x.1 f) O.cast J (λx u=>Ret.fn ?_))).iff ?_
 ·simp only[Q37.f];rcases iz K (aa.table n) x.1.1 O.table J with ⟨z,_⟩|⟨_,⟨f,H,e,z⟩|⟨r,z⟩⟩
  ·exact absurd I z
  ·refine Ret.vl z ?_;refine (pu K x.1 f J).id.iff ⟨λh ⟨g,hg,X,M⟩=>?_,λh=>?_⟩
   ·have:=gp I.2 hg H (X.trans e.symm);exact M (this ▸ h.2.2.2)
   ·refine⟨(Y.1 x u).1,I.1 f H,e.symm,BD.1 λM=>h ⟨f,H,e,M⟩⟩
  ·refine Ret.vl z ?_;exact Ret.yes (λ⟨f,H,e,_⟩=>r f H e)
 ·exact⟨λh x u=>BD.1 λr=>h ⟨x,u,r⟩,λh ⟨x,u,r⟩=>r (h x u)⟩
def dh (n:aa):Prop:=((n.1,n.2.2.2.2.1,(if n.2.2.1=true then 4 else 1),n.2.2.2.1):af)∈aa.table n
theorem AB (K:Nat)(n:aa)(M:NB n)(y:ax (aa.table n))(z:1048577<K):Ret (Q103.f K (n,())) (dh n):=by
 simp only[Q103.f];obtain⟨o,O,J⟩:=fk K (aa.table n) n.1 M.table z;refine Ret.vl J ?_;cases O with
 |no h =>
  rw[show decide ((-1:Int)<0)=true from rfl];exact Ret.no (λH=>h _ H rfl)
 |at_ j u e =>
  simp only;rw[decide_eq_false (by omega:¬ ((j:Int)<0))];refine Ret.vl (ag u) ?_;have r:dh n<->(aa.table n)[j]=((n.1,n.2.2.2.2.1,(if n.2.2.1=true then 4 else 1),n.2.2.2.1):af):=by
   constructor
   ·intro h;exact gp y.2 (BC u) h e
   ·intro h;show _∈_;rw[<- h];exact BC u
  have I:(aa.table n)[j]=((n.1,n.2.2.2.2.1,(if n.2.2.1=true then 4 else 1),n.2.2.2.1):af)<->((aa.table n)[j].2.1=n.2.2.2.2.1/\(aa.table n)[j].2.2.1=(if n.2.2.1=true then 4 else 1)/\(aa.table n)[j].2.2.2=n.2.2.2.1):=by
   generalize (aa.table n)[j]=f at e ⊢;obtain⟨a,b,c,d⟩:=f;simp at e ⊢;intro _ _ _;exact e
  refine Ret.iff ?_ (r.trans I).symm;cases R:n.2.2.1 with
  |true=>exact Ret.cnd (by simp) λ_=>Ret.cnd (by simp) λ_=>Ret.of (by simp)
  |false=>exact Ret.cnd (by simp) λ_=>Ret.cnd (by simp) λ_=>Ret.of (by simp)
theorem kg (f g:af):Ty.eqv ty_impl_Fact_D f g=decide (f=g):=by
 obtain⟨a,b,c,d⟩:=f;obtain⟨y,z,u,r⟩:=g;show (decide (a=y)&&(decide (b=z)&&(decide (c=u)&&(d==r))))=_;cases d <;> cases r <;> simp[BR]
theorem AC (f g:dC):Ty.eqv ty_impl_Coord_D f g=decide (f=g):=by
 obtain⟨a,b,c,d⟩:=f;obtain⟨u,z,r,y⟩:=g;show (decide (a=u)&&(decide (b=z)&&(decide (c=r)&&decide (d=y))))=_;simp[BR]
theorem qp (K:Nat)(n:aa)(M:NB n)(I:1048577<K):Ret (Q38.f K (n,()))
  (ax (aa.table n)/\bP (aa.table n) (ak n.1)/\dh n/\cU (aa.cast n)/\gU (aa.table n) (aa.cast n)):=by
 have z:∀ (w:Int),ax (aa.table n)->Ret ((Q28.f K (n,())).bind λZ=>(Q27.f K (aa.table n,Z.1.1,())).bind λO=>bif !O.1.1 then rb false else
   ((Q33.f K (aa.cast n,())).bind λY=>bif !Y.1.1 then rb false else
    ((Q30.f K (aa.cast n,(λX=>(Q37.f K (X.1,n,())).map λy=>y.1.1),())).bind λy6=>some ((!y6.1.1,()),()))))
   (bP (aa.table n) (ak n.1)/\cU (aa.cast n)/\gU (aa.table n) (aa.cast n)):=by
  intro _ u;exact Ret.vl (qo K n) (Ret.nx (kf K _ _ M.table I) λ_=>Ret.nx (oM K _ M.cast I) λhC=>ye K n M u hC I)
 have r:∀ (w:Int),w=(if n.2.2.1=true then 4 else 1)->Ret ((Q22.f K (aa.table n,n.1,())).bind λy1=>bif !y1.1.2.1 then rb false else bif !Ty.eqv ty_impl_Fact_D y1.1.1 (n.1,(n.2.2.2.2.1,(w,n.2.2.2.1))) then rb false else
   ((Q28.f K (n,())).bind λZ=>(Q27.f K (aa.table n,Z.1.1,())).bind λO=>bif !O.1.1 then rb false else
   ((Q33.f K (aa.cast n,())).bind λY=>bif !Y.1.1 then rb false else
    ((Q30.f K (aa.cast n,(λX=>(Q37.f K (X.1,n,())).map λy=>y.1.1),())).bind λy6=>some ((!y6.1.1,()),())))))
   (ax (aa.table n)/\bP (aa.table n) (ak n.1)/\dh n/\cU (aa.cast n)/\gU (aa.table n) (aa.cast n)):=by
  intro w hw;rcases iz K (aa.table n) n.1 M.table I with ⟨H,R⟩|⟨u,⟨f,hf,e,H⟩|⟨R,H⟩⟩
  ·exact Ret.vl R (Ret.no (λh=>H h.1))
  ·refine Ret.vl H ?_;simp only[BE,cond_false];rw[kg];by_cases J:f=(n.1,(n.2.2.2.2.1,(w,n.2.2.2.1)))
   ·rw[decide_eq_true J];have hS:dh n:=by
     show _∈_;rw[<- hw,<- J];exact hf
    exact (z w u).iff ⟨λh=>⟨u,h.1,hS,h.2.1,h.2.2⟩,λh=>⟨h.2.1,h.2.2.2⟩⟩
   ·rw[decide_eq_false J];refine Ret.no (λh=>J ?_);have:=gp u.2 hf h.2.2.1 e;rw[this,hw]
  ·refine Ret.vl H (Ret.no (λh=>R _ h.2.2.1 rfl))
 simp only[Q38.f];cases hg:n.2.2.1 with
 |true=>exact r 4 (by rw[hg];rfl)
 |false=>exact r 1 (by rw[hg];rfl)
def c9 (n:aa):Prop:=if (aa.probe n).1=-1 then aa.probe n=(-1,0,0,false) else
 (aa.probe n).1≠n.1/\(∃ f∈aa.table n,f.1=(aa.probe n).1)/\InP (aa.probe n).2.1 0 n.2.2.2.2.2.1/\InP (aa.probe n).2.2.1 1 n.2.2.2.2.2.2.1
theorem zz (K:Nat)(n:aa)(J:NB n)(u:1048577<K):Ret (Q107.f K (n,())) (c9 n):=by
 simp only[Q107.f,c9];by_cases h:(aa.probe n).1=-1
 ·rw[if_pos h,show ((aa.probe n).1==-1)=true by simpa using h];refine (Ret.cnd (P:=(aa.probe n).2.1=0) (by simp) λ_=>Ret.cnd (P:=(aa.probe n).2.2.1=0) (by simp) λ_=>Ret.of (P:=(aa.probe n).2.2.2=false) (by simp)).iff ?_;generalize aa.probe n=p at h ⊢;obtain⟨a,b,c,d⟩:=p;simp at h ⊢;intro _ _ _;exact h
 ·rw[if_neg h,show ((aa.probe n).1==-1)=false by simpa using h];refine Ret.cnd (by simp) λ_=>?_
  obtain⟨o,M,z⟩:=fk K (aa.table n) (aa.probe n).1 J.table u;refine Ret.vl z ?_;cases M with
  |no y=>exact Ret.no (λ⟨⟨f,H,e⟩,_⟩=>y f H e)
  |at_ j I e =>
   simp only;rw[show decide ((j:Int)>=0)=true from decide_eq_true (by omega)];exact (Ret.px (cI K _ _ _) λ_=>(cI K _ _ _).id).iff ⟨λr=>⟨⟨_,BC I,e⟩,r⟩,λr=>r.2⟩
theorem zA (K:Nat)(n:aa)(I:NB n)(z:ax (aa.table n))(H:1048577<K):Ret (Q39.f K (n,())) (c9 n):=by
 simp only[Q39.f,c9];by_cases h:(aa.probe n).1=-1
 ·rw[if_pos h,show ((aa.probe n).1==-1)=true by simpa using h,kg];exact Ret.dec
 ·rw[if_neg h,show ((aa.probe n).1==-1)=false by simpa using h];rcases iz K (aa.table n) (aa.probe n).1 I.table H with ⟨r,_⟩|⟨_,⟨f,y,e,r⟩|⟨J,r⟩⟩
  ·exact absurd z r
  ·refine Ret.vl r ?_;exact (Ret.cnd (P:=(aa.probe n).1≠n.1) (by simp) λ_=>Ret.px (eJ K _ _ _) λ_=>(eJ K _ _ _).id).iff ⟨λu=>⟨u.1,⟨f,y,e⟩,u.2⟩,λu=>⟨u.1,u.2.2⟩⟩
  ·exact Ret.vl r (Ret.no (λ⟨_,⟨f,y,e⟩,_⟩=>J f y e))
def cJ (c:dC):Prop:=InP c.1 (-100000) 100000/\InP c.2.1 (-100000) 100000/\InP c.2.2.1 0 100000/\InP c.2.2.2 1 1500
theorem iA (K:Nat)(c:dC):Ret (Q109.f K (c,())) (cJ c) :=
 Ret.px (cI K _ _ _) λ_=>Ret.px (cI K _ _ _) λ_=>Ret.px (cI K _ _ _) λ_=>(cI K _ _ _).id
theorem nH (K:Nat)(c:dC):Ret (Q42.f K (c,())) (cJ c) :=
 Ret.px (eJ K _ _ _) λ_=>Ret.px (eJ K _ _ _) λ_=>Ret.px (eJ K _ _ _) λ_=>(eJ K _ _ _).id
def AD (r:Int)(p:dM):Prop:=InP p.1 0 7/\ak p.1=ak r/\p.1≠r/\cJ p.2.1/\InP (p.2.2.length:Int) 1 3/\∀ t∈p.2.2,InP t 1 60000
def er (r:Int)(l:List dM):Prop:=(∀ p∈l,AD r p)/\Asc (λp:dM=>p.1) l
theorem pv (K:Nat)(n:aa)(x:Int):Ret (Q40.f K (n,x,())) (InP x 0 7/\ak x=ak n.1):=by
 refine Ret.px (jb K x) λ_=>?_
 exact Ret.of (b:=ak x==ak n.1) (by simp)
theorem zC (K:Nat)(n:aa)(x:Int):Ret (Q43.f K (n,x,())) ((InP x 0 7/\ak x=ak n.1)/\x≠n.1):=by
 refine Ret.px (pv K n x) λ_=>?_
 exact Ret.of (b:=x != n.1) (by simp)
theorem yf (K:Nat)(n:aa)(X:NB n)(Z:1048577<K):Ret (Q110.f K (n,())) (er n.1 (aa.places n)):=by
 refine (gj (aa.places n) (step:=λrec a=>Q110.s0 K (n,()) (Q110.l1 K (n,()) rec) rec a)
  (λi y=>InP (aa.places n)[i].1 0 7/\¬ ak (aa.places n)[i].1≠ak n.1/\¬ (aa.places n)[i].1=n.1/\(0<i->¬ ((aa.places n)[i-1]'(by omega)).1>=(aa.places n)[i].1) /\
   cJ (aa.places n)[i].2.1/\InP ((aa.places n)[i].2.2.length:Int) 1 3/\∀ k (z:k<(aa.places n)[i].2.2.length),InP (aa.places n)[i].2.2[k] 1 60000/\True) X.places ?_ ?_ Z (λ_=>Ret.yes trivial)).iff (eV.trans ?_)
 ·intro rec i y;have hb:=X.trips _ (BC y);have hl:=X.places;have u:Rnd (Q110.l1 K (n,()) rec ((i:Int),0,(aa.places n)[i].1,(aa.places n)[i].2.1.1,(aa.places n)[i].2.1.2.1,(aa.places n)[i].2.1.2.2.1,(aa.places n)[i].2.1.2.2.2,(aa.places n)[i].2.2))
    (∀ k (z:k<(aa.places n)[i].2.2.length),InP (aa.places n)[i].2.2[k] 1 60000/\True) (rec (wr .i64 ((i:Int)+1))):=by
   generalize (aa.places n)[i]=p at hb;refine oJ p.2.2 (step:=λr a=>Q110.s1 K (n,()) rec r a) (λk=>((i:Int),(k:Int),p.1,p.2.1.1,p.2.1.2.1,p.2.1.2.2.1,p.2.1.2.2.2,p.2.2)) (λk z=>InP p.2.2[k] 1 60000/\True) hb ?_ ?_ Z
   ·intro r k z;simp only[Q110.s1];rw[decide_eq_true (by omega:(k:Int)<(BA p.2.2:Int)),ar k (by omega)];simp only[cond_true];exact Rnd.ix (ag z) (Rnd.nx (cI K _ _ _) λ_=>Rnd.end_)
   ·intro r;simp only[Q110.s1,aU];rfl
  simp only[Q110.s0];rw[decide_eq_true (by omega:(i:Int)<(BA (aa.places n):Int))];simp only[cond_true];refine Rnd.ix (ag y) (Rnd.nx (cI K _ _ _) λ_=>Rnd.vl (ez K _) (Rnd.vl (ez K _) (Rnd.cndN (by simp) λ_=>Rnd.cndN (by simp) λ_=>Rnd.two (λH=>?_) ?_)))
  ·rw[eP i H (by omega)];exact Rnd.ix (ag (show i-1<(aa.places n).length by omega)) (Rnd.cndN (by simp) λ_=>Rnd.nx (iA K _) λ_=>Rnd.nx (cI K _ _ _) λ_=>u)
  ·exact Rnd.nx (iA K _) λ_=>Rnd.nx (cI K _ _ _) λ_=>u
 ·intro rec;simp only[Q110.s0,aU];rfl
 ·rw[er,dI,gK];constructor
  ·intro h;refine⟨λi y=>?_,λi y H=>?_⟩
   ·obtain⟨R,J,M,h4,I,O,Y⟩:=h i y;exact⟨R,BD.1 J,M,I,O,dI.2 λk z=>(Y k z).1⟩
   ·have:=(h i y).2.2.2.1 H;omega
  ·rintro⟨R,J⟩ i y;obtain⟨M,h4,I,O,Y,h8⟩:=R i y;exact⟨M,BD.2 h4,I,λH=>by have:=J i y H;omega,O,Y,λk z=>⟨dI.1 h8 k z,trivial⟩⟩
theorem yg (K:Nat)(n:aa)(Y:NB n)(hK:1048577<K):Ret (Q47.f K (n,())) (er n.1 (aa.places n)):=by
 refine (gj (aa.places n) (step:=λrec a=>Q47.s0 K (n,()) rec a)
  (λi u=>((InP (aa.places n)[i].1 0 7/\ak (aa.places n)[i].1=ak n.1)/\(aa.places n)[i].1≠n.1)/\(0<i->¬ (aa.places n)[i].1<=((aa.places n)[i-1]'(by omega)).1) /\
   cJ (aa.places n)[i].2.1/\InP ((aa.places n)[i].2.2.length:Int) 1 3/\(¬ ∃ t∈(aa.places n)[i].2.2,¬ InP t 1 60000)/\True) Y.places ?_ ?_ hK (λ_=>Ret.yes trivial)).iff (eV.trans ?_)
 ·intro rec i u;have hb:=Y.trips _ (BC u);have hl:=Y.places;have r:Ret (Q46.f K ((aa.places n)[i].2.2,(λy6=>(Q44.f K (y6.1,())).map λy=>y.1.1),())) (∃ t∈(aa.places n)[i].2.2,¬ InP t 1 60000) :=
   yb K _ _ _ hb hK (λt _=>Ret.fn (eJ K t _ _).neg)
  simp only[Q47.s0];rw[decide_eq_true (by omega:(i:Int)<(BA (aa.places n):Int))];simp only[cond_true];refine Rnd.ix (ag u) (Rnd.nx (zC K n _) λ_=>Rnd.two (λz=>?_) ?_)
  ·rw[eP i z (by omega)];exact Rnd.ix (ag (show i-1<(aa.places n).length by omega)) (Rnd.cndN (by simp) λ_=>Rnd.nx (nH K _) λ_=>Rnd.nx (eJ K _ _ _) λ_=>Rnd.fx r λ_=>Rnd.end_)
  ·exact Rnd.nx (nH K _) λ_=>Rnd.nx (eJ K _ _ _) λ_=>Rnd.fx r λ_=>Rnd.end_
 ·intro rec;simp only[Q47.s0,aU];rfl
 ·rw[er,dI,gK];constructor
  ·intro h;refine⟨λi u=>?_,λi u z=>?_⟩
   ·obtain⟨⟨⟨O,I⟩,J⟩,h4,H,M,Z,_⟩:=h i u;exact⟨O,I,J,H,M,λt R=>BD.1 λX=>Z ⟨t,R,X⟩⟩
   ·have:=(h i u).2.1 z;omega
  ·rintro⟨O,I⟩ i u;obtain⟨J,h4,H,M,Z,X⟩:=O i u;exact⟨⟨⟨J,h4⟩,H⟩,λz=>by have:=I i u z;omega,M,Z,λ⟨t,R,h9⟩=>h9 (X t R),trivial⟩
def AE (r:Int)(x:b8):Prop:=InP x.1 0 1/\x.1≠ak r/\x.2≠[]/\ax x.2/\bP x.2 x.1
def da (r:Int)(l:List b8):Prop:=(∀ x∈l,AE r x)/\Asc (λx:b8=>x.1) l
theorem oN {α:Type}(l:List α):((BA l:Int)==0)=true<->l=[]:=by
 cases l <;> simp;omega
theorem yh (K:Nat)(n:aa)(H:NB n)(u:1048577<K):Ret (Q111.f K (n,())) (da n.1 (aa.others n)):=by
 refine (gj (aa.others n) (step:=λrec a=>Q111.s0 K (n,()) rec a)
  (λi r=>InP (aa.others n)[i].1 0 1/\¬ (aa.others n)[i].1=ak n.1/\(0<i->¬ ((aa.others n)[i-1]'(by omega)).1>=(aa.others n)[i].1) /\
   ¬ (aa.others n)[i].2=[]/\ax (aa.others n)[i].2/\bP (aa.others n)[i].2 (aa.others n)[i].1/\True) H.others ?_ ?_ u (λ_=>Ret.yes trivial)).iff (eV.trans ?_)
 ·intro rec i r;have z:=H.facts _ (BC r);have X:=H.others;simp only[Q111.s0];rw[decide_eq_true (by omega:(i:Int)<(BA (aa.others n):Int))];simp only[cond_true];refine Rnd.ix (ag r) (Rnd.nx (cI K _ _ _) λ_=>Rnd.vl (ez K _) (Rnd.cndN (by simp) λ_=>Rnd.two (λy=>?_) ?_))
  ·rw[eP i y (by omega)];exact Rnd.ix (ag (show i-1<(aa.others n).length by omega)) (Rnd.cndN (by simp) λ_=>Rnd.cndN (oN _) λ_=>Rnd.nx (gl K _ z u) λ_=>Rnd.nx (gn K _ _ z u) λ_=>Rnd.end_)
  ·exact Rnd.cndN (oN _) λ_=>Rnd.nx (gl K _ z u) λ_=>Rnd.nx (gn K _ _ z u) λ_=>Rnd.end_
 ·intro rec;simp only[Q111.s0,aU];rfl
 ·rw[da,dI,gK];constructor
  ·intro h;exact⟨λi r=>⟨(h i r).1,(h i r).2.1,(h i r).2.2.2.1,(h i r).2.2.2.2.1,(h i r).2.2.2.2.2.1⟩,λi r y=>by have:=(h i r).2.2.1 y;omega⟩
  ·rintro⟨h1,h2⟩ i r;obtain⟨J,R,I,M,O⟩:=h1 i r;exact⟨J,R,λy=>by have:=h2 i r y;omega,I,M,O,trivial⟩
theorem yi (K:Nat)(n:aa)(J:NB n)(u:1048577<K):Ret (Q48.f K (n,())) (da n.1 (aa.others n)):=by
 refine (gj (aa.others n) (step:=λrec a=>Q48.s0 K (n,()) rec a)
  (λi r=>InP (aa.others n)[i].1 0 1/\¬ (aa.others n)[i].1=ak n.1/\(0<i->¬ (aa.others n)[i].1<=((aa.others n)[i-1]'(by omega)).1) /\
   ¬ (aa.others n)[i].2=[]/\ax (aa.others n)[i].2/\bP (aa.others n)[i].2 (aa.others n)[i].1/\True) J.others ?_ ?_ u (λ_=>Ret.yes trivial)).iff (eV.trans ?_)
 ·intro rec i r;have H:=J.facts _ (BC r);have Y:=J.others;have I:ak 7=1:=by unfold ak;rw[aC (by decide) (by decide)];decide
  have z:=eJ K (aa.others n)[i].1 0 (ak 7);rw[I]at z;simp only[Q48.s0];rw[decide_eq_true (by omega:(i:Int)<(BA (aa.others n):Int))];simp only[cond_true];refine Rnd.ix (ag r) (Rnd.vl (pt K 7) ?_);dsimp only;rw[I];refine Rnd.nx z λ_=>Rnd.vl (qo K n) (Rnd.cndN (by simp) λ_=>Rnd.two (λy=>?_) ?_)
  ·rw[eP i y (by omega)];exact Rnd.ix (ag (show i-1<(aa.others n).length by omega)) (Rnd.cndN (by simp) λ_=>Rnd.cndN (oN _) λ_=>Rnd.nx (gm K _ H u) λ_=>Rnd.nx (kf K _ _ H u) λ_=>Rnd.end_)
  ·exact Rnd.cndN (oN _) λ_=>Rnd.nx (gm K _ H u) λ_=>Rnd.nx (kf K _ _ H u) λ_=>Rnd.end_
 ·intro rec;simp only[Q48.s0,aU];rfl
 ·rw[da,dI,gK];constructor
  ·intro h;exact⟨λi r=>⟨(h i r).1,(h i r).2.1,(h i r).2.2.2.1,(h i r).2.2.2.2.1,(h i r).2.2.2.2.2.1⟩,λi r y=>by have:=(h i r).2.2.1 y;omega⟩
  ·rintro⟨h1,h2⟩ i r;obtain⟨O,X,M,R,I⟩:=h1 i r;exact⟨O,X,λy=>by have:=h2 i r y;omega,M,R,I,trivial⟩
def ByP (r:Int)(l:List Int):Prop:=(∀ b∈l,InP b 0 7/\ak b=ak r)/\Asc (λb:Int=>b) l
def lv (n:aa)(d:bo):Prop:=(∃ f∈aa.table n,f.1=d.1/\f.2.2.1=2/\f.2.1=d.2.1)/\InP d.2.2.1 0 n.2.2.2.2.2.1/\d.2.2.2≠[]/\ByP n.1 d.2.2.2
def aS (t:List af):List af:=t.filter λf=>f.2.2.1==2
def iB (n:aa):Prop:=(∀ d∈aa.doubts n,lv n d)/\Asc (λd:bo=>d.1) (aa.doubts n)/\(aS (aa.table n)).length=(aa.doubts n).length
theorem wQ {y:Int}{l:List Int}:ByP y l<->∀ k (r:k<l.length),(InP l[k] 0 7/\ak l[k]=ak y)/\(0<k->¬ l[k-1]'(by omega)>=l[k]):=by
 rw[ByP,dI,gK];constructor
 ·rintro⟨h1,h2⟩ k r;exact⟨h1 k r,λu=>by have:=h2 k r u;omega⟩
 ·intro h;exact⟨λk r=>(h k r).1,λk r u=>by have:=(h k r).2 u;omega⟩
theorem zD (K:Nat)(n:aa)(O:NB n)(R:1048577<K):Q108.l2 K (n,()) (0,0)=rb (decide ((aS (aa.table n)).length=(aa.doubts n).length)):=by
 have X:=O.table;have u:∀ (d k i c:Nat),i+d=(aa.table n).length->d<k->c<=i ->
   ae (λrec a=>Q108.s2 K (n,()) rec a) k ((c:Int),(i:Int))=rb (decide (c+(aS ((aa.table n).drop i)).length=(aa.doubts n).length)):=by
  intro d;induction d with
  |zero =>
   intro k i c J M I;obtain⟨k,rfl⟩:∃ y,k=y+1:=⟨k-1,by omega⟩;show Q108.s2 K (n,()) _ _=_;simp only[Q108.s2];rw[decide_eq_false (show ¬ ((i:Int)<(BA (aa.table n):Int)) by omega),BN (by omega)];simp only[cond_false,aS,List.filter_nil,List.length_nil,Nat.add_zero];have e:((c:Int)==(BA (aa.doubts n):Int))=decide (c=(aa.doubts n).length):=by
    by_cases h:c=(aa.doubts n).length
    ·rw[decide_eq_true h,h];simp
    ·rw[decide_eq_false h,beq_eq_false_iff_ne];omega
   exact congrArg rb e
  |succ d z =>
   intro k i c J M I;obtain⟨k,rfl⟩:∃ y,k=y+1:=⟨k-1,by omega⟩;have r:i<(aa.table n).length:=by omega
   show Q108.s2 K (n,()) _ _=_;simp only[Q108.s2];rw[decide_eq_true (show ((i:Int)<(BA (aa.table n):Int)) by omega),ag r,ar i (by omega),ar c (by omega),BK r];simp only[cond_true,BB];cases H:((aa.table n)[i].2.2.1==2) with
   |true =>
    have:=z k (i+1) (c+1) (by omega) (by omega) (by omega);simp only[cond_true];have e:c+1+(aS ((aa.table n).drop (i+1))).length=c+(aS ((aa.table n)[i]::(aa.table n).drop (i+1))).length:=by
     simp only[aS,BM,H,if_true,List.length_cons];omega
    rw[<- e];exact this
   |false =>
    have:=z k (i+1) c (by omega) (by omega) (by omega);simp only[cond_false];have e:aS ((aa.table n)[i]::(aa.table n).drop (i+1))=aS ((aa.table n).drop (i+1)):=by
     simp only[aS,BM,H,BH,if_false]
    rw[e];exact this
 have:=u (aa.table n).length K 0 0 (by omega) (by omega) (BU _);rw[BW,Nat.zero_add]at this;exact this
theorem yj (K:Nat)(n:aa)(X:NB n)(hT:ax (aa.table n))(Y:1048577<K):Ret (Q108.f K (n,())) (iB n):=by
 refine (gj (aa.doubts n) (step:=λrec a=>Q108.s0 K (n,()) (Q108.l1 K (n,()) rec) (Q108.l2 K (n,())) rec a)
  (λi z=>(0<i->¬ ((aa.doubts n)[i-1]'(by omega)).1>=(aa.doubts n)[i].1)/\lv n (aa.doubts n)[i]) (Q:=(aS (aa.table n)).length=(aa.doubts n).length) (rt:=Q108.l2 K (n,()) (0,0)) X.doubts ?_ ?_ Y (λ_=>by rw[zD K n X Y];exact Ret.dec)).iff ?_
 ·intro rec i z;have Z:=X.by_ _ (BC z);have hl:=X.doubts;have y:Rnd (Q108.l1 K (n,()) rec ((i:Int),0,(aa.doubts n)[i].1,(aa.doubts n)[i].2.1,(aa.doubts n)[i].2.2.1,(aa.doubts n)[i].2.2.2)) (ByP n.1 (aa.doubts n)[i].2.2.2) (rec (wr .i64 ((i:Int)+1))):=by
   generalize (aa.doubts n)[i]=d at Z;refine (oJ d.2.2.2 (step:=λu a=>Q108.s1 K (n,()) rec u a) (λk=>((i:Int),(k:Int),d.1,d.2.1,d.2.2.1,d.2.2.2))
    (λk r=>InP d.2.2.2[k] 0 7/\¬ ak d.2.2.2[k]≠ak n.1/\(0<k->¬ d.2.2.2[k-1]'(by omega)>=d.2.2.2[k])/\True) Z ?_ ?_ Y).iff ?_
   ·intro u k r;simp only[Q108.s1];rw[decide_eq_true (by omega:(k:Int)<(BA d.2.2.2:Int)),ar k (by omega)];simp only[cond_true];refine Rnd.ix (ag r) (Rnd.nx (cI K _ _ _) λ_=>Rnd.ix (ag r) (Rnd.vl (ez K _) (Rnd.vl (ez K _) (Rnd.cndN (by simp) λ_=>Rnd.two (λH=>?_) Rnd.end_))));rw[eP k H (by omega)];exact Rnd.ix (ag (show k-1<d.2.2.2.length by omega)) (Rnd.ix (ag r) (Rnd.cndN (by simp) λ_=>Rnd.end_))
   ·intro u;simp only[Q108.s1,aU];rfl
   ·rw[wQ];constructor
    ·intro h k r;exact⟨⟨(h k r).1,BD.1 (h k r).2.1⟩,(h k r).2.2.1⟩
    ·intro h k r;exact⟨(h k r).1.1,BD.2 (h k r).1.2,(h k r).2,trivial⟩
  obtain⟨o,ho,R⟩:=fk K (aa.table n) (aa.doubts n)[i].1 X.table Y;simp only[Q108.s0];rw[decide_eq_true (show ((i:Int)<(BA (aa.doubts n):Int)) by omega)];simp only[cond_true];refine Rnd.ix (ag z) (Rnd.vl R ?_);cases ho with
  |no h =>
   have O:¬ lv n (aa.doubts n)[i]:=λ⟨⟨f,R,e,_⟩,_⟩=>h f R e
   refine Rnd.two (λH=>?_) ?_
   ·rw[eP i H (by omega)];refine Rnd.ix (ag (show i-1<(aa.doubts n).length by omega)) (Rnd.cndN (by simp) λ_=>?_);exact .inr ⟨O,rfl⟩
   ·exact .inr ⟨O,rfl⟩
  |at_ j M e =>
   have I:decide ((j:Int)<0)=false:=decide_eq_false (by omega);have J:lv n (aa.doubts n)[i]<->(¬ (aa.table n)[j].2.2.1≠2/\¬ (aa.table n)[j].2.1≠(aa.doubts n)[i].2.1/\InP (aa.doubts n)[i].2.2.1 0 n.2.2.2.2.2.1/\¬ (aa.doubts n)[i].2.2.2=[]/\ByP n.1 (aa.doubts n)[i].2.2.2):=by
    constructor
    ·rintro⟨⟨f,R,e1,e2,e3⟩,h2,h3,h4⟩;have:=gp hT.2 R (BC M) (e1.trans e.symm);subst this;exact⟨BD.2 e2,BD.2 e3,h2,h3,h4⟩
    ·rintro⟨e2,e3,h2,h3,h4⟩;exact⟨⟨_,BC M,e,BD.1 e2,BD.1 e3⟩,h2,h3,h4⟩
   refine Rnd.two (λH=>?_) ?_
   ·rw[eP i H (by omega)];refine Rnd.ix (ag (show i-1<(aa.doubts n).length by omega)) (Rnd.cndN (by simp) λ_=>?_);simp only[I,cond_false];refine Rnd.iff ?_ J.symm;exact Rnd.ix (ag M) (Rnd.cndN (by simp) λ_=>Rnd.ix (ag M) (Rnd.cndN (by simp) λ_=>Rnd.nx (cI K _ _ _) λ_=>Rnd.cndN (oN _) λ_=>y))
   ·simp only[I,cond_false];refine Rnd.iff ?_ J.symm;exact Rnd.ix (ag M) (Rnd.cndN (by simp) λ_=>Rnd.ix (ag M) (Rnd.cndN (by simp) λ_=>Rnd.nx (cI K _ _ _) λ_=>Rnd.cndN (oN _) λ_=>y))
 ·intro rec;simp only[Q108.s0,aU];rfl
 ·rw[iB,dI,gK];constructor
  ·rintro⟨h1,h2⟩;exact⟨λi z=>(h1 i z).2,λi z H=>by have:=(h1 i z).1 H;omega,h2⟩
  ·rintro⟨h1,h2,h3⟩;exact⟨λi z=>⟨λH=>by have:=h2 i z H;omega,h1 i z⟩,h3⟩
theorem zE (K:Nat)(n:aa)(Z:NB n)(S:List af)(hS:S.length=(aa.doubts n).length)(hK:1048577<K):Ret (Q41.l1 K (n,()) (S,0))
  (∀ i (u:i<(aa.doubts n).length),(aa.doubts n)[i].1=(S[i]'(by omega)).1/\(aa.doubts n)[i].2.1=(S[i]'(by omega)).2.1/\InP (aa.doubts n)[i].2.2.1 0 n.2.2.2.2.2.1/\(aa.doubts n)[i].2.2.2≠[]/\ByP n.1 (aa.doubts n)[i].2.2.2):=by
 have hl:=Z.doubts;have J:=lV (step:=λrec a=>Q41.s1 K (n,()) (Q41.l2 K (n,()) rec) rec a) (aa.doubts n).length (λi=>(S,(i:Int)))
  (λi=>∀ u:i<(aa.doubts n).length,¬ (aa.doubts n)[i].1≠(S[i]'(by omega)).1/\¬ (aa.doubts n)[i].2.1≠(S[i]'(by omega)).2.1/\InP (aa.doubts n)[i].2.2.1 0 n.2.2.2.2.2.1/\¬ (aa.doubts n)[i].2.2.2=[]/\ByP n.1 (aa.doubts n)[i].2.2.2)
  (rb true) (rb false) ?_ ?_ (aa.doubts n).length K 0 (by omega) (by omega)
 ·rcases J with ⟨R,I⟩|⟨R,I⟩
  ·refine⟨true,I,iff_of_true rfl λi u=>?_⟩;obtain⟨O,X,M⟩:=R i (BI _) u u;exact⟨BD.1 O,BD.1 X,M⟩
  ·refine⟨false,I,iff_of_false (by simp) λh=>R λi _ u _=>?_⟩;obtain⟨O,X,M⟩:=h i u;exact⟨BD.2 O,BD.2 X,M⟩
 ·intro rec i u;have Y:=Z.by_ _ (BC u);have H:Rnd (Q41.l2 K (n,()) rec (S,(i:Int),(aa.doubts n)[i].2.2.2,(BA (aa.doubts n)[i].2.2.2:Int),0,(aa.doubts n)[i].1,(aa.doubts n)[i].2.1,(aa.doubts n)[i].2.2.1,(aa.doubts n)[i].2.2.2)) (ByP n.1 (aa.doubts n)[i].2.2.2) (rec (S,wr .i64 ((i:Int)+1))):=by
   generalize (aa.doubts n)[i]=d at Y;refine (oJ d.2.2.2 (step:=λr a=>Q41.s2 K (n,()) rec r a) (λk=>(S,(i:Int),d.2.2.2,(BA d.2.2.2:Int),(k:Int),d.1,d.2.1,d.2.2.1,d.2.2.2))
    (λk z=>(InP d.2.2.2[k] 0 7/\ak d.2.2.2[k]=ak n.1)/\(0<k->¬ d.2.2.2[k]<=d.2.2.2[k-1]'(by omega))/\True) Y ?_ ?_ hK).iff ?_
   ·intro r k z;simp only[Q41.s2,zcp4];rw[decide_eq_true (by omega:(k:Int)<(BA d.2.2.2:Int)),ar k (by omega)];simp only[cond_true];refine Rnd.ix (ag z) (Rnd.nx (pv K n _) λ_=>Rnd.two (λh0=>?_) Rnd.end_);rw[eP k h0 (by omega)];exact Rnd.ix (ag (show k-1<d.2.2.2.length by omega)) (Rnd.cndN (by simp) λ_=>Rnd.end_)
   ·intro r;simp only[Q41.s2,zcp4,aU];rfl
   ·rw[wQ];constructor
    ·intro h k z;exact⟨(h k z).1,(h k z).2.1⟩
    ·intro h k z;exact⟨(h k z).1,(h k z).2,trivial⟩
  have y:i<S.length:=by omega
  have hr:Rnd (Q41.s1 K (n,()) (Q41.l2 K (n,()) rec) rec (S,(i:Int)))
    (¬ (aa.doubts n)[i].1≠S[i].1/\¬ (aa.doubts n)[i].2.1≠S[i].2.1/\InP (aa.doubts n)[i].2.2.1 0 n.2.2.2.2.2.1/\¬ (aa.doubts n)[i].2.2.2=[]/\ByP n.1 (aa.doubts n)[i].2.2.2) (rec (S,((i+1:Nat):Int))):=by
   rw[<- ar i (by omega)];simp only[Q41.s1];rw[decide_eq_true (show ((i:Int)<(BA (aa.doubts n):Int)) by omega),Int.toNat_natCast];simp only[cond_true];exact Rnd.ix (ag u) (Rnd.ix (ag y) (Rnd.ix (ag y) (Rnd.cndN (by simp) λ_=>Rnd.ix (ag y) (Rnd.ix (ag y) (Rnd.cndN (by simp) λ_=>Rnd.nx (eJ K _ _ _) λ_=>Rnd.cndN (oN _) λ_=>H)))))
  exact hr.imp (λh=>⟨λ_=>h.1,h.2⟩) (λh=>⟨λI=>h.1 (I u),h.2⟩)
 ·intro rec;simp only[Q41.s1,aU];rfl
theorem yk (K:Nat)(n:aa)(hn:NB n)(hT:ax (aa.table n))(hK:1048577<K):Ret (Q41.f K (n,())) (iB n):=by
 have hl:=hn.table;have a2:=hn.doubts;have Y:∀ (d k i:Nat),i+d=(aa.table n).length->d<k->ae (λrec a=>Q41.s0 K (n,()) (Q41.l1 K (n,())) rec a) k (aS ((aa.table n).take i),(i:Int)) =
   (bif (BA (aa.doubts n):Int) != (BA (aS (aa.table n)):Int) then rb false else Q41.l1 K (n,()) (aS (aa.table n),0)):=by
  intro d;induction d with
  |zero =>
   intro k i y hk;obtain⟨k,rfl⟩:∃ Z,k=Z+1:=⟨k-1,by omega⟩;show Q41.s0 K (n,()) _ _ _=_;simp only[Q41.s0];rw[decide_eq_false (show ¬ ((i:Int)<(BA (aa.table n):Int)) by omega),BO (by omega)];rfl
  |succ d J =>
   intro k i y hk;obtain⟨k,rfl⟩:∃ Z,k=Z+1:=⟨k-1,by omega⟩;have J:=J k (i+1) (by omega) (by omega);have O:i<(aa.table n).length:=by omega
   show Q41.s0 K (n,()) _ _ _=_;simp only[Q41.s0];rw[decide_eq_true (show ((i:Int)<(BA (aa.table n):Int)) by omega),ag O,ar i (by omega)];simp only[cond_true,BB];have e:aS ((aa.table n).take (i+1))=aS ((aa.table n).take i)++(if (aa.table n)[i].2.2.1==2 then [(aa.table n)[i]] else []):=by
    rw[aS,BS,BF O,List.filter_append];simp[aS,BM]
   cases hb:((aa.table n)[i].2.2.1==2) with
   |true =>
    rw[hb]at e;simp only[if_true]at e;simp only[cond_true];have a1:(aS ((aa.table n).take i)).length<=i:=Nat.le_trans (List.length_filter_le _ _) (by simp;omega);have hs:decide ((BA (aS ((aa.table n).take i))+BA [(aa.table n)[i]])*32<=am)=true:=decide_eq_true (by simp only[am,BP];omega);rw[hs];rw[e]at J;exact J
   |false =>
    rw[hb]at e;simp only[BH,if_false,List.append_nil]at e;rw[e]at J;exact J
 have h0:Q41.f K (n,())=_:=Y (aa.table n).length K 0 (by omega) (by omega);rw[h0];have z:∀ f∈aS (aa.table n),f∈aa.table n/\f.2.2.1=2:=λf I=>by
  rw[aS,BV]at I;exact⟨I.1,by simpa using I.2⟩
 have u:Asc (λf:af=>f.1) (aS (aa.table n)):=List.Pairwise.filter _ hT.2;by_cases r:(aS (aa.table n)).length=(aa.doubts n).length
 ·have:((BA (aa.doubts n):Int) != (BA (aS (aa.table n)):Int))=false:=by simp[r]
  rw[this];refine (zE K n hn _ r hK).iff ⟨λh=>⟨?_,?_,r⟩,λ⟨h1,h2,_⟩ i y=>?_⟩
  ·rw[dI];intro i y;obtain⟨R,h4,X,h6,h7⟩:=h i y;obtain⟨h8,h9⟩:=z _ (BC (show i<(aS (aa.table n)).length by omega));exact⟨⟨_,h8,R.symm,h9,h4.symm⟩,X,h6,h7⟩
  ·rw[cE]at u ⊢;intro i j y hj a0;have:=u i j (by omega) (by omega) a0;rw[(h i y).1,(h j hj).1];exact this
  ·have H:=ja ((aa.doubts n).map (·.1)) ((aS (aa.table n)).map (·.1)) (by rw[BL];exact h2) (by rw[BL];exact u) (by
    intro x hx;obtain⟨d,hd,rfl⟩:=BX.1 hx;obtain⟨⟨f,I,e1,e2,_⟩,_⟩:=h1 d hd;exact BX.2 ⟨f,by rw[aS,BV];exact⟨I,by simpa using e2⟩,e1⟩)
   have H:=H.2 (by simp[r]);have M:i<(aS (aa.table n)).length:=by omega
   have e:(aa.doubts n)[i].1=(aS (aa.table n))[i].1:=by
    have R:((aa.doubts n).map (·.1))[i]?=((aS (aa.table n)).map (·.1))[i]?:=by rw[H]
    rw[BT,BT,BF y,BF M]at R;simpa using R
   obtain⟨⟨f,I,e1,e2,e3⟩,h4,X,h6⟩:=h1 _ (BC y);have:=gp hT.2 I (z _ (BC M)).1 (e1.trans e);subst this;exact⟨e,e3.symm,h4,X,h6⟩
 ·have:((BA (aa.doubts n):Int) != (BA (aS (aa.table n)):Int))=true:=by simp;omega
  rw[this];exact Ret.no (λh=>r h.2.2)
def pw (n:aa):Prop:=n.2.2.1=false/\n.2.2.2.2.1=0/\n.2.2.2.2.2.1=0/\n.2.2.2.2.2.2.1=0/\n.2.2.2.2.2.2.2.1=0 /\
 wr .i64 (wr .i64 (wr .i64 (wr .i64 ((BA (aa.table n):Int)+(BA (aa.cast n):Int))+(BA (aa.doubts n):Int))+(BA (aa.places n):Int))+(BA (aa.others n):Int))=0 /\
 aa.probe n=(0,0,0,false)/\aa.coord n=(0,0,0,0)
def UpP (n:aa):Prop:=ax (aa.table n)/\bP (aa.table n) (ak n.1)/\dh n/\(cU (aa.cast n)/\gU (aa.table n) (aa.cast n))/\c9 n/\iB n/\cJ (aa.coord n)/\er n.1 (aa.places n)/\da n.1 (aa.others n)
def gL (n:aa):Prop:=InP n.1 0 7/\InP n.2.2.2.2.2.1 0 999999/\InP n.2.2.2.2.2.2.1 0 999999/\InP n.2.2.2.2.2.2.2.1 0 8/\InP n.2.2.2.2.1 0 999/\(if n.2.1=true then UpP n else pw n)
theorem sG (K:Nat)(n:aa)(u:NB n)(r:1048577<K):Ret (Q112.f K (n,())) (gL n):=by
 refine Ret.nx (cI K _ _ _) λ_=>Ret.nx (cI K _ _ _) λ_=>Ret.nx (cI K _ _ _) λ_=>Ret.nx (cI K _ _ _) λ_=>Ret.nx (cI K _ _ _) λ_=>?_
 dsimp only;cases H:n.2.1 with
 |false =>
  simp only[BQ,cond_true,BH,if_false,pw];refine Ret.cnd (by simp) λ_=>Ret.cnd (by simp) λ_=>Ret.cnd (by simp) λ_=>Ret.cnd (by simp) λ_=>Ret.cnd (by simp) λ_=>Ret.cnd (by simp) λ_=>?_
  refine Ret.iff (Ret.cnd (P:=(aa.probe n).1=0) (by simp) λ_=>Ret.cnd (P:=(aa.probe n).2.1=0) (by simp) λ_=>Ret.cnd (P:=(aa.probe n).2.2.1=0) (by simp) λ_=>Ret.cnd (P:=(aa.probe n).2.2.2=false) (by simp) λ_ =>
   Ret.cnd (P:=(aa.coord n).1=0) (by simp) λ_=>Ret.cnd (P:=(aa.coord n).2.1=0) (by simp) λ_=>Ret.cnd (P:=(aa.coord n).2.2.1=0) (by simp) λ_=>Ret.of (P:=(aa.coord n).2.2.2=0) (by simp)) ?_
  generalize aa.probe n=p;generalize aa.coord n=c;obtain⟨Y,M,X,I⟩:=p;obtain⟨J,O,z,R⟩:=c;simp only[BR];constructor
  ·rintro⟨h1,h2,h3,h4,h5,h6,h7,h8⟩;exact⟨⟨h1,h2,h3,h4⟩,h5,h6,h7,h8⟩
  ·rintro⟨⟨h1,h2,h3,h4⟩,h5,h6,h7,h8⟩;exact⟨h1,h2,h3,h4,h5,h6,h7,h8⟩
 |true =>
  simp only[BE,cond_false,if_true,UpP];exact Ret.px (gl K _ u.table r) λy=>Ret.vl (ez K _) (Ret.px (gn K _ _ u.table r) λ_=>Ret.px (AB K n u y r) λ_=>Ret.px (tY K n u y r) λ_=>Ret.px (zz K n u r) λ_ =>
   Ret.px (yj K n u y r) λ_=>Ret.px (iA K _) λ_=>Ret.px (yf K n u r) λ_=>(yh K n u r).id)
theorem AF (K:Nat)(n:aa):Ret (Q14.f K (n,())) (pw n):=by
 simp only[Q14.f,kg,AC,pw];exact Ret.cnd (by simp) λ_=>Ret.cnd (by simp) λ_=>Ret.cnd (by simp) λ_=>Ret.cnd (by simp) λ_=>Ret.cnd (by simp) λ_=>Ret.cnd (by simp) λ_=>Ret.cnd (by simp) λ_=>Ret.dec
theorem lY (K:Nat)(n:aa)(u:NB n)(r:1048577<K):Ret (Q49.f K (n,())) (gL n):=by
 refine Ret.nx (jb K _) λ_=>Ret.nx (eJ K _ _ _) λ_=>Ret.nx (eJ K _ _ _) λ_=>Ret.nx (eJ K _ _ _) λ_=>Ret.nx (eJ K _ _ _) λ_=>?_
 dsimp only;cases z:n.2.1 with
 |false =>
  simp only[BQ,cond_true,BH,if_false];exact (AF K n).id
 |true =>
  simp only[BE,cond_false,if_true,UpP];refine Ret.iff (Ret.px (qp K n u r) λy=>Ret.px (zA K n u y.1 r) λ_=>Ret.px (yk K n u y.1 r) λ_=>Ret.px (nH K _) λ_=>Ret.px (yg K n u r) λ_=>(yi K n u r).id) ?_;constructor
  ·rintro⟨⟨h1,h2,h3,h4,h5⟩,h6,h7,h8,h9,h10⟩;exact⟨h1,h2,h3,⟨h4,h5⟩,h6,h7,h8,h9,h10⟩
  ·rintro⟨h1,h2,h3,⟨h4,h5⟩,h6,h7,h8,h9,h10⟩;exact⟨⟨h1,h2,h3,h4,h5⟩,h6,h7,h8,h9,h10⟩
theorem nI {A R:Type}{step:(A->Option R)->A->Option R}(n:Nat)(S:Nat->A)(rt:Option R)(h:∀ (rec:A->Option R) (i:Nat),i<n->step rec (S i)=rec (S (i+1)))(r:∀ rec:A->Option R,step rec (S n)=rt)
  {k:Nat} (y:n<k):ae step k (S 0)=rt:=by
 rcases lV (step:=step) n S (λ_=>True) rt none (λrec i z=>.inl ⟨trivial,h rec i z⟩) r n k 0 (by omega) y with ⟨_,u⟩|⟨u,_⟩
 ·exact u
 ·exact absurd (λ_ _ _=>trivial) u
def Szd (o:Option ((Int×Unit)×Unit))(left:Int)(Q:Prop):Prop:=∃ r,o=some ((r,()),())/\(r<0\/(0<=r/\r<=left/\Q))
theorem Szd.sub (left:Int)(n:Nat)(M:0<=left)(I:left<=1048576)(J:n<=9223372036854775807){g:Option ((Int×Unit)×Unit)}{Q:Prop}(H:wr .i64 (left-(n:Int))=left-n->(n:Int)<=left->Szd g (left-n) Q) :
  Szd (bif decide (wr .i64 (left-(n:Int))<0) then some ((-1,()),()) else g) left (n<=1048576/\Q):=by
 have e:wr .i64 (left-(n:Int))=left-n:=aC (by omega) (by omega);by_cases h:left-(n:Int)<0
 ·rw[e,decide_eq_true h];exact⟨-1,rfl,.inl (by decide)⟩
 ·rw[decide_eq_false (by rw[e];exact h)];obtain⟨r,z,y⟩:=H e (by omega);exact⟨r,z,y.imp id λu=>⟨u.1,by omega,by omega,u.2.2⟩⟩
theorem Szd.bind {o:Option ((Int×Unit)×Unit)}{left:Int}{P Q:Prop}{G:(Int×Unit)×Unit->Option ((Int×Unit)×Unit)}(h:Szd o left P)(R:∀ r,0<=r->r<=left->P->Szd (G ((r,()),())) r Q) :
  Szd (o.bind λy=>bif decide (y.1.1<0) then some ((-1,()),()) else G y) left (P/\Q):=by
 obtain⟨r,X,u⟩:=h;rw[X,BB];rcases u with u|⟨u,J,z⟩
 ·rw[decide_eq_true u];exact⟨-1,rfl,.inl (by decide)⟩
 ·rw[show decide (r<0)=false from decide_eq_false (by omega)];obtain⟨I,O,M⟩:=R r u J z;exact⟨I,O,M.imp id λH=>⟨H.1,by omega,z,H.2.2⟩⟩
theorem Szd.ret (r:Int)(h:0<=r):Szd (some ((r,()),())) r True:=⟨r,rfl,.inr ⟨h,Int.le_refl _,trivial⟩⟩
theorem Szd.iff {o:Option ((Int×Unit)×Unit)}{left:Int}{P Q:Prop}(h:Szd o left P)(e:P->Q):Szd o left Q:=by
 obtain⟨r,y,z⟩:=h;exact⟨r,y,z.imp id λu=>⟨u.1,u.2.1,e u.2.2⟩⟩
end Go.Proofs.YtadlacffdemoiaaGreatEv
