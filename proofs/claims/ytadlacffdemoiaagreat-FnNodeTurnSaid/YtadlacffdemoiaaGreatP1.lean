/- What is ok of facts, tables, casts: the program and the specification say the same. -/
import Derived.Test.YtadlacffdemoiaaGreatFns
import Derived.Test.YtadlacffdemoiaaGreatP0
set_option linter.unusedVariables false
set_option linter.unusedSimpArgs false
open Bool renaming not_true->BU,false_eq_true->BX,not_false->B9
open Classical renaming not_not->BT
open Int renaming natCast_nonneg->BZ
open List renaming length->BQ,getElem_mem->BS,getElem?_eq_getElem->BV,getElem_of_mem->BW,drop_eq_getElem_cons->B3,pairwise_map->B4,filter_cons->B5,drop_of_length_le->B6,take_of_length_le->B7,length_singleton->B8,take_add_one->CB,getElem?_map->CC,mem_filter->CE,drop_zero->CF,mem_map->CG
open Nat renaming zero_le->BY,le_refl->CD
open Option renaming bind_some->BR
open Prod.mk renaming injEq->CA
namespace Go.Proofs.YtadlacffdemoiaaGreatEv
open Go
abbrev InP (n r u:Int):Prop:=r<=n/\n<=u
theorem eO (K:Nat)(n r u:Int):Ret (Q129.f K (n,r,u,())) (InP n r u):=by
 simp only[Q129.f];exact Ret.cnd (by simp) λ_=>Ret.dec
theorem cI (K:Nat)(n r u:Int):Ret (Q13.f K (n,r,u,())) (InP n r u):=by
 simp only[Q13.f];exact Ret.cnd (by simp) λ_=>Ret.dec
theorem Ret.id {o:Option RB}{P:Prop}(h:Ret o P):Ret (o.bind λy=>some ((y.1.1,()),())) P:=by
 obtain⟨b,r,u⟩:=h;exact⟨b,by rw[r];rfl,u⟩
theorem Ret.neg {o:Option RB}{P:Prop}(h:Ret o P):Ret (o.bind λy=>some ((!y.1.1,()),())) (¬ P):=by
 obtain⟨b,r,u⟩:=h;exact⟨!b,by rw[r];rfl,by cases b <;> simp_all⟩
def aX (f:af):Prop:=InP f.1 0 7/\InP f.2.1 0 999/\InP f.2.2.1 1 4
theorem jf (K:Nat)(n:Int):Ret (Q130.f K (n,())) (InP n 0 7):=(eO K n 0 7).id
theorem ma (K:Nat)(f:af):Ret (Q132.f K (f,())) (aX f) :=
 Ret.and (jf K f.1) (λ_=>Ret.and (eO K f.2.1 0 999) (λ_=>(eO K f.2.2.1 1 4).id) rfl) rfl
theorem o7 (K:Nat)(f:af):Ret (Q18.f K (f,())) (aX f) :=
 Ret.and (cI K f.1 0 7) (λ_=>Ret.and (cI K f.2.1 0 999) (λ_=>(cI K f.2.2.1 1 4).id) rfl) rfl
def ax (t:List af):Prop:=(∀ f∈t,aX f)/\Asc (λf:af=>f.1) t
theorem sU {t:List af}:ax t<->∀ j,j<t.length->∃ h:j<t.length,aX t[j]/\(0<j->(t[j-1]'(by omega)).1<t[j].1):=by
 unfold ax;rw[dH,gR];constructor
 ·rintro⟨h1,h2⟩ j hj;exact⟨hj,h1 j hj,λr=>h2 j hj r⟩
 ·intro h;exact⟨λi u=>(h i u).2.1,λi u r=>(h i u).2.2 r⟩
theorem e9 {P:Prop}:(P/\True)<->P:=by simp
theorem gw (K:Nat)(t:List af)(M:t.length<=1048576)(J:1048577<K):Ret (Q19.f K (t,())) (ax t):=by
 refine Ret.iff (qE (step:=λrec a=>Q19.s0 K (t,()) rec a) t.length (λi=>(i:Int)) (λj=>∃ h:j<t.length,aX t[j]/\(0<j->(t[j-1]'(by omega)).1<t[j].1)) (Q:=True) (rt:=rb true) ?_ ?_ (by omega) (λ_=>Ret.yes trivial)) (e9.trans sU.symm)
 ·intro rec i y;simp only[Q19.s0];rw[decide_eq_true (by omega:(i:Int)<(BQ t:Int)),ag y,ar i (by omega)];simp only[cond_true,BR];obtain⟨b,H,u⟩:=o7 K t[i];rw[H];simp only[BR];cases b with
  |false=>exact .inr ⟨λ⟨_,r,_⟩=>by simpa using u.2 r,rfl⟩
  |true =>
   simp only[BU,cond_false];by_cases z:(i:Int)>0
   ·rw[decide_eq_true z,eU i (by omega) (by omega),ag (by omega:i-1<t.length)];simp only[cond_true,BR];by_cases r:(t[i-1]'(by omega)).1>=t[i].1
    ·rw[decide_eq_true r];exact .inr ⟨λ⟨_,_,I⟩=>by have:=I (by omega);omega,rfl⟩
    ·rw[decide_eq_false r];exact .inl ⟨⟨y,u.1 rfl,λ_=>by omega⟩,rfl⟩
   ·rw[decide_eq_false z];exact .inl ⟨⟨y,u.1 rfl,λ_=>by omega⟩,rfl⟩
 ·intro rec;simp only[Q19.s0];rw[decide_eq_false (by omega:¬ ((t.length:Int)<(BQ t:Int)))];rfl
theorem gx (K:Nat)(t:List af)(M:t.length<=1048576)(J:1048577<K):Ret (Q133.f K (t,())) (ax t):=by
 refine Ret.iff (qE (step:=λrec a=>Q133.s0 K (t,()) rec a) t.length (λi=>(i:Int)) (λj=>∃ h:j<t.length,aX t[j]/\(0<j->(t[j-1]'(by omega)).1<t[j].1)) (Q:=True) (rt:=rb true) ?_ ?_ (by omega) (λ_=>Ret.yes trivial)) (e9.trans sU.symm)
 ·intro rec i y;simp only[Q133.s0];rw[decide_eq_true (by omega:(i:Int)<(BQ t:Int)),ag y,ar i (by omega)];simp only[cond_true,BR];obtain⟨b,H,u⟩:=ma K t[i];rw[H];simp only[BR];cases b with
  |false=>exact .inr ⟨λ⟨_,r,_⟩=>by simpa using u.2 r,rfl⟩
  |true =>
   simp only[BU,cond_false];by_cases z:(i:Int)>0
   ·rw[decide_eq_true z,eU i (by omega) (by omega),ag (by omega:i-1<t.length)];simp only[cond_true,BR];by_cases r:t[i].1<=(t[i-1]'(by omega)).1
    ·rw[decide_eq_true r];exact .inr ⟨λ⟨_,_,I⟩=>by have:=I (by omega);omega,rfl⟩
    ·rw[decide_eq_false r];exact .inl ⟨⟨y,u.1 rfl,λ_=>by omega⟩,rfl⟩
   ·rw[decide_eq_false z];exact .inl ⟨⟨y,u.1 rfl,λ_=>by omega⟩,rfl⟩
 ·intro rec;simp only[Q133.s0];rw[decide_eq_false (by omega:¬ ((t.length:Int)<(BQ t:Int)))];rfl
inductive vQ (t:List af) (node:Int):Option Nat->Prop where
 |at_ (i:Nat) (h:i<t.length) (e:t[i].1=node):vQ t node (some i)
 |no (h:∀ f∈t,f.1≠node):vQ t node none
theorem fq (K:Nat)(t:List af)(r:Int)(M:t.length<=1048576)(J:1048577<K) :
  ∃ o,vQ t r o/\Q25.f K (t,r,())=some (((match o with|some i=>((i:Nat):Int)|none=>-1),()),()):=by
 have:=ct (step:=λrec a=>Q25.s0 K (t,r,()) rec a) t.length (λi=>(i:Int)) (λj=>∃ h:j<t.length,t[j].1=r) (some ((-1,()),())) (λj=>some ((((j:Nat):Int),()),())) ?_ ?_ t.length K 0 (by omega) (by omega)
 ·rcases this with ⟨y,z⟩|⟨j,_,y,⟨I,H⟩,_,z⟩
  ·refine⟨none,.no ?_,z⟩;rw[dH];exact λi u e=>y i (BY _) u ⟨u,e⟩
  ·exact⟨some j,.at_ j I H,z⟩
 ·intro rec i u;simp only[Q25.s0];rw[decide_eq_true (by omega:(i:Int)<(BQ t:Int)),ag u,ar i (by omega)];simp only[cond_true,BR];by_cases h:t[i].1=r
  ·right;refine⟨⟨u,h⟩,?_⟩;have:(t[i].1==r)=true:=by simpa using h
   rw[this];rfl
  ·left;refine⟨λ⟨_,y⟩=>h y,?_⟩;have:(t[i].1==r)=false:=by simpa using h
   rw[this];rfl
 ·intro rec;simp only[Q25.s0];rw[decide_eq_false (by omega:¬ ((t.length:Int)<(BQ t:Int)))];rfl
def ft (a b:Int):Int:=if a<b then -1 else if a>b then 1 else 0
theorem nS (K:Nat)(a b:Int):Q136.f K (a,b,())=some ((ft a b,()),()):=by
 have y:∀ x:Int,Q135.f K (x,())=rb false:=λx=>by simp[Q135.f]
 simp only[Q136.f,y,BR,cond_false,ft];by_cases r:a<b
 ·rw[decide_eq_true r,if_pos r];rfl
 ·rw[decide_eq_false r,if_neg r];by_cases u:a>b
  ·rw[decide_eq_true u,if_pos u];rfl
  ·rw[decide_eq_false u,if_neg u];rfl
theorem sW (a b:Int):ft a b<0<->a<b:=by
 unfold ft;by_cases r:a<b
 ·simp[r]
 ·by_cases u:a>b <;> simp[r,u]
theorem uZ (a b:Int):ft a b>0<->a>b:=by
 unfold ft;by_cases r:a<b
 ·simp[r];omega
 ·by_cases u:a>b <;> simp[r,u]
theorem ip (a b:Int):ft a b=0<->a=b:=by
 unfold ft;by_cases r:a<b
 ·simp[r];omega
 ·by_cases u:a>b <;> simp[r,u] <;> omega
structure Cut (t:List af) (node:Int) (m:Nat):Prop where
 le:m<=t.length
 lo:∀ i,(h:i<t.length)->i<m->t[i].1<node
 hi:∀ i,(h:i<t.length)->m<=i->node<=t[i].1
theorem sX (K:Nat)(t:List af)(r:Int)(ht:t.length<=1048576)(I:Asc (λf:af=>f.1) t)(hK:1048577<K) :
  ∃ m,Cut t r m/\Q138.f K (t,r,())=some ((((m:Nat):Int),decide (∃ h:m<t.length,t[m].1=r),()),()):=by
 let ks:Nat->Int:=λi=>if h:i<t.length then t[i].1 else 0
 have u:∀ i (h:i<t.length),ks i=t[i].1:=λi h=>by simp[ks,h]
 let H:Nat->Option ((Int×Bool×Unit)×Unit):=λm=>some ((((m:Nat):Int),decide (∃ h:m<t.length,t[m].1=r),()),())
 have Y:∀ f:af,((Q137.f K (f,r,())).map λy=>y.1.1)=some (ft f.1 r):=λf=>by
  simp only[Q137.f];rw[nS];rfl
 have:=pO (step:=λrec a=>Q134.s0 K (t,r,(λJ=>(Q137.f K (J.1,J.2.1,())).map λy=>y.1.1),()) rec a) (ks:=ks) (n:=t.length) (t:=r) H ht
  (λi j O X=>by
   rw[u i (by omega),u j X];exact cE.1 I i j (by omega) X O) ?_ ?_ t.length K 0 t.length (by omega) (BY _) (CD _) (by omega) (λi M=>by omega) (λi M hn=>by omega)
 ·obtain⟨m,z,R,h3,h4⟩:=this;refine⟨m,⟨z,λi h M=>by rw[<- u i h];exact R i M,λi h M=>by rw[<- u i h];exact h3 i M h⟩,?_⟩;simp only[Q138.f];have e:Q134.f K (t,r,(λJ=>(Q137.f K (J.1,J.2.1,())).map λy=>y.1.1),())=H m:=h4;rw[e];rfl
 ·intro rec a b a0 hb;have Z:(a+b) / 2<t.length:=by omega
  simp only[Q134.s0];rw[decide_eq_true (by omega:(a:Int)<(b:Int)),nR (by omega)];simp only[cond_true];rw[ag Z];simp only[BR,Y];rw[u _ Z,ar _ (by omega)];by_cases h:t[(a+b) / 2].1<r
  ·rw[if_pos h,decide_eq_true ((sW _ _).2 h)];rfl
  ·rw[if_neg h,decide_eq_false (λz=>h ((sW _ _).1 z))];rfl
 ·intro rec a ha;simp only[Q134.s0];rw[decide_eq_false (by omega)];simp only[cond_false];by_cases h:a<t.length
  ·rw[decide_eq_true (by omega:(a:Int)<(BQ t:Int)),ag h];simp only[cond_true,BR,Y,H];congr 3;by_cases z:t[a].1=r
   ·have:(ft t[a].1 r==0)=true:=by simpa using (ip t[a].1 r).2 z
    rw[this,decide_eq_true ⟨h,z⟩]
   ·have:(ft t[a].1 r==0)=false:=by
     rw[beq_eq_false_iff_ne];exact λe=>z ((ip _ _).1 e)
    rw[this,decide_eq_false (λ⟨_,R⟩=>z R)]
  ·rw[decide_eq_false (by omega)];simp only[cond_false,H];rw[decide_eq_false (λ⟨z,_⟩=>h z)]
def ak (n:Int):Int:=wr .i64 (Int.tdiv n 4)
theorem cX (K:Nat)(n:Int):Q23.f K (n,())=some ((ak n,()),()):=rfl
theorem lA (K:Nat)(n:Int):Q142.f K (n,())=some ((ak n,()),()):=rfl
theorem lB (K:Nat)(n:aa):Q145.f K (n,())=some ((ak n.1,()),()):=rfl
abbrev aa.table (n:aa):List af:=n.2.2.2.2.2.2.2.2.1
abbrev aa.cast (n:aa):List aL:=n.2.2.2.2.2.2.2.2.2.1
abbrev aa.probe (n:aa):af:=n.2.2.2.2.2.2.2.2.2.2.1
abbrev aa.doubts (n:aa):List bO:=n.2.2.2.2.2.2.2.2.2.2.2.1
abbrev aa.coord (n:aa):dC:=n.2.2.2.2.2.2.2.2.2.2.2.2.1
abbrev aa.places (n:aa):List dL:=n.2.2.2.2.2.2.2.2.2.2.2.2.2.1
abbrev aa.others (n:aa):List bY:=n.2.2.2.2.2.2.2.2.2.2.2.2.2.2
structure NB (n:aa):Prop where
 table:(aa.table n).length<=1048576
 cast:(aa.cast n).length<=1048576
 doubts:(aa.doubts n).length<=1048576
 by_:∀ d∈aa.doubts n,d.2.2.2.length<=1048576
 places:(aa.places n).length<=1048576
 trips:∀ p∈aa.places n,p.2.2.length<=1048576
 others:(aa.others n).length<=1048576
 facts:∀ x∈aa.others n,x.2.length<=1048576
def cd (t:List af)(s:Int):Prop:=∀ f∈t,ak f.1=s
theorem d4 (K:Nat)(t:List af)(s:Int)(u:t.length<=1048576)(y:1048577<K):Ret (Q20.f K (t,s,())) (cd t s):=by
 refine (gv t (step:=λrec a=>Q20.s0 K (t,s,()) rec a) (λi r=>¬ ak t[i].1≠s) u ?_ ?_ y (λ_=>Ret.yes trivial)).iff (e9.trans ?_)
 ·intro rec i r;simp only[Q20.s0];rw[decide_eq_true (by omega:(i:Int)<(BQ t:Int))];exact Rnd.ix (ag r) ((Rnd.cndN (P:=ak t[i].1≠s) (by simp[ak]) (λ_=>Rnd.end_)).iff (by simp))
 ·intro rec;simp only[Q20.s0];rw[decide_eq_false (by omega:¬ ((t.length:Int)<(BQ t:Int)))];rfl
 ·rw[cd,dH];exact⟨λh i r=>BT.1 (h i r),λh i r=>BT.2 (h i r)⟩
theorem xj (K:Nat)(t:List af)(y:af×Unit->Option Bool)(p:af->Prop)(X:t.length<=1048576)(R:1048577<K)(hφ:∀ f∈t,∃ b,y (f,())=some b/\(b=true<->p f)) :
  Ret (Q141.f K (t,y,())) (∃ f∈t,p f):=by
 have:=ct (step:=λrec a=>Q140.s0 K (t,y,()) rec a) t.length (λi=>(i:Int)) (λj=>∃ h:j<t.length,p t[j]) (some ((-1,()),())) (λj=>some ((((j:Nat):Int),()),())) ?_ ?_ t.length K 0 (by omega) (by omega)
 ·simp only[Q141.f];rcases this with ⟨z,r⟩|⟨j,_,z,⟨M,H⟩,_,r⟩
  ·have e:Q140.f K (t,y,())=some ((-1,()),()):=r;rw[e];refine Ret.of ?_;simp only[ge_iff_le,decide_eq_true_eq];refine⟨λh=>absurd h (by decide),λ⟨f,O,J⟩=>?_⟩;obtain⟨i,u,I⟩:=BW O;exact absurd ⟨u,I ▸ J⟩ (z i (BY _) u)
  ·have e:Q140.f K (t,y,())=some ((((j:Nat):Int),()),()):=r;rw[e];refine Ret.of ?_;simp only[ge_iff_le,decide_eq_true_eq];exact⟨λ_=>⟨t[j],BS M,H⟩,λ_=>BZ j⟩
 ·intro rec i u;simp only[Q140.s0];rw[decide_eq_true (by omega:(i:Int)<(BQ t:Int)),ag u,ar i (by omega)];simp only[cond_true,BR];obtain⟨b,z,r⟩:=hφ t[i] (BS u);rw[z];simp only[BR];cases b with
  |true=>exact .inr ⟨⟨u,r.1 rfl⟩,rfl⟩
  |false=>exact .inl ⟨λ⟨_,h⟩=>by simpa using r.2 h,rfl⟩
 ·intro rec;simp only[Q140.s0];rw[decide_eq_false (by omega:¬ ((t.length:Int)<(BQ t:Int)))];rfl
theorem rl (K:Nat)(t:List aL)(y:aL×Unit->Option Bool)(p:aL->Prop)(X:t.length<=1048576)(R:1048577<K)(hφ:∀ f∈t,∃ b,y (f,())=some b/\(b=true<->p f)) :
  Ret (Q147.f K (t,y,())) (∃ f∈t,p f):=by
 have:=ct (step:=λrec a=>Q146.s0 K (t,y,()) rec a) t.length (λi=>(i:Int)) (λj=>∃ h:j<t.length,p t[j]) (some ((-1,()),())) (λj=>some ((((j:Nat):Int),()),())) ?_ ?_ t.length K 0 (by omega) (by omega)
 ·simp only[Q147.f];rcases this with ⟨z,r⟩|⟨j,_,z,⟨M,H⟩,_,r⟩
  ·have e:Q146.f K (t,y,())=some ((-1,()),()):=r;rw[e];refine Ret.of ?_;simp only[ge_iff_le,decide_eq_true_eq];refine⟨λh=>absurd h (by decide),λ⟨f,O,J⟩=>?_⟩;obtain⟨i,u,I⟩:=BW O;exact absurd ⟨u,I ▸ J⟩ (z i (BY _) u)
  ·have e:Q146.f K (t,y,())=some ((((j:Nat):Int),()),()):=r;rw[e];refine Ret.of ?_;simp only[ge_iff_le,decide_eq_true_eq];exact⟨λ_=>⟨t[j],BS M,H⟩,λ_=>BZ j⟩
 ·intro rec i u;simp only[Q146.s0];rw[decide_eq_true (by omega:(i:Int)<(BQ t:Int)),ag u,ar i (by omega)];simp only[cond_true,BR];obtain⟨b,z,r⟩:=hφ t[i] (BS u);rw[z];simp only[BR];cases b with
  |true=>exact .inr ⟨⟨u,r.1 rfl⟩,rfl⟩
  |false=>exact .inl ⟨λ⟨_,h⟩=>by simpa using r.2 h,rfl⟩
 ·intro rec;simp only[Q146.s0];rw[decide_eq_false (by omega:¬ ((t.length:Int)<(BQ t:Int)))];rfl
theorem yy (K:Nat)(t:List Int)(y:Int×Unit->Option Bool)(p:Int->Prop)(X:t.length<=1048576)(R:1048577<K)(hφ:∀ f∈t,∃ b,y (f,())=some b/\(b=true<->p f)) :
  Ret (Q163.f K (t,y,())) (∃ f∈t,p f):=by
 have:=ct (step:=λrec a=>Q162.s0 K (t,y,()) rec a) t.length (λi=>(i:Int)) (λj=>∃ h:j<t.length,p t[j]) (some ((-1,()),())) (λj=>some ((((j:Nat):Int),()),())) ?_ ?_ t.length K 0 (by omega) (by omega)
 ·simp only[Q163.f];rcases this with ⟨z,r⟩|⟨j,_,z,⟨M,H⟩,_,r⟩
  ·have e:Q162.f K (t,y,())=some ((-1,()),()):=r;rw[e];refine Ret.of ?_;simp only[ge_iff_le,decide_eq_true_eq];refine⟨λh=>absurd h (by decide),λ⟨f,O,J⟩=>?_⟩;obtain⟨i,u,I⟩:=BW O;exact absurd ⟨u,I ▸ J⟩ (z i (BY _) u)
  ·have e:Q162.f K (t,y,())=some ((((j:Nat):Int),()),()):=r;rw[e];refine Ret.of ?_;simp only[ge_iff_le,decide_eq_true_eq];exact⟨λ_=>⟨t[j],BS M,H⟩,λ_=>BZ j⟩
 ·intro rec i u;simp only[Q162.s0];rw[decide_eq_true (by omega:(i:Int)<(BQ t:Int)),ag u,ar i (by omega)];simp only[cond_true,BR];obtain⟨b,z,r⟩:=hφ t[i] (BS u);rw[z];simp only[BR];cases b with
  |true=>exact .inr ⟨⟨u,r.1 rfl⟩,rfl⟩
  |false=>exact .inl ⟨λ⟨_,h⟩=>by simpa using r.2 h,rfl⟩
 ·intro rec;simp only[Q162.s0];rw[decide_eq_false (by omega:¬ ((t.length:Int)<(BQ t:Int)))];rfl
theorem Ret.fn {o:Option RB}{P:Prop}(h:Ret o P):∃ b,(o.map λy=>y.1.1)=some b/\(b=true<->P):=by
 obtain⟨b,r,u⟩:=h;exact⟨b,by rw[r];rfl,u⟩
theorem fK (K:Nat)(t:List af)(s:Int)(z:t.length<=1048576)(I:1048577<K):Ret (Q144.f K (t,s,())) (cd t s):=by
 refine (Ret.neg (xj K t (λH=>(Q143.f K (H.1,s,())).map λy=>y.1.1) (λf=>ak f.1≠s) z I (λf _=>?_))).iff ?_
 ·exact⟨_,rfl,by simp[ak]⟩
 ·exact⟨λh f u=>BT.1 λr=>h ⟨f,u,r⟩,λh ⟨f,u,r⟩=>r (h f u)⟩
theorem jA (K:Nat)(t:List af)(r:Int)(I:t.length<=1048576)(H:1048577<K) :
  (¬ ax t/\Q139.f K (t,r,())=some (((0,(0,(0,false))),false,()),())) \/
  (ax t/\((∃ f∈t,f.1=r/\Q139.f K (t,r,())=some ((f,true,()),()))\/((∀ f∈t,f.1≠r)/\Q139.f K (t,r,())=some (((0,(0,(0,false))),false,()),())))):=by
 simp only[Q139.f];obtain⟨b,R,J⟩:=gx K t I H;rw[R];simp only[BR];cases b with
 |false=>exact .inl ⟨λh=>by simpa using J.2 h,rfl⟩
 |true =>
  have y:=J.1 rfl;obtain⟨m,O,X⟩:=sX K t r I y.2 H;refine .inr ⟨y,?_⟩;simp only[BU,cond_false,X,BR];by_cases h:∃ h:m<t.length,t[m].1=r
  ·rw[decide_eq_true h];obtain⟨u,M⟩:=h;left;refine⟨t[m],BS u,M,?_⟩;simp only[BU,cond_false];rw[ag u];rfl
  ·rw[decide_eq_false h];right;refine⟨?_,rfl⟩;rw[dH];intro i z e;rcases Nat.lt_trichotomy i m with u|u|u
   ·have:=O.lo i z u;omega
   ·subst u;exact h ⟨z,e⟩
   ·have M:=O.hi m (by omega) (CD _);have Y:=cE.1 y.2 m i (by omega) z u;omega
def bC (f g:af):Prop:=if f.2.1≠g.2.1 then f.2.1>g.2.1 else if f.2.2.1≠g.2.2.1 then f.2.2.1>g.2.2.1 else f.2.2.2=true/\g.2.2.2=false
theorem sY (K:Nat)(f g:af):Ret (Q26.f K (f,g,())) (bC f g):=by
 simp only[Q26.f,bC];by_cases r:f.2.1=g.2.1
 ·have e:(f.2.1 != g.2.1)=false:=by simpa using r
  rw[e,if_neg (by simpa using r)];by_cases u:f.2.2.1=g.2.2.1
  ·have e:(f.2.2.1 != g.2.2.1)=false:=by simpa using u
   rw[e,if_neg (by simpa using u)];exact (Ret.cnd (b:=f.2.2.2) Iff.rfl (λ_=>Ret.of (b:=!g.2.2.2) (by simp))).iff Iff.rfl
  ·have e:(f.2.2.1 != g.2.2.1)=true:=by simpa using u
   rw[e,if_pos u];exact Ret.dec
 ·have e:(f.2.1 != g.2.1)=true:=by simpa using r
  rw[e,if_pos r];exact Ret.dec
def orI:List Int->Int
 |[]=>0
 |x::r=>if x≠0 then x else orI r
theorem AW (K:Nat)(xs:List Int)(M:xs.length<=1048576)(J:1048577<K):Q151.f K (xs,())=some ((orI xs,()),()):=by
 have y:∀ (d k i:Nat),i+d=xs.length->d<k->ae (λrec a=>Q151.s0 K (xs,()) rec a) k (i:Int)=some ((orI (xs.drop i),()),()):=by
  intro d;induction d with
  |zero =>
   intro k i I H;obtain⟨k,rfl⟩:∃ u,k=u+1:=⟨k-1,by omega⟩;show Q151.s0 K (xs,()) _ _=_;simp only[Q151.s0];rw[decide_eq_false (by omega:¬ ((i:Int)<(BQ xs:Int))),B6 (by omega)];rfl
  |succ d z =>
   intro k i I H;obtain⟨k,rfl⟩:∃ u,k=u+1:=⟨k-1,by omega⟩;have z:=z k (i+1) (by omega) (by omega);show Q151.s0 K (xs,()) _ _=_;simp only[Q151.s0];have r:i<xs.length:=by omega
   rw[decide_eq_true (by omega:(i:Int)<(BQ xs:Int)),ag r,ar i (by omega),B3 r];simp only[cond_true,BR,orI];by_cases h:xs[i]=0
   ·have e:(xs[i] != 0)=false:=by simpa using h
    rw[e,if_neg (by simpa using h)];exact z
   ·have e:(xs[i] != 0)=true:=by simpa using h
    rw[e,if_pos h];rfl
 have:=y xs.length K 0 (by omega) (by omega)
 rwa [CF]at this
def cmpF (f g:af):Int:=orI [ft f.1 g.1,ft f.2.1 g.2.1,ft f.2.2.1 g.2.2.1,if f.2.2.2=true/\g.2.2.2=false then 1 else if g.2.2.2=true/\f.2.2.2=false then -1 else 0]
theorem mT (K:Nat)(f g:af)(I:1048577<K):Q152.f K (f,g,())=some ((cmpF f g,()),()):=by
 obtain⟨a,b,c,d⟩:=f;obtain⟨r,u,y,H⟩:=g;have h:∀ z:Int,Q151.f K ([ft a r,ft b u,ft c y,z],())=some ((orI [ft a r,ft b u,ft c y,z],()),()):=λz=>AW K _ (by simp) I
 simp only[Q152.f,cmpF];cases d <;> cases H <;> simp only[BU,B9,cond_true,cond_false] <;> rw[nS,BR,nS,BR,nS,BR,h] <;> rfl
theorem o8 {x:Int}(h:x=0)(xs:List Int):orI (x::xs)=orI xs:=by subst h;rfl
theorem u5 {x:Int}(h:x≠0)(xs:List Int):orI (x::xs)=x:=by simp[orI,h]
theorem jB {f g:af}(e:f.1=g.1):cmpF f g>0<->bC f g:=by
 unfold cmpF bC;rw[o8 ((ip f.1 g.1).2 e)];by_cases r:f.2.1=g.2.1
 ·rw[o8 ((ip f.2.1 g.2.1).2 r),if_neg (show ¬ f.2.1≠g.2.1 from λh=>h r)];by_cases u:f.2.2.1=g.2.2.1
  ·rw[o8 ((ip f.2.2.1 g.2.2.1).2 u),if_neg (show ¬ f.2.2.1≠g.2.2.1 from λh=>h u)];cases f.2.2.2 <;> cases g.2.2.2 <;> simp[orI]
  ·rw[u5 (λh=>u ((ip f.2.2.1 g.2.2.1).1 h)),if_pos (show f.2.2.1≠g.2.2.1 from u)];exact uZ _ _
 ·rw[u5 (λh=>r ((ip f.2.1 g.2.1).1 h)),if_pos (show f.2.1≠g.2.1 from r)];exact uZ _ _
theorem pP (K:Nat)(f g:af)(r:1048577<K):Ret (Q153.f K (f,g,())) (aX f/\aX g/\f.1=g.1/\bC f g):=by
 refine Ret.and (ma K f) (λ_=>Ret.and (ma K g) (λ_=>?_) rfl) rfl;refine (Ret.cnd (b:=f.1==g.1) (P:=f.1=g.1) (by simp) (λe=>?_)).iff Iff.rfl;show Ret ((Q152.f K (f,g,())).bind _) _;rw[mT K f g r];refine Ret.of ?_;simp only[gt_iff_lt,decide_eq_true_eq];exact jB e
theorem bi {n:Nat}{m:Int}(h:(n:Int)<m):decide ((n:Int)<m)=true:=decide_eq_true h
theorem aN (n:Nat):decide ((n:Int)<(n:Int))=false:=decide_eq_false (by omega)
def cU (l:List aL):Prop:=(∀ x∈l,aX x.1/\InP x.2 1 4)/\Asc (λx:aL=>x.1.1) l
theorem yz (K:Nat)(l:List aL)(y:l.length<=1048576)(z:1048577<K):Ret (Q215.f K (l,())) (cU l):=by
 refine (gv l (step:=λrec a=>Q215.s0 K (l,()) rec a) (λi r=>aX l[i].1/\InP l[i].2 1 4/\(0<i->¬ (l[i-1]'(by omega)).1.1>=l[i].1.1)/\True) y ?_ ?_ z (λ_=>Ret.yes trivial)).iff (e9.trans ?_)
 ·intro rec i r;simp only[Q215.s0];rw[decide_eq_true (by omega:(i:Int)<(BQ l:Int))];simp only[cond_true];refine Rnd.ix (ag r) (Rnd.nx (o7 K _) λ_=>Rnd.ix (ag r) (Rnd.nx (cI K _ 1 4) λ_=>Rnd.two (λu=>?_) Rnd.end_));rw[eU i u (by omega)];exact Rnd.ix (ag (by omega)) (Rnd.ix (ag r) (Rnd.cndN (by simp) λ_=>Rnd.end_))
 ·intro rec;simp only[Q215.s0,aN];rfl
 ·rw[cU,dH,gR];constructor
  ·intro h;exact⟨λi r=>⟨(h i r).1,(h i r).2.1⟩,λi r u=>by have:=(h i r).2.2.1 u;omega⟩
  ·rintro⟨h1,h2⟩ i r;exact⟨(h1 i r).1,(h1 i r).2,λu=>by have:=h2 i r u;omega,trivial⟩
theorem u6 (K:Nat)(l:List aL)(O:l.length<=1048576)(M:1048577<K):Q149.f K (l,())=some ((l.map (·.1),()),()):=by
 have y:∀ (d k i:Nat),i+d=l.length->d<k->ae (λrec a=>Q149.s0 K (l,()) rec a) k ((l.take i).map (·.1),(i:Int))=some ((l.map (·.1),()),()):=by
  intro d;induction d with
  |zero =>
   intro k i J H;obtain⟨k,rfl⟩:∃ u,k=u+1:=⟨k-1,by omega⟩;show Q149.s0 K (l,()) _ _=_;simp only[Q149.s0];rw[decide_eq_false (by omega:¬ ((i:Int)<(BQ l:Int))),B7 (by omega)];rfl
  |succ d z =>
   intro k i J H;obtain⟨k,rfl⟩:∃ u,k=u+1:=⟨k-1,by omega⟩;have z:=z k (i+1) (by omega) (by omega);show Q149.s0 K (l,()) _ _=_;have r:i<l.length:=by omega
   simp only[Q149.s0];rw[decide_eq_true (by omega:(i:Int)<(BQ l:Int)),ag r,ar i (by omega)];simp only[cond_true,BR];have I:decide ((BQ (List.map (λx:aL=>x.1) (List.take i l))+BQ [l[i].1])*32<=an)=true:=decide_eq_true (by simp only[an,List.length_map,List.length_take,B8];omega);rw[I];have e:(List.take i l).map (λx:aL=>x.1)++[l[i].1]=(l.take (i+1)).map (·.1):=by
    rw[CB,BV r,List.map_append];rfl
   rw[e];exact z
 have:=y l.length K 0 (by omega) (by omega);exact this
theorem vR {l:List aL}:ax (l.map (·.1))<->(∀ x∈l,aX x.1)/\Asc (λx:aL=>x.1.1) l:=by
 unfold ax Asc;rw[B4];simp
theorem xk (K:Nat)(x:aL):Ret (Q148.f K (x,())) (¬ InP x.2 1 4):=by
 simp only[Q148.f];exact (eO K x.2 1 4).neg
theorem yA (K:Nat)(l:List aL)(r:l.length<=1048576)(u:1048577<K):Ret (Q147.f K (l,(λz=>(Q148.f K (z.1,())).map λy=>y.1.1),())) (∃ x∈l,¬ InP x.2 1 4) :=
 rl K l _ (λx=>¬ InP x.2 1 4) r u (λx _=>Ret.fn (xk K x))
theorem o9 (K:Nat)(l:List aL)(u:l.length<=1048576)(y:1048577<K):Ret (Q150.f K (l,())) (cU l):=by
 simp only[Q150.f];obtain⟨z,I,J⟩:=yA K l u y;obtain⟨H,M,O⟩:=gx K (l.map (·.1)) (by simpa using u) y;rw[u6 K l u y,BR,M,BR,I,BR];have e:cU l<->(H=true/\z=false):=by
  rw[O,vR,cU,<- Bool.not_eq_true,J];constructor
  ·rintro⟨h5,h6⟩;exact⟨⟨λx r=>(h5 x r).1,h6⟩,λ⟨x,r,h⟩=>h (h5 x r).2⟩
  ·rintro⟨⟨h5,h6⟩,h7⟩;exact⟨λx r=>⟨h5 x r,BT.1 λh=>h7 ⟨x,r,h⟩⟩,h6⟩
 refine Ret.iff ?_ e.symm;cases H <;> cases z <;> exact⟨_,rfl,by simp⟩
def gZ (t:List af)(l:List aL):Prop:=∀ x∈l,∃ f∈t,f.1=x.1.1/\¬ bC x.1 f
theorem fu {t:List af}(h:Asc (λf:af=>f.1) t){f g:af}(y:f∈t)(r:g∈t)(e:f.1=g.1):f=g:=by
 obtain⟨i,z,rfl⟩:=BW y;obtain⟨j,u,rfl⟩:=BW r;have:=o6 h z u e;subst this;rfl
theorem uu (K:Nat)(n:aa)(r:NB n)(O:ax (aa.table n))(u:1048577<K):Ret (Q216.f K (n,())) (cU (aa.cast n)/\gZ (aa.table n) (aa.cast n)):=by
 refine Ret.nx (yz K _ r.cast u) λ_=>?_
 refine (gv (aa.cast n) (step:=λrec a=>Q216.s0 K (n,()) rec a) (λi H=>∃ f∈aa.table n,f.1=(aa.cast n)[i].1.1/\¬ bC (aa.cast n)[i].1 f) r.cast ?_ ?_ u (λ_=>Ret.yes trivial)).iff (e9.trans ?_)
 ·intro rec i H;simp only[Q216.s0];rw[decide_eq_true (by omega:(i:Int)<(BQ (aa.cast n):Int))];simp only[cond_true];refine Rnd.ix (ag H) ?_;obtain⟨o,J,I⟩:=fq K (aa.table n) (aa.cast n)[i].1.1 r.table u;refine Rnd.vl I ?_;cases J with
  |no h =>
   rw[show decide ((-1:Int)<0)=true from rfl];exact .inr ⟨λ⟨f,z,e,_⟩=>h f z e,rfl⟩
  |at_ j y e =>
   simp only;rw[decide_eq_false (by omega:¬ ((j:Int)<0))];refine (Rnd.ix (ag H) (Rnd.ix (ag y) (Rnd.fx (sY K _ _) λ_=>Rnd.end_))).iff ⟨λh=>⟨_,BS y,e,h.1⟩,λ⟨f,z,M,h⟩=>⟨?_,trivial⟩⟩;have:=fu O.2 z (BS y) (M.trans e.symm)
   rwa [<- this]
 ·intro rec;simp only[Q216.s0,aN];rfl
 ·rw[gZ,dH]
theorem yB (K:Nat)(n:aa)(O:NB n)(J:ax (aa.table n))(R:cU (aa.cast n))(I:1048577<K) :
  Ret ((Q147.f K (aa.cast n,(λZ=>(Q154.f K (Z.1,n,())).map λy=>y.1.1),())).bind λY=>some ((!Y.1.1,()),())) (gZ (aa.table n) (aa.cast n)):=by
 refine (Ret.neg (rl K _ _ (λx=>¬ ∃ f∈aa.table n,f.1=x.1.1/\¬ bC x.1 f) O.cast I (λx u=>Ret.fn ?_))).iff ?_
 ·simp only[Q154.f];rcases jA K (aa.table n) x.1.1 O.table I with ⟨r,_⟩|⟨_,⟨f,H,e,r⟩|⟨z,r⟩⟩
  ·exact absurd J r
  ·refine Ret.vl r ?_;refine (pP K x.1 f I).id.iff ⟨λh ⟨g,hg,X,M⟩=>?_,λh=>?_⟩
   ·have:=fu J.2 hg H (X.trans e.symm);exact M (this ▸ h.2.2.2)
   ·refine⟨(R.1 x u).1,J.1 f H,e.symm,BT.1 λM=>h ⟨f,H,e,M⟩⟩
  ·refine Ret.vl r ?_;exact Ret.yes (λ⟨f,H,e,_⟩=>z f H e)
 ·exact⟨λh x u=>BT.1 λz=>h ⟨x,u,z⟩,λh ⟨x,u,z⟩=>z (h x u)⟩
def dj (n:aa):Prop:=((n.1,n.2.2.2.2.1,(if n.2.2.1=true then 4 else 1),n.2.2.2.1):af)∈aa.table n
theorem AX (K:Nat)(n:aa)(y:NB n)(M:ax (aa.table n))(H:1048577<K):Ret (Q214.f K (n,())) (dj n):=by
 simp only[Q214.f];obtain⟨o,I,z⟩:=fq K (aa.table n) n.1 y.table H;refine Ret.vl z ?_;cases I with
 |no h =>
  rw[show decide ((-1:Int)<0)=true from rfl];exact Ret.no (λO=>h _ O rfl)
 |at_ j u e =>
  simp only;rw[decide_eq_false (by omega:¬ ((j:Int)<0))];refine Ret.vl (ag u) ?_;have r:dj n<->(aa.table n)[j]=((n.1,n.2.2.2.2.1,(if n.2.2.1=true then 4 else 1),n.2.2.2.1):af):=by
   constructor
   ·intro h;exact fu M.2 (BS u) h e
   ·intro h;show _∈_;rw[<- h];exact BS u
  have J:(aa.table n)[j]=((n.1,n.2.2.2.2.1,(if n.2.2.1=true then 4 else 1),n.2.2.2.1):af)<->((aa.table n)[j].2.1=n.2.2.2.2.1/\(aa.table n)[j].2.2.1=(if n.2.2.1=true then 4 else 1)/\(aa.table n)[j].2.2.2=n.2.2.2.1):=by
   generalize (aa.table n)[j]=f at e ⊢;obtain⟨a,b,c,d⟩:=f;simp at e ⊢;intro _ _ _;exact e
  refine Ret.iff ?_ (r.trans J).symm;cases R:n.2.2.1 with
  |true=>exact Ret.cnd (by simp) λ_=>Ret.cnd (by simp) λ_=>Ret.of (by simp)
  |false=>exact Ret.cnd (by simp) λ_=>Ret.cnd (by simp) λ_=>Ret.of (by simp)
theorem hH (f g:af):Ty.eqv ty_impl_Fact_D f g=decide (f=g):=by
 obtain⟨a,b,c,d⟩:=f;obtain⟨u,y,z,r⟩:=g;show (decide (a=u)&&(decide (b=y)&&(decide (c=z)&&(d==r))))=_;cases d <;> cases r <;> simp[CA]
theorem pQ (f g:dC):Ty.eqv ty_impl_Coord_D f g=decide (f=g):=by
 obtain⟨a,b,c,d⟩:=f;obtain⟨r,u,z,y⟩:=g;show (decide (a=r)&&(decide (b=u)&&(decide (c=z)&&decide (d=y))))=_;simp[CA]
theorem qF (K:Nat)(n:aa)(I:NB n)(J:1048577<K):Ret (Q155.f K (n,()))
  (ax (aa.table n)/\cd (aa.table n) (ak n.1)/\dj n/\cU (aa.cast n)/\gZ (aa.table n) (aa.cast n)):=by
 have z:∀ (w:Int),ax (aa.table n)->Ret ((Q145.f K (n,())).bind λO=>(Q144.f K (aa.table n,O.1.1,())).bind λX=>bif !X.1.1 then rb false else
   ((Q150.f K (aa.cast n,())).bind λy4=>bif !y4.1.1 then rb false else
    ((Q147.f K (aa.cast n,(λY=>(Q154.f K (Y.1,n,())).map λy=>y.1.1),())).bind λR=>some ((!R.1.1,()),()))))
   (cd (aa.table n) (ak n.1)/\cU (aa.cast n)/\gZ (aa.table n) (aa.cast n)):=by
  intro _ H;exact Ret.vl (lB K n) (Ret.nx (fK K _ _ I.table J) λ_=>Ret.nx (o9 K _ I.cast J) λhC=>yB K n I H hC J)
 have r:∀ (w:Int),w=(if n.2.2.1=true then 4 else 1)->Ret ((Q139.f K (aa.table n,n.1,())).bind λy1=>bif !y1.1.2.1 then rb false else bif !Ty.eqv ty_impl_Fact_D y1.1.1 (n.1,(n.2.2.2.2.1,(w,n.2.2.2.1))) then rb false else
   ((Q145.f K (n,())).bind λO=>(Q144.f K (aa.table n,O.1.1,())).bind λX=>bif !X.1.1 then rb false else
   ((Q150.f K (aa.cast n,())).bind λy4=>bif !y4.1.1 then rb false else
    ((Q147.f K (aa.cast n,(λY=>(Q154.f K (Y.1,n,())).map λy=>y.1.1),())).bind λR=>some ((!R.1.1,()),())))))
   (ax (aa.table n)/\cd (aa.table n) (ak n.1)/\dj n/\cU (aa.cast n)/\gZ (aa.table n) (aa.cast n)):=by
  intro w hw;rcases jA K (aa.table n) n.1 I.table J with ⟨u,Z⟩|⟨H,⟨f,hf,e,u⟩|⟨Z,u⟩⟩
  ·exact Ret.vl Z (Ret.no (λh=>u h.1))
  ·refine Ret.vl u ?_;simp only[BU,cond_false];rw[hH];by_cases M:f=(n.1,(n.2.2.2.2.1,(w,n.2.2.2.1)))
   ·rw[decide_eq_true M];have hS:dj n:=by
     show _∈_;rw[<- hw,<- M];exact hf
    exact (z w H).iff ⟨λh=>⟨H,h.1,hS,h.2.1,h.2.2⟩,λh=>⟨h.2.1,h.2.2.2⟩⟩
   ·rw[decide_eq_false M];refine Ret.no (λh=>M ?_);have:=fu H.2 hf h.2.2.1 e;rw[this,hw]
  ·refine Ret.vl u (Ret.no (λh=>Z _ h.2.2.1 rfl))
 simp only[Q155.f];cases hg:n.2.2.1 with
 |true=>exact r 4 (by rw[hg];rfl)
 |false=>exact r 1 (by rw[hg];rfl)
def db (n:aa):Prop:=if (aa.probe n).1=-1 then aa.probe n=(-1,0,0,false) else
 (aa.probe n).1≠n.1/\(∃ f∈aa.table n,f.1=(aa.probe n).1)/\InP (aa.probe n).2.1 0 n.2.2.2.2.2.1/\InP (aa.probe n).2.2.1 1 n.2.2.2.2.2.2.1
theorem zX (K:Nat)(n:aa)(u:NB n)(z:1048577<K):Ret (Q217.f K (n,())) (db n):=by
 simp only[Q217.f,db];by_cases h:(aa.probe n).1=-1
 ·rw[if_pos h,show ((aa.probe n).1==-1)=true by simpa using h];refine (Ret.cnd (P:=(aa.probe n).2.1=0) (by simp) λ_=>Ret.cnd (P:=(aa.probe n).2.2.1=0) (by simp) λ_=>Ret.of (P:=(aa.probe n).2.2.2=false) (by simp)).iff ?_;generalize aa.probe n=p at h ⊢;obtain⟨a,b,c,d⟩:=p;simp at h ⊢;intro _ _ _;exact h
 ·rw[if_neg h,show ((aa.probe n).1==-1)=false by simpa using h];refine Ret.cnd (by simp) λ_=>?_
  obtain⟨o,H,y⟩:=fq K (aa.table n) (aa.probe n).1 u.table z;refine Ret.vl y ?_;cases H with
  |no J=>exact Ret.no (λ⟨⟨f,M,e⟩,_⟩=>J f M e)
  |at_ j I e =>
   simp only;rw[show decide ((j:Int)>=0)=true from decide_eq_true (by omega)];exact (Ret.px (cI K _ _ _) λ_=>(cI K _ _ _).id).iff ⟨λr=>⟨⟨_,BS I,e⟩,r⟩,λr=>r.2⟩
theorem zY (K:Nat)(n:aa)(z:NB n)(H:ax (aa.table n))(J:1048577<K):Ret (Q156.f K (n,())) (db n):=by
 simp only[Q156.f,db];by_cases h:(aa.probe n).1=-1
 ·rw[if_pos h,show ((aa.probe n).1==-1)=true by simpa using h,hH];exact Ret.dec
 ·rw[if_neg h,show ((aa.probe n).1==-1)=false by simpa using h];rcases jA K (aa.table n) (aa.probe n).1 z.table J with ⟨r,_⟩|⟨_,⟨f,y,e,r⟩|⟨I,r⟩⟩
  ·exact absurd H r
  ·refine Ret.vl r ?_;exact (Ret.cnd (P:=(aa.probe n).1≠n.1) (by simp) λ_=>Ret.px (eO K _ _ _) λ_=>(eO K _ _ _).id).iff ⟨λu=>⟨u.1,⟨f,y,e⟩,u.2⟩,λu=>⟨u.1,u.2.2⟩⟩
  ·exact Ret.vl r (Ret.no (λ⟨_,⟨f,y,e⟩,_⟩=>I f y e))
def cJ (c:dC):Prop:=InP c.1 (-100000) 100000/\InP c.2.1 (-100000) 100000/\InP c.2.2.1 0 100000/\InP c.2.2.2 1 1500
theorem iG (K:Nat)(c:dC):Ret (Q21.f K (c,())) (cJ c) :=
 Ret.px (cI K _ _ _) λ_=>Ret.px (cI K _ _ _) λ_=>Ret.px (cI K _ _ _) λ_=>(cI K _ _ _).id
theorem nT (K:Nat)(c:dC):Ret (Q159.f K (c,())) (cJ c) :=
 Ret.px (eO K _ _ _) λ_=>Ret.px (eO K _ _ _) λ_=>Ret.px (eO K _ _ _) λ_=>(eO K _ _ _).id
def AY (me:Int)(p:dL):Prop:=InP p.1 0 7/\ak p.1=ak me/\p.1≠me/\cJ p.2.1/\InP (p.2.2.length:Int) 1 3/\∀ t∈p.2.2,InP t 1 60000
def eA (me:Int)(l:List dL):Prop:=(∀ p∈l,AY me p)/\Asc (λp:dL=>p.1) l
theorem mU (K:Nat)(n:aa)(x:Int):Ret (Q157.f K (n,x,())) (InP x 0 7/\ak x=ak n.1):=by
 refine Ret.px (jf K x) λ_=>?_
 exact Ret.of (b:=ak x==ak n.1) (by simp)
theorem zZ (K:Nat)(n:aa)(x:Int):Ret (Q160.f K (n,x,())) ((InP x 0 7/\ak x=ak n.1)/\x≠n.1):=by
 refine Ret.px (mU K n x) λ_=>?_
 exact Ret.of (b:=x != n.1) (by simp)
theorem yC (K:Nat)(n:aa)(I:NB n)(hK:1048577<K):Ret (Q219.f K (n,())) (eA n.1 (aa.places n)):=by
 refine (gv (aa.places n) (step:=λrec a=>Q219.s0 K (n,()) (Q219.l1 K (n,()) rec) rec a)
  (λi y=>InP (aa.places n)[i].1 0 7/\¬ ak (aa.places n)[i].1≠ak n.1/\¬ (aa.places n)[i].1=n.1/\(0<i->¬ ((aa.places n)[i-1]'(by omega)).1>=(aa.places n)[i].1) /\
   cJ (aa.places n)[i].2.1/\InP ((aa.places n)[i].2.2.length:Int) 1 3/\∀ k (z:k<(aa.places n)[i].2.2.length),InP (aa.places n)[i].2.2[k] 1 60000/\True) I.places ?_ ?_ hK (λ_=>Ret.yes trivial)).iff (e9.trans ?_)
 ·intro rec i y;have Z:=I.trips _ (BS y);have hl:=I.places;have u:Rnd (Q219.l1 K (n,()) rec ((i:Int),0,(aa.places n)[i].1,(aa.places n)[i].2.1.1,(aa.places n)[i].2.1.2.1,(aa.places n)[i].2.1.2.2.1,(aa.places n)[i].2.1.2.2.2,(aa.places n)[i].2.2))
    (∀ k (z:k<(aa.places n)[i].2.2.length),InP (aa.places n)[i].2.2[k] 1 60000/\True) (rec (wr .i64 ((i:Int)+1))):=by
   generalize (aa.places n)[i]=p at Z;refine oZ p.2.2 (step:=λr a=>Q219.s1 K (n,()) rec r a) (λk=>((i:Int),(k:Int),p.1,p.2.1.1,p.2.1.2.1,p.2.1.2.2.1,p.2.1.2.2.2,p.2.2)) (λk z=>InP p.2.2[k] 1 60000/\True) Z ?_ ?_ hK
   ·intro r k z;simp only[Q219.s1];rw[decide_eq_true (by omega:(k:Int)<(BQ p.2.2:Int)),ar k (by omega)];simp only[cond_true];exact Rnd.ix (ag z) (Rnd.nx (cI K _ _ _) λ_=>Rnd.end_)
   ·intro r;simp only[Q219.s1,aN];rfl
  simp only[Q219.s0];rw[decide_eq_true (by omega:(i:Int)<(BQ (aa.places n):Int))];simp only[cond_true];refine Rnd.ix (ag y) (Rnd.nx (cI K _ _ _) λ_=>Rnd.vl (cX K _) (Rnd.vl (cX K _) (Rnd.cndN (by simp) λ_=>Rnd.cndN (by simp) λ_=>Rnd.two (λH=>?_) ?_)))
  ·rw[eU i H (by omega)];exact Rnd.ix (ag (show i-1<(aa.places n).length by omega)) (Rnd.cndN (by simp) λ_=>Rnd.nx (iG K _) λ_=>Rnd.nx (cI K _ _ _) λ_=>u)
  ·exact Rnd.nx (iG K _) λ_=>Rnd.nx (cI K _ _ _) λ_=>u
 ·intro rec;simp only[Q219.s0,aN];rfl
 ·rw[eA,dH,gR];constructor
  ·intro h;refine⟨λi y=>?_,λi y H=>?_⟩
   ·obtain⟨J,O,X,h4,R,Y,M⟩:=h i y;exact⟨J,BT.1 O,X,R,Y,dH.2 λk z=>(M k z).1⟩
   ·have:=(h i y).2.2.2.1 H;omega
  ·rintro⟨J,O⟩ i y;obtain⟨X,h4,R,Y,M,h8⟩:=J i y;exact⟨X,BT.2 h4,R,λH=>by have:=O i y H;omega,Y,M,λk z=>⟨dH.1 h8 k z,trivial⟩⟩
theorem yD (K:Nat)(n:aa)(H:NB n)(hK:1048577<K):Ret (Q164.f K (n,())) (eA n.1 (aa.places n)):=by
 refine (gv (aa.places n) (step:=λrec a=>Q164.s0 K (n,()) rec a)
  (λi u=>((InP (aa.places n)[i].1 0 7/\ak (aa.places n)[i].1=ak n.1)/\(aa.places n)[i].1≠n.1)/\(0<i->¬ (aa.places n)[i].1<=((aa.places n)[i-1]'(by omega)).1) /\
   cJ (aa.places n)[i].2.1/\InP ((aa.places n)[i].2.2.length:Int) 1 3/\(¬ ∃ t∈(aa.places n)[i].2.2,¬ InP t 1 60000)/\True) H.places ?_ ?_ hK (λ_=>Ret.yes trivial)).iff (e9.trans ?_)
 ·intro rec i u;have hb:=H.trips _ (BS u);have hl:=H.places;have r:Ret (Q163.f K ((aa.places n)[i].2.2,(λy6=>(Q161.f K (y6.1,())).map λy=>y.1.1),())) (∃ t∈(aa.places n)[i].2.2,¬ InP t 1 60000) :=
   yy K _ _ _ hb hK (λt _=>Ret.fn (eO K t _ _).neg)
  simp only[Q164.s0];rw[decide_eq_true (by omega:(i:Int)<(BQ (aa.places n):Int))];simp only[cond_true];refine Rnd.ix (ag u) (Rnd.nx (zZ K n _) λ_=>Rnd.two (λz=>?_) ?_)
  ·rw[eU i z (by omega)];exact Rnd.ix (ag (show i-1<(aa.places n).length by omega)) (Rnd.cndN (by simp) λ_=>Rnd.nx (nT K _) λ_=>Rnd.nx (eO K _ _ _) λ_=>Rnd.fx r λ_=>Rnd.end_)
  ·exact Rnd.nx (nT K _) λ_=>Rnd.nx (eO K _ _ _) λ_=>Rnd.fx r λ_=>Rnd.end_
 ·intro rec;simp only[Q164.s0,aN];rfl
 ·rw[eA,dH,gR];constructor
  ·intro h;refine⟨λi u=>?_,λi u z=>?_⟩
   ·obtain⟨⟨⟨I,O⟩,Y⟩,h4,X,Z,M,_⟩:=h i u;exact⟨I,O,Y,X,Z,λt J=>BT.1 λR=>M ⟨t,J,R⟩⟩
   ·have:=(h i u).2.1 z;omega
  ·rintro⟨I,O⟩ i u;obtain⟨Y,h4,X,Z,M,R⟩:=I i u;exact⟨⟨⟨Y,h4⟩,X⟩,λz=>by have:=O i u z;omega,Z,M,λ⟨t,J,h9⟩=>h9 (R t J),trivial⟩
def AZ (me:Int)(x:bY):Prop:=InP x.1 0 1/\x.1≠ak me/\x.2≠[]/\ax x.2/\cd x.2 x.1
def de (me:Int)(l:List bY):Prop:=(∀ x∈l,AZ me x)/\Asc (λx:bY=>x.1) l
theorem pa {α:Type}(l:List α):((BQ l:Int)==0)=true<->l=[]:=by
 cases l <;> simp;omega
theorem yE (K:Nat)(n:aa)(H:NB n)(y:1048577<K):Ret (Q220.f K (n,())) (de n.1 (aa.others n)):=by
 refine (gv (aa.others n) (step:=λrec a=>Q220.s0 K (n,()) rec a)
  (λi r=>InP (aa.others n)[i].1 0 1/\¬ (aa.others n)[i].1=ak n.1/\(0<i->¬ ((aa.others n)[i-1]'(by omega)).1>=(aa.others n)[i].1) /\
   ¬ (aa.others n)[i].2=[]/\ax (aa.others n)[i].2/\cd (aa.others n)[i].2 (aa.others n)[i].1/\True) H.others ?_ ?_ y (λ_=>Ret.yes trivial)).iff (e9.trans ?_)
 ·intro rec i r;have z:=H.facts _ (BS r);have X:=H.others;simp only[Q220.s0];rw[decide_eq_true (by omega:(i:Int)<(BQ (aa.others n):Int))];simp only[cond_true];refine Rnd.ix (ag r) (Rnd.nx (cI K _ _ _) λ_=>Rnd.vl (cX K _) (Rnd.cndN (by simp) λ_=>Rnd.two (λu=>?_) ?_))
  ·rw[eU i u (by omega)];exact Rnd.ix (ag (show i-1<(aa.others n).length by omega)) (Rnd.cndN (by simp) λ_=>Rnd.cndN (pa _) λ_=>Rnd.nx (gw K _ z y) λ_=>Rnd.nx (d4 K _ _ z y) λ_=>Rnd.end_)
  ·exact Rnd.cndN (pa _) λ_=>Rnd.nx (gw K _ z y) λ_=>Rnd.nx (d4 K _ _ z y) λ_=>Rnd.end_
 ·intro rec;simp only[Q220.s0,aN];rfl
 ·rw[de,dH,gR];constructor
  ·intro h;exact⟨λi r=>⟨(h i r).1,(h i r).2.1,(h i r).2.2.2.1,(h i r).2.2.2.2.1,(h i r).2.2.2.2.2.1⟩,λi r u=>by have:=(h i r).2.2.1 u;omega⟩
  ·rintro⟨h1,h2⟩ i r;obtain⟨O,I,M,R,J⟩:=h1 i r;exact⟨O,I,λu=>by have:=h2 i r u;omega,M,R,J,trivial⟩
theorem yF (K:Nat)(n:aa)(J:NB n)(z:1048577<K):Ret (Q165.f K (n,())) (de n.1 (aa.others n)):=by
 refine (gv (aa.others n) (step:=λrec a=>Q165.s0 K (n,()) rec a)
  (λi r=>InP (aa.others n)[i].1 0 1/\¬ (aa.others n)[i].1=ak n.1/\(0<i->¬ (aa.others n)[i].1<=((aa.others n)[i-1]'(by omega)).1) /\
   ¬ (aa.others n)[i].2=[]/\ax (aa.others n)[i].2/\cd (aa.others n)[i].2 (aa.others n)[i].1/\True) J.others ?_ ?_ z (λ_=>Ret.yes trivial)).iff (e9.trans ?_)
 ·intro rec i r;have H:=J.facts _ (BS r);have Y:=J.others;have I:ak 7=1:=by unfold ak;rw[aJ (by decide) (by decide)];decide
  have u:=eO K (aa.others n)[i].1 0 (ak 7);rw[I]at u;simp only[Q165.s0];rw[decide_eq_true (by omega:(i:Int)<(BQ (aa.others n):Int))];simp only[cond_true];refine Rnd.ix (ag r) (Rnd.vl (lA K 7) ?_);dsimp only;rw[I];refine Rnd.nx u λ_=>Rnd.vl (lB K n) (Rnd.cndN (by simp) λ_=>Rnd.two (λy=>?_) ?_)
  ·rw[eU i y (by omega)];exact Rnd.ix (ag (show i-1<(aa.others n).length by omega)) (Rnd.cndN (by simp) λ_=>Rnd.cndN (pa _) λ_=>Rnd.nx (gx K _ H z) λ_=>Rnd.nx (fK K _ _ H z) λ_=>Rnd.end_)
  ·exact Rnd.cndN (pa _) λ_=>Rnd.nx (gx K _ H z) λ_=>Rnd.nx (fK K _ _ H z) λ_=>Rnd.end_
 ·intro rec;simp only[Q165.s0,aN];rfl
 ·rw[de,dH,gR];constructor
  ·intro h;exact⟨λi r=>⟨(h i r).1,(h i r).2.1,(h i r).2.2.2.1,(h i r).2.2.2.2.1,(h i r).2.2.2.2.2.1⟩,λi r y=>by have:=(h i r).2.2.1 y;omega⟩
  ·rintro⟨h1,h2⟩ i r;obtain⟨R,M,O,X,I⟩:=h1 i r;exact⟨R,M,λy=>by have:=h2 i r y;omega,O,X,I,trivial⟩
def ByP (me:Int)(l:List Int):Prop:=(∀ b∈l,InP b 0 7/\ak b=ak me)/\Asc (λb:Int=>b) l
def lC (n:aa)(d:bO):Prop:=(∃ f∈aa.table n,f.1=d.1/\f.2.2.1=2/\f.2.1=d.2.1)/\InP d.2.2.1 0 n.2.2.2.2.2.1/\d.2.2.2≠[]/\ByP n.1 d.2.2.2
def aU (t:List af):List af:=t.filter λf=>f.2.2.1==2
def iH (n:aa):Prop:=(∀ d∈aa.doubts n,lC n d)/\Asc (λd:bO=>d.1) (aa.doubts n)/\(aU (aa.table n)).length=(aa.doubts n).length
theorem xm {me:Int}{l:List Int}:ByP me l<->∀ k (r:k<l.length),(InP l[k] 0 7/\ak l[k]=ak me)/\(0<k->¬ l[k-1]'(by omega)>=l[k]):=by
 rw[ByP,dH,gR];constructor
 ·rintro⟨h1,h2⟩ k r;exact⟨h1 k r,λu=>by have:=h2 k r u;omega⟩
 ·intro h;exact⟨λk r=>(h k r).1,λk r u=>by have:=(h k r).2 u;omega⟩
theorem z7 (K:Nat)(n:aa)(I:NB n)(R:1048577<K):Q218.l2 K (n,()) (0,0)=rb (decide ((aU (aa.table n)).length=(aa.doubts n).length)):=by
 have X:=I.table;have y:∀ (d k i c:Nat),i+d=(aa.table n).length->d<k->c<=i ->
   ae (λrec a=>Q218.s2 K (n,()) rec a) k ((c:Int),(i:Int))=rb (decide (c+(aU ((aa.table n).drop i)).length=(aa.doubts n).length)):=by
  intro d;induction d with
  |zero =>
   intro k i c O J M;obtain⟨k,rfl⟩:∃ u,k=u+1:=⟨k-1,by omega⟩;show Q218.s2 K (n,()) _ _=_;simp only[Q218.s2];rw[decide_eq_false (show ¬ ((i:Int)<(BQ (aa.table n):Int)) by omega),B6 (by omega)];simp only[cond_false,aU,List.filter_nil,List.length_nil,Nat.add_zero];have e:((c:Int)==(BQ (aa.doubts n):Int))=decide (c=(aa.doubts n).length):=by
    by_cases h:c=(aa.doubts n).length
    ·rw[decide_eq_true h,h];simp
    ·rw[decide_eq_false h,beq_eq_false_iff_ne];omega
   exact congrArg rb e
  |succ d H =>
   intro k i c O J M;obtain⟨k,rfl⟩:∃ u,k=u+1:=⟨k-1,by omega⟩;have r:i<(aa.table n).length:=by omega
   show Q218.s2 K (n,()) _ _=_;simp only[Q218.s2];rw[decide_eq_true (show ((i:Int)<(BQ (aa.table n):Int)) by omega),ag r,ar i (by omega),ar c (by omega),B3 r];simp only[cond_true,BR];cases z:((aa.table n)[i].2.2.1==2) with
   |true =>
    have:=H k (i+1) (c+1) (by omega) (by omega) (by omega);simp only[cond_true];have e:c+1+(aU ((aa.table n).drop (i+1))).length=c+(aU ((aa.table n)[i]::(aa.table n).drop (i+1))).length:=by
     simp only[aU,B5,z,if_true,List.length_cons];omega
    rw[<- e];exact this
   |false =>
    have:=H k (i+1) c (by omega) (by omega) (by omega);simp only[cond_false];have e:aU ((aa.table n)[i]::(aa.table n).drop (i+1))=aU ((aa.table n).drop (i+1)):=by
     simp only[aU,B5,z,BX,if_false]
    rw[e];exact this
 have:=y (aa.table n).length K 0 0 (by omega) (by omega) (CD _);rw[CF,Nat.zero_add]at this;exact this
theorem yG (K:Nat)(n:aa)(R:NB n)(hT:ax (aa.table n))(Y:1048577<K):Ret (Q218.f K (n,())) (iH n):=by
 refine (gv (aa.doubts n) (step:=λrec a=>Q218.s0 K (n,()) (Q218.l1 K (n,()) rec) (Q218.l2 K (n,())) rec a)
  (λi z=>(0<i->¬ ((aa.doubts n)[i-1]'(by omega)).1>=(aa.doubts n)[i].1)/\lC n (aa.doubts n)[i]) (Q:=(aU (aa.table n)).length=(aa.doubts n).length) (rt:=Q218.l2 K (n,()) (0,0)) R.doubts ?_ ?_ Y (λ_=>by rw[z7 K n R Y];exact Ret.dec)).iff ?_
 ·intro rec i z;have Z:=R.by_ _ (BS z);have hl:=R.doubts;have y:Rnd (Q218.l1 K (n,()) rec ((i:Int),0,(aa.doubts n)[i].1,(aa.doubts n)[i].2.1,(aa.doubts n)[i].2.2.1,(aa.doubts n)[i].2.2.2)) (ByP n.1 (aa.doubts n)[i].2.2.2) (rec (wr .i64 ((i:Int)+1))):=by
   generalize (aa.doubts n)[i]=d at Z;refine (oZ d.2.2.2 (step:=λu a=>Q218.s1 K (n,()) rec u a) (λk=>((i:Int),(k:Int),d.1,d.2.1,d.2.2.1,d.2.2.2))
    (λk r=>InP d.2.2.2[k] 0 7/\¬ ak d.2.2.2[k]≠ak n.1/\(0<k->¬ d.2.2.2[k-1]'(by omega)>=d.2.2.2[k])/\True) Z ?_ ?_ Y).iff ?_
   ·intro u k r;simp only[Q218.s1];rw[decide_eq_true (by omega:(k:Int)<(BQ d.2.2.2:Int)),ar k (by omega)];simp only[cond_true];refine Rnd.ix (ag r) (Rnd.nx (cI K _ _ _) λ_=>Rnd.ix (ag r) (Rnd.vl (cX K _) (Rnd.vl (cX K _) (Rnd.cndN (by simp) λ_=>Rnd.two (λH=>?_) Rnd.end_))));rw[eU k H (by omega)];exact Rnd.ix (ag (show k-1<d.2.2.2.length by omega)) (Rnd.ix (ag r) (Rnd.cndN (by simp) λ_=>Rnd.end_))
   ·intro u;simp only[Q218.s1,aN];rfl
   ·rw[xm];constructor
    ·intro h k r;exact⟨⟨(h k r).1,BT.1 (h k r).2.1⟩,(h k r).2.2.1⟩
    ·intro h k r;exact⟨(h k r).1.1,BT.2 (h k r).1.2,(h k r).2,trivial⟩
  obtain⟨o,ho,X⟩:=fq K (aa.table n) (aa.doubts n)[i].1 R.table Y;simp only[Q218.s0];rw[decide_eq_true (show ((i:Int)<(BQ (aa.doubts n):Int)) by omega)];simp only[cond_true];refine Rnd.ix (ag z) (Rnd.vl X ?_);cases ho with
  |no h =>
   have O:¬ lC n (aa.doubts n)[i]:=λ⟨⟨f,X,e,_⟩,_⟩=>h f X e
   refine Rnd.two (λH=>?_) ?_
   ·rw[eU i H (by omega)];refine Rnd.ix (ag (show i-1<(aa.doubts n).length by omega)) (Rnd.cndN (by simp) λ_=>?_);exact .inr ⟨O,rfl⟩
   ·exact .inr ⟨O,rfl⟩
  |at_ j M e =>
   have I:decide ((j:Int)<0)=false:=decide_eq_false (by omega);have J:lC n (aa.doubts n)[i]<->(¬ (aa.table n)[j].2.2.1≠2/\¬ (aa.table n)[j].2.1≠(aa.doubts n)[i].2.1/\InP (aa.doubts n)[i].2.2.1 0 n.2.2.2.2.2.1/\¬ (aa.doubts n)[i].2.2.2=[]/\ByP n.1 (aa.doubts n)[i].2.2.2):=by
    constructor
    ·rintro⟨⟨f,X,e1,e2,e3⟩,h2,h3,h4⟩;have:=fu hT.2 X (BS M) (e1.trans e.symm);subst this;exact⟨BT.2 e2,BT.2 e3,h2,h3,h4⟩
    ·rintro⟨e2,e3,h2,h3,h4⟩;exact⟨⟨_,BS M,e,BT.1 e2,BT.1 e3⟩,h2,h3,h4⟩
   refine Rnd.two (λH=>?_) ?_
   ·rw[eU i H (by omega)];refine Rnd.ix (ag (show i-1<(aa.doubts n).length by omega)) (Rnd.cndN (by simp) λ_=>?_);simp only[I,cond_false];refine Rnd.iff ?_ J.symm;exact Rnd.ix (ag M) (Rnd.cndN (by simp) λ_=>Rnd.ix (ag M) (Rnd.cndN (by simp) λ_=>Rnd.nx (cI K _ _ _) λ_=>Rnd.cndN (pa _) λ_=>y))
   ·simp only[I,cond_false];refine Rnd.iff ?_ J.symm;exact Rnd.ix (ag M) (Rnd.cndN (by simp) λ_=>Rnd.ix (ag M) (Rnd.cndN (by simp) λ_=>Rnd.nx (cI K _ _ _) λ_=>Rnd.cndN (pa _) λ_=>y))
 ·intro rec;simp only[Q218.s0,aN];rfl
 ·rw[iH,dH,gR];constructor
  ·rintro⟨h1,h2⟩;exact⟨λi z=>(h1 i z).2,λi z H=>by have:=(h1 i z).1 H;omega,h2⟩
  ·rintro⟨h1,h2,h3⟩;exact⟨λi z=>⟨λH=>by have:=h2 i z H;omega,h1 i z⟩,h3⟩
theorem z8 (K:Nat)(n:aa)(Z:NB n)(S:List af)(hS:S.length=(aa.doubts n).length)(hK:1048577<K):Ret (Q158.l1 K (n,()) (S,0))
  (∀ i (u:i<(aa.doubts n).length),(aa.doubts n)[i].1=(S[i]'(by omega)).1/\(aa.doubts n)[i].2.1=(S[i]'(by omega)).2.1/\InP (aa.doubts n)[i].2.2.1 0 n.2.2.2.2.2.1/\(aa.doubts n)[i].2.2.2≠[]/\ByP n.1 (aa.doubts n)[i].2.2.2):=by
 have hl:=Z.doubts;have I:=l9 (step:=λrec a=>Q158.s1 K (n,()) (Q158.l2 K (n,()) rec) rec a) (aa.doubts n).length (λi=>(S,(i:Int)))
  (λi=>∀ u:i<(aa.doubts n).length,¬ (aa.doubts n)[i].1≠(S[i]'(by omega)).1/\¬ (aa.doubts n)[i].2.1≠(S[i]'(by omega)).2.1/\InP (aa.doubts n)[i].2.2.1 0 n.2.2.2.2.2.1/\¬ (aa.doubts n)[i].2.2.2=[]/\ByP n.1 (aa.doubts n)[i].2.2.2)
  (rb true) (rb false) ?_ ?_ (aa.doubts n).length K 0 (by omega) (by omega)
 ·rcases I with ⟨M,J⟩|⟨M,J⟩
  ·refine⟨true,J,iff_of_true rfl λi u=>?_⟩;obtain⟨X,O,R⟩:=M i (BY _) u u;exact⟨BT.1 X,BT.1 O,R⟩
  ·refine⟨false,J,iff_of_false (by simp) λh=>M λi _ u _=>?_⟩;obtain⟨X,O,R⟩:=h i u;exact⟨BT.2 X,BT.2 O,R⟩
 ·intro rec i u;have Y:=Z.by_ _ (BS u);have H:Rnd (Q158.l2 K (n,()) rec (S,(i:Int),(aa.doubts n)[i].2.2.2,(BQ (aa.doubts n)[i].2.2.2:Int),0,(aa.doubts n)[i].1,(aa.doubts n)[i].2.1,(aa.doubts n)[i].2.2.1,(aa.doubts n)[i].2.2.2)) (ByP n.1 (aa.doubts n)[i].2.2.2) (rec (S,wr .i64 ((i:Int)+1))):=by
   generalize (aa.doubts n)[i]=d at Y;refine (oZ d.2.2.2 (step:=λr a=>Q158.s2 K (n,()) rec r a) (λk=>(S,(i:Int),d.2.2.2,(BQ d.2.2.2:Int),(k:Int),d.1,d.2.1,d.2.2.1,d.2.2.2))
    (λk z=>(InP d.2.2.2[k] 0 7/\ak d.2.2.2[k]=ak n.1)/\(0<k->¬ d.2.2.2[k]<=d.2.2.2[k-1]'(by omega))/\True) Y ?_ ?_ hK).iff ?_
   ·intro r k z;simp only[Q158.s2,zcp4];rw[decide_eq_true (by omega:(k:Int)<(BQ d.2.2.2:Int)),ar k (by omega)];simp only[cond_true];refine Rnd.ix (ag z) (Rnd.nx (mU K n _) λ_=>Rnd.two (λh0=>?_) Rnd.end_);rw[eU k h0 (by omega)];exact Rnd.ix (ag (show k-1<d.2.2.2.length by omega)) (Rnd.cndN (by simp) λ_=>Rnd.end_)
   ·intro r;simp only[Q158.s2,zcp4,aN];rfl
   ·rw[xm];constructor
    ·intro h k z;exact⟨(h k z).1,(h k z).2.1⟩
    ·intro h k z;exact⟨(h k z).1,(h k z).2,trivial⟩
  have y:i<S.length:=by omega
  have hr:Rnd (Q158.s1 K (n,()) (Q158.l2 K (n,()) rec) rec (S,(i:Int)))
    (¬ (aa.doubts n)[i].1≠S[i].1/\¬ (aa.doubts n)[i].2.1≠S[i].2.1/\InP (aa.doubts n)[i].2.2.1 0 n.2.2.2.2.2.1/\¬ (aa.doubts n)[i].2.2.2=[]/\ByP n.1 (aa.doubts n)[i].2.2.2) (rec (S,((i+1:Nat):Int))):=by
   rw[<- ar i (by omega)];simp only[Q158.s1];rw[decide_eq_true (show ((i:Int)<(BQ (aa.doubts n):Int)) by omega),Int.toNat_natCast];simp only[cond_true];exact Rnd.ix (ag u) (Rnd.ix (ag y) (Rnd.ix (ag y) (Rnd.cndN (by simp) λ_=>Rnd.ix (ag y) (Rnd.ix (ag y) (Rnd.cndN (by simp) λ_=>Rnd.nx (eO K _ _ _) λ_=>Rnd.cndN (pa _) λ_=>H)))))
  exact hr.imp (λh=>⟨λ_=>h.1,h.2⟩) (λh=>⟨λJ=>h.1 (J u),h.2⟩)
 ·intro rec;simp only[Q158.s1,aN];rfl
theorem yH (K:Nat)(n:aa)(X:NB n)(hT:ax (aa.table n))(hK:1048577<K):Ret (Q158.f K (n,())) (iH n):=by
 have hl:=X.table;have a2:=X.doubts;have a1:∀ (d k i:Nat),i+d=(aa.table n).length->d<k->ae (λrec a=>Q158.s0 K (n,()) (Q158.l1 K (n,())) rec a) k (aU ((aa.table n).take i),(i:Int)) =
   (bif (BQ (aa.doubts n):Int) != (BQ (aU (aa.table n)):Int) then rb false else Q158.l1 K (n,()) (aU (aa.table n),0)):=by
  intro d;induction d with
  |zero =>
   intro k i z hk;obtain⟨k,rfl⟩:∃ k',k=k'+1:=⟨k-1,by omega⟩;show Q158.s0 K (n,()) _ _ _=_;simp only[Q158.s0];rw[decide_eq_false (show ¬ ((i:Int)<(BQ (aa.table n):Int)) by omega),B7 (by omega)];rfl
  |succ d J =>
   intro k i z hk;obtain⟨k,rfl⟩:∃ k',k=k'+1:=⟨k-1,by omega⟩;have J:=J k (i+1) (by omega) (by omega);have M:i<(aa.table n).length:=by omega
   show Q158.s0 K (n,()) _ _ _=_;simp only[Q158.s0];rw[decide_eq_true (show ((i:Int)<(BQ (aa.table n):Int)) by omega),ag M,ar i (by omega)];simp only[cond_true,BR];have e:aU ((aa.table n).take (i+1))=aU ((aa.table n).take i)++(if (aa.table n)[i].2.2.1==2 then [(aa.table n)[i]] else []):=by
    rw[aU,CB,BV M,List.filter_append];simp[aU,B5]
   cases hb:((aa.table n)[i].2.2.1==2) with
   |true =>
    rw[hb]at e;simp only[if_true]at e;simp only[cond_true];have a3:(aU ((aa.table n).take i)).length<=i:=Nat.le_trans (List.length_filter_le _ _) (by simp;omega);have hs:decide ((BQ (aU ((aa.table n).take i))+BQ [(aa.table n)[i]])*32<=an)=true:=decide_eq_true (by simp only[an,B8];omega);rw[hs];rw[e]at J;exact J
   |false =>
    rw[hb]at e;simp only[BX,if_false,List.append_nil]at e;rw[e]at J;exact J
 have h0:Q158.f K (n,())=_:=a1 (aa.table n).length K 0 (by omega) (by omega);rw[h0];have y:∀ f∈aU (aa.table n),f∈aa.table n/\f.2.2.1=2:=λf I=>by
  rw[aU,CE]at I;exact⟨I.1,by simpa using I.2⟩
 have u:Asc (λf:af=>f.1) (aU (aa.table n)):=List.Pairwise.filter _ hT.2;by_cases r:(aU (aa.table n)).length=(aa.doubts n).length
 ·have:((BQ (aa.doubts n):Int) != (BQ (aU (aa.table n)):Int))=false:=by simp[r]
  rw[this];refine (z8 K n X _ r hK).iff ⟨λh=>⟨?_,?_,r⟩,λ⟨h1,h2,_⟩ i z=>?_⟩
  ·rw[dH];intro i z;obtain⟨R,Y,h5,Z,h7⟩:=h i z;obtain⟨h8,h9⟩:=y _ (BS (show i<(aU (aa.table n)).length by omega));exact⟨⟨_,h8,R.symm,h9,Y.symm⟩,h5,Z,h7⟩
  ·rw[cE]at u ⊢;intro i j z hj a0;have:=u i j (by omega) (by omega) a0;rw[(h i z).1,(h j hj).1];exact this
  ·have H:=je ((aa.doubts n).map (·.1)) ((aU (aa.table n)).map (·.1)) (by rw[B4];exact h2) (by rw[B4];exact u) (by
    intro x hx;obtain⟨d,hd,rfl⟩:=CG.1 hx;obtain⟨⟨f,I,e1,e2,_⟩,_⟩:=h1 d hd;exact CG.2 ⟨f,by rw[aU,CE];exact⟨I,by simpa using e2⟩,e1⟩)
   have H:=H.2 (by simp[r]);have O:i<(aU (aa.table n)).length:=by omega
   have e:(aa.doubts n)[i].1=(aU (aa.table n))[i].1:=by
    have R:((aa.doubts n).map (·.1))[i]?=((aU (aa.table n)).map (·.1))[i]?:=by rw[H]
    rw[CC,CC,BV z,BV O]at R;simpa using R
   obtain⟨⟨f,I,e1,e2,e3⟩,Y,h5,Z⟩:=h1 _ (BS z);have:=fu hT.2 I (y _ (BS O)).1 (e1.trans e);subst this;exact⟨e,e3.symm,Y,h5,Z⟩
 ·have:((BQ (aa.doubts n):Int) != (BQ (aU (aa.table n)):Int))=true:=by simp;omega
  rw[this];exact Ret.no (λh=>r h.2.2)
def sw (n:aa):Prop:=n.2.2.1=false/\n.2.2.2.2.1=0/\n.2.2.2.2.2.1=0/\n.2.2.2.2.2.2.1=0/\n.2.2.2.2.2.2.2.1=0 /\
 wr .i64 (wr .i64 (wr .i64 (wr .i64 ((BQ (aa.table n):Int)+(BQ (aa.cast n):Int))+(BQ (aa.doubts n):Int))+(BQ (aa.places n):Int))+(BQ (aa.others n):Int))=0 /\
 aa.probe n=(0,0,0,false)/\aa.coord n=(0,0,0,0)
def UpP (n:aa):Prop:=ax (aa.table n)/\cd (aa.table n) (ak n.1)/\dj n/\(cU (aa.cast n)/\gZ (aa.table n) (aa.cast n))/\db n/\iH n/\cJ (aa.coord n)/\eA n.1 (aa.places n)/\de n.1 (aa.others n)
def fa (n:aa):Prop:=InP n.1 0 7/\InP n.2.2.2.2.2.1 0 999999/\InP n.2.2.2.2.2.2.1 0 999999/\InP n.2.2.2.2.2.2.2.1 0 8/\InP n.2.2.2.2.1 0 999/\(if n.2.1=true then UpP n else sw n)
theorem pb (K:Nat)(n:aa)(r:NB n)(u:1048577<K):Ret (Q221.f K (n,())) (fa n):=by
 refine Ret.nx (cI K _ _ _) λ_=>Ret.nx (cI K _ _ _) λ_=>Ret.nx (cI K _ _ _) λ_=>Ret.nx (cI K _ _ _) λ_=>Ret.nx (cI K _ _ _) λ_=>?_
 dsimp only;cases R:n.2.1 with
 |false =>
  simp only[B9,cond_true,BX,if_false,sw];refine Ret.cnd (by simp) λ_=>Ret.cnd (by simp) λ_=>Ret.cnd (by simp) λ_=>Ret.cnd (by simp) λ_=>Ret.cnd (by simp) λ_=>Ret.cnd (by simp) λ_=>?_
  refine Ret.iff (Ret.cnd (P:=(aa.probe n).1=0) (by simp) λ_=>Ret.cnd (P:=(aa.probe n).2.1=0) (by simp) λ_=>Ret.cnd (P:=(aa.probe n).2.2.1=0) (by simp) λ_=>Ret.cnd (P:=(aa.probe n).2.2.2=false) (by simp) λ_ =>
   Ret.cnd (P:=(aa.coord n).1=0) (by simp) λ_=>Ret.cnd (P:=(aa.coord n).2.1=0) (by simp) λ_=>Ret.cnd (P:=(aa.coord n).2.2.1=0) (by simp) λ_=>Ret.of (P:=(aa.coord n).2.2.2=0) (by simp)) ?_
  generalize aa.probe n=p;generalize aa.coord n=c;obtain⟨M,I,J,O⟩:=p;obtain⟨z,X,Y,H⟩:=c;simp only[CA];constructor
  ·rintro⟨h1,h2,h3,h4,h5,h6,h7,h8⟩;exact⟨⟨h1,h2,h3,h4⟩,h5,h6,h7,h8⟩
  ·rintro⟨⟨h1,h2,h3,h4⟩,h5,h6,h7,h8⟩;exact⟨h1,h2,h3,h4,h5,h6,h7,h8⟩
 |true =>
  simp only[BU,cond_false,if_true,UpP];exact Ret.px (gw K _ r.table u) λy=>Ret.vl (cX K _) (Ret.px (d4 K _ _ r.table u) λ_=>Ret.px (AX K n r y u) λ_=>Ret.px (uu K n r y u) λ_=>Ret.px (zX K n r u) λ_ =>
   Ret.px (yG K n r y u) λ_=>Ret.px (iG K _) λ_=>Ret.px (yC K n r u) λ_=>(yE K n r u).id)
theorem Ba (K:Nat)(n:aa):Ret (Q131.f K (n,())) (sw n):=by
 simp only[Q131.f,hH,pQ,sw];exact Ret.cnd (by simp) λ_=>Ret.cnd (by simp) λ_=>Ret.cnd (by simp) λ_=>Ret.cnd (by simp) λ_=>Ret.cnd (by simp) λ_=>Ret.cnd (by simp) λ_=>Ret.cnd (by simp) λ_=>Ret.dec
theorem pc (K:Nat)(n:aa)(r:NB n)(u:1048577<K):Ret (Q166.f K (n,())) (fa n):=by
 refine Ret.nx (jf K _) λ_=>Ret.nx (eO K _ _ _) λ_=>Ret.nx (eO K _ _ _) λ_=>Ret.nx (eO K _ _ _) λ_=>Ret.nx (eO K _ _ _) λ_=>?_
 dsimp only;cases z:n.2.1 with
 |false =>
  simp only[B9,cond_true,BX,if_false];exact (Ba K n).id
 |true =>
  simp only[BU,cond_false,if_true,UpP];refine Ret.iff (Ret.px (qF K n r u) λy=>Ret.px (zY K n r y.1 u) λ_=>Ret.px (yH K n r y.1 u) λ_=>Ret.px (nT K _) λ_=>Ret.px (yD K n r u) λ_=>(yF K n r u).id) ?_;constructor
  ·rintro⟨⟨h1,h2,h3,h4,h5⟩,h6,h7,h8,h9,h10⟩;exact⟨h1,h2,h3,⟨h4,h5⟩,h6,h7,h8,h9,h10⟩
  ·rintro⟨h1,h2,h3,⟨h4,h5⟩,h6,h7,h8,h9,h10⟩;exact⟨⟨h1,h2,h3,h4,h5⟩,h6,h7,h8,h9,h10⟩
theorem fw {A R:Type}{step:(A->Option R)->A->Option R}(n:Nat)(S:Nat->A)(rt:Option R)(h:∀ (rec:A->Option R) (i:Nat),i<n->step rec (S i)=rec (S (i+1)))(r:∀ rec:A->Option R,step rec (S n)=rt)
  {k:Nat} (z:n<k):ae step k (S 0)=rt:=by
 rcases l9 (step:=step) n S (λ_=>True) rt none (λrec i y=>.inl ⟨trivial,h rec i y⟩) r n k 0 (by omega) z with ⟨_,u⟩|⟨u,_⟩
 ·exact u
 ·exact absurd (λ_ _ _=>trivial) u
def Szd (o:Option ((Int×Unit)×Unit))(left:Int)(Q:Prop):Prop:=∃ r,o=some ((r,()),())/\(r<0\/(0<=r/\r<=left/\Q))
theorem Szd.sub (left:Int)(n:Nat)(I:0<=left)(M:left<=1048576)(J:n<=9223372036854775807){g:Option ((Int×Unit)×Unit)}{Q:Prop}(y:wr .i64 (left-(n:Int))=left-n->(n:Int)<=left->Szd g (left-n) Q) :
  Szd (bif decide (wr .i64 (left-(n:Int))<0) then some ((-1,()),()) else g) left (n<=1048576/\Q):=by
 have e:wr .i64 (left-(n:Int))=left-n:=aJ (by omega) (by omega);by_cases h:left-(n:Int)<0
 ·rw[e,decide_eq_true h];exact⟨-1,rfl,.inl (by decide)⟩
 ·rw[decide_eq_false (by rw[e];exact h)];obtain⟨r,z,H⟩:=y e (by omega);exact⟨r,z,H.imp id λu=>⟨u.1,by omega,by omega,u.2.2⟩⟩
theorem Szd.bind {o:Option ((Int×Unit)×Unit)}{left:Int}{P Q:Prop}{G:(Int×Unit)×Unit->Option ((Int×Unit)×Unit)}(h:Szd o left P)(R:∀ r,0<=r->r<=left->P->Szd (G ((r,()),())) r Q) :
  Szd (o.bind λy=>bif decide (y.1.1<0) then some ((-1,()),()) else G y) left (P/\Q):=by
 obtain⟨r,X,u⟩:=h;rw[X,BR];rcases u with u|⟨u,O,H⟩
 ·rw[decide_eq_true u];exact⟨-1,rfl,.inl (by decide)⟩
 ·rw[show decide (r<0)=false from decide_eq_false (by omega)];obtain⟨I,M,J⟩:=R r u O H;exact⟨I,M,J.imp id λz=>⟨z.1,by omega,H,z.2.2⟩⟩
theorem Szd.ret (r:Int)(h:0<=r):Szd (some ((r,()),())) r True:=⟨r,rfl,.inr ⟨h,Int.le_refl _,trivial⟩⟩
theorem Szd.iff {o:Option ((Int×Unit)×Unit)}{left:Int}{P Q:Prop}(h:Szd o left P)(e:P->Q):Szd o left Q:=by
 obtain⟨r,y,z⟩:=h;exact⟨r,y,z.imp id λu=>⟨u.1,u.2.1,e u.2.2⟩⟩
end Go.Proofs.YtadlacffdemoiaaGreatEv
