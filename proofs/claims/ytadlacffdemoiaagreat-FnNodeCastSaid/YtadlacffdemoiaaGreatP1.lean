/- What is ok of facts, tables, casts: the program and the specification say the same. -/
import Derived.Test.YtadlacffdemoiaaGreatFns
import Derived.Test.YtadlacffdemoiaaGreatP0
set_option linter.unusedVariables false
set_option linter.unusedSimpArgs false
open Bool renaming not_true->BE,false_eq_true->BH,not_false->BQ
open Classical renaming not_not->BD
open Int renaming natCast_nonneg->BJ
open List renaming length->BA,getElem_mem->BC,getElem?_eq_getElem->BF,getElem_of_mem->BG,drop_eq_getElem_cons->BK,pairwise_map->BL,filter_cons->BM,drop_of_length_le->BN,take_of_length_le->BO,length_singleton->BP,take_add_one->BS,getElem?_map->BT,mem_filter->BV,drop_zero->BW,mem_map->BX
open Nat renaming zero_le->BI,le_refl->BU
open Option renaming bind_some->BB
open Prod.mk renaming injEq->BR
namespace Go.Proofs.YtadlacffdemoiaaGreatEv
open Go
abbrev InP (n u r:Int):Prop:=u<=n/\n<=r
theorem eG (K:Nat)(n u r:Int):Ret (Q129.f K (n,u,r,())) (InP n u r):=by
 simp only[Q129.f];exact Ret.cnd (by simp) λ_=>Ret.dec
theorem cG (K:Nat)(n u r:Int):Ret (Q13.f K (n,u,r,())) (InP n u r):=by
 simp only[Q13.f];exact Ret.cnd (by simp) λ_=>Ret.dec
theorem Ret.id {o:Option RB}{P:Prop}(h:Ret o P):Ret (o.bind λy=>some ((y.1.1,()),())) P:=by
 obtain⟨b,u,r⟩:=h;exact⟨b,by rw[u];rfl,r⟩
theorem Ret.neg {o:Option RB}{P:Prop}(h:Ret o P):Ret (o.bind λy=>some ((!y.1.1,()),())) (¬ P):=by
 obtain⟨b,r,u⟩:=h;exact⟨!b,by rw[r];rfl,by cases b <;> simp_all⟩
def bf (f:af):Prop:=InP f.1 0 7/\InP f.2.1 0 999/\InP f.2.2.1 1 4
theorem ja (K:Nat)(n:Int):Ret (Q130.f K (n,())) (InP n 0 7):=(eG K n 0 7).id
theorem lX (K:Nat)(f:af):Ret (Q132.f K (f,())) (bf f) :=
 Ret.and (ja K f.1) (λ_=>Ret.and (eG K f.2.1 0 999) (λ_=>(eG K f.2.2.1 1 4).id) rfl) rfl
theorem oQ (K:Nat)(f:af):Ret (Q18.f K (f,())) (bf f) :=
 Ret.and (cG K f.1 0 7) (λ_=>Ret.and (cG K f.2.1 0 999) (λ_=>(cG K f.2.2.1 1 4).id) rfl) rfl
def az (t:List af):Prop:=(∀ f∈t,bf f)/\Asc (λf:af=>f.1) t
theorem sC {t:List af}:az t<->∀ j,j<t.length->∃ h:j<t.length,bf t[j]/\(0<j->(t[j-1]'(by omega)).1<t[j].1):=by
 unfold az;rw[dE,gL];constructor
 ·rintro⟨h1,h2⟩ j hj;exact⟨hj,h1 j hj,λr=>h2 j hj r⟩
 ·intro h;exact⟨λi u=>(h i u).2.1,λi u r=>(h i u).2.2 r⟩
theorem eU {P:Prop}:(P/\True)<->P:=by simp
theorem gq (K:Nat)(t:List af)(M:t.length<=1048576)(J:1048577<K):Ret (Q19.f K (t,())) (az t):=by
 refine Ret.iff (qq (step:=λrec a=>Q19.s0 K (t,()) rec a) t.length (λi=>(i:Int)) (λj=>∃ h:j<t.length,bf t[j]/\(0<j->(t[j-1]'(by omega)).1<t[j].1)) (Q:=True) (rt:=rb true) ?_ ?_ (by omega) (λ_=>Ret.yes trivial)) (eU.trans sC.symm)
 ·intro rec i u;simp only[Q19.s0];rw[decide_eq_true (by omega:(i:Int)<(BA t:Int)),ag u,ar i (by omega)];simp only[cond_true,BB];obtain⟨b,H,y⟩:=oQ K t[i];rw[H];simp only[BB];cases b with
  |false=>exact .inr ⟨λ⟨_,r,_⟩=>by simpa using y.2 r,rfl⟩
  |true =>
   simp only[BE,cond_false];by_cases z:(i:Int)>0
   ·rw[decide_eq_true z,eN i (by omega) (by omega),ag (by omega:i-1<t.length)];simp only[cond_true,BB];by_cases r:(t[i-1]'(by omega)).1>=t[i].1
    ·rw[decide_eq_true r];exact .inr ⟨λ⟨_,_,I⟩=>by have:=I (by omega);omega,rfl⟩
    ·rw[decide_eq_false r];exact .inl ⟨⟨u,y.1 rfl,λ_=>by omega⟩,rfl⟩
   ·rw[decide_eq_false z];exact .inl ⟨⟨u,y.1 rfl,λ_=>by omega⟩,rfl⟩
 ·intro rec;simp only[Q19.s0];rw[decide_eq_false (by omega:¬ ((t.length:Int)<(BA t:Int)))];rfl
theorem gr (K:Nat)(t:List af)(M:t.length<=1048576)(J:1048577<K):Ret (Q133.f K (t,())) (az t):=by
 refine Ret.iff (qq (step:=λrec a=>Q133.s0 K (t,()) rec a) t.length (λi=>(i:Int)) (λj=>∃ h:j<t.length,bf t[j]/\(0<j->(t[j-1]'(by omega)).1<t[j].1)) (Q:=True) (rt:=rb true) ?_ ?_ (by omega) (λ_=>Ret.yes trivial)) (eU.trans sC.symm)
 ·intro rec i u;simp only[Q133.s0];rw[decide_eq_true (by omega:(i:Int)<(BA t:Int)),ag u,ar i (by omega)];simp only[cond_true,BB];obtain⟨b,H,y⟩:=lX K t[i];rw[H];simp only[BB];cases b with
  |false=>exact .inr ⟨λ⟨_,r,_⟩=>by simpa using y.2 r,rfl⟩
  |true =>
   simp only[BE,cond_false];by_cases z:(i:Int)>0
   ·rw[decide_eq_true z,eN i (by omega) (by omega),ag (by omega:i-1<t.length)];simp only[cond_true,BB];by_cases r:t[i].1<=(t[i-1]'(by omega)).1
    ·rw[decide_eq_true r];exact .inr ⟨λ⟨_,_,I⟩=>by have:=I (by omega);omega,rfl⟩
    ·rw[decide_eq_false r];exact .inl ⟨⟨u,y.1 rfl,λ_=>by omega⟩,rfl⟩
   ·rw[decide_eq_false z];exact .inl ⟨⟨u,y.1 rfl,λ_=>by omega⟩,rfl⟩
 ·intro rec;simp only[Q133.s0];rw[decide_eq_false (by omega:¬ ((t.length:Int)<(BA t:Int)))];rfl
inductive vw (t:List af) (node:Int):Option Nat->Prop where
 |at_ (i:Nat) (h:i<t.length) (e:t[i].1=node):vw t node (some i)
 |no (h:∀ f∈t,f.1≠node):vw t node none
theorem fk (K:Nat)(t:List af)(r:Int)(M:t.length<=1048576)(J:1048577<K) :
  ∃ o,vw t r o/\Q25.f K (t,r,())=some (((match o with|some i=>((i:Nat):Int)|none=>-1),()),()):=by
 have:=co (step:=λrec a=>Q25.s0 K (t,r,()) rec a) t.length (λi=>(i:Int)) (λj=>∃ h:j<t.length,t[j].1=r) (some ((-1,()),())) (λj=>some ((((j:Nat):Int),()),())) ?_ ?_ t.length K 0 (by omega) (by omega)
 ·rcases this with ⟨y,z⟩|⟨j,_,y,⟨H,I⟩,_,z⟩
  ·refine⟨none,.no ?_,z⟩;rw[dE];exact λi u e=>y i (BI _) u ⟨u,e⟩
  ·exact⟨some j,.at_ j H I,z⟩
 ·intro rec i u;simp only[Q25.s0];rw[decide_eq_true (by omega:(i:Int)<(BA t:Int)),ag u,ar i (by omega)];simp only[cond_true,BB];by_cases h:t[i].1=r
  ·right;refine⟨⟨u,h⟩,?_⟩;have:(t[i].1==r)=true:=by simpa using h
   rw[this];rfl
  ·left;refine⟨λ⟨_,y⟩=>h y,?_⟩;have:(t[i].1==r)=false:=by simpa using h
   rw[this];rfl
 ·intro rec;simp only[Q25.s0];rw[decide_eq_false (by omega:¬ ((t.length:Int)<(BA t:Int)))];rfl
def fm (a b:Int):Int:=if a<b then -1 else if a>b then 1 else 0
theorem nK (K:Nat)(a b:Int):Q136.f K (a,b,())=some ((fm a b,()),()):=by
 have y:∀ x:Int,Q135.f K (x,())=rb false:=λx=>by simp[Q135.f]
 simp only[Q136.f,y,BB,cond_false,fm];by_cases u:a<b
 ·rw[decide_eq_true u,if_pos u];rfl
 ·rw[decide_eq_false u,if_neg u];by_cases r:a>b
  ·rw[decide_eq_true r,if_pos r];rfl
  ·rw[decide_eq_false r,if_neg r];rfl
theorem sD (a b:Int):fm a b<0<->a<b:=by
 unfold fm;by_cases r:a<b
 ·simp[r]
 ·by_cases u:a>b <;> simp[r,u]
theorem uG (a b:Int):fm a b>0<->a>b:=by
 unfold fm;by_cases r:a<b
 ·simp[r];omega
 ·by_cases u:a>b <;> simp[r,u]
theorem ic (a b:Int):fm a b=0<->a=b:=by
 unfold fm;by_cases r:a<b
 ·simp[r];omega
 ·by_cases u:a>b <;> simp[r,u] <;> omega
structure Cut (t:List af) (node:Int) (m:Nat):Prop where
 le:m<=t.length
 lo:∀ i,(h:i<t.length)->i<m->t[i].1<node
 hi:∀ i,(h:i<t.length)->m<=i->node<=t[i].1
theorem sE (K:Nat)(t:List af)(r:Int)(ht:t.length<=1048576)(J:Asc (λf:af=>f.1) t)(hK:1048577<K) :
  ∃ m,Cut t r m/\Q138.f K (t,r,())=some ((((m:Nat):Int),decide (∃ h:m<t.length,t[m].1=r),()),()):=by
 let ks:Nat->Int:=λi=>if h:i<t.length then t[i].1 else 0
 have u:∀ i (h:i<t.length),ks i=t[i].1:=λi h=>by simp[ks,h]
 let H:Nat->Option ((Int×Bool×Unit)×Unit):=λm=>some ((((m:Nat):Int),decide (∃ h:m<t.length,t[m].1=r),()),())
 have Z:∀ f:af,((Q137.f K (f,r,())).map λy=>y.1.1)=some (fm f.1 r):=λf=>by
  simp only[Q137.f];rw[nK];rfl
 have:=pA (step:=λrec a=>Q134.s0 K (t,r,(λM=>(Q137.f K (M.1,M.2.1,())).map λy=>y.1.1),()) rec a) (ks:=ks) (n:=t.length) (t:=r) H ht
  (λi j O Y=>by
   rw[u i (by omega),u j Y];exact cB.1 J i j (by omega) Y O) ?_ ?_ t.length K 0 t.length (by omega) (BI _) (BU _) (by omega) (λi I=>by omega) (λi I hn=>by omega)
 ·obtain⟨m,z,R,h3,h4⟩:=this;refine⟨m,⟨z,λi h I=>by rw[<- u i h];exact R i I,λi h I=>by rw[<- u i h];exact h3 i I h⟩,?_⟩;simp only[Q138.f];have e:Q134.f K (t,r,(λM=>(Q137.f K (M.1,M.2.1,())).map λy=>y.1.1),())=H m:=h4;rw[e];rfl
 ·intro rec a b a0 hb;have X:(a+b) / 2<t.length:=by omega
  simp only[Q134.s0];rw[decide_eq_true (by omega:(a:Int)<(b:Int)),nJ (by omega)];simp only[cond_true];rw[ag X];simp only[BB,Z];rw[u _ X,ar _ (by omega)];by_cases h:t[(a+b) / 2].1<r
  ·rw[if_pos h,decide_eq_true ((sD _ _).2 h)];rfl
  ·rw[if_neg h,decide_eq_false (λz=>h ((sD _ _).1 z))];rfl
 ·intro rec a ha;simp only[Q134.s0];rw[decide_eq_false (by omega)];simp only[cond_false];by_cases h:a<t.length
  ·rw[decide_eq_true (by omega:(a:Int)<(BA t:Int)),ag h];simp only[cond_true,BB,Z,H];congr 3;by_cases z:t[a].1=r
   ·have:(fm t[a].1 r==0)=true:=by simpa using (ic t[a].1 r).2 z
    rw[this,decide_eq_true ⟨h,z⟩]
   ·have:(fm t[a].1 r==0)=false:=by
     rw[beq_eq_false_iff_ne];exact λe=>z ((ic _ _).1 e)
    rw[this,decide_eq_false (λ⟨_,R⟩=>z R)]
  ·rw[decide_eq_false (by omega)];simp only[cond_false,H];rw[decide_eq_false (λ⟨z,_⟩=>h z)]
def ak (n:Int):Int:=wr .i64 (Int.tdiv n 4)
theorem dk (K:Nat)(n:Int):Q23.f K (n,())=some ((ak n,()),()):=rfl
theorem mL (K:Nat)(n:Int):Q142.f K (n,())=some ((ak n,()),()):=rfl
theorem nL (K:Nat)(n:aa):Q145.f K (n,())=some ((ak n.1,()),()):=rfl
abbrev aa.table (n:aa):List af:=n.2.2.2.2.2.2.2.2.1
abbrev aa.cast (n:aa):List aF:=n.2.2.2.2.2.2.2.2.2.1
abbrev aa.probe (n:aa):af:=n.2.2.2.2.2.2.2.2.2.2.1
abbrev aa.doubts (n:aa):List bN:=n.2.2.2.2.2.2.2.2.2.2.2.1
abbrev aa.coord (n:aa):dy:=n.2.2.2.2.2.2.2.2.2.2.2.2.1
abbrev aa.places (n:aa):List dJ:=n.2.2.2.2.2.2.2.2.2.2.2.2.2.1
abbrev aa.others (n:aa):List bY:=n.2.2.2.2.2.2.2.2.2.2.2.2.2.2
structure NB (n:aa):Prop where
 table:(aa.table n).length<=1048576
 cast:(aa.cast n).length<=1048576
 doubts:(aa.doubts n).length<=1048576
 by_:∀ d∈aa.doubts n,d.2.2.2.length<=1048576
 places:(aa.places n).length<=1048576
 trips:∀ p∈aa.places n,p.2.2.length<=1048576
 others:(aa.others n).length<=1048576
 facts:∀ x∈aa.others n,x.2.length<=1048576
def b8 (t:List af)(s:Int):Prop:=∀ f∈t,ak f.1=s
theorem e8 (K:Nat)(t:List af)(s:Int)(y:t.length<=1048576)(u:1048577<K):Ret (Q20.f K (t,s,())) (b8 t s):=by
 refine (gp t (step:=λrec a=>Q20.s0 K (t,s,()) rec a) (λi r=>¬ ak t[i].1≠s) y ?_ ?_ u (λ_=>Ret.yes trivial)).iff (eU.trans ?_)
 ·intro rec i r;simp only[Q20.s0];rw[decide_eq_true (by omega:(i:Int)<(BA t:Int))];exact Rnd.ix (ag r) ((Rnd.cndN (P:=ak t[i].1≠s) (by simp[ak]) (λ_=>Rnd.end_)).iff (by simp))
 ·intro rec;simp only[Q20.s0];rw[decide_eq_false (by omega:¬ ((t.length:Int)<(BA t:Int)))];rfl
 ·rw[b8,dE];exact⟨λh i r=>BD.1 (h i r),λh i r=>BD.2 (h i r)⟩
theorem wT (K:Nat)(t:List af)(y:af×Unit->Option Bool)(p:af->Prop)(X:t.length<=1048576)(R:1048577<K)(hφ:∀ f∈t,∃ b,y (f,())=some b/\(b=true<->p f)) :
  Ret (Q141.f K (t,y,())) (∃ f∈t,p f):=by
 have:=co (step:=λrec a=>Q140.s0 K (t,y,()) rec a) t.length (λi=>(i:Int)) (λj=>∃ h:j<t.length,p t[j]) (some ((-1,()),())) (λj=>some ((((j:Nat):Int),()),())) ?_ ?_ t.length K 0 (by omega) (by omega)
 ·simp only[Q141.f];rcases this with ⟨z,u⟩|⟨j,_,z,⟨O,H⟩,_,u⟩
  ·have e:Q140.f K (t,y,())=some ((-1,()),()):=u;rw[e];refine Ret.of ?_;simp only[ge_iff_le,decide_eq_true_eq];refine⟨λh=>absurd h (by decide),λ⟨f,J,I⟩=>?_⟩;obtain⟨i,r,M⟩:=BG J;exact absurd ⟨r,M ▸ I⟩ (z i (BI _) r)
  ·have e:Q140.f K (t,y,())=some ((((j:Nat):Int),()),()):=u;rw[e];refine Ret.of ?_;simp only[ge_iff_le,decide_eq_true_eq];exact⟨λ_=>⟨t[j],BC O,H⟩,λ_=>BJ j⟩
 ·intro rec i r;simp only[Q140.s0];rw[decide_eq_true (by omega:(i:Int)<(BA t:Int)),ag r,ar i (by omega)];simp only[cond_true,BB];obtain⟨b,z,u⟩:=hφ t[i] (BC r);rw[z];simp only[BB];cases b with
  |true=>exact .inr ⟨⟨r,u.1 rfl⟩,rfl⟩
  |false=>exact .inl ⟨λ⟨_,h⟩=>by simpa using u.2 h,rfl⟩
 ·intro rec;simp only[Q140.s0];rw[decide_eq_false (by omega:¬ ((t.length:Int)<(BA t:Int)))];rfl
theorem qT (K:Nat)(t:List aF)(y:aF×Unit->Option Bool)(p:aF->Prop)(X:t.length<=1048576)(R:1048577<K)(hφ:∀ f∈t,∃ b,y (f,())=some b/\(b=true<->p f)) :
  Ret (Q147.f K (t,y,())) (∃ f∈t,p f):=by
 have:=co (step:=λrec a=>Q146.s0 K (t,y,()) rec a) t.length (λi=>(i:Int)) (λj=>∃ h:j<t.length,p t[j]) (some ((-1,()),())) (λj=>some ((((j:Nat):Int),()),())) ?_ ?_ t.length K 0 (by omega) (by omega)
 ·simp only[Q147.f];rcases this with ⟨z,u⟩|⟨j,_,z,⟨O,H⟩,_,u⟩
  ·have e:Q146.f K (t,y,())=some ((-1,()),()):=u;rw[e];refine Ret.of ?_;simp only[ge_iff_le,decide_eq_true_eq];refine⟨λh=>absurd h (by decide),λ⟨f,J,I⟩=>?_⟩;obtain⟨i,r,M⟩:=BG J;exact absurd ⟨r,M ▸ I⟩ (z i (BI _) r)
  ·have e:Q146.f K (t,y,())=some ((((j:Nat):Int),()),()):=u;rw[e];refine Ret.of ?_;simp only[ge_iff_le,decide_eq_true_eq];exact⟨λ_=>⟨t[j],BC O,H⟩,λ_=>BJ j⟩
 ·intro rec i r;simp only[Q146.s0];rw[decide_eq_true (by omega:(i:Int)<(BA t:Int)),ag r,ar i (by omega)];simp only[cond_true,BB];obtain⟨b,z,u⟩:=hφ t[i] (BC r);rw[z];simp only[BB];cases b with
  |true=>exact .inr ⟨⟨r,u.1 rfl⟩,rfl⟩
  |false=>exact .inl ⟨λ⟨_,h⟩=>by simpa using u.2 h,rfl⟩
 ·intro rec;simp only[Q146.s0];rw[decide_eq_false (by omega:¬ ((t.length:Int)<(BA t:Int)))];rfl
theorem ye (K:Nat)(t:List Int)(y:Int×Unit->Option Bool)(p:Int->Prop)(X:t.length<=1048576)(R:1048577<K)(hφ:∀ f∈t,∃ b,y (f,())=some b/\(b=true<->p f)) :
  Ret (Q163.f K (t,y,())) (∃ f∈t,p f):=by
 have:=co (step:=λrec a=>Q162.s0 K (t,y,()) rec a) t.length (λi=>(i:Int)) (λj=>∃ h:j<t.length,p t[j]) (some ((-1,()),())) (λj=>some ((((j:Nat):Int),()),())) ?_ ?_ t.length K 0 (by omega) (by omega)
 ·simp only[Q163.f];rcases this with ⟨z,u⟩|⟨j,_,z,⟨O,H⟩,_,u⟩
  ·have e:Q162.f K (t,y,())=some ((-1,()),()):=u;rw[e];refine Ret.of ?_;simp only[ge_iff_le,decide_eq_true_eq];refine⟨λh=>absurd h (by decide),λ⟨f,J,I⟩=>?_⟩;obtain⟨i,r,M⟩:=BG J;exact absurd ⟨r,M ▸ I⟩ (z i (BI _) r)
  ·have e:Q162.f K (t,y,())=some ((((j:Nat):Int),()),()):=u;rw[e];refine Ret.of ?_;simp only[ge_iff_le,decide_eq_true_eq];exact⟨λ_=>⟨t[j],BC O,H⟩,λ_=>BJ j⟩
 ·intro rec i r;simp only[Q162.s0];rw[decide_eq_true (by omega:(i:Int)<(BA t:Int)),ag r,ar i (by omega)];simp only[cond_true,BB];obtain⟨b,z,u⟩:=hφ t[i] (BC r);rw[z];simp only[BB];cases b with
  |true=>exact .inr ⟨⟨r,u.1 rfl⟩,rfl⟩
  |false=>exact .inl ⟨λ⟨_,h⟩=>by simpa using u.2 h,rfl⟩
 ·intro rec;simp only[Q162.s0];rw[decide_eq_false (by omega:¬ ((t.length:Int)<(BA t:Int)))];rfl
theorem Ret.fn {o:Option RB}{P:Prop}(h:Ret o P):∃ b,(o.map λy=>y.1.1)=some b/\(b=true<->P):=by
 obtain⟨b,u,r⟩:=h;exact⟨b,by rw[u];rfl,r⟩
theorem ig (K:Nat)(t:List af)(s:Int)(I:t.length<=1048576)(z:1048577<K):Ret (Q144.f K (t,s,())) (b8 t s):=by
 refine (Ret.neg (wT K t (λH=>(Q143.f K (H.1,s,())).map λy=>y.1.1) (λf=>ak f.1≠s) I z (λf _=>?_))).iff ?_
 ·exact⟨_,rfl,by simp[ak]⟩
 ·exact⟨λh f u=>BD.1 λr=>h ⟨f,u,r⟩,λh ⟨f,u,r⟩=>r (h f u)⟩
theorem iz (K:Nat)(t:List af)(r:Int)(O:t.length<=1048576)(I:1048577<K) :
  (¬ az t/\Q139.f K (t,r,())=some (((0,(0,(0,false))),false,()),())) \/
  (az t/\((∃ f∈t,f.1=r/\Q139.f K (t,r,())=some ((f,true,()),()))\/((∀ f∈t,f.1≠r)/\Q139.f K (t,r,())=some (((0,(0,(0,false))),false,()),())))):=by
 simp only[Q139.f];obtain⟨b,R,M⟩:=gr K t O I;rw[R];simp only[BB];cases b with
 |false=>exact .inl ⟨λh=>by simpa using M.2 h,rfl⟩
 |true =>
  have z:=M.1 rfl;obtain⟨m,H,X⟩:=sE K t r O z.2 I;refine .inr ⟨z,?_⟩;simp only[BE,cond_false,X,BB];by_cases h:∃ h:m<t.length,t[m].1=r
  ·rw[decide_eq_true h];obtain⟨u,J⟩:=h;left;refine⟨t[m],BC u,J,?_⟩;simp only[BE,cond_false];rw[ag u];rfl
  ·rw[decide_eq_false h];right;refine⟨?_,rfl⟩;rw[dE];intro i y e;rcases Nat.lt_trichotomy i m with u|u|u
   ·have:=H.lo i y u;omega
   ·subst u;exact h ⟨y,e⟩
   ·have J:=H.hi m (by omega) (BU _);have Y:=cB.1 z.2 m i (by omega) y u;omega
def bB (f g:af):Prop:=if f.2.1≠g.2.1 then f.2.1>g.2.1 else if f.2.2.1≠g.2.2.1 then f.2.2.1>g.2.2.1 else f.2.2.2=true/\g.2.2.2=false
theorem sG (K:Nat)(f g:af):Ret (Q26.f K (f,g,())) (bB f g):=by
 simp only[Q26.f,bB];by_cases u:f.2.1=g.2.1
 ·have e:(f.2.1 != g.2.1)=false:=by simpa using u
  rw[e,if_neg (by simpa using u)];by_cases r:f.2.2.1=g.2.2.1
  ·have e:(f.2.2.1 != g.2.2.1)=false:=by simpa using r
   rw[e,if_neg (by simpa using r)];exact (Ret.cnd (b:=f.2.2.2) Iff.rfl (λ_=>Ret.of (b:=!g.2.2.2) (by simp))).iff Iff.rfl
  ·have e:(f.2.2.1 != g.2.2.1)=true:=by simpa using r
   rw[e,if_pos r];exact Ret.dec
 ·have e:(f.2.1 != g.2.1)=true:=by simpa using u
  rw[e,if_pos u];exact Ret.dec
def orI:List Int->Int
 |[]=>0
 |x::r=>if x≠0 then x else orI r
theorem AH (K:Nat)(xs:List Int)(M:xs.length<=1048576)(J:1048577<K):Q151.f K (xs,())=some ((orI xs,()),()):=by
 have u:∀ (d k i:Nat),i+d=xs.length->d<k->ae (λrec a=>Q151.s0 K (xs,()) rec a) k (i:Int)=some ((orI (xs.drop i),()),()):=by
  intro d;induction d with
  |zero =>
   intro k i H I;obtain⟨k,rfl⟩:∃ z,k=z+1:=⟨k-1,by omega⟩;show Q151.s0 K (xs,()) _ _=_;simp only[Q151.s0];rw[decide_eq_false (by omega:¬ ((i:Int)<(BA xs:Int))),BN (by omega)];rfl
  |succ d y =>
   intro k i H I;obtain⟨k,rfl⟩:∃ z,k=z+1:=⟨k-1,by omega⟩;have y:=y k (i+1) (by omega) (by omega);show Q151.s0 K (xs,()) _ _=_;simp only[Q151.s0];have r:i<xs.length:=by omega
   rw[decide_eq_true (by omega:(i:Int)<(BA xs:Int)),ag r,ar i (by omega),BK r];simp only[cond_true,BB,orI];by_cases h:xs[i]=0
   ·have e:(xs[i] != 0)=false:=by simpa using h
    rw[e,if_neg (by simpa using h)];exact y
   ·have e:(xs[i] != 0)=true:=by simpa using h
    rw[e,if_pos h];rfl
 have:=u xs.length K 0 (by omega) (by omega)
 rwa [BW]at this
def cmpF (f g:af):Int:=orI [fm f.1 g.1,fm f.2.1 g.2.1,fm f.2.2.1 g.2.2.1,if f.2.2.2=true/\g.2.2.2=false then 1 else if g.2.2.2=true/\f.2.2.2=false then -1 else 0]
theorem mM (K:Nat)(f g:af)(H:1048577<K):Q152.f K (f,g,())=some ((cmpF f g,()),()):=by
 obtain⟨a,b,c,d⟩:=f;obtain⟨y,r,u,I⟩:=g;have h:∀ z:Int,Q151.f K ([fm a y,fm b r,fm c u,z],())=some ((orI [fm a y,fm b r,fm c u,z],()),()):=λz=>AH K _ (by simp) H
 simp only[Q152.f,cmpF];cases d <;> cases I <;> simp only[BE,BQ,cond_true,cond_false] <;> rw[nK,BB,nK,BB,nK,BB,h] <;> rfl
theorem oR {x:Int}(h:x=0)(xs:List Int):orI (x::xs)=orI xs:=by subst h;rfl
theorem uH {x:Int}(h:x≠0)(xs:List Int):orI (x::xs)=x:=by simp[orI,h]
theorem ju {f g:af}(e:f.1=g.1):cmpF f g>0<->bB f g:=by
 unfold cmpF bB;rw[oR ((ic f.1 g.1).2 e)];by_cases u:f.2.1=g.2.1
 ·rw[oR ((ic f.2.1 g.2.1).2 u),if_neg (show ¬ f.2.1≠g.2.1 from λh=>h u)];by_cases r:f.2.2.1=g.2.2.1
  ·rw[oR ((ic f.2.2.1 g.2.2.1).2 r),if_neg (show ¬ f.2.2.1≠g.2.2.1 from λh=>h r)];cases f.2.2.2 <;> cases g.2.2.2 <;> simp[orI]
  ·rw[uH (λh=>r ((ic f.2.2.1 g.2.2.1).1 h)),if_pos (show f.2.2.1≠g.2.2.1 from r)];exact uG _ _
 ·rw[uH (λh=>u ((ic f.2.1 g.2.1).1 h)),if_pos (show f.2.1≠g.2.1 from u)];exact uG _ _
theorem pB (K:Nat)(f g:af)(r:1048577<K):Ret (Q153.f K (f,g,())) (bf f/\bf g/\f.1=g.1/\bB f g):=by
 refine Ret.and (lX K f) (λ_=>Ret.and (lX K g) (λ_=>?_) rfl) rfl;refine (Ret.cnd (b:=f.1==g.1) (P:=f.1=g.1) (by simp) (λe=>?_)).iff Iff.rfl;show Ret ((Q152.f K (f,g,())).bind _) _;rw[mM K f g r];refine Ret.of ?_;simp only[gt_iff_lt,decide_eq_true_eq];exact ju e
theorem bh {n:Nat}{m:Int}(h:(n:Int)<m):decide ((n:Int)<m)=true:=decide_eq_true h
theorem aP (n:Nat):decide ((n:Int)<(n:Int))=false:=decide_eq_false (by omega)
def cO (l:List aF):Prop:=(∀ x∈l,bf x.1/\InP x.2 1 4)/\Asc (λx:aF=>x.1.1) l
theorem yf (K:Nat)(l:List aF)(z:l.length<=1048576)(y:1048577<K):Ret (Q215.f K (l,())) (cO l):=by
 refine (gp l (step:=λrec a=>Q215.s0 K (l,()) rec a) (λi r=>bf l[i].1/\InP l[i].2 1 4/\(0<i->¬ (l[i-1]'(by omega)).1.1>=l[i].1.1)/\True) z ?_ ?_ y (λ_=>Ret.yes trivial)).iff (eU.trans ?_)
 ·intro rec i r;simp only[Q215.s0];rw[decide_eq_true (by omega:(i:Int)<(BA l:Int))];simp only[cond_true];refine Rnd.ix (ag r) (Rnd.nx (oQ K _) λ_=>Rnd.ix (ag r) (Rnd.nx (cG K _ 1 4) λ_=>Rnd.two (λu=>?_) Rnd.end_));rw[eN i u (by omega)];exact Rnd.ix (ag (by omega)) (Rnd.ix (ag r) (Rnd.cndN (by simp) λ_=>Rnd.end_))
 ·intro rec;simp only[Q215.s0,aP];rfl
 ·rw[cO,dE,gL];constructor
  ·intro h;exact⟨λi r=>⟨(h i r).1,(h i r).2.1⟩,λi r u=>by have:=(h i r).2.2.1 u;omega⟩
  ·rintro⟨h1,h2⟩ i r;exact⟨(h1 i r).1,(h1 i r).2,λu=>by have:=h2 i r u;omega,trivial⟩
theorem uI (K:Nat)(l:List aF)(O:l.length<=1048576)(M:1048577<K):Q149.f K (l,())=some ((l.map (·.1),()),()):=by
 have u:∀ (d k i:Nat),i+d=l.length->d<k->ae (λrec a=>Q149.s0 K (l,()) rec a) k ((l.take i).map (·.1),(i:Int))=some ((l.map (·.1),()),()):=by
  intro d;induction d with
  |zero =>
   intro k i H I;obtain⟨k,rfl⟩:∃ z,k=z+1:=⟨k-1,by omega⟩;show Q149.s0 K (l,()) _ _=_;simp only[Q149.s0];rw[decide_eq_false (by omega:¬ ((i:Int)<(BA l:Int))),BO (by omega)];rfl
  |succ d y =>
   intro k i H I;obtain⟨k,rfl⟩:∃ z,k=z+1:=⟨k-1,by omega⟩;have y:=y k (i+1) (by omega) (by omega);show Q149.s0 K (l,()) _ _=_;have r:i<l.length:=by omega
   simp only[Q149.s0];rw[decide_eq_true (by omega:(i:Int)<(BA l:Int)),ag r,ar i (by omega)];simp only[cond_true,BB];have J:decide ((BA (List.map (λx:aF=>x.1) (List.take i l))+BA [l[i].1])*32<=an)=true:=decide_eq_true (by simp only[an,List.length_map,List.length_take,BP];omega);rw[J];have e:(List.take i l).map (λx:aF=>x.1)++[l[i].1]=(l.take (i+1)).map (·.1):=by
    rw[BS,BF r,List.map_append];rfl
   rw[e];exact y
 have:=u l.length K 0 (by omega) (by omega);exact this
theorem vz {l:List aF}:az (l.map (·.1))<->(∀ x∈l,bf x.1)/\Asc (λx:aF=>x.1.1) l:=by
 unfold az Asc;rw[BL];simp
theorem wU (K:Nat)(x:aF):Ret (Q148.f K (x,())) (¬ InP x.2 1 4):=by
 simp only[Q148.f];exact (eG K x.2 1 4).neg
theorem yg (K:Nat)(l:List aF)(z:l.length<=1048576)(r:1048577<K):Ret (Q147.f K (l,(λu=>(Q148.f K (u.1,())).map λy=>y.1.1),())) (∃ x∈l,¬ InP x.2 1 4) :=
 qT K l _ (λx=>¬ InP x.2 1 4) z r (λx _=>Ret.fn (wU K x))
theorem oS (K:Nat)(l:List aF)(y:l.length<=1048576)(u:1048577<K):Ret (Q150.f K (l,())) (cO l):=by
 simp only[Q150.f];obtain⟨H,O,J⟩:=yg K l y u;obtain⟨z,I,M⟩:=gr K (l.map (·.1)) (by simpa using y) u;rw[uI K l y u,BB,I,BB,O,BB];have e:cO l<->(z=true/\H=false):=by
  rw[M,vz,cO,<- Bool.not_eq_true,J];constructor
  ·rintro⟨h5,h6⟩;exact⟨⟨λx r=>(h5 x r).1,h6⟩,λ⟨x,r,h⟩=>h (h5 x r).2⟩
  ·rintro⟨⟨h5,h6⟩,h7⟩;exact⟨λx r=>⟨h5 x r,BD.1 λh=>h7 ⟨x,r,h⟩⟩,h6⟩
 refine Ret.iff ?_ e.symm;cases z <;> cases H <;> exact⟨_,rfl,by simp⟩
def gu (t:List af)(l:List aF):Prop:=∀ x∈l,∃ f∈t,f.1=x.1.1/\¬ bB x.1 f
theorem gR {t:List af}(h:Asc (λf:af=>f.1) t){f g:af}(y:f∈t)(z:g∈t)(e:f.1=g.1):f=g:=by
 obtain⟨i,r,rfl⟩:=BG y;obtain⟨j,u,rfl⟩:=BG z;have:=oP h r u e;subst this;rfl
theorem tY (K:Nat)(n:aa)(y:NB n)(O:az (aa.table n))(z:1048577<K):Ret (Q216.f K (n,())) (cO (aa.cast n)/\gu (aa.table n) (aa.cast n)):=by
 refine Ret.nx (yf K _ y.cast z) λ_=>?_
 refine (gp (aa.cast n) (step:=λrec a=>Q216.s0 K (n,()) rec a) (λi r=>∃ f∈aa.table n,f.1=(aa.cast n)[i].1.1/\¬ bB (aa.cast n)[i].1 f) y.cast ?_ ?_ z (λ_=>Ret.yes trivial)).iff (eU.trans ?_)
 ·intro rec i r;simp only[Q216.s0];rw[decide_eq_true (by omega:(i:Int)<(BA (aa.cast n):Int))];simp only[cond_true];refine Rnd.ix (ag r) ?_;obtain⟨o,I,M⟩:=fk K (aa.table n) (aa.cast n)[i].1.1 y.table z;refine Rnd.vl M ?_;cases I with
  |no h =>
   rw[show decide ((-1:Int)<0)=true from rfl];exact .inr ⟨λ⟨f,u,e,_⟩=>h f u e,rfl⟩
  |at_ j H e =>
   simp only;rw[decide_eq_false (by omega:¬ ((j:Int)<0))];refine (Rnd.ix (ag r) (Rnd.ix (ag H) (Rnd.fx (sG K _ _) λ_=>Rnd.end_))).iff ⟨λh=>⟨_,BC H,e,h.1⟩,λ⟨f,u,J,h⟩=>⟨?_,trivial⟩⟩;have:=gR O.2 u (BC H) (J.trans e.symm)
   rwa [<- this]
 ·intro rec;simp only[Q216.s0,aP];rfl
 ·rw[gu,dE]
theorem yh (K:Nat)(n:aa)(O:NB n)(J:az (aa.table n))(hC:cO (aa.cast n))(I:1048577<K) :
  Ret ((Q147.f K (aa.cast n,(λZ=>(Q154.f K (Z.1,n,())).map λy=>y.1.1),())).bind λX=>some ((!X.1.1,()),())) (gu (aa.table n) (aa.cast n)):=by
 refine (Ret.neg (qT K _ _ (λx=>¬ ∃ f∈aa.table n,f.1=x.1.1/\¬ bB x.1 f) O.cast I (λx z=>Ret.fn ?_))).iff ?_
 ·simp only[Q154.f];rcases iz K (aa.table n) x.1.1 O.table I with ⟨r,_⟩|⟨_,⟨f,u,e,r⟩|⟨H,r⟩⟩
  ·exact absurd J r
  ·refine Ret.vl r ?_;refine (pB K x.1 f I).id.iff ⟨λh ⟨g,Y,R,M⟩=>?_,λh=>?_⟩
   ·have:=gR J.2 Y u (R.trans e.symm);exact M (this ▸ h.2.2.2)
   ·refine⟨(hC.1 x z).1,J.1 f u,e.symm,BD.1 λM=>h ⟨f,u,e,M⟩⟩
  ·refine Ret.vl r ?_;exact Ret.yes (λ⟨f,u,e,_⟩=>H f u e)
 ·exact⟨λh x z=>BD.1 λH=>h ⟨x,z,H⟩,λh ⟨x,z,H⟩=>H (h x z)⟩
def de (n:aa):Prop:=((n.1,n.2.2.2.2.1,(if n.2.2.1=true then 4 else 1),n.2.2.2.1):af)∈aa.table n
theorem AI (K:Nat)(n:aa)(H:NB n)(M:az (aa.table n))(I:1048577<K):Ret (Q214.f K (n,())) (de n):=by
 simp only[Q214.f];obtain⟨o,y,z⟩:=fk K (aa.table n) n.1 H.table I;refine Ret.vl z ?_;cases y with
 |no h =>
  rw[show decide ((-1:Int)<0)=true from rfl];exact Ret.no (λO=>h _ O rfl)
 |at_ j u e =>
  simp only;rw[decide_eq_false (by omega:¬ ((j:Int)<0))];refine Ret.vl (ag u) ?_;have r:de n<->(aa.table n)[j]=((n.1,n.2.2.2.2.1,(if n.2.2.1=true then 4 else 1),n.2.2.2.1):af):=by
   constructor
   ·intro h;exact gR M.2 (BC u) h e
   ·intro h;show _∈_;rw[<- h];exact BC u
  have J:(aa.table n)[j]=((n.1,n.2.2.2.2.1,(if n.2.2.1=true then 4 else 1),n.2.2.2.1):af)<->((aa.table n)[j].2.1=n.2.2.2.2.1/\(aa.table n)[j].2.2.1=(if n.2.2.1=true then 4 else 1)/\(aa.table n)[j].2.2.2=n.2.2.2.1):=by
   generalize (aa.table n)[j]=f at e ⊢;obtain⟨a,b,c,d⟩:=f;simp at e ⊢;intro _ _ _;exact e
  refine Ret.iff ?_ (r.trans J).symm;cases R:n.2.2.1 with
  |true=>exact Ret.cnd (by simp) λ_=>Ret.cnd (by simp) λ_=>Ret.of (by simp)
  |false=>exact Ret.cnd (by simp) λ_=>Ret.cnd (by simp) λ_=>Ret.of (by simp)
theorem fI (f g:af):Ty.eqv ty_impl_Fact_D f g=decide (f=g):=by
 obtain⟨a,b,c,d⟩:=f;obtain⟨z,u,y,r⟩:=g;show (decide (a=z)&&(decide (b=u)&&(decide (c=y)&&(d==r))))=_;cases d <;> cases r <;> simp[BR]
theorem pC (f g:dy):Ty.eqv ty_impl_Coord_D f g=decide (f=g):=by
 obtain⟨a,b,c,d⟩:=f;obtain⟨z,r,u,y⟩:=g;show (decide (a=z)&&(decide (b=r)&&(decide (c=u)&&decide (d=y))))=_;simp[BR]
theorem qr (K:Nat)(n:aa)(I:NB n)(J:1048577<K):Ret (Q155.f K (n,()))
  (az (aa.table n)/\b8 (aa.table n) (ak n.1)/\de n/\cO (aa.cast n)/\gu (aa.table n) (aa.cast n)):=by
 have H:∀ (w:Int),az (aa.table n)->Ret ((Q145.f K (n,())).bind λX=>(Q144.f K (aa.table n,X.1.1,())).bind λZ=>bif !Z.1.1 then rb false else
   ((Q150.f K (aa.cast n,())).bind λO=>bif !O.1.1 then rb false else
    ((Q147.f K (aa.cast n,(λY=>(Q154.f K (Y.1,n,())).map λy=>y.1.1),())).bind λR=>some ((!R.1.1,()),()))))
   (b8 (aa.table n) (ak n.1)/\cO (aa.cast n)/\gu (aa.table n) (aa.cast n)):=by
  intro _ z;exact Ret.vl (nL K n) (Ret.nx (ig K _ _ I.table J) λ_=>Ret.nx (oS K _ I.cast J) λhC=>yh K n I z hC J)
 have r:∀ (w:Int),w=(if n.2.2.1=true then 4 else 1)->Ret ((Q139.f K (aa.table n,n.1,())).bind λy1=>bif !y1.1.2.1 then rb false else bif !Ty.eqv ty_impl_Fact_D y1.1.1 (n.1,(n.2.2.2.2.1,(w,n.2.2.2.1))) then rb false else
   ((Q145.f K (n,())).bind λX=>(Q144.f K (aa.table n,X.1.1,())).bind λZ=>bif !Z.1.1 then rb false else
   ((Q150.f K (aa.cast n,())).bind λO=>bif !O.1.1 then rb false else
    ((Q147.f K (aa.cast n,(λY=>(Q154.f K (Y.1,n,())).map λy=>y.1.1),())).bind λR=>some ((!R.1.1,()),())))))
   (az (aa.table n)/\b8 (aa.table n) (ak n.1)/\de n/\cO (aa.cast n)/\gu (aa.table n) (aa.cast n)):=by
  intro w hw;rcases iz K (aa.table n) n.1 I.table J with ⟨u,h2⟩|⟨z,⟨f,hf,e,u⟩|⟨h2,u⟩⟩
  ·exact Ret.vl h2 (Ret.no (λh=>u h.1))
  ·refine Ret.vl u ?_;simp only[BE,cond_false];rw[fI];by_cases M:f=(n.1,(n.2.2.2.2.1,(w,n.2.2.2.1)))
   ·rw[decide_eq_true M];have hS:de n:=by
     show _∈_;rw[<- hw,<- M];exact hf
    exact (H w z).iff ⟨λh=>⟨z,h.1,hS,h.2.1,h.2.2⟩,λh=>⟨h.2.1,h.2.2.2⟩⟩
   ·rw[decide_eq_false M];refine Ret.no (λh=>M ?_);have:=gR z.2 hf h.2.2.1 e;rw[this,hw]
  ·refine Ret.vl u (Ret.no (λh=>h2 _ h.2.2.1 rfl))
 simp only[Q155.f];cases hg:n.2.2.1 with
 |true=>exact r 4 (by rw[hg];rfl)
 |false=>exact r 1 (by rw[hg];rfl)
def c7 (n:aa):Prop:=if (aa.probe n).1=-1 then aa.probe n=(-1,0,0,false) else
 (aa.probe n).1≠n.1/\(∃ f∈aa.table n,f.1=(aa.probe n).1)/\InP (aa.probe n).2.1 0 n.2.2.2.2.2.1/\InP (aa.probe n).2.2.1 1 n.2.2.2.2.2.2.1
theorem zK (K:Nat)(n:aa)(H:NB n)(I:1048577<K):Ret (Q217.f K (n,())) (c7 n):=by
 simp only[Q217.f,c7];by_cases h:(aa.probe n).1=-1
 ·rw[if_pos h,show ((aa.probe n).1==-1)=true by simpa using h];refine (Ret.cnd (P:=(aa.probe n).2.1=0) (by simp) λ_=>Ret.cnd (P:=(aa.probe n).2.2.1=0) (by simp) λ_=>Ret.of (P:=(aa.probe n).2.2.2=false) (by simp)).iff ?_;generalize aa.probe n=p at h ⊢;obtain⟨a,b,c,d⟩:=p;simp at h ⊢;intro _ _ _;exact h
 ·rw[if_neg h,show ((aa.probe n).1==-1)=false by simpa using h];refine Ret.cnd (by simp) λ_=>?_
  obtain⟨o,u,y⟩:=fk K (aa.table n) (aa.probe n).1 H.table I;refine Ret.vl y ?_;cases u with
  |no M=>exact Ret.no (λ⟨⟨f,z,e⟩,_⟩=>M f z e)
  |at_ j J e =>
   simp only;rw[show decide ((j:Int)>=0)=true from decide_eq_true (by omega)];exact (Ret.px (cG K _ _ _) λ_=>(cG K _ _ _).id).iff ⟨λr=>⟨⟨_,BC J,e⟩,r⟩,λr=>r.2⟩
theorem zL (K:Nat)(n:aa)(z:NB n)(J:az (aa.table n))(H:1048577<K):Ret (Q156.f K (n,())) (c7 n):=by
 simp only[Q156.f,c7];by_cases h:(aa.probe n).1=-1
 ·rw[if_pos h,show ((aa.probe n).1==-1)=true by simpa using h,fI];exact Ret.dec
 ·rw[if_neg h,show ((aa.probe n).1==-1)=false by simpa using h];rcases iz K (aa.table n) (aa.probe n).1 z.table H with ⟨u,_⟩|⟨_,⟨f,y,e,u⟩|⟨I,u⟩⟩
  ·exact absurd J u
  ·refine Ret.vl u ?_;exact (Ret.cnd (P:=(aa.probe n).1≠n.1) (by simp) λ_=>Ret.px (eG K _ _ _) λ_=>(eG K _ _ _).id).iff ⟨λr=>⟨r.1,⟨f,y,e⟩,r.2⟩,λr=>⟨r.1,r.2.2⟩⟩
  ·exact Ret.vl u (Ret.no (λ⟨_,⟨f,y,e⟩,_⟩=>I f y e))
def cH (c:dy):Prop:=InP c.1 (-100000) 100000/\InP c.2.1 (-100000) 100000/\InP c.2.2.1 0 100000/\InP c.2.2.2 1 1500
theorem iA (K:Nat)(c:dy):Ret (Q21.f K (c,())) (cH c) :=
 Ret.px (cG K _ _ _) λ_=>Ret.px (cG K _ _ _) λ_=>Ret.px (cG K _ _ _) λ_=>(cG K _ _ _).id
theorem nM (K:Nat)(c:dy):Ret (Q159.f K (c,())) (cH c) :=
 Ret.px (eG K _ _ _) λ_=>Ret.px (eG K _ _ _) λ_=>Ret.px (eG K _ _ _) λ_=>(eG K _ _ _).id
def AJ (r:Int)(p:dJ):Prop:=InP p.1 0 7/\ak p.1=ak r/\p.1≠r/\cH p.2.1/\InP (p.2.2.length:Int) 1 3/\∀ t∈p.2.2,InP t 1 60000
def eq (r:Int)(l:List dJ):Prop:=(∀ p∈l,AJ r p)/\Asc (λp:dJ=>p.1) l
theorem pD (K:Nat)(n:aa)(x:Int):Ret (Q157.f K (n,x,())) (InP x 0 7/\ak x=ak n.1):=by
 refine Ret.px (ja K x) λ_=>?_
 exact Ret.of (b:=ak x==ak n.1) (by simp)
theorem zM (K:Nat)(n:aa)(x:Int):Ret (Q160.f K (n,x,())) ((InP x 0 7/\ak x=ak n.1)/\x≠n.1):=by
 refine Ret.px (pD K n x) λ_=>?_
 exact Ret.of (b:=x != n.1) (by simp)
theorem yi (K:Nat)(n:aa)(J:NB n)(hK:1048577<K):Ret (Q219.f K (n,())) (eq n.1 (aa.places n)):=by
 refine (gp (aa.places n) (step:=λrec a=>Q219.s0 K (n,()) (Q219.l1 K (n,()) rec) rec a)
  (λi y=>InP (aa.places n)[i].1 0 7/\¬ ak (aa.places n)[i].1≠ak n.1/\¬ (aa.places n)[i].1=n.1/\(0<i->¬ ((aa.places n)[i-1]'(by omega)).1>=(aa.places n)[i].1) /\
   cH (aa.places n)[i].2.1/\InP ((aa.places n)[i].2.2.length:Int) 1 3/\∀ k (z:k<(aa.places n)[i].2.2.length),InP (aa.places n)[i].2.2[k] 1 60000/\True) J.places ?_ ?_ hK (λ_=>Ret.yes trivial)).iff (eU.trans ?_)
 ·intro rec i y;have Z:=J.trips _ (BC y);have hl:=J.places;have r:Rnd (Q219.l1 K (n,()) rec ((i:Int),0,(aa.places n)[i].1,(aa.places n)[i].2.1.1,(aa.places n)[i].2.1.2.1,(aa.places n)[i].2.1.2.2.1,(aa.places n)[i].2.1.2.2.2,(aa.places n)[i].2.2))
    (∀ k (z:k<(aa.places n)[i].2.2.length),InP (aa.places n)[i].2.2[k] 1 60000/\True) (rec (wr .i64 ((i:Int)+1))):=by
   generalize (aa.places n)[i]=p at Z;refine oO p.2.2 (step:=λu a=>Q219.s1 K (n,()) rec u a) (λk=>((i:Int),(k:Int),p.1,p.2.1.1,p.2.1.2.1,p.2.1.2.2.1,p.2.1.2.2.2,p.2.2)) (λk z=>InP p.2.2[k] 1 60000/\True) Z ?_ ?_ hK
   ·intro u k z;simp only[Q219.s1];rw[decide_eq_true (by omega:(k:Int)<(BA p.2.2:Int)),ar k (by omega)];simp only[cond_true];exact Rnd.ix (ag z) (Rnd.nx (cG K _ _ _) λ_=>Rnd.end_)
   ·intro u;simp only[Q219.s1,aP];rfl
  simp only[Q219.s0];rw[decide_eq_true (by omega:(i:Int)<(BA (aa.places n):Int))];simp only[cond_true];refine Rnd.ix (ag y) (Rnd.nx (cG K _ _ _) λ_=>Rnd.vl (dk K _) (Rnd.vl (dk K _) (Rnd.cndN (by simp) λ_=>Rnd.cndN (by simp) λ_=>Rnd.two (λH=>?_) ?_)))
  ·rw[eN i H (by omega)];exact Rnd.ix (ag (show i-1<(aa.places n).length by omega)) (Rnd.cndN (by simp) λ_=>Rnd.nx (iA K _) λ_=>Rnd.nx (cG K _ _ _) λ_=>r)
  ·exact Rnd.nx (iA K _) λ_=>Rnd.nx (cG K _ _ _) λ_=>r
 ·intro rec;simp only[Q219.s0,aP];rfl
 ·rw[eq,dE,gL];constructor
  ·intro h;refine⟨λi y=>?_,λi y H=>?_⟩
   ·obtain⟨I,Y,X,h4,R,M,O⟩:=h i y;exact⟨I,BD.1 Y,X,R,M,dE.2 λk z=>(O k z).1⟩
   ·have:=(h i y).2.2.2.1 H;omega
  ·rintro⟨I,Y⟩ i y;obtain⟨X,h4,R,M,O,h8⟩:=I i y;exact⟨X,BD.2 h4,R,λH=>by have:=Y i y H;omega,M,O,λk z=>⟨dE.1 h8 k z,trivial⟩⟩
theorem yj (K:Nat)(n:aa)(J:NB n)(hK:1048577<K):Ret (Q164.f K (n,())) (eq n.1 (aa.places n)):=by
 refine (gp (aa.places n) (step:=λrec a=>Q164.s0 K (n,()) rec a)
  (λi u=>((InP (aa.places n)[i].1 0 7/\ak (aa.places n)[i].1=ak n.1)/\(aa.places n)[i].1≠n.1)/\(0<i->¬ (aa.places n)[i].1<=((aa.places n)[i-1]'(by omega)).1) /\
   cH (aa.places n)[i].2.1/\InP ((aa.places n)[i].2.2.length:Int) 1 3/\(¬ ∃ t∈(aa.places n)[i].2.2,¬ InP t 1 60000)/\True) J.places ?_ ?_ hK (λ_=>Ret.yes trivial)).iff (eU.trans ?_)
 ·intro rec i u;have hb:=J.trips _ (BC u);have hl:=J.places;have r:Ret (Q163.f K ((aa.places n)[i].2.2,(λy6=>(Q161.f K (y6.1,())).map λy=>y.1.1),())) (∃ t∈(aa.places n)[i].2.2,¬ InP t 1 60000) :=
   ye K _ _ _ hb hK (λt _=>Ret.fn (eG K t _ _).neg)
  simp only[Q164.s0];rw[decide_eq_true (by omega:(i:Int)<(BA (aa.places n):Int))];simp only[cond_true];refine Rnd.ix (ag u) (Rnd.nx (zM K n _) λ_=>Rnd.two (λz=>?_) ?_)
  ·rw[eN i z (by omega)];exact Rnd.ix (ag (show i-1<(aa.places n).length by omega)) (Rnd.cndN (by simp) λ_=>Rnd.nx (nM K _) λ_=>Rnd.nx (eG K _ _ _) λ_=>Rnd.fx r λ_=>Rnd.end_)
  ·exact Rnd.nx (nM K _) λ_=>Rnd.nx (eG K _ _ _) λ_=>Rnd.fx r λ_=>Rnd.end_
 ·intro rec;simp only[Q164.s0,aP];rfl
 ·rw[eq,dE,gL];constructor
  ·intro h;refine⟨λi u=>?_,λi u z=>?_⟩
   ·obtain⟨⟨⟨I,Y⟩,X⟩,h4,R,M,O,_⟩:=h i u;exact⟨I,Y,X,R,M,λt Z=>BD.1 λH=>O ⟨t,Z,H⟩⟩
   ·have:=(h i u).2.1 z;omega
  ·rintro⟨I,Y⟩ i u;obtain⟨X,h4,R,M,O,H⟩:=I i u;exact⟨⟨⟨X,h4⟩,R⟩,λz=>by have:=Y i u z;omega,M,O,λ⟨t,Z,h9⟩=>h9 (H t Z),trivial⟩
def AK (r:Int)(x:bY):Prop:=InP x.1 0 1/\x.1≠ak r/\x.2≠[]/\az x.2/\b8 x.2 x.1
def c8 (r:Int)(l:List bY):Prop:=(∀ x∈l,AK r x)/\Asc (λx:bY=>x.1) l
theorem oT {α:Type}(l:List α):((BA l:Int)==0)=true<->l=[]:=by
 cases l <;> simp;omega
theorem yk (K:Nat)(n:aa)(H:NB n)(y:1048577<K):Ret (Q220.f K (n,())) (c8 n.1 (aa.others n)):=by
 refine (gp (aa.others n) (step:=λrec a=>Q220.s0 K (n,()) rec a)
  (λi r=>InP (aa.others n)[i].1 0 1/\¬ (aa.others n)[i].1=ak n.1/\(0<i->¬ ((aa.others n)[i-1]'(by omega)).1>=(aa.others n)[i].1) /\
   ¬ (aa.others n)[i].2=[]/\az (aa.others n)[i].2/\b8 (aa.others n)[i].2 (aa.others n)[i].1/\True) H.others ?_ ?_ y (λ_=>Ret.yes trivial)).iff (eU.trans ?_)
 ·intro rec i r;have z:=H.facts _ (BC r);have X:=H.others;simp only[Q220.s0];rw[decide_eq_true (by omega:(i:Int)<(BA (aa.others n):Int))];simp only[cond_true];refine Rnd.ix (ag r) (Rnd.nx (cG K _ _ _) λ_=>Rnd.vl (dk K _) (Rnd.cndN (by simp) λ_=>Rnd.two (λu=>?_) ?_))
  ·rw[eN i u (by omega)];exact Rnd.ix (ag (show i-1<(aa.others n).length by omega)) (Rnd.cndN (by simp) λ_=>Rnd.cndN (oT _) λ_=>Rnd.nx (gq K _ z y) λ_=>Rnd.nx (e8 K _ _ z y) λ_=>Rnd.end_)
  ·exact Rnd.cndN (oT _) λ_=>Rnd.nx (gq K _ z y) λ_=>Rnd.nx (e8 K _ _ z y) λ_=>Rnd.end_
 ·intro rec;simp only[Q220.s0,aP];rfl
 ·rw[c8,dE,gL];constructor
  ·intro h;exact⟨λi r=>⟨(h i r).1,(h i r).2.1,(h i r).2.2.2.1,(h i r).2.2.2.2.1,(h i r).2.2.2.2.2.1⟩,λi r u=>by have:=(h i r).2.2.1 u;omega⟩
  ·rintro⟨h1,h2⟩ i r;obtain⟨O,R,M,I,J⟩:=h1 i r;exact⟨O,R,λu=>by have:=h2 i r u;omega,M,I,J,trivial⟩
theorem yl (K:Nat)(n:aa)(J:NB n)(z:1048577<K):Ret (Q165.f K (n,())) (c8 n.1 (aa.others n)):=by
 refine (gp (aa.others n) (step:=λrec a=>Q165.s0 K (n,()) rec a)
  (λi r=>InP (aa.others n)[i].1 0 1/\¬ (aa.others n)[i].1=ak n.1/\(0<i->¬ (aa.others n)[i].1<=((aa.others n)[i-1]'(by omega)).1) /\
   ¬ (aa.others n)[i].2=[]/\az (aa.others n)[i].2/\b8 (aa.others n)[i].2 (aa.others n)[i].1/\True) J.others ?_ ?_ z (λ_=>Ret.yes trivial)).iff (eU.trans ?_)
 ·intro rec i r;have H:=J.facts _ (BC r);have Y:=J.others;have I:ak 7=1:=by unfold ak;rw[aJ (by decide) (by decide)];decide
  have y:=eG K (aa.others n)[i].1 0 (ak 7);rw[I]at y;simp only[Q165.s0];rw[decide_eq_true (by omega:(i:Int)<(BA (aa.others n):Int))];simp only[cond_true];refine Rnd.ix (ag r) (Rnd.vl (mL K 7) ?_);dsimp only;rw[I];refine Rnd.nx y λ_=>Rnd.vl (nL K n) (Rnd.cndN (by simp) λ_=>Rnd.two (λu=>?_) ?_)
  ·rw[eN i u (by omega)];exact Rnd.ix (ag (show i-1<(aa.others n).length by omega)) (Rnd.cndN (by simp) λ_=>Rnd.cndN (oT _) λ_=>Rnd.nx (gr K _ H z) λ_=>Rnd.nx (ig K _ _ H z) λ_=>Rnd.end_)
  ·exact Rnd.cndN (oT _) λ_=>Rnd.nx (gr K _ H z) λ_=>Rnd.nx (ig K _ _ H z) λ_=>Rnd.end_
 ·intro rec;simp only[Q165.s0,aP];rfl
 ·rw[c8,dE,gL];constructor
  ·intro h;exact⟨λi r=>⟨(h i r).1,(h i r).2.1,(h i r).2.2.2.1,(h i r).2.2.2.2.1,(h i r).2.2.2.2.2.1⟩,λi r u=>by have:=(h i r).2.2.1 u;omega⟩
  ·rintro⟨h1,h2⟩ i r;obtain⟨R,X,O,M,I⟩:=h1 i r;exact⟨R,X,λu=>by have:=h2 i r u;omega,O,M,I,trivial⟩
def ByP (r:Int)(l:List Int):Prop:=(∀ b∈l,InP b 0 7/\ak b=ak r)/\Asc (λb:Int=>b) l
def lx (n:aa)(d:bN):Prop:=(∃ f∈aa.table n,f.1=d.1/\f.2.2.1=2/\f.2.1=d.2.1)/\InP d.2.2.1 0 n.2.2.2.2.2.1/\d.2.2.2≠[]/\ByP n.1 d.2.2.2
def aU (t:List af):List af:=t.filter λf=>f.2.2.1==2
def iB (n:aa):Prop:=(∀ d∈aa.doubts n,lx n d)/\Asc (λd:bN=>d.1) (aa.doubts n)/\(aU (aa.table n)).length=(aa.doubts n).length
theorem wV {y:Int}{l:List Int}:ByP y l<->∀ k (r:k<l.length),(InP l[k] 0 7/\ak l[k]=ak y)/\(0<k->¬ l[k-1]'(by omega)>=l[k]):=by
 rw[ByP,dE,gL];constructor
 ·rintro⟨h1,h2⟩ k r;exact⟨h1 k r,λu=>by have:=h2 k r u;omega⟩
 ·intro h;exact⟨λk r=>(h k r).1,λk r u=>by have:=(h k r).2 u;omega⟩
theorem zN (K:Nat)(n:aa)(J:NB n)(R:1048577<K):Q218.l2 K (n,()) (0,0)=rb (decide ((aU (aa.table n)).length=(aa.doubts n).length)):=by
 have X:=J.table;have u:∀ (d k i c:Nat),i+d=(aa.table n).length->d<k->c<=i ->
   ae (λrec a=>Q218.s2 K (n,()) rec a) k ((c:Int),(i:Int))=rb (decide (c+(aU ((aa.table n).drop i)).length=(aa.doubts n).length)):=by
  intro d;induction d with
  |zero =>
   intro k i c I O M;obtain⟨k,rfl⟩:∃ y,k=y+1:=⟨k-1,by omega⟩;show Q218.s2 K (n,()) _ _=_;simp only[Q218.s2];rw[decide_eq_false (show ¬ ((i:Int)<(BA (aa.table n):Int)) by omega),BN (by omega)];simp only[cond_false,aU,List.filter_nil,List.length_nil,Nat.add_zero];have e:((c:Int)==(BA (aa.doubts n):Int))=decide (c=(aa.doubts n).length):=by
    by_cases h:c=(aa.doubts n).length
    ·rw[decide_eq_true h,h];simp
    ·rw[decide_eq_false h,beq_eq_false_iff_ne];omega
   exact congrArg rb e
  |succ d H =>
   intro k i c I O M;obtain⟨k,rfl⟩:∃ y,k=y+1:=⟨k-1,by omega⟩;have r:i<(aa.table n).length:=by omega
   show Q218.s2 K (n,()) _ _=_;simp only[Q218.s2];rw[decide_eq_true (show ((i:Int)<(BA (aa.table n):Int)) by omega),ag r,ar i (by omega),ar c (by omega),BK r];simp only[cond_true,BB];cases z:((aa.table n)[i].2.2.1==2) with
   |true =>
    have:=H k (i+1) (c+1) (by omega) (by omega) (by omega);simp only[cond_true];have e:c+1+(aU ((aa.table n).drop (i+1))).length=c+(aU ((aa.table n)[i]::(aa.table n).drop (i+1))).length:=by
     simp only[aU,BM,z,if_true,List.length_cons];omega
    rw[<- e];exact this
   |false =>
    have:=H k (i+1) c (by omega) (by omega) (by omega);simp only[cond_false];have e:aU ((aa.table n)[i]::(aa.table n).drop (i+1))=aU ((aa.table n).drop (i+1)):=by
     simp only[aU,BM,z,BH,if_false]
    rw[e];exact this
 have:=u (aa.table n).length K 0 0 (by omega) (by omega) (BU _);rw[BW,Nat.zero_add]at this;exact this
theorem ym (K:Nat)(n:aa)(X:NB n)(hT:az (aa.table n))(Y:1048577<K):Ret (Q218.f K (n,())) (iB n):=by
 refine (gp (aa.doubts n) (step:=λrec a=>Q218.s0 K (n,()) (Q218.l1 K (n,()) rec) (Q218.l2 K (n,())) rec a)
  (λi z=>(0<i->¬ ((aa.doubts n)[i-1]'(by omega)).1>=(aa.doubts n)[i].1)/\lx n (aa.doubts n)[i]) (Q:=(aU (aa.table n)).length=(aa.doubts n).length) (rt:=Q218.l2 K (n,()) (0,0)) X.doubts ?_ ?_ Y (λ_=>by rw[zN K n X Y];exact Ret.dec)).iff ?_
 ·intro rec i z;have Z:=X.by_ _ (BC z);have hl:=X.doubts;have u:Rnd (Q218.l1 K (n,()) rec ((i:Int),0,(aa.doubts n)[i].1,(aa.doubts n)[i].2.1,(aa.doubts n)[i].2.2.1,(aa.doubts n)[i].2.2.2)) (ByP n.1 (aa.doubts n)[i].2.2.2) (rec (wr .i64 ((i:Int)+1))):=by
   generalize (aa.doubts n)[i]=d at Z;refine (oO d.2.2.2 (step:=λy a=>Q218.s1 K (n,()) rec y a) (λk=>((i:Int),(k:Int),d.1,d.2.1,d.2.2.1,d.2.2.2))
    (λk r=>InP d.2.2.2[k] 0 7/\¬ ak d.2.2.2[k]≠ak n.1/\(0<k->¬ d.2.2.2[k-1]'(by omega)>=d.2.2.2[k])/\True) Z ?_ ?_ Y).iff ?_
   ·intro y k r;simp only[Q218.s1];rw[decide_eq_true (by omega:(k:Int)<(BA d.2.2.2:Int)),ar k (by omega)];simp only[cond_true];refine Rnd.ix (ag r) (Rnd.nx (cG K _ _ _) λ_=>Rnd.ix (ag r) (Rnd.vl (dk K _) (Rnd.vl (dk K _) (Rnd.cndN (by simp) λ_=>Rnd.two (λH=>?_) Rnd.end_))));rw[eN k H (by omega)];exact Rnd.ix (ag (show k-1<d.2.2.2.length by omega)) (Rnd.ix (ag r) (Rnd.cndN (by simp) λ_=>Rnd.end_))
   ·intro y;simp only[Q218.s1,aP];rfl
   ·rw[wV];constructor
    ·intro h k r;exact⟨⟨(h k r).1,BD.1 (h k r).2.1⟩,(h k r).2.2.1⟩
    ·intro h k r;exact⟨(h k r).1.1,BD.2 (h k r).1.2,(h k r).2,trivial⟩
  obtain⟨o,ho,R⟩:=fk K (aa.table n) (aa.doubts n)[i].1 X.table Y;simp only[Q218.s0];rw[decide_eq_true (show ((i:Int)<(BA (aa.doubts n):Int)) by omega)];simp only[cond_true];refine Rnd.ix (ag z) (Rnd.vl R ?_);cases ho with
  |no h =>
   have O:¬ lx n (aa.doubts n)[i]:=λ⟨⟨f,R,e,_⟩,_⟩=>h f R e
   refine Rnd.two (λH=>?_) ?_
   ·rw[eN i H (by omega)];refine Rnd.ix (ag (show i-1<(aa.doubts n).length by omega)) (Rnd.cndN (by simp) λ_=>?_);exact .inr ⟨O,rfl⟩
   ·exact .inr ⟨O,rfl⟩
  |at_ j M e =>
   have J:decide ((j:Int)<0)=false:=decide_eq_false (by omega);have I:lx n (aa.doubts n)[i]<->(¬ (aa.table n)[j].2.2.1≠2/\¬ (aa.table n)[j].2.1≠(aa.doubts n)[i].2.1/\InP (aa.doubts n)[i].2.2.1 0 n.2.2.2.2.2.1/\¬ (aa.doubts n)[i].2.2.2=[]/\ByP n.1 (aa.doubts n)[i].2.2.2):=by
    constructor
    ·rintro⟨⟨f,R,e1,e2,e3⟩,h2,h3,h4⟩;have:=gR hT.2 R (BC M) (e1.trans e.symm);subst this;exact⟨BD.2 e2,BD.2 e3,h2,h3,h4⟩
    ·rintro⟨e2,e3,h2,h3,h4⟩;exact⟨⟨_,BC M,e,BD.1 e2,BD.1 e3⟩,h2,h3,h4⟩
   refine Rnd.two (λH=>?_) ?_
   ·rw[eN i H (by omega)];refine Rnd.ix (ag (show i-1<(aa.doubts n).length by omega)) (Rnd.cndN (by simp) λ_=>?_);simp only[J,cond_false];refine Rnd.iff ?_ I.symm;exact Rnd.ix (ag M) (Rnd.cndN (by simp) λ_=>Rnd.ix (ag M) (Rnd.cndN (by simp) λ_=>Rnd.nx (cG K _ _ _) λ_=>Rnd.cndN (oT _) λ_=>u))
   ·simp only[J,cond_false];refine Rnd.iff ?_ I.symm;exact Rnd.ix (ag M) (Rnd.cndN (by simp) λ_=>Rnd.ix (ag M) (Rnd.cndN (by simp) λ_=>Rnd.nx (cG K _ _ _) λ_=>Rnd.cndN (oT _) λ_=>u))
 ·intro rec;simp only[Q218.s0,aP];rfl
 ·rw[iB,dE,gL];constructor
  ·rintro⟨h1,h2⟩;exact⟨λi z=>(h1 i z).2,λi z H=>by have:=(h1 i z).1 H;omega,h2⟩
  ·rintro⟨h1,h2,h3⟩;exact⟨λi z=>⟨λH=>by have:=h2 i z H;omega,h1 i z⟩,h3⟩
theorem zO (K:Nat)(n:aa)(Z:NB n)(S:List af)(hS:S.length=(aa.doubts n).length)(hK:1048577<K):Ret (Q158.l1 K (n,()) (S,0))
  (∀ i (u:i<(aa.doubts n).length),(aa.doubts n)[i].1=(S[i]'(by omega)).1/\(aa.doubts n)[i].2.1=(S[i]'(by omega)).2.1/\InP (aa.doubts n)[i].2.2.1 0 n.2.2.2.2.2.1/\(aa.doubts n)[i].2.2.2≠[]/\ByP n.1 (aa.doubts n)[i].2.2.2):=by
 have hl:=Z.doubts;have I:=lW (step:=λrec a=>Q158.s1 K (n,()) (Q158.l2 K (n,()) rec) rec a) (aa.doubts n).length (λi=>(S,(i:Int)))
  (λi=>∀ u:i<(aa.doubts n).length,¬ (aa.doubts n)[i].1≠(S[i]'(by omega)).1/\¬ (aa.doubts n)[i].2.1≠(S[i]'(by omega)).2.1/\InP (aa.doubts n)[i].2.2.1 0 n.2.2.2.2.2.1/\¬ (aa.doubts n)[i].2.2.2=[]/\ByP n.1 (aa.doubts n)[i].2.2.2)
  (rb true) (rb false) ?_ ?_ (aa.doubts n).length K 0 (by omega) (by omega)
 ·rcases I with ⟨M,J⟩|⟨M,J⟩
  ·refine⟨true,J,iff_of_true rfl λi u=>?_⟩;obtain⟨R,X,O⟩:=M i (BI _) u u;exact⟨BD.1 R,BD.1 X,O⟩
  ·refine⟨false,J,iff_of_false (by simp) λh=>M λi _ u _=>?_⟩;obtain⟨R,X,O⟩:=h i u;exact⟨BD.2 R,BD.2 X,O⟩
 ·intro rec i u;have Y:=Z.by_ _ (BC u);have H:Rnd (Q158.l2 K (n,()) rec (S,(i:Int),(aa.doubts n)[i].2.2.2,(BA (aa.doubts n)[i].2.2.2:Int),0,(aa.doubts n)[i].1,(aa.doubts n)[i].2.1,(aa.doubts n)[i].2.2.1,(aa.doubts n)[i].2.2.2)) (ByP n.1 (aa.doubts n)[i].2.2.2) (rec (S,wr .i64 ((i:Int)+1))):=by
   generalize (aa.doubts n)[i]=d at Y;refine (oO d.2.2.2 (step:=λr a=>Q158.s2 K (n,()) rec r a) (λk=>(S,(i:Int),d.2.2.2,(BA d.2.2.2:Int),(k:Int),d.1,d.2.1,d.2.2.1,d.2.2.2))
    (λk z=>(InP d.2.2.2[k] 0 7/\ak d.2.2.2[k]=ak n.1)/\(0<k->¬ d.2.2.2[k]<=d.2.2.2[k-1]'(by omega))/\True) Y ?_ ?_ hK).iff ?_
   ·intro r k z;simp only[Q158.s2,zcp4];rw[decide_eq_true (by omega:(k:Int)<(BA d.2.2.2:Int)),ar k (by omega)];simp only[cond_true];refine Rnd.ix (ag z) (Rnd.nx (pD K n _) λ_=>Rnd.two (λh0=>?_) Rnd.end_);rw[eN k h0 (by omega)];exact Rnd.ix (ag (show k-1<d.2.2.2.length by omega)) (Rnd.cndN (by simp) λ_=>Rnd.end_)
   ·intro r;simp only[Q158.s2,zcp4,aP];rfl
   ·rw[wV];constructor
    ·intro h k z;exact⟨(h k z).1,(h k z).2.1⟩
    ·intro h k z;exact⟨(h k z).1,(h k z).2,trivial⟩
  have y:i<S.length:=by omega
  have hr:Rnd (Q158.s1 K (n,()) (Q158.l2 K (n,()) rec) rec (S,(i:Int)))
    (¬ (aa.doubts n)[i].1≠S[i].1/\¬ (aa.doubts n)[i].2.1≠S[i].2.1/\InP (aa.doubts n)[i].2.2.1 0 n.2.2.2.2.2.1/\¬ (aa.doubts n)[i].2.2.2=[]/\ByP n.1 (aa.doubts n)[i].2.2.2) (rec (S,((i+1:Nat):Int))):=by
   rw[<- ar i (by omega)];simp only[Q158.s1];rw[decide_eq_true (show ((i:Int)<(BA (aa.doubts n):Int)) by omega),Int.toNat_natCast];simp only[cond_true];exact Rnd.ix (ag u) (Rnd.ix (ag y) (Rnd.ix (ag y) (Rnd.cndN (by simp) λ_=>Rnd.ix (ag y) (Rnd.ix (ag y) (Rnd.cndN (by simp) λ_=>Rnd.nx (eG K _ _ _) λ_=>Rnd.cndN (oT _) λ_=>H)))))
  exact hr.imp (λh=>⟨λ_=>h.1,h.2⟩) (λh=>⟨λJ=>h.1 (J u),h.2⟩)
 ·intro rec;simp only[Q158.s1,aP];rfl
theorem yn (K:Nat)(n:aa)(Z:NB n)(hT:az (aa.table n))(hK:1048577<K):Ret (Q158.f K (n,())) (iB n):=by
 have hl:=Z.table;have a1:=Z.doubts;have X:∀ (d k i:Nat),i+d=(aa.table n).length->d<k->ae (λrec a=>Q158.s0 K (n,()) (Q158.l1 K (n,())) rec a) k (aU ((aa.table n).take i),(i:Int)) =
   (bif (BA (aa.doubts n):Int) != (BA (aU (aa.table n)):Int) then rb false else Q158.l1 K (n,()) (aU (aa.table n),0)):=by
  intro d;induction d with
  |zero =>
   intro k i y hk;obtain⟨k,rfl⟩:∃ k',k=k'+1:=⟨k-1,by omega⟩;show Q158.s0 K (n,()) _ _ _=_;simp only[Q158.s0];rw[decide_eq_false (show ¬ ((i:Int)<(BA (aa.table n):Int)) by omega),BO (by omega)];rfl
  |succ d J =>
   intro k i y hk;obtain⟨k,rfl⟩:∃ k',k=k'+1:=⟨k-1,by omega⟩;have J:=J k (i+1) (by omega) (by omega);have O:i<(aa.table n).length:=by omega
   show Q158.s0 K (n,()) _ _ _=_;simp only[Q158.s0];rw[decide_eq_true (show ((i:Int)<(BA (aa.table n):Int)) by omega),ag O,ar i (by omega)];simp only[cond_true,BB];have e:aU ((aa.table n).take (i+1))=aU ((aa.table n).take i)++(if (aa.table n)[i].2.2.1==2 then [(aa.table n)[i]] else []):=by
    rw[aU,BS,BF O,List.filter_append];simp[aU,BM]
   cases hb:((aa.table n)[i].2.2.1==2) with
   |true =>
    rw[hb]at e;simp only[if_true]at e;simp only[cond_true];have a0:(aU ((aa.table n).take i)).length<=i:=Nat.le_trans (List.length_filter_le _ _) (by simp;omega);have hs:decide ((BA (aU ((aa.table n).take i))+BA [(aa.table n)[i]])*32<=an)=true:=decide_eq_true (by simp only[an,BP];omega);rw[hs];rw[e]at J;exact J
   |false =>
    rw[hb]at e;simp only[BH,if_false,List.append_nil]at e;rw[e]at J;exact J
 have h0:Q158.f K (n,())=_:=X (aa.table n).length K 0 (by omega) (by omega);rw[h0];have z:∀ f∈aU (aa.table n),f∈aa.table n/\f.2.2.1=2:=λf H=>by
  rw[aU,BV]at H;exact⟨H.1,by simpa using H.2⟩
 have u:Asc (λf:af=>f.1) (aU (aa.table n)):=List.Pairwise.filter _ hT.2;by_cases r:(aU (aa.table n)).length=(aa.doubts n).length
 ·have:((BA (aa.doubts n):Int) != (BA (aU (aa.table n)):Int))=false:=by simp[r]
  rw[this];refine (zO K n Z _ r hK).iff ⟨λh=>⟨?_,?_,r⟩,λ⟨h1,h2,_⟩ i y=>?_⟩
  ·rw[dE];intro i y;obtain⟨R,h4,h5,h6,h7⟩:=h i y;obtain⟨h8,h9⟩:=z _ (BC (show i<(aU (aa.table n)).length by omega));exact⟨⟨_,h8,R.symm,h9,h4.symm⟩,h5,h6,h7⟩
  ·rw[cB]at u ⊢;intro i j y hj Y;have:=u i j (by omega) (by omega) Y;rw[(h i y).1,(h j hj).1];exact this
  ·have I:=i9 ((aa.doubts n).map (·.1)) ((aU (aa.table n)).map (·.1)) (by rw[BL];exact h2) (by rw[BL];exact u) (by
    intro x hx;obtain⟨d,hd,rfl⟩:=BX.1 hx;obtain⟨⟨f,H,e1,e2,_⟩,_⟩:=h1 d hd;exact BX.2 ⟨f,by rw[aU,BV];exact⟨H,by simpa using e2⟩,e1⟩)
   have I:=I.2 (by simp[r]);have M:i<(aU (aa.table n)).length:=by omega
   have e:(aa.doubts n)[i].1=(aU (aa.table n))[i].1:=by
    have R:((aa.doubts n).map (·.1))[i]?=((aU (aa.table n)).map (·.1))[i]?:=by rw[I]
    rw[BT,BT,BF y,BF M]at R;simpa using R
   obtain⟨⟨f,H,e1,e2,e3⟩,h4,h5,h6⟩:=h1 _ (BC y);have:=gR hT.2 H (z _ (BC M)).1 (e1.trans e);subst this;exact⟨e,e3.symm,h4,h5,h6⟩
 ·have:((BA (aa.doubts n):Int) != (BA (aU (aa.table n)):Int))=true:=by simp;omega
  rw[this];exact Ret.no (λh=>r h.2.2)
def sd (n:aa):Prop:=n.2.2.1=false/\n.2.2.2.2.1=0/\n.2.2.2.2.2.1=0/\n.2.2.2.2.2.2.1=0/\n.2.2.2.2.2.2.2.1=0 /\
 wr .i64 (wr .i64 (wr .i64 (wr .i64 ((BA (aa.table n):Int)+(BA (aa.cast n):Int))+(BA (aa.doubts n):Int))+(BA (aa.places n):Int))+(BA (aa.others n):Int))=0 /\
 aa.probe n=(0,0,0,false)/\aa.coord n=(0,0,0,0)
def UpP (n:aa):Prop:=az (aa.table n)/\b8 (aa.table n) (ak n.1)/\de n/\(cO (aa.cast n)/\gu (aa.table n) (aa.cast n))/\c7 n/\iB n/\cH (aa.coord n)/\eq n.1 (aa.places n)/\c8 n.1 (aa.others n)
def eV (n:aa):Prop:=InP n.1 0 7/\InP n.2.2.2.2.2.1 0 999999/\InP n.2.2.2.2.2.2.1 0 999999/\InP n.2.2.2.2.2.2.2.1 0 8/\InP n.2.2.2.2.1 0 999/\(if n.2.1=true then UpP n else sd n)
theorem oU (K:Nat)(n:aa)(r:NB n)(u:1048577<K):Ret (Q221.f K (n,())) (eV n):=by
 refine Ret.nx (cG K _ _ _) λ_=>Ret.nx (cG K _ _ _) λ_=>Ret.nx (cG K _ _ _) λ_=>Ret.nx (cG K _ _ _) λ_=>Ret.nx (cG K _ _ _) λ_=>?_
 dsimp only;cases Y:n.2.1 with
 |false =>
  simp only[BQ,cond_true,BH,if_false,sd];refine Ret.cnd (by simp) λ_=>Ret.cnd (by simp) λ_=>Ret.cnd (by simp) λ_=>Ret.cnd (by simp) λ_=>Ret.cnd (by simp) λ_=>Ret.cnd (by simp) λ_=>?_
  refine Ret.iff (Ret.cnd (P:=(aa.probe n).1=0) (by simp) λ_=>Ret.cnd (P:=(aa.probe n).2.1=0) (by simp) λ_=>Ret.cnd (P:=(aa.probe n).2.2.1=0) (by simp) λ_=>Ret.cnd (P:=(aa.probe n).2.2.2=false) (by simp) λ_ =>
   Ret.cnd (P:=(aa.coord n).1=0) (by simp) λ_=>Ret.cnd (P:=(aa.coord n).2.1=0) (by simp) λ_=>Ret.cnd (P:=(aa.coord n).2.2.1=0) (by simp) λ_=>Ret.of (P:=(aa.coord n).2.2.2=0) (by simp)) ?_
  generalize aa.probe n=p;generalize aa.coord n=c;obtain⟨M,I,z,J⟩:=p;obtain⟨X,O,H,R⟩:=c;simp only[BR];constructor
  ·rintro⟨h1,h2,h3,h4,h5,h6,h7,h8⟩;exact⟨⟨h1,h2,h3,h4⟩,h5,h6,h7,h8⟩
  ·rintro⟨⟨h1,h2,h3,h4⟩,h5,h6,h7,h8⟩;exact⟨h1,h2,h3,h4,h5,h6,h7,h8⟩
 |true =>
  simp only[BE,cond_false,if_true,UpP];exact Ret.px (gq K _ r.table u) λy=>Ret.vl (dk K _) (Ret.px (e8 K _ _ r.table u) λ_=>Ret.px (AI K n r y u) λ_=>Ret.px (tY K n r y u) λ_=>Ret.px (zK K n r u) λ_ =>
   Ret.px (ym K n r y u) λ_=>Ret.px (iA K _) λ_=>Ret.px (yi K n r u) λ_=>(yk K n r u).id)
theorem AL (K:Nat)(n:aa):Ret (Q131.f K (n,())) (sd n):=by
 simp only[Q131.f,fI,pC,sd];exact Ret.cnd (by simp) λ_=>Ret.cnd (by simp) λ_=>Ret.cnd (by simp) λ_=>Ret.cnd (by simp) λ_=>Ret.cnd (by simp) λ_=>Ret.cnd (by simp) λ_=>Ret.cnd (by simp) λ_=>Ret.dec
theorem sH (K:Nat)(n:aa)(r:NB n)(u:1048577<K):Ret (Q166.f K (n,())) (eV n):=by
 refine Ret.nx (ja K _) λ_=>Ret.nx (eG K _ _ _) λ_=>Ret.nx (eG K _ _ _) λ_=>Ret.nx (eG K _ _ _) λ_=>Ret.nx (eG K _ _ _) λ_=>?_
 dsimp only;cases z:n.2.1 with
 |false =>
  simp only[BQ,cond_true,BH,if_false];exact (AL K n).id
 |true =>
  simp only[BE,cond_false,if_true,UpP];refine Ret.iff (Ret.px (qr K n r u) λy=>Ret.px (zL K n r y.1 u) λ_=>Ret.px (yn K n r y.1 u) λ_=>Ret.px (nM K _) λ_=>Ret.px (yj K n r u) λ_=>(yl K n r u).id) ?_;constructor
  ·rintro⟨⟨h1,h2,h3,h4,h5⟩,h6,h7,h8,h9,h10⟩;exact⟨h1,h2,h3,⟨h4,h5⟩,h6,h7,h8,h9,h10⟩
  ·rintro⟨h1,h2,h3,⟨h4,h5⟩,h6,h7,h8,h9,h10⟩;exact⟨⟨h1,h2,h3,h4,h5⟩,h6,h7,h8,h9,h10⟩
theorem er {A R:Type}{step:(A->Option R)->A->Option R}(n:Nat)(S:Nat->A)(rt:Option R)(h:∀ (rec:A->Option R) (i:Nat),i<n->step rec (S i)=rec (S (i+1)))(r:∀ rec:A->Option R,step rec (S n)=rt)
  {k:Nat} (z:n<k):ae step k (S 0)=rt:=by
 rcases lW (step:=step) n S (λ_=>True) rt none (λrec i y=>.inl ⟨trivial,h rec i y⟩) r n k 0 (by omega) z with ⟨_,u⟩|⟨u,_⟩
 ·exact u
 ·exact absurd (λ_ _ _=>trivial) u
def Szd (o:Option ((Int×Unit)×Unit))(left:Int)(Q:Prop):Prop:=∃ r,o=some ((r,()),())/\(r<0\/(0<=r/\r<=left/\Q))
theorem Szd.sub (left:Int)(n:Nat)(J:0<=left)(M:left<=1048576)(I:n<=9223372036854775807){g:Option ((Int×Unit)×Unit)}{Q:Prop}(H:wr .i64 (left-(n:Int))=left-n->(n:Int)<=left->Szd g (left-n) Q) :
  Szd (bif decide (wr .i64 (left-(n:Int))<0) then some ((-1,()),()) else g) left (n<=1048576/\Q):=by
 have e:wr .i64 (left-(n:Int))=left-n:=aJ (by omega) (by omega);by_cases h:left-(n:Int)<0
 ·rw[e,decide_eq_true h];exact⟨-1,rfl,.inl (by decide)⟩
 ·rw[decide_eq_false (by rw[e];exact h)];obtain⟨r,y,z⟩:=H e (by omega);exact⟨r,y,z.imp id λu=>⟨u.1,by omega,by omega,u.2.2⟩⟩
theorem Szd.bind {o:Option ((Int×Unit)×Unit)}{left:Int}{P Q:Prop}{G:(Int×Unit)×Unit->Option ((Int×Unit)×Unit)}(h:Szd o left P)(M:∀ r,0<=r->r<=left->P->Szd (G ((r,()),())) r Q) :
  Szd (o.bind λy=>bif decide (y.1.1<0) then some ((-1,()),()) else G y) left (P/\Q):=by
 obtain⟨r,O,u⟩:=h;rw[O,BB];rcases u with u|⟨u,X,z⟩
 ·rw[decide_eq_true u];exact⟨-1,rfl,.inl (by decide)⟩
 ·rw[show decide (r<0)=false from decide_eq_false (by omega)];obtain⟨J,I,R⟩:=M r u X z;exact⟨J,I,R.imp id λH=>⟨H.1,by omega,z,H.2.2⟩⟩
theorem Szd.ret (r:Int)(h:0<=r):Szd (some ((r,()),())) r True:=⟨r,rfl,.inr ⟨h,Int.le_refl _,trivial⟩⟩
theorem Szd.iff {o:Option ((Int×Unit)×Unit)}{left:Int}{P Q:Prop}(h:Szd o left P)(e:P->Q):Szd o left Q:=by
 obtain⟨r,z,y⟩:=h;exact⟨r,z,y.imp id λu=>⟨u.1,u.2.1,e u.2.2⟩⟩
end Go.Proofs.YtadlacffdemoiaaGreatEv
