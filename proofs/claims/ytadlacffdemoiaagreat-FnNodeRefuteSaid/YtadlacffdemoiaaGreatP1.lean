/- What is ok of facts, tables, casts: the program and the specification say the same. -/
import Derived.Test.YtadlacffdemoiaaGreatFns
import Derived.Test.YtadlacffdemoiaaGreatP0
set_option linter.unusedVariables false
set_option linter.unusedSimpArgs false
open Bool renaming not_true->BE,false_eq_true->BH,not_false->BQ
open Classical renaming not_not->BD
open Int renaming natCast_nonneg->BJ
open List renaming length->BA,getElem_mem->BC,getElem?_eq_getElem->BF,getElem_of_mem->BG,drop_eq_getElem_cons->BK,pairwise_map->BL,filter_cons->BM,drop_of_length_le->BN,take_of_length_le->BO,length_singleton->BP,take_add_one->BS,getElem?_map->BT,mem_filter->BV,drop_zero->BW,mem_map->BX
open Nat renaming zero_le->BI,le_refl->BU
open Option renaming bind_some->BB
open Prod.mk renaming injEq->BR
namespace Go.Proofs.YtadlacffdemoiaaGreatEv
open Go
abbrev InP (n u r:Int):Prop:=u<=n/\n<=r
theorem eH (K:Nat)(n r u:Int):Ret (Q130.f K (n,r,u,())) (InP n r u):=by
 simp only[Q130.f];exact Ret.cnd (by simp) λ_=>Ret.dec
theorem cE (K:Nat)(n r u:Int):Ret (Q13.f K (n,r,u,())) (InP n r u):=by
 simp only[Q13.f];exact Ret.cnd (by simp) λ_=>Ret.dec
theorem Ret.id {o:Option RB}{P:Prop}(h:Ret o P):Ret (o.bind λy=>some ((y.1.1,()),())) P:=by
 obtain⟨b,r,u⟩:=h;exact⟨b,by rw[r];rfl,u⟩
theorem Ret.neg {o:Option RB}{P:Prop}(h:Ret o P):Ret (o.bind λy=>some ((!y.1.1,()),())) (¬ P):=by
 obtain⟨b,r,u⟩:=h;exact⟨!b,by rw[r];rfl,by cases b <;> simp_all⟩
def bg (f:af):Prop:=InP f.1 0 7/\InP f.2.1 0 999/\InP f.2.2.1 1 4
theorem ja (K:Nat)(n:Int):Ret (Q131.f K (n,())) (InP n 0 7):=(eH K n 0 7).id
theorem lU (K:Nat)(f:af):Ret (Q133.f K (f,())) (bg f) :=
 Ret.and (ja K f.1) (λ_=>Ret.and (eH K f.2.1 0 999) (λ_=>(eH K f.2.2.1 1 4).id) rfl) rfl
theorem oQ (K:Nat)(f:af):Ret (Q18.f K (f,())) (bg f) :=
 Ret.and (cE K f.1 0 7) (λ_=>Ret.and (cE K f.2.1 0 999) (λ_=>(cE K f.2.2.1 1 4).id) rfl) rfl
def az (t:List af):Prop:=(∀ f∈t,bg f)/\Asc (λf:af=>f.1) t
theorem sv {t:List af}:az t<->∀ j,j<t.length->∃ h:j<t.length,bg t[j]/\(0<j->(t[j-1]'(by omega)).1<t[j].1):=by
 unfold az;rw[dE,gM];constructor
 ·rintro⟨h1,h2⟩ j hj;exact⟨hj,h1 j hj,λu=>h2 j hj u⟩
 ·intro h;exact⟨λi r=>(h i r).2.1,λi r u=>(h i r).2.2 u⟩
theorem eV {P:Prop}:(P/\True)<->P:=by simp
theorem gm (K:Nat)(t:List af)(J:t.length<=1048576)(M:1048577<K):Ret (Q19.f K (t,())) (az t):=by
 refine Ret.iff (qp (step:=λrec a=>Q19.s0 K (t,()) rec a) t.length (λi=>(i:Int)) (λj=>∃ h:j<t.length,bg t[j]/\(0<j->(t[j-1]'(by omega)).1<t[j].1)) (Q:=True) (rt:=rb true) ?_ ?_ (by omega) (λ_=>Ret.yes trivial)) (eV.trans sv.symm)
 ·intro rec i y;simp only[Q19.s0];rw[decide_eq_true (by omega:(i:Int)<(BA t:Int)),ag y,ar i (by omega)];simp only[cond_true,BB];obtain⟨b,H,u⟩:=oQ K t[i];rw[H];simp only[BB];cases b with
  |false=>exact .inr ⟨λ⟨_,r,_⟩=>by simpa using u.2 r,rfl⟩
  |true =>
   simp only[BE,cond_false];by_cases z:(i:Int)>0
   ·rw[decide_eq_true z,eO i (by omega) (by omega),ag (by omega:i-1<t.length)];simp only[cond_true,BB];by_cases r:(t[i-1]'(by omega)).1>=t[i].1
    ·rw[decide_eq_true r];exact .inr ⟨λ⟨_,_,I⟩=>by have:=I (by omega);omega,rfl⟩
    ·rw[decide_eq_false r];exact .inl ⟨⟨y,u.1 rfl,λ_=>by omega⟩,rfl⟩
   ·rw[decide_eq_false z];exact .inl ⟨⟨y,u.1 rfl,λ_=>by omega⟩,rfl⟩
 ·intro rec;simp only[Q19.s0];rw[decide_eq_false (by omega:¬ ((t.length:Int)<(BA t:Int)))];rfl
theorem gn (K:Nat)(t:List af)(J:t.length<=1048576)(M:1048577<K):Ret (Q134.f K (t,())) (az t):=by
 refine Ret.iff (qp (step:=λrec a=>Q134.s0 K (t,()) rec a) t.length (λi=>(i:Int)) (λj=>∃ h:j<t.length,bg t[j]/\(0<j->(t[j-1]'(by omega)).1<t[j].1)) (Q:=True) (rt:=rb true) ?_ ?_ (by omega) (λ_=>Ret.yes trivial)) (eV.trans sv.symm)
 ·intro rec i y;simp only[Q134.s0];rw[decide_eq_true (by omega:(i:Int)<(BA t:Int)),ag y,ar i (by omega)];simp only[cond_true,BB];obtain⟨b,H,u⟩:=lU K t[i];rw[H];simp only[BB];cases b with
  |false=>exact .inr ⟨λ⟨_,r,_⟩=>by simpa using u.2 r,rfl⟩
  |true =>
   simp only[BE,cond_false];by_cases z:(i:Int)>0
   ·rw[decide_eq_true z,eO i (by omega) (by omega),ag (by omega:i-1<t.length)];simp only[cond_true,BB];by_cases r:t[i].1<=(t[i-1]'(by omega)).1
    ·rw[decide_eq_true r];exact .inr ⟨λ⟨_,_,I⟩=>by have:=I (by omega);omega,rfl⟩
    ·rw[decide_eq_false r];exact .inl ⟨⟨y,u.1 rfl,λ_=>by omega⟩,rfl⟩
   ·rw[decide_eq_false z];exact .inl ⟨⟨y,u.1 rfl,λ_=>by omega⟩,rfl⟩
 ·intro rec;simp only[Q134.s0];rw[decide_eq_false (by omega:¬ ((t.length:Int)<(BA t:Int)))];rfl
inductive vo (t:List af) (node:Int):Option Nat->Prop where
 |at_ (i:Nat) (h:i<t.length) (e:t[i].1=node):vo t node (some i)
 |no (h:∀ f∈t,f.1≠node):vo t node none
theorem fj (K:Nat)(t:List af)(r:Int)(J:t.length<=1048576)(M:1048577<K) :
  ∃ o,vo t r o/\Q25.f K (t,r,())=some (((match o with|some i=>((i:Nat):Int)|none=>-1),()),()):=by
 have:=co (step:=λrec a=>Q25.s0 K (t,r,()) rec a) t.length (λi=>(i:Int)) (λj=>∃ h:j<t.length,t[j].1=r) (some ((-1,()),())) (λj=>some ((((j:Nat):Int),()),())) ?_ ?_ t.length K 0 (by omega) (by omega)
 ·rcases this with ⟨y,z⟩|⟨j,_,y,⟨I,H⟩,_,z⟩
  ·refine⟨none,.no ?_,z⟩;rw[dE];exact λi u e=>y i (BI _) u ⟨u,e⟩
  ·exact⟨some j,.at_ j I H,z⟩
 ·intro rec i u;simp only[Q25.s0];rw[decide_eq_true (by omega:(i:Int)<(BA t:Int)),ag u,ar i (by omega)];simp only[cond_true,BB];by_cases h:t[i].1=r
  ·right;refine⟨⟨u,h⟩,?_⟩;have:(t[i].1==r)=true:=by simpa using h
   rw[this];rfl
  ·left;refine⟨λ⟨_,y⟩=>h y,?_⟩;have:(t[i].1==r)=false:=by simpa using h
   rw[this];rfl
 ·intro rec;simp only[Q25.s0];rw[decide_eq_false (by omega:¬ ((t.length:Int)<(BA t:Int)))];rfl
def fk (a b:Int):Int:=if a<b then -1 else if a>b then 1 else 0
theorem nH (K:Nat)(a b:Int):Q137.f K (a,b,())=some ((fk a b,()),()):=by
 have y:∀ x:Int,Q136.f K (x,())=rb false:=λx=>by simp[Q136.f]
 simp only[Q137.f,y,BB,cond_false,fk];by_cases r:a<b
 ·rw[decide_eq_true r,if_pos r];rfl
 ·rw[decide_eq_false r,if_neg r];by_cases u:a>b
  ·rw[decide_eq_true u,if_pos u];rfl
  ·rw[decide_eq_false u,if_neg u];rfl
theorem sw (a b:Int):fk a b<0<->a<b:=by
 unfold fk;by_cases r:a<b
 ·simp[r]
 ·by_cases u:a>b <;> simp[r,u]
theorem uB (a b:Int):fk a b>0<->a>b:=by
 unfold fk;by_cases r:a<b
 ·simp[r];omega
 ·by_cases u:a>b <;> simp[r,u]
theorem ii (a b:Int):fk a b=0<->a=b:=by
 unfold fk;by_cases r:a<b
 ·simp[r];omega
 ·by_cases u:a>b <;> simp[r,u] <;> omega
structure Cut (t:List af) (node:Int) (m:Nat):Prop where
 le:m<=t.length
 lo:∀ i,(h:i<t.length)->i<m->t[i].1<node
 hi:∀ i,(h:i<t.length)->m<=i->node<=t[i].1
theorem sx (K:Nat)(t:List af)(r:Int)(ht:t.length<=1048576)(I:Asc (λf:af=>f.1) t)(hK:1048577<K) :
  ∃ m,Cut t r m/\Q139.f K (t,r,())=some ((((m:Nat):Int),decide (∃ h:m<t.length,t[m].1=r),()),()):=by
 let ks:Nat->Int:=λi=>if h:i<t.length then t[i].1 else 0
 have u:∀ i (h:i<t.length),ks i=t[i].1:=λi h=>by simp[ks,h]
 let H:Nat->Option ((Int×Bool×Unit)×Unit):=λm=>some ((((m:Nat):Int),decide (∃ h:m<t.length,t[m].1=r),()),())
 have Z:∀ f:af,((Q138.f K (f,r,())).map λy=>y.1.1)=some (fk f.1 r):=λf=>by
  simp only[Q138.f];rw[nH];rfl
 have:=pA (step:=λrec a=>Q135.s0 K (t,r,(λJ=>(Q138.f K (J.1,J.2.1,())).map λy=>y.1.1),()) rec a) (ks:=ks) (n:=t.length) (t:=r) H ht
  (λi j O Y=>by
   rw[u i (by omega),u j Y];exact cB.1 I i j (by omega) Y O) ?_ ?_ t.length K 0 t.length (by omega) (BI _) (BU _) (by omega) (λi M=>by omega) (λi M hn=>by omega)
 ·obtain⟨m,z,R,h3,h4⟩:=this;refine⟨m,⟨z,λi h M=>by rw[<- u i h];exact R i M,λi h M=>by rw[<- u i h];exact h3 i M h⟩,?_⟩;simp only[Q139.f];have e:Q135.f K (t,r,(λJ=>(Q138.f K (J.1,J.2.1,())).map λy=>y.1.1),())=H m:=h4;rw[e];rfl
 ·intro rec a b a0 hb;have X:(a+b) / 2<t.length:=by omega
  simp only[Q135.s0];rw[decide_eq_true (by omega:(a:Int)<(b:Int)),nG (by omega)];simp only[cond_true];rw[ag X];simp only[BB,Z];rw[u _ X,ar _ (by omega)];by_cases h:t[(a+b) / 2].1<r
  ·rw[if_pos h,decide_eq_true ((sw _ _).2 h)];rfl
  ·rw[if_neg h,decide_eq_false (λz=>h ((sw _ _).1 z))];rfl
 ·intro rec a ha;simp only[Q135.s0];rw[decide_eq_false (by omega)];simp only[cond_false];by_cases h:a<t.length
  ·rw[decide_eq_true (by omega:(a:Int)<(BA t:Int)),ag h];simp only[cond_true,BB,Z,H];congr 3;by_cases z:t[a].1=r
   ·have:(fk t[a].1 r==0)=true:=by simpa using (ii t[a].1 r).2 z
    rw[this,decide_eq_true ⟨h,z⟩]
   ·have:(fk t[a].1 r==0)=false:=by
     rw[beq_eq_false_iff_ne];exact λe=>z ((ii _ _).1 e)
    rw[this,decide_eq_false (λ⟨_,R⟩=>z R)]
  ·rw[decide_eq_false (by omega)];simp only[cond_false,H];rw[decide_eq_false (λ⟨z,_⟩=>h z)]
def aj (n:Int):Int:=wr .i64 (Int.tdiv n 4)
theorem dk (K:Nat)(n:Int):Q23.f K (n,())=some ((aj n,()),()):=rfl
theorem mH (K:Nat)(n:Int):Q143.f K (n,())=some ((aj n,()),()):=rfl
theorem nI (K:Nat)(n:aa):Q146.f K (n,())=some ((aj n.1,()),()):=rfl
abbrev aa.table (n:aa):List af:=n.2.2.2.2.2.2.2.2.1
abbrev aa.cast (n:aa):List aG:=n.2.2.2.2.2.2.2.2.2.1
abbrev aa.probe (n:aa):af:=n.2.2.2.2.2.2.2.2.2.2.1
abbrev aa.doubts (n:aa):List bM:=n.2.2.2.2.2.2.2.2.2.2.2.1
abbrev aa.coord (n:aa):dz:=n.2.2.2.2.2.2.2.2.2.2.2.2.1
abbrev aa.places (n:aa):List dI:=n.2.2.2.2.2.2.2.2.2.2.2.2.2.1
abbrev aa.others (n:aa):List bZ:=n.2.2.2.2.2.2.2.2.2.2.2.2.2.2
structure NB (n:aa):Prop where
 table:(aa.table n).length<=1048576
 cast:(aa.cast n).length<=1048576
 doubts:(aa.doubts n).length<=1048576
 by_:∀ d∈aa.doubts n,d.2.2.2.length<=1048576
 places:(aa.places n).length<=1048576
 trips:∀ p∈aa.places n,p.2.2.length<=1048576
 others:(aa.others n).length<=1048576
 facts:∀ x∈aa.others n,x.2.length<=1048576
def bR (t:List af)(s:Int):Prop:=∀ f∈t,aj f.1=s
theorem eZ (K:Nat)(t:List af)(s:Int)(u:t.length<=1048576)(y:1048577<K):Ret (Q20.f K (t,s,())) (bR t s):=by
 refine (gl t (step:=λrec a=>Q20.s0 K (t,s,()) rec a) (λi r=>¬ aj t[i].1≠s) u ?_ ?_ y (λ_=>Ret.yes trivial)).iff (eV.trans ?_)
 ·intro rec i r;simp only[Q20.s0];rw[decide_eq_true (by omega:(i:Int)<(BA t:Int))];exact Rnd.ix (ag r) ((Rnd.cndN (P:=aj t[i].1≠s) (by simp[aj]) (λ_=>Rnd.end_)).iff (by simp))
 ·intro rec;simp only[Q20.s0];rw[decide_eq_false (by omega:¬ ((t.length:Int)<(BA t:Int)))];rfl
 ·rw[bR,dE];exact⟨λh i r=>BD.1 (h i r),λh i r=>BD.2 (h i r)⟩
theorem wN (K:Nat)(t:List af)(y:af×Unit->Option Bool)(p:af->Prop)(R:t.length<=1048576)(X:1048577<K)(hφ:∀ f∈t,∃ b,y (f,())=some b/\(b=true<->p f)) :
  Ret (Q142.f K (t,y,())) (∃ f∈t,p f):=by
 have:=co (step:=λrec a=>Q141.s0 K (t,y,()) rec a) t.length (λi=>(i:Int)) (λj=>∃ h:j<t.length,p t[j]) (some ((-1,()),())) (λj=>some ((((j:Nat):Int),()),())) ?_ ?_ t.length K 0 (by omega) (by omega)
 ·simp only[Q142.f];rcases this with ⟨z,r⟩|⟨j,_,z,⟨O,M⟩,_,r⟩
  ·have e:Q141.f K (t,y,())=some ((-1,()),()):=r;rw[e];refine Ret.of ?_;simp only[ge_iff_le,decide_eq_true_eq];refine⟨λh=>absurd h (by decide),λ⟨f,I,H⟩=>?_⟩;obtain⟨i,u,J⟩:=BG I;exact absurd ⟨u,J ▸ H⟩ (z i (BI _) u)
  ·have e:Q141.f K (t,y,())=some ((((j:Nat):Int),()),()):=r;rw[e];refine Ret.of ?_;simp only[ge_iff_le,decide_eq_true_eq];exact⟨λ_=>⟨t[j],BC O,M⟩,λ_=>BJ j⟩
 ·intro rec i u;simp only[Q141.s0];rw[decide_eq_true (by omega:(i:Int)<(BA t:Int)),ag u,ar i (by omega)];simp only[cond_true,BB];obtain⟨b,z,r⟩:=hφ t[i] (BC u);rw[z];simp only[BB];cases b with
  |true=>exact .inr ⟨⟨u,r.1 rfl⟩,rfl⟩
  |false=>exact .inl ⟨λ⟨_,h⟩=>by simpa using r.2 h,rfl⟩
 ·intro rec;simp only[Q141.s0];rw[decide_eq_false (by omega:¬ ((t.length:Int)<(BA t:Int)))];rfl
theorem qQ (K:Nat)(t:List aG)(y:aG×Unit->Option Bool)(p:aG->Prop)(R:t.length<=1048576)(X:1048577<K)(hφ:∀ f∈t,∃ b,y (f,())=some b/\(b=true<->p f)) :
  Ret (Q148.f K (t,y,())) (∃ f∈t,p f):=by
 have:=co (step:=λrec a=>Q147.s0 K (t,y,()) rec a) t.length (λi=>(i:Int)) (λj=>∃ h:j<t.length,p t[j]) (some ((-1,()),())) (λj=>some ((((j:Nat):Int),()),())) ?_ ?_ t.length K 0 (by omega) (by omega)
 ·simp only[Q148.f];rcases this with ⟨z,r⟩|⟨j,_,z,⟨O,M⟩,_,r⟩
  ·have e:Q147.f K (t,y,())=some ((-1,()),()):=r;rw[e];refine Ret.of ?_;simp only[ge_iff_le,decide_eq_true_eq];refine⟨λh=>absurd h (by decide),λ⟨f,I,H⟩=>?_⟩;obtain⟨i,u,J⟩:=BG I;exact absurd ⟨u,J ▸ H⟩ (z i (BI _) u)
  ·have e:Q147.f K (t,y,())=some ((((j:Nat):Int),()),()):=r;rw[e];refine Ret.of ?_;simp only[ge_iff_le,decide_eq_true_eq];exact⟨λ_=>⟨t[j],BC O,M⟩,λ_=>BJ j⟩
 ·intro rec i u;simp only[Q147.s0];rw[decide_eq_true (by omega:(i:Int)<(BA t:Int)),ag u,ar i (by omega)];simp only[cond_true,BB];obtain⟨b,z,r⟩:=hφ t[i] (BC u);rw[z];simp only[BB];cases b with
  |true=>exact .inr ⟨⟨u,r.1 rfl⟩,rfl⟩
  |false=>exact .inl ⟨λ⟨_,h⟩=>by simpa using r.2 h,rfl⟩
 ·intro rec;simp only[Q147.s0];rw[decide_eq_false (by omega:¬ ((t.length:Int)<(BA t:Int)))];rfl
theorem x8 (K:Nat)(t:List Int)(y:Int×Unit->Option Bool)(p:Int->Prop)(R:t.length<=1048576)(X:1048577<K)(hφ:∀ f∈t,∃ b,y (f,())=some b/\(b=true<->p f)) :
  Ret (Q164.f K (t,y,())) (∃ f∈t,p f):=by
 have:=co (step:=λrec a=>Q163.s0 K (t,y,()) rec a) t.length (λi=>(i:Int)) (λj=>∃ h:j<t.length,p t[j]) (some ((-1,()),())) (λj=>some ((((j:Nat):Int),()),())) ?_ ?_ t.length K 0 (by omega) (by omega)
 ·simp only[Q164.f];rcases this with ⟨z,r⟩|⟨j,_,z,⟨O,M⟩,_,r⟩
  ·have e:Q163.f K (t,y,())=some ((-1,()),()):=r;rw[e];refine Ret.of ?_;simp only[ge_iff_le,decide_eq_true_eq];refine⟨λh=>absurd h (by decide),λ⟨f,I,H⟩=>?_⟩;obtain⟨i,u,J⟩:=BG I;exact absurd ⟨u,J ▸ H⟩ (z i (BI _) u)
  ·have e:Q163.f K (t,y,())=some ((((j:Nat):Int),()),()):=r;rw[e];refine Ret.of ?_;simp only[ge_iff_le,decide_eq_true_eq];exact⟨λ_=>⟨t[j],BC O,M⟩,λ_=>BJ j⟩
 ·intro rec i u;simp only[Q163.s0];rw[decide_eq_true (by omega:(i:Int)<(BA t:Int)),ag u,ar i (by omega)];simp only[cond_true,BB];obtain⟨b,z,r⟩:=hφ t[i] (BC u);rw[z];simp only[BB];cases b with
  |true=>exact .inr ⟨⟨u,r.1 rfl⟩,rfl⟩
  |false=>exact .inl ⟨λ⟨_,h⟩=>by simpa using r.2 h,rfl⟩
 ·intro rec;simp only[Q163.s0];rw[decide_eq_false (by omega:¬ ((t.length:Int)<(BA t:Int)))];rfl
theorem Ret.fn {o:Option RB}{P:Prop}(h:Ret o P):∃ b,(o.map λy=>y.1.1)=some b/\(b=true<->P):=by
 obtain⟨b,r,u⟩:=h;exact⟨b,by rw[r];rfl,u⟩
theorem ij (K:Nat)(t:List af)(s:Int)(H:t.length<=1048576)(I:1048577<K):Ret (Q145.f K (t,s,())) (bR t s):=by
 refine (Ret.neg (wN K t (λz=>(Q144.f K (z.1,s,())).map λy=>y.1.1) (λf=>aj f.1≠s) H I (λf _=>?_))).iff ?_
 ·exact⟨_,rfl,by simp[aj]⟩
 ·exact⟨λh f r=>BD.1 λu=>h ⟨f,r,u⟩,λh ⟨f,r,u⟩=>u (h f r)⟩
theorem iB (K:Nat)(t:List af)(r:Int)(H:t.length<=1048576)(J:1048577<K) :
  (¬ az t/\Q140.f K (t,r,())=some (((0,(0,(0,false))),false,()),())) \/
  (az t/\((∃ f∈t,f.1=r/\Q140.f K (t,r,())=some ((f,true,()),()))\/((∀ f∈t,f.1≠r)/\Q140.f K (t,r,())=some (((0,(0,(0,false))),false,()),())))):=by
 simp only[Q140.f];obtain⟨b,R,O⟩:=gn K t H J;rw[R];simp only[BB];cases b with
 |false=>exact .inl ⟨λh=>by simpa using O.2 h,rfl⟩
 |true =>
  have y:=O.1 rfl;obtain⟨m,I,X⟩:=sx K t r H y.2 J;refine .inr ⟨y,?_⟩;simp only[BE,cond_false,X,BB];by_cases h:∃ h:m<t.length,t[m].1=r
  ·rw[decide_eq_true h];obtain⟨u,M⟩:=h;left;refine⟨t[m],BC u,M,?_⟩;simp only[BE,cond_false];rw[ag u];rfl
  ·rw[decide_eq_false h];right;refine⟨?_,rfl⟩;rw[dE];intro i z e;rcases Nat.lt_trichotomy i m with u|u|u
   ·have:=I.lo i z u;omega
   ·subst u;exact h ⟨z,e⟩
   ·have M:=I.hi m (by omega) (BU _);have Y:=cB.1 y.2 m i (by omega) z u;omega
def bo (f g:af):Prop:=if f.2.1≠g.2.1 then f.2.1>g.2.1 else if f.2.2.1≠g.2.2.1 then f.2.2.1>g.2.2.1 else f.2.2.2=true/\g.2.2.2=false
theorem sy (K:Nat)(f g:af):Ret (Q26.f K (f,g,())) (bo f g):=by
 simp only[Q26.f,bo];by_cases r:f.2.1=g.2.1
 ·have e:(f.2.1 != g.2.1)=false:=by simpa using r
  rw[e,if_neg (by simpa using r)];by_cases u:f.2.2.1=g.2.2.1
  ·have e:(f.2.2.1 != g.2.2.1)=false:=by simpa using u
   rw[e,if_neg (by simpa using u)];exact (Ret.cnd (b:=f.2.2.2) Iff.rfl (λ_=>Ret.of (b:=!g.2.2.2) (by simp))).iff Iff.rfl
  ·have e:(f.2.2.1 != g.2.2.1)=true:=by simpa using u
   rw[e,if_pos u];exact Ret.dec
 ·have e:(f.2.1 != g.2.1)=true:=by simpa using r
  rw[e,if_pos r];exact Ret.dec
def orI:List Int->Int
 |[]=>0
 |x::r=>if x≠0 then x else orI r
theorem AB (K:Nat)(xs:List Int)(M:xs.length<=1048576)(J:1048577<K):Q152.f K (xs,())=some ((orI xs,()),()):=by
 have z:∀ (d k i:Nat),i+d=xs.length->d<k->ae (λrec a=>Q152.s0 K (xs,()) rec a) k (i:Int)=some ((orI (xs.drop i),()),()):=by
  intro d;induction d with
  |zero =>
   intro k i I H;obtain⟨k,rfl⟩:∃ u,k=u+1:=⟨k-1,by omega⟩;show Q152.s0 K (xs,()) _ _=_;simp only[Q152.s0];rw[decide_eq_false (by omega:¬ ((i:Int)<(BA xs:Int))),BN (by omega)];rfl
  |succ d y =>
   intro k i I H;obtain⟨k,rfl⟩:∃ u,k=u+1:=⟨k-1,by omega⟩;have y:=y k (i+1) (by omega) (by omega);show Q152.s0 K (xs,()) _ _=_;simp only[Q152.s0];have r:i<xs.length:=by omega
   rw[decide_eq_true (by omega:(i:Int)<(BA xs:Int)),ag r,ar i (by omega),BK r];simp only[cond_true,BB,orI];by_cases h:xs[i]=0
   ·have e:(xs[i] != 0)=false:=by simpa using h
    rw[e,if_neg (by simpa using h)];exact y
   ·have e:(xs[i] != 0)=true:=by simpa using h
    rw[e,if_pos h];rfl
 have:=z xs.length K 0 (by omega) (by omega)
 rwa [BW]at this
def cmpF (f g:af):Int:=orI [fk f.1 g.1,fk f.2.1 g.2.1,fk f.2.2.1 g.2.2.1,if f.2.2.2=true/\g.2.2.2=false then 1 else if g.2.2.2=true/\f.2.2.2=false then -1 else 0]
theorem mI (K:Nat)(f g:af)(I:1048577<K):Q153.f K (f,g,())=some ((cmpF f g,()),()):=by
 obtain⟨a,b,c,d⟩:=f;obtain⟨r,u,y,H⟩:=g;have h:∀ z:Int,Q152.f K ([fk a r,fk b u,fk c y,z],())=some ((orI [fk a r,fk b u,fk c y,z],()),()):=λz=>AB K _ (by simp) I
 simp only[Q153.f,cmpF];cases d <;> cases H <;> simp only[BE,BQ,cond_true,cond_false] <;> rw[nH,BB,nH,BB,nH,BB,h] <;> rfl
theorem oR {x:Int}(h:x=0)(xs:List Int):orI (x::xs)=orI xs:=by subst h;rfl
theorem uC {x:Int}(h:x≠0)(xs:List Int):orI (x::xs)=x:=by simp[orI,h]
theorem jt {f g:af}(e:f.1=g.1):cmpF f g>0<->bo f g:=by
 unfold cmpF bo;rw[oR ((ii f.1 g.1).2 e)];by_cases r:f.2.1=g.2.1
 ·rw[oR ((ii f.2.1 g.2.1).2 r),if_neg (show ¬ f.2.1≠g.2.1 from λh=>h r)];by_cases u:f.2.2.1=g.2.2.1
  ·rw[oR ((ii f.2.2.1 g.2.2.1).2 u),if_neg (show ¬ f.2.2.1≠g.2.2.1 from λh=>h u)];cases f.2.2.2 <;> cases g.2.2.2 <;> simp[orI]
  ·rw[uC (λh=>u ((ii f.2.2.1 g.2.2.1).1 h)),if_pos (show f.2.2.1≠g.2.2.1 from u)];exact uB _ _
 ·rw[uC (λh=>r ((ii f.2.1 g.2.1).1 h)),if_pos (show f.2.1≠g.2.1 from r)];exact uB _ _
theorem pB (K:Nat)(f g:af)(r:1048577<K):Ret (Q154.f K (f,g,())) (bg f/\bg g/\f.1=g.1/\bo f g):=by
 refine Ret.and (lU K f) (λ_=>Ret.and (lU K g) (λ_=>?_) rfl) rfl;refine (Ret.cnd (b:=f.1==g.1) (P:=f.1=g.1) (by simp) (λe=>?_)).iff Iff.rfl;show Ret ((Q153.f K (f,g,())).bind _) _;rw[mI K f g r];refine Ret.of ?_;simp only[gt_iff_lt,decide_eq_true_eq];exact jt e
theorem bk {n:Nat}{m:Int}(h:(n:Int)<m):decide ((n:Int)<m)=true:=decide_eq_true h
theorem aQ (n:Nat):decide ((n:Int)<(n:Int))=false:=decide_eq_false (by omega)
def cP (l:List aG):Prop:=(∀ x∈l,bg x.1/\InP x.2 1 4)/\Asc (λx:aG=>x.1.1) l
theorem x9 (K:Nat)(l:List aG)(z:l.length<=1048576)(y:1048577<K):Ret (Q216.f K (l,())) (cP l):=by
 refine (gl l (step:=λrec a=>Q216.s0 K (l,()) rec a) (λi r=>bg l[i].1/\InP l[i].2 1 4/\(0<i->¬ (l[i-1]'(by omega)).1.1>=l[i].1.1)/\True) z ?_ ?_ y (λ_=>Ret.yes trivial)).iff (eV.trans ?_)
 ·intro rec i r;simp only[Q216.s0];rw[decide_eq_true (by omega:(i:Int)<(BA l:Int))];simp only[cond_true];refine Rnd.ix (ag r) (Rnd.nx (oQ K _) λ_=>Rnd.ix (ag r) (Rnd.nx (cE K _ 1 4) λ_=>Rnd.two (λu=>?_) Rnd.end_));rw[eO i u (by omega)];exact Rnd.ix (ag (by omega)) (Rnd.ix (ag r) (Rnd.cndN (by simp) λ_=>Rnd.end_))
 ·intro rec;simp only[Q216.s0,aQ];rfl
 ·rw[cP,dE,gM];constructor
  ·intro h;exact⟨λi r=>⟨(h i r).1,(h i r).2.1⟩,λi r u=>by have:=(h i r).2.2.1 u;omega⟩
  ·rintro⟨h1,h2⟩ i r;exact⟨(h1 i r).1,(h1 i r).2,λu=>by have:=h2 i r u;omega,trivial⟩
theorem uD (K:Nat)(l:List aG)(O:l.length<=1048576)(M:1048577<K):Q150.f K (l,())=some ((l.map (·.1),()),()):=by
 have z:∀ (d k i:Nat),i+d=l.length->d<k->ae (λrec a=>Q150.s0 K (l,()) rec a) k ((l.take i).map (·.1),(i:Int))=some ((l.map (·.1),()),()):=by
  intro d;induction d with
  |zero =>
   intro k i I H;obtain⟨k,rfl⟩:∃ u,k=u+1:=⟨k-1,by omega⟩;show Q150.s0 K (l,()) _ _=_;simp only[Q150.s0];rw[decide_eq_false (by omega:¬ ((i:Int)<(BA l:Int))),BO (by omega)];rfl
  |succ d y =>
   intro k i I H;obtain⟨k,rfl⟩:∃ u,k=u+1:=⟨k-1,by omega⟩;have y:=y k (i+1) (by omega) (by omega);show Q150.s0 K (l,()) _ _=_;have r:i<l.length:=by omega
   simp only[Q150.s0];rw[decide_eq_true (by omega:(i:Int)<(BA l:Int)),ag r,ar i (by omega)];simp only[cond_true,BB];have J:decide ((BA (List.map (λx:aG=>x.1) (List.take i l))+BA [l[i].1])*32<=an)=true:=decide_eq_true (by simp only[an,List.length_map,List.length_take,BP];omega);rw[J];have e:(List.take i l).map (λx:aG=>x.1)++[l[i].1]=(l.take (i+1)).map (·.1):=by
    rw[BS,BF r,List.map_append];rfl
   rw[e];exact y
 have:=z l.length K 0 (by omega) (by omega);exact this
theorem vp {l:List aG}:az (l.map (·.1))<->(∀ x∈l,bg x.1)/\Asc (λx:aG=>x.1.1) l:=by
 unfold az Asc;rw[BL];simp
theorem wO (K:Nat)(x:aG):Ret (Q149.f K (x,())) (¬ InP x.2 1 4):=by
 simp only[Q149.f];exact (eH K x.2 1 4).neg
theorem ya (K:Nat)(l:List aG)(u:l.length<=1048576)(r:1048577<K):Ret (Q148.f K (l,(λz=>(Q149.f K (z.1,())).map λy=>y.1.1),())) (∃ x∈l,¬ InP x.2 1 4) :=
 qQ K l _ (λx=>¬ InP x.2 1 4) u r (λx _=>Ret.fn (wO K x))
theorem oS (K:Nat)(l:List aG)(y:l.length<=1048576)(u:1048577<K):Ret (Q151.f K (l,())) (cP l):=by
 simp only[Q151.f];obtain⟨H,I,O⟩:=ya K l y u;obtain⟨z,M,J⟩:=gn K (l.map (·.1)) (by simpa using y) u;rw[uD K l y u,BB,M,BB,I,BB];have e:cP l<->(z=true/\H=false):=by
  rw[J,vp,cP,<- Bool.not_eq_true,O];constructor
  ·rintro⟨h5,h6⟩;exact⟨⟨λx r=>(h5 x r).1,h6⟩,λ⟨x,r,h⟩=>h (h5 x r).2⟩
  ·rintro⟨⟨h5,h6⟩,h7⟩;exact⟨λx r=>⟨h5 x r,BD.1 λh=>h7 ⟨x,r,h⟩⟩,h6⟩
 refine Ret.iff ?_ e.symm;cases z <;> cases H <;> exact⟨_,rfl,by simp⟩
def gV (t:List af)(l:List aG):Prop:=∀ x∈l,∃ f∈t,f.1=x.1.1/\¬ bo x.1 f
theorem gp {t:List af}(h:Asc (λf:af=>f.1) t){f g:af}(y:f∈t)(z:g∈t)(e:f.1=g.1):f=g:=by
 obtain⟨i,r,rfl⟩:=BG y;obtain⟨j,u,rfl⟩:=BG z;have:=oP h r u e;subst this;rfl
theorem tV (K:Nat)(n:aa)(z:NB n)(I:az (aa.table n))(r:1048577<K):Ret (Q217.f K (n,())) (cP (aa.cast n)/\gV (aa.table n) (aa.cast n)):=by
 refine Ret.nx (x9 K _ z.cast r) λ_=>?_
 refine (gl (aa.cast n) (step:=λrec a=>Q217.s0 K (n,()) rec a) (λi H=>∃ f∈aa.table n,f.1=(aa.cast n)[i].1.1/\¬ bo (aa.cast n)[i].1 f) z.cast ?_ ?_ r (λ_=>Ret.yes trivial)).iff (eV.trans ?_)
 ·intro rec i H;simp only[Q217.s0];rw[decide_eq_true (by omega:(i:Int)<(BA (aa.cast n):Int))];simp only[cond_true];refine Rnd.ix (ag H) ?_;obtain⟨o,M,J⟩:=fj K (aa.table n) (aa.cast n)[i].1.1 z.table r;refine Rnd.vl J ?_;cases M with
  |no h =>
   rw[show decide ((-1:Int)<0)=true from rfl];exact .inr ⟨λ⟨f,y,e,_⟩=>h f y e,rfl⟩
  |at_ j u e =>
   simp only;rw[decide_eq_false (by omega:¬ ((j:Int)<0))];refine (Rnd.ix (ag H) (Rnd.ix (ag u) (Rnd.fx (sy K _ _) λ_=>Rnd.end_))).iff ⟨λh=>⟨_,BC u,e,h.1⟩,λ⟨f,y,O,h⟩=>⟨?_,trivial⟩⟩;have:=gp I.2 y (BC u) (O.trans e.symm)
   rwa [<- this]
 ·intro rec;simp only[Q217.s0,aQ];rfl
 ·rw[gV,dE]
theorem yb (K:Nat)(n:aa)(O:NB n)(I:az (aa.table n))(Z:cP (aa.cast n))(J:1048577<K) :
  Ret ((Q148.f K (aa.cast n,(λR=>(Q155.f K (R.1,n,())).map λy=>y.1.1),())).bind λY=>some ((!Y.1.1,()),())) (gV (aa.table n) (aa.cast n)):=by
 refine (Ret.neg (qQ K _ _ (λx=>¬ ∃ f∈aa.table n,f.1=x.1.1/\¬ bo x.1 f) O.cast J (λx r=>Ret.fn ?_))).iff ?_
 ·simp only[Q155.f];rcases iB K (aa.table n) x.1.1 O.table J with ⟨u,_⟩|⟨_,⟨f,z,e,u⟩|⟨H,u⟩⟩
  ·exact absurd I u
  ·refine Ret.vl u ?_;refine (pB K x.1 f J).id.iff ⟨λh ⟨g,X,e2,M⟩=>?_,λh=>?_⟩
   ·have:=gp I.2 X z (e2.trans e.symm);exact M (this ▸ h.2.2.2)
   ·refine⟨(Z.1 x r).1,I.1 f z,e.symm,BD.1 λM=>h ⟨f,z,e,M⟩⟩
  ·refine Ret.vl u ?_;exact Ret.yes (λ⟨f,z,e,_⟩=>H f z e)
 ·exact⟨λh x r=>BD.1 λH=>h ⟨x,r,H⟩,λh ⟨x,r,H⟩=>H (h x r)⟩
def cW (n:aa):Prop:=((n.1,n.2.2.2.2.1,(if n.2.2.1=true then 4 else 1),n.2.2.2.1):af)∈aa.table n
theorem AC (K:Nat)(n:aa)(M:NB n)(y:az (aa.table n))(z:1048577<K):Ret (Q215.f K (n,())) (cW n):=by
 simp only[Q215.f];obtain⟨o,J,I⟩:=fj K (aa.table n) n.1 M.table z;refine Ret.vl I ?_;cases J with
 |no h =>
  rw[show decide ((-1:Int)<0)=true from rfl];exact Ret.no (λO=>h _ O rfl)
 |at_ j u e =>
  simp only;rw[decide_eq_false (by omega:¬ ((j:Int)<0))];refine Ret.vl (ag u) ?_;have r:cW n<->(aa.table n)[j]=((n.1,n.2.2.2.2.1,(if n.2.2.1=true then 4 else 1),n.2.2.2.1):af):=by
   constructor
   ·intro h;exact gp y.2 (BC u) h e
   ·intro h;show _∈_;rw[<- h];exact BC u
  have H:(aa.table n)[j]=((n.1,n.2.2.2.2.1,(if n.2.2.1=true then 4 else 1),n.2.2.2.1):af)<->((aa.table n)[j].2.1=n.2.2.2.2.1/\(aa.table n)[j].2.2.1=(if n.2.2.1=true then 4 else 1)/\(aa.table n)[j].2.2.2=n.2.2.2.1):=by
   generalize (aa.table n)[j]=f at e ⊢;obtain⟨a,b,c,d⟩:=f;simp at e ⊢;intro _ _ _;exact e
  refine Ret.iff ?_ (r.trans H).symm;cases R:n.2.2.1 with
  |true=>exact Ret.cnd (by simp) λ_=>Ret.cnd (by simp) λ_=>Ret.of (by simp)
  |false=>exact Ret.cnd (by simp) λ_=>Ret.cnd (by simp) λ_=>Ret.of (by simp)
theorem gq (f g:af):Ty.eqv ty_impl_Fact_D f g=decide (f=g):=by
 obtain⟨a,b,c,d⟩:=f;obtain⟨u,y,z,r⟩:=g;show (decide (a=u)&&(decide (b=y)&&(decide (c=z)&&(d==r))))=_;cases d <;> cases r <;> simp[BR]
theorem pC (f g:dz):Ty.eqv ty_impl_Coord_D f g=decide (f=g):=by
 obtain⟨a,b,c,d⟩:=f;obtain⟨r,u,y,z⟩:=g;show (decide (a=r)&&(decide (b=u)&&(decide (c=y)&&decide (d=z))))=_;simp[BR]
theorem qq (K:Nat)(n:aa)(J:NB n)(I:1048577<K):Ret (Q156.f K (n,()))
  (az (aa.table n)/\bR (aa.table n) (aj n.1)/\cW n/\cP (aa.cast n)/\gV (aa.table n) (aa.cast n)):=by
 have H:∀ (w:Int),az (aa.table n)->Ret ((Q146.f K (n,())).bind λZ=>(Q145.f K (aa.table n,Z.1.1,())).bind λR=>bif !R.1.1 then rb false else
   ((Q151.f K (aa.cast n,())).bind λX=>bif !X.1.1 then rb false else
    ((Q148.f K (aa.cast n,(λO=>(Q155.f K (O.1,n,())).map λy=>y.1.1),())).bind λy6=>some ((!y6.1.1,()),()))))
   (bR (aa.table n) (aj n.1)/\cP (aa.cast n)/\gV (aa.table n) (aa.cast n)):=by
  intro _ u;exact Ret.vl (nI K n) (Ret.nx (ij K _ _ J.table I) λ_=>Ret.nx (oS K _ J.cast I) λhC=>yb K n J u hC I)
 have r:∀ (w:Int),w=(if n.2.2.1=true then 4 else 1)->Ret ((Q140.f K (aa.table n,n.1,())).bind λy1=>bif !y1.1.2.1 then rb false else bif !Ty.eqv ty_impl_Fact_D y1.1.1 (n.1,(n.2.2.2.2.1,(w,n.2.2.2.1))) then rb false else
   ((Q146.f K (n,())).bind λZ=>(Q145.f K (aa.table n,Z.1.1,())).bind λR=>bif !R.1.1 then rb false else
   ((Q151.f K (aa.cast n,())).bind λX=>bif !X.1.1 then rb false else
    ((Q148.f K (aa.cast n,(λO=>(Q155.f K (O.1,n,())).map λy=>y.1.1),())).bind λy6=>some ((!y6.1.1,()),())))))
   (az (aa.table n)/\bR (aa.table n) (aj n.1)/\cW n/\cP (aa.cast n)/\gV (aa.table n) (aa.cast n)):=by
  intro w hw;rcases iB K (aa.table n) n.1 J.table I with ⟨z,Y⟩|⟨u,⟨f,hf,e,z⟩|⟨Y,z⟩⟩
  ·exact Ret.vl Y (Ret.no (λh=>z h.1))
  ·refine Ret.vl z ?_;simp only[BE,cond_false];rw[gq];by_cases M:f=(n.1,(n.2.2.2.2.1,(w,n.2.2.2.1)))
   ·rw[decide_eq_true M];have hS:cW n:=by
     show _∈_;rw[<- hw,<- M];exact hf
    exact (H w u).iff ⟨λh=>⟨u,h.1,hS,h.2.1,h.2.2⟩,λh=>⟨h.2.1,h.2.2.2⟩⟩
   ·rw[decide_eq_false M];refine Ret.no (λh=>M ?_);have:=gp u.2 hf h.2.2.1 e;rw[this,hw]
  ·refine Ret.vl z (Ret.no (λh=>Y _ h.2.2.1 rfl))
 simp only[Q156.f];cases hg:n.2.2.1 with
 |true=>exact r 4 (by rw[hg];rfl)
 |false=>exact r 1 (by rw[hg];rfl)
def c7 (n:aa):Prop:=if (aa.probe n).1=-1 then aa.probe n=(-1,0,0,false) else
 (aa.probe n).1≠n.1/\(∃ f∈aa.table n,f.1=(aa.probe n).1)/\InP (aa.probe n).2.1 0 n.2.2.2.2.2.1/\InP (aa.probe n).2.2.1 1 n.2.2.2.2.2.2.1
theorem zD (K:Nat)(n:aa)(J:NB n)(u:1048577<K):Ret (Q218.f K (n,())) (c7 n):=by
 simp only[Q218.f,c7];by_cases h:(aa.probe n).1=-1
 ·rw[if_pos h,show ((aa.probe n).1==-1)=true by simpa using h];refine (Ret.cnd (P:=(aa.probe n).2.1=0) (by simp) λ_=>Ret.cnd (P:=(aa.probe n).2.2.1=0) (by simp) λ_=>Ret.of (P:=(aa.probe n).2.2.2=false) (by simp)).iff ?_;generalize aa.probe n=p at h ⊢;obtain⟨a,b,c,d⟩:=p;simp at h ⊢;intro _ _ _;exact h
 ·rw[if_neg h,show ((aa.probe n).1==-1)=false by simpa using h];refine Ret.cnd (by simp) λ_=>?_
  obtain⟨o,H,z⟩:=fj K (aa.table n) (aa.probe n).1 J.table u;refine Ret.vl z ?_;cases H with
  |no M=>exact Ret.no (λ⟨⟨f,I,e⟩,_⟩=>M f I e)
  |at_ j y e =>
   simp only;rw[show decide ((j:Int)>=0)=true from decide_eq_true (by omega)];exact (Ret.px (cE K _ _ _) λ_=>(cE K _ _ _).id).iff ⟨λr=>⟨⟨_,BC y,e⟩,r⟩,λr=>r.2⟩
theorem zE (K:Nat)(n:aa)(J:NB n)(z:az (aa.table n))(H:1048577<K):Ret (Q157.f K (n,())) (c7 n):=by
 simp only[Q157.f,c7];by_cases h:(aa.probe n).1=-1
 ·rw[if_pos h,show ((aa.probe n).1==-1)=true by simpa using h,gq];exact Ret.dec
 ·rw[if_neg h,show ((aa.probe n).1==-1)=false by simpa using h];rcases iB K (aa.table n) (aa.probe n).1 J.table H with ⟨r,_⟩|⟨_,⟨f,y,e,r⟩|⟨I,r⟩⟩
  ·exact absurd z r
  ·refine Ret.vl r ?_;exact (Ret.cnd (P:=(aa.probe n).1≠n.1) (by simp) λ_=>Ret.px (eH K _ _ _) λ_=>(eH K _ _ _).id).iff ⟨λu=>⟨u.1,⟨f,y,e⟩,u.2⟩,λu=>⟨u.1,u.2.2⟩⟩
  ·exact Ret.vl r (Ret.no (λ⟨_,⟨f,y,e⟩,_⟩=>I f y e))
def cF (c:dz):Prop:=InP c.1 (-100000) 100000/\InP c.2.1 (-100000) 100000/\InP c.2.2.1 0 100000/\InP c.2.2.2 1 1500
theorem iC (K:Nat)(c:dz):Ret (Q21.f K (c,())) (cF c) :=
 Ret.px (cE K _ _ _) λ_=>Ret.px (cE K _ _ _) λ_=>Ret.px (cE K _ _ _) λ_=>(cE K _ _ _).id
theorem nJ (K:Nat)(c:dz):Ret (Q160.f K (c,())) (cF c) :=
 Ret.px (eH K _ _ _) λ_=>Ret.px (eH K _ _ _) λ_=>Ret.px (eH K _ _ _) λ_=>(eH K _ _ _).id
def AD (r:Int)(p:dI):Prop:=InP p.1 0 7/\aj p.1=aj r/\p.1≠r/\cF p.2.1/\InP (p.2.2.length:Int) 1 3/\∀ t∈p.2.2,InP t 1 60000
def er (r:Int)(l:List dI):Prop:=(∀ p∈l,AD r p)/\Asc (λp:dI=>p.1) l
theorem pD (K:Nat)(n:aa)(x:Int):Ret (Q158.f K (n,x,())) (InP x 0 7/\aj x=aj n.1):=by
 refine Ret.px (ja K x) λ_=>?_
 exact Ret.of (b:=aj x==aj n.1) (by simp)
theorem zF (K:Nat)(n:aa)(x:Int):Ret (Q161.f K (n,x,())) ((InP x 0 7/\aj x=aj n.1)/\x≠n.1):=by
 refine Ret.px (pD K n x) λ_=>?_
 exact Ret.of (b:=x != n.1) (by simp)
theorem yc (K:Nat)(n:aa)(O:NB n)(Z:1048577<K):Ret (Q220.f K (n,())) (er n.1 (aa.places n)):=by
 refine (gl (aa.places n) (step:=λrec a=>Q220.s0 K (n,()) (Q220.l1 K (n,()) rec) rec a)
  (λi y=>InP (aa.places n)[i].1 0 7/\¬ aj (aa.places n)[i].1≠aj n.1/\¬ (aa.places n)[i].1=n.1/\(0<i->¬ ((aa.places n)[i-1]'(by omega)).1>=(aa.places n)[i].1) /\
   cF (aa.places n)[i].2.1/\InP ((aa.places n)[i].2.2.length:Int) 1 3/\∀ k (z:k<(aa.places n)[i].2.2.length),InP (aa.places n)[i].2.2[k] 1 60000/\True) O.places ?_ ?_ Z (λ_=>Ret.yes trivial)).iff (eV.trans ?_)
 ·intro rec i y;have hb:=O.trips _ (BC y);have hl:=O.places;have u:Rnd (Q220.l1 K (n,()) rec ((i:Int),0,(aa.places n)[i].1,(aa.places n)[i].2.1.1,(aa.places n)[i].2.1.2.1,(aa.places n)[i].2.1.2.2.1,(aa.places n)[i].2.1.2.2.2,(aa.places n)[i].2.2))
    (∀ k (z:k<(aa.places n)[i].2.2.length),InP (aa.places n)[i].2.2[k] 1 60000/\True) (rec (wr .i64 ((i:Int)+1))):=by
   generalize (aa.places n)[i]=p at hb;refine oO p.2.2 (step:=λr a=>Q220.s1 K (n,()) rec r a) (λk=>((i:Int),(k:Int),p.1,p.2.1.1,p.2.1.2.1,p.2.1.2.2.1,p.2.1.2.2.2,p.2.2)) (λk z=>InP p.2.2[k] 1 60000/\True) hb ?_ ?_ Z
   ·intro r k z;simp only[Q220.s1];rw[decide_eq_true (by omega:(k:Int)<(BA p.2.2:Int)),ar k (by omega)];simp only[cond_true];exact Rnd.ix (ag z) (Rnd.nx (cE K _ _ _) λ_=>Rnd.end_)
   ·intro r;simp only[Q220.s1,aQ];rfl
  simp only[Q220.s0];rw[decide_eq_true (by omega:(i:Int)<(BA (aa.places n):Int))];simp only[cond_true];refine Rnd.ix (ag y) (Rnd.nx (cE K _ _ _) λ_=>Rnd.vl (dk K _) (Rnd.vl (dk K _) (Rnd.cndN (by simp) λ_=>Rnd.cndN (by simp) λ_=>Rnd.two (λH=>?_) ?_)))
  ·rw[eO i H (by omega)];exact Rnd.ix (ag (show i-1<(aa.places n).length by omega)) (Rnd.cndN (by simp) λ_=>Rnd.nx (iC K _) λ_=>Rnd.nx (cE K _ _ _) λ_=>u)
  ·exact Rnd.nx (iC K _) λ_=>Rnd.nx (cE K _ _ _) λ_=>u
 ·intro rec;simp only[Q220.s0,aQ];rfl
 ·rw[er,dE,gM];constructor
  ·intro h;refine⟨λi y=>?_,λi y H=>?_⟩
   ·obtain⟨J,Y,X,h4,M,I,R⟩:=h i y;exact⟨J,BD.1 Y,X,M,I,dE.2 λk z=>(R k z).1⟩
   ·have:=(h i y).2.2.2.1 H;omega
  ·rintro⟨J,Y⟩ i y;obtain⟨X,h4,M,I,R,h8⟩:=J i y;exact⟨X,BD.2 h4,M,λH=>by have:=Y i y H;omega,I,R,λk z=>⟨dE.1 h8 k z,trivial⟩⟩
theorem yd (K:Nat)(n:aa)(O:NB n)(hK:1048577<K):Ret (Q165.f K (n,())) (er n.1 (aa.places n)):=by
 refine (gl (aa.places n) (step:=λrec a=>Q165.s0 K (n,()) rec a)
  (λi u=>((InP (aa.places n)[i].1 0 7/\aj (aa.places n)[i].1=aj n.1)/\(aa.places n)[i].1≠n.1)/\(0<i->¬ (aa.places n)[i].1<=((aa.places n)[i-1]'(by omega)).1) /\
   cF (aa.places n)[i].2.1/\InP ((aa.places n)[i].2.2.length:Int) 1 3/\(¬ ∃ t∈(aa.places n)[i].2.2,¬ InP t 1 60000)/\True) O.places ?_ ?_ hK (λ_=>Ret.yes trivial)).iff (eV.trans ?_)
 ·intro rec i u;have hb:=O.trips _ (BC u);have hl:=O.places;have r:Ret (Q164.f K ((aa.places n)[i].2.2,(λy6=>(Q162.f K (y6.1,())).map λy=>y.1.1),())) (∃ t∈(aa.places n)[i].2.2,¬ InP t 1 60000) :=
   x8 K _ _ _ hb hK (λt _=>Ret.fn (eH K t _ _).neg)
  simp only[Q165.s0];rw[decide_eq_true (by omega:(i:Int)<(BA (aa.places n):Int))];simp only[cond_true];refine Rnd.ix (ag u) (Rnd.nx (zF K n _) λ_=>Rnd.two (λz=>?_) ?_)
  ·rw[eO i z (by omega)];exact Rnd.ix (ag (show i-1<(aa.places n).length by omega)) (Rnd.cndN (by simp) λ_=>Rnd.nx (nJ K _) λ_=>Rnd.nx (eH K _ _ _) λ_=>Rnd.fx r λ_=>Rnd.end_)
  ·exact Rnd.nx (nJ K _) λ_=>Rnd.nx (eH K _ _ _) λ_=>Rnd.fx r λ_=>Rnd.end_
 ·intro rec;simp only[Q165.s0,aQ];rfl
 ·rw[er,dE,gM];constructor
  ·intro h;refine⟨λi u=>?_,λi u z=>?_⟩
   ·obtain⟨⟨⟨J,Y⟩,X⟩,h4,M,I,R,_⟩:=h i u;exact⟨J,Y,X,M,I,λt H=>BD.1 λZ=>R ⟨t,H,Z⟩⟩
   ·have:=(h i u).2.1 z;omega
  ·rintro⟨J,Y⟩ i u;obtain⟨X,h4,M,I,R,Z⟩:=J i u;exact⟨⟨⟨X,h4⟩,M⟩,λz=>by have:=Y i u z;omega,I,R,λ⟨t,H,h9⟩=>h9 (Z t H),trivial⟩
def AE (r:Int)(x:bZ):Prop:=InP x.1 0 1/\x.1≠aj r/\x.2≠[]/\az x.2/\bR x.2 x.1
def c8 (r:Int)(l:List bZ):Prop:=(∀ x∈l,AE r x)/\Asc (λx:bZ=>x.1) l
theorem oT {α:Type}(l:List α):((BA l:Int)==0)=true<->l=[]:=by
 cases l <;> simp;omega
theorem ye (K:Nat)(n:aa)(H:NB n)(u:1048577<K):Ret (Q221.f K (n,())) (c8 n.1 (aa.others n)):=by
 refine (gl (aa.others n) (step:=λrec a=>Q221.s0 K (n,()) rec a)
  (λi r=>InP (aa.others n)[i].1 0 1/\¬ (aa.others n)[i].1=aj n.1/\(0<i->¬ ((aa.others n)[i-1]'(by omega)).1>=(aa.others n)[i].1) /\
   ¬ (aa.others n)[i].2=[]/\az (aa.others n)[i].2/\bR (aa.others n)[i].2 (aa.others n)[i].1/\True) H.others ?_ ?_ u (λ_=>Ret.yes trivial)).iff (eV.trans ?_)
 ·intro rec i r;have z:=H.facts _ (BC r);have X:=H.others;simp only[Q221.s0];rw[decide_eq_true (by omega:(i:Int)<(BA (aa.others n):Int))];simp only[cond_true];refine Rnd.ix (ag r) (Rnd.nx (cE K _ _ _) λ_=>Rnd.vl (dk K _) (Rnd.cndN (by simp) λ_=>Rnd.two (λy=>?_) ?_))
  ·rw[eO i y (by omega)];exact Rnd.ix (ag (show i-1<(aa.others n).length by omega)) (Rnd.cndN (by simp) λ_=>Rnd.cndN (oT _) λ_=>Rnd.nx (gm K _ z u) λ_=>Rnd.nx (eZ K _ _ z u) λ_=>Rnd.end_)
  ·exact Rnd.cndN (oT _) λ_=>Rnd.nx (gm K _ z u) λ_=>Rnd.nx (eZ K _ _ z u) λ_=>Rnd.end_
 ·intro rec;simp only[Q221.s0,aQ];rfl
 ·rw[c8,dE,gM];constructor
  ·intro h;exact⟨λi r=>⟨(h i r).1,(h i r).2.1,(h i r).2.2.2.1,(h i r).2.2.2.2.1,(h i r).2.2.2.2.2.1⟩,λi r y=>by have:=(h i r).2.2.1 y;omega⟩
  ·rintro⟨h1,h2⟩ i r;obtain⟨R,O,J,I,M⟩:=h1 i r;exact⟨R,O,λy=>by have:=h2 i r y;omega,J,I,M,trivial⟩
theorem yf (K:Nat)(n:aa)(J:NB n)(u:1048577<K):Ret (Q166.f K (n,())) (c8 n.1 (aa.others n)):=by
 refine (gl (aa.others n) (step:=λrec a=>Q166.s0 K (n,()) rec a)
  (λi r=>InP (aa.others n)[i].1 0 1/\¬ (aa.others n)[i].1=aj n.1/\(0<i->¬ (aa.others n)[i].1<=((aa.others n)[i-1]'(by omega)).1) /\
   ¬ (aa.others n)[i].2=[]/\az (aa.others n)[i].2/\bR (aa.others n)[i].2 (aa.others n)[i].1/\True) J.others ?_ ?_ u (λ_=>Ret.yes trivial)).iff (eV.trans ?_)
 ·intro rec i r;have I:=J.facts _ (BC r);have Y:=J.others;have H:aj 7=1:=by unfold aj;rw[aH (by decide) (by decide)];decide
  have y:=eH K (aa.others n)[i].1 0 (aj 7);rw[H]at y;simp only[Q166.s0];rw[decide_eq_true (by omega:(i:Int)<(BA (aa.others n):Int))];simp only[cond_true];refine Rnd.ix (ag r) (Rnd.vl (mH K 7) ?_);dsimp only;rw[H];refine Rnd.nx y λ_=>Rnd.vl (nI K n) (Rnd.cndN (by simp) λ_=>Rnd.two (λz=>?_) ?_)
  ·rw[eO i z (by omega)];exact Rnd.ix (ag (show i-1<(aa.others n).length by omega)) (Rnd.cndN (by simp) λ_=>Rnd.cndN (oT _) λ_=>Rnd.nx (gn K _ I u) λ_=>Rnd.nx (ij K _ _ I u) λ_=>Rnd.end_)
  ·exact Rnd.cndN (oT _) λ_=>Rnd.nx (gn K _ I u) λ_=>Rnd.nx (ij K _ _ I u) λ_=>Rnd.end_
 ·intro rec;simp only[Q166.s0,aQ];rfl
 ·rw[c8,dE,gM];constructor
  ·intro h;exact⟨λi r=>⟨(h i r).1,(h i r).2.1,(h i r).2.2.2.1,(h i r).2.2.2.2.1,(h i r).2.2.2.2.2.1⟩,λi r z=>by have:=(h i r).2.2.1 z;omega⟩
  ·rintro⟨h1,h2⟩ i r;obtain⟨X,R,O,M,H⟩:=h1 i r;exact⟨X,R,λz=>by have:=h2 i r z;omega,O,M,H,trivial⟩
def ByP (r:Int)(l:List Int):Prop:=(∀ b∈l,InP b 0 7/\aj b=aj r)/\Asc (λb:Int=>b) l
def lu (n:aa)(d:bM):Prop:=(∃ f∈aa.table n,f.1=d.1/\f.2.2.1=2/\f.2.1=d.2.1)/\InP d.2.2.1 0 n.2.2.2.2.2.1/\d.2.2.2≠[]/\ByP n.1 d.2.2.2
def aT (t:List af):List af:=t.filter λf=>f.2.2.1==2
def iD (n:aa):Prop:=(∀ d∈aa.doubts n,lu n d)/\Asc (λd:bM=>d.1) (aa.doubts n)/\(aT (aa.table n)).length=(aa.doubts n).length
theorem wP {y:Int}{l:List Int}:ByP y l<->∀ k (r:k<l.length),(InP l[k] 0 7/\aj l[k]=aj y)/\(0<k->¬ l[k-1]'(by omega)>=l[k]):=by
 rw[ByP,dE,gM];constructor
 ·rintro⟨h1,h2⟩ k r;exact⟨h1 k r,λu=>by have:=h2 k r u;omega⟩
 ·intro h;exact⟨λk r=>(h k r).1,λk r u=>by have:=(h k r).2 u;omega⟩
theorem zG (K:Nat)(n:aa)(J:NB n)(R:1048577<K):Q219.l2 K (n,()) (0,0)=rb (decide ((aT (aa.table n)).length=(aa.doubts n).length)):=by
 have X:=J.table;have y:∀ (d k i c:Nat),i+d=(aa.table n).length->d<k->c<=i ->
   ae (λrec a=>Q219.s2 K (n,()) rec a) k ((c:Int),(i:Int))=rb (decide (c+(aT ((aa.table n).drop i)).length=(aa.doubts n).length)):=by
  intro d;induction d with
  |zero =>
   intro k i c M I O;obtain⟨k,rfl⟩:∃ u,k=u+1:=⟨k-1,by omega⟩;show Q219.s2 K (n,()) _ _=_;simp only[Q219.s2];rw[decide_eq_false (show ¬ ((i:Int)<(BA (aa.table n):Int)) by omega),BN (by omega)];simp only[cond_false,aT,List.filter_nil,List.length_nil,Nat.add_zero];have e:((c:Int)==(BA (aa.doubts n):Int))=decide (c=(aa.doubts n).length):=by
    by_cases h:c=(aa.doubts n).length
    ·rw[decide_eq_true h,h];simp
    ·rw[decide_eq_false h,beq_eq_false_iff_ne];omega
   exact congrArg rb e
  |succ d z =>
   intro k i c M I O;obtain⟨k,rfl⟩:∃ u,k=u+1:=⟨k-1,by omega⟩;have r:i<(aa.table n).length:=by omega
   show Q219.s2 K (n,()) _ _=_;simp only[Q219.s2];rw[decide_eq_true (show ((i:Int)<(BA (aa.table n):Int)) by omega),ag r,ar i (by omega),ar c (by omega),BK r];simp only[cond_true,BB];cases H:((aa.table n)[i].2.2.1==2) with
   |true =>
    have:=z k (i+1) (c+1) (by omega) (by omega) (by omega);simp only[cond_true];have e:c+1+(aT ((aa.table n).drop (i+1))).length=c+(aT ((aa.table n)[i]::(aa.table n).drop (i+1))).length:=by
     simp only[aT,BM,H,if_true,List.length_cons];omega
    rw[<- e];exact this
   |false =>
    have:=z k (i+1) c (by omega) (by omega) (by omega);simp only[cond_false];have e:aT ((aa.table n)[i]::(aa.table n).drop (i+1))=aT ((aa.table n).drop (i+1)):=by
     simp only[aT,BM,H,BH,if_false]
    rw[e];exact this
 have:=y (aa.table n).length K 0 0 (by omega) (by omega) (BU _);rw[BW,Nat.zero_add]at this;exact this
theorem yg (K:Nat)(n:aa)(R:NB n)(hT:az (aa.table n))(Y:1048577<K):Ret (Q219.f K (n,())) (iD n):=by
 refine (gl (aa.doubts n) (step:=λrec a=>Q219.s0 K (n,()) (Q219.l1 K (n,()) rec) (Q219.l2 K (n,())) rec a)
  (λi z=>(0<i->¬ ((aa.doubts n)[i-1]'(by omega)).1>=(aa.doubts n)[i].1)/\lu n (aa.doubts n)[i]) (Q:=(aT (aa.table n)).length=(aa.doubts n).length) (rt:=Q219.l2 K (n,()) (0,0)) R.doubts ?_ ?_ Y (λ_=>by rw[zG K n R Y];exact Ret.dec)).iff ?_
 ·intro rec i z;have Z:=R.by_ _ (BC z);have hl:=R.doubts;have y:Rnd (Q219.l1 K (n,()) rec ((i:Int),0,(aa.doubts n)[i].1,(aa.doubts n)[i].2.1,(aa.doubts n)[i].2.2.1,(aa.doubts n)[i].2.2.2)) (ByP n.1 (aa.doubts n)[i].2.2.2) (rec (wr .i64 ((i:Int)+1))):=by
   generalize (aa.doubts n)[i]=d at Z;refine (oO d.2.2.2 (step:=λu a=>Q219.s1 K (n,()) rec u a) (λk=>((i:Int),(k:Int),d.1,d.2.1,d.2.2.1,d.2.2.2))
    (λk r=>InP d.2.2.2[k] 0 7/\¬ aj d.2.2.2[k]≠aj n.1/\(0<k->¬ d.2.2.2[k-1]'(by omega)>=d.2.2.2[k])/\True) Z ?_ ?_ Y).iff ?_
   ·intro u k r;simp only[Q219.s1];rw[decide_eq_true (by omega:(k:Int)<(BA d.2.2.2:Int)),ar k (by omega)];simp only[cond_true];refine Rnd.ix (ag r) (Rnd.nx (cE K _ _ _) λ_=>Rnd.ix (ag r) (Rnd.vl (dk K _) (Rnd.vl (dk K _) (Rnd.cndN (by simp) λ_=>Rnd.two (λH=>?_) Rnd.end_))));rw[eO k H (by omega)];exact Rnd.ix (ag (show k-1<d.2.2.2.length by omega)) (Rnd.ix (ag r) (Rnd.cndN (by simp) λ_=>Rnd.end_))
   ·intro u;simp only[Q219.s1,aQ];rfl
   ·rw[wP];constructor
    ·intro h k r;exact⟨⟨(h k r).1,BD.1 (h k r).2.1⟩,(h k r).2.2.1⟩
    ·intro h k r;exact⟨(h k r).1.1,BD.2 (h k r).1.2,(h k r).2,trivial⟩
  obtain⟨o,ho,O⟩:=fj K (aa.table n) (aa.doubts n)[i].1 R.table Y;simp only[Q219.s0];rw[decide_eq_true (show ((i:Int)<(BA (aa.doubts n):Int)) by omega)];simp only[cond_true];refine Rnd.ix (ag z) (Rnd.vl O ?_);cases ho with
  |no h =>
   have X:¬ lu n (aa.doubts n)[i]:=λ⟨⟨f,O,e,_⟩,_⟩=>h f O e
   refine Rnd.two (λH=>?_) ?_
   ·rw[eO i H (by omega)];refine Rnd.ix (ag (show i-1<(aa.doubts n).length by omega)) (Rnd.cndN (by simp) λ_=>?_);exact .inr ⟨X,rfl⟩
   ·exact .inr ⟨X,rfl⟩
  |at_ j M e =>
   have J:decide ((j:Int)<0)=false:=decide_eq_false (by omega);have I:lu n (aa.doubts n)[i]<->(¬ (aa.table n)[j].2.2.1≠2/\¬ (aa.table n)[j].2.1≠(aa.doubts n)[i].2.1/\InP (aa.doubts n)[i].2.2.1 0 n.2.2.2.2.2.1/\¬ (aa.doubts n)[i].2.2.2=[]/\ByP n.1 (aa.doubts n)[i].2.2.2):=by
    constructor
    ·rintro⟨⟨f,O,e1,e2,e3⟩,h2,h3,h4⟩;have:=gp hT.2 O (BC M) (e1.trans e.symm);subst this;exact⟨BD.2 e2,BD.2 e3,h2,h3,h4⟩
    ·rintro⟨e2,e3,h2,h3,h4⟩;exact⟨⟨_,BC M,e,BD.1 e2,BD.1 e3⟩,h2,h3,h4⟩
   refine Rnd.two (λH=>?_) ?_
   ·rw[eO i H (by omega)];refine Rnd.ix (ag (show i-1<(aa.doubts n).length by omega)) (Rnd.cndN (by simp) λ_=>?_);simp only[J,cond_false];refine Rnd.iff ?_ I.symm;exact Rnd.ix (ag M) (Rnd.cndN (by simp) λ_=>Rnd.ix (ag M) (Rnd.cndN (by simp) λ_=>Rnd.nx (cE K _ _ _) λ_=>Rnd.cndN (oT _) λ_=>y))
   ·simp only[J,cond_false];refine Rnd.iff ?_ I.symm;exact Rnd.ix (ag M) (Rnd.cndN (by simp) λ_=>Rnd.ix (ag M) (Rnd.cndN (by simp) λ_=>Rnd.nx (cE K _ _ _) λ_=>Rnd.cndN (oT _) λ_=>y))
 ·intro rec;simp only[Q219.s0,aQ];rfl
 ·rw[iD,dE,gM];constructor
  ·rintro⟨h1,h2⟩;exact⟨λi z=>(h1 i z).2,λi z H=>by have:=(h1 i z).1 H;omega,h2⟩
  ·rintro⟨h1,h2,h3⟩;exact⟨λi z=>⟨λH=>by have:=h2 i z H;omega,h1 i z⟩,h3⟩
theorem zH (K:Nat)(n:aa)(Y:NB n)(S:List af)(hS:S.length=(aa.doubts n).length)(hK:1048577<K):Ret (Q159.l1 K (n,()) (S,0))
  (∀ i (u:i<(aa.doubts n).length),(aa.doubts n)[i].1=(S[i]'(by omega)).1/\(aa.doubts n)[i].2.1=(S[i]'(by omega)).2.1/\InP (aa.doubts n)[i].2.2.1 0 n.2.2.2.2.2.1/\(aa.doubts n)[i].2.2.2≠[]/\ByP n.1 (aa.doubts n)[i].2.2.2):=by
 have hl:=Y.doubts;have I:=lT (step:=λrec a=>Q159.s1 K (n,()) (Q159.l2 K (n,()) rec) rec a) (aa.doubts n).length (λi=>(S,(i:Int)))
  (λi=>∀ u:i<(aa.doubts n).length,¬ (aa.doubts n)[i].1≠(S[i]'(by omega)).1/\¬ (aa.doubts n)[i].2.1≠(S[i]'(by omega)).2.1/\InP (aa.doubts n)[i].2.2.1 0 n.2.2.2.2.2.1/\¬ (aa.doubts n)[i].2.2.2=[]/\ByP n.1 (aa.doubts n)[i].2.2.2)
  (rb true) (rb false) ?_ ?_ (aa.doubts n).length K 0 (by omega) (by omega)
 ·rcases I with ⟨M,J⟩|⟨M,J⟩
  ·refine⟨true,J,iff_of_true rfl λi u=>?_⟩;obtain⟨X,R,O⟩:=M i (BI _) u u;exact⟨BD.1 X,BD.1 R,O⟩
  ·refine⟨false,J,iff_of_false (by simp) λh=>M λi _ u _=>?_⟩;obtain⟨X,R,O⟩:=h i u;exact⟨BD.2 X,BD.2 R,O⟩
 ·intro rec i u;have Z:=Y.by_ _ (BC u);have H:Rnd (Q159.l2 K (n,()) rec (S,(i:Int),(aa.doubts n)[i].2.2.2,(BA (aa.doubts n)[i].2.2.2:Int),0,(aa.doubts n)[i].1,(aa.doubts n)[i].2.1,(aa.doubts n)[i].2.2.1,(aa.doubts n)[i].2.2.2)) (ByP n.1 (aa.doubts n)[i].2.2.2) (rec (S,wr .i64 ((i:Int)+1))):=by
   generalize (aa.doubts n)[i]=d at Z;refine (oO d.2.2.2 (step:=λr a=>Q159.s2 K (n,()) rec r a) (λk=>(S,(i:Int),d.2.2.2,(BA d.2.2.2:Int),(k:Int),d.1,d.2.1,d.2.2.1,d.2.2.2))
    (λk z=>(InP d.2.2.2[k] 0 7/\aj d.2.2.2[k]=aj n.1)/\(0<k->¬ d.2.2.2[k]<=d.2.2.2[k-1]'(by omega))/\True) Z ?_ ?_ hK).iff ?_
   ·intro r k z;simp only[Q159.s2,zcp4];rw[decide_eq_true (by omega:(k:Int)<(BA d.2.2.2:Int)),ar k (by omega)];simp only[cond_true];refine Rnd.ix (ag z) (Rnd.nx (pD K n _) λ_=>Rnd.two (λh0=>?_) Rnd.end_);rw[eO k h0 (by omega)];exact Rnd.ix (ag (show k-1<d.2.2.2.length by omega)) (Rnd.cndN (by simp) λ_=>Rnd.end_)
   ·intro r;simp only[Q159.s2,zcp4,aQ];rfl
   ·rw[wP];constructor
    ·intro h k z;exact⟨(h k z).1,(h k z).2.1⟩
    ·intro h k z;exact⟨(h k z).1,(h k z).2,trivial⟩
  have y:i<S.length:=by omega
  have hr:Rnd (Q159.s1 K (n,()) (Q159.l2 K (n,()) rec) rec (S,(i:Int)))
    (¬ (aa.doubts n)[i].1≠S[i].1/\¬ (aa.doubts n)[i].2.1≠S[i].2.1/\InP (aa.doubts n)[i].2.2.1 0 n.2.2.2.2.2.1/\¬ (aa.doubts n)[i].2.2.2=[]/\ByP n.1 (aa.doubts n)[i].2.2.2) (rec (S,((i+1:Nat):Int))):=by
   rw[<- ar i (by omega)];simp only[Q159.s1];rw[decide_eq_true (show ((i:Int)<(BA (aa.doubts n):Int)) by omega),Int.toNat_natCast];simp only[cond_true];exact Rnd.ix (ag u) (Rnd.ix (ag y) (Rnd.ix (ag y) (Rnd.cndN (by simp) λ_=>Rnd.ix (ag y) (Rnd.ix (ag y) (Rnd.cndN (by simp) λ_=>Rnd.nx (eH K _ _ _) λ_=>Rnd.cndN (oT _) λ_=>H)))))
  exact hr.imp (λh=>⟨λ_=>h.1,h.2⟩) (λh=>⟨λJ=>h.1 (J u),h.2⟩)
 ·intro rec;simp only[Q159.s1,aQ];rfl
theorem yh (K:Nat)(n:aa)(hn:NB n)(hT:az (aa.table n))(hK:1048577<K):Ret (Q159.f K (n,())) (iD n):=by
 have hl:=hn.table;have a2:=hn.doubts;have a0:∀ (d k i:Nat),i+d=(aa.table n).length->d<k->ae (λrec a=>Q159.s0 K (n,()) (Q159.l1 K (n,())) rec a) k (aT ((aa.table n).take i),(i:Int)) =
   (bif (BA (aa.doubts n):Int) != (BA (aT (aa.table n)):Int) then rb false else Q159.l1 K (n,()) (aT (aa.table n),0)):=by
  intro d;induction d with
  |zero =>
   intro k i z hk;obtain⟨k,rfl⟩:∃ k',k=k'+1:=⟨k-1,by omega⟩;show Q159.s0 K (n,()) _ _ _=_;simp only[Q159.s0];rw[decide_eq_false (show ¬ ((i:Int)<(BA (aa.table n):Int)) by omega),BO (by omega)];rfl
  |succ d J =>
   intro k i z hk;obtain⟨k,rfl⟩:∃ k',k=k'+1:=⟨k-1,by omega⟩;have J:=J k (i+1) (by omega) (by omega);have M:i<(aa.table n).length:=by omega
   show Q159.s0 K (n,()) _ _ _=_;simp only[Q159.s0];rw[decide_eq_true (show ((i:Int)<(BA (aa.table n):Int)) by omega),ag M,ar i (by omega)];simp only[cond_true,BB];have e:aT ((aa.table n).take (i+1))=aT ((aa.table n).take i)++(if (aa.table n)[i].2.2.1==2 then [(aa.table n)[i]] else []):=by
    rw[aT,BS,BF M,List.filter_append];simp[aT,BM]
   cases hb:((aa.table n)[i].2.2.1==2) with
   |true =>
    rw[hb]at e;simp only[if_true]at e;simp only[cond_true];have a1:(aT ((aa.table n).take i)).length<=i:=Nat.le_trans (List.length_filter_le _ _) (by simp;omega);have hs:decide ((BA (aT ((aa.table n).take i))+BA [(aa.table n)[i]])*32<=an)=true:=decide_eq_true (by simp only[an,BP];omega);rw[hs];rw[e]at J;exact J
   |false =>
    rw[hb]at e;simp only[BH,if_false,List.append_nil]at e;rw[e]at J;exact J
 have h0:Q159.f K (n,())=_:=a0 (aa.table n).length K 0 (by omega) (by omega);rw[h0];have y:∀ f∈aT (aa.table n),f∈aa.table n/\f.2.2.1=2:=λf H=>by
  rw[aT,BV]at H;exact⟨H.1,by simpa using H.2⟩
 have u:Asc (λf:af=>f.1) (aT (aa.table n)):=List.Pairwise.filter _ hT.2;by_cases r:(aT (aa.table n)).length=(aa.doubts n).length
 ·have:((BA (aa.doubts n):Int) != (BA (aT (aa.table n)):Int))=false:=by simp[r]
  rw[this];refine (zH K n hn _ r hK).iff ⟨λh=>⟨?_,?_,r⟩,λ⟨h1,h2,_⟩ i z=>?_⟩
  ·rw[dE];intro i z;obtain⟨R,h4,Z,Y,h7⟩:=h i z;obtain⟨h8,h9⟩:=y _ (BC (show i<(aT (aa.table n)).length by omega));exact⟨⟨_,h8,R.symm,h9,h4.symm⟩,Z,Y,h7⟩
  ·rw[cB]at u ⊢;intro i j z hj X;have:=u i j (by omega) (by omega) X;rw[(h i z).1,(h j hj).1];exact this
  ·have I:=i9 ((aa.doubts n).map (·.1)) ((aT (aa.table n)).map (·.1)) (by rw[BL];exact h2) (by rw[BL];exact u) (by
    intro x hx;obtain⟨d,hd,rfl⟩:=BX.1 hx;obtain⟨⟨f,H,e1,e2,_⟩,_⟩:=h1 d hd;exact BX.2 ⟨f,by rw[aT,BV];exact⟨H,by simpa using e2⟩,e1⟩)
   have I:=I.2 (by simp[r]);have O:i<(aT (aa.table n)).length:=by omega
   have e:(aa.doubts n)[i].1=(aT (aa.table n))[i].1:=by
    have R:((aa.doubts n).map (·.1))[i]?=((aT (aa.table n)).map (·.1))[i]?:=by rw[I]
    rw[BT,BT,BF z,BF O]at R;simpa using R
   obtain⟨⟨f,H,e1,e2,e3⟩,h4,Z,Y⟩:=h1 _ (BC z);have:=gp hT.2 H (y _ (BC O)).1 (e1.trans e);subst this;exact⟨e,e3.symm,h4,Z,Y⟩
 ·have:((BA (aa.doubts n):Int) != (BA (aT (aa.table n)):Int))=true:=by simp;omega
  rw[this];exact Ret.no (λh=>r h.2.2)
def rZ (n:aa):Prop:=n.2.2.1=false/\n.2.2.2.2.1=0/\n.2.2.2.2.2.1=0/\n.2.2.2.2.2.2.1=0/\n.2.2.2.2.2.2.2.1=0 /\
 wr .i64 (wr .i64 (wr .i64 (wr .i64 ((BA (aa.table n):Int)+(BA (aa.cast n):Int))+(BA (aa.doubts n):Int))+(BA (aa.places n):Int))+(BA (aa.others n):Int))=0 /\
 aa.probe n=(0,0,0,false)/\aa.coord n=(0,0,0,0)
def UpP (n:aa):Prop:=az (aa.table n)/\bR (aa.table n) (aj n.1)/\cW n/\(cP (aa.cast n)/\gV (aa.table n) (aa.cast n))/\c7 n/\iD n/\cF (aa.coord n)/\er n.1 (aa.places n)/\c8 n.1 (aa.others n)
def gN (n:aa):Prop:=InP n.1 0 7/\InP n.2.2.2.2.2.1 0 999999/\InP n.2.2.2.2.2.2.1 0 999999/\InP n.2.2.2.2.2.2.2.1 0 8/\InP n.2.2.2.2.1 0 999/\(if n.2.1=true then UpP n else rZ n)
theorem yi (K:Nat)(n:aa)(u:NB n)(r:1048577<K):Ret (Q222.f K (n,())) (gN n):=by
 refine Ret.nx (cE K _ _ _) λ_=>Ret.nx (cE K _ _ _) λ_=>Ret.nx (cE K _ _ _) λ_=>Ret.nx (cE K _ _ _) λ_=>Ret.nx (cE K _ _ _) λ_=>?_
 dsimp only;cases I:n.2.1 with
 |false =>
  simp only[BQ,cond_true,BH,if_false,rZ];refine Ret.cnd (by simp) λ_=>Ret.cnd (by simp) λ_=>Ret.cnd (by simp) λ_=>Ret.cnd (by simp) λ_=>Ret.cnd (by simp) λ_=>Ret.cnd (by simp) λ_=>?_
  refine Ret.iff (Ret.cnd (P:=(aa.probe n).1=0) (by simp) λ_=>Ret.cnd (P:=(aa.probe n).2.1=0) (by simp) λ_=>Ret.cnd (P:=(aa.probe n).2.2.1=0) (by simp) λ_=>Ret.cnd (P:=(aa.probe n).2.2.2=false) (by simp) λ_ =>
   Ret.cnd (P:=(aa.coord n).1=0) (by simp) λ_=>Ret.cnd (P:=(aa.coord n).2.1=0) (by simp) λ_=>Ret.cnd (P:=(aa.coord n).2.2.1=0) (by simp) λ_=>Ret.of (P:=(aa.coord n).2.2.2=0) (by simp)) ?_
  generalize aa.probe n=p;generalize aa.coord n=c;obtain⟨R,z,J,M⟩:=p;obtain⟨O,X,Y,H⟩:=c;simp only[BR];constructor
  ·rintro⟨h1,h2,h3,h4,h5,h6,h7,h8⟩;exact⟨⟨h1,h2,h3,h4⟩,h5,h6,h7,h8⟩
  ·rintro⟨⟨h1,h2,h3,h4⟩,h5,h6,h7,h8⟩;exact⟨h1,h2,h3,h4,h5,h6,h7,h8⟩
 |true =>
  simp only[BE,cond_false,if_true,UpP];exact Ret.px (gm K _ u.table r) λy=>Ret.vl (dk K _) (Ret.px (eZ K _ _ u.table r) λ_=>Ret.px (AC K n u y r) λ_=>Ret.px (tV K n u y r) λ_=>Ret.px (zD K n u r) λ_ =>
   Ret.px (yg K n u y r) λ_=>Ret.px (iC K _) λ_=>Ret.px (yc K n u r) λ_=>(ye K n u r).id)
theorem AF (K:Nat)(n:aa):Ret (Q132.f K (n,())) (rZ n):=by
 simp only[Q132.f,gq,pC,rZ];exact Ret.cnd (by simp) λ_=>Ret.cnd (by simp) λ_=>Ret.cnd (by simp) λ_=>Ret.cnd (by simp) λ_=>Ret.cnd (by simp) λ_=>Ret.cnd (by simp) λ_=>Ret.cnd (by simp) λ_=>Ret.dec
theorem sA (K:Nat)(n:aa)(u:NB n)(r:1048577<K):Ret (Q167.f K (n,())) (gN n):=by
 refine Ret.nx (ja K _) λ_=>Ret.nx (eH K _ _ _) λ_=>Ret.nx (eH K _ _ _) λ_=>Ret.nx (eH K _ _ _) λ_=>Ret.nx (eH K _ _ _) λ_=>?_
 dsimp only;cases z:n.2.1 with
 |false =>
  simp only[BQ,cond_true,BH,if_false];exact (AF K n).id
 |true =>
  simp only[BE,cond_false,if_true,UpP];refine Ret.iff (Ret.px (qq K n u r) λy=>Ret.px (zE K n u y.1 r) λ_=>Ret.px (yh K n u y.1 r) λ_=>Ret.px (nJ K _) λ_=>Ret.px (yd K n u r) λ_=>(yf K n u r).id) ?_;constructor
  ·rintro⟨⟨h1,h2,h3,h4,h5⟩,h6,h7,h8,h9,h10⟩;exact⟨h1,h2,h3,⟨h4,h5⟩,h6,h7,h8,h9,h10⟩
  ·rintro⟨h1,h2,h3,⟨h4,h5⟩,h6,h7,h8,h9,h10⟩;exact⟨⟨h1,h2,h3,h4,h5⟩,h6,h7,h8,h9,h10⟩
theorem eP {A R:Type}{step:(A->Option R)->A->Option R}(n:Nat)(S:Nat->A)(rt:Option R)(h:∀ (rec:A->Option R) (i:Nat),i<n->step rec (S i)=rec (S (i+1)))(r:∀ rec:A->Option R,step rec (S n)=rt)
  {k:Nat} (z:n<k):ae step k (S 0)=rt:=by
 rcases lT (step:=step) n S (λ_=>True) rt none (λrec i y=>.inl ⟨trivial,h rec i y⟩) r n k 0 (by omega) z with ⟨_,u⟩|⟨u,_⟩
 ·exact u
 ·exact absurd (λ_ _ _=>trivial) u
def Szd (o:Option ((Int×Unit)×Unit))(left:Int)(Q:Prop):Prop:=∃ r,o=some ((r,()),())/\(r<0\/(0<=r/\r<=left/\Q))
theorem Szd.sub (left:Int)(n:Nat)(J:0<=left)(I:left<=1048576)(M:n<=9223372036854775807){g:Option ((Int×Unit)×Unit)}{Q:Prop}(y:wr .i64 (left-(n:Int))=left-n->(n:Int)<=left->Szd g (left-n) Q) :
  Szd (bif decide (wr .i64 (left-(n:Int))<0) then some ((-1,()),()) else g) left (n<=1048576/\Q):=by
 have e:wr .i64 (left-(n:Int))=left-n:=aH (by omega) (by omega);by_cases h:left-(n:Int)<0
 ·rw[e,decide_eq_true h];exact⟨-1,rfl,.inl (by decide)⟩
 ·rw[decide_eq_false (by rw[e];exact h)];obtain⟨r,H,z⟩:=y e (by omega);exact⟨r,H,z.imp id λu=>⟨u.1,by omega,by omega,u.2.2⟩⟩
theorem Szd.bind {o:Option ((Int×Unit)×Unit)}{left:Int}{P Q:Prop}{G:(Int×Unit)×Unit->Option ((Int×Unit)×Unit)}(h:Szd o left P)(R:∀ r,0<=r->r<=left->P->Szd (G ((r,()),())) r Q) :
  Szd (o.bind λy=>bif decide (y.1.1<0) then some ((-1,()),()) else G y) left (P/\Q):=by
 obtain⟨r,M,u⟩:=h;rw[M,BB];rcases u with u|⟨u,J,H⟩
 ·rw[decide_eq_true u];exact⟨-1,rfl,.inl (by decide)⟩
 ·rw[show decide (r<0)=false from decide_eq_false (by omega)];obtain⟨I,X,O⟩:=R r u J H;exact⟨I,X,O.imp id λz=>⟨z.1,by omega,H,z.2.2⟩⟩
theorem Szd.ret (r:Int)(h:0<=r):Szd (some ((r,()),())) r True:=⟨r,rfl,.inr ⟨h,Int.le_refl _,trivial⟩⟩
theorem Szd.iff {o:Option ((Int×Unit)×Unit)}{left:Int}{P Q:Prop}(h:Szd o left P)(e:P->Q):Szd o left Q:=by
 obtain⟨r,y,z⟩:=h;exact⟨r,y,z.imp id λu=>⟨u.1,u.2.1,e u.2.2⟩⟩
end Go.Proofs.YtadlacffdemoiaaGreatEv
