/- What is ok of facts, tables, casts: the program and the specification say the same. -/
import Derived.Test.YtaegajachoklkabGreatFns
import Derived.Test.YtaegajachoklkabGreatP0
set_option linter.unusedVariables false
set_option linter.unusedSimpArgs false
open Bool renaming not_true->BK,false_eq_true->BN,not_false->BW
open Classical renaming not_not->BJ
open Int renaming natCast_nonneg->BP
open List renaming length->BG,getElem_mem->BI,getElem?_eq_getElem->BL,getElem_of_mem->BM,drop_eq_getElem_cons->BQ,pairwise_map->BR,filter_cons->BS,drop_of_length_le->BT,take_of_length_le->BU,length_singleton->BV,take_add_one->BY,getElem?_map->BZ,mem_filter->B4,drop_zero->B5,mem_map->B6
open Nat renaming zero_le->BO,le_refl->B3
open Option renaming bind_some->BH
open Prod.mk renaming injEq->BX
namespace Go.Proofs.YtaegajachoklkabGreatEv
open Go
abbrev InP (n r u:Int):Prop:=r<=n/\n<=u
theorem fu (K:Nat)(n r u:Int):Ret (Q130.f K (n,r,u,())) (InP n r u):=by
 simp only[Q130.f];exact Ret.cnd (by simp) λ_=>Ret.dec
theorem cC (K:Nat)(n r u:Int):Ret (Q13.f K (n,r,u,())) (InP n r u):=by
 simp only[Q13.f];exact Ret.cnd (by simp) λ_=>Ret.dec
theorem Ret.id {o:Option RB}{P:Prop}(h:Ret o P):Ret (o.bind λy=>some ((y.1.1,()),())) P:=by
 obtain⟨b,r,u⟩:=h;exact⟨b,by rw[r];rfl,u⟩
theorem Ret.neg {o:Option RB}{P:Prop}(h:Ret o P):Ret (o.bind λy=>some ((!y.1.1,()),())) (¬ P):=by
 obtain⟨b,r,u⟩:=h;exact⟨!b,by rw[r];rfl,by cases b <;> simp_all⟩
def bz (f:ag):Prop:=InP f.1 0 7/\InP f.2.1 0 999/\InP f.2.2.1 1 4
theorem oS (K:Nat)(n:Int):Ret (Q131.f K (n,())) (InP n 0 7):=(fu K n 0 7).id
theorem ma (K:Nat)(f:ag):Ret (Q132.f K (f,())) (bz f) :=
 Ret.and (oS K f.1) (λ_=>Ret.and (fu K f.2.1 0 999) (λ_=>(fu K f.2.2.1 1 4).id) rfl) rfl
theorem oT (K:Nat)(f:ag):Ret (Q23.f K (f,())) (bz f) :=
 Ret.and (cC K f.1 0 7) (λ_=>Ret.and (cC K f.2.1 0 999) (λ_=>(cC K f.2.2.1 1 4).id) rfl) rfl
def az (t:List ag):Prop:=(∀ f∈t,bz f)/\Asc (λf:ag=>f.1) t
theorem sJ {t:List ag}:az t<->∀ j,j<t.length->∃ h:j<t.length,bz t[j]/\(0<j->(t[j-1]'(by omega)).1<t[j].1):=by
 unfold az;rw[dA,gK];constructor
 ·rintro⟨h1,h2⟩ j hj;exact⟨hj,h1 j hj,λr=>h2 j hj r⟩
 ·intro h;exact⟨λi u=>(h i u).2.1,λi u r=>(h i u).2.2 r⟩
theorem fb {P:Prop}:(P/\True)<->P:=by simp
theorem gq (K:Nat)(t:List ag)(M:t.length<=1048576)(J:1048577<K):Ret (Q27.f K (t,())) (az t):=by
 refine Ret.iff (qs (step:=λrec a=>Q27.s0 K (t,()) rec a) t.length (λi=>(i:Int)) (λj=>∃ h:j<t.length,bz t[j]/\(0<j->(t[j-1]'(by omega)).1<t[j].1)) (Q:=True) (rt:=rb true) ?_ ?_ (by omega) (λ_=>Ret.yes trivial)) (fb.trans sJ.symm)
 ·intro rec i y;simp only[Q27.s0];rw[decide_eq_true (by omega:(i:Int)<(BG t:Int)),af y,ar i (by omega)];simp only[cond_true,BH];obtain⟨b,H,u⟩:=oT K t[i];rw[H];simp only[BH];cases b with
  |false=>exact .inr ⟨λ⟨_,r,_⟩=>by simpa using u.2 r,rfl⟩
  |true =>
   simp only[BK,cond_false];by_cases z:(i:Int)>0
   ·rw[decide_eq_true z,eX i (by omega) (by omega),af (by omega:i-1<t.length)];simp only[cond_true,BH];by_cases r:(t[i-1]'(by omega)).1>=t[i].1
    ·rw[decide_eq_true r];exact .inr ⟨λ⟨_,_,I⟩=>by have:=I (by omega);omega,rfl⟩
    ·rw[decide_eq_false r];exact .inl ⟨⟨y,u.1 rfl,λ_=>by omega⟩,rfl⟩
   ·rw[decide_eq_false z];exact .inl ⟨⟨y,u.1 rfl,λ_=>by omega⟩,rfl⟩
 ·intro rec;simp only[Q27.s0];rw[decide_eq_false (by omega:¬ ((t.length:Int)<(BG t:Int)))];rfl
theorem jC (K:Nat)(t:List ag)(M:t.length<=1048576)(J:1048577<K):Ret (Q133.f K (t,())) (az t):=by
 refine Ret.iff (qs (step:=λrec a=>Q133.s0 K (t,()) rec a) t.length (λi=>(i:Int)) (λj=>∃ h:j<t.length,bz t[j]/\(0<j->(t[j-1]'(by omega)).1<t[j].1)) (Q:=True) (rt:=rb true) ?_ ?_ (by omega) (λ_=>Ret.yes trivial)) (fb.trans sJ.symm)
 ·intro rec i y;simp only[Q133.s0];rw[decide_eq_true (by omega:(i:Int)<(BG t:Int)),af y,ar i (by omega)];simp only[cond_true,BH];obtain⟨b,H,u⟩:=ma K t[i];rw[H];simp only[BH];cases b with
  |false=>exact .inr ⟨λ⟨_,r,_⟩=>by simpa using u.2 r,rfl⟩
  |true =>
   simp only[BK,cond_false];by_cases z:(i:Int)>0
   ·rw[decide_eq_true z,eX i (by omega) (by omega),af (by omega:i-1<t.length)];simp only[cond_true,BH];by_cases r:t[i].1<=(t[i-1]'(by omega)).1
    ·rw[decide_eq_true r];exact .inr ⟨λ⟨_,_,I⟩=>by have:=I (by omega);omega,rfl⟩
    ·rw[decide_eq_false r];exact .inl ⟨⟨y,u.1 rfl,λ_=>by omega⟩,rfl⟩
   ·rw[decide_eq_false z];exact .inl ⟨⟨y,u.1 rfl,λ_=>by omega⟩,rfl⟩
 ·intro rec;simp only[Q133.s0];rw[decide_eq_false (by omega:¬ ((t.length:Int)<(BG t:Int)))];rfl
inductive vI (t:List ag) (node:Int):Option Nat->Prop where
 |at_ (i:Nat) (h:i<t.length) (e:t[i].1=node):vI t node (some i)
 |no (h:∀ f∈t,f.1≠node):vI t node none
theorem fw (K:Nat)(t:List ag)(r:Int)(M:t.length<=1048576)(J:1048577<K) :
  ∃ o,vI t r o/\Q44.f K (t,r,())=some (((match o with|some i=>((i:Nat):Int)|none=>-1),()),()):=by
 have:=ch (step:=λrec a=>Q44.s0 K (t,r,()) rec a) t.length (λi=>(i:Int)) (λj=>∃ h:j<t.length,t[j].1=r) (some ((-1,()),())) (λj=>some ((((j:Nat):Int),()),())) ?_ ?_ t.length K 0 (by omega) (by omega)
 ·rcases this with ⟨y,z⟩|⟨j,_,y,⟨H,I⟩,_,z⟩
  ·refine⟨none,.no ?_,z⟩;rw[dA];exact λi u e=>y i (BO _) u ⟨u,e⟩
  ·exact⟨some j,.at_ j H I,z⟩
 ·intro rec i u;simp only[Q44.s0];rw[decide_eq_true (by omega:(i:Int)<(BG t:Int)),af u,ar i (by omega)];simp only[cond_true,BH];by_cases h:t[i].1=r
  ·right;refine⟨⟨u,h⟩,?_⟩;have:(t[i].1==r)=true:=by simpa using h
   rw[this];rfl
  ·left;refine⟨λ⟨_,y⟩=>h y,?_⟩;have:(t[i].1==r)=false:=by simpa using h
   rw[this];rfl
 ·intro rec;simp only[Q44.s0];rw[decide_eq_false (by omega:¬ ((t.length:Int)<(BG t:Int)))];rfl
def fy (a b:Int):Int:=if a<b then -1 else if a>b then 1 else 0
theorem nM (K:Nat)(a b:Int):Q136.f K (a,b,())=some ((fy a b,()),()):=by
 have y:∀ x:Int,Q135.f K (x,())=rb false:=λx=>by simp[Q135.f]
 simp only[Q136.f,y,BH,cond_false,fy];by_cases r:a<b
 ·rw[decide_eq_true r,if_pos r];rfl
 ·rw[decide_eq_false r,if_neg r];by_cases u:a>b
  ·rw[decide_eq_true u,if_pos u];rfl
  ·rw[decide_eq_false u,if_neg u];rfl
theorem sK (a b:Int):fy a b<0<->a<b:=by
 unfold fy;by_cases r:a<b
 ·simp[r]
 ·by_cases u:a>b <;> simp[r,u]
theorem uR (a b:Int):fy a b>0<->a>b:=by
 unfold fy;by_cases r:a<b
 ·simp[r];omega
 ·by_cases u:a>b <;> simp[r,u]
theorem ik (a b:Int):fy a b=0<->a=b:=by
 unfold fy;by_cases r:a<b
 ·simp[r];omega
 ·by_cases u:a>b <;> simp[r,u] <;> omega
structure Cut (t:List ag) (node:Int) (m:Nat):Prop where
 le:m<=t.length
 lo:∀ i,(h:i<t.length)->i<m->t[i].1<node
 hi:∀ i,(h:i<t.length)->m<=i->node<=t[i].1
theorem sL (K:Nat)(t:List ag)(r:Int)(ht:t.length<=1048576)(J:Asc (λf:ag=>f.1) t)(hK:1048577<K) :
  ∃ m,Cut t r m/\Q138.f K (t,r,())=some ((((m:Nat):Int),decide (∃ h:m<t.length,t[m].1=r),()),()):=by
 let ks:Nat->Int:=λi=>if h:i<t.length then t[i].1 else 0
 have u:∀ i (h:i<t.length),ks i=t[i].1:=λi h=>by simp[ks,h]
 let H:Nat->Option ((Int×Bool×Unit)×Unit):=λm=>some ((((m:Nat):Int),decide (∃ h:m<t.length,t[m].1=r),()),())
 have Y:∀ f:ag,((Q137.f K (f,r,())).map λy=>y.1.1)=some (fy f.1 r):=λf=>by
  simp only[Q137.f];rw[nM];rfl
 have:=wZ (step:=λrec a=>Q134.s0 K (t,r,(λM=>(Q137.f K (M.1,M.2.1,())).map λy=>y.1.1),()) rec a) (ks:=ks) (n:=t.length) (t:=r) H ht
  (λi j O X=>by
   rw[u i (by omega),u j X];exact dl.1 J i j (by omega) X O) ?_ ?_ t.length K 0 t.length (by omega) (BO _) (B3 _) (by omega) (λi I=>by omega) (λi I hn=>by omega)
 ·obtain⟨m,z,R,h3,h4⟩:=this;refine⟨m,⟨z,λi h I=>by rw[<- u i h];exact R i I,λi h I=>by rw[<- u i h];exact h3 i I h⟩,?_⟩;simp only[Q138.f];have e:Q134.f K (t,r,(λM=>(Q137.f K (M.1,M.2.1,())).map λy=>y.1.1),())=H m:=h4;rw[e];rfl
 ·intro rec a b a0 hb;have Z:(a+b) / 2<t.length:=by omega
  simp only[Q134.s0];rw[decide_eq_true (by omega:(a:Int)<(b:Int)),uQ (by omega)];simp only[cond_true];rw[af Z];simp only[BH,Y];rw[u _ Z,ar _ (by omega)];by_cases h:t[(a+b) / 2].1<r
  ·rw[if_pos h,decide_eq_true ((sK _ _).2 h)];rfl
  ·rw[if_neg h,decide_eq_false (λz=>h ((sK _ _).1 z))];rfl
 ·intro rec a ha;simp only[Q134.s0];rw[decide_eq_false (by omega)];simp only[cond_false];by_cases h:a<t.length
  ·rw[decide_eq_true (by omega:(a:Int)<(BG t:Int)),af h];simp only[cond_true,BH,Y,H];congr 3;by_cases z:t[a].1=r
   ·have:(fy t[a].1 r==0)=true:=by simpa using (ik t[a].1 r).2 z
    rw[this,decide_eq_true ⟨h,z⟩]
   ·have:(fy t[a].1 r==0)=false:=by
     rw[beq_eq_false_iff_ne];exact λe=>z ((ik _ _).1 e)
    rw[this,decide_eq_false (λ⟨_,R⟩=>z R)]
  ·rw[decide_eq_false (by omega)];simp only[cond_false,H];rw[decide_eq_false (λ⟨z,_⟩=>h z)]
def ao (n:Int):Int:=wr .i64 (Int.tdiv n 4)
theorem eG (K:Nat)(n:Int):Q41.f K (n,())=some ((ao n,()),()):=rfl
theorem w8 (K:Nat)(n:Int):Q181.f K (n,())=some ((ao n,()),()):=rfl
theorem nN (K:Nat)(n:aa):Q182.f K (n,())=some ((ao n.1,()),()):=rfl
abbrev aa.table (n:aa):List ag:=n.2.2.2.2.2.2.2.2.1
abbrev aa.cast (n:aa):List aM:=n.2.2.2.2.2.2.2.2.2.1
abbrev aa.probe (n:aa):ag:=n.2.2.2.2.2.2.2.2.2.2.1
abbrev aa.doubts (n:aa):List bM:=n.2.2.2.2.2.2.2.2.2.2.2.1
abbrev aa.coord (n:aa):du:=n.2.2.2.2.2.2.2.2.2.2.2.2.1
abbrev aa.places (n:aa):List dF:=n.2.2.2.2.2.2.2.2.2.2.2.2.2.1
abbrev aa.others (n:aa):List cR:=n.2.2.2.2.2.2.2.2.2.2.2.2.2.2
structure NB (n:aa):Prop where
 table:(aa.table n).length<=1048576
 cast:(aa.cast n).length<=1048576
 doubts:(aa.doubts n).length<=1048576
 by_:∀ d∈aa.doubts n,d.2.2.2.length<=1048576
 places:(aa.places n).length<=1048576
 trips:∀ p∈aa.places n,p.2.2.length<=1048576
 others:(aa.others n).length<=1048576
 facts:∀ x∈aa.others n,x.2.length<=1048576
def ce (t:List ag)(s:Int):Prop:=∀ f∈t,ao f.1=s
theorem gr (K:Nat)(t:List ag)(s:Int)(y:t.length<=1048576)(u:1048577<K):Ret (Q31.f K (t,s,())) (ce t s):=by
 refine (gp t (step:=λrec a=>Q31.s0 K (t,s,()) rec a) (λi r=>¬ ao t[i].1≠s) y ?_ ?_ u (λ_=>Ret.yes trivial)).iff (fb.trans ?_)
 ·intro rec i r;simp only[Q31.s0];rw[decide_eq_true (by omega:(i:Int)<(BG t:Int))];exact Rnd.ix (af r) ((Rnd.cndN (P:=ao t[i].1≠s) (by simp[ao]) (λ_=>Rnd.end_)).iff (by simp))
 ·intro rec;simp only[Q31.s0];rw[decide_eq_false (by omega:¬ ((t.length:Int)<(BG t:Int)))];rfl
 ·rw[ce,dA];exact⟨λh i r=>BJ.1 (h i r),λh i r=>BJ.2 (h i r)⟩
theorem xa (K:Nat)(t:List ag)(y:ag×Unit->Option Bool)(p:ag->Prop)(X:t.length<=1048576)(R:1048577<K)(hφ:∀ f∈t,∃ b,y (f,())=some b/\(b=true<->p f)) :
  Ret (Q196.f K (t,y,())) (∃ f∈t,p f):=by
 have:=ch (step:=λrec a=>Q195.s0 K (t,y,()) rec a) t.length (λi=>(i:Int)) (λj=>∃ h:j<t.length,p t[j]) (some ((-1,()),())) (λj=>some ((((j:Nat):Int),()),())) ?_ ?_ t.length K 0 (by omega) (by omega)
 ·simp only[Q196.f];rcases this with ⟨z,r⟩|⟨j,_,z,⟨H,M⟩,_,r⟩
  ·have e:Q195.f K (t,y,())=some ((-1,()),()):=r;rw[e];refine Ret.of ?_;simp only[ge_iff_le,decide_eq_true_eq];refine⟨λh=>absurd h (by decide),λ⟨f,J,I⟩=>?_⟩;obtain⟨i,u,O⟩:=BM J;exact absurd ⟨u,O ▸ I⟩ (z i (BO _) u)
  ·have e:Q195.f K (t,y,())=some ((((j:Nat):Int),()),()):=r;rw[e];refine Ret.of ?_;simp only[ge_iff_le,decide_eq_true_eq];exact⟨λ_=>⟨t[j],BI H,M⟩,λ_=>BP j⟩
 ·intro rec i u;simp only[Q195.s0];rw[decide_eq_true (by omega:(i:Int)<(BG t:Int)),af u,ar i (by omega)];simp only[cond_true,BH];obtain⟨b,z,r⟩:=hφ t[i] (BI u);rw[z];simp only[BH];cases b with
  |true=>exact .inr ⟨⟨u,r.1 rfl⟩,rfl⟩
  |false=>exact .inl ⟨λ⟨_,h⟩=>by simpa using r.2 h,rfl⟩
 ·intro rec;simp only[Q195.s0];rw[decide_eq_false (by omega:¬ ((t.length:Int)<(BG t:Int)))];rfl
theorem qY (K:Nat)(t:List aM)(y:aM×Unit->Option Bool)(p:aM->Prop)(X:t.length<=1048576)(R:1048577<K)(hφ:∀ f∈t,∃ b,y (f,())=some b/\(b=true<->p f)) :
  Ret (Q144.f K (t,y,())) (∃ f∈t,p f):=by
 have:=ch (step:=λrec a=>Q143.s0 K (t,y,()) rec a) t.length (λi=>(i:Int)) (λj=>∃ h:j<t.length,p t[j]) (some ((-1,()),())) (λj=>some ((((j:Nat):Int),()),())) ?_ ?_ t.length K 0 (by omega) (by omega)
 ·simp only[Q144.f];rcases this with ⟨z,r⟩|⟨j,_,z,⟨H,M⟩,_,r⟩
  ·have e:Q143.f K (t,y,())=some ((-1,()),()):=r;rw[e];refine Ret.of ?_;simp only[ge_iff_le,decide_eq_true_eq];refine⟨λh=>absurd h (by decide),λ⟨f,J,I⟩=>?_⟩;obtain⟨i,u,O⟩:=BM J;exact absurd ⟨u,O ▸ I⟩ (z i (BO _) u)
  ·have e:Q143.f K (t,y,())=some ((((j:Nat):Int),()),()):=r;rw[e];refine Ret.of ?_;simp only[ge_iff_le,decide_eq_true_eq];exact⟨λ_=>⟨t[j],BI H,M⟩,λ_=>BP j⟩
 ·intro rec i u;simp only[Q143.s0];rw[decide_eq_true (by omega:(i:Int)<(BG t:Int)),af u,ar i (by omega)];simp only[cond_true,BH];obtain⟨b,z,r⟩:=hφ t[i] (BI u);rw[z];simp only[BH];cases b with
  |true=>exact .inr ⟨⟨u,r.1 rfl⟩,rfl⟩
  |false=>exact .inl ⟨λ⟨_,h⟩=>by simpa using r.2 h,rfl⟩
 ·intro rec;simp only[Q143.s0];rw[decide_eq_false (by omega:¬ ((t.length:Int)<(BG t:Int)))];rfl
theorem yy (K:Nat)(t:List Int)(y:Int×Unit->Option Bool)(p:Int->Prop)(X:t.length<=1048576)(R:1048577<K)(hφ:∀ f∈t,∃ b,y (f,())=some b/\(b=true<->p f)) :
  Ret (Q209.f K (t,y,())) (∃ f∈t,p f):=by
 have:=ch (step:=λrec a=>Q208.s0 K (t,y,()) rec a) t.length (λi=>(i:Int)) (λj=>∃ h:j<t.length,p t[j]) (some ((-1,()),())) (λj=>some ((((j:Nat):Int),()),())) ?_ ?_ t.length K 0 (by omega) (by omega)
 ·simp only[Q209.f];rcases this with ⟨z,r⟩|⟨j,_,z,⟨H,M⟩,_,r⟩
  ·have e:Q208.f K (t,y,())=some ((-1,()),()):=r;rw[e];refine Ret.of ?_;simp only[ge_iff_le,decide_eq_true_eq];refine⟨λh=>absurd h (by decide),λ⟨f,J,I⟩=>?_⟩;obtain⟨i,u,O⟩:=BM J;exact absurd ⟨u,O ▸ I⟩ (z i (BO _) u)
  ·have e:Q208.f K (t,y,())=some ((((j:Nat):Int),()),()):=r;rw[e];refine Ret.of ?_;simp only[ge_iff_le,decide_eq_true_eq];exact⟨λ_=>⟨t[j],BI H,M⟩,λ_=>BP j⟩
 ·intro rec i u;simp only[Q208.s0];rw[decide_eq_true (by omega:(i:Int)<(BG t:Int)),af u,ar i (by omega)];simp only[cond_true,BH];obtain⟨b,z,r⟩:=hφ t[i] (BI u);rw[z];simp only[BH];cases b with
  |true=>exact .inr ⟨⟨u,r.1 rfl⟩,rfl⟩
  |false=>exact .inl ⟨λ⟨_,h⟩=>by simpa using r.2 h,rfl⟩
 ·intro rec;simp only[Q208.s0];rw[decide_eq_false (by omega:¬ ((t.length:Int)<(BG t:Int)))];rfl
theorem Ret.fn {o:Option RB}{P:Prop}(h:Ret o P):∃ b,(o.map λy=>y.1.1)=some b/\(b=true<->P):=by
 obtain⟨b,r,u⟩:=h;exact⟨b,by rw[r];rfl,u⟩
theorem oU (K:Nat)(t:List ag)(s:Int)(I:t.length<=1048576)(z:1048577<K):Ret (Q198.f K (t,s,())) (ce t s):=by
 refine (Ret.neg (xa K t (λH=>(Q197.f K (H.1,s,())).map λy=>y.1.1) (λf=>ao f.1≠s) I z (λf _=>?_))).iff ?_
 ·exact⟨_,rfl,by simp[ao]⟩
 ·exact⟨λh f r=>BJ.1 λu=>h ⟨f,r,u⟩,λh ⟨f,r,u⟩=>u (h f r)⟩
theorem jD (K:Nat)(t:List ag)(r:Int)(O:t.length<=1048576)(H:1048577<K) :
  (¬ az t/\Q139.f K (t,r,())=some (((0,(0,(0,false))),false,()),())) \/
  (az t/\((∃ f∈t,f.1=r/\Q139.f K (t,r,())=some ((f,true,()),()))\/((∀ f∈t,f.1≠r)/\Q139.f K (t,r,())=some (((0,(0,(0,false))),false,()),())))):=by
 simp only[Q139.f];obtain⟨b,R,M⟩:=jC K t O H;rw[R];simp only[BH];cases b with
 |false=>exact .inl ⟨λh=>by simpa using M.2 h,rfl⟩
 |true =>
  have y:=M.1 rfl;obtain⟨m,I,X⟩:=sL K t r O y.2 H;refine .inr ⟨y,?_⟩;simp only[BK,cond_false,X,BH];by_cases h:∃ h:m<t.length,t[m].1=r
  ·rw[decide_eq_true h];obtain⟨u,J⟩:=h;left;refine⟨t[m],BI u,J,?_⟩;simp only[BK,cond_false];rw[af u];rfl
  ·rw[decide_eq_false h];right;refine⟨?_,rfl⟩;rw[dA];intro i z e;rcases Nat.lt_trichotomy i m with u|u|u
   ·have:=I.lo i z u;omega
   ·subst u;exact h ⟨z,e⟩
   ·have J:=I.hi m (by omega) (B3 _);have Y:=dl.1 y.2 m i (by omega) z u;omega
def bQ (f g:ag):Prop:=if f.2.1≠g.2.1 then f.2.1>g.2.1 else if f.2.2.1≠g.2.2.1 then f.2.2.1>g.2.2.1 else f.2.2.2=true/\g.2.2.2=false
theorem sM (K:Nat)(f g:ag):Ret (Q45.f K (f,g,())) (bQ f g):=by
 simp only[Q45.f,bQ];by_cases r:f.2.1=g.2.1
 ·have e:(f.2.1 != g.2.1)=false:=by simpa using r
  rw[e,if_neg (by simpa using r)];by_cases u:f.2.2.1=g.2.2.1
  ·have e:(f.2.2.1 != g.2.2.1)=false:=by simpa using u
   rw[e,if_neg (by simpa using u)];exact (Ret.cnd (b:=f.2.2.2) Iff.rfl (λ_=>Ret.of (b:=!g.2.2.2) (by simp))).iff Iff.rfl
  ·have e:(f.2.2.1 != g.2.2.1)=true:=by simpa using u
   rw[e,if_pos u];exact Ret.dec
 ·have e:(f.2.1 != g.2.1)=true:=by simpa using r
  rw[e,if_pos r];exact Ret.dec
def orI:List Int->Int
 |[]=>0
 |x::r=>if x≠0 then x else orI r
theorem AU (K:Nat)(xs:List Int)(M:xs.length<=1048576)(J:1048577<K):Q140.f K (xs,())=some ((orI xs,()),()):=by
 have y:∀ (d k i:Nat),i+d=xs.length->d<k->ae (λrec a=>Q140.s0 K (xs,()) rec a) k (i:Int)=some ((orI (xs.drop i),()),()):=by
  intro d;induction d with
  |zero =>
   intro k i I H;obtain⟨k,rfl⟩:∃ u,k=u+1:=⟨k-1,by omega⟩;show Q140.s0 K (xs,()) _ _=_;simp only[Q140.s0];rw[decide_eq_false (by omega:¬ ((i:Int)<(BG xs:Int))),BT (by omega)];rfl
  |succ d z =>
   intro k i I H;obtain⟨k,rfl⟩:∃ u,k=u+1:=⟨k-1,by omega⟩;have z:=z k (i+1) (by omega) (by omega);show Q140.s0 K (xs,()) _ _=_;simp only[Q140.s0];have r:i<xs.length:=by omega
   rw[decide_eq_true (by omega:(i:Int)<(BG xs:Int)),af r,ar i (by omega),BQ r];simp only[cond_true,BH,orI];by_cases h:xs[i]=0
   ·have e:(xs[i] != 0)=false:=by simpa using h
    rw[e,if_neg (by simpa using h)];exact z
   ·have e:(xs[i] != 0)=true:=by simpa using h
    rw[e,if_pos h];rfl
 have:=y xs.length K 0 (by omega) (by omega)
 rwa [B5]at this
def cmpF (f g:ag):Int:=orI [fy f.1 g.1,fy f.2.1 g.2.1,fy f.2.2.1 g.2.2.1,if f.2.2.2=true/\g.2.2.2=false then 1 else if g.2.2.2=true/\f.2.2.2=false then -1 else 0]
theorem mM (K:Nat)(f g:ag)(I:1048577<K):Q141.f K (f,g,())=some ((cmpF f g,()),()):=by
 obtain⟨a,b,c,d⟩:=f;obtain⟨y,u,r,H⟩:=g;have h:∀ z:Int,Q140.f K ([fy a y,fy b u,fy c r,z],())=some ((orI [fy a y,fy b u,fy c r,z],()),()):=λz=>AU K _ (by simp) I
 simp only[Q141.f,cmpF];cases d <;> cases H <;> simp only[BK,BW,cond_true,cond_false] <;> rw[nM,BH,nM,BH,nM,BH,h] <;> rfl
theorem oV {x:Int}(h:x=0)(xs:List Int):orI (x::xs)=orI xs:=by subst h;rfl
theorem uS {x:Int}(h:x≠0)(xs:List Int):orI (x::xs)=x:=by simp[orI,h]
theorem jE {f g:ag}(e:f.1=g.1):cmpF f g>0<->bQ f g:=by
 unfold cmpF bQ;rw[oV ((ik f.1 g.1).2 e)];by_cases r:f.2.1=g.2.1
 ·rw[oV ((ik f.2.1 g.2.1).2 r),if_neg (show ¬ f.2.1≠g.2.1 from λh=>h r)];by_cases u:f.2.2.1=g.2.2.1
  ·rw[oV ((ik f.2.2.1 g.2.2.1).2 u),if_neg (show ¬ f.2.2.1≠g.2.2.1 from λh=>h u)];cases f.2.2.2 <;> cases g.2.2.2 <;> simp[orI]
  ·rw[uS (λh=>u ((ik f.2.2.1 g.2.2.1).1 h)),if_pos (show f.2.2.1≠g.2.2.1 from u)];exact uR _ _
 ·rw[uS (λh=>r ((ik f.2.1 g.2.1).1 h)),if_pos (show f.2.1≠g.2.1 from r)];exact uR _ _
theorem vJ (K:Nat)(f g:ag)(r:1048577<K):Ret (Q199.f K (f,g,())) (bz f/\bz g/\f.1=g.1/\bQ f g):=by
 refine Ret.and (ma K f) (λ_=>Ret.and (ma K g) (λ_=>?_) rfl) rfl;refine (Ret.cnd (b:=f.1==g.1) (P:=f.1=g.1) (by simp) (λe=>?_)).iff Iff.rfl;show Ret ((Q141.f K (f,g,())).bind _) _;rw[mM K f g r];refine Ret.of ?_;simp only[gt_iff_lt,decide_eq_true_eq];exact jE e
theorem bi {n:Nat}{m:Int}(h:(n:Int)<m):decide ((n:Int)<m)=true:=decide_eq_true h
theorem aR (n:Nat):decide ((n:Int)<(n:Int))=false:=decide_eq_false (by omega)
def cO (l:List aM):Prop:=(∀ x∈l,bz x.1/\InP x.2 1 4)/\Asc (λx:aM=>x.1.1) l
theorem yz (K:Nat)(l:List aM)(z:l.length<=1048576)(y:1048577<K):Ret (Q218.f K (l,())) (cO l):=by
 refine (gp l (step:=λrec a=>Q218.s0 K (l,()) rec a) (λi r=>bz l[i].1/\InP l[i].2 1 4/\(0<i->¬ (l[i-1]'(by omega)).1.1>=l[i].1.1)/\True) z ?_ ?_ y (λ_=>Ret.yes trivial)).iff (fb.trans ?_)
 ·intro rec i r;simp only[Q218.s0];rw[decide_eq_true (by omega:(i:Int)<(BG l:Int))];simp only[cond_true];refine Rnd.ix (af r) (Rnd.nx (oT K _) λ_=>Rnd.ix (af r) (Rnd.nx (cC K _ 1 4) λ_=>Rnd.two (λu=>?_) Rnd.end_));rw[eX i u (by omega)];exact Rnd.ix (af (by omega)) (Rnd.ix (af r) (Rnd.cndN (by simp) λ_=>Rnd.end_))
 ·intro rec;simp only[Q218.s0,aR];rfl
 ·rw[cO,dA,gK];constructor
  ·intro h;exact⟨λi r=>⟨(h i r).1,(h i r).2.1⟩,λi r u=>by have:=(h i r).2.2.1 u;omega⟩
  ·rintro⟨h1,h2⟩ i r;exact⟨(h1 i r).1,(h1 i r).2,λu=>by have:=h2 i r u;omega,trivial⟩
theorem uT (K:Nat)(l:List aM)(O:l.length<=1048576)(M:1048577<K):Q146.f K (l,())=some ((l.map (·.1),()),()):=by
 have z:∀ (d k i:Nat),i+d=l.length->d<k->ae (λrec a=>Q146.s0 K (l,()) rec a) k ((l.take i).map (·.1),(i:Int))=some ((l.map (·.1),()),()):=by
  intro d;induction d with
  |zero =>
   intro k i J H;obtain⟨k,rfl⟩:∃ u,k=u+1:=⟨k-1,by omega⟩;show Q146.s0 K (l,()) _ _=_;simp only[Q146.s0];rw[decide_eq_false (by omega:¬ ((i:Int)<(BG l:Int))),BU (by omega)];rfl
  |succ d y =>
   intro k i J H;obtain⟨k,rfl⟩:∃ u,k=u+1:=⟨k-1,by omega⟩;have y:=y k (i+1) (by omega) (by omega);show Q146.s0 K (l,()) _ _=_;have r:i<l.length:=by omega
   simp only[Q146.s0];rw[decide_eq_true (by omega:(i:Int)<(BG l:Int)),af r,ar i (by omega)];simp only[cond_true,BH];have I:decide ((BG (List.map (λx:aM=>x.1) (List.take i l))+BG [l[i].1])*32<=ak)=true:=decide_eq_true (by simp only[ak,List.length_map,List.length_take,BV];omega);rw[I];have e:(List.take i l).map (λx:aM=>x.1)++[l[i].1]=(l.take (i+1)).map (·.1):=by
    rw[BY,BL r,List.map_append];rfl
   rw[e];exact y
 have:=z l.length K 0 (by omega) (by omega);exact this
theorem vK {l:List aM}:az (l.map (·.1))<->(∀ x∈l,bz x.1)/\Asc (λx:aM=>x.1.1) l:=by
 unfold az Asc;rw[BR];simp
theorem xb (K:Nat)(x:aM):Ret (Q145.f K (x,())) (¬ InP x.2 1 4):=by
 simp only[Q145.f];exact (fu K x.2 1 4).neg
theorem yA (K:Nat)(l:List aM)(u:l.length<=1048576)(r:1048577<K):Ret (Q144.f K (l,(λz=>(Q145.f K (z.1,())).map λy=>y.1.1),())) (∃ x∈l,¬ InP x.2 1 4) :=
 qY K l _ (λx=>¬ InP x.2 1 4) u r (λx _=>Ret.fn (xb K x))
theorem oW (K:Nat)(l:List aM)(y:l.length<=1048576)(u:1048577<K):Ret (Q147.f K (l,())) (cO l):=by
 simp only[Q147.f];obtain⟨H,I,O⟩:=yA K l y u;obtain⟨z,J,M⟩:=jC K (l.map (·.1)) (by simpa using y) u;rw[uT K l y u,BH,J,BH,I,BH];have e:cO l<->(z=true/\H=false):=by
  rw[M,vK,cO,<- Bool.not_eq_true,O];constructor
  ·rintro⟨h5,h6⟩;exact⟨⟨λx r=>(h5 x r).1,h6⟩,λ⟨x,r,h⟩=>h (h5 x r).2⟩
  ·rintro⟨⟨h5,h6⟩,h7⟩;exact⟨λx r=>⟨h5 x r,BJ.1 λh=>h7 ⟨x,r,h⟩⟩,h6⟩
 refine Ret.iff ?_ e.symm;cases z <;> cases H <;> exact⟨_,rfl,by simp⟩
def gW (t:List ag)(l:List aM):Prop:=∀ x∈l,∃ f∈t,f.1=x.1.1/\¬ bQ x.1 f
theorem il {t:List ag}(h:Asc (λf:ag=>f.1) t){f g:ag}(r:f∈t)(z:g∈t)(e:f.1=g.1):f=g:=by
 obtain⟨i,y,rfl⟩:=BM r;obtain⟨j,u,rfl⟩:=BM z;have:=oR h y u e;subst this;rfl
theorem uh (K:Nat)(n:aa)(u:NB n)(J:az (aa.table n))(y:1048577<K):Ret (Q219.f K (n,())) (cO (aa.cast n)/\gW (aa.table n) (aa.cast n)):=by
 refine Ret.nx (yz K _ u.cast y) λ_=>?_
 refine (gp (aa.cast n) (step:=λrec a=>Q219.s0 K (n,()) rec a) (λi z=>∃ f∈aa.table n,f.1=(aa.cast n)[i].1.1/\¬ bQ (aa.cast n)[i].1 f) u.cast ?_ ?_ y (λ_=>Ret.yes trivial)).iff (fb.trans ?_)
 ·intro rec i z;simp only[Q219.s0];rw[decide_eq_true (by omega:(i:Int)<(BG (aa.cast n):Int))];simp only[cond_true];refine Rnd.ix (af z) ?_;obtain⟨o,O,I⟩:=fw K (aa.table n) (aa.cast n)[i].1.1 u.table y;refine Rnd.vl I ?_;cases O with
  |no h =>
   rw[show decide ((-1:Int)<0)=true from rfl];exact .inr ⟨λ⟨f,H,e,_⟩=>h f H e,rfl⟩
  |at_ j r e =>
   simp only;rw[decide_eq_false (by omega:¬ ((j:Int)<0))];refine (Rnd.ix (af z) (Rnd.ix (af r) (Rnd.fx (sM K _ _) λ_=>Rnd.end_))).iff ⟨λh=>⟨_,BI r,e,h.1⟩,λ⟨f,H,M,h⟩=>⟨?_,trivial⟩⟩;have:=il J.2 H (BI r) (M.trans e.symm)
   rwa [<- this]
 ·intro rec;simp only[Q219.s0,aR];rfl
 ·rw[gW,dA]
theorem yB (K:Nat)(n:aa)(O:NB n)(M:az (aa.table n))(R:cO (aa.cast n))(I:1048577<K) :
  Ret ((Q144.f K (aa.cast n,(λy5=>(Q200.f K (y5.1,n,())).map λy=>y.1.1),())).bind λX=>some ((!X.1.1,()),())) (gW (aa.table n) (aa.cast n)):=by
 refine (Ret.neg (qY K _ _ (λx=>¬ ∃ f∈aa.table n,f.1=x.1.1/\¬ bQ x.1 f) O.cast I (λx H=>Ret.fn ?_))).iff ?_
 ·simp only[Q200.f];rcases jD K (aa.table n) x.1.1 O.table I with ⟨r,_⟩|⟨_,⟨f,z,e,r⟩|⟨u,r⟩⟩
  ·exact absurd M r
  ·refine Ret.vl r ?_;refine (vJ K x.1 f I).id.iff ⟨λh ⟨g,Y,Z,J⟩=>?_,λh=>?_⟩
   ·have:=il M.2 Y z (Z.trans e.symm);exact J (this ▸ h.2.2.2)
   ·refine⟨(R.1 x H).1,M.1 f z,e.symm,BJ.1 λJ=>h ⟨f,z,e,J⟩⟩
  ·refine Ret.vl r ?_;exact Ret.yes (λ⟨f,z,e,_⟩=>u f z e)
 ·exact⟨λh x H=>BJ.1 λu=>h ⟨x,H,u⟩,λh ⟨x,H,u⟩=>u (h x H)⟩
def db (n:aa):Prop:=((n.1,n.2.2.2.2.1,(if n.2.2.1=true then 4 else 1),n.2.2.2.1):ag)∈aa.table n
theorem AV (K:Nat)(n:aa)(z:NB n)(I:az (aa.table n))(H:1048577<K):Ret (Q217.f K (n,())) (db n):=by
 simp only[Q217.f];obtain⟨o,M,y⟩:=fw K (aa.table n) n.1 z.table H;refine Ret.vl y ?_;cases M with
 |no h =>
  rw[show decide ((-1:Int)<0)=true from rfl];exact Ret.no (λJ=>h _ J rfl)
 |at_ j u e =>
  simp only;rw[decide_eq_false (by omega:¬ ((j:Int)<0))];refine Ret.vl (af u) ?_;have r:db n<->(aa.table n)[j]=((n.1,n.2.2.2.2.1,(if n.2.2.1=true then 4 else 1),n.2.2.2.1):ag):=by
   constructor
   ·intro h;exact il I.2 (BI u) h e
   ·intro h;show _∈_;rw[<- h];exact BI u
  have O:(aa.table n)[j]=((n.1,n.2.2.2.2.1,(if n.2.2.1=true then 4 else 1),n.2.2.2.1):ag)<->((aa.table n)[j].2.1=n.2.2.2.2.1/\(aa.table n)[j].2.2.1=(if n.2.2.1=true then 4 else 1)/\(aa.table n)[j].2.2.2=n.2.2.2.1):=by
   generalize (aa.table n)[j]=f at e ⊢;obtain⟨a,b,c,d⟩:=f;simp at e ⊢;intro _ _ _;exact e
  refine Ret.iff ?_ (r.trans O).symm;cases R:n.2.2.1 with
  |true=>exact Ret.cnd (by simp) λ_=>Ret.cnd (by simp) λ_=>Ret.of (by simp)
  |false=>exact Ret.cnd (by simp) λ_=>Ret.cnd (by simp) λ_=>Ret.of (by simp)
theorem jF (f g:ag):Ty.eqv ty_impl_Fact_D f g=decide (f=g):=by
 obtain⟨a,b,c,d⟩:=f;obtain⟨z,y,u,r⟩:=g;show (decide (a=z)&&(decide (b=y)&&(decide (c=u)&&(d==r))))=_;cases d <;> cases r <;> simp[BX]
theorem pC (f g:du):Ty.eqv ty_impl_Coord_D f g=decide (f=g):=by
 obtain⟨a,b,c,d⟩:=f;obtain⟨z,y,u,r⟩:=g;show (decide (a=z)&&(decide (b=y)&&(decide (c=u)&&decide (d=r))))=_;simp[BX]
theorem qt (K:Nat)(n:aa)(I:NB n)(J:1048577<K):Ret (Q201.f K (n,()))
  (az (aa.table n)/\ce (aa.table n) (ao n.1)/\db n/\cO (aa.cast n)/\gW (aa.table n) (aa.cast n)):=by
 have H:∀ (w:Int),az (aa.table n)->Ret ((Q182.f K (n,())).bind λY=>(Q198.f K (aa.table n,Y.1.1,())).bind λZ=>bif !Z.1.1 then rb false else
   ((Q147.f K (aa.cast n,())).bind λR=>bif !R.1.1 then rb false else
    ((Q144.f K (aa.cast n,(λy5=>(Q200.f K (y5.1,n,())).map λy=>y.1.1),())).bind λO=>some ((!O.1.1,()),()))))
   (ce (aa.table n) (ao n.1)/\cO (aa.cast n)/\gW (aa.table n) (aa.cast n)):=by
  intro _ z;exact Ret.vl (nN K n) (Ret.nx (oU K _ _ I.table J) λ_=>Ret.nx (oW K _ I.cast J) λhC=>yB K n I z hC J)
 have r:∀ (w:Int),w=(if n.2.2.1=true then 4 else 1)->Ret ((Q139.f K (aa.table n,n.1,())).bind λy1=>bif !y1.1.2.1 then rb false else bif !Ty.eqv ty_impl_Fact_D y1.1.1 (n.1,(n.2.2.2.2.1,(w,n.2.2.2.1))) then rb false else
   ((Q182.f K (n,())).bind λY=>(Q198.f K (aa.table n,Y.1.1,())).bind λZ=>bif !Z.1.1 then rb false else
   ((Q147.f K (aa.cast n,())).bind λR=>bif !R.1.1 then rb false else
    ((Q144.f K (aa.cast n,(λy5=>(Q200.f K (y5.1,n,())).map λy=>y.1.1),())).bind λO=>some ((!O.1.1,()),())))))
   (az (aa.table n)/\ce (aa.table n) (ao n.1)/\db n/\cO (aa.cast n)/\gW (aa.table n) (aa.cast n)):=by
  intro w hw;rcases jD K (aa.table n) n.1 I.table J with ⟨u,X⟩|⟨z,⟨f,hf,e,u⟩|⟨X,u⟩⟩
  ·exact Ret.vl X (Ret.no (λh=>u h.1))
  ·refine Ret.vl u ?_;simp only[BK,cond_false];rw[jF];by_cases M:f=(n.1,(n.2.2.2.2.1,(w,n.2.2.2.1)))
   ·rw[decide_eq_true M];have hS:db n:=by
     show _∈_;rw[<- hw,<- M];exact hf
    exact (H w z).iff ⟨λh=>⟨z,h.1,hS,h.2.1,h.2.2⟩,λh=>⟨h.2.1,h.2.2.2⟩⟩
   ·rw[decide_eq_false M];refine Ret.no (λh=>M ?_);have:=il z.2 hf h.2.2.1 e;rw[this,hw]
  ·refine Ret.vl u (Ret.no (λh=>X _ h.2.2.1 rfl))
 simp only[Q201.f];cases hg:n.2.2.1 with
 |true=>exact r 4 (by rw[hg];rfl)
 |false=>exact r 1 (by rw[hg];rfl)
def cU (n:aa):Prop:=if (aa.probe n).1=-1 then aa.probe n=(-1,0,0,false) else
 (aa.probe n).1≠n.1/\(∃ f∈aa.table n,f.1=(aa.probe n).1)/\InP (aa.probe n).2.1 0 n.2.2.2.2.2.1/\InP (aa.probe n).2.2.1 1 n.2.2.2.2.2.2.1
theorem zW (K:Nat)(n:aa)(z:NB n)(H:1048577<K):Ret (Q220.f K (n,())) (cU n):=by
 simp only[Q220.f,cU];by_cases h:(aa.probe n).1=-1
 ·rw[if_pos h,show ((aa.probe n).1==-1)=true by simpa using h];refine (Ret.cnd (P:=(aa.probe n).2.1=0) (by simp) λ_=>Ret.cnd (P:=(aa.probe n).2.2.1=0) (by simp) λ_=>Ret.of (P:=(aa.probe n).2.2.2=false) (by simp)).iff ?_;generalize aa.probe n=p at h ⊢;obtain⟨a,b,c,d⟩:=p;simp at h ⊢;intro _ _ _;exact h
 ·rw[if_neg h,show ((aa.probe n).1==-1)=false by simpa using h];refine Ret.cnd (by simp) λ_=>?_
  obtain⟨o,J,u⟩:=fw K (aa.table n) (aa.probe n).1 z.table H;refine Ret.vl u ?_;cases J with
  |no I=>exact Ret.no (λ⟨⟨f,M,e⟩,_⟩=>I f M e)
  |at_ j y e =>
   simp only;rw[show decide ((j:Int)>=0)=true from decide_eq_true (by omega)];exact (Ret.px (cC K _ _ _) λ_=>(cC K _ _ _).id).iff ⟨λr=>⟨⟨_,BI y,e⟩,r⟩,λr=>r.2⟩
theorem zX (K:Nat)(n:aa)(J:NB n)(H:az (aa.table n))(z:1048577<K):Ret (Q202.f K (n,())) (cU n):=by
 simp only[Q202.f,cU];by_cases h:(aa.probe n).1=-1
 ·rw[if_pos h,show ((aa.probe n).1==-1)=true by simpa using h,jF];exact Ret.dec
 ·rw[if_neg h,show ((aa.probe n).1==-1)=false by simpa using h];rcases jD K (aa.table n) (aa.probe n).1 J.table z with ⟨u,_⟩|⟨_,⟨f,y,e,u⟩|⟨I,u⟩⟩
  ·exact absurd H u
  ·refine Ret.vl u ?_;exact (Ret.cnd (P:=(aa.probe n).1≠n.1) (by simp) λ_=>Ret.px (fu K _ _ _) λ_=>(fu K _ _ _).id).iff ⟨λr=>⟨r.1,⟨f,y,e⟩,r.2⟩,λr=>⟨r.1,r.2.2⟩⟩
  ·exact Ret.vl u (Ret.no (λ⟨_,⟨f,y,e⟩,_⟩=>I f y e))
def cD (c:du):Prop:=InP c.1 (-100000) 100000/\InP c.2.1 (-100000) 100000/\InP c.2.2.1 0 100000/\InP c.2.2.2 1 1500
theorem iD (K:Nat)(c:du):Ret (Q32.f K (c,())) (cD c) :=
 Ret.px (cC K _ _ _) λ_=>Ret.px (cC K _ _ _) λ_=>Ret.px (cC K _ _ _) λ_=>(cC K _ _ _).id
theorem qu (K:Nat)(c:du):Ret (Q205.f K (c,())) (cD c) :=
 Ret.px (fu K _ _ _) λ_=>Ret.px (fu K _ _ _) λ_=>Ret.px (fu K _ _ _) λ_=>(fu K _ _ _).id
def AW (r:Int)(p:dF):Prop:=InP p.1 0 7/\ao p.1=ao r/\p.1≠r/\cD p.2.1/\InP (p.2.2.length:Int) 1 3/\∀ t∈p.2.2,InP t 1 60000
def eq (r:Int)(l:List dF):Prop:=(∀ p∈l,AW r p)/\Asc (λp:dF=>p.1) l
theorem xc (K:Nat)(n:aa)(x:Int):Ret (Q203.f K (n,x,())) (InP x 0 7/\ao x=ao n.1):=by
 refine Ret.px (oS K x) λ_=>?_
 exact Ret.of (b:=ao x==ao n.1) (by simp)
theorem zY (K:Nat)(n:aa)(x:Int):Ret (Q207.f K (n,x,())) ((InP x 0 7/\ao x=ao n.1)/\x≠n.1):=by
 refine Ret.px (xc K n x) λ_=>?_
 exact Ret.of (b:=x != n.1) (by simp)
theorem yC (K:Nat)(n:aa)(J:NB n)(hK:1048577<K):Ret (Q222.f K (n,())) (eq n.1 (aa.places n)):=by
 refine (gp (aa.places n) (step:=λrec a=>Q222.s0 K (n,()) (Q222.l1 K (n,()) rec) rec a)
  (λi y=>InP (aa.places n)[i].1 0 7/\¬ ao (aa.places n)[i].1≠ao n.1/\¬ (aa.places n)[i].1=n.1/\(0<i->¬ ((aa.places n)[i-1]'(by omega)).1>=(aa.places n)[i].1) /\
   cD (aa.places n)[i].2.1/\InP ((aa.places n)[i].2.2.length:Int) 1 3/\∀ k (z:k<(aa.places n)[i].2.2.length),InP (aa.places n)[i].2.2[k] 1 60000/\True) J.places ?_ ?_ hK (λ_=>Ret.yes trivial)).iff (fb.trans ?_)
 ·intro rec i y;have Z:=J.trips _ (BI y);have hl:=J.places;have u:Rnd (Q222.l1 K (n,()) rec ((i:Int),0,(aa.places n)[i].1,(aa.places n)[i].2.1.1,(aa.places n)[i].2.1.2.1,(aa.places n)[i].2.1.2.2.1,(aa.places n)[i].2.1.2.2.2,(aa.places n)[i].2.2))
    (∀ k (z:k<(aa.places n)[i].2.2.length),InP (aa.places n)[i].2.2[k] 1 60000/\True) (rec (wr .i64 ((i:Int)+1))):=by
   generalize (aa.places n)[i]=p at Z;refine oQ p.2.2 (step:=λr a=>Q222.s1 K (n,()) rec r a) (λk=>((i:Int),(k:Int),p.1,p.2.1.1,p.2.1.2.1,p.2.1.2.2.1,p.2.1.2.2.2,p.2.2)) (λk z=>InP p.2.2[k] 1 60000/\True) Z ?_ ?_ hK
   ·intro r k z;simp only[Q222.s1];rw[decide_eq_true (by omega:(k:Int)<(BG p.2.2:Int)),ar k (by omega)];simp only[cond_true];exact Rnd.ix (af z) (Rnd.nx (cC K _ _ _) λ_=>Rnd.end_)
   ·intro r;simp only[Q222.s1,aR];rfl
  simp only[Q222.s0];rw[decide_eq_true (by omega:(i:Int)<(BG (aa.places n):Int))];simp only[cond_true];refine Rnd.ix (af y) (Rnd.nx (cC K _ _ _) λ_=>Rnd.vl (eG K _) (Rnd.vl (eG K _) (Rnd.cndN (by simp) λ_=>Rnd.cndN (by simp) λ_=>Rnd.two (λH=>?_) ?_)))
  ·rw[eX i H (by omega)];exact Rnd.ix (af (show i-1<(aa.places n).length by omega)) (Rnd.cndN (by simp) λ_=>Rnd.nx (iD K _) λ_=>Rnd.nx (cC K _ _ _) λ_=>u)
  ·exact Rnd.nx (iD K _) λ_=>Rnd.nx (cC K _ _ _) λ_=>u
 ·intro rec;simp only[Q222.s0,aR];rfl
 ·rw[eq,dA,gK];constructor
  ·intro h;refine⟨λi y=>?_,λi y H=>?_⟩
   ·obtain⟨I,R,M,h4,O,X,Y⟩:=h i y;exact⟨I,BJ.1 R,M,O,X,dA.2 λk z=>(Y k z).1⟩
   ·have:=(h i y).2.2.2.1 H;omega
  ·rintro⟨I,R⟩ i y;obtain⟨M,h4,O,X,Y,h8⟩:=I i y;exact⟨M,BJ.2 h4,O,λH=>by have:=R i y H;omega,X,Y,λk z=>⟨dA.1 h8 k z,trivial⟩⟩
theorem yD (K:Nat)(n:aa)(I:NB n)(hK:1048577<K):Ret (Q210.f K (n,())) (eq n.1 (aa.places n)):=by
 refine (gp (aa.places n) (step:=λrec a=>Q210.s0 K (n,()) rec a)
  (λi u=>((InP (aa.places n)[i].1 0 7/\ao (aa.places n)[i].1=ao n.1)/\(aa.places n)[i].1≠n.1)/\(0<i->¬ (aa.places n)[i].1<=((aa.places n)[i-1]'(by omega)).1) /\
   cD (aa.places n)[i].2.1/\InP ((aa.places n)[i].2.2.length:Int) 1 3/\(¬ ∃ t∈(aa.places n)[i].2.2,¬ InP t 1 60000)/\True) I.places ?_ ?_ hK (λ_=>Ret.yes trivial)).iff (fb.trans ?_)
 ·intro rec i u;have hb:=I.trips _ (BI u);have hl:=I.places;have r:Ret (Q209.f K ((aa.places n)[i].2.2,(λy6=>(Q206.f K (y6.1,())).map λy=>y.1.1),())) (∃ t∈(aa.places n)[i].2.2,¬ InP t 1 60000) :=
   yy K _ _ _ hb hK (λt _=>Ret.fn (fu K t _ _).neg)
  simp only[Q210.s0];rw[decide_eq_true (by omega:(i:Int)<(BG (aa.places n):Int))];simp only[cond_true];refine Rnd.ix (af u) (Rnd.nx (zY K n _) λ_=>Rnd.two (λz=>?_) ?_)
  ·rw[eX i z (by omega)];exact Rnd.ix (af (show i-1<(aa.places n).length by omega)) (Rnd.cndN (by simp) λ_=>Rnd.nx (qu K _) λ_=>Rnd.nx (fu K _ _ _) λ_=>Rnd.fx r λ_=>Rnd.end_)
  ·exact Rnd.nx (qu K _) λ_=>Rnd.nx (fu K _ _ _) λ_=>Rnd.fx r λ_=>Rnd.end_
 ·intro rec;simp only[Q210.s0,aR];rfl
 ·rw[eq,dA,gK];constructor
  ·intro h;refine⟨λi u=>?_,λi u z=>?_⟩
   ·obtain⟨⟨⟨H,O⟩,J⟩,h4,M,R,Z,_⟩:=h i u;exact⟨H,O,J,M,R,λt Y=>BJ.1 λX=>Z ⟨t,Y,X⟩⟩
   ·have:=(h i u).2.1 z;omega
  ·rintro⟨H,O⟩ i u;obtain⟨J,h4,M,R,Z,X⟩:=H i u;exact⟨⟨⟨J,h4⟩,M⟩,λz=>by have:=O i u z;omega,R,Z,λ⟨t,Y,h9⟩=>h9 (X t Y),trivial⟩
def AX (r:Int)(x:cR):Prop:=InP x.1 0 1/\x.1≠ao r/\x.2≠[]/\az x.2/\ce x.2 x.1
def c6 (r:Int)(l:List cR):Prop:=(∀ x∈l,AX r x)/\Asc (λx:cR=>x.1) l
theorem oX {α:Type}(l:List α):((BG l:Int)==0)=true<->l=[]:=by
 cases l <;> simp;omega
theorem yE (K:Nat)(n:aa)(H:NB n)(u:1048577<K):Ret (Q223.f K (n,())) (c6 n.1 (aa.others n)):=by
 refine (gp (aa.others n) (step:=λrec a=>Q223.s0 K (n,()) rec a)
  (λi r=>InP (aa.others n)[i].1 0 1/\¬ (aa.others n)[i].1=ao n.1/\(0<i->¬ ((aa.others n)[i-1]'(by omega)).1>=(aa.others n)[i].1) /\
   ¬ (aa.others n)[i].2=[]/\az (aa.others n)[i].2/\ce (aa.others n)[i].2 (aa.others n)[i].1/\True) H.others ?_ ?_ u (λ_=>Ret.yes trivial)).iff (fb.trans ?_)
 ·intro rec i r;have z:=H.facts _ (BI r);have X:=H.others;simp only[Q223.s0];rw[decide_eq_true (by omega:(i:Int)<(BG (aa.others n):Int))];simp only[cond_true];refine Rnd.ix (af r) (Rnd.nx (cC K _ _ _) λ_=>Rnd.vl (eG K _) (Rnd.cndN (by simp) λ_=>Rnd.two (λy=>?_) ?_))
  ·rw[eX i y (by omega)];exact Rnd.ix (af (show i-1<(aa.others n).length by omega)) (Rnd.cndN (by simp) λ_=>Rnd.cndN (oX _) λ_=>Rnd.nx (gq K _ z u) λ_=>Rnd.nx (gr K _ _ z u) λ_=>Rnd.end_)
  ·exact Rnd.cndN (oX _) λ_=>Rnd.nx (gq K _ z u) λ_=>Rnd.nx (gr K _ _ z u) λ_=>Rnd.end_
 ·intro rec;simp only[Q223.s0,aR];rfl
 ·rw[c6,dA,gK];constructor
  ·intro h;exact⟨λi r=>⟨(h i r).1,(h i r).2.1,(h i r).2.2.2.1,(h i r).2.2.2.2.1,(h i r).2.2.2.2.2.1⟩,λi r y=>by have:=(h i r).2.2.1 y;omega⟩
  ·rintro⟨h1,h2⟩ i r;obtain⟨I,O,J,M,R⟩:=h1 i r;exact⟨I,O,λy=>by have:=h2 i r y;omega,J,M,R,trivial⟩
theorem yF (K:Nat)(n:aa)(J:NB n)(y:1048577<K):Ret (Q211.f K (n,())) (c6 n.1 (aa.others n)):=by
 refine (gp (aa.others n) (step:=λrec a=>Q211.s0 K (n,()) rec a)
  (λi r=>InP (aa.others n)[i].1 0 1/\¬ (aa.others n)[i].1=ao n.1/\(0<i->¬ (aa.others n)[i].1<=((aa.others n)[i-1]'(by omega)).1) /\
   ¬ (aa.others n)[i].2=[]/\az (aa.others n)[i].2/\ce (aa.others n)[i].2 (aa.others n)[i].1/\True) J.others ?_ ?_ y (λ_=>Ret.yes trivial)).iff (fb.trans ?_)
 ·intro rec i r;have H:=J.facts _ (BI r);have Y:=J.others;have I:ao 7=1:=by unfold ao;rw[aD (by decide) (by decide)];decide
  have u:=fu K (aa.others n)[i].1 0 (ao 7);rw[I]at u;simp only[Q211.s0];rw[decide_eq_true (by omega:(i:Int)<(BG (aa.others n):Int))];simp only[cond_true];refine Rnd.ix (af r) (Rnd.vl (w8 K 7) ?_);dsimp only;rw[I];refine Rnd.nx u λ_=>Rnd.vl (nN K n) (Rnd.cndN (by simp) λ_=>Rnd.two (λz=>?_) ?_)
  ·rw[eX i z (by omega)];exact Rnd.ix (af (show i-1<(aa.others n).length by omega)) (Rnd.cndN (by simp) λ_=>Rnd.cndN (oX _) λ_=>Rnd.nx (jC K _ H y) λ_=>Rnd.nx (oU K _ _ H y) λ_=>Rnd.end_)
  ·exact Rnd.cndN (oX _) λ_=>Rnd.nx (jC K _ H y) λ_=>Rnd.nx (oU K _ _ H y) λ_=>Rnd.end_
 ·intro rec;simp only[Q211.s0,aR];rfl
 ·rw[c6,dA,gK];constructor
  ·intro h;exact⟨λi r=>⟨(h i r).1,(h i r).2.1,(h i r).2.2.2.1,(h i r).2.2.2.2.1,(h i r).2.2.2.2.2.1⟩,λi r z=>by have:=(h i r).2.2.1 z;omega⟩
  ·rintro⟨h1,h2⟩ i r;obtain⟨M,X,O,R,I⟩:=h1 i r;exact⟨M,X,λz=>by have:=h2 i r z;omega,O,R,I,trivial⟩
def ByP (r:Int)(l:List Int):Prop:=(∀ b∈l,InP b 0 7/\ao b=ao r)/\Asc (λb:Int=>b) l
def lG (n:aa)(d:bM):Prop:=(∃ f∈aa.table n,f.1=d.1/\f.2.2.1=2/\f.2.1=d.2.1)/\InP d.2.2.1 0 n.2.2.2.2.2.1/\d.2.2.2≠[]/\ByP n.1 d.2.2.2
def aU (t:List ag):List ag:=t.filter λf=>f.2.2.1==2
def iE (n:aa):Prop:=(∀ d∈aa.doubts n,lG n d)/\Asc (λd:bM=>d.1) (aa.doubts n)/\(aU (aa.table n)).length=(aa.doubts n).length
theorem xd {y:Int}{l:List Int}:ByP y l<->∀ k (r:k<l.length),(InP l[k] 0 7/\ao l[k]=ao y)/\(0<k->¬ l[k-1]'(by omega)>=l[k]):=by
 rw[ByP,dA,gK];constructor
 ·rintro⟨h1,h2⟩ k r;exact⟨h1 k r,λu=>by have:=h2 k r u;omega⟩
 ·intro h;exact⟨λk r=>(h k r).1,λk r u=>by have:=(h k r).2 u;omega⟩
theorem zZ (K:Nat)(n:aa)(J:NB n)(R:1048577<K):Q221.l2 K (n,()) (0,0)=rb (decide ((aU (aa.table n)).length=(aa.doubts n).length)):=by
 have X:=J.table;have y:∀ (d k i c:Nat),i+d=(aa.table n).length->d<k->c<=i ->
   ae (λrec a=>Q221.s2 K (n,()) rec a) k ((c:Int),(i:Int))=rb (decide (c+(aU ((aa.table n).drop i)).length=(aa.doubts n).length)):=by
  intro d;induction d with
  |zero =>
   intro k i c M I O;obtain⟨k,rfl⟩:∃ u,k=u+1:=⟨k-1,by omega⟩;show Q221.s2 K (n,()) _ _=_;simp only[Q221.s2];rw[decide_eq_false (show ¬ ((i:Int)<(BG (aa.table n):Int)) by omega),BT (by omega)];simp only[cond_false,aU,List.filter_nil,List.length_nil,Nat.add_zero];have e:((c:Int)==(BG (aa.doubts n):Int))=decide (c=(aa.doubts n).length):=by
    by_cases h:c=(aa.doubts n).length
    ·rw[decide_eq_true h,h];simp
    ·rw[decide_eq_false h,beq_eq_false_iff_ne];omega
   exact congrArg rb e
  |succ d H =>
   intro k i c M I O;obtain⟨k,rfl⟩:∃ u,k=u+1:=⟨k-1,by omega⟩;have r:i<(aa.table n).length:=by omega
   show Q221.s2 K (n,()) _ _=_;simp only[Q221.s2];rw[decide_eq_true (show ((i:Int)<(BG (aa.table n):Int)) by omega),af r,ar i (by omega),ar c (by omega),BQ r];simp only[cond_true,BH];cases z:((aa.table n)[i].2.2.1==2) with
   |true =>
    have:=H k (i+1) (c+1) (by omega) (by omega) (by omega);simp only[cond_true];have e:c+1+(aU ((aa.table n).drop (i+1))).length=c+(aU ((aa.table n)[i]::(aa.table n).drop (i+1))).length:=by
     simp only[aU,BS,z,if_true,List.length_cons];omega
    rw[<- e];exact this
   |false =>
    have:=H k (i+1) c (by omega) (by omega) (by omega);simp only[cond_false];have e:aU ((aa.table n)[i]::(aa.table n).drop (i+1))=aU ((aa.table n).drop (i+1)):=by
     simp only[aU,BS,z,BN,if_false]
    rw[e];exact this
 have:=y (aa.table n).length K 0 0 (by omega) (by omega) (B3 _);rw[B5,Nat.zero_add]at this;exact this
theorem yG (K:Nat)(n:aa)(O:NB n)(hT:az (aa.table n))(Y:1048577<K):Ret (Q221.f K (n,())) (iE n):=by
 refine (gp (aa.doubts n) (step:=λrec a=>Q221.s0 K (n,()) (Q221.l1 K (n,()) rec) (Q221.l2 K (n,())) rec a)
  (λi z=>(0<i->¬ ((aa.doubts n)[i-1]'(by omega)).1>=(aa.doubts n)[i].1)/\lG n (aa.doubts n)[i]) (Q:=(aU (aa.table n)).length=(aa.doubts n).length) (rt:=Q221.l2 K (n,()) (0,0)) O.doubts ?_ ?_ Y (λ_=>by rw[zZ K n O Y];exact Ret.dec)).iff ?_
 ·intro rec i z;have Z:=O.by_ _ (BI z);have hl:=O.doubts;have y:Rnd (Q221.l1 K (n,()) rec ((i:Int),0,(aa.doubts n)[i].1,(aa.doubts n)[i].2.1,(aa.doubts n)[i].2.2.1,(aa.doubts n)[i].2.2.2)) (ByP n.1 (aa.doubts n)[i].2.2.2) (rec (wr .i64 ((i:Int)+1))):=by
   generalize (aa.doubts n)[i]=d at Z;refine (oQ d.2.2.2 (step:=λu a=>Q221.s1 K (n,()) rec u a) (λk=>((i:Int),(k:Int),d.1,d.2.1,d.2.2.1,d.2.2.2))
    (λk r=>InP d.2.2.2[k] 0 7/\¬ ao d.2.2.2[k]≠ao n.1/\(0<k->¬ d.2.2.2[k-1]'(by omega)>=d.2.2.2[k])/\True) Z ?_ ?_ Y).iff ?_
   ·intro u k r;simp only[Q221.s1];rw[decide_eq_true (by omega:(k:Int)<(BG d.2.2.2:Int)),ar k (by omega)];simp only[cond_true];refine Rnd.ix (af r) (Rnd.nx (cC K _ _ _) λ_=>Rnd.ix (af r) (Rnd.vl (eG K _) (Rnd.vl (eG K _) (Rnd.cndN (by simp) λ_=>Rnd.two (λH=>?_) Rnd.end_))));rw[eX k H (by omega)];exact Rnd.ix (af (show k-1<d.2.2.2.length by omega)) (Rnd.ix (af r) (Rnd.cndN (by simp) λ_=>Rnd.end_))
   ·intro u;simp only[Q221.s1,aR];rfl
   ·rw[xd];constructor
    ·intro h k r;exact⟨⟨(h k r).1,BJ.1 (h k r).2.1⟩,(h k r).2.2.1⟩
    ·intro h k r;exact⟨(h k r).1.1,BJ.2 (h k r).1.2,(h k r).2,trivial⟩
  obtain⟨o,ho,X⟩:=fw K (aa.table n) (aa.doubts n)[i].1 O.table Y;simp only[Q221.s0];rw[decide_eq_true (show ((i:Int)<(BG (aa.doubts n):Int)) by omega)];simp only[cond_true];refine Rnd.ix (af z) (Rnd.vl X ?_);cases ho with
  |no h =>
   have R:¬ lG n (aa.doubts n)[i]:=λ⟨⟨f,X,e,_⟩,_⟩=>h f X e
   refine Rnd.two (λH=>?_) ?_
   ·rw[eX i H (by omega)];refine Rnd.ix (af (show i-1<(aa.doubts n).length by omega)) (Rnd.cndN (by simp) λ_=>?_);exact .inr ⟨R,rfl⟩
   ·exact .inr ⟨R,rfl⟩
  |at_ j M e =>
   have J:decide ((j:Int)<0)=false:=decide_eq_false (by omega);have I:lG n (aa.doubts n)[i]<->(¬ (aa.table n)[j].2.2.1≠2/\¬ (aa.table n)[j].2.1≠(aa.doubts n)[i].2.1/\InP (aa.doubts n)[i].2.2.1 0 n.2.2.2.2.2.1/\¬ (aa.doubts n)[i].2.2.2=[]/\ByP n.1 (aa.doubts n)[i].2.2.2):=by
    constructor
    ·rintro⟨⟨f,X,e1,e2,e3⟩,h2,h3,h4⟩;have:=il hT.2 X (BI M) (e1.trans e.symm);subst this;exact⟨BJ.2 e2,BJ.2 e3,h2,h3,h4⟩
    ·rintro⟨e2,e3,h2,h3,h4⟩;exact⟨⟨_,BI M,e,BJ.1 e2,BJ.1 e3⟩,h2,h3,h4⟩
   refine Rnd.two (λH=>?_) ?_
   ·rw[eX i H (by omega)];refine Rnd.ix (af (show i-1<(aa.doubts n).length by omega)) (Rnd.cndN (by simp) λ_=>?_);simp only[J,cond_false];refine Rnd.iff ?_ I.symm;exact Rnd.ix (af M) (Rnd.cndN (by simp) λ_=>Rnd.ix (af M) (Rnd.cndN (by simp) λ_=>Rnd.nx (cC K _ _ _) λ_=>Rnd.cndN (oX _) λ_=>y))
   ·simp only[J,cond_false];refine Rnd.iff ?_ I.symm;exact Rnd.ix (af M) (Rnd.cndN (by simp) λ_=>Rnd.ix (af M) (Rnd.cndN (by simp) λ_=>Rnd.nx (cC K _ _ _) λ_=>Rnd.cndN (oX _) λ_=>y))
 ·intro rec;simp only[Q221.s0,aR];rfl
 ·rw[iE,dA,gK];constructor
  ·rintro⟨h1,h2⟩;exact⟨λi z=>(h1 i z).2,λi z H=>by have:=(h1 i z).1 H;omega,h2⟩
  ·rintro⟨h1,h2,h3⟩;exact⟨λi z=>⟨λH=>by have:=h2 i z H;omega,h1 i z⟩,h3⟩
theorem z7 (K:Nat)(n:aa)(Y:NB n)(S:List ag)(hS:S.length=(aa.doubts n).length)(hK:1048577<K):Ret (Q204.l1 K (n,()) (S,0))
  (∀ i (u:i<(aa.doubts n).length),(aa.doubts n)[i].1=(S[i]'(by omega)).1/\(aa.doubts n)[i].2.1=(S[i]'(by omega)).2.1/\InP (aa.doubts n)[i].2.2.1 0 n.2.2.2.2.2.1/\(aa.doubts n)[i].2.2.2≠[]/\ByP n.1 (aa.doubts n)[i].2.2.2):=by
 have hl:=Y.doubts;have I:=l9 (step:=λrec a=>Q204.s1 K (n,()) (Q204.l2 K (n,()) rec) rec a) (aa.doubts n).length (λi=>(S,(i:Int)))
  (λi=>∀ u:i<(aa.doubts n).length,¬ (aa.doubts n)[i].1≠(S[i]'(by omega)).1/\¬ (aa.doubts n)[i].2.1≠(S[i]'(by omega)).2.1/\InP (aa.doubts n)[i].2.2.1 0 n.2.2.2.2.2.1/\¬ (aa.doubts n)[i].2.2.2=[]/\ByP n.1 (aa.doubts n)[i].2.2.2)
  (rb true) (rb false) ?_ ?_ (aa.doubts n).length K 0 (by omega) (by omega)
 ·rcases I with ⟨M,J⟩|⟨M,J⟩
  ·refine⟨true,J,iff_of_true rfl λi u=>?_⟩;obtain⟨O,X,R⟩:=M i (BO _) u u;exact⟨BJ.1 O,BJ.1 X,R⟩
  ·refine⟨false,J,iff_of_false (by simp) λh=>M λi _ u _=>?_⟩;obtain⟨O,X,R⟩:=h i u;exact⟨BJ.2 O,BJ.2 X,R⟩
 ·intro rec i u;have Z:=Y.by_ _ (BI u);have H:Rnd (Q204.l2 K (n,()) rec (S,(i:Int),(aa.doubts n)[i].2.2.2,(BG (aa.doubts n)[i].2.2.2:Int),0,(aa.doubts n)[i].1,(aa.doubts n)[i].2.1,(aa.doubts n)[i].2.2.1,(aa.doubts n)[i].2.2.2)) (ByP n.1 (aa.doubts n)[i].2.2.2) (rec (S,wr .i64 ((i:Int)+1))):=by
   generalize (aa.doubts n)[i]=d at Z;refine (oQ d.2.2.2 (step:=λr a=>Q204.s2 K (n,()) rec r a) (λk=>(S,(i:Int),d.2.2.2,(BG d.2.2.2:Int),(k:Int),d.1,d.2.1,d.2.2.1,d.2.2.2))
    (λk z=>(InP d.2.2.2[k] 0 7/\ao d.2.2.2[k]=ao n.1)/\(0<k->¬ d.2.2.2[k]<=d.2.2.2[k-1]'(by omega))/\True) Z ?_ ?_ hK).iff ?_
   ·intro r k z;simp only[Q204.s2,zcp4];rw[decide_eq_true (by omega:(k:Int)<(BG d.2.2.2:Int)),ar k (by omega)];simp only[cond_true];refine Rnd.ix (af z) (Rnd.nx (xc K n _) λ_=>Rnd.two (λh0=>?_) Rnd.end_);rw[eX k h0 (by omega)];exact Rnd.ix (af (show k-1<d.2.2.2.length by omega)) (Rnd.cndN (by simp) λ_=>Rnd.end_)
   ·intro r;simp only[Q204.s2,zcp4,aR];rfl
   ·rw[xd];constructor
    ·intro h k z;exact⟨(h k z).1,(h k z).2.1⟩
    ·intro h k z;exact⟨(h k z).1,(h k z).2,trivial⟩
  have y:i<S.length:=by omega
  have hr:Rnd (Q204.s1 K (n,()) (Q204.l2 K (n,()) rec) rec (S,(i:Int)))
    (¬ (aa.doubts n)[i].1≠S[i].1/\¬ (aa.doubts n)[i].2.1≠S[i].2.1/\InP (aa.doubts n)[i].2.2.1 0 n.2.2.2.2.2.1/\¬ (aa.doubts n)[i].2.2.2=[]/\ByP n.1 (aa.doubts n)[i].2.2.2) (rec (S,((i+1:Nat):Int))):=by
   rw[<- ar i (by omega)];simp only[Q204.s1];rw[decide_eq_true (show ((i:Int)<(BG (aa.doubts n):Int)) by omega),Int.toNat_natCast];simp only[cond_true];exact Rnd.ix (af u) (Rnd.ix (af y) (Rnd.ix (af y) (Rnd.cndN (by simp) λ_=>Rnd.ix (af y) (Rnd.ix (af y) (Rnd.cndN (by simp) λ_=>Rnd.nx (fu K _ _ _) λ_=>Rnd.cndN (oX _) λ_=>H)))))
  exact hr.imp (λh=>⟨λ_=>h.1,h.2⟩) (λh=>⟨λJ=>h.1 (J u),h.2⟩)
 ·intro rec;simp only[Q204.s1,aR];rfl
theorem yH (K:Nat)(n:aa)(Z:NB n)(hT:az (aa.table n))(hK:1048577<K):Ret (Q204.f K (n,())) (iE n):=by
 have hl:=Z.table;have a1:=Z.doubts;have a0:∀ (d k i:Nat),i+d=(aa.table n).length->d<k->ae (λrec a=>Q204.s0 K (n,()) (Q204.l1 K (n,())) rec a) k (aU ((aa.table n).take i),(i:Int)) =
   (bif (BG (aa.doubts n):Int) != (BG (aU (aa.table n)):Int) then rb false else Q204.l1 K (n,()) (aU (aa.table n),0)):=by
  intro d;induction d with
  |zero =>
   intro k i y hk;obtain⟨k,rfl⟩:∃ Y,k=Y+1:=⟨k-1,by omega⟩;show Q204.s0 K (n,()) _ _ _=_;simp only[Q204.s0];rw[decide_eq_false (show ¬ ((i:Int)<(BG (aa.table n):Int)) by omega),BU (by omega)];rfl
  |succ d J =>
   intro k i y hk;obtain⟨k,rfl⟩:∃ Y,k=Y+1:=⟨k-1,by omega⟩;have J:=J k (i+1) (by omega) (by omega);have O:i<(aa.table n).length:=by omega
   show Q204.s0 K (n,()) _ _ _=_;simp only[Q204.s0];rw[decide_eq_true (show ((i:Int)<(BG (aa.table n):Int)) by omega),af O,ar i (by omega)];simp only[cond_true,BH];have e:aU ((aa.table n).take (i+1))=aU ((aa.table n).take i)++(if (aa.table n)[i].2.2.1==2 then [(aa.table n)[i]] else []):=by
    rw[aU,BY,BL O,List.filter_append];simp[aU,BS]
   cases hb:((aa.table n)[i].2.2.1==2) with
   |true =>
    rw[hb]at e;simp only[if_true]at e;simp only[cond_true];have a2:(aU ((aa.table n).take i)).length<=i:=Nat.le_trans (List.length_filter_le _ _) (by simp;omega);have hs:decide ((BG (aU ((aa.table n).take i))+BG [(aa.table n)[i]])*32<=ak)=true:=decide_eq_true (by simp only[ak,BV];omega);rw[hs];rw[e]at J;exact J
   |false =>
    rw[hb]at e;simp only[BN,if_false,List.append_nil]at e;rw[e]at J;exact J
 have h0:Q204.f K (n,())=_:=a0 (aa.table n).length K 0 (by omega) (by omega);rw[h0];have z:∀ f∈aU (aa.table n),f∈aa.table n/\f.2.2.1=2:=λf I=>by
  rw[aU,B4]at I;exact⟨I.1,by simpa using I.2⟩
 have u:Asc (λf:ag=>f.1) (aU (aa.table n)):=List.Pairwise.filter _ hT.2;by_cases r:(aU (aa.table n)).length=(aa.doubts n).length
 ·have:((BG (aa.doubts n):Int) != (BG (aU (aa.table n)):Int))=false:=by simp[r]
  rw[this];refine (z7 K n Z _ r hK).iff ⟨λh=>⟨?_,?_,r⟩,λ⟨h1,h2,_⟩ i y=>?_⟩
  ·rw[dA];intro i y;obtain⟨R,h4,h5,h6,h7⟩:=h i y;obtain⟨h8,h9⟩:=z _ (BI (show i<(aU (aa.table n)).length by omega));exact⟨⟨_,h8,R.symm,h9,h4.symm⟩,h5,h6,h7⟩
  ·rw[dl]at u ⊢;intro i j y hj X;have:=u i j (by omega) (by omega) X;rw[(h i y).1,(h j hj).1];exact this
  ·have H:=je ((aa.doubts n).map (·.1)) ((aU (aa.table n)).map (·.1)) (by rw[BR];exact h2) (by rw[BR];exact u) (by
    intro x hx;obtain⟨d,hd,rfl⟩:=B6.1 hx;obtain⟨⟨f,I,e1,e2,_⟩,_⟩:=h1 d hd;exact B6.2 ⟨f,by rw[aU,B4];exact⟨I,by simpa using e2⟩,e1⟩)
   have H:=H.2 (by simp[r]);have M:i<(aU (aa.table n)).length:=by omega
   have e:(aa.doubts n)[i].1=(aU (aa.table n))[i].1:=by
    have R:((aa.doubts n).map (·.1))[i]?=((aU (aa.table n)).map (·.1))[i]?:=by rw[H]
    rw[BZ,BZ,BL y,BL M]at R;simpa using R
   obtain⟨⟨f,I,e1,e2,e3⟩,h4,h5,h6⟩:=h1 _ (BI y);have:=il hT.2 I (z _ (BI M)).1 (e1.trans e);subst this;exact⟨e,e3.symm,h4,h5,h6⟩
 ·have:((BG (aa.doubts n):Int) != (BG (aU (aa.table n)):Int))=true:=by simp;omega
  rw[this];exact Ret.no (λh=>r h.2.2)
def si (n:aa):Prop:=n.2.2.1=false/\n.2.2.2.2.1=0/\n.2.2.2.2.2.1=0/\n.2.2.2.2.2.2.1=0/\n.2.2.2.2.2.2.2.1=0 /\
 wr .i64 (wr .i64 (wr .i64 (wr .i64 ((BG (aa.table n):Int)+(BG (aa.cast n):Int))+(BG (aa.doubts n):Int))+(BG (aa.places n):Int))+(BG (aa.others n):Int))=0 /\
 aa.probe n=(0,0,0,false)/\aa.coord n=(0,0,0,0)
def UpP (n:aa):Prop:=az (aa.table n)/\ce (aa.table n) (ao n.1)/\db n/\(cO (aa.cast n)/\gW (aa.table n) (aa.cast n))/\cU n/\iE n/\cD (aa.coord n)/\eq n.1 (aa.places n)/\c6 n.1 (aa.others n)
def iP (n:aa):Prop:=InP n.1 0 7/\InP n.2.2.2.2.2.1 0 999999/\InP n.2.2.2.2.2.2.1 0 999999/\InP n.2.2.2.2.2.2.2.1 0 8/\InP n.2.2.2.2.1 0 999/\(if n.2.1=true then UpP n else si n)
theorem sN (K:Nat)(n:aa)(u:NB n)(r:1048577<K):Ret (Q224.f K (n,())) (iP n):=by
 refine Ret.nx (cC K _ _ _) λ_=>Ret.nx (cC K _ _ _) λ_=>Ret.nx (cC K _ _ _) λ_=>Ret.nx (cC K _ _ _) λ_=>Ret.nx (cC K _ _ _) λ_=>?_
 dsimp only;cases R:n.2.1 with
 |false =>
  simp only[BW,cond_true,BN,if_false,si];refine Ret.cnd (by simp) λ_=>Ret.cnd (by simp) λ_=>Ret.cnd (by simp) λ_=>Ret.cnd (by simp) λ_=>Ret.cnd (by simp) λ_=>Ret.cnd (by simp) λ_=>?_
  refine Ret.iff (Ret.cnd (P:=(aa.probe n).1=0) (by simp) λ_=>Ret.cnd (P:=(aa.probe n).2.1=0) (by simp) λ_=>Ret.cnd (P:=(aa.probe n).2.2.1=0) (by simp) λ_=>Ret.cnd (P:=(aa.probe n).2.2.2=false) (by simp) λ_ =>
   Ret.cnd (P:=(aa.coord n).1=0) (by simp) λ_=>Ret.cnd (P:=(aa.coord n).2.1=0) (by simp) λ_=>Ret.cnd (P:=(aa.coord n).2.2.1=0) (by simp) λ_=>Ret.of (P:=(aa.coord n).2.2.2=0) (by simp)) ?_
  generalize aa.probe n=p;generalize aa.coord n=c;obtain⟨Y,X,O,J⟩:=p;obtain⟨M,I,z,H⟩:=c;simp only[BX];constructor
  ·rintro⟨h1,h2,h3,h4,h5,h6,h7,h8⟩;exact⟨⟨h1,h2,h3,h4⟩,h5,h6,h7,h8⟩
  ·rintro⟨⟨h1,h2,h3,h4⟩,h5,h6,h7,h8⟩;exact⟨h1,h2,h3,h4,h5,h6,h7,h8⟩
 |true =>
  simp only[BK,cond_false,if_true,UpP];exact Ret.px (gq K _ u.table r) λy=>Ret.vl (eG K _) (Ret.px (gr K _ _ u.table r) λ_=>Ret.px (AV K n u y r) λ_=>Ret.px (uh K n u y r) λ_=>Ret.px (zW K n u r) λ_ =>
   Ret.px (yG K n u y r) λ_=>Ret.px (iD K _) λ_=>Ret.px (yC K n u r) λ_=>(yE K n u r).id)
theorem AY (K:Nat)(n:aa):Ret (Q194.f K (n,())) (si n):=by
 simp only[Q194.f,jF,pC,si];exact Ret.cnd (by simp) λ_=>Ret.cnd (by simp) λ_=>Ret.cnd (by simp) λ_=>Ret.cnd (by simp) λ_=>Ret.cnd (by simp) λ_=>Ret.cnd (by simp) λ_=>Ret.cnd (by simp) λ_=>Ret.dec
theorem sO (K:Nat)(n:aa)(u:NB n)(r:1048577<K):Ret (Q212.f K (n,())) (iP n):=by
 refine Ret.nx (oS K _) λ_=>Ret.nx (fu K _ _ _) λ_=>Ret.nx (fu K _ _ _) λ_=>Ret.nx (fu K _ _ _) λ_=>Ret.nx (fu K _ _ _) λ_=>?_
 dsimp only;cases z:n.2.1 with
 |false =>
  simp only[BW,cond_true,BN,if_false];exact (AY K n).id
 |true =>
  simp only[BK,cond_false,if_true,UpP];refine Ret.iff (Ret.px (qt K n u r) λy=>Ret.px (zX K n u y.1 r) λ_=>Ret.px (yH K n u y.1 r) λ_=>Ret.px (qu K _) λ_=>Ret.px (yD K n u r) λ_=>(yF K n u r).id) ?_;constructor
  ·rintro⟨⟨h1,h2,h3,h4,h5⟩,h6,h7,h8,h9,h10⟩;exact⟨h1,h2,h3,⟨h4,h5⟩,h6,h7,h8,h9,h10⟩
  ·rintro⟨h1,h2,h3,⟨h4,h5⟩,h6,h7,h8,h9,h10⟩;exact⟨⟨h1,h2,h3,h4,h5⟩,h6,h7,h8,h9,h10⟩
theorem er {A R:Type}{step:(A->Option R)->A->Option R}(n:Nat)(S:Nat->A)(rt:Option R)(h:∀ (rec:A->Option R) (i:Nat),i<n->step rec (S i)=rec (S (i+1)))(r:∀ rec:A->Option R,step rec (S n)=rt)
  {k:Nat} (y:n<k):ae step k (S 0)=rt:=by
 rcases l9 (step:=step) n S (λ_=>True) rt none (λrec i z=>.inl ⟨trivial,h rec i z⟩) r n k 0 (by omega) y with ⟨_,u⟩|⟨u,_⟩
 ·exact u
 ·exact absurd (λ_ _ _=>trivial) u
def Szd (o:Option ((Int×Unit)×Unit))(left:Int)(Q:Prop):Prop:=∃ r,o=some ((r,()),())/\(r<0\/(0<=r/\r<=left/\Q))
theorem Szd.sub (left:Int)(n:Nat)(I:0<=left)(J:left<=1048576)(M:n<=9223372036854775807){g:Option ((Int×Unit)×Unit)}{Q:Prop}(y:wr .i64 (left-(n:Int))=left-n->(n:Int)<=left->Szd g (left-n) Q) :
  Szd (bif decide (wr .i64 (left-(n:Int))<0) then some ((-1,()),()) else g) left (n<=1048576/\Q):=by
 have e:wr .i64 (left-(n:Int))=left-n:=aD (by omega) (by omega);by_cases h:left-(n:Int)<0
 ·rw[e,decide_eq_true h];exact⟨-1,rfl,.inl (by decide)⟩
 ·rw[decide_eq_false (by rw[e];exact h)];obtain⟨r,H,z⟩:=y e (by omega);exact⟨r,H,z.imp id λu=>⟨u.1,by omega,by omega,u.2.2⟩⟩
theorem Szd.bind {o:Option ((Int×Unit)×Unit)}{left:Int}{P Q:Prop}{G:(Int×Unit)×Unit->Option ((Int×Unit)×Unit)}(h:Szd o left P)(R:∀ r,0<=r->r<=left->P->Szd (G ((r,()),())) r Q) :
  Szd (o.bind λy=>bif decide (y.1.1<0) then some ((-1,()),()) else G y) left (P/\Q):=by
 obtain⟨r,J,u⟩:=h;rw[J,BH];rcases u with u|⟨u,O,z⟩
 ·rw[decide_eq_true u];exact⟨-1,rfl,.inl (by decide)⟩
 ·rw[show decide (r<0)=false from decide_eq_false (by omega)];obtain⟨I,X,M⟩:=R r u O z;exact⟨I,X,M.imp id λH=>⟨H.1,by omega,z,H.2.2⟩⟩
theorem Szd.ret (r:Int)(h:0<=r):Szd (some ((r,()),())) r True:=⟨r,rfl,.inr ⟨h,Int.le_refl _,trivial⟩⟩
theorem Szd.iff {o:Option ((Int×Unit)×Unit)}{left:Int}{P Q:Prop}(h:Szd o left P)(e:P->Q):Szd o left Q:=by
 obtain⟨r,y,z⟩:=h;exact⟨r,y,z.imp id λu=>⟨u.1,u.2.1,e u.2.2⟩⟩
end Go.Proofs.YtaegajachoklkabGreatEv
