/- What is ok of facts, tables, casts: the program and the specification say the same. -/
import Derived.Test.YtmibehbhnkeaiaaGreatFns
import Derived.Test.YtmibehbhnkeaiaaGreatP0
set_option linter.unusedVariables false
set_option linter.unusedSimpArgs false
open Bool renaming not_true->FN,false_eq_true->FQ,not_false->FZ
open Classical renaming not_not->FM
open Int renaming natCast_nonneg->FS
open List renaming length->FJ,getElem_mem->FL,getElem?_eq_getElem->FO,getElem_of_mem->FP,drop_eq_getElem_cons->FT,pairwise_map->FU,filter_cons->FV,drop_of_length_le->FW,take_of_length_le->FX,length_singleton->FY,take_add_one->F1,getElem?_map->F2,mem_filter->F4,drop_zero->F5,mem_map->F6
open Nat renaming zero_le->FR,le_refl->F3
open Option renaming bind_some->FK
open Prod.mk renaming injEq->F0
namespace Go.Proofs.YtmibehbhnkeaiaaGreatEv
open Go
abbrev InP (n u r:Int):Prop:=u<=n/\n<=r
theorem eY (K:Nat)(n u r:Int):Ret (Q13.f K (n,u,r,())) (InP n u r):=by
 simp only[Q13.f];exact Ret.cnd (by simp) λ_=>Ret.dec
theorem cK (K:Nat)(n u r:Int):Ret (Q98.f K (n,u,r,())) (InP n u r):=by
 simp only[Q98.f];exact Ret.cnd (by simp) λ_=>Ret.dec
theorem Ret.id {o:Option RB}{P:Prop}(h:Ret o P):Ret (o.bind λy=>some ((y.1.1,()),())) P:=by
 obtain⟨b,r,u⟩:=h;exact⟨b,by rw[r];rfl,u⟩
theorem Ret.neg {o:Option RB}{P:Prop}(h:Ret o P):Ret (o.bind λy=>some ((!y.1.1,()),())) (¬ P):=by
 obtain⟨b,r,u⟩:=h;exact⟨!b,by rw[r];rfl,by cases b <;> simp_all⟩
def bw (f:ah):Prop:=InP f.1 0 7/\InP f.2.1 0 999/\InP f.2.2.1 1 4
theorem jM (K:Nat)(n:Int):Ret (Q14.f K (n,())) (InP n 0 7):=(eY K n 0 7).id
theorem mQ (K:Nat)(f:ah):Ret (Q16.f K (f,())) (bw f) :=
 Ret.and (jM K f.1) (λ_=>Ret.and (eY K f.2.1 0 999) (λ_=>(eY K f.2.2.1 1 4).id) rfl) rfl
theorem pX (K:Nat)(f:ah):Ret (Q99.f K (f,())) (bw f) :=
 Ret.and (cK K f.1 0 7) (λ_=>Ret.and (cK K f.2.1 0 999) (λ_=>(cK K f.2.2.1 1 4).id) rfl) rfl
def aE (t:List ah):Prop:=(∀ f∈t,bw f)/\Asc (λf:ah=>f.1) t
theorem tW {t:List ah}:aE t<->∀ j,j<t.length->∃ h:j<t.length,bw t[j]/\(0<j->(t[j-1]'(by omega)).1<t[j].1):=by
 unfold aE;rw[dQ,it];constructor
 ·rintro⟨h1,h2⟩ j hj;exact⟨hj,h1 j hj,λr=>h2 j hj r⟩
 ·intro h;exact⟨λi u=>(h i u).2.1,λi u r=>(h i u).2.2 r⟩
theorem fE {P:Prop}:(P/\True)<->P:=by simp
theorem gW (K:Nat)(t:List ah)(M:t.length<=1048576)(J:1048577<K):Ret (Q100.f K (t,())) (aE t):=by
 refine Ret.iff (rF (step:=λrec a=>Q100.s0 K (t,()) rec a) t.length (λi=>(i:Int)) (λj=>∃ h:j<t.length,bw t[j]/\(0<j->(t[j-1]'(by omega)).1<t[j].1)) (Q:=True) (rt:=rb true) ?_ ?_ (by omega) (λ_=>Ret.yes trivial)) (fE.trans tW.symm)
 ·intro rec i y;simp only[Q100.s0];rw[decide_eq_true (by omega:(i:Int)<(FJ t:Int)),af y,ar i (by omega)];simp only[cond_true,FK];obtain⟨b,H,u⟩:=pX K t[i];rw[H];simp only[FK];cases b with
  |false=>exact .inr ⟨λ⟨_,r,_⟩=>by simpa using u.2 r,rfl⟩
  |true =>
   simp only[FN,cond_false];by_cases z:(i:Int)>0
   ·rw[decide_eq_true z,ft i (by omega) (by omega),af (by omega:i-1<t.length)];simp only[cond_true,FK];by_cases r:(t[i-1]'(by omega)).1>=t[i].1
    ·rw[decide_eq_true r];exact .inr ⟨λ⟨_,_,I⟩=>by have:=I (by omega);omega,rfl⟩
    ·rw[decide_eq_false r];exact .inl ⟨⟨y,u.1 rfl,λ_=>by omega⟩,rfl⟩
   ·rw[decide_eq_false z];exact .inl ⟨⟨y,u.1 rfl,λ_=>by omega⟩,rfl⟩
 ·intro rec;simp only[Q100.s0];rw[decide_eq_false (by omega:¬ ((t.length:Int)<(FJ t:Int)))];rfl
theorem gX (K:Nat)(t:List ah)(M:t.length<=1048576)(J:1048577<K):Ret (Q17.f K (t,())) (aE t):=by
 refine Ret.iff (rF (step:=λrec a=>Q17.s0 K (t,()) rec a) t.length (λi=>(i:Int)) (λj=>∃ h:j<t.length,bw t[j]/\(0<j->(t[j-1]'(by omega)).1<t[j].1)) (Q:=True) (rt:=rb true) ?_ ?_ (by omega) (λ_=>Ret.yes trivial)) (fE.trans tW.symm)
 ·intro rec i y;simp only[Q17.s0];rw[decide_eq_true (by omega:(i:Int)<(FJ t:Int)),af y,ar i (by omega)];simp only[cond_true,FK];obtain⟨b,H,u⟩:=mQ K t[i];rw[H];simp only[FK];cases b with
  |false=>exact .inr ⟨λ⟨_,r,_⟩=>by simpa using u.2 r,rfl⟩
  |true =>
   simp only[FN,cond_false];by_cases z:(i:Int)>0
   ·rw[decide_eq_true z,ft i (by omega) (by omega),af (by omega:i-1<t.length)];simp only[cond_true,FK];by_cases r:t[i].1<=(t[i-1]'(by omega)).1
    ·rw[decide_eq_true r];exact .inr ⟨λ⟨_,_,I⟩=>by have:=I (by omega);omega,rfl⟩
    ·rw[decide_eq_false r];exact .inl ⟨⟨y,u.1 rfl,λ_=>by omega⟩,rfl⟩
   ·rw[decide_eq_false z];exact .inl ⟨⟨y,u.1 rfl,λ_=>by omega⟩,rfl⟩
 ·intro rec;simp only[Q17.s0];rw[decide_eq_false (by omega:¬ ((t.length:Int)<(FJ t:Int)))];rfl
inductive wW (t:List ah) (node:Int):Option Nat->Prop where
 |at_ (i:Nat) (h:i<t.length) (e:t[i].1=node):wW t node (some i)
 |no (h:∀ f∈t,f.1≠node):wW t node none
theorem fT (K:Nat)(t:List ah)(r:Int)(M:t.length<=1048576)(J:1048577<K) :
  ∃ o,wW t r o/\Q103.f K (t,r,())=some (((match o with|some i=>((i:Nat):Int)|none=>-1),()),()):=by
 have:=cG (step:=λrec a=>Q103.s0 K (t,r,()) rec a) t.length (λi=>(i:Int)) (λj=>∃ h:j<t.length,t[j].1=r) (some ((-1,()),())) (λj=>some ((((j:Nat):Int),()),())) ?_ ?_ t.length K 0 (by omega) (by omega)
 ·rcases this with ⟨y,z⟩|⟨j,_,y,⟨H,I⟩,_,z⟩
  ·refine⟨none,.no ?_,z⟩;rw[dQ];exact λi u e=>y i (FR _) u ⟨u,e⟩
  ·exact⟨some j,.at_ j H I,z⟩
 ·intro rec i u;simp only[Q103.s0];rw[decide_eq_true (by omega:(i:Int)<(FJ t:Int)),af u,ar i (by omega)];simp only[cond_true,FK];by_cases h:t[i].1=r
  ·right;refine⟨⟨u,h⟩,?_⟩;have:(t[i].1==r)=true:=by simpa using h
   rw[this];rfl
  ·left;refine⟨λ⟨_,y⟩=>h y,?_⟩;have:(t[i].1==r)=false:=by simpa using h
   rw[this];rfl
 ·intro rec;simp only[Q103.s0];rw[decide_eq_false (by omega:¬ ((t.length:Int)<(FJ t:Int)))];rfl
def fU (a b:Int):Int:=if a<b then -1 else if a>b then 1 else 0
theorem oW (K:Nat)(a b:Int):Q20.f K (a,b,())=some ((fU a b,()),()):=by
 have y:∀ x:Int,Q19.f K (x,())=rb false:=λx=>by simp[Q19.f]
 simp only[Q20.f,y,FK,cond_false,fU];by_cases r:a<b
 ·rw[decide_eq_true r,if_pos r];rfl
 ·rw[decide_eq_false r,if_neg r];by_cases u:a>b
  ·rw[decide_eq_true u,if_pos u];rfl
  ·rw[decide_eq_false u,if_neg u];rfl
theorem tX (a b:Int):fU a b<0<->a<b:=by
 unfold fU;by_cases r:a<b
 ·simp[r]
 ·by_cases u:a>b <;> simp[r,u]
theorem wd (a b:Int):fU a b>0<->a>b:=by
 unfold fU;by_cases r:a<b
 ·simp[r];omega
 ·by_cases u:a>b <;> simp[r,u]
theorem iS (a b:Int):fU a b=0<->a=b:=by
 unfold fU;by_cases r:a<b
 ·simp[r];omega
 ·by_cases u:a>b <;> simp[r,u] <;> omega
structure Cut (t:List ah) (node:Int) (m:Nat):Prop where
 le:m<=t.length
 lo:∀ i,(h:i<t.length)->i<m->t[i].1<node
 hi:∀ i,(h:i<t.length)->m<=i->node<=t[i].1
theorem tY (K:Nat)(t:List ah)(r:Int)(ht:t.length<=1048576)(I:Asc (λf:ah=>f.1) t)(hK:1048577<K) :
  ∃ m,Cut t r m/\Q22.f K (t,r,())=some ((((m:Nat):Int),decide (∃ h:m<t.length,t[m].1=r),()),()):=by
 let ks:Nat->Int:=λi=>if h:i<t.length then t[i].1 else 0
 have u:∀ i (h:i<t.length),ks i=t[i].1:=λi h=>by simp[ks,h]
 let H:Nat->Option ((Int×Bool×Unit)×Unit):=λm=>some ((((m:Nat):Int),decide (∃ h:m<t.length,t[m].1=r),()),())
 have Z:∀ f:ah,((Q21.f K (f,r,())).map λy=>y.1.1)=some (fU f.1 r):=λf=>by
  simp only[Q21.f];rw[oW];rfl
 have:=nO (step:=λrec a=>Q18.s0 K (t,r,(λM=>(Q21.f K (M.1,M.2.1,())).map λy=>y.1.1),()) rec a) (ks:=ks) (n:=t.length) (t:=r) H ht
  (λi j R X=>by
   rw[u i (by omega),u j X];exact ct.1 I i j (by omega) X R) ?_ ?_ t.length K 0 t.length (by omega) (FR _) (F3 _) (by omega) (λi J=>by omega) (λi J hn=>by omega)
 ·obtain⟨m,z,O,h3,h4⟩:=this;refine⟨m,⟨z,λi h J=>by rw[<- u i h];exact O i J,λi h J=>by rw[<- u i h];exact h3 i J h⟩,?_⟩;simp only[Q22.f];have e:Q18.f K (t,r,(λM=>(Q21.f K (M.1,M.2.1,())).map λy=>y.1.1),())=H m:=h4;rw[e];rfl
 ·intro rec a b a0 hb;have Y:(a+b) / 2<t.length:=by omega
  simp only[Q18.s0];rw[decide_eq_true (by omega:(a:Int)<(b:Int)),mj (by omega)];simp only[cond_true];rw[af Y];simp only[FK,Z];rw[u _ Y,ar _ (by omega)];by_cases h:t[(a+b) / 2].1<r
  ·rw[if_pos h,decide_eq_true ((tX _ _).2 h)];rfl
  ·rw[if_neg h,decide_eq_false (λz=>h ((tX _ _).1 z))];rfl
 ·intro rec a ha;simp only[Q18.s0];rw[decide_eq_false (by omega)];simp only[cond_false];by_cases h:a<t.length
  ·rw[decide_eq_true (by omega:(a:Int)<(FJ t:Int)),af h];simp only[cond_true,FK,Z,H];congr 3;by_cases z:t[a].1=r
   ·have:(fU t[a].1 r==0)=true:=by simpa using (iS t[a].1 r).2 z
    rw[this,decide_eq_true ⟨h,z⟩]
   ·have:(fU t[a].1 r==0)=false:=by
     rw[beq_eq_false_iff_ne];exact λe=>z ((iS _ _).1 e)
    rw[this,decide_eq_false (λ⟨_,O⟩=>z O)]
  ·rw[decide_eq_false (by omega)];simp only[cond_false,H];rw[decide_eq_false (λ⟨z,_⟩=>h z)]
def ak (n:Int):Int:=wr .i64 (Int.tdiv n 4)
theorem de (K:Nat)(n:Int):Q102.f K (n,())=some ((ak n,()),()):=rfl
theorem ml (K:Nat)(n:Int):Q26.f K (n,())=some ((ak n,()),()):=rfl
theorem mm (K:Nat)(n:aa):Q29.f K (n,())=some ((ak n.1,()),()):=rfl
abbrev aa.table (n:aa):List ah:=n.2.2.2.2.2.2.2.2.1
abbrev aa.cast (n:aa):List aO:=n.2.2.2.2.2.2.2.2.2.1
abbrev aa.probe (n:aa):ah:=n.2.2.2.2.2.2.2.2.2.2.1
abbrev aa.doubts (n:aa):List bV:=n.2.2.2.2.2.2.2.2.2.2.2.1
abbrev aa.coord (n:aa):cW:=n.2.2.2.2.2.2.2.2.2.2.2.2.1
abbrev aa.places (n:aa):List cm:=n.2.2.2.2.2.2.2.2.2.2.2.2.2.1
abbrev aa.others (n:aa):List ch:=n.2.2.2.2.2.2.2.2.2.2.2.2.2.2
structure NB (n:aa):Prop where
 table:(aa.table n).length<=1048576
 cast:(aa.cast n).length<=1048576
 doubts:(aa.doubts n).length<=1048576
 by_:∀ d∈aa.doubts n,d.2.2.2.length<=1048576
 places:(aa.places n).length<=1048576
 trips:∀ p∈aa.places n,p.2.2.length<=1048576
 others:(aa.others n).length<=1048576
 facts:∀ x∈aa.others n,x.2.length<=1048576
def cn (t:List ah)(s:Int):Prop:=∀ f∈t,ak f.1=s
theorem eo (K:Nat)(t:List ah)(s:Int)(y:t.length<=1048576)(u:1048577<K):Ret (Q101.f K (t,s,())) (cn t s):=by
 refine (gV t (step:=λrec a=>Q101.s0 K (t,s,()) rec a) (λi r=>¬ ak t[i].1≠s) y ?_ ?_ u (λ_=>Ret.yes trivial)).iff (fE.trans ?_)
 ·intro rec i r;simp only[Q101.s0];rw[decide_eq_true (by omega:(i:Int)<(FJ t:Int))];exact Rnd.ix (af r) ((Rnd.cndN (P:=ak t[i].1≠s) (by simp[ak]) (λ_=>Rnd.end_)).iff (by simp))
 ·intro rec;simp only[Q101.s0];rw[decide_eq_false (by omega:¬ ((t.length:Int)<(FJ t:Int)))];rfl
 ·rw[cn,dQ];exact⟨λh i r=>FM.1 (h i r),λh i r=>FM.2 (h i r)⟩
theorem yp (K:Nat)(t:List ah)(y:ah×Unit->Option Bool)(p:ah->Prop)(X:t.length<=1048576)(R:1048577<K)(hφ:∀ f∈t,∃ b,y (f,())=some b/\(b=true<->p f)) :
  Ret (Q25.f K (t,y,())) (∃ f∈t,p f):=by
 have:=cG (step:=λrec a=>Q24.s0 K (t,y,()) rec a) t.length (λi=>(i:Int)) (λj=>∃ h:j<t.length,p t[j]) (some ((-1,()),())) (λj=>some ((((j:Nat):Int),()),())) ?_ ?_ t.length K 0 (by omega) (by omega)
 ·simp only[Q25.f];rcases this with ⟨z,r⟩|⟨j,_,z,⟨I,J⟩,_,r⟩
  ·have e:Q24.f K (t,y,())=some ((-1,()),()):=r;rw[e];refine Ret.of ?_;simp only[ge_iff_le,decide_eq_true_eq];refine⟨λh=>absurd h (by decide),λ⟨f,M,O⟩=>?_⟩;obtain⟨i,u,H⟩:=FP M;exact absurd ⟨u,H ▸ O⟩ (z i (FR _) u)
  ·have e:Q24.f K (t,y,())=some ((((j:Nat):Int),()),()):=r;rw[e];refine Ret.of ?_;simp only[ge_iff_le,decide_eq_true_eq];exact⟨λ_=>⟨t[j],FL I,J⟩,λ_=>FS j⟩
 ·intro rec i u;simp only[Q24.s0];rw[decide_eq_true (by omega:(i:Int)<(FJ t:Int)),af u,ar i (by omega)];simp only[cond_true,FK];obtain⟨b,z,r⟩:=hφ t[i] (FL u);rw[z];simp only[FK];cases b with
  |true=>exact .inr ⟨⟨u,r.1 rfl⟩,rfl⟩
  |false=>exact .inl ⟨λ⟨_,h⟩=>by simpa using r.2 h,rfl⟩
 ·intro rec;simp only[Q24.s0];rw[decide_eq_false (by omega:¬ ((t.length:Int)<(FJ t:Int)))];rfl
theorem sm (K:Nat)(t:List aO)(y:aO×Unit->Option Bool)(p:aO->Prop)(X:t.length<=1048576)(R:1048577<K)(hφ:∀ f∈t,∃ b,y (f,())=some b/\(b=true<->p f)) :
  Ret (Q31.f K (t,y,())) (∃ f∈t,p f):=by
 have:=cG (step:=λrec a=>Q30.s0 K (t,y,()) rec a) t.length (λi=>(i:Int)) (λj=>∃ h:j<t.length,p t[j]) (some ((-1,()),())) (λj=>some ((((j:Nat):Int),()),())) ?_ ?_ t.length K 0 (by omega) (by omega)
 ·simp only[Q31.f];rcases this with ⟨z,r⟩|⟨j,_,z,⟨I,J⟩,_,r⟩
  ·have e:Q30.f K (t,y,())=some ((-1,()),()):=r;rw[e];refine Ret.of ?_;simp only[ge_iff_le,decide_eq_true_eq];refine⟨λh=>absurd h (by decide),λ⟨f,M,O⟩=>?_⟩;obtain⟨i,u,H⟩:=FP M;exact absurd ⟨u,H ▸ O⟩ (z i (FR _) u)
  ·have e:Q30.f K (t,y,())=some ((((j:Nat):Int),()),()):=r;rw[e];refine Ret.of ?_;simp only[ge_iff_le,decide_eq_true_eq];exact⟨λ_=>⟨t[j],FL I,J⟩,λ_=>FS j⟩
 ·intro rec i u;simp only[Q30.s0];rw[decide_eq_true (by omega:(i:Int)<(FJ t:Int)),af u,ar i (by omega)];simp only[cond_true,FK];obtain⟨b,z,r⟩:=hφ t[i] (FL u);rw[z];simp only[FK];cases b with
  |true=>exact .inr ⟨⟨u,r.1 rfl⟩,rfl⟩
  |false=>exact .inl ⟨λ⟨_,h⟩=>by simpa using r.2 h,rfl⟩
 ·intro rec;simp only[Q30.s0];rw[decide_eq_false (by omega:¬ ((t.length:Int)<(FJ t:Int)))];rfl
theorem zS (K:Nat)(t:List Int)(y:Int×Unit->Option Bool)(p:Int->Prop)(X:t.length<=1048576)(R:1048577<K)(hφ:∀ f∈t,∃ b,y (f,())=some b/\(b=true<->p f)) :
  Ret (Q47.f K (t,y,())) (∃ f∈t,p f):=by
 have:=cG (step:=λrec a=>Q46.s0 K (t,y,()) rec a) t.length (λi=>(i:Int)) (λj=>∃ h:j<t.length,p t[j]) (some ((-1,()),())) (λj=>some ((((j:Nat):Int),()),())) ?_ ?_ t.length K 0 (by omega) (by omega)
 ·simp only[Q47.f];rcases this with ⟨z,r⟩|⟨j,_,z,⟨I,J⟩,_,r⟩
  ·have e:Q46.f K (t,y,())=some ((-1,()),()):=r;rw[e];refine Ret.of ?_;simp only[ge_iff_le,decide_eq_true_eq];refine⟨λh=>absurd h (by decide),λ⟨f,M,O⟩=>?_⟩;obtain⟨i,u,H⟩:=FP M;exact absurd ⟨u,H ▸ O⟩ (z i (FR _) u)
  ·have e:Q46.f K (t,y,())=some ((((j:Nat):Int),()),()):=r;rw[e];refine Ret.of ?_;simp only[ge_iff_le,decide_eq_true_eq];exact⟨λ_=>⟨t[j],FL I,J⟩,λ_=>FS j⟩
 ·intro rec i u;simp only[Q46.s0];rw[decide_eq_true (by omega:(i:Int)<(FJ t:Int)),af u,ar i (by omega)];simp only[cond_true,FK];obtain⟨b,z,r⟩:=hφ t[i] (FL u);rw[z];simp only[FK];cases b with
  |true=>exact .inr ⟨⟨u,r.1 rfl⟩,rfl⟩
  |false=>exact .inl ⟨λ⟨_,h⟩=>by simpa using r.2 h,rfl⟩
 ·intro rec;simp only[Q46.s0];rw[decide_eq_false (by omega:¬ ((t.length:Int)<(FJ t:Int)))];rfl
theorem Ret.fn {o:Option RB}{P:Prop}(h:Ret o P):∃ b,(o.map λy=>y.1.1)=some b/\(b=true<->P):=by
 obtain⟨b,r,u⟩:=h;exact⟨b,by rw[r];rfl,u⟩
theorem gq (K:Nat)(t:List ah)(s:Int)(H:t.length<=1048576)(z:1048577<K):Ret (Q28.f K (t,s,())) (cn t s):=by
 refine (Ret.neg (yp K t (λI=>(Q27.f K (I.1,s,())).map λy=>y.1.1) (λf=>ak f.1≠s) H z (λf _=>?_))).iff ?_
 ·exact⟨_,rfl,by simp[ak]⟩
 ·exact⟨λh f u=>FM.1 λr=>h ⟨f,u,r⟩,λh ⟨f,u,r⟩=>r (h f u)⟩
theorem kg (K:Nat)(t:List ah)(r:Int)(O:t.length<=1048576)(J:1048577<K) :
  (¬ aE t/\Q23.f K (t,r,())=some (((0,(0,(0,false))),false,()),())) \/
  (aE t/\((∃ f∈t,f.1=r/\Q23.f K (t,r,())=some ((f,true,()),()))\/((∀ f∈t,f.1≠r)/\Q23.f K (t,r,())=some (((0,(0,(0,false))),false,()),())))):=by
 simp only[Q23.f];obtain⟨b,R,H⟩:=gX K t O J;rw[R];simp only[FK];cases b with
 |false=>exact .inl ⟨λh=>by simpa using H.2 h,rfl⟩
 |true =>
  have y:=H.1 rfl;obtain⟨m,M,X⟩:=tY K t r O y.2 J;refine .inr ⟨y,?_⟩;simp only[FN,cond_false,X,FK];by_cases h:∃ h:m<t.length,t[m].1=r
  ·rw[decide_eq_true h];obtain⟨u,I⟩:=h;left;refine⟨t[m],FL u,I,?_⟩;simp only[FN,cond_false];rw[af u];rfl
  ·rw[decide_eq_false h];right;refine⟨?_,rfl⟩;rw[dQ];intro i z e;rcases Nat.lt_trichotomy i m with u|u|u
   ·have:=M.lo i z u;omega
   ·subst u;exact h ⟨z,e⟩
   ·have I:=M.hi m (by omega) (F3 _);have Y:=ct.1 y.2 m i (by omega) z u;omega
def bP (f g:ah):Prop:=if f.2.1≠g.2.1 then f.2.1>g.2.1 else if f.2.2.1≠g.2.2.1 then f.2.2.1>g.2.2.1 else f.2.2.2=true/\g.2.2.2=false
theorem tZ (K:Nat)(f g:ah):Ret (Q106.f K (f,g,())) (bP f g):=by
 simp only[Q106.f,bP];by_cases r:f.2.1=g.2.1
 ·have e:(f.2.1 != g.2.1)=false:=by simpa using r
  rw[e,if_neg (by simpa using r)];by_cases u:f.2.2.1=g.2.2.1
  ·have e:(f.2.2.1 != g.2.2.1)=false:=by simpa using u
   rw[e,if_neg (by simpa using u)];exact (Ret.cnd (b:=f.2.2.2) Iff.rfl (λ_=>Ret.of (b:=!g.2.2.2) (by simp))).iff Iff.rfl
  ·have e:(f.2.2.1 != g.2.2.1)=true:=by simpa using u
   rw[e,if_pos u];exact Ret.dec
 ·have e:(f.2.1 != g.2.1)=true:=by simpa using r
  rw[e,if_pos r];exact Ret.dec
def orI:List Int->Int
 |[]=>0
 |x::r=>if x≠0 then x else orI r
theorem Cn (K:Nat)(xs:List Int)(M:xs.length<=1048576)(J:1048577<K):Q35.f K (xs,())=some ((orI xs,()),()):=by
 have z:∀ (d k i:Nat),i+d=xs.length->d<k->ae (λrec a=>Q35.s0 K (xs,()) rec a) k (i:Int)=some ((orI (xs.drop i),()),()):=by
  intro d;induction d with
  |zero =>
   intro k i H I;obtain⟨k,rfl⟩:∃ y,k=y+1:=⟨k-1,by omega⟩;show Q35.s0 K (xs,()) _ _=_;simp only[Q35.s0];rw[decide_eq_false (by omega:¬ ((i:Int)<(FJ xs:Int))),FW (by omega)];rfl
  |succ d u =>
   intro k i H I;obtain⟨k,rfl⟩:∃ y,k=y+1:=⟨k-1,by omega⟩;have u:=u k (i+1) (by omega) (by omega);show Q35.s0 K (xs,()) _ _=_;simp only[Q35.s0];have r:i<xs.length:=by omega
   rw[decide_eq_true (by omega:(i:Int)<(FJ xs:Int)),af r,ar i (by omega),FT r];simp only[cond_true,FK,orI];by_cases h:xs[i]=0
   ·have e:(xs[i] != 0)=false:=by simpa using h
    rw[e,if_neg (by simpa using h)];exact u
   ·have e:(xs[i] != 0)=true:=by simpa using h
    rw[e,if_pos h];rfl
 have:=z xs.length K 0 (by omega) (by omega)
 rwa [F5]at this
def DM (f g:ah):Int:=orI [fU f.1 g.1,fU f.2.1 g.2.1,fU f.2.2.1 g.2.2.1,if f.2.2.2=true/\g.2.2.2=false then 1 else if g.2.2.2=true/\f.2.2.2=false then -1 else 0]
theorem nP (K:Nat)(f g:ah)(I:1048577<K):Q36.f K (f,g,())=some ((DM f g,()),()):=by
 obtain⟨a,b,c,d⟩:=f;obtain⟨r,u,y,H⟩:=g;have h:∀ z:Int,Q35.f K ([fU a r,fU b u,fU c y,z],())=some ((orI [fU a r,fU b u,fU c y,z],()),()):=λz=>Cn K _ (by simp) I
 simp only[Q36.f,DM];cases d <;> cases H <;> simp only[FN,FZ,cond_true,cond_false] <;> rw[oW,FK,oW,FK,oW,FK,h] <;> rfl
theorem pY {x:Int}(h:x=0)(xs:List Int):orI (x::xs)=orI xs:=by subst h;rfl
theorem we {x:Int}(h:x≠0)(xs:List Int):orI (x::xs)=x:=by simp[orI,h]
theorem kh {f g:ah}(e:f.1=g.1):DM f g>0<->bP f g:=by
 unfold DM bP;rw[pY ((iS f.1 g.1).2 e)];by_cases r:f.2.1=g.2.1
 ·rw[pY ((iS f.2.1 g.2.1).2 r),if_neg (show ¬ f.2.1≠g.2.1 from λh=>h r)];by_cases u:f.2.2.1=g.2.2.1
  ·rw[pY ((iS f.2.2.1 g.2.2.1).2 u),if_neg (show ¬ f.2.2.1≠g.2.2.1 from λh=>h u)];cases f.2.2.2 <;> cases g.2.2.2 <;> simp[orI]
  ·rw[we (λh=>u ((iS f.2.2.1 g.2.2.1).1 h)),if_pos (show f.2.2.1≠g.2.2.1 from u)];exact wd _ _
 ·rw[we (λh=>r ((iS f.2.1 g.2.1).1 h)),if_pos (show f.2.1≠g.2.1 from r)];exact wd _ _
theorem qE (K:Nat)(f g:ah)(r:1048577<K):Ret (Q37.f K (f,g,())) (bw f/\bw g/\f.1=g.1/\bP f g):=by
 refine Ret.and (mQ K f) (λ_=>Ret.and (mQ K g) (λ_=>?_) rfl) rfl;refine (Ret.cnd (b:=f.1==g.1) (P:=f.1=g.1) (by simp) (λe=>?_)).iff Iff.rfl;show Ret ((Q36.f K (f,g,())).bind _) _;rw[nP K f g r];refine Ret.of ?_;simp only[gt_iff_lt,decide_eq_true_eq];exact kh e
theorem bt {n:Nat}{m:Int}(h:(n:Int)<m):decide ((n:Int)<m)=true:=decide_eq_true h
theorem aS (n:Nat):decide ((n:Int)<(n:Int))=false:=decide_eq_false (by omega)
def da (l:List aO):Prop:=(∀ x∈l,bw x.1/\InP x.2 1 4)/\Asc (λx:aO=>x.1.1) l
theorem zT (K:Nat)(l:List aO)(z:l.length<=1048576)(y:1048577<K):Ret (Q105.f K (l,())) (da l):=by
 refine (gV l (step:=λrec a=>Q105.s0 K (l,()) rec a) (λi r=>bw l[i].1/\InP l[i].2 1 4/\(0<i->¬ (l[i-1]'(by omega)).1.1>=l[i].1.1)/\True) z ?_ ?_ y (λ_=>Ret.yes trivial)).iff (fE.trans ?_)
 ·intro rec i r;simp only[Q105.s0];rw[decide_eq_true (by omega:(i:Int)<(FJ l:Int))];simp only[cond_true];refine Rnd.ix (af r) (Rnd.nx (pX K _) λ_=>Rnd.ix (af r) (Rnd.nx (cK K _ 1 4) λ_=>Rnd.two (λu=>?_) Rnd.end_));rw[ft i u (by omega)];exact Rnd.ix (af (by omega)) (Rnd.ix (af r) (Rnd.cndN (by simp) λ_=>Rnd.end_))
 ·intro rec;simp only[Q105.s0,aS];rfl
 ·rw[da,dQ,it];constructor
  ·intro h;exact⟨λi r=>⟨(h i r).1,(h i r).2.1⟩,λi r u=>by have:=(h i r).2.2.1 u;omega⟩
  ·rintro⟨h1,h2⟩ i r;exact⟨(h1 i r).1,(h1 i r).2,λu=>by have:=h2 i r u;omega,trivial⟩
theorem wg (K:Nat)(l:List aO)(O:l.length<=1048576)(M:1048577<K):Q33.f K (l,())=some ((l.map (·.1),()),()):=by
 have z:∀ (d k i:Nat),i+d=l.length->d<k->ae (λrec a=>Q33.s0 K (l,()) rec a) k ((l.take i).map (·.1),(i:Int))=some ((l.map (·.1),()),()):=by
  intro d;induction d with
  |zero =>
   intro k i H I;obtain⟨k,rfl⟩:∃ y,k=y+1:=⟨k-1,by omega⟩;show Q33.s0 K (l,()) _ _=_;simp only[Q33.s0];rw[decide_eq_false (by omega:¬ ((i:Int)<(FJ l:Int))),FX (by omega)];rfl
  |succ d u =>
   intro k i H I;obtain⟨k,rfl⟩:∃ y,k=y+1:=⟨k-1,by omega⟩;have u:=u k (i+1) (by omega) (by omega);show Q33.s0 K (l,()) _ _=_;have r:i<l.length:=by omega
   simp only[Q33.s0];rw[decide_eq_true (by omega:(i:Int)<(FJ l:Int)),af r,ar i (by omega)];simp only[cond_true,FK];have J:decide ((FJ (List.map (λx:aO=>x.1) (List.take i l))+FJ [l[i].1])*32<=am)=true:=decide_eq_true (by simp only[am,List.length_map,List.length_take,FY];omega);rw[J];have e:(List.take i l).map (λx:aO=>x.1)++[l[i].1]=(l.take (i+1)).map (·.1):=by
    rw[F1,FO r,List.map_append];rfl
   rw[e];exact u
 have:=z l.length K 0 (by omega) (by omega);exact this
theorem wX {l:List aO}:aE (l.map (·.1))<->(∀ x∈l,bw x.1)/\Asc (λx:aO=>x.1.1) l:=by
 unfold aE Asc;rw[FU];simp
theorem yq (K:Nat)(x:aO):Ret (Q32.f K (x,())) (¬ InP x.2 1 4):=by
 simp only[Q32.f];exact (eY K x.2 1 4).neg
theorem zU (K:Nat)(l:List aO)(u:l.length<=1048576)(r:1048577<K):Ret (Q31.f K (l,(λz=>(Q32.f K (z.1,())).map λy=>y.1.1),())) (∃ x∈l,¬ InP x.2 1 4) :=
 sm K l _ (λx=>¬ InP x.2 1 4) u r (λx _=>Ret.fn (yq K x))
theorem pZ (K:Nat)(l:List aO)(y:l.length<=1048576)(u:1048577<K):Ret (Q34.f K (l,())) (da l):=by
 simp only[Q34.f];obtain⟨z,I,J⟩:=zU K l y u;obtain⟨H,M,O⟩:=gX K (l.map (·.1)) (by simpa using y) u;rw[wg K l y u,FK,M,FK,I,FK];have e:da l<->(H=true/\z=false):=by
  rw[O,wX,da,<- Bool.not_eq_true,J];constructor
  ·rintro⟨h5,h6⟩;exact⟨⟨λx r=>(h5 x r).1,h6⟩,λ⟨x,r,h⟩=>h (h5 x r).2⟩
  ·rintro⟨⟨h5,h6⟩,h7⟩;exact⟨λx r=>⟨h5 x r,FM.1 λh=>h7 ⟨x,r,h⟩⟩,h6⟩
 refine Ret.iff ?_ e.symm;cases H <;> cases z <;> exact⟨_,rfl,by simp⟩
def iD (t:List ah)(l:List aO):Prop:=∀ x∈l,∃ f∈t,f.1=x.1.1/\¬ bP x.1 f
theorem iT {t:List ah}(h:Asc (λf:ah=>f.1) t){f g:ah}(r:f∈t)(u:g∈t)(e:f.1=g.1):f=g:=by
 obtain⟨i,y,rfl⟩:=FP r;obtain⟨j,z,rfl⟩:=FP u;have:=pW h y z e;subst this;rfl
theorem vA (K:Nat)(n:aa)(H:NB n)(M:aE (aa.table n))(r:1048577<K):Ret (Q107.f K (n,())) (da (aa.cast n)/\iD (aa.table n) (aa.cast n)):=by
 refine Ret.nx (zT K _ H.cast r) λ_=>?_
 refine (gV (aa.cast n) (step:=λrec a=>Q107.s0 K (n,()) rec a) (λi y=>∃ f∈aa.table n,f.1=(aa.cast n)[i].1.1/\¬ bP (aa.cast n)[i].1 f) H.cast ?_ ?_ r (λ_=>Ret.yes trivial)).iff (fE.trans ?_)
 ·intro rec i y;simp only[Q107.s0];rw[decide_eq_true (by omega:(i:Int)<(FJ (aa.cast n):Int))];simp only[cond_true];refine Rnd.ix (af y) ?_;obtain⟨o,O,J⟩:=fT K (aa.table n) (aa.cast n)[i].1.1 H.table r;refine Rnd.vl J ?_;cases O with
  |no h =>
   rw[show decide ((-1:Int)<0)=true from rfl];exact .inr ⟨λ⟨f,u,e,_⟩=>h f u e,rfl⟩
  |at_ j z e =>
   simp only;rw[decide_eq_false (by omega:¬ ((j:Int)<0))];refine (Rnd.ix (af y) (Rnd.ix (af z) (Rnd.fx (tZ K _ _) λ_=>Rnd.end_))).iff ⟨λh=>⟨_,FL z,e,h.1⟩,λ⟨f,u,I,h⟩=>⟨?_,trivial⟩⟩;have:=iT M.2 u (FL z) (I.trans e.symm)
   rwa [<- this]
 ·intro rec;simp only[Q107.s0,aS];rfl
 ·rw[iD,dQ]
theorem zV (K:Nat)(n:aa)(O:NB n)(M:aE (aa.table n))(X:da (aa.cast n))(J:1048577<K) :
  Ret ((Q31.f K (aa.cast n,(λZ=>(Q38.f K (Z.1,n,())).map λy=>y.1.1),())).bind λy6=>some ((!y6.1.1,()),())) (iD (aa.table n) (aa.cast n)):=by
 refine (Ret.neg (sm K _ _ (λx=>¬ ∃ f∈aa.table n,f.1=x.1.1/\¬ bP x.1 f) O.cast J (λx H=>Ret.fn ?_))).iff ?_
 ·simp only[Q38.f];rcases kg K (aa.table n) x.1.1 O.table J with ⟨r,_⟩|⟨_,⟨f,z,e,r⟩|⟨u,r⟩⟩
  ·exact absurd M r
  ·refine Ret.vl r ?_;refine (qE K x.1 f J).id.iff ⟨λh ⟨g,Y,R,I⟩=>?_,λh=>?_⟩
   ·have:=iT M.2 Y z (R.trans e.symm);exact I (this ▸ h.2.2.2)
   ·refine⟨(X.1 x H).1,M.1 f z,e.symm,FM.1 λI=>h ⟨f,z,e,I⟩⟩
  ·refine Ret.vl r ?_;exact Ret.yes (λ⟨f,z,e,_⟩=>u f z e)
 ·exact⟨λh x H=>FM.1 λu=>h ⟨x,H,u⟩,λh ⟨x,H,u⟩=>u (h x H)⟩
def dt (n:aa):Prop:=((n.1,n.2.2.2.2.1,(if n.2.2.1=true then 4 else 1),n.2.2.2.1):ah)∈aa.table n
theorem Co (K:Nat)(n:aa)(J:NB n)(I:aE (aa.table n))(H:1048577<K):Ret (Q104.f K (n,())) (dt n):=by
 simp only[Q104.f];obtain⟨o,M,y⟩:=fT K (aa.table n) n.1 J.table H;refine Ret.vl y ?_;cases M with
 |no h =>
  rw[show decide ((-1:Int)<0)=true from rfl];exact Ret.no (λz=>h _ z rfl)
 |at_ j u e =>
  simp only;rw[decide_eq_false (by omega:¬ ((j:Int)<0))];refine Ret.vl (af u) ?_;have r:dt n<->(aa.table n)[j]=((n.1,n.2.2.2.2.1,(if n.2.2.1=true then 4 else 1),n.2.2.2.1):ah):=by
   constructor
   ·intro h;exact iT I.2 (FL u) h e
   ·intro h;show _∈_;rw[<- h];exact FL u
  have O:(aa.table n)[j]=((n.1,n.2.2.2.2.1,(if n.2.2.1=true then 4 else 1),n.2.2.2.1):ah)<->((aa.table n)[j].2.1=n.2.2.2.2.1/\(aa.table n)[j].2.2.1=(if n.2.2.1=true then 4 else 1)/\(aa.table n)[j].2.2.2=n.2.2.2.1):=by
   generalize (aa.table n)[j]=f at e ⊢;obtain⟨a,b,c,d⟩:=f;simp at e ⊢;intro _ _ _;exact e
  refine Ret.iff ?_ (r.trans O).symm;cases R:n.2.2.1 with
  |true=>exact Ret.cnd (by simp) λ_=>Ret.cnd (by simp) λ_=>Ret.of (by simp)
  |false=>exact Ret.cnd (by simp) λ_=>Ret.cnd (by simp) λ_=>Ret.of (by simp)
theorem iE (f g:ah):Ty.eqv ty_impl_Fact_D f g=decide (f=g):=by
 obtain⟨a,b,c,d⟩:=f;obtain⟨u,y,z,r⟩:=g;show (decide (a=u)&&(decide (b=y)&&(decide (c=z)&&(d==r))))=_;cases d <;> cases r <;> simp[F0]
theorem qF (f g:cW):Ty.eqv ty_impl_Coord_D f g=decide (f=g):=by
 obtain⟨a,b,c,d⟩:=f;obtain⟨r,u,y,z⟩:=g;show (decide (a=r)&&(decide (b=u)&&(decide (c=y)&&decide (d=z))))=_;simp[F0]
theorem rG (K:Nat)(n:aa)(M:NB n)(J:1048577<K):Ret (Q39.f K (n,()))
  (aE (aa.table n)/\cn (aa.table n) (ak n.1)/\dt n/\da (aa.cast n)/\iD (aa.table n) (aa.cast n)):=by
 have H:∀ (w:Int),aE (aa.table n)->Ret ((Q29.f K (n,())).bind λR=>(Q28.f K (aa.table n,R.1.1,())).bind λX=>bif !X.1.1 then rb false else
   ((Q34.f K (aa.cast n,())).bind λY=>bif !Y.1.1 then rb false else
    ((Q31.f K (aa.cast n,(λZ=>(Q38.f K (Z.1,n,())).map λy=>y.1.1),())).bind λy6=>some ((!y6.1.1,()),()))))
   (cn (aa.table n) (ak n.1)/\da (aa.cast n)/\iD (aa.table n) (aa.cast n)):=by
  intro _ z;exact Ret.vl (mm K n) (Ret.nx (gq K _ _ M.table J) λ_=>Ret.nx (pZ K _ M.cast J) λhC=>zV K n M z hC J)
 have r:∀ (w:Int),w=(if n.2.2.1=true then 4 else 1)->Ret ((Q23.f K (aa.table n,n.1,())).bind λy1=>bif !y1.1.2.1 then rb false else bif !Ty.eqv ty_impl_Fact_D y1.1.1 (n.1,(n.2.2.2.2.1,(w,n.2.2.2.1))) then rb false else
   ((Q29.f K (n,())).bind λR=>(Q28.f K (aa.table n,R.1.1,())).bind λX=>bif !X.1.1 then rb false else
   ((Q34.f K (aa.cast n,())).bind λY=>bif !Y.1.1 then rb false else
    ((Q31.f K (aa.cast n,(λZ=>(Q38.f K (Z.1,n,())).map λy=>y.1.1),())).bind λy6=>some ((!y6.1.1,()),())))))
   (aE (aa.table n)/\cn (aa.table n) (ak n.1)/\dt n/\da (aa.cast n)/\iD (aa.table n) (aa.cast n)):=by
  intro w hw;rcases kg K (aa.table n) n.1 M.table J with ⟨u,O⟩|⟨z,⟨f,hf,e,u⟩|⟨O,u⟩⟩
  ·exact Ret.vl O (Ret.no (λh=>u h.1))
  ·refine Ret.vl u ?_;simp only[FN,cond_false];rw[iE];by_cases I:f=(n.1,(n.2.2.2.2.1,(w,n.2.2.2.1)))
   ·rw[decide_eq_true I];have hS:dt n:=by
     show _∈_;rw[<- hw,<- I];exact hf
    exact (H w z).iff ⟨λh=>⟨z,h.1,hS,h.2.1,h.2.2⟩,λh=>⟨h.2.1,h.2.2.2⟩⟩
   ·rw[decide_eq_false I];refine Ret.no (λh=>I ?_);have:=iT z.2 hf h.2.2.1 e;rw[this,hw]
  ·refine Ret.vl u (Ret.no (λh=>O _ h.2.2.1 rfl))
 simp only[Q39.f];cases hg:n.2.2.1 with
 |true=>exact r 4 (by rw[hg];rfl)
 |false=>exact r 1 (by rw[hg];rfl)
def dm (n:aa):Prop:=if (aa.probe n).1=-1 then aa.probe n=(-1,0,0,false) else
 (aa.probe n).1≠n.1/\(∃ f∈aa.table n,f.1=(aa.probe n).1)/\InP (aa.probe n).2.1 0 n.2.2.2.2.2.1/\InP (aa.probe n).2.2.1 1 n.2.2.2.2.2.2.1
theorem Bp (K:Nat)(n:aa)(J:NB n)(z:1048577<K):Ret (Q108.f K (n,())) (dm n):=by
 simp only[Q108.f,dm];by_cases h:(aa.probe n).1=-1
 ·rw[if_pos h,show ((aa.probe n).1==-1)=true by simpa using h];refine (Ret.cnd (P:=(aa.probe n).2.1=0) (by simp) λ_=>Ret.cnd (P:=(aa.probe n).2.2.1=0) (by simp) λ_=>Ret.of (P:=(aa.probe n).2.2.2=false) (by simp)).iff ?_;generalize aa.probe n=p at h ⊢;obtain⟨a,b,c,d⟩:=p;simp at h ⊢;intro _ _ _;exact h
 ·rw[if_neg h,show ((aa.probe n).1==-1)=false by simpa using h];refine Ret.cnd (by simp) λ_=>?_
  obtain⟨o,M,u⟩:=fT K (aa.table n) (aa.probe n).1 J.table z;refine Ret.vl u ?_;cases M with
  |no y=>exact Ret.no (λ⟨⟨f,H,e⟩,_⟩=>y f H e)
  |at_ j I e =>
   simp only;rw[show decide ((j:Int)>=0)=true from decide_eq_true (by omega)];exact (Ret.px (cK K _ _ _) λ_=>(cK K _ _ _).id).iff ⟨λr=>⟨⟨_,FL I,e⟩,r⟩,λr=>r.2⟩
theorem Bq (K:Nat)(n:aa)(J:NB n)(I:aE (aa.table n))(H:1048577<K):Ret (Q40.f K (n,())) (dm n):=by
 simp only[Q40.f,dm];by_cases h:(aa.probe n).1=-1
 ·rw[if_pos h,show ((aa.probe n).1==-1)=true by simpa using h,iE];exact Ret.dec
 ·rw[if_neg h,show ((aa.probe n).1==-1)=false by simpa using h];rcases kg K (aa.table n) (aa.probe n).1 J.table H with ⟨r,_⟩|⟨_,⟨f,y,e,r⟩|⟨z,r⟩⟩
  ·exact absurd I r
  ·refine Ret.vl r ?_;exact (Ret.cnd (P:=(aa.probe n).1≠n.1) (by simp) λ_=>Ret.px (eY K _ _ _) λ_=>(eY K _ _ _).id).iff ⟨λu=>⟨u.1,⟨f,y,e⟩,u.2⟩,λu=>⟨u.1,u.2.2⟩⟩
  ·exact Ret.vl r (Ret.no (λ⟨_,⟨f,y,e⟩,_⟩=>z f y e))
def bX (c:cW):Prop:=InP c.1 (-100000) 100000/\InP c.2.1 (-100000) 100000/\InP c.2.2.1 0 100000/\InP c.2.2.2 1 1500
theorem fu (K:Nat)(c:cW):Ret (Q110.f K (c,())) (bX c) :=
 Ret.px (cK K _ _ _) λ_=>Ret.px (cK K _ _ _) λ_=>Ret.px (cK K _ _ _) λ_=>(cK K _ _ _).id
theorem ji (K:Nat)(c:cW):Ret (Q43.f K (c,())) (bX c) :=
 Ret.px (eY K _ _ _) λ_=>Ret.px (eY K _ _ _) λ_=>Ret.px (eY K _ _ _) λ_=>(eY K _ _ _).id
def Cp (r:Int)(p:cm):Prop:=InP p.1 0 7/\ak p.1=ak r/\p.1≠r/\bX p.2.1/\InP (p.2.2.length:Int) 1 3/\∀ t∈p.2.2,InP t 1 60000
def eT (r:Int)(l:List cm):Prop:=(∀ p∈l,Cp r p)/\Asc (λp:cm=>p.1) l
theorem nQ (K:Nat)(n:aa)(x:Int):Ret (Q41.f K (n,x,())) (InP x 0 7/\ak x=ak n.1):=by
 refine Ret.px (jM K x) λ_=>?_
 exact Ret.of (b:=ak x==ak n.1) (by simp)
theorem Br (K:Nat)(n:aa)(x:Int):Ret (Q44.f K (n,x,())) ((InP x 0 7/\ak x=ak n.1)/\x≠n.1):=by
 refine Ret.px (nQ K n x) λ_=>?_
 exact Ret.of (b:=x != n.1) (by simp)
theorem zW (K:Nat)(n:aa)(Y:NB n)(hK:1048577<K):Ret (Q111.f K (n,())) (eT n.1 (aa.places n)):=by
 refine (gV (aa.places n) (step:=λrec a=>Q111.s0 K (n,()) (Q111.l1 K (n,()) rec) rec a)
  (λi y=>InP (aa.places n)[i].1 0 7/\¬ ak (aa.places n)[i].1≠ak n.1/\¬ (aa.places n)[i].1=n.1/\(0<i->¬ ((aa.places n)[i-1]'(by omega)).1>=(aa.places n)[i].1) /\
   bX (aa.places n)[i].2.1/\InP ((aa.places n)[i].2.2.length:Int) 1 3/\∀ k (z:k<(aa.places n)[i].2.2.length),InP (aa.places n)[i].2.2[k] 1 60000/\True) Y.places ?_ ?_ hK (λ_=>Ret.yes trivial)).iff (fE.trans ?_)
 ·intro rec i y;have hb:=Y.trips _ (FL y);have hl:=Y.places;have r:Rnd (Q111.l1 K (n,()) rec ((i:Int),0,(aa.places n)[i].1,(aa.places n)[i].2.1.1,(aa.places n)[i].2.1.2.1,(aa.places n)[i].2.1.2.2.1,(aa.places n)[i].2.1.2.2.2,(aa.places n)[i].2.2))
    (∀ k (z:k<(aa.places n)[i].2.2.length),InP (aa.places n)[i].2.2[k] 1 60000/\True) (rec (wr .i64 ((i:Int)+1))):=by
   generalize (aa.places n)[i]=p at hb;refine pV p.2.2 (step:=λu a=>Q111.s1 K (n,()) rec u a) (λk=>((i:Int),(k:Int),p.1,p.2.1.1,p.2.1.2.1,p.2.1.2.2.1,p.2.1.2.2.2,p.2.2)) (λk z=>InP p.2.2[k] 1 60000/\True) hb ?_ ?_ hK
   ·intro u k z;simp only[Q111.s1];rw[decide_eq_true (by omega:(k:Int)<(FJ p.2.2:Int)),ar k (by omega)];simp only[cond_true];exact Rnd.ix (af z) (Rnd.nx (cK K _ _ _) λ_=>Rnd.end_)
   ·intro u;simp only[Q111.s1,aS];rfl
  simp only[Q111.s0];rw[decide_eq_true (by omega:(i:Int)<(FJ (aa.places n):Int))];simp only[cond_true];refine Rnd.ix (af y) (Rnd.nx (cK K _ _ _) λ_=>Rnd.vl (de K _) (Rnd.vl (de K _) (Rnd.cndN (by simp) λ_=>Rnd.cndN (by simp) λ_=>Rnd.two (λH=>?_) ?_)))
  ·rw[ft i H (by omega)];exact Rnd.ix (af (show i-1<(aa.places n).length by omega)) (Rnd.cndN (by simp) λ_=>Rnd.nx (fu K _) λ_=>Rnd.nx (cK K _ _ _) λ_=>r)
  ·exact Rnd.nx (fu K _) λ_=>Rnd.nx (cK K _ _ _) λ_=>r
 ·intro rec;simp only[Q111.s0,aS];rfl
 ·rw[eT,dQ,it];constructor
  ·intro h;refine⟨λi y=>?_,λi y H=>?_⟩
   ·obtain⟨I,J,M,Z,O,R,X⟩:=h i y;exact⟨I,FM.1 J,M,O,R,dQ.2 λk z=>(X k z).1⟩
   ·have:=(h i y).2.2.2.1 H;omega
  ·rintro⟨I,J⟩ i y;obtain⟨M,Z,O,R,X,h8⟩:=I i y;exact⟨M,FM.2 Z,O,λH=>by have:=J i y H;omega,R,X,λk z=>⟨dQ.1 h8 k z,trivial⟩⟩
theorem zX (K:Nat)(n:aa)(Y:NB n)(hK:1048577<K):Ret (Q48.f K (n,())) (eT n.1 (aa.places n)):=by
 refine (gV (aa.places n) (step:=λrec a=>Q48.s0 K (n,()) rec a)
  (λi u=>((InP (aa.places n)[i].1 0 7/\ak (aa.places n)[i].1=ak n.1)/\(aa.places n)[i].1≠n.1)/\(0<i->¬ (aa.places n)[i].1<=((aa.places n)[i-1]'(by omega)).1) /\
   bX (aa.places n)[i].2.1/\InP ((aa.places n)[i].2.2.length:Int) 1 3/\(¬ ∃ t∈(aa.places n)[i].2.2,¬ InP t 1 60000)/\True) Y.places ?_ ?_ hK (λ_=>Ret.yes trivial)).iff (fE.trans ?_)
 ·intro rec i u;have hb:=Y.trips _ (FL u);have hl:=Y.places;have r:Ret (Q47.f K ((aa.places n)[i].2.2,(λy6=>(Q45.f K (y6.1,())).map λy=>y.1.1),())) (∃ t∈(aa.places n)[i].2.2,¬ InP t 1 60000) :=
   zS K _ _ _ hb hK (λt _=>Ret.fn (eY K t _ _).neg)
  simp only[Q48.s0];rw[decide_eq_true (by omega:(i:Int)<(FJ (aa.places n):Int))];simp only[cond_true];refine Rnd.ix (af u) (Rnd.nx (Br K n _) λ_=>Rnd.two (λz=>?_) ?_)
  ·rw[ft i z (by omega)];exact Rnd.ix (af (show i-1<(aa.places n).length by omega)) (Rnd.cndN (by simp) λ_=>Rnd.nx (ji K _) λ_=>Rnd.nx (eY K _ _ _) λ_=>Rnd.fx r λ_=>Rnd.end_)
  ·exact Rnd.nx (ji K _) λ_=>Rnd.nx (eY K _ _ _) λ_=>Rnd.fx r λ_=>Rnd.end_
 ·intro rec;simp only[Q48.s0,aS];rfl
 ·rw[eT,dQ,it];constructor
  ·intro h;refine⟨λi u=>?_,λi u z=>?_⟩
   ·obtain⟨⟨⟨H,I⟩,J⟩,h4,M,O,R,_⟩:=h i u;exact⟨H,I,J,M,O,λt Z=>FM.1 λX=>R ⟨t,Z,X⟩⟩
   ·have:=(h i u).2.1 z;omega
  ·rintro⟨H,I⟩ i u;obtain⟨J,h4,M,O,R,X⟩:=H i u;exact⟨⟨⟨J,h4⟩,M⟩,λz=>by have:=I i u z;omega,O,R,λ⟨t,Z,h9⟩=>h9 (X t Z),trivial⟩
def Cq (r:Int)(x:ch):Prop:=InP x.1 0 1/\x.1≠ak r/\x.2≠[]/\aE x.2/\cn x.2 x.1
def dn (r:Int)(l:List ch):Prop:=(∀ x∈l,Cq r x)/\Asc (λx:ch=>x.1) l
theorem p6 {α:Type}(l:List α):((FJ l:Int)==0)=true<->l=[]:=by
 cases l <;> simp;omega
theorem zY (K:Nat)(n:aa)(H:NB n)(y:1048577<K):Ret (Q112.f K (n,())) (dn n.1 (aa.others n)):=by
 refine (gV (aa.others n) (step:=λrec a=>Q112.s0 K (n,()) rec a)
  (λi r=>InP (aa.others n)[i].1 0 1/\¬ (aa.others n)[i].1=ak n.1/\(0<i->¬ ((aa.others n)[i-1]'(by omega)).1>=(aa.others n)[i].1) /\
   ¬ (aa.others n)[i].2=[]/\aE (aa.others n)[i].2/\cn (aa.others n)[i].2 (aa.others n)[i].1/\True) H.others ?_ ?_ y (λ_=>Ret.yes trivial)).iff (fE.trans ?_)
 ·intro rec i r;have z:=H.facts _ (FL r);have X:=H.others;simp only[Q112.s0];rw[decide_eq_true (by omega:(i:Int)<(FJ (aa.others n):Int))];simp only[cond_true];refine Rnd.ix (af r) (Rnd.nx (cK K _ _ _) λ_=>Rnd.vl (de K _) (Rnd.cndN (by simp) λ_=>Rnd.two (λu=>?_) ?_))
  ·rw[ft i u (by omega)];exact Rnd.ix (af (show i-1<(aa.others n).length by omega)) (Rnd.cndN (by simp) λ_=>Rnd.cndN (p6 _) λ_=>Rnd.nx (gW K _ z y) λ_=>Rnd.nx (eo K _ _ z y) λ_=>Rnd.end_)
  ·exact Rnd.cndN (p6 _) λ_=>Rnd.nx (gW K _ z y) λ_=>Rnd.nx (eo K _ _ z y) λ_=>Rnd.end_
 ·intro rec;simp only[Q112.s0,aS];rfl
 ·rw[dn,dQ,it];constructor
  ·intro h;exact⟨λi r=>⟨(h i r).1,(h i r).2.1,(h i r).2.2.2.1,(h i r).2.2.2.2.1,(h i r).2.2.2.2.2.1⟩,λi r u=>by have:=(h i r).2.2.1 u;omega⟩
  ·rintro⟨h1,h2⟩ i r;obtain⟨I,J,M,O,R⟩:=h1 i r;exact⟨I,J,λu=>by have:=h2 i r u;omega,M,O,R,trivial⟩
theorem zZ (K:Nat)(n:aa)(J:NB n)(y:1048577<K):Ret (Q49.f K (n,())) (dn n.1 (aa.others n)):=by
 refine (gV (aa.others n) (step:=λrec a=>Q49.s0 K (n,()) rec a)
  (λi r=>InP (aa.others n)[i].1 0 1/\¬ (aa.others n)[i].1=ak n.1/\(0<i->¬ (aa.others n)[i].1<=((aa.others n)[i-1]'(by omega)).1) /\
   ¬ (aa.others n)[i].2=[]/\aE (aa.others n)[i].2/\cn (aa.others n)[i].2 (aa.others n)[i].1/\True) J.others ?_ ?_ y (λ_=>Ret.yes trivial)).iff (fE.trans ?_)
 ·intro rec i r;have I:=J.facts _ (FL r);have Y:=J.others;have H:ak 7=1:=by unfold ak;rw[aC (by decide) (by decide)];decide
  have z:=eY K (aa.others n)[i].1 0 (ak 7);rw[H]at z;simp only[Q49.s0];rw[decide_eq_true (by omega:(i:Int)<(FJ (aa.others n):Int))];simp only[cond_true];refine Rnd.ix (af r) (Rnd.vl (ml K 7) ?_);dsimp only;rw[H];refine Rnd.nx z λ_=>Rnd.vl (mm K n) (Rnd.cndN (by simp) λ_=>Rnd.two (λu=>?_) ?_)
  ·rw[ft i u (by omega)];exact Rnd.ix (af (show i-1<(aa.others n).length by omega)) (Rnd.cndN (by simp) λ_=>Rnd.cndN (p6 _) λ_=>Rnd.nx (gX K _ I y) λ_=>Rnd.nx (gq K _ _ I y) λ_=>Rnd.end_)
  ·exact Rnd.cndN (p6 _) λ_=>Rnd.nx (gX K _ I y) λ_=>Rnd.nx (gq K _ _ I y) λ_=>Rnd.end_
 ·intro rec;simp only[Q49.s0,aS];rfl
 ·rw[dn,dQ,it];constructor
  ·intro h;exact⟨λi r=>⟨(h i r).1,(h i r).2.1,(h i r).2.2.2.1,(h i r).2.2.2.2.1,(h i r).2.2.2.2.2.1⟩,λi r u=>by have:=(h i r).2.2.1 u;omega⟩
  ·rintro⟨h1,h2⟩ i r;obtain⟨M,O,R,X,H⟩:=h1 i r;exact⟨M,O,λu=>by have:=h2 i r u;omega,R,X,H,trivial⟩
def ByP (r:Int)(l:List Int):Prop:=(∀ b∈l,InP b 0 7/\ak b=ak r)/\Asc (λb:Int=>b) l
def mn (n:aa)(d:bV):Prop:=(∃ f∈aa.table n,f.1=d.1/\f.2.2.1=2/\f.2.1=d.2.1)/\InP d.2.2.1 0 n.2.2.2.2.2.1/\d.2.2.2≠[]/\ByP n.1 d.2.2.2
def aW (t:List ah):List ah:=t.filter λf=>f.2.2.1==2
def jj (n:aa):Prop:=(∀ d∈aa.doubts n,mn n d)/\Asc (λd:bV=>d.1) (aa.doubts n)/\(aW (aa.table n)).length=(aa.doubts n).length
theorem yt {y:Int}{l:List Int}:ByP y l<->∀ k (r:k<l.length),(InP l[k] 0 7/\ak l[k]=ak y)/\(0<k->¬ l[k-1]'(by omega)>=l[k]):=by
 rw[ByP,dQ,it];constructor
 ·rintro⟨h1,h2⟩ k r;exact⟨h1 k r,λu=>by have:=h2 k r u;omega⟩
 ·intro h;exact⟨λk r=>(h k r).1,λk r u=>by have:=(h k r).2 u;omega⟩
theorem Bt (K:Nat)(n:aa)(O:NB n)(R:1048577<K):Q109.l2 K (n,()) (0,0)=rb (decide ((aW (aa.table n)).length=(aa.doubts n).length)):=by
 have X:=O.table;have y:∀ (d k i c:Nat),i+d=(aa.table n).length->d<k->c<=i ->
   ae (λrec a=>Q109.s2 K (n,()) rec a) k ((c:Int),(i:Int))=rb (decide (c+(aW ((aa.table n).drop i)).length=(aa.doubts n).length)):=by
  intro d;induction d with
  |zero =>
   intro k i c J M I;obtain⟨k,rfl⟩:∃ u,k=u+1:=⟨k-1,by omega⟩;show Q109.s2 K (n,()) _ _=_;simp only[Q109.s2];rw[decide_eq_false (show ¬ ((i:Int)<(FJ (aa.table n):Int)) by omega),FW (by omega)];simp only[cond_false,aW,List.filter_nil,List.length_nil,Nat.add_zero];have e:((c:Int)==(FJ (aa.doubts n):Int))=decide (c=(aa.doubts n).length):=by
    by_cases h:c=(aa.doubts n).length
    ·rw[decide_eq_true h,h];simp
    ·rw[decide_eq_false h,beq_eq_false_iff_ne];omega
   exact congrArg rb e
  |succ d H =>
   intro k i c J M I;obtain⟨k,rfl⟩:∃ u,k=u+1:=⟨k-1,by omega⟩;have r:i<(aa.table n).length:=by omega
   show Q109.s2 K (n,()) _ _=_;simp only[Q109.s2];rw[decide_eq_true (show ((i:Int)<(FJ (aa.table n):Int)) by omega),af r,ar i (by omega),ar c (by omega),FT r];simp only[cond_true,FK];cases z:((aa.table n)[i].2.2.1==2) with
   |true =>
    have:=H k (i+1) (c+1) (by omega) (by omega) (by omega);simp only[cond_true];have e:c+1+(aW ((aa.table n).drop (i+1))).length=c+(aW ((aa.table n)[i]::(aa.table n).drop (i+1))).length:=by
     simp only[aW,FV,z,if_true,List.length_cons];omega
    rw[<- e];exact this
   |false =>
    have:=H k (i+1) c (by omega) (by omega) (by omega);simp only[cond_false];have e:aW ((aa.table n)[i]::(aa.table n).drop (i+1))=aW ((aa.table n).drop (i+1)):=by
     simp only[aW,FV,z,FQ,if_false]
    rw[e];exact this
 have:=y (aa.table n).length K 0 0 (by omega) (by omega) (F3 _);rw[F5,Nat.zero_add]at this;exact this
theorem z7 (K:Nat)(n:aa)(R:NB n)(hT:aE (aa.table n))(Y:1048577<K):Ret (Q109.f K (n,())) (jj n):=by
 refine (gV (aa.doubts n) (step:=λrec a=>Q109.s0 K (n,()) (Q109.l1 K (n,()) rec) (Q109.l2 K (n,())) rec a)
  (λi z=>(0<i->¬ ((aa.doubts n)[i-1]'(by omega)).1>=(aa.doubts n)[i].1)/\mn n (aa.doubts n)[i]) (Q:=(aW (aa.table n)).length=(aa.doubts n).length) (rt:=Q109.l2 K (n,()) (0,0)) R.doubts ?_ ?_ Y (λ_=>by rw[Bt K n R Y];exact Ret.dec)).iff ?_
 ·intro rec i z;have Z:=R.by_ _ (FL z);have hl:=R.doubts;have u:Rnd (Q109.l1 K (n,()) rec ((i:Int),0,(aa.doubts n)[i].1,(aa.doubts n)[i].2.1,(aa.doubts n)[i].2.2.1,(aa.doubts n)[i].2.2.2)) (ByP n.1 (aa.doubts n)[i].2.2.2) (rec (wr .i64 ((i:Int)+1))):=by
   generalize (aa.doubts n)[i]=d at Z;refine (pV d.2.2.2 (step:=λy a=>Q109.s1 K (n,()) rec y a) (λk=>((i:Int),(k:Int),d.1,d.2.1,d.2.2.1,d.2.2.2))
    (λk r=>InP d.2.2.2[k] 0 7/\¬ ak d.2.2.2[k]≠ak n.1/\(0<k->¬ d.2.2.2[k-1]'(by omega)>=d.2.2.2[k])/\True) Z ?_ ?_ Y).iff ?_
   ·intro y k r;simp only[Q109.s1];rw[decide_eq_true (by omega:(k:Int)<(FJ d.2.2.2:Int)),ar k (by omega)];simp only[cond_true];refine Rnd.ix (af r) (Rnd.nx (cK K _ _ _) λ_=>Rnd.ix (af r) (Rnd.vl (de K _) (Rnd.vl (de K _) (Rnd.cndN (by simp) λ_=>Rnd.two (λH=>?_) Rnd.end_))));rw[ft k H (by omega)];exact Rnd.ix (af (show k-1<d.2.2.2.length by omega)) (Rnd.ix (af r) (Rnd.cndN (by simp) λ_=>Rnd.end_))
   ·intro y;simp only[Q109.s1,aS];rfl
   ·rw[yt];constructor
    ·intro h k r;exact⟨⟨(h k r).1,FM.1 (h k r).2.1⟩,(h k r).2.2.1⟩
    ·intro h k r;exact⟨(h k r).1.1,FM.2 (h k r).1.2,(h k r).2,trivial⟩
  obtain⟨o,ho,O⟩:=fT K (aa.table n) (aa.doubts n)[i].1 R.table Y;simp only[Q109.s0];rw[decide_eq_true (show ((i:Int)<(FJ (aa.doubts n):Int)) by omega)];simp only[cond_true];refine Rnd.ix (af z) (Rnd.vl O ?_);cases ho with
  |no h =>
   have X:¬ mn n (aa.doubts n)[i]:=λ⟨⟨f,O,e,_⟩,_⟩=>h f O e
   refine Rnd.two (λH=>?_) ?_
   ·rw[ft i H (by omega)];refine Rnd.ix (af (show i-1<(aa.doubts n).length by omega)) (Rnd.cndN (by simp) λ_=>?_);exact .inr ⟨X,rfl⟩
   ·exact .inr ⟨X,rfl⟩
  |at_ j M e =>
   have I:decide ((j:Int)<0)=false:=decide_eq_false (by omega);have J:mn n (aa.doubts n)[i]<->(¬ (aa.table n)[j].2.2.1≠2/\¬ (aa.table n)[j].2.1≠(aa.doubts n)[i].2.1/\InP (aa.doubts n)[i].2.2.1 0 n.2.2.2.2.2.1/\¬ (aa.doubts n)[i].2.2.2=[]/\ByP n.1 (aa.doubts n)[i].2.2.2):=by
    constructor
    ·rintro⟨⟨f,O,e1,e2,e3⟩,h2,h3,h4⟩;have:=iT hT.2 O (FL M) (e1.trans e.symm);subst this;exact⟨FM.2 e2,FM.2 e3,h2,h3,h4⟩
    ·rintro⟨e2,e3,h2,h3,h4⟩;exact⟨⟨_,FL M,e,FM.1 e2,FM.1 e3⟩,h2,h3,h4⟩
   refine Rnd.two (λH=>?_) ?_
   ·rw[ft i H (by omega)];refine Rnd.ix (af (show i-1<(aa.doubts n).length by omega)) (Rnd.cndN (by simp) λ_=>?_);simp only[I,cond_false];refine Rnd.iff ?_ J.symm;exact Rnd.ix (af M) (Rnd.cndN (by simp) λ_=>Rnd.ix (af M) (Rnd.cndN (by simp) λ_=>Rnd.nx (cK K _ _ _) λ_=>Rnd.cndN (p6 _) λ_=>u))
   ·simp only[I,cond_false];refine Rnd.iff ?_ J.symm;exact Rnd.ix (af M) (Rnd.cndN (by simp) λ_=>Rnd.ix (af M) (Rnd.cndN (by simp) λ_=>Rnd.nx (cK K _ _ _) λ_=>Rnd.cndN (p6 _) λ_=>u))
 ·intro rec;simp only[Q109.s0,aS];rfl
 ·rw[jj,dQ,it];constructor
  ·rintro⟨h1,h2⟩;exact⟨λi z=>(h1 i z).2,λi z H=>by have:=(h1 i z).1 H;omega,h2⟩
  ·rintro⟨h1,h2,h3⟩;exact⟨λi z=>⟨λH=>by have:=h2 i z H;omega,h1 i z⟩,h3⟩
theorem Bu (K:Nat)(n:aa)(Z:NB n)(S:List ah)(hS:S.length=(aa.doubts n).length)(hK:1048577<K):Ret (Q42.l1 K (n,()) (S,0))
  (∀ i (u:i<(aa.doubts n).length),(aa.doubts n)[i].1=(S[i]'(by omega)).1/\(aa.doubts n)[i].2.1=(S[i]'(by omega)).2.1/\InP (aa.doubts n)[i].2.2.1 0 n.2.2.2.2.2.1/\(aa.doubts n)[i].2.2.2≠[]/\ByP n.1 (aa.doubts n)[i].2.2.2):=by
 have hl:=Z.doubts;have J:=mP (step:=λrec a=>Q42.s1 K (n,()) (Q42.l2 K (n,()) rec) rec a) (aa.doubts n).length (λi=>(S,(i:Int)))
  (λi=>∀ u:i<(aa.doubts n).length,¬ (aa.doubts n)[i].1≠(S[i]'(by omega)).1/\¬ (aa.doubts n)[i].2.1≠(S[i]'(by omega)).2.1/\InP (aa.doubts n)[i].2.2.1 0 n.2.2.2.2.2.1/\¬ (aa.doubts n)[i].2.2.2=[]/\ByP n.1 (aa.doubts n)[i].2.2.2)
  (rb true) (rb false) ?_ ?_ (aa.doubts n).length K 0 (by omega) (by omega)
 ·rcases J with ⟨M,I⟩|⟨M,I⟩
  ·refine⟨true,I,iff_of_true rfl λi u=>?_⟩;obtain⟨O,R,X⟩:=M i (FR _) u u;exact⟨FM.1 O,FM.1 R,X⟩
  ·refine⟨false,I,iff_of_false (by simp) λh=>M λi _ u _=>?_⟩;obtain⟨O,R,X⟩:=h i u;exact⟨FM.2 O,FM.2 R,X⟩
 ·intro rec i u;have Y:=Z.by_ _ (FL u);have H:Rnd (Q42.l2 K (n,()) rec (S,(i:Int),(aa.doubts n)[i].2.2.2,(FJ (aa.doubts n)[i].2.2.2:Int),0,(aa.doubts n)[i].1,(aa.doubts n)[i].2.1,(aa.doubts n)[i].2.2.1,(aa.doubts n)[i].2.2.2)) (ByP n.1 (aa.doubts n)[i].2.2.2) (rec (S,wr .i64 ((i:Int)+1))):=by
   generalize (aa.doubts n)[i]=d at Y;refine (pV d.2.2.2 (step:=λr a=>Q42.s2 K (n,()) rec r a) (λk=>(S,(i:Int),d.2.2.2,(FJ d.2.2.2:Int),(k:Int),d.1,d.2.1,d.2.2.1,d.2.2.2))
    (λk z=>(InP d.2.2.2[k] 0 7/\ak d.2.2.2[k]=ak n.1)/\(0<k->¬ d.2.2.2[k]<=d.2.2.2[k-1]'(by omega))/\True) Y ?_ ?_ hK).iff ?_
   ·intro r k z;simp only[Q42.s2,zcp4];rw[decide_eq_true (by omega:(k:Int)<(FJ d.2.2.2:Int)),ar k (by omega)];simp only[cond_true];refine Rnd.ix (af z) (Rnd.nx (nQ K n _) λ_=>Rnd.two (λh0=>?_) Rnd.end_);rw[ft k h0 (by omega)];exact Rnd.ix (af (show k-1<d.2.2.2.length by omega)) (Rnd.cndN (by simp) λ_=>Rnd.end_)
   ·intro r;simp only[Q42.s2,zcp4,aS];rfl
   ·rw[yt];constructor
    ·intro h k z;exact⟨(h k z).1,(h k z).2.1⟩
    ·intro h k z;exact⟨(h k z).1,(h k z).2,trivial⟩
  have y:i<S.length:=by omega
  have hr:Rnd (Q42.s1 K (n,()) (Q42.l2 K (n,()) rec) rec (S,(i:Int)))
    (¬ (aa.doubts n)[i].1≠S[i].1/\¬ (aa.doubts n)[i].2.1≠S[i].2.1/\InP (aa.doubts n)[i].2.2.1 0 n.2.2.2.2.2.1/\¬ (aa.doubts n)[i].2.2.2=[]/\ByP n.1 (aa.doubts n)[i].2.2.2) (rec (S,((i+1:Nat):Int))):=by
   rw[<- ar i (by omega)];simp only[Q42.s1];rw[decide_eq_true (show ((i:Int)<(FJ (aa.doubts n):Int)) by omega),Int.toNat_natCast];simp only[cond_true];exact Rnd.ix (af u) (Rnd.ix (af y) (Rnd.ix (af y) (Rnd.cndN (by simp) λ_=>Rnd.ix (af y) (Rnd.ix (af y) (Rnd.cndN (by simp) λ_=>Rnd.nx (eY K _ _ _) λ_=>Rnd.cndN (p6 _) λ_=>H)))))
  exact hr.imp (λh=>⟨λ_=>h.1,h.2⟩) (λh=>⟨λI=>h.1 (I u),h.2⟩)
 ·intro rec;simp only[Q42.s1,aS];rfl
theorem z8 (K:Nat)(n:aa)(hn:NB n)(hT:aE (aa.table n))(hK:1048577<K):Ret (Q42.f K (n,())) (jj n):=by
 have hl:=hn.table;have a2:=hn.doubts;have a1:∀ (d k i:Nat),i+d=(aa.table n).length->d<k->ae (λrec a=>Q42.s0 K (n,()) (Q42.l1 K (n,())) rec a) k (aW ((aa.table n).take i),(i:Int)) =
   (bif (FJ (aa.doubts n):Int) != (FJ (aW (aa.table n)):Int) then rb false else Q42.l1 K (n,()) (aW (aa.table n),0)):=by
  intro d;induction d with
  |zero =>
   intro k i y hk;obtain⟨k,rfl⟩:∃ k',k=k'+1:=⟨k-1,by omega⟩;show Q42.s0 K (n,()) _ _ _=_;simp only[Q42.s0];rw[decide_eq_false (show ¬ ((i:Int)<(FJ (aa.table n):Int)) by omega),FX (by omega)];rfl
  |succ d J =>
   intro k i y hk;obtain⟨k,rfl⟩:∃ k',k=k'+1:=⟨k-1,by omega⟩;have J:=J k (i+1) (by omega) (by omega);have O:i<(aa.table n).length:=by omega
   show Q42.s0 K (n,()) _ _ _=_;simp only[Q42.s0];rw[decide_eq_true (show ((i:Int)<(FJ (aa.table n):Int)) by omega),af O,ar i (by omega)];simp only[cond_true,FK];have e:aW ((aa.table n).take (i+1))=aW ((aa.table n).take i)++(if (aa.table n)[i].2.2.1==2 then [(aa.table n)[i]] else []):=by
    rw[aW,F1,FO O,List.filter_append];simp[aW,FV]
   cases hb:((aa.table n)[i].2.2.1==2) with
   |true =>
    rw[hb]at e;simp only[if_true]at e;simp only[cond_true];have a3:(aW ((aa.table n).take i)).length<=i:=Nat.le_trans (List.length_filter_le _ _) (by simp;omega);have hs:decide ((FJ (aW ((aa.table n).take i))+FJ [(aa.table n)[i]])*32<=am)=true:=decide_eq_true (by simp only[am,FY];omega);rw[hs];rw[e]at J;exact J
   |false =>
    rw[hb]at e;simp only[FQ,if_false,List.append_nil]at e;rw[e]at J;exact J
 have h0:Q42.f K (n,())=_:=a1 (aa.table n).length K 0 (by omega) (by omega);rw[h0];have z:∀ f∈aW (aa.table n),f∈aa.table n/\f.2.2.1=2:=λf I=>by
  rw[aW,F4]at I;exact⟨I.1,by simpa using I.2⟩
 have u:Asc (λf:ah=>f.1) (aW (aa.table n)):=List.Pairwise.filter _ hT.2;by_cases r:(aW (aa.table n)).length=(aa.doubts n).length
 ·have:((FJ (aa.doubts n):Int) != (FJ (aW (aa.table n)):Int))=false:=by simp[r]
  rw[this];refine (Bu K n hn _ r hK).iff ⟨λh=>⟨?_,?_,r⟩,λ⟨h1,h2,_⟩ i y=>?_⟩
  ·rw[dQ];intro i y;obtain⟨R,Y,Z,h6,h7⟩:=h i y;obtain⟨h8,h9⟩:=z _ (FL (show i<(aW (aa.table n)).length by omega));exact⟨⟨_,h8,R.symm,h9,Y.symm⟩,Z,h6,h7⟩
  ·rw[ct]at u ⊢;intro i j y hj a0;have:=u i j (by omega) (by omega) a0;rw[(h i y).1,(h j hj).1];exact this
  ·have H:=jL ((aa.doubts n).map (·.1)) ((aW (aa.table n)).map (·.1)) (by rw[FU];exact h2) (by rw[FU];exact u) (by
    intro x hx;obtain⟨d,hd,rfl⟩:=F6.1 hx;obtain⟨⟨f,I,X,e2,_⟩,_⟩:=h1 d hd;exact F6.2 ⟨f,by rw[aW,F4];exact⟨I,by simpa using e2⟩,X⟩)
   have H:=H.2 (by simp[r]);have M:i<(aW (aa.table n)).length:=by omega
   have e:(aa.doubts n)[i].1=(aW (aa.table n))[i].1:=by
    have R:((aa.doubts n).map (·.1))[i]?=((aW (aa.table n)).map (·.1))[i]?:=by rw[H]
    rw[F2,F2,FO y,FO M]at R;simpa using R
   obtain⟨⟨f,I,X,e2,e3⟩,Y,Z,h6⟩:=h1 _ (FL y);have:=iT hT.2 I (z _ (FL M)).1 (X.trans e);subst this;exact⟨e,e3.symm,Y,Z,h6⟩
 ·have:((FJ (aa.doubts n):Int) != (FJ (aW (aa.table n)):Int))=true:=by simp;omega
  rw[this];exact Ret.no (λh=>r h.2.2)
def tD (n:aa):Prop:=n.2.2.1=false/\n.2.2.2.2.1=0/\n.2.2.2.2.2.1=0/\n.2.2.2.2.2.2.1=0/\n.2.2.2.2.2.2.2.1=0 /\
 wr .i64 (wr .i64 (wr .i64 (wr .i64 ((FJ (aa.table n):Int)+(FJ (aa.cast n):Int))+(FJ (aa.doubts n):Int))+(FJ (aa.places n):Int))+(FJ (aa.others n):Int))=0 /\
 aa.probe n=(0,0,0,false)/\aa.coord n=(0,0,0,0)
def UpP (n:aa):Prop:=aE (aa.table n)/\cn (aa.table n) (ak n.1)/\dt n/\(da (aa.cast n)/\iD (aa.table n) (aa.cast n))/\dm n/\jj n/\bX (aa.coord n)/\eT n.1 (aa.places n)/\dn n.1 (aa.others n)
def ff (n:aa):Prop:=InP n.1 0 7/\InP n.2.2.2.2.2.1 0 999999/\InP n.2.2.2.2.2.2.1 0 999999/\InP n.2.2.2.2.2.2.2.1 0 8/\InP n.2.2.2.2.1 0 999/\(if n.2.1=true then UpP n else tD n)
theorem p7 (K:Nat)(n:aa)(u:NB n)(r:1048577<K):Ret (Q113.f K (n,())) (ff n):=by
 refine Ret.nx (cK K _ _ _) λ_=>Ret.nx (cK K _ _ _) λ_=>Ret.nx (cK K _ _ _) λ_=>Ret.nx (cK K _ _ _) λ_=>Ret.nx (cK K _ _ _) λ_=>?_
 dsimp only;cases M:n.2.1 with
 |false =>
  simp only[FZ,cond_true,FQ,if_false,tD];refine Ret.cnd (by simp) λ_=>Ret.cnd (by simp) λ_=>Ret.cnd (by simp) λ_=>Ret.cnd (by simp) λ_=>Ret.cnd (by simp) λ_=>Ret.cnd (by simp) λ_=>?_
  refine Ret.iff (Ret.cnd (P:=(aa.probe n).1=0) (by simp) λ_=>Ret.cnd (P:=(aa.probe n).2.1=0) (by simp) λ_=>Ret.cnd (P:=(aa.probe n).2.2.1=0) (by simp) λ_=>Ret.cnd (P:=(aa.probe n).2.2.2=false) (by simp) λ_ =>
   Ret.cnd (P:=(aa.coord n).1=0) (by simp) λ_=>Ret.cnd (P:=(aa.coord n).2.1=0) (by simp) λ_=>Ret.cnd (P:=(aa.coord n).2.2.1=0) (by simp) λ_=>Ret.of (P:=(aa.coord n).2.2.2=0) (by simp)) ?_
  generalize aa.probe n=p;generalize aa.coord n=c;obtain⟨O,R,X,Y⟩:=p;obtain⟨z,H,I,J⟩:=c;simp only[F0];constructor
  ·rintro⟨h1,h2,h3,h4,h5,h6,h7,h8⟩;exact⟨⟨h1,h2,h3,h4⟩,h5,h6,h7,h8⟩
  ·rintro⟨⟨h1,h2,h3,h4⟩,h5,h6,h7,h8⟩;exact⟨h1,h2,h3,h4,h5,h6,h7,h8⟩
 |true =>
  simp only[FN,cond_false,if_true,UpP];exact Ret.px (gW K _ u.table r) λy=>Ret.vl (de K _) (Ret.px (eo K _ _ u.table r) λ_=>Ret.px (Co K n u y r) λ_=>Ret.px (vA K n u y r) λ_=>Ret.px (Bp K n u r) λ_ =>
   Ret.px (z7 K n u y r) λ_=>Ret.px (fu K _) λ_=>Ret.px (zW K n u r) λ_=>(zY K n u r).id)
theorem Cr (K:Nat)(n:aa):Ret (Q15.f K (n,())) (tD n):=by
 simp only[Q15.f,iE,qF,tD];exact Ret.cnd (by simp) λ_=>Ret.cnd (by simp) λ_=>Ret.cnd (by simp) λ_=>Ret.cnd (by simp) λ_=>Ret.cnd (by simp) λ_=>Ret.cnd (by simp) λ_=>Ret.cnd (by simp) λ_=>Ret.dec
theorem p8 (K:Nat)(n:aa)(u:NB n)(r:1048577<K):Ret (Q50.f K (n,())) (ff n):=by
 refine Ret.nx (jM K _) λ_=>Ret.nx (eY K _ _ _) λ_=>Ret.nx (eY K _ _ _) λ_=>Ret.nx (eY K _ _ _) λ_=>Ret.nx (eY K _ _ _) λ_=>?_
 dsimp only;cases z:n.2.1 with
 |false =>
  simp only[FZ,cond_true,FQ,if_false];exact (Cr K n).id
 |true =>
  simp only[FN,cond_false,if_true,UpP];refine Ret.iff (Ret.px (rG K n u r) λy=>Ret.px (Bq K n u y.1 r) λ_=>Ret.px (z8 K n u y.1 r) λ_=>Ret.px (ji K _) λ_=>Ret.px (zX K n u r) λ_=>(zZ K n u r).id) ?_;constructor
  ·rintro⟨⟨h1,h2,h3,h4,h5⟩,h6,h7,h8,h9,h10⟩;exact⟨h1,h2,h3,⟨h4,h5⟩,h6,h7,h8,h9,h10⟩
  ·rintro⟨h1,h2,h3,⟨h4,h5⟩,h6,h7,h8,h9,h10⟩;exact⟨⟨h1,h2,h3,h4,h5⟩,h6,h7,h8,h9,h10⟩
theorem fV {A R:Type}{step:(A->Option R)->A->Option R}(n:Nat)(S:Nat->A)(rt:Option R)(h:∀ (rec:A->Option R) (i:Nat),i<n->step rec (S i)=rec (S (i+1)))(r:∀ rec:A->Option R,step rec (S n)=rt)
  {k:Nat} (z:n<k):ae step k (S 0)=rt:=by
 rcases mP (step:=step) n S (λ_=>True) rt none (λrec i y=>.inl ⟨trivial,h rec i y⟩) r n k 0 (by omega) z with ⟨_,u⟩|⟨u,_⟩
 ·exact u
 ·exact absurd (λ_ _ _=>trivial) u
def Szd (o:Option ((Int×Unit)×Unit))(left:Int)(Q:Prop):Prop:=∃ r,o=some ((r,()),())/\(r<0\/(0<=r/\r<=left/\Q))
theorem Szd.sub (left:Int)(n:Nat)(I:0<=left)(J:left<=1048576)(M:n<=9223372036854775807){g:Option ((Int×Unit)×Unit)}{Q:Prop}(H:wr .i64 (left-(n:Int))=left-n->(n:Int)<=left->Szd g (left-n) Q) :
  Szd (bif decide (wr .i64 (left-(n:Int))<0) then some ((-1,()),()) else g) left (n<=1048576/\Q):=by
 have e:wr .i64 (left-(n:Int))=left-n:=aC (by omega) (by omega);by_cases h:left-(n:Int)<0
 ·rw[e,decide_eq_true h];exact⟨-1,rfl,.inl (by decide)⟩
 ·rw[decide_eq_false (by rw[e];exact h)];obtain⟨r,y,z⟩:=H e (by omega);exact⟨r,y,z.imp id λu=>⟨u.1,by omega,by omega,u.2.2⟩⟩
theorem Szd.bind {o:Option ((Int×Unit)×Unit)}{left:Int}{P Q:Prop}{G:(Int×Unit)×Unit->Option ((Int×Unit)×Unit)}(h:Szd o left P)(I:∀ r,0<=r->r<=left->P->Szd (G ((r,()),())) r Q) :
  Szd (o.bind λy=>bif decide (y.1.1<0) then some ((-1,()),()) else G y) left (P/\Q):=by
 obtain⟨r,J,u⟩:=h;rw[J,FK];rcases u with u|⟨u,M,z⟩
 ·rw[decide_eq_true u];exact⟨-1,rfl,.inl (by decide)⟩
 ·rw[show decide (r<0)=false from decide_eq_false (by omega)];obtain⟨X,O,R⟩:=I r u M z;exact⟨X,O,R.imp id λH=>⟨H.1,by omega,z,H.2.2⟩⟩
theorem Szd.ret (r:Int)(h:0<=r):Szd (some ((r,()),())) r True:=⟨r,rfl,.inr ⟨h,Int.le_refl _,trivial⟩⟩
theorem Szd.iff {o:Option ((Int×Unit)×Unit)}{left:Int}{P Q:Prop}(h:Szd o left P)(e:P->Q):Szd o left Q:=by
 obtain⟨r,y,z⟩:=h;exact⟨r,y,z.imp id λu=>⟨u.1,u.2.1,e u.2.2⟩⟩
end Go.Proofs.YtmibehbhnkeaiaaGreatEv
