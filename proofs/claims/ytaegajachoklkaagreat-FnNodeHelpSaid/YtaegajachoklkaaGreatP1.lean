/- What is ok of facts, tables, casts: the program and the specification say the same. -/
import Derived.Test.YtaegajachoklkaaGreatFns
import Derived.Test.YtaegajachoklkaaGreatP0
set_option linter.unusedVariables false
set_option linter.unusedSimpArgs false
open Bool renaming not_true->BK,false_eq_true->BN,not_false->BW
open Classical renaming not_not->BJ
open Int renaming natCast_nonneg->BP
open List renaming length->BG,getElem_mem->BI,getElem?_eq_getElem->BL,getElem_of_mem->BM,drop_eq_getElem_cons->BQ,pairwise_map->BR,filter_cons->BS,drop_of_length_le->BT,take_of_length_le->BU,length_singleton->BV,take_add_one->BY,getElem?_map->BZ,mem_filter->B4,drop_zero->B5,mem_map->B6
open Nat renaming zero_le->BO,le_refl->B3
open Option renaming bind_some->BH
open Prod.mk renaming injEq->BX
namespace Go.Proofs.YtaegajachoklkaaGreatEv
open Go
abbrev InP (n r u:Int):Prop:=r<=n/\n<=u
theorem fA (K:Nat)(n r u:Int):Ret (Q27.f K (n,r,u,())) (InP n r u):=by
 simp only[Q27.f];exact Ret.cnd (by simp) λ_=>Ret.dec
theorem cB (K:Nat)(n r u:Int):Ret (Q12.f K (n,r,u,())) (InP n r u):=by
 simp only[Q12.f];exact Ret.cnd (by simp) λ_=>Ret.dec
theorem Ret.id {o:Option RB}{P:Prop}(h:Ret o P):Ret (o.bind λy=>some ((y.1.1,()),())) P:=by
 obtain⟨b,u,r⟩:=h;exact⟨b,by rw[u];rfl,r⟩
theorem Ret.neg {o:Option RB}{P:Prop}(h:Ret o P):Ret (o.bind λy=>some ((!y.1.1,()),())) (¬ P):=by
 obtain⟨b,r,u⟩:=h;exact⟨!b,by rw[r];rfl,by cases b <;> simp_all⟩
def bA (f:af):Prop:=InP f.1 0 7/\InP f.2.1 0 999/\InP f.2.2.1 1 4
theorem oU (K:Nat)(n:Int):Ret (Q28.f K (n,())) (InP n 0 7):=(fA K n 0 7).id
theorem md (K:Nat)(f:af):Ret (Q30.f K (f,())) (bA f) :=
 Ret.and (oU K f.1) (λ_=>Ret.and (fA K f.2.1 0 999) (λ_=>(fA K f.2.2.1 1 4).id) rfl) rfl
theorem oV (K:Nat)(f:af):Ret (Q13.f K (f,())) (bA f) :=
 Ret.and (cB K f.1 0 7) (λ_=>Ret.and (cB K f.2.1 0 999) (λ_=>(cB K f.2.2.1 1 4).id) rfl) rfl
def ax (t:List af):Prop:=(∀ f∈t,bA f)/\Asc (λf:af=>f.1) t
theorem sK {t:List af}:ax t<->∀ j,j<t.length->∃ h:j<t.length,bA t[j]/\(0<j->(t[j-1]'(by omega)).1<t[j].1):=by
 unfold ax;rw[dC,gK];constructor
 ·rintro⟨h1,h2⟩ j hj;exact⟨hj,h1 j hj,λr=>h2 j hj r⟩
 ·intro h;exact⟨λi u=>(h i u).2.1,λi u r=>(h i u).2.2 r⟩
theorem fe {P:Prop}:(P/\True)<->P:=by simp
theorem gq (K:Nat)(t:List af)(J:t.length<=1048576)(M:1048577<K):Ret (Q14.f K (t,())) (ax t):=by
 refine Ret.iff (qt (step:=λrec a=>Q14.s0 K (t,()) rec a) t.length (λi=>(i:Int)) (λj=>∃ h:j<t.length,bA t[j]/\(0<j->(t[j-1]'(by omega)).1<t[j].1)) (Q:=True) (rt:=rb true) ?_ ?_ (by omega) (λ_=>Ret.yes trivial)) (fe.trans sK.symm)
 ·intro rec i y;simp only[Q14.s0];rw[decide_eq_true (by omega:(i:Int)<(BG t:Int)),ag y,ar i (by omega)];simp only[cond_true,BH];obtain⟨b,I,u⟩:=oV K t[i];rw[I];simp only[BH];cases b with
  |false=>exact .inr ⟨λ⟨_,r,_⟩=>by simpa using u.2 r,rfl⟩
  |true =>
   simp only[BK,cond_false];by_cases z:(i:Int)>0
   ·rw[decide_eq_true z,eX i (by omega) (by omega),ag (by omega:i-1<t.length)];simp only[cond_true,BH];by_cases r:(t[i-1]'(by omega)).1>=t[i].1
    ·rw[decide_eq_true r];exact .inr ⟨λ⟨_,_,H⟩=>by have:=H (by omega);omega,rfl⟩
    ·rw[decide_eq_false r];exact .inl ⟨⟨y,u.1 rfl,λ_=>by omega⟩,rfl⟩
   ·rw[decide_eq_false z];exact .inl ⟨⟨y,u.1 rfl,λ_=>by omega⟩,rfl⟩
 ·intro rec;simp only[Q14.s0];rw[decide_eq_false (by omega:¬ ((t.length:Int)<(BG t:Int)))];rfl
theorem jG (K:Nat)(t:List af)(J:t.length<=1048576)(M:1048577<K):Ret (Q31.f K (t,())) (ax t):=by
 refine Ret.iff (qt (step:=λrec a=>Q31.s0 K (t,()) rec a) t.length (λi=>(i:Int)) (λj=>∃ h:j<t.length,bA t[j]/\(0<j->(t[j-1]'(by omega)).1<t[j].1)) (Q:=True) (rt:=rb true) ?_ ?_ (by omega) (λ_=>Ret.yes trivial)) (fe.trans sK.symm)
 ·intro rec i y;simp only[Q31.s0];rw[decide_eq_true (by omega:(i:Int)<(BG t:Int)),ag y,ar i (by omega)];simp only[cond_true,BH];obtain⟨b,I,u⟩:=md K t[i];rw[I];simp only[BH];cases b with
  |false=>exact .inr ⟨λ⟨_,r,_⟩=>by simpa using u.2 r,rfl⟩
  |true =>
   simp only[BK,cond_false];by_cases z:(i:Int)>0
   ·rw[decide_eq_true z,eX i (by omega) (by omega),ag (by omega:i-1<t.length)];simp only[cond_true,BH];by_cases r:t[i].1<=(t[i-1]'(by omega)).1
    ·rw[decide_eq_true r];exact .inr ⟨λ⟨_,_,H⟩=>by have:=H (by omega);omega,rfl⟩
    ·rw[decide_eq_false r];exact .inl ⟨⟨y,u.1 rfl,λ_=>by omega⟩,rfl⟩
   ·rw[decide_eq_false z];exact .inl ⟨⟨y,u.1 rfl,λ_=>by omega⟩,rfl⟩
 ·intro rec;simp only[Q31.s0];rw[decide_eq_false (by omega:¬ ((t.length:Int)<(BG t:Int)))];rfl
inductive vG (t:List af) (node:Int):Option Nat->Prop where
 |at_ (i:Nat) (h:i<t.length) (e:t[i].1=node):vG t node (some i)
 |no (h:∀ f∈t,f.1≠node):vG t node none
theorem fC (K:Nat)(t:List af)(r:Int)(J:t.length<=1048576)(M:1048577<K) :
  ∃ o,vG t r o/\Q16.f K (t,r,())=some (((match o with|some i=>((i:Nat):Int)|none=>-1),()),()):=by
 have:=ch (step:=λrec a=>Q16.s0 K (t,r,()) rec a) t.length (λi=>(i:Int)) (λj=>∃ h:j<t.length,t[j].1=r) (some ((-1,()),())) (λj=>some ((((j:Nat):Int),()),())) ?_ ?_ t.length K 0 (by omega) (by omega)
 ·rcases this with ⟨y,z⟩|⟨j,_,y,⟨H,I⟩,_,z⟩
  ·refine⟨none,.no ?_,z⟩;rw[dC];exact λi u e=>y i (BO _) u ⟨u,e⟩
  ·exact⟨some j,.at_ j H I,z⟩
 ·intro rec i u;simp only[Q16.s0];rw[decide_eq_true (by omega:(i:Int)<(BG t:Int)),ag u,ar i (by omega)];simp only[cond_true,BH];by_cases h:t[i].1=r
  ·right;refine⟨⟨u,h⟩,?_⟩;have:(t[i].1==r)=true:=by simpa using h
   rw[this];rfl
  ·left;refine⟨λ⟨_,y⟩=>h y,?_⟩;have:(t[i].1==r)=false:=by simpa using h
   rw[this];rfl
 ·intro rec;simp only[Q16.s0];rw[decide_eq_false (by omega:¬ ((t.length:Int)<(BG t:Int)))];rfl
def fD (a b:Int):Int:=if a<b then -1 else if a>b then 1 else 0
theorem nN (K:Nat)(a b:Int):Q34.f K (a,b,())=some ((fD a b,()),()):=by
 have y:∀ x:Int,Q33.f K (x,())=rb false:=λx=>by simp[Q33.f]
 simp only[Q34.f,y,BH,cond_false,fD];by_cases u:a<b
 ·rw[decide_eq_true u,if_pos u];rfl
 ·rw[decide_eq_false u,if_neg u];by_cases r:a>b
  ·rw[decide_eq_true r,if_pos r];rfl
  ·rw[decide_eq_false r,if_neg r];rfl
theorem sL (a b:Int):fD a b<0<->a<b:=by
 unfold fD;by_cases r:a<b
 ·simp[r]
 ·by_cases u:a>b <;> simp[r,u]
theorem uP (a b:Int):fD a b>0<->a>b:=by
 unfold fD;by_cases r:a<b
 ·simp[r];omega
 ·by_cases u:a>b <;> simp[r,u]
theorem il (a b:Int):fD a b=0<->a=b:=by
 unfold fD;by_cases r:a<b
 ·simp[r];omega
 ·by_cases u:a>b <;> simp[r,u] <;> omega
structure Cut (t:List af) (node:Int) (m:Nat):Prop where
 le:m<=t.length
 lo:∀ i,(h:i<t.length)->i<m->t[i].1<node
 hi:∀ i,(h:i<t.length)->m<=i->node<=t[i].1
theorem sM (K:Nat)(t:List af)(r:Int)(ht:t.length<=1048576)(J:Asc (λf:af=>f.1) t)(hK:1048577<K) :
  ∃ m,Cut t r m/\Q36.f K (t,r,())=some ((((m:Nat):Int),decide (∃ h:m<t.length,t[m].1=r),()),()):=by
 let ks:Nat->Int:=λi=>if h:i<t.length then t[i].1 else 0
 have u:∀ i (h:i<t.length),ks i=t[i].1:=λi h=>by simp[ks,h]
 let H:Nat->Option ((Int×Bool×Unit)×Unit):=λm=>some ((((m:Nat):Int),decide (∃ h:m<t.length,t[m].1=r),()),())
 have X:∀ f:af,((Q35.f K (f,r,())).map λy=>y.1.1)=some (fD f.1 r):=λf=>by
  simp only[Q35.f];rw[nN];rfl
 have:=wY (step:=λrec a=>Q32.s0 K (t,r,(λI=>(Q35.f K (I.1,I.2.1,())).map λy=>y.1.1),()) rec a) (ks:=ks) (n:=t.length) (t:=r) H ht
  (λi j O Z=>by
   rw[u i (by omega),u j Z];exact dn.1 J i j (by omega) Z O) ?_ ?_ t.length K 0 t.length (by omega) (BO _) (B3 _) (by omega) (λi M=>by omega) (λi M hn=>by omega)
 ·obtain⟨m,z,R,h3,h4⟩:=this;refine⟨m,⟨z,λi h M=>by rw[<- u i h];exact R i M,λi h M=>by rw[<- u i h];exact h3 i M h⟩,?_⟩;simp only[Q36.f];have e:Q32.f K (t,r,(λI=>(Q35.f K (I.1,I.2.1,())).map λy=>y.1.1),())=H m:=h4;rw[e];rfl
 ·intro rec a b a0 hb;have Y:(a+b) / 2<t.length:=by omega
  simp only[Q32.s0];rw[decide_eq_true (by omega:(a:Int)<(b:Int)),uO (by omega)];simp only[cond_true];rw[ag Y];simp only[BH,X];rw[u _ Y,ar _ (by omega)];by_cases h:t[(a+b) / 2].1<r
  ·rw[if_pos h,decide_eq_true ((sL _ _).2 h)];rfl
  ·rw[if_neg h,decide_eq_false (λz=>h ((sL _ _).1 z))];rfl
 ·intro rec a ha;simp only[Q32.s0];rw[decide_eq_false (by omega)];simp only[cond_false];by_cases h:a<t.length
  ·rw[decide_eq_true (by omega:(a:Int)<(BG t:Int)),ag h];simp only[cond_true,BH,X,H];congr 3;by_cases z:t[a].1=r
   ·have:(fD t[a].1 r==0)=true:=by simpa using (il t[a].1 r).2 z
    rw[this,decide_eq_true ⟨h,z⟩]
   ·have:(fD t[a].1 r==0)=false:=by
     rw[beq_eq_false_iff_ne];exact λe=>z ((il _ _).1 e)
    rw[this,decide_eq_false (λ⟨_,R⟩=>z R)]
  ·rw[decide_eq_false (by omega)];simp only[cond_false,H];rw[decide_eq_false (λ⟨z,_⟩=>h z)]
def ap (n:Int):Int:=wr .i64 (Int.tdiv n 4)
theorem eG (K:Nat)(n:Int):Q11.f K (n,())=some ((ap n,()),()):=rfl
theorem wZ (K:Nat)(n:Int):Q40.f K (n,())=some ((ap n,()),()):=rfl
theorem qu (K:Nat)(n:aa):Q43.f K (n,())=some ((ap n.1,()),()):=rfl
abbrev aa.table (n:aa):List af:=n.2.2.2.2.2.2.2.2.1
abbrev aa.cast (n:aa):List aM:=n.2.2.2.2.2.2.2.2.2.1
abbrev aa.probe (n:aa):af:=n.2.2.2.2.2.2.2.2.2.2.1
abbrev aa.doubts (n:aa):List bN:=n.2.2.2.2.2.2.2.2.2.2.2.1
abbrev aa.coord (n:aa):dw:=n.2.2.2.2.2.2.2.2.2.2.2.2.1
abbrev aa.places (n:aa):List dJ:=n.2.2.2.2.2.2.2.2.2.2.2.2.2.1
abbrev aa.others (n:aa):List cS:=n.2.2.2.2.2.2.2.2.2.2.2.2.2.2
structure NB (n:aa):Prop where
 table:(aa.table n).length<=1048576
 cast:(aa.cast n).length<=1048576
 doubts:(aa.doubts n).length<=1048576
 by_:∀ d∈aa.doubts n,d.2.2.2.length<=1048576
 places:(aa.places n).length<=1048576
 trips:∀ p∈aa.places n,p.2.2.length<=1048576
 others:(aa.others n).length<=1048576
 facts:∀ x∈aa.others n,x.2.length<=1048576
def ce (t:List af)(s:Int):Prop:=∀ f∈t,ap f.1=s
theorem gr (K:Nat)(t:List af)(s:Int)(u:t.length<=1048576)(y:1048577<K):Ret (Q15.f K (t,s,())) (ce t s):=by
 refine (gp t (step:=λrec a=>Q15.s0 K (t,s,()) rec a) (λi r=>¬ ap t[i].1≠s) u ?_ ?_ y (λ_=>Ret.yes trivial)).iff (fe.trans ?_)
 ·intro rec i r;simp only[Q15.s0];rw[decide_eq_true (by omega:(i:Int)<(BG t:Int))];exact Rnd.ix (ag r) ((Rnd.cndN (P:=ap t[i].1≠s) (by simp[ap]) (λ_=>Rnd.end_)).iff (by simp))
 ·intro rec;simp only[Q15.s0];rw[decide_eq_false (by omega:¬ ((t.length:Int)<(BG t:Int)))];rfl
 ·rw[ce,dC];exact⟨λh i r=>BJ.1 (h i r),λh i r=>BJ.2 (h i r)⟩
theorem w8 (K:Nat)(t:List af)(y:af×Unit->Option Bool)(p:af->Prop)(R:t.length<=1048576)(X:1048577<K)(hφ:∀ f∈t,∃ b,y (f,())=some b/\(b=true<->p f)) :
  Ret (Q39.f K (t,y,())) (∃ f∈t,p f):=by
 have:=ch (step:=λrec a=>Q38.s0 K (t,y,()) rec a) t.length (λi=>(i:Int)) (λj=>∃ h:j<t.length,p t[j]) (some ((-1,()),())) (λj=>some ((((j:Nat):Int),()),())) ?_ ?_ t.length K 0 (by omega) (by omega)
 ·simp only[Q39.f];rcases this with ⟨z,r⟩|⟨j,_,z,⟨H,I⟩,_,r⟩
  ·have e:Q38.f K (t,y,())=some ((-1,()),()):=r;rw[e];refine Ret.of ?_;simp only[ge_iff_le,decide_eq_true_eq];refine⟨λh=>absurd h (by decide),λ⟨f,M,J⟩=>?_⟩;obtain⟨i,u,O⟩:=BM M;exact absurd ⟨u,O ▸ J⟩ (z i (BO _) u)
  ·have e:Q38.f K (t,y,())=some ((((j:Nat):Int),()),()):=r;rw[e];refine Ret.of ?_;simp only[ge_iff_le,decide_eq_true_eq];exact⟨λ_=>⟨t[j],BI H,I⟩,λ_=>BP j⟩
 ·intro rec i u;simp only[Q38.s0];rw[decide_eq_true (by omega:(i:Int)<(BG t:Int)),ag u,ar i (by omega)];simp only[cond_true,BH];obtain⟨b,z,r⟩:=hφ t[i] (BI u);rw[z];simp only[BH];cases b with
  |true=>exact .inr ⟨⟨u,r.1 rfl⟩,rfl⟩
  |false=>exact .inl ⟨λ⟨_,h⟩=>by simpa using r.2 h,rfl⟩
 ·intro rec;simp only[Q38.s0];rw[decide_eq_false (by omega:¬ ((t.length:Int)<(BG t:Int)))];rfl
theorem q8 (K:Nat)(t:List aM)(y:aM×Unit->Option Bool)(p:aM->Prop)(R:t.length<=1048576)(X:1048577<K)(hφ:∀ f∈t,∃ b,y (f,())=some b/\(b=true<->p f)) :
  Ret (Q45.f K (t,y,())) (∃ f∈t,p f):=by
 have:=ch (step:=λrec a=>Q44.s0 K (t,y,()) rec a) t.length (λi=>(i:Int)) (λj=>∃ h:j<t.length,p t[j]) (some ((-1,()),())) (λj=>some ((((j:Nat):Int),()),())) ?_ ?_ t.length K 0 (by omega) (by omega)
 ·simp only[Q45.f];rcases this with ⟨z,r⟩|⟨j,_,z,⟨H,I⟩,_,r⟩
  ·have e:Q44.f K (t,y,())=some ((-1,()),()):=r;rw[e];refine Ret.of ?_;simp only[ge_iff_le,decide_eq_true_eq];refine⟨λh=>absurd h (by decide),λ⟨f,M,J⟩=>?_⟩;obtain⟨i,u,O⟩:=BM M;exact absurd ⟨u,O ▸ J⟩ (z i (BO _) u)
  ·have e:Q44.f K (t,y,())=some ((((j:Nat):Int),()),()):=r;rw[e];refine Ret.of ?_;simp only[ge_iff_le,decide_eq_true_eq];exact⟨λ_=>⟨t[j],BI H,I⟩,λ_=>BP j⟩
 ·intro rec i u;simp only[Q44.s0];rw[decide_eq_true (by omega:(i:Int)<(BG t:Int)),ag u,ar i (by omega)];simp only[cond_true,BH];obtain⟨b,z,r⟩:=hφ t[i] (BI u);rw[z];simp only[BH];cases b with
  |true=>exact .inr ⟨⟨u,r.1 rfl⟩,rfl⟩
  |false=>exact .inl ⟨λ⟨_,h⟩=>by simpa using r.2 h,rfl⟩
 ·intro rec;simp only[Q44.s0];rw[decide_eq_false (by omega:¬ ((t.length:Int)<(BG t:Int)))];rfl
theorem yx (K:Nat)(t:List Int)(y:Int×Unit->Option Bool)(p:Int->Prop)(R:t.length<=1048576)(X:1048577<K)(hφ:∀ f∈t,∃ b,y (f,())=some b/\(b=true<->p f)) :
  Ret (Q61.f K (t,y,())) (∃ f∈t,p f):=by
 have:=ch (step:=λrec a=>Q60.s0 K (t,y,()) rec a) t.length (λi=>(i:Int)) (λj=>∃ h:j<t.length,p t[j]) (some ((-1,()),())) (λj=>some ((((j:Nat):Int),()),())) ?_ ?_ t.length K 0 (by omega) (by omega)
 ·simp only[Q61.f];rcases this with ⟨z,r⟩|⟨j,_,z,⟨H,I⟩,_,r⟩
  ·have e:Q60.f K (t,y,())=some ((-1,()),()):=r;rw[e];refine Ret.of ?_;simp only[ge_iff_le,decide_eq_true_eq];refine⟨λh=>absurd h (by decide),λ⟨f,M,J⟩=>?_⟩;obtain⟨i,u,O⟩:=BM M;exact absurd ⟨u,O ▸ J⟩ (z i (BO _) u)
  ·have e:Q60.f K (t,y,())=some ((((j:Nat):Int),()),()):=r;rw[e];refine Ret.of ?_;simp only[ge_iff_le,decide_eq_true_eq];exact⟨λ_=>⟨t[j],BI H,I⟩,λ_=>BP j⟩
 ·intro rec i u;simp only[Q60.s0];rw[decide_eq_true (by omega:(i:Int)<(BG t:Int)),ag u,ar i (by omega)];simp only[cond_true,BH];obtain⟨b,z,r⟩:=hφ t[i] (BI u);rw[z];simp only[BH];cases b with
  |true=>exact .inr ⟨⟨u,r.1 rfl⟩,rfl⟩
  |false=>exact .inl ⟨λ⟨_,h⟩=>by simpa using r.2 h,rfl⟩
 ·intro rec;simp only[Q60.s0];rw[decide_eq_false (by omega:¬ ((t.length:Int)<(BG t:Int)))];rfl
theorem Ret.fn {o:Option RB}{P:Prop}(h:Ret o P):∃ b,(o.map λy=>y.1.1)=some b/\(b=true<->P):=by
 obtain⟨b,u,r⟩:=h;exact⟨b,by rw[u];rfl,r⟩
theorem oW (K:Nat)(t:List af)(s:Int)(z:t.length<=1048576)(I:1048577<K):Ret (Q42.f K (t,s,())) (ce t s):=by
 refine (Ret.neg (w8 K t (λH=>(Q41.f K (H.1,s,())).map λy=>y.1.1) (λf=>ap f.1≠s) z I (λf _=>?_))).iff ?_
 ·exact⟨_,rfl,by simp[ap]⟩
 ·exact⟨λh f u=>BJ.1 λr=>h ⟨f,u,r⟩,λh ⟨f,u,r⟩=>r (h f u)⟩
theorem iD (K:Nat)(t:List af)(r:Int)(H:t.length<=1048576)(M:1048577<K) :
  (¬ ax t/\Q37.f K (t,r,())=some (((0,(0,(0,false))),false,()),())) \/
  (ax t/\((∃ f∈t,f.1=r/\Q37.f K (t,r,())=some ((f,true,()),()))\/((∀ f∈t,f.1≠r)/\Q37.f K (t,r,())=some (((0,(0,(0,false))),false,()),())))):=by
 simp only[Q37.f];obtain⟨b,X,I⟩:=jG K t H M;rw[X];simp only[BH];cases b with
 |false=>exact .inl ⟨λh=>by simpa using I.2 h,rfl⟩
 |true =>
  have z:=I.1 rfl;obtain⟨m,J,R⟩:=sM K t r H z.2 M;refine .inr ⟨z,?_⟩;simp only[BK,cond_false,R,BH];by_cases h:∃ h:m<t.length,t[m].1=r
  ·rw[decide_eq_true h];obtain⟨u,O⟩:=h;left;refine⟨t[m],BI u,O,?_⟩;simp only[BK,cond_false];rw[ag u];rfl
  ·rw[decide_eq_false h];right;refine⟨?_,rfl⟩;rw[dC];intro i y e;rcases Nat.lt_trichotomy i m with u|u|u
   ·have:=J.lo i y u;omega
   ·subst u;exact h ⟨y,e⟩
   ·have O:=J.hi m (by omega) (B3 _);have Y:=dn.1 z.2 m i (by omega) y u;omega
def bR (f g:af):Prop:=if f.2.1≠g.2.1 then f.2.1>g.2.1 else if f.2.2.1≠g.2.2.1 then f.2.2.1>g.2.2.1 else f.2.2.2=true/\g.2.2.2=false
theorem sN (K:Nat)(f g:af):Ret (Q19.f K (f,g,())) (bR f g):=by
 simp only[Q19.f,bR];by_cases u:f.2.1=g.2.1
 ·have e:(f.2.1 != g.2.1)=false:=by simpa using u
  rw[e,if_neg (by simpa using u)];by_cases r:f.2.2.1=g.2.2.1
  ·have e:(f.2.2.1 != g.2.2.1)=false:=by simpa using r
   rw[e,if_neg (by simpa using r)];exact (Ret.cnd (b:=f.2.2.2) Iff.rfl (λ_=>Ret.of (b:=!g.2.2.2) (by simp))).iff Iff.rfl
  ·have e:(f.2.2.1 != g.2.2.1)=true:=by simpa using r
   rw[e,if_pos r];exact Ret.dec
 ·have e:(f.2.1 != g.2.1)=true:=by simpa using u
  rw[e,if_pos u];exact Ret.dec
def orI:List Int->Int
 |[]=>0
 |x::r=>if x≠0 then x else orI r
theorem AU (K:Nat)(xs:List Int)(J:xs.length<=1048576)(M:1048577<K):Q49.f K (xs,())=some ((orI xs,()),()):=by
 have z:∀ (d k i:Nat),i+d=xs.length->d<k->ae (λrec a=>Q49.s0 K (xs,()) rec a) k (i:Int)=some ((orI (xs.drop i),()),()):=by
  intro d;induction d with
  |zero =>
   intro k i I H;obtain⟨k,rfl⟩:∃ u,k=u+1:=⟨k-1,by omega⟩;show Q49.s0 K (xs,()) _ _=_;simp only[Q49.s0];rw[decide_eq_false (by omega:¬ ((i:Int)<(BG xs:Int))),BT (by omega)];rfl
  |succ d y =>
   intro k i I H;obtain⟨k,rfl⟩:∃ u,k=u+1:=⟨k-1,by omega⟩;have y:=y k (i+1) (by omega) (by omega);show Q49.s0 K (xs,()) _ _=_;simp only[Q49.s0];have r:i<xs.length:=by omega
   rw[decide_eq_true (by omega:(i:Int)<(BG xs:Int)),ag r,ar i (by omega),BQ r];simp only[cond_true,BH,orI];by_cases h:xs[i]=0
   ·have e:(xs[i] != 0)=false:=by simpa using h
    rw[e,if_neg (by simpa using h)];exact y
   ·have e:(xs[i] != 0)=true:=by simpa using h
    rw[e,if_pos h];rfl
 have:=z xs.length K 0 (by omega) (by omega)
 rwa [B5]at this
def cmpF (f g:af):Int:=orI [fD f.1 g.1,fD f.2.1 g.2.1,fD f.2.2.1 g.2.2.1,if f.2.2.2=true/\g.2.2.2=false then 1 else if g.2.2.2=true/\f.2.2.2=false then -1 else 0]
theorem mP (K:Nat)(f g:af)(I:1048577<K):Q50.f K (f,g,())=some ((cmpF f g,()),()):=by
 obtain⟨a,b,c,d⟩:=f;obtain⟨y,r,u,H⟩:=g;have h:∀ z:Int,Q49.f K ([fD a y,fD b r,fD c u,z],())=some ((orI [fD a y,fD b r,fD c u,z],()),()):=λz=>AU K _ (by simp) I
 simp only[Q50.f,cmpF];cases d <;> cases H <;> simp only[BK,BW,cond_true,cond_false] <;> rw[nN,BH,nN,BH,nN,BH,h] <;> rfl
theorem oX {x:Int}(h:x=0)(xs:List Int):orI (x::xs)=orI xs:=by subst h;rfl
theorem uQ {x:Int}(h:x≠0)(xs:List Int):orI (x::xs)=x:=by simp[orI,h]
theorem jH {f g:af}(e:f.1=g.1):cmpF f g>0<->bR f g:=by
 unfold cmpF bR;rw[oX ((il f.1 g.1).2 e)];by_cases u:f.2.1=g.2.1
 ·rw[oX ((il f.2.1 g.2.1).2 u),if_neg (show ¬ f.2.1≠g.2.1 from λh=>h u)];by_cases r:f.2.2.1=g.2.2.1
  ·rw[oX ((il f.2.2.1 g.2.2.1).2 r),if_neg (show ¬ f.2.2.1≠g.2.2.1 from λh=>h r)];cases f.2.2.2 <;> cases g.2.2.2 <;> simp[orI]
  ·rw[uQ (λh=>r ((il f.2.2.1 g.2.2.1).1 h)),if_pos (show f.2.2.1≠g.2.2.1 from r)];exact uP _ _
 ·rw[uQ (λh=>u ((il f.2.1 g.2.1).1 h)),if_pos (show f.2.1≠g.2.1 from u)];exact uP _ _
theorem vH (K:Nat)(f g:af)(r:1048577<K):Ret (Q51.f K (f,g,())) (bA f/\bA g/\f.1=g.1/\bR f g):=by
 refine Ret.and (md K f) (λ_=>Ret.and (md K g) (λ_=>?_) rfl) rfl;refine (Ret.cnd (b:=f.1==g.1) (P:=f.1=g.1) (by simp) (λe=>?_)).iff Iff.rfl;show Ret ((Q50.f K (f,g,())).bind _) _;rw[mP K f g r];refine Ret.of ?_;simp only[gt_iff_lt,decide_eq_true_eq];exact jH e
theorem bo {n:Nat}{m:Int}(h:(n:Int)<m):decide ((n:Int)<m)=true:=decide_eq_true h
theorem aR (n:Nat):decide ((n:Int)<(n:Int))=false:=decide_eq_false (by omega)
def cP (l:List aM):Prop:=(∀ x∈l,bA x.1/\InP x.2 1 4)/\Asc (λx:aM=>x.1.1) l
theorem yy (K:Nat)(l:List aM)(y:l.length<=1048576)(z:1048577<K):Ret (Q18.f K (l,())) (cP l):=by
 refine (gp l (step:=λrec a=>Q18.s0 K (l,()) rec a) (λi r=>bA l[i].1/\InP l[i].2 1 4/\(0<i->¬ (l[i-1]'(by omega)).1.1>=l[i].1.1)/\True) y ?_ ?_ z (λ_=>Ret.yes trivial)).iff (fe.trans ?_)
 ·intro rec i r;simp only[Q18.s0];rw[decide_eq_true (by omega:(i:Int)<(BG l:Int))];simp only[cond_true];refine Rnd.ix (ag r) (Rnd.nx (oV K _) λ_=>Rnd.ix (ag r) (Rnd.nx (cB K _ 1 4) λ_=>Rnd.two (λu=>?_) Rnd.end_));rw[eX i u (by omega)];exact Rnd.ix (ag (by omega)) (Rnd.ix (ag r) (Rnd.cndN (by simp) λ_=>Rnd.end_))
 ·intro rec;simp only[Q18.s0,aR];rfl
 ·rw[cP,dC,gK];constructor
  ·intro h;exact⟨λi r=>⟨(h i r).1,(h i r).2.1⟩,λi r u=>by have:=(h i r).2.2.1 u;omega⟩
  ·rintro⟨h1,h2⟩ i r;exact⟨(h1 i r).1,(h1 i r).2,λu=>by have:=h2 i r u;omega,trivial⟩
theorem uR (K:Nat)(l:List aM)(M:l.length<=1048576)(O:1048577<K):Q47.f K (l,())=some ((l.map (·.1),()),()):=by
 have z:∀ (d k i:Nat),i+d=l.length->d<k->ae (λrec a=>Q47.s0 K (l,()) rec a) k ((l.take i).map (·.1),(i:Int))=some ((l.map (·.1),()),()):=by
  intro d;induction d with
  |zero =>
   intro k i J H;obtain⟨k,rfl⟩:∃ u,k=u+1:=⟨k-1,by omega⟩;show Q47.s0 K (l,()) _ _=_;simp only[Q47.s0];rw[decide_eq_false (by omega:¬ ((i:Int)<(BG l:Int))),BU (by omega)];rfl
  |succ d y =>
   intro k i J H;obtain⟨k,rfl⟩:∃ u,k=u+1:=⟨k-1,by omega⟩;have y:=y k (i+1) (by omega) (by omega);show Q47.s0 K (l,()) _ _=_;have r:i<l.length:=by omega
   simp only[Q47.s0];rw[decide_eq_true (by omega:(i:Int)<(BG l:Int)),ag r,ar i (by omega)];simp only[cond_true,BH];have I:decide ((BG (List.map (λx:aM=>x.1) (List.take i l))+BG [l[i].1])*32<=ak)=true:=decide_eq_true (by simp only[ak,List.length_map,List.length_take,BV];omega);rw[I];have e:(List.take i l).map (λx:aM=>x.1)++[l[i].1]=(l.take (i+1)).map (·.1):=by
    rw[BY,BL r,List.map_append];rfl
   rw[e];exact y
 have:=z l.length K 0 (by omega) (by omega);exact this
theorem vI {l:List aM}:ax (l.map (·.1))<->(∀ x∈l,bA x.1)/\Asc (λx:aM=>x.1.1) l:=by
 unfold ax Asc;rw[BR];simp
theorem xa (K:Nat)(x:aM):Ret (Q46.f K (x,())) (¬ InP x.2 1 4):=by
 simp only[Q46.f];exact (fA K x.2 1 4).neg
theorem yz (K:Nat)(l:List aM)(u:l.length<=1048576)(z:1048577<K):Ret (Q45.f K (l,(λr=>(Q46.f K (r.1,())).map λy=>y.1.1),())) (∃ x∈l,¬ InP x.2 1 4) :=
 q8 K l _ (λx=>¬ InP x.2 1 4) u z (λx _=>Ret.fn (xa K x))
theorem oY (K:Nat)(l:List aM)(u:l.length<=1048576)(y:1048577<K):Ret (Q48.f K (l,())) (cP l):=by
 simp only[Q48.f];obtain⟨H,O,I⟩:=yz K l u y;obtain⟨z,J,M⟩:=jG K (l.map (·.1)) (by simpa using u) y;rw[uR K l u y,BH,J,BH,O,BH];have e:cP l<->(z=true/\H=false):=by
  rw[M,vI,cP,<- Bool.not_eq_true,I];constructor
  ·rintro⟨h5,h6⟩;exact⟨⟨λx r=>(h5 x r).1,h6⟩,λ⟨x,r,h⟩=>h (h5 x r).2⟩
  ·rintro⟨⟨h5,h6⟩,h7⟩;exact⟨λx r=>⟨h5 x r,BJ.1 λh=>h7 ⟨x,r,h⟩⟩,h6⟩
 refine Ret.iff ?_ e.symm;cases z <;> cases H <;> exact⟨_,rfl,by simp⟩
def gY (t:List af)(l:List aM):Prop:=∀ x∈l,∃ f∈t,f.1=x.1.1/\¬ bR x.1 f
theorem gU {t:List af}(h:Asc (λf:af=>f.1) t){f g:af}(y:f∈t)(r:g∈t)(e:f.1=g.1):f=g:=by
 obtain⟨i,u,rfl⟩:=BM y;obtain⟨j,z,rfl⟩:=BM r;have:=oT h u z e;subst this;rfl
theorem uh (K:Nat)(n:aa)(z:NB n)(O:ax (aa.table n))(y:1048577<K):Ret (Q20.f K (n,())) (cP (aa.cast n)/\gY (aa.table n) (aa.cast n)):=by
 refine Ret.nx (yy K _ z.cast y) λ_=>?_
 refine (gp (aa.cast n) (step:=λrec a=>Q20.s0 K (n,()) rec a) (λi H=>∃ f∈aa.table n,f.1=(aa.cast n)[i].1.1/\¬ bR (aa.cast n)[i].1 f) z.cast ?_ ?_ y (λ_=>Ret.yes trivial)).iff (fe.trans ?_)
 ·intro rec i H;simp only[Q20.s0];rw[decide_eq_true (by omega:(i:Int)<(BG (aa.cast n):Int))];simp only[cond_true];refine Rnd.ix (ag H) ?_;obtain⟨o,I,M⟩:=fC K (aa.table n) (aa.cast n)[i].1.1 z.table y;refine Rnd.vl M ?_;cases I with
  |no h =>
   rw[show decide ((-1:Int)<0)=true from rfl];exact .inr ⟨λ⟨f,r,e,_⟩=>h f r e,rfl⟩
  |at_ j u e =>
   simp only;rw[decide_eq_false (by omega:¬ ((j:Int)<0))];refine (Rnd.ix (ag H) (Rnd.ix (ag u) (Rnd.fx (sN K _ _) λ_=>Rnd.end_))).iff ⟨λh=>⟨_,BI u,e,h.1⟩,λ⟨f,r,J,h⟩=>⟨?_,trivial⟩⟩;have:=gU O.2 r (BI u) (J.trans e.symm)
   rwa [<- this]
 ·intro rec;simp only[Q20.s0,aR];rfl
 ·rw[gY,dC]
theorem yA (K:Nat)(n:aa)(O:NB n)(M:ax (aa.table n))(R:cP (aa.cast n))(J:1048577<K) :
  Ret ((Q45.f K (aa.cast n,(λX=>(Q52.f K (X.1,n,())).map λy=>y.1.1),())).bind λZ=>some ((!Z.1.1,()),())) (gY (aa.table n) (aa.cast n)):=by
 refine (Ret.neg (q8 K _ _ (λx=>¬ ∃ f∈aa.table n,f.1=x.1.1/\¬ bR x.1 f) O.cast J (λx H=>Ret.fn ?_))).iff ?_
 ·simp only[Q52.f];rcases iD K (aa.table n) x.1.1 O.table J with ⟨z,_⟩|⟨_,⟨f,u,e,z⟩|⟨r,z⟩⟩
  ·exact absurd M z
  ·refine Ret.vl z ?_;refine (vH K x.1 f J).id.iff ⟨λh ⟨g,Y,e2,I⟩=>?_,λh=>?_⟩
   ·have:=gU M.2 Y u (e2.trans e.symm);exact I (this ▸ h.2.2.2)
   ·refine⟨(R.1 x H).1,M.1 f u,e.symm,BJ.1 λI=>h ⟨f,u,e,I⟩⟩
  ·refine Ret.vl z ?_;exact Ret.yes (λ⟨f,u,e,_⟩=>r f u e)
 ·exact⟨λh x H=>BJ.1 λr=>h ⟨x,H,r⟩,λh ⟨x,H,r⟩=>r (h x H)⟩
def db (n:aa):Prop:=((n.1,n.2.2.2.2.1,(if n.2.2.1=true then 4 else 1),n.2.2.2.1):af)∈aa.table n
theorem AV (K:Nat)(n:aa)(M:NB n)(O:ax (aa.table n))(I:1048577<K):Ret (Q17.f K (n,())) (db n):=by
 simp only[Q17.f];obtain⟨o,y,J⟩:=fC K (aa.table n) n.1 M.table I;refine Ret.vl J ?_;cases y with
 |no h =>
  rw[show decide ((-1:Int)<0)=true from rfl];exact Ret.no (λz=>h _ z rfl)
 |at_ j u e =>
  simp only;rw[decide_eq_false (by omega:¬ ((j:Int)<0))];refine Ret.vl (ag u) ?_;have r:db n<->(aa.table n)[j]=((n.1,n.2.2.2.2.1,(if n.2.2.1=true then 4 else 1),n.2.2.2.1):af):=by
   constructor
   ·intro h;exact gU O.2 (BI u) h e
   ·intro h;show _∈_;rw[<- h];exact BI u
  have H:(aa.table n)[j]=((n.1,n.2.2.2.2.1,(if n.2.2.1=true then 4 else 1),n.2.2.2.1):af)<->((aa.table n)[j].2.1=n.2.2.2.2.1/\(aa.table n)[j].2.2.1=(if n.2.2.1=true then 4 else 1)/\(aa.table n)[j].2.2.2=n.2.2.2.1):=by
   generalize (aa.table n)[j]=f at e ⊢;obtain⟨a,b,c,d⟩:=f;simp at e ⊢;intro _ _ _;exact e
  refine Ret.iff ?_ (r.trans H).symm;cases R:n.2.2.1 with
  |true=>exact Ret.cnd (by simp) λ_=>Ret.cnd (by simp) λ_=>Ret.of (by simp)
  |false=>exact Ret.cnd (by simp) λ_=>Ret.cnd (by simp) λ_=>Ret.of (by simp)
theorem jI (f g:af):Ty.eqv ty_impl_Fact_D f g=decide (f=g):=by
 obtain⟨a,b,c,d⟩:=f;obtain⟨z,u,y,r⟩:=g;show (decide (a=z)&&(decide (b=u)&&(decide (c=y)&&(d==r))))=_;cases d <;> cases r <;> simp[BX]
theorem pE (f g:dw):Ty.eqv ty_impl_Coord_D f g=decide (f=g):=by
 obtain⟨a,b,c,d⟩:=f;obtain⟨z,u,y,r⟩:=g;show (decide (a=z)&&(decide (b=u)&&(decide (c=y)&&decide (d=r))))=_;simp[BX]
theorem qv (K:Nat)(n:aa)(M:NB n)(J:1048577<K):Ret (Q53.f K (n,()))
  (ax (aa.table n)/\ce (aa.table n) (ap n.1)/\db n/\cP (aa.cast n)/\gY (aa.table n) (aa.cast n)):=by
 have z:∀ (w:Int),ax (aa.table n)->Ret ((Q43.f K (n,())).bind λZ=>(Q42.f K (aa.table n,Z.1.1,())).bind λY=>bif !Y.1.1 then rb false else
   ((Q48.f K (aa.cast n,())).bind λX=>bif !X.1.1 then rb false else
    ((Q45.f K (aa.cast n,(λO=>(Q52.f K (O.1,n,())).map λy=>y.1.1),())).bind λR=>some ((!R.1.1,()),()))))
   (ce (aa.table n) (ap n.1)/\cP (aa.cast n)/\gY (aa.table n) (aa.cast n)):=by
  intro _ H;exact Ret.vl (qu K n) (Ret.nx (oW K _ _ M.table J) λ_=>Ret.nx (oY K _ M.cast J) λhC=>yA K n M H hC J)
 have r:∀ (w:Int),w=(if n.2.2.1=true then 4 else 1)->Ret ((Q37.f K (aa.table n,n.1,())).bind λy1=>bif !y1.1.2.1 then rb false else bif !Ty.eqv ty_impl_Fact_D y1.1.1 (n.1,(n.2.2.2.2.1,(w,n.2.2.2.1))) then rb false else
   ((Q43.f K (n,())).bind λZ=>(Q42.f K (aa.table n,Z.1.1,())).bind λY=>bif !Y.1.1 then rb false else
   ((Q48.f K (aa.cast n,())).bind λX=>bif !X.1.1 then rb false else
    ((Q45.f K (aa.cast n,(λO=>(Q52.f K (O.1,n,())).map λy=>y.1.1),())).bind λR=>some ((!R.1.1,()),())))))
   (ax (aa.table n)/\ce (aa.table n) (ap n.1)/\db n/\cP (aa.cast n)/\gY (aa.table n) (aa.cast n)):=by
  intro w hw;rcases iD K (aa.table n) n.1 M.table J with ⟨u,h2⟩|⟨H,⟨f,hf,e,u⟩|⟨h2,u⟩⟩
  ·exact Ret.vl h2 (Ret.no (λh=>u h.1))
  ·refine Ret.vl u ?_;simp only[BK,cond_false];rw[jI];by_cases I:f=(n.1,(n.2.2.2.2.1,(w,n.2.2.2.1)))
   ·rw[decide_eq_true I];have hS:db n:=by
     show _∈_;rw[<- hw,<- I];exact hf
    exact (z w H).iff ⟨λh=>⟨H,h.1,hS,h.2.1,h.2.2⟩,λh=>⟨h.2.1,h.2.2.2⟩⟩
   ·rw[decide_eq_false I];refine Ret.no (λh=>I ?_);have:=gU H.2 hf h.2.2.1 e;rw[this,hw]
  ·refine Ret.vl u (Ret.no (λh=>h2 _ h.2.2.1 rfl))
 simp only[Q53.f];cases hg:n.2.2.1 with
 |true=>exact r 4 (by rw[hg];rfl)
 |false=>exact r 1 (by rw[hg];rfl)
def cU (n:aa):Prop:=if (aa.probe n).1=-1 then aa.probe n=(-1,0,0,false) else
 (aa.probe n).1≠n.1/\(∃ f∈aa.table n,f.1=(aa.probe n).1)/\InP (aa.probe n).2.1 0 n.2.2.2.2.2.1/\InP (aa.probe n).2.2.1 1 n.2.2.2.2.2.2.1
theorem zX (K:Nat)(n:aa)(M:NB n)(I:1048577<K):Ret (Q21.f K (n,())) (cU n):=by
 simp only[Q21.f,cU];by_cases h:(aa.probe n).1=-1
 ·rw[if_pos h,show ((aa.probe n).1==-1)=true by simpa using h];refine (Ret.cnd (P:=(aa.probe n).2.1=0) (by simp) λ_=>Ret.cnd (P:=(aa.probe n).2.2.1=0) (by simp) λ_=>Ret.of (P:=(aa.probe n).2.2.2=false) (by simp)).iff ?_;generalize aa.probe n=p at h ⊢;obtain⟨a,b,c,d⟩:=p;simp at h ⊢;intro _ _ _;exact h
 ·rw[if_neg h,show ((aa.probe n).1==-1)=false by simpa using h];refine Ret.cnd (by simp) λ_=>?_
  obtain⟨o,u,J⟩:=fC K (aa.table n) (aa.probe n).1 M.table I;refine Ret.vl J ?_;cases u with
  |no y=>exact Ret.no (λ⟨⟨f,z,e⟩,_⟩=>y f z e)
  |at_ j H e =>
   simp only;rw[show decide ((j:Int)>=0)=true from decide_eq_true (by omega)];exact (Ret.px (cB K _ _ _) λ_=>(cB K _ _ _).id).iff ⟨λr=>⟨⟨_,BI H,e⟩,r⟩,λr=>r.2⟩
theorem zY (K:Nat)(n:aa)(J:NB n)(H:ax (aa.table n))(I:1048577<K):Ret (Q54.f K (n,())) (cU n):=by
 simp only[Q54.f,cU];by_cases h:(aa.probe n).1=-1
 ·rw[if_pos h,show ((aa.probe n).1==-1)=true by simpa using h,jI];exact Ret.dec
 ·rw[if_neg h,show ((aa.probe n).1==-1)=false by simpa using h];rcases iD K (aa.table n) (aa.probe n).1 J.table I with ⟨u,_⟩|⟨_,⟨f,y,e,u⟩|⟨z,u⟩⟩
  ·exact absurd H u
  ·refine Ret.vl u ?_;exact (Ret.cnd (P:=(aa.probe n).1≠n.1) (by simp) λ_=>Ret.px (fA K _ _ _) λ_=>(fA K _ _ _).id).iff ⟨λr=>⟨r.1,⟨f,y,e⟩,r.2⟩,λr=>⟨r.1,r.2.2⟩⟩
  ·exact Ret.vl u (Ret.no (λ⟨_,⟨f,y,e⟩,_⟩=>z f y e))
def cC (c:dw):Prop:=InP c.1 (-100000) 100000/\InP c.2.1 (-100000) 100000/\InP c.2.2.1 0 100000/\InP c.2.2.2 1 1500
theorem iE (K:Nat)(c:dw):Ret (Q23.f K (c,())) (cC c) :=
 Ret.px (cB K _ _ _) λ_=>Ret.px (cB K _ _ _) λ_=>Ret.px (cB K _ _ _) λ_=>(cB K _ _ _).id
theorem qw (K:Nat)(c:dw):Ret (Q57.f K (c,())) (cC c) :=
 Ret.px (fA K _ _ _) λ_=>Ret.px (fA K _ _ _) λ_=>Ret.px (fA K _ _ _) λ_=>(fA K _ _ _).id
def AW (r:Int)(p:dJ):Prop:=InP p.1 0 7/\ap p.1=ap r/\p.1≠r/\cC p.2.1/\InP (p.2.2.length:Int) 1 3/\∀ t∈p.2.2,InP t 1 60000
def eu (r:Int)(l:List dJ):Prop:=(∀ p∈l,AW r p)/\Asc (λp:dJ=>p.1) l
theorem xb (K:Nat)(n:aa)(x:Int):Ret (Q55.f K (n,x,())) (InP x 0 7/\ap x=ap n.1):=by
 refine Ret.px (oU K x) λ_=>?_
 exact Ret.of (b:=ap x==ap n.1) (by simp)
theorem zZ (K:Nat)(n:aa)(x:Int):Ret (Q59.f K (n,x,())) ((InP x 0 7/\ap x=ap n.1)/\x≠n.1):=by
 refine Ret.px (xb K n x) λ_=>?_
 exact Ret.of (b:=x != n.1) (by simp)
theorem yB (K:Nat)(n:aa)(X:NB n)(hK:1048577<K):Ret (Q24.f K (n,())) (eu n.1 (aa.places n)):=by
 refine (gp (aa.places n) (step:=λrec a=>Q24.s0 K (n,()) (Q24.l1 K (n,()) rec) rec a)
  (λi y=>InP (aa.places n)[i].1 0 7/\¬ ap (aa.places n)[i].1≠ap n.1/\¬ (aa.places n)[i].1=n.1/\(0<i->¬ ((aa.places n)[i-1]'(by omega)).1>=(aa.places n)[i].1) /\
   cC (aa.places n)[i].2.1/\InP ((aa.places n)[i].2.2.length:Int) 1 3/\∀ k (z:k<(aa.places n)[i].2.2.length),InP (aa.places n)[i].2.2[k] 1 60000/\True) X.places ?_ ?_ hK (λ_=>Ret.yes trivial)).iff (fe.trans ?_)
 ·intro rec i y;have Z:=X.trips _ (BI y);have hl:=X.places;have u:Rnd (Q24.l1 K (n,()) rec ((i:Int),0,(aa.places n)[i].1,(aa.places n)[i].2.1.1,(aa.places n)[i].2.1.2.1,(aa.places n)[i].2.1.2.2.1,(aa.places n)[i].2.1.2.2.2,(aa.places n)[i].2.2))
    (∀ k (z:k<(aa.places n)[i].2.2.length),InP (aa.places n)[i].2.2[k] 1 60000/\True) (rec (wr .i64 ((i:Int)+1))):=by
   generalize (aa.places n)[i]=p at Z;refine oS p.2.2 (step:=λr a=>Q24.s1 K (n,()) rec r a) (λk=>((i:Int),(k:Int),p.1,p.2.1.1,p.2.1.2.1,p.2.1.2.2.1,p.2.1.2.2.2,p.2.2)) (λk z=>InP p.2.2[k] 1 60000/\True) Z ?_ ?_ hK
   ·intro r k z;simp only[Q24.s1];rw[decide_eq_true (by omega:(k:Int)<(BG p.2.2:Int)),ar k (by omega)];simp only[cond_true];exact Rnd.ix (ag z) (Rnd.nx (cB K _ _ _) λ_=>Rnd.end_)
   ·intro r;simp only[Q24.s1,aR];rfl
  simp only[Q24.s0];rw[decide_eq_true (by omega:(i:Int)<(BG (aa.places n):Int))];simp only[cond_true];refine Rnd.ix (ag y) (Rnd.nx (cB K _ _ _) λ_=>Rnd.vl (eG K _) (Rnd.vl (eG K _) (Rnd.cndN (by simp) λ_=>Rnd.cndN (by simp) λ_=>Rnd.two (λH=>?_) ?_)))
  ·rw[eX i H (by omega)];exact Rnd.ix (ag (show i-1<(aa.places n).length by omega)) (Rnd.cndN (by simp) λ_=>Rnd.nx (iE K _) λ_=>Rnd.nx (cB K _ _ _) λ_=>u)
  ·exact Rnd.nx (iE K _) λ_=>Rnd.nx (cB K _ _ _) λ_=>u
 ·intro rec;simp only[Q24.s0,aR];rfl
 ·rw[eu,dC,gK];constructor
  ·intro h;refine⟨λi y=>?_,λi y H=>?_⟩
   ·obtain⟨R,J,I,h4,Y,O,M⟩:=h i y;exact⟨R,BJ.1 J,I,Y,O,dC.2 λk z=>(M k z).1⟩
   ·have:=(h i y).2.2.2.1 H;omega
  ·rintro⟨R,J⟩ i y;obtain⟨I,h4,Y,O,M,h8⟩:=R i y;exact⟨I,BJ.2 h4,Y,λH=>by have:=J i y H;omega,O,M,λk z=>⟨dC.1 h8 k z,trivial⟩⟩
theorem yC (K:Nat)(n:aa)(X:NB n)(hK:1048577<K):Ret (Q62.f K (n,())) (eu n.1 (aa.places n)):=by
 refine (gp (aa.places n) (step:=λrec a=>Q62.s0 K (n,()) rec a)
  (λi u=>((InP (aa.places n)[i].1 0 7/\ap (aa.places n)[i].1=ap n.1)/\(aa.places n)[i].1≠n.1)/\(0<i->¬ (aa.places n)[i].1<=((aa.places n)[i-1]'(by omega)).1) /\
   cC (aa.places n)[i].2.1/\InP ((aa.places n)[i].2.2.length:Int) 1 3/\(¬ ∃ t∈(aa.places n)[i].2.2,¬ InP t 1 60000)/\True) X.places ?_ ?_ hK (λ_=>Ret.yes trivial)).iff (fe.trans ?_)
 ·intro rec i u;have hb:=X.trips _ (BI u);have hl:=X.places;have r:Ret (Q61.f K ((aa.places n)[i].2.2,(λy6=>(Q58.f K (y6.1,())).map λy=>y.1.1),())) (∃ t∈(aa.places n)[i].2.2,¬ InP t 1 60000) :=
   yx K _ _ _ hb hK (λt _=>Ret.fn (fA K t _ _).neg)
  simp only[Q62.s0];rw[decide_eq_true (by omega:(i:Int)<(BG (aa.places n):Int))];simp only[cond_true];refine Rnd.ix (ag u) (Rnd.nx (zZ K n _) λ_=>Rnd.two (λz=>?_) ?_)
  ·rw[eX i z (by omega)];exact Rnd.ix (ag (show i-1<(aa.places n).length by omega)) (Rnd.cndN (by simp) λ_=>Rnd.nx (qw K _) λ_=>Rnd.nx (fA K _ _ _) λ_=>Rnd.fx r λ_=>Rnd.end_)
  ·exact Rnd.nx (qw K _) λ_=>Rnd.nx (fA K _ _ _) λ_=>Rnd.fx r λ_=>Rnd.end_
 ·intro rec;simp only[Q62.s0,aR];rfl
 ·rw[eu,dC,gK];constructor
  ·intro h;refine⟨λi u=>?_,λi u z=>?_⟩
   ·obtain⟨⟨⟨Y,J⟩,I⟩,h4,Z,R,M,_⟩:=h i u;exact⟨Y,J,I,Z,R,λt H=>BJ.1 λO=>M ⟨t,H,O⟩⟩
   ·have:=(h i u).2.1 z;omega
  ·rintro⟨Y,J⟩ i u;obtain⟨I,h4,Z,R,M,O⟩:=Y i u;exact⟨⟨⟨I,h4⟩,Z⟩,λz=>by have:=J i u z;omega,R,M,λ⟨t,H,h9⟩=>h9 (O t H),trivial⟩
def AX (r:Int)(x:cS):Prop:=InP x.1 0 1/\x.1≠ap r/\x.2≠[]/\ax x.2/\ce x.2 x.1
def c6 (r:Int)(l:List cS):Prop:=(∀ x∈l,AX r x)/\Asc (λx:cS=>x.1) l
theorem oZ {α:Type}(l:List α):((BG l:Int)==0)=true<->l=[]:=by
 cases l <;> simp;omega
theorem yD (K:Nat)(n:aa)(H:NB n)(y:1048577<K):Ret (Q25.f K (n,())) (c6 n.1 (aa.others n)):=by
 refine (gp (aa.others n) (step:=λrec a=>Q25.s0 K (n,()) rec a)
  (λi r=>InP (aa.others n)[i].1 0 1/\¬ (aa.others n)[i].1=ap n.1/\(0<i->¬ ((aa.others n)[i-1]'(by omega)).1>=(aa.others n)[i].1) /\
   ¬ (aa.others n)[i].2=[]/\ax (aa.others n)[i].2/\ce (aa.others n)[i].2 (aa.others n)[i].1/\True) H.others ?_ ?_ y (λ_=>Ret.yes trivial)).iff (fe.trans ?_)
 ·intro rec i r;have z:=H.facts _ (BI r);have X:=H.others;simp only[Q25.s0];rw[decide_eq_true (by omega:(i:Int)<(BG (aa.others n):Int))];simp only[cond_true];refine Rnd.ix (ag r) (Rnd.nx (cB K _ _ _) λ_=>Rnd.vl (eG K _) (Rnd.cndN (by simp) λ_=>Rnd.two (λu=>?_) ?_))
  ·rw[eX i u (by omega)];exact Rnd.ix (ag (show i-1<(aa.others n).length by omega)) (Rnd.cndN (by simp) λ_=>Rnd.cndN (oZ _) λ_=>Rnd.nx (gq K _ z y) λ_=>Rnd.nx (gr K _ _ z y) λ_=>Rnd.end_)
  ·exact Rnd.cndN (oZ _) λ_=>Rnd.nx (gq K _ z y) λ_=>Rnd.nx (gr K _ _ z y) λ_=>Rnd.end_
 ·intro rec;simp only[Q25.s0,aR];rfl
 ·rw[c6,dC,gK];constructor
  ·intro h;exact⟨λi r=>⟨(h i r).1,(h i r).2.1,(h i r).2.2.2.1,(h i r).2.2.2.2.1,(h i r).2.2.2.2.2.1⟩,λi r u=>by have:=(h i r).2.2.1 u;omega⟩
  ·rintro⟨h1,h2⟩ i r;obtain⟨I,J,R,O,M⟩:=h1 i r;exact⟨I,J,λu=>by have:=h2 i r u;omega,R,O,M,trivial⟩
theorem yE (K:Nat)(n:aa)(J:NB n)(z:1048577<K):Ret (Q63.f K (n,())) (c6 n.1 (aa.others n)):=by
 refine (gp (aa.others n) (step:=λrec a=>Q63.s0 K (n,()) rec a)
  (λi r=>InP (aa.others n)[i].1 0 1/\¬ (aa.others n)[i].1=ap n.1/\(0<i->¬ (aa.others n)[i].1<=((aa.others n)[i-1]'(by omega)).1) /\
   ¬ (aa.others n)[i].2=[]/\ax (aa.others n)[i].2/\ce (aa.others n)[i].2 (aa.others n)[i].1/\True) J.others ?_ ?_ z (λ_=>Ret.yes trivial)).iff (fe.trans ?_)
 ·intro rec i r;have H:=J.facts _ (BI r);have Y:=J.others;have I:ap 7=1:=by unfold ap;rw[aE (by decide) (by decide)];decide
  have u:=fA K (aa.others n)[i].1 0 (ap 7);rw[I]at u;simp only[Q63.s0];rw[decide_eq_true (by omega:(i:Int)<(BG (aa.others n):Int))];simp only[cond_true];refine Rnd.ix (ag r) (Rnd.vl (wZ K 7) ?_);dsimp only;rw[I];refine Rnd.nx u λ_=>Rnd.vl (qu K n) (Rnd.cndN (by simp) λ_=>Rnd.two (λy=>?_) ?_)
  ·rw[eX i y (by omega)];exact Rnd.ix (ag (show i-1<(aa.others n).length by omega)) (Rnd.cndN (by simp) λ_=>Rnd.cndN (oZ _) λ_=>Rnd.nx (jG K _ H z) λ_=>Rnd.nx (oW K _ _ H z) λ_=>Rnd.end_)
  ·exact Rnd.cndN (oZ _) λ_=>Rnd.nx (jG K _ H z) λ_=>Rnd.nx (oW K _ _ H z) λ_=>Rnd.end_
 ·intro rec;simp only[Q63.s0,aR];rfl
 ·rw[c6,dC,gK];constructor
  ·intro h;exact⟨λi r=>⟨(h i r).1,(h i r).2.1,(h i r).2.2.2.1,(h i r).2.2.2.2.1,(h i r).2.2.2.2.2.1⟩,λi r y=>by have:=(h i r).2.2.1 y;omega⟩
  ·rintro⟨h1,h2⟩ i r;obtain⟨M,O,X,R,I⟩:=h1 i r;exact⟨M,O,λy=>by have:=h2 i r y;omega,X,R,I,trivial⟩
def ByP (r:Int)(l:List Int):Prop:=(∀ b∈l,InP b 0 7/\ap b=ap r)/\Asc (λb:Int=>b) l
def lH (n:aa)(d:bN):Prop:=(∃ f∈aa.table n,f.1=d.1/\f.2.2.1=2/\f.2.1=d.2.1)/\InP d.2.2.1 0 n.2.2.2.2.2.1/\d.2.2.2≠[]/\ByP n.1 d.2.2.2
def aU (t:List af):List af:=t.filter λf=>f.2.2.1==2
def iF (n:aa):Prop:=(∀ d∈aa.doubts n,lH n d)/\Asc (λd:bN=>d.1) (aa.doubts n)/\(aU (aa.table n)).length=(aa.doubts n).length
theorem xc {y:Int}{l:List Int}:ByP y l<->∀ k (r:k<l.length),(InP l[k] 0 7/\ap l[k]=ap y)/\(0<k->¬ l[k-1]'(by omega)>=l[k]):=by
 rw[ByP,dC,gK];constructor
 ·rintro⟨h1,h2⟩ k r;exact⟨h1 k r,λu=>by have:=h2 k r u;omega⟩
 ·intro h;exact⟨λk r=>(h k r).1,λk r u=>by have:=(h k r).2 u;omega⟩
theorem z7 (K:Nat)(n:aa)(J:NB n)(X:1048577<K):Q22.l2 K (n,()) (0,0)=rb (decide ((aU (aa.table n)).length=(aa.doubts n).length)):=by
 have R:=J.table;have y:∀ (d k i c:Nat),i+d=(aa.table n).length->d<k->c<=i ->
   ae (λrec a=>Q22.s2 K (n,()) rec a) k ((c:Int),(i:Int))=rb (decide (c+(aU ((aa.table n).drop i)).length=(aa.doubts n).length)):=by
  intro d;induction d with
  |zero =>
   intro k i c M I O;obtain⟨k,rfl⟩:∃ u,k=u+1:=⟨k-1,by omega⟩;show Q22.s2 K (n,()) _ _=_;simp only[Q22.s2];rw[decide_eq_false (show ¬ ((i:Int)<(BG (aa.table n):Int)) by omega),BT (by omega)];simp only[cond_false,aU,List.filter_nil,List.length_nil,Nat.add_zero];have e:((c:Int)==(BG (aa.doubts n):Int))=decide (c=(aa.doubts n).length):=by
    by_cases h:c=(aa.doubts n).length
    ·rw[decide_eq_true h,h];simp
    ·rw[decide_eq_false h,beq_eq_false_iff_ne];omega
   exact congrArg rb e
  |succ d H =>
   intro k i c M I O;obtain⟨k,rfl⟩:∃ u,k=u+1:=⟨k-1,by omega⟩;have r:i<(aa.table n).length:=by omega
   show Q22.s2 K (n,()) _ _=_;simp only[Q22.s2];rw[decide_eq_true (show ((i:Int)<(BG (aa.table n):Int)) by omega),ag r,ar i (by omega),ar c (by omega),BQ r];simp only[cond_true,BH];cases z:((aa.table n)[i].2.2.1==2) with
   |true =>
    have:=H k (i+1) (c+1) (by omega) (by omega) (by omega);simp only[cond_true];have e:c+1+(aU ((aa.table n).drop (i+1))).length=c+(aU ((aa.table n)[i]::(aa.table n).drop (i+1))).length:=by
     simp only[aU,BS,z,if_true,List.length_cons];omega
    rw[<- e];exact this
   |false =>
    have:=H k (i+1) c (by omega) (by omega) (by omega);simp only[cond_false];have e:aU ((aa.table n)[i]::(aa.table n).drop (i+1))=aU ((aa.table n).drop (i+1)):=by
     simp only[aU,BS,z,BN,if_false]
    rw[e];exact this
 have:=y (aa.table n).length K 0 0 (by omega) (by omega) (B3 _);rw[B5,Nat.zero_add]at this;exact this
theorem yF (K:Nat)(n:aa)(R:NB n)(hT:ax (aa.table n))(Y:1048577<K):Ret (Q22.f K (n,())) (iF n):=by
 refine (gp (aa.doubts n) (step:=λrec a=>Q22.s0 K (n,()) (Q22.l1 K (n,()) rec) (Q22.l2 K (n,())) rec a)
  (λi z=>(0<i->¬ ((aa.doubts n)[i-1]'(by omega)).1>=(aa.doubts n)[i].1)/\lH n (aa.doubts n)[i]) (Q:=(aU (aa.table n)).length=(aa.doubts n).length) (rt:=Q22.l2 K (n,()) (0,0)) R.doubts ?_ ?_ Y (λ_=>by rw[z7 K n R Y];exact Ret.dec)).iff ?_
 ·intro rec i z;have Z:=R.by_ _ (BI z);have hl:=R.doubts;have y:Rnd (Q22.l1 K (n,()) rec ((i:Int),0,(aa.doubts n)[i].1,(aa.doubts n)[i].2.1,(aa.doubts n)[i].2.2.1,(aa.doubts n)[i].2.2.2)) (ByP n.1 (aa.doubts n)[i].2.2.2) (rec (wr .i64 ((i:Int)+1))):=by
   generalize (aa.doubts n)[i]=d at Z;refine (oS d.2.2.2 (step:=λu a=>Q22.s1 K (n,()) rec u a) (λk=>((i:Int),(k:Int),d.1,d.2.1,d.2.2.1,d.2.2.2))
    (λk r=>InP d.2.2.2[k] 0 7/\¬ ap d.2.2.2[k]≠ap n.1/\(0<k->¬ d.2.2.2[k-1]'(by omega)>=d.2.2.2[k])/\True) Z ?_ ?_ Y).iff ?_
   ·intro u k r;simp only[Q22.s1];rw[decide_eq_true (by omega:(k:Int)<(BG d.2.2.2:Int)),ar k (by omega)];simp only[cond_true];refine Rnd.ix (ag r) (Rnd.nx (cB K _ _ _) λ_=>Rnd.ix (ag r) (Rnd.vl (eG K _) (Rnd.vl (eG K _) (Rnd.cndN (by simp) λ_=>Rnd.two (λH=>?_) Rnd.end_))));rw[eX k H (by omega)];exact Rnd.ix (ag (show k-1<d.2.2.2.length by omega)) (Rnd.ix (ag r) (Rnd.cndN (by simp) λ_=>Rnd.end_))
   ·intro u;simp only[Q22.s1,aR];rfl
   ·rw[xc];constructor
    ·intro h k r;exact⟨⟨(h k r).1,BJ.1 (h k r).2.1⟩,(h k r).2.2.1⟩
    ·intro h k r;exact⟨(h k r).1.1,BJ.2 (h k r).1.2,(h k r).2,trivial⟩
  obtain⟨o,ho,O⟩:=fC K (aa.table n) (aa.doubts n)[i].1 R.table Y;simp only[Q22.s0];rw[decide_eq_true (show ((i:Int)<(BG (aa.doubts n):Int)) by omega)];simp only[cond_true];refine Rnd.ix (ag z) (Rnd.vl O ?_);cases ho with
  |no h =>
   have X:¬ lH n (aa.doubts n)[i]:=λ⟨⟨f,O,e,_⟩,_⟩=>h f O e
   refine Rnd.two (λH=>?_) ?_
   ·rw[eX i H (by omega)];refine Rnd.ix (ag (show i-1<(aa.doubts n).length by omega)) (Rnd.cndN (by simp) λ_=>?_);exact .inr ⟨X,rfl⟩
   ·exact .inr ⟨X,rfl⟩
  |at_ j M e =>
   have J:decide ((j:Int)<0)=false:=decide_eq_false (by omega);have I:lH n (aa.doubts n)[i]<->(¬ (aa.table n)[j].2.2.1≠2/\¬ (aa.table n)[j].2.1≠(aa.doubts n)[i].2.1/\InP (aa.doubts n)[i].2.2.1 0 n.2.2.2.2.2.1/\¬ (aa.doubts n)[i].2.2.2=[]/\ByP n.1 (aa.doubts n)[i].2.2.2):=by
    constructor
    ·rintro⟨⟨f,O,e1,e2,e3⟩,h2,h3,h4⟩;have:=gU hT.2 O (BI M) (e1.trans e.symm);subst this;exact⟨BJ.2 e2,BJ.2 e3,h2,h3,h4⟩
    ·rintro⟨e2,e3,h2,h3,h4⟩;exact⟨⟨_,BI M,e,BJ.1 e2,BJ.1 e3⟩,h2,h3,h4⟩
   refine Rnd.two (λH=>?_) ?_
   ·rw[eX i H (by omega)];refine Rnd.ix (ag (show i-1<(aa.doubts n).length by omega)) (Rnd.cndN (by simp) λ_=>?_);simp only[J,cond_false];refine Rnd.iff ?_ I.symm;exact Rnd.ix (ag M) (Rnd.cndN (by simp) λ_=>Rnd.ix (ag M) (Rnd.cndN (by simp) λ_=>Rnd.nx (cB K _ _ _) λ_=>Rnd.cndN (oZ _) λ_=>y))
   ·simp only[J,cond_false];refine Rnd.iff ?_ I.symm;exact Rnd.ix (ag M) (Rnd.cndN (by simp) λ_=>Rnd.ix (ag M) (Rnd.cndN (by simp) λ_=>Rnd.nx (cB K _ _ _) λ_=>Rnd.cndN (oZ _) λ_=>y))
 ·intro rec;simp only[Q22.s0,aR];rfl
 ·rw[iF,dC,gK];constructor
  ·rintro⟨h1,h2⟩;exact⟨λi z=>(h1 i z).2,λi z H=>by have:=(h1 i z).1 H;omega,h2⟩
  ·rintro⟨h1,h2,h3⟩;exact⟨λi z=>⟨λH=>by have:=h2 i z H;omega,h1 i z⟩,h3⟩
theorem z8 (K:Nat)(n:aa)(Z:NB n)(S:List af)(hS:S.length=(aa.doubts n).length)(hK:1048577<K):Ret (Q56.l1 K (n,()) (S,0))
  (∀ i (u:i<(aa.doubts n).length),(aa.doubts n)[i].1=(S[i]'(by omega)).1/\(aa.doubts n)[i].2.1=(S[i]'(by omega)).2.1/\InP (aa.doubts n)[i].2.2.1 0 n.2.2.2.2.2.1/\(aa.doubts n)[i].2.2.2≠[]/\ByP n.1 (aa.doubts n)[i].2.2.2):=by
 have hl:=Z.doubts;have J:=mc (step:=λrec a=>Q56.s1 K (n,()) (Q56.l2 K (n,()) rec) rec a) (aa.doubts n).length (λi=>(S,(i:Int)))
  (λi=>∀ u:i<(aa.doubts n).length,¬ (aa.doubts n)[i].1≠(S[i]'(by omega)).1/\¬ (aa.doubts n)[i].2.1≠(S[i]'(by omega)).2.1/\InP (aa.doubts n)[i].2.2.1 0 n.2.2.2.2.2.1/\¬ (aa.doubts n)[i].2.2.2=[]/\ByP n.1 (aa.doubts n)[i].2.2.2)
  (rb true) (rb false) ?_ ?_ (aa.doubts n).length K 0 (by omega) (by omega)
 ·rcases J with ⟨R,I⟩|⟨R,I⟩
  ·refine⟨true,I,iff_of_true rfl λi u=>?_⟩;obtain⟨M,O,X⟩:=R i (BO _) u u;exact⟨BJ.1 M,BJ.1 O,X⟩
  ·refine⟨false,I,iff_of_false (by simp) λh=>R λi _ u _=>?_⟩;obtain⟨M,O,X⟩:=h i u;exact⟨BJ.2 M,BJ.2 O,X⟩
 ·intro rec i u;have Y:=Z.by_ _ (BI u);have H:Rnd (Q56.l2 K (n,()) rec (S,(i:Int),(aa.doubts n)[i].2.2.2,(BG (aa.doubts n)[i].2.2.2:Int),0,(aa.doubts n)[i].1,(aa.doubts n)[i].2.1,(aa.doubts n)[i].2.2.1,(aa.doubts n)[i].2.2.2)) (ByP n.1 (aa.doubts n)[i].2.2.2) (rec (S,wr .i64 ((i:Int)+1))):=by
   generalize (aa.doubts n)[i]=d at Y;refine (oS d.2.2.2 (step:=λr a=>Q56.s2 K (n,()) rec r a) (λk=>(S,(i:Int),d.2.2.2,(BG d.2.2.2:Int),(k:Int),d.1,d.2.1,d.2.2.1,d.2.2.2))
    (λk z=>(InP d.2.2.2[k] 0 7/\ap d.2.2.2[k]=ap n.1)/\(0<k->¬ d.2.2.2[k]<=d.2.2.2[k-1]'(by omega))/\True) Y ?_ ?_ hK).iff ?_
   ·intro r k z;simp only[Q56.s2,zcp4];rw[decide_eq_true (by omega:(k:Int)<(BG d.2.2.2:Int)),ar k (by omega)];simp only[cond_true];refine Rnd.ix (ag z) (Rnd.nx (xb K n _) λ_=>Rnd.two (λh0=>?_) Rnd.end_);rw[eX k h0 (by omega)];exact Rnd.ix (ag (show k-1<d.2.2.2.length by omega)) (Rnd.cndN (by simp) λ_=>Rnd.end_)
   ·intro r;simp only[Q56.s2,zcp4,aR];rfl
   ·rw[xc];constructor
    ·intro h k z;exact⟨(h k z).1,(h k z).2.1⟩
    ·intro h k z;exact⟨(h k z).1,(h k z).2,trivial⟩
  have y:i<S.length:=by omega
  have hr:Rnd (Q56.s1 K (n,()) (Q56.l2 K (n,()) rec) rec (S,(i:Int)))
    (¬ (aa.doubts n)[i].1≠S[i].1/\¬ (aa.doubts n)[i].2.1≠S[i].2.1/\InP (aa.doubts n)[i].2.2.1 0 n.2.2.2.2.2.1/\¬ (aa.doubts n)[i].2.2.2=[]/\ByP n.1 (aa.doubts n)[i].2.2.2) (rec (S,((i+1:Nat):Int))):=by
   rw[<- ar i (by omega)];simp only[Q56.s1];rw[decide_eq_true (show ((i:Int)<(BG (aa.doubts n):Int)) by omega),Int.toNat_natCast];simp only[cond_true];exact Rnd.ix (ag u) (Rnd.ix (ag y) (Rnd.ix (ag y) (Rnd.cndN (by simp) λ_=>Rnd.ix (ag y) (Rnd.ix (ag y) (Rnd.cndN (by simp) λ_=>Rnd.nx (fA K _ _ _) λ_=>Rnd.cndN (oZ _) λ_=>H)))))
  exact hr.imp (λh=>⟨λ_=>h.1,h.2⟩) (λh=>⟨λI=>h.1 (I u),h.2⟩)
 ·intro rec;simp only[Q56.s1,aR];rfl
theorem yG (K:Nat)(n:aa)(hn:NB n)(hT:ax (aa.table n))(hK:1048577<K):Ret (Q56.f K (n,())) (iF n):=by
 have hl:=hn.table;have a2:=hn.doubts;have a0:∀ (d k i:Nat),i+d=(aa.table n).length->d<k->ae (λrec a=>Q56.s0 K (n,()) (Q56.l1 K (n,())) rec a) k (aU ((aa.table n).take i),(i:Int)) =
   (bif (BG (aa.doubts n):Int) != (BG (aU (aa.table n)):Int) then rb false else Q56.l1 K (n,()) (aU (aa.table n),0)):=by
  intro d;induction d with
  |zero =>
   intro k i z hk;obtain⟨k,rfl⟩:∃ X,k=X+1:=⟨k-1,by omega⟩;show Q56.s0 K (n,()) _ _ _=_;simp only[Q56.s0];rw[decide_eq_false (show ¬ ((i:Int)<(BG (aa.table n):Int)) by omega),BU (by omega)];rfl
  |succ d J =>
   intro k i z hk;obtain⟨k,rfl⟩:∃ X,k=X+1:=⟨k-1,by omega⟩;have J:=J k (i+1) (by omega) (by omega);have O:i<(aa.table n).length:=by omega
   show Q56.s0 K (n,()) _ _ _=_;simp only[Q56.s0];rw[decide_eq_true (show ((i:Int)<(BG (aa.table n):Int)) by omega),ag O,ar i (by omega)];simp only[cond_true,BH];have e:aU ((aa.table n).take (i+1))=aU ((aa.table n).take i)++(if (aa.table n)[i].2.2.1==2 then [(aa.table n)[i]] else []):=by
    rw[aU,BY,BL O,List.filter_append];simp[aU,BS]
   cases hb:((aa.table n)[i].2.2.1==2) with
   |true =>
    rw[hb]at e;simp only[if_true]at e;simp only[cond_true];have a1:(aU ((aa.table n).take i)).length<=i:=Nat.le_trans (List.length_filter_le _ _) (by simp;omega);have hs:decide ((BG (aU ((aa.table n).take i))+BG [(aa.table n)[i]])*32<=ak)=true:=decide_eq_true (by simp only[ak,BV];omega);rw[hs];rw[e]at J;exact J
   |false =>
    rw[hb]at e;simp only[BN,if_false,List.append_nil]at e;rw[e]at J;exact J
 have h0:Q56.f K (n,())=_:=a0 (aa.table n).length K 0 (by omega) (by omega);rw[h0];have y:∀ f∈aU (aa.table n),f∈aa.table n/\f.2.2.1=2:=λf H=>by
  rw[aU,B4]at H;exact⟨H.1,by simpa using H.2⟩
 have u:Asc (λf:af=>f.1) (aU (aa.table n)):=List.Pairwise.filter _ hT.2;by_cases r:(aU (aa.table n)).length=(aa.doubts n).length
 ·have:((BG (aa.doubts n):Int) != (BG (aU (aa.table n)):Int))=false:=by simp[r]
  rw[this];refine (z8 K n hn _ r hK).iff ⟨λh=>⟨?_,?_,r⟩,λ⟨h1,h2,_⟩ i z=>?_⟩
  ·rw[dC];intro i z;obtain⟨R,Z,h5,h6,h7⟩:=h i z;obtain⟨h8,h9⟩:=y _ (BI (show i<(aU (aa.table n)).length by omega));exact⟨⟨_,h8,R.symm,h9,Z.symm⟩,h5,h6,h7⟩
  ·rw[dn]at u ⊢;intro i j z hj Y;have:=u i j (by omega) (by omega) Y;rw[(h i z).1,(h j hj).1];exact this
  ·have I:=jh ((aa.doubts n).map (·.1)) ((aU (aa.table n)).map (·.1)) (by rw[BR];exact h2) (by rw[BR];exact u) (by
    intro x hx;obtain⟨d,hd,rfl⟩:=B6.1 hx;obtain⟨⟨f,H,e1,e2,_⟩,_⟩:=h1 d hd;exact B6.2 ⟨f,by rw[aU,B4];exact⟨H,by simpa using e2⟩,e1⟩)
   have I:=I.2 (by simp[r]);have M:i<(aU (aa.table n)).length:=by omega
   have e:(aa.doubts n)[i].1=(aU (aa.table n))[i].1:=by
    have R:((aa.doubts n).map (·.1))[i]?=((aU (aa.table n)).map (·.1))[i]?:=by rw[I]
    rw[BZ,BZ,BL z,BL M]at R;simpa using R
   obtain⟨⟨f,H,e1,e2,e3⟩,Z,h5,h6⟩:=h1 _ (BI z);have:=gU hT.2 H (y _ (BI M)).1 (e1.trans e);subst this;exact⟨e,e3.symm,Z,h5,h6⟩
 ·have:((BG (aa.doubts n):Int) != (BG (aU (aa.table n)):Int))=true:=by simp;omega
  rw[this];exact Ret.no (λh=>r h.2.2)
def sj (n:aa):Prop:=n.2.2.1=false/\n.2.2.2.2.1=0/\n.2.2.2.2.2.1=0/\n.2.2.2.2.2.2.1=0/\n.2.2.2.2.2.2.2.1=0 /\
 wr .i64 (wr .i64 (wr .i64 (wr .i64 ((BG (aa.table n):Int)+(BG (aa.cast n):Int))+(BG (aa.doubts n):Int))+(BG (aa.places n):Int))+(BG (aa.others n):Int))=0 /\
 aa.probe n=(0,0,0,false)/\aa.coord n=(0,0,0,0)
def UpP (n:aa):Prop:=ax (aa.table n)/\ce (aa.table n) (ap n.1)/\db n/\(cP (aa.cast n)/\gY (aa.table n) (aa.cast n))/\cU n/\iF n/\cC (aa.coord n)/\eu n.1 (aa.places n)/\c6 n.1 (aa.others n)
def iR (n:aa):Prop:=InP n.1 0 7/\InP n.2.2.2.2.2.1 0 999999/\InP n.2.2.2.2.2.2.1 0 999999/\InP n.2.2.2.2.2.2.2.1 0 8/\InP n.2.2.2.2.1 0 999/\(if n.2.1=true then UpP n else sj n)
theorem yH (K:Nat)(n:aa)(u:NB n)(r:1048577<K):Ret (Q26.f K (n,())) (iR n):=by
 refine Ret.nx (cB K _ _ _) λ_=>Ret.nx (cB K _ _ _) λ_=>Ret.nx (cB K _ _ _) λ_=>Ret.nx (cB K _ _ _) λ_=>Ret.nx (cB K _ _ _) λ_=>?_
 dsimp only;cases O:n.2.1 with
 |false =>
  simp only[BW,cond_true,BN,if_false,sj];refine Ret.cnd (by simp) λ_=>Ret.cnd (by simp) λ_=>Ret.cnd (by simp) λ_=>Ret.cnd (by simp) λ_=>Ret.cnd (by simp) λ_=>Ret.cnd (by simp) λ_=>?_
  refine Ret.iff (Ret.cnd (P:=(aa.probe n).1=0) (by simp) λ_=>Ret.cnd (P:=(aa.probe n).2.1=0) (by simp) λ_=>Ret.cnd (P:=(aa.probe n).2.2.1=0) (by simp) λ_=>Ret.cnd (P:=(aa.probe n).2.2.2=false) (by simp) λ_ =>
   Ret.cnd (P:=(aa.coord n).1=0) (by simp) λ_=>Ret.cnd (P:=(aa.coord n).2.1=0) (by simp) λ_=>Ret.cnd (P:=(aa.coord n).2.2.1=0) (by simp) λ_=>Ret.of (P:=(aa.coord n).2.2.2=0) (by simp)) ?_
  generalize aa.probe n=p;generalize aa.coord n=c;obtain⟨I,R,z,J⟩:=p;obtain⟨M,Y,H,X⟩:=c;simp only[BX];constructor
  ·rintro⟨h1,h2,h3,h4,h5,h6,h7,h8⟩;exact⟨⟨h1,h2,h3,h4⟩,h5,h6,h7,h8⟩
  ·rintro⟨⟨h1,h2,h3,h4⟩,h5,h6,h7,h8⟩;exact⟨h1,h2,h3,h4,h5,h6,h7,h8⟩
 |true =>
  simp only[BK,cond_false,if_true,UpP];exact Ret.px (gq K _ u.table r) λy=>Ret.vl (eG K _) (Ret.px (gr K _ _ u.table r) λ_=>Ret.px (AV K n u y r) λ_=>Ret.px (uh K n u y r) λ_=>Ret.px (zX K n u r) λ_ =>
   Ret.px (yF K n u y r) λ_=>Ret.px (iE K _) λ_=>Ret.px (yB K n u r) λ_=>(yD K n u r).id)
theorem AY (K:Nat)(n:aa):Ret (Q29.f K (n,())) (sj n):=by
 simp only[Q29.f,jI,pE,sj];exact Ret.cnd (by simp) λ_=>Ret.cnd (by simp) λ_=>Ret.cnd (by simp) λ_=>Ret.cnd (by simp) λ_=>Ret.cnd (by simp) λ_=>Ret.cnd (by simp) λ_=>Ret.cnd (by simp) λ_=>Ret.dec
theorem yI (K:Nat)(n:aa)(u:NB n)(r:1048577<K):Ret (Q64.f K (n,())) (iR n):=by
 refine Ret.nx (oU K _) λ_=>Ret.nx (fA K _ _ _) λ_=>Ret.nx (fA K _ _ _) λ_=>Ret.nx (fA K _ _ _) λ_=>Ret.nx (fA K _ _ _) λ_=>?_
 dsimp only;cases z:n.2.1 with
 |false =>
  simp only[BW,cond_true,BN,if_false];exact (AY K n).id
 |true =>
  simp only[BK,cond_false,if_true,UpP];refine Ret.iff (Ret.px (qv K n u r) λy=>Ret.px (zY K n u y.1 r) λ_=>Ret.px (yG K n u y.1 r) λ_=>Ret.px (qw K _) λ_=>Ret.px (yC K n u r) λ_=>(yE K n u r).id) ?_;constructor
  ·rintro⟨⟨h1,h2,h3,h4,h5⟩,h6,h7,h8,h9,h10⟩;exact⟨h1,h2,h3,⟨h4,h5⟩,h6,h7,h8,h9,h10⟩
  ·rintro⟨h1,h2,h3,⟨h4,h5⟩,h6,h7,h8,h9,h10⟩;exact⟨⟨h1,h2,h3,h4,h5⟩,h6,h7,h8,h9,h10⟩
theorem eY {A R:Type}{step:(A->Option R)->A->Option R}(n:Nat)(S:Nat->A)(rt:Option R)(h:∀ (rec:A->Option R) (i:Nat),i<n->step rec (S i)=rec (S (i+1)))(r:∀ rec:A->Option R,step rec (S n)=rt)
  {k:Nat} (y:n<k):ae step k (S 0)=rt:=by
 rcases mc (step:=step) n S (λ_=>True) rt none (λrec i z=>.inl ⟨trivial,h rec i z⟩) r n k 0 (by omega) y with ⟨_,u⟩|⟨u,_⟩
 ·exact u
 ·exact absurd (λ_ _ _=>trivial) u
def Szd (o:Option ((Int×Unit)×Unit))(left:Int)(Q:Prop):Prop:=∃ r,o=some ((r,()),())/\(r<0\/(0<=r/\r<=left/\Q))
theorem Szd.sub (left:Int)(n:Nat)(J:0<=left)(M:left<=1048576)(I:n<=9223372036854775807){g:Option ((Int×Unit)×Unit)}{Q:Prop}(y:wr .i64 (left-(n:Int))=left-n->(n:Int)<=left->Szd g (left-n) Q) :
  Szd (bif decide (wr .i64 (left-(n:Int))<0) then some ((-1,()),()) else g) left (n<=1048576/\Q):=by
 have e:wr .i64 (left-(n:Int))=left-n:=aE (by omega) (by omega);by_cases h:left-(n:Int)<0
 ·rw[e,decide_eq_true h];exact⟨-1,rfl,.inl (by decide)⟩
 ·rw[decide_eq_false (by rw[e];exact h)];obtain⟨r,z,H⟩:=y e (by omega);exact⟨r,z,H.imp id λu=>⟨u.1,by omega,by omega,u.2.2⟩⟩
theorem Szd.bind {o:Option ((Int×Unit)×Unit)}{left:Int}{P Q:Prop}{G:(Int×Unit)×Unit->Option ((Int×Unit)×Unit)}(h:Szd o left P)(I:∀ r,0<=r->r<=left->P->Szd (G ((r,()),())) r Q) :
  Szd (o.bind λy=>bif decide (y.1.1<0) then some ((-1,()),()) else G y) left (P/\Q):=by
 obtain⟨r,J,u⟩:=h;rw[J,BH];rcases u with u|⟨u,X,H⟩
 ·rw[decide_eq_true u];exact⟨-1,rfl,.inl (by decide)⟩
 ·rw[show decide (r<0)=false from decide_eq_false (by omega)];obtain⟨O,M,R⟩:=I r u X H;exact⟨O,M,R.imp id λz=>⟨z.1,by omega,H,z.2.2⟩⟩
theorem Szd.ret (r:Int)(h:0<=r):Szd (some ((r,()),())) r True:=⟨r,rfl,.inr ⟨h,Int.le_refl _,trivial⟩⟩
theorem Szd.iff {o:Option ((Int×Unit)×Unit)}{left:Int}{P Q:Prop}(h:Szd o left P)(e:P->Q):Szd o left Q:=by
 obtain⟨r,z,y⟩:=h;exact⟨r,z,y.imp id λu=>⟨u.1,u.2.1,e u.2.2⟩⟩
end Go.Proofs.YtaegajachoklkaaGreatEv
