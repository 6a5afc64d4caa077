/- What is ok of facts, tables, casts: the program and the specification say the same. -/
import Derived.Test.YtadlacffdemoiaaGreatFns
import Derived.Test.YtadlacffdemoiaaGreatP0
set_option linter.unusedVariables false
set_option linter.unusedSimpArgs false
open Bool renaming not_true->BZ,false_eq_true->B5,not_false->CE
open Classical renaming not_not->BY
open Int renaming natCast_nonneg->B7
open List renaming length->BV,getElem_mem->BX,getElem?_eq_getElem->B3,getElem_of_mem->B4,drop_eq_getElem_cons->B8,pairwise_map->B9,filter_cons->CA,drop_of_length_le->CB,take_of_length_le->CC,length_singleton->CD,take_add_one->CG,getElem?_map->CH,mem_filter->CJ,drop_zero->CK,mem_map->CL
open Nat renaming zero_le->B6,le_refl->CI
open Option renaming bind_some->BW
open Prod.mk renaming injEq->CF
namespace Go.Proofs.YtadlacffdemoiaaGreatEv
open Go
abbrev InP (n r u:Int):Prop:=r<=n/\n<=u
theorem eO (K:Nat)(n r u:Int):Ret (Q129.f K (n,r,u,())) (InP n r u):=by
 simp only[Q129.f];exact Ret.cnd (by simp) λ_=>Ret.dec
theorem cF (K:Nat)(n r u:Int):Ret (Q13.f K (n,r,u,())) (InP n r u):=by
 simp only[Q13.f];exact Ret.cnd (by simp) λ_=>Ret.dec
theorem Ret.id {o:Option RB}{P:Prop}(h:Ret o P):Ret (o.bind λy=>some ((y.1.1,()),())) P:=by
 obtain⟨b,u,r⟩:=h;exact⟨b,by rw[u];rfl,r⟩
theorem Ret.neg {o:Option RB}{P:Prop}(h:Ret o P):Ret (o.bind λy=>some ((!y.1.1,()),())) (¬ P):=by
 obtain⟨b,r,u⟩:=h;exact⟨!b,by rw[r];rfl,by cases b <;> simp_all⟩
def aV (f:af):Prop:=InP f.1 0 7/\InP f.2.1 0 999/\InP f.2.2.1 1 4
theorem jg (K:Nat)(n:Int):Ret (Q130.f K (n,())) (InP n 0 7):=(eO K n 0 7).id
theorem mb (K:Nat)(f:af):Ret (Q132.f K (f,())) (aV f) :=
 Ret.and (jg K f.1) (λ_=>Ret.and (eO K f.2.1 0 999) (λ_=>(eO K f.2.2.1 1 4).id) rfl) rfl
theorem pa (K:Nat)(f:af):Ret (Q18.f K (f,())) (aV f) :=
 Ret.and (cF K f.1 0 7) (λ_=>Ret.and (cF K f.2.1 0 999) (λ_=>(cF K f.2.2.1 1 4).id) rfl) rfl
def aw (t:List af):Prop:=(∀ f∈t,aV f)/\Asc (λf:af=>f.1) t
theorem sQ {t:List af}:aw t<->∀ j,j<t.length->∃ h:j<t.length,aV t[j]/\(0<j->(t[j-1]'(by omega)).1<t[j].1):=by
 unfold aw;rw[dG,gQ];constructor
 ·rintro⟨h1,h2⟩ j hj;exact⟨hj,h1 j hj,λr=>h2 j hj r⟩
 ·intro h;exact⟨λi u=>(h i u).2.1,λi u r=>(h i u).2.2 r⟩
theorem e8 {P:Prop}:(P/\True)<->P:=by simp
theorem gy (K:Nat)(t:List af)(J:t.length<=1048576)(M:1048577<K):Ret (Q19.f K (t,())) (aw t):=by
 refine Ret.iff (qC (step:=λrec a=>Q19.s0 K (t,()) rec a) t.length (λi=>(i:Int)) (λj=>∃ h:j<t.length,aV t[j]/\(0<j->(t[j-1]'(by omega)).1<t[j].1)) (Q:=True) (rt:=rb true) ?_ ?_ (by omega) (λ_=>Ret.yes trivial)) (e8.trans sQ.symm)
 ·intro rec i y;simp only[Q19.s0];rw[decide_eq_true (by omega:(i:Int)<(BV t:Int)),ag y,ar i (by omega)];simp only[cond_true,BW];obtain⟨b,H,u⟩:=pa K t[i];rw[H];simp only[BW];cases b with
  |false=>exact .inr ⟨λ⟨_,r,_⟩=>by simpa using u.2 r,rfl⟩
  |true =>
   simp only[BZ,cond_false];by_cases z:(i:Int)>0
   ·rw[decide_eq_true z,eU i (by omega) (by omega),ag (by omega:i-1<t.length)];simp only[cond_true,BW];by_cases r:(t[i-1]'(by omega)).1>=t[i].1
    ·rw[decide_eq_true r];exact .inr ⟨λ⟨_,_,I⟩=>by have:=I (by omega);omega,rfl⟩
    ·rw[decide_eq_false r];exact .inl ⟨⟨y,u.1 rfl,λ_=>by omega⟩,rfl⟩
   ·rw[decide_eq_false z];exact .inl ⟨⟨y,u.1 rfl,λ_=>by omega⟩,rfl⟩
 ·intro rec;simp only[Q19.s0];rw[decide_eq_false (by omega:¬ ((t.length:Int)<(BV t:Int)))];rfl
theorem gz (K:Nat)(t:List af)(J:t.length<=1048576)(M:1048577<K):Ret (Q133.f K (t,())) (aw t):=by
 refine Ret.iff (qC (step:=λrec a=>Q133.s0 K (t,()) rec a) t.length (λi=>(i:Int)) (λj=>∃ h:j<t.length,aV t[j]/\(0<j->(t[j-1]'(by omega)).1<t[j].1)) (Q:=True) (rt:=rb true) ?_ ?_ (by omega) (λ_=>Ret.yes trivial)) (e8.trans sQ.symm)
 ·intro rec i y;simp only[Q133.s0];rw[decide_eq_true (by omega:(i:Int)<(BV t:Int)),ag y,ar i (by omega)];simp only[cond_true,BW];obtain⟨b,H,u⟩:=mb K t[i];rw[H];simp only[BW];cases b with
  |false=>exact .inr ⟨λ⟨_,r,_⟩=>by simpa using u.2 r,rfl⟩
  |true =>
   simp only[BZ,cond_false];by_cases z:(i:Int)>0
   ·rw[decide_eq_true z,eU i (by omega) (by omega),ag (by omega:i-1<t.length)];simp only[cond_true,BW];by_cases r:t[i].1<=(t[i-1]'(by omega)).1
    ·rw[decide_eq_true r];exact .inr ⟨λ⟨_,_,I⟩=>by have:=I (by omega);omega,rfl⟩
    ·rw[decide_eq_false r];exact .inl ⟨⟨y,u.1 rfl,λ_=>by omega⟩,rfl⟩
   ·rw[decide_eq_false z];exact .inl ⟨⟨y,u.1 rfl,λ_=>by omega⟩,rfl⟩
 ·intro rec;simp only[Q133.s0];rw[decide_eq_false (by omega:¬ ((t.length:Int)<(BV t:Int)))];rfl
inductive vO (t:List af) (node:Int):Option Nat->Prop where
 |at_ (i:Nat) (h:i<t.length) (e:t[i].1=node):vO t node (some i)
 |no (h:∀ f∈t,f.1≠node):vO t node none
theorem fq (K:Nat)(t:List af)(r:Int)(J:t.length<=1048576)(M:1048577<K) :
  ∃ o,vO t r o/\Q25.f K (t,r,())=some (((match o with|some i=>((i:Nat):Int)|none=>-1),()),()):=by
 have:=cq (step:=λrec a=>Q25.s0 K (t,r,()) rec a) t.length (λi=>(i:Int)) (λj=>∃ h:j<t.length,t[j].1=r) (some ((-1,()),())) (λj=>some ((((j:Nat):Int),()),())) ?_ ?_ t.length K 0 (by omega) (by omega)
 ·rcases this with ⟨y,z⟩|⟨j,_,y,⟨H,I⟩,_,z⟩
  ·refine⟨none,.no ?_,z⟩;rw[dG];exact λi u e=>y i (B6 _) u ⟨u,e⟩
  ·exact⟨some j,.at_ j H I,z⟩
 ·intro rec i u;simp only[Q25.s0];rw[decide_eq_true (by omega:(i:Int)<(BV t:Int)),ag u,ar i (by omega)];simp only[cond_true,BW];by_cases h:t[i].1=r
  ·right;refine⟨⟨u,h⟩,?_⟩;have:(t[i].1==r)=true:=by simpa using h
   rw[this];rfl
  ·left;refine⟨λ⟨_,y⟩=>h y,?_⟩;have:(t[i].1==r)=false:=by simpa using h
   rw[this];rfl
 ·intro rec;simp only[Q25.s0];rw[decide_eq_false (by omega:¬ ((t.length:Int)<(BV t:Int)))];rfl
def ft (a b:Int):Int:=if a<b then -1 else if a>b then 1 else 0
theorem nW (K:Nat)(a b:Int):Q136.f K (a,b,())=some ((ft a b,()),()):=by
 have y:∀ x:Int,Q135.f K (x,())=rb false:=λx=>by simp[Q135.f]
 simp only[Q136.f,y,BW,cond_false,ft];by_cases r:a<b
 ·rw[decide_eq_true r,if_pos r];rfl
 ·rw[decide_eq_false r,if_neg r];by_cases u:a>b
  ·rw[decide_eq_true u,if_pos u];rfl
  ·rw[decide_eq_false u,if_neg u];rfl
theorem sR (a b:Int):ft a b<0<->a<b:=by
 unfold ft;by_cases r:a<b
 ·simp[r]
 ·by_cases u:a>b <;> simp[r,u]
theorem uW (a b:Int):ft a b>0<->a>b:=by
 unfold ft;by_cases r:a<b
 ·simp[r];omega
 ·by_cases u:a>b <;> simp[r,u]
theorem ip (a b:Int):ft a b=0<->a=b:=by
 unfold ft;by_cases r:a<b
 ·simp[r];omega
 ·by_cases u:a>b <;> simp[r,u] <;> omega
structure Cut (t:List af) (node:Int) (m:Nat):Prop where
 le:m<=t.length
 lo:∀ i,(h:i<t.length)->i<m->t[i].1<node
 hi:∀ i,(h:i<t.length)->m<=i->node<=t[i].1
theorem sS (K:Nat)(t:List af)(r:Int)(ht:t.length<=1048576)(M:Asc (λf:af=>f.1) t)(hK:1048577<K) :
  ∃ m,Cut t r m/\Q138.f K (t,r,())=some ((((m:Nat):Int),decide (∃ h:m<t.length,t[m].1=r),()),()):=by
 let ks:Nat->Int:=λi=>if h:i<t.length then t[i].1 else 0
 have u:∀ i (h:i<t.length),ks i=t[i].1:=λi h=>by simp[ks,h]
 let H:Nat->Option ((Int×Bool×Unit)×Unit):=λm=>some ((((m:Nat):Int),decide (∃ h:m<t.length,t[m].1=r),()),())
 have Z:∀ f:af,((Q137.f K (f,r,())).map λy=>y.1.1)=some (ft f.1 r):=λf=>by
  simp only[Q137.f];rw[nW];rfl
 have:=pO (step:=λrec a=>Q134.s0 K (t,r,(λJ=>(Q137.f K (J.1,J.2.1,())).map λy=>y.1.1),()) rec a) (ks:=ks) (n:=t.length) (t:=r) H ht
  (λi j R Y=>by
   rw[u i (by omega),u j Y];exact ci.1 M i j (by omega) Y R) ?_ ?_ t.length K 0 t.length (by omega) (B6 _) (CI _) (by omega) (λi I=>by omega) (λi I hn=>by omega)
 ·obtain⟨m,z,O,h3,h4⟩:=this;refine⟨m,⟨z,λi h I=>by rw[<- u i h];exact O i I,λi h I=>by rw[<- u i h];exact h3 i I h⟩,?_⟩;simp only[Q138.f];have e:Q134.f K (t,r,(λJ=>(Q137.f K (J.1,J.2.1,())).map λy=>y.1.1),())=H m:=h4;rw[e];rfl
 ·intro rec a b a0 hb;have X:(a+b) / 2<t.length:=by omega
  simp only[Q134.s0];rw[decide_eq_true (by omega:(a:Int)<(b:Int)),nV (by omega)];simp only[cond_true];rw[ag X];simp only[BW,Z];rw[u _ X,ar _ (by omega)];by_cases h:t[(a+b) / 2].1<r
  ·rw[if_pos h,decide_eq_true ((sR _ _).2 h)];rfl
  ·rw[if_neg h,decide_eq_false (λz=>h ((sR _ _).1 z))];rfl
 ·intro rec a ha;simp only[Q134.s0];rw[decide_eq_false (by omega)];simp only[cond_false];by_cases h:a<t.length
  ·rw[decide_eq_true (by omega:(a:Int)<(BV t:Int)),ag h];simp only[cond_true,BW,Z,H];congr 3;by_cases z:t[a].1=r
   ·have:(ft t[a].1 r==0)=true:=by simpa using (ip t[a].1 r).2 z
    rw[this,decide_eq_true ⟨h,z⟩]
   ·have:(ft t[a].1 r==0)=false:=by
     rw[beq_eq_false_iff_ne];exact λe=>z ((ip _ _).1 e)
    rw[this,decide_eq_false (λ⟨_,O⟩=>z O)]
  ·rw[decide_eq_false (by omega)];simp only[cond_false,H];rw[decide_eq_false (λ⟨z,_⟩=>h z)]
def ak (n:Int):Int:=wr .i64 (Int.tdiv n 4)
theorem cV (K:Nat)(n:Int):Q23.f K (n,())=some ((ak n,()),()):=rfl
theorem lC (K:Nat)(n:Int):Q142.f K (n,())=some ((ak n,()),()):=rfl
theorem lD (K:Nat)(n:aa):Q145.f K (n,())=some ((ak n.1,()),()):=rfl
abbrev aa.table (n:aa):List af:=n.2.2.2.2.2.2.2.2.1
abbrev aa.cast (n:aa):List aL:=n.2.2.2.2.2.2.2.2.2.1
abbrev aa.probe (n:aa):af:=n.2.2.2.2.2.2.2.2.2.2.1
abbrev aa.doubts (n:aa):List bQ:=n.2.2.2.2.2.2.2.2.2.2.2.1
abbrev aa.coord (n:aa):dA:=n.2.2.2.2.2.2.2.2.2.2.2.2.1
abbrev aa.places (n:aa):List dL:=n.2.2.2.2.2.2.2.2.2.2.2.2.2.1
abbrev aa.others (n:aa):List aY:=n.2.2.2.2.2.2.2.2.2.2.2.2.2.2
structure NB (n:aa):Prop where
 table:(aa.table n).length<=1048576
 cast:(aa.cast n).length<=1048576
 doubts:(aa.doubts n).length<=1048576
 by_:∀ d∈aa.doubts n,d.2.2.2.length<=1048576
 places:(aa.places n).length<=1048576
 trips:∀ p∈aa.places n,p.2.2.length<=1048576
 others:(aa.others n).length<=1048576
 facts:∀ x∈aa.others n,x.2.length<=1048576
def ca (t:List af)(s:Int):Prop:=∀ f∈t,ak f.1=s
theorem d4 (K:Nat)(t:List af)(s:Int)(y:t.length<=1048576)(u:1048577<K):Ret (Q20.f K (t,s,())) (ca t s):=by
 refine (gx t (step:=λrec a=>Q20.s0 K (t,s,()) rec a) (λi r=>¬ ak t[i].1≠s) y ?_ ?_ u (λ_=>Ret.yes trivial)).iff (e8.trans ?_)
 ·intro rec i r;simp only[Q20.s0];rw[decide_eq_true (by omega:(i:Int)<(BV t:Int))];exact Rnd.ix (ag r) ((Rnd.cndN (P:=ak t[i].1≠s) (by simp[ak]) (λ_=>Rnd.end_)).iff (by simp))
 ·intro rec;simp only[Q20.s0];rw[decide_eq_false (by omega:¬ ((t.length:Int)<(BV t:Int)))];rfl
 ·rw[ca,dG];exact⟨λh i r=>BY.1 (h i r),λh i r=>BY.2 (h i r)⟩
theorem xn (K:Nat)(t:List af)(y:af×Unit->Option Bool)(p:af->Prop)(R:t.length<=1048576)(X:1048577<K)(hφ:∀ f∈t,∃ b,y (f,())=some b/\(b=true<->p f)) :
  Ret (Q141.f K (t,y,())) (∃ f∈t,p f):=by
 have:=cq (step:=λrec a=>Q140.s0 K (t,y,()) rec a) t.length (λi=>(i:Int)) (λj=>∃ h:j<t.length,p t[j]) (some ((-1,()),())) (λj=>some ((((j:Nat):Int),()),())) ?_ ?_ t.length K 0 (by omega) (by omega)
 ·simp only[Q141.f];rcases this with ⟨z,r⟩|⟨j,_,z,⟨I,M⟩,_,r⟩
  ·have e:Q140.f K (t,y,())=some ((-1,()),()):=r;rw[e];refine Ret.of ?_;simp only[ge_iff_le,decide_eq_true_eq];refine⟨λh=>absurd h (by decide),λ⟨f,O,J⟩=>?_⟩;obtain⟨i,u,H⟩:=B4 O;exact absurd ⟨u,H ▸ J⟩ (z i (B6 _) u)
  ·have e:Q140.f K (t,y,())=some ((((j:Nat):Int),()),()):=r;rw[e];refine Ret.of ?_;simp only[ge_iff_le,decide_eq_true_eq];exact⟨λ_=>⟨t[j],BX I,M⟩,λ_=>B7 j⟩
 ·intro rec i u;simp only[Q140.s0];rw[decide_eq_true (by omega:(i:Int)<(BV t:Int)),ag u,ar i (by omega)];simp only[cond_true,BW];obtain⟨b,z,r⟩:=hφ t[i] (BX u);rw[z];simp only[BW];cases b with
  |true=>exact .inr ⟨⟨u,r.1 rfl⟩,rfl⟩
  |false=>exact .inl ⟨λ⟨_,h⟩=>by simpa using r.2 h,rfl⟩
 ·intro rec;simp only[Q140.s0];rw[decide_eq_false (by omega:¬ ((t.length:Int)<(BV t:Int)))];rfl
theorem rh (K:Nat)(t:List aL)(y:aL×Unit->Option Bool)(p:aL->Prop)(R:t.length<=1048576)(X:1048577<K)(hφ:∀ f∈t,∃ b,y (f,())=some b/\(b=true<->p f)) :
  Ret (Q147.f K (t,y,())) (∃ f∈t,p f):=by
 have:=cq (step:=λrec a=>Q146.s0 K (t,y,()) rec a) t.length (λi=>(i:Int)) (λj=>∃ h:j<t.length,p t[j]) (some ((-1,()),())) (λj=>some ((((j:Nat):Int),()),())) ?_ ?_ t.length K 0 (by omega) (by omega)
 ·simp only[Q147.f];rcases this with ⟨z,r⟩|⟨j,_,z,⟨I,M⟩,_,r⟩
  ·have e:Q146.f K (t,y,())=some ((-1,()),()):=r;rw[e];refine Ret.of ?_;simp only[ge_iff_le,decide_eq_true_eq];refine⟨λh=>absurd h (by decide),λ⟨f,O,J⟩=>?_⟩;obtain⟨i,u,H⟩:=B4 O;exact absurd ⟨u,H ▸ J⟩ (z i (B6 _) u)
  ·have e:Q146.f K (t,y,())=some ((((j:Nat):Int),()),()):=r;rw[e];refine Ret.of ?_;simp only[ge_iff_le,decide_eq_true_eq];exact⟨λ_=>⟨t[j],BX I,M⟩,λ_=>B7 j⟩
 ·intro rec i u;simp only[Q146.s0];rw[decide_eq_true (by omega:(i:Int)<(BV t:Int)),ag u,ar i (by omega)];simp only[cond_true,BW];obtain⟨b,z,r⟩:=hφ t[i] (BX u);rw[z];simp only[BW];cases b with
  |true=>exact .inr ⟨⟨u,r.1 rfl⟩,rfl⟩
  |false=>exact .inl ⟨λ⟨_,h⟩=>by simpa using r.2 h,rfl⟩
 ·intro rec;simp only[Q146.s0];rw[decide_eq_false (by omega:¬ ((t.length:Int)<(BV t:Int)))];rfl
theorem yE (K:Nat)(t:List Int)(y:Int×Unit->Option Bool)(p:Int->Prop)(R:t.length<=1048576)(X:1048577<K)(hφ:∀ f∈t,∃ b,y (f,())=some b/\(b=true<->p f)) :
  Ret (Q163.f K (t,y,())) (∃ f∈t,p f):=by
 have:=cq (step:=λrec a=>Q162.s0 K (t,y,()) rec a) t.length (λi=>(i:Int)) (λj=>∃ h:j<t.length,p t[j]) (some ((-1,()),())) (λj=>some ((((j:Nat):Int),()),())) ?_ ?_ t.length K 0 (by omega) (by omega)
 ·simp only[Q163.f];rcases this with ⟨z,r⟩|⟨j,_,z,⟨I,M⟩,_,r⟩
  ·have e:Q162.f K (t,y,())=some ((-1,()),()):=r;rw[e];refine Ret.of ?_;simp only[ge_iff_le,decide_eq_true_eq];refine⟨λh=>absurd h (by decide),λ⟨f,O,J⟩=>?_⟩;obtain⟨i,u,H⟩:=B4 O;exact absurd ⟨u,H ▸ J⟩ (z i (B6 _) u)
  ·have e:Q162.f K (t,y,())=some ((((j:Nat):Int),()),()):=r;rw[e];refine Ret.of ?_;simp only[ge_iff_le,decide_eq_true_eq];exact⟨λ_=>⟨t[j],BX I,M⟩,λ_=>B7 j⟩
 ·intro rec i u;simp only[Q162.s0];rw[decide_eq_true (by omega:(i:Int)<(BV t:Int)),ag u,ar i (by omega)];simp only[cond_true,BW];obtain⟨b,z,r⟩:=hφ t[i] (BX u);rw[z];simp only[BW];cases b with
  |true=>exact .inr ⟨⟨u,r.1 rfl⟩,rfl⟩
  |false=>exact .inl ⟨λ⟨_,h⟩=>by simpa using r.2 h,rfl⟩
 ·intro rec;simp only[Q162.s0];rw[decide_eq_false (by omega:¬ ((t.length:Int)<(BV t:Int)))];rfl
theorem Ret.fn {o:Option RB}{P:Prop}(h:Ret o P):∃ b,(o.map λy=>y.1.1)=some b/\(b=true<->P):=by
 obtain⟨b,u,r⟩:=h;exact⟨b,by rw[u];rfl,r⟩
theorem fH (K:Nat)(t:List af)(s:Int)(I:t.length<=1048576)(H:1048577<K):Ret (Q144.f K (t,s,())) (ca t s):=by
 refine (Ret.neg (xn K t (λz=>(Q143.f K (z.1,s,())).map λy=>y.1.1) (λf=>ak f.1≠s) I H (λf _=>?_))).iff ?_
 ·exact⟨_,rfl,by simp[ak]⟩
 ·exact⟨λh f u=>BY.1 λr=>h ⟨f,u,r⟩,λh ⟨f,u,r⟩=>r (h f u)⟩
theorem iG (K:Nat)(t:List af)(r:Int)(J:t.length<=1048576)(M:1048577<K) :
  (¬ aw t/\Q139.f K (t,r,())=some (((0,(0,(0,false))),false,()),())) \/
  (aw t/\((∃ f∈t,f.1=r/\Q139.f K (t,r,())=some ((f,true,()),()))\/((∀ f∈t,f.1≠r)/\Q139.f K (t,r,())=some (((0,(0,(0,false))),false,()),())))):=by
 simp only[Q139.f];obtain⟨b,X,I⟩:=gz K t J M;rw[X];simp only[BW];cases b with
 |false=>exact .inl ⟨λh=>by simpa using I.2 h,rfl⟩
 |true =>
  have z:=I.1 rfl;obtain⟨m,H,R⟩:=sS K t r J z.2 M;refine .inr ⟨z,?_⟩;simp only[BZ,cond_false,R,BW];by_cases h:∃ h:m<t.length,t[m].1=r
  ·rw[decide_eq_true h];obtain⟨u,O⟩:=h;left;refine⟨t[m],BX u,O,?_⟩;simp only[BZ,cond_false];rw[ag u];rfl
  ·rw[decide_eq_false h];right;refine⟨?_,rfl⟩;rw[dG];intro i y e;rcases Nat.lt_trichotomy i m with u|u|u
   ·have:=H.lo i y u;omega
   ·subst u;exact h ⟨y,e⟩
   ·have O:=H.hi m (by omega) (CI _);have Y:=ci.1 z.2 m i (by omega) y u;omega
def bD (f g:af):Prop:=if f.2.1≠g.2.1 then f.2.1>g.2.1 else if f.2.2.1≠g.2.2.1 then f.2.2.1>g.2.2.1 else f.2.2.2=true/\g.2.2.2=false
theorem sU (K:Nat)(f g:af):Ret (Q26.f K (f,g,())) (bD f g):=by
 simp only[Q26.f,bD];by_cases r:f.2.1=g.2.1
 ·have e:(f.2.1 != g.2.1)=false:=by simpa using r
  rw[e,if_neg (by simpa using r)];by_cases u:f.2.2.1=g.2.2.1
  ·have e:(f.2.2.1 != g.2.2.1)=false:=by simpa using u
   rw[e,if_neg (by simpa using u)];exact (Ret.cnd (b:=f.2.2.2) Iff.rfl (λ_=>Ret.of (b:=!g.2.2.2) (by simp))).iff Iff.rfl
  ·have e:(f.2.2.1 != g.2.2.1)=true:=by simpa using u
   rw[e,if_pos u];exact Ret.dec
 ·have e:(f.2.1 != g.2.1)=true:=by simpa using r
  rw[e,if_pos r];exact Ret.dec
def orI:List Int->Int
 |[]=>0
 |x::r=>if x≠0 then x else orI r
theorem Bd (K:Nat)(xs:List Int)(J:xs.length<=1048576)(M:1048577<K):Q151.f K (xs,())=some ((orI xs,()),()):=by
 have y:∀ (d k i:Nat),i+d=xs.length->d<k->ae (λrec a=>Q151.s0 K (xs,()) rec a) k (i:Int)=some ((orI (xs.drop i),()),()):=by
  intro d;induction d with
  |zero =>
   intro k i I H;obtain⟨k,rfl⟩:∃ u,k=u+1:=⟨k-1,by omega⟩;show Q151.s0 K (xs,()) _ _=_;simp only[Q151.s0];rw[decide_eq_false (by omega:¬ ((i:Int)<(BV xs:Int))),CB (by omega)];rfl
  |succ d z =>
   intro k i I H;obtain⟨k,rfl⟩:∃ u,k=u+1:=⟨k-1,by omega⟩;have z:=z k (i+1) (by omega) (by omega);show Q151.s0 K (xs,()) _ _=_;simp only[Q151.s0];have r:i<xs.length:=by omega
   rw[decide_eq_true (by omega:(i:Int)<(BV xs:Int)),ag r,ar i (by omega),B8 r];simp only[cond_true,BW,orI];by_cases h:xs[i]=0
   ·have e:(xs[i] != 0)=false:=by simpa using h
    rw[e,if_neg (by simpa using h)];exact z
   ·have e:(xs[i] != 0)=true:=by simpa using h
    rw[e,if_pos h];rfl
 have:=y xs.length K 0 (by omega) (by omega)
 rwa [CK]at this
def cmpF (f g:af):Int:=orI [ft f.1 g.1,ft f.2.1 g.2.1,ft f.2.2.1 g.2.2.1,if f.2.2.2=true/\g.2.2.2=false then 1 else if g.2.2.2=true/\f.2.2.2=false then -1 else 0]
theorem mW (K:Nat)(f g:af)(I:1048577<K):Q152.f K (f,g,())=some ((cmpF f g,()),()):=by
 obtain⟨a,b,c,d⟩:=f;obtain⟨u,y,r,H⟩:=g;have h:∀ z:Int,Q151.f K ([ft a u,ft b y,ft c r,z],())=some ((orI [ft a u,ft b y,ft c r,z],()),()):=λz=>Bd K _ (by simp) I
 simp only[Q152.f,cmpF];cases d <;> cases H <;> simp only[BZ,CE,cond_true,cond_false] <;> rw[nW,BW,nW,BW,nW,BW,h] <;> rfl
theorem pb {x:Int}(h:x=0)(xs:List Int):orI (x::xs)=orI xs:=by subst h;rfl
theorem uX {x:Int}(h:x≠0)(xs:List Int):orI (x::xs)=x:=by simp[orI,h]
theorem jB {f g:af}(e:f.1=g.1):cmpF f g>0<->bD f g:=by
 unfold cmpF bD;rw[pb ((ip f.1 g.1).2 e)];by_cases u:f.2.1=g.2.1
 ·rw[pb ((ip f.2.1 g.2.1).2 u),if_neg (show ¬ f.2.1≠g.2.1 from λh=>h u)];by_cases r:f.2.2.1=g.2.2.1
  ·rw[pb ((ip f.2.2.1 g.2.2.1).2 r),if_neg (show ¬ f.2.2.1≠g.2.2.1 from λh=>h r)];cases f.2.2.2 <;> cases g.2.2.2 <;> simp[orI]
  ·rw[uX (λh=>r ((ip f.2.2.1 g.2.2.1).1 h)),if_pos (show f.2.2.1≠g.2.2.1 from r)];exact uW _ _
 ·rw[uX (λh=>u ((ip f.2.1 g.2.1).1 h)),if_pos (show f.2.1≠g.2.1 from u)];exact uW _ _
theorem mc (K:Nat)(f g:af)(r:1048577<K):Ret (Q153.f K (f,g,())) (aV f/\aV g/\f.1=g.1/\bD f g):=by
 refine Ret.and (mb K f) (λ_=>Ret.and (mb K g) (λ_=>?_) rfl) rfl;refine (Ret.cnd (b:=f.1==g.1) (P:=f.1=g.1) (by simp) (λe=>?_)).iff Iff.rfl;show Ret ((Q152.f K (f,g,())).bind _) _;rw[mW K f g r];refine Ret.of ?_;simp only[gt_iff_lt,decide_eq_true_eq];exact jB e
theorem bj {n:Nat}{m:Int}(h:(n:Int)<m):decide ((n:Int)<m)=true:=decide_eq_true h
theorem aP (n:Nat):decide ((n:Int)<(n:Int))=false:=decide_eq_false (by omega)
def cQ (l:List aL):Prop:=(∀ x∈l,aV x.1/\InP x.2 1 4)/\Asc (λx:aL=>x.1.1) l
theorem yF (K:Nat)(l:List aL)(z:l.length<=1048576)(y:1048577<K):Ret (Q215.f K (l,())) (cQ l):=by
 refine (gx l (step:=λrec a=>Q215.s0 K (l,()) rec a) (λi r=>aV l[i].1/\InP l[i].2 1 4/\(0<i->¬ (l[i-1]'(by omega)).1.1>=l[i].1.1)/\True) z ?_ ?_ y (λ_=>Ret.yes trivial)).iff (e8.trans ?_)
 ·intro rec i r;simp only[Q215.s0];rw[decide_eq_true (by omega:(i:Int)<(BV l:Int))];simp only[cond_true];refine Rnd.ix (ag r) (Rnd.nx (pa K _) λ_=>Rnd.ix (ag r) (Rnd.nx (cF K _ 1 4) λ_=>Rnd.two (λu=>?_) Rnd.end_));rw[eU i u (by omega)];exact Rnd.ix (ag (by omega)) (Rnd.ix (ag r) (Rnd.cndN (by simp) λ_=>Rnd.end_))
 ·intro rec;simp only[Q215.s0,aP];rfl
 ·rw[cQ,dG,gQ];constructor
  ·intro h;exact⟨λi r=>⟨(h i r).1,(h i r).2.1⟩,λi r u=>by have:=(h i r).2.2.1 u;omega⟩
  ·rintro⟨h1,h2⟩ i r;exact⟨(h1 i r).1,(h1 i r).2,λu=>by have:=h2 i r u;omega,trivial⟩
theorem uY (K:Nat)(l:List aL)(M:l.length<=1048576)(O:1048577<K):Q149.f K (l,())=some ((l.map (·.1),()),()):=by
 have y:∀ (d k i:Nat),i+d=l.length->d<k->ae (λrec a=>Q149.s0 K (l,()) rec a) k ((l.take i).map (·.1),(i:Int))=some ((l.map (·.1),()),()):=by
  intro d;induction d with
  |zero =>
   intro k i I H;obtain⟨k,rfl⟩:∃ u,k=u+1:=⟨k-1,by omega⟩;show Q149.s0 K (l,()) _ _=_;simp only[Q149.s0];rw[decide_eq_false (by omega:¬ ((i:Int)<(BV l:Int))),CC (by omega)];rfl
  |succ d z =>
   intro k i I H;obtain⟨k,rfl⟩:∃ u,k=u+1:=⟨k-1,by omega⟩;have z:=z k (i+1) (by omega) (by omega);show Q149.s0 K (l,()) _ _=_;have r:i<l.length:=by omega
   simp only[Q149.s0];rw[decide_eq_true (by omega:(i:Int)<(BV l:Int)),ag r,ar i (by omega)];simp only[cond_true,BW];have J:decide ((BV (List.map (λx:aL=>x.1) (List.take i l))+BV [l[i].1])*32<=an)=true:=decide_eq_true (by simp only[an,List.length_map,List.length_take,CD];omega);rw[J];have e:(List.take i l).map (λx:aL=>x.1)++[l[i].1]=(l.take (i+1)).map (·.1):=by
    rw[CG,B3 r,List.map_append];rfl
   rw[e];exact z
 have:=y l.length K 0 (by omega) (by omega);exact this
theorem vP {l:List aL}:aw (l.map (·.1))<->(∀ x∈l,aV x.1)/\Asc (λx:aL=>x.1.1) l:=by
 unfold aw Asc;rw[B9];simp
theorem xp (K:Nat)(x:aL):Ret (Q148.f K (x,())) (¬ InP x.2 1 4):=by
 simp only[Q148.f];exact (eO K x.2 1 4).neg
theorem yG (K:Nat)(l:List aL)(z:l.length<=1048576)(u:1048577<K):Ret (Q147.f K (l,(λr=>(Q148.f K (r.1,())).map λy=>y.1.1),())) (∃ x∈l,¬ InP x.2 1 4) :=
 rh K l _ (λx=>¬ InP x.2 1 4) z u (λx _=>Ret.fn (xp K x))
theorem pc (K:Nat)(l:List aL)(u:l.length<=1048576)(y:1048577<K):Ret (Q150.f K (l,())) (cQ l):=by
 simp only[Q150.f];obtain⟨z,J,M⟩:=yG K l u y;obtain⟨H,O,I⟩:=gz K (l.map (·.1)) (by simpa using u) y;rw[uY K l u y,BW,O,BW,J,BW];have e:cQ l<->(H=true/\z=false):=by
  rw[I,vP,cQ,<- Bool.not_eq_true,M];constructor
  ·rintro⟨h5,h6⟩;exact⟨⟨λx r=>(h5 x r).1,h6⟩,λ⟨x,r,h⟩=>h (h5 x r).2⟩
  ·rintro⟨⟨h5,h6⟩,h7⟩;exact⟨λx r=>⟨h5 x r,BY.1 λh=>h7 ⟨x,r,h⟩⟩,h6⟩
 refine Ret.iff ?_ e.symm;cases H <;> cases z <;> exact⟨_,rfl,by simp⟩
def gY (t:List af)(l:List aL):Prop:=∀ x∈l,∃ f∈t,f.1=x.1.1/\¬ bD x.1 f
theorem fb {t:List af}(h:Asc (λf:af=>f.1) t){f g:af}(z:f∈t)(y:g∈t)(e:f.1=g.1):f=g:=by
 obtain⟨i,u,rfl⟩:=B4 z;obtain⟨j,r,rfl⟩:=B4 y;have:=o9 h u r e;subst this;rfl
theorem uo (K:Nat)(n:aa)(H:NB n)(O:aw (aa.table n))(y:1048577<K):Ret (Q216.f K (n,())) (cQ (aa.cast n)/\gY (aa.table n) (aa.cast n)):=by
 refine Ret.nx (yF K _ H.cast y) λ_=>?_
 refine (gx (aa.cast n) (step:=λrec a=>Q216.s0 K (n,()) rec a) (λi u=>∃ f∈aa.table n,f.1=(aa.cast n)[i].1.1/\¬ bD (aa.cast n)[i].1 f) H.cast ?_ ?_ y (λ_=>Ret.yes trivial)).iff (e8.trans ?_)
 ·intro rec i u;simp only[Q216.s0];rw[decide_eq_true (by omega:(i:Int)<(BV (aa.cast n):Int))];simp only[cond_true];refine Rnd.ix (ag u) ?_;obtain⟨o,J,M⟩:=fq K (aa.table n) (aa.cast n)[i].1.1 H.table y;refine Rnd.vl M ?_;cases J with
  |no h =>
   rw[show decide ((-1:Int)<0)=true from rfl];exact .inr ⟨λ⟨f,z,e,_⟩=>h f z e,rfl⟩
  |at_ j r e =>
   simp only;rw[decide_eq_false (by omega:¬ ((j:Int)<0))];refine (Rnd.ix (ag u) (Rnd.ix (ag r) (Rnd.fx (sU K _ _) λ_=>Rnd.end_))).iff ⟨λh=>⟨_,BX r,e,h.1⟩,λ⟨f,z,I,h⟩=>⟨?_,trivial⟩⟩;have:=fb O.2 z (BX r) (I.trans e.symm)
   rwa [<- this]
 ·intro rec;simp only[Q216.s0,aP];rfl
 ·rw[gY,dG]
theorem yH (K:Nat)(n:aa)(O:NB n)(M:aw (aa.table n))(hC:cQ (aa.cast n))(J:1048577<K) :
  Ret ((Q147.f K (aa.cast n,(λY=>(Q154.f K (Y.1,n,())).map λy=>y.1.1),())).bind λZ=>some ((!Z.1.1,()),())) (gY (aa.table n) (aa.cast n)):=by
 refine (Ret.neg (rh K _ _ (λx=>¬ ∃ f∈aa.table n,f.1=x.1.1/\¬ bD x.1 f) O.cast J (λx z=>Ret.fn ?_))).iff ?_
 ·simp only[Q154.f];rcases iG K (aa.table n) x.1.1 O.table J with ⟨u,_⟩|⟨_,⟨f,H,e,u⟩|⟨r,u⟩⟩
  ·exact absurd M u
  ·refine Ret.vl u ?_;refine (mc K x.1 f J).id.iff ⟨λh ⟨g,X,R,I⟩=>?_,λh=>?_⟩
   ·have:=fb M.2 X H (R.trans e.symm);exact I (this ▸ h.2.2.2)
   ·refine⟨(hC.1 x z).1,M.1 f H,e.symm,BY.1 λI=>h ⟨f,H,e,I⟩⟩
  ·refine Ret.vl u ?_;exact Ret.yes (λ⟨f,H,e,_⟩=>r f H e)
 ·exact⟨λh x z=>BY.1 λr=>h ⟨x,z,r⟩,λh ⟨x,z,r⟩=>r (h x z)⟩
def de (n:aa):Prop:=((n.1,n.2.2.2.2.1,(if n.2.2.1=true then 4 else 1),n.2.2.2.1):af)∈aa.table n
theorem Be (K:Nat)(n:aa)(M:NB n)(O:aw (aa.table n))(J:1048577<K):Ret (Q214.f K (n,())) (de n):=by
 simp only[Q214.f];obtain⟨o,z,H⟩:=fq K (aa.table n) n.1 M.table J;refine Ret.vl H ?_;cases z with
 |no h =>
  rw[show decide ((-1:Int)<0)=true from rfl];exact Ret.no (λy=>h _ y rfl)
 |at_ j u e =>
  simp only;rw[decide_eq_false (by omega:¬ ((j:Int)<0))];refine Ret.vl (ag u) ?_;have r:de n<->(aa.table n)[j]=((n.1,n.2.2.2.2.1,(if n.2.2.1=true then 4 else 1),n.2.2.2.1):af):=by
   constructor
   ·intro h;exact fb O.2 (BX u) h e
   ·intro h;show _∈_;rw[<- h];exact BX u
  have I:(aa.table n)[j]=((n.1,n.2.2.2.2.1,(if n.2.2.1=true then 4 else 1),n.2.2.2.1):af)<->((aa.table n)[j].2.1=n.2.2.2.2.1/\(aa.table n)[j].2.2.1=(if n.2.2.1=true then 4 else 1)/\(aa.table n)[j].2.2.2=n.2.2.2.1):=by
   generalize (aa.table n)[j]=f at e ⊢;obtain⟨a,b,c,d⟩:=f;simp at e ⊢;intro _ _ _;exact e
  refine Ret.iff ?_ (r.trans I).symm;cases R:n.2.2.1 with
  |true=>exact Ret.cnd (by simp) λ_=>Ret.cnd (by simp) λ_=>Ret.of (by simp)
  |false=>exact Ret.cnd (by simp) λ_=>Ret.cnd (by simp) λ_=>Ret.of (by simp)
theorem gA (f g:af):Ty.eqv ty_impl_Fact_D f g=decide (f=g):=by
 obtain⟨a,b,c,d⟩:=f;obtain⟨y,z,u,r⟩:=g;show (decide (a=y)&&(decide (b=z)&&(decide (c=u)&&(d==r))))=_;cases d <;> cases r <;> simp[CF]
theorem pP (f g:dA):Ty.eqv ty_impl_Coord_D f g=decide (f=g):=by
 obtain⟨a,b,c,d⟩:=f;obtain⟨u,y,r,z⟩:=g;show (decide (a=u)&&(decide (b=y)&&(decide (c=r)&&decide (d=z))))=_;simp[CF]
theorem qD (K:Nat)(n:aa)(M:NB n)(J:1048577<K):Ret (Q155.f K (n,()))
  (aw (aa.table n)/\ca (aa.table n) (ak n.1)/\de n/\cQ (aa.cast n)/\gY (aa.table n) (aa.cast n)):=by
 have u:∀ (w:Int),aw (aa.table n)->Ret ((Q145.f K (n,())).bind λZ=>(Q144.f K (aa.table n,Z.1.1,())).bind λY=>bif !Y.1.1 then rb false else
   ((Q150.f K (aa.cast n,())).bind λX=>bif !X.1.1 then rb false else
    ((Q147.f K (aa.cast n,(λR=>(Q154.f K (R.1,n,())).map λy=>y.1.1),())).bind λy6=>some ((!y6.1.1,()),()))))
   (ca (aa.table n) (ak n.1)/\cQ (aa.cast n)/\gY (aa.table n) (aa.cast n)):=by
  intro _ H;exact Ret.vl (lD K n) (Ret.nx (fH K _ _ M.table J) λ_=>Ret.nx (pc K _ M.cast J) λhC=>yH K n M H hC J)
 have r:∀ (w:Int),w=(if n.2.2.1=true then 4 else 1)->Ret ((Q139.f K (aa.table n,n.1,())).bind λy1=>bif !y1.1.2.1 then rb false else bif !Ty.eqv ty_impl_Fact_D y1.1.1 (n.1,(n.2.2.2.2.1,(w,n.2.2.2.1))) then rb false else
   ((Q145.f K (n,())).bind λZ=>(Q144.f K (aa.table n,Z.1.1,())).bind λY=>bif !Y.1.1 then rb false else
   ((Q150.f K (aa.cast n,())).bind λX=>bif !X.1.1 then rb false else
    ((Q147.f K (aa.cast n,(λR=>(Q154.f K (R.1,n,())).map λy=>y.1.1),())).bind λy6=>some ((!y6.1.1,()),())))))
   (aw (aa.table n)/\ca (aa.table n) (ak n.1)/\de n/\cQ (aa.cast n)/\gY (aa.table n) (aa.cast n)):=by
  intro w hw;rcases iG K (aa.table n) n.1 M.table J with ⟨z,O⟩|⟨H,⟨f,hf,e,z⟩|⟨O,z⟩⟩
  ·exact Ret.vl O (Ret.no (λh=>z h.1))
  ·refine Ret.vl z ?_;simp only[BZ,cond_false];rw[gA];by_cases I:f=(n.1,(n.2.2.2.2.1,(w,n.2.2.2.1)))
   ·rw[decide_eq_true I];have hS:de n:=by
     show _∈_;rw[<- hw,<- I];exact hf
    exact (u w H).iff ⟨λh=>⟨H,h.1,hS,h.2.1,h.2.2⟩,λh=>⟨h.2.1,h.2.2.2⟩⟩
   ·rw[decide_eq_false I];refine Ret.no (λh=>I ?_);have:=fb H.2 hf h.2.2.1 e;rw[this,hw]
  ·refine Ret.vl z (Ret.no (λh=>O _ h.2.2.1 rfl))
 simp only[Q155.f];cases hg:n.2.2.1 with
 |true=>exact r 4 (by rw[hg];rfl)
 |false=>exact r 1 (by rw[hg];rfl)
def c8 (n:aa):Prop:=if (aa.probe n).1=-1 then aa.probe n=(-1,0,0,false) else
 (aa.probe n).1≠n.1/\(∃ f∈aa.table n,f.1=(aa.probe n).1)/\InP (aa.probe n).2.1 0 n.2.2.2.2.2.1/\InP (aa.probe n).2.2.1 1 n.2.2.2.2.2.2.1
theorem z9 (K:Nat)(n:aa)(M:NB n)(I:1048577<K):Ret (Q217.f K (n,())) (c8 n):=by
 simp only[Q217.f,c8];by_cases h:(aa.probe n).1=-1
 ·rw[if_pos h,show ((aa.probe n).1==-1)=true by simpa using h];refine (Ret.cnd (P:=(aa.probe n).2.1=0) (by simp) λ_=>Ret.cnd (P:=(aa.probe n).2.2.1=0) (by simp) λ_=>Ret.of (P:=(aa.probe n).2.2.2=false) (by simp)).iff ?_;generalize aa.probe n=p at h ⊢;obtain⟨a,b,c,d⟩:=p;simp at h ⊢;intro _ _ _;exact h
 ·rw[if_neg h,show ((aa.probe n).1==-1)=false by simpa using h];refine Ret.cnd (by simp) λ_=>?_
  obtain⟨o,z,H⟩:=fq K (aa.table n) (aa.probe n).1 M.table I;refine Ret.vl H ?_;cases z with
  |no u=>exact Ret.no (λ⟨⟨f,J,e⟩,_⟩=>u f J e)
  |at_ j y e =>
   simp only;rw[show decide ((j:Int)>=0)=true from decide_eq_true (by omega)];exact (Ret.px (cF K _ _ _) λ_=>(cF K _ _ _).id).iff ⟨λr=>⟨⟨_,BX y,e⟩,r⟩,λr=>r.2⟩
theorem Aa (K:Nat)(n:aa)(J:NB n)(I:aw (aa.table n))(H:1048577<K):Ret (Q156.f K (n,())) (c8 n):=by
 simp only[Q156.f,c8];by_cases h:(aa.probe n).1=-1
 ·rw[if_pos h,show ((aa.probe n).1==-1)=true by simpa using h,gA];exact Ret.dec
 ·rw[if_neg h,show ((aa.probe n).1==-1)=false by simpa using h];rcases iG K (aa.table n) (aa.probe n).1 J.table H with ⟨r,_⟩|⟨_,⟨f,y,e,r⟩|⟨z,r⟩⟩
  ·exact absurd I r
  ·refine Ret.vl r ?_;exact (Ret.cnd (P:=(aa.probe n).1≠n.1) (by simp) λ_=>Ret.px (eO K _ _ _) λ_=>(eO K _ _ _).id).iff ⟨λu=>⟨u.1,⟨f,y,e⟩,u.2⟩,λu=>⟨u.1,u.2.2⟩⟩
  ·exact Ret.vl r (Ret.no (λ⟨_,⟨f,y,e⟩,_⟩=>z f y e))
def cG (c:dA):Prop:=InP c.1 (-100000) 100000/\InP c.2.1 (-100000) 100000/\InP c.2.2.1 0 100000/\InP c.2.2.2 1 1500
theorem iH (K:Nat)(c:dA):Ret (Q21.f K (c,())) (cG c) :=
 Ret.px (cF K _ _ _) λ_=>Ret.px (cF K _ _ _) λ_=>Ret.px (cF K _ _ _) λ_=>(cF K _ _ _).id
theorem nX (K:Nat)(c:dA):Ret (Q159.f K (c,())) (cG c) :=
 Ret.px (eO K _ _ _) λ_=>Ret.px (eO K _ _ _) λ_=>Ret.px (eO K _ _ _) λ_=>(eO K _ _ _).id
def Bf (r:Int)(p:dL):Prop:=InP p.1 0 7/\ak p.1=ak r/\p.1≠r/\cG p.2.1/\InP (p.2.2.length:Int) 1 3/\∀ t∈p.2.2,InP t 1 60000
def eB (r:Int)(l:List dL):Prop:=(∀ p∈l,Bf r p)/\Asc (λp:dL=>p.1) l
theorem mX (K:Nat)(n:aa)(x:Int):Ret (Q157.f K (n,x,())) (InP x 0 7/\ak x=ak n.1):=by
 refine Ret.px (jg K x) λ_=>?_
 exact Ret.of (b:=ak x==ak n.1) (by simp)
theorem Ab (K:Nat)(n:aa)(x:Int):Ret (Q160.f K (n,x,())) ((InP x 0 7/\ak x=ak n.1)/\x≠n.1):=by
 refine Ret.px (mX K n x) λ_=>?_
 exact Ret.of (b:=x != n.1) (by simp)
theorem yI (K:Nat)(n:aa)(R:NB n)(hK:1048577<K):Ret (Q219.f K (n,())) (eB n.1 (aa.places n)):=by
 refine (gx (aa.places n) (step:=λrec a=>Q219.s0 K (n,()) (Q219.l1 K (n,()) rec) rec a)
  (λi y=>InP (aa.places n)[i].1 0 7/\¬ ak (aa.places n)[i].1≠ak n.1/\¬ (aa.places n)[i].1=n.1/\(0<i->¬ ((aa.places n)[i-1]'(by omega)).1>=(aa.places n)[i].1) /\
   cG (aa.places n)[i].2.1/\InP ((aa.places n)[i].2.2.length:Int) 1 3/\∀ k (z:k<(aa.places n)[i].2.2.length),InP (aa.places n)[i].2.2[k] 1 60000/\True) R.places ?_ ?_ hK (λ_=>Ret.yes trivial)).iff (e8.trans ?_)
 ·intro rec i y;have hb:=R.trips _ (BX y);have hl:=R.places;have u:Rnd (Q219.l1 K (n,()) rec ((i:Int),0,(aa.places n)[i].1,(aa.places n)[i].2.1.1,(aa.places n)[i].2.1.2.1,(aa.places n)[i].2.1.2.2.1,(aa.places n)[i].2.1.2.2.2,(aa.places n)[i].2.2))
    (∀ k (z:k<(aa.places n)[i].2.2.length),InP (aa.places n)[i].2.2[k] 1 60000/\True) (rec (wr .i64 ((i:Int)+1))):=by
   generalize (aa.places n)[i]=p at hb;refine o8 p.2.2 (step:=λr a=>Q219.s1 K (n,()) rec r a) (λk=>((i:Int),(k:Int),p.1,p.2.1.1,p.2.1.2.1,p.2.1.2.2.1,p.2.1.2.2.2,p.2.2)) (λk z=>InP p.2.2[k] 1 60000/\True) hb ?_ ?_ hK
   ·intro r k z;simp only[Q219.s1];rw[decide_eq_true (by omega:(k:Int)<(BV p.2.2:Int)),ar k (by omega)];simp only[cond_true];exact Rnd.ix (ag z) (Rnd.nx (cF K _ _ _) λ_=>Rnd.end_)
   ·intro r;simp only[Q219.s1,aP];rfl
  simp only[Q219.s0];rw[decide_eq_true (by omega:(i:Int)<(BV (aa.places n):Int))];simp only[cond_true];refine Rnd.ix (ag y) (Rnd.nx (cF K _ _ _) λ_=>Rnd.vl (cV K _) (Rnd.vl (cV K _) (Rnd.cndN (by simp) λ_=>Rnd.cndN (by simp) λ_=>Rnd.two (λH=>?_) ?_)))
  ·rw[eU i H (by omega)];exact Rnd.ix (ag (show i-1<(aa.places n).length by omega)) (Rnd.cndN (by simp) λ_=>Rnd.nx (iH K _) λ_=>Rnd.nx (cF K _ _ _) λ_=>u)
  ·exact Rnd.nx (iH K _) λ_=>Rnd.nx (cF K _ _ _) λ_=>u
 ·intro rec;simp only[Q219.s0,aP];rfl
 ·rw[eB,dG,gQ];constructor
  ·intro h;refine⟨λi y=>?_,λi y H=>?_⟩
   ·obtain⟨O,I,J,Z,X,M,Y⟩:=h i y;exact⟨O,BY.1 I,J,X,M,dG.2 λk z=>(Y k z).1⟩
   ·have:=(h i y).2.2.2.1 H;omega
  ·rintro⟨O,I⟩ i y;obtain⟨J,Z,X,M,Y,h8⟩:=O i y;exact⟨J,BY.2 Z,X,λH=>by have:=I i y H;omega,M,Y,λk z=>⟨dG.1 h8 k z,trivial⟩⟩
theorem yJ (K:Nat)(n:aa)(X:NB n)(hK:1048577<K):Ret (Q164.f K (n,())) (eB n.1 (aa.places n)):=by
 refine (gx (aa.places n) (step:=λrec a=>Q164.s0 K (n,()) rec a)
  (λi u=>((InP (aa.places n)[i].1 0 7/\ak (aa.places n)[i].1=ak n.1)/\(aa.places n)[i].1≠n.1)/\(0<i->¬ (aa.places n)[i].1<=((aa.places n)[i-1]'(by omega)).1) /\
   cG (aa.places n)[i].2.1/\InP ((aa.places n)[i].2.2.length:Int) 1 3/\(¬ ∃ t∈(aa.places n)[i].2.2,¬ InP t 1 60000)/\True) X.places ?_ ?_ hK (λ_=>Ret.yes trivial)).iff (e8.trans ?_)
 ·intro rec i u;have hb:=X.trips _ (BX u);have hl:=X.places;have r:Ret (Q163.f K ((aa.places n)[i].2.2,(λy6=>(Q161.f K (y6.1,())).map λy=>y.1.1),())) (∃ t∈(aa.places n)[i].2.2,¬ InP t 1 60000) :=
   yE K _ _ _ hb hK (λt _=>Ret.fn (eO K t _ _).neg)
  simp only[Q164.s0];rw[decide_eq_true (by omega:(i:Int)<(BV (aa.places n):Int))];simp only[cond_true];refine Rnd.ix (ag u) (Rnd.nx (Ab K n _) λ_=>Rnd.two (λz=>?_) ?_)
  ·rw[eU i z (by omega)];exact Rnd.ix (ag (show i-1<(aa.places n).length by omega)) (Rnd.cndN (by simp) λ_=>Rnd.nx (nX K _) λ_=>Rnd.nx (eO K _ _ _) λ_=>Rnd.fx r λ_=>Rnd.end_)
  ·exact Rnd.nx (nX K _) λ_=>Rnd.nx (eO K _ _ _) λ_=>Rnd.fx r λ_=>Rnd.end_
 ·intro rec;simp only[Q164.s0,aP];rfl
 ·rw[eB,dG,gQ];constructor
  ·intro h;refine⟨λi u=>?_,λi u z=>?_⟩
   ·obtain⟨⟨⟨R,H⟩,I⟩,h4,Y,J,Z,_⟩:=h i u;exact⟨R,H,I,Y,J,λt O=>BY.1 λM=>Z ⟨t,O,M⟩⟩
   ·have:=(h i u).2.1 z;omega
  ·rintro⟨R,H⟩ i u;obtain⟨I,h4,Y,J,Z,M⟩:=R i u;exact⟨⟨⟨I,h4⟩,Y⟩,λz=>by have:=H i u z;omega,J,Z,λ⟨t,O,h9⟩=>h9 (M t O),trivial⟩
def Bg (r:Int)(x:aY):Prop:=InP x.1 0 1/\x.1≠ak r/\x.2≠[]/\aw x.2/\ca x.2 x.1
def cM (r:Int)(l:List aY):Prop:=(∀ x∈l,Bg r x)/\Asc (λx:aY=>x.1) l
theorem pd {α:Type}(l:List α):((BV l:Int)==0)=true<->l=[]:=by
 cases l <;> simp;omega
theorem yK (K:Nat)(n:aa)(H:NB n)(u:1048577<K):Ret (Q220.f K (n,())) (cM n.1 (aa.others n)):=by
 refine (gx (aa.others n) (step:=λrec a=>Q220.s0 K (n,()) rec a)
  (λi r=>InP (aa.others n)[i].1 0 1/\¬ (aa.others n)[i].1=ak n.1/\(0<i->¬ ((aa.others n)[i-1]'(by omega)).1>=(aa.others n)[i].1) /\
   ¬ (aa.others n)[i].2=[]/\aw (aa.others n)[i].2/\ca (aa.others n)[i].2 (aa.others n)[i].1/\True) H.others ?_ ?_ u (λ_=>Ret.yes trivial)).iff (e8.trans ?_)
 ·intro rec i r;have z:=H.facts _ (BX r);have X:=H.others;simp only[Q220.s0];rw[decide_eq_true (by omega:(i:Int)<(BV (aa.others n):Int))];simp only[cond_true];refine Rnd.ix (ag r) (Rnd.nx (cF K _ _ _) λ_=>Rnd.vl (cV K _) (Rnd.cndN (by simp) λ_=>Rnd.two (λy=>?_) ?_))
  ·rw[eU i y (by omega)];exact Rnd.ix (ag (show i-1<(aa.others n).length by omega)) (Rnd.cndN (by simp) λ_=>Rnd.cndN (pd _) λ_=>Rnd.nx (gy K _ z u) λ_=>Rnd.nx (d4 K _ _ z u) λ_=>Rnd.end_)
  ·exact Rnd.cndN (pd _) λ_=>Rnd.nx (gy K _ z u) λ_=>Rnd.nx (d4 K _ _ z u) λ_=>Rnd.end_
 ·intro rec;simp only[Q220.s0,aP];rfl
 ·rw[cM,dG,gQ];constructor
  ·intro h;exact⟨λi r=>⟨(h i r).1,(h i r).2.1,(h i r).2.2.2.1,(h i r).2.2.2.2.1,(h i r).2.2.2.2.2.1⟩,λi r y=>by have:=(h i r).2.2.1 y;omega⟩
  ·rintro⟨h1,h2⟩ i r;obtain⟨I,M,O,J,R⟩:=h1 i r;exact⟨I,M,λy=>by have:=h2 i r y;omega,O,J,R,trivial⟩
theorem yL (K:Nat)(n:aa)(J:NB n)(u:1048577<K):Ret (Q165.f K (n,())) (cM n.1 (aa.others n)):=by
 refine (gx (aa.others n) (step:=λrec a=>Q165.s0 K (n,()) rec a)
  (λi r=>InP (aa.others n)[i].1 0 1/\¬ (aa.others n)[i].1=ak n.1/\(0<i->¬ (aa.others n)[i].1<=((aa.others n)[i-1]'(by omega)).1) /\
   ¬ (aa.others n)[i].2=[]/\aw (aa.others n)[i].2/\ca (aa.others n)[i].2 (aa.others n)[i].1/\True) J.others ?_ ?_ u (λ_=>Ret.yes trivial)).iff (e8.trans ?_)
 ·intro rec i r;have H:=J.facts _ (BX r);have Y:=J.others;have I:ak 7=1:=by unfold ak;rw[aJ (by decide) (by decide)];decide
  have z:=eO K (aa.others n)[i].1 0 (ak 7);rw[I]at z;simp only[Q165.s0];rw[decide_eq_true (by omega:(i:Int)<(BV (aa.others n):Int))];simp only[cond_true];refine Rnd.ix (ag r) (Rnd.vl (lC K 7) ?_);dsimp only;rw[I];refine Rnd.nx z λ_=>Rnd.vl (lD K n) (Rnd.cndN (by simp) λ_=>Rnd.two (λy=>?_) ?_)
  ·rw[eU i y (by omega)];exact Rnd.ix (ag (show i-1<(aa.others n).length by omega)) (Rnd.cndN (by simp) λ_=>Rnd.cndN (pd _) λ_=>Rnd.nx (gz K _ H u) λ_=>Rnd.nx (fH K _ _ H u) λ_=>Rnd.end_)
  ·exact Rnd.cndN (pd _) λ_=>Rnd.nx (gz K _ H u) λ_=>Rnd.nx (fH K _ _ H u) λ_=>Rnd.end_
 ·intro rec;simp only[Q165.s0,aP];rfl
 ·rw[cM,dG,gQ];constructor
  ·intro h;exact⟨λi r=>⟨(h i r).1,(h i r).2.1,(h i r).2.2.2.1,(h i r).2.2.2.2.1,(h i r).2.2.2.2.2.1⟩,λi r y=>by have:=(h i r).2.2.1 y;omega⟩
  ·rintro⟨h1,h2⟩ i r;obtain⟨M,R,X,O,I⟩:=h1 i r;exact⟨M,R,λy=>by have:=h2 i r y;omega,X,O,I,trivial⟩
def ByP (r:Int)(l:List Int):Prop:=(∀ b∈l,InP b 0 7/\ak b=ak r)/\Asc (λb:Int=>b) l
def lE (n:aa)(d:bQ):Prop:=(∃ f∈aa.table n,f.1=d.1/\f.2.2.1=2/\f.2.1=d.2.1)/\InP d.2.2.1 0 n.2.2.2.2.2.1/\d.2.2.2≠[]/\ByP n.1 d.2.2.2
def aW (t:List af):List af:=t.filter λf=>f.2.2.1==2
def iI (n:aa):Prop:=(∀ d∈aa.doubts n,lE n d)/\Asc (λd:bQ=>d.1) (aa.doubts n)/\(aW (aa.table n)).length=(aa.doubts n).length
theorem xq {y:Int}{l:List Int}:ByP y l<->∀ k (r:k<l.length),(InP l[k] 0 7/\ak l[k]=ak y)/\(0<k->¬ l[k-1]'(by omega)>=l[k]):=by
 rw[ByP,dG,gQ];constructor
 ·rintro⟨h1,h2⟩ k r;exact⟨h1 k r,λu=>by have:=h2 k r u;omega⟩
 ·intro h;exact⟨λk r=>(h k r).1,λk r u=>by have:=(h k r).2 u;omega⟩
theorem Ac (K:Nat)(n:aa)(O:NB n)(X:1048577<K):Q218.l2 K (n,()) (0,0)=rb (decide ((aW (aa.table n)).length=(aa.doubts n).length)):=by
 have R:=O.table;have y:∀ (d k i c:Nat),i+d=(aa.table n).length->d<k->c<=i ->
   ae (λrec a=>Q218.s2 K (n,()) rec a) k ((c:Int),(i:Int))=rb (decide (c+(aW ((aa.table n).drop i)).length=(aa.doubts n).length)):=by
  intro d;induction d with
  |zero =>
   intro k i c J I M;obtain⟨k,rfl⟩:∃ u,k=u+1:=⟨k-1,by omega⟩;show Q218.s2 K (n,()) _ _=_;simp only[Q218.s2];rw[decide_eq_false (show ¬ ((i:Int)<(BV (aa.table n):Int)) by omega),CB (by omega)];simp only[cond_false,aW,List.filter_nil,List.length_nil,Nat.add_zero];have e:((c:Int)==(BV (aa.doubts n):Int))=decide (c=(aa.doubts n).length):=by
    by_cases h:c=(aa.doubts n).length
    ·rw[decide_eq_true h,h];simp
    ·rw[decide_eq_false h,beq_eq_false_iff_ne];omega
   exact congrArg rb e
  |succ d H =>
   intro k i c J I M;obtain⟨k,rfl⟩:∃ u,k=u+1:=⟨k-1,by omega⟩;have r:i<(aa.table n).length:=by omega
   show Q218.s2 K (n,()) _ _=_;simp only[Q218.s2];rw[decide_eq_true (show ((i:Int)<(BV (aa.table n):Int)) by omega),ag r,ar i (by omega),ar c (by omega),B8 r];simp only[cond_true,BW];cases z:((aa.table n)[i].2.2.1==2) with
   |true =>
    have:=H k (i+1) (c+1) (by omega) (by omega) (by omega);simp only[cond_true];have e:c+1+(aW ((aa.table n).drop (i+1))).length=c+(aW ((aa.table n)[i]::(aa.table n).drop (i+1))).length:=by
     simp only[aW,CA,z,if_true,List.length_cons];omega
    rw[<- e];exact this
   |false =>
    have:=H k (i+1) c (by omega) (by omega) (by omega);simp only[cond_false];have e:aW ((aa.table n)[i]::(aa.table n).drop (i+1))=aW ((aa.table n).drop (i+1)):=by
     simp only[aW,CA,z,B5,if_false]
    rw[e];exact this
 have:=y (aa.table n).length K 0 0 (by omega) (by omega) (CI _);rw[CK,Nat.zero_add]at this;exact this
theorem yM (K:Nat)(n:aa)(X:NB n)(hT:aw (aa.table n))(Y:1048577<K):Ret (Q218.f K (n,())) (iI n):=by
 refine (gx (aa.doubts n) (step:=λrec a=>Q218.s0 K (n,()) (Q218.l1 K (n,()) rec) (Q218.l2 K (n,())) rec a)
  (λi z=>(0<i->¬ ((aa.doubts n)[i-1]'(by omega)).1>=(aa.doubts n)[i].1)/\lE n (aa.doubts n)[i]) (Q:=(aW (aa.table n)).length=(aa.doubts n).length) (rt:=Q218.l2 K (n,()) (0,0)) X.doubts ?_ ?_ Y (λ_=>by rw[Ac K n X Y];exact Ret.dec)).iff ?_
 ·intro rec i z;have Z:=X.by_ _ (BX z);have hl:=X.doubts;have y:Rnd (Q218.l1 K (n,()) rec ((i:Int),0,(aa.doubts n)[i].1,(aa.doubts n)[i].2.1,(aa.doubts n)[i].2.2.1,(aa.doubts n)[i].2.2.2)) (ByP n.1 (aa.doubts n)[i].2.2.2) (rec (wr .i64 ((i:Int)+1))):=by
   generalize (aa.doubts n)[i]=d at Z;refine (o8 d.2.2.2 (step:=λu a=>Q218.s1 K (n,()) rec u a) (λk=>((i:Int),(k:Int),d.1,d.2.1,d.2.2.1,d.2.2.2))
    (λk r=>InP d.2.2.2[k] 0 7/\¬ ak d.2.2.2[k]≠ak n.1/\(0<k->¬ d.2.2.2[k-1]'(by omega)>=d.2.2.2[k])/\True) Z ?_ ?_ Y).iff ?_
   ·intro u k r;simp only[Q218.s1];rw[decide_eq_true (by omega:(k:Int)<(BV d.2.2.2:Int)),ar k (by omega)];simp only[cond_true];refine Rnd.ix (ag r) (Rnd.nx (cF K _ _ _) λ_=>Rnd.ix (ag r) (Rnd.vl (cV K _) (Rnd.vl (cV K _) (Rnd.cndN (by simp) λ_=>Rnd.two (λH=>?_) Rnd.end_))));rw[eU k H (by omega)];exact Rnd.ix (ag (show k-1<d.2.2.2.length by omega)) (Rnd.ix (ag r) (Rnd.cndN (by simp) λ_=>Rnd.end_))
   ·intro u;simp only[Q218.s1,aP];rfl
   ·rw[xq];constructor
    ·intro h k r;exact⟨⟨(h k r).1,BY.1 (h k r).2.1⟩,(h k r).2.2.1⟩
    ·intro h k r;exact⟨(h k r).1.1,BY.2 (h k r).1.2,(h k r).2,trivial⟩
  obtain⟨o,ho,R⟩:=fq K (aa.table n) (aa.doubts n)[i].1 X.table Y;simp only[Q218.s0];rw[decide_eq_true (show ((i:Int)<(BV (aa.doubts n):Int)) by omega)];simp only[cond_true];refine Rnd.ix (ag z) (Rnd.vl R ?_);cases ho with
  |no h =>
   have O:¬ lE n (aa.doubts n)[i]:=λ⟨⟨f,R,e,_⟩,_⟩=>h f R e
   refine Rnd.two (λH=>?_) ?_
   ·rw[eU i H (by omega)];refine Rnd.ix (ag (show i-1<(aa.doubts n).length by omega)) (Rnd.cndN (by simp) λ_=>?_);exact .inr ⟨O,rfl⟩
   ·exact .inr ⟨O,rfl⟩
  |at_ j M e =>
   have I:decide ((j:Int)<0)=false:=decide_eq_false (by omega);have J:lE n (aa.doubts n)[i]<->(¬ (aa.table n)[j].2.2.1≠2/\¬ (aa.table n)[j].2.1≠(aa.doubts n)[i].2.1/\InP (aa.doubts n)[i].2.2.1 0 n.2.2.2.2.2.1/\¬ (aa.doubts n)[i].2.2.2=[]/\ByP n.1 (aa.doubts n)[i].2.2.2):=by
    constructor
    ·rintro⟨⟨f,R,e1,e2,e3⟩,h2,h3,h4⟩;have:=fb hT.2 R (BX M) (e1.trans e.symm);subst this;exact⟨BY.2 e2,BY.2 e3,h2,h3,h4⟩
    ·rintro⟨e2,e3,h2,h3,h4⟩;exact⟨⟨_,BX M,e,BY.1 e2,BY.1 e3⟩,h2,h3,h4⟩
   refine Rnd.two (λH=>?_) ?_
   ·rw[eU i H (by omega)];refine Rnd.ix (ag (show i-1<(aa.doubts n).length by omega)) (Rnd.cndN (by simp) λ_=>?_);simp only[I,cond_false];refine Rnd.iff ?_ J.symm;exact Rnd.ix (ag M) (Rnd.cndN (by simp) λ_=>Rnd.ix (ag M) (Rnd.cndN (by simp) λ_=>Rnd.nx (cF K _ _ _) λ_=>Rnd.cndN (pd _) λ_=>y))
   ·simp only[I,cond_false];refine Rnd.iff ?_ J.symm;exact Rnd.ix (ag M) (Rnd.cndN (by simp) λ_=>Rnd.ix (ag M) (Rnd.cndN (by simp) λ_=>Rnd.nx (cF K _ _ _) λ_=>Rnd.cndN (pd _) λ_=>y))
 ·intro rec;simp only[Q218.s0,aP];rfl
 ·rw[iI,dG,gQ];constructor
  ·rintro⟨h1,h2⟩;exact⟨λi z=>(h1 i z).2,λi z H=>by have:=(h1 i z).1 H;omega,h2⟩
  ·rintro⟨h1,h2,h3⟩;exact⟨λi z=>⟨λH=>by have:=h2 i z H;omega,h1 i z⟩,h3⟩
theorem Ad (K:Nat)(n:aa)(Z:NB n)(S:List af)(hS:S.length=(aa.doubts n).length)(hK:1048577<K):Ret (Q158.l1 K (n,()) (S,0))
  (∀ i (u:i<(aa.doubts n).length),(aa.doubts n)[i].1=(S[i]'(by omega)).1/\(aa.doubts n)[i].2.1=(S[i]'(by omega)).2.1/\InP (aa.doubts n)[i].2.2.1 0 n.2.2.2.2.2.1/\(aa.doubts n)[i].2.2.2≠[]/\ByP n.1 (aa.doubts n)[i].2.2.2):=by
 have hl:=Z.doubts;have J:=ma (step:=λrec a=>Q158.s1 K (n,()) (Q158.l2 K (n,()) rec) rec a) (aa.doubts n).length (λi=>(S,(i:Int)))
  (λi=>∀ u:i<(aa.doubts n).length,¬ (aa.doubts n)[i].1≠(S[i]'(by omega)).1/\¬ (aa.doubts n)[i].2.1≠(S[i]'(by omega)).2.1/\InP (aa.doubts n)[i].2.2.1 0 n.2.2.2.2.2.1/\¬ (aa.doubts n)[i].2.2.2=[]/\ByP n.1 (aa.doubts n)[i].2.2.2)
  (rb true) (rb false) ?_ ?_ (aa.doubts n).length K 0 (by omega) (by omega)
 ·rcases J with ⟨O,I⟩|⟨O,I⟩
  ·refine⟨true,I,iff_of_true rfl λi u=>?_⟩;obtain⟨M,R,X⟩:=O i (B6 _) u u;exact⟨BY.1 M,BY.1 R,X⟩
  ·refine⟨false,I,iff_of_false (by simp) λh=>O λi _ u _=>?_⟩;obtain⟨M,R,X⟩:=h i u;exact⟨BY.2 M,BY.2 R,X⟩
 ·intro rec i u;have Y:=Z.by_ _ (BX u);have H:Rnd (Q158.l2 K (n,()) rec (S,(i:Int),(aa.doubts n)[i].2.2.2,(BV (aa.doubts n)[i].2.2.2:Int),0,(aa.doubts n)[i].1,(aa.doubts n)[i].2.1,(aa.doubts n)[i].2.2.1,(aa.doubts n)[i].2.2.2)) (ByP n.1 (aa.doubts n)[i].2.2.2) (rec (S,wr .i64 ((i:Int)+1))):=by
   generalize (aa.doubts n)[i]=d at Y;refine (o8 d.2.2.2 (step:=λr a=>Q158.s2 K (n,()) rec r a) (λk=>(S,(i:Int),d.2.2.2,(BV d.2.2.2:Int),(k:Int),d.1,d.2.1,d.2.2.1,d.2.2.2))
    (λk z=>(InP d.2.2.2[k] 0 7/\ak d.2.2.2[k]=ak n.1)/\(0<k->¬ d.2.2.2[k]<=d.2.2.2[k-1]'(by omega))/\True) Y ?_ ?_ hK).iff ?_
   ·intro r k z;simp only[Q158.s2,zcp4];rw[decide_eq_true (by omega:(k:Int)<(BV d.2.2.2:Int)),ar k (by omega)];simp only[cond_true];refine Rnd.ix (ag z) (Rnd.nx (mX K n _) λ_=>Rnd.two (λh0=>?_) Rnd.end_);rw[eU k h0 (by omega)];exact Rnd.ix (ag (show k-1<d.2.2.2.length by omega)) (Rnd.cndN (by simp) λ_=>Rnd.end_)
   ·intro r;simp only[Q158.s2,zcp4,aP];rfl
   ·rw[xq];constructor
    ·intro h k z;exact⟨(h k z).1,(h k z).2.1⟩
    ·intro h k z;exact⟨(h k z).1,(h k z).2,trivial⟩
  have y:i<S.length:=by omega
  have hr:Rnd (Q158.s1 K (n,()) (Q158.l2 K (n,()) rec) rec (S,(i:Int)))
    (¬ (aa.doubts n)[i].1≠S[i].1/\¬ (aa.doubts n)[i].2.1≠S[i].2.1/\InP (aa.doubts n)[i].2.2.1 0 n.2.2.2.2.2.1/\¬ (aa.doubts n)[i].2.2.2=[]/\ByP n.1 (aa.doubts n)[i].2.2.2) (rec (S,((i+1:Nat):Int))):=by
   rw[<- ar i (by omega)];simp only[Q158.s1];rw[decide_eq_true (show ((i:Int)<(BV (aa.doubts n):Int)) by omega),Int.toNat_natCast];simp only[cond_true];exact Rnd.ix (ag u) (Rnd.ix (ag y) (Rnd.ix (ag y) (Rnd.cndN (by simp) λ_=>Rnd.ix (ag y) (Rnd.ix (ag y) (Rnd.cndN (by simp) λ_=>Rnd.nx (eO K _ _ _) λ_=>Rnd.cndN (pd _) λ_=>H)))))
  exact hr.imp (λh=>⟨λ_=>h.1,h.2⟩) (λh=>⟨λI=>h.1 (I u),h.2⟩)
 ·intro rec;simp only[Q158.s1,aP];rfl
theorem yN (K:Nat)(n:aa)(hn:NB n)(hT:aw (aa.table n))(hK:1048577<K):Ret (Q158.f K (n,())) (iI n):=by
 have hl:=hn.table;have a1:=hn.doubts;have a0:∀ (d k i:Nat),i+d=(aa.table n).length->d<k->ae (λrec a=>Q158.s0 K (n,()) (Q158.l1 K (n,())) rec a) k (aW ((aa.table n).take i),(i:Int)) =
   (bif (BV (aa.doubts n):Int) != (BV (aW (aa.table n)):Int) then rb false else Q158.l1 K (n,()) (aW (aa.table n),0)):=by
  intro d;induction d with
  |zero =>
   intro k i y hk;obtain⟨k,rfl⟩:∃ k',k=k'+1:=⟨k-1,by omega⟩;show Q158.s0 K (n,()) _ _ _=_;simp only[Q158.s0];rw[decide_eq_false (show ¬ ((i:Int)<(BV (aa.table n):Int)) by omega),CC (by omega)];rfl
  |succ d J =>
   intro k i y hk;obtain⟨k,rfl⟩:∃ k',k=k'+1:=⟨k-1,by omega⟩;have J:=J k (i+1) (by omega) (by omega);have O:i<(aa.table n).length:=by omega
   show Q158.s0 K (n,()) _ _ _=_;simp only[Q158.s0];rw[decide_eq_true (show ((i:Int)<(BV (aa.table n):Int)) by omega),ag O,ar i (by omega)];simp only[cond_true,BW];have e:aW ((aa.table n).take (i+1))=aW ((aa.table n).take i)++(if (aa.table n)[i].2.2.1==2 then [(aa.table n)[i]] else []):=by
    rw[aW,CG,B3 O,List.filter_append];simp[aW,CA]
   cases hb:((aa.table n)[i].2.2.1==2) with
   |true =>
    rw[hb]at e;simp only[if_true]at e;simp only[cond_true];have a2:(aW ((aa.table n).take i)).length<=i:=Nat.le_trans (List.length_filter_le _ _) (by simp;omega);have hs:decide ((BV (aW ((aa.table n).take i))+BV [(aa.table n)[i]])*32<=an)=true:=decide_eq_true (by simp only[an,CD];omega);rw[hs];rw[e]at J;exact J
   |false =>
    rw[hb]at e;simp only[B5,if_false,List.append_nil]at e;rw[e]at J;exact J
 have h0:Q158.f K (n,())=_:=a0 (aa.table n).length K 0 (by omega) (by omega);rw[h0];have z:∀ f∈aW (aa.table n),f∈aa.table n/\f.2.2.1=2:=λf I=>by
  rw[aW,CJ]at I;exact⟨I.1,by simpa using I.2⟩
 have u:Asc (λf:af=>f.1) (aW (aa.table n)):=List.Pairwise.filter _ hT.2;by_cases r:(aW (aa.table n)).length=(aa.doubts n).length
 ·have:((BV (aa.doubts n):Int) != (BV (aW (aa.table n)):Int))=false:=by simp[r]
  rw[this];refine (Ad K n hn _ r hK).iff ⟨λh=>⟨?_,?_,r⟩,λ⟨h1,h2,_⟩ i y=>?_⟩
  ·rw[dG];intro i y;obtain⟨R,h4,h5,Z,h7⟩:=h i y;obtain⟨h8,h9⟩:=z _ (BX (show i<(aW (aa.table n)).length by omega));exact⟨⟨_,h8,R.symm,h9,h4.symm⟩,h5,Z,h7⟩
  ·rw[ci]at u ⊢;intro i j y hj Y;have:=u i j (by omega) (by omega) Y;rw[(h i y).1,(h j hj).1];exact this
  ·have H:=jf ((aa.doubts n).map (·.1)) ((aW (aa.table n)).map (·.1)) (by rw[B9];exact h2) (by rw[B9];exact u) (by
    intro x hx;obtain⟨d,hd,rfl⟩:=CL.1 hx;obtain⟨⟨f,I,X,e2,_⟩,_⟩:=h1 d hd;exact CL.2 ⟨f,by rw[aW,CJ];exact⟨I,by simpa using e2⟩,X⟩)
   have H:=H.2 (by simp[r]);have M:i<(aW (aa.table n)).length:=by omega
   have e:(aa.doubts n)[i].1=(aW (aa.table n))[i].1:=by
    have R:((aa.doubts n).map (·.1))[i]?=((aW (aa.table n)).map (·.1))[i]?:=by rw[H]
    rw[CH,CH,B3 y,B3 M]at R;simpa using R
   obtain⟨⟨f,I,X,e2,e3⟩,h4,h5,Z⟩:=h1 _ (BX y);have:=fb hT.2 I (z _ (BX M)).1 (X.trans e);subst this;exact⟨e,e3.symm,h4,h5,Z⟩
 ·have:((BV (aa.doubts n):Int) != (BV (aW (aa.table n)):Int))=true:=by simp;omega
  rw[this];exact Ret.no (λh=>r h.2.2)
def su (n:aa):Prop:=n.2.2.1=false/\n.2.2.2.2.1=0/\n.2.2.2.2.2.1=0/\n.2.2.2.2.2.2.1=0/\n.2.2.2.2.2.2.2.1=0 /\
 wr .i64 (wr .i64 (wr .i64 (wr .i64 ((BV (aa.table n):Int)+(BV (aa.cast n):Int))+(BV (aa.doubts n):Int))+(BV (aa.places n):Int))+(BV (aa.others n):Int))=0 /\
 aa.probe n=(0,0,0,false)/\aa.coord n=(0,0,0,0)
def UpP (n:aa):Prop:=aw (aa.table n)/\ca (aa.table n) (ak n.1)/\de n/\(cQ (aa.cast n)/\gY (aa.table n) (aa.cast n))/\c8 n/\iI n/\cG (aa.coord n)/\eB n.1 (aa.places n)/\cM n.1 (aa.others n)
def fg (n:aa):Prop:=InP n.1 0 7/\InP n.2.2.2.2.2.1 0 999999/\InP n.2.2.2.2.2.2.1 0 999999/\InP n.2.2.2.2.2.2.2.1 0 8/\InP n.2.2.2.2.1 0 999/\(if n.2.1=true then UpP n else su n)
theorem pe (K:Nat)(n:aa)(u:NB n)(r:1048577<K):Ret (Q221.f K (n,())) (fg n):=by
 refine Ret.nx (cF K _ _ _) λ_=>Ret.nx (cF K _ _ _) λ_=>Ret.nx (cF K _ _ _) λ_=>Ret.nx (cF K _ _ _) λ_=>Ret.nx (cF K _ _ _) λ_=>?_
 dsimp only;cases J:n.2.1 with
 |false =>
  simp only[CE,cond_true,B5,if_false,su];refine Ret.cnd (by simp) λ_=>Ret.cnd (by simp) λ_=>Ret.cnd (by simp) λ_=>Ret.cnd (by simp) λ_=>Ret.cnd (by simp) λ_=>Ret.cnd (by simp) λ_=>?_
  refine Ret.iff (Ret.cnd (P:=(aa.probe n).1=0) (by simp) λ_=>Ret.cnd (P:=(aa.probe n).2.1=0) (by simp) λ_=>Ret.cnd (P:=(aa.probe n).2.2.1=0) (by simp) λ_=>Ret.cnd (P:=(aa.probe n).2.2.2=false) (by simp) λ_ =>
   Ret.cnd (P:=(aa.coord n).1=0) (by simp) λ_=>Ret.cnd (P:=(aa.coord n).2.1=0) (by simp) λ_=>Ret.cnd (P:=(aa.coord n).2.2.1=0) (by simp) λ_=>Ret.of (P:=(aa.coord n).2.2.2=0) (by simp)) ?_
  generalize aa.probe n=p;generalize aa.coord n=c;obtain⟨I,R,Y,X⟩:=p;obtain⟨M,z,H,O⟩:=c;simp only[CF];constructor
  ·rintro⟨h1,h2,h3,h4,h5,h6,h7,h8⟩;exact⟨⟨h1,h2,h3,h4⟩,h5,h6,h7,h8⟩
  ·rintro⟨⟨h1,h2,h3,h4⟩,h5,h6,h7,h8⟩;exact⟨h1,h2,h3,h4,h5,h6,h7,h8⟩
 |true =>
  simp only[BZ,cond_false,if_true,UpP];exact Ret.px (gy K _ u.table r) λy=>Ret.vl (cV K _) (Ret.px (d4 K _ _ u.table r) λ_=>Ret.px (Be K n u y r) λ_=>Ret.px (uo K n u y r) λ_=>Ret.px (z9 K n u r) λ_ =>
   Ret.px (yM K n u y r) λ_=>Ret.px (iH K _) λ_=>Ret.px (yI K n u r) λ_=>(yK K n u r).id)
theorem Bh (K:Nat)(n:aa):Ret (Q131.f K (n,())) (su n):=by
 simp only[Q131.f,gA,pP,su];exact Ret.cnd (by simp) λ_=>Ret.cnd (by simp) λ_=>Ret.cnd (by simp) λ_=>Ret.cnd (by simp) λ_=>Ret.cnd (by simp) λ_=>Ret.cnd (by simp) λ_=>Ret.cnd (by simp) λ_=>Ret.dec
theorem pf (K:Nat)(n:aa)(u:NB n)(r:1048577<K):Ret (Q166.f K (n,())) (fg n):=by
 refine Ret.nx (jg K _) λ_=>Ret.nx (eO K _ _ _) λ_=>Ret.nx (eO K _ _ _) λ_=>Ret.nx (eO K _ _ _) λ_=>Ret.nx (eO K _ _ _) λ_=>?_
 dsimp only;cases z:n.2.1 with
 |false =>
  simp only[CE,cond_true,B5,if_false];exact (Bh K n).id
 |true =>
  simp only[BZ,cond_false,if_true,UpP];refine Ret.iff (Ret.px (qD K n u r) λy=>Ret.px (Aa K n u y.1 r) λ_=>Ret.px (yN K n u y.1 r) λ_=>Ret.px (nX K _) λ_=>Ret.px (yJ K n u r) λ_=>(yL K n u r).id) ?_;constructor
  ·rintro⟨⟨h1,h2,h3,h4,h5⟩,h6,h7,h8,h9,h10⟩;exact⟨h1,h2,h3,⟨h4,h5⟩,h6,h7,h8,h9,h10⟩
  ·rintro⟨h1,h2,h3,⟨h4,h5⟩,h6,h7,h8,h9,h10⟩;exact⟨⟨h1,h2,h3,h4,h5⟩,h6,h7,h8,h9,h10⟩
theorem dS {A R:Type}{step:(A->Option R)->A->Option R}(n:Nat)(S:Nat->A)(rt:Option R)(h:∀ (rec:A->Option R) (i:Nat),i<n->step rec (S i)=rec (S (i+1)))(r:∀ rec:A->Option R,step rec (S n)=rt)
  {k:Nat} (z:n<k):ae step k (S 0)=rt:=by
 rcases ma (step:=step) n S (λ_=>True) rt none (λrec i y=>.inl ⟨trivial,h rec i y⟩) r n k 0 (by omega) z with ⟨_,u⟩|⟨u,_⟩
 ·exact u
 ·exact absurd (λ_ _ _=>trivial) u
def Szd (o:Option ((Int×Unit)×Unit))(left:Int)(Q:Prop):Prop:=∃ r,o=some ((r,()),())/\(r<0\/(0<=r/\r<=left/\Q))
theorem Szd.sub (left:Int)(n:Nat)(I:0<=left)(J:left<=1048576)(M:n<=9223372036854775807){g:Option ((Int×Unit)×Unit)}{Q:Prop}(z:wr .i64 (left-(n:Int))=left-n->(n:Int)<=left->Szd g (left-n) Q) :
  Szd (bif decide (wr .i64 (left-(n:Int))<0) then some ((-1,()),()) else g) left (n<=1048576/\Q):=by
 have e:wr .i64 (left-(n:Int))=left-n:=aJ (by omega) (by omega);by_cases h:left-(n:Int)<0
 ·rw[e,decide_eq_true h];exact⟨-1,rfl,.inl (by decide)⟩
 ·rw[decide_eq_false (by rw[e];exact h)];obtain⟨r,y,H⟩:=z e (by omega);exact⟨r,y,H.imp id λu=>⟨u.1,by omega,by omega,u.2.2⟩⟩
theorem Szd.bind {o:Option ((Int×Unit)×Unit)}{left:Int}{P Q:Prop}{G:(Int×Unit)×Unit->Option ((Int×Unit)×Unit)}(h:Szd o left P)(O:∀ r,0<=r->r<=left->P->Szd (G ((r,()),())) r Q) :
  Szd (o.bind λy=>bif decide (y.1.1<0) then some ((-1,()),()) else G y) left (P/\Q):=by
 obtain⟨r,X,u⟩:=h;rw[X,BW];rcases u with u|⟨u,I,z⟩
 ·rw[decide_eq_true u];exact⟨-1,rfl,.inl (by decide)⟩
 ·rw[show decide (r<0)=false from decide_eq_false (by omega)];obtain⟨M,J,R⟩:=O r u I z;exact⟨M,J,R.imp id λH=>⟨H.1,by omega,z,H.2.2⟩⟩
theorem Szd.ret (r:Int)(h:0<=r):Szd (some ((r,()),())) r True:=⟨r,rfl,.inr ⟨h,Int.le_refl _,trivial⟩⟩
theorem Szd.iff {o:Option ((Int×Unit)×Unit)}{left:Int}{P Q:Prop}(h:Szd o left P)(e:P->Q):Szd o left Q:=by
 obtain⟨r,y,z⟩:=h;exact⟨r,y,z.imp id λu=>⟨u.1,u.2.1,e u.2.2⟩⟩
end Go.Proofs.YtadlacffdemoiaaGreatEv
