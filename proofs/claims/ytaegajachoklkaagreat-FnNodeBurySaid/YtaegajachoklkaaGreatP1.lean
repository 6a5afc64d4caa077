/- What is ok of facts, tables, casts: the program and the specification say the same. -/
import Derived.Test.YtaegajachoklkaaGreatFns
import Derived.Test.YtaegajachoklkaaGreatP0
set_option linter.unusedVariables false
set_option linter.unusedSimpArgs false
open Bool renaming not_true->BY,false_eq_true->B4,not_false->CD
open Classical renaming not_not->BX
open Int renaming natCast_nonneg->B6
open List renaming length->BU,getElem_mem->BW,getElem?_eq_getElem->BZ,getElem_of_mem->B3,drop_eq_getElem_cons->B7,pairwise_map->B8,filter_cons->B9,drop_of_length_le->CA,take_of_length_le->CB,length_singleton->CC,take_add_one->CF,getElem?_map->CG,mem_filter->CI,drop_zero->CJ,mem_map->CK
open Nat renaming zero_le->B5,le_refl->CH
open Option renaming bind_some->BV
open Prod.mk renaming injEq->CE
namespace Go.Proofs.YtaegajachoklkaaGreatEv
open Go
abbrev InP (n u r:Int):Prop:=u<=n/\n<=r
theorem fH (K:Nat)(n r u:Int):Ret (Q11.f K (n,r,u,())) (InP n r u):=by
 simp only[Q11.f];exact Ret.cnd (by simp) λ_=>Ret.dec
theorem cI (K:Nat)(n r u:Int):Ret (Q50.f K (n,r,u,())) (InP n r u):=by
 simp only[Q50.f];exact Ret.cnd (by simp) λ_=>Ret.dec
theorem Ret.id {o:Option RB}{P:Prop}(h:Ret o P):Ret (o.bind λy=>some ((y.1.1,()),())) P:=by
 obtain⟨b,r,u⟩:=h;exact⟨b,by rw[r];rfl,u⟩
theorem Ret.neg {o:Option RB}{P:Prop}(h:Ret o P):Ret (o.bind λy=>some ((!y.1.1,()),())) (¬ P):=by
 obtain⟨b,r,u⟩:=h;exact⟨!b,by rw[r];rfl,by cases b <;> simp_all⟩
def bD (f:af):Prop:=InP f.1 0 7/\InP f.2.1 0 999/\InP f.2.2.1 1 4
theorem oY (K:Nat)(n:Int):Ret (Q12.f K (n,())) (InP n 0 7):=(fH K n 0 7).id
theorem mh (K:Nat)(f:af):Ret (Q14.f K (f,())) (bD f) :=
 Ret.and (oY K f.1) (λ_=>Ret.and (fH K f.2.1 0 999) (λ_=>(fH K f.2.2.1 1 4).id) rfl) rfl
theorem oZ (K:Nat)(f:af):Ret (Q51.f K (f,())) (bD f) :=
 Ret.and (cI K f.1 0 7) (λ_=>Ret.and (cI K f.2.1 0 999) (λ_=>(cI K f.2.2.1 1 4).id) rfl) rfl
def az (t:List af):Prop:=(∀ f∈t,bD f)/\Asc (λf:af=>f.1) t
theorem sQ {t:List af}:az t<->∀ j,j<t.length->∃ h:j<t.length,bD t[j]/\(0<j->(t[j-1]'(by omega)).1<t[j].1):=by
 unfold az;rw[dM,gT];constructor
 ·rintro⟨h1,h2⟩ j hj;exact⟨hj,h1 j hj,λr=>h2 j hj r⟩
 ·intro h;exact⟨λi u=>(h i u).2.1,λi u r=>(h i u).2.2 r⟩
theorem fp {P:Prop}:(P/\True)<->P:=by simp
theorem gB (K:Nat)(t:List af)(M:t.length<=1048576)(J:1048577<K):Ret (Q52.f K (t,())) (az t):=by
 refine Ret.iff (qz (step:=λrec a=>Q52.s0 K (t,()) rec a) t.length (λi=>(i:Int)) (λj=>∃ h:j<t.length,bD t[j]/\(0<j->(t[j-1]'(by omega)).1<t[j].1)) (Q:=True) (rt:=rb true) ?_ ?_ (by omega) (λ_=>Ret.yes trivial)) (fp.trans sQ.symm)
 ·intro rec i y;simp only[Q52.s0];rw[decide_eq_true (by omega:(i:Int)<(BU t:Int)),ag y,aq i (by omega)];simp only[cond_true,BV];obtain⟨b,H,u⟩:=oZ K t[i];rw[H];simp only[BV];cases b with
  |false=>exact .inr ⟨λ⟨_,r,_⟩=>by simpa using u.2 r,rfl⟩
  |true =>
   simp only[BY,cond_false];by_cases z:(i:Int)>0
   ·rw[decide_eq_true z,fe i (by omega) (by omega),ag (by omega:i-1<t.length)];simp only[cond_true,BV];by_cases r:(t[i-1]'(by omega)).1>=t[i].1
    ·rw[decide_eq_true r];exact .inr ⟨λ⟨_,_,I⟩=>by have:=I (by omega);omega,rfl⟩
    ·rw[decide_eq_false r];exact .inl ⟨⟨y,u.1 rfl,λ_=>by omega⟩,rfl⟩
   ·rw[decide_eq_false z];exact .inl ⟨⟨y,u.1 rfl,λ_=>by omega⟩,rfl⟩
 ·intro rec;simp only[Q52.s0];rw[decide_eq_false (by omega:¬ ((t.length:Int)<(BU t:Int)))];rfl
theorem jJ (K:Nat)(t:List af)(M:t.length<=1048576)(J:1048577<K):Ret (Q15.f K (t,())) (az t):=by
 refine Ret.iff (qz (step:=λrec a=>Q15.s0 K (t,()) rec a) t.length (λi=>(i:Int)) (λj=>∃ h:j<t.length,bD t[j]/\(0<j->(t[j-1]'(by omega)).1<t[j].1)) (Q:=True) (rt:=rb true) ?_ ?_ (by omega) (λ_=>Ret.yes trivial)) (fp.trans sQ.symm)
 ·intro rec i y;simp only[Q15.s0];rw[decide_eq_true (by omega:(i:Int)<(BU t:Int)),ag y,aq i (by omega)];simp only[cond_true,BV];obtain⟨b,H,u⟩:=mh K t[i];rw[H];simp only[BV];cases b with
  |false=>exact .inr ⟨λ⟨_,r,_⟩=>by simpa using u.2 r,rfl⟩
  |true =>
   simp only[BY,cond_false];by_cases z:(i:Int)>0
   ·rw[decide_eq_true z,fe i (by omega) (by omega),ag (by omega:i-1<t.length)];simp only[cond_true,BV];by_cases r:t[i].1<=(t[i-1]'(by omega)).1
    ·rw[decide_eq_true r];exact .inr ⟨λ⟨_,_,I⟩=>by have:=I (by omega);omega,rfl⟩
    ·rw[decide_eq_false r];exact .inl ⟨⟨y,u.1 rfl,λ_=>by omega⟩,rfl⟩
   ·rw[decide_eq_false z];exact .inl ⟨⟨y,u.1 rfl,λ_=>by omega⟩,rfl⟩
 ·intro rec;simp only[Q15.s0];rw[decide_eq_false (by omega:¬ ((t.length:Int)<(BU t:Int)))];rfl
inductive vL (t:List af) (node:Int):Option Nat->Prop where
 |at_ (i:Nat) (h:i<t.length) (e:t[i].1=node):vL t node (some i)
 |no (h:∀ f∈t,f.1≠node):vL t node none
theorem fI (K:Nat)(t:List af)(r:Int)(M:t.length<=1048576)(J:1048577<K) :
  ∃ o,vL t r o/\Q54.f K (t,r,())=some (((match o with|some i=>((i:Nat):Int)|none=>-1),()),()):=by
 have:=bS (step:=λrec a=>Q54.s0 K (t,r,()) rec a) t.length (λi=>(i:Int)) (λj=>∃ h:j<t.length,t[j].1=r) (some ((-1,()),())) (λj=>some ((((j:Nat):Int),()),())) ?_ ?_ t.length K 0 (by omega) (by omega)
 ·rcases this with ⟨y,z⟩|⟨j,_,y,⟨H,I⟩,_,z⟩
  ·refine⟨none,.no ?_,z⟩;rw[dM];exact λi u e=>y i (B5 _) u ⟨u,e⟩
  ·exact⟨some j,.at_ j H I,z⟩
 ·intro rec i u;simp only[Q54.s0];rw[decide_eq_true (by omega:(i:Int)<(BU t:Int)),ag u,aq i (by omega)];simp only[cond_true,BV];by_cases h:t[i].1=r
  ·right;refine⟨⟨u,h⟩,?_⟩;have:(t[i].1==r)=true:=by simpa using h
   rw[this];rfl
  ·left;refine⟨λ⟨_,y⟩=>h y,?_⟩;have:(t[i].1==r)=false:=by simpa using h
   rw[this];rfl
 ·intro rec;simp only[Q54.s0];rw[decide_eq_false (by omega:¬ ((t.length:Int)<(BU t:Int)))];rfl
def fJ (a b:Int):Int:=if a<b then -1 else if a>b then 1 else 0
theorem nU (K:Nat)(a b:Int):Q18.f K (a,b,())=some ((fJ a b,()),()):=by
 have y:∀ x:Int,Q17.f K (x,())=rb false:=λx=>by simp[Q17.f]
 simp only[Q18.f,y,BV,cond_false,fJ];by_cases r:a<b
 ·rw[decide_eq_true r,if_pos r];rfl
 ·rw[decide_eq_false r,if_neg r];by_cases u:a>b
  ·rw[decide_eq_true u,if_pos u];rfl
  ·rw[decide_eq_false u,if_neg u];rfl
theorem sR (a b:Int):fJ a b<0<->a<b:=by
 unfold fJ;by_cases r:a<b
 ·simp[r]
 ·by_cases u:a>b <;> simp[r,u]
theorem uR (a b:Int):fJ a b>0<->a>b:=by
 unfold fJ;by_cases r:a<b
 ·simp[r];omega
 ·by_cases u:a>b <;> simp[r,u]
theorem ir (a b:Int):fJ a b=0<->a=b:=by
 unfold fJ;by_cases r:a<b
 ·simp[r];omega
 ·by_cases u:a>b <;> simp[r,u] <;> omega
structure Cut (t:List af) (node:Int) (m:Nat):Prop where
 le:m<=t.length
 lo:∀ i,(h:i<t.length)->i<m->t[i].1<node
 hi:∀ i,(h:i<t.length)->m<=i->node<=t[i].1
theorem sS (K:Nat)(t:List af)(r:Int)(ht:t.length<=1048576)(M:Asc (λf:af=>f.1) t)(hK:1048577<K) :
  ∃ m,Cut t r m/\Q20.f K (t,r,())=some ((((m:Nat):Int),decide (∃ h:m<t.length,t[m].1=r),()),()):=by
 let ks:Nat->Int:=λi=>if h:i<t.length then t[i].1 else 0
 have u:∀ i (h:i<t.length),ks i=t[i].1:=λi h=>by simp[ks,h]
 let H:Nat->Option ((Int×Bool×Unit)×Unit):=λm=>some ((((m:Nat):Int),decide (∃ h:m<t.length,t[m].1=r),()),())
 have Z:∀ f:af,((Q19.f K (f,r,())).map λy=>y.1.1)=some (fJ f.1 r):=λf=>by
  simp only[Q19.f];rw[nU];rfl
 have:=xj (step:=λrec a=>Q16.s0 K (t,r,(λJ=>(Q19.f K (J.1,J.2.1,())).map λy=>y.1.1),()) rec a) (ks:=ks) (n:=t.length) (t:=r) H ht
  (λi j R Y=>by
   rw[u i (by omega),u j Y];exact dw.1 M i j (by omega) Y R) ?_ ?_ t.length K 0 t.length (by omega) (B5 _) (CH _) (by omega) (λi I=>by omega) (λi I hn=>by omega)
 ·obtain⟨m,z,O,h3,h4⟩:=this;refine⟨m,⟨z,λi h I=>by rw[<- u i h];exact O i I,λi h I=>by rw[<- u i h];exact h3 i I h⟩,?_⟩;simp only[Q20.f];have e:Q16.f K (t,r,(λJ=>(Q19.f K (J.1,J.2.1,())).map λy=>y.1.1),())=H m:=h4;rw[e];rfl
 ·intro rec a b a0 hb;have X:(a+b) / 2<t.length:=by omega
  simp only[Q16.s0];rw[decide_eq_true (by omega:(a:Int)<(b:Int)),uQ (by omega)];simp only[cond_true];rw[ag X];simp only[BV,Z];rw[u _ X,aq _ (by omega)];by_cases h:t[(a+b) / 2].1<r
  ·rw[if_pos h,decide_eq_true ((sR _ _).2 h)];rfl
  ·rw[if_neg h,decide_eq_false (λz=>h ((sR _ _).1 z))];rfl
 ·intro rec a ha;simp only[Q16.s0];rw[decide_eq_false (by omega)];simp only[cond_false];by_cases h:a<t.length
  ·rw[decide_eq_true (by omega:(a:Int)<(BU t:Int)),ag h];simp only[cond_true,BV,Z,H];congr 3;by_cases z:t[a].1=r
   ·have:(fJ t[a].1 r==0)=true:=by simpa using (ir t[a].1 r).2 z
    rw[this,decide_eq_true ⟨h,z⟩]
   ·have:(fJ t[a].1 r==0)=false:=by
     rw[beq_eq_false_iff_ne];exact λe=>z ((ir _ _).1 e)
    rw[this,decide_eq_false (λ⟨_,O⟩=>z O)]
  ·rw[decide_eq_false (by omega)];simp only[cond_false,H];rw[decide_eq_false (λ⟨z,_⟩=>h z)]
def ao (n:Int):Int:=wr .i64 (Int.tdiv n 4)
theorem eQ (K:Nat)(n:Int):Q49.f K (n,())=some ((ao n,()),()):=rfl
theorem xk (K:Nat)(n:Int):Q24.f K (n,())=some ((ao n,()),()):=rfl
theorem qA (K:Nat)(n:aa):Q27.f K (n,())=some ((ao n.1,()),()):=rfl
abbrev aa.table (n:aa):List af:=n.2.2.2.2.2.2.2.2.1
abbrev aa.cast (n:aa):List aN:=n.2.2.2.2.2.2.2.2.2.1
abbrev aa.probe (n:aa):af:=n.2.2.2.2.2.2.2.2.2.2.1
abbrev aa.doubts (n:aa):List aY:=n.2.2.2.2.2.2.2.2.2.2.2.1
abbrev aa.coord (n:aa):dD:=n.2.2.2.2.2.2.2.2.2.2.2.2.1
abbrev aa.places (n:aa):List dR:=n.2.2.2.2.2.2.2.2.2.2.2.2.2.1
abbrev aa.others (n:aa):List cY:=n.2.2.2.2.2.2.2.2.2.2.2.2.2.2
structure NB (n:aa):Prop where
 table:(aa.table n).length<=1048576
 cast:(aa.cast n).length<=1048576
 doubts:(aa.doubts n).length<=1048576
 by_:∀ d∈aa.doubts n,d.2.2.2.length<=1048576
 places:(aa.places n).length<=1048576
 trips:∀ p∈aa.places n,p.2.2.length<=1048576
 others:(aa.others n).length<=1048576
 facts:∀ x∈aa.others n,x.2.length<=1048576
def cj (t:List af)(s:Int):Prop:=∀ f∈t,ao f.1=s
theorem gC (K:Nat)(t:List af)(s:Int)(y:t.length<=1048576)(u:1048577<K):Ret (Q53.f K (t,s,())) (cj t s):=by
 refine (gA t (step:=λrec a=>Q53.s0 K (t,s,()) rec a) (λi r=>¬ ao t[i].1≠s) y ?_ ?_ u (λ_=>Ret.yes trivial)).iff (fp.trans ?_)
 ·intro rec i r;simp only[Q53.s0];rw[decide_eq_true (by omega:(i:Int)<(BU t:Int))];exact Rnd.ix (ag r) ((Rnd.cndN (P:=ao t[i].1≠s) (by simp[ao]) (λ_=>Rnd.end_)).iff (by simp))
 ·intro rec;simp only[Q53.s0];rw[decide_eq_false (by omega:¬ ((t.length:Int)<(BU t:Int)))];rfl
 ·rw[cj,dM];exact⟨λh i r=>BX.1 (h i r),λh i r=>BX.2 (h i r)⟩
theorem xm (K:Nat)(t:List af)(y:af×Unit->Option Bool)(p:af->Prop)(X:t.length<=1048576)(R:1048577<K)(hφ:∀ f∈t,∃ b,y (f,())=some b/\(b=true<->p f)) :
  Ret (Q23.f K (t,y,())) (∃ f∈t,p f):=by
 have:=bS (step:=λrec a=>Q22.s0 K (t,y,()) rec a) t.length (λi=>(i:Int)) (λj=>∃ h:j<t.length,p t[j]) (some ((-1,()),())) (λj=>some ((((j:Nat):Int),()),())) ?_ ?_ t.length K 0 (by omega) (by omega)
 ·simp only[Q23.f];rcases this with ⟨z,r⟩|⟨j,_,z,⟨H,J⟩,_,r⟩
  ·have e:Q22.f K (t,y,())=some ((-1,()),()):=r;rw[e];refine Ret.of ?_;simp only[ge_iff_le,decide_eq_true_eq];refine⟨λh=>absurd h (by decide),λ⟨f,I,O⟩=>?_⟩;obtain⟨i,u,M⟩:=B3 I;exact absurd ⟨u,M ▸ O⟩ (z i (B5 _) u)
  ·have e:Q22.f K (t,y,())=some ((((j:Nat):Int),()),()):=r;rw[e];refine Ret.of ?_;simp only[ge_iff_le,decide_eq_true_eq];exact⟨λ_=>⟨t[j],BW H,J⟩,λ_=>B6 j⟩
 ·intro rec i u;simp only[Q22.s0];rw[decide_eq_true (by omega:(i:Int)<(BU t:Int)),ag u,aq i (by omega)];simp only[cond_true,BV];obtain⟨b,z,r⟩:=hφ t[i] (BW u);rw[z];simp only[BV];cases b with
  |true=>exact .inr ⟨⟨u,r.1 rfl⟩,rfl⟩
  |false=>exact .inl ⟨λ⟨_,h⟩=>by simpa using r.2 h,rfl⟩
 ·intro rec;simp only[Q22.s0];rw[decide_eq_false (by omega:¬ ((t.length:Int)<(BU t:Int)))];rfl
theorem ri (K:Nat)(t:List aN)(y:aN×Unit->Option Bool)(p:aN->Prop)(X:t.length<=1048576)(R:1048577<K)(hφ:∀ f∈t,∃ b,y (f,())=some b/\(b=true<->p f)) :
  Ret (Q29.f K (t,y,())) (∃ f∈t,p f):=by
 have:=bS (step:=λrec a=>Q28.s0 K (t,y,()) rec a) t.length (λi=>(i:Int)) (λj=>∃ h:j<t.length,p t[j]) (some ((-1,()),())) (λj=>some ((((j:Nat):Int),()),())) ?_ ?_ t.length K 0 (by omega) (by omega)
 ·simp only[Q29.f];rcases this with ⟨z,r⟩|⟨j,_,z,⟨H,J⟩,_,r⟩
  ·have e:Q28.f K (t,y,())=some ((-1,()),()):=r;rw[e];refine Ret.of ?_;simp only[ge_iff_le,decide_eq_true_eq];refine⟨λh=>absurd h (by decide),λ⟨f,I,O⟩=>?_⟩;obtain⟨i,u,M⟩:=B3 I;exact absurd ⟨u,M ▸ O⟩ (z i (B5 _) u)
  ·have e:Q28.f K (t,y,())=some ((((j:Nat):Int),()),()):=r;rw[e];refine Ret.of ?_;simp only[ge_iff_le,decide_eq_true_eq];exact⟨λ_=>⟨t[j],BW H,J⟩,λ_=>B6 j⟩
 ·intro rec i u;simp only[Q28.s0];rw[decide_eq_true (by omega:(i:Int)<(BU t:Int)),ag u,aq i (by omega)];simp only[cond_true,BV];obtain⟨b,z,r⟩:=hφ t[i] (BW u);rw[z];simp only[BV];cases b with
  |true=>exact .inr ⟨⟨u,r.1 rfl⟩,rfl⟩
  |false=>exact .inl ⟨λ⟨_,h⟩=>by simpa using r.2 h,rfl⟩
 ·intro rec;simp only[Q28.s0];rw[decide_eq_false (by omega:¬ ((t.length:Int)<(BU t:Int)))];rfl
theorem yM (K:Nat)(t:List Int)(y:Int×Unit->Option Bool)(p:Int->Prop)(X:t.length<=1048576)(R:1048577<K)(hφ:∀ f∈t,∃ b,y (f,())=some b/\(b=true<->p f)) :
  Ret (Q45.f K (t,y,())) (∃ f∈t,p f):=by
 have:=bS (step:=λrec a=>Q44.s0 K (t,y,()) rec a) t.length (λi=>(i:Int)) (λj=>∃ h:j<t.length,p t[j]) (some ((-1,()),())) (λj=>some ((((j:Nat):Int),()),())) ?_ ?_ t.length K 0 (by omega) (by omega)
 ·simp only[Q45.f];rcases this with ⟨z,r⟩|⟨j,_,z,⟨H,J⟩,_,r⟩
  ·have e:Q44.f K (t,y,())=some ((-1,()),()):=r;rw[e];refine Ret.of ?_;simp only[ge_iff_le,decide_eq_true_eq];refine⟨λh=>absurd h (by decide),λ⟨f,I,O⟩=>?_⟩;obtain⟨i,u,M⟩:=B3 I;exact absurd ⟨u,M ▸ O⟩ (z i (B5 _) u)
  ·have e:Q44.f K (t,y,())=some ((((j:Nat):Int),()),()):=r;rw[e];refine Ret.of ?_;simp only[ge_iff_le,decide_eq_true_eq];exact⟨λ_=>⟨t[j],BW H,J⟩,λ_=>B6 j⟩
 ·intro rec i u;simp only[Q44.s0];rw[decide_eq_true (by omega:(i:Int)<(BU t:Int)),ag u,aq i (by omega)];simp only[cond_true,BV];obtain⟨b,z,r⟩:=hφ t[i] (BW u);rw[z];simp only[BV];cases b with
  |true=>exact .inr ⟨⟨u,r.1 rfl⟩,rfl⟩
  |false=>exact .inl ⟨λ⟨_,h⟩=>by simpa using r.2 h,rfl⟩
 ·intro rec;simp only[Q44.s0];rw[decide_eq_false (by omega:¬ ((t.length:Int)<(BU t:Int)))];rfl
theorem Ret.fn {o:Option RB}{P:Prop}(h:Ret o P):∃ b,(o.map λy=>y.1.1)=some b/\(b=true<->P):=by
 obtain⟨b,r,u⟩:=h;exact⟨b,by rw[r];rfl,u⟩
theorem o6 (K:Nat)(t:List af)(s:Int)(I:t.length<=1048576)(H:1048577<K):Ret (Q26.f K (t,s,())) (cj t s):=by
 refine (Ret.neg (xm K t (λz=>(Q25.f K (z.1,s,())).map λy=>y.1.1) (λf=>ao f.1≠s) I H (λf _=>?_))).iff ?_
 ·exact⟨_,rfl,by simp[ao]⟩
 ·exact⟨λh f r=>BX.1 λu=>h ⟨f,r,u⟩,λh ⟨f,r,u⟩=>u (h f r)⟩
theorem iI (K:Nat)(t:List af)(r:Int)(O:t.length<=1048576)(J:1048577<K) :
  (¬ az t/\Q21.f K (t,r,())=some (((0,(0,(0,false))),false,()),())) \/
  (az t/\((∃ f∈t,f.1=r/\Q21.f K (t,r,())=some ((f,true,()),()))\/((∀ f∈t,f.1≠r)/\Q21.f K (t,r,())=some (((0,(0,(0,false))),false,()),())))):=by
 simp only[Q21.f];obtain⟨b,R,I⟩:=jJ K t O J;rw[R];simp only[BV];cases b with
 |false=>exact .inl ⟨λh=>by simpa using I.2 h,rfl⟩
 |true =>
  have y:=I.1 rfl;obtain⟨m,H,X⟩:=sS K t r O y.2 J;refine .inr ⟨y,?_⟩;simp only[BY,cond_false,X,BV];by_cases h:∃ h:m<t.length,t[m].1=r
  ·rw[decide_eq_true h];obtain⟨u,M⟩:=h;left;refine⟨t[m],BW u,M,?_⟩;simp only[BY,cond_false];rw[ag u];rfl
  ·rw[decide_eq_false h];right;refine⟨?_,rfl⟩;rw[dM];intro i z e;rcases Nat.lt_trichotomy i m with u|u|u
   ·have:=H.lo i z u;omega
   ·subst u;exact h ⟨z,e⟩
   ·have M:=H.hi m (by omega) (CH _);have Y:=dw.1 y.2 m i (by omega) z u;omega
def bO (f g:af):Prop:=if f.2.1≠g.2.1 then f.2.1>g.2.1 else if f.2.2.1≠g.2.2.1 then f.2.2.1>g.2.2.1 else f.2.2.2=true/\g.2.2.2=false
theorem sU (K:Nat)(f g:af):Ret (Q57.f K (f,g,())) (bO f g):=by
 simp only[Q57.f,bO];by_cases r:f.2.1=g.2.1
 ·have e:(f.2.1 != g.2.1)=false:=by simpa using r
  rw[e,if_neg (by simpa using r)];by_cases u:f.2.2.1=g.2.2.1
  ·have e:(f.2.2.1 != g.2.2.1)=false:=by simpa using u
   rw[e,if_neg (by simpa using u)];exact (Ret.cnd (b:=f.2.2.2) Iff.rfl (λ_=>Ret.of (b:=!g.2.2.2) (by simp))).iff Iff.rfl
  ·have e:(f.2.2.1 != g.2.2.1)=true:=by simpa using u
   rw[e,if_pos u];exact Ret.dec
 ·have e:(f.2.1 != g.2.1)=true:=by simpa using r
  rw[e,if_pos r];exact Ret.dec
def orI:List Int->Int
 |[]=>0
 |x::r=>if x≠0 then x else orI r
theorem Bh (K:Nat)(xs:List Int)(J:xs.length<=1048576)(M:1048577<K):Q33.f K (xs,())=some ((orI xs,()),()):=by
 have u:∀ (d k i:Nat),i+d=xs.length->d<k->ae (λrec a=>Q33.s0 K (xs,()) rec a) k (i:Int)=some ((orI (xs.drop i),()),()):=by
  intro d;induction d with
  |zero =>
   intro k i I H;obtain⟨k,rfl⟩:∃ y,k=y+1:=⟨k-1,by omega⟩;show Q33.s0 K (xs,()) _ _=_;simp only[Q33.s0];rw[decide_eq_false (by omega:¬ ((i:Int)<(BU xs:Int))),CA (by omega)];rfl
  |succ d z =>
   intro k i I H;obtain⟨k,rfl⟩:∃ y,k=y+1:=⟨k-1,by omega⟩;have z:=z k (i+1) (by omega) (by omega);show Q33.s0 K (xs,()) _ _=_;simp only[Q33.s0];have r:i<xs.length:=by omega
   rw[decide_eq_true (by omega:(i:Int)<(BU xs:Int)),ag r,aq i (by omega),B7 r];simp only[cond_true,BV,orI];by_cases h:xs[i]=0
   ·have e:(xs[i] != 0)=false:=by simpa using h
    rw[e,if_neg (by simpa using h)];exact z
   ·have e:(xs[i] != 0)=true:=by simpa using h
    rw[e,if_pos h];rfl
 have:=u xs.length K 0 (by omega) (by omega)
 rwa [CJ]at this
def cmpF (f g:af):Int:=orI [fJ f.1 g.1,fJ f.2.1 g.2.1,fJ f.2.2.1 g.2.2.1,if f.2.2.2=true/\g.2.2.2=false then 1 else if g.2.2.2=true/\f.2.2.2=false then -1 else 0]
theorem mU (K:Nat)(f g:af)(H:1048577<K):Q34.f K (f,g,())=some ((cmpF f g,()),()):=by
 obtain⟨a,b,c,d⟩:=f;obtain⟨r,y,u,I⟩:=g;have h:∀ z:Int,Q33.f K ([fJ a r,fJ b y,fJ c u,z],())=some ((orI [fJ a r,fJ b y,fJ c u,z],()),()):=λz=>Bh K _ (by simp) H
 simp only[Q34.f,cmpF];cases d <;> cases I <;> simp only[BY,CD,cond_true,cond_false] <;> rw[nU,BV,nU,BV,nU,BV,h] <;> rfl
theorem o7 {x:Int}(h:x=0)(xs:List Int):orI (x::xs)=orI xs:=by subst h;rfl
theorem uS {x:Int}(h:x≠0)(xs:List Int):orI (x::xs)=x:=by simp[orI,h]
theorem jK {f g:af}(e:f.1=g.1):cmpF f g>0<->bO f g:=by
 unfold cmpF bO;rw[o7 ((ir f.1 g.1).2 e)];by_cases r:f.2.1=g.2.1
 ·rw[o7 ((ir f.2.1 g.2.1).2 r),if_neg (show ¬ f.2.1≠g.2.1 from λh=>h r)];by_cases u:f.2.2.1=g.2.2.1
  ·rw[o7 ((ir f.2.2.1 g.2.2.1).2 u),if_neg (show ¬ f.2.2.1≠g.2.2.1 from λh=>h u)];cases f.2.2.2 <;> cases g.2.2.2 <;> simp[orI]
  ·rw[uS (λh=>u ((ir f.2.2.1 g.2.2.1).1 h)),if_pos (show f.2.2.1≠g.2.2.1 from u)];exact uR _ _
 ·rw[uS (λh=>r ((ir f.2.1 g.2.1).1 h)),if_pos (show f.2.1≠g.2.1 from r)];exact uR _ _
theorem vM (K:Nat)(f g:af)(r:1048577<K):Ret (Q35.f K (f,g,())) (bD f/\bD g/\f.1=g.1/\bO f g):=by
 refine Ret.and (mh K f) (λ_=>Ret.and (mh K g) (λ_=>?_) rfl) rfl;refine (Ret.cnd (b:=f.1==g.1) (P:=f.1=g.1) (by simp) (λe=>?_)).iff Iff.rfl;show Ret ((Q34.f K (f,g,())).bind _) _;rw[mU K f g r];refine Ret.of ?_;simp only[gt_iff_lt,decide_eq_true_eq];exact jK e
theorem bG {n:Nat}{m:Int}(h:(n:Int)<m):decide ((n:Int)<m)=true:=decide_eq_true h
theorem aZ (n:Nat):decide ((n:Int)<(n:Int))=false:=decide_eq_false (by omega)
def cV (l:List aN):Prop:=(∀ x∈l,bD x.1/\InP x.2 1 4)/\Asc (λx:aN=>x.1.1) l
theorem yN (K:Nat)(l:List aN)(z:l.length<=1048576)(y:1048577<K):Ret (Q56.f K (l,())) (cV l):=by
 refine (gA l (step:=λrec a=>Q56.s0 K (l,()) rec a) (λi r=>bD l[i].1/\InP l[i].2 1 4/\(0<i->¬ (l[i-1]'(by omega)).1.1>=l[i].1.1)/\True) z ?_ ?_ y (λ_=>Ret.yes trivial)).iff (fp.trans ?_)
 ·intro rec i r;simp only[Q56.s0];rw[decide_eq_true (by omega:(i:Int)<(BU l:Int))];simp only[cond_true];refine Rnd.ix (ag r) (Rnd.nx (oZ K _) λ_=>Rnd.ix (ag r) (Rnd.nx (cI K _ 1 4) λ_=>Rnd.two (λu=>?_) Rnd.end_));rw[fe i u (by omega)];exact Rnd.ix (ag (by omega)) (Rnd.ix (ag r) (Rnd.cndN (by simp) λ_=>Rnd.end_))
 ·intro rec;simp only[Q56.s0,aZ];rfl
 ·rw[cV,dM,gT];constructor
  ·intro h;exact⟨λi r=>⟨(h i r).1,(h i r).2.1⟩,λi r u=>by have:=(h i r).2.2.1 u;omega⟩
  ·rintro⟨h1,h2⟩ i r;exact⟨(h1 i r).1,(h1 i r).2,λu=>by have:=h2 i r u;omega,trivial⟩
theorem uT (K:Nat)(l:List aN)(O:l.length<=1048576)(M:1048577<K):Q31.f K (l,())=some ((l.map (·.1),()),()):=by
 have u:∀ (d k i:Nat),i+d=l.length->d<k->ae (λrec a=>Q31.s0 K (l,()) rec a) k ((l.take i).map (·.1),(i:Int))=some ((l.map (·.1),()),()):=by
  intro d;induction d with
  |zero =>
   intro k i J H;obtain⟨k,rfl⟩:∃ y,k=y+1:=⟨k-1,by omega⟩;show Q31.s0 K (l,()) _ _=_;simp only[Q31.s0];rw[decide_eq_false (by omega:¬ ((i:Int)<(BU l:Int))),CB (by omega)];rfl
  |succ d z =>
   intro k i J H;obtain⟨k,rfl⟩:∃ y,k=y+1:=⟨k-1,by omega⟩;have z:=z k (i+1) (by omega) (by omega);show Q31.s0 K (l,()) _ _=_;have r:i<l.length:=by omega
   simp only[Q31.s0];rw[decide_eq_true (by omega:(i:Int)<(BU l:Int)),ag r,aq i (by omega)];simp only[cond_true,BV];have I:decide ((BU (List.map (λx:aN=>x.1) (List.take i l))+BU [l[i].1])*32<=ak)=true:=decide_eq_true (by simp only[ak,List.length_map,List.length_take,CC];omega);rw[I];have e:(List.take i l).map (λx:aN=>x.1)++[l[i].1]=(l.take (i+1)).map (·.1):=by
    rw[CF,BZ r,List.map_append];rfl
   rw[e];exact z
 have:=u l.length K 0 (by omega) (by omega);exact this
theorem vN {l:List aN}:az (l.map (·.1))<->(∀ x∈l,bD x.1)/\Asc (λx:aN=>x.1.1) l:=by
 unfold az Asc;rw[B8];simp
theorem xn (K:Nat)(x:aN):Ret (Q30.f K (x,())) (¬ InP x.2 1 4):=by
 simp only[Q30.f];exact (fH K x.2 1 4).neg
theorem yO (K:Nat)(l:List aN)(z:l.length<=1048576)(u:1048577<K):Ret (Q29.f K (l,(λr=>(Q30.f K (r.1,())).map λy=>y.1.1),())) (∃ x∈l,¬ InP x.2 1 4) :=
 ri K l _ (λx=>¬ InP x.2 1 4) z u (λx _=>Ret.fn (xn K x))
theorem o8 (K:Nat)(l:List aN)(y:l.length<=1048576)(u:1048577<K):Ret (Q32.f K (l,())) (cV l):=by
 simp only[Q32.f];obtain⟨H,I,J⟩:=yO K l y u;obtain⟨z,M,O⟩:=jJ K (l.map (·.1)) (by simpa using y) u;rw[uT K l y u,BV,M,BV,I,BV];have e:cV l<->(z=true/\H=false):=by
  rw[O,vN,cV,<- Bool.not_eq_true,J];constructor
  ·rintro⟨h5,h6⟩;exact⟨⟨λx r=>(h5 x r).1,h6⟩,λ⟨x,r,h⟩=>h (h5 x r).2⟩
  ·rintro⟨⟨h5,h6⟩,h7⟩;exact⟨λx r=>⟨h5 x r,BX.1 λh=>h7 ⟨x,r,h⟩⟩,h6⟩
 refine Ret.iff ?_ e.symm;cases z <;> cases H <;> exact⟨_,rfl,by simp⟩
def hZ (t:List af)(l:List aN):Prop:=∀ x∈l,∃ f∈t,f.1=x.1.1/\¬ bO x.1 f
theorem fK {t:List af}(h:Asc (λf:af=>f.1) t){f g:af}(u:f∈t)(y:g∈t)(e:f.1=g.1):f=g:=by
 obtain⟨i,z,rfl⟩:=B3 u;obtain⟨j,r,rfl⟩:=B3 y;have:=oX h z r e;subst this;rfl
theorem um (K:Nat)(n:aa)(z:NB n)(M:az (aa.table n))(y:1048577<K):Ret (Q58.f K (n,())) (cV (aa.cast n)/\hZ (aa.table n) (aa.cast n)):=by
 refine Ret.nx (yN K _ z.cast y) λ_=>?_
 refine (gA (aa.cast n) (step:=λrec a=>Q58.s0 K (n,()) rec a) (λi H=>∃ f∈aa.table n,f.1=(aa.cast n)[i].1.1/\¬ bO (aa.cast n)[i].1 f) z.cast ?_ ?_ y (λ_=>Ret.yes trivial)).iff (fp.trans ?_)
 ·intro rec i H;simp only[Q58.s0];rw[decide_eq_true (by omega:(i:Int)<(BU (aa.cast n):Int))];simp only[cond_true];refine Rnd.ix (ag H) ?_;obtain⟨o,J,I⟩:=fI K (aa.table n) (aa.cast n)[i].1.1 z.table y;refine Rnd.vl I ?_;cases J with
  |no h =>
   rw[show decide ((-1:Int)<0)=true from rfl];exact .inr ⟨λ⟨f,r,e,_⟩=>h f r e,rfl⟩
  |at_ j u e =>
   simp only;rw[decide_eq_false (by omega:¬ ((j:Int)<0))];refine (Rnd.ix (ag H) (Rnd.ix (ag u) (Rnd.fx (sU K _ _) λ_=>Rnd.end_))).iff ⟨λh=>⟨_,BW u,e,h.1⟩,λ⟨f,r,O,h⟩=>⟨?_,trivial⟩⟩;have:=fK M.2 r (BW u) (O.trans e.symm)
   rwa [<- this]
 ·intro rec;simp only[Q58.s0,aZ];rfl
 ·rw[hZ,dM]
theorem yP (K:Nat)(n:aa)(O:NB n)(M:az (aa.table n))(R:cV (aa.cast n))(J:1048577<K) :
  Ret ((Q29.f K (aa.cast n,(λy5=>(Q36.f K (y5.1,n,())).map λy=>y.1.1),())).bind λY=>some ((!Y.1.1,()),())) (hZ (aa.table n) (aa.cast n)):=by
 refine (Ret.neg (ri K _ _ (λx=>¬ ∃ f∈aa.table n,f.1=x.1.1/\¬ bO x.1 f) O.cast J (λx H=>Ret.fn ?_))).iff ?_
 ·simp only[Q36.f];rcases iI K (aa.table n) x.1.1 O.table J with ⟨r,_⟩|⟨_,⟨f,u,e,r⟩|⟨z,r⟩⟩
  ·exact absurd M r
  ·refine Ret.vl r ?_;refine (vM K x.1 f J).id.iff ⟨λh ⟨g,X,Z,I⟩=>?_,λh=>?_⟩
   ·have:=fK M.2 X u (Z.trans e.symm);exact I (this ▸ h.2.2.2)
   ·refine⟨(R.1 x H).1,M.1 f u,e.symm,BX.1 λI=>h ⟨f,u,e,I⟩⟩
  ·refine Ret.vl r ?_;exact Ret.yes (λ⟨f,u,e,_⟩=>z f u e)
 ·exact⟨λh x H=>BX.1 λz=>h ⟨x,H,z⟩,λh ⟨x,H,z⟩=>z (h x H)⟩
def dk (n:aa):Prop:=((n.1,n.2.2.2.2.1,(if n.2.2.1=true then 4 else 1),n.2.2.2.1):af)∈aa.table n
theorem Bi (K:Nat)(n:aa)(O:NB n)(M:az (aa.table n))(J:1048577<K):Ret (Q55.f K (n,())) (dk n):=by
 simp only[Q55.f];obtain⟨o,I,y⟩:=fI K (aa.table n) n.1 O.table J;refine Ret.vl y ?_;cases I with
 |no h =>
  rw[show decide ((-1:Int)<0)=true from rfl];exact Ret.no (λz=>h _ z rfl)
 |at_ j u e =>
  simp only;rw[decide_eq_false (by omega:¬ ((j:Int)<0))];refine Ret.vl (ag u) ?_;have r:dk n<->(aa.table n)[j]=((n.1,n.2.2.2.2.1,(if n.2.2.1=true then 4 else 1),n.2.2.2.1):af):=by
   constructor
   ·intro h;exact fK M.2 (BW u) h e
   ·intro h;show _∈_;rw[<- h];exact BW u
  have H:(aa.table n)[j]=((n.1,n.2.2.2.2.1,(if n.2.2.1=true then 4 else 1),n.2.2.2.1):af)<->((aa.table n)[j].2.1=n.2.2.2.2.1/\(aa.table n)[j].2.2.1=(if n.2.2.1=true then 4 else 1)/\(aa.table n)[j].2.2.2=n.2.2.2.1):=by
   generalize (aa.table n)[j]=f at e ⊢;obtain⟨a,b,c,d⟩:=f;simp at e ⊢;intro _ _ _;exact e
  refine Ret.iff ?_ (r.trans H).symm;cases R:n.2.2.1 with
  |true=>exact Ret.cnd (by simp) λ_=>Ret.cnd (by simp) λ_=>Ret.of (by simp)
  |false=>exact Ret.cnd (by simp) λ_=>Ret.cnd (by simp) λ_=>Ret.of (by simp)
theorem mV (f g:af):Ty.eqv ty_impl_Fact_D f g=decide (f=g):=by
 obtain⟨a,b,c,d⟩:=f;obtain⟨u,z,y,r⟩:=g;show (decide (a=u)&&(decide (b=z)&&(decide (c=y)&&(d==r))))=_;cases d <;> cases r <;> simp[CE]
theorem Bj (f g:dD):Ty.eqv ty_impl_Coord_D f g=decide (f=g):=by
 obtain⟨a,b,c,d⟩:=f;obtain⟨r,y,u,z⟩:=g;show (decide (a=r)&&(decide (b=y)&&(decide (c=u)&&decide (d=z))))=_;simp[CE]
theorem qB (K:Nat)(n:aa)(M:NB n)(J:1048577<K):Ret (Q37.f K (n,()))
  (az (aa.table n)/\cj (aa.table n) (ao n.1)/\dk n/\cV (aa.cast n)/\hZ (aa.table n) (aa.cast n)):=by
 have H:∀ (w:Int),az (aa.table n)->Ret ((Q27.f K (n,())).bind λy2=>(Q26.f K (aa.table n,y2.1.1,())).bind λO=>bif !O.1.1 then rb false else
   ((Q32.f K (aa.cast n,())).bind λX=>bif !X.1.1 then rb false else
    ((Q29.f K (aa.cast n,(λZ=>(Q36.f K (Z.1,n,())).map λy=>y.1.1),())).bind λY=>some ((!Y.1.1,()),()))))
   (cj (aa.table n) (ao n.1)/\cV (aa.cast n)/\hZ (aa.table n) (aa.cast n)):=by
  intro _ z;exact Ret.vl (qA K n) (Ret.nx (o6 K _ _ M.table J) λ_=>Ret.nx (o8 K _ M.cast J) λhC=>yP K n M z hC J)
 have r:∀ (w:Int),w=(if n.2.2.1=true then 4 else 1)->Ret ((Q21.f K (aa.table n,n.1,())).bind λy1=>bif !y1.1.2.1 then rb false else bif !Ty.eqv ty_impl_Fact_D y1.1.1 (n.1,(n.2.2.2.2.1,(w,n.2.2.2.1))) then rb false else
   ((Q27.f K (n,())).bind λy2=>(Q26.f K (aa.table n,y2.1.1,())).bind λO=>bif !O.1.1 then rb false else
   ((Q32.f K (aa.cast n,())).bind λX=>bif !X.1.1 then rb false else
    ((Q29.f K (aa.cast n,(λZ=>(Q36.f K (Z.1,n,())).map λy=>y.1.1),())).bind λY=>some ((!Y.1.1,()),())))))
   (az (aa.table n)/\cj (aa.table n) (ao n.1)/\dk n/\cV (aa.cast n)/\hZ (aa.table n) (aa.cast n)):=by
  intro w hw;rcases iI K (aa.table n) n.1 M.table J with ⟨u,R⟩|⟨z,⟨f,hf,e,u⟩|⟨R,u⟩⟩
  ·exact Ret.vl R (Ret.no (λh=>u h.1))
  ·refine Ret.vl u ?_;simp only[BY,cond_false];rw[mV];by_cases I:f=(n.1,(n.2.2.2.2.1,(w,n.2.2.2.1)))
   ·rw[decide_eq_true I];have hS:dk n:=by
     show _∈_;rw[<- hw,<- I];exact hf
    exact (H w z).iff ⟨λh=>⟨z,h.1,hS,h.2.1,h.2.2⟩,λh=>⟨h.2.1,h.2.2.2⟩⟩
   ·rw[decide_eq_false I];refine Ret.no (λh=>I ?_);have:=fK z.2 hf h.2.2.1 e;rw[this,hw]
  ·refine Ret.vl u (Ret.no (λh=>R _ h.2.2.1 rfl))
 simp only[Q37.f];cases hg:n.2.2.1 with
 |true=>exact r 4 (by rw[hg];rfl)
 |false=>exact r 1 (by rw[hg];rfl)
def c5 (n:aa):Prop:=if (aa.probe n).1=-1 then aa.probe n=(-1,0,0,false) else
 (aa.probe n).1≠n.1/\(∃ f∈aa.table n,f.1=(aa.probe n).1)/\InP (aa.probe n).2.1 0 n.2.2.2.2.2.1/\InP (aa.probe n).2.2.1 1 n.2.2.2.2.2.2.1
theorem Ah (K:Nat)(n:aa)(M:NB n)(J:1048577<K):Ret (Q59.f K (n,())) (c5 n):=by
 simp only[Q59.f,c5];by_cases h:(aa.probe n).1=-1
 ·rw[if_pos h,show ((aa.probe n).1==-1)=true by simpa using h];refine (Ret.cnd (P:=(aa.probe n).2.1=0) (by simp) λ_=>Ret.cnd (P:=(aa.probe n).2.2.1=0) (by simp) λ_=>Ret.of (P:=(aa.probe n).2.2.2=false) (by simp)).iff ?_;generalize aa.probe n=p at h ⊢;obtain⟨a,b,c,d⟩:=p;simp at h ⊢;intro _ _ _;exact h
 ·rw[if_neg h,show ((aa.probe n).1==-1)=false by simpa using h];refine Ret.cnd (by simp) λ_=>?_
  obtain⟨o,H,u⟩:=fI K (aa.table n) (aa.probe n).1 M.table J;refine Ret.vl u ?_;cases H with
  |no z=>exact Ret.no (λ⟨⟨f,y,e⟩,_⟩=>z f y e)
  |at_ j I e =>
   simp only;rw[show decide ((j:Int)>=0)=true from decide_eq_true (by omega)];exact (Ret.px (cI K _ _ _) λ_=>(cI K _ _ _).id).iff ⟨λr=>⟨⟨_,BW I,e⟩,r⟩,λr=>r.2⟩
theorem Ai (K:Nat)(n:aa)(J:NB n)(I:az (aa.table n))(z:1048577<K):Ret (Q38.f K (n,())) (c5 n):=by
 simp only[Q38.f,c5];by_cases h:(aa.probe n).1=-1
 ·rw[if_pos h,show ((aa.probe n).1==-1)=true by simpa using h,mV];exact Ret.dec
 ·rw[if_neg h,show ((aa.probe n).1==-1)=false by simpa using h];rcases iI K (aa.table n) (aa.probe n).1 J.table z with ⟨r,_⟩|⟨_,⟨f,y,e,r⟩|⟨H,r⟩⟩
  ·exact absurd I r
  ·refine Ret.vl r ?_;exact (Ret.cnd (P:=(aa.probe n).1≠n.1) (by simp) λ_=>Ret.px (fH K _ _ _) λ_=>(fH K _ _ _).id).iff ⟨λu=>⟨u.1,⟨f,y,e⟩,u.2⟩,λu=>⟨u.1,u.2.2⟩⟩
  ·exact Ret.vl r (Ret.no (λ⟨_,⟨f,y,e⟩,_⟩=>H f y e))
def cJ (c:dD):Prop:=InP c.1 (-100000) 100000/\InP c.2.1 (-100000) 100000/\InP c.2.2.1 0 100000/\InP c.2.2.2 1 1500
theorem iJ (K:Nat)(c:dD):Ret (Q61.f K (c,())) (cJ c) :=
 Ret.px (cI K _ _ _) λ_=>Ret.px (cI K _ _ _) λ_=>Ret.px (cI K _ _ _) λ_=>(cI K _ _ _).id
theorem qC (K:Nat)(c:dD):Ret (Q41.f K (c,())) (cJ c) :=
 Ret.px (fH K _ _ _) λ_=>Ret.px (fH K _ _ _) λ_=>Ret.px (fH K _ _ _) λ_=>(fH K _ _ _).id
def Bk (r:Int)(p:dR):Prop:=InP p.1 0 7/\ao p.1=ao r/\p.1≠r/\cJ p.2.1/\InP (p.2.2.length:Int) 1 3/\∀ t∈p.2.2,InP t 1 60000
def eK (r:Int)(l:List dR):Prop:=(∀ p∈l,Bk r p)/\Asc (λp:dR=>p.1) l
theorem xo (K:Nat)(n:aa)(x:Int):Ret (Q39.f K (n,x,())) (InP x 0 7/\ao x=ao n.1):=by
 refine Ret.px (oY K x) λ_=>?_
 exact Ret.of (b:=ao x==ao n.1) (by simp)
theorem Aj (K:Nat)(n:aa)(x:Int):Ret (Q43.f K (n,x,())) ((InP x 0 7/\ao x=ao n.1)/\x≠n.1):=by
 refine Ret.px (xo K n x) λ_=>?_
 exact Ret.of (b:=x != n.1) (by simp)
theorem yQ (K:Nat)(n:aa)(Y:NB n)(Z:1048577<K):Ret (Q62.f K (n,())) (eK n.1 (aa.places n)):=by
 refine (gA (aa.places n) (step:=λrec a=>Q62.s0 K (n,()) (Q62.l1 K (n,()) rec) rec a)
  (λi y=>InP (aa.places n)[i].1 0 7/\¬ ao (aa.places n)[i].1≠ao n.1/\¬ (aa.places n)[i].1=n.1/\(0<i->¬ ((aa.places n)[i-1]'(by omega)).1>=(aa.places n)[i].1) /\
   cJ (aa.places n)[i].2.1/\InP ((aa.places n)[i].2.2.length:Int) 1 3/\∀ k (z:k<(aa.places n)[i].2.2.length),InP (aa.places n)[i].2.2[k] 1 60000/\True) Y.places ?_ ?_ Z (λ_=>Ret.yes trivial)).iff (fp.trans ?_)
 ·intro rec i y;have hb:=Y.trips _ (BW y);have hl:=Y.places;have u:Rnd (Q62.l1 K (n,()) rec ((i:Int),0,(aa.places n)[i].1,(aa.places n)[i].2.1.1,(aa.places n)[i].2.1.2.1,(aa.places n)[i].2.1.2.2.1,(aa.places n)[i].2.1.2.2.2,(aa.places n)[i].2.2))
    (∀ k (z:k<(aa.places n)[i].2.2.length),InP (aa.places n)[i].2.2[k] 1 60000/\True) (rec (wr .i64 ((i:Int)+1))):=by
   generalize (aa.places n)[i]=p at hb;refine oW p.2.2 (step:=λr a=>Q62.s1 K (n,()) rec r a) (λk=>((i:Int),(k:Int),p.1,p.2.1.1,p.2.1.2.1,p.2.1.2.2.1,p.2.1.2.2.2,p.2.2)) (λk z=>InP p.2.2[k] 1 60000/\True) hb ?_ ?_ Z
   ·intro r k z;simp only[Q62.s1];rw[decide_eq_true (by omega:(k:Int)<(BU p.2.2:Int)),aq k (by omega)];simp only[cond_true];exact Rnd.ix (ag z) (Rnd.nx (cI K _ _ _) λ_=>Rnd.end_)
   ·intro r;simp only[Q62.s1,aZ];rfl
  simp only[Q62.s0];rw[decide_eq_true (by omega:(i:Int)<(BU (aa.places n):Int))];simp only[cond_true];refine Rnd.ix (ag y) (Rnd.nx (cI K _ _ _) λ_=>Rnd.vl (eQ K _) (Rnd.vl (eQ K _) (Rnd.cndN (by simp) λ_=>Rnd.cndN (by simp) λ_=>Rnd.two (λH=>?_) ?_)))
  ·rw[fe i H (by omega)];exact Rnd.ix (ag (show i-1<(aa.places n).length by omega)) (Rnd.cndN (by simp) λ_=>Rnd.nx (iJ K _) λ_=>Rnd.nx (cI K _ _ _) λ_=>u)
  ·exact Rnd.nx (iJ K _) λ_=>Rnd.nx (cI K _ _ _) λ_=>u
 ·intro rec;simp only[Q62.s0,aZ];rfl
 ·rw[eK,dM,gT];constructor
  ·intro h;refine⟨λi y=>?_,λi y H=>?_⟩
   ·obtain⟨I,M,J,h4,X,R,O⟩:=h i y;exact⟨I,BX.1 M,J,X,R,dM.2 λk z=>(O k z).1⟩
   ·have:=(h i y).2.2.2.1 H;omega
  ·rintro⟨I,M⟩ i y;obtain⟨J,h4,X,R,O,h8⟩:=I i y;exact⟨J,BX.2 h4,X,λH=>by have:=M i y H;omega,R,O,λk z=>⟨dM.1 h8 k z,trivial⟩⟩
theorem yR (K:Nat)(n:aa)(Y:NB n)(hK:1048577<K):Ret (Q46.f K (n,())) (eK n.1 (aa.places n)):=by
 refine (gA (aa.places n) (step:=λrec a=>Q46.s0 K (n,()) rec a)
  (λi u=>((InP (aa.places n)[i].1 0 7/\ao (aa.places n)[i].1=ao n.1)/\(aa.places n)[i].1≠n.1)/\(0<i->¬ (aa.places n)[i].1<=((aa.places n)[i-1]'(by omega)).1) /\
   cJ (aa.places n)[i].2.1/\InP ((aa.places n)[i].2.2.length:Int) 1 3/\(¬ ∃ t∈(aa.places n)[i].2.2,¬ InP t 1 60000)/\True) Y.places ?_ ?_ hK (λ_=>Ret.yes trivial)).iff (fp.trans ?_)
 ·intro rec i u;have hb:=Y.trips _ (BW u);have hl:=Y.places;have r:Ret (Q45.f K ((aa.places n)[i].2.2,(λy6=>(Q42.f K (y6.1,())).map λy=>y.1.1),())) (∃ t∈(aa.places n)[i].2.2,¬ InP t 1 60000) :=
   yM K _ _ _ hb hK (λt _=>Ret.fn (fH K t _ _).neg)
  simp only[Q46.s0];rw[decide_eq_true (by omega:(i:Int)<(BU (aa.places n):Int))];simp only[cond_true];refine Rnd.ix (ag u) (Rnd.nx (Aj K n _) λ_=>Rnd.two (λz=>?_) ?_)
  ·rw[fe i z (by omega)];exact Rnd.ix (ag (show i-1<(aa.places n).length by omega)) (Rnd.cndN (by simp) λ_=>Rnd.nx (qC K _) λ_=>Rnd.nx (fH K _ _ _) λ_=>Rnd.fx r λ_=>Rnd.end_)
  ·exact Rnd.nx (qC K _) λ_=>Rnd.nx (fH K _ _ _) λ_=>Rnd.fx r λ_=>Rnd.end_
 ·intro rec;simp only[Q46.s0,aZ];rfl
 ·rw[eK,dM,gT];constructor
  ·intro h;refine⟨λi u=>?_,λi u z=>?_⟩
   ·obtain⟨⟨⟨H,M⟩,I⟩,h4,X,R,O,_⟩:=h i u;exact⟨H,M,I,X,R,λt Z=>BX.1 λJ=>O ⟨t,Z,J⟩⟩
   ·have:=(h i u).2.1 z;omega
  ·rintro⟨H,M⟩ i u;obtain⟨I,h4,X,R,O,J⟩:=H i u;exact⟨⟨⟨I,h4⟩,X⟩,λz=>by have:=M i u z;omega,R,O,λ⟨t,Z,h9⟩=>h9 (J t Z),trivial⟩
def Bl (r:Int)(x:cY):Prop:=InP x.1 0 1/\x.1≠ao r/\x.2≠[]/\az x.2/\cj x.2 x.1
def dg (r:Int)(l:List cY):Prop:=(∀ x∈l,Bl r x)/\Asc (λx:cY=>x.1) l
theorem o9 {α:Type}(l:List α):((BU l:Int)==0)=true<->l=[]:=by
 cases l <;> simp;omega
theorem yS (K:Nat)(n:aa)(H:NB n)(y:1048577<K):Ret (Q63.f K (n,())) (dg n.1 (aa.others n)):=by
 refine (gA (aa.others n) (step:=λrec a=>Q63.s0 K (n,()) rec a)
  (λi r=>InP (aa.others n)[i].1 0 1/\¬ (aa.others n)[i].1=ao n.1/\(0<i->¬ ((aa.others n)[i-1]'(by omega)).1>=(aa.others n)[i].1) /\
   ¬ (aa.others n)[i].2=[]/\az (aa.others n)[i].2/\cj (aa.others n)[i].2 (aa.others n)[i].1/\True) H.others ?_ ?_ y (λ_=>Ret.yes trivial)).iff (fp.trans ?_)
 ·intro rec i r;have z:=H.facts _ (BW r);have X:=H.others;simp only[Q63.s0];rw[decide_eq_true (by omega:(i:Int)<(BU (aa.others n):Int))];simp only[cond_true];refine Rnd.ix (ag r) (Rnd.nx (cI K _ _ _) λ_=>Rnd.vl (eQ K _) (Rnd.cndN (by simp) λ_=>Rnd.two (λu=>?_) ?_))
  ·rw[fe i u (by omega)];exact Rnd.ix (ag (show i-1<(aa.others n).length by omega)) (Rnd.cndN (by simp) λ_=>Rnd.cndN (o9 _) λ_=>Rnd.nx (gB K _ z y) λ_=>Rnd.nx (gC K _ _ z y) λ_=>Rnd.end_)
  ·exact Rnd.cndN (o9 _) λ_=>Rnd.nx (gB K _ z y) λ_=>Rnd.nx (gC K _ _ z y) λ_=>Rnd.end_
 ·intro rec;simp only[Q63.s0,aZ];rfl
 ·rw[dg,dM,gT];constructor
  ·intro h;exact⟨λi r=>⟨(h i r).1,(h i r).2.1,(h i r).2.2.2.1,(h i r).2.2.2.2.1,(h i r).2.2.2.2.2.1⟩,λi r u=>by have:=(h i r).2.2.1 u;omega⟩
  ·rintro⟨h1,h2⟩ i r;obtain⟨I,R,O,M,J⟩:=h1 i r;exact⟨I,R,λu=>by have:=h2 i r u;omega,O,M,J,trivial⟩
theorem yT (K:Nat)(n:aa)(J:NB n)(y:1048577<K):Ret (Q47.f K (n,())) (dg n.1 (aa.others n)):=by
 refine (gA (aa.others n) (step:=λrec a=>Q47.s0 K (n,()) rec a)
  (λi r=>InP (aa.others n)[i].1 0 1/\¬ (aa.others n)[i].1=ao n.1/\(0<i->¬ (aa.others n)[i].1<=((aa.others n)[i-1]'(by omega)).1) /\
   ¬ (aa.others n)[i].2=[]/\az (aa.others n)[i].2/\cj (aa.others n)[i].2 (aa.others n)[i].1/\True) J.others ?_ ?_ y (λ_=>Ret.yes trivial)).iff (fp.trans ?_)
 ·intro rec i r;have I:=J.facts _ (BW r);have Y:=J.others;have H:ao 7=1:=by unfold ao;rw[aA (by decide) (by decide)];decide
  have z:=fH K (aa.others n)[i].1 0 (ao 7);rw[H]at z;simp only[Q47.s0];rw[decide_eq_true (by omega:(i:Int)<(BU (aa.others n):Int))];simp only[cond_true];refine Rnd.ix (ag r) (Rnd.vl (xk K 7) ?_);dsimp only;rw[H];refine Rnd.nx z λ_=>Rnd.vl (qA K n) (Rnd.cndN (by simp) λ_=>Rnd.two (λu=>?_) ?_)
  ·rw[fe i u (by omega)];exact Rnd.ix (ag (show i-1<(aa.others n).length by omega)) (Rnd.cndN (by simp) λ_=>Rnd.cndN (o9 _) λ_=>Rnd.nx (jJ K _ I y) λ_=>Rnd.nx (o6 K _ _ I y) λ_=>Rnd.end_)
  ·exact Rnd.cndN (o9 _) λ_=>Rnd.nx (jJ K _ I y) λ_=>Rnd.nx (o6 K _ _ I y) λ_=>Rnd.end_
 ·intro rec;simp only[Q47.s0,aZ];rfl
 ·rw[dg,dM,gT];constructor
  ·intro h;exact⟨λi r=>⟨(h i r).1,(h i r).2.1,(h i r).2.2.2.1,(h i r).2.2.2.2.1,(h i r).2.2.2.2.2.1⟩,λi r u=>by have:=(h i r).2.2.1 u;omega⟩
  ·rintro⟨h1,h2⟩ i r;obtain⟨M,X,R,O,H⟩:=h1 i r;exact⟨M,X,λu=>by have:=h2 i r u;omega,R,O,H,trivial⟩
def ByP (r:Int)(l:List Int):Prop:=(∀ b∈l,InP b 0 7/\ao b=ao r)/\Asc (λb:Int=>b) l
def lK (n:aa)(d:aY):Prop:=(∃ f∈aa.table n,f.1=d.1/\f.2.2.1=2/\f.2.1=d.2.1)/\InP d.2.2.1 0 n.2.2.2.2.2.1/\d.2.2.2≠[]/\ByP n.1 d.2.2.2
def aW (t:List af):List af:=t.filter λf=>f.2.2.1==2
def iK (n:aa):Prop:=(∀ d∈aa.doubts n,lK n d)/\Asc (λd:aY=>d.1) (aa.doubts n)/\(aW (aa.table n)).length=(aa.doubts n).length
theorem xp {y:Int}{l:List Int}:ByP y l<->∀ k (r:k<l.length),(InP l[k] 0 7/\ao l[k]=ao y)/\(0<k->¬ l[k-1]'(by omega)>=l[k]):=by
 rw[ByP,dM,gT];constructor
 ·rintro⟨h1,h2⟩ k r;exact⟨h1 k r,λu=>by have:=h2 k r u;omega⟩
 ·intro h;exact⟨λk r=>(h k r).1,λk r u=>by have:=(h k r).2 u;omega⟩
theorem Ak (K:Nat)(n:aa)(M:NB n)(R:1048577<K):Q60.l2 K (n,()) (0,0)=rb (decide ((aW (aa.table n)).length=(aa.doubts n).length)):=by
 have X:=M.table;have u:∀ (d k i c:Nat),i+d=(aa.table n).length->d<k->c<=i ->
   ae (λrec a=>Q60.s2 K (n,()) rec a) k ((c:Int),(i:Int))=rb (decide (c+(aW ((aa.table n).drop i)).length=(aa.doubts n).length)):=by
  intro d;induction d with
  |zero =>
   intro k i c O J I;obtain⟨k,rfl⟩:∃ y,k=y+1:=⟨k-1,by omega⟩;show Q60.s2 K (n,()) _ _=_;simp only[Q60.s2];rw[decide_eq_false (show ¬ ((i:Int)<(BU (aa.table n):Int)) by omega),CA (by omega)];simp only[cond_false,aW,List.filter_nil,List.length_nil,Nat.add_zero];have e:((c:Int)==(BU (aa.doubts n):Int))=decide (c=(aa.doubts n).length):=by
    by_cases h:c=(aa.doubts n).length
    ·rw[decide_eq_true h,h];simp
    ·rw[decide_eq_false h,beq_eq_false_iff_ne];omega
   exact congrArg rb e
  |succ d H =>
   intro k i c O J I;obtain⟨k,rfl⟩:∃ y,k=y+1:=⟨k-1,by omega⟩;have r:i<(aa.table n).length:=by omega
   show Q60.s2 K (n,()) _ _=_;simp only[Q60.s2];rw[decide_eq_true (show ((i:Int)<(BU (aa.table n):Int)) by omega),ag r,aq i (by omega),aq c (by omega),B7 r];simp only[cond_true,BV];cases z:((aa.table n)[i].2.2.1==2) with
   |true =>
    have:=H k (i+1) (c+1) (by omega) (by omega) (by omega);simp only[cond_true];have e:c+1+(aW ((aa.table n).drop (i+1))).length=c+(aW ((aa.table n)[i]::(aa.table n).drop (i+1))).length:=by
     simp only[aW,B9,z,if_true,List.length_cons];omega
    rw[<- e];exact this
   |false =>
    have:=H k (i+1) c (by omega) (by omega) (by omega);simp only[cond_false];have e:aW ((aa.table n)[i]::(aa.table n).drop (i+1))=aW ((aa.table n).drop (i+1)):=by
     simp only[aW,B9,z,B4,if_false]
    rw[e];exact this
 have:=u (aa.table n).length K 0 0 (by omega) (by omega) (CH _);rw[CJ,Nat.zero_add]at this;exact this
theorem yU (K:Nat)(n:aa)(X:NB n)(hT:az (aa.table n))(Y:1048577<K):Ret (Q60.f K (n,())) (iK n):=by
 refine (gA (aa.doubts n) (step:=λrec a=>Q60.s0 K (n,()) (Q60.l1 K (n,()) rec) (Q60.l2 K (n,())) rec a)
  (λi z=>(0<i->¬ ((aa.doubts n)[i-1]'(by omega)).1>=(aa.doubts n)[i].1)/\lK n (aa.doubts n)[i]) (Q:=(aW (aa.table n)).length=(aa.doubts n).length) (rt:=Q60.l2 K (n,()) (0,0)) X.doubts ?_ ?_ Y (λ_=>by rw[Ak K n X Y];exact Ret.dec)).iff ?_
 ·intro rec i z;have Z:=X.by_ _ (BW z);have hl:=X.doubts;have y:Rnd (Q60.l1 K (n,()) rec ((i:Int),0,(aa.doubts n)[i].1,(aa.doubts n)[i].2.1,(aa.doubts n)[i].2.2.1,(aa.doubts n)[i].2.2.2)) (ByP n.1 (aa.doubts n)[i].2.2.2) (rec (wr .i64 ((i:Int)+1))):=by
   generalize (aa.doubts n)[i]=d at Z;refine (oW d.2.2.2 (step:=λu a=>Q60.s1 K (n,()) rec u a) (λk=>((i:Int),(k:Int),d.1,d.2.1,d.2.2.1,d.2.2.2))
    (λk r=>InP d.2.2.2[k] 0 7/\¬ ao d.2.2.2[k]≠ao n.1/\(0<k->¬ d.2.2.2[k-1]'(by omega)>=d.2.2.2[k])/\True) Z ?_ ?_ Y).iff ?_
   ·intro u k r;simp only[Q60.s1];rw[decide_eq_true (by omega:(k:Int)<(BU d.2.2.2:Int)),aq k (by omega)];simp only[cond_true];refine Rnd.ix (ag r) (Rnd.nx (cI K _ _ _) λ_=>Rnd.ix (ag r) (Rnd.vl (eQ K _) (Rnd.vl (eQ K _) (Rnd.cndN (by simp) λ_=>Rnd.two (λH=>?_) Rnd.end_))));rw[fe k H (by omega)];exact Rnd.ix (ag (show k-1<d.2.2.2.length by omega)) (Rnd.ix (ag r) (Rnd.cndN (by simp) λ_=>Rnd.end_))
   ·intro u;simp only[Q60.s1,aZ];rfl
   ·rw[xp];constructor
    ·intro h k r;exact⟨⟨(h k r).1,BX.1 (h k r).2.1⟩,(h k r).2.2.1⟩
    ·intro h k r;exact⟨(h k r).1.1,BX.2 (h k r).1.2,(h k r).2,trivial⟩
  obtain⟨o,ho,R⟩:=fI K (aa.table n) (aa.doubts n)[i].1 X.table Y;simp only[Q60.s0];rw[decide_eq_true (show ((i:Int)<(BU (aa.doubts n):Int)) by omega)];simp only[cond_true];refine Rnd.ix (ag z) (Rnd.vl R ?_);cases ho with
  |no h =>
   have O:¬ lK n (aa.doubts n)[i]:=λ⟨⟨f,R,e,_⟩,_⟩=>h f R e
   refine Rnd.two (λH=>?_) ?_
   ·rw[fe i H (by omega)];refine Rnd.ix (ag (show i-1<(aa.doubts n).length by omega)) (Rnd.cndN (by simp) λ_=>?_);exact .inr ⟨O,rfl⟩
   ·exact .inr ⟨O,rfl⟩
  |at_ j M e =>
   have J:decide ((j:Int)<0)=false:=decide_eq_false (by omega);have I:lK n (aa.doubts n)[i]<->(¬ (aa.table n)[j].2.2.1≠2/\¬ (aa.table n)[j].2.1≠(aa.doubts n)[i].2.1/\InP (aa.doubts n)[i].2.2.1 0 n.2.2.2.2.2.1/\¬ (aa.doubts n)[i].2.2.2=[]/\ByP n.1 (aa.doubts n)[i].2.2.2):=by
    constructor
    ·rintro⟨⟨f,R,e1,e2,e3⟩,h2,h3,h4⟩;have:=fK hT.2 R (BW M) (e1.trans e.symm);subst this;exact⟨BX.2 e2,BX.2 e3,h2,h3,h4⟩
    ·rintro⟨e2,e3,h2,h3,h4⟩;exact⟨⟨_,BW M,e,BX.1 e2,BX.1 e3⟩,h2,h3,h4⟩
   refine Rnd.two (λH=>?_) ?_
   ·rw[fe i H (by omega)];refine Rnd.ix (ag (show i-1<(aa.doubts n).length by omega)) (Rnd.cndN (by simp) λ_=>?_);simp only[J,cond_false];refine Rnd.iff ?_ I.symm;exact Rnd.ix (ag M) (Rnd.cndN (by simp) λ_=>Rnd.ix (ag M) (Rnd.cndN (by simp) λ_=>Rnd.nx (cI K _ _ _) λ_=>Rnd.cndN (o9 _) λ_=>y))
   ·simp only[J,cond_false];refine Rnd.iff ?_ I.symm;exact Rnd.ix (ag M) (Rnd.cndN (by simp) λ_=>Rnd.ix (ag M) (Rnd.cndN (by simp) λ_=>Rnd.nx (cI K _ _ _) λ_=>Rnd.cndN (o9 _) λ_=>y))
 ·intro rec;simp only[Q60.s0,aZ];rfl
 ·rw[iK,dM,gT];constructor
  ·rintro⟨h1,h2⟩;exact⟨λi z=>(h1 i z).2,λi z H=>by have:=(h1 i z).1 H;omega,h2⟩
  ·rintro⟨h1,h2,h3⟩;exact⟨λi z=>⟨λH=>by have:=h2 i z H;omega,h1 i z⟩,h3⟩
theorem Al (K:Nat)(n:aa)(Z:NB n)(S:List af)(hS:S.length=(aa.doubts n).length)(hK:1048577<K):Ret (Q40.l1 K (n,()) (S,0))
  (∀ i (u:i<(aa.doubts n).length),(aa.doubts n)[i].1=(S[i]'(by omega)).1/\(aa.doubts n)[i].2.1=(S[i]'(by omega)).2.1/\InP (aa.doubts n)[i].2.2.1 0 n.2.2.2.2.2.1/\(aa.doubts n)[i].2.2.2≠[]/\ByP n.1 (aa.doubts n)[i].2.2.2):=by
 have hl:=Z.doubts;have I:=mg (step:=λrec a=>Q40.s1 K (n,()) (Q40.l2 K (n,()) rec) rec a) (aa.doubts n).length (λi=>(S,(i:Int)))
  (λi=>∀ u:i<(aa.doubts n).length,¬ (aa.doubts n)[i].1≠(S[i]'(by omega)).1/\¬ (aa.doubts n)[i].2.1≠(S[i]'(by omega)).2.1/\InP (aa.doubts n)[i].2.2.1 0 n.2.2.2.2.2.1/\¬ (aa.doubts n)[i].2.2.2=[]/\ByP n.1 (aa.doubts n)[i].2.2.2)
  (rb true) (rb false) ?_ ?_ (aa.doubts n).length K 0 (by omega) (by omega)
 ·rcases I with ⟨M,J⟩|⟨M,J⟩
  ·refine⟨true,J,iff_of_true rfl λi u=>?_⟩;obtain⟨O,X,R⟩:=M i (B5 _) u u;exact⟨BX.1 O,BX.1 X,R⟩
  ·refine⟨false,J,iff_of_false (by simp) λh=>M λi _ u _=>?_⟩;obtain⟨O,X,R⟩:=h i u;exact⟨BX.2 O,BX.2 X,R⟩
 ·intro rec i u;have Y:=Z.by_ _ (BW u);have H:Rnd (Q40.l2 K (n,()) rec (S,(i:Int),(aa.doubts n)[i].2.2.2,(BU (aa.doubts n)[i].2.2.2:Int),0,(aa.doubts n)[i].1,(aa.doubts n)[i].2.1,(aa.doubts n)[i].2.2.1,(aa.doubts n)[i].2.2.2)) (ByP n.1 (aa.doubts n)[i].2.2.2) (rec (S,wr .i64 ((i:Int)+1))):=by
   generalize (aa.doubts n)[i]=d at Y;refine (oW d.2.2.2 (step:=λr a=>Q40.s2 K (n,()) rec r a) (λk=>(S,(i:Int),d.2.2.2,(BU d.2.2.2:Int),(k:Int),d.1,d.2.1,d.2.2.1,d.2.2.2))
    (λk z=>(InP d.2.2.2[k] 0 7/\ao d.2.2.2[k]=ao n.1)/\(0<k->¬ d.2.2.2[k]<=d.2.2.2[k-1]'(by omega))/\True) Y ?_ ?_ hK).iff ?_
   ·intro r k z;simp only[Q40.s2,zcp4];rw[decide_eq_true (by omega:(k:Int)<(BU d.2.2.2:Int)),aq k (by omega)];simp only[cond_true];refine Rnd.ix (ag z) (Rnd.nx (xo K n _) λ_=>Rnd.two (λh0=>?_) Rnd.end_);rw[fe k h0 (by omega)];exact Rnd.ix (ag (show k-1<d.2.2.2.length by omega)) (Rnd.cndN (by simp) λ_=>Rnd.end_)
   ·intro r;simp only[Q40.s2,zcp4,aZ];rfl
   ·rw[xp];constructor
    ·intro h k z;exact⟨(h k z).1,(h k z).2.1⟩
    ·intro h k z;exact⟨(h k z).1,(h k z).2,trivial⟩
  have y:i<S.length:=by omega
  have hr:Rnd (Q40.s1 K (n,()) (Q40.l2 K (n,()) rec) rec (S,(i:Int)))
    (¬ (aa.doubts n)[i].1≠S[i].1/\¬ (aa.doubts n)[i].2.1≠S[i].2.1/\InP (aa.doubts n)[i].2.2.1 0 n.2.2.2.2.2.1/\¬ (aa.doubts n)[i].2.2.2=[]/\ByP n.1 (aa.doubts n)[i].2.2.2) (rec (S,((i+1:Nat):Int))):=by
   rw[<- aq i (by omega)];simp only[Q40.s1];rw[decide_eq_true (show ((i:Int)<(BU (aa.doubts n):Int)) by omega),Int.toNat_natCast];simp only[cond_true];exact Rnd.ix (ag u) (Rnd.ix (ag y) (Rnd.ix (ag y) (Rnd.cndN (by simp) λ_=>Rnd.ix (ag y) (Rnd.ix (ag y) (Rnd.cndN (by simp) λ_=>Rnd.nx (fH K _ _ _) λ_=>Rnd.cndN (o9 _) λ_=>H)))))
  exact hr.imp (λh=>⟨λ_=>h.1,h.2⟩) (λh=>⟨λJ=>h.1 (J u),h.2⟩)
 ·intro rec;simp only[Q40.s1,aZ];rfl
theorem yV (K:Nat)(n:aa)(hn:NB n)(hT:az (aa.table n))(hK:1048577<K):Ret (Q40.f K (n,())) (iK n):=by
 have hl:=hn.table;have a1:=hn.doubts;have X:∀ (d k i:Nat),i+d=(aa.table n).length->d<k->ae (λrec a=>Q40.s0 K (n,()) (Q40.l1 K (n,())) rec a) k (aW ((aa.table n).take i),(i:Int)) =
   (bif (BU (aa.doubts n):Int) != (BU (aW (aa.table n)):Int) then rb false else Q40.l1 K (n,()) (aW (aa.table n),0)):=by
  intro d;induction d with
  |zero =>
   intro k i z hk;obtain⟨k,rfl⟩:∃ k',k=k'+1:=⟨k-1,by omega⟩;show Q40.s0 K (n,()) _ _ _=_;simp only[Q40.s0];rw[decide_eq_false (show ¬ ((i:Int)<(BU (aa.table n):Int)) by omega),CB (by omega)];rfl
  |succ d J =>
   intro k i z hk;obtain⟨k,rfl⟩:∃ k',k=k'+1:=⟨k-1,by omega⟩;have J:=J k (i+1) (by omega) (by omega);have O:i<(aa.table n).length:=by omega
   show Q40.s0 K (n,()) _ _ _=_;simp only[Q40.s0];rw[decide_eq_true (show ((i:Int)<(BU (aa.table n):Int)) by omega),ag O,aq i (by omega)];simp only[cond_true,BV];have e:aW ((aa.table n).take (i+1))=aW ((aa.table n).take i)++(if (aa.table n)[i].2.2.1==2 then [(aa.table n)[i]] else []):=by
    rw[aW,CF,BZ O,List.filter_append];simp[aW,B9]
   cases hb:((aa.table n)[i].2.2.1==2) with
   |true =>
    rw[hb]at e;simp only[if_true]at e;simp only[cond_true];have a2:(aW ((aa.table n).take i)).length<=i:=Nat.le_trans (List.length_filter_le _ _) (by simp;omega);have hs:decide ((BU (aW ((aa.table n).take i))+BU [(aa.table n)[i]])*32<=ak)=true:=decide_eq_true (by simp only[ak,CC];omega);rw[hs];rw[e]at J;exact J
   |false =>
    rw[hb]at e;simp only[B4,if_false,List.append_nil]at e;rw[e]at J;exact J
 have h0:Q40.f K (n,())=_:=X (aa.table n).length K 0 (by omega) (by omega);rw[h0];have y:∀ f∈aW (aa.table n),f∈aa.table n/\f.2.2.1=2:=λf H=>by
  rw[aW,CI]at H;exact⟨H.1,by simpa using H.2⟩
 have u:Asc (λf:af=>f.1) (aW (aa.table n)):=List.Pairwise.filter _ hT.2;by_cases r:(aW (aa.table n)).length=(aa.doubts n).length
 ·have:((BU (aa.doubts n):Int) != (BU (aW (aa.table n)):Int))=false:=by simp[r]
  rw[this];refine (Al K n hn _ r hK).iff ⟨λh=>⟨?_,?_,r⟩,λ⟨h1,h2,_⟩ i z=>?_⟩
  ·rw[dM];intro i z;obtain⟨R,h4,Z,Y,h7⟩:=h i z;obtain⟨h8,h9⟩:=y _ (BW (show i<(aW (aa.table n)).length by omega));exact⟨⟨_,h8,R.symm,h9,h4.symm⟩,Z,Y,h7⟩
  ·rw[dw]at u ⊢;intro i j z hj a0;have:=u i j (by omega) (by omega) a0;rw[(h i z).1,(h j hj).1];exact this
  ·have I:=jn ((aa.doubts n).map (·.1)) ((aW (aa.table n)).map (·.1)) (by rw[B8];exact h2) (by rw[B8];exact u) (by
    intro x hx;obtain⟨d,hd,rfl⟩:=CK.1 hx;obtain⟨⟨f,H,e1,e2,_⟩,_⟩:=h1 d hd;exact CK.2 ⟨f,by rw[aW,CI];exact⟨H,by simpa using e2⟩,e1⟩)
   have I:=I.2 (by simp[r]);have M:i<(aW (aa.table n)).length:=by omega
   have e:(aa.doubts n)[i].1=(aW (aa.table n))[i].1:=by
    have R:((aa.doubts n).map (·.1))[i]?=((aW (aa.table n)).map (·.1))[i]?:=by rw[I]
    rw[CG,CG,BZ z,BZ M]at R;simpa using R
   obtain⟨⟨f,H,e1,e2,e3⟩,h4,Z,Y⟩:=h1 _ (BW z);have:=fK hT.2 H (y _ (BW M)).1 (e1.trans e);subst this;exact⟨e,e3.symm,h4,Z,Y⟩
 ·have:((BU (aa.doubts n):Int) != (BU (aW (aa.table n)):Int))=true:=by simp;omega
  rw[this];exact Ret.no (λh=>r h.2.2)
def pJ (n:aa):Prop:=n.2.2.1=false/\n.2.2.2.2.1=0/\n.2.2.2.2.2.1=0/\n.2.2.2.2.2.2.1=0/\n.2.2.2.2.2.2.2.1=0 /\
 wr .i64 (wr .i64 (wr .i64 (wr .i64 ((BU (aa.table n):Int)+(BU (aa.cast n):Int))+(BU (aa.doubts n):Int))+(BU (aa.places n):Int))+(BU (aa.others n):Int))=0 /\
 aa.probe n=(0,0,0,false)/\aa.coord n=(0,0,0,0)
def UpP (n:aa):Prop:=az (aa.table n)/\cj (aa.table n) (ao n.1)/\dk n/\(cV (aa.cast n)/\hZ (aa.table n) (aa.cast n))/\c5 n/\iK n/\cJ (aa.coord n)/\eK n.1 (aa.places n)/\dg n.1 (aa.others n)
def gn (n:aa):Prop:=InP n.1 0 7/\InP n.2.2.2.2.2.1 0 999999/\InP n.2.2.2.2.2.2.1 0 999999/\InP n.2.2.2.2.2.2.2.1 0 8/\InP n.2.2.2.2.1 0 999/\(if n.2.1=true then UpP n else pJ n)
theorem sW (K:Nat)(n:aa)(u:NB n)(r:1048577<K):Ret (Q64.f K (n,())) (gn n):=by
 refine Ret.nx (cI K _ _ _) λ_=>Ret.nx (cI K _ _ _) λ_=>Ret.nx (cI K _ _ _) λ_=>Ret.nx (cI K _ _ _) λ_=>Ret.nx (cI K _ _ _) λ_=>?_
 dsimp only;cases O:n.2.1 with
 |false =>
  simp only[CD,cond_true,B4,if_false,pJ];refine Ret.cnd (by simp) λ_=>Ret.cnd (by simp) λ_=>Ret.cnd (by simp) λ_=>Ret.cnd (by simp) λ_=>Ret.cnd (by simp) λ_=>Ret.cnd (by simp) λ_=>?_
  refine Ret.iff (Ret.cnd (P:=(aa.probe n).1=0) (by simp) λ_=>Ret.cnd (P:=(aa.probe n).2.1=0) (by simp) λ_=>Ret.cnd (P:=(aa.probe n).2.2.1=0) (by simp) λ_=>Ret.cnd (P:=(aa.probe n).2.2.2=false) (by simp) λ_ =>
   Ret.cnd (P:=(aa.coord n).1=0) (by simp) λ_=>Ret.cnd (P:=(aa.coord n).2.1=0) (by simp) λ_=>Ret.cnd (P:=(aa.coord n).2.2.1=0) (by simp) λ_=>Ret.of (P:=(aa.coord n).2.2.2=0) (by simp)) ?_
  generalize aa.probe n=p;generalize aa.coord n=c;obtain⟨X,R,z,M⟩:=p;obtain⟨H,Y,J,I⟩:=c;simp only[CE];constructor
  ·rintro⟨h1,h2,h3,h4,h5,h6,h7,h8⟩;exact⟨⟨h1,h2,h3,h4⟩,h5,h6,h7,h8⟩
  ·rintro⟨⟨h1,h2,h3,h4⟩,h5,h6,h7,h8⟩;exact⟨h1,h2,h3,h4,h5,h6,h7,h8⟩
 |true =>
  simp only[BY,cond_false,if_true,UpP];exact Ret.px (gB K _ u.table r) λy=>Ret.vl (eQ K _) (Ret.px (gC K _ _ u.table r) λ_=>Ret.px (Bi K n u y r) λ_=>Ret.px (um K n u y r) λ_=>Ret.px (Ah K n u r) λ_ =>
   Ret.px (yU K n u y r) λ_=>Ret.px (iJ K _) λ_=>Ret.px (yQ K n u r) λ_=>(yS K n u r).id)
theorem Bm (K:Nat)(n:aa):Ret (Q13.f K (n,())) (pJ n):=by
 simp only[Q13.f,mV,Bj,pJ];exact Ret.cnd (by simp) λ_=>Ret.cnd (by simp) λ_=>Ret.cnd (by simp) λ_=>Ret.cnd (by simp) λ_=>Ret.cnd (by simp) λ_=>Ret.cnd (by simp) λ_=>Ret.cnd (by simp) λ_=>Ret.dec
theorem mi (K:Nat)(n:aa)(u:NB n)(r:1048577<K):Ret (Q48.f K (n,())) (gn n):=by
 refine Ret.nx (oY K _) λ_=>Ret.nx (fH K _ _ _) λ_=>Ret.nx (fH K _ _ _) λ_=>Ret.nx (fH K _ _ _) λ_=>Ret.nx (fH K _ _ _) λ_=>?_
 dsimp only;cases z:n.2.1 with
 |false =>
  simp only[CD,cond_true,B4,if_false];exact (Bm K n).id
 |true =>
  simp only[BY,cond_false,if_true,UpP];refine Ret.iff (Ret.px (qB K n u r) λy=>Ret.px (Ai K n u y.1 r) λ_=>Ret.px (yV K n u y.1 r) λ_=>Ret.px (qC K _) λ_=>Ret.px (yR K n u r) λ_=>(yT K n u r).id) ?_;constructor
  ·rintro⟨⟨h1,h2,h3,h4,h5⟩,h6,h7,h8,h9,h10⟩;exact⟨h1,h2,h3,⟨h4,h5⟩,h6,h7,h8,h9,h10⟩
  ·rintro⟨h1,h2,h3,⟨h4,h5⟩,h6,h7,h8,h9,h10⟩;exact⟨⟨h1,h2,h3,h4,h5⟩,h6,h7,h8,h9,h10⟩
theorem lL {A R:Type}{step:(A->Option R)->A->Option R}(n:Nat)(S:Nat->A)(rt:Option R)(h:∀ (rec:A->Option R) (i:Nat),i<n->step rec (S i)=rec (S (i+1)))(r:∀ rec:A->Option R,step rec (S n)=rt)
  {k:Nat} (y:n<k):ae step k (S 0)=rt:=by
 rcases mg (step:=step) n S (λ_=>True) rt none (λrec i z=>.inl ⟨trivial,h rec i z⟩) r n k 0 (by omega) y with ⟨_,u⟩|⟨u,_⟩
 ·exact u
 ·exact absurd (λ_ _ _=>trivial) u
def Szd (o:Option ((Int×Unit)×Unit))(left:Int)(Q:Prop):Prop:=∃ r,o=some ((r,()),())/\(r<0\/(0<=r/\r<=left/\Q))
theorem Szd.sub (left:Int)(n:Nat)(J:0<=left)(I:left<=1048576)(M:n<=9223372036854775807){g:Option ((Int×Unit)×Unit)}{Q:Prop}(y:wr .i64 (left-(n:Int))=left-n->(n:Int)<=left->Szd g (left-n) Q) :
  Szd (bif decide (wr .i64 (left-(n:Int))<0) then some ((-1,()),()) else g) left (n<=1048576/\Q):=by
 have e:wr .i64 (left-(n:Int))=left-n:=aA (by omega) (by omega);by_cases h:left-(n:Int)<0
 ·rw[e,decide_eq_true h];exact⟨-1,rfl,.inl (by decide)⟩
 ·rw[decide_eq_false (by rw[e];exact h)];obtain⟨r,z,H⟩:=y e (by omega);exact⟨r,z,H.imp id λu=>⟨u.1,by omega,by omega,u.2.2⟩⟩
theorem Szd.bind {o:Option ((Int×Unit)×Unit)}{left:Int}{P Q:Prop}{G:(Int×Unit)×Unit->Option ((Int×Unit)×Unit)}(h:Szd o left P)(J:∀ r,0<=r->r<=left->P->Szd (G ((r,()),())) r Q) :
  Szd (o.bind λy=>bif decide (y.1.1<0) then some ((-1,()),()) else G y) left (P/\Q):=by
 obtain⟨r,M,u⟩:=h;rw[M,BV];rcases u with u|⟨u,I,H⟩
 ·rw[decide_eq_true u];exact⟨-1,rfl,.inl (by decide)⟩
 ·rw[show decide (r<0)=false from decide_eq_false (by omega)];obtain⟨X,R,O⟩:=J r u I H;exact⟨X,R,O.imp id λz=>⟨z.1,by omega,H,z.2.2⟩⟩
theorem Szd.ret (r:Int)(h:0<=r):Szd (some ((r,()),())) r True:=⟨r,rfl,.inr ⟨h,Int.le_refl _,trivial⟩⟩
theorem Szd.iff {o:Option ((Int×Unit)×Unit)}{left:Int}{P Q:Prop}(h:Szd o left P)(e:P->Q):Szd o left Q:=by
 obtain⟨r,y,z⟩:=h;exact⟨r,y,z.imp id λu=>⟨u.1,u.2.1,e u.2.2⟩⟩
end Go.Proofs.YtaegajachoklkaaGreatEv
