/- What is ok of facts, tables, casts: the program and the specification say the same. -/
import Derived.Test.YtaegajachoklkaaGreatFns
import Derived.Test.YtaegajachoklkaaGreatP0
set_option linter.unusedVariables false
set_option linter.unusedSimpArgs false
open Bool renaming not_true->AX,false_eq_true->BA,not_false->BJ
open Classical renaming not_not->AW
open Int renaming natCast_nonneg->BC
open List renaming length->AT,getElem_mem->AV,getElem?_eq_getElem->AY,getElem_of_mem->AZ,drop_eq_getElem_cons->BD,pairwise_map->BE,filter_cons->BF,drop_of_length_le->BG,take_of_length_le->BH,length_singleton->BI,take_add_one->BL,getElem?_map->BM,mem_filter->BO,drop_zero->BP,mem_map->BQ
open Nat renaming zero_le->BB,le_refl->BN
open Option renaming bind_some->AU
open Prod.mk renaming injEq->BK
namespace Go.Proofs.YtaegajachoklkaaGreatEv
open Go
abbrev InP (n u r:Int):Prop:=u<=n/\n<=r
theorem eo (K:Nat)(n u r:Int):Ret (Q127.f K (n,u,r,())) (InP n u r):=by
 simp only[Q127.f];exact Ret.cnd (by simp) λ_=>Ret.dec
theorem cm (K:Nat)(n u r:Int):Ret (Q11.f K (n,u,r,())) (InP n u r):=by
 simp only[Q11.f];exact Ret.cnd (by simp) λ_=>Ret.dec
theorem Ret.id {o:Option RB}{P:Prop}(h:Ret o P):Ret (o.bind λy=>some ((y.1.1,()),())) P:=by
 obtain⟨b,u,r⟩:=h;exact⟨b,by rw[u];rfl,r⟩
theorem Ret.neg {o:Option RB}{P:Prop}(h:Ret o P):Ret (o.bind λy=>some ((!y.1.1,()),())) (¬ P):=by
 obtain⟨b,r,u⟩:=h;exact⟨!b,by rw[r];rfl,by cases b <;> simp_all⟩
def bC (f:af):Prop:=InP f.1 0 7/\InP f.2.1 0 999/\InP f.2.2.1 1 4
theorem iI (K:Nat)(n:Int):Ret (Q128.f K (n,())) (InP n 0 7):=(eo K n 0 7).id
theorem ov (K:Nat)(f:af):Ret (Q130.f K (f,())) (bC f) :=
 Ret.and (iI K f.1) (λ_=>Ret.and (eo K f.2.1 0 999) (λ_=>(eo K f.2.2.1 1 4).id) rfl) rfl
theorem ox (K:Nat)(f:af):Ret (Q20.f K (f,())) (bC f) :=
 Ret.and (cm K f.1 0 7) (λ_=>Ret.and (cm K f.2.1 0 999) (λ_=>(cm K f.2.2.1 1 4).id) rfl) rfl
def aA (t:List af):Prop:=(∀ f∈t,bC f)/\Asc (λf:af=>f.1) t
theorem sk {t:List af}:aA t<->∀ j,j<t.length->∃ h:j<t.length,bC t[j]/\(0<j->(t[j-1]'(by omega)).1<t[j].1):=by
 unfold aA;rw[dn,gx];constructor
 ·rintro⟨h1,h2⟩ j hj;exact⟨hj,h1 j hj,λr=>h2 j hj r⟩
 ·intro h;exact⟨λi u=>(h i u).2.1,λi u r=>(h i u).2.2 r⟩
theorem eG {P:Prop}:(P/\True)<->P:=by simp
theorem fZ (K:Nat)(t:List af)(M:t.length<=1048576)(J:1048577<K):Ret (Q24.f K (t,())) (aA t):=by
 refine Ret.iff (p6 (step:=λrec a=>Q24.s0 K (t,()) rec a) t.length (λi=>(i:Int)) (λj=>∃ h:j<t.length,bC t[j]/\(0<j->(t[j-1]'(by omega)).1<t[j].1)) (Q:=True) (rt:=rb true) ?_ ?_ (by omega) (λ_=>Ret.yes trivial)) (eG.trans sk.symm)
 ·intro rec i y;simp only[Q24.s0];rw[decide_eq_true (by omega:(i:Int)<(AT t:Int)),ai y,au i (by omega)];simp only[cond_true,AU];obtain⟨b,H,u⟩:=ox K t[i];rw[H];simp only[AU];cases b with
  |false=>exact .inr ⟨λ⟨_,r,_⟩=>by simpa using u.2 r,rfl⟩
  |true =>
   simp only[AX,cond_false];by_cases z:(i:Int)>0
   ·rw[decide_eq_true z,ez i (by omega) (by omega),ai (by omega:i-1<t.length)];simp only[cond_true,AU];by_cases r:(t[i-1]'(by omega)).1>=t[i].1
    ·rw[decide_eq_true r];exact .inr ⟨λ⟨_,_,I⟩=>by have:=I (by omega);omega,rfl⟩
    ·rw[decide_eq_false r];exact .inl ⟨⟨y,u.1 rfl,λ_=>by omega⟩,rfl⟩
   ·rw[decide_eq_false z];exact .inl ⟨⟨y,u.1 rfl,λ_=>by omega⟩,rfl⟩
 ·intro rec;simp only[Q24.s0];rw[decide_eq_false (by omega:¬ ((t.length:Int)<(AT t:Int)))];rfl
theorem jg (K:Nat)(t:List af)(M:t.length<=1048576)(J:1048577<K):Ret (Q131.f K (t,())) (aA t):=by
 refine Ret.iff (p6 (step:=λrec a=>Q131.s0 K (t,()) rec a) t.length (λi=>(i:Int)) (λj=>∃ h:j<t.length,bC t[j]/\(0<j->(t[j-1]'(by omega)).1<t[j].1)) (Q:=True) (rt:=rb true) ?_ ?_ (by omega) (λ_=>Ret.yes trivial)) (eG.trans sk.symm)
 ·intro rec i y;simp only[Q131.s0];rw[decide_eq_true (by omega:(i:Int)<(AT t:Int)),ai y,au i (by omega)];simp only[cond_true,AU];obtain⟨b,H,u⟩:=ov K t[i];rw[H];simp only[AU];cases b with
  |false=>exact .inr ⟨λ⟨_,r,_⟩=>by simpa using u.2 r,rfl⟩
  |true =>
   simp only[AX,cond_false];by_cases z:(i:Int)>0
   ·rw[decide_eq_true z,ez i (by omega) (by omega),ai (by omega:i-1<t.length)];simp only[cond_true,AU];by_cases r:t[i].1<=(t[i-1]'(by omega)).1
    ·rw[decide_eq_true r];exact .inr ⟨λ⟨_,_,I⟩=>by have:=I (by omega);omega,rfl⟩
    ·rw[decide_eq_false r];exact .inl ⟨⟨y,u.1 rfl,λ_=>by omega⟩,rfl⟩
   ·rw[decide_eq_false z];exact .inl ⟨⟨y,u.1 rfl,λ_=>by omega⟩,rfl⟩
 ·intro rec;simp only[Q131.s0];rw[decide_eq_false (by omega:¬ ((t.length:Int)<(AT t:Int)))];rfl
inductive uX (t:List af) (node:Int):Option Nat->Prop where
 |at_ (i:Nat) (h:i<t.length) (e:t[i].1=node):uX t node (some i)
 |no (h:∀ f∈t,f.1≠node):uX t node none
theorem eW (K:Nat)(t:List af)(r:Int)(M:t.length<=1048576)(J:1048577<K) :
  ∃ o,uX t r o/\Q42.f K (t,r,())=some (((match o with|some i=>((i:Nat):Int)|none=>-1),()),()):=by
 have:=cG (step:=λrec a=>Q42.s0 K (t,r,()) rec a) t.length (λi=>(i:Int)) (λj=>∃ h:j<t.length,t[j].1=r) (some ((-1,()),())) (λj=>some ((((j:Nat):Int),()),())) ?_ ?_ t.length K 0 (by omega) (by omega)
 ·rcases this with ⟨y,z⟩|⟨j,_,y,⟨H,I⟩,_,z⟩
  ·refine⟨none,.no ?_,z⟩;rw[dn];exact λi u e=>y i (BB _) u ⟨u,e⟩
  ·exact⟨some j,.at_ j H I,z⟩
 ·intro rec i u;simp only[Q42.s0];rw[decide_eq_true (by omega:(i:Int)<(AT t:Int)),ai u,au i (by omega)];simp only[cond_true,AU];by_cases h:t[i].1=r
  ·right;refine⟨⟨u,h⟩,?_⟩;have:(t[i].1==r)=true:=by simpa using h
   rw[this];rfl
  ·left;refine⟨λ⟨_,y⟩=>h y,?_⟩;have:(t[i].1==r)=false:=by simpa using h
   rw[this];rfl
 ·intro rec;simp only[Q42.s0];rw[decide_eq_false (by omega:¬ ((t.length:Int)<(AT t:Int)))];rfl
def eX (a b:Int):Int:=if a<b then -1 else if a>b then 1 else 0
theorem nm (K:Nat)(a b:Int):Q134.f K (a,b,())=some ((eX a b,()),()):=by
 have y:∀ x:Int,Q133.f K (x,())=rb false:=λx=>by simp[Q133.f]
 simp only[Q134.f,y,AU,cond_false,eX];by_cases u:a<b
 ·rw[decide_eq_true u,if_pos u];rfl
 ·rw[decide_eq_false u,if_neg u];by_cases r:a>b
  ·rw[decide_eq_true r,if_pos r];rfl
  ·rw[decide_eq_false r,if_neg r];rfl
theorem jT (a b:Int):eX a b<0<->a<b:=by
 unfold eX;by_cases r:a<b
 ·simp[r]
 ·by_cases u:a>b <;> simp[r,u]
theorem uj (a b:Int):eX a b>0<->a>b:=by
 unfold eX;by_cases r:a<b
 ·simp[r];omega
 ·by_cases u:a>b <;> simp[r,u]
theorem dp (a b:Int):eX a b=0<->a=b:=by
 unfold eX;by_cases r:a<b
 ·simp[r];omega
 ·by_cases u:a>b <;> simp[r,u] <;> omega
structure Cut (t:List af) (node:Int) (m:Nat):Prop where
 le:m<=t.length
 lo:∀ i,(h:i<t.length)->i<m->t[i].1<node
 hi:∀ i,(h:i<t.length)->m<=i->node<=t[i].1
theorem z9 (K:Nat)(t:List af)(r:Int)(ht:t.length<=1048576)(I:Asc (λf:af=>f.1) t)(hK:1048577<K) :
  ∃ m,Cut t r m/\Q136.f K (t,r,())=some ((((m:Nat):Int),decide (∃ h:m<t.length,t[m].1=r),()),()):=by
 let ks:Nat->Int:=λi=>if h:i<t.length then t[i].1 else 0
 have u:∀ i (h:i<t.length),ks i=t[i].1:=λi h=>by simp[ks,h]
 let H:Nat->Option ((Int×Bool×Unit)×Unit):=λm=>some ((((m:Nat):Int),decide (∃ h:m<t.length,t[m].1=r),()),())
 have X:∀ f:af,((Q135.f K (f,r,())).map λy=>y.1.1)=some (eX f.1 r):=λf=>by
  simp only[Q135.f];rw[nm];rfl
 have:=z8 (step:=λrec a=>Q132.s0 K (t,r,(λJ=>(Q135.f K (J.1,J.2.1,())).map λy=>y.1.1),()) rec a) (ks:=ks) (n:=t.length) (t:=r) H ht
  (λi j R Y=>by
   rw[u i (by omega),u j Y];exact eA.1 I i j (by omega) Y R) ?_ ?_ t.length K 0 t.length (by omega) (BB _) (BN _) (by omega) (λi M=>by omega) (λi M hn=>by omega)
 ·obtain⟨m,z,O,h3,h4⟩:=this;refine⟨m,⟨z,λi h M=>by rw[<- u i h];exact O i M,λi h M=>by rw[<- u i h];exact h3 i M h⟩,?_⟩;simp only[Q136.f];have e:Q132.f K (t,r,(λJ=>(Q135.f K (J.1,J.2.1,())).map λy=>y.1.1),())=H m:=h4;rw[e];rfl
 ·intro rec a b a0 hb;have Z:(a+b) / 2<t.length:=by omega
  simp only[Q132.s0];rw[decide_eq_true (by omega:(a:Int)<(b:Int)),za (by omega)];simp only[cond_true];rw[ai Z];simp only[AU,X];rw[u _ Z,au _ (by omega)];by_cases h:t[(a+b) / 2].1<r
  ·rw[if_pos h,decide_eq_true ((jT _ _).2 h)];rfl
  ·rw[if_neg h,decide_eq_false (λz=>h ((jT _ _).1 z))];rfl
 ·intro rec a ha;simp only[Q132.s0];rw[decide_eq_false (by omega)];simp only[cond_false];by_cases h:a<t.length
  ·rw[decide_eq_true (by omega:(a:Int)<(AT t:Int)),ai h];simp only[cond_true,AU,X,H];congr 3;by_cases z:t[a].1=r
   ·have:(eX t[a].1 r==0)=true:=by simpa using (dp t[a].1 r).2 z
    rw[this,decide_eq_true ⟨h,z⟩]
   ·have:(eX t[a].1 r==0)=false:=by
     rw[beq_eq_false_iff_ne];exact λe=>z ((dp _ _).1 e)
    rw[this,decide_eq_false (λ⟨_,O⟩=>z O)]
  ·rw[decide_eq_false (by omega)];simp only[cond_false,H];rw[decide_eq_false (λ⟨z,_⟩=>h z)]
def ao (n:Int):Int:=wr .i64 (Int.tdiv n 4)
theorem cL (K:Nat)(n:Int):Q39.f K (n,())=some ((ao n,()),()):=rfl
theorem pa (K:Nat)(n:Int):Q140.f K (n,())=some ((ao n,()),()):=rfl
theorem p7 (K:Nat)(n:aa):Q143.f K (n,())=some ((ao n.1,()),()):=rfl
abbrev aa.table (n:aa):List af:=n.2.2.2.2.2.2.2.2.1
abbrev aa.cast (n:aa):List aV:=n.2.2.2.2.2.2.2.2.2.1
abbrev aa.probe (n:aa):af:=n.2.2.2.2.2.2.2.2.2.2.1
abbrev aa.doubts (n:aa):List ca:=n.2.2.2.2.2.2.2.2.2.2.2.1
abbrev aa.coord (n:aa):dh:=n.2.2.2.2.2.2.2.2.2.2.2.2.1
abbrev aa.places (n:aa):List dv:=n.2.2.2.2.2.2.2.2.2.2.2.2.2.1
abbrev aa.others (n:aa):List cj:=n.2.2.2.2.2.2.2.2.2.2.2.2.2.2
structure NB (n:aa):Prop where
 table:(aa.table n).length<=1048576
 cast:(aa.cast n).length<=1048576
 doubts:(aa.doubts n).length<=1048576
 by_:∀ d∈aa.doubts n,d.2.2.2.length<=1048576
 places:(aa.places n).length<=1048576
 trips:∀ p∈aa.places n,p.2.2.length<=1048576
 others:(aa.others n).length<=1048576
 facts:∀ x∈aa.others n,x.2.length<=1048576
def bS (t:List af)(s:Int):Prop:=∀ f∈t,ao f.1=s
theorem eM (K:Nat)(t:List af)(s:Int)(y:t.length<=1048576)(u:1048577<K):Ret (Q28.f K (t,s,())) (bS t s):=by
 refine (fY t (step:=λrec a=>Q28.s0 K (t,s,()) rec a) (λi r=>¬ ao t[i].1≠s) y ?_ ?_ u (λ_=>Ret.yes trivial)).iff (eG.trans ?_)
 ·intro rec i r;simp only[Q28.s0];rw[decide_eq_true (by omega:(i:Int)<(AT t:Int))];exact Rnd.ix (ai r) ((Rnd.cndN (P:=ao t[i].1≠s) (by simp[ao]) (λ_=>Rnd.end_)).iff (by simp))
 ·intro rec;simp only[Q28.s0];rw[decide_eq_false (by omega:¬ ((t.length:Int)<(AT t:Int)))];rfl
 ·rw[bS,dn];exact⟨λh i r=>AW.1 (h i r),λh i r=>AW.2 (h i r)⟩
theorem wn (K:Nat)(t:List af)(y:af×Unit->Option Bool)(p:af->Prop)(X:t.length<=1048576)(R:1048577<K)(hφ:∀ f∈t,∃ b,y (f,())=some b/\(b=true<->p f)) :
  Ret (Q139.f K (t,y,())) (∃ f∈t,p f):=by
 have:=cG (step:=λrec a=>Q138.s0 K (t,y,()) rec a) t.length (λi=>(i:Int)) (λj=>∃ h:j<t.length,p t[j]) (some ((-1,()),())) (λj=>some ((((j:Nat):Int),()),())) ?_ ?_ t.length K 0 (by omega) (by omega)
 ·simp only[Q139.f];rcases this with ⟨z,r⟩|⟨j,_,z,⟨H,I⟩,_,r⟩
  ·have e:Q138.f K (t,y,())=some ((-1,()),()):=r;rw[e];refine Ret.of ?_;simp only[ge_iff_le,decide_eq_true_eq];refine⟨λh=>absurd h (by decide),λ⟨f,M,J⟩=>?_⟩;obtain⟨i,u,O⟩:=AZ M;exact absurd ⟨u,O ▸ J⟩ (z i (BB _) u)
  ·have e:Q138.f K (t,y,())=some ((((j:Nat):Int),()),()):=r;rw[e];refine Ret.of ?_;simp only[ge_iff_le,decide_eq_true_eq];exact⟨λ_=>⟨t[j],AV H,I⟩,λ_=>BC j⟩
 ·intro rec i u;simp only[Q138.s0];rw[decide_eq_true (by omega:(i:Int)<(AT t:Int)),ai u,au i (by omega)];simp only[cond_true,AU];obtain⟨b,z,r⟩:=hφ t[i] (AV u);rw[z];simp only[AU];cases b with
  |true=>exact .inr ⟨⟨u,r.1 rfl⟩,rfl⟩
  |false=>exact .inl ⟨λ⟨_,h⟩=>by simpa using r.2 h,rfl⟩
 ·intro rec;simp only[Q138.s0];rw[decide_eq_false (by omega:¬ ((t.length:Int)<(AT t:Int)))];rfl
theorem qB (K:Nat)(t:List aV)(y:aV×Unit->Option Bool)(p:aV->Prop)(X:t.length<=1048576)(R:1048577<K)(hφ:∀ f∈t,∃ b,y (f,())=some b/\(b=true<->p f)) :
  Ret (Q145.f K (t,y,())) (∃ f∈t,p f):=by
 have:=cG (step:=λrec a=>Q144.s0 K (t,y,()) rec a) t.length (λi=>(i:Int)) (λj=>∃ h:j<t.length,p t[j]) (some ((-1,()),())) (λj=>some ((((j:Nat):Int),()),())) ?_ ?_ t.length K 0 (by omega) (by omega)
 ·simp only[Q145.f];rcases this with ⟨z,r⟩|⟨j,_,z,⟨H,I⟩,_,r⟩
  ·have e:Q144.f K (t,y,())=some ((-1,()),()):=r;rw[e];refine Ret.of ?_;simp only[ge_iff_le,decide_eq_true_eq];refine⟨λh=>absurd h (by decide),λ⟨f,M,J⟩=>?_⟩;obtain⟨i,u,O⟩:=AZ M;exact absurd ⟨u,O ▸ J⟩ (z i (BB _) u)
  ·have e:Q144.f K (t,y,())=some ((((j:Nat):Int),()),()):=r;rw[e];refine Ret.of ?_;simp only[ge_iff_le,decide_eq_true_eq];exact⟨λ_=>⟨t[j],AV H,I⟩,λ_=>BC j⟩
 ·intro rec i u;simp only[Q144.s0];rw[decide_eq_true (by omega:(i:Int)<(AT t:Int)),ai u,au i (by omega)];simp only[cond_true,AU];obtain⟨b,z,r⟩:=hφ t[i] (AV u);rw[z];simp only[AU];cases b with
  |true=>exact .inr ⟨⟨u,r.1 rfl⟩,rfl⟩
  |false=>exact .inl ⟨λ⟨_,h⟩=>by simpa using r.2 h,rfl⟩
 ·intro rec;simp only[Q144.s0];rw[decide_eq_false (by omega:¬ ((t.length:Int)<(AT t:Int)))];rfl
theorem xH (K:Nat)(t:List Int)(y:Int×Unit->Option Bool)(p:Int->Prop)(X:t.length<=1048576)(R:1048577<K)(hφ:∀ f∈t,∃ b,y (f,())=some b/\(b=true<->p f)) :
  Ret (Q161.f K (t,y,())) (∃ f∈t,p f):=by
 have:=cG (step:=λrec a=>Q160.s0 K (t,y,()) rec a) t.length (λi=>(i:Int)) (λj=>∃ h:j<t.length,p t[j]) (some ((-1,()),())) (λj=>some ((((j:Nat):Int),()),())) ?_ ?_ t.length K 0 (by omega) (by omega)
 ·simp only[Q161.f];rcases this with ⟨z,r⟩|⟨j,_,z,⟨H,I⟩,_,r⟩
  ·have e:Q160.f K (t,y,())=some ((-1,()),()):=r;rw[e];refine Ret.of ?_;simp only[ge_iff_le,decide_eq_true_eq];refine⟨λh=>absurd h (by decide),λ⟨f,M,J⟩=>?_⟩;obtain⟨i,u,O⟩:=AZ M;exact absurd ⟨u,O ▸ J⟩ (z i (BB _) u)
  ·have e:Q160.f K (t,y,())=some ((((j:Nat):Int),()),()):=r;rw[e];refine Ret.of ?_;simp only[ge_iff_le,decide_eq_true_eq];exact⟨λ_=>⟨t[j],AV H,I⟩,λ_=>BC j⟩
 ·intro rec i u;simp only[Q160.s0];rw[decide_eq_true (by omega:(i:Int)<(AT t:Int)),ai u,au i (by omega)];simp only[cond_true,AU];obtain⟨b,z,r⟩:=hφ t[i] (AV u);rw[z];simp only[AU];cases b with
  |true=>exact .inr ⟨⟨u,r.1 rfl⟩,rfl⟩
  |false=>exact .inl ⟨λ⟨_,h⟩=>by simpa using r.2 h,rfl⟩
 ·intro rec;simp only[Q160.s0];rw[decide_eq_false (by omega:¬ ((t.length:Int)<(AT t:Int)))];rfl
theorem Ret.fn {o:Option RB}{P:Prop}(h:Ret o P):∃ b,(o.map λy=>y.1.1)=some b/\(b=true<->P):=by
 obtain⟨b,u,r⟩:=h;exact⟨b,by rw[u];rfl,r⟩
theorem gV (K:Nat)(t:List af)(s:Int)(I:t.length<=1048576)(H:1048577<K):Ret (Q142.f K (t,s,())) (bS t s):=by
 refine (Ret.neg (wn K t (λz=>(Q141.f K (z.1,s,())).map λy=>y.1.1) (λf=>ao f.1≠s) I H (λf _=>?_))).iff ?_
 ·exact⟨_,rfl,by simp[ao]⟩
 ·exact⟨λh f r=>AW.1 λu=>h ⟨f,r,u⟩,λh ⟨f,r,u⟩=>u (h f r)⟩
theorem mw (K:Nat)(t:List af)(r:Int)(O:t.length<=1048576)(I:1048577<K) :
  (¬ aA t/\Q137.f K (t,r,())=some (((0,(0,(0,false))),false,()),())) \/
  (aA t/\((∃ f∈t,f.1=r/\Q137.f K (t,r,())=some ((f,true,()),()))\/((∀ f∈t,f.1≠r)/\Q137.f K (t,r,())=some (((0,(0,(0,false))),false,()),())))):=by
 simp only[Q137.f];obtain⟨b,X,H⟩:=jg K t O I;rw[X];simp only[AU];cases b with
 |false=>exact .inl ⟨λh=>by simpa using H.2 h,rfl⟩
 |true =>
  have y:=H.1 rfl;obtain⟨m,M,R⟩:=z9 K t r O y.2 I;refine .inr ⟨y,?_⟩;simp only[AX,cond_false,R,AU];by_cases h:∃ h:m<t.length,t[m].1=r
  ·rw[decide_eq_true h];obtain⟨u,J⟩:=h;left;refine⟨t[m],AV u,J,?_⟩;simp only[AX,cond_false];rw[ai u];rfl
  ·rw[decide_eq_false h];right;refine⟨?_,rfl⟩;rw[dn];intro i z e;rcases Nat.lt_trichotomy i m with u|u|u
   ·have:=M.lo i z u;omega
   ·subst u;exact h ⟨z,e⟩
   ·have J:=M.hi m (by omega) (BN _);have Y:=eA.1 y.2 m i (by omega) z u;omega
def bE (f g:af):Prop:=if f.2.1≠g.2.1 then f.2.1>g.2.1 else if f.2.2.1≠g.2.2.1 then f.2.2.1>g.2.2.1 else f.2.2.2=true/\g.2.2.2=false
theorem sl (K:Nat)(f g:af):Ret (Q43.f K (f,g,())) (bE f g):=by
 simp only[Q43.f,bE];by_cases u:f.2.1=g.2.1
 ·have e:(f.2.1 != g.2.1)=false:=by simpa using u
  rw[e,if_neg (by simpa using u)];by_cases r:f.2.2.1=g.2.2.1
  ·have e:(f.2.2.1 != g.2.2.1)=false:=by simpa using r
   rw[e,if_neg (by simpa using r)];exact (Ret.cnd (b:=f.2.2.2) Iff.rfl (λ_=>Ret.of (b:=!g.2.2.2) (by simp))).iff Iff.rfl
  ·have e:(f.2.2.1 != g.2.2.1)=true:=by simpa using r
   rw[e,if_pos r];exact Ret.dec
 ·have e:(f.2.1 != g.2.1)=true:=by simpa using u
  rw[e,if_pos u];exact Ret.dec
def orI:List Int->Int
 |[]=>0
 |x::r=>if x≠0 then x else orI r
theorem Aa (K:Nat)(xs:List Int)(M:xs.length<=1048576)(J:1048577<K):Q149.f K (xs,())=some ((orI xs,()),()):=by
 have y:∀ (d k i:Nat),i+d=xs.length->d<k->ae (λrec a=>Q149.s0 K (xs,()) rec a) k (i:Int)=some ((orI (xs.drop i),()),()):=by
  intro d;induction d with
  |zero =>
   intro k i H I;obtain⟨k,rfl⟩:∃ z,k=z+1:=⟨k-1,by omega⟩;show Q149.s0 K (xs,()) _ _=_;simp only[Q149.s0];rw[decide_eq_false (by omega:¬ ((i:Int)<(AT xs:Int))),BG (by omega)];rfl
  |succ d u =>
   intro k i H I;obtain⟨k,rfl⟩:∃ z,k=z+1:=⟨k-1,by omega⟩;have u:=u k (i+1) (by omega) (by omega);show Q149.s0 K (xs,()) _ _=_;simp only[Q149.s0];have r:i<xs.length:=by omega
   rw[decide_eq_true (by omega:(i:Int)<(AT xs:Int)),ai r,au i (by omega),BD r];simp only[cond_true,AU,orI];by_cases h:xs[i]=0
   ·have e:(xs[i] != 0)=false:=by simpa using h
    rw[e,if_neg (by simpa using h)];exact u
   ·have e:(xs[i] != 0)=true:=by simpa using h
    rw[e,if_pos h];rfl
 have:=y xs.length K 0 (by omega) (by omega)
 rwa [BP]at this
def oy (f g:af):Int:=orI [eX f.1 g.1,eX f.2.1 g.2.1,eX f.2.2.1 g.2.2.1,if f.2.2.2=true/\g.2.2.2=false then 1 else if g.2.2.2=true/\f.2.2.2=false then -1 else 0]
theorem qC (K:Nat)(f g:af)(H:1048577<K):Q150.f K (f,g,())=some ((oy f g,()),()):=by
 obtain⟨a,b,c,d⟩:=f;obtain⟨y,r,u,I⟩:=g;have h:∀ z:Int,Q149.f K ([eX a y,eX b r,eX c u,z],())=some ((orI [eX a y,eX b r,eX c u,z],()),()):=λz=>Aa K _ (by simp) H
 simp only[Q150.f,oy];cases d <;> cases I <;> simp only[AX,BJ,cond_true,cond_false] <;> rw[nm,AU,nm,AU,nm,AU,h] <;> rfl
theorem iJ {x:Int}(h:x=0)(xs:List Int):orI (x::xs)=orI xs:=by subst h;rfl
theorem li {x:Int}(h:x≠0)(xs:List Int):orI (x::xs)=x:=by simp[orI,h]
theorem wo {f g:af}(e:f.1=g.1):oy f g>0<->bE f g:=by
 unfold oy bE;rw[iJ ((dp f.1 g.1).2 e)];by_cases u:f.2.1=g.2.1
 ·rw[iJ ((dp f.2.1 g.2.1).2 u),if_neg (show ¬ f.2.1≠g.2.1 from λh=>h u)];by_cases r:f.2.2.1=g.2.2.1
  ·rw[iJ ((dp f.2.2.1 g.2.2.1).2 r),if_neg (show ¬ f.2.2.1≠g.2.2.1 from λh=>h r)];cases f.2.2.2 <;> cases g.2.2.2 <;> simp[orI]
  ·rw[li (λh=>r ((dp f.2.2.1 g.2.2.1).1 h)),if_pos (show f.2.2.1≠g.2.2.1 from r)];exact uj _ _
 ·rw[li (λh=>u ((dp f.2.1 g.2.1).1 h)),if_pos (show f.2.1≠g.2.1 from u)];exact uj _ _
theorem uY (K:Nat)(f g:af)(r:1048577<K):Ret (Q151.f K (f,g,())) (bC f/\bC g/\f.1=g.1/\bE f g):=by
 refine Ret.and (ov K f) (λ_=>Ret.and (ov K g) (λ_=>?_) rfl) rfl;refine (Ret.cnd (b:=f.1==g.1) (P:=f.1=g.1) (by simp) (λe=>?_)).iff Iff.rfl;show Ret ((Q150.f K (f,g,())).bind _) _;rw[qC K f g r];refine Ret.of ?_;simp only[gt_iff_lt,decide_eq_true_eq];exact wo e
theorem bO {n:Nat}{m:Int}(h:(n:Int)<m):decide ((n:Int)<m)=true:=decide_eq_true h
theorem bf (n:Nat):decide ((n:Int)<(n:Int))=false:=decide_eq_false (by omega)
def cX (l:List aV):Prop:=(∀ x∈l,bC x.1/\InP x.2 1 4)/\Asc (λx:aV=>x.1.1) l
theorem xI (K:Nat)(l:List aV)(y:l.length<=1048576)(z:1048577<K):Ret (Q179.f K (l,())) (cX l):=by
 refine (fY l (step:=λrec a=>Q179.s0 K (l,()) rec a) (λi r=>bC l[i].1/\InP l[i].2 1 4/\(0<i->¬ (l[i-1]'(by omega)).1.1>=l[i].1.1)/\True) y ?_ ?_ z (λ_=>Ret.yes trivial)).iff (eG.trans ?_)
 ·intro rec i r;simp only[Q179.s0];rw[decide_eq_true (by omega:(i:Int)<(AT l:Int))];simp only[cond_true];refine Rnd.ix (ai r) (Rnd.nx (ox K _) λ_=>Rnd.ix (ai r) (Rnd.nx (cm K _ 1 4) λ_=>Rnd.two (λu=>?_) Rnd.end_));rw[ez i u (by omega)];exact Rnd.ix (ai (by omega)) (Rnd.ix (ai r) (Rnd.cndN (by simp) λ_=>Rnd.end_))
 ·intro rec;simp only[Q179.s0,bf];rfl
 ·rw[cX,dn,gx];constructor
  ·intro h;exact⟨λi r=>⟨(h i r).1,(h i r).2.1⟩,λi r u=>by have:=(h i r).2.2.1 u;omega⟩
  ·rintro⟨h1,h2⟩ i r;exact⟨(h1 i r).1,(h1 i r).2,λu=>by have:=h2 i r u;omega,trivial⟩
theorem zb (K:Nat)(l:List aV)(O:l.length<=1048576)(M:1048577<K):Q147.f K (l,())=some ((l.map (·.1),()),()):=by
 have y:∀ (d k i:Nat),i+d=l.length->d<k->ae (λrec a=>Q147.s0 K (l,()) rec a) k ((l.take i).map (·.1),(i:Int))=some ((l.map (·.1),()),()):=by
  intro d;induction d with
  |zero =>
   intro k i I J;obtain⟨k,rfl⟩:∃ z,k=z+1:=⟨k-1,by omega⟩;show Q147.s0 K (l,()) _ _=_;simp only[Q147.s0];rw[decide_eq_false (by omega:¬ ((i:Int)<(AT l:Int))),BH (by omega)];rfl
  |succ d u =>
   intro k i I J;obtain⟨k,rfl⟩:∃ z,k=z+1:=⟨k-1,by omega⟩;have u:=u k (i+1) (by omega) (by omega);show Q147.s0 K (l,()) _ _=_;have r:i<l.length:=by omega
   simp only[Q147.s0];rw[decide_eq_true (by omega:(i:Int)<(AT l:Int)),ai r,au i (by omega)];simp only[cond_true,AU];have H:decide ((AT (List.map (λx:aV=>x.1) (List.take i l))+AT [l[i].1])*32<=ak)=true:=decide_eq_true (by simp only[ak,List.length_map,List.length_take,BI];omega);rw[H];have e:(List.take i l).map (λx:aV=>x.1)++[l[i].1]=(l.take (i+1)).map (·.1):=by
    rw[BL,AY r,List.map_append];rfl
   rw[e];exact u
 have:=y l.length K 0 (by omega) (by omega);exact this
theorem uZ {l:List aV}:aA (l.map (·.1))<->(∀ x∈l,bC x.1)/\Asc (λx:aV=>x.1.1) l:=by
 unfold aA Asc;rw[BE];simp
theorem wq (K:Nat)(x:aV):Ret (Q146.f K (x,())) (¬ InP x.2 1 4):=by
 simp only[Q146.f];exact (eo K x.2 1 4).neg
theorem xJ (K:Nat)(l:List aV)(u:l.length<=1048576)(z:1048577<K):Ret (Q145.f K (l,(λr=>(Q146.f K (r.1,())).map λy=>y.1.1),())) (∃ x∈l,¬ InP x.2 1 4) :=
 qB K l _ (λx=>¬ InP x.2 1 4) u z (λx _=>Ret.fn (wq K x))
theorem xK (K:Nat)(l:List aV)(u:l.length<=1048576)(y:1048577<K):Ret (Q148.f K (l,())) (cX l):=by
 simp only[Q148.f];obtain⟨z,O,J⟩:=xJ K l u y;obtain⟨H,I,M⟩:=jg K (l.map (·.1)) (by simpa using u) y;rw[zb K l u y,AU,I,AU,O,AU];have e:cX l<->(H=true/\z=false):=by
  rw[M,uZ,cX,<- Bool.not_eq_true,J];constructor
  ·rintro⟨h5,h6⟩;exact⟨⟨λx r=>(h5 x r).1,h6⟩,λ⟨x,r,h⟩=>h (h5 x r).2⟩
  ·rintro⟨⟨h5,h6⟩,h7⟩;exact⟨λx r=>⟨h5 x r,AW.1 λh=>h7 ⟨x,r,h⟩⟩,h6⟩
 refine Ret.iff ?_ e.symm;cases H <;> cases z <;> exact⟨_,rfl,by simp⟩
def gG (t:List af)(l:List aV):Prop:=∀ x∈l,∃ f∈t,f.1=x.1.1/\¬ bE x.1 f
theorem gW {t:List af}(h:Asc (λf:af=>f.1) t){f g:af}(r:f∈t)(u:g∈t)(e:f.1=g.1):f=g:=by
 obtain⟨i,y,rfl⟩:=AZ r;obtain⟨j,z,rfl⟩:=AZ u;have:=sj h y z e;subst this;rfl
theorem tN (K:Nat)(n:aa)(r:NB n)(M:aA (aa.table n))(u:1048577<K):Ret (Q180.f K (n,())) (cX (aa.cast n)/\gG (aa.table n) (aa.cast n)):=by
 refine Ret.nx (xI K _ r.cast u) λ_=>?_
 refine (fY (aa.cast n) (step:=λrec a=>Q180.s0 K (n,()) rec a) (λi H=>∃ f∈aa.table n,f.1=(aa.cast n)[i].1.1/\¬ bE (aa.cast n)[i].1 f) r.cast ?_ ?_ u (λ_=>Ret.yes trivial)).iff (eG.trans ?_)
 ·intro rec i H;simp only[Q180.s0];rw[decide_eq_true (by omega:(i:Int)<(AT (aa.cast n):Int))];simp only[cond_true];refine Rnd.ix (ai H) ?_;obtain⟨o,I,J⟩:=eW K (aa.table n) (aa.cast n)[i].1.1 r.table u;refine Rnd.vl J ?_;cases I with
  |no h =>
   rw[show decide ((-1:Int)<0)=true from rfl];exact .inr ⟨λ⟨f,z,e,_⟩=>h f z e,rfl⟩
  |at_ j y e =>
   simp only;rw[decide_eq_false (by omega:¬ ((j:Int)<0))];refine (Rnd.ix (ai H) (Rnd.ix (ai y) (Rnd.fx (sl K _ _) λ_=>Rnd.end_))).iff ⟨λh=>⟨_,AV y,e,h.1⟩,λ⟨f,z,O,h⟩=>⟨?_,trivial⟩⟩;have:=gW M.2 z (AV y) (O.trans e.symm)
   rwa [<- this]
 ·intro rec;simp only[Q180.s0,bf];rfl
 ·rw[gG,dn]
theorem xL (K:Nat)(n:aa)(O:NB n)(M:aA (aa.table n))(hC:cX (aa.cast n))(I:1048577<K) :
  Ret ((Q145.f K (aa.cast n,(λX=>(Q152.f K (X.1,n,())).map λy=>y.1.1),())).bind λR=>some ((!R.1.1,()),())) (gG (aa.table n) (aa.cast n)):=by
 refine (Ret.neg (qB K _ _ (λx=>¬ ∃ f∈aa.table n,f.1=x.1.1/\¬ bE x.1 f) O.cast I (λx z=>Ret.fn ?_))).iff ?_
 ·simp only[Q152.f];rcases mw K (aa.table n) x.1.1 O.table I with ⟨u,_⟩|⟨_,⟨f,H,e,u⟩|⟨r,u⟩⟩
  ·exact absurd M u
  ·refine Ret.vl u ?_;refine (uY K x.1 f I).id.iff ⟨λh ⟨g,Y,Z,J⟩=>?_,λh=>?_⟩
   ·have:=gW M.2 Y H (Z.trans e.symm);exact J (this ▸ h.2.2.2)
   ·refine⟨(hC.1 x z).1,M.1 f H,e.symm,AW.1 λJ=>h ⟨f,H,e,J⟩⟩
  ·refine Ret.vl u ?_;exact Ret.yes (λ⟨f,H,e,_⟩=>r f H e)
 ·exact⟨λh x z=>AW.1 λr=>h ⟨x,z,r⟩,λh ⟨x,z,r⟩=>r (h x z)⟩
def cR (n:aa):Prop:=((n.1,n.2.2.2.2.1,(if n.2.2.1=true then 4 else 1),n.2.2.2.1):af)∈aa.table n
theorem Ab (K:Nat)(n:aa)(y:NB n)(M:aA (aa.table n))(H:1048577<K):Ret (Q178.f K (n,())) (cR n):=by
 simp only[Q178.f];obtain⟨o,I,J⟩:=eW K (aa.table n) n.1 y.table H;refine Ret.vl J ?_;cases I with
 |no h =>
  rw[show decide ((-1:Int)<0)=true from rfl];exact Ret.no (λz=>h _ z rfl)
 |at_ j u e =>
  simp only;rw[decide_eq_false (by omega:¬ ((j:Int)<0))];refine Ret.vl (ai u) ?_;have r:cR n<->(aa.table n)[j]=((n.1,n.2.2.2.2.1,(if n.2.2.1=true then 4 else 1),n.2.2.2.1):af):=by
   constructor
   ·intro h;exact gW M.2 (AV u) h e
   ·intro h;show _∈_;rw[<- h];exact AV u
  have O:(aa.table n)[j]=((n.1,n.2.2.2.2.1,(if n.2.2.1=true then 4 else 1),n.2.2.2.1):af)<->((aa.table n)[j].2.1=n.2.2.2.2.1/\(aa.table n)[j].2.2.1=(if n.2.2.1=true then 4 else 1)/\(aa.table n)[j].2.2.2=n.2.2.2.1):=by
   generalize (aa.table n)[j]=f at e ⊢;obtain⟨a,b,c,d⟩:=f;simp at e ⊢;intro _ _ _;exact e
  refine Ret.iff ?_ (r.trans O).symm;cases R:n.2.2.1 with
  |true=>exact Ret.cnd (by simp) λ_=>Ret.cnd (by simp) λ_=>Ret.of (by simp)
  |false=>exact Ret.cnd (by simp) λ_=>Ret.cnd (by simp) λ_=>Ret.of (by simp)
theorem lj (f g:af):Ty.eqv ty_impl_Fact_D f g=decide (f=g):=by
 obtain⟨a,b,c,d⟩:=f;obtain⟨z,u,y,r⟩:=g;show (decide (a=z)&&(decide (b=u)&&(decide (c=y)&&(d==r))))=_;cases d <;> cases r <;> simp[BK]
theorem Ac (f g:dh):Ty.eqv ty_impl_Coord_D f g=decide (f=g):=by
 obtain⟨a,b,c,d⟩:=f;obtain⟨y,r,u,z⟩:=g;show (decide (a=y)&&(decide (b=r)&&(decide (c=u)&&decide (d=z))))=_;simp[BK]
theorem p8 (K:Nat)(n:aa)(I:NB n)(J:1048577<K):Ret (Q153.f K (n,()))
  (aA (aa.table n)/\bS (aa.table n) (ao n.1)/\cR n/\cX (aa.cast n)/\gG (aa.table n) (aa.cast n)):=by
 have u:∀ (w:Int),aA (aa.table n)->Ret ((Q143.f K (n,())).bind λy2=>(Q142.f K (aa.table n,y2.1.1,())).bind λO=>bif !O.1.1 then rb false else
   ((Q148.f K (aa.cast n,())).bind λZ=>bif !Z.1.1 then rb false else
    ((Q145.f K (aa.cast n,(λY=>(Q152.f K (Y.1,n,())).map λy=>y.1.1),())).bind λX=>some ((!X.1.1,()),()))))
   (bS (aa.table n) (ao n.1)/\cX (aa.cast n)/\gG (aa.table n) (aa.cast n)):=by
  intro _ H;exact Ret.vl (p7 K n) (Ret.nx (gV K _ _ I.table J) λ_=>Ret.nx (xK K _ I.cast J) λhC=>xL K n I H hC J)
 have r:∀ (w:Int),w=(if n.2.2.1=true then 4 else 1)->Ret ((Q137.f K (aa.table n,n.1,())).bind λy1=>bif !y1.1.2.1 then rb false else bif !Ty.eqv ty_impl_Fact_D y1.1.1 (n.1,(n.2.2.2.2.1,(w,n.2.2.2.1))) then rb false else
   ((Q143.f K (n,())).bind λy2=>(Q142.f K (aa.table n,y2.1.1,())).bind λO=>bif !O.1.1 then rb false else
   ((Q148.f K (aa.cast n,())).bind λZ=>bif !Z.1.1 then rb false else
    ((Q145.f K (aa.cast n,(λY=>(Q152.f K (Y.1,n,())).map λy=>y.1.1),())).bind λX=>some ((!X.1.1,()),())))))
   (aA (aa.table n)/\bS (aa.table n) (ao n.1)/\cR n/\cX (aa.cast n)/\gG (aa.table n) (aa.cast n)):=by
  intro w hw;rcases mw K (aa.table n) n.1 I.table J with ⟨z,R⟩|⟨H,⟨f,hf,e,z⟩|⟨R,z⟩⟩
  ·exact Ret.vl R (Ret.no (λh=>z h.1))
  ·refine Ret.vl z ?_;simp only[AX,cond_false];rw[lj];by_cases M:f=(n.1,(n.2.2.2.2.1,(w,n.2.2.2.1)))
   ·rw[decide_eq_true M];have hS:cR n:=by
     show _∈_;rw[<- hw,<- M];exact hf
    exact (u w H).iff ⟨λh=>⟨H,h.1,hS,h.2.1,h.2.2⟩,λh=>⟨h.2.1,h.2.2.2⟩⟩
   ·rw[decide_eq_false M];refine Ret.no (λh=>M ?_);have:=gW H.2 hf h.2.2.1 e;rw[this,hw]
  ·refine Ret.vl z (Ret.no (λh=>R _ h.2.2.1 rfl))
 simp only[Q153.f];cases hg:n.2.2.1 with
 |true=>exact r 4 (by rw[hg];rfl)
 |false=>exact r 1 (by rw[hg];rfl)
def cM (n:aa):Prop:=if (aa.probe n).1=-1 then aa.probe n=(-1,0,0,false) else
 (aa.probe n).1≠n.1/\(∃ f∈aa.table n,f.1=(aa.probe n).1)/\InP (aa.probe n).2.1 0 n.2.2.2.2.2.1/\InP (aa.probe n).2.2.1 1 n.2.2.2.2.2.2.1
theorem zc (K:Nat)(n:aa)(y:NB n)(z:1048577<K):Ret (Q181.f K (n,())) (cM n):=by
 simp only[Q181.f,cM];by_cases h:(aa.probe n).1=-1
 ·rw[if_pos h,show ((aa.probe n).1==-1)=true by simpa using h];refine (Ret.cnd (P:=(aa.probe n).2.1=0) (by simp) λ_=>Ret.cnd (P:=(aa.probe n).2.2.1=0) (by simp) λ_=>Ret.of (P:=(aa.probe n).2.2.2=false) (by simp)).iff ?_;generalize aa.probe n=p at h ⊢;obtain⟨a,b,c,d⟩:=p;simp at h ⊢;intro _ _ _;exact h
 ·rw[if_neg h,show ((aa.probe n).1==-1)=false by simpa using h];refine Ret.cnd (by simp) λ_=>?_
  obtain⟨o,H,I⟩:=eW K (aa.table n) (aa.probe n).1 y.table z;refine Ret.vl I ?_;cases H with
  |no u=>exact Ret.no (λ⟨⟨f,M,e⟩,_⟩=>u f M e)
  |at_ j J e =>
   simp only;rw[show decide ((j:Int)>=0)=true from decide_eq_true (by omega)];exact (Ret.px (cm K _ _ _) λ_=>(cm K _ _ _).id).iff ⟨λr=>⟨⟨_,AV J,e⟩,r⟩,λr=>r.2⟩
theorem zd (K:Nat)(n:aa)(H:NB n)(J:aA (aa.table n))(I:1048577<K):Ret (Q154.f K (n,())) (cM n):=by
 simp only[Q154.f,cM];by_cases h:(aa.probe n).1=-1
 ·rw[if_pos h,show ((aa.probe n).1==-1)=true by simpa using h,lj];exact Ret.dec
 ·rw[if_neg h,show ((aa.probe n).1==-1)=false by simpa using h];rcases mw K (aa.table n) (aa.probe n).1 H.table I with ⟨u,_⟩|⟨_,⟨f,y,e,u⟩|⟨z,u⟩⟩
  ·exact absurd J u
  ·refine Ret.vl u ?_;exact (Ret.cnd (P:=(aa.probe n).1≠n.1) (by simp) λ_=>Ret.px (eo K _ _ _) λ_=>(eo K _ _ _).id).iff ⟨λr=>⟨r.1,⟨f,y,e⟩,r.2⟩,λr=>⟨r.1,r.2.2⟩⟩
  ·exact Ret.vl u (Ret.no (λ⟨_,⟨f,y,e⟩,_⟩=>z f y e))
def cn (c:dh):Prop:=InP c.1 (-100000) 100000/\InP c.2.1 (-100000) 100000/\InP c.2.2.1 0 100000/\InP c.2.2.2 1 1500
theorem ig (K:Nat)(c:dh):Ret (Q29.f K (c,())) (cn c) :=
 Ret.px (cm K _ _ _) λ_=>Ret.px (cm K _ _ _) λ_=>Ret.px (cm K _ _ _) λ_=>(cm K _ _ _).id
theorem nn (K:Nat)(c:dh):Ret (Q157.f K (c,())) (cn c) :=
 Ret.px (eo K _ _ _) λ_=>Ret.px (eo K _ _ _) λ_=>Ret.px (eo K _ _ _) λ_=>(eo K _ _ _).id
def Ad (r:Int)(p:dv):Prop:=InP p.1 0 7/\ao p.1=ao r/\p.1≠r/\cn p.2.1/\InP (p.2.2.length:Int) 1 3/\∀ t∈p.2.2,InP t 1 60000
def dZ (r:Int)(l:List dv):Prop:=(∀ p∈l,Ad r p)/\Asc (λp:dv=>p.1) l
theorem sm (K:Nat)(n:aa)(x:Int):Ret (Q155.f K (n,x,())) (InP x 0 7/\ao x=ao n.1):=by
 refine Ret.px (iI K x) λ_=>?_
 exact Ret.of (b:=ao x==ao n.1) (by simp)
theorem ze (K:Nat)(n:aa)(x:Int):Ret (Q159.f K (n,x,())) ((InP x 0 7/\ao x=ao n.1)/\x≠n.1):=by
 refine Ret.px (sm K n x) λ_=>?_
 exact Ret.of (b:=x != n.1) (by simp)
theorem xM (K:Nat)(n:aa)(I:NB n)(Z:1048577<K):Ret (Q183.f K (n,())) (dZ n.1 (aa.places n)):=by
 refine (fY (aa.places n) (step:=λrec a=>Q183.s0 K (n,()) (Q183.l1 K (n,()) rec) rec a)
  (λi y=>InP (aa.places n)[i].1 0 7/\¬ ao (aa.places n)[i].1≠ao n.1/\¬ (aa.places n)[i].1=n.1/\(0<i->¬ ((aa.places n)[i-1]'(by omega)).1>=(aa.places n)[i].1) /\
   cn (aa.places n)[i].2.1/\InP ((aa.places n)[i].2.2.length:Int) 1 3/\∀ k (z:k<(aa.places n)[i].2.2.length),InP (aa.places n)[i].2.2[k] 1 60000/\True) I.places ?_ ?_ Z (λ_=>Ret.yes trivial)).iff (eG.trans ?_)
 ·intro rec i y;have hb:=I.trips _ (AV y);have hl:=I.places;have r:Rnd (Q183.l1 K (n,()) rec ((i:Int),0,(aa.places n)[i].1,(aa.places n)[i].2.1.1,(aa.places n)[i].2.1.2.1,(aa.places n)[i].2.1.2.2.1,(aa.places n)[i].2.1.2.2.2,(aa.places n)[i].2.2))
    (∀ k (z:k<(aa.places n)[i].2.2.length),InP (aa.places n)[i].2.2[k] 1 60000/\True) (rec (wr .i64 ((i:Int)+1))):=by
   generalize (aa.places n)[i]=p at hb;refine ou p.2.2 (step:=λu a=>Q183.s1 K (n,()) rec u a) (λk=>((i:Int),(k:Int),p.1,p.2.1.1,p.2.1.2.1,p.2.1.2.2.1,p.2.1.2.2.2,p.2.2)) (λk z=>InP p.2.2[k] 1 60000/\True) hb ?_ ?_ Z
   ·intro u k z;simp only[Q183.s1];rw[decide_eq_true (by omega:(k:Int)<(AT p.2.2:Int)),au k (by omega)];simp only[cond_true];exact Rnd.ix (ai z) (Rnd.nx (cm K _ _ _) λ_=>Rnd.end_)
   ·intro u;simp only[Q183.s1,bf];rfl
  simp only[Q183.s0];rw[decide_eq_true (by omega:(i:Int)<(AT (aa.places n):Int))];simp only[cond_true];refine Rnd.ix (ai y) (Rnd.nx (cm K _ _ _) λ_=>Rnd.vl (cL K _) (Rnd.vl (cL K _) (Rnd.cndN (by simp) λ_=>Rnd.cndN (by simp) λ_=>Rnd.two (λH=>?_) ?_)))
  ·rw[ez i H (by omega)];exact Rnd.ix (ai (show i-1<(aa.places n).length by omega)) (Rnd.cndN (by simp) λ_=>Rnd.nx (ig K _) λ_=>Rnd.nx (cm K _ _ _) λ_=>r)
  ·exact Rnd.nx (ig K _) λ_=>Rnd.nx (cm K _ _ _) λ_=>r
 ·intro rec;simp only[Q183.s0,bf];rfl
 ·rw[dZ,dn,gx];constructor
  ·intro h;refine⟨λi y=>?_,λi y H=>?_⟩
   ·obtain⟨Y,J,R,h4,O,M,X⟩:=h i y;exact⟨Y,AW.1 J,R,O,M,dn.2 λk z=>(X k z).1⟩
   ·have:=(h i y).2.2.2.1 H;omega
  ·rintro⟨Y,J⟩ i y;obtain⟨R,h4,O,M,X,h8⟩:=Y i y;exact⟨R,AW.2 h4,O,λH=>by have:=J i y H;omega,M,X,λk z=>⟨dn.1 h8 k z,trivial⟩⟩
theorem xN (K:Nat)(n:aa)(H:NB n)(hK:1048577<K):Ret (Q162.f K (n,())) (dZ n.1 (aa.places n)):=by
 refine (fY (aa.places n) (step:=λrec a=>Q162.s0 K (n,()) rec a)
  (λi u=>((InP (aa.places n)[i].1 0 7/\ao (aa.places n)[i].1=ao n.1)/\(aa.places n)[i].1≠n.1)/\(0<i->¬ (aa.places n)[i].1<=((aa.places n)[i-1]'(by omega)).1) /\
   cn (aa.places n)[i].2.1/\InP ((aa.places n)[i].2.2.length:Int) 1 3/\(¬ ∃ t∈(aa.places n)[i].2.2,¬ InP t 1 60000)/\True) H.places ?_ ?_ hK (λ_=>Ret.yes trivial)).iff (eG.trans ?_)
 ·intro rec i u;have hb:=H.trips _ (AV u);have hl:=H.places;have r:Ret (Q161.f K ((aa.places n)[i].2.2,(λy6=>(Q158.f K (y6.1,())).map λy=>y.1.1),())) (∃ t∈(aa.places n)[i].2.2,¬ InP t 1 60000) :=
   xH K _ _ _ hb hK (λt _=>Ret.fn (eo K t _ _).neg)
  simp only[Q162.s0];rw[decide_eq_true (by omega:(i:Int)<(AT (aa.places n):Int))];simp only[cond_true];refine Rnd.ix (ai u) (Rnd.nx (ze K n _) λ_=>Rnd.two (λz=>?_) ?_)
  ·rw[ez i z (by omega)];exact Rnd.ix (ai (show i-1<(aa.places n).length by omega)) (Rnd.cndN (by simp) λ_=>Rnd.nx (nn K _) λ_=>Rnd.nx (eo K _ _ _) λ_=>Rnd.fx r λ_=>Rnd.end_)
  ·exact Rnd.nx (nn K _) λ_=>Rnd.nx (eo K _ _ _) λ_=>Rnd.fx r λ_=>Rnd.end_
 ·intro rec;simp only[Q162.s0,bf];rfl
 ·rw[dZ,dn,gx];constructor
  ·intro h;refine⟨λi u=>?_,λi u z=>?_⟩
   ·obtain⟨⟨⟨Y,I⟩,O⟩,h4,M,J,X,_⟩:=h i u;exact⟨Y,I,O,M,J,λt Z=>AW.1 λR=>X ⟨t,Z,R⟩⟩
   ·have:=(h i u).2.1 z;omega
  ·rintro⟨Y,I⟩ i u;obtain⟨O,h4,M,J,X,R⟩:=Y i u;exact⟨⟨⟨O,h4⟩,M⟩,λz=>by have:=I i u z;omega,J,X,λ⟨t,Z,h9⟩=>h9 (R t Z),trivial⟩
def Ae (r:Int)(x:cj):Prop:=InP x.1 0 1/\x.1≠ao r/\x.2≠[]/\aA x.2/\bS x.2 x.1
def cN (r:Int)(l:List cj):Prop:=(∀ x∈l,Ae r x)/\Asc (λx:cj=>x.1) l
theorem oz {α:Type}(l:List α):((AT l:Int)==0)=true<->l=[]:=by
 cases l <;> simp;omega
theorem xO (K:Nat)(n:aa)(H:NB n)(y:1048577<K):Ret (Q184.f K (n,())) (cN n.1 (aa.others n)):=by
 refine (fY (aa.others n) (step:=λrec a=>Q184.s0 K (n,()) rec a)
  (λi r=>InP (aa.others n)[i].1 0 1/\¬ (aa.others n)[i].1=ao n.1/\(0<i->¬ ((aa.others n)[i-1]'(by omega)).1>=(aa.others n)[i].1) /\
   ¬ (aa.others n)[i].2=[]/\aA (aa.others n)[i].2/\bS (aa.others n)[i].2 (aa.others n)[i].1/\True) H.others ?_ ?_ y (λ_=>Ret.yes trivial)).iff (eG.trans ?_)
 ·intro rec i r;have z:=H.facts _ (AV r);have X:=H.others;simp only[Q184.s0];rw[decide_eq_true (by omega:(i:Int)<(AT (aa.others n):Int))];simp only[cond_true];refine Rnd.ix (ai r) (Rnd.nx (cm K _ _ _) λ_=>Rnd.vl (cL K _) (Rnd.cndN (by simp) λ_=>Rnd.two (λu=>?_) ?_))
  ·rw[ez i u (by omega)];exact Rnd.ix (ai (show i-1<(aa.others n).length by omega)) (Rnd.cndN (by simp) λ_=>Rnd.cndN (oz _) λ_=>Rnd.nx (fZ K _ z y) λ_=>Rnd.nx (eM K _ _ z y) λ_=>Rnd.end_)
  ·exact Rnd.cndN (oz _) λ_=>Rnd.nx (fZ K _ z y) λ_=>Rnd.nx (eM K _ _ z y) λ_=>Rnd.end_
 ·intro rec;simp only[Q184.s0,bf];rfl
 ·rw[cN,dn,gx];constructor
  ·intro h;exact⟨λi r=>⟨(h i r).1,(h i r).2.1,(h i r).2.2.2.1,(h i r).2.2.2.2.1,(h i r).2.2.2.2.2.1⟩,λi r u=>by have:=(h i r).2.2.1 u;omega⟩
  ·rintro⟨h1,h2⟩ i r;obtain⟨M,R,J,I,O⟩:=h1 i r;exact⟨M,R,λu=>by have:=h2 i r u;omega,J,I,O,trivial⟩
theorem xP (K:Nat)(n:aa)(J:NB n)(y:1048577<K):Ret (Q163.f K (n,())) (cN n.1 (aa.others n)):=by
 refine (fY (aa.others n) (step:=λrec a=>Q163.s0 K (n,()) rec a)
  (λi r=>InP (aa.others n)[i].1 0 1/\¬ (aa.others n)[i].1=ao n.1/\(0<i->¬ (aa.others n)[i].1<=((aa.others n)[i-1]'(by omega)).1) /\
   ¬ (aa.others n)[i].2=[]/\aA (aa.others n)[i].2/\bS (aa.others n)[i].2 (aa.others n)[i].1/\True) J.others ?_ ?_ y (λ_=>Ret.yes trivial)).iff (eG.trans ?_)
 ·intro rec i r;have I:=J.facts _ (AV r);have Y:=J.others;have H:ao 7=1:=by unfold ao;rw[aJ (by decide) (by decide)];decide
  have z:=eo K (aa.others n)[i].1 0 (ao 7);rw[H]at z;simp only[Q163.s0];rw[decide_eq_true (by omega:(i:Int)<(AT (aa.others n):Int))];simp only[cond_true];refine Rnd.ix (ai r) (Rnd.vl (pa K 7) ?_);dsimp only;rw[H];refine Rnd.nx z λ_=>Rnd.vl (p7 K n) (Rnd.cndN (by simp) λ_=>Rnd.two (λu=>?_) ?_)
  ·rw[ez i u (by omega)];exact Rnd.ix (ai (show i-1<(aa.others n).length by omega)) (Rnd.cndN (by simp) λ_=>Rnd.cndN (oz _) λ_=>Rnd.nx (jg K _ I y) λ_=>Rnd.nx (gV K _ _ I y) λ_=>Rnd.end_)
  ·exact Rnd.cndN (oz _) λ_=>Rnd.nx (jg K _ I y) λ_=>Rnd.nx (gV K _ _ I y) λ_=>Rnd.end_
 ·intro rec;simp only[Q163.s0,bf];rfl
 ·rw[cN,dn,gx];constructor
  ·intro h;exact⟨λi r=>⟨(h i r).1,(h i r).2.1,(h i r).2.2.2.1,(h i r).2.2.2.2.1,(h i r).2.2.2.2.2.1⟩,λi r u=>by have:=(h i r).2.2.1 u;omega⟩
  ·rintro⟨h1,h2⟩ i r;obtain⟨R,X,O,M,H⟩:=h1 i r;exact⟨R,X,λu=>by have:=h2 i r u;omega,O,M,H,trivial⟩
def ByP (r:Int)(l:List Int):Prop:=(∀ b∈l,InP b 0 7/\ao b=ao r)/\Asc (λb:Int=>b) l
def lk (n:aa)(d:ca):Prop:=(∃ f∈aa.table n,f.1=d.1/\f.2.2.1=2/\f.2.1=d.2.1)/\InP d.2.2.1 0 n.2.2.2.2.2.1/\d.2.2.2≠[]/\ByP n.1 d.2.2.2
def aQ (t:List af):List af:=t.filter λf=>f.2.2.1==2
def ii (n:aa):Prop:=(∀ d∈aa.doubts n,lk n d)/\Asc (λd:ca=>d.1) (aa.doubts n)/\(aQ (aa.table n)).length=(aa.doubts n).length
theorem wt {y:Int}{l:List Int}:ByP y l<->∀ k (r:k<l.length),(InP l[k] 0 7/\ao l[k]=ao y)/\(0<k->¬ l[k-1]'(by omega)>=l[k]):=by
 rw[ByP,dn,gx];constructor
 ·rintro⟨h1,h2⟩ k r;exact⟨h1 k r,λu=>by have:=h2 k r u;omega⟩
 ·intro h;exact⟨λk r=>(h k r).1,λk r u=>by have:=(h k r).2 u;omega⟩
theorem zf (K:Nat)(n:aa)(I:NB n)(R:1048577<K):Q182.l2 K (n,()) (0,0)=rb (decide ((aQ (aa.table n)).length=(aa.doubts n).length)):=by
 have X:=I.table;have u:∀ (d k i c:Nat),i+d=(aa.table n).length->d<k->c<=i ->
   ae (λrec a=>Q182.s2 K (n,()) rec a) k ((c:Int),(i:Int))=rb (decide (c+(aQ ((aa.table n).drop i)).length=(aa.doubts n).length)):=by
  intro d;induction d with
  |zero =>
   intro k i c M O J;obtain⟨k,rfl⟩:∃ y,k=y+1:=⟨k-1,by omega⟩;show Q182.s2 K (n,()) _ _=_;simp only[Q182.s2];rw[decide_eq_false (show ¬ ((i:Int)<(AT (aa.table n):Int)) by omega),BG (by omega)];simp only[cond_false,aQ,List.filter_nil,List.length_nil,Nat.add_zero];have e:((c:Int)==(AT (aa.doubts n):Int))=decide (c=(aa.doubts n).length):=by
    by_cases h:c=(aa.doubts n).length
    ·rw[decide_eq_true h,h];simp
    ·rw[decide_eq_false h,beq_eq_false_iff_ne];omega
   exact congrArg rb e
  |succ d z =>
   intro k i c M O J;obtain⟨k,rfl⟩:∃ y,k=y+1:=⟨k-1,by omega⟩;have r:i<(aa.table n).length:=by omega
   show Q182.s2 K (n,()) _ _=_;simp only[Q182.s2];rw[decide_eq_true (show ((i:Int)<(AT (aa.table n):Int)) by omega),ai r,au i (by omega),au c (by omega),BD r];simp only[cond_true,AU];cases H:((aa.table n)[i].2.2.1==2) with
   |true =>
    have:=z k (i+1) (c+1) (by omega) (by omega) (by omega);simp only[cond_true];have e:c+1+(aQ ((aa.table n).drop (i+1))).length=c+(aQ ((aa.table n)[i]::(aa.table n).drop (i+1))).length:=by
     simp only[aQ,BF,H,if_true,List.length_cons];omega
    rw[<- e];exact this
   |false =>
    have:=z k (i+1) c (by omega) (by omega) (by omega);simp only[cond_false];have e:aQ ((aa.table n)[i]::(aa.table n).drop (i+1))=aQ ((aa.table n).drop (i+1)):=by
     simp only[aQ,BF,H,BA,if_false]
    rw[e];exact this
 have:=u (aa.table n).length K 0 0 (by omega) (by omega) (BN _);rw[BP,Nat.zero_add]at this;exact this
theorem xQ (K:Nat)(n:aa)(O:NB n)(hT:aA (aa.table n))(Y:1048577<K):Ret (Q182.f K (n,())) (ii n):=by
 refine (fY (aa.doubts n) (step:=λrec a=>Q182.s0 K (n,()) (Q182.l1 K (n,()) rec) (Q182.l2 K (n,())) rec a)
  (λi z=>(0<i->¬ ((aa.doubts n)[i-1]'(by omega)).1>=(aa.doubts n)[i].1)/\lk n (aa.doubts n)[i]) (Q:=(aQ (aa.table n)).length=(aa.doubts n).length) (rt:=Q182.l2 K (n,()) (0,0)) O.doubts ?_ ?_ Y (λ_=>by rw[zf K n O Y];exact Ret.dec)).iff ?_
 ·intro rec i z;have Z:=O.by_ _ (AV z);have hl:=O.doubts;have u:Rnd (Q182.l1 K (n,()) rec ((i:Int),0,(aa.doubts n)[i].1,(aa.doubts n)[i].2.1,(aa.doubts n)[i].2.2.1,(aa.doubts n)[i].2.2.2)) (ByP n.1 (aa.doubts n)[i].2.2.2) (rec (wr .i64 ((i:Int)+1))):=by
   generalize (aa.doubts n)[i]=d at Z;refine (ou d.2.2.2 (step:=λy a=>Q182.s1 K (n,()) rec y a) (λk=>((i:Int),(k:Int),d.1,d.2.1,d.2.2.1,d.2.2.2))
    (λk r=>InP d.2.2.2[k] 0 7/\¬ ao d.2.2.2[k]≠ao n.1/\(0<k->¬ d.2.2.2[k-1]'(by omega)>=d.2.2.2[k])/\True) Z ?_ ?_ Y).iff ?_
   ·intro y k r;simp only[Q182.s1];rw[decide_eq_true (by omega:(k:Int)<(AT d.2.2.2:Int)),au k (by omega)];simp only[cond_true];refine Rnd.ix (ai r) (Rnd.nx (cm K _ _ _) λ_=>Rnd.ix (ai r) (Rnd.vl (cL K _) (Rnd.vl (cL K _) (Rnd.cndN (by simp) λ_=>Rnd.two (λH=>?_) Rnd.end_))));rw[ez k H (by omega)];exact Rnd.ix (ai (show k-1<d.2.2.2.length by omega)) (Rnd.ix (ai r) (Rnd.cndN (by simp) λ_=>Rnd.end_))
   ·intro y;simp only[Q182.s1,bf];rfl
   ·rw[wt];constructor
    ·intro h k r;exact⟨⟨(h k r).1,AW.1 (h k r).2.1⟩,(h k r).2.2.1⟩
    ·intro h k r;exact⟨(h k r).1.1,AW.2 (h k r).1.2,(h k r).2,trivial⟩
  obtain⟨o,ho,R⟩:=eW K (aa.table n) (aa.doubts n)[i].1 O.table Y;simp only[Q182.s0];rw[decide_eq_true (show ((i:Int)<(AT (aa.doubts n):Int)) by omega)];simp only[cond_true];refine Rnd.ix (ai z) (Rnd.vl R ?_);cases ho with
  |no h =>
   have X:¬ lk n (aa.doubts n)[i]:=λ⟨⟨f,R,e,_⟩,_⟩=>h f R e
   refine Rnd.two (λH=>?_) ?_
   ·rw[ez i H (by omega)];refine Rnd.ix (ai (show i-1<(aa.doubts n).length by omega)) (Rnd.cndN (by simp) λ_=>?_);exact .inr ⟨X,rfl⟩
   ·exact .inr ⟨X,rfl⟩
  |at_ j M e =>
   have J:decide ((j:Int)<0)=false:=decide_eq_false (by omega);have I:lk n (aa.doubts n)[i]<->(¬ (aa.table n)[j].2.2.1≠2/\¬ (aa.table n)[j].2.1≠(aa.doubts n)[i].2.1/\InP (aa.doubts n)[i].2.2.1 0 n.2.2.2.2.2.1/\¬ (aa.doubts n)[i].2.2.2=[]/\ByP n.1 (aa.doubts n)[i].2.2.2):=by
    constructor
    ·rintro⟨⟨f,R,e1,e2,e3⟩,h2,h3,h4⟩;have:=gW hT.2 R (AV M) (e1.trans e.symm);subst this;exact⟨AW.2 e2,AW.2 e3,h2,h3,h4⟩
    ·rintro⟨e2,e3,h2,h3,h4⟩;exact⟨⟨_,AV M,e,AW.1 e2,AW.1 e3⟩,h2,h3,h4⟩
   refine Rnd.two (λH=>?_) ?_
   ·rw[ez i H (by omega)];refine Rnd.ix (ai (show i-1<(aa.doubts n).length by omega)) (Rnd.cndN (by simp) λ_=>?_);simp only[J,cond_false];refine Rnd.iff ?_ I.symm;exact Rnd.ix (ai M) (Rnd.cndN (by simp) λ_=>Rnd.ix (ai M) (Rnd.cndN (by simp) λ_=>Rnd.nx (cm K _ _ _) λ_=>Rnd.cndN (oz _) λ_=>u))
   ·simp only[J,cond_false];refine Rnd.iff ?_ I.symm;exact Rnd.ix (ai M) (Rnd.cndN (by simp) λ_=>Rnd.ix (ai M) (Rnd.cndN (by simp) λ_=>Rnd.nx (cm K _ _ _) λ_=>Rnd.cndN (oz _) λ_=>u))
 ·intro rec;simp only[Q182.s0,bf];rfl
 ·rw[ii,dn,gx];constructor
  ·rintro⟨h1,h2⟩;exact⟨λi z=>(h1 i z).2,λi z H=>by have:=(h1 i z).1 H;omega,h2⟩
  ·rintro⟨h1,h2,h3⟩;exact⟨λi z=>⟨λH=>by have:=h2 i z H;omega,h1 i z⟩,h3⟩
theorem zg (K:Nat)(n:aa)(Y:NB n)(S:List af)(hS:S.length=(aa.doubts n).length)(hK:1048577<K):Ret (Q156.l1 K (n,()) (S,0))
  (∀ i (u:i<(aa.doubts n).length),(aa.doubts n)[i].1=(S[i]'(by omega)).1/\(aa.doubts n)[i].2.1=(S[i]'(by omega)).2.1/\InP (aa.doubts n)[i].2.2.1 0 n.2.2.2.2.2.1/\(aa.doubts n)[i].2.2.2≠[]/\ByP n.1 (aa.doubts n)[i].2.2.2):=by
 have hl:=Y.doubts;have J:=lK (step:=λrec a=>Q156.s1 K (n,()) (Q156.l2 K (n,()) rec) rec a) (aa.doubts n).length (λi=>(S,(i:Int)))
  (λi=>∀ u:i<(aa.doubts n).length,¬ (aa.doubts n)[i].1≠(S[i]'(by omega)).1/\¬ (aa.doubts n)[i].2.1≠(S[i]'(by omega)).2.1/\InP (aa.doubts n)[i].2.2.1 0 n.2.2.2.2.2.1/\¬ (aa.doubts n)[i].2.2.2=[]/\ByP n.1 (aa.doubts n)[i].2.2.2)
  (rb true) (rb false) ?_ ?_ (aa.doubts n).length K 0 (by omega) (by omega)
 ·rcases J with ⟨R,I⟩|⟨R,I⟩
  ·refine⟨true,I,iff_of_true rfl λi u=>?_⟩;obtain⟨O,X,M⟩:=R i (BB _) u u;exact⟨AW.1 O,AW.1 X,M⟩
  ·refine⟨false,I,iff_of_false (by simp) λh=>R λi _ u _=>?_⟩;obtain⟨O,X,M⟩:=h i u;exact⟨AW.2 O,AW.2 X,M⟩
 ·intro rec i u;have Z:=Y.by_ _ (AV u);have H:Rnd (Q156.l2 K (n,()) rec (S,(i:Int),(aa.doubts n)[i].2.2.2,(AT (aa.doubts n)[i].2.2.2:Int),0,(aa.doubts n)[i].1,(aa.doubts n)[i].2.1,(aa.doubts n)[i].2.2.1,(aa.doubts n)[i].2.2.2)) (ByP n.1 (aa.doubts n)[i].2.2.2) (rec (S,wr .i64 ((i:Int)+1))):=by
   generalize (aa.doubts n)[i]=d at Z;refine (ou d.2.2.2 (step:=λr a=>Q156.s2 K (n,()) rec r a) (λk=>(S,(i:Int),d.2.2.2,(AT d.2.2.2:Int),(k:Int),d.1,d.2.1,d.2.2.1,d.2.2.2))
    (λk z=>(InP d.2.2.2[k] 0 7/\ao d.2.2.2[k]=ao n.1)/\(0<k->¬ d.2.2.2[k]<=d.2.2.2[k-1]'(by omega))/\True) Z ?_ ?_ hK).iff ?_
   ·intro r k z;simp only[Q156.s2,zcp4];rw[decide_eq_true (by omega:(k:Int)<(AT d.2.2.2:Int)),au k (by omega)];simp only[cond_true];refine Rnd.ix (ai z) (Rnd.nx (sm K n _) λ_=>Rnd.two (λh0=>?_) Rnd.end_);rw[ez k h0 (by omega)];exact Rnd.ix (ai (show k-1<d.2.2.2.length by omega)) (Rnd.cndN (by simp) λ_=>Rnd.end_)
   ·intro r;simp only[Q156.s2,zcp4,bf];rfl
   ·rw[wt];constructor
    ·intro h k z;exact⟨(h k z).1,(h k z).2.1⟩
    ·intro h k z;exact⟨(h k z).1,(h k z).2,trivial⟩
  have y:i<S.length:=by omega
  have hr:Rnd (Q156.s1 K (n,()) (Q156.l2 K (n,()) rec) rec (S,(i:Int)))
    (¬ (aa.doubts n)[i].1≠S[i].1/\¬ (aa.doubts n)[i].2.1≠S[i].2.1/\InP (aa.doubts n)[i].2.2.1 0 n.2.2.2.2.2.1/\¬ (aa.doubts n)[i].2.2.2=[]/\ByP n.1 (aa.doubts n)[i].2.2.2) (rec (S,((i+1:Nat):Int))):=by
   rw[<- au i (by omega)];simp only[Q156.s1];rw[decide_eq_true (show ((i:Int)<(AT (aa.doubts n):Int)) by omega),Int.toNat_natCast];simp only[cond_true];exact Rnd.ix (ai u) (Rnd.ix (ai y) (Rnd.ix (ai y) (Rnd.cndN (by simp) λ_=>Rnd.ix (ai y) (Rnd.ix (ai y) (Rnd.cndN (by simp) λ_=>Rnd.nx (eo K _ _ _) λ_=>Rnd.cndN (oz _) λ_=>H)))))
  exact hr.imp (λh=>⟨λ_=>h.1,h.2⟩) (λh=>⟨λI=>h.1 (I u),h.2⟩)
 ·intro rec;simp only[Q156.s1,bf];rfl
theorem xR (K:Nat)(n:aa)(X:NB n)(hT:aA (aa.table n))(hK:1048577<K):Ret (Q156.f K (n,())) (ii n):=by
 have hl:=X.table;have a3:=X.doubts;have a0:∀ (d k i:Nat),i+d=(aa.table n).length->d<k->ae (λrec a=>Q156.s0 K (n,()) (Q156.l1 K (n,())) rec a) k (aQ ((aa.table n).take i),(i:Int)) =
   (bif (AT (aa.doubts n):Int) != (AT (aQ (aa.table n)):Int) then rb false else Q156.l1 K (n,()) (aQ (aa.table n),0)):=by
  intro d;induction d with
  |zero =>
   intro k i z hk;obtain⟨k,rfl⟩:∃ k',k=k'+1:=⟨k-1,by omega⟩;show Q156.s0 K (n,()) _ _ _=_;simp only[Q156.s0];rw[decide_eq_false (show ¬ ((i:Int)<(AT (aa.table n):Int)) by omega),BH (by omega)];rfl
  |succ d J =>
   intro k i z hk;obtain⟨k,rfl⟩:∃ k',k=k'+1:=⟨k-1,by omega⟩;have J:=J k (i+1) (by omega) (by omega);have O:i<(aa.table n).length:=by omega
   show Q156.s0 K (n,()) _ _ _=_;simp only[Q156.s0];rw[decide_eq_true (show ((i:Int)<(AT (aa.table n):Int)) by omega),ai O,au i (by omega)];simp only[cond_true,AU];have e:aQ ((aa.table n).take (i+1))=aQ ((aa.table n).take i)++(if (aa.table n)[i].2.2.1==2 then [(aa.table n)[i]] else []):=by
    rw[aQ,BL,AY O,List.filter_append];simp[aQ,BF]
   cases hb:((aa.table n)[i].2.2.1==2) with
   |true =>
    rw[hb]at e;simp only[if_true]at e;simp only[cond_true];have a2:(aQ ((aa.table n).take i)).length<=i:=Nat.le_trans (List.length_filter_le _ _) (by simp;omega);have hs:decide ((AT (aQ ((aa.table n).take i))+AT [(aa.table n)[i]])*32<=ak)=true:=decide_eq_true (by simp only[ak,BI];omega);rw[hs];rw[e]at J;exact J
   |false =>
    rw[hb]at e;simp only[BA,if_false,List.append_nil]at e;rw[e]at J;exact J
 have h0:Q156.f K (n,())=_:=a0 (aa.table n).length K 0 (by omega) (by omega);rw[h0];have y:∀ f∈aQ (aa.table n),f∈aa.table n/\f.2.2.1=2:=λf I=>by
  rw[aQ,BO]at I;exact⟨I.1,by simpa using I.2⟩
 have u:Asc (λf:af=>f.1) (aQ (aa.table n)):=List.Pairwise.filter _ hT.2;by_cases r:(aQ (aa.table n)).length=(aa.doubts n).length
 ·have:((AT (aa.doubts n):Int) != (AT (aQ (aa.table n)):Int))=false:=by simp[r]
  rw[this];refine (zg K n X _ r hK).iff ⟨λh=>⟨?_,?_,r⟩,λ⟨h1,h2,_⟩ i z=>?_⟩
  ·rw[dn];intro i z;obtain⟨R,h4,Z,Y,h7⟩:=h i z;obtain⟨h8,h9⟩:=y _ (AV (show i<(aQ (aa.table n)).length by omega));exact⟨⟨_,h8,R.symm,h9,h4.symm⟩,Z,Y,h7⟩
  ·rw[eA]at u ⊢;intro i j z hj a1;have:=u i j (by omega) (by omega) a1;rw[(h i z).1,(h j hj).1];exact this
  ·have H:=iH ((aa.doubts n).map (·.1)) ((aQ (aa.table n)).map (·.1)) (by rw[BE];exact h2) (by rw[BE];exact u) (by
    intro x hx;obtain⟨d,hd,rfl⟩:=BQ.1 hx;obtain⟨⟨f,I,e1,e2,_⟩,_⟩:=h1 d hd;exact BQ.2 ⟨f,by rw[aQ,BO];exact⟨I,by simpa using e2⟩,e1⟩)
   have H:=H.2 (by simp[r]);have M:i<(aQ (aa.table n)).length:=by omega
   have e:(aa.doubts n)[i].1=(aQ (aa.table n))[i].1:=by
    have R:((aa.doubts n).map (·.1))[i]?=((aQ (aa.table n)).map (·.1))[i]?:=by rw[H]
    rw[BM,BM,AY z,AY M]at R;simpa using R
   obtain⟨⟨f,I,e1,e2,e3⟩,h4,Z,Y⟩:=h1 _ (AV z);have:=gW hT.2 I (y _ (AV M)).1 (e1.trans e);subst this;exact⟨e,e3.symm,h4,Z,Y⟩
 ·have:((AT (aa.doubts n):Int) != (AT (aQ (aa.table n)):Int))=true:=by simp;omega
  rw[this];exact Ret.no (λh=>r h.2.2)
def nq (n:aa):Prop:=n.2.2.1=false/\n.2.2.2.2.1=0/\n.2.2.2.2.2.1=0/\n.2.2.2.2.2.2.1=0/\n.2.2.2.2.2.2.2.1=0 /\
 wr .i64 (wr .i64 (wr .i64 (wr .i64 ((AT (aa.table n):Int)+(AT (aa.cast n):Int))+(AT (aa.doubts n):Int))+(AT (aa.places n):Int))+(AT (aa.others n):Int))=0 /\
 aa.probe n=(0,0,0,false)/\aa.coord n=(0,0,0,0)
def UpP (n:aa):Prop:=aA (aa.table n)/\bS (aa.table n) (ao n.1)/\cR n/\(cX (aa.cast n)/\gG (aa.table n) (aa.cast n))/\cM n/\ii n/\cn (aa.coord n)/\dZ n.1 (aa.places n)/\cN n.1 (aa.others n)
def dB (n:aa):Prop:=InP n.1 0 7/\InP n.2.2.2.2.2.1 0 999999/\InP n.2.2.2.2.2.2.1 0 999999/\InP n.2.2.2.2.2.2.2.1 0 8/\InP n.2.2.2.2.1 0 999/\(if n.2.1=true then UpP n else nq n)
theorem sn (K:Nat)(n:aa)(r:NB n)(u:1048577<K):Ret (Q185.f K (n,())) (dB n):=by
 refine Ret.nx (cm K _ _ _) λ_=>Ret.nx (cm K _ _ _) λ_=>Ret.nx (cm K _ _ _) λ_=>Ret.nx (cm K _ _ _) λ_=>Ret.nx (cm K _ _ _) λ_=>?_
 dsimp only;cases z:n.2.1 with
 |false =>
  simp only[BJ,cond_true,BA,if_false,nq];refine Ret.cnd (by simp) λ_=>Ret.cnd (by simp) λ_=>Ret.cnd (by simp) λ_=>Ret.cnd (by simp) λ_=>Ret.cnd (by simp) λ_=>Ret.cnd (by simp) λ_=>?_
  refine Ret.iff (Ret.cnd (P:=(aa.probe n).1=0) (by simp) λ_=>Ret.cnd (P:=(aa.probe n).2.1=0) (by simp) λ_=>Ret.cnd (P:=(aa.probe n).2.2.1=0) (by simp) λ_=>Ret.cnd (P:=(aa.probe n).2.2.2=false) (by simp) λ_ =>
   Ret.cnd (P:=(aa.coord n).1=0) (by simp) λ_=>Ret.cnd (P:=(aa.coord n).2.1=0) (by simp) λ_=>Ret.cnd (P:=(aa.coord n).2.2.1=0) (by simp) λ_=>Ret.of (P:=(aa.coord n).2.2.2=0) (by simp)) ?_
  generalize aa.probe n=p;generalize aa.coord n=c;obtain⟨O,J,H,Y⟩:=p;obtain⟨X,I,M,R⟩:=c;simp only[BK];constructor
  ·rintro⟨h1,h2,h3,h4,h5,h6,h7,h8⟩;exact⟨⟨h1,h2,h3,h4⟩,h5,h6,h7,h8⟩
  ·rintro⟨⟨h1,h2,h3,h4⟩,h5,h6,h7,h8⟩;exact⟨h1,h2,h3,h4,h5,h6,h7,h8⟩
 |true =>
  simp only[AX,cond_false,if_true,UpP];exact Ret.px (fZ K _ r.table u) λy=>Ret.vl (cL K _) (Ret.px (eM K _ _ r.table u) λ_=>Ret.px (Ab K n r y u) λ_=>Ret.px (tN K n r y u) λ_=>Ret.px (zc K n r u) λ_ =>
   Ret.px (xQ K n r y u) λ_=>Ret.px (ig K _) λ_=>Ret.px (xM K n r u) λ_=>(xO K n r u).id)
theorem Af (K:Nat)(n:aa):Ret (Q129.f K (n,())) (nq n):=by
 simp only[Q129.f,lj,Ac,nq];exact Ret.cnd (by simp) λ_=>Ret.cnd (by simp) λ_=>Ret.cnd (by simp) λ_=>Ret.cnd (by simp) λ_=>Ret.cnd (by simp) λ_=>Ret.cnd (by simp) λ_=>Ret.cnd (by simp) λ_=>Ret.dec
theorem oA (K:Nat)(n:aa)(r:NB n)(u:1048577<K):Ret (Q164.f K (n,())) (dB n):=by
 refine Ret.nx (iI K _) λ_=>Ret.nx (eo K _ _ _) λ_=>Ret.nx (eo K _ _ _) λ_=>Ret.nx (eo K _ _ _) λ_=>Ret.nx (eo K _ _ _) λ_=>?_
 dsimp only;cases z:n.2.1 with
 |false =>
  simp only[BJ,cond_true,BA,if_false];exact (Af K n).id
 |true =>
  simp only[AX,cond_false,if_true,UpP];refine Ret.iff (Ret.px (p8 K n r u) λy=>Ret.px (zd K n r y.1 u) λ_=>Ret.px (xR K n r y.1 u) λ_=>Ret.px (nn K _) λ_=>Ret.px (xN K n r u) λ_=>(xP K n r u).id) ?_;constructor
  ·rintro⟨⟨h1,h2,h3,h4,h5⟩,h6,h7,h8,h9,h10⟩;exact⟨h1,h2,h3,⟨h4,h5⟩,h6,h7,h8,h9,h10⟩
  ·rintro⟨h1,h2,h3,⟨h4,h5⟩,h6,h7,h8,h9,h10⟩;exact⟨⟨h1,h2,h3,h4,h5⟩,h6,h7,h8,h9,h10⟩
theorem p9 {A R:Type}{step:(A->Option R)->A->Option R}(n:Nat)(S:Nat->A)(rt:Option R)(h:∀ (rec:A->Option R) (i:Nat),i<n->step rec (S i)=rec (S (i+1)))(r:∀ rec:A->Option R,step rec (S n)=rt)
  {k:Nat} (z:n<k):ae step k (S 0)=rt:=by
 rcases lK (step:=step) n S (λ_=>True) rt none (λrec i y=>.inl ⟨trivial,h rec i y⟩) r n k 0 (by omega) z with ⟨_,u⟩|⟨u,_⟩
 ·exact u
 ·exact absurd (λ_ _ _=>trivial) u
def Szd (o:Option ((Int×Unit)×Unit))(left:Int)(Q:Prop):Prop:=∃ r,o=some ((r,()),())/\(r<0\/(0<=r/\r<=left/\Q))
theorem Szd.sub (left:Int)(n:Nat)(I:0<=left)(M:left<=1048576)(J:n<=9223372036854775807){g:Option ((Int×Unit)×Unit)}{Q:Prop}(H:wr .i64 (left-(n:Int))=left-n->(n:Int)<=left->Szd g (left-n) Q) :
  Szd (bif decide (wr .i64 (left-(n:Int))<0) then some ((-1,()),()) else g) left (n<=1048576/\Q):=by
 have e:wr .i64 (left-(n:Int))=left-n:=aJ (by omega) (by omega);by_cases h:left-(n:Int)<0
 ·rw[e,decide_eq_true h];exact⟨-1,rfl,.inl (by decide)⟩
 ·rw[decide_eq_false (by rw[e];exact h)];obtain⟨r,z,y⟩:=H e (by omega);exact⟨r,z,y.imp id λu=>⟨u.1,by omega,by omega,u.2.2⟩⟩
theorem Szd.bind {o:Option ((Int×Unit)×Unit)}{left:Int}{P Q:Prop}{G:(Int×Unit)×Unit->Option ((Int×Unit)×Unit)}(h:Szd o left P)(J:∀ r,0<=r->r<=left->P->Szd (G ((r,()),())) r Q) :
  Szd (o.bind λy=>bif decide (y.1.1<0) then some ((-1,()),()) else G y) left (P/\Q):=by
 obtain⟨r,I,u⟩:=h;rw[I,AU];rcases u with u|⟨u,X,H⟩
 ·rw[decide_eq_true u];exact⟨-1,rfl,.inl (by decide)⟩
 ·rw[show decide (r<0)=false from decide_eq_false (by omega)];obtain⟨M,R,O⟩:=J r u X H;exact⟨M,R,O.imp id λz=>⟨z.1,by omega,H,z.2.2⟩⟩
theorem Szd.ret (r:Int)(h:0<=r):Szd (some ((r,()),())) r True:=⟨r,rfl,.inr ⟨h,Int.le_refl _,trivial⟩⟩
theorem Szd.iff {o:Option ((Int×Unit)×Unit)}{left:Int}{P Q:Prop}(h:Szd o left P)(e:P->Q):Szd o left Q:=by
 obtain⟨r,z,y⟩:=h;exact⟨r,z,y.imp id λu=>⟨u.1,u.2.1,e u.2.2⟩⟩
end Go.Proofs.YtaegajachoklkaaGreatEv
