/- What is ok of facts, tables, casts: the program and the specification say the same. -/
import Derived.Test.YthgnfidnmnkeaaaGreatFns
import Derived.Test.YthgnfidnmnkeaaaGreatP0
namespace Go.Proofs.YthgnfidnmnkeaaaGreatEv
open Go
abbrev InP (n lo hi:Int):Prop:=lo≤n∧n≤hi
theorem eO (K:Nat)(n lo hi:Int):Ret (Q107.f K (n,lo,hi,())) (InP n lo hi):=by
 simp only[Q107.f]
 exact Ret.cnd (by simp) fun _=>Ret.dec
theorem dS (K:Nat)(n lo hi:Int):Ret (Q67.f K (n,lo,hi,())) (InP n lo hi):=by
 simp only[Q67.f]
 exact Ret.cnd (by simp) fun _=>Ret.dec
theorem Ret.id {o:Option RB}{P:Prop}(h:Ret o P):Ret (o.bind fun y=>some ((y.1.1,()),())) P:=by
 obtain⟨b,h1,h2⟩:=h
 exact⟨b,by rw[h1];rfl,h2⟩
theorem Ret.neg {o:Option RB}{P:Prop}(h:Ret o P):Ret (o.bind fun y=>some ((!y.1.1,()),())) (¬ P):=by
 obtain⟨b,h1,h2⟩:=h
 exact⟨!b,by rw[h1];rfl,by cases b <;> simp_all⟩
def cP (f:ao):Prop:=InP f.1 0 7∧InP f.2.1 0 999∧InP f.2.2.1 1 4
theorem m9 (K:Nat)(n:Int):Ret (Q108.f K (n,())) (InP n 0 7):=(eO K n 0 7).id
theorem kE (K:Nat)(f:ao):Ret (Q116.f K (f,())) (cP f) :=
 Ret.and (m9 K f.1) (fun _=>Ret.and (eO K f.2.1 0 999) (fun _=>(eO K f.2.2.1 1 4).id) rfl) rfl
theorem qg (K:Nat)(f:ao):Ret (Q68.f K (f,())) (cP f) :=
 Ret.and (dS K f.1 0 7) (fun _=>Ret.and (dS K f.2.1 0 999) (fun _=>(dS K f.2.2.1 1 4).id) rfl) rfl
def aT (t:List ao):Prop:=(∀ f∈t,cP f)∧Asc (fun f:ao=>f.1) t
theorem qh {t:List ao}:aT t↔∀ j,j<t.length→∃ h:j<t.length,cP t[j]∧(0<j→(t[j-1]'(by omega)).1<t[j].1):=by
 unfold aT
 rw[cU,gx]
 constructor
 ·rintro⟨h1,h2⟩ j hj
  exact⟨hj,h1 j hj,fun h0=>h2 j hj h0⟩
 ·intro h
  exact⟨fun i hi=>(h i hi).2.1,fun i hi h0=>(h i hi).2.2 h0⟩
theorem em {P:Prop}:(P∧True)↔P:=by simp
theorem ln (K:Nat)(t:List ao)(ht:t.length≤1048576)(hK:1048577<K):Ret (Q69.f K (t,())) (aT t):=by
 refine Ret.iff (oA (step:=fun rec a=>Q69.l0.step K (t,()) rec a) t.length (fun i=>(i:Int)) (fun j=>∃ h:j<t.length,cP t[j]∧(0<j→(t[j-1]'(by omega)).1<t[j].1)) (Q:=True) (rt:=rb true) ?_ ?_ (by omega) (fun _=>Ret.yes trivial)) (em.trans qh.symm)
 ·intro rec i hi
  simp only[Q69.l0.step]
  rw[decide_eq_true (by omega:(i:Int)<(List.length t:Int)),ag hi,aq i (by omega)]
  simp only[cond_true,Option.bind_some]
  obtain⟨b,h1,h2⟩:=qg K t[i]
  rw[h1]
  simp only[Option.bind_some]
  cases b with
  |false=>exact .inr ⟨fun⟨_,h3,_⟩=>by simpa using h2.2 h3,rfl⟩
  |true =>
   simp only[Bool.not_true,cond_false]
   by_cases h0:(i:Int)>0
   ·rw[decide_eq_true h0,eN i (by omega) (by omega),ag (by omega:i-1<t.length)]
    simp only[cond_true,Option.bind_some]
    by_cases h3:(t[i-1]'(by omega)).1≥t[i].1
    ·rw[decide_eq_true h3]
     exact .inr ⟨fun⟨_,_,h4⟩=>by have:=h4 (by omega);omega,rfl⟩
    ·rw[decide_eq_false h3]
     exact .inl ⟨⟨hi,h2.1 rfl,fun _=>by omega⟩,rfl⟩
   ·rw[decide_eq_false h0]
    exact .inl ⟨⟨hi,h2.1 rfl,fun _=>by omega⟩,rfl⟩
 ·intro rec
  simp only[Q69.l0.step]
  rw[decide_eq_false (by omega:¬ ((t.length:Int)<(List.length t:Int)))]
  rfl
theorem iu (K:Nat)(t:List ao)(ht:t.length≤1048576)(hK:1048577<K):Ret (Q117.f K (t,())) (aT t):=by
 refine Ret.iff (oA (step:=fun rec a=>Q117.l0.step K (t,()) rec a) t.length (fun i=>(i:Int)) (fun j=>∃ h:j<t.length,cP t[j]∧(0<j→(t[j-1]'(by omega)).1<t[j].1)) (Q:=True) (rt:=rb true) ?_ ?_ (by omega) (fun _=>Ret.yes trivial)) (em.trans qh.symm)
 ·intro rec i hi
  simp only[Q117.l0.step]
  rw[decide_eq_true (by omega:(i:Int)<(List.length t:Int)),ag hi,aq i (by omega)]
  simp only[cond_true,Option.bind_some]
  obtain⟨b,h1,h2⟩:=kE K t[i]
  rw[h1]
  simp only[Option.bind_some]
  cases b with
  |false=>exact .inr ⟨fun⟨_,h3,_⟩=>by simpa using h2.2 h3,rfl⟩
  |true =>
   simp only[Bool.not_true,cond_false]
   by_cases h0:(i:Int)>0
   ·rw[decide_eq_true h0,eN i (by omega) (by omega),ag (by omega:i-1<t.length)]
    simp only[cond_true,Option.bind_some]
    by_cases h3:t[i].1≤(t[i-1]'(by omega)).1
    ·rw[decide_eq_true h3]
     exact .inr ⟨fun⟨_,_,h4⟩=>by have:=h4 (by omega);omega,rfl⟩
    ·rw[decide_eq_false h3]
     exact .inl ⟨⟨hi,h2.1 rfl,fun _=>by omega⟩,rfl⟩
   ·rw[decide_eq_false h0]
    exact .inl ⟨⟨hi,h2.1 rfl,fun _=>by omega⟩,rfl⟩
 ·intro rec
  simp only[Q117.l0.step]
  rw[decide_eq_false (by omega:¬ ((t.length:Int)<(List.length t:Int)))]
  rfl
inductive th (t:List ao) (node:Int):Option Nat→Prop where
 |at_ (i:Nat) (h:i<t.length) (e:t[i].1=node):th t node (some i)
 |no (h:∀ f∈t,f.1≠node):th t node none
theorem e8 (K:Nat)(t:List ao)(node:Int)(ht:t.length≤1048576)(hK:1048577<K) :
  ∃ o,th t node o∧Q71.f K (t,node,())=some (((match o with|some i=>((i:Nat):Int)|none=>-1),()),()):=by
 have:=cr (step:=fun rec a=>Q71.l0.step K (t,node,()) rec a) t.length (fun i=>(i:Int)) (fun j=>∃ h:j<t.length,t[j].1=node) (some ((-1,()),())) (fun j=>some ((((j:Nat):Int),()),())) ?_ ?_ t.length K 0 (by omega) (by omega)
 ·rcases this with ⟨h1,h2⟩|⟨j,_,h1,⟨h3,h4⟩,_,h2⟩
  ·refine⟨none,.no ?_,h2⟩
   rw[cU]
   exact fun i hi e=>h1 i (Nat.zero_le _) hi ⟨hi,e⟩
  ·exact⟨some j,.at_ j h3 h4,h2⟩
 ·intro rec i hi
  simp only[Q71.l0.step]
  rw[decide_eq_true (by omega:(i:Int)<(List.length t:Int)),ag hi,aq i (by omega)]
  simp only[cond_true,Option.bind_some]
  by_cases h:t[i].1=node
  ·right
   refine⟨⟨hi,h⟩,?_⟩
   have:(t[i].1==node)=true:=by simpa using h
   rw[this]
   rfl
  ·left
   refine⟨fun⟨_,h1⟩=>h h1,?_⟩
   have:(t[i].1==node)=false:=by simpa using h
   rw[this]
   rfl
 ·intro rec
  simp only[Q71.l0.step]
  rw[decide_eq_false (by omega:¬ ((t.length:Int)<(List.length t:Int)))]
  rfl
def eP (a b:Int):Int:=if a<b then -1 else if a>b then 1 else 0
theorem mg (K:Nat)(a b:Int):Q120.f K (a,b,())=some ((eP a b,()),()):=by
 have hn:∀ x:Int,Q119.f K (x,())=rb false:=fun x=>by simp[Q119.f]
 simp only[Q120.f,hn,Option.bind_some,cond_false,eP]
 by_cases h1:a<b
 ·rw[decide_eq_true h1,if_pos h1];rfl
 ·rw[decide_eq_false h1,if_neg h1]
  by_cases h2:a>b
  ·rw[decide_eq_true h2,if_pos h2];rfl
  ·rw[decide_eq_false h2,if_neg h2];rfl
theorem qi (a b:Int):eP a b<0↔a<b:=by
 unfold eP
 by_cases h1:a<b
 ·simp[h1]
 ·by_cases h2:a>b <;> simp[h1,h2]
theorem sx (a b:Int):eP a b>0↔a>b:=by
 unfold eP
 by_cases h1:a<b
 ·simp[h1];omega
 ·by_cases h2:a>b <;> simp[h1,h2]
theorem gf (a b:Int):eP a b=0↔a=b:=by
 unfold eP
 by_cases h1:a<b
 ·simp[h1];omega
 ·by_cases h2:a>b <;> simp[h1,h2] <;> omega
structure Cut (t:List ao) (node:Int) (m:Nat):Prop where
 le:m≤t.length
 lo:∀ i,(h:i<t.length)→i<m→t[i].1<node
 hi:∀ i,(h:i<t.length)→m≤i→node≤t[i].1
theorem qj (K:Nat)(t:List ao)(node:Int)(ht:t.length≤1048576)(hasc:Asc (fun f:ao=>f.1) t)(hK:1048577<K) :
  ∃ m,Cut t node m∧Q122.f K (t,node,())=some ((((m:Nat):Int),decide (∃ h:m<t.length,t[m].1=node),()),()):=by
 let ks:Nat→Int:=fun i=>if h:i<t.length then t[i].1 else 0
 have hks:∀ i (h:i<t.length),ks i=t[i].1:=fun i h=>by simp[ks,h]
 let fin:Nat→Option ((Int×Bool×Unit)×Unit):=fun m=>some ((((m:Nat):Int),decide (∃ h:m<t.length,t[m].1=node),()),())
 have φ:∀ f:ao,((Q121.f K (f,node,())).map fun y=>y.1.1)=some (eP f.1 node):=fun f=>by
  simp only[Q121.f]
  rw[mg]
  rfl
 have:=ui (step:=fun rec a=>Q118.l0.step K (t,node,(fun y1=>(Q121.f K (y1.1,y1.2.1,())).map fun y=>y.1.1),()) rec a) (ks:=ks) (n:=t.length) (t:=node) fin ht
  (fun i j hij hj=>by
   rw[hks i (by omega),hks j hj]
   exact dr.1 hasc i j (by omega) hj hij) ?_ ?_ t.length K 0 t.length (by omega) (Nat.zero_le _) (Nat.le_refl _) (by omega) (fun i hi=>by omega) (fun i hi hn=>by omega)
 ·obtain⟨m,h1,h2,h3,h4⟩:=this
  refine⟨m,⟨h1,fun i h hi=>by rw[← hks i h];exact h2 i hi,fun i h hi=>by rw[← hks i h];exact h3 i hi h⟩,?_⟩
  simp only[Q122.f]
  have e:Q118.f K (t,node,(fun y1=>(Q121.f K (y1.1,y1.2.1,())).map fun y=>y.1.1),())=fin m:=h4
  rw[e]
  rfl
 ·intro rec a b hab hb
  have hm:(a+b) / 2<t.length:=by omega
  simp only[Q118.l0.step]
  rw[decide_eq_true (by omega:(a:Int)<(b:Int)),sw (by omega)]
  simp only[cond_true]
  rw[ag hm]
  simp only[Option.bind_some,φ]
  rw[hks _ hm,aq _ (by omega)]
  by_cases h:t[(a+b) / 2].1<node
  ·rw[if_pos h,decide_eq_true ((qi _ _).2 h)];rfl
  ·rw[if_neg h,decide_eq_false (fun h1=>h ((qi _ _).1 h1))];rfl
 ·intro rec a ha
  simp only[Q118.l0.step]
  rw[decide_eq_false (by omega)]
  simp only[cond_false]
  by_cases h:a<t.length
  ·rw[decide_eq_true (by omega:(a:Int)<(List.length t:Int)),ag h]
   simp only[cond_true,Option.bind_some,φ,fin]
   congr 3
   by_cases h1:t[a].1=node
   ·have:(eP t[a].1 node==0)=true:=by simpa using (gf t[a].1 node).2 h1
    rw[this,decide_eq_true ⟨h,h1⟩]
   ·have:(eP t[a].1 node==0)=false:=by
     rw[beq_eq_false_iff_ne]
     exact fun e=>h1 ((gf _ _).1 e)
    rw[this,decide_eq_false (fun⟨_,h2⟩=>h1 h2)]
  ·rw[decide_eq_false (by omega)]
   simp only[cond_false,fin]
   rw[decide_eq_false (fun⟨h1,_⟩=>h h1)]
end Go.Proofs.YthgnfidnmnkeaaaGreatEv
namespace Go.Proofs.YthgnfidnmnkeaaaGreatEv
open Go
def aW (n:Int):Int:=wr .i64 (Int.tdiv n 4)
theorem jg (K:Nat)(n:Int):Q66.f K (n,())=some ((aW n,()),()):=rfl
theorem uj (K:Nat)(n:Int):Q112.f K (n,())=some ((aW n,()),()):=rfl
theorem oC (K:Nat)(n:Node):Q115.f K (n,())=some ((aW n.1,()),()):=rfl
@[reducible] def Node.table (n:Node):List ao:=n.2.2.2.2.2.2.2.2.1
@[reducible] def Node.cast (n:Node):List aE:=n.2.2.2.2.2.2.2.2.2.1
@[reducible] def ae (n:Node):ao:=n.2.2.2.2.2.2.2.2.2.2.1
@[reducible] def Node.doubts (n:Node):List bi:=n.2.2.2.2.2.2.2.2.2.2.2.1
@[reducible] def cA (n:Node):ii:=n.2.2.2.2.2.2.2.2.2.2.2.2.1
@[reducible] def Node.places (n:Node):List d6:=n.2.2.2.2.2.2.2.2.2.2.2.2.2.1
@[reducible] def Node.others (n:Node):List bU:=n.2.2.2.2.2.2.2.2.2.2.2.2.2.2
structure NB (n:Node):Prop where
 table:(Node.table n).length≤1048576
 cast:(Node.cast n).length≤1048576
 doubts:(Node.doubts n).length≤1048576
 by_:∀ d∈Node.doubts n,d.2.2.2.length≤1048576
 places:(Node.places n).length≤1048576
 trips:∀ p∈Node.places n,p.2.2.length≤1048576
 others:(Node.others n).length≤1048576
 facts:∀ x∈Node.others n,x.2.length≤1048576
def ij (t:List ao)(s:Int):Prop:=∀ f∈t,aW f.1=s
theorem na (K:Nat)(t:List ao)(s:Int)(ht:t.length≤1048576)(hK:1048577<K):Ret (Q70.f K (t,s,())) (ij t s):=by
 refine (fu t (step:=fun rec a=>Q70.l0.step K (t,s,()) rec a) (fun i hi=>¬ aW t[i].1≠s) ht ?_ ?_ hK (fun _=>Ret.yes trivial)).iff (em.trans ?_)
 ·intro rec i hi
  simp only[Q70.l0.step]
  rw[decide_eq_true (by omega:(i:Int)<(List.length t:Int))]
  exact Rnd.ix (ag hi) ((Rnd.cndN (P:=aW t[i].1≠s) (by simp[aW]) (fun _=>Rnd.end_)).iff (by simp))
 ·intro rec
  simp only[Q70.l0.step]
  rw[decide_eq_false (by omega:¬ ((t.length:Int)<(List.length t:Int)))]
  rfl
 ·rw[ij,cU]
  exact⟨fun h i hi=>Classical.not_not.1 (h i hi),fun h i hi=>Classical.not_not.2 (h i hi)⟩
theorem uk (K:Nat)(t:List ao)(φ:ao×Unit→Option Bool)(p:ao→Prop)(ht:t.length≤1048576)(hK:1048577<K)(hφ:∀ f∈t,∃ b,φ (f,())=some b∧(b=true↔p f)) :
  Ret (Q111.f K (t,φ,())) (∃ f∈t,p f):=by
 have:=cr (step:=fun rec a=>Q110.l0.step K (t,φ,()) rec a) t.length (fun i=>(i:Int)) (fun j=>∃ h:j<t.length,p t[j]) (some ((-1,()),())) (fun j=>some ((((j:Nat):Int),()),())) ?_ ?_ t.length K 0 (by omega) (by omega)
 ·simp only[Q111.f]
  rcases this with ⟨h1,h2⟩|⟨j,_,h1,⟨h3,h4⟩,_,h2⟩
  ·have e:Q110.f K (t,φ,())=some ((-1,()),()):=h2
   rw[e]
   refine Ret.of ?_
   simp only[ge_iff_le,decide_eq_true_eq]
   refine⟨fun h=>absurd h (by decide),fun⟨f,hf,hp⟩=>?_⟩
   obtain⟨i,hi,e1⟩:=List.getElem_of_mem hf
   exact absurd ⟨hi,e1 ▸ hp⟩ (h1 i (Nat.zero_le _) hi)
  ·have e:Q110.f K (t,φ,())=some ((((j:Nat):Int),()),()):=h2
   rw[e]
   refine Ret.of ?_
   simp only[ge_iff_le,decide_eq_true_eq]
   exact⟨fun _=>⟨t[j],List.getElem_mem h3,h4⟩,fun _=>Int.natCast_nonneg j⟩
 ·intro rec i hi
  simp only[Q110.l0.step]
  rw[decide_eq_true (by omega:(i:Int)<(List.length t:Int)),ag hi,aq i (by omega)]
  simp only[cond_true,Option.bind_some]
  obtain⟨b,h1,h2⟩:=hφ t[i] (List.getElem_mem hi)
  rw[h1]
  simp only[Option.bind_some]
  cases b with
  |true=>exact .inr ⟨⟨hi,h2.1 rfl⟩,rfl⟩
  |false=>exact .inl ⟨fun⟨_,h⟩=>by simpa using h2.2 h,rfl⟩
 ·intro rec
  simp only[Q110.l0.step]
  rw[decide_eq_false (by omega:¬ ((t.length:Int)<(List.length t:Int)))]
  rfl
theorem o7 (K:Nat)(t:List aE)(φ:aE×Unit→Option Bool)(p:aE→Prop)(ht:t.length≤1048576)(hK:1048577<K)(hφ:∀ f∈t,∃ b,φ (f,())=some b∧(b=true↔p f)) :
  Ret (Q125.f K (t,φ,())) (∃ f∈t,p f):=by
 have:=cr (step:=fun rec a=>Q124.l0.step K (t,φ,()) rec a) t.length (fun i=>(i:Int)) (fun j=>∃ h:j<t.length,p t[j]) (some ((-1,()),())) (fun j=>some ((((j:Nat):Int),()),())) ?_ ?_ t.length K 0 (by omega) (by omega)
 ·simp only[Q125.f]
  rcases this with ⟨h1,h2⟩|⟨j,_,h1,⟨h3,h4⟩,_,h2⟩
  ·have e:Q124.f K (t,φ,())=some ((-1,()),()):=h2
   rw[e]
   refine Ret.of ?_
   simp only[ge_iff_le,decide_eq_true_eq]
   refine⟨fun h=>absurd h (by decide),fun⟨f,hf,hp⟩=>?_⟩
   obtain⟨i,hi,e1⟩:=List.getElem_of_mem hf
   exact absurd ⟨hi,e1 ▸ hp⟩ (h1 i (Nat.zero_le _) hi)
  ·have e:Q124.f K (t,φ,())=some ((((j:Nat):Int),()),()):=h2
   rw[e]
   refine Ret.of ?_
   simp only[ge_iff_le,decide_eq_true_eq]
   exact⟨fun _=>⟨t[j],List.getElem_mem h3,h4⟩,fun _=>Int.natCast_nonneg j⟩
 ·intro rec i hi
  simp only[Q124.l0.step]
  rw[decide_eq_true (by omega:(i:Int)<(List.length t:Int)),ag hi,aq i (by omega)]
  simp only[cond_true,Option.bind_some]
  obtain⟨b,h1,h2⟩:=hφ t[i] (List.getElem_mem hi)
  rw[h1]
  simp only[Option.bind_some]
  cases b with
  |true=>exact .inr ⟨⟨hi,h2.1 rfl⟩,rfl⟩
  |false=>exact .inl ⟨fun⟨_,h⟩=>by simpa using h2.2 h,rfl⟩
 ·intro rec
  simp only[Q124.l0.step]
  rw[decide_eq_false (by omega:¬ ((t.length:Int)<(List.length t:Int)))]
  rfl
theorem vt (K:Nat)(t:List Int)(φ:Int×Unit→Option Bool)(p:Int→Prop)(ht:t.length≤1048576)(hK:1048577<K)(hφ:∀ f∈t,∃ b,φ (f,())=some b∧(b=true↔p f)) :
  Ret (Q141.f K (t,φ,())) (∃ f∈t,p f):=by
 have:=cr (step:=fun rec a=>Q140.l0.step K (t,φ,()) rec a) t.length (fun i=>(i:Int)) (fun j=>∃ h:j<t.length,p t[j]) (some ((-1,()),())) (fun j=>some ((((j:Nat):Int),()),())) ?_ ?_ t.length K 0 (by omega) (by omega)
 ·simp only[Q141.f]
  rcases this with ⟨h1,h2⟩|⟨j,_,h1,⟨h3,h4⟩,_,h2⟩
  ·have e:Q140.f K (t,φ,())=some ((-1,()),()):=h2
   rw[e]
   refine Ret.of ?_
   simp only[ge_iff_le,decide_eq_true_eq]
   refine⟨fun h=>absurd h (by decide),fun⟨f,hf,hp⟩=>?_⟩
   obtain⟨i,hi,e1⟩:=List.getElem_of_mem hf
   exact absurd ⟨hi,e1 ▸ hp⟩ (h1 i (Nat.zero_le _) hi)
  ·have e:Q140.f K (t,φ,())=some ((((j:Nat):Int),()),()):=h2
   rw[e]
   refine Ret.of ?_
   simp only[ge_iff_le,decide_eq_true_eq]
   exact⟨fun _=>⟨t[j],List.getElem_mem h3,h4⟩,fun _=>Int.natCast_nonneg j⟩
 ·intro rec i hi
  simp only[Q140.l0.step]
  rw[decide_eq_true (by omega:(i:Int)<(List.length t:Int)),ag hi,aq i (by omega)]
  simp only[cond_true,Option.bind_some]
  obtain⟨b,h1,h2⟩:=hφ t[i] (List.getElem_mem hi)
  rw[h1]
  simp only[Option.bind_some]
  cases b with
  |true=>exact .inr ⟨⟨hi,h2.1 rfl⟩,rfl⟩
  |false=>exact .inl ⟨fun⟨_,h⟩=>by simpa using h2.2 h,rfl⟩
 ·intro rec
  simp only[Q140.l0.step]
  rw[decide_eq_false (by omega:¬ ((t.length:Int)<(List.length t:Int)))]
  rfl
theorem Ret.fn {o:Option RB}{P:Prop}(h:Ret o P):∃ b,(o.map fun y=>y.1.1)=some b∧(b=true↔P):=by
 obtain⟨b,h1,h2⟩:=h
 exact⟨b,by rw[h1];rfl,h2⟩
theorem nc (K:Nat)(t:List ao)(s:Int)(ht:t.length≤1048576)(hK:1048577<K):Ret (Q114.f K (t,s,())) (ij t s):=by
 refine (Ret.neg (uk K t (fun y1=>(Q113.f K (y1.1,s,())).map fun y=>y.1.1) (fun f=>aW f.1≠s) ht hK (fun f _=>?_))).iff ?_
 ·exact⟨_,rfl,by simp[aW]⟩
 ·exact⟨fun h f hf=>Classical.not_not.1 fun h2=>h ⟨f,hf,h2⟩,fun h ⟨f,hf,h2⟩=>h2 (h f hf)⟩
theorem iv (K:Nat)(t:List ao)(node:Int)(ht:t.length≤1048576)(hK:1048577<K) :
  (¬ aT t∧Q123.f K (t,node,())=some (((0,(0,(0,false))),false,()),())) ∨
  (aT t∧((∃ f∈t,f.1=node∧Q123.f K (t,node,())=some ((f,true,()),()))∨((∀ f∈t,f.1≠node)∧Q123.f K (t,node,())=some (((0,(0,(0,false))),false,()),())))):=by
 simp only[Q123.f]
 obtain⟨b,h1,h2⟩:=iu K t ht hK
 rw[h1]
 simp only[Option.bind_some]
 cases b with
 |false=>exact .inl ⟨fun h=>by simpa using h2.2 h,rfl⟩
 |true =>
  have hT:=h2.1 rfl
  obtain⟨m,hm,h3⟩:=qj K t node ht hT.2 hK
  refine .inr ⟨hT,?_⟩
  simp only[Bool.not_true,cond_false,h3,Option.bind_some]
  by_cases h:∃ h:m<t.length,t[m].1=node
  ·rw[decide_eq_true h]
   obtain⟨h4,h5⟩:=h
   left
   refine⟨t[m],List.getElem_mem h4,h5,?_⟩
   simp only[Bool.not_true,cond_false]
   rw[ag h4]
   rfl
  ·rw[decide_eq_false h]
   right
   refine⟨?_,rfl⟩
   rw[cU]
   intro i hi e
   rcases Nat.lt_trichotomy i m with h4|h4|h4
   ·have:=hm.lo i hi h4;omega
   ·subst h4;exact h ⟨hi,e⟩
   ·have h5:=hm.hi m (by omega) (Nat.le_refl _)
    have h6:=dr.1 hT.2 m i (by omega) hi h4
    omega
def de (f g:ao):Prop:=if f.2.1≠g.2.1 then f.2.1>g.2.1 else if f.2.2.1≠g.2.2.1 then f.2.2.1>g.2.2.1 else f.2.2.2=true∧g.2.2.2=false
theorem ul (K:Nat)(f g:ao):Ret (Q73.f K (f,g,())) (de f g):=by
 simp only[Q73.f,de]
 by_cases h1:f.2.1=g.2.1
 ·have e:(f.2.1 != g.2.1)=false:=by simpa using h1
  rw[e,if_neg (by simpa using h1)]
  by_cases h2:f.2.2.1=g.2.2.1
  ·have e:(f.2.2.1 != g.2.2.1)=false:=by simpa using h2
   rw[e,if_neg (by simpa using h2)]
   exact (Ret.cnd (b:=f.2.2.2) Iff.rfl (fun _=>Ret.of (b:=!g.2.2.2) (by simp))).iff Iff.rfl
  ·have e:(f.2.2.1 != g.2.2.1)=true:=by simpa using h2
   rw[e,if_pos h2]
   exact Ret.dec
 ·have e:(f.2.1 != g.2.1)=true:=by simpa using h1
  rw[e,if_pos h1]
  exact Ret.dec
def orI:List Int→Int
 |[]=>0
 |x::xs=>if x≠0 then x else orI xs
theorem xb (K:Nat)(xs:List Int)(hx:xs.length≤1048576)(hK:1048577<K):Q129.f K (xs,())=some ((orI xs,()),()):=by
 have key:∀ (d k i:Nat),i+d=xs.length→d<k→ac (fun rec a=>Q129.l0.step K (xs,()) rec a) k (i:Int)=some ((orI (xs.drop i),()),()):=by
  intro d
  induction d with
  |zero =>
   intro k i hi hk
   obtain⟨k,rfl⟩:∃ k',k=k'+1:=⟨k-1,by omega⟩
   show Q129.l0.step K (xs,()) _ _=_
   simp only[Q129.l0.step]
   rw[decide_eq_false (by omega:¬ ((i:Int)<(List.length xs:Int))),List.drop_of_length_le (by omega)]
   rfl
  |succ d ih =>
   intro k i hi hk
   obtain⟨k,rfl⟩:∃ k',k=k'+1:=⟨k-1,by omega⟩
   have ih:=ih k (i+1) (by omega) (by omega)
   show Q129.l0.step K (xs,()) _ _=_
   simp only[Q129.l0.step]
   have hi':i<xs.length:=by omega
   rw[decide_eq_true (by omega:(i:Int)<(List.length xs:Int)),ag hi',aq i (by omega),List.drop_eq_getElem_cons hi']
   simp only[cond_true,Option.bind_some,orI]
   by_cases h:xs[i]=0
   ·have e:(xs[i] != 0)=false:=by simpa using h
    rw[e,if_neg (by simpa using h)]
    exact ih
   ·have e:(xs[i] != 0)=true:=by simpa using h
    rw[e,if_pos h]
    rfl
 have:=key xs.length K 0 (by omega) (by omega)
 rwa [List.drop_zero]at this
def cmpF (f g:ao):Int:=orI [eP f.1 g.1,eP f.2.1 g.2.1,eP f.2.2.1 g.2.2.1,if f.2.2.2=true∧g.2.2.2=false then 1 else if g.2.2.2=true∧f.2.2.2=false then -1 else 0]
theorem lp (K:Nat)(f g:ao)(hK:1048577<K):Q130.f K (f,g,())=some ((cmpF f g,()),()):=by
 obtain⟨a,b,c,d⟩:=f
 obtain⟨a',b',c',d'⟩:=g
 have h:∀ z:Int,Q129.f K ([eP a a',eP b b',eP c c',z],())=some ((orI [eP a a',eP b b',eP c c',z],()),()):=fun z=>xb K _ (by simp) hK
 simp only[Q130.f,cmpF]
 cases d <;> cases d' <;> simp only[Bool.not_true,Bool.not_false,cond_true,cond_false] <;> rw[mg,Option.bind_some,mg,Option.bind_some,mg,Option.bind_some,h] <;> rfl
theorem nd {x:Int}(h:x=0)(xs:List Int):orI (x::xs)=orI xs:=by subst h;rfl
theorem sy {x:Int}(h:x≠0)(xs:List Int):orI (x::xs)=x:=by simp[orI,h]
theorem iw {f g:ao}(e:f.1=g.1):cmpF f g>0↔de f g:=by
 unfold cmpF de
 rw[nd ((gf f.1 g.1).2 e)]
 by_cases h1:f.2.1=g.2.1
 ·rw[nd ((gf f.2.1 g.2.1).2 h1),if_neg (show ¬ f.2.1≠g.2.1 from fun h=>h h1)]
  by_cases h2:f.2.2.1=g.2.2.1
  ·rw[nd ((gf f.2.2.1 g.2.2.1).2 h2),if_neg (show ¬ f.2.2.1≠g.2.2.1 from fun h=>h h2)]
   cases f.2.2.2 <;> cases g.2.2.2 <;> simp[orI]
  ·rw[sy (fun h=>h2 ((gf f.2.2.1 g.2.2.1).1 h)),if_pos (show f.2.2.1≠g.2.2.1 from h2)]
   exact sx _ _
 ·rw[sy (fun h=>h1 ((gf f.2.1 g.2.1).1 h)),if_pos (show f.2.1≠g.2.1 from h1)]
  exact sx _ _
theorem tj (K:Nat)(f g:ao)(hK:1048577<K):Ret (Q131.f K (f,g,())) (cP f∧cP g∧f.1=g.1∧de f g):=by
 refine Ret.and (kE K f) (fun _=>Ret.and (kE K g) (fun _=>?_) rfl) rfl
 refine (Ret.cnd (b:=f.1==g.1) (P:=f.1=g.1) (by simp) (fun e=>?_)).iff Iff.rfl
 show Ret ((Q130.f K (f,g,())).bind _) _
 rw[lp K f g hK]
 refine Ret.of ?_
 simp only[gt_iff_lt,decide_eq_true_eq]
 exact iw e
end Go.Proofs.YthgnfidnmnkeaaaGreatEv
namespace Go.Proofs.YthgnfidnmnkeaaaGreatEv
open Go
theorem bj {n:Nat}{m:Int}(h:(n:Int)<m):decide ((n:Int)<m)=true:=decide_eq_true h
theorem aI (n:Nat):decide ((n:Int)<(n:Int))=false:=decide_eq_false (by omega)
def cH (l:List aE):Prop:=(∀ x∈l,cP x.1∧InP x.2 1 4)∧Asc (fun x:aE=>x.1.1) l
theorem vu (K:Nat)(l:List aE)(hl:l.length≤1048576)(hK:1048577<K):Ret (Q74.f K (l,())) (cH l):=by
 refine (fu l (step:=fun rec a=>Q74.l0.step K (l,()) rec a) (fun i hi=>cP l[i].1∧InP l[i].2 1 4∧(0<i→¬ (l[i-1]'(by omega)).1.1≥l[i].1.1)∧True) hl ?_ ?_ hK (fun _=>Ret.yes trivial)).iff (em.trans ?_)
 ·intro rec i hi
  simp only[Q74.l0.step]
  rw[decide_eq_true (by omega:(i:Int)<(List.length l:Int))]
  simp only[cond_true]
  refine Rnd.ix (ag hi) (Rnd.nx (qg K _) fun _=>Rnd.ix (ag hi) (Rnd.nx (dS K _ 1 4) fun _=>Rnd.two (fun h0=>?_) Rnd.end_))
  rw[eN i h0 (by omega)]
  exact Rnd.ix (ag (by omega)) (Rnd.ix (ag hi) (Rnd.cndN (by simp) fun _=>Rnd.end_))
 ·intro rec
  simp only[Q74.l0.step,aI]
  rfl
 ·rw[cH,cU,gx]
  constructor
  ·intro h
   exact⟨fun i hi=>⟨(h i hi).1,(h i hi).2.1⟩,fun i hi h0=>by have:=(h i hi).2.2.1 h0;omega⟩
  ·rintro⟨h1,h2⟩ i hi
   exact⟨(h1 i hi).1,(h1 i hi).2,fun h0=>by have:=h2 i hi h0;omega,trivial⟩
theorem sA (K:Nat)(l:List aE)(hl:l.length≤1048576)(hK:1048577<K):Q127.f K (l,())=some ((l.map (·.1),()),()):=by
 have key:∀ (d k i:Nat),i+d=l.length→d<k→ac (fun rec a=>Q127.l0.step K (l,()) rec a) k ((l.take i).map (·.1),(i:Int))=some ((l.map (·.1),()),()):=by
  intro d
  induction d with
  |zero =>
   intro k i hi hk
   obtain⟨k,rfl⟩:∃ k',k=k'+1:=⟨k-1,by omega⟩
   show Q127.l0.step K (l,()) _ _=_
   simp only[Q127.l0.step]
   rw[decide_eq_false (by omega:¬ ((i:Int)<(List.length l:Int))),List.take_of_length_le (by omega)]
   rfl
  |succ d ih =>
   intro k i hi hk
   obtain⟨k,rfl⟩:∃ k',k=k'+1:=⟨k-1,by omega⟩
   have ih:=ih k (i+1) (by omega) (by omega)
   show Q127.l0.step K (l,()) _ _=_
   have hi':i<l.length:=by omega
   simp only[Q127.l0.step]
   rw[decide_eq_true (by omega:(i:Int)<(List.length l:Int)),ag hi',aq i (by omega)]
   simp only[cond_true,Option.bind_some]
   have hs:decide ((List.length (List.map (fun x:aE=>x.1) (List.take i l))+List.length [l[i].1])*32≤an)=true:=decide_eq_true (by simp only[an,List.length_map,List.length_take,List.length_singleton];omega)
   rw[hs]
   have e:(List.take i l).map (fun x:aE=>x.1)++[l[i].1]=(l.take (i+1)).map (·.1):=by
    rw[List.take_add_one,List.getElem?_eq_getElem hi',List.map_append]
    rfl
   rw[e]
   exact ih
 have:=key l.length K 0 (by omega) (by omega)
 exact this
theorem tk {l:List aE}:aT (l.map (·.1))↔(∀ x∈l,cP x.1)∧Asc (fun x:aE=>x.1.1) l:=by
 unfold aT Asc
 rw[List.pairwise_map]
 simp
theorem um (K:Nat)(x:aE):Ret (Q126.f K (x,())) (¬ InP x.2 1 4):=by
 simp only[Q126.f]
 exact (eO K x.2 1 4).neg
theorem vv (K:Nat)(l:List aE)(hl:l.length≤1048576)(hK:1048577<K):Ret (Q125.f K (l,(fun y3=>(Q126.f K (y3.1,())).map fun y=>y.1.1),())) (∃ x∈l,¬ InP x.2 1 4) :=
 o7 K l _ (fun x=>¬ InP x.2 1 4) hl hK (fun x _=>Ret.fn (um K x))
theorem ne (K:Nat)(l:List aE)(hl:l.length≤1048576)(hK:1048577<K):Ret (Q128.f K (l,())) (cH l):=by
 simp only[Q128.f]
 obtain⟨b1,h1,h2⟩:=vv K l hl hK
 obtain⟨b2,h3,h4⟩:=iu K (l.map (·.1)) (by simpa using hl) hK
 rw[sA K l hl hK,Option.bind_some,h3,Option.bind_some,h1,Option.bind_some]
 have e:cH l↔(b2=true∧b1=false):=by
  rw[h4,tk,cH,← Bool.not_eq_true,h2]
  constructor
  ·rintro⟨h5,h6⟩
   exact⟨⟨fun x hx=>(h5 x hx).1,h6⟩,fun⟨x,hx,h⟩=>h (h5 x hx).2⟩
  ·rintro⟨⟨h5,h6⟩,h7⟩
   exact⟨fun x hx=>⟨h5 x hx,Classical.not_not.1 fun h=>h7 ⟨x,hx,h⟩⟩,h6⟩
 refine Ret.iff ?_ e.symm
 cases b2 <;> cases b1 <;> exact⟨_,rfl,by simp⟩
def jh (t:List ao)(l:List aE):Prop:=∀ x∈l,∃ f∈t,f.1=x.1.1∧¬ de x.1 f
theorem jR {t:List ao}(h:Asc (fun f:ao=>f.1) t){f g:ao}(hf:f∈t)(hg:g∈t)(e:f.1=g.1):f=g:=by
 obtain⟨i,hi,rfl⟩:=List.getElem_of_mem hf
 obtain⟨j,hj,rfl⟩:=List.getElem_of_mem hg
 have:=m8 h hi hj e
 subst this
 rfl
theorem rP (K:Nat)(n:Node)(hn:NB n)(hT:aT (Node.table n))(hK:1048577<K):Ret (Q75.f K (n,())) (cH (Node.cast n)∧jh (Node.table n) (Node.cast n)):=by
 refine Ret.nx (vu K _ hn.cast hK) fun _=>?_
 refine (fu (Node.cast n) (step:=fun rec a=>Q75.l0.step K (n,()) rec a) (fun i hi=>∃ f∈Node.table n,f.1=(Node.cast n)[i].1.1∧¬ de (Node.cast n)[i].1 f) hn.cast ?_ ?_ hK (fun _=>Ret.yes trivial)).iff (em.trans ?_)
 ·intro rec i hi
  simp only[Q75.l0.step]
  rw[decide_eq_true (by omega:(i:Int)<(List.length (Node.cast n):Int))]
  simp only[cond_true]
  refine Rnd.ix (ag hi) ?_
  obtain⟨o,ho,h1⟩:=e8 K (Node.table n) (Node.cast n)[i].1.1 hn.table hK
  refine Rnd.vl h1 ?_
  cases ho with
  |no h =>
   rw[show decide ((-1:Int)<0)=true from rfl]
   exact .inr ⟨fun⟨f,hf,e,_⟩=>h f hf e,rfl⟩
  |at_ j hj e =>
   simp only
   rw[decide_eq_false (by omega:¬ ((j:Int)<0))]
   refine (Rnd.ix (ag hi) (Rnd.ix (ag hj) (Rnd.fx (ul K _ _) fun _=>Rnd.end_))).iff ⟨fun h=>⟨_,List.getElem_mem hj,e,h.1⟩,fun⟨f,hf,e2,h⟩=>⟨?_,trivial⟩⟩
   have:=jR hT.2 hf (List.getElem_mem hj) (e2.trans e.symm)
   rwa [← this]
 ·intro rec
  simp only[Q75.l0.step,aI]
  rfl
 ·rw[jh,cU]
theorem vw (K:Nat)(n:Node)(hn:NB n)(hT:aT (Node.table n))(hC:cH (Node.cast n))(hK:1048577<K) :
  Ret ((Q125.f K (Node.cast n,(fun y5=>(Q132.f K (y5.1,n,())).map fun y=>y.1.1),())).bind fun y6=>some ((!y6.1.1,()),())) (jh (Node.table n) (Node.cast n)):=by
 refine (Ret.neg (o7 K _ _ (fun x=>¬ ∃ f∈Node.table n,f.1=x.1.1∧¬ de x.1 f) hn.cast hK (fun x hx=>Ret.fn ?_))).iff ?_
 ·simp only[Q132.f]
  rcases iv K (Node.table n) x.1.1 hn.table hK with ⟨h1,_⟩|⟨_,⟨f,hf,e,h1⟩|⟨h2,h1⟩⟩
  ·exact absurd hT h1
  ·refine Ret.vl h1 ?_
   refine (tj K x.1 f hK).id.iff ⟨fun h ⟨g,hg,e2,h3⟩=>?_,fun h=>?_⟩
   ·have:=jR hT.2 hg hf (e2.trans e.symm)
    exact h3 (this ▸ h.2.2.2)
   ·refine⟨(hC.1 x hx).1,hT.1 f hf,e.symm,Classical.not_not.1 fun h3=>h ⟨f,hf,e,h3⟩⟩
  ·refine Ret.vl h1 ?_
   exact Ret.yes (fun⟨f,hf,e,_⟩=>h2 f hf e)
 ·exact⟨fun h x hx=>Classical.not_not.1 fun h2=>h ⟨x,hx,h2⟩,fun h ⟨x,hx,h2⟩=>h2 (h x hx)⟩
def mh (n:Node):Prop:=((n.1,n.2.2.2.2.1,(if n.2.2.1=true then 4 else 1),n.2.2.2.1):ao)∈Node.table n
theorem xc (K:Nat)(n:Node)(hn:NB n)(hT:aT (Node.table n))(hK:1048577<K):Ret (Q72.f K (n,())) (mh n):=by
 simp only[Q72.f]
 obtain⟨o,ho,h1⟩:=e8 K (Node.table n) n.1 hn.table hK
 refine Ret.vl h1 ?_
 cases ho with
 |no h =>
  rw[show decide ((-1:Int)<0)=true from rfl]
  exact Ret.no (fun h2=>h _ h2 rfl)
 |at_ j hj e =>
  simp only
  rw[decide_eq_false (by omega:¬ ((j:Int)<0))]
  refine Ret.vl (ag hj) ?_
  have hmem:mh n↔(Node.table n)[j]=((n.1,n.2.2.2.2.1,(if n.2.2.1=true then 4 else 1),n.2.2.2.1):ao):=by
   constructor
   ·intro h
    exact jR hT.2 (List.getElem_mem hj) h e
   ·intro h
    show _∈_
    rw[← h]
    exact List.getElem_mem hj
  have hx:(Node.table n)[j]=((n.1,n.2.2.2.2.1,(if n.2.2.1=true then 4 else 1),n.2.2.2.1):ao)↔((Node.table n)[j].2.1=n.2.2.2.2.1∧(Node.table n)[j].2.2.1=(if n.2.2.1=true then 4 else 1)∧(Node.table n)[j].2.2.2=n.2.2.2.1):=by
   generalize (Node.table n)[j]=f at e ⊢
   obtain⟨a,b,c,d⟩:=f
   simp at e ⊢
   intro _ _ _
   exact e
  refine Ret.iff ?_ (hmem.trans hx).symm
  cases hg:n.2.2.1 with
  |true=>exact Ret.cnd (by simp) fun _=>Ret.cnd (by simp) fun _=>Ret.of (by simp)
  |false=>exact Ret.cnd (by simp) fun _=>Ret.cnd (by simp) fun _=>Ret.of (by simp)
theorem qk (f g:ao):Ty.eqv ty_impl_Fact_D f g=decide (f=g):=by
 obtain⟨a,b,c,d⟩:=f
 obtain⟨a',b',c',d'⟩:=g
 show (decide (a=a')&&(decide (b=b')&&(decide (c=c')&&(d==d'))))=_
 cases d <;> cases d' <;> simp[Prod.mk.injEq]
theorem xd (f g:ii):Ty.eqv ty_impl_Coord_D f g=decide (f=g):=by
 obtain⟨a,b,c,d⟩:=f
 obtain⟨a',b',c',d'⟩:=g
 show (decide (a=a')&&(decide (b=b')&&(decide (c=c')&&decide (d=d'))))=_
 simp[Prod.mk.injEq]
theorem oD (K:Nat)(n:Node)(hn:NB n)(hK:1048577<K):Ret (Q133.f K (n,()))
  (aT (Node.table n)∧ij (Node.table n) (aW n.1)∧mh n∧cH (Node.cast n)∧jh (Node.table n) (Node.cast n)):=by
 have rest:∀ (w:Int),aT (Node.table n)→Ret ((Q115.f K (n,())).bind fun y2=>(Q114.f K (Node.table n,y2.1.1,())).bind fun y3=>bif !y3.1.1 then rb false else
   ((Q128.f K (Node.cast n,())).bind fun y4=>bif !y4.1.1 then rb false else
    ((Q125.f K (Node.cast n,(fun y5=>(Q132.f K (y5.1,n,())).map fun y=>y.1.1),())).bind fun y6=>some ((!y6.1.1,()),()))))
   (ij (Node.table n) (aW n.1)∧cH (Node.cast n)∧jh (Node.table n) (Node.cast n)):=by
  intro _ hT
  exact Ret.vl (oC K n) (Ret.nx (nc K _ _ hn.table hK) fun _=>Ret.nx (ne K _ hn.cast hK) fun hC=>vw K n hn hT hC hK)
 have main:∀ (w:Int),w=(if n.2.2.1=true then 4 else 1)→Ret ((Q123.f K (Node.table n,n.1,())).bind fun y1=>bif !y1.1.2.1 then rb false else bif !Ty.eqv ty_impl_Fact_D y1.1.1 (n.1,(n.2.2.2.2.1,(w,n.2.2.2.1))) then rb false else
   ((Q115.f K (n,())).bind fun y2=>(Q114.f K (Node.table n,y2.1.1,())).bind fun y3=>bif !y3.1.1 then rb false else
   ((Q128.f K (Node.cast n,())).bind fun y4=>bif !y4.1.1 then rb false else
    ((Q125.f K (Node.cast n,(fun y5=>(Q132.f K (y5.1,n,())).map fun y=>y.1.1),())).bind fun y6=>some ((!y6.1.1,()),())))))
   (aT (Node.table n)∧ij (Node.table n) (aW n.1)∧mh n∧cH (Node.cast n)∧jh (Node.table n) (Node.cast n)):=by
  intro w hw
  rcases iv K (Node.table n) n.1 hn.table hK with ⟨h1,h2⟩|⟨hT,⟨f,hf,e,h1⟩|⟨h2,h1⟩⟩
  ·exact Ret.vl h2 (Ret.no (fun h=>h1 h.1))
  ·refine Ret.vl h1 ?_
   simp only[Bool.not_true,cond_false]
   rw[qk]
   by_cases h3:f=(n.1,(n.2.2.2.2.1,(w,n.2.2.2.1)))
   ·rw[decide_eq_true h3]
    have hS:mh n:=by
     show _∈_
     rw[← hw,← h3]
     exact hf
    exact (rest w hT).iff ⟨fun h=>⟨hT,h.1,hS,h.2.1,h.2.2⟩,fun h=>⟨h.2.1,h.2.2.2⟩⟩
   ·rw[decide_eq_false h3]
    refine Ret.no (fun h=>h3 ?_)
    have:=jR hT.2 hf h.2.2.1 e
    rw[this,hw]
  ·refine Ret.vl h1 (Ret.no (fun h=>h2 _ h.2.2.1 rfl))
 simp only[Q133.f]
 cases hg:n.2.2.1 with
 |true=>exact main 4 (by rw[hg];rfl)
 |false=>exact main 1 (by rw[hg];rfl)
def kf (n:Node):Prop:=if (ae n).1=-1 then ae n=(-1,0,0,false) else
 (ae n).1≠n.1∧(∃ f∈Node.table n,f.1=(ae n).1)∧InP (ae n).2.1 0 n.2.2.2.2.2.1∧InP (ae n).2.2.1 1 n.2.2.2.2.2.2.1
theorem wC (K:Nat)(n:Node)(hn:NB n)(hK:1048577<K):Ret (Q76.f K (n,())) (kf n):=by
 simp only[Q76.f,kf]
 by_cases h:(ae n).1=-1
 ·rw[if_pos h,show ((ae n).1==-1)=true by simpa using h]
  refine (Ret.cnd (P:=(ae n).2.1=0) (by simp) fun _=>Ret.cnd (P:=(ae n).2.2.1=0) (by simp) fun _=>Ret.of (P:=(ae n).2.2.2=false) (by simp)).iff ?_
  generalize ae n=p at h ⊢
  obtain⟨a,b,c,d⟩:=p
  simp at h ⊢
  intro _ _ _
  exact h
 ·rw[if_neg h,show ((ae n).1==-1)=false by simpa using h]
  refine Ret.cnd (by simp) fun _=>?_
  obtain⟨o,ho,h1⟩:=e8 K (Node.table n) (ae n).1 hn.table hK
  refine Ret.vl h1 ?_
  cases ho with
  |no h2=>exact Ret.no (fun⟨⟨f,hf,e⟩,_⟩=>h2 f hf e)
  |at_ j hj e =>
   simp only
   rw[show decide ((j:Int)≥0)=true from decide_eq_true (by omega)]
   exact (Ret.px (dS K _ _ _) fun _=>(dS K _ _ _).id).iff ⟨fun h3=>⟨⟨_,List.getElem_mem hj,e⟩,h3⟩,fun h3=>h3.2⟩
theorem wD (K:Nat)(n:Node)(hn:NB n)(hT:aT (Node.table n))(hK:1048577<K):Ret (Q134.f K (n,())) (kf n):=by
 simp only[Q134.f,kf]
 by_cases h:(ae n).1=-1
 ·rw[if_pos h,show ((ae n).1==-1)=true by simpa using h,qk]
  exact Ret.dec
 ·rw[if_neg h,show ((ae n).1==-1)=false by simpa using h]
  rcases iv K (Node.table n) (ae n).1 hn.table hK with ⟨h1,_⟩|⟨_,⟨f,hf,e,h1⟩|⟨h2,h1⟩⟩
  ·exact absurd hT h1
  ·refine Ret.vl h1 ?_
   exact (Ret.cnd (P:=(ae n).1≠n.1) (by simp) fun _=>Ret.px (eO K _ _ _) fun _=>(eO K _ _ _).id).iff ⟨fun h3=>⟨h3.1,⟨f,hf,e⟩,h3.2⟩,fun h3=>⟨h3.1,h3.2.2⟩⟩
  ·exact Ret.vl h1 (Ret.no (fun⟨_,⟨f,hf,e⟩,_⟩=>h2 f hf e))
end Go.Proofs.YthgnfidnmnkeaaaGreatEv
namespace Go.Proofs.YthgnfidnmnkeaaaGreatEv
open Go
def kg (c:ii):Prop:=InP c.1 (-100000) 100000∧InP c.2.1 (-100000) 100000∧InP c.2.2.1 0 100000∧InP c.2.2.2 1 1500
theorem oE (K:Nat)(c:ii):Ret (Q78.f K (c,())) (kg c) :=
 Ret.px (dS K _ _ _) fun _=>Ret.px (dS K _ _ _) fun _=>Ret.px (dS K _ _ _) fun _=>(dS K _ _ _).id
theorem oF (K:Nat)(c:ii):Ret (Q137.f K (c,())) (kg c) :=
 Ret.px (eO K _ _ _) fun _=>Ret.px (eO K _ _ _) fun _=>Ret.px (eO K _ _ _) fun _=>(eO K _ _ _).id
def xe (me:Int)(p:d6):Prop:=InP p.1 0 7∧aW p.1=aW me∧p.1≠me∧kg p.2.1∧InP (p.2.2.length:Int) 1 3∧∀ t∈p.2.2,InP t 1 60000
def kh (me:Int)(l:List d6):Prop:=(∀ p∈l,xe me p)∧Asc (fun p:d6=>p.1) l
theorem un (K:Nat)(n:Node)(x:Int):Ret (Q135.f K (n,x,())) (InP x 0 7∧aW x=aW n.1):=by
 refine Ret.px (m9 K x) fun _=>?_
 exact Ret.of (b:=aW x==aW n.1) (by simp)
theorem wE (K:Nat)(n:Node)(x:Int):Ret (Q138.f K (n,x,())) ((InP x 0 7∧aW x=aW n.1)∧x≠n.1):=by
 refine Ret.px (un K n x) fun _=>?_
 exact Ret.of (b:=x != n.1) (by simp)
theorem vz (K:Nat)(n:Node)(hn:NB n)(hK:1048577<K):Ret (Q79.f K (n,())) (kh n.1 (Node.places n)):=by
 refine (fu (Node.places n) (step:=fun rec a=>Q79.l0.step K (n,()) (Q79.l1 K (n,()) rec) rec a)
  (fun i hi=>InP (Node.places n)[i].1 0 7∧¬ aW (Node.places n)[i].1≠aW n.1∧¬ (Node.places n)[i].1=n.1∧(0<i→¬ ((Node.places n)[i-1]'(by omega)).1≥(Node.places n)[i].1) ∧
   kg (Node.places n)[i].2.1∧InP ((Node.places n)[i].2.2.length:Int) 1 3∧∀ k (hk:k<(Node.places n)[i].2.2.length),InP (Node.places n)[i].2.2[k] 1 60000∧True) hn.places ?_ ?_ hK (fun _=>Ret.yes trivial)).iff (em.trans ?_)
 ·intro rec i hi
  have hb:=hn.trips _ (List.getElem_mem hi)
  have hl:=hn.places
  have inner:Rnd (Q79.l1 K (n,()) rec ((i:Int),0,(Node.places n)[i].1,(Node.places n)[i].2.1.1,(Node.places n)[i].2.1.2.1,(Node.places n)[i].2.1.2.2.1,(Node.places n)[i].2.1.2.2.2,(Node.places n)[i].2.2))
    (∀ k (hk:k<(Node.places n)[i].2.2.length),InP (Node.places n)[i].2.2[k] 1 60000∧True) (rec (wr .i64 ((i:Int)+1))):=by
   generalize (Node.places n)[i]=p at hb
   refine m7 p.2.2 (step:=fun rec1 a=>Q79.l1.step K (n,()) rec rec1 a) (fun k=>((i:Int),(k:Int),p.1,p.2.1.1,p.2.1.2.1,p.2.1.2.2.1,p.2.1.2.2.2,p.2.2)) (fun k hk=>InP p.2.2[k] 1 60000∧True) hb ?_ ?_ hK
   ·intro rec1 k hk
    simp only[Q79.l1.step]
    rw[decide_eq_true (by omega:(k:Int)<(List.length p.2.2:Int)),aq k (by omega)]
    simp only[cond_true]
    exact Rnd.ix (ag hk) (Rnd.nx (dS K _ _ _) fun _=>Rnd.end_)
   ·intro rec1
    simp only[Q79.l1.step,aI]
    rfl
  simp only[Q79.l0.step]
  rw[decide_eq_true (by omega:(i:Int)<(List.length (Node.places n):Int))]
  simp only[cond_true]
  refine Rnd.ix (ag hi) (Rnd.nx (dS K _ _ _) fun _=>Rnd.vl (jg K _) (Rnd.vl (jg K _) (Rnd.cndN (by simp) fun _=>Rnd.cndN (by simp) fun _=>Rnd.two (fun h0=>?_) ?_)))
  ·rw[eN i h0 (by omega)]
   exact Rnd.ix (ag (show i-1<(Node.places n).length by omega)) (Rnd.cndN (by simp) fun _=>Rnd.nx (oE K _) fun _=>Rnd.nx (dS K _ _ _) fun _=>inner)
  ·exact Rnd.nx (oE K _) fun _=>Rnd.nx (dS K _ _ _) fun _=>inner
 ·intro rec
  simp only[Q79.l0.step,aI]
  rfl
 ·rw[kh,cU,gx]
  constructor
  ·intro h
   refine⟨fun i hi=>?_,fun i hi h0=>?_⟩
   ·obtain⟨h1,h2,h3,h4,h5,h6,h7⟩:=h i hi
    exact⟨h1,Classical.not_not.1 h2,h3,h5,h6,cU.2 fun k hk=>(h7 k hk).1⟩
   ·have:=(h i hi).2.2.2.1 h0;omega
  ·rintro⟨h1,h2⟩ i hi
   obtain⟨h3,h4,h5,h6,h7,h8⟩:=h1 i hi
   exact⟨h3,Classical.not_not.2 h4,h5,fun h0=>by have:=h2 i hi h0;omega,h6,h7,fun k hk=>⟨cU.1 h8 k hk,trivial⟩⟩
theorem vA (K:Nat)(n:Node)(hn:NB n)(hK:1048577<K):Ret (Q142.f K (n,())) (kh n.1 (Node.places n)):=by
 refine (fu (Node.places n) (step:=fun rec a=>Q142.l0.step K (n,()) rec a)
  (fun i hi=>((InP (Node.places n)[i].1 0 7∧aW (Node.places n)[i].1=aW n.1)∧(Node.places n)[i].1≠n.1)∧(0<i→¬ (Node.places n)[i].1≤((Node.places n)[i-1]'(by omega)).1) ∧
   kg (Node.places n)[i].2.1∧InP ((Node.places n)[i].2.2.length:Int) 1 3∧(¬ ∃ t∈(Node.places n)[i].2.2,¬ InP t 1 60000)∧True) hn.places ?_ ?_ hK (fun _=>Ret.yes trivial)).iff (em.trans ?_)
 ·intro rec i hi
  have hb:=hn.trips _ (List.getElem_mem hi)
  have hl:=hn.places
  have inner:Ret (Q141.f K ((Node.places n)[i].2.2,(fun y6=>(Q139.f K (y6.1,())).map fun y=>y.1.1),())) (∃ t∈(Node.places n)[i].2.2,¬ InP t 1 60000) :=
   vt K _ _ _ hb hK (fun t _=>Ret.fn (eO K t _ _).neg)
  simp only[Q142.l0.step]
  rw[decide_eq_true (by omega:(i:Int)<(List.length (Node.places n):Int))]
  simp only[cond_true]
  refine Rnd.ix (ag hi) (Rnd.nx (wE K n _) fun _=>Rnd.two (fun h0=>?_) ?_)
  ·rw[eN i h0 (by omega)]
   exact Rnd.ix (ag (show i-1<(Node.places n).length by omega)) (Rnd.cndN (by simp) fun _=>Rnd.nx (oF K _) fun _=>Rnd.nx (eO K _ _ _) fun _=>Rnd.fx inner fun _=>Rnd.end_)
  ·exact Rnd.nx (oF K _) fun _=>Rnd.nx (eO K _ _ _) fun _=>Rnd.fx inner fun _=>Rnd.end_
 ·intro rec
  simp only[Q142.l0.step,aI]
  rfl
 ·rw[kh,cU,gx]
  constructor
  ·intro h
   refine⟨fun i hi=>?_,fun i hi h0=>?_⟩
   ·obtain⟨⟨⟨h1,h2⟩,h3⟩,h4,h5,h6,h7,_⟩:=h i hi
    exact⟨h1,h2,h3,h5,h6,fun t ht=>Classical.not_not.1 fun h8=>h7 ⟨t,ht,h8⟩⟩
   ·have:=(h i hi).2.1 h0;omega
  ·rintro⟨h1,h2⟩ i hi
   obtain⟨h3,h4,h5,h6,h7,h8⟩:=h1 i hi
   exact⟨⟨⟨h3,h4⟩,h5⟩,fun h0=>by have:=h2 i hi h0;omega,h6,h7,fun⟨t,ht,h9⟩=>h9 (h8 t ht),trivial⟩
def xf (me:Int)(x:bU):Prop:=InP x.1 0 1∧x.1≠aW me∧x.2≠[]∧aT x.2∧ij x.2 x.1
def iZ (me:Int)(l:List bU):Prop:=(∀ x∈l,xf me x)∧Asc (fun x:bU=>x.1) l
theorem nf {α:Type}(l:List α):((List.length l:Int)==0)=true↔l=[]:=by
 cases l <;> simp
 omega
theorem vB (K:Nat)(n:Node)(hn:NB n)(hK:1048577<K):Ret (Q80.f K (n,())) (iZ n.1 (Node.others n)):=by
 refine (fu (Node.others n) (step:=fun rec a=>Q80.l0.step K (n,()) rec a)
  (fun i hi=>InP (Node.others n)[i].1 0 1∧¬ (Node.others n)[i].1=aW n.1∧(0<i→¬ ((Node.others n)[i-1]'(by omega)).1≥(Node.others n)[i].1) ∧
   ¬ (Node.others n)[i].2=[]∧aT (Node.others n)[i].2∧ij (Node.others n)[i].2 (Node.others n)[i].1∧True) hn.others ?_ ?_ hK (fun _=>Ret.yes trivial)).iff (em.trans ?_)
 ·intro rec i hi
  have hb:=hn.facts _ (List.getElem_mem hi)
  have hl:=hn.others
  simp only[Q80.l0.step]
  rw[decide_eq_true (by omega:(i:Int)<(List.length (Node.others n):Int))]
  simp only[cond_true]
  refine Rnd.ix (ag hi) (Rnd.nx (dS K _ _ _) fun _=>Rnd.vl (jg K _) (Rnd.cndN (by simp) fun _=>Rnd.two (fun h0=>?_) ?_))
  ·rw[eN i h0 (by omega)]
   exact Rnd.ix (ag (show i-1<(Node.others n).length by omega)) (Rnd.cndN (by simp) fun _=>Rnd.cndN (nf _) fun _=>Rnd.nx (ln K _ hb hK) fun _=>Rnd.nx (na K _ _ hb hK) fun _=>Rnd.end_)
  ·exact Rnd.cndN (nf _) fun _=>Rnd.nx (ln K _ hb hK) fun _=>Rnd.nx (na K _ _ hb hK) fun _=>Rnd.end_
 ·intro rec
  simp only[Q80.l0.step,aI]
  rfl
 ·rw[iZ,cU,gx]
  constructor
  ·intro h
   exact⟨fun i hi=>⟨(h i hi).1,(h i hi).2.1,(h i hi).2.2.2.1,(h i hi).2.2.2.2.1,(h i hi).2.2.2.2.2.1⟩,fun i hi h0=>by have:=(h i hi).2.2.1 h0;omega⟩
  ·rintro⟨h1,h2⟩ i hi
   obtain⟨h3,h4,h5,h6,h7⟩:=h1 i hi
   exact⟨h3,h4,fun h0=>by have:=h2 i hi h0;omega,h5,h6,h7,trivial⟩
theorem vC (K:Nat)(n:Node)(hn:NB n)(hK:1048577<K):Ret (Q143.f K (n,())) (iZ n.1 (Node.others n)):=by
 refine (fu (Node.others n) (step:=fun rec a=>Q143.l0.step K (n,()) rec a)
  (fun i hi=>InP (Node.others n)[i].1 0 1∧¬ (Node.others n)[i].1=aW n.1∧(0<i→¬ (Node.others n)[i].1≤((Node.others n)[i-1]'(by omega)).1) ∧
   ¬ (Node.others n)[i].2=[]∧aT (Node.others n)[i].2∧ij (Node.others n)[i].2 (Node.others n)[i].1∧True) hn.others ?_ ?_ hK (fun _=>Ret.yes trivial)).iff (em.trans ?_)
 ·intro rec i hi
  have hb:=hn.facts _ (List.getElem_mem hi)
  have hl:=hn.others
  have h7:aW 7=1:=by unfold aW;rw[cM (by decide) (by decide)];decide
  have hin:=eO K (Node.others n)[i].1 0 (aW 7)
  rw[h7]at hin
  simp only[Q143.l0.step]
  rw[decide_eq_true (by omega:(i:Int)<(List.length (Node.others n):Int))]
  simp only[cond_true]
  refine Rnd.ix (ag hi) (Rnd.vl (uj K 7) ?_)
  dsimp only
  rw[h7]
  refine Rnd.nx hin fun _=>Rnd.vl (oC K n) (Rnd.cndN (by simp) fun _=>Rnd.two (fun h0=>?_) ?_)
  ·rw[eN i h0 (by omega)]
   exact Rnd.ix (ag (show i-1<(Node.others n).length by omega)) (Rnd.cndN (by simp) fun _=>Rnd.cndN (nf _) fun _=>Rnd.nx (iu K _ hb hK) fun _=>Rnd.nx (nc K _ _ hb hK) fun _=>Rnd.end_)
  ·exact Rnd.cndN (nf _) fun _=>Rnd.nx (iu K _ hb hK) fun _=>Rnd.nx (nc K _ _ hb hK) fun _=>Rnd.end_
 ·intro rec
  simp only[Q143.l0.step,aI]
  rfl
 ·rw[iZ,cU,gx]
  constructor
  ·intro h
   exact⟨fun i hi=>⟨(h i hi).1,(h i hi).2.1,(h i hi).2.2.2.1,(h i hi).2.2.2.2.1,(h i hi).2.2.2.2.2.1⟩,fun i hi h0=>by have:=(h i hi).2.2.1 h0;omega⟩
  ·rintro⟨h1,h2⟩ i hi
   obtain⟨h3,h4,h5,h6,h7⟩:=h1 i hi
   exact⟨h3,h4,fun h0=>by have:=h2 i hi h0;omega,h5,h6,h7,trivial⟩
end Go.Proofs.YthgnfidnmnkeaaaGreatEv
namespace Go.Proofs.YthgnfidnmnkeaaaGreatEv
open Go
def ByP (me:Int)(l:List Int):Prop:=(∀ b∈l,InP b 0 7∧aW b=aW me)∧Asc (fun b:Int=>b) l
def nO (n:Node)(d:bi):Prop:=(∃ f∈Node.table n,f.1=d.1∧f.2.2.1=2∧f.2.1=d.2.1)∧InP d.2.2.1 0 n.2.2.2.2.2.1∧d.2.2.2≠[]∧ByP n.1 d.2.2.2
def aQ (t:List ao):List ao:=t.filter fun f=>f.2.2.1==2
def mi (n:Node):Prop:=(∀ d∈Node.doubts n,nO n d)∧Asc (fun d:bi=>d.1) (Node.doubts n)∧(aQ (Node.table n)).length=(Node.doubts n).length
theorem uo {me:Int}{l:List Int}:ByP me l↔∀ k (hk:k<l.length),(InP l[k] 0 7∧aW l[k]=aW me)∧(0<k→¬ l[k-1]'(by omega)≥l[k]):=by
 rw[ByP,cU,gx]
 constructor
 ·rintro⟨h1,h2⟩ k hk
  exact⟨h1 k hk,fun h0=>by have:=h2 k hk h0;omega⟩
 ·intro h
  exact⟨fun k hk=>(h k hk).1,fun k hk h0=>by have:=(h k hk).2 h0;omega⟩
theorem wF (K:Nat)(n:Node)(hn:NB n)(hK:1048577<K):Q77.l2 K (n,()) (0,0)=rb (decide ((aQ (Node.table n)).length=(Node.doubts n).length)):=by
 have hl:=hn.table
 have key:∀ (d k i c:Nat),i+d=(Node.table n).length→d<k→c≤i →
   ac (fun rec a=>Q77.l2.step K (n,()) rec a) k ((c:Int),(i:Int))=rb (decide (c+(aQ ((Node.table n).drop i)).length=(Node.doubts n).length)):=by
  intro d
  induction d with
  |zero =>
   intro k i c hi hk hc
   obtain⟨k,rfl⟩:∃ k',k=k'+1:=⟨k-1,by omega⟩
   show Q77.l2.step K (n,()) _ _=_
   simp only[Q77.l2.step]
   rw[decide_eq_false (show ¬ ((i:Int)<(List.length (Node.table n):Int)) by omega),List.drop_of_length_le (by omega)]
   simp only[cond_false,aQ,List.filter_nil,List.length_nil,Nat.add_zero]
   have e:((c:Int)==(List.length (Node.doubts n):Int))=decide (c=(Node.doubts n).length):=by
    by_cases h:c=(Node.doubts n).length
    ·rw[decide_eq_true h,h];simp
    ·rw[decide_eq_false h,beq_eq_false_iff_ne];omega
   exact congrArg rb e
  |succ d ih =>
   intro k i c hi hk hc
   obtain⟨k,rfl⟩:∃ k',k=k'+1:=⟨k-1,by omega⟩
   have hi':i<(Node.table n).length:=by omega
   show Q77.l2.step K (n,()) _ _=_
   simp only[Q77.l2.step]
   rw[decide_eq_true (show ((i:Int)<(List.length (Node.table n):Int)) by omega),ag hi',aq i (by omega),aq c (by omega),List.drop_eq_getElem_cons hi']
   simp only[cond_true,Option.bind_some]
   cases hb:((Node.table n)[i].2.2.1==2) with
   |true =>
    have:=ih k (i+1) (c+1) (by omega) (by omega) (by omega)
    simp only[cond_true]
    have e:c+1+(aQ ((Node.table n).drop (i+1))).length=c+(aQ ((Node.table n)[i]::(Node.table n).drop (i+1))).length:=by
     simp only[aQ,List.filter_cons,hb,if_true,List.length_cons]
     omega
    rw[← e]
    exact this
   |false =>
    have:=ih k (i+1) c (by omega) (by omega) (by omega)
    simp only[cond_false]
    have e:aQ ((Node.table n)[i]::(Node.table n).drop (i+1))=aQ ((Node.table n).drop (i+1)):=by
     simp only[aQ,List.filter_cons,hb,Bool.false_eq_true,if_false]
    rw[e]
    exact this
 have:=key (Node.table n).length K 0 0 (by omega) (by omega) (Nat.le_refl _)
 rw[List.drop_zero,Nat.zero_add]at this
 exact this
theorem vD (K:Nat)(n:Node)(hn:NB n)(hT:aT (Node.table n))(hK:1048577<K):Ret (Q77.f K (n,())) (mi n):=by
 refine (fu (Node.doubts n) (step:=fun rec a=>Q77.l0.step K (n,()) (Q77.l1 K (n,()) rec) (Q77.l2 K (n,())) rec a)
  (fun i hi=>(0<i→¬ ((Node.doubts n)[i-1]'(by omega)).1≥(Node.doubts n)[i].1)∧nO n (Node.doubts n)[i]) (Q:=(aQ (Node.table n)).length=(Node.doubts n).length) (rt:=Q77.l2 K (n,()) (0,0)) hn.doubts ?_ ?_ hK (fun _=>by rw[wF K n hn hK];exact Ret.dec)).iff ?_
 ·intro rec i hi
  have hb:=hn.by_ _ (List.getElem_mem hi)
  have hl:=hn.doubts
  have inner:Rnd (Q77.l1 K (n,()) rec ((i:Int),0,(Node.doubts n)[i].1,(Node.doubts n)[i].2.1,(Node.doubts n)[i].2.2.1,(Node.doubts n)[i].2.2.2)) (ByP n.1 (Node.doubts n)[i].2.2.2) (rec (wr .i64 ((i:Int)+1))):=by
   generalize (Node.doubts n)[i]=d at hb
   refine (m7 d.2.2.2 (step:=fun rec1 a=>Q77.l1.step K (n,()) rec rec1 a) (fun k=>((i:Int),(k:Int),d.1,d.2.1,d.2.2.1,d.2.2.2))
    (fun k hk=>InP d.2.2.2[k] 0 7∧¬ aW d.2.2.2[k]≠aW n.1∧(0<k→¬ d.2.2.2[k-1]'(by omega)≥d.2.2.2[k])∧True) hb ?_ ?_ hK).iff ?_
   ·intro rec1 k hk
    simp only[Q77.l1.step]
    rw[decide_eq_true (by omega:(k:Int)<(List.length d.2.2.2:Int)),aq k (by omega)]
    simp only[cond_true]
    refine Rnd.ix (ag hk) (Rnd.nx (dS K _ _ _) fun _=>Rnd.ix (ag hk) (Rnd.vl (jg K _) (Rnd.vl (jg K _) (Rnd.cndN (by simp) fun _=>Rnd.two (fun h0=>?_) Rnd.end_))))
    rw[eN k h0 (by omega)]
    exact Rnd.ix (ag (show k-1<d.2.2.2.length by omega)) (Rnd.ix (ag hk) (Rnd.cndN (by simp) fun _=>Rnd.end_))
   ·intro rec1
    simp only[Q77.l1.step,aI]
    rfl
   ·rw[uo]
    constructor
    ·intro h k hk
     exact⟨⟨(h k hk).1,Classical.not_not.1 (h k hk).2.1⟩,(h k hk).2.2.1⟩
    ·intro h k hk
     exact⟨(h k hk).1.1,Classical.not_not.2 (h k hk).1.2,(h k hk).2,trivial⟩
  obtain⟨o,ho,hf⟩:=e8 K (Node.table n) (Node.doubts n)[i].1 hn.table hK
  simp only[Q77.l0.step]
  rw[decide_eq_true (show ((i:Int)<(List.length (Node.doubts n):Int)) by omega)]
  simp only[cond_true]
  refine Rnd.ix (ag hi) (Rnd.vl hf ?_)
  cases ho with
  |no h =>
   have hno:¬ nO n (Node.doubts n)[i]:=fun⟨⟨f,hf,e,_⟩,_⟩=>h f hf e
   refine Rnd.two (fun h0=>?_) ?_
   ·rw[eN i h0 (by omega)]
    refine Rnd.ix (ag (show i-1<(Node.doubts n).length by omega)) (Rnd.cndN (by simp) fun _=>?_)
    exact .inr ⟨hno,rfl⟩
   ·exact .inr ⟨hno,rfl⟩
  |at_ j hj e =>
   have hdec:decide ((j:Int)<0)=false:=decide_eq_false (by omega)
   have hiff:nO n (Node.doubts n)[i]↔(¬ (Node.table n)[j].2.2.1≠2∧¬ (Node.table n)[j].2.1≠(Node.doubts n)[i].2.1∧InP (Node.doubts n)[i].2.2.1 0 n.2.2.2.2.2.1∧¬ (Node.doubts n)[i].2.2.2=[]∧ByP n.1 (Node.doubts n)[i].2.2.2):=by
    constructor
    ·rintro⟨⟨f,hf,e1,e2,e3⟩,h2,h3,h4⟩
     have:=jR hT.2 hf (List.getElem_mem hj) (e1.trans e.symm)
     subst this
     exact⟨Classical.not_not.2 e2,Classical.not_not.2 e3,h2,h3,h4⟩
    ·rintro⟨e2,e3,h2,h3,h4⟩
     exact⟨⟨_,List.getElem_mem hj,e,Classical.not_not.1 e2,Classical.not_not.1 e3⟩,h2,h3,h4⟩
   refine Rnd.two (fun h0=>?_) ?_
   ·rw[eN i h0 (by omega)]
    refine Rnd.ix (ag (show i-1<(Node.doubts n).length by omega)) (Rnd.cndN (by simp) fun _=>?_)
    simp only[hdec,cond_false]
    refine Rnd.iff ?_ hiff.symm
    exact Rnd.ix (ag hj) (Rnd.cndN (by simp) fun _=>Rnd.ix (ag hj) (Rnd.cndN (by simp) fun _=>Rnd.nx (dS K _ _ _) fun _=>Rnd.cndN (nf _) fun _=>inner))
   ·simp only[hdec,cond_false]
    refine Rnd.iff ?_ hiff.symm
    exact Rnd.ix (ag hj) (Rnd.cndN (by simp) fun _=>Rnd.ix (ag hj) (Rnd.cndN (by simp) fun _=>Rnd.nx (dS K _ _ _) fun _=>Rnd.cndN (nf _) fun _=>inner))
 ·intro rec
  simp only[Q77.l0.step,aI]
  rfl
 ·rw[mi,cU,gx]
  constructor
  ·rintro⟨h1,h2⟩
   exact⟨fun i hi=>(h1 i hi).2,fun i hi h0=>by have:=(h1 i hi).1 h0;omega,h2⟩
  ·rintro⟨h1,h2,h3⟩
   exact⟨fun i hi=>⟨fun h0=>by have:=h2 i hi h0;omega,h1 i hi⟩,h3⟩
theorem wG (K:Nat)(n:Node)(hn:NB n)(S:List ao)(hS:S.length=(Node.doubts n).length)(hK:1048577<K):Ret (Q136.l1 K (n,()) (S,0))
  (∀ i (hi:i<(Node.doubts n).length),(Node.doubts n)[i].1=(S[i]'(by omega)).1∧(Node.doubts n)[i].2.1=(S[i]'(by omega)).2.1∧InP (Node.doubts n)[i].2.2.1 0 n.2.2.2.2.2.1∧(Node.doubts n)[i].2.2.2≠[]∧ByP n.1 (Node.doubts n)[i].2.2.2):=by
 have hl:=hn.doubts
 have main:=kD (step:=fun rec a=>Q136.l1.step K (n,()) (Q136.l2 K (n,()) rec) rec a) (Node.doubts n).length (fun i=>(S,(i:Int)))
  (fun i=>∀ hi:i<(Node.doubts n).length,¬ (Node.doubts n)[i].1≠(S[i]'(by omega)).1∧¬ (Node.doubts n)[i].2.1≠(S[i]'(by omega)).2.1∧InP (Node.doubts n)[i].2.2.1 0 n.2.2.2.2.2.1∧¬ (Node.doubts n)[i].2.2.2=[]∧ByP n.1 (Node.doubts n)[i].2.2.2)
  (rb true) (rb false) ?_ ?_ (Node.doubts n).length K 0 (by omega) (by omega)
 ·rcases main with ⟨h1,h2⟩|⟨h1,h2⟩
  ·refine⟨true,h2,iff_of_true rfl fun i hi=>?_⟩
   obtain⟨h3,h4,h5⟩:=h1 i (Nat.zero_le _) hi hi
   exact⟨Classical.not_not.1 h3,Classical.not_not.1 h4,h5⟩
  ·refine⟨false,h2,iff_of_false (by simp) fun h=>h1 fun i _ hi _=>?_⟩
   obtain⟨h3,h4,h5⟩:=h i hi
   exact⟨Classical.not_not.2 h3,Classical.not_not.2 h4,h5⟩
 ·intro rec i hi
  have hb:=hn.by_ _ (List.getElem_mem hi)
  have inner:Rnd (Q136.l2 K (n,()) rec (S,(i:Int),(Node.doubts n)[i].2.2.2,(List.length (Node.doubts n)[i].2.2.2:Int),0,(Node.doubts n)[i].1,(Node.doubts n)[i].2.1,(Node.doubts n)[i].2.2.1,(Node.doubts n)[i].2.2.2)) (ByP n.1 (Node.doubts n)[i].2.2.2) (rec (S,wr .i64 ((i:Int)+1))):=by
   generalize (Node.doubts n)[i]=d at hb
   refine (m7 d.2.2.2 (step:=fun rec1 a=>Q136.l2.step K (n,()) rec rec1 a) (fun k=>(S,(i:Int),d.2.2.2,(List.length d.2.2.2:Int),(k:Int),d.1,d.2.1,d.2.2.1,d.2.2.2))
    (fun k hk=>(InP d.2.2.2[k] 0 7∧aW d.2.2.2[k]=aW n.1)∧(0<k→¬ d.2.2.2[k]≤d.2.2.2[k-1]'(by omega))∧True) hb ?_ ?_ hK).iff ?_
   ·intro rec1 k hk
    simp only[Q136.l2.step]
    rw[decide_eq_true (by omega:(k:Int)<(List.length d.2.2.2:Int)),aq k (by omega)]
    simp only[cond_true]
    refine Rnd.ix (ag hk) (Rnd.nx (un K n _) fun _=>Rnd.two (fun h0=>?_) Rnd.end_)
    rw[eN k h0 (by omega)]
    exact Rnd.ix (ag (show k-1<d.2.2.2.length by omega)) (Rnd.cndN (by simp) fun _=>Rnd.end_)
   ·intro rec1
    simp only[Q136.l2.step,aI]
    rfl
   ·rw[uo]
    constructor
    ·intro h k hk
     exact⟨(h k hk).1,(h k hk).2.1⟩
    ·intro h k hk
     exact⟨(h k hk).1,(h k hk).2,trivial⟩
  have hSi:i<S.length:=by omega
  have hr:Rnd (Q136.l1.step K (n,()) (Q136.l2 K (n,()) rec) rec (S,(i:Int)))
    (¬ (Node.doubts n)[i].1≠S[i].1∧¬ (Node.doubts n)[i].2.1≠S[i].2.1∧InP (Node.doubts n)[i].2.2.1 0 n.2.2.2.2.2.1∧¬ (Node.doubts n)[i].2.2.2=[]∧ByP n.1 (Node.doubts n)[i].2.2.2) (rec (S,((i+1:Nat):Int))):=by
   rw[← aq i (by omega)]
   simp only[Q136.l1.step]
   rw[decide_eq_true (show ((i:Int)<(List.length (Node.doubts n):Int)) by omega),Int.toNat_natCast]
   simp only[cond_true]
   exact Rnd.ix (ag hi) (Rnd.ix (ag hSi) (Rnd.ix (ag hSi) (Rnd.cndN (by simp) fun _=>Rnd.ix (ag hSi) (Rnd.ix (ag hSi) (Rnd.cndN (by simp) fun _=>Rnd.nx (eO K _ _ _) fun _=>Rnd.cndN (nf _) fun _=>inner)))))
  exact hr.imp (fun h=>⟨fun _=>h.1,h.2⟩) (fun h=>⟨fun h2=>h.1 (h2 hi),h.2⟩)
 ·intro rec
  simp only[Q136.l1.step,aI]
  rfl
theorem vE (K:Nat)(n:Node)(hn:NB n)(hT:aT (Node.table n))(hK:1048577<K):Ret (Q136.f K (n,())) (mi n):=by
 have hl:=hn.table
 have hld:=hn.doubts
 have key:∀ (d k i:Nat),i+d=(Node.table n).length→d<k→ac (fun rec a=>Q136.l0.step K (n,()) (Q136.l1 K (n,())) rec a) k (aQ ((Node.table n).take i),(i:Int)) =
   (bif (List.length (Node.doubts n):Int) != (List.length (aQ (Node.table n)):Int) then rb false else Q136.l1 K (n,()) (aQ (Node.table n),0)):=by
  intro d
  induction d with
  |zero =>
   intro k i hi hk
   obtain⟨k,rfl⟩:∃ k',k=k'+1:=⟨k-1,by omega⟩
   show Q136.l0.step K (n,()) _ _ _=_
   simp only[Q136.l0.step]
   rw[decide_eq_false (show ¬ ((i:Int)<(List.length (Node.table n):Int)) by omega),List.take_of_length_le (by omega)]
   rfl
  |succ d ih =>
   intro k i hi hk
   obtain⟨k,rfl⟩:∃ k',k=k'+1:=⟨k-1,by omega⟩
   have ih:=ih k (i+1) (by omega) (by omega)
   have hi':i<(Node.table n).length:=by omega
   show Q136.l0.step K (n,()) _ _ _=_
   simp only[Q136.l0.step]
   rw[decide_eq_true (show ((i:Int)<(List.length (Node.table n):Int)) by omega),ag hi',aq i (by omega)]
   simp only[cond_true,Option.bind_some]
   have e:aQ ((Node.table n).take (i+1))=aQ ((Node.table n).take i)++(if (Node.table n)[i].2.2.1==2 then [(Node.table n)[i]] else []):=by
    rw[aQ,List.take_add_one,List.getElem?_eq_getElem hi',List.filter_append]
    simp[aQ,List.filter_cons]
   cases hb:((Node.table n)[i].2.2.1==2) with
   |true =>
    rw[hb]at e
    simp only[if_true]at e
    simp only[cond_true]
    have hle:(aQ ((Node.table n).take i)).length≤i:=Nat.le_trans (List.length_filter_le _ _) (by simp;omega)
    have hs:decide ((List.length (aQ ((Node.table n).take i))+List.length [(Node.table n)[i]])*32≤an)=true:=decide_eq_true (by simp only[an,List.length_singleton];omega)
    rw[hs]
    rw[e]at ih
    exact ih
   |false =>
    rw[hb]at e
    simp only[Bool.false_eq_true,if_false,List.append_nil]at e
    rw[e]at ih
    exact ih
 have h0:Q136.f K (n,())=_:=key (Node.table n).length K 0 (by omega) (by omega)
 rw[h0]
 have hsub:∀ f∈aQ (Node.table n),f∈Node.table n∧f.2.2.1=2:=fun f hf=>by
  rw[aQ,List.mem_filter]at hf
  exact⟨hf.1,by simpa using hf.2⟩
 have hasc:Asc (fun f:ao=>f.1) (aQ (Node.table n)):=List.Pairwise.filter _ hT.2
 by_cases hlen:(aQ (Node.table n)).length=(Node.doubts n).length
 ·have:((List.length (Node.doubts n):Int) != (List.length (aQ (Node.table n)):Int))=false:=by simp[hlen]
  rw[this]
  refine (wG K n hn _ hlen hK).iff ⟨fun h=>⟨?_,?_,hlen⟩,fun⟨h1,h2,_⟩ i hi=>?_⟩
  ·rw[cU]
   intro i hi
   obtain⟨h3,h4,h5,h6,h7⟩:=h i hi
   obtain⟨h8,h9⟩:=hsub _ (List.getElem_mem (show i<(aQ (Node.table n)).length by omega))
   exact⟨⟨_,h8,h3.symm,h9,h4.symm⟩,h5,h6,h7⟩
  ·rw[dr]at hasc ⊢
   intro i j hi hj hij
   have:=hasc i j (by omega) (by omega) hij
   rw[(h i hi).1,(h j hj).1]
   exact this
  ·have hAB:=mf ((Node.doubts n).map (·.1)) ((aQ (Node.table n)).map (·.1)) (by rw[List.pairwise_map];exact h2) (by rw[List.pairwise_map];exact hasc) (by
    intro x hx
    obtain⟨d,hd,rfl⟩:=List.mem_map.1 hx
    obtain⟨⟨f,hf,e1,e2,_⟩,_⟩:=h1 d hd
    exact List.mem_map.2 ⟨f,by rw[aQ,List.mem_filter];exact⟨hf,by simpa using e2⟩,e1⟩)
   have hAB:=hAB.2 (by simp[hlen])
   have hSi:i<(aQ (Node.table n)).length:=by omega
   have e:(Node.doubts n)[i].1=(aQ (Node.table n))[i].1:=by
    have h3:((Node.doubts n).map (·.1))[i]?=((aQ (Node.table n)).map (·.1))[i]?:=by rw[hAB]
    rw[List.getElem?_map,List.getElem?_map,List.getElem?_eq_getElem hi,List.getElem?_eq_getElem hSi]at h3
    simpa using h3
   obtain⟨⟨f,hf,e1,e2,e3⟩,h4,h5,h6⟩:=h1 _ (List.getElem_mem hi)
   have:=jR hT.2 hf (hsub _ (List.getElem_mem hSi)).1 (e1.trans e)
   subst this
   exact⟨e,e3.symm,h4,h5,h6⟩
 ·have:((List.length (Node.doubts n):Int) != (List.length (aQ (Node.table n)):Int))=true:=by simp;omega
  rw[this]
  exact Ret.no (fun h=>hlen h.2.2)
def pX (n:Node):Prop:=n.2.2.1=false∧n.2.2.2.2.1=0∧n.2.2.2.2.2.1=0∧n.2.2.2.2.2.2.1=0∧n.2.2.2.2.2.2.2.1=0 ∧
 wr .i64 (wr .i64 (wr .i64 (wr .i64 ((List.length (Node.table n):Int)+(List.length (Node.cast n):Int))+(List.length (Node.doubts n):Int))+(List.length (Node.places n):Int))+(List.length (Node.others n):Int))=0 ∧
 ae n=(0,0,0,false)∧cA n=(0,0,0,0)
def UpP (n:Node):Prop:=aT (Node.table n)∧ij (Node.table n) (aW n.1)∧mh n∧(cH (Node.cast n)∧jh (Node.table n) (Node.cast n))∧kf n∧mi n∧kg (cA n)∧kh n.1 (Node.places n)∧iZ n.1 (Node.others n)
def mj (n:Node):Prop:=InP n.1 0 7∧InP n.2.2.2.2.2.1 0 999999∧InP n.2.2.2.2.2.2.1 0 999999∧InP n.2.2.2.2.2.2.2.1 0 8∧InP n.2.2.2.2.1 0 999∧(if n.2.1=true then UpP n else pX n)
theorem vF (K:Nat)(n:Node)(hn:NB n)(hK:1048577<K):Ret (Q81.f K (n,())) (mj n):=by
 refine Ret.nx (dS K _ _ _) fun _=>Ret.nx (dS K _ _ _) fun _=>Ret.nx (dS K _ _ _) fun _=>Ret.nx (dS K _ _ _) fun _=>Ret.nx (dS K _ _ _) fun _=>?_
 dsimp only
 cases hu:n.2.1 with
 |false =>
  simp only[Bool.not_false,cond_true,Bool.false_eq_true,if_false,pX]
  refine Ret.cnd (by simp) fun _=>Ret.cnd (by simp) fun _=>Ret.cnd (by simp) fun _=>Ret.cnd (by simp) fun _=>Ret.cnd (by simp) fun _=>Ret.cnd (by simp) fun _=>?_
  refine Ret.iff (Ret.cnd (P:=(ae n).1=0) (by simp) fun _=>Ret.cnd (P:=(ae n).2.1=0) (by simp) fun _=>Ret.cnd (P:=(ae n).2.2.1=0) (by simp) fun _=>Ret.cnd (P:=(ae n).2.2.2=false) (by simp) fun _ =>
   Ret.cnd (P:=(cA n).1=0) (by simp) fun _=>Ret.cnd (P:=(cA n).2.1=0) (by simp) fun _=>Ret.cnd (P:=(cA n).2.2.1=0) (by simp) fun _=>Ret.of (P:=(cA n).2.2.2=0) (by simp)) ?_
  generalize ae n=p
  generalize cA n=c
  obtain⟨p1,p2,p3,p4⟩:=p
  obtain⟨c1,c2,c3,c4⟩:=c
  simp only[Prod.mk.injEq]
  constructor
  ·rintro⟨h1,h2,h3,h4,h5,h6,h7,h8⟩;exact⟨⟨h1,h2,h3,h4⟩,h5,h6,h7,h8⟩
  ·rintro⟨⟨h1,h2,h3,h4⟩,h5,h6,h7,h8⟩;exact⟨h1,h2,h3,h4,h5,h6,h7,h8⟩
 |true =>
  simp only[Bool.not_true,cond_false,if_true,UpP]
  exact Ret.px (ln K _ hn.table hK) fun hT=>Ret.vl (jg K _) (Ret.px (na K _ _ hn.table hK) fun _=>Ret.px (xc K n hn hT hK) fun _=>Ret.px (rP K n hn hT hK) fun _=>Ret.px (wC K n hn hK) fun _ =>
   Ret.px (vD K n hn hT hK) fun _=>Ret.px (oE K _) fun _=>Ret.px (vz K n hn hK) fun _=>(vB K n hn hK).id)
theorem xg (K:Nat)(n:Node):Ret (Q109.f K (n,())) (pX n):=by
 simp only[Q109.f,qk,xd,pX]
 exact Ret.cnd (by simp) fun _=>Ret.cnd (by simp) fun _=>Ret.cnd (by simp) fun _=>Ret.cnd (by simp) fun _=>Ret.cnd (by simp) fun _=>Ret.cnd (by simp) fun _=>Ret.cnd (by simp) fun _=>Ret.dec
theorem vG (K:Nat)(n:Node)(hn:NB n)(hK:1048577<K):Ret (Q144.f K (n,())) (mj n):=by
 refine Ret.nx (m9 K _) fun _=>Ret.nx (eO K _ _ _) fun _=>Ret.nx (eO K _ _ _) fun _=>Ret.nx (eO K _ _ _) fun _=>Ret.nx (eO K _ _ _) fun _=>?_
 dsimp only
 cases hu:n.2.1 with
 |false =>
  simp only[Bool.not_false,cond_true,Bool.false_eq_true,if_false]
  exact (xg K n).id
 |true =>
  simp only[Bool.not_true,cond_false,if_true,UpP]
  refine Ret.iff (Ret.px (oD K n hn hK) fun hT=>Ret.px (wD K n hn hT.1 hK) fun _=>Ret.px (vE K n hn hT.1 hK) fun _=>Ret.px (oF K _) fun _=>Ret.px (vA K n hn hK) fun _=>(vC K n hn hK).id) ?_
  constructor
  ·rintro⟨⟨h1,h2,h3,h4,h5⟩,h6,h7,h8,h9,h10⟩;exact⟨h1,h2,h3,⟨h4,h5⟩,h6,h7,h8,h9,h10⟩
  ·rintro⟨h1,h2,h3,⟨h4,h5⟩,h6,h7,h8,h9,h10⟩;exact⟨⟨h1,h2,h3,h4,h5⟩,h6,h7,h8,h9,h10⟩
end Go.Proofs.YthgnfidnmnkeaaaGreatEv
namespace Go.Proofs.YthgnfidnmnkeaaaGreatEv
open Go
theorem eh {A R:Type}{step:(A→Option R)→A→Option R}(n:Nat)(S:Nat→A)(rt:Option R)(h:∀ (rec:A→Option R) (i:Nat),i<n→step rec (S i)=rec (S (i+1)))(hend:∀ rec:A→Option R,step rec (S n)=rt)
  {k:Nat} (hk:n<k):ac step k (S 0)=rt:=by
 rcases kD (step:=step) n S (fun _=>True) rt none (fun rec i hi=>.inl ⟨trivial,h rec i hi⟩) hend n k 0 (by omega) hk with ⟨_,h1⟩|⟨h1,_⟩
 ·exact h1
 ·exact absurd (fun _ _ _=>trivial) h1
theorem i8 {α:Type}(xs:List α)(z:α){step:(List α×Int→Option ((List α×Unit)×Unit))→List α×Int→Option ((List α×Unit)×Unit)}(hx:xs.length≤1048576)
  (h:∀ (rec:List α×Int→Option ((List α×Unit)×Unit)) (i:Nat) (out:List α) (hi:i<xs.length),out.length=xs.length→step rec (out,(i:Int))=rec (out.set i xs[i],((i+1:Nat):Int)))
  (hend:∀ (rec:List α×Int→Option ((List α×Unit)×Unit)) (out:List α),step rec (out,(xs.length:Int))=some ((out,()),())) {k:Nat} (hk:1048577<k) :
  ac step k (List.replicate xs.length z,0)=some ((xs,()),()):=by
 have:=eh (step:=step) xs.length (fun i=>(xs.take i++List.replicate (xs.length-i) z,(i:Int))) (some ((xs,()),())) ?_ ?_ (k:=k) (by omega)
 ·simpa using this
 ·intro rec i hi
  rw[h rec i _ hi (by simp;omega)]
  congr 2
  have e0:xs.length-i=(xs.length-(i+1))+1:=by omega
  rw[e0,List.set_append_right _ _ (by simp;omega)]
  have e1:i-(xs.take i).length=0:=by simp;omega
  rw[e1,List.replicate_succ,List.set_cons_zero,List.take_add_one,List.getElem?_eq_getElem hi,List.append_assoc]
  rfl
 ·intro rec
  rw[hend]
  simp
theorem nP (K:Nat)(xs:List ao)(hx:xs.length≤1048576)(hK:1048577<K):Q21.f K (xs,())=some ((xs,()),()):=by
 have hl:Q21.l0 K (xs,()) (List.replicate xs.length (0,(0,(0,false))),0)=some ((xs,()),()):=by
  refine i8 (step:=fun rec a=>Q21.l0.step K (xs,()) rec a) xs (0,(0,(0,false))) hx ?_ ?_ hK
  ·intro rec i out hi ho
   simp only[Q21.l0.step]
   rw[decide_eq_true (by omega:(i:Int)<(List.length xs:Int)),ag hi,ag (show i<out.length by omega),aq i (by omega),Int.toNat_natCast,ag (show i<out.length by omega)]
   simp only[cond_true,Option.bind_some]
   rfl
  ·intro rec out
   simp only[Q21.l0.step,aI]
   rfl
 simp only[Q21.f,Q21.pre]
 rw[decide_eq_true (by omega:(0:Int)≤(List.length xs:Int)),show decide ((List.length xs:Int)*(32:Nat)≤an)=true from decide_eq_true (by simp only[an];omega),Int.toNat_natCast]
 simp only[decide_true,Bool.and_self,cond_true]
 exact hl
theorem uq (K:Nat)(y:aE):Q22.f K (y,())=some ((y,()),()):=rfl
theorem tl (K:Nat)(xs:List aE)(hx:xs.length≤1048576)(hK:1048577<K):Q23.f K (xs,())=some ((xs,()),()):=by
 have hl:Q23.l0 K (xs,()) (List.replicate xs.length ((0,(0,(0,false))),0),0)=some ((xs,()),()):=by
  refine i8 (step:=fun rec a=>Q23.l0.step K (xs,()) rec a) xs ((0,(0,(0,false))),0) hx ?_ ?_ hK
  ·intro rec i out hi ho
   simp only[Q23.l0.step]
   rw[decide_eq_true (by omega:(i:Int)<(List.length xs:Int)),ag hi,ag (show i<out.length by omega),aq i (by omega),Int.toNat_natCast,ag (show i<out.length by omega)]
   simp only[cond_true,Option.bind_some]
   rw[uq]
   rfl
  ·intro rec out
   simp only[Q23.l0.step,aI]
   rfl
 simp only[Q23.f,Q23.pre]
 rw[decide_eq_true (by omega:(0:Int)≤(List.length xs:Int)),show decide ((List.length xs:Int)*(40:Nat)≤an)=true from decide_eq_true (by simp only[an];omega),Int.toNat_natCast]
 simp only[decide_true,Bool.and_self,cond_true]
 exact hl
theorem o8 (K:Nat)(xs:List Int)(hx:xs.length≤1048576)(hK:1048577<K):Q25.f K (xs,())=some ((xs,()),()):=by
 have hl:Q25.l0 K (xs,()) (List.replicate xs.length 0,0)=some ((xs,()),()):=by
  refine i8 (step:=fun rec a=>Q25.l0.step K (xs,()) rec a) xs 0 hx ?_ ?_ hK
  ·intro rec i out hi ho
   simp only[Q25.l0.step]
   rw[decide_eq_true (by omega:(i:Int)<(List.length xs:Int)),ag hi,ag (show i<out.length by omega),aq i (by omega),Int.toNat_natCast,ag (show i<out.length by omega)]
   simp only[cond_true,Option.bind_some]
  ·intro rec out
   simp only[Q25.l0.step,aI]
   rfl
 simp only[Q25.f,Q25.pre]
 rw[decide_eq_true (by omega:(0:Int)≤(List.length xs:Int)),show decide ((List.length xs:Int)*(8:Nat)≤an)=true from decide_eq_true (by simp only[an];omega),Int.toNat_natCast]
 simp only[decide_true,Bool.and_self,cond_true]
 exact hl
theorem tm (K:Nat)(y:bi)(h:y.2.2.2.length≤1048576)(hK:1048577<K):Q26.f K (y,())=some ((y,()),()):=by
 simp only[Q26.f]
 rw[o8 K _ h hK]
 rfl
theorem rQ (K:Nat)(xs:List bi)(hx:xs.length≤1048576)(hb:∀ y∈xs,y.2.2.2.length≤1048576)(hK:1048577<K):Q27.f K (xs,())=some ((xs,()),()):=by
 have hl:Q27.l0 K (xs,()) (List.replicate xs.length (0,(0,(0,[]))),0)=some ((xs,()),()):=by
  refine i8 (step:=fun rec a=>Q27.l0.step K (xs,()) rec a) xs (0,(0,(0,[]))) hx ?_ ?_ hK
  ·intro rec i out hi ho
   simp only[Q27.l0.step]
   rw[decide_eq_true (by omega:(i:Int)<(List.length xs:Int)),ag hi,ag (show i<out.length by omega),aq i (by omega),Int.toNat_natCast,ag (show i<out.length by omega)]
   simp only[cond_true,Option.bind_some]
   rw[tm K _ (hb _ (List.getElem_mem hi)) hK]
   rfl
  ·intro rec out
   simp only[Q27.l0.step,aI]
   rfl
 simp only[Q27.f,Q27.pre]
 rw[decide_eq_true (by omega:(0:Int)≤(List.length xs:Int)),show decide ((List.length xs:Int)*(48:Nat)≤an)=true from decide_eq_true (by simp only[an];omega),Int.toNat_natCast]
 simp only[decide_true,Bool.and_self,cond_true]
 exact hl
theorem tn (K:Nat)(y:d6)(h:y.2.2.length≤1048576)(hK:1048577<K):Q29.f K (y,())=some ((y,()),()):=by
 simp only[Q29.f]
 rw[o8 K _ h hK]
 rfl
theorem rR (K:Nat)(xs:List d6)(hx:xs.length≤1048576)(hb:∀ y∈xs,y.2.2.length≤1048576)(hK:1048577<K):Q30.f K (xs,())=some ((xs,()),()):=by
 have hl:Q30.l0 K (xs,()) (List.replicate xs.length (0,((0,(0,(0,0))),[])),0)=some ((xs,()),()):=by
  refine i8 (step:=fun rec a=>Q30.l0.step K (xs,()) rec a) xs (0,((0,(0,(0,0))),[])) hx ?_ ?_ hK
  ·intro rec i out hi ho
   simp only[Q30.l0.step]
   rw[decide_eq_true (by omega:(i:Int)<(List.length xs:Int)),ag hi,ag (show i<out.length by omega),aq i (by omega),Int.toNat_natCast,ag (show i<out.length by omega)]
   simp only[cond_true,Option.bind_some]
   rw[tn K _ (hb _ (List.getElem_mem hi)) hK]
   rfl
  ·intro rec out
   simp only[Q30.l0.step,aI]
   rfl
 simp only[Q30.f,Q30.pre]
 rw[decide_eq_true (by omega:(0:Int)≤(List.length xs:Int)),show decide ((List.length xs:Int)*(64:Nat)≤an)=true from decide_eq_true (by simp only[an];omega),Int.toNat_natCast]
 simp only[decide_true,Bool.and_self,cond_true]
 exact hl
theorem ql (K:Nat)(y:bU)(h:y.2.length≤1048576)(hK:1048577<K):Q31.f K (y,())=some ((y,()),()):=by
 simp only[Q31.f]
 rw[nP K _ h hK]
 rfl
theorem pG (K:Nat)(xs:List bU)(hx:xs.length≤1048576)(hb:∀ y∈xs,y.2.length≤1048576)(hK:1048577<K):Q32.f K (xs,())=some ((xs,()),()):=by
 have hl:Q32.l0 K (xs,()) (List.replicate xs.length (0,[]),0)=some ((xs,()),()):=by
  refine i8 (step:=fun rec a=>Q32.l0.step K (xs,()) rec a) xs (0,[]) hx ?_ ?_ hK
  ·intro rec i out hi ho
   simp only[Q32.l0.step]
   rw[decide_eq_true (by omega:(i:Int)<(List.length xs:Int)),ag hi,ag (show i<out.length by omega),aq i (by omega),Int.toNat_natCast,ag (show i<out.length by omega)]
   simp only[cond_true,Option.bind_some]
   rw[ql K _ (hb _ (List.getElem_mem hi)) hK]
   rfl
  ·intro rec out
   simp only[Q32.l0.step,aI]
   rfl
 simp only[Q32.f,Q32.pre]
 rw[decide_eq_true (by omega:(0:Int)≤(List.length xs:Int)),show decide ((List.length xs:Int)*(32:Nat)≤an)=true from decide_eq_true (by simp only[an];omega),Int.toNat_natCast]
 simp only[decide_true,Bool.and_self,cond_true]
 exact hl
theorem ur (K:Nat)(n:Node)(hn:NB n)(hK:1048577<K):Q33.f K (n,())=some ((n,()),()):=by
 simp only[Q33.f]
 rw[nP K _ hn.table hK,Option.bind_some,tl K _ hn.cast hK,Option.bind_some,rQ K _ hn.doubts hn.by_ hK,rR K _ hn.places hn.trips hK,pG K _ hn.others hn.facts hK]
 rfl
theorem my (K:Nat)(y:ao):Q34.f K (y,y,())=rb true:=by simp[Q34.f]
theorem qm (K:Nat)(y:ao):Q38.f K (y,y,())=rb true:=by simp[Q38.f]
theorem ji (K:Nat)(y:ii):Q42.f K (y,y,())=rb true:=by simp[Q42.f]
theorem rS (K:Nat)(y:aE):Q36.f K (y,y,())=rb true:=by
 simp only[Q36.f]
 rw[my]
 simp
theorem jj (K:Nat)(xs:List ao)(hx:xs.length≤1048576)(hK:1048577<K):Q35.f K (xs,xs,())=rb true:=by
 have hl:Q35.l0 K (xs,xs,()) 0=rb true:=by
  refine eh (step:=fun rec a=>Q35.l0.step K (xs,xs,()) rec a) xs.length (fun i=>(i:Int)) (rb true) ?_ ?_ (by omega)
  ·intro rec i hi
   simp only[Q35.l0.step]
   rw[decide_eq_true (by omega:(i:Int)<(List.length xs:Int)),ag hi,aq i (by omega)]
   simp only[cond_true,Option.bind_some]
   rw[my]
   rfl
  ·intro rec
   simp only[Q35.l0.step,aI]
   rfl
 simp only[Q35.f,Q35.pre,bne_self_eq_false,cond_false]
 exact hl
theorem qn (K:Nat)(xs:List aE)(hx:xs.length≤1048576)(hK:1048577<K):Q37.f K (xs,xs,())=rb true:=by
 have hl:Q37.l0 K (xs,xs,()) 0=rb true:=by
  refine eh (step:=fun rec a=>Q37.l0.step K (xs,xs,()) rec a) xs.length (fun i=>(i:Int)) (rb true) ?_ ?_ (by omega)
  ·intro rec i hi
   simp only[Q37.l0.step]
   rw[decide_eq_true (by omega:(i:Int)<(List.length xs:Int)),ag hi,aq i (by omega)]
   simp only[cond_true,Option.bind_some]
   rw[rS]
   rfl
  ·intro rec
   simp only[Q37.l0.step,aI]
   rfl
 simp only[Q37.f,Q37.pre,bne_self_eq_false,cond_false]
 exact hl
theorem mz (K:Nat)(xs:List Int)(hx:xs.length≤1048576)(hK:1048577<K):Q39.f K (xs,xs,())=rb true:=by
 have hl:Q39.l0 K (xs,xs,()) 0=rb true:=by
  refine eh (step:=fun rec a=>Q39.l0.step K (xs,xs,()) rec a) xs.length (fun i=>(i:Int)) (rb true) ?_ ?_ (by omega)
  ·intro rec i hi
   simp only[Q39.l0.step]
   rw[decide_eq_true (by omega:(i:Int)<(List.length xs:Int)),ag hi,aq i (by omega)]
   simp only[cond_true,Option.bind_some]
   simp only[bne_self_eq_false,cond_false]
  ·intro rec
   simp only[Q39.l0.step,aI]
   rfl
 simp only[Q39.f,Q39.pre,bne_self_eq_false,cond_false]
 exact hl
theorem qo (K:Nat)(y:bi)(h:y.2.2.2.length≤1048576)(hK:1048577<K):Q40.f K (y,y,())=rb true:=by
 simp only[Q40.f]
 rw[mz K _ h hK]
 simp
theorem pH (K:Nat)(xs:List bi)(hx:xs.length≤1048576)(hb:∀ y∈xs,y.2.2.2.length≤1048576)(hK:1048577<K):Q41.f K (xs,xs,())=rb true:=by
 have hl:Q41.l0 K (xs,xs,()) 0=rb true:=by
  refine eh (step:=fun rec a=>Q41.l0.step K (xs,xs,()) rec a) xs.length (fun i=>(i:Int)) (rb true) ?_ ?_ (by omega)
  ·intro rec i hi
   simp only[Q41.l0.step]
   rw[decide_eq_true (by omega:(i:Int)<(List.length xs:Int)),ag hi,aq i (by omega)]
   simp only[cond_true,Option.bind_some]
   rw[qo K _ (hb _ (List.getElem_mem hi)) hK]
   rfl
  ·intro rec
   simp only[Q41.l0.step,aI]
   rfl
 simp only[Q41.f,Q41.pre,bne_self_eq_false,cond_false]
 exact hl
theorem qp (K:Nat)(y:d6)(h:y.2.2.length≤1048576)(hK:1048577<K):Q43.f K (y,y,())=rb true:=by
 simp only[Q43.f]
 rw[ji,mz K _ h hK]
 simp
theorem pI (K:Nat)(xs:List d6)(hx:xs.length≤1048576)(hb:∀ y∈xs,y.2.2.length≤1048576)(hK:1048577<K):Q44.f K (xs,xs,())=rb true:=by
 have hl:Q44.l0 K (xs,xs,()) 0=rb true:=by
  refine eh (step:=fun rec a=>Q44.l0.step K (xs,xs,()) rec a) xs.length (fun i=>(i:Int)) (rb true) ?_ ?_ (by omega)
  ·intro rec i hi
   simp only[Q44.l0.step]
   rw[decide_eq_true (by omega:(i:Int)<(List.length xs:Int)),ag hi,aq i (by omega)]
   simp only[cond_true,Option.bind_some]
   rw[qp K _ (hb _ (List.getElem_mem hi)) hK]
   rfl
  ·intro rec
   simp only[Q44.l0.step,aI]
   rfl
 simp only[Q44.f,Q44.pre,bne_self_eq_false,cond_false]
 exact hl
theorem oG (K:Nat)(y:bU)(h:y.2.length≤1048576)(hK:1048577<K):Q45.f K (y,y,())=rb true:=by
 simp only[Q45.f]
 rw[jj K _ h hK]
 simp
theorem nQ (K:Nat)(xs:List bU)(hx:xs.length≤1048576)(hb:∀ y∈xs,y.2.length≤1048576)(hK:1048577<K):Q46.f K (xs,xs,())=rb true:=by
 have hl:Q46.l0 K (xs,xs,()) 0=rb true:=by
  refine eh (step:=fun rec a=>Q46.l0.step K (xs,xs,()) rec a) xs.length (fun i=>(i:Int)) (rb true) ?_ ?_ (by omega)
  ·intro rec i hi
   simp only[Q46.l0.step]
   rw[decide_eq_true (by omega:(i:Int)<(List.length xs:Int)),ag hi,aq i (by omega)]
   simp only[cond_true,Option.bind_some]
   rw[oG K _ (hb _ (List.getElem_mem hi)) hK]
   rfl
  ·intro rec
   simp only[Q46.l0.step,aI]
   rfl
 simp only[Q46.f,Q46.pre,bne_self_eq_false,cond_false]
 exact hl
theorem mA (K:Nat)(n:Node)(hn:NB n)(hK:1048577<K):Q47.f K (n,n,())=rb true:=by
 simp only[Q47.f]
 rw[jj K _ hn.table hK,qn K _ hn.cast hK,qm,pH K _ hn.doubts hn.by_ hK,ji,pI K _ hn.places hn.trips hK,nQ K _ hn.others hn.facts hK]
 simp
def Szd (o:Option ((Int×Unit)×Unit))(left:Int)(Q:Prop):Prop:=∃ r,o=some ((r,()),())∧(r<0∨(0≤r∧r≤left∧Q))
theorem Szd.sub (left:Int)(n:Nat)(h0:0≤left)(h1:left≤1048576)(hn:n≤9223372036854775807){g:Option ((Int×Unit)×Unit)}{Q:Prop}(hg:wr .i64 (left-(n:Int))=left-n→(n:Int)≤left→Szd g (left-n) Q) :
  Szd (bif decide (wr .i64 (left-(n:Int))<0) then some ((-1,()),()) else g) left (n≤1048576∧Q):=by
 have e:wr .i64 (left-(n:Int))=left-n:=cM (by omega) (by omega)
 by_cases h:left-(n:Int)<0
 ·rw[e,decide_eq_true h]
  exact⟨-1,rfl,.inl (by decide)⟩
 ·rw[decide_eq_false (by rw[e];exact h)]
  obtain⟨r,h2,h3⟩:=hg e (by omega)
  exact⟨r,h2,h3.imp id fun h4=>⟨h4.1,by omega,by omega,h4.2.2⟩⟩
theorem Szd.bind {o:Option ((Int×Unit)×Unit)}{left:Int}{P Q:Prop}{G:(Int×Unit)×Unit→Option ((Int×Unit)×Unit)}(h:Szd o left P)(h2:∀ r,0≤r→r≤left→P→Szd (G ((r,()),())) r Q) :
  Szd (o.bind fun y=>bif decide (y.1.1<0) then some ((-1,()),()) else G y) left (P∧Q):=by
 obtain⟨r,h3,h4⟩:=h
 rw[h3,Option.bind_some]
 rcases h4 with h4|⟨h4,h5,h6⟩
 ·rw[decide_eq_true h4]
  exact⟨-1,rfl,.inl (by decide)⟩
 ·rw[show decide (r<0)=false from decide_eq_false (by omega)]
  obtain⟨r2,h7,h8⟩:=h2 r h4 h5 h6
  exact⟨r2,h7,h8.imp id fun h9=>⟨h9.1,by omega,h6,h9.2.2⟩⟩
theorem Szd.ret (r:Int)(h:0≤r):Szd (some ((r,()),())) r True:=⟨r,rfl,.inr ⟨h,Int.le_refl _,trivial⟩⟩
theorem Szd.iff {o:Option ((Int×Unit)×Unit)}{left:Int}{P Q:Prop}(h:Szd o left P)(e:P→Q):Szd o left Q:=by
 obtain⟨r,h1,h2⟩:=h
 exact⟨r,h1,h2.imp id fun h3=>⟨h3.1,h3.2.1,e h3.2.2⟩⟩
theorem ng {α:Type}(xs:List α){step:(Int×Int→Option ((Int×Unit)×Unit))→Int×Int→Option ((Int×Unit)×Unit)}(P:α→Prop)(hx:xs.length≤1048576)
  (h:∀ (rec:Int×Int→Option ((Int×Unit)×Unit)) (i:Nat) (left:Int) (hi:i<xs.length),0≤left→left≤1048576→step rec (left,(i:Int))=some ((-1,()),())∨∃ r,0≤r∧r≤left∧P xs[i]∧step rec (left,(i:Int))=rec (r,((i+1:Nat):Int)))
  (hend:∀ (rec:Int×Int→Option ((Int×Unit)×Unit)) (left:Int),step rec (left,(xs.length:Int))=some ((left,()),())) {left:Int} (h0:0≤left) (h1:left≤1048576) {k:Nat} (hk:1048577<k) :
  Szd (ac step k (left,0)) left (∀ x∈xs,P x):=by
 have key:∀ (d k i:Nat) (left:Int),i+d=xs.length→d<k→0≤left→left≤1048576→Szd (ac step k (left,(i:Int))) left (∀ j (hj:j<xs.length),i≤j→P xs[j]):=by
  intro d
  induction d with
  |zero =>
   intro k i left hi hk h0 h1
   obtain⟨k,rfl⟩:∃ k',k=k'+1:=⟨k-1,by omega⟩
   have:i=xs.length:=by omega
   subst this
   have e:ac step (k+1) (left,(xs.length:Int))=some ((left,()),()):=hend (ac step k) left
   rw[e]
   exact (Szd.ret left h0).iff fun _ j hj hij=>by omega
  |succ d ih =>
   intro k i left hi hk h0 h1
   obtain⟨k,rfl⟩:∃ k',k=k'+1:=⟨k-1,by omega⟩
   have hi':i<xs.length:=by omega
   have e:ac step (k+1) (left,(i:Int))=step (ac step k) (left,(i:Int)):=rfl
   rw[e]
   rcases h (ac step k) i left hi' h0 h1 with h2|⟨r,h2,h3,h4,h5⟩
   ·rw[h2]
    exact⟨-1,rfl,.inl (by decide)⟩
   ·rw[h5]
    obtain⟨r2,h6,h7⟩:=ih k (i+1) r (by omega) (by omega) h2 (by omega)
    refine⟨r2,h6,h7.imp id fun h8=>⟨h8.1,by omega,fun j hj hij=>?_⟩⟩
    by_cases he:j=i
    ·subst he;exact h4
    ·exact h8.2.2 j hj (by omega)
 have:=key xs.length k 0 left (by omega) (by omega) h0 h1
 refine Szd.iff this fun h2=>?_
 rw[cU]
 exact fun i hi=>h2 i hi (Nat.zero_le _)
theorem nR (K:Nat)(xs:List ao)(left:Int)(h0:0≤left)(h1:left≤1048576)(hx:xs.length≤9223372036854775807):Szd (Q10.f K (xs,left,())) left (xs.length≤1048576):=by
 refine (Szd.sub left xs.length h0 h1 hx (g:=some ((wr .i64 (left-(List.length xs:Int)),()),())) (Q:=True) fun e h2=>?_).iff fun h=>h.1
 rw[e]
 exact Szd.ret _ (by omega)
theorem tp (K:Nat)(xs:List aE)(left:Int)(h0:0≤left)(h1:left≤1048576)(hx:xs.length≤9223372036854775807):Szd (Q11.f K (xs,left,())) left (xs.length≤1048576):=by
 refine (Szd.sub left xs.length h0 h1 hx (g:=some ((wr .i64 (left-(List.length xs:Int)),()),())) (Q:=True) fun e h2=>?_).iff fun h=>h.1
 rw[e]
 exact Szd.ret _ (by omega)
theorem o9 (K:Nat)(xs:List Int)(left:Int)(h0:0≤left)(h1:left≤1048576)(hx:xs.length≤9223372036854775807):Szd (Q12.f K (xs,left,())) left (xs.length≤1048576):=by
 refine (Szd.sub left xs.length h0 h1 hx (g:=some ((wr .i64 (left-(List.length xs:Int)),()),())) (Q:=True) fun e h2=>?_).iff fun h=>h.1
 rw[e]
 exact Szd.ret _ (by omega)
theorem tq (K:Nat)(y:bi)(left:Int)(h0:0≤left)(h1:left≤1048576)(hy:y.2.2.2.length≤9223372036854775807):Szd (Q13.f K (y,left,())) left (y.2.2.2.length≤1048576):=by
 refine Szd.iff (Szd.bind (o9 K y.2.2.2 left h0 h1 hy) (G:=fun y1=>some ((y1.1.1,()),())) (Q:=True) fun r h2 _ _=>Szd.ret r h2) fun h=>h.1
theorem rT (K:Nat)(xs:List bi)(left:Int)(h0:0≤left)(h1:left≤1048576)(hx:xs.length≤9223372036854775807)(hy:∀ y∈xs,y.2.2.2.length≤9223372036854775807)(hK:1048577<K):Szd (Q14.f K (xs,left,())) left (xs.length≤1048576∧∀ y∈xs,y.2.2.2.length≤1048576):=by
 refine Szd.sub left xs.length h0 h1 hx (g:=Q14.l0 K (xs,left,()) (wr .i64 (left-(List.length xs:Int)),0)) fun e h2=>?_
 rw[e]
 refine ng xs (step:=fun rec a=>Q14.l0.step K (xs,left,()) rec a) (fun y=>y.2.2.2.length≤1048576) (by omega) ?_ ?_ (by omega) (by omega) hK
 ·intro rec i l hi h3 h4
  simp only[Q14.l0.step]
  rw[decide_eq_true (by omega:(i:Int)<(List.length xs:Int)),ag hi,aq i (by omega)]
  simp only[cond_true,Option.bind_some]
  obtain⟨r,h5,h6⟩:=tq K xs[i] l h3 h4 (hy _ (List.getElem_mem hi))
  rw[h5,Option.bind_some]
  rcases h6 with h6|⟨h6,h7,h8⟩
  ·rw[decide_eq_true h6];exact .inl rfl
  ·rw[decide_eq_false (show ¬ r<0 by omega)];exact .inr ⟨r,h6,h7,h8,rfl⟩
 ·intro rec l
  simp only[Q14.l0.step,aI]
  rfl
theorem tr (K:Nat)(y:d6)(left:Int)(h0:0≤left)(h1:left≤1048576)(hy:y.2.2.length≤9223372036854775807):Szd (Q15.f K (y,left,())) left (y.2.2.length≤1048576):=by
 refine Szd.iff (Szd.bind (o9 K y.2.2 left h0 h1 hy) (G:=fun y1=>some ((y1.1.1,()),())) (Q:=True) fun r h2 _ _=>Szd.ret r h2) fun h=>h.1
theorem rU (K:Nat)(xs:List d6)(left:Int)(h0:0≤left)(h1:left≤1048576)(hx:xs.length≤9223372036854775807)(hy:∀ y∈xs,y.2.2.length≤9223372036854775807)(hK:1048577<K):Szd (Q16.f K (xs,left,())) left (xs.length≤1048576∧∀ y∈xs,y.2.2.length≤1048576):=by
 refine Szd.sub left xs.length h0 h1 hx (g:=Q16.l0 K (xs,left,()) (wr .i64 (left-(List.length xs:Int)),0)) fun e h2=>?_
 rw[e]
 refine ng xs (step:=fun rec a=>Q16.l0.step K (xs,left,()) rec a) (fun y=>y.2.2.length≤1048576) (by omega) ?_ ?_ (by omega) (by omega) hK
 ·intro rec i l hi h3 h4
  simp only[Q16.l0.step]
  rw[decide_eq_true (by omega:(i:Int)<(List.length xs:Int)),ag hi,aq i (by omega)]
  simp only[cond_true,Option.bind_some]
  obtain⟨r,h5,h6⟩:=tr K xs[i] l h3 h4 (hy _ (List.getElem_mem hi))
  rw[h5,Option.bind_some]
  rcases h6 with h6|⟨h6,h7,h8⟩
  ·rw[decide_eq_true h6];exact .inl rfl
  ·rw[decide_eq_false (show ¬ r<0 by omega)];exact .inr ⟨r,h6,h7,h8,rfl⟩
 ·intro rec l
  simp only[Q16.l0.step,aI]
  rfl
theorem qq (K:Nat)(y:bU)(left:Int)(h0:0≤left)(h1:left≤1048576)(hy:y.2.length≤9223372036854775807):Szd (Q17.f K (y,left,())) left (y.2.length≤1048576):=by
 refine Szd.iff (Szd.bind (nR K y.2 left h0 h1 hy) (G:=fun y1=>some ((y1.1.1,()),())) (Q:=True) fun r h2 _ _=>Szd.ret r h2) fun h=>h.1
theorem pJ (K:Nat)(xs:List bU)(left:Int)(h0:0≤left)(h1:left≤1048576)(hx:xs.length≤9223372036854775807)(hy:∀ y∈xs,y.2.length≤9223372036854775807)(hK:1048577<K):Szd (Q18.f K (xs,left,())) left (xs.length≤1048576∧∀ y∈xs,y.2.length≤1048576):=by
 refine Szd.sub left xs.length h0 h1 hx (g:=Q18.l0 K (xs,left,()) (wr .i64 (left-(List.length xs:Int)),0)) fun e h2=>?_
 rw[e]
 refine ng xs (step:=fun rec a=>Q18.l0.step K (xs,left,()) rec a) (fun y=>y.2.length≤1048576) (by omega) ?_ ?_ (by omega) (by omega) hK
 ·intro rec i l hi h3 h4
  simp only[Q18.l0.step]
  rw[decide_eq_true (by omega:(i:Int)<(List.length xs:Int)),ag hi,aq i (by omega)]
  simp only[cond_true,Option.bind_some]
  obtain⟨r,h5,h6⟩:=qq K xs[i] l h3 h4 (hy _ (List.getElem_mem hi))
  rw[h5,Option.bind_some]
  rcases h6 with h6|⟨h6,h7,h8⟩
  ·rw[decide_eq_true h6];exact .inl rfl
  ·rw[decide_eq_false (show ¬ r<0 by omega)];exact .inr ⟨r,h6,h7,h8,rfl⟩
 ·intro rec l
  simp only[Q18.l0.step,aI]
  rfl
structure NM (n:Node):Prop where
 table:(Node.table n).length≤9223372036854775807
 cast:(Node.cast n).length≤9223372036854775807
 doubts:(Node.doubts n).length≤9223372036854775807
 by_:∀ d∈Node.doubts n,d.2.2.2.length≤9223372036854775807
 places:(Node.places n).length≤9223372036854775807
 trips:∀ p∈Node.places n,p.2.2.length≤9223372036854775807
 others:(Node.others n).length≤9223372036854775807
 facts:∀ x∈Node.others n,x.2.length≤9223372036854775807
theorem ut (K:Nat)(n:Node)(hn:NM n)(left:Int)(h0:0≤left)(h1:left≤1048576)(hK:1048577<K):Szd (Q19.f K (n,left,())) left (NB n):=by
 refine Szd.iff (Szd.bind (nR K (Node.table n) left h0 h1 hn.table) fun r1 a1 b1 _=>Szd.bind (tp K (Node.cast n) r1 a1 (by omega) hn.cast) fun r2 a2 b2 _=>Szd.bind (rT K (Node.doubts n) r2 a2 (by omega) hn.doubts hn.by_ hK) fun r3 a3 b3 _ =>
  Szd.bind (rU K (Node.places n) r3 a3 (by omega) hn.places hn.trips hK) fun r4 a4 b4 _=>Szd.bind (pJ K (Node.others n) r4 a4 (by omega) hn.others hn.facts hK) (G:=fun y5=>some ((y5.1.1,()),())) fun r5 a5 _ _=>Szd.ret r5 a5) ?_
 rintro⟨h1,h2,⟨h3,h4⟩,⟨h5,h6⟩,⟨h7,h8⟩,_⟩
 exact⟨h1,h2,h3,h4,h5,h6,h7,h8⟩
end Go.Proofs.YthgnfidnmnkeaaaGreatEv
