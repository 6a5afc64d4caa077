/- What is ok of facts, tables, casts: the program and the specification say the same. -/
import Derived.Test.YthgnfidnmnkeaaaGreatFns
import Derived.Test.YthgnfidnmnkeaaaGreatP0
namespace Go.Proofs.YthgnfidnmnkeaaaGreatEv
open Go
abbrev InP (n lo hi:Int):Prop:=lo≤n∧n≤hi
theorem in_i (K:Nat) (n lo hi:Int):Ret (Q88.f K (n,lo,hi,())) (InP n lo hi):=by
  simp only [Q88.f,Q88.pre]
  exact Ret.cnd (by simp) fun _=>Ret.dec
theorem in_s (K:Nat) (n lo hi:Int):Ret (Q64.f K (n,lo,hi,())) (InP n lo hi):=by
  simp only [Q64.f,Q64.pre]
  exact Ret.cnd (by simp) fun _=>Ret.dec
theorem Ret.id {o:Option RB} {P:Prop} (h:Ret o P):Ret (o.bind fun y=>some ((y.1.1,()),())) P:=by
  obtain ⟨b,h1,h2⟩:=h
  exact ⟨b,by rw [h1]; rfl,h2⟩
theorem Ret.neg {o:Option RB} {P:Prop} (h:Ret o P):Ret (o.bind fun y=>some ((!y.1.1,()),())) (¬ P):=by
  obtain ⟨b,h1,h2⟩:=h
  exact ⟨!b,by rw [h1]; rfl,by cases b <;> simp_all⟩
def FactP (f:Fact):Prop:=InP f.1 0 7∧InP f.2.1 0 999∧InP f.2.2.1 1 4
theorem isNode_i (K:Nat) (n:Int):Ret (Q89.f K (n,())) (InP n 0 7):=(in_i K n 0 7).id
theorem factOk_i (K:Nat) (f:Fact):Ret (Q97.f K (f,())) (FactP f) :=
  Ret.and (isNode_i K f.1) (fun _=>Ret.and (in_i K f.2.1 0 999) (fun _=>(in_i K f.2.2.1 1 4).id) rfl) rfl
theorem factOk_s (K:Nat) (f:Fact):Ret (Q65.f K (f,())) (FactP f) :=
  Ret.and (in_s K f.1 0 7) (fun _=>Ret.and (in_s K f.2.1 0 999) (fun _=>(in_s K f.2.2.1 1 4).id) rfl) rfl
def TableP (t:List Fact):Prop:=(∀ f∈t,FactP f)∧Asc (fun f:Fact=>f.1) t
theorem table_at {t:List Fact}:TableP t↔∀ j,j<t.length→∃ h:j<t.length,FactP t[j]∧(0<j→(t[j-1]'(by omega)).1<t[j].1):=by
  unfold TableP
  rw [all_get,asc_adj]
  constructor
  · rintro ⟨h1,h2⟩ j hj
    exact ⟨hj,h1 j hj,fun h0=>h2 j hj h0⟩
  · intro h
    exact ⟨fun i hi=>(h i hi).2.1,fun i hi h0=>(h i hi).2.2 h0⟩
theorem true_and' {P:Prop}:(P∧True)↔P:=by simp
theorem tableOk_s (K:Nat) (t:List Fact) (ht:t.length≤1048576) (hK:1048577<K):Ret (Q66.f K (t,())) (TableP t):=by
  refine Ret.iff (ret_all (step:=fun rec a=>Q66.l0.step K (t,()) rec a) t.length (fun i=>(i:Int)) (fun j=>∃ h:j<t.length,FactP t[j]∧(0<j→(t[j-1]'(by omega)).1<t[j].1)) (Q:=True) (rt:=rb true) ?_ ?_ (by omega) (fun _=>Ret.yes trivial)) (true_and'.trans table_at.symm)
  · intro rec i hi
    simp only [Q66.l0.step]
    rw [decide_eq_true (by omega:(i:Int)<(List.length t:Int)),idx_get hi,wr_succ i (by omega)]
    simp only [cond_true,Option.bind_some]
    obtain ⟨b,h1,h2⟩:=factOk_s K t[i]
    rw [h1]
    simp only [Option.bind_some]
    cases b with
    | false=>exact .inr ⟨fun ⟨_,h3,_⟩=>by simpa using h2.2 h3,rfl⟩
    | true =>
      simp only [Bool.not_true,cond_false]
      by_cases h0:(i:Int)>0
      · rw [decide_eq_true h0,wr_pred i (by omega) (by omega),idx_get (by omega:i-1<t.length)]
        simp only [cond_true,Option.bind_some]
        by_cases h3:(t[i-1]'(by omega)).1≥t[i].1
        · rw [decide_eq_true h3]
          exact .inr ⟨fun ⟨_,_,h4⟩=>by have:=h4 (by omega); omega,rfl⟩
        · rw [decide_eq_false h3]
          exact .inl ⟨⟨hi,h2.1 rfl,fun _=>by omega⟩,rfl⟩
      · rw [decide_eq_false h0]
        exact .inl ⟨⟨hi,h2.1 rfl,fun _=>by omega⟩,rfl⟩
  · intro rec
    simp only [Q66.l0.step]
    rw [decide_eq_false (by omega:¬ ((t.length:Int)<(List.length t:Int)))]
    rfl
theorem tableOk_i (K:Nat) (t:List Fact) (ht:t.length≤1048576) (hK:1048577<K):Ret (Q98.f K (t,())) (TableP t):=by
  refine Ret.iff (ret_all (step:=fun rec a=>Q98.l0.step K (t,()) rec a) t.length (fun i=>(i:Int)) (fun j=>∃ h:j<t.length,FactP t[j]∧(0<j→(t[j-1]'(by omega)).1<t[j].1)) (Q:=True) (rt:=rb true) ?_ ?_ (by omega) (fun _=>Ret.yes trivial)) (true_and'.trans table_at.symm)
  · intro rec i hi
    simp only [Q98.l0.step]
    rw [decide_eq_true (by omega:(i:Int)<(List.length t:Int)),idx_get hi,wr_succ i (by omega)]
    simp only [cond_true,Option.bind_some]
    obtain ⟨b,h1,h2⟩:=factOk_i K t[i]
    rw [h1]
    simp only [Option.bind_some]
    cases b with
    | false=>exact .inr ⟨fun ⟨_,h3,_⟩=>by simpa using h2.2 h3,rfl⟩
    | true =>
      simp only [Bool.not_true,cond_false]
      by_cases h0:(i:Int)>0
      · rw [decide_eq_true h0,wr_pred i (by omega) (by omega),idx_get (by omega:i-1<t.length)]
        simp only [cond_true,Option.bind_some]
        by_cases h3:t[i].1≤(t[i-1]'(by omega)).1
        · rw [decide_eq_true h3]
          exact .inr ⟨fun ⟨_,_,h4⟩=>by have:=h4 (by omega); omega,rfl⟩
        · rw [decide_eq_false h3]
          exact .inl ⟨⟨hi,h2.1 rfl,fun _=>by omega⟩,rfl⟩
      · rw [decide_eq_false h0]
        exact .inl ⟨⟨hi,h2.1 rfl,fun _=>by omega⟩,rfl⟩
  · intro rec
    simp only [Q98.l0.step]
    rw [decide_eq_false (by omega:¬ ((t.length:Int)<(List.length t:Int)))]
    rfl
inductive Found (t:List Fact) (node:Int):Option Nat→Prop where
  | at_ (i:Nat) (h:i<t.length) (e:t[i].1=node):Found t node (some i)
  | no (h:∀ f∈t,f.1≠node):Found t node none
theorem find_s (K:Nat) (t:List Fact) (node:Int) (ht:t.length≤1048576) (hK:1048577<K) :
    ∃ o,Found t node o∧Q68.f K (t,node,())=some (((match o with | some i=>((i:Nat):Int) | none=>-1),()),()):=by
  have:=iter_first (step:=fun rec a=>Q68.l0.step K (t,node,()) rec a) t.length (fun i=>(i:Int)) (fun j=>∃ h:j<t.length,t[j].1=node) (some ((-1,()),())) (fun j=>some ((((j:Nat):Int),()),())) ?_ ?_ t.length K 0 (by omega) (by omega)
  · rcases this with ⟨h1,h2⟩ | ⟨j,_,h1,⟨h3,h4⟩,_,h2⟩
    · refine ⟨none,.no ?_,h2⟩
      rw [all_get]
      exact fun i hi e=>h1 i (Nat.zero_le _) hi ⟨hi,e⟩
    · exact ⟨some j,.at_ j h3 h4,h2⟩
  · intro rec i hi
    simp only [Q68.l0.step]
    rw [decide_eq_true (by omega:(i:Int)<(List.length t:Int)),idx_get hi,wr_succ i (by omega)]
    simp only [cond_true,Option.bind_some]
    by_cases h:t[i].1=node
    · right
      refine ⟨⟨hi,h⟩,?_⟩
      have:(t[i].1==node)=true:=by simpa using h
      rw [this]
      rfl
    · left
      refine ⟨fun ⟨_,h1⟩=>h h1,?_⟩
      have:(t[i].1==node)=false:=by simpa using h
      rw [this]
      rfl
  · intro rec
    simp only [Q68.l0.step]
    rw [decide_eq_false (by omega:¬ ((t.length:Int)<(List.length t:Int)))]
    rfl
def cmp3 (a b:Int):Int:=if a<b then -1 else if a>b then 1 else 0
theorem cmp_int (K:Nat) (a b:Int):Q101.f K (a,b,())=some ((cmp3 a b,()),()):=by
  have hn:∀ x:Int,Q100.f K (x,())=rb false:=fun x=>by simp [Q100.f,Q100.pre]
  simp only [Q101.f,Q101.pre,hn,Option.bind_some,cond_false,cmp3]
  by_cases h1:a<b
  · rw [decide_eq_true h1,if_pos h1]; rfl
  · rw [decide_eq_false h1,if_neg h1]
    by_cases h2:a>b
    · rw [decide_eq_true h2,if_pos h2]; rfl
    · rw [decide_eq_false h2,if_neg h2]; rfl
theorem cmp_sign (a b:Int):cmp3 a b<0↔a<b:=by
  unfold cmp3
  by_cases h1:a<b
  · simp [h1]
  · by_cases h2:a>b <;> simp [h1,h2]
theorem cmp_pos (a b:Int):cmp3 a b>0↔a>b:=by
  unfold cmp3
  by_cases h1:a<b
  · simp [h1]; omega
  · by_cases h2:a>b <;> simp [h1,h2]
theorem cmp_zero (a b:Int):cmp3 a b=0↔a=b:=by
  unfold cmp3
  by_cases h1:a<b
  · simp [h1]; omega
  · by_cases h2:a>b <;> simp [h1,h2] <;> omega
structure Cut (t:List Fact) (node:Int) (m:Nat):Prop where
  le:m≤t.length
  lo:∀ i,(h:i<t.length)→i<m→t[i].1<node
  hi:∀ i,(h:i<t.length)→m≤i→node≤t[i].1
theorem find_i (K:Nat) (t:List Fact) (node:Int) (ht:t.length≤1048576) (hasc:Asc (fun f:Fact=>f.1) t) (hK:1048577<K) :
    ∃ m,Cut t node m∧Q103.f K (t,node,())=some ((((m:Nat):Int),decide (∃ h:m<t.length,t[m].1=node),()),()):=by
  let ks:Nat→Int:=fun i=>if h:i<t.length then t[i].1 else 0
  have hks:∀ i (h:i<t.length),ks i=t[i].1:=fun i h=>by simp [ks,h]
  let fin:Nat→Option ((Int×Bool×Unit)×Unit):=fun m=>some ((((m:Nat):Int),decide (∃ h:m<t.length,t[m].1=node),()),())
  have φ:∀ f:Fact,((Q102.f K (f,node,())).map fun y=>y.1.1)=some (cmp3 f.1 node):=fun f=>by
    simp only [Q102.f,Q102.pre]
    rw [cmp_int]
    rfl
  have:=halves (step:=fun rec a=>Q99.l0.step K (t,node,(fun y1=>(Q102.f K (y1.1,y1.2.1,())).map fun y=>y.1.1),()) rec a) (ks:=ks) (n:=t.length) (t:=node) fin ht
    (fun i j hij hj=>by
      rw [hks i (by omega),hks j hj]
      exact asc_get.1 hasc i j (by omega) hj hij) ?_ ?_ t.length K 0 t.length (by omega) (Nat.zero_le _) (Nat.le_refl _) (by omega) (fun i hi=>by omega) (fun i hi hn=>by omega)
  · obtain ⟨m,h1,h2,h3,h4⟩:=this
    refine ⟨m,⟨h1,fun i h hi=>by rw [← hks i h]; exact h2 i hi,fun i h hi=>by rw [← hks i h]; exact h3 i hi h⟩,?_⟩
    simp only [Q103.f,Q103.pre]
    have e:Q99.f K (t,node,(fun y1=>(Q102.f K (y1.1,y1.2.1,())).map fun y=>y.1.1),())=fin m:=h4
    rw [e]
    rfl
  · intro rec a b hab hb
    have hm:(a+b) / 2<t.length:=by omega
    simp only [Q99.l0.step]
    rw [decide_eq_true (by omega:(a:Int)<(b:Int)),half_ok (by omega)]
    simp only [cond_true]
    rw [idx_get hm]
    simp only [Option.bind_some,φ]
    rw [hks _ hm,wr_succ _ (by omega)]
    by_cases h:t[(a+b) / 2].1<node
    · rw [if_pos h,decide_eq_true ((cmp_sign _ _).2 h)]; rfl
    · rw [if_neg h,decide_eq_false (fun h1=>h ((cmp_sign _ _).1 h1))]; rfl
  · intro rec a ha
    simp only [Q99.l0.step]
    rw [decide_eq_false (by omega)]
    simp only [cond_false]
    by_cases h:a<t.length
    · rw [decide_eq_true (by omega:(a:Int)<(List.length t:Int)),idx_get h]
      simp only [cond_true,Option.bind_some,φ,fin]
      congr 3
      by_cases h1:t[a].1=node
      · have:(cmp3 t[a].1 node==0)=true:=by simpa using (cmp_zero t[a].1 node).2 h1
        rw [this,decide_eq_true ⟨h,h1⟩]
      · have:(cmp3 t[a].1 node==0)=false:=by
          rw [beq_eq_false_iff_ne]
          exact fun e=>h1 ((cmp_zero _ _).1 e)
        rw [this,decide_eq_false (fun ⟨_,h2⟩=>h1 h2)]
    · rw [decide_eq_false (by omega)]
      simp only [cond_false,fin]
      rw [decide_eq_false (fun ⟨h1,_⟩=>h h1)]
end Go.Proofs.YthgnfidnmnkeaaaGreatEv
namespace Go.Proofs.YthgnfidnmnkeaaaGreatEv
open Go
def siteI (n:Int):Int:=wr .i64 (Int.tdiv n 4)
theorem site_s (K:Nat) (n:Int):Q63.f K (n,())=some ((siteI n,()),()):=rfl
theorem site_i (K:Nat) (n:Int):Q93.f K (n,())=some ((siteI n,()),()):=rfl
theorem nsite_i (K:Nat) (n:Node):Q96.f K (n,())=some ((siteI n.1,()),()):=rfl
@[reducible] def Node.table (n:Node):List Fact:=n.2.2.2.2.2.2.2.2.1
@[reducible] def Node.cast (n:Node):List Item:=n.2.2.2.2.2.2.2.2.2.1
@[reducible] def Node.probe (n:Node):Fact:=n.2.2.2.2.2.2.2.2.2.2.1
@[reducible] def Node.doubts (n:Node):List Doubt:=n.2.2.2.2.2.2.2.2.2.2.2.1
@[reducible] def Node.coord (n:Node):Coord:=n.2.2.2.2.2.2.2.2.2.2.2.2.1
@[reducible] def Node.places (n:Node):List Place:=n.2.2.2.2.2.2.2.2.2.2.2.2.2.1
@[reducible] def Node.others (n:Node):List Foreign:=n.2.2.2.2.2.2.2.2.2.2.2.2.2.2
structure NB (n:Node):Prop where
  table:(Node.table n).length≤1048576
  cast:(Node.cast n).length≤1048576
  doubts:(Node.doubts n).length≤1048576
  by_:∀ d∈Node.doubts n,d.2.2.2.length≤1048576
  places:(Node.places n).length≤1048576
  trips:∀ p∈Node.places n,p.2.2.length≤1048576
  others:(Node.others n).length≤1048576
  facts:∀ x∈Node.others n,x.2.length≤1048576
def SiteP (t:List Fact) (s:Int):Prop:=∀ f∈t,siteI f.1=s
theorem l4Site_s (K:Nat) (t:List Fact) (s:Int) (ht:t.length≤1048576) (hK:1048577<K):Ret (Q67.f K (t,s,())) (SiteP t s):=by
  refine (ret_loop t (step:=fun rec a=>Q67.l0.step K (t,s,()) rec a) (fun i hi=>¬ siteI t[i].1≠s) ht ?_ ?_ hK (fun _=>Ret.yes trivial)).iff (true_and'.trans ?_)
  · intro rec i hi
    simp only [Q67.l0.step]
    rw [decide_eq_true (by omega:(i:Int)<(List.length t:Int))]
    exact Rnd.ix (idx_get hi) ((Rnd.cndN (P:=siteI t[i].1≠s) (by simp [siteI]) (fun _=>Rnd.end_)).iff (by simp))
  · intro rec
    simp only [Q67.l0.step]
    rw [decide_eq_false (by omega:¬ ((t.length:Int)<(List.length t:Int)))]
    rfl
  · rw [SiteP,all_get]
    exact ⟨fun h i hi=>Classical.not_not.1 (h i hi),fun h i hi=>Classical.not_not.2 (h i hi)⟩
theorem idxFact_i (K:Nat) (t:List Fact) (φ:Fact×Unit→Option Bool) (p:Fact→Prop) (ht:t.length≤1048576) (hK:1048577<K) (hφ:∀ f∈t,∃ b,φ (f,())=some b∧(b=true↔p f)) :
    Ret (Q92.f K (t,φ,())) (∃ f∈t,p f):=by
  have:=iter_first (step:=fun rec a=>Q91.l0.step K (t,φ,()) rec a) t.length (fun i=>(i:Int)) (fun j=>∃ h:j<t.length,p t[j]) (some ((-1,()),())) (fun j=>some ((((j:Nat):Int),()),())) ?_ ?_ t.length K 0 (by omega) (by omega)
  · simp only [Q92.f,Q92.pre]
    rcases this with ⟨h1,h2⟩ | ⟨j,_,h1,⟨h3,h4⟩,_,h2⟩
    · have e:Q91.f K (t,φ,())=some ((-1,()),()):=h2
      rw [e]
      refine Ret.of ?_
      simp only [ge_iff_le,decide_eq_true_eq]
      refine ⟨fun h=>absurd h (by decide),fun ⟨f,hf,hp⟩=>?_⟩
      obtain ⟨i,hi,e1⟩:=List.getElem_of_mem hf
      exact absurd ⟨hi,e1 ▸ hp⟩ (h1 i (Nat.zero_le _) hi)
    · have e:Q91.f K (t,φ,())=some ((((j:Nat):Int),()),()):=h2
      rw [e]
      refine Ret.of ?_
      simp only [ge_iff_le,decide_eq_true_eq]
      exact ⟨fun _=>⟨t[j],List.getElem_mem h3,h4⟩,fun _=>Int.natCast_nonneg j⟩
  · intro rec i hi
    simp only [Q91.l0.step]
    rw [decide_eq_true (by omega:(i:Int)<(List.length t:Int)),idx_get hi,wr_succ i (by omega)]
    simp only [cond_true,Option.bind_some]
    obtain ⟨b,h1,h2⟩:=hφ t[i] (List.getElem_mem hi)
    rw [h1]
    simp only [Option.bind_some]
    cases b with
    | true=>exact .inr ⟨⟨hi,h2.1 rfl⟩,rfl⟩
    | false=>exact .inl ⟨fun ⟨_,h⟩=>by simpa using h2.2 h,rfl⟩
  · intro rec
    simp only [Q91.l0.step]
    rw [decide_eq_false (by omega:¬ ((t.length:Int)<(List.length t:Int)))]
    rfl
theorem idxItem_i (K:Nat) (t:List Item) (φ:Item×Unit→Option Bool) (p:Item→Prop) (ht:t.length≤1048576) (hK:1048577<K) (hφ:∀ f∈t,∃ b,φ (f,())=some b∧(b=true↔p f)) :
    Ret (Q106.f K (t,φ,())) (∃ f∈t,p f):=by
  have:=iter_first (step:=fun rec a=>Q105.l0.step K (t,φ,()) rec a) t.length (fun i=>(i:Int)) (fun j=>∃ h:j<t.length,p t[j]) (some ((-1,()),())) (fun j=>some ((((j:Nat):Int),()),())) ?_ ?_ t.length K 0 (by omega) (by omega)
  · simp only [Q106.f,Q106.pre]
    rcases this with ⟨h1,h2⟩ | ⟨j,_,h1,⟨h3,h4⟩,_,h2⟩
    · have e:Q105.f K (t,φ,())=some ((-1,()),()):=h2
      rw [e]
      refine Ret.of ?_
      simp only [ge_iff_le,decide_eq_true_eq]
      refine ⟨fun h=>absurd h (by decide),fun ⟨f,hf,hp⟩=>?_⟩
      obtain ⟨i,hi,e1⟩:=List.getElem_of_mem hf
      exact absurd ⟨hi,e1 ▸ hp⟩ (h1 i (Nat.zero_le _) hi)
    · have e:Q105.f K (t,φ,())=some ((((j:Nat):Int),()),()):=h2
      rw [e]
      refine Ret.of ?_
      simp only [ge_iff_le,decide_eq_true_eq]
      exact ⟨fun _=>⟨t[j],List.getElem_mem h3,h4⟩,fun _=>Int.natCast_nonneg j⟩
  · intro rec i hi
    simp only [Q105.l0.step]
    rw [decide_eq_true (by omega:(i:Int)<(List.length t:Int)),idx_get hi,wr_succ i (by omega)]
    simp only [cond_true,Option.bind_some]
    obtain ⟨b,h1,h2⟩:=hφ t[i] (List.getElem_mem hi)
    rw [h1]
    simp only [Option.bind_some]
    cases b with
    | true=>exact .inr ⟨⟨hi,h2.1 rfl⟩,rfl⟩
    | false=>exact .inl ⟨fun ⟨_,h⟩=>by simpa using h2.2 h,rfl⟩
  · intro rec
    simp only [Q105.l0.step]
    rw [decide_eq_false (by omega:¬ ((t.length:Int)<(List.length t:Int)))]
    rfl
theorem idxInt_i (K:Nat) (t:List Int) (φ:Int×Unit→Option Bool) (p:Int→Prop) (ht:t.length≤1048576) (hK:1048577<K) (hφ:∀ f∈t,∃ b,φ (f,())=some b∧(b=true↔p f)) :
    Ret (Q122.f K (t,φ,())) (∃ f∈t,p f):=by
  have:=iter_first (step:=fun rec a=>Q121.l0.step K (t,φ,()) rec a) t.length (fun i=>(i:Int)) (fun j=>∃ h:j<t.length,p t[j]) (some ((-1,()),())) (fun j=>some ((((j:Nat):Int),()),())) ?_ ?_ t.length K 0 (by omega) (by omega)
  · simp only [Q122.f,Q122.pre]
    rcases this with ⟨h1,h2⟩ | ⟨j,_,h1,⟨h3,h4⟩,_,h2⟩
    · have e:Q121.f K (t,φ,())=some ((-1,()),()):=h2
      rw [e]
      refine Ret.of ?_
      simp only [ge_iff_le,decide_eq_true_eq]
      refine ⟨fun h=>absurd h (by decide),fun ⟨f,hf,hp⟩=>?_⟩
      obtain ⟨i,hi,e1⟩:=List.getElem_of_mem hf
      exact absurd ⟨hi,e1 ▸ hp⟩ (h1 i (Nat.zero_le _) hi)
    · have e:Q121.f K (t,φ,())=some ((((j:Nat):Int),()),()):=h2
      rw [e]
      refine Ret.of ?_
      simp only [ge_iff_le,decide_eq_true_eq]
      exact ⟨fun _=>⟨t[j],List.getElem_mem h3,h4⟩,fun _=>Int.natCast_nonneg j⟩
  · intro rec i hi
    simp only [Q121.l0.step]
    rw [decide_eq_true (by omega:(i:Int)<(List.length t:Int)),idx_get hi,wr_succ i (by omega)]
    simp only [cond_true,Option.bind_some]
    obtain ⟨b,h1,h2⟩:=hφ t[i] (List.getElem_mem hi)
    rw [h1]
    simp only [Option.bind_some]
    cases b with
    | true=>exact .inr ⟨⟨hi,h2.1 rfl⟩,rfl⟩
    | false=>exact .inl ⟨fun ⟨_,h⟩=>by simpa using h2.2 h,rfl⟩
  · intro rec
    simp only [Q121.l0.step]
    rw [decide_eq_false (by omega:¬ ((t.length:Int)<(List.length t:Int)))]
    rfl
theorem Ret.fn {o:Option RB} {P:Prop} (h:Ret o P):∃ b,(o.map fun y=>y.1.1)=some b∧(b=true↔P):=by
  obtain ⟨b,h1,h2⟩:=h
  exact ⟨b,by rw [h1]; rfl,h2⟩
theorem ofSite_i (K:Nat) (t:List Fact) (s:Int) (ht:t.length≤1048576) (hK:1048577<K):Ret (Q95.f K (t,s,())) (SiteP t s):=by
  refine (Ret.neg (idxFact_i K t (fun y1=>(Q94.f K (y1.1,s,())).map fun y=>y.1.1) (fun f=>siteI f.1≠s) ht hK (fun f _=>?_))).iff ?_
  · exact ⟨_,rfl,by simp [siteI]⟩
  · exact ⟨fun h f hf=>Classical.not_not.1 fun h2=>h ⟨f,hf,h2⟩,fun h ⟨f,hf,h2⟩=>h2 (h f hf)⟩
theorem tableOf_i (K:Nat) (t:List Fact) (node:Int) (ht:t.length≤1048576) (hK:1048577<K) :
    (¬ TableP t∧Q104.f K (t,node,())=some (((0,(0,(0,false))),false,()),())) ∨
    (TableP t∧((∃ f∈t,f.1=node∧Q104.f K (t,node,())=some ((f,true,()),()))∨((∀ f∈t,f.1≠node)∧Q104.f K (t,node,())=some (((0,(0,(0,false))),false,()),())))):=by
  simp only [Q104.f,Q104.pre]
  obtain ⟨b,h1,h2⟩:=tableOk_i K t ht hK
  rw [h1]
  simp only [Option.bind_some]
  cases b with
  | false=>exact .inl ⟨fun h=>by simpa using h2.2 h,rfl⟩
  | true =>
    have hT:=h2.1 rfl
    obtain ⟨m,hm,h3⟩:=find_i K t node ht hT.2 hK
    refine .inr ⟨hT,?_⟩
    simp only [Bool.not_true,cond_false,h3,Option.bind_some]
    by_cases h:∃ h:m<t.length,t[m].1=node
    · rw [decide_eq_true h]
      obtain ⟨h4,h5⟩:=h
      left
      refine ⟨t[m],List.getElem_mem h4,h5,?_⟩
      simp only [Bool.not_true,cond_false]
      rw [idx_get h4]
      rfl
    · rw [decide_eq_false h]
      right
      refine ⟨?_,rfl⟩
      rw [all_get]
      intro i hi e
      rcases Nat.lt_trichotomy i m with h4 | h4 | h4
      · have:=hm.lo i hi h4; omega
      · subst h4; exact h ⟨hi,e⟩
      · have h5:=hm.hi m (by omega) (Nat.le_refl _)
        have h6:=asc_get.1 hT.2 m i (by omega) hi h4
        omega
def Over (f g:Fact):Prop:=if f.2.1≠g.2.1 then f.2.1>g.2.1 else if f.2.2.1≠g.2.2.1 then f.2.2.1>g.2.2.1 else f.2.2.2=true∧g.2.2.2=false
theorem over_s (K:Nat) (f g:Fact):Ret (Q70.f K (f,g,())) (Over f g):=by
  simp only [Q70.f,Q70.pre,Over]
  by_cases h1:f.2.1=g.2.1
  · have e:(f.2.1 != g.2.1)=false:=by simpa using h1
    rw [e,if_neg (by simpa using h1)]
    by_cases h2:f.2.2.1=g.2.2.1
    · have e:(f.2.2.1 != g.2.2.1)=false:=by simpa using h2
      rw [e,if_neg (by simpa using h2)]
      exact (Ret.cnd (b:=f.2.2.2) Iff.rfl (fun _=>Ret.of (b:=!g.2.2.2) (by simp))).iff Iff.rfl
    · have e:(f.2.2.1 != g.2.2.1)=true:=by simpa using h2
      rw [e,if_pos h2]
      exact Ret.dec
  · have e:(f.2.1 != g.2.1)=true:=by simpa using h1
    rw [e,if_pos h1]
    exact Ret.dec
def orI:List Int→Int
  | []=>0
  | x :: xs=>if x≠0 then x else orI xs
theorem or_int (K:Nat) (xs:List Int) (hx:xs.length≤1048576) (hK:1048577<K):Q110.f K (xs,())=some ((orI xs,()),()):=by
  have key:∀ (d k i:Nat),i+d=xs.length→d<k→iterate (fun rec a=>Q110.l0.step K (xs,()) rec a) k (i:Int)=some ((orI (xs.drop i),()),()):=by
    intro d
    induction d with
    | zero =>
      intro k i hi hk
      obtain ⟨k,rfl⟩:∃ k',k=k'+1:=⟨k-1,by omega⟩
      show Q110.l0.step K (xs,()) _ _=_
      simp only [Q110.l0.step]
      rw [decide_eq_false (by omega:¬ ((i:Int)<(List.length xs:Int))),List.drop_of_length_le (by omega)]
      rfl
    | succ d ih =>
      intro k i hi hk
      obtain ⟨k,rfl⟩:∃ k',k=k'+1:=⟨k-1,by omega⟩
      have ih:=ih k (i+1) (by omega) (by omega)
      show Q110.l0.step K (xs,()) _ _=_
      simp only [Q110.l0.step]
      have hi':i<xs.length:=by omega
      rw [decide_eq_true (by omega:(i:Int)<(List.length xs:Int)),idx_get hi',wr_succ i (by omega),List.drop_eq_getElem_cons hi']
      simp only [cond_true,Option.bind_some,orI]
      by_cases h:xs[i]=0
      · have e:(xs[i] != 0)=false:=by simpa using h
        rw [e,if_neg (by simpa using h)]
        exact ih
      · have e:(xs[i] != 0)=true:=by simpa using h
        rw [e,if_pos h]
        rfl
  have:=key xs.length K 0 (by omega) (by omega)
  rwa [List.drop_zero] at this
def cmpF (f g:Fact):Int:=orI [cmp3 f.1 g.1,cmp3 f.2.1 g.2.1,cmp3 f.2.2.1 g.2.2.1,if f.2.2.2=true∧g.2.2.2=false then 1 else if g.2.2.2=true∧f.2.2.2=false then -1 else 0]
theorem compare_i (K:Nat) (f g:Fact) (hK:1048577<K):Q111.f K (f,g,())=some ((cmpF f g,()),()):=by
  obtain ⟨a,b,c,d⟩:=f
  obtain ⟨a',b',c',d'⟩:=g
  have h:∀ z:Int,Q110.f K ([cmp3 a a',cmp3 b b',cmp3 c c',z],())=some ((orI [cmp3 a a',cmp3 b b',cmp3 c c',z],()),()):=fun z=>or_int K _ (by simp) hK
  simp only [Q111.f,Q111.pre,cmpF]
  cases d <;> cases d' <;> simp only [Bool.not_true,Bool.not_false,cond_true,cond_false] <;> rw [cmp_int,Option.bind_some,cmp_int,Option.bind_some,cmp_int,Option.bind_some,h] <;> rfl
theorem orI_zero {x:Int} (h:x=0) (xs:List Int):orI (x :: xs)=orI xs:=by subst h; rfl
theorem orI_pos {x:Int} (h:x≠0) (xs:List Int):orI (x :: xs)=x:=by simp [orI,h]
theorem cmpF_over {f g:Fact} (e:f.1=g.1):cmpF f g>0↔Over f g:=by
  unfold cmpF Over
  rw [orI_zero ((cmp_zero f.1 g.1).2 e)]
  by_cases h1:f.2.1=g.2.1
  · rw [orI_zero ((cmp_zero f.2.1 g.2.1).2 h1),if_neg (show ¬ f.2.1≠g.2.1 from fun h=>h h1)]
    by_cases h2:f.2.2.1=g.2.2.1
    · rw [orI_zero ((cmp_zero f.2.2.1 g.2.2.1).2 h2),if_neg (show ¬ f.2.2.1≠g.2.2.1 from fun h=>h h2)]
      cases f.2.2.2 <;> cases g.2.2.2 <;> simp [orI]
    · rw [orI_pos (fun h=>h2 ((cmp_zero f.2.2.1 g.2.2.1).1 h)),if_pos (show f.2.2.1≠g.2.2.1 from h2)]
      exact cmp_pos _ _
  · rw [orI_pos (fun h=>h1 ((cmp_zero f.2.1 g.2.1).1 h)),if_pos (show f.2.1≠g.2.1 from h1)]
    exact cmp_pos _ _
theorem factOver_i (K:Nat) (f g:Fact) (hK:1048577<K):Ret (Q112.f K (f,g,())) (FactP f∧FactP g∧f.1=g.1∧Over f g):=by
  refine Ret.and (factOk_i K f) (fun _=>Ret.and (factOk_i K g) (fun _=>?_) rfl) rfl
  refine (Ret.cnd (b:=f.1==g.1) (P:=f.1=g.1) (by simp) (fun e=>?_)).iff Iff.rfl
  show Ret ((Q111.f K (f,g,())).bind _) _
  rw [compare_i K f g hK]
  refine Ret.of ?_
  simp only [gt_iff_lt,decide_eq_true_eq]
  exact cmpF_over e
end Go.Proofs.YthgnfidnmnkeaaaGreatEv
namespace Go.Proofs.YthgnfidnmnkeaaaGreatEv
open Go
theorem decLt {n:Nat} {m:Int} (h:(n:Int)<m):decide ((n:Int)<m)=true:=decide_eq_true h
theorem decNl (n:Nat):decide ((n:Int)<(n:Int))=false:=decide_eq_false (by omega)
def CastP (l:List Item):Prop:=(∀ x∈l,FactP x.1∧InP x.2 1 4)∧Asc (fun x:Item=>x.1.1) l
theorem castOk_s (K:Nat) (l:List Item) (hl:l.length≤1048576) (hK:1048577<K):Ret (Q71.f K (l,())) (CastP l):=by
  refine (ret_loop l (step:=fun rec a=>Q71.l0.step K (l,()) rec a) (fun i hi=>FactP l[i].1∧InP l[i].2 1 4∧(0<i→¬ (l[i-1]'(by omega)).1.1≥l[i].1.1)∧True) hl ?_ ?_ hK (fun _=>Ret.yes trivial)).iff (true_and'.trans ?_)
  · intro rec i hi
    simp only [Q71.l0.step]
    rw [decide_eq_true (by omega:(i:Int)<(List.length l:Int))]
    simp only [cond_true]
    refine Rnd.ix (idx_get hi) (Rnd.nx (factOk_s K _) fun _=>Rnd.ix (idx_get hi) (Rnd.nx (in_s K _ 1 4) fun _=>Rnd.two (fun h0=>?_) Rnd.end_))
    rw [wr_pred i h0 (by omega)]
    exact Rnd.ix (idx_get (by omega)) (Rnd.ix (idx_get hi) (Rnd.cndN (by simp) fun _=>Rnd.end_))
  · intro rec
    simp only [Q71.l0.step,decNl]
    rfl
  · rw [CastP,all_get,asc_adj]
    constructor
    · intro h
      exact ⟨fun i hi=>⟨(h i hi).1,(h i hi).2.1⟩,fun i hi h0=>by have:=(h i hi).2.2.1 h0; omega⟩
    · rintro ⟨h1,h2⟩ i hi
      exact ⟨(h1 i hi).1,(h1 i hi).2,fun h0=>by have:=h2 i hi h0; omega,trivial⟩
theorem facts_i (K:Nat) (l:List Item) (hl:l.length≤1048576) (hK:1048577<K):Q108.f K (l,())=some ((l.map (·.1),()),()):=by
  have key:∀ (d k i:Nat),i+d=l.length→d<k→iterate (fun rec a=>Q108.l0.step K (l,()) rec a) k ((l.take i).map (·.1),(i:Int))=some ((l.map (·.1),()),()):=by
    intro d
    induction d with
    | zero =>
      intro k i hi hk
      obtain ⟨k,rfl⟩:∃ k',k=k'+1:=⟨k-1,by omega⟩
      show Q108.l0.step K (l,()) _ _=_
      simp only [Q108.l0.step]
      rw [decide_eq_false (by omega:¬ ((i:Int)<(List.length l:Int))),List.take_of_length_le (by omega)]
      rfl
    | succ d ih =>
      intro k i hi hk
      obtain ⟨k,rfl⟩:∃ k',k=k'+1:=⟨k-1,by omega⟩
      have ih:=ih k (i+1) (by omega) (by omega)
      show Q108.l0.step K (l,()) _ _=_
      have hi':i<l.length:=by omega
      simp only [Q108.l0.step]
      rw [decide_eq_true (by omega:(i:Int)<(List.length l:Int)),idx_get hi',wr_succ i (by omega)]
      simp only [cond_true,Option.bind_some]
      have hs:decide ((List.length (List.map (fun x:Item=>x.1) (List.take i l))+List.length [l[i].1])*32≤sizeK)=true:=decide_eq_true (by simp only [sizeK,List.length_map,List.length_take,List.length_singleton]; omega)
      rw [hs]
      have e:(List.take i l).map (fun x:Item=>x.1)++[l[i].1]=(l.take (i+1)).map (·.1):=by
        rw [List.take_add_one,List.getElem?_eq_getElem hi',List.map_append]
        rfl
      rw [e]
      exact ih
  have:=key l.length K 0 (by omega) (by omega)
  exact this
theorem tableP_map {l:List Item}:TableP (l.map (·.1))↔(∀ x∈l,FactP x.1)∧Asc (fun x:Item=>x.1.1) l:=by
  unfold TableP Asc
  rw [List.pairwise_map]
  simp
theorem castBad_i (K:Nat) (x:Item):Ret (Q107.f K (x,())) (¬ InP x.2 1 4):=by
  simp only [Q107.f,Q107.pre]
  exact (in_i K x.2 1 4).neg
theorem castIn_i (K:Nat) (l:List Item) (hl:l.length≤1048576) (hK:1048577<K):Ret (Q106.f K (l,(fun y3=>(Q107.f K (y3.1,())).map fun y=>y.1.1),())) (∃ x∈l,¬ InP x.2 1 4) :=
  idxItem_i K l _ (fun x=>¬ InP x.2 1 4) hl hK (fun x _=>Ret.fn (castBad_i K x))
theorem castOk_i (K:Nat) (l:List Item) (hl:l.length≤1048576) (hK:1048577<K):Ret (Q109.f K (l,())) (CastP l):=by
  simp only [Q109.f,Q109.pre]
  obtain ⟨b1,h1,h2⟩:=castIn_i K l hl hK
  obtain ⟨b2,h3,h4⟩:=tableOk_i K (l.map (·.1)) (by simpa using hl) hK
  rw [facts_i K l hl hK,Option.bind_some,h3,Option.bind_some,h1,Option.bind_some]
  have e:CastP l↔(b2=true∧b1=false):=by
    rw [h4,tableP_map,CastP,← Bool.not_eq_true,h2]
    constructor
    · rintro ⟨h5,h6⟩
      exact ⟨⟨fun x hx=>(h5 x hx).1,h6⟩,fun ⟨x,hx,h⟩=>h (h5 x hx).2⟩
    · rintro ⟨⟨h5,h6⟩,h7⟩
      exact ⟨fun x hx=>⟨h5 x hx,Classical.not_not.1 fun h=>h7 ⟨x,hx,h⟩⟩,h6⟩
  refine Ret.iff ?_ e.symm
  cases b2 <;> cases b1 <;> exact ⟨_,rfl,by simp⟩
def CastVs (t:List Fact) (l:List Item):Prop:=∀ x∈l,∃ f∈t,f.1=x.1.1∧¬ Over x.1 f
theorem uniq {t:List Fact} (h:Asc (fun f:Fact=>f.1) t) {f g:Fact} (hf:f∈t) (hg:g∈t) (e:f.1=g.1):f=g:=by
  obtain ⟨i,hi,rfl⟩:=List.getElem_of_mem hf
  obtain ⟨j,hj,rfl⟩:=List.getElem_of_mem hg
  have:=asc_uniq h hi hj e
  subst this
  rfl
theorem l21CastOk_s (K:Nat) (n:Node) (hn:NB n) (hT:TableP (Node.table n)) (hK:1048577<K):Ret (Q72.f K (n,())) (CastP (Node.cast n)∧CastVs (Node.table n) (Node.cast n)):=by
  refine Ret.nx (castOk_s K _ hn.cast hK) fun _=>?_
  refine (ret_loop (Node.cast n) (step:=fun rec a=>Q72.l0.step K (n,()) rec a) (fun i hi=>∃ f∈Node.table n,f.1=(Node.cast n)[i].1.1∧¬ Over (Node.cast n)[i].1 f) hn.cast ?_ ?_ hK (fun _=>Ret.yes trivial)).iff (true_and'.trans ?_)
  · intro rec i hi
    simp only [Q72.l0.step]
    rw [decide_eq_true (by omega:(i:Int)<(List.length (Node.cast n):Int))]
    simp only [cond_true]
    refine Rnd.ix (idx_get hi) ?_
    obtain ⟨o,ho,h1⟩:=find_s K (Node.table n) (Node.cast n)[i].1.1 hn.table hK
    refine Rnd.vl h1 ?_
    cases ho with
    | no h =>
      rw [show decide ((-1:Int)<0)=true from rfl]
      exact .inr ⟨fun ⟨f,hf,e,_⟩=>h f hf e,rfl⟩
    | at_ j hj e =>
      simp only
      rw [decide_eq_false (by omega:¬ ((j:Int)<0))]
      refine (Rnd.ix (idx_get hi) (Rnd.ix (idx_get hj) (Rnd.fx (over_s K _ _) fun _=>Rnd.end_))).iff ⟨fun h=>⟨_,List.getElem_mem hj,e,h.1⟩,fun ⟨f,hf,e2,h⟩=>⟨?_,trivial⟩⟩
      have:=uniq hT.2 hf (List.getElem_mem hj) (e2.trans e.symm)
      rwa [← this]
  · intro rec
    simp only [Q72.l0.step,decNl]
    rfl
  · rw [CastVs,all_get]
theorem castVs_i (K:Nat) (n:Node) (hn:NB n) (hT:TableP (Node.table n)) (hC:CastP (Node.cast n)) (hK:1048577<K) :
    Ret ((Q106.f K (Node.cast n,(fun y5=>(Q113.f K (y5.1,n,())).map fun y=>y.1.1),())).bind fun y6=>some ((!y6.1.1,()),())) (CastVs (Node.table n) (Node.cast n)):=by
  refine (Ret.neg (idxItem_i K _ _ (fun x=>¬ ∃ f∈Node.table n,f.1=x.1.1∧¬ Over x.1 f) hn.cast hK (fun x hx=>Ret.fn ?_))).iff ?_
  · simp only [Q113.f,Q113.pre]
    rcases tableOf_i K (Node.table n) x.1.1 hn.table hK with ⟨h1,_⟩ | ⟨_,⟨f,hf,e,h1⟩ | ⟨h2,h1⟩⟩
    · exact absurd hT h1
    · refine Ret.vl h1 ?_
      refine (factOver_i K x.1 f hK).id.iff ⟨fun h ⟨g,hg,e2,h3⟩=>?_,fun h=>?_⟩
      · have:=uniq hT.2 hg hf (e2.trans e.symm)
        exact h3 (this ▸ h.2.2.2)
      · refine ⟨(hC.1 x hx).1,hT.1 f hf,e.symm,Classical.not_not.1 fun h3=>h ⟨f,hf,e,h3⟩⟩
    · refine Ret.vl h1 ?_
      exact Ret.yes (fun ⟨f,hf,e,_⟩=>h2 f hf e)
  · exact ⟨fun h x hx=>Classical.not_not.1 fun h2=>h ⟨x,hx,h2⟩,fun h ⟨x,hx,h2⟩=>h2 (h x hx)⟩
def SelfP (n:Node):Prop:=((n.1,n.2.2.2.2.1,(if n.2.2.1=true then 4 else 1),n.2.2.2.1):Fact)∈Node.table n
theorem self_s (K:Nat) (n:Node) (hn:NB n) (hT:TableP (Node.table n)) (hK:1048577<K):Ret (Q69.f K (n,())) (SelfP n):=by
  simp only [Q69.f,Q69.pre]
  obtain ⟨o,ho,h1⟩:=find_s K (Node.table n) n.1 hn.table hK
  refine Ret.vl h1 ?_
  cases ho with
  | no h =>
    rw [show decide ((-1:Int)<0)=true from rfl]
    exact Ret.no (fun h2=>h _ h2 rfl)
  | at_ j hj e =>
    simp only
    rw [decide_eq_false (by omega:¬ ((j:Int)<0))]
    refine Ret.vl (idx_get hj) ?_
    have hmem:SelfP n↔(Node.table n)[j]=((n.1,n.2.2.2.2.1,(if n.2.2.1=true then 4 else 1),n.2.2.2.1):Fact):=by
      constructor
      · intro h
        exact uniq hT.2 (List.getElem_mem hj) h e
      · intro h
        show _∈_
        rw [← h]
        exact List.getElem_mem hj
    have hx:(Node.table n)[j]=((n.1,n.2.2.2.2.1,(if n.2.2.1=true then 4 else 1),n.2.2.2.1):Fact)↔((Node.table n)[j].2.1=n.2.2.2.2.1∧(Node.table n)[j].2.2.1=(if n.2.2.1=true then 4 else 1)∧(Node.table n)[j].2.2.2=n.2.2.2.1):=by
      generalize (Node.table n)[j]=f at e ⊢
      obtain ⟨a,b,c,d⟩:=f
      simp at e ⊢
      intro _ _ _
      exact e
    refine Ret.iff ?_ (hmem.trans hx).symm
    cases hg:n.2.2.1 with
    | true=>exact Ret.cnd (by simp) fun _=>Ret.cnd (by simp) fun _=>Ret.of (by simp)
    | false=>exact Ret.cnd (by simp) fun _=>Ret.cnd (by simp) fun _=>Ret.of (by simp)
theorem eqv_t2 (f g:Fact):Ty.eqv ty_impl_Fact_D f g=decide (f=g):=by
  obtain ⟨a,b,c,d⟩:=f
  obtain ⟨a',b',c',d'⟩:=g
  show (decide (a=a')&&(decide (b=b')&&(decide (c=c')&&(d==d'))))=_
  cases d <;> cases d' <;> simp [Prod.mk.injEq]
theorem eqv_t9 (f g:Coord):Ty.eqv ty_impl_Coord_D f g=decide (f=g):=by
  obtain ⟨a,b,c,d⟩:=f
  obtain ⟨a',b',c',d'⟩:=g
  show (decide (a=a')&&(decide (b=b')&&(decide (c=c')&&decide (d=d'))))=_
  simp [Prod.mk.injEq]
theorem tableOk_node_i (K:Nat) (n:Node) (hn:NB n) (hK:1048577<K):Ret (Q114.f K (n,()))
    (TableP (Node.table n)∧SiteP (Node.table n) (siteI n.1)∧SelfP n∧CastP (Node.cast n)∧CastVs (Node.table n) (Node.cast n)):=by
  have rest:∀ (w:Int),TableP (Node.table n)→Ret ((Q96.f K (n,())).bind fun y2=>(Q95.f K (Node.table n,y2.1.1,())).bind fun y3=>bif !y3.1.1 then rb false else
      ((Q109.f K (Node.cast n,())).bind fun y4=>bif !y4.1.1 then rb false else
        ((Q106.f K (Node.cast n,(fun y5=>(Q113.f K (y5.1,n,())).map fun y=>y.1.1),())).bind fun y6=>some ((!y6.1.1,()),()))))
      (SiteP (Node.table n) (siteI n.1)∧CastP (Node.cast n)∧CastVs (Node.table n) (Node.cast n)):=by
    intro _ hT
    exact Ret.vl (nsite_i K n) (Ret.nx (ofSite_i K _ _ hn.table hK) fun _=>Ret.nx (castOk_i K _ hn.cast hK) fun hC=>castVs_i K n hn hT hC hK)
  have main:∀ (w:Int),w=(if n.2.2.1=true then 4 else 1)→Ret ((Q104.f K (Node.table n,n.1,())).bind fun y1=>bif !y1.1.2.1 then rb false else bif !Ty.eqv ty_impl_Fact_D y1.1.1 (n.1,(n.2.2.2.2.1,(w,n.2.2.2.1))) then rb false else
      ((Q96.f K (n,())).bind fun y2=>(Q95.f K (Node.table n,y2.1.1,())).bind fun y3=>bif !y3.1.1 then rb false else
      ((Q109.f K (Node.cast n,())).bind fun y4=>bif !y4.1.1 then rb false else
        ((Q106.f K (Node.cast n,(fun y5=>(Q113.f K (y5.1,n,())).map fun y=>y.1.1),())).bind fun y6=>some ((!y6.1.1,()),())))))
      (TableP (Node.table n)∧SiteP (Node.table n) (siteI n.1)∧SelfP n∧CastP (Node.cast n)∧CastVs (Node.table n) (Node.cast n)):=by
    intro w hw
    rcases tableOf_i K (Node.table n) n.1 hn.table hK with ⟨h1,h2⟩ | ⟨hT,⟨f,hf,e,h1⟩ | ⟨h2,h1⟩⟩
    · exact Ret.vl h2 (Ret.no (fun h=>h1 h.1))
    · refine Ret.vl h1 ?_
      simp only [Bool.not_true,cond_false]
      rw [eqv_t2]
      by_cases h3:f=(n.1,(n.2.2.2.2.1,(w,n.2.2.2.1)))
      · rw [decide_eq_true h3]
        have hS:SelfP n:=by
          show _∈_
          rw [← hw,← h3]
          exact hf
        exact (rest w hT).iff ⟨fun h=>⟨hT,h.1,hS,h.2.1,h.2.2⟩,fun h=>⟨h.2.1,h.2.2.2⟩⟩
      · rw [decide_eq_false h3]
        refine Ret.no (fun h=>h3 ?_)
        have:=uniq hT.2 hf h.2.2.1 e
        rw [this,hw]
    · refine Ret.vl h1 (Ret.no (fun h=>h2 _ h.2.2.1 rfl))
  simp only [Q114.f,Q114.pre]
  cases hg:n.2.2.1 with
  | true=>exact main 4 (by rw [hg]; rfl)
  | false=>exact main 1 (by rw [hg]; rfl)
def ProbeP (n:Node):Prop:=if (Node.probe n).1=-1 then Node.probe n=(-1,0,0,false) else
  (Node.probe n).1≠n.1∧(∃ f∈Node.table n,f.1=(Node.probe n).1)∧InP (Node.probe n).2.1 0 n.2.2.2.2.2.1∧InP (Node.probe n).2.2.1 1 n.2.2.2.2.2.2.1
theorem probe_s (K:Nat) (n:Node) (hn:NB n) (hK:1048577<K):Ret (Q73.f K (n,())) (ProbeP n):=by
  simp only [Q73.f,Q73.pre,ProbeP]
  by_cases h:(Node.probe n).1=-1
  · rw [if_pos h,show ((Node.probe n).1==-1)=true by simpa using h]
    refine (Ret.cnd (P:=(Node.probe n).2.1=0) (by simp) fun _=>Ret.cnd (P:=(Node.probe n).2.2.1=0) (by simp) fun _=>Ret.of (P:=(Node.probe n).2.2.2=false) (by simp)).iff ?_
    generalize Node.probe n=p at h ⊢
    obtain ⟨a,b,c,d⟩:=p
    simp at h ⊢
    intro _ _ _
    exact h
  · rw [if_neg h,show ((Node.probe n).1==-1)=false by simpa using h]
    refine Ret.cnd (by simp) fun _=>?_
    obtain ⟨o,ho,h1⟩:=find_s K (Node.table n) (Node.probe n).1 hn.table hK
    refine Ret.vl h1 ?_
    cases ho with
    | no h2=>exact Ret.no (fun ⟨⟨f,hf,e⟩,_⟩=>h2 f hf e)
    | at_ j hj e =>
      simp only
      rw [show decide ((j:Int)≥0)=true from decide_eq_true (by omega)]
      exact (Ret.px (in_s K _ _ _) fun _=>(in_s K _ _ _).id).iff ⟨fun h3=>⟨⟨_,List.getElem_mem hj,e⟩,h3⟩,fun h3=>h3.2⟩
theorem probe_i (K:Nat) (n:Node) (hn:NB n) (hT:TableP (Node.table n)) (hK:1048577<K):Ret (Q115.f K (n,())) (ProbeP n):=by
  simp only [Q115.f,Q115.pre,ProbeP]
  by_cases h:(Node.probe n).1=-1
  · rw [if_pos h,show ((Node.probe n).1==-1)=true by simpa using h,eqv_t2]
    exact Ret.dec
  · rw [if_neg h,show ((Node.probe n).1==-1)=false by simpa using h]
    rcases tableOf_i K (Node.table n) (Node.probe n).1 hn.table hK with ⟨h1,_⟩ | ⟨_,⟨f,hf,e,h1⟩ | ⟨h2,h1⟩⟩
    · exact absurd hT h1
    · refine Ret.vl h1 ?_
      exact (Ret.cnd (P:=(Node.probe n).1≠n.1) (by simp) fun _=>Ret.px (in_i K _ _ _) fun _=>(in_i K _ _ _).id).iff ⟨fun h3=>⟨h3.1,⟨f,hf,e⟩,h3.2⟩,fun h3=>⟨h3.1,h3.2.2⟩⟩
    · exact Ret.vl h1 (Ret.no (fun ⟨_,⟨f,hf,e⟩,_⟩=>h2 f hf e))
end Go.Proofs.YthgnfidnmnkeaaaGreatEv
namespace Go.Proofs.YthgnfidnmnkeaaaGreatEv
open Go
def CoordP (c:Coord):Prop:=InP c.1 (-100000) 100000∧InP c.2.1 (-100000) 100000∧InP c.2.2.1 0 100000∧InP c.2.2.2 1 1500
theorem coord_s (K:Nat) (c:Coord):Ret (Q75.f K (c,())) (CoordP c) :=
  Ret.px (in_s K _ _ _) fun _=>Ret.px (in_s K _ _ _) fun _=>Ret.px (in_s K _ _ _) fun _=>(in_s K _ _ _).id
theorem coord_i (K:Nat) (c:Coord):Ret (Q118.f K (c,())) (CoordP c) :=
  Ret.px (in_i K _ _ _) fun _=>Ret.px (in_i K _ _ _) fun _=>Ret.px (in_i K _ _ _) fun _=>(in_i K _ _ _).id
def PlaceP (me:Int) (p:Place):Prop:=InP p.1 0 7∧siteI p.1=siteI me∧p.1≠me∧CoordP p.2.1∧InP (p.2.2.length:Int) 1 3∧∀ t∈p.2.2,InP t 1 60000
def PlacesP (me:Int) (l:List Place):Prop:=(∀ p∈l,PlaceP me p)∧Asc (fun p:Place=>p.1) l
theorem near_i (K:Nat) (n:Node) (x:Int):Ret (Q116.f K (n,x,())) (InP x 0 7∧siteI x=siteI n.1):=by
  refine Ret.px (isNode_i K x) fun _=>?_
  exact Ret.of (b:=siteI x==siteI n.1) (by simp)
theorem other_i (K:Nat) (n:Node) (x:Int):Ret (Q119.f K (n,x,())) ((InP x 0 7∧siteI x=siteI n.1)∧x≠n.1):=by
  refine Ret.px (near_i K n x) fun _=>?_
  exact Ret.of (b:=x != n.1) (by simp)
theorem places_s (K:Nat) (n:Node) (hn:NB n) (hK:1048577<K):Ret (Q76.f K (n,())) (PlacesP n.1 (Node.places n)):=by
  refine (ret_loop (Node.places n) (step:=fun rec a=>Q76.l0.step K (n,()) (Q76.l1 K (n,()) rec) rec a)
    (fun i hi=>InP (Node.places n)[i].1 0 7∧¬ siteI (Node.places n)[i].1≠siteI n.1∧¬ (Node.places n)[i].1=n.1∧(0<i→¬ ((Node.places n)[i-1]'(by omega)).1≥(Node.places n)[i].1) ∧
      CoordP (Node.places n)[i].2.1∧InP ((Node.places n)[i].2.2.length:Int) 1 3∧∀ k (hk:k<(Node.places n)[i].2.2.length),InP (Node.places n)[i].2.2[k] 1 60000∧True) hn.places ?_ ?_ hK (fun _=>Ret.yes trivial)).iff (true_and'.trans ?_)
  · intro rec i hi
    have hb:=hn.trips _ (List.getElem_mem hi)
    have hl:=hn.places
    have inner:Rnd (Q76.l1 K (n,()) rec ((i:Int),0,(Node.places n)[i].1,(Node.places n)[i].2.1.1,(Node.places n)[i].2.1.2.1,(Node.places n)[i].2.1.2.2.1,(Node.places n)[i].2.1.2.2.2,(Node.places n)[i].2.2))
        (∀ k (hk:k<(Node.places n)[i].2.2.length),InP (Node.places n)[i].2.2[k] 1 60000∧True) (rec (wr .i64 ((i:Int)+1))):=by
      generalize (Node.places n)[i]=p at hb
      refine rnd_loop p.2.2 (step:=fun rec1 a=>Q76.l1.step K (n,()) rec rec1 a) (fun k=>((i:Int),(k:Int),p.1,p.2.1.1,p.2.1.2.1,p.2.1.2.2.1,p.2.1.2.2.2,p.2.2)) (fun k hk=>InP p.2.2[k] 1 60000∧True) hb ?_ ?_ hK
      · intro rec1 k hk
        simp only [Q76.l1.step]
        rw [decide_eq_true (by omega:(k:Int)<(List.length p.2.2:Int)),wr_succ k (by omega)]
        simp only [cond_true]
        exact Rnd.ix (idx_get hk) (Rnd.nx (in_s K _ _ _) fun _=>Rnd.end_)
      · intro rec1
        simp only [Q76.l1.step,decNl]
        rfl
    simp only [Q76.l0.step]
    rw [decide_eq_true (by omega:(i:Int)<(List.length (Node.places n):Int))]
    simp only [cond_true]
    refine Rnd.ix (idx_get hi) (Rnd.nx (in_s K _ _ _) fun _=>Rnd.vl (site_s K _) (Rnd.vl (site_s K _) (Rnd.cndN (by simp) fun _=>Rnd.cndN (by simp) fun _=>Rnd.two (fun h0=>?_) ?_)))
    · rw [wr_pred i h0 (by omega)]
      exact Rnd.ix (idx_get (show i-1<(Node.places n).length by omega)) (Rnd.cndN (by simp) fun _=>Rnd.nx (coord_s K _) fun _=>Rnd.nx (in_s K _ _ _) fun _=>inner)
    · exact Rnd.nx (coord_s K _) fun _=>Rnd.nx (in_s K _ _ _) fun _=>inner
  · intro rec
    simp only [Q76.l0.step,decNl]
    rfl
  · rw [PlacesP,all_get,asc_adj]
    constructor
    · intro h
      refine ⟨fun i hi=>?_,fun i hi h0=>?_⟩
      · obtain ⟨h1,h2,h3,h4,h5,h6,h7⟩:=h i hi
        exact ⟨h1,Classical.not_not.1 h2,h3,h5,h6,all_get.2 fun k hk=>(h7 k hk).1⟩
      · have:=(h i hi).2.2.2.1 h0; omega
    · rintro ⟨h1,h2⟩ i hi
      obtain ⟨h3,h4,h5,h6,h7,h8⟩:=h1 i hi
      exact ⟨h3,Classical.not_not.2 h4,h5,fun h0=>by have:=h2 i hi h0; omega,h6,h7,fun k hk=>⟨all_get.1 h8 k hk,trivial⟩⟩
theorem places_i (K:Nat) (n:Node) (hn:NB n) (hK:1048577<K):Ret (Q123.f K (n,())) (PlacesP n.1 (Node.places n)):=by
  refine (ret_loop (Node.places n) (step:=fun rec a=>Q123.l0.step K (n,()) rec a)
    (fun i hi=>((InP (Node.places n)[i].1 0 7∧siteI (Node.places n)[i].1=siteI n.1)∧(Node.places n)[i].1≠n.1)∧(0<i→¬ (Node.places n)[i].1≤((Node.places n)[i-1]'(by omega)).1) ∧
      CoordP (Node.places n)[i].2.1∧InP ((Node.places n)[i].2.2.length:Int) 1 3∧(¬ ∃ t∈(Node.places n)[i].2.2,¬ InP t 1 60000)∧True) hn.places ?_ ?_ hK (fun _=>Ret.yes trivial)).iff (true_and'.trans ?_)
  · intro rec i hi
    have hb:=hn.trips _ (List.getElem_mem hi)
    have hl:=hn.places
    have inner:Ret (Q122.f K ((Node.places n)[i].2.2,(fun y6=>(Q120.f K (y6.1,())).map fun y=>y.1.1),())) (∃ t∈(Node.places n)[i].2.2,¬ InP t 1 60000) :=
      idxInt_i K _ _ _ hb hK (fun t _=>Ret.fn (in_i K t _ _).neg)
    simp only [Q123.l0.step]
    rw [decide_eq_true (by omega:(i:Int)<(List.length (Node.places n):Int))]
    simp only [cond_true]
    refine Rnd.ix (idx_get hi) (Rnd.nx (other_i K n _) fun _=>Rnd.two (fun h0=>?_) ?_)
    · rw [wr_pred i h0 (by omega)]
      exact Rnd.ix (idx_get (show i-1<(Node.places n).length by omega)) (Rnd.cndN (by simp) fun _=>Rnd.nx (coord_i K _) fun _=>Rnd.nx (in_i K _ _ _) fun _=>Rnd.fx inner fun _=>Rnd.end_)
    · exact Rnd.nx (coord_i K _) fun _=>Rnd.nx (in_i K _ _ _) fun _=>Rnd.fx inner fun _=>Rnd.end_
  · intro rec
    simp only [Q123.l0.step,decNl]
    rfl
  · rw [PlacesP,all_get,asc_adj]
    constructor
    · intro h
      refine ⟨fun i hi=>?_,fun i hi h0=>?_⟩
      · obtain ⟨⟨⟨h1,h2⟩,h3⟩,h4,h5,h6,h7,_⟩:=h i hi
        exact ⟨h1,h2,h3,h5,h6,fun t ht=>Classical.not_not.1 fun h8=>h7 ⟨t,ht,h8⟩⟩
      · have:=(h i hi).2.1 h0; omega
    · rintro ⟨h1,h2⟩ i hi
      obtain ⟨h3,h4,h5,h6,h7,h8⟩:=h1 i hi
      exact ⟨⟨⟨h3,h4⟩,h5⟩,fun h0=>by have:=h2 i hi h0; omega,h6,h7,fun ⟨t,ht,h9⟩=>h9 (h8 t ht),trivial⟩
def OtherP (me:Int) (x:Foreign):Prop:=InP x.1 0 1∧x.1≠siteI me∧x.2≠[]∧TableP x.2∧SiteP x.2 x.1
def OthersP (me:Int) (l:List Foreign):Prop:=(∀ x∈l,OtherP me x)∧Asc (fun x:Foreign=>x.1) l
theorem len0 {α:Type} (l:List α):((List.length l:Int)==0)=true↔l=[]:=by
  cases l <;> simp
  omega
theorem others_s (K:Nat) (n:Node) (hn:NB n) (hK:1048577<K):Ret (Q77.f K (n,())) (OthersP n.1 (Node.others n)):=by
  refine (ret_loop (Node.others n) (step:=fun rec a=>Q77.l0.step K (n,()) rec a)
    (fun i hi=>InP (Node.others n)[i].1 0 1∧¬ (Node.others n)[i].1=siteI n.1∧(0<i→¬ ((Node.others n)[i-1]'(by omega)).1≥(Node.others n)[i].1) ∧
      ¬ (Node.others n)[i].2=[]∧TableP (Node.others n)[i].2∧SiteP (Node.others n)[i].2 (Node.others n)[i].1∧True) hn.others ?_ ?_ hK (fun _=>Ret.yes trivial)).iff (true_and'.trans ?_)
  · intro rec i hi
    have hb:=hn.facts _ (List.getElem_mem hi)
    have hl:=hn.others
    simp only [Q77.l0.step]
    rw [decide_eq_true (by omega:(i:Int)<(List.length (Node.others n):Int))]
    simp only [cond_true]
    refine Rnd.ix (idx_get hi) (Rnd.nx (in_s K _ _ _) fun _=>Rnd.vl (site_s K _) (Rnd.cndN (by simp) fun _=>Rnd.two (fun h0=>?_) ?_))
    · rw [wr_pred i h0 (by omega)]
      exact Rnd.ix (idx_get (show i-1<(Node.others n).length by omega)) (Rnd.cndN (by simp) fun _=>Rnd.cndN (len0 _) fun _=>Rnd.nx (tableOk_s K _ hb hK) fun _=>Rnd.nx (l4Site_s K _ _ hb hK) fun _=>Rnd.end_)
    · exact Rnd.cndN (len0 _) fun _=>Rnd.nx (tableOk_s K _ hb hK) fun _=>Rnd.nx (l4Site_s K _ _ hb hK) fun _=>Rnd.end_
  · intro rec
    simp only [Q77.l0.step,decNl]
    rfl
  · rw [OthersP,all_get,asc_adj]
    constructor
    · intro h
      exact ⟨fun i hi=>⟨(h i hi).1,(h i hi).2.1,(h i hi).2.2.2.1,(h i hi).2.2.2.2.1,(h i hi).2.2.2.2.2.1⟩,fun i hi h0=>by have:=(h i hi).2.2.1 h0; omega⟩
    · rintro ⟨h1,h2⟩ i hi
      obtain ⟨h3,h4,h5,h6,h7⟩:=h1 i hi
      exact ⟨h3,h4,fun h0=>by have:=h2 i hi h0; omega,h5,h6,h7,trivial⟩
theorem others_i (K:Nat) (n:Node) (hn:NB n) (hK:1048577<K):Ret (Q124.f K (n,())) (OthersP n.1 (Node.others n)):=by
  refine (ret_loop (Node.others n) (step:=fun rec a=>Q124.l0.step K (n,()) rec a)
    (fun i hi=>InP (Node.others n)[i].1 0 1∧¬ (Node.others n)[i].1=siteI n.1∧(0<i→¬ (Node.others n)[i].1≤((Node.others n)[i-1]'(by omega)).1) ∧
      ¬ (Node.others n)[i].2=[]∧TableP (Node.others n)[i].2∧SiteP (Node.others n)[i].2 (Node.others n)[i].1∧True) hn.others ?_ ?_ hK (fun _=>Ret.yes trivial)).iff (true_and'.trans ?_)
  · intro rec i hi
    have hb:=hn.facts _ (List.getElem_mem hi)
    have hl:=hn.others
    have h7:siteI 7=1:=by unfold siteI; rw [wr64 (by decide) (by decide)]; decide
    have hin:=in_i K (Node.others n)[i].1 0 (siteI 7)
    rw [h7] at hin
    simp only [Q124.l0.step]
    rw [decide_eq_true (by omega:(i:Int)<(List.length (Node.others n):Int))]
    simp only [cond_true]
    refine Rnd.ix (idx_get hi) (Rnd.vl (site_i K 7) ?_)
    dsimp only
    rw [h7]
    refine Rnd.nx hin fun _=>Rnd.vl (nsite_i K n) (Rnd.cndN (by simp) fun _=>Rnd.two (fun h0=>?_) ?_)
    · rw [wr_pred i h0 (by omega)]
      exact Rnd.ix (idx_get (show i-1<(Node.others n).length by omega)) (Rnd.cndN (by simp) fun _=>Rnd.cndN (len0 _) fun _=>Rnd.nx (tableOk_i K _ hb hK) fun _=>Rnd.nx (ofSite_i K _ _ hb hK) fun _=>Rnd.end_)
    · exact Rnd.cndN (len0 _) fun _=>Rnd.nx (tableOk_i K _ hb hK) fun _=>Rnd.nx (ofSite_i K _ _ hb hK) fun _=>Rnd.end_
  · intro rec
    simp only [Q124.l0.step,decNl]
    rfl
  · rw [OthersP,all_get,asc_adj]
    constructor
    · intro h
      exact ⟨fun i hi=>⟨(h i hi).1,(h i hi).2.1,(h i hi).2.2.2.1,(h i hi).2.2.2.2.1,(h i hi).2.2.2.2.2.1⟩,fun i hi h0=>by have:=(h i hi).2.2.1 h0; omega⟩
    · rintro ⟨h1,h2⟩ i hi
      obtain ⟨h3,h4,h5,h6,h7⟩:=h1 i hi
      exact ⟨h3,h4,fun h0=>by have:=h2 i hi h0; omega,h5,h6,h7,trivial⟩
end Go.Proofs.YthgnfidnmnkeaaaGreatEv
namespace Go.Proofs.YthgnfidnmnkeaaaGreatEv
open Go
def ByP (me:Int) (l:List Int):Prop:=(∀ b∈l,InP b 0 7∧siteI b=siteI me)∧Asc (fun b:Int=>b) l
def DoubtP (n:Node) (d:Doubt):Prop:=(∃ f∈Node.table n,f.1=d.1∧f.2.2.1=2∧f.2.1=d.2.1)∧InP d.2.2.1 0 n.2.2.2.2.2.1∧d.2.2.2≠[]∧ByP n.1 d.2.2.2
def suspects (t:List Fact):List Fact:=t.filter fun f=>f.2.2.1==2
def DoubtsP (n:Node):Prop:=(∀ d∈Node.doubts n,DoubtP n d)∧Asc (fun d:Doubt=>d.1) (Node.doubts n)∧(suspects (Node.table n)).length=(Node.doubts n).length
theorem by_get {me:Int} {l:List Int}:ByP me l↔∀ k (hk:k<l.length),(InP l[k] 0 7∧siteI l[k]=siteI me)∧(0<k→¬ l[k-1]'(by omega)≥l[k]):=by
  rw [ByP,all_get,asc_adj]
  constructor
  · rintro ⟨h1,h2⟩ k hk
    exact ⟨h1 k hk,fun h0=>by have:=h2 k hk h0; omega⟩
  · intro h
    exact ⟨fun k hk=>(h k hk).1,fun k hk h0=>by have:=(h k hk).2 h0; omega⟩
theorem count_s (K:Nat) (n:Node) (hn:NB n) (hK:1048577<K):Q74.l2 K (n,()) (0,0)=rb (decide ((suspects (Node.table n)).length=(Node.doubts n).length)):=by
  have hl:=hn.table
  have key:∀ (d k i c:Nat),i+d=(Node.table n).length→d<k→c≤i →
      iterate (fun rec a=>Q74.l2.step K (n,()) rec a) k ((c:Int),(i:Int))=rb (decide (c+(suspects ((Node.table n).drop i)).length=(Node.doubts n).length)):=by
    intro d
    induction d with
    | zero =>
      intro k i c hi hk hc
      obtain ⟨k,rfl⟩:∃ k',k=k'+1:=⟨k-1,by omega⟩
      show Q74.l2.step K (n,()) _ _=_
      simp only [Q74.l2.step]
      rw [decide_eq_false (show ¬ ((i:Int)<(List.length (Node.table n):Int)) by omega),List.drop_of_length_le (by omega)]
      simp only [cond_false,suspects,List.filter_nil,List.length_nil,Nat.add_zero]
      have e:((c:Int)==(List.length (Node.doubts n):Int))=decide (c=(Node.doubts n).length):=by
        by_cases h:c=(Node.doubts n).length
        · rw [decide_eq_true h,h]; simp
        · rw [decide_eq_false h,beq_eq_false_iff_ne]; omega
      exact congrArg rb e
    | succ d ih =>
      intro k i c hi hk hc
      obtain ⟨k,rfl⟩:∃ k',k=k'+1:=⟨k-1,by omega⟩
      have hi':i<(Node.table n).length:=by omega
      show Q74.l2.step K (n,()) _ _=_
      simp only [Q74.l2.step]
      rw [decide_eq_true (show ((i:Int)<(List.length (Node.table n):Int)) by omega),idx_get hi',wr_succ i (by omega),wr_succ c (by omega),List.drop_eq_getElem_cons hi']
      simp only [cond_true,Option.bind_some]
      cases hb:((Node.table n)[i].2.2.1==2) with
      | true =>
        have:=ih k (i+1) (c+1) (by omega) (by omega) (by omega)
        simp only [cond_true]
        have e:c+1+(suspects ((Node.table n).drop (i+1))).length=c+(suspects ((Node.table n)[i] :: (Node.table n).drop (i+1))).length:=by
          simp only [suspects,List.filter_cons,hb,if_true,List.length_cons]
          omega
        rw [← e]
        exact this
      | false =>
        have:=ih k (i+1) c (by omega) (by omega) (by omega)
        simp only [cond_false]
        have e:suspects ((Node.table n)[i] :: (Node.table n).drop (i+1))=suspects ((Node.table n).drop (i+1)):=by
          simp only [suspects,List.filter_cons,hb,Bool.false_eq_true,if_false]
        rw [e]
        exact this
  have:=key (Node.table n).length K 0 0 (by omega) (by omega) (Nat.le_refl _)
  rw [List.drop_zero,Nat.zero_add] at this
  exact this
theorem doubts_s (K:Nat) (n:Node) (hn:NB n) (hT:TableP (Node.table n)) (hK:1048577<K):Ret (Q74.f K (n,())) (DoubtsP n):=by
  refine (ret_loop (Node.doubts n) (step:=fun rec a=>Q74.l0.step K (n,()) (Q74.l1 K (n,()) rec) (Q74.l2 K (n,())) rec a)
    (fun i hi=>(0<i→¬ ((Node.doubts n)[i-1]'(by omega)).1≥(Node.doubts n)[i].1)∧DoubtP n (Node.doubts n)[i]) (Q:=(suspects (Node.table n)).length=(Node.doubts n).length) (rt:=Q74.l2 K (n,()) (0,0)) hn.doubts ?_ ?_ hK (fun _=>by rw [count_s K n hn hK]; exact Ret.dec)).iff ?_
  · intro rec i hi
    have hb:=hn.by_ _ (List.getElem_mem hi)
    have hl:=hn.doubts
    have inner:Rnd (Q74.l1 K (n,()) rec ((i:Int),0,(Node.doubts n)[i].1,(Node.doubts n)[i].2.1,(Node.doubts n)[i].2.2.1,(Node.doubts n)[i].2.2.2)) (ByP n.1 (Node.doubts n)[i].2.2.2) (rec (wr .i64 ((i:Int)+1))):=by
      generalize (Node.doubts n)[i]=d at hb
      refine (rnd_loop d.2.2.2 (step:=fun rec1 a=>Q74.l1.step K (n,()) rec rec1 a) (fun k=>((i:Int),(k:Int),d.1,d.2.1,d.2.2.1,d.2.2.2))
        (fun k hk=>InP d.2.2.2[k] 0 7∧¬ siteI d.2.2.2[k]≠siteI n.1∧(0<k→¬ d.2.2.2[k-1]'(by omega)≥d.2.2.2[k])∧True) hb ?_ ?_ hK).iff ?_
      · intro rec1 k hk
        simp only [Q74.l1.step]
        rw [decide_eq_true (by omega:(k:Int)<(List.length d.2.2.2:Int)),wr_succ k (by omega)]
        simp only [cond_true]
        refine Rnd.ix (idx_get hk) (Rnd.nx (in_s K _ _ _) fun _=>Rnd.ix (idx_get hk) (Rnd.vl (site_s K _) (Rnd.vl (site_s K _) (Rnd.cndN (by simp) fun _=>Rnd.two (fun h0=>?_) Rnd.end_))))
        rw [wr_pred k h0 (by omega)]
        exact Rnd.ix (idx_get (show k-1<d.2.2.2.length by omega)) (Rnd.ix (idx_get hk) (Rnd.cndN (by simp) fun _=>Rnd.end_))
      · intro rec1
        simp only [Q74.l1.step,decNl]
        rfl
      · rw [by_get]
        constructor
        · intro h k hk
          exact ⟨⟨(h k hk).1,Classical.not_not.1 (h k hk).2.1⟩,(h k hk).2.2.1⟩
        · intro h k hk
          exact ⟨(h k hk).1.1,Classical.not_not.2 (h k hk).1.2,(h k hk).2,trivial⟩
    obtain ⟨o,ho,hf⟩:=find_s K (Node.table n) (Node.doubts n)[i].1 hn.table hK
    simp only [Q74.l0.step]
    rw [decide_eq_true (show ((i:Int)<(List.length (Node.doubts n):Int)) by omega)]
    simp only [cond_true]
    refine Rnd.ix (idx_get hi) (Rnd.vl hf ?_)
    cases ho with
    | no h =>
      have hno:¬ DoubtP n (Node.doubts n)[i]:=fun ⟨⟨f,hf,e,_⟩,_⟩=>h f hf e
      refine Rnd.two (fun h0=>?_) ?_
      · rw [wr_pred i h0 (by omega)]
        refine Rnd.ix (idx_get (show i-1<(Node.doubts n).length by omega)) (Rnd.cndN (by simp) fun _=>?_)
        exact .inr ⟨hno,rfl⟩
      · exact .inr ⟨hno,rfl⟩
    | at_ j hj e =>
      have hdec:decide ((j:Int)<0)=false:=decide_eq_false (by omega)
      have hiff:DoubtP n (Node.doubts n)[i]↔(¬ (Node.table n)[j].2.2.1≠2∧¬ (Node.table n)[j].2.1≠(Node.doubts n)[i].2.1∧InP (Node.doubts n)[i].2.2.1 0 n.2.2.2.2.2.1∧¬ (Node.doubts n)[i].2.2.2=[]∧ByP n.1 (Node.doubts n)[i].2.2.2):=by
        constructor
        · rintro ⟨⟨f,hf,e1,e2,e3⟩,h2,h3,h4⟩
          have:=uniq hT.2 hf (List.getElem_mem hj) (e1.trans e.symm)
          subst this
          exact ⟨Classical.not_not.2 e2,Classical.not_not.2 e3,h2,h3,h4⟩
        · rintro ⟨e2,e3,h2,h3,h4⟩
          exact ⟨⟨_,List.getElem_mem hj,e,Classical.not_not.1 e2,Classical.not_not.1 e3⟩,h2,h3,h4⟩
      refine Rnd.two (fun h0=>?_) ?_
      · rw [wr_pred i h0 (by omega)]
        refine Rnd.ix (idx_get (show i-1<(Node.doubts n).length by omega)) (Rnd.cndN (by simp) fun _=>?_)
        simp only [hdec,cond_false]
        refine Rnd.iff ?_ hiff.symm
        exact Rnd.ix (idx_get hj) (Rnd.cndN (by simp) fun _=>Rnd.ix (idx_get hj) (Rnd.cndN (by simp) fun _=>Rnd.nx (in_s K _ _ _) fun _=>Rnd.cndN (len0 _) fun _=>inner))
      · simp only [hdec,cond_false]
        refine Rnd.iff ?_ hiff.symm
        exact Rnd.ix (idx_get hj) (Rnd.cndN (by simp) fun _=>Rnd.ix (idx_get hj) (Rnd.cndN (by simp) fun _=>Rnd.nx (in_s K _ _ _) fun _=>Rnd.cndN (len0 _) fun _=>inner))
  · intro rec
    simp only [Q74.l0.step,decNl]
    rfl
  · rw [DoubtsP,all_get,asc_adj]
    constructor
    · rintro ⟨h1,h2⟩
      exact ⟨fun i hi=>(h1 i hi).2,fun i hi h0=>by have:=(h1 i hi).1 h0; omega,h2⟩
    · rintro ⟨h1,h2,h3⟩
      exact ⟨fun i hi=>⟨fun h0=>by have:=h2 i hi h0; omega,h1 i hi⟩,h3⟩
theorem pairs_i (K:Nat) (n:Node) (hn:NB n) (S:List Fact) (hS:S.length=(Node.doubts n).length) (hK:1048577<K):Ret (Q117.l1 K (n,()) (S,0))
    (∀ i (hi:i<(Node.doubts n).length),(Node.doubts n)[i].1=(S[i]'(by omega)).1∧(Node.doubts n)[i].2.1=(S[i]'(by omega)).2.1∧InP (Node.doubts n)[i].2.2.1 0 n.2.2.2.2.2.1∧(Node.doubts n)[i].2.2.2≠[]∧ByP n.1 (Node.doubts n)[i].2.2.2):=by
  have hl:=hn.doubts
  have main:=iter_all (step:=fun rec a=>Q117.l1.step K (n,()) (Q117.l2 K (n,()) rec) rec a) (Node.doubts n).length (fun i=>(S,(i:Int)))
    (fun i=>∀ hi:i<(Node.doubts n).length,¬ (Node.doubts n)[i].1≠(S[i]'(by omega)).1∧¬ (Node.doubts n)[i].2.1≠(S[i]'(by omega)).2.1∧InP (Node.doubts n)[i].2.2.1 0 n.2.2.2.2.2.1∧¬ (Node.doubts n)[i].2.2.2=[]∧ByP n.1 (Node.doubts n)[i].2.2.2)
    (rb true) (rb false) ?_ ?_ (Node.doubts n).length K 0 (by omega) (by omega)
  · rcases main with ⟨h1,h2⟩ | ⟨h1,h2⟩
    · refine ⟨true,h2,iff_of_true rfl fun i hi=>?_⟩
      obtain ⟨h3,h4,h5⟩:=h1 i (Nat.zero_le _) hi hi
      exact ⟨Classical.not_not.1 h3,Classical.not_not.1 h4,h5⟩
    · refine ⟨false,h2,iff_of_false (by simp) fun h=>h1 fun i _ hi _=>?_⟩
      obtain ⟨h3,h4,h5⟩:=h i hi
      exact ⟨Classical.not_not.2 h3,Classical.not_not.2 h4,h5⟩
  · intro rec i hi
    have hb:=hn.by_ _ (List.getElem_mem hi)
    have inner:Rnd (Q117.l2 K (n,()) rec (S,(i:Int),(Node.doubts n)[i].2.2.2,(List.length (Node.doubts n)[i].2.2.2:Int),0,(Node.doubts n)[i].1,(Node.doubts n)[i].2.1,(Node.doubts n)[i].2.2.1,(Node.doubts n)[i].2.2.2)) (ByP n.1 (Node.doubts n)[i].2.2.2) (rec (S,wr .i64 ((i:Int)+1))):=by
      generalize (Node.doubts n)[i]=d at hb
      refine (rnd_loop d.2.2.2 (step:=fun rec1 a=>Q117.l2.step K (n,()) rec rec1 a) (fun k=>(S,(i:Int),d.2.2.2,(List.length d.2.2.2:Int),(k:Int),d.1,d.2.1,d.2.2.1,d.2.2.2))
        (fun k hk=>(InP d.2.2.2[k] 0 7∧siteI d.2.2.2[k]=siteI n.1)∧(0<k→¬ d.2.2.2[k]≤d.2.2.2[k-1]'(by omega))∧True) hb ?_ ?_ hK).iff ?_
      · intro rec1 k hk
        simp only [Q117.l2.step]
        rw [decide_eq_true (by omega:(k:Int)<(List.length d.2.2.2:Int)),wr_succ k (by omega)]
        simp only [cond_true]
        refine Rnd.ix (idx_get hk) (Rnd.nx (near_i K n _) fun _=>Rnd.two (fun h0=>?_) Rnd.end_)
        rw [wr_pred k h0 (by omega)]
        exact Rnd.ix (idx_get (show k-1<d.2.2.2.length by omega)) (Rnd.cndN (by simp) fun _=>Rnd.end_)
      · intro rec1
        simp only [Q117.l2.step,decNl]
        rfl
      · rw [by_get]
        constructor
        · intro h k hk
          exact ⟨(h k hk).1,(h k hk).2.1⟩
        · intro h k hk
          exact ⟨(h k hk).1,(h k hk).2,trivial⟩
    have hSi:i<S.length:=by omega
    have hr:Rnd (Q117.l1.step K (n,()) (Q117.l2 K (n,()) rec) rec (S,(i:Int)))
        (¬ (Node.doubts n)[i].1≠S[i].1∧¬ (Node.doubts n)[i].2.1≠S[i].2.1∧InP (Node.doubts n)[i].2.2.1 0 n.2.2.2.2.2.1∧¬ (Node.doubts n)[i].2.2.2=[]∧ByP n.1 (Node.doubts n)[i].2.2.2) (rec (S,((i+1:Nat):Int))):=by
      rw [← wr_succ i (by omega)]
      simp only [Q117.l1.step]
      rw [decide_eq_true (show ((i:Int)<(List.length (Node.doubts n):Int)) by omega),Int.toNat_natCast]
      simp only [cond_true]
      exact Rnd.ix (idx_get hi) (Rnd.ix (idx_get hSi) (Rnd.ix (idx_get hSi) (Rnd.cndN (by simp) fun _=>Rnd.ix (idx_get hSi) (Rnd.ix (idx_get hSi) (Rnd.cndN (by simp) fun _=>Rnd.nx (in_i K _ _ _) fun _=>Rnd.cndN (len0 _) fun _=>inner)))))
    exact hr.imp (fun h=>⟨fun _=>h.1,h.2⟩) (fun h=>⟨fun h2=>h.1 (h2 hi),h.2⟩)
  · intro rec
    simp only [Q117.l1.step,decNl]
    rfl
theorem doubts_i (K:Nat) (n:Node) (hn:NB n) (hT:TableP (Node.table n)) (hK:1048577<K):Ret (Q117.f K (n,())) (DoubtsP n):=by
  have hl:=hn.table
  have hld:=hn.doubts
  have key:∀ (d k i:Nat),i+d=(Node.table n).length→d<k→iterate (fun rec a=>Q117.l0.step K (n,()) (Q117.l1 K (n,())) rec a) k (suspects ((Node.table n).take i),(i:Int)) =
      (bif (List.length (Node.doubts n):Int) != (List.length (suspects (Node.table n)):Int) then rb false else Q117.l1 K (n,()) (suspects (Node.table n),0)):=by
    intro d
    induction d with
    | zero =>
      intro k i hi hk
      obtain ⟨k,rfl⟩:∃ k',k=k'+1:=⟨k-1,by omega⟩
      show Q117.l0.step K (n,()) _ _ _=_
      simp only [Q117.l0.step]
      rw [decide_eq_false (show ¬ ((i:Int)<(List.length (Node.table n):Int)) by omega),List.take_of_length_le (by omega)]
      rfl
    | succ d ih =>
      intro k i hi hk
      obtain ⟨k,rfl⟩:∃ k',k=k'+1:=⟨k-1,by omega⟩
      have ih:=ih k (i+1) (by omega) (by omega)
      have hi':i<(Node.table n).length:=by omega
      show Q117.l0.step K (n,()) _ _ _=_
      simp only [Q117.l0.step]
      rw [decide_eq_true (show ((i:Int)<(List.length (Node.table n):Int)) by omega),idx_get hi',wr_succ i (by omega)]
      simp only [cond_true,Option.bind_some]
      have e:suspects ((Node.table n).take (i+1))=suspects ((Node.table n).take i)++(if (Node.table n)[i].2.2.1==2 then [(Node.table n)[i]] else []):=by
        rw [suspects,List.take_add_one,List.getElem?_eq_getElem hi',List.filter_append]
        simp [suspects,List.filter_cons]
      cases hb:((Node.table n)[i].2.2.1==2) with
      | true =>
        rw [hb] at e
        simp only [if_true] at e
        simp only [cond_true]
        have hle:(suspects ((Node.table n).take i)).length≤i:=Nat.le_trans (List.length_filter_le _ _) (by simp; omega)
        have hs:decide ((List.length (suspects ((Node.table n).take i))+List.length [(Node.table n)[i]])*32≤sizeK)=true:=decide_eq_true (by simp only [sizeK,List.length_singleton]; omega)
        rw [hs]
        rw [e] at ih
        exact ih
      | false =>
        rw [hb] at e
        simp only [Bool.false_eq_true,if_false,List.append_nil] at e
        rw [e] at ih
        exact ih
  have h0:Q117.f K (n,())=_:=key (Node.table n).length K 0 (by omega) (by omega)
  rw [h0]
  have hsub:∀ f∈suspects (Node.table n),f∈Node.table n∧f.2.2.1=2:=fun f hf=>by
    rw [suspects,List.mem_filter] at hf
    exact ⟨hf.1,by simpa using hf.2⟩
  have hasc:Asc (fun f:Fact=>f.1) (suspects (Node.table n)):=List.Pairwise.filter _ hT.2
  by_cases hlen:(suspects (Node.table n)).length=(Node.doubts n).length
  · have:((List.length (Node.doubts n):Int) != (List.length (suspects (Node.table n)):Int))=false:=by simp [hlen]
    rw [this]
    refine (pairs_i K n hn _ hlen hK).iff ⟨fun h=>⟨?_,?_,hlen⟩,fun ⟨h1,h2,_⟩ i hi=>?_⟩
    · rw [all_get]
      intro i hi
      obtain ⟨h3,h4,h5,h6,h7⟩:=h i hi
      obtain ⟨h8,h9⟩:=hsub _ (List.getElem_mem (show i<(suspects (Node.table n)).length by omega))
      exact ⟨⟨_,h8,h3.symm,h9,h4.symm⟩,h5,h6,h7⟩
    · rw [asc_get] at hasc ⊢
      intro i j hi hj hij
      have:=hasc i j (by omega) (by omega) hij
      rw [(h i hi).1,(h j hj).1]
      exact this
    · have hAB:=asc_sub ((Node.doubts n).map (·.1)) ((suspects (Node.table n)).map (·.1)) (by rw [List.pairwise_map]; exact h2) (by rw [List.pairwise_map]; exact hasc) (by
        intro x hx
        obtain ⟨d,hd,rfl⟩:=List.mem_map.1 hx
        obtain ⟨⟨f,hf,e1,e2,_⟩,_⟩:=h1 d hd
        exact List.mem_map.2 ⟨f,by rw [suspects,List.mem_filter]; exact ⟨hf,by simpa using e2⟩,e1⟩)
      have hAB:=hAB.2 (by simp [hlen])
      have hSi:i<(suspects (Node.table n)).length:=by omega
      have e:(Node.doubts n)[i].1=(suspects (Node.table n))[i].1:=by
        have h3:((Node.doubts n).map (·.1))[i]?=((suspects (Node.table n)).map (·.1))[i]?:=by rw [hAB]
        rw [List.getElem?_map,List.getElem?_map,List.getElem?_eq_getElem hi,List.getElem?_eq_getElem hSi] at h3
        simpa using h3
      obtain ⟨⟨f,hf,e1,e2,e3⟩,h4,h5,h6⟩:=h1 _ (List.getElem_mem hi)
      have:=uniq hT.2 hf (hsub _ (List.getElem_mem hSi)).1 (e1.trans e)
      subst this
      exact ⟨e,e3.symm,h4,h5,h6⟩
  · have:((List.length (Node.doubts n):Int) != (List.length (suspects (Node.table n)):Int))=true:=by simp; omega
    rw [this]
    exact Ret.no (fun h=>hlen h.2.2)
def DownP (n:Node):Prop:=n.2.2.1=false∧n.2.2.2.2.1=0∧n.2.2.2.2.2.1=0∧n.2.2.2.2.2.2.1=0∧n.2.2.2.2.2.2.2.1=0 ∧
  wr .i64 (wr .i64 (wr .i64 (wr .i64 ((List.length (Node.table n):Int)+(List.length (Node.cast n):Int))+(List.length (Node.doubts n):Int))+(List.length (Node.places n):Int))+(List.length (Node.others n):Int))=0 ∧
  Node.probe n=(0,0,0,false)∧Node.coord n=(0,0,0,0)
def UpP (n:Node):Prop:=TableP (Node.table n)∧SiteP (Node.table n) (siteI n.1)∧SelfP n∧(CastP (Node.cast n)∧CastVs (Node.table n) (Node.cast n))∧ProbeP n∧DoubtsP n∧CoordP (Node.coord n)∧PlacesP n.1 (Node.places n)∧OthersP n.1 (Node.others n)
def NodeP (n:Node):Prop:=InP n.1 0 7∧InP n.2.2.2.2.2.1 0 999999∧InP n.2.2.2.2.2.2.1 0 999999∧InP n.2.2.2.2.2.2.2.1 0 8∧InP n.2.2.2.2.1 0 999∧(if n.2.1=true then UpP n else DownP n)
theorem nodeOk_s (K:Nat) (n:Node) (hn:NB n) (hK:1048577<K):Ret (Q78.f K (n,())) (NodeP n):=by
  refine Ret.nx (in_s K _ _ _) fun _=>Ret.nx (in_s K _ _ _) fun _=>Ret.nx (in_s K _ _ _) fun _=>Ret.nx (in_s K _ _ _) fun _=>Ret.nx (in_s K _ _ _) fun _=>?_
  dsimp only
  cases hu:n.2.1 with
  | false =>
    simp only [Bool.not_false,cond_true,Bool.false_eq_true,if_false,DownP]
    refine Ret.cnd (by simp) fun _=>Ret.cnd (by simp) fun _=>Ret.cnd (by simp) fun _=>Ret.cnd (by simp) fun _=>Ret.cnd (by simp) fun _=>Ret.cnd (by simp) fun _=>?_
    refine Ret.iff (Ret.cnd (P:=(Node.probe n).1=0) (by simp) fun _=>Ret.cnd (P:=(Node.probe n).2.1=0) (by simp) fun _=>Ret.cnd (P:=(Node.probe n).2.2.1=0) (by simp) fun _=>Ret.cnd (P:=(Node.probe n).2.2.2=false) (by simp) fun _ =>
      Ret.cnd (P:=(Node.coord n).1=0) (by simp) fun _=>Ret.cnd (P:=(Node.coord n).2.1=0) (by simp) fun _=>Ret.cnd (P:=(Node.coord n).2.2.1=0) (by simp) fun _=>Ret.of (P:=(Node.coord n).2.2.2=0) (by simp)) ?_
    generalize Node.probe n=p
    generalize Node.coord n=c
    obtain ⟨p1,p2,p3,p4⟩:=p
    obtain ⟨c1,c2,c3,c4⟩:=c
    simp only [Prod.mk.injEq]
    constructor
    · rintro ⟨h1,h2,h3,h4,h5,h6,h7,h8⟩; exact ⟨⟨h1,h2,h3,h4⟩,h5,h6,h7,h8⟩
    · rintro ⟨⟨h1,h2,h3,h4⟩,h5,h6,h7,h8⟩; exact ⟨h1,h2,h3,h4,h5,h6,h7,h8⟩
  | true =>
    simp only [Bool.not_true,cond_false,if_true,UpP]
    exact Ret.px (tableOk_s K _ hn.table hK) fun hT=>Ret.vl (site_s K _) (Ret.px (l4Site_s K _ _ hn.table hK) fun _=>Ret.px (self_s K n hn hT hK) fun _=>Ret.px (l21CastOk_s K n hn hT hK) fun _=>Ret.px (probe_s K n hn hK) fun _ =>
      Ret.px (doubts_s K n hn hT hK) fun _=>Ret.px (coord_s K _) fun _=>Ret.px (places_s K n hn hK) fun _=>(others_s K n hn hK).id)
theorem down_i (K:Nat) (n:Node):Ret (Q90.f K (n,())) (DownP n):=by
  simp only [Q90.f,Q90.pre,eqv_t2,eqv_t9,DownP]
  exact Ret.cnd (by simp) fun _=>Ret.cnd (by simp) fun _=>Ret.cnd (by simp) fun _=>Ret.cnd (by simp) fun _=>Ret.cnd (by simp) fun _=>Ret.cnd (by simp) fun _=>Ret.cnd (by simp) fun _=>Ret.dec
theorem nodeOk_i (K:Nat) (n:Node) (hn:NB n) (hK:1048577<K):Ret (Q125.f K (n,())) (NodeP n):=by
  refine Ret.nx (isNode_i K _) fun _=>Ret.nx (in_i K _ _ _) fun _=>Ret.nx (in_i K _ _ _) fun _=>Ret.nx (in_i K _ _ _) fun _=>Ret.nx (in_i K _ _ _) fun _=>?_
  dsimp only
  cases hu:n.2.1 with
  | false =>
    simp only [Bool.not_false,cond_true,Bool.false_eq_true,if_false]
    exact (down_i K n).id
  | true =>
    simp only [Bool.not_true,cond_false,if_true,UpP]
    refine Ret.iff (Ret.px (tableOk_node_i K n hn hK) fun hT=>Ret.px (probe_i K n hn hT.1 hK) fun _=>Ret.px (doubts_i K n hn hT.1 hK) fun _=>Ret.px (coord_i K _) fun _=>Ret.px (places_i K n hn hK) fun _=>(others_i K n hn hK).id) ?_
    constructor
    · rintro ⟨⟨h1,h2,h3,h4,h5⟩,h6,h7,h8,h9,h10⟩; exact ⟨h1,h2,h3,⟨h4,h5⟩,h6,h7,h8,h9,h10⟩
    · rintro ⟨h1,h2,h3,⟨h4,h5⟩,h6,h7,h8,h9,h10⟩; exact ⟨⟨h1,h2,h3,h4,h5⟩,h6,h7,h8,h9,h10⟩
end Go.Proofs.YthgnfidnmnkeaaaGreatEv
namespace Go.Proofs.YthgnfidnmnkeaaaGreatEv
open Go
theorem iter_go {A R:Type} {step:(A→Option R)→A→Option R} (n:Nat) (S:Nat→A) (rt:Option R) (h:∀ (rec:A→Option R) (i:Nat),i<n→step rec (S i)=rec (S (i+1))) (hend:∀ rec:A→Option R,step rec (S n)=rt)
    {k:Nat} (hk:n<k):iterate step k (S 0)=rt:=by
  rcases iter_all (step:=step) n S (fun _=>True) rt none (fun rec i hi=>.inl ⟨trivial,h rec i hi⟩) hend n k 0 (by omega) hk with ⟨_,h1⟩ | ⟨h1,_⟩
  · exact h1
  · exact absurd (fun _ _ _=>trivial) h1
theorem to_loop {α:Type} (xs:List α) (z:α) {step:(List α×Int→Option ((List α×Unit)×Unit))→List α×Int→Option ((List α×Unit)×Unit)} (hx:xs.length≤1048576)
    (h:∀ (rec:List α×Int→Option ((List α×Unit)×Unit)) (i:Nat) (out:List α) (hi:i<xs.length),out.length=xs.length→step rec (out,(i:Int))=rec (out.set i xs[i],((i+1:Nat):Int)))
    (hend:∀ (rec:List α×Int→Option ((List α×Unit)×Unit)) (out:List α),step rec (out,(xs.length:Int))=some ((out,()),())) {k:Nat} (hk:1048577<k) :
    iterate step k (List.replicate xs.length z,0)=some ((xs,()),()):=by
  have:=iter_go (step:=step) xs.length (fun i=>(xs.take i++List.replicate (xs.length-i) z,(i:Int))) (some ((xs,()),())) ?_ ?_ (k:=k) (by omega)
  · simpa using this
  · intro rec i hi
    rw [h rec i _ hi (by simp; omega)]
    congr 2
    have e0:xs.length-i=(xs.length-(i+1))+1:=by omega
    rw [e0,List.set_append_right _ _ (by simp; omega)]
    have e1:i-(xs.take i).length=0:=by simp; omega
    rw [e1,List.replicate_succ,List.set_cons_zero,List.take_add_one,List.getElem?_eq_getElem hi,List.append_assoc]
    rfl
  · intro rec
    rw [hend]
    simp
theorem toFactS_ok (K:Nat) (xs:List Fact) (hx:xs.length≤1048576) (hK:1048577<K):Q18.f K (xs,())=some ((xs,()),()):=by
  have hl:Q18.l0 K (xs,()) (List.replicate xs.length (0,(0,(0,false))),0)=some ((xs,()),()):=by
    refine to_loop (step:=fun rec a=>Q18.l0.step K (xs,()) rec a) xs (0,(0,(0,false))) hx ?_ ?_ hK
    · intro rec i out hi ho
      simp only [Q18.l0.step]
      rw [decide_eq_true (by omega:(i:Int)<(List.length xs:Int)),idx_get hi,idx_get (show i<out.length by omega),wr_succ i (by omega),Int.toNat_natCast,idx_get (show i<out.length by omega)]
      simp only [cond_true,Option.bind_some]
      rfl
    · intro rec out
      simp only [Q18.l0.step,decNl]
      rfl
  simp only [Q18.f,Q18.pre]
  rw [decide_eq_true (by omega:(0:Int)≤(List.length xs:Int)),show decide ((List.length xs:Int)*(32:Nat)≤sizeK)=true from decide_eq_true (by simp only [sizeK]; omega),Int.toNat_natCast]
  simp only [decide_true,Bool.and_self,cond_true]
  exact hl
theorem toItem_ok (K:Nat) (y:Item):Q19.f K (y,())=some ((y,()),()):=rfl
theorem toItemS_ok (K:Nat) (xs:List Item) (hx:xs.length≤1048576) (hK:1048577<K):Q20.f K (xs,())=some ((xs,()),()):=by
  have hl:Q20.l0 K (xs,()) (List.replicate xs.length ((0,(0,(0,false))),0),0)=some ((xs,()),()):=by
    refine to_loop (step:=fun rec a=>Q20.l0.step K (xs,()) rec a) xs ((0,(0,(0,false))),0) hx ?_ ?_ hK
    · intro rec i out hi ho
      simp only [Q20.l0.step]
      rw [decide_eq_true (by omega:(i:Int)<(List.length xs:Int)),idx_get hi,idx_get (show i<out.length by omega),wr_succ i (by omega),Int.toNat_natCast,idx_get (show i<out.length by omega)]
      simp only [cond_true,Option.bind_some]
      rw [toItem_ok]
      rfl
    · intro rec out
      simp only [Q20.l0.step,decNl]
      rfl
  simp only [Q20.f,Q20.pre]
  rw [decide_eq_true (by omega:(0:Int)≤(List.length xs:Int)),show decide ((List.length xs:Int)*(40:Nat)≤sizeK)=true from decide_eq_true (by simp only [sizeK]; omega),Int.toNat_natCast]
  simp only [decide_true,Bool.and_self,cond_true]
  exact hl
theorem toIntS_ok (K:Nat) (xs:List Int) (hx:xs.length≤1048576) (hK:1048577<K):Q22.f K (xs,())=some ((xs,()),()):=by
  have hl:Q22.l0 K (xs,()) (List.replicate xs.length 0,0)=some ((xs,()),()):=by
    refine to_loop (step:=fun rec a=>Q22.l0.step K (xs,()) rec a) xs 0 hx ?_ ?_ hK
    · intro rec i out hi ho
      simp only [Q22.l0.step]
      rw [decide_eq_true (by omega:(i:Int)<(List.length xs:Int)),idx_get hi,idx_get (show i<out.length by omega),wr_succ i (by omega),Int.toNat_natCast,idx_get (show i<out.length by omega)]
      simp only [cond_true,Option.bind_some]
    · intro rec out
      simp only [Q22.l0.step,decNl]
      rfl
  simp only [Q22.f,Q22.pre]
  rw [decide_eq_true (by omega:(0:Int)≤(List.length xs:Int)),show decide ((List.length xs:Int)*(8:Nat)≤sizeK)=true from decide_eq_true (by simp only [sizeK]; omega),Int.toNat_natCast]
  simp only [decide_true,Bool.and_self,cond_true]
  exact hl
theorem toDoubt_ok (K:Nat) (y:Doubt) (h:y.2.2.2.length≤1048576) (hK:1048577<K):Q23.f K (y,())=some ((y,()),()):=by
  simp only [Q23.f,Q23.pre]
  rw [toIntS_ok K _ h hK]
  rfl
theorem toDoubtS_ok (K:Nat) (xs:List Doubt) (hx:xs.length≤1048576) (hb:∀ y∈xs,y.2.2.2.length≤1048576) (hK:1048577<K):Q24.f K (xs,())=some ((xs,()),()):=by
  have hl:Q24.l0 K (xs,()) (List.replicate xs.length (0,(0,(0,[]))),0)=some ((xs,()),()):=by
    refine to_loop (step:=fun rec a=>Q24.l0.step K (xs,()) rec a) xs (0,(0,(0,[]))) hx ?_ ?_ hK
    · intro rec i out hi ho
      simp only [Q24.l0.step]
      rw [decide_eq_true (by omega:(i:Int)<(List.length xs:Int)),idx_get hi,idx_get (show i<out.length by omega),wr_succ i (by omega),Int.toNat_natCast,idx_get (show i<out.length by omega)]
      simp only [cond_true,Option.bind_some]
      rw [toDoubt_ok K _ (hb _ (List.getElem_mem hi)) hK]
      rfl
    · intro rec out
      simp only [Q24.l0.step,decNl]
      rfl
  simp only [Q24.f,Q24.pre]
  rw [decide_eq_true (by omega:(0:Int)≤(List.length xs:Int)),show decide ((List.length xs:Int)*(48:Nat)≤sizeK)=true from decide_eq_true (by simp only [sizeK]; omega),Int.toNat_natCast]
  simp only [decide_true,Bool.and_self,cond_true]
  exact hl
theorem toPlace_ok (K:Nat) (y:Place) (h:y.2.2.length≤1048576) (hK:1048577<K):Q26.f K (y,())=some ((y,()),()):=by
  simp only [Q26.f,Q26.pre]
  rw [toIntS_ok K _ h hK]
  rfl
theorem toPlaceS_ok (K:Nat) (xs:List Place) (hx:xs.length≤1048576) (hb:∀ y∈xs,y.2.2.length≤1048576) (hK:1048577<K):Q27.f K (xs,())=some ((xs,()),()):=by
  have hl:Q27.l0 K (xs,()) (List.replicate xs.length (0,((0,(0,(0,0))),[])),0)=some ((xs,()),()):=by
    refine to_loop (step:=fun rec a=>Q27.l0.step K (xs,()) rec a) xs (0,((0,(0,(0,0))),[])) hx ?_ ?_ hK
    · intro rec i out hi ho
      simp only [Q27.l0.step]
      rw [decide_eq_true (by omega:(i:Int)<(List.length xs:Int)),idx_get hi,idx_get (show i<out.length by omega),wr_succ i (by omega),Int.toNat_natCast,idx_get (show i<out.length by omega)]
      simp only [cond_true,Option.bind_some]
      rw [toPlace_ok K _ (hb _ (List.getElem_mem hi)) hK]
      rfl
    · intro rec out
      simp only [Q27.l0.step,decNl]
      rfl
  simp only [Q27.f,Q27.pre]
  rw [decide_eq_true (by omega:(0:Int)≤(List.length xs:Int)),show decide ((List.length xs:Int)*(64:Nat)≤sizeK)=true from decide_eq_true (by simp only [sizeK]; omega),Int.toNat_natCast]
  simp only [decide_true,Bool.and_self,cond_true]
  exact hl
theorem toForeign_ok (K:Nat) (y:Foreign) (h:y.2.length≤1048576) (hK:1048577<K):Q28.f K (y,())=some ((y,()),()):=by
  simp only [Q28.f,Q28.pre]
  rw [toFactS_ok K _ h hK]
  rfl
theorem toForeignS_ok (K:Nat) (xs:List Foreign) (hx:xs.length≤1048576) (hb:∀ y∈xs,y.2.length≤1048576) (hK:1048577<K):Q29.f K (xs,())=some ((xs,()),()):=by
  have hl:Q29.l0 K (xs,()) (List.replicate xs.length (0,[]),0)=some ((xs,()),()):=by
    refine to_loop (step:=fun rec a=>Q29.l0.step K (xs,()) rec a) xs (0,[]) hx ?_ ?_ hK
    · intro rec i out hi ho
      simp only [Q29.l0.step]
      rw [decide_eq_true (by omega:(i:Int)<(List.length xs:Int)),idx_get hi,idx_get (show i<out.length by omega),wr_succ i (by omega),Int.toNat_natCast,idx_get (show i<out.length by omega)]
      simp only [cond_true,Option.bind_some]
      rw [toForeign_ok K _ (hb _ (List.getElem_mem hi)) hK]
      rfl
    · intro rec out
      simp only [Q29.l0.step,decNl]
      rfl
  simp only [Q29.f,Q29.pre]
  rw [decide_eq_true (by omega:(0:Int)≤(List.length xs:Int)),show decide ((List.length xs:Int)*(32:Nat)≤sizeK)=true from decide_eq_true (by simp only [sizeK]; omega),Int.toNat_natCast]
  simp only [decide_true,Bool.and_self,cond_true]
  exact hl
theorem toNode_ok (K:Nat) (n:Node) (hn:NB n) (hK:1048577<K):Q30.f K (n,())=some ((n,()),()):=by
  simp only [Q30.f,Q30.pre]
  rw [toFactS_ok K _ hn.table hK,Option.bind_some,toItemS_ok K _ hn.cast hK,Option.bind_some,toDoubtS_ok K _ hn.doubts hn.by_ hK,toPlaceS_ok K _ hn.places hn.trips hK,toForeignS_ok K _ hn.others hn.facts hK]
  rfl
theorem eqFact_refl (K:Nat) (y:Fact):Q31.f K (y,y,())=rb true:=by simp [Q31.f,Q31.pre]
theorem eqProbe_refl (K:Nat) (y:Fact):Q35.f K (y,y,())=rb true:=by simp [Q35.f,Q35.pre]
theorem eqCoord_refl (K:Nat) (y:Coord):Q39.f K (y,y,())=rb true:=by simp [Q39.f,Q39.pre]
theorem eqItem_refl (K:Nat) (y:Item):Q33.f K (y,y,())=rb true:=by
  simp only [Q33.f,Q33.pre]
  rw [eqFact_refl]
  simp
theorem eqFactS_refl (K:Nat) (xs:List Fact) (hx:xs.length≤1048576) (hK:1048577<K):Q32.f K (xs,xs,())=rb true:=by
  have hl:Q32.l0 K (xs,xs,()) 0=rb true:=by
    refine iter_go (step:=fun rec a=>Q32.l0.step K (xs,xs,()) rec a) xs.length (fun i=>(i:Int)) (rb true) ?_ ?_ (by omega)
    · intro rec i hi
      simp only [Q32.l0.step]
      rw [decide_eq_true (by omega:(i:Int)<(List.length xs:Int)),idx_get hi,wr_succ i (by omega)]
      simp only [cond_true,Option.bind_some]
      rw [eqFact_refl]
      rfl
    · intro rec
      simp only [Q32.l0.step,decNl]
      rfl
  simp only [Q32.f,Q32.pre,bne_self_eq_false,cond_false]
  exact hl
theorem eqItemS_refl (K:Nat) (xs:List Item) (hx:xs.length≤1048576) (hK:1048577<K):Q34.f K (xs,xs,())=rb true:=by
  have hl:Q34.l0 K (xs,xs,()) 0=rb true:=by
    refine iter_go (step:=fun rec a=>Q34.l0.step K (xs,xs,()) rec a) xs.length (fun i=>(i:Int)) (rb true) ?_ ?_ (by omega)
    · intro rec i hi
      simp only [Q34.l0.step]
      rw [decide_eq_true (by omega:(i:Int)<(List.length xs:Int)),idx_get hi,wr_succ i (by omega)]
      simp only [cond_true,Option.bind_some]
      rw [eqItem_refl]
      rfl
    · intro rec
      simp only [Q34.l0.step,decNl]
      rfl
  simp only [Q34.f,Q34.pre,bne_self_eq_false,cond_false]
  exact hl
theorem eqIntS_refl (K:Nat) (xs:List Int) (hx:xs.length≤1048576) (hK:1048577<K):Q36.f K (xs,xs,())=rb true:=by
  have hl:Q36.l0 K (xs,xs,()) 0=rb true:=by
    refine iter_go (step:=fun rec a=>Q36.l0.step K (xs,xs,()) rec a) xs.length (fun i=>(i:Int)) (rb true) ?_ ?_ (by omega)
    · intro rec i hi
      simp only [Q36.l0.step]
      rw [decide_eq_true (by omega:(i:Int)<(List.length xs:Int)),idx_get hi,wr_succ i (by omega)]
      simp only [cond_true,Option.bind_some]
      simp only [bne_self_eq_false,cond_false]
    · intro rec
      simp only [Q36.l0.step,decNl]
      rfl
  simp only [Q36.f,Q36.pre,bne_self_eq_false,cond_false]
  exact hl
theorem eqDoubt_refl (K:Nat) (y:Doubt) (h:y.2.2.2.length≤1048576) (hK:1048577<K):Q37.f K (y,y,())=rb true:=by
  simp only [Q37.f,Q37.pre]
  rw [eqIntS_refl K _ h hK]
  simp
theorem eqDoubtS_refl (K:Nat) (xs:List Doubt) (hx:xs.length≤1048576) (hb:∀ y∈xs,y.2.2.2.length≤1048576) (hK:1048577<K):Q38.f K (xs,xs,())=rb true:=by
  have hl:Q38.l0 K (xs,xs,()) 0=rb true:=by
    refine iter_go (step:=fun rec a=>Q38.l0.step K (xs,xs,()) rec a) xs.length (fun i=>(i:Int)) (rb true) ?_ ?_ (by omega)
    · intro rec i hi
      simp only [Q38.l0.step]
      rw [decide_eq_true (by omega:(i:Int)<(List.length xs:Int)),idx_get hi,wr_succ i (by omega)]
      simp only [cond_true,Option.bind_some]
      rw [eqDoubt_refl K _ (hb _ (List.getElem_mem hi)) hK]
      rfl
    · intro rec
      simp only [Q38.l0.step,decNl]
      rfl
  simp only [Q38.f,Q38.pre,bne_self_eq_false,cond_false]
  exact hl
theorem eqPlace_refl (K:Nat) (y:Place) (h:y.2.2.length≤1048576) (hK:1048577<K):Q40.f K (y,y,())=rb true:=by
  simp only [Q40.f,Q40.pre]
  rw [eqCoord_refl,eqIntS_refl K _ h hK]
  simp
theorem eqPlaceS_refl (K:Nat) (xs:List Place) (hx:xs.length≤1048576) (hb:∀ y∈xs,y.2.2.length≤1048576) (hK:1048577<K):Q41.f K (xs,xs,())=rb true:=by
  have hl:Q41.l0 K (xs,xs,()) 0=rb true:=by
    refine iter_go (step:=fun rec a=>Q41.l0.step K (xs,xs,()) rec a) xs.length (fun i=>(i:Int)) (rb true) ?_ ?_ (by omega)
    · intro rec i hi
      simp only [Q41.l0.step]
      rw [decide_eq_true (by omega:(i:Int)<(List.length xs:Int)),idx_get hi,wr_succ i (by omega)]
      simp only [cond_true,Option.bind_some]
      rw [eqPlace_refl K _ (hb _ (List.getElem_mem hi)) hK]
      rfl
    · intro rec
      simp only [Q41.l0.step,decNl]
      rfl
  simp only [Q41.f,Q41.pre,bne_self_eq_false,cond_false]
  exact hl
theorem eqForeign_refl (K:Nat) (y:Foreign) (h:y.2.length≤1048576) (hK:1048577<K):Q42.f K (y,y,())=rb true:=by
  simp only [Q42.f,Q42.pre]
  rw [eqFactS_refl K _ h hK]
  simp
theorem eqForeignS_refl (K:Nat) (xs:List Foreign) (hx:xs.length≤1048576) (hb:∀ y∈xs,y.2.length≤1048576) (hK:1048577<K):Q43.f K (xs,xs,())=rb true:=by
  have hl:Q43.l0 K (xs,xs,()) 0=rb true:=by
    refine iter_go (step:=fun rec a=>Q43.l0.step K (xs,xs,()) rec a) xs.length (fun i=>(i:Int)) (rb true) ?_ ?_ (by omega)
    · intro rec i hi
      simp only [Q43.l0.step]
      rw [decide_eq_true (by omega:(i:Int)<(List.length xs:Int)),idx_get hi,wr_succ i (by omega)]
      simp only [cond_true,Option.bind_some]
      rw [eqForeign_refl K _ (hb _ (List.getElem_mem hi)) hK]
      rfl
    · intro rec
      simp only [Q43.l0.step,decNl]
      rfl
  simp only [Q43.f,Q43.pre,bne_self_eq_false,cond_false]
  exact hl
theorem eqNode_refl (K:Nat) (n:Node) (hn:NB n) (hK:1048577<K):Q44.f K (n,n,())=rb true:=by
  simp only [Q44.f,Q44.pre]
  rw [eqFactS_refl K _ hn.table hK,eqItemS_refl K _ hn.cast hK,eqProbe_refl,eqDoubtS_refl K _ hn.doubts hn.by_ hK,eqCoord_refl,eqPlaceS_refl K _ hn.places hn.trips hK,eqForeignS_refl K _ hn.others hn.facts hK]
  simp
def Szd (o:Option ((Int×Unit)×Unit)) (left:Int) (Q:Prop):Prop:=∃ r,o=some ((r,()),())∧(r<0∨(0≤r∧r≤left∧Q))
theorem Szd.sub (left:Int) (n:Nat) (h0:0≤left) (h1:left≤1048576) (hn:n≤9223372036854775807) {g:Option ((Int×Unit)×Unit)} {Q:Prop} (hg:wr .i64 (left-(n:Int))=left-n→(n:Int)≤left→Szd g (left-n) Q) :
    Szd (bif decide (wr .i64 (left-(n:Int))<0) then some ((-1,()),()) else g) left (n≤1048576∧Q):=by
  have e:wr .i64 (left-(n:Int))=left-n:=wr64 (by omega) (by omega)
  by_cases h:left-(n:Int)<0
  · rw [e,decide_eq_true h]
    exact ⟨-1,rfl,.inl (by decide)⟩
  · rw [decide_eq_false (by rw [e]; exact h)]
    obtain ⟨r,h2,h3⟩:=hg e (by omega)
    exact ⟨r,h2,h3.imp id fun h4=>⟨h4.1,by omega,by omega,h4.2.2⟩⟩
theorem Szd.bind {o:Option ((Int×Unit)×Unit)} {left:Int} {P Q:Prop} {G:(Int×Unit)×Unit→Option ((Int×Unit)×Unit)} (h:Szd o left P) (h2:∀ r,0≤r→r≤left→P→Szd (G ((r,()),())) r Q) :
    Szd (o.bind fun y=>bif decide (y.1.1<0) then some ((-1,()),()) else G y) left (P∧Q):=by
  obtain ⟨r,h3,h4⟩:=h
  rw [h3,Option.bind_some]
  rcases h4 with h4 | ⟨h4,h5,h6⟩
  · rw [decide_eq_true h4]
    exact ⟨-1,rfl,.inl (by decide)⟩
  · rw [show decide (r<0)=false from decide_eq_false (by omega)]
    obtain ⟨r2,h7,h8⟩:=h2 r h4 h5 h6
    exact ⟨r2,h7,h8.imp id fun h9=>⟨h9.1,by omega,h6,h9.2.2⟩⟩
theorem Szd.ret (r:Int) (h:0≤r):Szd (some ((r,()),())) r True:=⟨r,rfl,.inr ⟨h,Int.le_refl _,trivial⟩⟩
theorem Szd.iff {o:Option ((Int×Unit)×Unit)} {left:Int} {P Q:Prop} (h:Szd o left P) (e:P→Q):Szd o left Q:=by
  obtain ⟨r,h1,h2⟩:=h
  exact ⟨r,h1,h2.imp id fun h3=>⟨h3.1,h3.2.1,e h3.2.2⟩⟩
theorem szd_loop {α:Type} (xs:List α) {step:(Int×Int→Option ((Int×Unit)×Unit))→Int×Int→Option ((Int×Unit)×Unit)} (P:α→Prop) (hx:xs.length≤1048576)
    (h:∀ (rec:Int×Int→Option ((Int×Unit)×Unit)) (i:Nat) (left:Int) (hi:i<xs.length),0≤left→left≤1048576→step rec (left,(i:Int))=some ((-1,()),())∨∃ r,0≤r∧r≤left∧P xs[i]∧step rec (left,(i:Int))=rec (r,((i+1:Nat):Int)))
    (hend:∀ (rec:Int×Int→Option ((Int×Unit)×Unit)) (left:Int),step rec (left,(xs.length:Int))=some ((left,()),())) {left:Int} (h0:0≤left) (h1:left≤1048576) {k:Nat} (hk:1048577<k) :
    Szd (iterate step k (left,0)) left (∀ x∈xs,P x):=by
  have key:∀ (d k i:Nat) (left:Int),i+d=xs.length→d<k→0≤left→left≤1048576→Szd (iterate step k (left,(i:Int))) left (∀ j (hj:j<xs.length),i≤j→P xs[j]):=by
    intro d
    induction d with
    | zero =>
      intro k i left hi hk h0 h1
      obtain ⟨k,rfl⟩:∃ k',k=k'+1:=⟨k-1,by omega⟩
      have:i=xs.length:=by omega
      subst this
      have e:iterate step (k+1) (left,(xs.length:Int))=some ((left,()),()):=hend (iterate step k) left
      rw [e]
      exact (Szd.ret left h0).iff fun _ j hj hij=>by omega
    | succ d ih =>
      intro k i left hi hk h0 h1
      obtain ⟨k,rfl⟩:∃ k',k=k'+1:=⟨k-1,by omega⟩
      have hi':i<xs.length:=by omega
      have e:iterate step (k+1) (left,(i:Int))=step (iterate step k) (left,(i:Int)):=rfl
      rw [e]
      rcases h (iterate step k) i left hi' h0 h1 with h2 | ⟨r,h2,h3,h4,h5⟩
      · rw [h2]
        exact ⟨-1,rfl,.inl (by decide)⟩
      · rw [h5]
        obtain ⟨r2,h6,h7⟩:=ih k (i+1) r (by omega) (by omega) h2 (by omega)
        refine ⟨r2,h6,h7.imp id fun h8=>⟨h8.1,by omega,fun j hj hij=>?_⟩⟩
        by_cases he:j=i
        · subst he; exact h4
        · exact h8.2.2 j hj (by omega)
  have:=key xs.length k 0 left (by omega) (by omega) h0 h1
  refine Szd.iff this fun h2=>?_
  rw [all_get]
  exact fun i hi=>h2 i hi (Nat.zero_le _)
theorem szFactS_ok (K:Nat) (xs:List Fact) (left:Int) (h0:0≤left) (h1:left≤1048576) (hx:xs.length≤9223372036854775807):Szd (Q7.f K (xs,left,())) left (xs.length≤1048576):=by
  refine (Szd.sub left xs.length h0 h1 hx (g:=some ((wr .i64 (left-(List.length xs:Int)),()),())) (Q:=True) fun e h2=>?_).iff fun h=>h.1
  rw [e]
  exact Szd.ret _ (by omega)
theorem szItemS_ok (K:Nat) (xs:List Item) (left:Int) (h0:0≤left) (h1:left≤1048576) (hx:xs.length≤9223372036854775807):Szd (Q8.f K (xs,left,())) left (xs.length≤1048576):=by
  refine (Szd.sub left xs.length h0 h1 hx (g:=some ((wr .i64 (left-(List.length xs:Int)),()),())) (Q:=True) fun e h2=>?_).iff fun h=>h.1
  rw [e]
  exact Szd.ret _ (by omega)
theorem szIntS_ok (K:Nat) (xs:List Int) (left:Int) (h0:0≤left) (h1:left≤1048576) (hx:xs.length≤9223372036854775807):Szd (Q9.f K (xs,left,())) left (xs.length≤1048576):=by
  refine (Szd.sub left xs.length h0 h1 hx (g:=some ((wr .i64 (left-(List.length xs:Int)),()),())) (Q:=True) fun e h2=>?_).iff fun h=>h.1
  rw [e]
  exact Szd.ret _ (by omega)
theorem szDoubt_ok (K:Nat) (y:Doubt) (left:Int) (h0:0≤left) (h1:left≤1048576) (hy:y.2.2.2.length≤9223372036854775807):Szd (Q10.f K (y,left,())) left (y.2.2.2.length≤1048576):=by
  refine Szd.iff (Szd.bind (szIntS_ok K y.2.2.2 left h0 h1 hy) (G:=fun y1=>some ((y1.1.1,()),())) (Q:=True) fun r h2 _ _=>Szd.ret r h2) fun h=>h.1
theorem szDoubtS_ok (K:Nat) (xs:List Doubt) (left:Int) (h0:0≤left) (h1:left≤1048576) (hx:xs.length≤9223372036854775807) (hy:∀ y∈xs,y.2.2.2.length≤9223372036854775807) (hK:1048577<K):Szd (Q11.f K (xs,left,())) left (xs.length≤1048576∧∀ y∈xs,y.2.2.2.length≤1048576):=by
  refine Szd.sub left xs.length h0 h1 hx (g:=Q11.l0 K (xs,left,()) (wr .i64 (left-(List.length xs:Int)),0)) fun e h2=>?_
  rw [e]
  refine szd_loop xs (step:=fun rec a=>Q11.l0.step K (xs,left,()) rec a) (fun y=>y.2.2.2.length≤1048576) (by omega) ?_ ?_ (by omega) (by omega) hK
  · intro rec i l hi h3 h4
    simp only [Q11.l0.step]
    rw [decide_eq_true (by omega:(i:Int)<(List.length xs:Int)),idx_get hi,wr_succ i (by omega)]
    simp only [cond_true,Option.bind_some]
    obtain ⟨r,h5,h6⟩:=szDoubt_ok K xs[i] l h3 h4 (hy _ (List.getElem_mem hi))
    rw [h5,Option.bind_some]
    rcases h6 with h6 | ⟨h6,h7,h8⟩
    · rw [decide_eq_true h6]; exact .inl rfl
    · rw [decide_eq_false (show ¬ r<0 by omega)]; exact .inr ⟨r,h6,h7,h8,rfl⟩
  · intro rec l
    simp only [Q11.l0.step,decNl]
    rfl
theorem szPlace_ok (K:Nat) (y:Place) (left:Int) (h0:0≤left) (h1:left≤1048576) (hy:y.2.2.length≤9223372036854775807):Szd (Q12.f K (y,left,())) left (y.2.2.length≤1048576):=by
  refine Szd.iff (Szd.bind (szIntS_ok K y.2.2 left h0 h1 hy) (G:=fun y1=>some ((y1.1.1,()),())) (Q:=True) fun r h2 _ _=>Szd.ret r h2) fun h=>h.1
theorem szPlaceS_ok (K:Nat) (xs:List Place) (left:Int) (h0:0≤left) (h1:left≤1048576) (hx:xs.length≤9223372036854775807) (hy:∀ y∈xs,y.2.2.length≤9223372036854775807) (hK:1048577<K):Szd (Q13.f K (xs,left,())) left (xs.length≤1048576∧∀ y∈xs,y.2.2.length≤1048576):=by
  refine Szd.sub left xs.length h0 h1 hx (g:=Q13.l0 K (xs,left,()) (wr .i64 (left-(List.length xs:Int)),0)) fun e h2=>?_
  rw [e]
  refine szd_loop xs (step:=fun rec a=>Q13.l0.step K (xs,left,()) rec a) (fun y=>y.2.2.length≤1048576) (by omega) ?_ ?_ (by omega) (by omega) hK
  · intro rec i l hi h3 h4
    simp only [Q13.l0.step]
    rw [decide_eq_true (by omega:(i:Int)<(List.length xs:Int)),idx_get hi,wr_succ i (by omega)]
    simp only [cond_true,Option.bind_some]
    obtain ⟨r,h5,h6⟩:=szPlace_ok K xs[i] l h3 h4 (hy _ (List.getElem_mem hi))
    rw [h5,Option.bind_some]
    rcases h6 with h6 | ⟨h6,h7,h8⟩
    · rw [decide_eq_true h6]; exact .inl rfl
    · rw [decide_eq_false (show ¬ r<0 by omega)]; exact .inr ⟨r,h6,h7,h8,rfl⟩
  · intro rec l
    simp only [Q13.l0.step,decNl]
    rfl
theorem szForeign_ok (K:Nat) (y:Foreign) (left:Int) (h0:0≤left) (h1:left≤1048576) (hy:y.2.length≤9223372036854775807):Szd (Q14.f K (y,left,())) left (y.2.length≤1048576):=by
  refine Szd.iff (Szd.bind (szFactS_ok K y.2 left h0 h1 hy) (G:=fun y1=>some ((y1.1.1,()),())) (Q:=True) fun r h2 _ _=>Szd.ret r h2) fun h=>h.1
theorem szForeignS_ok (K:Nat) (xs:List Foreign) (left:Int) (h0:0≤left) (h1:left≤1048576) (hx:xs.length≤9223372036854775807) (hy:∀ y∈xs,y.2.length≤9223372036854775807) (hK:1048577<K):Szd (Q15.f K (xs,left,())) left (xs.length≤1048576∧∀ y∈xs,y.2.length≤1048576):=by
  refine Szd.sub left xs.length h0 h1 hx (g:=Q15.l0 K (xs,left,()) (wr .i64 (left-(List.length xs:Int)),0)) fun e h2=>?_
  rw [e]
  refine szd_loop xs (step:=fun rec a=>Q15.l0.step K (xs,left,()) rec a) (fun y=>y.2.length≤1048576) (by omega) ?_ ?_ (by omega) (by omega) hK
  · intro rec i l hi h3 h4
    simp only [Q15.l0.step]
    rw [decide_eq_true (by omega:(i:Int)<(List.length xs:Int)),idx_get hi,wr_succ i (by omega)]
    simp only [cond_true,Option.bind_some]
    obtain ⟨r,h5,h6⟩:=szForeign_ok K xs[i] l h3 h4 (hy _ (List.getElem_mem hi))
    rw [h5,Option.bind_some]
    rcases h6 with h6 | ⟨h6,h7,h8⟩
    · rw [decide_eq_true h6]; exact .inl rfl
    · rw [decide_eq_false (show ¬ r<0 by omega)]; exact .inr ⟨r,h6,h7,h8,rfl⟩
  · intro rec l
    simp only [Q15.l0.step,decNl]
    rfl
structure NM (n:Node):Prop where
  table:(Node.table n).length≤9223372036854775807
  cast:(Node.cast n).length≤9223372036854775807
  doubts:(Node.doubts n).length≤9223372036854775807
  by_:∀ d∈Node.doubts n,d.2.2.2.length≤9223372036854775807
  places:(Node.places n).length≤9223372036854775807
  trips:∀ p∈Node.places n,p.2.2.length≤9223372036854775807
  others:(Node.others n).length≤9223372036854775807
  facts:∀ x∈Node.others n,x.2.length≤9223372036854775807
theorem szNode_ok (K:Nat) (n:Node) (hn:NM n) (left:Int) (h0:0≤left) (h1:left≤1048576) (hK:1048577<K):Szd (Q16.f K (n,left,())) left (NB n):=by
  refine Szd.iff (Szd.bind (szFactS_ok K (Node.table n) left h0 h1 hn.table) fun r1 a1 b1 _=>Szd.bind (szItemS_ok K (Node.cast n) r1 a1 (by omega) hn.cast) fun r2 a2 b2 _=>Szd.bind (szDoubtS_ok K (Node.doubts n) r2 a2 (by omega) hn.doubts hn.by_ hK) fun r3 a3 b3 _ =>
    Szd.bind (szPlaceS_ok K (Node.places n) r3 a3 (by omega) hn.places hn.trips hK) fun r4 a4 b4 _=>Szd.bind (szForeignS_ok K (Node.others n) r4 a4 (by omega) hn.others hn.facts hK) (G:=fun y5=>some ((y5.1.1,()),())) fun r5 a5 _ _=>Szd.ret r5 a5) ?_
  rintro ⟨h1,h2,⟨h3,h4⟩,⟨h5,h6⟩,⟨h7,h8⟩,_⟩
  exact ⟨h1,h2,h3,h4,h5,h6,h7,h8⟩
end Go.Proofs.YthgnfidnmnkeaaaGreatEv
