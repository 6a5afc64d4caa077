/- FnExactNodeLeave: the plain law. -/
import Derived.Test.YthgnfidnmnkeaaaGreatP2
namespace Go.Proofs.YthgnfidnmnkeaaaGreatEv
open Go
theorem szw (a b c:Nat) (hc:c≤128) (h:a+b≤2097152):decide ((a+b)*c≤sizeK)=true:=by
  have:=Nat.mul_le_mul h hc
  exact decide_eq_true (by unfold sizeK; omega)
def goneN (n:Node):Node:=(n.1,n.2.1,true,n.2.2.2)
def sendW (kind:Int) (n:Node) (to:Int):Word:=(1,kind,n.1,to,0,n.1,Node.coord n,Node.table n)
theorem whole_i (K:Nat) (n:Node) (kind to:Int) (hn:(Node.table n).length≤1048576):Q129.f K (n,kind,to,())=some ((sendW kind n to,()),()):=by
  simp only [Q129.f,Q129.pre,Q128.f,Q128.pre,Option.bind_some,Q0.f]
  rw [clone_ok (by show (Node.table n).length*_≤_; omega)]
  rfl
theorem whole_s (K:Nat) (n:Node) (kind to:Int) (hn:(Node.table n).length≤1048576):Q80.f K (n,kind,to,0,n.1,Node.table n,())=some ((sendW kind n to,()),()):=by
  simp only [Q80.f,Q80.pre]
  rw [szb _ _ _ (by omega) (by show (List.length ([]:List Fact))+(Node.table n).length≤_; simp; omega)]
  rfl
def livesB (f:Fact):Bool:=f.2.2.1==1||f.2.2.1==2
theorem lives_s (K:Nat) (t:List Fact) (f:Fact) (hT:TableP t) (ht:t.length≤1048576) (hf:f∈t) (hK:1048577<K):Q85.f K (t,f.1,())=rb (livesB f):=by
  simp only [Q85.f,Q85.pre]
  obtain ⟨o,ho,h1⟩:=find_s K t f.1 ht hK
  rw [h1]
  simp only [Option.bind_some]
  cases ho with
  | at_ i hi e =>
    simp only
    rw [decide_eq_true (by omega:((i:Nat):Int)≥0),idx_get hi]
    simp only [cond_true,Option.bind_some]
    rw [uniq hT.2 (List.getElem_mem hi) hf e,livesB]
    cases f.2.2.1==1 <;> rfl
  | no h=>exact absurd rfl (h f hf)
theorem lives_i (K:Nat) (n:Node) (f:Fact) (hT:TableP (Node.table n)) (ht:(Node.table n).length≤1048576) (hf:f∈Node.table n) (hK:1048577<K):Q138.f K (n,f.1,())=rb (livesB f):=by
  simp only [Q138.f,Q138.pre,Q137.f,Q137.pre]
  have hw:Q104.f K (Node.table n,f.1,())=some ((f,true,()),()):=by
    rcases tableOf_i K (Node.table n) f.1 ht hK with ⟨h1,_⟩ | ⟨_,⟨g,hg,e,h1⟩ | ⟨h0,h1⟩⟩
    · exact absurd hT h1
    · rw [uniq hT.2 hg hf e] at h1; exact h1
    · exact absurd rfl (h0 f hf)
  rw [show Q104.f K (n.2.2.2.2.2.2.2.2.1,f.1,())=_ from hw]
  simp only [Option.bind_some]
  obtain ⟨b,h1,h2⟩:=in_i K f.2.2.1 1 2
  rw [h1]
  have:b=livesB f:=by
    rw [Bool.eq_iff_iff,h2,livesB,Bool.or_eq_true,beq_iff_eq,beq_iff_eq]
    show (1≤f.2.2.1∧f.2.2.1≤2)↔_
    omega
  rw [this]
  rfl
def leaveP (n:Node) (f:Fact):Bool:=f.1 != n.1&&livesB f
def leaveWs (n:Node):List Word:=((Node.table n).filter (leaveP n)).map fun f=>sendW 5 n f.1
def leaveN (n:Node):Node:=goneN (sayOf n (n.1,n.2.2.2.2.1,4,n.2.2.2.1) n.1)
theorem leave_loop_s (K:Nat) (x:Args Q86.ps) (m:Node) (hT:TableP (Node.table m)) (ht:(Node.table m).length≤1048576) (hK:1048577<K) :
    Q86.l0 K x ([],0,m.1,m.2.1,m.2.2.2.1,m.2.2.2.2.1,m.2.2.2.2.2.1,m.2.2.2.2.2.2.1,m.2.2.2.2.2.2.2.1,m.2.2.2.2.2.2.2.2.1,m.2.2.2.2.2.2.2.2.2.1,m.2.2.2.2.2.2.2.2.2.2.1.1,m.2.2.2.2.2.2.2.2.2.2.1.2.1,m.2.2.2.2.2.2.2.2.2.2.1.2.2.1,m.2.2.2.2.2.2.2.2.2.2.1.2.2.2,m.2.2.2.2.2.2.2.2.2.2.2.1,m.2.2.2.2.2.2.2.2.2.2.2.2.1.1,m.2.2.2.2.2.2.2.2.2.2.2.2.1.2.1,m.2.2.2.2.2.2.2.2.2.2.2.2.1.2.2.1,m.2.2.2.2.2.2.2.2.2.2.2.2.1.2.2.2,m.2.2.2.2.2.2.2.2.2.2.2.2.2.1,m.2.2.2.2.2.2.2.2.2.2.2.2.2.2)=some ((goneN m,leaveWs (goneN m),()),()):=by
  refine gatherS (step:=fun rec a=>Q86.l0.step K x rec a) (Node.table m) (leaveP (goneN m)) (fun f=>sendW 5 (goneN m) f.1) (fun acc i=>(acc,(i:Int),m.1,m.2.1,m.2.2.2.1,m.2.2.2.2.1,m.2.2.2.2.2.1,m.2.2.2.2.2.2.1,m.2.2.2.2.2.2.2.1,m.2.2.2.2.2.2.2.2.1,m.2.2.2.2.2.2.2.2.2.1,m.2.2.2.2.2.2.2.2.2.2.1.1,m.2.2.2.2.2.2.2.2.2.2.1.2.1,m.2.2.2.2.2.2.2.2.2.2.1.2.2.1,m.2.2.2.2.2.2.2.2.2.2.1.2.2.2,m.2.2.2.2.2.2.2.2.2.2.2.1,m.2.2.2.2.2.2.2.2.2.2.2.2.1.1,m.2.2.2.2.2.2.2.2.2.2.2.2.1.2.1,m.2.2.2.2.2.2.2.2.2.2.2.2.1.2.2.1,m.2.2.2.2.2.2.2.2.2.2.2.2.1.2.2.2,m.2.2.2.2.2.2.2.2.2.2.2.2.2.1,m.2.2.2.2.2.2.2.2.2.2.2.2.2.2)) (fun ws=>some ((goneN m,ws,()),())) ?_ ?_ (by omega)
  · intro rec acc i hi ha
    simp only [Q86.l0.step]
    rw [show decide ((i:Int)<(List.length m.2.2.2.2.2.2.2.2.1:Int))=true from decLt (by omega:(i:Int)<(List.length (Node.table m):Int)),show idx m.2.2.2.2.2.2.2.2.1 (i:Int)=some (Node.table m)[i] from idx_get hi,wr_succ i (by omega)]
    simp only [cond_true,Option.bind_some,leaveP]
    rw [show (goneN m).1=m.1 from rfl]
    cases hb:(Node.table m)[i].1 != m.1 with
    | false=>rfl
    | true =>
      simp only [cond_true,Bool.true_and]
      rw [show Q85.f K (m.2.2.2.2.2.2.2.2.1,(Node.table m)[i].1,())=_ from lives_s K (Node.table m) _ hT ht (List.getElem_mem hi) hK]
      simp only [Option.bind_some]
      cases livesB (Node.table m)[i] with
      | false=>rfl
      | true =>
        simp only [cond_true]
        refine (congrArg (fun o=>Option.bind o _) (whole_s K (goneN m) 5 (Node.table m)[i].1 ht)).trans ?_
        simp only [Option.bind_some]
        rw [szw _ _ _ (by omega) (by simp; omega)]
        rfl
  · intro rec acc ha
    simp only [Q86.l0.step]
    rw [show decide ((List.length (Node.table m):Int)<(List.length m.2.2.2.2.2.2.2.2.1:Int))=false from decNl _]
    rfl
theorem leave_loop_i (K:Nat) (x:Args Q140.ps) (m:Node) (ids:List Int) (hi8:ids.length≤1048576) (ht:(Node.table m).length≤1048576) (hK:1048577<K) :
    Q140.l0 K x ([],ids,(List.length ids:Int),0,m.1,m.2.1,m.2.2.2.1,m.2.2.2.2.1,m.2.2.2.2.2.1,m.2.2.2.2.2.2.1,m.2.2.2.2.2.2.2.1,m.2.2.2.2.2.2.2.2.1,m.2.2.2.2.2.2.2.2.2.1,m.2.2.2.2.2.2.2.2.2.2.1.1,m.2.2.2.2.2.2.2.2.2.2.1.2.1,m.2.2.2.2.2.2.2.2.2.2.1.2.2.1,m.2.2.2.2.2.2.2.2.2.2.1.2.2.2,m.2.2.2.2.2.2.2.2.2.2.2.1,m.2.2.2.2.2.2.2.2.2.2.2.2.1.1,m.2.2.2.2.2.2.2.2.2.2.2.2.1.2.1,m.2.2.2.2.2.2.2.2.2.2.2.2.1.2.2.1,m.2.2.2.2.2.2.2.2.2.2.2.2.1.2.2.2,m.2.2.2.2.2.2.2.2.2.2.2.2.2.1,m.2.2.2.2.2.2.2.2.2.2.2.2.2.2)=some ((ids.map fun to=>sendW 5 (goneN m) to,()),(goneN m,())):=by
  refine Eq.trans (gatherS (step:=fun rec a=>Q140.l0.step K x rec a) ids (fun _=>true) (fun to=>sendW 5 (goneN m) to) (fun acc i=>(acc,ids,(List.length ids:Int),(i:Int),m.1,m.2.1,m.2.2.2.1,m.2.2.2.2.1,m.2.2.2.2.2.1,m.2.2.2.2.2.2.1,m.2.2.2.2.2.2.2.1,m.2.2.2.2.2.2.2.2.1,m.2.2.2.2.2.2.2.2.2.1,m.2.2.2.2.2.2.2.2.2.2.1.1,m.2.2.2.2.2.2.2.2.2.2.1.2.1,m.2.2.2.2.2.2.2.2.2.2.1.2.2.1,m.2.2.2.2.2.2.2.2.2.2.1.2.2.2,m.2.2.2.2.2.2.2.2.2.2.2.1,m.2.2.2.2.2.2.2.2.2.2.2.2.1.1,m.2.2.2.2.2.2.2.2.2.2.2.2.1.2.1,m.2.2.2.2.2.2.2.2.2.2.2.2.1.2.2.1,m.2.2.2.2.2.2.2.2.2.2.2.2.1.2.2.2,m.2.2.2.2.2.2.2.2.2.2.2.2.2.1,m.2.2.2.2.2.2.2.2.2.2.2.2.2.2)) (fun ws=>some ((ws,()),(goneN m,()))) ?_ ?_ (by omega)) (by rw [List.filter_eq_self.2 (fun _ _=>rfl)])
  · intro rec acc i hi ha
    simp only [Q140.l0.step]
    rw [decLt (by omega:(i:Int)<(List.length ids:Int)),idx_get hi,wr_succ i (by omega),Int.toNat_natCast,idx_get hi]
    simp only [cond_true,Option.bind_some]
    refine (congrArg (fun o=>Option.bind o _) (whole_i K (goneN m) 5 ids[i] ht)).trans ?_
    simp only [Option.bind_some]
    rw [szw _ _ _ (by omega) (by simp; omega)]
    rfl
  · intro rec acc ha
    simp only [Q140.l0.step,decNl]
    rfl
theorem leaving_ok {n:Node} (hP:NodeP n):FactP (n.1,n.2.2.2.2.1,4,n.2.2.2.1):=⟨hP.1,hP.2.2.2.2.1,show (1:Int)≤4 by omega,show (4:Int)≤4 by omega⟩
theorem leave_s (K:Nat) (n:Node) (hn:NB n) (hP:NodeP n) (hu:n.2.1=true) (hg:n.2.2.1=false) (hK:1048577<K):Q86.f K (n,())=some ((leaveN n,leaveWs (leaveN n),()),()):=by
  have hs:=(hP.up hu).say
  have h1:=sayOf_ok (b:=n.1) hs (leaving_ok hP)
  simp only [Q86.f,Q86.pre]
  rw [hu,hg]
  simp only [Bool.not_true,cond_false]
  rw [say_s K n _ n.1 hs hK]
  exact leave_loop_s K _ _ h1.table h1.lt hK
theorem leave_i (K:Nat) (n:Node) (hn:NB n) (hP:NodeP n) (hu:n.2.1=true) (hg:n.2.2.1=false) (hK:1048577<K):Q140.f K (n,())=some ((leaveWs (leaveN n),()),(leaveN n,())):=by
  have hs:=(hP.up hu).say
  have h1:=sayOf_ok (b:=n.1) hs (leaving_ok hP)
  simp only [Q140.f,Q140.pre,Q126.f,Q126.pre]
  rw [hu,hg]
  simp only [cond_true,Option.bind_some,Bool.not_false,Bool.not_true,cond_false]
  rw [say_i K n _ n.1 hs (leaving_ok hP) hK]
  simp only [Option.bind_some]
  rw [show (n.1,n.2.2.2.2.1,(4:Int),n.2.2.2.1)=((n.1,n.2.2.2.2.1,4,n.2.2.2.1):Fact) from rfl]
  generalize hm:sayOf n (n.1,n.2.2.2.2.1,4,n.2.2.2.1) n.1=m at h1 ⊢
  have hφ:∀ f∈Node.table m,((Q139.f K (f,goneN m,())).map fun y=>y.1.1)=some (leaveP (goneN m) f):=by
    intro f hf
    simp only [Q139.f,Q139.pre,leaveP]
    cases f.1 != (goneN m).1 with
    | false=>rfl
    | true =>
      simp only [cond_true,Bool.true_and]
      rw [lives_i K (goneN m) f h1.table h1.lt hf hK]
      rfl
  refine (congrArg (fun o=>Option.bind o _) (nodes_i K (Node.table m) (fun y3=>(Q139.f K (y3.1,goneN m,())).map fun y=>y.1.1) (leaveP (goneN m)) h1.lt hK hφ)).trans ?_
  simp only [Option.bind_some]
  refine (leave_loop_i K _ m (((Node.table m).filter (leaveP (goneN m))).map (·.1)) (by rw [List.length_map]; exact Nat.le_trans (List.length_filter_le _ _) h1.lt) h1.lt hK).trans ?_
  rw [List.map_map]
  show _=some ((leaveWs (goneN (sayOf n (n.1,n.2.2.2.2.1,4,n.2.2.2.1) n.1)),()),(goneN (sayOf n (n.1,n.2.2.2.2.1,4,n.2.2.2.1) n.1),()))
  rw [hm]
  rfl
theorem does_leave (K:Nat) (n y:Node) (ws:List Word) (hn:NB n) (hok:Q125.f K (n,())=rb true) (hj:Q140.f K (n,())=some ((ws,()),(y,()))) (hK:1048577<K):Q144.f K (n,())=some ((y,ws,()),()):=by
  simp only [Q144.f,Q144.pre,Q143.f,Q143.pre]
  rw [hok]
  simp only [Option.bind_some,Bool.not_true,cond_false]
  rw [copied_i K n hn hK]
  simp only [Option.bind_some]
  rw [hj]
  simp only [Option.bind_some,Q142.f,Q142.pre]
  simp
theorem nodeLeave_same (K:Nat) (n:Node) (hn:NB n) (hK:1048577<K):∃ y:Node,∃ ws:List Word,NB y∧ws.length≤1048576∧(∀ w∈ws,(Word.table w).length≤1048576)∧Q87.f K (n,())=some ((y,ws,()),())∧Q144.f K (n,())=some ((y,ws,()),()):=by
  obtain ⟨b,h1,h2,h3⟩:=nodeOk_both K n hn hK
  cases b with
  | false =>
    refine ⟨zeroNode,[],zeroNode_ok,by simp,by simp,?_,?_⟩
    · simp only [Q87.f,Q87.pre]; rw [h1]; rfl
    · simp only [Q144.f,Q144.pre,Q143.f,Q143.pre]; rw [h2]; rfl
  | true =>
    have hP:=h3.1 rfl
    have hcopy:=copy_s K n hn hK
    have stay:n.2.1=false∨n.2.2.1=true→Q86.f K (n,())=some ((n,[],()),())∧Q140.f K (n,())=some (([],()),(n,())):=by
      intro h
      simp only [Q86.f,Q86.pre,Q140.f,Q140.pre,Q126.f,Q126.pre]
      cases hu:n.2.1 with
      | false=>exact ⟨rfl,rfl⟩
      | true =>
        have hg:n.2.2.1=true:=by
          rcases h with h | h
          · rw [hu] at h; cases h
          · exact h
        rw [hg]
        exact ⟨rfl,rfl⟩
    by_cases h:n.2.1=false∨n.2.2.1=true
    · obtain ⟨hs,hi⟩:=stay h
      refine ⟨n,[],hn,by simp,by simp,?_,does_leave K n n [] hn h2 hi hK⟩
      simp only [Q87.f,Q87.pre]
      rw [h1]
      simp only [Option.bind_some,Bool.not_true,cond_false]
      rw [hcopy]
      simp only [Option.bind_some]
      rw [hs]
      simp only [Option.bind_some]
      rw [hcopy]
      rfl
    · have hu:n.2.1=true:=by cases hh:n.2.1 with | true=>rfl | false=>exact absurd (.inl hh) h
      have hg:n.2.2.1=false:=by cases hh:n.2.2.1 with | false=>rfl | true=>exact absurd (.inr hh) h
      have hs:=(hP.up hu).say
      have hnb:=sayOf_nb (b:=n.1) hn hs (leaving_ok hP)
      have hnb':NB (leaveN n):=⟨hnb.table,hnb.cast,hnb.doubts,hnb.by_,hnb.places,hnb.trips,hnb.others,hnb.facts⟩
      refine ⟨leaveN n,leaveWs (leaveN n),hnb',?_,?_,?_,does_leave K n _ _ hn h2 (leave_i K n hn hP hu hg hK) hK⟩
      · unfold leaveWs
        rw [List.length_map]
        exact Nat.le_trans (List.length_filter_le _ _) hnb'.table
      · intro w hw
        obtain ⟨f,_,rfl⟩:=List.mem_map.1 hw
        exact hnb'.table
      · simp only [Q87.f,Q87.pre]
        rw [h1]
        simp only [Option.bind_some,Bool.not_true,cond_false]
        rw [hcopy]
        simp only [Option.bind_some]
        rw [leave_s K n hn hP hu hg hK]
        simp only [Option.bind_some]
        rw [copy_s K (leaveN n) hnb' hK]
        rfl
theorem law_NodeLeave (K:Nat) (n:Node) (hn:NM n) (hK:1048577<K):Q145.f K (n,())=some ((true,()),()):=by
  simp only [Q145.f,Q145.pre]
  obtain ⟨r,h1,h2⟩:=szNode_ok K n hn 1048576 (by omega) (by omega) hK
  rw [h1,Option.bind_some]
  rcases h2 with h2 | ⟨h2,_,hb⟩
  · rw [decide_eq_true h2]; rfl
  · rw [nneg h2]
    obtain ⟨y,ws,hy,hws,htb,h3,h4⟩:=nodeLeave_same K n hb hK
    obtain ⟨m,hm,h5⟩:=mark_copy K n hb hK
    obtain ⟨m1,m2,ws',k1,k2,k3,k4,k5,k6,k7,k8⟩:=said_node K y ws hy hws htb hK
    simp only [cond_false,toNode_ok K n hb hK,Option.bind_some,h3,h4,h5,k3,k4,k5,k6,k7,k8,eqNode_refl K n hb hK,nneg hm,nneg k1,nneg k2,bne_self_eq_false,Bool.not_true]
end Go.Proofs.YthgnfidnmnkeaaaGreatEv
