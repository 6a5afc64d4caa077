/- The marks that a law writes into what was answered, and the look whether they still stand. -/
import Derived.Test.YthgnfidnmnkeaaaGreatP1
import Derived.Test.YthgnfidnmnkeaaaGreatE0
namespace Go.Proofs.YthgnfidnmnkeaaaGreatEv
open Go
theorem idx_set {α:Type} {xs:List α} {i:Nat} {v:α} (h:i<xs.length):idx (xs.set i v) (i:Int)=some v:=by
  rw [idx_nat,List.getElem?_set]
  simp [h]
theorem wrp {a:Int} (h0:0≤a) (h1:a≤9223372036854775806):wr .i64 (a+1)=a+1:=wr64 (by omega) (by omega)
def mks {α:Type} (mk:α→Int→α×Int):List α→Int→List α×Int
  | [],m=>([],m)
  | x :: xs,m=>((mk x m).1 :: (mks mk xs (mk x m).2).1,(mks mk xs (mk x m).2).2)
theorem mks_next {α:Type} {mk:α→Int→α×Int} {W:α→Nat} (hW:∀ x m,(mk x m).2=m+W x):∀ (xs:List α) (m:Int),(mks mk xs m).2=m+((xs.map W).sum:Nat)
  | [],m=>by simp [mks]
  | x :: xs,m=>by
    simp only [mks,List.map_cons,List.sum_cons]
    rw [mks_next hW xs,hW]
    omega
theorem mks_len {α:Type} {mk:α→Int→α×Int}:∀ (xs:List α) (m:Int),(mks mk xs m).1.length=xs.length
  | [],_=>rfl
  | x :: xs,m=>by simp [mks,mks_len xs]
abbrev MkR (α:Type):=(Int×Unit)×(List α×Unit)
theorem mark_loop {α:Type} (mk:α→Int→α×Int) (W:α→Nat) (P:α→Prop) (hW:∀ x m,(mk x m).2=m+W x) {step:(List α×Int×Int→Option (MkR α))→List α×Int×Int→Option (MkR α)}
    (h:∀ (rec:List α×Int×Int→Option (MkR α)) (ys:List α) (m:Int) (i:Nat) (hi:i<ys.length),ys.length≤1048576→P ys[i]→0≤m→m+W ys[i]≤4611686018427387904→step rec (ys,m,(i:Int))=rec (ys.set i (mk ys[i] m).1,(mk ys[i] m).2,((i+1:Nat):Int)))
    (hend:∀ (rec:List α×Int×Int→Option (MkR α)) (ys:List α) (m:Int),step rec (ys,m,(ys.length:Int))=some ((m,()),(ys,()))) :
    ∀ (xs pre:List α) (m:Int) (k:Nat),pre.length+xs.length≤1048576→xs.length<k→(∀ x∈xs,P x)→0≤m→m+((xs.map W).sum:Nat)≤4611686018427387904 →
      iterate step k (pre++xs,m,((pre.length:Nat):Int))=some (((mks mk xs m).2,()),(pre++(mks mk xs m).1,())):=by
  intro xs
  induction xs with
  | nil =>
    intro pre m k hl hk _ _ _
    obtain ⟨k,rfl⟩:∃ k',k=k'+1:=⟨k-1,by omega⟩
    show step (iterate step k) _=_
    rw [List.append_nil,hend]
    simp [mks]
  | cons x xs ih =>
    intro pre m k hl hk hP h0 hm
    simp only [List.length_cons] at hl hk
    obtain ⟨k,rfl⟩:∃ k',k=k'+1:=⟨k-1,by omega⟩
    have hi:pre.length<(pre++x :: xs).length:=by simp
    have e:(pre++x :: xs)[pre.length]=x:=by simp
    simp only [List.map_cons,List.sum_cons] at hm
    have h1:=h (iterate step k) (pre++x :: xs) m pre.length hi (by simp; omega) (e.symm ▸ hP x (List.mem_cons_self ..)) h0 (by rw [e]; omega)
    rw [e] at h1
    show step (iterate step k) _=_
    rw [h1]
    have e2:(pre++x :: xs).set pre.length (mk x m).1=(pre++[(mk x m).1])++xs:=by simp
    rw [e2]
    have h2:=ih (pre++[(mk x m).1]) (mk x m).2 k (by simp; omega) (by omega) (fun y hy=>hP y (List.mem_cons_of_mem _ hy)) (by rw [hW]; omega) (by rw [hW]; omega)
    simp only [List.length_append,List.length_cons,List.length_nil,Nat.zero_add] at h2
    rw [h2]
    simp [mks]
theorem held_loop {α:Type} (mk:α→Int→α×Int) (W:α→Nat) (P:α→Prop) (hW:∀ x m,(mk x m).2=m+W x) (ys:List α) {step:(Int×Int→Option ((Int×Unit)×Unit))→Int×Int→Option ((Int×Unit)×Unit)} (hys:ys.length≤1048576)
    (h:∀ (rec:Int×Int→Option ((Int×Unit)×Unit)) (x:α) (m:Int) (i:Nat) (hi:i<ys.length),ys[i]=(mk x m).1→P x→0≤m→m+W x≤4611686018427387904→step rec (m,(i:Int))=rec ((mk x m).2,((i+1:Nat):Int)))
    (hend:∀ (rec:Int×Int→Option ((Int×Unit)×Unit)) (m:Int),step rec (m,(ys.length:Int))=some ((m,()),())) :
    ∀ (xs pre:List α) (m:Int) (k:Nat),ys=pre++(mks mk xs m).1→xs.length<k→(∀ x∈xs,P x)→0≤m→m+((xs.map W).sum:Nat)≤4611686018427387904 →
      iterate step k (m,((pre.length:Nat):Int))=some (((mks mk xs m).2,()),()):=by
  intro xs
  induction xs with
  | nil =>
    intro pre m k e hk _ _ _
    obtain ⟨k,rfl⟩:∃ k',k=k'+1:=⟨k-1,by omega⟩
    have e':pre.length=ys.length:=by rw [e]; simp [mks]
    show step (iterate step k) _=_
    rw [e',hend]
    rfl
  | cons x xs ih =>
    intro pre m k e hk hP h0 hm
    simp only [List.length_cons] at hk
    obtain ⟨k,rfl⟩:∃ k',k=k'+1:=⟨k-1,by omega⟩
    simp only [List.map_cons,List.sum_cons] at hm
    have hi:pre.length<ys.length:=by rw [e]; simp [mks]
    have e1:ys[pre.length]=(mk x m).1:=by subst e; simp [mks]
    have h1:=h (iterate step k) x m pre.length hi e1 (hP x (List.mem_cons_self ..)) h0 (by omega)
    show step (iterate step k) _=_
    rw [h1]
    have h2:=ih (pre++[(mk x m).1]) (mk x m).2 k (by rw [e]; simp [mks]) (by omega) (fun y hy=>hP y (List.mem_cons_of_mem _ hy)) (by rw [hW]; omega) (by rw [hW]; omega)
    simp only [List.length_append,List.length_cons,List.length_nil,Nat.zero_add] at h2
    rw [h2]
    rfl
def mkInt (_:Int) (m:Int):Int×Int:=(m,m+1)
def mkFact (_:Fact) (m:Int):Fact×Int:=((m,m+1,m+1+1,(Int.tmod (m+1+1+1) 3==0)),m+1+1+1+1)
def mkItem (x:Item) (m:Int):Item×Int:=(((mkFact x.1 m).1,m+1+1+1+1),m+1+1+1+1+1)
def mkDoubt (d:Doubt) (m:Int):Doubt×Int:=((m,m+1,m+1+1,(mks mkInt d.2.2.2 (m+1+1+1)).1),(mks mkInt d.2.2.2 (m+1+1+1)).2)
def mkPlace (d:Place) (m:Int):Place×Int:=((m,(m+1,m+1+1,m+1+1+1,m+1+1+1+1),(mks mkInt d.2.2 (m+1+1+1+1+1)).1),(mks mkInt d.2.2 (m+1+1+1+1+1)).2)
def mkForeign (d:Foreign) (m:Int):Foreign×Int:=((m,(mks mkFact d.2 (m+1)).1),(mks mkFact d.2 (m+1)).2)
def wInt (_:Int):Nat:=1
def wFact (_:Fact):Nat:=4
def wItem (_:Item):Nat:=5
def wDoubt (d:Doubt):Nat:=3+(d.2.2.2.map wInt).sum
def wPlace (d:Place):Nat:=5+(d.2.2.map wInt).sum
def wForeign (d:Foreign):Nat:=1+(d.2.map wFact).sum
theorem wInt_ok (x:Int) (m:Int):(mkInt x m).2=m+wInt x:=by simp [mkInt,wInt]
theorem wFact_ok (x:Fact) (m:Int):(mkFact x m).2=m+wFact x:=by simp only [mkFact,wFact]; omega
theorem wItem_ok (x:Item) (m:Int):(mkItem x m).2=m+wItem x:=by simp only [mkItem,wItem]; omega
theorem wDoubt_ok (x:Doubt) (m:Int):(mkDoubt x m).2=m+wDoubt x:=by simp only [mkDoubt,wDoubt,mks_next wInt_ok]; omega
theorem wPlace_ok (x:Place) (m:Int):(mkPlace x m).2=m+wPlace x:=by simp only [mkPlace,wPlace,mks_next wInt_ok]; omega
theorem wForeign_ok (x:Foreign) (m:Int):(mkForeign x m).2=m+wForeign x:=by simp only [mkForeign,wForeign,mks_next wFact_ok]; omega
theorem markIntS_ok (K:Nat) (xs:List Int) (m:Int) (hx:xs.length≤1048576) (h0:0≤m) (hm:m+((xs.map wInt).sum:Nat)≤4611686018427387904) (hK:1048577<K) :
    Q47.f K (xs,m,())=some (((mks mkInt xs m).2,()),((mks mkInt xs m).1,())):=by
  refine mark_loop (step:=fun rec a=>Q47.l0.step K (xs,m,()) rec a) mkInt wInt (fun _=>True) wInt_ok ?_ ?_ xs [] m K (by simpa using hx) (by omega) (fun _ _=>trivial) h0 hm
  · intro rec ys m i hi hl _ h0 hm
    simp only [wInt] at hm
    simp only [Q47.l0.step]
    rw [decLt (by omega:(i:Int)<(List.length ys:Int)),idx_get hi,wr_succ i (by omega),wrp h0 (by omega)]
    simp only [cond_true,Option.bind_some,Int.toNat_natCast,idx_get hi]
    rfl
  · intro rec ys m
    simp only [Q47.l0.step,decNl]
    rfl
theorem markFactS_ok (K:Nat) (xs:List Fact) (m:Int) (hx:xs.length≤1048576) (h0:0≤m) (hm:m+((xs.map wFact).sum:Nat)≤4611686018427387904) (hK:1048577<K) :
    Q45.f K (xs,m,())=some (((mks mkFact xs m).2,()),((mks mkFact xs m).1,())):=by
  refine mark_loop (step:=fun rec a=>Q45.l0.step K (xs,m,()) rec a) mkFact wFact (fun _=>True) wFact_ok ?_ ?_ xs [] m K (by simpa using hx) (by omega) (fun _ _=>trivial) h0 hm
  · intro rec ys m i hi hl _ h0 hm
    simp only [wFact] at hm
    simp only [Q45.l0.step]
    rw [decLt (by omega:(i:Int)<(List.length ys:Int)),idx_get hi,wr_succ i (by omega)]
    simp (disch:=omega) only [wrp,cond_true,Option.bind_some,Int.toNat_natCast,List.set_set,idx_set hi,idx_get hi]
    rfl
  · intro rec ys m
    simp only [Q45.l0.step,decNl]
    rfl
theorem markItemS_ok (K:Nat) (xs:List Item) (m:Int) (hx:xs.length≤1048576) (h0:0≤m) (hm:m+((xs.map wItem).sum:Nat)≤4611686018427387904) (hK:1048577<K) :
    Q46.f K (xs,m,())=some (((mks mkItem xs m).2,()),((mks mkItem xs m).1,())):=by
  refine mark_loop (step:=fun rec a=>Q46.l0.step K (xs,m,()) rec a) mkItem wItem (fun _=>True) wItem_ok ?_ ?_ xs [] m K (by simpa using hx) (by omega) (fun _ _=>trivial) h0 hm
  · intro rec ys m i hi hl _ h0 hm
    simp only [wItem] at hm
    simp only [Q46.l0.step]
    rw [decLt (by omega:(i:Int)<(List.length ys:Int)),idx_get hi,wr_succ i (by omega)]
    simp (disch:=omega) only [wrp,cond_true,Option.bind_some,Int.toNat_natCast,List.set_set,idx_set hi,idx_get hi]
    rfl
  · intro rec ys m
    simp only [Q46.l0.step,decNl]
    rfl
theorem markDoubtS_ok (K:Nat) (xs:List Doubt) (m:Int) (hx:xs.length≤1048576) (hb:∀ y∈xs,y.2.2.2.length≤1048576) (h0:0≤m) (hm:m+((xs.map wDoubt).sum:Nat)≤4611686018427387904) (hK:1048577<K) :
    Q48.f K (xs,m,())=some (((mks mkDoubt xs m).2,()),((mks mkDoubt xs m).1,())):=by
  refine mark_loop (step:=fun rec a=>Q48.l0.step K (xs,m,()) rec a) mkDoubt wDoubt (fun y=>y.2.2.2.length≤1048576) wDoubt_ok ?_ ?_ xs [] m K (by simpa using hx) (by omega) hb h0 hm
  · intro rec ys m i hi hl hb h0 hm
    simp only [wDoubt] at hm
    simp only [Q48.l0.step]
    rw [decLt (by omega:(i:Int)<(List.length ys:Int)),idx_get hi,wr_succ i (by omega)]
    simp (disch:=omega) only [wrp,cond_true,Option.bind_some,Int.toNat_natCast,List.set_set,idx_set hi,idx_get hi]
    rw [markIntS_ok K _ _ hb (by omega) (by omega) hK]
    rfl
  · intro rec ys m
    simp only [Q48.l0.step,decNl]
    rfl
theorem markPlaceS_ok (K:Nat) (xs:List Place) (m:Int) (hx:xs.length≤1048576) (hb:∀ y∈xs,y.2.2.length≤1048576) (h0:0≤m) (hm:m+((xs.map wPlace).sum:Nat)≤4611686018427387904) (hK:1048577<K) :
    Q49.f K (xs,m,())=some (((mks mkPlace xs m).2,()),((mks mkPlace xs m).1,())):=by
  refine mark_loop (step:=fun rec a=>Q49.l0.step K (xs,m,()) rec a) mkPlace wPlace (fun y=>y.2.2.length≤1048576) wPlace_ok ?_ ?_ xs [] m K (by simpa using hx) (by omega) hb h0 hm
  · intro rec ys m i hi hl hb h0 hm
    simp only [wPlace] at hm
    simp only [Q49.l0.step]
    rw [decLt (by omega:(i:Int)<(List.length ys:Int)),idx_get hi,wr_succ i (by omega)]
    simp (disch:=omega) only [wrp,cond_true,Option.bind_some,Int.toNat_natCast,List.set_set,idx_set hi,idx_get hi]
    rw [markIntS_ok K _ _ hb (by omega) (by omega) hK]
    rfl
  · intro rec ys m
    simp only [Q49.l0.step,decNl]
    rfl
theorem markForeignS_ok (K:Nat) (xs:List Foreign) (m:Int) (hx:xs.length≤1048576) (hb:∀ y∈xs,y.2.length≤1048576) (h0:0≤m) (hm:m+((xs.map wForeign).sum:Nat)≤4611686018427387904) (hK:1048577<K) :
    Q50.f K (xs,m,())=some (((mks mkForeign xs m).2,()),((mks mkForeign xs m).1,())):=by
  refine mark_loop (step:=fun rec a=>Q50.l0.step K (xs,m,()) rec a) mkForeign wForeign (fun y=>y.2.length≤1048576) wForeign_ok ?_ ?_ xs [] m K (by simpa using hx) (by omega) hb h0 hm
  · intro rec ys m i hi hl hb h0 hm
    simp only [wForeign] at hm
    simp only [Q50.l0.step]
    rw [decLt (by omega:(i:Int)<(List.length ys:Int)),idx_get hi,wr_succ i (by omega)]
    simp (disch:=omega) only [wrp,cond_true,Option.bind_some,Int.toNat_natCast,List.set_set,idx_set hi,idx_get hi]
    rw [markFactS_ok K _ _ hb (by omega) (by omega) hK]
    rfl
  · intro rec ys m
    simp only [Q50.l0.step,decNl]
    rfl
end Go.Proofs.YthgnfidnmnkeaaaGreatEv
namespace Go.Proofs.YthgnfidnmnkeaaaGreatEv
open Go
theorem nneg {a:Int} (h:0≤a):decide (a<0)=false:=decide_eq_false (by omega)
theorem sum_le {α:Type} {W:α→Nat} {c:Nat}:∀ {xs:List α},(∀ x∈xs,W x≤c)→(xs.map W).sum≤xs.length*c
  | [],_=>by simp
  | x :: xs,h=>by
    have h1:=h x (List.mem_cons_self ..)
    have h2:=sum_le (xs:=xs) (fun y hy=>h y (List.mem_cons_of_mem _ hy))
    simp only [List.map_cons,List.sum_cons,List.length_cons,Nat.succ_mul]
    omega
theorem sum_bd {α:Type} {W:α→Nat} {xs:List α} (hx:xs.length≤1048576) {c:Nat} (hc:c≤4194309) (h:∀ x∈xs,W x≤c):(xs.map W).sum≤1048576*4194309 :=
  Nat.le_trans (sum_le h) (Nat.mul_le_mul hx hc)
theorem wInts_le {xs:List Int} (h:xs.length≤1048576):(xs.map wInt).sum≤1048576:=by
  have:=sum_le (W:=wInt) (c:=1) (xs:=xs) (fun _ _=>Nat.le_refl _)
  omega
theorem wFacts_le {xs:List Fact} (h:xs.length≤1048576):(xs.map wFact).sum≤4194304:=by
  have:=sum_le (W:=wFact) (c:=4) (xs:=xs) (fun _ _=>Nat.le_refl _)
  omega
def wNode (n:Node):Nat:=(((Node.table n).map wFact).sum+((Node.cast n).map wItem).sum+((Node.doubts n).map wDoubt).sum+((Node.places n).map wPlace).sum+((Node.others n).map wForeign).sum)
def nodeWith (n:Node) (t:List Fact) (c:List Item) (d:List Doubt) (p:List Place) (o:List Foreign):Node :=
  (n.1,n.2.1,n.2.2.1,n.2.2.2.1,n.2.2.2.2.1,n.2.2.2.2.2.1,n.2.2.2.2.2.2.1,n.2.2.2.2.2.2.2.1,t,c,Node.probe n,d,Node.coord n,p,o)
def mkNode (n:Node) (m:Int):Node×Int :=
  let a:=mks mkFact (Node.table n) m
  let b:=mks mkItem (Node.cast n) a.2
  let c:=mks mkDoubt (Node.doubts n) b.2
  let d:=mks mkPlace (Node.places n) c.2
  let e:=mks mkForeign (Node.others n) d.2
  (nodeWith n a.1 b.1 c.1 d.1 e.1,e.2)
theorem wNode_ok (n:Node) (m:Int):(mkNode n m).2=m+wNode n:=by
  simp only [mkNode,wNode,mks_next wFact_ok,mks_next wItem_ok,mks_next wDoubt_ok,mks_next wPlace_ok,mks_next wForeign_ok]
  omega
theorem wNode_le {n:Node} (hn:NB n):wNode n≤5*(1048576*4194309):=by
  have h1:=sum_bd (W:=wFact) (c:=4) hn.table (by omega) (fun _ _=>Nat.le_refl _)
  have h2:=sum_bd (W:=wItem) (c:=5) hn.cast (by omega) (fun _ _=>Nat.le_refl _)
  have h3:=sum_bd (W:=wDoubt) (c:=1048580) hn.doubts (by omega) (fun x hx=>by
    have:=wInts_le (hn.by_ x hx)
    simp only [wDoubt]; omega)
  have h4:=sum_bd (W:=wPlace) (c:=1048581) hn.places (by omega) (fun x hx=>by
    have:=wInts_le (hn.trips x hx)
    simp only [wPlace]; omega)
  have h5:=sum_bd (W:=wForeign) (c:=4194305) hn.others (by omega) (fun x hx=>by
    have:=wFacts_le (hn.facts x hx)
    simp only [wForeign]; omega)
  simp only [wNode]
  omega
theorem markNode_ok (K:Nat) (n:Node) (hn:NB n) (m:Int) (h0:0≤m) (hm:m+wNode n≤4611686018427387904) (hK:1048577<K) :
    Q51.f K (n,m,())=some (((mkNode n m).2,()),((mkNode n m).1,())):=by
  simp only [wNode] at hm
  simp only [Q51.f,Q51.pre]
  rw [markFactS_ok K _ m hn.table h0 (by omega) hK]
  simp only [Option.bind_some]
  rw [markItemS_ok K _ _ hn.cast (by rw [mks_next wFact_ok]; omega) (by rw [mks_next wFact_ok]; omega) hK]
  simp only [Option.bind_some]
  rw [markDoubtS_ok K _ _ hn.doubts hn.by_ (by rw [mks_next wItem_ok,mks_next wFact_ok]; omega) (by rw [mks_next wItem_ok,mks_next wFact_ok]; omega) hK]
  simp only [Option.bind_some]
  rw [markPlaceS_ok K _ _ hn.places hn.trips (by rw [mks_next wDoubt_ok,mks_next wItem_ok,mks_next wFact_ok]; omega) (by rw [mks_next wDoubt_ok,mks_next wItem_ok,mks_next wFact_ok]; omega) hK]
  simp only [Option.bind_some]
  rw [markForeignS_ok K _ _ hn.others hn.facts (by rw [mks_next wPlace_ok,mks_next wDoubt_ok,mks_next wItem_ok,mks_next wFact_ok]; omega) (by rw [mks_next wPlace_ok,mks_next wDoubt_ok,mks_next wItem_ok,mks_next wFact_ok]; omega) hK]
  rfl
theorem heldIntS_ok (K:Nat) (xs:List Int) (m:Int) (hx:xs.length≤1048576) (h0:0≤m) (hm:m+((xs.map wInt).sum:Nat)≤4611686018427387904) (hK:1048577<K) :
    Q57.f K ((mks mkInt xs m).1,m,())=some (((mks mkInt xs m).2,()),()):=by
  refine held_loop (step:=fun rec a=>Q57.l0.step K ((mks mkInt xs m).1,m,()) rec a) mkInt wInt (fun _=>True) wInt_ok (mks mkInt xs m).1 (by rw [mks_len]; exact hx) ?_ ?_ xs [] m K rfl (by omega) (fun _ _=>trivial) h0 hm
  · intro rec x m' i hi e _ h0 hm
    simp only [wInt] at hm
    rw [mks_len] at hi
    simp only [Q57.l0.step]
    rw [decLt (by rw [mks_len]; omega:(i:Int)<(List.length (mks mkInt xs m).1:Int)),idx_get (by rw [mks_len]; exact hi),wr_succ i (by omega),e]
    simp (disch:=omega) only [wrp,cond_true,Option.bind_some,mkInt,bne_self_eq_false,cond_false]
  · intro rec m'
    simp only [Q57.l0.step,decNl]
    rfl
theorem heldFactS_ok (K:Nat) (xs:List Fact) (m:Int) (hx:xs.length≤1048576) (h0:0≤m) (hm:m+((xs.map wFact).sum:Nat)≤4611686018427387904) (hK:1048577<K) :
    Q55.f K ((mks mkFact xs m).1,m,())=some (((mks mkFact xs m).2,()),()):=by
  refine held_loop (step:=fun rec a=>Q55.l0.step K ((mks mkFact xs m).1,m,()) rec a) mkFact wFact (fun _=>True) wFact_ok (mks mkFact xs m).1 (by rw [mks_len]; exact hx) ?_ ?_ xs [] m K rfl (by omega) (fun _ _=>trivial) h0 hm
  · intro rec x m' i hi e _ h0 hm
    simp only [wFact] at hm
    rw [mks_len] at hi
    simp only [Q55.l0.step]
    rw [decLt (by rw [mks_len]; omega:(i:Int)<(List.length (mks mkFact xs m).1:Int)),idx_get (by rw [mks_len]; exact hi),wr_succ i (by omega),e]
    simp (disch:=omega) only [wrp,cond_true,Option.bind_some,mkFact,bne_self_eq_false,cond_false]
  · intro rec m'
    simp only [Q55.l0.step,decNl]
    rfl
theorem heldItemS_ok (K:Nat) (xs:List Item) (m:Int) (hx:xs.length≤1048576) (h0:0≤m) (hm:m+((xs.map wItem).sum:Nat)≤4611686018427387904) (hK:1048577<K) :
    Q56.f K ((mks mkItem xs m).1,m,())=some (((mks mkItem xs m).2,()),()):=by
  refine held_loop (step:=fun rec a=>Q56.l0.step K ((mks mkItem xs m).1,m,()) rec a) mkItem wItem (fun _=>True) wItem_ok (mks mkItem xs m).1 (by rw [mks_len]; exact hx) ?_ ?_ xs [] m K rfl (by omega) (fun _ _=>trivial) h0 hm
  · intro rec x m' i hi e _ h0 hm
    simp only [wItem] at hm
    rw [mks_len] at hi
    simp only [Q56.l0.step]
    rw [decLt (by rw [mks_len]; omega:(i:Int)<(List.length (mks mkItem xs m).1:Int)),idx_get (by rw [mks_len]; exact hi),wr_succ i (by omega),e]
    simp (disch:=omega) only [wrp,cond_true,Option.bind_some,mkItem,mkFact,bne_self_eq_false,cond_false]
  · intro rec m'
    simp only [Q56.l0.step,decNl]
    rfl
theorem heldDoubtS_ok (K:Nat) (xs:List Doubt) (m:Int) (hx:xs.length≤1048576) (hb:∀ y∈xs,y.2.2.2.length≤1048576) (h0:0≤m) (hm:m+((xs.map wDoubt).sum:Nat)≤4611686018427387904) (hK:1048577<K) :
    Q58.f K ((mks mkDoubt xs m).1,m,())=some (((mks mkDoubt xs m).2,()),()):=by
  refine held_loop (step:=fun rec a=>Q58.l0.step K ((mks mkDoubt xs m).1,m,()) rec a) mkDoubt wDoubt (fun y=>y.2.2.2.length≤1048576) wDoubt_ok (mks mkDoubt xs m).1 (by rw [mks_len]; exact hx) ?_ ?_ xs [] m K rfl (by omega) hb h0 hm
  · intro rec x m' i hi e hb h0 hm
    simp only [wDoubt] at hm
    rw [mks_len] at hi
    simp only [Q58.l0.step]
    rw [decLt (by rw [mks_len]; omega:(i:Int)<(List.length (mks mkDoubt xs m).1:Int)),idx_get (by rw [mks_len]; exact hi),wr_succ i (by omega),e]
    simp (disch:=omega) only [wrp,cond_true,Option.bind_some,mkDoubt,bne_self_eq_false,cond_false]
    rw [heldIntS_ok K _ _ hb (by omega) (by omega) hK]
    simp only [Option.bind_some]
    rw [nneg (a:=(mks mkInt _ _).2) (by rw [mks_next wInt_ok]; omega)]
    rfl
  · intro rec m'
    simp only [Q58.l0.step,decNl]
    rfl
theorem heldPlaceS_ok (K:Nat) (xs:List Place) (m:Int) (hx:xs.length≤1048576) (hb:∀ y∈xs,y.2.2.length≤1048576) (h0:0≤m) (hm:m+((xs.map wPlace).sum:Nat)≤4611686018427387904) (hK:1048577<K) :
    Q59.f K ((mks mkPlace xs m).1,m,())=some (((mks mkPlace xs m).2,()),()):=by
  refine held_loop (step:=fun rec a=>Q59.l0.step K ((mks mkPlace xs m).1,m,()) rec a) mkPlace wPlace (fun y=>y.2.2.length≤1048576) wPlace_ok (mks mkPlace xs m).1 (by rw [mks_len]; exact hx) ?_ ?_ xs [] m K rfl (by omega) hb h0 hm
  · intro rec x m' i hi e hb h0 hm
    simp only [wPlace] at hm
    rw [mks_len] at hi
    simp only [Q59.l0.step]
    rw [decLt (by rw [mks_len]; omega:(i:Int)<(List.length (mks mkPlace xs m).1:Int)),idx_get (by rw [mks_len]; exact hi),wr_succ i (by omega),e]
    simp (disch:=omega) only [wrp,cond_true,Option.bind_some,mkPlace,bne_self_eq_false,cond_false]
    rw [heldIntS_ok K _ _ hb (by omega) (by omega) hK]
    simp only [Option.bind_some]
    rw [nneg (a:=(mks mkInt _ _).2) (by rw [mks_next wInt_ok]; omega)]
    rfl
  · intro rec m'
    simp only [Q59.l0.step,decNl]
    rfl
theorem heldForeignS_ok (K:Nat) (xs:List Foreign) (m:Int) (hx:xs.length≤1048576) (hb:∀ y∈xs,y.2.length≤1048576) (h0:0≤m) (hm:m+((xs.map wForeign).sum:Nat)≤4611686018427387904) (hK:1048577<K) :
    Q60.f K ((mks mkForeign xs m).1,m,())=some (((mks mkForeign xs m).2,()),()):=by
  refine held_loop (step:=fun rec a=>Q60.l0.step K ((mks mkForeign xs m).1,m,()) rec a) mkForeign wForeign (fun y=>y.2.length≤1048576) wForeign_ok (mks mkForeign xs m).1 (by rw [mks_len]; exact hx) ?_ ?_ xs [] m K rfl (by omega) hb h0 hm
  · intro rec x m' i hi e hb h0 hm
    simp only [wForeign] at hm
    rw [mks_len] at hi
    simp only [Q60.l0.step]
    rw [decLt (by rw [mks_len]; omega:(i:Int)<(List.length (mks mkForeign xs m).1:Int)),idx_get (by rw [mks_len]; exact hi),wr_succ i (by omega),e]
    simp (disch:=omega) only [wrp,cond_true,Option.bind_some,mkForeign,bne_self_eq_false,cond_false]
    rw [heldFactS_ok K _ _ hb (by omega) (by omega) hK]
    simp only [Option.bind_some]
    rw [nneg (a:=(mks mkFact _ _).2) (by rw [mks_next wFact_ok]; omega)]
    rfl
  · intro rec m'
    simp only [Q60.l0.step,decNl]
    rfl
theorem heldNode_ok (K:Nat) (n:Node) (hn:NB n) (m:Int) (h0:0≤m) (hm:m+wNode n≤4611686018427387904) (hK:1048577<K) :
    Q61.f K ((mkNode n m).1,m,())=some (((mkNode n m).2,()),()):=by
  simp only [wNode] at hm
  simp only [Q61.f,Q61.pre,mkNode,nodeWith]
  rw [heldFactS_ok K _ m hn.table h0 (by omega) hK]
  simp only [Option.bind_some]
  rw [nneg (a:=(mks mkFact (Node.table n) m).2) (by rw [mks_next wFact_ok]; omega),heldItemS_ok K _ _ hn.cast (by rw [mks_next wFact_ok]; omega) (by rw [mks_next wFact_ok]; omega) hK]
  simp only [Option.bind_some,cond_false]
  rw [nneg (a:=(mks mkItem (Node.cast n) (mks mkFact (Node.table n) m).2).2) (by rw [mks_next wItem_ok,mks_next wFact_ok]; omega),heldDoubtS_ok K _ _ hn.doubts hn.by_ (by rw [mks_next wItem_ok,mks_next wFact_ok]; omega) (by rw [mks_next wItem_ok,mks_next wFact_ok]; omega) hK]
  simp only [Option.bind_some,cond_false]
  rw [nneg (a:=(mks mkDoubt (Node.doubts n) (mks mkItem (Node.cast n) (mks mkFact (Node.table n) m).2).2).2) (by rw [mks_next wDoubt_ok,mks_next wItem_ok,mks_next wFact_ok]; omega),heldPlaceS_ok K _ _ hn.places hn.trips (by rw [mks_next wDoubt_ok,mks_next wItem_ok,mks_next wFact_ok]; omega) (by rw [mks_next wDoubt_ok,mks_next wItem_ok,mks_next wFact_ok]; omega) hK]
  simp only [Option.bind_some,cond_false]
  rw [nneg (a:=(mks mkPlace (Node.places n) (mks mkDoubt (Node.doubts n) (mks mkItem (Node.cast n) (mks mkFact (Node.table n) m).2).2).2).2) (by rw [mks_next wPlace_ok,mks_next wDoubt_ok,mks_next wItem_ok,mks_next wFact_ok]; omega),heldForeignS_ok K _ _ hn.others hn.facts (by rw [mks_next wPlace_ok,mks_next wDoubt_ok,mks_next wItem_ok,mks_next wFact_ok]; omega) (by rw [mks_next wPlace_ok,mks_next wDoubt_ok,mks_next wItem_ok,mks_next wFact_ok]; omega) hK]
  simp only [Option.bind_some,cond_false]
  rw [nneg (a:=(mks mkForeign (Node.others n) (mks mkPlace (Node.places n) (mks mkDoubt (Node.doubts n) (mks mkItem (Node.cast n) (mks mkFact (Node.table n) m).2).2).2).2).2) (by rw [mks_next wForeign_ok,mks_next wPlace_ok,mks_next wDoubt_ok,mks_next wItem_ok,mks_next wFact_ok]; omega)]
  rfl
end Go.Proofs.YthgnfidnmnkeaaaGreatEv
namespace Go.Proofs.YthgnfidnmnkeaaaGreatEv
open Go
theorem gather_loop {α β R:Type} (t:List α) (p:α→Bool) (g:α→β) (n:Nat) (fin:List β→Option R) {step:(List β×Int→Option R)→List β×Int→Option R}
    (h:∀ (rec:List β×Int→Option R) (acc:List β) (i:Nat) (hi:i<t.length),acc.length≤i→acc.length<n→step rec (acc,(i:Int))=rec (bif p t[i] then acc++[g t[i]] else acc,((i+1:Nat):Int)))
    (hn:∀ (rec:List β×Int→Option R) (acc:List β) (i:Nat),i<t.length→acc.length≤i→n≤acc.length→step rec (acc,(i:Int))=fin acc)
    (hend:∀ (rec:List β×Int→Option R) (acc:List β),acc.length≤t.length→step rec (acc,(t.length:Int))=fin acc) :
    ∀ (d i k:Nat) (acc:List β),i+d=t.length→d<k→acc.length≤i→acc.length≤n→iterate step k (acc,(i:Int))=fin (acc++(((t.drop i).filter p).map g).take (n-acc.length)):=by
  intro d
  induction d with
  | zero =>
    intro i k acc hi hk ha _
    obtain ⟨k,rfl⟩:∃ k',k=k'+1:=⟨k-1,by omega⟩
    have:i=t.length:=by omega
    subst this
    show step (iterate step k) _=_
    rw [hend _ _ ha]
    simp
  | succ d ih =>
    intro i k acc hi hk ha hle
    obtain ⟨k,rfl⟩:∃ k',k=k'+1:=⟨k-1,by omega⟩
    have hlt:i<t.length:=by omega
    show step (iterate step k) _=_
    by_cases hc:acc.length<n
    · rw [h _ _ _ hlt ha hc,List.drop_eq_getElem_cons hlt,List.filter_cons]
      cases hp:p t[i] with
      | true =>
        simp only [cond_true,if_true,List.map_cons]
        rw [ih (i+1) k _ (by omega) (by omega) (by simp; omega) (by simp; omega)]
        congr 1
        obtain ⟨m,hm⟩:∃ m,n-acc.length=m+1:=⟨n-acc.length-1,by omega⟩
        rw [hm,List.take_succ_cons,List.append_assoc]
        simp only [List.length_append,List.length_cons,List.length_nil]
        rw [show n-(acc.length+(0+1))=m by omega]
        rfl
      | false =>
        simp only [cond_false]
        rw [ih (i+1) k _ (by omega) (by omega) (by omega) (by omega)]
        rfl
    · rw [hn _ _ _ hlt ha (by omega)]
      rw [show n-acc.length=0 by omega]
      simp
theorem gather_all {α β R:Type} (t:List α) (p:α→Bool) (g:α→β) (fin:List β→Option R) {step:(List β×Int→Option R)→List β×Int→Option R}
    (h:∀ (rec:List β×Int→Option R) (acc:List β) (i:Nat) (hi:i<t.length),acc.length≤i→step rec (acc,(i:Int))=rec (bif p t[i] then acc++[g t[i]] else acc,((i+1:Nat):Int)))
    (hend:∀ (rec:List β×Int→Option R) (acc:List β),acc.length≤t.length→step rec (acc,(t.length:Int))=fin acc) {k:Nat} (hk:t.length<k) :
    iterate step k ([],0)=fin ((t.filter p).map g):=by
  have:=gather_loop t p g (t.length+1) fin (fun rec acc i hi ha _=>h rec acc i hi ha) (fun rec acc i hi ha hn=>by omega) hend t.length 0 k [] (by omega) hk (Nat.le_refl _) (by simp)
  refine this.trans ?_
  congr 1
  simp only [List.nil_append,List.length_nil,List.drop_zero]
  exact List.take_of_length_le (by have:=List.length_filter_le p t; simp; omega)
theorem clone_ok {e:Ty} {b:Nat} {xs:List e.den} (h:xs.length*b≤140737488355328):cloneM e b xs=some ((xs,()),()):=by
  unfold cloneM
  rw [decide_eq_true (by simpa [sizeK] using h)]
  rfl
theorem app_ok {α β:Type} {xs ys:List α} {b:Nat} {x y:β} (h:(xs.length+ys.length)*b≤140737488355328):(bif decide ((List.length xs+List.length ys)*b≤sizeK) then x else y)=x:=by
  rw [decide_eq_true (by simpa [sizeK] using h)]
  rfl
theorem nodes_i (K:Nat) (t:List Fact) (φ:Fact×Unit→Option Bool) (p:Fact→Bool) (ht:t.length≤1048576) (hK:1048577<K) (hφ:∀ f∈t,φ (f,())=some (p f)) :
    Q127.f K (t,φ,())=some (((t.filter p).map (·.1),()),()):=by
  refine gather_all (step:=fun rec a=>Q127.l0.step K (t,φ,()) rec a) t p (fun f=>f.1) (fun xs=>some ((xs,()),())) ?_ ?_ (by omega)
  · intro rec acc i hi ha
    simp only [Q127.l0.step]
    rw [decLt (by omega:(i:Int)<(List.length t:Int)),idx_get hi,wr_succ i (by omega)]
    simp only [cond_true,Option.bind_some]
    rw [hφ _ (List.getElem_mem hi)]
    simp only [Option.bind_some]
    cases p t[i] with
    | true=>simp only [cond_true]; rw [app_ok (by simp; omega)]
    | false=>rfl
  · intro rec acc _
    simp only [Q127.l0.step,decNl]
    rfl
end Go.Proofs.YthgnfidnmnkeaaaGreatEv
namespace Go.Proofs.YthgnfidnmnkeaaaGreatEv
open Go
def putL {α:Type} (k:α→Int) (x:α) (xs:List α):List α:=xs.filter (fun y=>decide (k y<k x))++x :: xs.filter (fun y=>decide (k x<k y))
theorem filt_take {α:Type} {k:α→Int} {xs:List α} {v:Int} {m:Nat} (hm:m≤xs.length) (lo:∀ i,(hi:i<xs.length)→i<m→k xs[i]<v) (hi:∀ i,(h:i<xs.length)→m≤i→v≤k xs[i]):xs.filter (fun y=>decide (k y<v))=xs.take m:=by
  conv=>lhs; rw [← List.take_append_drop m xs]
  rw [List.filter_append]
  have h1:(xs.take m).filter (fun y=>decide (k y<v))=xs.take m:=by
    rw [List.filter_eq_self]
    intro y hy
    obtain ⟨i,h1,rfl⟩:=List.getElem_of_mem hy
    rw [List.length_take] at h1
    rw [List.getElem_take]
    exact decide_eq_true (lo i (by omega) (by omega))
  have h2:(xs.drop m).filter (fun y=>decide (k y<v))=[]:=by
    rw [List.filter_eq_nil_iff]
    intro y hy
    obtain ⟨i,h1,rfl⟩:=List.getElem_of_mem hy
    rw [List.length_drop] at h1
    rw [List.getElem_drop]
    have:=hi (m+i) (by omega) (by omega)
    simp only [decide_eq_true_eq]
    omega
  rw [h1,h2,List.append_nil]
theorem filt_drop {α:Type} {k:α→Int} {xs:List α} {v:Int} {m:Nat} (hm:m≤xs.length) (lo:∀ i,(hi:i<xs.length)→i<m→k xs[i]≤v) (hi:∀ i,(h:i<xs.length)→m≤i→v<k xs[i]):xs.filter (fun y=>decide (v<k y))=xs.drop m:=by
  conv=>lhs; rw [← List.take_append_drop m xs]
  rw [List.filter_append]
  have h1:(xs.take m).filter (fun y=>decide (v<k y))=[]:=by
    rw [List.filter_eq_nil_iff]
    intro y hy
    obtain ⟨i,h1,rfl⟩:=List.getElem_of_mem hy
    rw [List.length_take] at h1
    rw [List.getElem_take]
    have:=lo i (by omega) (by omega)
    simp only [decide_eq_true_eq]
    omega
  have h2:(xs.drop m).filter (fun y=>decide (v<k y))=xs.drop m:=by
    rw [List.filter_eq_self]
    intro y hy
    obtain ⟨i,h1,rfl⟩:=List.getElem_of_mem hy
    rw [List.length_drop] at h1
    rw [List.getElem_drop]
    exact decide_eq_true (hi (m+i) (by omega) (by omega))
  rw [h1,h2,List.nil_append]
theorem putL_set {α:Type} {k:α→Int} {xs:List α} {x:α} {m:Nat} (h:Asc k xs) (hm:m<xs.length) (e:k xs[m]=k x):xs.set m x=putL k x xs:=by
  have hg:=asc_get.1 h
  have lt:∀ i,(hi:i<xs.length)→i<m→k xs[i]<k x:=fun i hi hlt=>by rw [← e]; exact hg i m hi hm hlt
  have gt:∀ i,(hi:i<xs.length)→m<i→k x<k xs[i]:=fun i hi hlt=>by rw [← e]; exact hg m i hm hi hlt
  rw [putL,filt_take (m:=m) (by omega) lt (fun i hi hmi=>by
      rcases Nat.lt_or_eq_of_le hmi with h1 | h1
      · exact Int.le_of_lt (gt i hi h1)
      · subst h1; omega),
    filt_drop (m:=m+1) (by omega) (fun i hi hmi=>by
      rcases Nat.lt_or_eq_of_le (Nat.le_of_lt_succ hmi) with h1 | h1
      · exact Int.le_of_lt (lt i hi h1)
      · subst h1; omega) (fun i hi hmi=>gt i hi hmi),
    List.set_eq_take_append_cons_drop,if_pos hm]
theorem putL_ins {α:Type} {k:α→Int} {xs:List α} {x:α} {m:Nat} (hm:m≤xs.length) (lo:∀ i,(hi:i<xs.length)→i<m→k xs[i]<k x) (hi:∀ i,(h:i<xs.length)→m≤i→k x<k xs[i]):xs.take m++[x]++xs.drop m=putL k x xs:=by
  rw [putL,filt_take hm lo (fun i h1 h2=>Int.le_of_lt (hi i h1 h2)),filt_drop hm (fun i h1 h2=>Int.le_of_lt (lo i h1 h2)) hi,List.append_assoc]
  rfl
theorem mem_putL {α:Type} {k:α→Int} {xs:List α} {x y:α}:y∈putL k x xs↔y=x∨(y∈xs∧k y≠k x):=by
  simp only [putL,List.mem_append,List.mem_cons,List.mem_filter,decide_eq_true_eq]
  constructor
  · rintro (⟨h1,h2⟩ | rfl | ⟨h1,h2⟩)
    · exact .inr ⟨h1,by omega⟩
    · exact .inl rfl
    · exact .inr ⟨h1,by omega⟩
  · rintro (rfl | ⟨h1,h2⟩)
    · exact .inr (.inl rfl)
    · rcases Int.lt_or_gt_of_ne h2 with h3 | h3
      · exact .inl ⟨h1,h3⟩
      · exact .inr (.inr ⟨h1,h3⟩)
theorem putL_asc {α:Type} {k:α→Int} {xs:List α} {x:α} (h:Asc k xs):Asc k (putL k x xs):=by
  unfold Asc putL
  rw [List.pairwise_append,List.pairwise_cons]
  refine ⟨h.filter _,⟨fun y hy=>?_,h.filter _⟩,fun y hy z hz=>?_⟩
  · simpa using (List.mem_filter.1 hy).2
  · have h1:k y<k x:=by simpa using (List.mem_filter.1 hy).2
    rcases List.mem_cons.1 hz with rfl | hz
    · exact h1
    · have h2:k x<k z:=by simpa using (List.mem_filter.1 hz).2
      omega
theorem find_asc {α:Type} {k:α→Int} {xs:List α} (h:Asc k xs) {i:Nat} (hi:i<xs.length) {v:Int} (e:k xs[i]=v):xs.find? (fun y=>k y==v)=some xs[i]:=by
  cases h1:xs.find? (fun y=>k y==v) with
  | none =>
    have:=List.find?_eq_none.1 h1 xs[i] (List.getElem_mem hi)
    simp [e] at this
  | some y =>
    have h2:k y=v:=by simpa using List.find?_some h1
    obtain ⟨j,hj,rfl⟩:=List.getElem_of_mem (List.mem_of_find?_eq_some h1)
    have:=asc_uniq h hj hi (by rw [h2,e])
    subst this
    rfl
theorem find_no {α:Type} {k:α→Int} {xs:List α} {v:Int} (h:∀ y∈xs,k y≠v):xs.find? (fun y=>k y==v)=none:=by
  rw [List.find?_eq_none]
  intro y hy
  simpa using h y hy
def restL {α:Type} (k:α→Int) (x:α):Bool→List α→List α
  | d,[]=>bif d then [] else [x]
  | d,y :: ys=>(bif !d&&decide (k x≤k y) then [x] else [])++((bif k y != k x then [y] else [])++restL k x (d||decide (k x≤k y)) ys)
theorem restL_true {α:Type} {k:α→Int} {x:α}:∀ {ys:List α},(∀ y∈ys,k x<k y)→restL k x true ys=ys
  | [],_=>rfl
  | y :: ys,h=>by
    have h1:=h y (by simp)
    simp only [restL,Bool.not_true,Bool.false_and,cond_false,Bool.true_or,List.nil_append]
    rw [restL_true (fun z hz=>h z (by simp [hz])),show (k y != k x)=true by simp; omega]
    rfl
theorem restL_false {α:Type} {k:α→Int} {x:α}:∀ {xs:List α},Asc k xs→restL k x false xs=putL k x xs
  | [],_=>rfl
  | y :: ys,h=>by
    have h':Asc k ys:=(List.pairwise_cons.1 h).2
    have hy:∀ z∈ys,k y<k z:=(List.pairwise_cons.1 h).1
    simp only [restL,Bool.not_false,Bool.true_and,Bool.false_or]
    by_cases hk:k x≤k y
    · rw [decide_eq_true hk,restL_true (fun z hz=>by have:=hy z hz; omega)]
      simp only [cond_true,putL,List.filter_cons]
      have e1:ys.filter (fun z=>decide (k z<k x))=[]:=by
        rw [List.filter_eq_nil_iff]; intro z hz; have:=hy z hz; simp; omega
      have e2:ys.filter (fun z=>decide (k x<k z))=ys:=by
        rw [List.filter_eq_self]; intro z hz; have:=hy z hz; simp; omega
      rw [e1,e2,if_neg (by simp; omega)]
      by_cases he:k y=k x
      · rw [if_neg (by simp; omega),show (k y != k x)=false by simpa using he]; rfl
      · rw [if_pos (by simp; omega),show (k y != k x)=true by simpa using he]; rfl
    · rw [decide_eq_false hk,restL_false h',show (k y != k x)=true by simp; omega]
      simp only [cond_false,cond_true,putL,List.filter_cons,List.nil_append]
      rw [if_pos (by simp; omega),if_neg (by simp; omega)]
      rfl
theorem put_loop {α A R:Type} (k:α→Int) (x:α) (t:List α) (q:α→Bool) (r0:Option R) (fin:List α→Option R) (S:List α→Bool→Nat→A) {step:(A→Option R)→A→Option R}
    (h:∀ (rec:A→Option R) (acc:List α) (d:Bool) (i:Nat) (hi:i<t.length),acc.length≤i+1→(d=false→acc.length≤i)→step rec (S acc d i)=bif q t[i] then r0 else rec (S ((acc++(bif !d&&decide (k x≤k t[i]) then [x] else []))++(bif k t[i] != k x then [t[i]] else [])) (d||decide (k x≤k t[i])) (i+1)))
    (hend:∀ (rec:A→Option R) (acc:List α) (d:Bool),acc.length≤t.length+1→(d=false→acc.length≤t.length)→step rec (S acc d t.length)=fin (acc++(bif d then [] else [x]))) :
    ∀ (n i K:Nat) (acc:List α) (d:Bool),i+n=t.length→n<K→acc.length≤i+1→(d=false→acc.length≤i)→iterate step K (S acc d i)=bif (t.drop i).any q then r0 else fin (acc++restL k x d (t.drop i)):=by
  intro n
  induction n with
  | zero =>
    intro i K acc d hi hK ha hd
    obtain ⟨K,rfl⟩:∃ k',K=k'+1:=⟨K-1,by omega⟩
    have:i=t.length:=by omega
    subst this
    show step (iterate step K) _=_
    rw [hend _ _ _ ha hd,List.drop_length]
    rfl
  | succ n ih =>
    intro i K acc d hi hK ha hd
    obtain ⟨K,rfl⟩:∃ k',K=k'+1:=⟨K-1,by omega⟩
    have hlt:i<t.length:=by omega
    show step (iterate step K) _=_
    rw [h _ _ _ _ hlt ha hd,List.drop_eq_getElem_cons hlt,List.any_cons]
    cases hq:q t[i] with
    | true=>rfl
    | false =>
      simp only [cond_false,Bool.false_or,restL]
      rw [ih (i+1) K _ _ (by omega) (by omega) ?_ ?_]
      · simp only [List.append_assoc]
      · cases d with
        | true =>
          simp only [Bool.not_true,Bool.false_and,cond_false,List.append_nil]
          cases k t[i] != k x <;> simp <;> omega
        | false =>
          have:=hd rfl
          cases hc:decide (k x≤k t[i]) <;> cases k t[i] != k x <;> simp <;> omega
      · intro hdd
        rw [Bool.or_eq_false_iff] at hdd
        obtain ⟨rfl,hc⟩:=hdd
        have:=hd rfl
        rw [hc]
        cases k t[i] != k x <;> simp <;> omega
end Go.Proofs.YthgnfidnmnkeaaaGreatEv
namespace Go.Proofs.YthgnfidnmnkeaaaGreatEv
open Go
theorem nodeOk_both (K:Nat) (n:Node) (hn:NB n) (hK:1048577<K):∃ b,Q78.f K (n,())=rb b∧Q125.f K (n,())=rb b∧(b=true↔NodeP n):=by
  obtain ⟨b,h1,h2⟩:=nodeOk_s K n hn hK
  obtain ⟨b',h3,h4⟩:=nodeOk_i K n hn hK
  have:b=b':=by rw [Bool.eq_iff_iff,h2,h4]
  subst this
  exact ⟨b,h1,h3,h2⟩
theorem NodeP.up {n:Node} (h:NodeP n) (hu:n.2.1=true):UpP n:=by
  have:=h.2.2.2.2.2
  rwa [if_pos hu] at this
theorem mark_copy (K:Nat) (n:Node) (hn:NB n) (hK:1048577<K):∃ m:Int,0≤m∧Q51.f K (n,1,())=some ((m,()),((mkNode n 1).1,())):=by
  refine ⟨(mkNode n 1).2,?_,markNode_ok K n hn 1 (by omega) ?_ hK⟩
  · rw [wNode_ok]; omega
  · have:=wNode_le hn; omega
end Go.Proofs.YthgnfidnmnkeaaaGreatEv
namespace Go.Proofs.YthgnfidnmnkeaaaGreatEv
open Go
abbrev Word:=Int×Int×Int×Int×Int×Int×Coord×List Fact
abbrev Word.table (w:Word):List Fact:=w.2.2.2.2.2.2.2
abbrev Word.coord (w:Word):Coord:=w.2.2.2.2.2.2.1
theorem eqWord_refl (K:Nat) (w:Word) (hw:(Word.table w).length≤1048576) (hK:1048577<K):Q52.f K (w,w,())=rb true:=by
  simp only [Q52.f,Q52.pre,bne_self_eq_false,cond_false]
  rw [eqCoord_refl K,eqFactS_refl K _ hw hK]
  rfl
end Go.Proofs.YthgnfidnmnkeaaaGreatEv
namespace Go.Proofs.YthgnfidnmnkeaaaGreatEv
open Go
theorem copy_loop {α A R:Type} (xs:List α) (S:List α→Nat→A) (fin:Option R) {step:(A→Option R)→A→Option R}
    (h:∀ (rec:A→Option R) (acc:List α) (i:Nat) (hi:i<xs.length),acc.length=i→step rec (S acc i)=rec (S (acc++[xs[i]]) (i+1))) (hend:∀ rec:A→Option R,step rec (S xs xs.length)=fin) {k:Nat} (hk:xs.length<k):iterate step k (S [] 0)=fin:=by
  refine iter_go (step:=step) xs.length (fun i=>S (xs.take i) i) fin ?_ ?_ hk
  · intro rec i hi
    show step rec (S (xs.take i) i)=rec (S (xs.take (i+1)) (i+1))
    rw [h rec (xs.take i) i hi (by simp; omega),List.take_succ_eq_append_getElem hi]
  · intro rec
    show step rec (S (xs.take xs.length) xs.length)=fin
    rw [List.take_length]; exact hend rec
theorem szb (a b c:Nat) (hc:c≤64) (h:a+b≤2097152):decide ((a+b)*c≤sizeK)=true:=by
  have:=Nat.mul_le_mul h hc
  exact decide_eq_true (by unfold sizeK; omega)
theorem copy_s (K:Nat) (n:Node) (hn:NB n) (hK:1048577<K):Q79.f K (n,())=some ((n,()),()):=by
  have b1:=hn.table; have b2:=hn.cast; have b3:=hn.doubts; have b4:=hn.places; have b5:=hn.others
  simp only [Q79.f,Q79.pre]
  rw [szb _ _ _ (by omega) (by show (List.length ([]:List Fact))+(Node.table n).length≤_; simp; omega),szb _ _ _ (by omega) (by show (List.length ([]:List Item))+(Node.cast n).length≤_; simp; omega)]
  simp only [cond_true]
  refine copy_loop (Node.doubts n) (step:=fun rec a=>Q79.l0.step K (n,()) (Q79.l1 K (n,())) rec a) (fun acc i=>((i:Int),acc)) _ ?_ ?_ (by omega)
  · intro rec acc i hi ha
    have:=hn.by_ _ (List.getElem_mem hi)
    simp only [Q79.l0.step]
    rw [decLt (by omega:(i:Int)<(List.length (Node.doubts n):Int)),idx_get hi,wr_succ i (by omega)]
    simp only [cond_true,Option.bind_some]
    rw [szb _ _ _ (by omega) (by simp; omega),szb _ _ _ (by omega) (by simp; omega)]
    rfl
  · intro rec
    simp only [Q79.l0.step,decNl,cond_false]
    refine copy_loop (Node.places n) (step:=fun rec a=>Q79.l1.step K (n,()) (Q79.l2 K (n,())) rec a) (fun acc i=>((i:Int),Node.doubts n,acc)) _ ?_ ?_ (by omega)
    · intro rec acc i hi ha
      have:=hn.trips _ (List.getElem_mem hi)
      simp only [Q79.l1.step]
      rw [decLt (by omega:(i:Int)<(List.length (Node.places n):Int)),idx_get hi,wr_succ i (by omega)]
      simp only [cond_true,Option.bind_some]
      rw [szb _ _ _ (by omega) (by simp; omega),szb _ _ _ (by omega) (by simp; omega)]
      rfl
    · intro rec
      simp only [Q79.l1.step,decNl,cond_false]
      refine copy_loop (Node.others n) (step:=fun rec a=>Q79.l2.step K (n,()) rec a) (fun acc i=>((i:Int),Node.doubts n,Node.places n,acc)) _ ?_ ?_ (by omega)
      · intro rec acc i hi ha
        have:=hn.facts _ (List.getElem_mem hi)
        simp only [Q79.l2.step]
        rw [decLt (by omega:(i:Int)<(List.length (Node.others n):Int)),idx_get hi,wr_succ i (by omega)]
        simp only [cond_true,Option.bind_some]
        rw [szb _ _ _ (by omega) (by simp; omega),szb _ _ _ (by omega) (by simp; omega)]
        rfl
      · intro rec
        simp only [Q79.l2.step,decNl,cond_false]
        rfl
theorem copied_i (K:Nat) (n:Node) (hn:NB n) (hK:1048577<K):Q141.f K (n,())=some ((n,()),()):=by
  have b1:=hn.table; have b2:=hn.cast; have b3:=hn.doubts; have b4:=hn.places; have b5:=hn.others
  simp only [Q141.f,Q141.pre]
  refine copy_loop (Node.doubts n) (step:=fun rec a=>Q141.l0.step K (n,()) (Q141.l1 K (n,())) rec a) (fun acc i=>(acc,(i:Int))) _ ?_ ?_ (by omega)
  · intro rec acc i hi ha
    have:=hn.by_ _ (List.getElem_mem hi)
    simp only [Q141.l0.step,Q6.f]
    rw [decLt (by omega:(i:Int)<(List.length (Node.doubts n):Int)),idx_get hi,wr_succ i (by omega)]
    simp only [cond_true,Option.bind_some]
    rw [clone_ok (by omega)]
    simp only [Option.bind_some]
    rw [szb _ _ _ (by omega) (by simp; omega)]
    rfl
  · intro rec
    simp only [Q141.l0.step,decNl,cond_false]
    refine copy_loop (Node.places n) (step:=fun rec a=>Q141.l1.step K (n,()) (Q141.l2 K (n,())) rec a) (fun acc i=>(Node.doubts n,acc,(i:Int))) _ ?_ ?_ (by omega)
    · intro rec acc i hi ha
      have:=hn.trips _ (List.getElem_mem hi)
      simp only [Q141.l1.step,Q6.f]
      rw [decLt (by omega:(i:Int)<(List.length (Node.places n):Int)),idx_get hi,wr_succ i (by omega)]
      simp only [cond_true,Option.bind_some]
      rw [clone_ok (by omega)]
      simp only [Option.bind_some]
      rw [szb _ _ _ (by omega) (by simp; omega)]
      rfl
    · intro rec
      simp only [Q141.l1.step,decNl,cond_false]
      refine copy_loop (Node.others n) (step:=fun rec a=>Q141.l2.step K (n,()) rec a) (fun acc i=>(Node.doubts n,Node.places n,acc,(i:Int))) _ ?_ ?_ (by omega)
      · intro rec acc i hi ha
        have:=hn.facts _ (List.getElem_mem hi)
        simp only [Q141.l2.step,Q0.f]
        rw [decLt (by omega:(i:Int)<(List.length (Node.others n):Int)),idx_get hi,wr_succ i (by omega)]
        simp only [cond_true,Option.bind_some]
        rw [clone_ok (by omega)]
        simp only [Option.bind_some]
        rw [szb _ _ _ (by omega) (by simp; omega)]
        rfl
      · intro rec
        simp only [Q141.l2.step,decNl,cond_false,Q0.f,Q2.f]
        rw [clone_ok (by show (Node.table n).length*_≤_; omega),clone_ok (by show (Node.cast n).length*_≤_; omega)]
        rfl
def mkWord (w:Word) (m:Int):Word×Int :=
  ((m,m+1,m+1+1,m+1+1+1,m+1+1+1+1,m+1+1+1+1+1,(m+1+1+1+1+1+1,m+1+1+1+1+1+1+1,m+1+1+1+1+1+1+1+1,m+1+1+1+1+1+1+1+1+1),
    (mks mkFact (Word.table w) (m+1+1+1+1+1+1+1+1+1+1)).1),(mks mkFact (Word.table w) (m+1+1+1+1+1+1+1+1+1+1)).2)
def wWord (w:Word):Nat:=10+((Word.table w).map wFact).sum
theorem wWord_ok (x:Word) (m:Int):(mkWord x m).2=m+wWord x:=by simp only [mkWord,wWord,mks_next wFact_ok]; omega
theorem markWordS_ok (K:Nat) (xs:List Word) (m:Int) (hx:xs.length≤1048576) (hb:∀ y∈xs,(Word.table y).length≤1048576) (h0:0≤m) (hm:m+((xs.map wWord).sum:Nat)≤4611686018427387904) (hK:1048577<K) :
    Q54.f K (xs,m,())=some (((mks mkWord xs m).2,()),((mks mkWord xs m).1,())):=by
  refine mark_loop (step:=fun rec a=>Q54.l0.step K (xs,m,()) rec a) mkWord wWord (fun y=>(Word.table y).length≤1048576) wWord_ok ?_ ?_ xs [] m K (by simpa using hx) (by omega) hb h0 hm
  · intro rec ys m i hi hl hb h0 hm
    simp only [wWord] at hm
    simp only [Q54.l0.step]
    rw [decLt (by omega:(i:Int)<(List.length ys:Int)),idx_get hi,wr_succ i (by omega)]
    simp (disch:=omega) only [wrp,cond_true,Option.bind_some,Int.toNat_natCast,List.set_set,idx_set hi,idx_get hi]
    rw [markFactS_ok K _ _ hb (by omega) (by omega) hK]
    rfl
  · intro rec ys m
    simp only [Q54.l0.step,decNl]
    rfl
theorem heldWordS_ok (K:Nat) (xs:List Word) (m:Int) (hx:xs.length≤1048576) (hb:∀ y∈xs,(Word.table y).length≤1048576) (h0:0≤m) (hm:m+((xs.map wWord).sum:Nat)≤4611686018427387904) (hK:1048577<K) :
    Q62.f K ((mks mkWord xs m).1,m,())=some (((mks mkWord xs m).2,()),()):=by
  refine held_loop (step:=fun rec a=>Q62.l0.step K ((mks mkWord xs m).1,m,()) rec a) mkWord wWord (fun y=>(Word.table y).length≤1048576) wWord_ok (mks mkWord xs m).1 (by rw [mks_len]; exact hx) ?_ ?_ xs [] m K rfl (by omega) hb h0 hm
  · intro rec x m' i hi e hb h0 hm
    simp only [wWord] at hm
    rw [mks_len] at hi
    simp only [Q62.l0.step]
    rw [decLt (by rw [mks_len]; omega:(i:Int)<(List.length (mks mkWord xs m).1:Int)),idx_get (by rw [mks_len]; exact hi),wr_succ i (by omega),e]
    simp (disch:=omega) only [wrp,cond_true,Option.bind_some,mkWord,bne_self_eq_false,cond_false]
    rw [heldFactS_ok K _ _ hb (by omega) (by omega) hK]
    simp only [Option.bind_some]
    rw [nneg (a:=(mks mkFact _ _).2) (by rw [mks_next wFact_ok]; omega)]
    rfl
  · intro rec m'
    simp only [Q62.l0.step,decNl]
    rfl
theorem eqWordS_refl (K:Nat) (xs:List Word) (hx:xs.length≤1048576) (hb:∀ y∈xs,(Word.table y).length≤1048576) (hK:1048577<K):Q53.f K (xs,xs,())=rb true:=by
  simp only [Q53.f,Q53.pre,bne_self_eq_false,cond_false]
  refine iter_go (step:=fun rec a=>Q53.l0.step K (xs,xs,()) rec a) xs.length (fun i=>(i:Int)) (rb true) ?_ ?_ (by omega)
  · intro rec i hi
    simp only [Q53.l0.step]
    rw [decLt (by omega:(i:Int)<(List.length xs:Int)),idx_get hi,wr_succ i (by omega)]
    simp only [cond_true,Option.bind_some]
    rw [eqWord_refl K _ (hb _ (List.getElem_mem hi)) hK]
    rfl
  · intro rec
    simp only [Q53.l0.step,decNl]
    rfl
theorem said_node (K:Nat) (y:Node) (ws:List Word) (hy:NB y) (hw:ws.length≤1048576) (hb:∀ w∈ws,(Word.table w).length≤1048576) (hK:1048577<K):∃ m m':Int,∃ ws':List Word,0≤m∧0≤m' ∧
    Q51.f K (y,1,())=some ((m,()),((mkNode y 1).1,()))∧Q54.f K (ws,m,())=some ((m',()),(ws',()))∧Q44.f K (y,y,())=rb true∧Q53.f K (ws,ws,())=rb true ∧
    Q61.f K ((y.1,(y.2.1,(y.2.2.1,(y.2.2.2.1,(y.2.2.2.2.1,(y.2.2.2.2.2.1,(y.2.2.2.2.2.2.1,(y.2.2.2.2.2.2.2.1,((mkNode y 1).1.2.2.2.2.2.2.2.2.1,((mkNode y 1).1.2.2.2.2.2.2.2.2.2.1,(y.2.2.2.2.2.2.2.2.2.2.1,((mkNode y 1).1.2.2.2.2.2.2.2.2.2.2.2.1,(y.2.2.2.2.2.2.2.2.2.2.2.2.1,(mkNode y 1).1.2.2.2.2.2.2.2.2.2.2.2.2.2))))))))))))),1,())=some ((m,()),()) ∧
    Q62.f K (ws',m,())=some ((m',()),()):=by
  have h1:=wNode_le hy
  have h2:(ws.map wWord).sum≤1048576*4194314:=Nat.le_trans (sum_le (c:=4194314) (fun x hx=>by
    have h3:=sum_le (W:=wFact) (c:=4) (xs:=Word.table x) (fun _ _=>Nat.le_refl _)
    have:=hb x hx
    simp only [wWord]
    omega)) (Nat.mul_le_mul hw (Nat.le_refl _))
  refine ⟨(mkNode y 1).2,(mks mkWord ws (mkNode y 1).2).2,(mks mkWord ws (mkNode y 1).2).1,by rw [wNode_ok]; omega,by rw [mks_next wWord_ok,wNode_ok]; omega,markNode_ok K y hy 1 (by omega) (by omega) hK,
    markWordS_ok K ws _ hw hb (by rw [wNode_ok]; omega) (by rw [wNode_ok]; omega) hK,eqNode_refl K y hy hK,eqWordS_refl K ws hw hb hK,heldNode_ok K y hy 1 (by omega) (by omega) hK,heldWordS_ok K ws _ hw hb (by rw [wNode_ok]; omega) (by rw [wNode_ok]; omega) hK⟩
end Go.Proofs.YthgnfidnmnkeaaaGreatEv
namespace Go.Proofs.YthgnfidnmnkeaaaGreatEv
open Go
instance (f g:Fact):Decidable (Over f g):=by unfold Over; infer_instance
theorem over_b (K:Nat) (f g:Fact):Q70.f K (f,g,())=rb (decide (Over f g)):=by
  obtain ⟨b,h1,h2⟩:=over_s K f g
  rw [h1,show b=decide (Over f g) by rw [Bool.eq_iff_iff,h2]; simp]
def putOf (t:List Fact) (f:Fact):List Fact×Bool :=
  match t.find? (fun g=>g.1==f.1) with
  | some g=>if Over f g then (putL (fun g=>g.1) f t,true) else (t,false)
  | none=>(putL (fun g=>g.1) f t,true)
theorem putOf_at {t:List Fact} {f:Fact} (hA:Asc (fun g:Fact=>g.1) t) {i:Nat} (hi:i<t.length) (e:t[i].1=f.1):putOf t f=if Over f t[i] then (putL (fun g=>g.1) f t,true) else (t,false):=by
  unfold putOf
  rw [show t.find? (fun g=>g.1==f.1)=some t[i] from find_asc hA hi e]
theorem putOf_no {t:List Fact} {f:Fact} (h:∀ g∈t,g.1≠f.1):putOf t f=(putL (fun g=>g.1) f t,true):=by
  unfold putOf
  rw [show t.find? (fun g=>g.1==f.1)=none from find_no h]
theorem insert_ok {e:Ty} {b:Nat} {xs:List e.den} {m:Nat} {v:e.den} (hm:m≤xs.length) (hb:b≤64) (hx:xs.length≤1048576):insertM e b xs (m:Int) [v]=some ((xs.take m++[v]++xs.drop m,()),()):=by
  unfold insertM
  have:(xs.length+[v].length)*b≤140737488355328:=Nat.le_trans (Nat.mul_le_mul (show xs.length+[v].length≤1048577 by simp; omega) hb) (by decide)
  rw [if_pos ⟨by omega,by omega,by simp,by simpa only [sizeK] using this⟩,Int.toNat_natCast]
theorem delete_ok {e:Ty} {xs:List e.den} {φ:e.den×Unit→Option Bool} (p:e.den→Bool) (hx:xs.length≤1048576) (h:∀ x∈xs,φ (x,())=some (p x)):deleteM e xs φ=some ((xs.filter (fun x=>!p x),()),()):=by
  have:∀ ys:List e.den,(∀ x∈ys,φ (x,())=some (p x))→dropM φ ys=some (ys.filter (fun x=>!p x)):=by
    intro ys
    induction ys with
    | nil=>intro _; rfl
    | cons y ys ih =>
      intro h
      simp only [dropM,h y (by simp),Option.bind_some,ih (fun x hx=>h x (by simp [hx])),Option.map_some,List.filter_cons]
      cases p y <;> rfl
  unfold deleteM
  rw [if_pos hx,this xs h]
  rfl
theorem put_s (K:Nat) (t:List Fact) (f:Fact) (ht:t.length≤1048576) (hA:Asc (fun g:Fact=>g.1) t) (hK:1048577<K):Q81.f K (t,f,())=some (((putOf t f).1,(putOf t f).2,()),()):=by
  simp only [Q81.f,Q81.pre]
  obtain ⟨o,ho,h1⟩:=find_s K t f.1 ht hK
  rw [h1]
  simp only [Option.bind_some]
  cases ho with
  | at_ i hi e =>
    simp only
    rw [putOf_at hA hi e,decide_eq_true (by omega:((i:Nat):Int)≥0),idx_get hi]
    simp only [cond_true,Option.bind_some]
    rw [show Q70.f K (f,t[i],())=_ from over_b K f t[i]]
    simp only [Option.bind_some]
    by_cases ho:Over f t[i]
    · rw [decide_eq_true ho,if_pos ho]
      simp only [Bool.not_true,cond_false]
      rw [szb _ _ _ (by omega) (by show (List.length ([]:List Fact))+t.length≤_; simp; omega)]
      simp only [cond_true,List.nil_append,idx_get hi,Option.bind_some,Int.toNat_natCast]
      rw [putL_set (k:=fun g:Fact=>g.1) hA hi e]
    · rw [decide_eq_false ho,if_neg ho]
      rfl
  | no h =>
    simp only
    rw [putOf_no h,decide_eq_false (by omega:¬ (-1:Int)≥0)]
    simp only [cond_false]
    have fit:∀ m:Nat,m≤t.length→(bif decide ((0:Int)≤0)&&decide ((0:Int)≤(m:Int))&&decide ((m:Int)≤(List.length t:Int))&&true then (bif decide ((List.length ([]:List Fact)+List.length ((t.take (Int.toNat (m:Int))).drop (Int.toNat 0)))*32≤sizeK) then (bif decide ((List.length ([]++((t.take (Int.toNat (m:Int))).drop (Int.toNat 0)))+List.length ([f]))*32≤sizeK) then (bif decide ((0:Int)≤(m:Int))&&decide ((m:Int)≤(List.length t:Int))&&decide ((List.length t:Int)≤(List.length t:Int))&&true then (bif decide ((List.length (([]++((t.take (Int.toNat (m:Int))).drop (Int.toNat 0)))++([f]))+List.length ((t.take (Int.toNat (List.length t:Int))).drop (Int.toNat (m:Int))))*32≤sizeK) then (some (((([]++((t.take (Int.toNat (m:Int))).drop (Int.toNat 0)))++([f]))++((t.take (Int.toNat (List.length t:Int))).drop (Int.toNat (m:Int))),true,()),())) else none) else none) else none) else none) else (none:Option ((List Fact×Bool×Unit)×Unit)))=some ((t.take m++[f]++t.drop m,true,()),()):=by
      intro m hm
      rw [decide_eq_true (by omega:(0:Int)≤0),decide_eq_true (by omega:(0:Int)≤(m:Int)),decide_eq_true (by omega:(m:Int)≤(List.length t:Int)),decide_eq_true (by omega:(List.length t:Int)≤(List.length t:Int))]
      simp only [Int.toNat_natCast,Int.toNat_zero,List.drop_zero,List.nil_append,List.take_length,Bool.and_self,cond_true]
      have h1:(t.take m).length=m:=by rw [List.length_take]; omega
      have h2:(t.drop m).length=t.length-m:=List.length_drop
      rw [szb _ _ _ (by omega) (by simp only [List.length_nil]; omega),szb _ _ _ (by omega) (by simp only [List.length_cons,List.length_nil]; omega),szb _ _ _ (by omega) (by simp only [List.length_append,List.length_cons,List.length_nil]; omega)]
      rfl
    have:=iter_first (step:=fun rec a=>Q81.l0.step K (t,f,()) rec a) t.length (fun i=>(i:Int)) (fun j=>∃ h:j<t.length,¬ t[j].1<f.1) (some ((t.take t.length++[f]++t.drop t.length,true,()),())) (fun j=>some ((t.take j++[f]++t.drop j,true,()),())) ?_ ?_ t.length K 0 (by omega) (by omega)
    · have fin:∀ m,m≤t.length→(∀ i,(hi:i<t.length)→i<m→t[i].1<f.1)→(∀ i,(hi:i<t.length)→m≤i→f.1<t[i].1)→t.take m++[f]++t.drop m=putL (fun g=>g.1) f t:=fun m hm lo hi=>putL_ins (k:=fun g:Fact=>g.1) hm lo hi
      rcases this with ⟨h1,h2⟩ | ⟨j,_,h1,⟨h3,h4⟩,h5,h2⟩
      · rw [fin t.length (Nat.le_refl _) (fun i hi _=>by
          have:=h1 i (Nat.zero_le _) hi
          exact Classical.not_not.1 fun h=>this ⟨hi,h⟩) (fun i hi h=>by omega)] at h2
        exact h2
      · rw [fin j (by omega) (fun i hi hij=>by
          have:=h5 i (Nat.zero_le _) hij
          exact Classical.not_not.1 fun h=>this ⟨hi,h⟩) (fun i hi hij=>by
          have hne:=h t[i] (List.getElem_mem hi)
          rcases Nat.lt_or_eq_of_le hij with h6 | h6
          · have:=asc_get.1 hA j i h3 hi h6
            omega
          · subst h6; omega)] at h2
        exact h2
    · intro rec i hi
      simp only [Q81.l0.step]
      rw [decLt (by omega:(i:Int)<(List.length t:Int)),idx_get hi,wr_succ i (by omega)]
      simp only [cond_true,Option.bind_some]
      by_cases hlt:t[i].1<f.1
      · exact .inl ⟨fun ⟨_,h⟩=>h hlt,by rw [decide_eq_true hlt]; rfl⟩
      · exact .inr ⟨⟨hi,hlt⟩,by rw [decide_eq_false hlt]; exact fit i (by omega)⟩
    · intro rec
      simp only [Q81.l0.step,decNl,cond_false]
      exact fit t.length (Nat.le_refl _)
theorem put_i (K:Nat) (t:List Fact) (f:Fact) (ht:t.length≤1048576) (hA:Asc (fun g:Fact=>g.1) t) (hK:1048577<K):Q130.f K (t,f,())=some (((putOf t f).1,(putOf t f).2,()),()):=by
  simp only [Q130.f,Q130.pre,Q0.f,Q1.f]
  rw [clone_ok (by omega)]
  simp only [Option.bind_some]
  obtain ⟨m,hm,h1⟩:=find_i K t f.1 ht hA hK
  rw [h1]
  simp only [Option.bind_some]
  by_cases he:∃ h:m<t.length,t[m].1=f.1
  · obtain ⟨h2,h3⟩:=he
    rw [decide_eq_true ⟨h2,h3⟩,putOf_at hA h2 h3]
    simp only [Bool.not_true,cond_false,idx_get h2,Option.bind_some,Int.toNat_natCast]
    rw [compare_i K f t[m] hK]
    simp only [Option.bind_some]
    by_cases ho:Over f t[m]
    · rw [decide_eq_true ((cmpF_over h3.symm).2 ho),if_pos ho,putL_set (k:=fun g:Fact=>g.1) hA h2 h3]
      rfl
    · rw [decide_eq_false (fun h=>ho ((cmpF_over h3.symm).1 h)),if_neg ho]
      rfl
  · rw [decide_eq_false he,putOf_no (fun g hg e=>by
      obtain ⟨i,hi,rfl⟩:=List.getElem_of_mem hg
      rcases Nat.lt_trichotomy i m with h | h | h
      · have:=hm.lo i hi h; omega
      · subst h; exact he ⟨hi,e⟩
      · have h5:=hm.hi m (by omega) (Nat.le_refl _)
        have h6:=asc_get.1 hA m i (by omega) hi h
        omega)]
    simp only [Bool.not_false,cond_true]
    rw [insert_ok hm.le (by omega) ht]
    simp only [Option.bind_some]
    rw [putL_ins (k:=fun g:Fact=>g.1) hm.le hm.lo (fun i hi hmi=>by
      have:=hm.hi i hi hmi
      rcases Nat.lt_or_eq_of_le hmi with h6 | h6
      · have h5:=hm.hi m (by omega) (Nat.le_refl _)
        have h7:=asc_get.1 hA m i (by omega) hi h6
        omega
      · subst h6
        have:t[m].1≠f.1:=fun e=>he ⟨hi,e⟩
        omega)]
def castPut (l:List Item) (f:Fact):List Item:=if ∃ x∈l,x.1.1=f.1∧¬ Over f x.1 then l else putL (fun x=>x.1.1) (f,4) l
theorem castPut_any {l:List Item} {f:Fact}:castPut l f=bif l.any (fun x=>x.1.1==f.1&&!decide (Over f x.1)) then l else putL (fun x=>x.1.1) (f,4) l:=by
  unfold castPut
  have:(∃ x∈l,x.1.1=f.1∧¬ Over f x.1)↔l.any (fun x=>x.1.1==f.1&&!decide (Over f x.1))=true:=by
    rw [List.any_eq_true]
    simp
  by_cases h:∃ x∈l,x.1.1=f.1∧¬ Over f x.1
  · rw [if_pos h,this.1 h]; rfl
  · rw [if_neg h,show l.any (fun x=>x.1.1==f.1&&!decide (Over f x.1))=false by rw [Bool.eq_false_iff]; exact fun hh=>h (this.2 hh)]; rfl
theorem l5Put_s (K:Nat) (l:List Item) (f:Fact) (hl:l.length≤1048576) (hA:Asc (fun x:Item=>x.1.1) l) (hK:1048577<K):Q82.f K (l,f,())=some ((castPut l f,()),()):=by
  have:=put_loop (step:=fun rec a=>Q82.l0.step K (l,f,()) rec a) (fun x:Item=>x.1.1) (f,4) l (fun x=>x.1.1==f.1&&!decide (Over f x.1)) (some ((l,()),())) (fun xs=>some ((xs,()),())) (fun acc d i=>(acc,d,(i:Int))) ?_ ?_ l.length 0 K [] false (by omega) (by omega) (by simp) (by simp)
  · refine Eq.trans (this:Q82.f K (l,f,())=_) ?_
    rw [List.drop_zero,castPut_any,restL_false hA]
    cases l.any (fun x=>x.1.1==f.1&&!decide (Over f x.1)) <;> rfl
  · intro rec acc d i hi ha hd
    simp only [Q82.l0.step]
    rw [decLt (by omega:(i:Int)<(List.length l:Int)),idx_get hi,wr_succ i (by omega)]
    simp only [cond_true,Option.bind_some]
    have z1:decide ((acc.length+[((f,4):Fact×Nat)].length)*40≤sizeK)=true:=szb _ _ _ (by omega) (by simp; omega)
    have z2:decide (((acc++[((f,4):Item)]).length+[l[i]].length)*40≤sizeK)=true:=szb _ _ _ (by omega) (by simp; omega)
    have z3:decide ((acc.length+[l[i]].length)*40≤sizeK)=true:=szb _ _ _ (by omega) (by simp; omega)
    by_cases he:l[i].1.1=f.1
    · rw [show (l[i].1.1==f.1)=true by simpa using he,show (l[i].1.1 != f.1)=false by simpa using he,show decide (f.1≤l[i].1.1)=true from decide_eq_true (by omega)]
      simp only [cond_true,cond_false,Bool.true_and,Bool.and_true,Bool.or_true,List.append_nil]
      rw [show Q70.f K (f,l[i].1,())=_ from over_b K f l[i].1]
      simp only [Option.bind_some]
      cases decide (Over f l[i].1) with
      | false=>rfl
      | true =>
        simp only [Bool.not_true,cond_false]
        cases d with
        | true=>simp only [Bool.not_true,cond_false,List.append_nil]
        | false =>
          simp only [Bool.not_false,cond_true]
          rw [z1]
          rfl
    · rw [show (l[i].1.1==f.1)=false by simpa using he,show (l[i].1.1 != f.1)=true by simpa using he]
      simp only [cond_true,cond_false,Bool.false_and]
      cases d with
      | true =>
        simp only [Bool.not_true,cond_false,Bool.false_and,List.append_nil,Bool.true_or]
        rw [z3]
        rfl
      | false =>
        simp only [Bool.not_false,cond_true,Bool.true_and,Bool.false_or]
        cases decide (f.1≤l[i].1.1) with
        | true =>
          simp only [cond_true]
          rw [z1]
          simp only [cond_true]
          rw [z2]
          rfl
        | false =>
          simp only [cond_false,List.append_nil]
          rw [z3]
          rfl
  · intro rec acc d ha hd
    simp only [Q82.l0.step,decNl]
    cases d with
    | true=>simp only [Bool.not_true,cond_false,cond_true,List.append_nil]
    | false =>
      have:=hd rfl
      have z1:decide ((acc.length+[((f,4):Fact×Nat)].length)*40≤sizeK)=true:=szb _ _ _ (by omega) (by simp; omega)
      simp only [Bool.not_false,cond_true,cond_false]
      rw [z1]
      rfl
theorem castPut_i (K:Nat) (l:List Item) (f:Fact) (hl:l.length≤1048576) (hC:CastP l) (hf:FactP f) (hK:1048577<K):Q131.f K (l,f,())=some ((castPut l f,()),()):=by
  simp only [Q131.f,Q131.pre,Q2.f,Q3.f]
  obtain ⟨b1,e1,e2⟩:=castOk_i K l hl hK
  have hb1:=e2.2 hC
  subst hb1
  obtain ⟨b2,e3,e4⟩:=factOk_i K f
  have hb2:=e4.2 hf
  subst hb2
  rw [e1]
  simp only [Option.bind_some,Bool.not_true,cond_false]
  rw [e3]
  simp only [Option.bind_some,Bool.not_true,cond_false]
  rw [clone_ok (by omega)]
  simp only [Option.bind_some]
  rw [facts_i K l hl hK]
  simp only [Option.bind_some]
  have hA:Asc (fun g:Fact=>g.1) (l.map (·.1)):=by
    have:=hC.2
    unfold Asc at this ⊢
    rw [List.pairwise_map]
    exact this
  have hml:(l.map (·.1)).length=l.length:=List.length_map _
  obtain ⟨m,hm,h1⟩:=find_i K (l.map (·.1)) f.1 (by rw [hml]; exact hl) hA hK
  rw [h1]
  simp only [Option.bind_some]
  have hget:∀ i (h:i<l.length),(l.map (·.1))[i]'(by rw [hml]; exact h)=l[i].1:=fun i h=>List.getElem_map _
  have hle:=hm.le
  rw [hml] at hle
  have lo:∀ i,(hi:i<l.length)→i<m→l[i].1.1<f.1:=fun i hi him=>by have:=hm.lo i (by rw [hml]; exact hi) him; rwa [hget i hi] at this
  have hi':∀ i,(hi:i<l.length)→m≤i→f.1≤l[i].1.1:=fun i hi him=>by have:=hm.hi i (by rw [hml]; exact hi) him; rwa [hget i hi] at this
  by_cases he:∃ h:m<l.length,l[m].1.1=f.1
  · obtain ⟨h2,h3⟩:=he
    rw [decide_eq_true ⟨by rw [hml]; exact h2,by rw [hget m h2]; exact h3⟩]
    simp only [Bool.not_true,cond_false,idx_get h2,Option.bind_some,Int.toNat_natCast]
    rw [show Q111.f K (f,l[m].1,())=_ from compare_i K f l[m].1 hK]
    simp only [Option.bind_some]
    have huq:∀ x∈l,x.1.1=f.1→x=l[m]:=fun x hx e=>by
      obtain ⟨i,hi,rfl⟩:=List.getElem_of_mem hx
      have:=asc_uniq hC.2 hi h2 (by show l[i].1.1=l[m].1.1; rw [e,h3])
      subst this
      rfl
    by_cases ho:Over f l[m].1
    · rw [decide_eq_true ((cmpF_over h3.symm).2 ho),castPut,if_neg (fun ⟨x,hx,e,hn⟩=>hn (by rw [huq x hx e]; exact ho)),putL_set (k:=fun x:Item=>x.1.1) (x:=(f,4)) hC.2 h2 h3]
      rfl
    · rw [decide_eq_false (fun h=>ho ((cmpF_over h3.symm).1 h)),castPut,if_pos ⟨l[m],List.getElem_mem h2,h3,ho⟩]
      rfl
  · have hne:∀ x∈l,x.1.1≠f.1:=fun x hx e=>by
      obtain ⟨i,hi,rfl⟩:=List.getElem_of_mem hx
      rcases Nat.lt_trichotomy i m with h | h | h
      · have:=lo i hi h; omega
      · subst h; exact he ⟨hi,e⟩
      · have h5:=hi' m (by omega) (Nat.le_refl _)
        have h6:l[m].1.1<l[i].1.1:=asc_get.1 hC.2 m i (by omega) hi h
        omega
    rw [decide_eq_false (fun ⟨h2,h3⟩=>he ⟨by rw [hml] at h2; exact h2,by rw [hget m (by rw [hml] at h2; exact h2)] at h3; exact h3⟩),castPut,if_neg (fun ⟨x,hx,e,_⟩=>hne x hx e)]
    simp only [Bool.not_false,cond_true]
    rw [insert_ok hle (by omega) hl]
    simp only [Option.bind_some]
    rw [putL_ins (k:=fun x:Item=>x.1.1) (x:=(f,4)) hle lo (fun i hi hmi=>by
      have h1:=hi' i hi hmi
      have h2:=hne l[i] (List.getElem_mem hi)
      show f.1<l[i].1.1
      omega)]
theorem restL_true' {α:Type} {k:α→Int} {x:α}:∀ {ys:List α},restL k x true ys=ys.filter (fun y=>k y != k x)
  | []=>rfl
  | y :: ys=>by
    simp only [restL,Bool.not_true,Bool.false_and,cond_false,Bool.true_or,List.nil_append,List.filter_cons]
    rw [restL_true']
    cases k y != k x <;> rfl
theorem putL_filter {α:Type} {k:α→Int} {x:α} {xs:List α}:putL k x (xs.filter fun y=>!(k y==k x))=putL k x xs:=by
  simp only [putL,List.filter_filter]
  congr 1
  · refine List.filter_congr fun y _=>?_
    by_cases h:k y<k x
    · rw [decide_eq_true h]; simp; omega
    · rw [decide_eq_false h]; rfl
  · congr 1
    refine List.filter_congr fun y _=>?_
    by_cases h:k x<k y
    · rw [decide_eq_true h]; simp; omega
    · rw [decide_eq_false h]; rfl
def mkD (now:Int) (f:Fact) (b:Int):Doubt:=(f.1,f.2.1,now,[b])
def doubtPut (now:Int) (ds:List Doubt) (f:Fact) (b:Int):List Doubt:=if f.2.2.1=2 then putL (fun d=>d.1) (mkD now f b) ds else ds.filter (fun d=>!(d.1==f.1))
theorem doubt_s (K:Nat) (n:Node) (f:Fact) (b:Int) (hl:(Node.doubts n).length≤1048576) (hA:Asc (fun d:Doubt=>d.1) (Node.doubts n)) (hK:1048577<K) :
    Q83.f K (n,f,b,())=some ((doubtPut n.2.2.2.2.2.1 (Node.doubts n) f b,()),()):=by
  have:=put_loop (step:=fun rec a=>Q83.l0.step K (n,f,b,()) rec a) (fun d:Doubt=>d.1) (mkD n.2.2.2.2.2.1 f b) (Node.doubts n) (fun _=>false) none (fun xs=>some ((xs,()),())) (fun acc d i=>(acc,d,(i:Int))) ?_ ?_ (Node.doubts n).length 0 K [] (f.2.2.1 != 2) (by omega) (by omega) (by simp) (by simp)
  · refine Eq.trans (this:Q83.f K (n,f,b,())=_) ?_
    rw [List.drop_zero,show (Node.doubts n).any (fun _=>false)=false by simp,doubtPut]
    by_cases h2:f.2.2.1=2
    · rw [if_pos h2,show (f.2.2.1 != 2)=false by simpa using h2,restL_false hA]
      rfl
    · rw [if_neg h2,show (f.2.2.1 != 2)=true by simpa using h2,restL_true']
      rfl
  · intro rec acc d i hi ha hd
    simp only [Q83.l0.step]
    rw [decLt (by omega:(i:Int)<(List.length (Node.doubts n):Int)),idx_get hi,wr_succ i (by omega)]
    simp only [cond_true,cond_false,Option.bind_some]
    have z1:decide ((acc.length+[mkD n.2.2.2.2.2.1 f b].length)*48≤sizeK)=true:=szb _ _ _ (by omega) (by simp; omega)
    have z2:decide (((acc++[mkD n.2.2.2.2.2.1 f b]).length+[(Node.doubts n)[i]].length)*48≤sizeK)=true:=szb _ _ _ (by omega) (by simp; omega)
    have z3:decide ((acc.length+[(Node.doubts n)[i]].length)*48≤sizeK)=true:=szb _ _ _ (by omega) (by simp; omega)
    show (bif !d then (bif decide (f.1≤(Node.doubts n)[i].1) then (bif decide ((acc.length+[mkD n.2.2.2.2.2.1 f b].length)*48≤sizeK) then (bif (Node.doubts n)[i].1 != f.1 then (bif decide (((acc++[mkD n.2.2.2.2.2.1 f b]).length+[(Node.doubts n)[i]].length)*48≤sizeK) then (rec ((acc++[mkD n.2.2.2.2.2.1 f b])++[(Node.doubts n)[i]],true,((i+1:Nat):Int))) else none) else (rec (acc++[mkD n.2.2.2.2.2.1 f b],true,((i+1:Nat):Int)))) else none) else (bif (Node.doubts n)[i].1 != f.1 then (bif decide ((acc.length+[(Node.doubts n)[i]].length)*48≤sizeK) then (rec (acc++[(Node.doubts n)[i]],d,((i+1:Nat):Int))) else none) else (rec (acc,d,((i+1:Nat):Int))))) else (bif (Node.doubts n)[i].1 != f.1 then (bif decide ((acc.length+[(Node.doubts n)[i]].length)*48≤sizeK) then (rec (acc++[(Node.doubts n)[i]],d,((i+1:Nat):Int))) else none) else (rec (acc,d,((i+1:Nat):Int)))))=rec ((acc++(bif !d&&decide (f.1≤(Node.doubts n)[i].1) then [mkD n.2.2.2.2.2.1 f b] else []))++(bif (Node.doubts n)[i].1 != f.1 then [(Node.doubts n)[i]] else []),d||decide (f.1≤(Node.doubts n)[i].1),((i+1:Nat):Int))
    rw [z1,z2,z3]
    cases d <;> cases decide (f.1≤(Node.doubts n)[i].1) <;> cases (Node.doubts n)[i].1 != f.1 <;> simp only [Bool.not_true,Bool.not_false,Bool.true_and,Bool.false_and,Bool.true_or,Bool.false_or,cond_true,cond_false,List.append_nil]
  · intro rec acc d ha hd
    simp only [Q83.l0.step,decNl]
    cases d with
    | true=>simp only [Bool.not_true,cond_false,cond_true,List.append_nil]
    | false =>
      have:=hd rfl
      have z1:decide ((acc.length+[mkD n.2.2.2.2.2.1 f b].length)*48≤sizeK)=true:=szb _ _ _ (by omega) (by simp; omega)
      show (bif decide ((acc.length+[mkD n.2.2.2.2.2.1 f b].length)*48≤sizeK) then some ((acc++[mkD n.2.2.2.2.2.1 f b],()),()) else none)=some ((acc++[mkD n.2.2.2.2.2.1 f b],()),())
      rw [z1]
      rfl
theorem findD_i (K:Nat) (t:List Doubt) (node:Int) (ht:t.length≤1048576) (hasc:Asc (fun d:Doubt=>d.1) t) (h7:∀ d∈t,InP d.1 0 7) (hn:InP node 0 7) (hK:1048577<K) :
    ∃ m,m≤t.length∧(∀ i,(h:i<t.length)→i<m→t[i].1<node)∧(∀ i,(h:i<t.length)→m≤i→node≤t[i].1)∧∃ b,Q134.f K (t,node,(fun y1=>(Q135.f K (y1.1,y1.2.1,())).map fun y=>y.1.1),())=some ((((m:Nat):Int),b,()),()):=by
  let ks:Nat→Int:=fun i=>if h:i<t.length then t[i].1 else 0
  have hks:∀ i (h:i<t.length),ks i=t[i].1:=fun i h=>by simp [ks,h]
  let fin:Nat→Option ((Int×Bool×Unit)×Unit):=fun m=>some ((((m:Nat):Int),decide (∃ h:m<t.length,t[m].1=node),()),())
  have φ:∀ d∈t,((Q135.f K (d,node,())).map fun y=>y.1.1)=some (d.1-node):=fun d hd=>by
    obtain ⟨a1,a2⟩:=h7 d hd
    obtain ⟨a3,a4⟩:=hn
    simp only [Q135.f,Q135.pre]
    rw [wr64 (by omega) (by omega)]
    rfl
  have:=halves (step:=fun rec a=>Q134.l0.step K (t,node,(fun y1=>(Q135.f K (y1.1,y1.2.1,())).map fun y=>y.1.1),()) rec a) (ks:=ks) (n:=t.length) (t:=node) fin ht
    (fun i j hij hj=>by
      rw [hks i (by omega),hks j hj]
      exact asc_get.1 hasc i j (by omega) hj hij) ?_ ?_ t.length K 0 t.length (by omega) (Nat.zero_le _) (Nat.le_refl _) (by omega) (fun i hi=>by omega) (fun i hi hn=>by omega)
  · obtain ⟨m,h1,h2,h3,h4⟩:=this
    exact ⟨m,h1,fun i h hi=>by rw [← hks i h]; exact h2 i hi,fun i h hi=>by rw [← hks i h]; exact h3 i hi h,_,h4⟩
  · intro rec a b hab hb
    have hm:(a+b) / 2<t.length:=by omega
    simp only [Q134.l0.step]
    rw [decide_eq_true (by omega:(a:Int)<(b:Int)),half_ok (by omega)]
    simp only [cond_true]
    rw [idx_get hm]
    simp only [Option.bind_some,φ _ (List.getElem_mem hm)]
    rw [hks _ hm,wr_succ _ (by omega)]
    by_cases h:t[(a+b) / 2].1<node
    · rw [if_pos h,decide_eq_true (by omega:t[(a+b) / 2].1-node<0)]; rfl
    · rw [if_neg h,decide_eq_false (by omega:¬ t[(a+b) / 2].1-node<0)]; rfl
  · intro rec a ha
    simp only [Q134.l0.step]
    rw [decide_eq_false (by omega)]
    simp only [cond_false]
    by_cases h:a<t.length
    · rw [decide_eq_true (by omega:(a:Int)<(List.length t:Int)),idx_get h]
      simp only [cond_true,Option.bind_some,φ _ (List.getElem_mem h)]
      have:(t[a].1-node==0)=decide (∃ h:a<t.length,t[a].1=node):=by
        rw [Bool.eq_iff_iff]
        simp only [beq_iff_eq,decide_eq_true_eq]
        exact ⟨fun e=>⟨h,by omega⟩,fun ⟨_,e⟩=>by omega⟩
      rw [this]
    · rw [decide_eq_false (by omega:¬ (a:Int)<(List.length t:Int))]
      simp only [cond_false,fin]
      rw [decide_eq_false (fun ⟨h',_⟩=>h h')]
end Go.Proofs.YthgnfidnmnkeaaaGreatEv
namespace Go.Proofs.YthgnfidnmnkeaaaGreatEv
open Go
def setN (n:Node) (t:List Fact) (c:List Item) (ds:List Doubt):Node :=
  (n.1,n.2.1,n.2.2.1,n.2.2.2.1,n.2.2.2.2.1,n.2.2.2.2.2.1,n.2.2.2.2.2.2.1,n.2.2.2.2.2.2.2.1,t,c,n.2.2.2.2.2.2.2.2.2.2.1,ds,n.2.2.2.2.2.2.2.2.2.2.2.2)
def sameB (n:Node) (f:Fact):Bool:=decide (∃ g∈Node.table n,g.1=f.1∧g.2.1=f.2.1∧g.2.2.1=f.2.2.1)
def sayOf (n:Node) (f:Fact) (b:Int):Node :=
  bif (putOf (Node.table n) f).2 then setN n (putOf (Node.table n) f).1 (castPut (Node.cast n) f) (bif sameB n f then Node.doubts n else doubtPut n.2.2.2.2.2.1 (Node.doubts n) f b) else n
structure SayOk (n:Node):Prop where
  table:TableP (Node.table n)
  cast:CastP (Node.cast n)
  asc:Asc (fun d:Doubt=>d.1) (Node.doubts n)
  inp:∀ d∈Node.doubts n,InP d.1 0 7
  lt:(Node.table n).length≤1048576
  lc:(Node.cast n).length≤1048576
  ld:(Node.doubts n).length≤1048576
theorem sameB_at {n:Node} {f g:Fact} (hT:Asc (fun g:Fact=>g.1) (Node.table n)) (hg:g∈Node.table n) (e:g.1=f.1):sameB n f=(g.2.1==f.2.1&&g.2.2.1==f.2.2.1):=by
  rw [Bool.eq_iff_iff,sameB,decide_eq_true_eq,Bool.and_eq_true,beq_iff_eq,beq_iff_eq]
  constructor
  · rintro ⟨x,hx,h1,h2,h3⟩
    have:=uniq hT hx hg (by rw [h1,e])
    subst this
    exact ⟨h2,h3⟩
  · rintro ⟨h1,h2⟩
    exact ⟨g,hg,e,h1,h2⟩
theorem sameB_no {n:Node} {f:Fact} (h:∀ g∈Node.table n,g.1≠f.1):sameB n f=false :=
  decide_eq_false fun ⟨g,hg,e,_⟩=>h g hg e
theorem say_s (K:Nat) (n:Node) (f:Fact) (b:Int) (h:SayOk n) (hK:1048577<K):Q84.f K (n,f,b,())=some ((sayOf n f b,()),()):=by
  simp only [Q84.f,Q84.pre]
  rw [show Q81.f K (n.2.2.2.2.2.2.2.2.1,f,())=_ from put_s K (Node.table n) f h.lt h.table.2 hK]
  simp only [Option.bind_some]
  cases hp:(putOf (Node.table n) f).2 with
  | false =>
    simp only [sayOf,hp]
    rfl
  | true =>
    simp only [sayOf,hp,Bool.not_true,cond_false,cond_true]
    obtain ⟨o,ho,h1⟩:=find_s K (Node.table n) f.1 h.lt hK
    rw [show Q68.f K (n.2.2.2.2.2.2.2.2.1,f.1,())=_ from h1]
    simp only [Option.bind_some]
    have hd:=doubt_s K (n.1,n.2.1,n.2.2.1,n.2.2.2.1,n.2.2.2.2.1,n.2.2.2.2.2.1,n.2.2.2.2.2.2.1,n.2.2.2.2.2.2.2.1,(putOf (Node.table n) f).1,castPut (Node.cast n) f,n.2.2.2.2.2.2.2.2.2.2) f b h.ld h.asc hK
    have hc:=l5Put_s K (Node.cast n) f h.lc h.cast.2 hK
    cases ho with
    | at_ i hi e =>
      simp only
      rw [sameB_at h.table.2 (List.getElem_mem hi) e,decide_eq_true (by omega:((i:Nat):Int)≥0)]
      simp only [cond_true]
      rw [show idx n.2.2.2.2.2.2.2.2.1 (i:Int)=some (Node.table n)[i] from idx_get hi]
      simp only [Option.bind_some]
      rw [show Q82.f K (n.2.2.2.2.2.2.2.2.2.1,f,())=_ from hc]
      simp only [Option.bind_some]
      rw [hd]
      cases (Node.table n)[i].2.1==f.2.1 with
      | true =>
        cases (Node.table n)[i].2.2.1==f.2.2.1 <;> rfl
      | false=>rfl
    | no hno =>
      simp only
      rw [sameB_no hno,decide_eq_false (by omega:¬ (-1:Int)≥0)]
      simp only [cond_false]
      rw [show Q82.f K (n.2.2.2.2.2.2.2.2.2.1,f,())=_ from hc]
      simp only [Option.bind_some]
      rw [hd]
      rfl
theorem asc_filter {α:Type} {k:α→Int} {xs:List α} (h:Asc k xs) (p:α→Bool):Asc k (xs.filter p):=List.Pairwise.filter p h
theorem doubt_i {R:Type} (K:Nat) (now:Int) (ds:List Doubt) (f:Fact) (b:Int) (G:List Doubt→Option R) (hl:ds.length≤1048576) (hA:Asc (fun d:Doubt=>d.1) ds) (h7:∀ d∈ds,InP d.1 0 7) (hf:FactP f) (hK:1048577<K) :
    ((Q4.f K (ds,(fun y4=>(Q133.f K (y4.1,f,())).map fun y=>y.1.1),())).bind fun y5=>bif f.2.2.1==2 then ((Q134.f K (y5.1.1,f.1,(fun y6=>(Q135.f K (y6.1,y6.2.1,())).map fun y=>y.1.1),())).bind fun y7=>(Q5.f K (y5.1.1,y7.1.1,[mkD now f b],())).bind fun y8=>G y8.1.1) else G y5.1.1)=G (doubtPut now ds f b):=by
  rw [show Q4.f K (ds,(fun y4=>(Q133.f K (y4.1,f,())).map fun y=>y.1.1),())=some ((ds.filter (fun d=>!(d.1==f.1)),()),()) by
    simp only [Q4.f]
    exact delete_ok _ hl (fun d _=>rfl)]
  simp only [Option.bind_some,doubtPut]
  by_cases h2:f.2.2.1=2
  · rw [if_pos h2,show (f.2.2.1==2)=true by simpa using h2]
    simp only [cond_true]
    have hl':(ds.filter (fun d=>!(d.1==f.1))).length≤1048576:=Nat.le_trans (List.length_filter_le _ _) hl
    obtain ⟨m,hm,lo,hi,b',e⟩:=findD_i K (ds.filter (fun d=>!(d.1==f.1))) f.1 hl' (asc_filter hA _) (fun d hd=>h7 d (List.mem_filter.1 hd).1) hf.1 hK
    rw [e]
    simp only [Option.bind_some]
    rw [show Q5.f K (ds.filter (fun d=>!(d.1==f.1)),(m:Int),[mkD now f b],())=some (((ds.filter (fun d=>!(d.1==f.1))).take m++[mkD now f b]++(ds.filter (fun d=>!(d.1==f.1))).drop m,()),()) by
      simp only [Q5.f]
      exact insert_ok hm (by omega) hl']
    simp only [Option.bind_some]
    have:=putL_ins (k:=fun d:Doubt=>d.1) (x:=mkD now f b) hm lo (fun i h hmi=>by
      have h1:=hi i h hmi
      have h3:(!((ds.filter (fun d=>!(d.1==f.1)))[i].1==f.1))=true:=(List.mem_filter.1 (List.getElem_mem h)).2
      have h4:(ds.filter (fun d=>!(d.1==f.1)))[i].1≠f.1:=by simpa using h3
      show f.1<_
      omega)
    rw [this]
    exact congrArg G (putL_filter (k:=fun d:Doubt=>d.1) (x:=mkD now f b))
  · rw [if_neg h2,show (f.2.2.1==2)=false by simpa using h2]
    rfl
theorem say_i (K:Nat) (n:Node) (f:Fact) (b:Int) (h:SayOk n) (hf:FactP f) (hK:1048577<K):Q136.f K (n,f,b,())=some ((),(sayOf n f b,())):=by
  simp only [Q136.f,Q136.pre]
  have hw:∃ g:Fact,∃ b',Q104.f K (Node.table n,f.1,())=some ((g,b',()),())∧sameB n f=(g.2.2.1==f.2.2.1&&g.2.1==f.2.1):=by
    rcases tableOf_i K (Node.table n) f.1 h.lt hK with ⟨h1,_⟩ | ⟨_,⟨g,hg,e,h1⟩ | ⟨h0,h1⟩⟩
    · exact absurd h.table h1
    · exact ⟨g,_,h1,by rw [sameB_at h.table.2 hg e,Bool.and_comm]⟩
    · refine ⟨_,_,h1,?_⟩
      rw [sameB_no h0,show ((0:Int)==f.2.2.1)=false by have:=hf.2.2.1; simp; omega]
      rfl
  obtain ⟨g,b',h1,h2⟩:=hw
  rw [show Q104.f K (n.2.2.2.2.2.2.2.2.1,f.1,())=_ from h1]
  simp only [Option.bind_some]
  rw [show Q130.f K (n.2.2.2.2.2.2.2.2.1,f,())=_ from put_i K (Node.table n) f h.lt h.table.2 hK]
  simp only [Option.bind_some]
  cases hp:(putOf (Node.table n) f).2 with
  | false =>
    simp only [sayOf,hp]
    rfl
  | true =>
    simp only [sayOf,hp,Bool.not_true,cond_false,cond_true]
    rw [show Q131.f K (n.2.2.2.2.2.2.2.2.2.1,f,())=_ from castPut_i K (Node.cast n) f h.lc h.cast hf hK]
    simp only [Option.bind_some]
    have hd:=doubt_i K n.2.2.2.2.2.1 (Node.doubts n) f b (fun ds=>some ((),(setN n (putOf (Node.table n) f).1 (castPut (Node.cast n) f) ds,()))) h.ld h.asc h.inp hf hK
    rw [h2]
    cases g.2.2.1==f.2.2.1 with
    | true =>
      cases g.2.1==f.2.1 with
      | true=>rfl
      | false=>exact hd
    | false=>exact hd
theorem len8 {α:Type} {k:α→Int} {xs:List α} (h:Asc k xs) (h7:∀ x∈xs,InP (k x) 0 7):xs.length≤8:=by
  have:=(asc_sub (xs.map k) [0,1,2,3,4,5,6,7] (by unfold Asc at h; rw [List.pairwise_map]; exact h) (by decide) (fun y hy=>by
    obtain ⟨x,hx,rfl⟩:=List.mem_map.1 hy
    obtain ⟨h1,h2⟩:=h7 x hx
    simp only [List.mem_cons,List.not_mem_nil,or_false]
    omega)).1
  rw [List.length_map] at this
  exact this
theorem putOf_cases (t:List Fact) (f:Fact):(putOf t f).1=t∨(putOf t f).1=putL (fun g=>g.1) f t:=by
  unfold putOf
  split
  · split
    · exact .inr rfl
    · exact .inl rfl
  · exact .inr rfl
theorem putOf_ok {t:List Fact} {f:Fact} (h:TableP t) (hf:FactP f):TableP (putOf t f).1:=by
  rcases putOf_cases t f with e | e
  · rw [e]; exact h
  · rw [e]
    refine ⟨fun g hg=>?_,putL_asc h.2⟩
    rcases mem_putL.1 hg with rfl | ⟨h1,_⟩
    · exact hf
    · exact h.1 g h1
theorem castPut_ok {l:List Item} {f:Fact} (h:CastP l) (hf:FactP f):CastP (castPut l f):=by
  unfold castPut
  split
  · exact h
  · refine ⟨fun x hx=>?_,putL_asc h.2⟩
    rcases mem_putL.1 hx with rfl | ⟨h1,_⟩
    · exact ⟨hf,show (1:Int)≤4 by omega,show (4:Int)≤4 by omega⟩
    · exact h.1 x h1
theorem doubtPut_mem {now:Int} {ds:List Doubt} {f:Fact} {b:Int} {d:Doubt} (h:d∈doubtPut now ds f b):d=mkD now f b∨d∈ds:=by
  unfold doubtPut at h
  split at h
  · rcases mem_putL.1 h with h | h
    · exact .inl h
    · exact .inr h.1
  · exact .inr (List.mem_filter.1 h).1
theorem doubtPut_asc {now:Int} {ds:List Doubt} {f:Fact} {b:Int} (h:Asc (fun d:Doubt=>d.1) ds):Asc (fun d:Doubt=>d.1) (doubtPut now ds f b):=by
  unfold doubtPut
  split
  · exact putL_asc h
  · exact asc_filter h _
theorem sayOf_set (n:Node) (f:Fact) (b:Int):∃ t c ds,sayOf n f b=setN n t c ds∧(t=Node.table n∨t=(putOf (Node.table n) f).1)∧(c=Node.cast n∨c=castPut (Node.cast n) f)∧(ds=Node.doubts n∨ds=doubtPut n.2.2.2.2.2.1 (Node.doubts n) f b):=by
  unfold sayOf
  cases (putOf (Node.table n) f).2 with
  | false=>exact ⟨Node.table n,Node.cast n,Node.doubts n,rfl,.inl rfl,.inl rfl,.inl rfl⟩
  | true =>
    cases sameB n f with
    | true=>exact ⟨_,_,_,rfl,.inr rfl,.inr rfl,.inl rfl⟩
    | false=>exact ⟨_,_,_,rfl,.inr rfl,.inr rfl,.inr rfl⟩
theorem SayOk.mk' {n:Node} (ht:TableP (Node.table n)) (hc:CastP (Node.cast n)) (ha:Asc (fun d:Doubt=>d.1) (Node.doubts n)) (h7:∀ d∈Node.doubts n,InP d.1 0 7):SayOk n where
  table:=ht
  cast:=hc
  asc:=ha
  inp:=h7
  lt:=Nat.le_trans (len8 ht.2 (fun g hg=>(ht.1 g hg).1)) (by decide)
  lc:=Nat.le_trans (len8 hc.2 (fun x hx=>(hc.1 x hx).1.1)) (by decide)
  ld:=Nat.le_trans (len8 ha h7) (by decide)
theorem sayOf_ok {n:Node} {f:Fact} {b:Int} (h:SayOk n) (hf:FactP f):SayOk (sayOf n f b):=by
  obtain ⟨t,c,ds,e,h1,h2,h3⟩:=sayOf_set n f b
  rw [e]
  refine SayOk.mk' ?_ ?_ ?_ ?_
  · show TableP t
    rcases h1 with rfl | rfl
    · exact h.table
    · exact putOf_ok h.table hf
  · show CastP c
    rcases h2 with rfl | rfl
    · exact h.cast
    · exact castPut_ok h.cast hf
  · show Asc _ ds
    rcases h3 with rfl | rfl
    · exact h.asc
    · exact doubtPut_asc h.asc
  · show ∀ d∈ds,InP d.1 0 7
    rcases h3 with rfl | rfl
    · exact h.inp
    · intro d hd
      rcases doubtPut_mem hd with rfl | hd
      · exact hf.1
      · exact h.inp d hd
theorem sayOf_by {n:Node} {f:Fact} {b:Int} (h:∀ d∈Node.doubts n,d.2.2.2.length≤1048576):∀ d∈Node.doubts (sayOf n f b),d.2.2.2.length≤1048576:=by
  obtain ⟨t,c,ds,e,_,_,h3⟩:=sayOf_set n f b
  rw [e]
  show ∀ d∈ds,_
  rcases h3 with rfl | rfl
  · exact h
  · intro d hd
    rcases doubtPut_mem hd with rfl | hd
    · exact Nat.succ_le_of_lt (by decide)
    · exact h d hd
theorem sayOf_nb {n:Node} {f:Fact} {b:Int} (hn:NB n) (h:SayOk n) (hf:FactP f):NB (sayOf n f b):=by
  have h1:=sayOf_ok (b:=b) h hf
  have h2:=sayOf_by (f:=f) (b:=b) hn.by_
  obtain ⟨t,c,ds,e,_⟩:=sayOf_set n f b
  refine ⟨h1.lt,h1.lc,h1.ld,h2,?_,?_,?_,?_⟩
  · rw [e]; exact hn.places
  · rw [e]; exact hn.trips
  · rw [e]; exact hn.others
  · rw [e]; exact hn.facts
theorem UpP.say {n:Node} (h:UpP n):SayOk n:=by
  obtain ⟨h1,_,_,⟨h4,_⟩,_,h6,_⟩:=h
  refine SayOk.mk' h1 h4 h6.2.1 fun d hd=>?_
  obtain ⟨f,hf,e,_⟩:=(h6.1 d hd).1
  rw [← e]
  exact (h1.1 f hf).1
theorem gatherS {α β A R:Type} (t:List α) (p:α→Bool) (g:α→β) (S:List β→Nat→A) (fin:List β→Option R) {step:(A→Option R)→A→Option R}
    (h:∀ (rec:A→Option R) (acc:List β) (i:Nat) (hi:i<t.length),acc.length≤i→step rec (S acc i)=rec (S (bif p t[i] then acc++[g t[i]] else acc) (i+1)))
    (hend:∀ (rec:A→Option R) (acc:List β),acc.length≤t.length→step rec (S acc t.length)=fin acc) {k:Nat} (hk:t.length<k) :
    iterate step k (S [] 0)=fin ((t.filter p).map g):=by
  have:∀ (d i k:Nat) (acc:List β),i+d=t.length→d<k→acc.length≤i→iterate step k (S acc i)=fin (acc++((t.drop i).filter p).map g):=by
    intro d
    induction d with
    | zero =>
      intro i k acc hi hk ha
      obtain ⟨k,rfl⟩:∃ k',k=k'+1:=⟨k-1,by omega⟩
      have:i=t.length:=by omega
      subst this
      show step (iterate step k) _=_
      rw [hend _ _ ha]
      simp
    | succ d ih =>
      intro i k acc hi hk ha
      obtain ⟨k,rfl⟩:∃ k',k=k'+1:=⟨k-1,by omega⟩
      have hlt:i<t.length:=by omega
      show step (iterate step k) _=_
      rw [h _ _ _ hlt ha,List.drop_eq_getElem_cons hlt,List.filter_cons]
      cases p t[i] with
      | true =>
        simp only [cond_true,if_true,List.map_cons]
        rw [ih (i+1) k _ (by omega) (by omega) (by simp; omega),List.append_assoc]
        rfl
      | false =>
        simp only [cond_false]
        rw [ih (i+1) k _ (by omega) (by omega) (by omega)]
        rfl
  have:=this t.length 0 k [] (by omega) hk (Nat.le_refl _)
  rwa [List.drop_zero,List.nil_append] at this
end Go.Proofs.YthgnfidnmnkeaaaGreatEv
namespace Go.Proofs.YthgnfidnmnkeaaaGreatEv
open Go
def zeroNode:Node:=(0,false,false,false,0,0,0,0,[],[],(0,0,0,false),[],(0,0,0,0),[],[])
theorem zeroNode_ok:NB zeroNode where
  table:=Nat.zero_le _
  cast:=Nat.zero_le _
  doubts:=Nat.zero_le _
  by_:=fun d hd=>absurd hd List.not_mem_nil
  places:=Nat.zero_le _
  trips:=fun d hd=>absurd hd List.not_mem_nil
  others:=Nat.zero_le _
  facts:=fun d hd=>absurd hd List.not_mem_nil
end Go.Proofs.YthgnfidnmnkeaaaGreatEv
