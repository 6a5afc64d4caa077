/- slices.Insert, walked; its contracts are sound. Printed by insert.py. -/
import Derived.Test.YthgnfidnmnkeaaaGreatFns
import Derived.Test.YthgnfidnmnkeaaaGreatEvQ
import Derived.Test.YthgnfidnmnkeaaaGreatE7
import Derived.Shelf.Spec.SlicesInsert
import Derived.Laws.CopyRow
import Derived.Lib.AppendZerosOnto
set_option linter.unusedVariables false
set_option maxRecDepth 100000
namespace Go.Proofs.YthgnfidnmnkeaaaGreatEv
open Go Go.Proofs Go.Shelf Go.RowKit Go.Lib
theorem run_copy_rowN {P:Program}(w:World)(dT sT ty elem:TypeId)(i:TypeInfo)(hi:P.info? elem=some i)(g o dLen dCap:Nat)(a:Addr)(sLen sCap:Nat)(cur:Array Value)(t:TypeId)(cs:List Value)
  (hu:P.underlying dT=some (.slice elem)) (hg:w.heap[g]?=some (.cells cur t (0,0))) (hn:cs.length=Nat.min sLen dLen*i.size)
  (hsrc:∀ j v,cs[j]?=some v→w.cell? (a.add j)=some v) (hfit:o+cs.length≤cur.size) (h1:∀ v∈cs,v.oneCell'=true) :
  (Builtin.copy_ #[dT,sT] ty #[.slice (some ⟨g,o,none⟩) dLen dCap,.slice (some a) sLen sCap]).run P w =
   .ok (goInt (Nat.min sLen dLen)) (w.setRow g (cur.toList.take o++cs++cur.toList.drop (o+cs.length)).toArray):=by
 have hl:=run_loadCells_list (P:=P) w a cs hsrc
 have hst:=run_storeCells_at P g o t cs 0 cur w hg (by simpa using hfit) h1
 simp[Builtin.copy_,run_underlying hu,Builtin.lenOf,Builtin.firstCells,sizeOf,typeInfo,hi,← hn,hl,hst]
namespace Q1
set_option maxHeartbeats 4000000 in
theorem ins_end (w:World)(g n cap:Nat)(flat:List Value)(i:TypeInfo)(z:Value)(hi:Tryz.prog.info? 132=some i)(hz:i.zero=some z)(hs:i.size=4)(hb:i.bytes=32)(hzs:z.cells.size=4)
  (hown:Row w 132 4 (.slice (some ⟨g,0,none⟩) n cap) n flat) (hnc:n≤cap) (vb m vc:Nat) (news:List Value) (hl:news.length=m*4) (hnews:∀ j u,news[j]?=some u→w.cell? ⟨vb,0+j,none⟩=some u) (h1:∀ u∈news,u.oneCell'=true)
  (hm:0<m) (h63:n+m≤maxLen) (hbytes:(n+m)*32≤140737488355328) :
  Calls Tryz.prog 305 #[.slice (some ⟨g,0,none⟩) n cap,.int .i64 n,.slice (some ⟨vb,0,none⟩) m vc] w fun e w' =>
   ∃ v',e=.returned v'∧Row w' 132 4 v' (n+m) (flat++news)∧w.grownBy w' (some g)∧(v'.ownBlock=some g∨v'.ownBlock=some w.heap.size):=by
 obtain⟨v',w',hr,r1,r2,r3⟩:=dh (P:=Tryz.prog) w 36 36 132 i z 4 32 (by kernel_rfl) hi hz hs hb hzs _ n flat hown ⟨vb,0,none⟩ m vc news hl (fun j u hj=>by rw[Addr.add_lit];exact hnews j u hj) h1 h63 hbytes
 have hz1:¬ ((m:Int)=0):=by omega
 go_enter Tryz.func305,Tryz.ntmps305
 go_wp2_with (at_builtin;refine Lib.wpList_append_run _ rfl _ _ _ _ rfl _ _ rfl rfl _ _ hr ?_)
 all_goals (go_ret;exact⟨v',rfl,r1,r2,r3⟩)
set_option maxHeartbeats 4000000 in
theorem ins_nil (w:World)(i:TypeInfo)(z:Value)(hi:Tryz.prog.info? 132=some i)(hz:i.zero=some z)(hs:i.size=4)(hb:i.bytes=32)(hzs:z.cells.size=4)
  (vb m vc:Nat) (news:List Value) (hl:news.length=m*4) (hnews:∀ j u,news[j]?=some u→w.cell? ⟨vb,0+j,none⟩=some u) (h1:∀ u∈news,u.oneCell'=true)
  (hm:0<m) (h63:m≤maxLen) (hbytes:m*32≤140737488355328) :
  Calls Tryz.prog 305 #[.slice none 0 0,.int .i64 0,.slice (some ⟨vb,0,none⟩) m vc] w fun e w' =>
   ∃ v',e=.returned v'∧Row w' 132 4 v' m news∧w.grownBy w' none∧v'.ownBlock=some w.heap.size:=by
 obtain⟨v',w',hr,r1,r2,r3⟩:=dh (P:=Tryz.prog) w 36 36 132 i z 4 32 (by kernel_rfl) hi hz hs hb hzs _ 0 [] (Row.nil w 132 4) ⟨vb,0,none⟩ m vc news hl (fun j u hj=>by rw[Addr.add_lit];exact hnews j u hj) h1 (by omega) (by omega)
 have hz1:¬ ((m:Int)=0):=by omega
 have r3':v'.ownBlock=some w.heap.size:=by
  rcases r3 with h|h
  ·exfalso
   rcases r1.2 with ⟨_,h0⟩|⟨g,c,cur,e,_⟩
   ·omega
   ·rw[e]at h;simp[Value.ownBlock]at h
  ·exact h
 rw[Nat.zero_add,List.nil_append]at r1
 go_enter Tryz.func305,Tryz.ntmps305
 go_wp2_with (at_builtin;refine Lib.wpList_append_run _ rfl _ _ _ _ rfl _ _ rfl rfl _ _ hr ?_)
 all_goals (go_ret;exact⟨v',rfl,r1,r2,r3'⟩)
set_option maxHeartbeats 4000000 in
theorem ins_shift (w:World)(g n cap i:Nat)(cur:Array Value)(flat:List Value)(inf:TypeInfo)(hi:Tryz.prog.info? 132=some inf)(hs:inf.size=4)
  (hg:w.heap[g]?=some (.cells cur 132 (0,0))) (hcm:cap≤maxLen) (hcs:cap*4≤cur.size) (htake:cur.toList.take (n*4)=flat) (hfl:flat.length=n*4) (h1c:∀ u∈flat,u.oneCell'=true)
  (vb m vc:Nat) (vcur:Array Value) (news:List Value) (hvg:w.heap[vb]?=some (.cells vcur 132 (0,0))) (hvb:vb≠g) (hl:news.length=m*4) (hnews:∀ j u,news[j]?=some u→w.cell? ⟨vb,0+j,none⟩=some u) (h1:∀ u∈news,u.oneCell'=true)
  (hm:0<m) (hin:i<n) (hroom:n+m≤cap) :
  Calls Tryz.prog 305 #[.slice (some ⟨g,0,none⟩) n cap,.int .i64 i,.slice (some ⟨vb,0,none⟩) m vc] w fun e w' =>
   e=.returned (.slice (some ⟨g,0,none⟩) (n+m) cap)∧∃ cur':Array Value,w'=w.drew.setRow g cur'∧cur'.size=cur.size∧cur'.toList.take ((n+m)*4)=flat.take (i*4)++news++flat.drop (i*4):=by
 have hz1:¬ ((m:Int)=0):=by omega
 have hz2:¬ ((i:Int)=(n:Int)):=by omega
 have hcm':cap≤9223372036854775807:=by simp only[maxLen]at hcm;omega
 have t39:Tryz.prog.underlying 36=some (.slice 132):=Tryz.underlying36
 have hov:∀ o lb cb,(callFunc 335 #[.slice (some ⟨vb,0,none⟩) m vc,.slice (some ⟨g,o,none⟩) lb cb]).run Tryz.prog w=.ok (.value (.bool false)) w:=fun o lb cb=>by
  rw[run_callFunc_extern Tryz.func335 (by kernel_rfl) (by kernel_rfl) (by kernel_rfl) (e:=Extern.SlicesOverlaps.overlaps #[36,36] #[4]) (by kernel_rfl),
   Lib.run_overlaps_apart w 36 4 132 t39 4 (fun w=>by simp[sizeOf,typeInfo,hi,hs]) ⟨vb,0,none⟩ ⟨g,o,none⟩ m vc lb cb hvb 132 132 vcur.size cur.size (by simp[World.shape?,hvg]) (by simp[World.shape?,hg]) (by omega) (frozen_of_row w vb 0 vcur 132 hvg) (frozen_of_row w vb vcur.size vcur 132 hvg)]
  rfl
 have hw1:IntKind.i64.wrap ((i:Int)+(m:Int))=(i:Int)+(m:Int):=by rw[IntKind.wrap_i64];omega
 have hw2:IntKind.i64.wrap ((n:Int)+(m:Int))=(n:Int)+(m:Int):=by rw[IntKind.wrap_i64];omega
 have hb1:(0:Int)≤(i:Int)+(m:Int):=by omega
 have htn:((i:Int)+(m:Int)).toNat=i+m:=by omega
 have htn2:((n:Int)+(m:Int)).toNat=n+m:=by omega
 have hb3:(i:Int)≤(n:Int)+(m:Int):=by omega
 have hb2:¬ (cap=i+m):=by omega
 have hb5:i≤n:=by omega
 have mixed:Tryz.prog.follows .mixedOrders=true:=by kernel_rfl
 have hb4:¬ (cap=i):=by omega
 have hdl:(flat.drop (i*4)).length=(n-i)*4:=by rw[List.length_drop,hfl,← Nat.sub_mul]
 have hflat:∀ j,j<n*4→flat[j]?=cur[j]?:=fun j hj=>by rw[← htake,List.getElem?_take,if_pos hj];exact Array.getElem?_toList ..
 have hm1:Nat.min (n+m-i) (n+m-(i+m))=n-i:=by simp only[Nat.min_def];split <;> omega
 have hm2:Nat.min m (n+m-i)=m:=by simp only[Nat.min_def];split <;> omega
 obtain⟨cur1,hcur1⟩:∃ c:Array Value,c=(cur.toList.take ((i+m)*4)++flat.drop (i*4)++cur.toList.drop ((i+m)*4+(flat.drop (i*4)).length)).toArray:=⟨_,rfl⟩
 have hfit:(i+m)*4+(n-i)*4≤cur.size:=by
  have:(n+m)*4≤cap*4:=Nat.mul_le_mul_right _ hroom
  omega
 have hs1:cur1.size=cur.size:=by
  rw[hcur1]
  simp only[List.size_toArray,List.length_append,List.length_take,List.length_drop,Array.length_toList,hfl]
  omega
 obtain⟨cur2,hcur2⟩:∃ c:Array Value,c=(cur1.toList.take (i*4)++news++cur1.toList.drop (i*4+news.length)).toArray:=⟨_,rfl⟩
 have hcp1:∀ ty dc sc,(Builtin.copy_ #[36,36] ty #[.slice (some ⟨g,(i+m)*4,none⟩) (n+m-(i+m)) dc,.slice (some ⟨g,i*4,none⟩) (n+m-i) sc]).run Tryz.prog w.drew=.ok (goInt (n-i:Nat)) (w.drew.setRow g cur1):=fun ty dc sc=>by
  have:=run_copy_rowN (P:=Tryz.prog) w.drew 36 36 ty 132 inf hi g ((i+m)*4) (n+m-(i+m)) dc ⟨g,i*4,none⟩ (n+m-i) sc cur 132 (flat.drop (i*4)) t39 hg (by rw[hdl,hm1,hs])
   (fun j v hj=>by
    rw[Addr.add_lit]
    have hjl:=(List.getElem?_eq_some_iff.1 hj).1
    rw[hdl]at hjl
    rw[List.getElem?_drop]at hj
    rw[show w.drew.cell? ⟨g,i*4+j,none⟩=w.cell? ⟨g,i*4+j,none⟩ from rfl,cell_of_row w g _ cur 132 (0,0) hg,← hflat _ (by rw[Nat.sub_mul]at hjl;omega)]
    exact hj)
   (by rw[hdl];exact hfit) (fun v hv=>h1c v (List.mem_of_mem_drop hv))
  rw[hm1,← hcur1]at this
  exact this
 have hcp2:∀ ty dc,(Builtin.copy_ #[36,36] ty #[.slice (some ⟨g,i*4,none⟩) (n+m-i) dc,.slice (some ⟨vb,0,none⟩) m vc]).run Tryz.prog (w.drew.setRow g cur1)=.ok (goInt (m:Nat)) ((w.drew.setRow g cur1).setRow g cur2):=fun ty dc=>by
  have:=run_copy_rowN (P:=Tryz.prog) (w.drew.setRow g cur1) 36 36 ty 132 inf hi g (i*4) (n+m-i) dc ⟨vb,0,none⟩ m vc cur1 132 news t39 (setRow_heap w.drew g cur cur1 132 (0,0) hg) (by rw[hl,hm2,hs])
   (fun j v hj=>by
    rw[Addr.add_lit,cell_setRow_other _ _ _ _ hvb]
    exact hnews j v hj)
   (by rw[hl,hs1,← Nat.add_mul];have:(i+m)*4≤cap*4:=Nat.mul_le_mul_right _ (by omega);omega) h1
  rw[hm2,← hcur2]at this
  exact this
 have hfin:cur2.size=cur.size∧cur2.toList.take ((n+m)*4)=flat.take (i*4)++news++flat.drop (i*4):=by
  refine⟨?_,?_⟩
  ·rw[hcur2]
   simp only[List.size_toArray,List.length_append,List.length_take,List.length_drop,Array.length_toList,hl,hs1]
   have:(i+m)*4≤cap*4:=Nat.mul_le_mul_right _ (by omega)
   omega
  ·have ha:cur1.toList.take (i*4)=flat.take (i*4):=by
    rw[hcur1,← htake,List.take_take,Nat.min_eq_left (Nat.mul_le_mul_right _ (by omega)),List.append_assoc]
    simp only[List.take_append_of_le_length (show i*4≤(cur.toList.take ((i+m)*4)).length by simp only[List.length_take,Array.length_toList];have:(i+m)*4≤cap*4:=Nat.mul_le_mul_right _ (by omega);omega),List.take_take]
    rw[Nat.min_eq_left (by omega)]
   have hb:cur1.toList.drop (i*4+news.length)=flat.drop (i*4)++cur.toList.drop ((i+m)*4+(flat.drop (i*4)).length):=by
    rw[hcur1,hl,← Nat.add_mul,List.append_assoc]
    exact List.drop_left' (by simp only[List.length_take,Array.length_toList];have:(i+m)*4≤cap*4:=Nat.mul_le_mul_right _ (by omega);omega)
   rw[hcur2,ha,hb]
   simp only[← List.append_assoc]
   exact List.take_left' (by simp only[List.length_append,List.length_take,hfl,hl,hdl];rw[Nat.min_eq_left (Nat.mul_le_mul_right _ (by omega))];omega)
 clear hcur1 hcur2
 go_enter Tryz.func305,Tryz.ntmps305
 go_wp2_with (simp only[hov])
 go_region_law_o (refine step_copy_runI rfl _ _ 36 36 rfl _ _ (by simp[Act.eval,Act.put]) (by simp[Act.eval,Act.put]) (hcp1 _ _ _) ?_)
 go_wp2_with (at_builtin;refine wpList_copy_runI _ rfl _ _ 36 36 rfl _ _ rfl rfl (hcp2 _ _) ?_)
 go_ret
 exact⟨rfl,cur2,setRow_setRow _ _ _ _,hfin.1,hfin.2⟩
set_option maxHeartbeats 4000000 in
theorem ins_grow (w:World)(g n cap i:Nat)(flat:List Value)(inf:TypeInfo)(z:Value)(hi:Tryz.prog.info? 132=some inf)(hz:inf.zero=some z)(hs:inf.size=4)(hb:inf.bytes=32)(hzs:z.cells.size=4)
  (hgs:g<w.heap.size) (hcell:∀ j u,flat[j]?=some u→w.cell? ⟨g,j,none⟩=some u) (hfl:flat.length=n*4) (h1c:∀ u∈flat,u.oneCell'=true)
  (vb m vc:Nat) (news:List Value) (hvs:vb<w.heap.size) (hl:news.length=m*4) (hnews:∀ j u,news[j]?=some u→w.cell? ⟨vb,0+j,none⟩=some u) (h1:∀ u∈news,u.oneCell'=true)
  (hm:0<m) (hin:i<n) (hnc:n≤cap) (hroom:cap<n+m) (h63:n+m≤maxLen) (hbytes:(n+m)*32≤140737488355328) :
  Calls Tryz.prog 305 #[.slice (some ⟨g,0,none⟩) n cap,.int .i64 i,.slice (some ⟨vb,0,none⟩) m vc] w fun e w' =>
   ∃ G,n+m≤G∧G≤maxLen∧e=.returned (.slice (some ⟨w.heap.size,0,none⟩) (n+m) G)∧∃ cur':Array Value,w'.heap[w.heap.size]?=some (.cells cur' 132 (0,0))∧G*4≤cur'.size∧cur'.toList.take ((n+m)*4)=flat.take (i*4)++news++flat.drop (i*4) ∧
    w'.heap.size=w.heap.size+1∧w'.os=w.os∧w'.tape=w.tape∧w'.output=w.output∧∀ k,k<w.heap.size→w'.heap[k]?=w.heap[k]?:=by
 have hz1:¬ ((m:Int)=0):=by omega
 have hz2:¬ ((i:Int)=(n:Int)):=by omega
 have hz3:(cap:Int)<(n:Int)+(m:Int):=by omega
 have h63':n+m≤9223372036854775807:=by simp only[maxLen]at h63;omega
 have t39:Tryz.prog.underlying 36=some (.slice 132):=Tryz.underlying36
 have t3:Tryz.prog.underlying 3=some (.int .i64):=Tryz.underlying3
 have mixed:Tryz.prog.follows .mixedOrders=true:=by kernel_rfl
 have hkk:(n:Int)+(m:Int)-(i:Int)=((n+m-i:Nat):Int):=by omega
 have hik:i+(n+m-i)=n+m:=by omega
 have hi4:i*4≤n*4:=Nat.mul_le_mul_right _ (by omega)
 have htl:(flat.take (i*4)).length=i*4:=by rw[List.length_take,hfl];exact Nat.min_eq_left hi4
 have hold:(Builtin.firstCells inf.size i (.slice (some ⟨g,0,none⟩) i cap)).run Tryz.prog w.drew=.ok (flat.take (i*4)).toArray w.drew:=by
  rw[hs]
  exact run_firstCells_some w.drew 4 i ⟨g,0,none⟩ i cap (flat.take (i*4)) htl (fun j v hj=>by
   rw[Addr.add_lit,Nat.zero_add]
   rw[List.getElem?_take]at hj
   split at hj
   ·exact hcell j v hj
   ·cases hj)
 obtain⟨G,hG⟩:∃ G,G=grownCap w (n+m) cap 132:=⟨_,rfl⟩
 obtain⟨ROW,hROW⟩:∃ ROW:Array Value,ROW=(flat.take (i*4)).toArray++Builtin.zeroCells z.cells (n+m-i)++Builtin.zeroCells z.cells (G-(n+m)):=⟨_,rfl⟩
 have hrz:∀ ty,(Builtin.append_ #[36,3] ty #[.slice (some ⟨g,0,none⟩) i cap,.int .i64 ((n:Int)+(m:Int)-(i:Int))]).run Tryz.prog w =
   .ok (.slice (some ⟨w.heap.size,0,none⟩) (n+m) G) (w.drew.alloc (.cells ROW 132)):=fun ty=>by
  have h:=Lib.run_append_grow_zeros w 36 3 ty 132 inf z .i64 .i64 t39 t3 hi hz (some ⟨g,0,none⟩) i cap (flat.take (i*4)) hold (n+m-i) (by omega) (by omega) (by omega) (by omega)
   (by rw[hb];have:(n+m-i)*32≤(n+m)*32:=Nat.mul_le_mul_right _ (by omega);omega) (by rw[hb,hik];exact growslice_fits hroom hbytes)
  rw[hik,← hG,← hROW]at h
  rw[hkk]
  exact h
 have hGn:n+m≤G:=by rw[hG];exact grownCap_ge w _ _ _
 have hGm:G≤maxLen:=by rw[hG];exact grownCap_le_maxLen w (n+m) cap 132 h63
 have hG63:G≤9223372036854775807:=by unfold maxLen at hGm;omega
 have hRs:ROW.size=G*4:=by
  rw[hROW]
  simp only[Array.size_append,List.size_toArray,size_zeroCells,hzs,htl,← Nat.add_mul]
  rw[show i+(n+m-i)+(G-(n+m))=G by omega]
 obtain⟨cur1,hcur1⟩:∃ c:Array Value,c=(ROW.toList.take (i*4)++news++ROW.toList.drop (i*4+news.length)).toArray:=⟨_,rfl⟩
 obtain⟨cur2,hcur2⟩:∃ c:Array Value,c=(cur1.toList.take ((i+m)*4)++flat.drop (i*4)++cur1.toList.drop ((i+m)*4+(flat.drop (i*4)).length)).toArray:=⟨_,rfl⟩
 have hG4:(n+m)*4≤G*4:=Nat.mul_le_mul_right _ hGn
 have hdl:(flat.drop (i*4)).length=(n-i)*4:=by rw[List.length_drop,hfl,← Nat.sub_mul]
 have hs1:cur1.size=ROW.size:=by
  rw[hcur1]
  simp only[List.size_toArray,List.length_append,List.length_take,List.length_drop,Array.length_toList,hl,hRs]
  omega
 have hs2:cur2.size=ROW.size:=by
  rw[hcur2]
  simp only[List.size_toArray,List.length_append,List.length_take,List.length_drop,Array.length_toList,hfl,hs1,hRs]
  omega
 have htake1:ROW.toList.take (i*4)=flat.take (i*4):=by
  rw[hROW]
  simp only[Array.toList_append,List.append_assoc]
  exact List.take_left' htl
 have hfin:cur2.toList.take ((n+m)*4)=flat.take (i*4)++news++flat.drop (i*4):=by
  have e1:cur1.toList.take ((i+m)*4)=flat.take (i*4)++news:=by
   rw[hcur1,htake1]
   show List.take ((i+m)*4) (flat.take (i*4)++news++ROW.toList.drop (i*4+news.length))=_
   exact List.take_left' (by rw[List.length_append,htl,hl,← Nat.add_mul])
  rw[hcur2,e1]
  show List.take ((n+m)*4) (flat.take (i*4)++news++flat.drop (i*4)++_)=_
  exact List.take_left' (by rw[List.length_append,List.length_append,htl,hl,hdl,← Nat.add_mul,← Nat.add_mul,show i+m+(n-i)=n+m by omega])
 have hm1:Nat.min m (n+m-i)=m:=by simp only[Nat.min_def];split <;> omega
 have hm2:Nat.min (n-i) (n+m-(i+m))=n-i:=by simp only[Nat.min_def];split <;> omega
 have hcpA:∀ (W:World),W.heap[w.heap.size]?=some (.cells ROW 132 (0,0))→(∀ k,k<w.heap.size→W.heap[k]?=w.heap[k]?)→∀ ty dc,(Builtin.copy_ #[36,36] ty #[.slice (some ⟨w.heap.size,i*4,none⟩) (n+m-i) dc,.slice (some ⟨vb,0,none⟩) m vc]).run Tryz.prog W=.ok (goInt (m:Nat)) (W.setRow w.heap.size cur1):=fun W hW hk ty dc=>by
  have:=run_copy_rowN (P:=Tryz.prog) W 36 36 ty 132 inf hi w.heap.size (i*4) (n+m-i) dc ⟨vb,0,none⟩ m vc ROW 132 news t39 hW (by rw[hl,hm1,hs])
   (fun j v hj=>by
    rw[Addr.add_lit]
    have:=hnews j v hj
    unfold World.cell? at this ⊢
    rw[hk vb hvs];exact this)
   (by rw[hl,hRs,← Nat.add_mul];exact Nat.mul_le_mul_right _ (by omega)) h1
  rw[hm1,← hcur1]at this
  exact this
 have hcpB:∀ (W:World),W.heap[w.heap.size]?=some (.cells cur1 132 (0,0))→(∀ k,k<w.heap.size→W.heap[k]?=w.heap[k]?)→∀ ty dc sc,(Builtin.copy_ #[36,36] ty #[.slice (some ⟨w.heap.size,(i+m)*4,none⟩) (n+m-(i+m)) dc,.slice (some ⟨g,i*4,none⟩) (n-i) sc]).run Tryz.prog W=.ok (goInt (n-i:Nat)) (W.setRow w.heap.size cur2):=fun W hW hk ty dc sc=>by
  have:=run_copy_rowN (P:=Tryz.prog) W 36 36 ty 132 inf hi w.heap.size ((i+m)*4) (n+m-(i+m)) dc ⟨g,i*4,none⟩ (n-i) sc cur1 132 (flat.drop (i*4)) t39 hW (by rw[hdl,hm2,hs])
   (fun j v hj=>by
    rw[Addr.add_lit]
    rw[List.getElem?_drop]at hj
    have:=hcell _ v hj
    unfold World.cell? at this ⊢
    rw[hk g hgs];exact this)
   (by rw[hdl,hs1,hRs,← Nat.add_mul];exact Nat.mul_le_mul_right _ (by omega)) (fun v hv=>h1c v (List.mem_of_mem_drop hv))
  rw[hm2,← hcur2]at this
  exact this
 have hA1:((w.alloc (.cells ROW 132)).drew).heap[w.heap.size]?=some (.cells ROW 132 (0,0)):=heap_alloc_new w _
 have hA2:∀ k,k<w.heap.size→((w.alloc (.cells ROW 132)).drew).heap[k]?=w.heap[k]?:=fun k hk=>Go.heap_alloc_old w _ hk
 have hB1:(((w.alloc (.cells ROW 132)).drew.setRow w.heap.size cur1).drew).heap[w.heap.size]?=some (.cells cur1 132 (0,0)):=setRow_heap (w.alloc (.cells ROW 132)).drew w.heap.size ROW cur1 132 (0,0) hA1
 have hB2:∀ k,k<w.heap.size→(((w.alloc (.cells ROW 132)).drew.setRow w.heap.size cur1).drew).heap[k]?=w.heap[k]?:=fun k hk=>(setRow_other (w.alloc (.cells ROW 132)).drew w.heap.size k cur1 (by omega)).trans (hA2 k hk)
 have hGi:¬ (G=i):=by omega
 have hGim:¬ (G=i+m):=by omega
 have hci:¬ (cap=i):=by omega
 have hw1:IntKind.i64.wrap ((i:Int)+(m:Int))=(i:Int)+(m:Int):=by rw[IntKind.wrap_i64];omega
 have hw2:IntKind.i64.wrap ((n:Int)+(m:Int))=(n:Int)+(m:Int):=by rw[IntKind.wrap_i64];omega
 have hw3:IntKind.i64.wrap ((n:Int)+(m:Int)-(i:Int))=(n:Int)+(m:Int)-(i:Int):=by rw[IntKind.wrap_i64];omega
 have hb1:(0:Int)≤(i:Int)+(m:Int):=by omega
 have hin':i≤n:=by omega
 have htn:((i:Int)+(m:Int)).toNat=i+m:=by omega
 have hb3:(i:Int)≤(n:Int):=by omega
 clear hkk hik hold hROW hG hcur1 hcur2
 have hA:=fun ty dc=>hcpA _ hA1 hA2 ty dc
 have hB:=fun ty dc sc=>hcpB _ hB1 hB2 ty dc sc
 go_enter Tryz.func305,Tryz.ntmps305
 go_wp2_with (at_builtin;refine Lib.wpList_append_run _ rfl _ _ _ _ rfl _ _ rfl rfl _ _ (hrz _) ?_)
 go_region
 go_wp2
 go_ret
 exact⟨G,hGn,hGm,rfl,cur2,setRow_heap _ _ _ _ _ _ hB1,by rw[hs2,hRs];exact Nat.le_refl _,hfin,by simp,rfl,rfl,rfl,fun k hk=>(setRow_other _ _ _ _ (by omega)).trans (hB2 k hk)⟩
theorem walk:mv Tryz.prog 305 132 4 32:=by
 intro w v0 v2 n m i flat news r0 r2 o0 o2 hm hin hdis hsz
 have r2':=r2
 obtain⟨hl2,h2⟩:=r2
 rcases h2 with ⟨_,h⟩|⟨vb,vc,vcur,rfl,hvg,hmc,hvcm,hvcs,hvt⟩
 ·omega
 have hnews:∀ j u,news[j]?=some u→w.cell? ⟨vb,0+j,none⟩=some u:=fun j u hj=>by
  rw[Nat.zero_add,r2'.cellAt j (by rw[← hl2];exact (List.getElem?_eq_some_iff.1 hj).1)];exact hj
 have h63:n+m≤maxLen:=by unfold maxLen;omega
 have q1:(Tryz.prog.info? 132).isSome=true:=by kernel_rfl
 have q2:(Tryz.prog.info? 132).map (fun i=>i.size)=some 4:=by kernel_rfl
 have q3:(Tryz.prog.info? 132).map (fun i=>i.bytes)=some 32:=by kernel_rfl
 have q4:((Tryz.prog.info? 132).bind fun i=>i.zero).map (fun z=>z.cells.size)=some 4:=by kernel_rfl
 obtain⟨inf,hi⟩:=Option.isSome_iff_exists.1 q1
 rw[hi]at q2 q3 q4
 have hs:inf.size=4:=by simpa using q2
 have hb:inf.bytes=32:=by simpa using q3
 simp only[Option.bind_some,Option.map_eq_some_iff]at q4
 obtain⟨z,hz,hzs⟩:=q4
 have hvs:vb<w.heap.size:=(Array.getElem?_eq_some_iff.1 hvg).1
 have r0':=r0
 obtain⟨hl0,h0⟩:=r0
 rcases h0 with ⟨rfl,h0⟩|⟨g,cap,cur,rfl,hg,hnc,hcm,hcs,htake⟩
 ·subst h0
  have:i=0:=by omega
  subst this
  have hf:flat=[]:=List.eq_nil_of_length_eq_zero (by simpa using hl0)
  subst hf
  refine (ins_nil w inf z hi hz hs hb hzs vb m vc news hl2 hnews o2 hm (by omega) (by omega)).mono fun e w' h=>?_
  obtain⟨v',e1,h1,h2,h3⟩:=h
  exact⟨v',e1,by simpa using h1,h2,.inr h3⟩
 ·have hgs:g<w.heap.size:=(Array.getElem?_eq_some_iff.1 hg).1
  have hvb:vb≠g:=fun h=>hdis g (by simp[Value.ownBlock]) (by simp[Value.ownBlock,h])
  have hcell:∀ j u,flat[j]?=some u→w.cell? ⟨g,j,none⟩=some u:=fun j u hj=>by
   rw[r0'.cellAt j (by rw[← hl0];exact (List.getElem?_eq_some_iff.1 hj).1)];exact hj
  by_cases hn:i=n
  ·subst hn
   refine (ins_end w g i cap flat inf z hi hz hs hb hzs r0' hnc vb m vc news hl2 hnews o2 hm h63 hsz).mono fun e w' h=>?_
   obtain⟨v',e1,h1,h2,h3⟩:=h
   refine⟨v',e1,?_,h2,h3⟩
   rw[List.take_of_length_le (by omega),List.drop_of_length_le (by omega),List.append_nil]
   exact h1
  ·by_cases hroom:n+m≤cap
   ·refine (ins_shift w g n cap i cur flat inf hi hs hg hcm hcs htake hl0 o0 vb m vc vcur news hvg hvb hl2 hnews o2 hm (by omega) hroom).mono fun e w' h=>?_
    obtain⟨e1,cur',rfl,hc1,hc2⟩:=h
    refine⟨_,e1,⟨?_,.inr ⟨g,cap,cur',rfl,setRow_heap w.drew g cur cur' 132 (0,0) hg,hroom,hcm,by rw[hc1];exact hcs,hc2⟩⟩,⟨rfl,rfl,rfl,by simp,fun k _ hk=>setRow_other w.drew g k cur' (fun h=>hk (by simp[Value.ownBlock,h]))⟩,.inl rfl⟩
    simp only[List.length_append,List.length_take,List.length_drop,hl0,hl2]
    have:i*4≤n*4:=Nat.mul_le_mul_right _ hin
    omega
   ·refine (ins_grow w g n cap i flat inf z hi hz hs hb hzs hgs hcell hl0 o0 vb m vc news hvs hl2 hnews o2 hm (by omega) hnc (by omega) h63 hsz).mono fun e w' h=>?_
    obtain⟨G,hG1,hG2,e1,cur',hc1,hc2,hc3,hsz',ho1,ho2,ho3,hk⟩:=h
    refine⟨_,e1,⟨?_,.inr ⟨w.heap.size,G,cur',rfl,hc1,hG1,hG2,hc2,hc3⟩⟩,⟨ho1,ho2,ho3,by omega,fun k hk2 _=>hk k hk2⟩,.inr rfl⟩
    simp only[List.length_append,List.length_take,List.length_drop,hl0,hl2]
    have:i*4≤n*4:=Nat.mul_le_mul_right _ hin
    omega
end Q1
theorem Q1.sound (K:Nat):af Tryz.prog (Q1.c K):=jz (d4 Tryz.func305 (by kernel_rfl) rfl) (by kernel_rfl) Q1.walk
namespace Q3
set_option maxHeartbeats 4000000 in
theorem ins_end (w:World)(g n cap:Nat)(flat:List Value)(i:TypeInfo)(z:Value)(hi:Tryz.prog.info? 173=some i)(hz:i.zero=some z)(hs:i.size=5)(hb:i.bytes=40)(hzs:z.cells.size=5)
  (hown:Row w 173 5 (.slice (some ⟨g,0,none⟩) n cap) n flat) (hnc:n≤cap) (vb m vc:Nat) (news:List Value) (hl:news.length=m*5) (hnews:∀ j u,news[j]?=some u→w.cell? ⟨vb,0+j,none⟩=some u) (h1:∀ u∈news,u.oneCell'=true)
  (hm:0<m) (h63:n+m≤maxLen) (hbytes:(n+m)*40≤140737488355328) :
  Calls Tryz.prog 306 #[.slice (some ⟨g,0,none⟩) n cap,.int .i64 n,.slice (some ⟨vb,0,none⟩) m vc] w fun e w' =>
   ∃ v',e=.returned v'∧Row w' 173 5 v' (n+m) (flat++news)∧w.grownBy w' (some g)∧(v'.ownBlock=some g∨v'.ownBlock=some w.heap.size):=by
 obtain⟨v',w',hr,r1,r2,r3⟩:=dh (P:=Tryz.prog) w 37 37 173 i z 5 40 (by kernel_rfl) hi hz hs hb hzs _ n flat hown ⟨vb,0,none⟩ m vc news hl (fun j u hj=>by rw[Addr.add_lit];exact hnews j u hj) h1 h63 hbytes
 have hz1:¬ ((m:Int)=0):=by omega
 go_enter Tryz.func306,Tryz.ntmps306
 go_wp2_with (at_builtin;refine Lib.wpList_append_run _ rfl _ _ _ _ rfl _ _ rfl rfl _ _ hr ?_)
 all_goals (go_ret;exact⟨v',rfl,r1,r2,r3⟩)
set_option maxHeartbeats 4000000 in
theorem ins_nil (w:World)(i:TypeInfo)(z:Value)(hi:Tryz.prog.info? 173=some i)(hz:i.zero=some z)(hs:i.size=5)(hb:i.bytes=40)(hzs:z.cells.size=5)
  (vb m vc:Nat) (news:List Value) (hl:news.length=m*5) (hnews:∀ j u,news[j]?=some u→w.cell? ⟨vb,0+j,none⟩=some u) (h1:∀ u∈news,u.oneCell'=true)
  (hm:0<m) (h63:m≤maxLen) (hbytes:m*40≤140737488355328) :
  Calls Tryz.prog 306 #[.slice none 0 0,.int .i64 0,.slice (some ⟨vb,0,none⟩) m vc] w fun e w' =>
   ∃ v',e=.returned v'∧Row w' 173 5 v' m news∧w.grownBy w' none∧v'.ownBlock=some w.heap.size:=by
 obtain⟨v',w',hr,r1,r2,r3⟩:=dh (P:=Tryz.prog) w 37 37 173 i z 5 40 (by kernel_rfl) hi hz hs hb hzs _ 0 [] (Row.nil w 173 5) ⟨vb,0,none⟩ m vc news hl (fun j u hj=>by rw[Addr.add_lit];exact hnews j u hj) h1 (by omega) (by omega)
 have hz1:¬ ((m:Int)=0):=by omega
 have r3':v'.ownBlock=some w.heap.size:=by
  rcases r3 with h|h
  ·exfalso
   rcases r1.2 with ⟨_,h0⟩|⟨g,c,cur,e,_⟩
   ·omega
   ·rw[e]at h;simp[Value.ownBlock]at h
  ·exact h
 rw[Nat.zero_add,List.nil_append]at r1
 go_enter Tryz.func306,Tryz.ntmps306
 go_wp2_with (at_builtin;refine Lib.wpList_append_run _ rfl _ _ _ _ rfl _ _ rfl rfl _ _ hr ?_)
 all_goals (go_ret;exact⟨v',rfl,r1,r2,r3'⟩)
set_option maxHeartbeats 4000000 in
theorem ins_shift (w:World)(g n cap i:Nat)(cur:Array Value)(flat:List Value)(inf:TypeInfo)(hi:Tryz.prog.info? 173=some inf)(hs:inf.size=5)
  (hg:w.heap[g]?=some (.cells cur 173 (0,0))) (hcm:cap≤maxLen) (hcs:cap*5≤cur.size) (htake:cur.toList.take (n*5)=flat) (hfl:flat.length=n*5) (h1c:∀ u∈flat,u.oneCell'=true)
  (vb m vc:Nat) (vcur:Array Value) (news:List Value) (hvg:w.heap[vb]?=some (.cells vcur 173 (0,0))) (hvb:vb≠g) (hl:news.length=m*5) (hnews:∀ j u,news[j]?=some u→w.cell? ⟨vb,0+j,none⟩=some u) (h1:∀ u∈news,u.oneCell'=true)
  (hm:0<m) (hin:i<n) (hroom:n+m≤cap) :
  Calls Tryz.prog 306 #[.slice (some ⟨g,0,none⟩) n cap,.int .i64 i,.slice (some ⟨vb,0,none⟩) m vc] w fun e w' =>
   e=.returned (.slice (some ⟨g,0,none⟩) (n+m) cap)∧∃ cur':Array Value,w'=w.drew.setRow g cur'∧cur'.size=cur.size∧cur'.toList.take ((n+m)*5)=flat.take (i*5)++news++flat.drop (i*5):=by
 have hz1:¬ ((m:Int)=0):=by omega
 have hz2:¬ ((i:Int)=(n:Int)):=by omega
 have hcm':cap≤9223372036854775807:=by simp only[maxLen]at hcm;omega
 have t39:Tryz.prog.underlying 37=some (.slice 173):=Tryz.underlying37
 have hov:∀ o lb cb,(callFunc 337 #[.slice (some ⟨vb,0,none⟩) m vc,.slice (some ⟨g,o,none⟩) lb cb]).run Tryz.prog w=.ok (.value (.bool false)) w:=fun o lb cb=>by
  rw[run_callFunc_extern Tryz.func337 (by kernel_rfl) (by kernel_rfl) (by kernel_rfl) (e:=Extern.SlicesOverlaps.overlaps #[37,37] #[4]) (by kernel_rfl),
   Lib.run_overlaps_apart w 37 4 173 t39 5 (fun w=>by simp[sizeOf,typeInfo,hi,hs]) ⟨vb,0,none⟩ ⟨g,o,none⟩ m vc lb cb hvb 173 173 vcur.size cur.size (by simp[World.shape?,hvg]) (by simp[World.shape?,hg]) (by omega) (frozen_of_row w vb 0 vcur 173 hvg) (frozen_of_row w vb vcur.size vcur 173 hvg)]
  rfl
 have hw1:IntKind.i64.wrap ((i:Int)+(m:Int))=(i:Int)+(m:Int):=by rw[IntKind.wrap_i64];omega
 have hw2:IntKind.i64.wrap ((n:Int)+(m:Int))=(n:Int)+(m:Int):=by rw[IntKind.wrap_i64];omega
 have hb1:(0:Int)≤(i:Int)+(m:Int):=by omega
 have htn:((i:Int)+(m:Int)).toNat=i+m:=by omega
 have htn2:((n:Int)+(m:Int)).toNat=n+m:=by omega
 have hb3:(i:Int)≤(n:Int)+(m:Int):=by omega
 have hb2:¬ (cap=i+m):=by omega
 have hb5:i≤n:=by omega
 have mixed:Tryz.prog.follows .mixedOrders=true:=by kernel_rfl
 have hb4:¬ (cap=i):=by omega
 have hdl:(flat.drop (i*5)).length=(n-i)*5:=by rw[List.length_drop,hfl,← Nat.sub_mul]
 have hflat:∀ j,j<n*5→flat[j]?=cur[j]?:=fun j hj=>by rw[← htake,List.getElem?_take,if_pos hj];exact Array.getElem?_toList ..
 have hm1:Nat.min (n+m-i) (n+m-(i+m))=n-i:=by simp only[Nat.min_def];split <;> omega
 have hm2:Nat.min m (n+m-i)=m:=by simp only[Nat.min_def];split <;> omega
 obtain⟨cur1,hcur1⟩:∃ c:Array Value,c=(cur.toList.take ((i+m)*5)++flat.drop (i*5)++cur.toList.drop ((i+m)*5+(flat.drop (i*5)).length)).toArray:=⟨_,rfl⟩
 have hfit:(i+m)*5+(n-i)*5≤cur.size:=by
  have:(n+m)*5≤cap*5:=Nat.mul_le_mul_right _ hroom
  omega
 have hs1:cur1.size=cur.size:=by
  rw[hcur1]
  simp only[List.size_toArray,List.length_append,List.length_take,List.length_drop,Array.length_toList,hfl]
  omega
 obtain⟨cur2,hcur2⟩:∃ c:Array Value,c=(cur1.toList.take (i*5)++news++cur1.toList.drop (i*5+news.length)).toArray:=⟨_,rfl⟩
 have hcp1:∀ ty dc sc,(Builtin.copy_ #[37,37] ty #[.slice (some ⟨g,(i+m)*5,none⟩) (n+m-(i+m)) dc,.slice (some ⟨g,i*5,none⟩) (n+m-i) sc]).run Tryz.prog w.drew=.ok (goInt (n-i:Nat)) (w.drew.setRow g cur1):=fun ty dc sc=>by
  have:=run_copy_rowN (P:=Tryz.prog) w.drew 37 37 ty 173 inf hi g ((i+m)*5) (n+m-(i+m)) dc ⟨g,i*5,none⟩ (n+m-i) sc cur 173 (flat.drop (i*5)) t39 hg (by rw[hdl,hm1,hs])
   (fun j v hj=>by
    rw[Addr.add_lit]
    have hjl:=(List.getElem?_eq_some_iff.1 hj).1
    rw[hdl]at hjl
    rw[List.getElem?_drop]at hj
    rw[show w.drew.cell? ⟨g,i*5+j,none⟩=w.cell? ⟨g,i*5+j,none⟩ from rfl,cell_of_row w g _ cur 173 (0,0) hg,← hflat _ (by rw[Nat.sub_mul]at hjl;omega)]
    exact hj)
   (by rw[hdl];exact hfit) (fun v hv=>h1c v (List.mem_of_mem_drop hv))
  rw[hm1,← hcur1]at this
  exact this
 have hcp2:∀ ty dc,(Builtin.copy_ #[37,37] ty #[.slice (some ⟨g,i*5,none⟩) (n+m-i) dc,.slice (some ⟨vb,0,none⟩) m vc]).run Tryz.prog (w.drew.setRow g cur1)=.ok (goInt (m:Nat)) ((w.drew.setRow g cur1).setRow g cur2):=fun ty dc=>by
  have:=run_copy_rowN (P:=Tryz.prog) (w.drew.setRow g cur1) 37 37 ty 173 inf hi g (i*5) (n+m-i) dc ⟨vb,0,none⟩ m vc cur1 173 news t39 (setRow_heap w.drew g cur cur1 173 (0,0) hg) (by rw[hl,hm2,hs])
   (fun j v hj=>by
    rw[Addr.add_lit,cell_setRow_other _ _ _ _ hvb]
    exact hnews j v hj)
   (by rw[hl,hs1,← Nat.add_mul];have:(i+m)*5≤cap*5:=Nat.mul_le_mul_right _ (by omega);omega) h1
  rw[hm2,← hcur2]at this
  exact this
 have hfin:cur2.size=cur.size∧cur2.toList.take ((n+m)*5)=flat.take (i*5)++news++flat.drop (i*5):=by
  refine⟨?_,?_⟩
  ·rw[hcur2]
   simp only[List.size_toArray,List.length_append,List.length_take,List.length_drop,Array.length_toList,hl,hs1]
   have:(i+m)*5≤cap*5:=Nat.mul_le_mul_right _ (by omega)
   omega
  ·have ha:cur1.toList.take (i*5)=flat.take (i*5):=by
    rw[hcur1,← htake,List.take_take,Nat.min_eq_left (Nat.mul_le_mul_right _ (by omega)),List.append_assoc]
    simp only[List.take_append_of_le_length (show i*5≤(cur.toList.take ((i+m)*5)).length by simp only[List.length_take,Array.length_toList];have:(i+m)*5≤cap*5:=Nat.mul_le_mul_right _ (by omega);omega),List.take_take]
    rw[Nat.min_eq_left (by omega)]
   have hb:cur1.toList.drop (i*5+news.length)=flat.drop (i*5)++cur.toList.drop ((i+m)*5+(flat.drop (i*5)).length):=by
    rw[hcur1,hl,← Nat.add_mul,List.append_assoc]
    exact List.drop_left' (by simp only[List.length_take,Array.length_toList];have:(i+m)*5≤cap*5:=Nat.mul_le_mul_right _ (by omega);omega)
   rw[hcur2,ha,hb]
   simp only[← List.append_assoc]
   exact List.take_left' (by simp only[List.length_append,List.length_take,hfl,hl,hdl];rw[Nat.min_eq_left (Nat.mul_le_mul_right _ (by omega))];omega)
 clear hcur1 hcur2
 go_enter Tryz.func306,Tryz.ntmps306
 go_wp2_with (simp only[hov])
 go_region_law_o (refine step_copy_runI rfl _ _ 37 37 rfl _ _ (by simp[Act.eval,Act.put]) (by simp[Act.eval,Act.put]) (hcp1 _ _ _) ?_)
 go_wp2_with (at_builtin;refine wpList_copy_runI _ rfl _ _ 37 37 rfl _ _ rfl rfl (hcp2 _ _) ?_)
 go_ret
 exact⟨rfl,cur2,setRow_setRow _ _ _ _,hfin.1,hfin.2⟩
set_option maxHeartbeats 4000000 in
theorem ins_grow (w:World)(g n cap i:Nat)(flat:List Value)(inf:TypeInfo)(z:Value)(hi:Tryz.prog.info? 173=some inf)(hz:inf.zero=some z)(hs:inf.size=5)(hb:inf.bytes=40)(hzs:z.cells.size=5)
  (hgs:g<w.heap.size) (hcell:∀ j u,flat[j]?=some u→w.cell? ⟨g,j,none⟩=some u) (hfl:flat.length=n*5) (h1c:∀ u∈flat,u.oneCell'=true)
  (vb m vc:Nat) (news:List Value) (hvs:vb<w.heap.size) (hl:news.length=m*5) (hnews:∀ j u,news[j]?=some u→w.cell? ⟨vb,0+j,none⟩=some u) (h1:∀ u∈news,u.oneCell'=true)
  (hm:0<m) (hin:i<n) (hnc:n≤cap) (hroom:cap<n+m) (h63:n+m≤maxLen) (hbytes:(n+m)*40≤140737488355328) :
  Calls Tryz.prog 306 #[.slice (some ⟨g,0,none⟩) n cap,.int .i64 i,.slice (some ⟨vb,0,none⟩) m vc] w fun e w' =>
   ∃ G,n+m≤G∧G≤maxLen∧e=.returned (.slice (some ⟨w.heap.size,0,none⟩) (n+m) G)∧∃ cur':Array Value,w'.heap[w.heap.size]?=some (.cells cur' 173 (0,0))∧G*5≤cur'.size∧cur'.toList.take ((n+m)*5)=flat.take (i*5)++news++flat.drop (i*5) ∧
    w'.heap.size=w.heap.size+1∧w'.os=w.os∧w'.tape=w.tape∧w'.output=w.output∧∀ k,k<w.heap.size→w'.heap[k]?=w.heap[k]?:=by
 have hz1:¬ ((m:Int)=0):=by omega
 have hz2:¬ ((i:Int)=(n:Int)):=by omega
 have hz3:(cap:Int)<(n:Int)+(m:Int):=by omega
 have h63':n+m≤9223372036854775807:=by simp only[maxLen]at h63;omega
 have t39:Tryz.prog.underlying 37=some (.slice 173):=Tryz.underlying37
 have t3:Tryz.prog.underlying 3=some (.int .i64):=Tryz.underlying3
 have mixed:Tryz.prog.follows .mixedOrders=true:=by kernel_rfl
 have hkk:(n:Int)+(m:Int)-(i:Int)=((n+m-i:Nat):Int):=by omega
 have hik:i+(n+m-i)=n+m:=by omega
 have hi4:i*5≤n*5:=Nat.mul_le_mul_right _ (by omega)
 have htl:(flat.take (i*5)).length=i*5:=by rw[List.length_take,hfl];exact Nat.min_eq_left hi4
 have hold:(Builtin.firstCells inf.size i (.slice (some ⟨g,0,none⟩) i cap)).run Tryz.prog w.drew=.ok (flat.take (i*5)).toArray w.drew:=by
  rw[hs]
  exact run_firstCells_some w.drew 5 i ⟨g,0,none⟩ i cap (flat.take (i*5)) htl (fun j v hj=>by
   rw[Addr.add_lit,Nat.zero_add]
   rw[List.getElem?_take]at hj
   split at hj
   ·exact hcell j v hj
   ·cases hj)
 obtain⟨G,hG⟩:∃ G,G=grownCap w (n+m) cap 173:=⟨_,rfl⟩
 obtain⟨ROW,hROW⟩:∃ ROW:Array Value,ROW=(flat.take (i*5)).toArray++Builtin.zeroCells z.cells (n+m-i)++Builtin.zeroCells z.cells (G-(n+m)):=⟨_,rfl⟩
 have hrz:∀ ty,(Builtin.append_ #[37,3] ty #[.slice (some ⟨g,0,none⟩) i cap,.int .i64 ((n:Int)+(m:Int)-(i:Int))]).run Tryz.prog w =
   .ok (.slice (some ⟨w.heap.size,0,none⟩) (n+m) G) (w.drew.alloc (.cells ROW 173)):=fun ty=>by
  have h:=Lib.run_append_grow_zeros w 37 3 ty 173 inf z .i64 .i64 t39 t3 hi hz (some ⟨g,0,none⟩) i cap (flat.take (i*5)) hold (n+m-i) (by omega) (by omega) (by omega) (by omega)
   (by rw[hb];have:(n+m-i)*40≤(n+m)*40:=Nat.mul_le_mul_right _ (by omega);omega) (by rw[hb,hik];exact growslice_fits hroom hbytes)
  rw[hik,← hG,← hROW]at h
  rw[hkk]
  exact h
 have hGn:n+m≤G:=by rw[hG];exact grownCap_ge w _ _ _
 have hGm:G≤maxLen:=by rw[hG];exact grownCap_le_maxLen w (n+m) cap 173 h63
 have hG63:G≤9223372036854775807:=by unfold maxLen at hGm;omega
 have hRs:ROW.size=G*5:=by
  rw[hROW]
  simp only[Array.size_append,List.size_toArray,size_zeroCells,hzs,htl,← Nat.add_mul]
  rw[show i+(n+m-i)+(G-(n+m))=G by omega]
 obtain⟨cur1,hcur1⟩:∃ c:Array Value,c=(ROW.toList.take (i*5)++news++ROW.toList.drop (i*5+news.length)).toArray:=⟨_,rfl⟩
 obtain⟨cur2,hcur2⟩:∃ c:Array Value,c=(cur1.toList.take ((i+m)*5)++flat.drop (i*5)++cur1.toList.drop ((i+m)*5+(flat.drop (i*5)).length)).toArray:=⟨_,rfl⟩
 have hG4:(n+m)*5≤G*5:=Nat.mul_le_mul_right _ hGn
 have hdl:(flat.drop (i*5)).length=(n-i)*5:=by rw[List.length_drop,hfl,← Nat.sub_mul]
 have hs1:cur1.size=ROW.size:=by
  rw[hcur1]
  simp only[List.size_toArray,List.length_append,List.length_take,List.length_drop,Array.length_toList,hl,hRs]
  omega
 have hs2:cur2.size=ROW.size:=by
  rw[hcur2]
  simp only[List.size_toArray,List.length_append,List.length_take,List.length_drop,Array.length_toList,hfl,hs1,hRs]
  omega
 have htake1:ROW.toList.take (i*5)=flat.take (i*5):=by
  rw[hROW]
  simp only[Array.toList_append,List.append_assoc]
  exact List.take_left' htl
 have hfin:cur2.toList.take ((n+m)*5)=flat.take (i*5)++news++flat.drop (i*5):=by
  have e1:cur1.toList.take ((i+m)*5)=flat.take (i*5)++news:=by
   rw[hcur1,htake1]
   show List.take ((i+m)*5) (flat.take (i*5)++news++ROW.toList.drop (i*5+news.length))=_
   exact List.take_left' (by rw[List.length_append,htl,hl,← Nat.add_mul])
  rw[hcur2,e1]
  show List.take ((n+m)*5) (flat.take (i*5)++news++flat.drop (i*5)++_)=_
  exact List.take_left' (by rw[List.length_append,List.length_append,htl,hl,hdl,← Nat.add_mul,← Nat.add_mul,show i+m+(n-i)=n+m by omega])
 have hm1:Nat.min m (n+m-i)=m:=by simp only[Nat.min_def];split <;> omega
 have hm2:Nat.min (n-i) (n+m-(i+m))=n-i:=by simp only[Nat.min_def];split <;> omega
 have hcpA:∀ (W:World),W.heap[w.heap.size]?=some (.cells ROW 173 (0,0))→(∀ k,k<w.heap.size→W.heap[k]?=w.heap[k]?)→∀ ty dc,(Builtin.copy_ #[37,37] ty #[.slice (some ⟨w.heap.size,i*5,none⟩) (n+m-i) dc,.slice (some ⟨vb,0,none⟩) m vc]).run Tryz.prog W=.ok (goInt (m:Nat)) (W.setRow w.heap.size cur1):=fun W hW hk ty dc=>by
  have:=run_copy_rowN (P:=Tryz.prog) W 37 37 ty 173 inf hi w.heap.size (i*5) (n+m-i) dc ⟨vb,0,none⟩ m vc ROW 173 news t39 hW (by rw[hl,hm1,hs])
   (fun j v hj=>by
    rw[Addr.add_lit]
    have:=hnews j v hj
    unfold World.cell? at this ⊢
    rw[hk vb hvs];exact this)
   (by rw[hl,hRs,← Nat.add_mul];exact Nat.mul_le_mul_right _ (by omega)) h1
  rw[hm1,← hcur1]at this
  exact this
 have hcpB:∀ (W:World),W.heap[w.heap.size]?=some (.cells cur1 173 (0,0))→(∀ k,k<w.heap.size→W.heap[k]?=w.heap[k]?)→∀ ty dc sc,(Builtin.copy_ #[37,37] ty #[.slice (some ⟨w.heap.size,(i+m)*5,none⟩) (n+m-(i+m)) dc,.slice (some ⟨g,i*5,none⟩) (n-i) sc]).run Tryz.prog W=.ok (goInt (n-i:Nat)) (W.setRow w.heap.size cur2):=fun W hW hk ty dc sc=>by
  have:=run_copy_rowN (P:=Tryz.prog) W 37 37 ty 173 inf hi w.heap.size ((i+m)*5) (n+m-(i+m)) dc ⟨g,i*5,none⟩ (n-i) sc cur1 173 (flat.drop (i*5)) t39 hW (by rw[hdl,hm2,hs])
   (fun j v hj=>by
    rw[Addr.add_lit]
    rw[List.getElem?_drop]at hj
    have:=hcell _ v hj
    unfold World.cell? at this ⊢
    rw[hk g hgs];exact this)
   (by rw[hdl,hs1,hRs,← Nat.add_mul];exact Nat.mul_le_mul_right _ (by omega)) (fun v hv=>h1c v (List.mem_of_mem_drop hv))
  rw[hm2,← hcur2]at this
  exact this
 have hA1:((w.alloc (.cells ROW 173)).drew).heap[w.heap.size]?=some (.cells ROW 173 (0,0)):=heap_alloc_new w _
 have hA2:∀ k,k<w.heap.size→((w.alloc (.cells ROW 173)).drew).heap[k]?=w.heap[k]?:=fun k hk=>Go.heap_alloc_old w _ hk
 have hB1:(((w.alloc (.cells ROW 173)).drew.setRow w.heap.size cur1).drew).heap[w.heap.size]?=some (.cells cur1 173 (0,0)):=setRow_heap (w.alloc (.cells ROW 173)).drew w.heap.size ROW cur1 173 (0,0) hA1
 have hB2:∀ k,k<w.heap.size→(((w.alloc (.cells ROW 173)).drew.setRow w.heap.size cur1).drew).heap[k]?=w.heap[k]?:=fun k hk=>(setRow_other (w.alloc (.cells ROW 173)).drew w.heap.size k cur1 (by omega)).trans (hA2 k hk)
 have hGi:¬ (G=i):=by omega
 have hGim:¬ (G=i+m):=by omega
 have hci:¬ (cap=i):=by omega
 have hw1:IntKind.i64.wrap ((i:Int)+(m:Int))=(i:Int)+(m:Int):=by rw[IntKind.wrap_i64];omega
 have hw2:IntKind.i64.wrap ((n:Int)+(m:Int))=(n:Int)+(m:Int):=by rw[IntKind.wrap_i64];omega
 have hw3:IntKind.i64.wrap ((n:Int)+(m:Int)-(i:Int))=(n:Int)+(m:Int)-(i:Int):=by rw[IntKind.wrap_i64];omega
 have hb1:(0:Int)≤(i:Int)+(m:Int):=by omega
 have hin':i≤n:=by omega
 have htn:((i:Int)+(m:Int)).toNat=i+m:=by omega
 have hb3:(i:Int)≤(n:Int):=by omega
 clear hkk hik hold hROW hG hcur1 hcur2
 have hA:=fun ty dc=>hcpA _ hA1 hA2 ty dc
 have hB:=fun ty dc sc=>hcpB _ hB1 hB2 ty dc sc
 go_enter Tryz.func306,Tryz.ntmps306
 go_wp2_with (at_builtin;refine Lib.wpList_append_run _ rfl _ _ _ _ rfl _ _ rfl rfl _ _ (hrz _) ?_)
 go_region
 go_wp2
 go_ret
 exact⟨G,hGn,hGm,rfl,cur2,setRow_heap _ _ _ _ _ _ hB1,by rw[hs2,hRs];exact Nat.le_refl _,hfin,by simp,rfl,rfl,rfl,fun k hk=>(setRow_other _ _ _ _ (by omega)).trans (hB2 k hk)⟩
theorem walk:mv Tryz.prog 306 173 5 40:=by
 intro w v0 v2 n m i flat news r0 r2 o0 o2 hm hin hdis hsz
 have r2':=r2
 obtain⟨hl2,h2⟩:=r2
 rcases h2 with ⟨_,h⟩|⟨vb,vc,vcur,rfl,hvg,hmc,hvcm,hvcs,hvt⟩
 ·omega
 have hnews:∀ j u,news[j]?=some u→w.cell? ⟨vb,0+j,none⟩=some u:=fun j u hj=>by
  rw[Nat.zero_add,r2'.cellAt j (by rw[← hl2];exact (List.getElem?_eq_some_iff.1 hj).1)];exact hj
 have h63:n+m≤maxLen:=by unfold maxLen;omega
 have q1:(Tryz.prog.info? 173).isSome=true:=by kernel_rfl
 have q2:(Tryz.prog.info? 173).map (fun i=>i.size)=some 5:=by kernel_rfl
 have q3:(Tryz.prog.info? 173).map (fun i=>i.bytes)=some 40:=by kernel_rfl
 have q4:((Tryz.prog.info? 173).bind fun i=>i.zero).map (fun z=>z.cells.size)=some 5:=by kernel_rfl
 obtain⟨inf,hi⟩:=Option.isSome_iff_exists.1 q1
 rw[hi]at q2 q3 q4
 have hs:inf.size=5:=by simpa using q2
 have hb:inf.bytes=40:=by simpa using q3
 simp only[Option.bind_some,Option.map_eq_some_iff]at q4
 obtain⟨z,hz,hzs⟩:=q4
 have hvs:vb<w.heap.size:=(Array.getElem?_eq_some_iff.1 hvg).1
 have r0':=r0
 obtain⟨hl0,h0⟩:=r0
 rcases h0 with ⟨rfl,h0⟩|⟨g,cap,cur,rfl,hg,hnc,hcm,hcs,htake⟩
 ·subst h0
  have:i=0:=by omega
  subst this
  have hf:flat=[]:=List.eq_nil_of_length_eq_zero (by simpa using hl0)
  subst hf
  refine (ins_nil w inf z hi hz hs hb hzs vb m vc news hl2 hnews o2 hm (by omega) (by omega)).mono fun e w' h=>?_
  obtain⟨v',e1,h1,h2,h3⟩:=h
  exact⟨v',e1,by simpa using h1,h2,.inr h3⟩
 ·have hgs:g<w.heap.size:=(Array.getElem?_eq_some_iff.1 hg).1
  have hvb:vb≠g:=fun h=>hdis g (by simp[Value.ownBlock]) (by simp[Value.ownBlock,h])
  have hcell:∀ j u,flat[j]?=some u→w.cell? ⟨g,j,none⟩=some u:=fun j u hj=>by
   rw[r0'.cellAt j (by rw[← hl0];exact (List.getElem?_eq_some_iff.1 hj).1)];exact hj
  by_cases hn:i=n
  ·subst hn
   refine (ins_end w g i cap flat inf z hi hz hs hb hzs r0' hnc vb m vc news hl2 hnews o2 hm h63 hsz).mono fun e w' h=>?_
   obtain⟨v',e1,h1,h2,h3⟩:=h
   refine⟨v',e1,?_,h2,h3⟩
   rw[List.take_of_length_le (by omega),List.drop_of_length_le (by omega),List.append_nil]
   exact h1
  ·by_cases hroom:n+m≤cap
   ·refine (ins_shift w g n cap i cur flat inf hi hs hg hcm hcs htake hl0 o0 vb m vc vcur news hvg hvb hl2 hnews o2 hm (by omega) hroom).mono fun e w' h=>?_
    obtain⟨e1,cur',rfl,hc1,hc2⟩:=h
    refine⟨_,e1,⟨?_,.inr ⟨g,cap,cur',rfl,setRow_heap w.drew g cur cur' 173 (0,0) hg,hroom,hcm,by rw[hc1];exact hcs,hc2⟩⟩,⟨rfl,rfl,rfl,by simp,fun k _ hk=>setRow_other w.drew g k cur' (fun h=>hk (by simp[Value.ownBlock,h]))⟩,.inl rfl⟩
    simp only[List.length_append,List.length_take,List.length_drop,hl0,hl2]
    have:i*5≤n*5:=Nat.mul_le_mul_right _ hin
    omega
   ·refine (ins_grow w g n cap i flat inf z hi hz hs hb hzs hgs hcell hl0 o0 vb m vc news hvs hl2 hnews o2 hm (by omega) hnc (by omega) h63 hsz).mono fun e w' h=>?_
    obtain⟨G,hG1,hG2,e1,cur',hc1,hc2,hc3,hsz',ho1,ho2,ho3,hk⟩:=h
    refine⟨_,e1,⟨?_,.inr ⟨w.heap.size,G,cur',rfl,hc1,hG1,hG2,hc2,hc3⟩⟩,⟨ho1,ho2,ho3,by omega,fun k hk2 _=>hk k hk2⟩,.inr rfl⟩
    simp only[List.length_append,List.length_take,List.length_drop,hl0,hl2]
    have:i*5≤n*5:=Nat.mul_le_mul_right _ hin
    omega
end Q3
theorem Q3.sound (K:Nat):af Tryz.prog (Q3.c K):=jz (d4 Tryz.func306 (by kernel_rfl) rfl) (by kernel_rfl) Q3.walk
namespace Q5
set_option maxHeartbeats 4000000 in
theorem ins_end (w:World)(g n cap:Nat)(flat:List Value)(i:TypeInfo)(z:Value)(hi:Tryz.prog.info? 177=some i)(hz:i.zero=some z)(hs:i.size=4)(hb:i.bytes=48)(hzs:z.cells.size=4)
  (hown:Row w 177 4 (.slice (some ⟨g,0,none⟩) n cap) n flat) (hnc:n≤cap) (vb m vc:Nat) (news:List Value) (hl:news.length=m*4) (hnews:∀ j u,news[j]?=some u→w.cell? ⟨vb,0+j,none⟩=some u) (h1:∀ u∈news,u.oneCell'=true)
  (hm:0<m) (h63:n+m≤maxLen) (hbytes:(n+m)*48≤140737488355328) :
  Calls Tryz.prog 257 #[.slice (some ⟨g,0,none⟩) n cap,.int .i64 n,.slice (some ⟨vb,0,none⟩) m vc] w fun e w' =>
   ∃ v',e=.returned v'∧Row w' 177 4 v' (n+m) (flat++news)∧w.grownBy w' (some g)∧(v'.ownBlock=some g∨v'.ownBlock=some w.heap.size):=by
 obtain⟨v',w',hr,r1,r2,r3⟩:=dh (P:=Tryz.prog) w 39 39 177 i z 4 48 (by kernel_rfl) hi hz hs hb hzs _ n flat hown ⟨vb,0,none⟩ m vc news hl (fun j u hj=>by rw[Addr.add_lit];exact hnews j u hj) h1 h63 hbytes
 have hz1:¬ ((m:Int)=0):=by omega
 go_enter Tryz.func257,Tryz.ntmps257
 go_wp2_with (at_builtin;refine Lib.wpList_append_run _ rfl _ _ _ _ rfl _ _ rfl rfl _ _ hr ?_)
 all_goals (go_ret;exact⟨v',rfl,r1,r2,r3⟩)
set_option maxHeartbeats 4000000 in
theorem ins_nil (w:World)(i:TypeInfo)(z:Value)(hi:Tryz.prog.info? 177=some i)(hz:i.zero=some z)(hs:i.size=4)(hb:i.bytes=48)(hzs:z.cells.size=4)
  (vb m vc:Nat) (news:List Value) (hl:news.length=m*4) (hnews:∀ j u,news[j]?=some u→w.cell? ⟨vb,0+j,none⟩=some u) (h1:∀ u∈news,u.oneCell'=true)
  (hm:0<m) (h63:m≤maxLen) (hbytes:m*48≤140737488355328) :
  Calls Tryz.prog 257 #[.slice none 0 0,.int .i64 0,.slice (some ⟨vb,0,none⟩) m vc] w fun e w' =>
   ∃ v',e=.returned v'∧Row w' 177 4 v' m news∧w.grownBy w' none∧v'.ownBlock=some w.heap.size:=by
 obtain⟨v',w',hr,r1,r2,r3⟩:=dh (P:=Tryz.prog) w 39 39 177 i z 4 48 (by kernel_rfl) hi hz hs hb hzs _ 0 [] (Row.nil w 177 4) ⟨vb,0,none⟩ m vc news hl (fun j u hj=>by rw[Addr.add_lit];exact hnews j u hj) h1 (by omega) (by omega)
 have hz1:¬ ((m:Int)=0):=by omega
 have r3':v'.ownBlock=some w.heap.size:=by
  rcases r3 with h|h
  ·exfalso
   rcases r1.2 with ⟨_,h0⟩|⟨g,c,cur,e,_⟩
   ·omega
   ·rw[e]at h;simp[Value.ownBlock]at h
  ·exact h
 rw[Nat.zero_add,List.nil_append]at r1
 go_enter Tryz.func257,Tryz.ntmps257
 go_wp2_with (at_builtin;refine Lib.wpList_append_run _ rfl _ _ _ _ rfl _ _ rfl rfl _ _ hr ?_)
 all_goals (go_ret;exact⟨v',rfl,r1,r2,r3'⟩)
set_option maxHeartbeats 4000000 in
theorem ins_shift (w:World)(g n cap i:Nat)(cur:Array Value)(flat:List Value)(inf:TypeInfo)(hi:Tryz.prog.info? 177=some inf)(hs:inf.size=4)
  (hg:w.heap[g]?=some (.cells cur 177 (0,0))) (hcm:cap≤maxLen) (hcs:cap*4≤cur.size) (htake:cur.toList.take (n*4)=flat) (hfl:flat.length=n*4) (h1c:∀ u∈flat,u.oneCell'=true)
  (vb m vc:Nat) (vcur:Array Value) (news:List Value) (hvg:w.heap[vb]?=some (.cells vcur 177 (0,0))) (hvb:vb≠g) (hl:news.length=m*4) (hnews:∀ j u,news[j]?=some u→w.cell? ⟨vb,0+j,none⟩=some u) (h1:∀ u∈news,u.oneCell'=true)
  (hm:0<m) (hin:i<n) (hroom:n+m≤cap) :
  Calls Tryz.prog 257 #[.slice (some ⟨g,0,none⟩) n cap,.int .i64 i,.slice (some ⟨vb,0,none⟩) m vc] w fun e w' =>
   e=.returned (.slice (some ⟨g,0,none⟩) (n+m) cap)∧∃ cur':Array Value,w'=w.drew.setRow g cur'∧cur'.size=cur.size∧cur'.toList.take ((n+m)*4)=flat.take (i*4)++news++flat.drop (i*4):=by
 have hz1:¬ ((m:Int)=0):=by omega
 have hz2:¬ ((i:Int)=(n:Int)):=by omega
 have hcm':cap≤9223372036854775807:=by simp only[maxLen]at hcm;omega
 have t39:Tryz.prog.underlying 39=some (.slice 177):=Tryz.underlying39
 have hov:∀ o lb cb,(callFunc 308 #[.slice (some ⟨vb,0,none⟩) m vc,.slice (some ⟨g,o,none⟩) lb cb]).run Tryz.prog w=.ok (.value (.bool false)) w:=fun o lb cb=>by
  rw[run_callFunc_extern Tryz.func308 (by kernel_rfl) (by kernel_rfl) (by kernel_rfl) (e:=Extern.SlicesOverlaps.overlaps #[39,39] #[4]) (by kernel_rfl),
   Lib.run_overlaps_apart w 39 4 177 t39 4 (fun w=>by simp[sizeOf,typeInfo,hi,hs]) ⟨vb,0,none⟩ ⟨g,o,none⟩ m vc lb cb hvb 177 177 vcur.size cur.size (by simp[World.shape?,hvg]) (by simp[World.shape?,hg]) (by omega) (frozen_of_row w vb 0 vcur 177 hvg) (frozen_of_row w vb vcur.size vcur 177 hvg)]
  rfl
 have hw1:IntKind.i64.wrap ((i:Int)+(m:Int))=(i:Int)+(m:Int):=by rw[IntKind.wrap_i64];omega
 have hw2:IntKind.i64.wrap ((n:Int)+(m:Int))=(n:Int)+(m:Int):=by rw[IntKind.wrap_i64];omega
 have hb1:(0:Int)≤(i:Int)+(m:Int):=by omega
 have htn:((i:Int)+(m:Int)).toNat=i+m:=by omega
 have htn2:((n:Int)+(m:Int)).toNat=n+m:=by omega
 have hb3:(i:Int)≤(n:Int)+(m:Int):=by omega
 have hb2:¬ (cap=i+m):=by omega
 have hb5:i≤n:=by omega
 have mixed:Tryz.prog.follows .mixedOrders=true:=by kernel_rfl
 have hb4:¬ (cap=i):=by omega
 have hdl:(flat.drop (i*4)).length=(n-i)*4:=by rw[List.length_drop,hfl,← Nat.sub_mul]
 have hflat:∀ j,j<n*4→flat[j]?=cur[j]?:=fun j hj=>by rw[← htake,List.getElem?_take,if_pos hj];exact Array.getElem?_toList ..
 have hm1:Nat.min (n+m-i) (n+m-(i+m))=n-i:=by simp only[Nat.min_def];split <;> omega
 have hm2:Nat.min m (n+m-i)=m:=by simp only[Nat.min_def];split <;> omega
 obtain⟨cur1,hcur1⟩:∃ c:Array Value,c=(cur.toList.take ((i+m)*4)++flat.drop (i*4)++cur.toList.drop ((i+m)*4+(flat.drop (i*4)).length)).toArray:=⟨_,rfl⟩
 have hfit:(i+m)*4+(n-i)*4≤cur.size:=by
  have:(n+m)*4≤cap*4:=Nat.mul_le_mul_right _ hroom
  omega
 have hs1:cur1.size=cur.size:=by
  rw[hcur1]
  simp only[List.size_toArray,List.length_append,List.length_take,List.length_drop,Array.length_toList,hfl]
  omega
 obtain⟨cur2,hcur2⟩:∃ c:Array Value,c=(cur1.toList.take (i*4)++news++cur1.toList.drop (i*4+news.length)).toArray:=⟨_,rfl⟩
 have hcp1:∀ ty dc sc,(Builtin.copy_ #[39,39] ty #[.slice (some ⟨g,(i+m)*4,none⟩) (n+m-(i+m)) dc,.slice (some ⟨g,i*4,none⟩) (n+m-i) sc]).run Tryz.prog w.drew=.ok (goInt (n-i:Nat)) (w.drew.setRow g cur1):=fun ty dc sc=>by
  have:=run_copy_rowN (P:=Tryz.prog) w.drew 39 39 ty 177 inf hi g ((i+m)*4) (n+m-(i+m)) dc ⟨g,i*4,none⟩ (n+m-i) sc cur 177 (flat.drop (i*4)) t39 hg (by rw[hdl,hm1,hs])
   (fun j v hj=>by
    rw[Addr.add_lit]
    have hjl:=(List.getElem?_eq_some_iff.1 hj).1
    rw[hdl]at hjl
    rw[List.getElem?_drop]at hj
    rw[show w.drew.cell? ⟨g,i*4+j,none⟩=w.cell? ⟨g,i*4+j,none⟩ from rfl,cell_of_row w g _ cur 177 (0,0) hg,← hflat _ (by rw[Nat.sub_mul]at hjl;omega)]
    exact hj)
   (by rw[hdl];exact hfit) (fun v hv=>h1c v (List.mem_of_mem_drop hv))
  rw[hm1,← hcur1]at this
  exact this
 have hcp2:∀ ty dc,(Builtin.copy_ #[39,39] ty #[.slice (some ⟨g,i*4,none⟩) (n+m-i) dc,.slice (some ⟨vb,0,none⟩) m vc]).run Tryz.prog (w.drew.setRow g cur1)=.ok (goInt (m:Nat)) ((w.drew.setRow g cur1).setRow g cur2):=fun ty dc=>by
  have:=run_copy_rowN (P:=Tryz.prog) (w.drew.setRow g cur1) 39 39 ty 177 inf hi g (i*4) (n+m-i) dc ⟨vb,0,none⟩ m vc cur1 177 news t39 (setRow_heap w.drew g cur cur1 177 (0,0) hg) (by rw[hl,hm2,hs])
   (fun j v hj=>by
    rw[Addr.add_lit,cell_setRow_other _ _ _ _ hvb]
    exact hnews j v hj)
   (by rw[hl,hs1,← Nat.add_mul];have:(i+m)*4≤cap*4:=Nat.mul_le_mul_right _ (by omega);omega) h1
  rw[hm2,← hcur2]at this
  exact this
 have hfin:cur2.size=cur.size∧cur2.toList.take ((n+m)*4)=flat.take (i*4)++news++flat.drop (i*4):=by
  refine⟨?_,?_⟩
  ·rw[hcur2]
   simp only[List.size_toArray,List.length_append,List.length_take,List.length_drop,Array.length_toList,hl,hs1]
   have:(i+m)*4≤cap*4:=Nat.mul_le_mul_right _ (by omega)
   omega
  ·have ha:cur1.toList.take (i*4)=flat.take (i*4):=by
    rw[hcur1,← htake,List.take_take,Nat.min_eq_left (Nat.mul_le_mul_right _ (by omega)),List.append_assoc]
    simp only[List.take_append_of_le_length (show i*4≤(cur.toList.take ((i+m)*4)).length by simp only[List.length_take,Array.length_toList];have:(i+m)*4≤cap*4:=Nat.mul_le_mul_right _ (by omega);omega),List.take_take]
    rw[Nat.min_eq_left (by omega)]
   have hb:cur1.toList.drop (i*4+news.length)=flat.drop (i*4)++cur.toList.drop ((i+m)*4+(flat.drop (i*4)).length):=by
    rw[hcur1,hl,← Nat.add_mul,List.append_assoc]
    exact List.drop_left' (by simp only[List.length_take,Array.length_toList];have:(i+m)*4≤cap*4:=Nat.mul_le_mul_right _ (by omega);omega)
   rw[hcur2,ha,hb]
   simp only[← List.append_assoc]
   exact List.take_left' (by simp only[List.length_append,List.length_take,hfl,hl,hdl];rw[Nat.min_eq_left (Nat.mul_le_mul_right _ (by omega))];omega)
 clear hcur1 hcur2
 go_enter Tryz.func257,Tryz.ntmps257
 go_wp2_with (simp only[hov])
 go_region_law_o (refine step_copy_runI rfl _ _ 39 39 rfl _ _ (by simp[Act.eval,Act.put]) (by simp[Act.eval,Act.put]) (hcp1 _ _ _) ?_)
 go_wp2_with (at_builtin;refine wpList_copy_runI _ rfl _ _ 39 39 rfl _ _ rfl rfl (hcp2 _ _) ?_)
 go_ret
 exact⟨rfl,cur2,setRow_setRow _ _ _ _,hfin.1,hfin.2⟩
set_option maxHeartbeats 4000000 in
theorem ins_grow (w:World)(g n cap i:Nat)(flat:List Value)(inf:TypeInfo)(z:Value)(hi:Tryz.prog.info? 177=some inf)(hz:inf.zero=some z)(hs:inf.size=4)(hb:inf.bytes=48)(hzs:z.cells.size=4)
  (hgs:g<w.heap.size) (hcell:∀ j u,flat[j]?=some u→w.cell? ⟨g,j,none⟩=some u) (hfl:flat.length=n*4) (h1c:∀ u∈flat,u.oneCell'=true)
  (vb m vc:Nat) (news:List Value) (hvs:vb<w.heap.size) (hl:news.length=m*4) (hnews:∀ j u,news[j]?=some u→w.cell? ⟨vb,0+j,none⟩=some u) (h1:∀ u∈news,u.oneCell'=true)
  (hm:0<m) (hin:i<n) (hnc:n≤cap) (hroom:cap<n+m) (h63:n+m≤maxLen) (hbytes:(n+m)*48≤140737488355328) :
  Calls Tryz.prog 257 #[.slice (some ⟨g,0,none⟩) n cap,.int .i64 i,.slice (some ⟨vb,0,none⟩) m vc] w fun e w' =>
   ∃ G,n+m≤G∧G≤maxLen∧e=.returned (.slice (some ⟨w.heap.size,0,none⟩) (n+m) G)∧∃ cur':Array Value,w'.heap[w.heap.size]?=some (.cells cur' 177 (0,0))∧G*4≤cur'.size∧cur'.toList.take ((n+m)*4)=flat.take (i*4)++news++flat.drop (i*4) ∧
    w'.heap.size=w.heap.size+1∧w'.os=w.os∧w'.tape=w.tape∧w'.output=w.output∧∀ k,k<w.heap.size→w'.heap[k]?=w.heap[k]?:=by
 have hz1:¬ ((m:Int)=0):=by omega
 have hz2:¬ ((i:Int)=(n:Int)):=by omega
 have hz3:(cap:Int)<(n:Int)+(m:Int):=by omega
 have h63':n+m≤9223372036854775807:=by simp only[maxLen]at h63;omega
 have t39:Tryz.prog.underlying 39=some (.slice 177):=Tryz.underlying39
 have t3:Tryz.prog.underlying 3=some (.int .i64):=Tryz.underlying3
 have mixed:Tryz.prog.follows .mixedOrders=true:=by kernel_rfl
 have hkk:(n:Int)+(m:Int)-(i:Int)=((n+m-i:Nat):Int):=by omega
 have hik:i+(n+m-i)=n+m:=by omega
 have hi4:i*4≤n*4:=Nat.mul_le_mul_right _ (by omega)
 have htl:(flat.take (i*4)).length=i*4:=by rw[List.length_take,hfl];exact Nat.min_eq_left hi4
 have hold:(Builtin.firstCells inf.size i (.slice (some ⟨g,0,none⟩) i cap)).run Tryz.prog w.drew=.ok (flat.take (i*4)).toArray w.drew:=by
  rw[hs]
  exact run_firstCells_some w.drew 4 i ⟨g,0,none⟩ i cap (flat.take (i*4)) htl (fun j v hj=>by
   rw[Addr.add_lit,Nat.zero_add]
   rw[List.getElem?_take]at hj
   split at hj
   ·exact hcell j v hj
   ·cases hj)
 obtain⟨G,hG⟩:∃ G,G=grownCap w (n+m) cap 177:=⟨_,rfl⟩
 obtain⟨ROW,hROW⟩:∃ ROW:Array Value,ROW=(flat.take (i*4)).toArray++Builtin.zeroCells z.cells (n+m-i)++Builtin.zeroCells z.cells (G-(n+m)):=⟨_,rfl⟩
 have hrz:∀ ty,(Builtin.append_ #[39,3] ty #[.slice (some ⟨g,0,none⟩) i cap,.int .i64 ((n:Int)+(m:Int)-(i:Int))]).run Tryz.prog w =
   .ok (.slice (some ⟨w.heap.size,0,none⟩) (n+m) G) (w.drew.alloc (.cells ROW 177)):=fun ty=>by
  have h:=Lib.run_append_grow_zeros w 39 3 ty 177 inf z .i64 .i64 t39 t3 hi hz (some ⟨g,0,none⟩) i cap (flat.take (i*4)) hold (n+m-i) (by omega) (by omega) (by omega) (by omega)
   (by rw[hb];have:(n+m-i)*48≤(n+m)*48:=Nat.mul_le_mul_right _ (by omega);omega) (by rw[hb,hik];exact growslice_fits hroom hbytes)
  rw[hik,← hG,← hROW]at h
  rw[hkk]
  exact h
 have hGn:n+m≤G:=by rw[hG];exact grownCap_ge w _ _ _
 have hGm:G≤maxLen:=by rw[hG];exact grownCap_le_maxLen w (n+m) cap 177 h63
 have hG63:G≤9223372036854775807:=by unfold maxLen at hGm;omega
 have hRs:ROW.size=G*4:=by
  rw[hROW]
  simp only[Array.size_append,List.size_toArray,size_zeroCells,hzs,htl,← Nat.add_mul]
  rw[show i+(n+m-i)+(G-(n+m))=G by omega]
 obtain⟨cur1,hcur1⟩:∃ c:Array Value,c=(ROW.toList.take (i*4)++news++ROW.toList.drop (i*4+news.length)).toArray:=⟨_,rfl⟩
 obtain⟨cur2,hcur2⟩:∃ c:Array Value,c=(cur1.toList.take ((i+m)*4)++flat.drop (i*4)++cur1.toList.drop ((i+m)*4+(flat.drop (i*4)).length)).toArray:=⟨_,rfl⟩
 have hG4:(n+m)*4≤G*4:=Nat.mul_le_mul_right _ hGn
 have hdl:(flat.drop (i*4)).length=(n-i)*4:=by rw[List.length_drop,hfl,← Nat.sub_mul]
 have hs1:cur1.size=ROW.size:=by
  rw[hcur1]
  simp only[List.size_toArray,List.length_append,List.length_take,List.length_drop,Array.length_toList,hl,hRs]
  omega
 have hs2:cur2.size=ROW.size:=by
  rw[hcur2]
  simp only[List.size_toArray,List.length_append,List.length_take,List.length_drop,Array.length_toList,hfl,hs1,hRs]
  omega
 have htake1:ROW.toList.take (i*4)=flat.take (i*4):=by
  rw[hROW]
  simp only[Array.toList_append,List.append_assoc]
  exact List.take_left' htl
 have hfin:cur2.toList.take ((n+m)*4)=flat.take (i*4)++news++flat.drop (i*4):=by
  have e1:cur1.toList.take ((i+m)*4)=flat.take (i*4)++news:=by
   rw[hcur1,htake1]
   show List.take ((i+m)*4) (flat.take (i*4)++news++ROW.toList.drop (i*4+news.length))=_
   exact List.take_left' (by rw[List.length_append,htl,hl,← Nat.add_mul])
  rw[hcur2,e1]
  show List.take ((n+m)*4) (flat.take (i*4)++news++flat.drop (i*4)++_)=_
  exact List.take_left' (by rw[List.length_append,List.length_append,htl,hl,hdl,← Nat.add_mul,← Nat.add_mul,show i+m+(n-i)=n+m by omega])
 have hm1:Nat.min m (n+m-i)=m:=by simp only[Nat.min_def];split <;> omega
 have hm2:Nat.min (n-i) (n+m-(i+m))=n-i:=by simp only[Nat.min_def];split <;> omega
 have hcpA:∀ (W:World),W.heap[w.heap.size]?=some (.cells ROW 177 (0,0))→(∀ k,k<w.heap.size→W.heap[k]?=w.heap[k]?)→∀ ty dc,(Builtin.copy_ #[39,39] ty #[.slice (some ⟨w.heap.size,i*4,none⟩) (n+m-i) dc,.slice (some ⟨vb,0,none⟩) m vc]).run Tryz.prog W=.ok (goInt (m:Nat)) (W.setRow w.heap.size cur1):=fun W hW hk ty dc=>by
  have:=run_copy_rowN (P:=Tryz.prog) W 39 39 ty 177 inf hi w.heap.size (i*4) (n+m-i) dc ⟨vb,0,none⟩ m vc ROW 177 news t39 hW (by rw[hl,hm1,hs])
   (fun j v hj=>by
    rw[Addr.add_lit]
    have:=hnews j v hj
    unfold World.cell? at this ⊢
    rw[hk vb hvs];exact this)
   (by rw[hl,hRs,← Nat.add_mul];exact Nat.mul_le_mul_right _ (by omega)) h1
  rw[hm1,← hcur1]at this
  exact this
 have hcpB:∀ (W:World),W.heap[w.heap.size]?=some (.cells cur1 177 (0,0))→(∀ k,k<w.heap.size→W.heap[k]?=w.heap[k]?)→∀ ty dc sc,(Builtin.copy_ #[39,39] ty #[.slice (some ⟨w.heap.size,(i+m)*4,none⟩) (n+m-(i+m)) dc,.slice (some ⟨g,i*4,none⟩) (n-i) sc]).run Tryz.prog W=.ok (goInt (n-i:Nat)) (W.setRow w.heap.size cur2):=fun W hW hk ty dc sc=>by
  have:=run_copy_rowN (P:=Tryz.prog) W 39 39 ty 177 inf hi w.heap.size ((i+m)*4) (n+m-(i+m)) dc ⟨g,i*4,none⟩ (n-i) sc cur1 177 (flat.drop (i*4)) t39 hW (by rw[hdl,hm2,hs])
   (fun j v hj=>by
    rw[Addr.add_lit]
    rw[List.getElem?_drop]at hj
    have:=hcell _ v hj
    unfold World.cell? at this ⊢
    rw[hk g hgs];exact this)
   (by rw[hdl,hs1,hRs,← Nat.add_mul];exact Nat.mul_le_mul_right _ (by omega)) (fun v hv=>h1c v (List.mem_of_mem_drop hv))
  rw[hm2,← hcur2]at this
  exact this
 have hA1:((w.alloc (.cells ROW 177)).drew).heap[w.heap.size]?=some (.cells ROW 177 (0,0)):=heap_alloc_new w _
 have hA2:∀ k,k<w.heap.size→((w.alloc (.cells ROW 177)).drew).heap[k]?=w.heap[k]?:=fun k hk=>Go.heap_alloc_old w _ hk
 have hB1:(((w.alloc (.cells ROW 177)).drew.setRow w.heap.size cur1).drew).heap[w.heap.size]?=some (.cells cur1 177 (0,0)):=setRow_heap (w.alloc (.cells ROW 177)).drew w.heap.size ROW cur1 177 (0,0) hA1
 have hB2:∀ k,k<w.heap.size→(((w.alloc (.cells ROW 177)).drew.setRow w.heap.size cur1).drew).heap[k]?=w.heap[k]?:=fun k hk=>(setRow_other (w.alloc (.cells ROW 177)).drew w.heap.size k cur1 (by omega)).trans (hA2 k hk)
 have hGi:¬ (G=i):=by omega
 have hGim:¬ (G=i+m):=by omega
 have hci:¬ (cap=i):=by omega
 have hw1:IntKind.i64.wrap ((i:Int)+(m:Int))=(i:Int)+(m:Int):=by rw[IntKind.wrap_i64];omega
 have hw2:IntKind.i64.wrap ((n:Int)+(m:Int))=(n:Int)+(m:Int):=by rw[IntKind.wrap_i64];omega
 have hw3:IntKind.i64.wrap ((n:Int)+(m:Int)-(i:Int))=(n:Int)+(m:Int)-(i:Int):=by rw[IntKind.wrap_i64];omega
 have hb1:(0:Int)≤(i:Int)+(m:Int):=by omega
 have hin':i≤n:=by omega
 have htn:((i:Int)+(m:Int)).toNat=i+m:=by omega
 have hb3:(i:Int)≤(n:Int):=by omega
 clear hkk hik hold hROW hG hcur1 hcur2
 have hA:=fun ty dc=>hcpA _ hA1 hA2 ty dc
 have hB:=fun ty dc sc=>hcpB _ hB1 hB2 ty dc sc
 go_enter Tryz.func257,Tryz.ntmps257
 go_wp2_with (at_builtin;refine Lib.wpList_append_run _ rfl _ _ _ _ rfl _ _ rfl rfl _ _ (hrz _) ?_)
 go_region
 go_wp2
 go_ret
 exact⟨G,hGn,hGm,rfl,cur2,setRow_heap _ _ _ _ _ _ hB1,by rw[hs2,hRs];exact Nat.le_refl _,hfin,by simp,rfl,rfl,rfl,fun k hk=>(setRow_other _ _ _ _ (by omega)).trans (hB2 k hk)⟩
theorem walk:mv Tryz.prog 257 177 4 48:=by
 intro w v0 v2 n m i flat news r0 r2 o0 o2 hm hin hdis hsz
 have r2':=r2
 obtain⟨hl2,h2⟩:=r2
 rcases h2 with ⟨_,h⟩|⟨vb,vc,vcur,rfl,hvg,hmc,hvcm,hvcs,hvt⟩
 ·omega
 have hnews:∀ j u,news[j]?=some u→w.cell? ⟨vb,0+j,none⟩=some u:=fun j u hj=>by
  rw[Nat.zero_add,r2'.cellAt j (by rw[← hl2];exact (List.getElem?_eq_some_iff.1 hj).1)];exact hj
 have h63:n+m≤maxLen:=by unfold maxLen;omega
 have q1:(Tryz.prog.info? 177).isSome=true:=by kernel_rfl
 have q2:(Tryz.prog.info? 177).map (fun i=>i.size)=some 4:=by kernel_rfl
 have q3:(Tryz.prog.info? 177).map (fun i=>i.bytes)=some 48:=by kernel_rfl
 have q4:((Tryz.prog.info? 177).bind fun i=>i.zero).map (fun z=>z.cells.size)=some 4:=by kernel_rfl
 obtain⟨inf,hi⟩:=Option.isSome_iff_exists.1 q1
 rw[hi]at q2 q3 q4
 have hs:inf.size=4:=by simpa using q2
 have hb:inf.bytes=48:=by simpa using q3
 simp only[Option.bind_some,Option.map_eq_some_iff]at q4
 obtain⟨z,hz,hzs⟩:=q4
 have hvs:vb<w.heap.size:=(Array.getElem?_eq_some_iff.1 hvg).1
 have r0':=r0
 obtain⟨hl0,h0⟩:=r0
 rcases h0 with ⟨rfl,h0⟩|⟨g,cap,cur,rfl,hg,hnc,hcm,hcs,htake⟩
 ·subst h0
  have:i=0:=by omega
  subst this
  have hf:flat=[]:=List.eq_nil_of_length_eq_zero (by simpa using hl0)
  subst hf
  refine (ins_nil w inf z hi hz hs hb hzs vb m vc news hl2 hnews o2 hm (by omega) (by omega)).mono fun e w' h=>?_
  obtain⟨v',e1,h1,h2,h3⟩:=h
  exact⟨v',e1,by simpa using h1,h2,.inr h3⟩
 ·have hgs:g<w.heap.size:=(Array.getElem?_eq_some_iff.1 hg).1
  have hvb:vb≠g:=fun h=>hdis g (by simp[Value.ownBlock]) (by simp[Value.ownBlock,h])
  have hcell:∀ j u,flat[j]?=some u→w.cell? ⟨g,j,none⟩=some u:=fun j u hj=>by
   rw[r0'.cellAt j (by rw[← hl0];exact (List.getElem?_eq_some_iff.1 hj).1)];exact hj
  by_cases hn:i=n
  ·subst hn
   refine (ins_end w g i cap flat inf z hi hz hs hb hzs r0' hnc vb m vc news hl2 hnews o2 hm h63 hsz).mono fun e w' h=>?_
   obtain⟨v',e1,h1,h2,h3⟩:=h
   refine⟨v',e1,?_,h2,h3⟩
   rw[List.take_of_length_le (by omega),List.drop_of_length_le (by omega),List.append_nil]
   exact h1
  ·by_cases hroom:n+m≤cap
   ·refine (ins_shift w g n cap i cur flat inf hi hs hg hcm hcs htake hl0 o0 vb m vc vcur news hvg hvb hl2 hnews o2 hm (by omega) hroom).mono fun e w' h=>?_
    obtain⟨e1,cur',rfl,hc1,hc2⟩:=h
    refine⟨_,e1,⟨?_,.inr ⟨g,cap,cur',rfl,setRow_heap w.drew g cur cur' 177 (0,0) hg,hroom,hcm,by rw[hc1];exact hcs,hc2⟩⟩,⟨rfl,rfl,rfl,by simp,fun k _ hk=>setRow_other w.drew g k cur' (fun h=>hk (by simp[Value.ownBlock,h]))⟩,.inl rfl⟩
    simp only[List.length_append,List.length_take,List.length_drop,hl0,hl2]
    have:i*4≤n*4:=Nat.mul_le_mul_right _ hin
    omega
   ·refine (ins_grow w g n cap i flat inf z hi hz hs hb hzs hgs hcell hl0 o0 vb m vc news hvs hl2 hnews o2 hm (by omega) hnc (by omega) h63 hsz).mono fun e w' h=>?_
    obtain⟨G,hG1,hG2,e1,cur',hc1,hc2,hc3,hsz',ho1,ho2,ho3,hk⟩:=h
    refine⟨_,e1,⟨?_,.inr ⟨w.heap.size,G,cur',rfl,hc1,hG1,hG2,hc2,hc3⟩⟩,⟨ho1,ho2,ho3,by omega,fun k hk2 _=>hk k hk2⟩,.inr rfl⟩
    simp only[List.length_append,List.length_take,List.length_drop,hl0,hl2]
    have:i*4≤n*4:=Nat.mul_le_mul_right _ hin
    omega
end Q5
theorem Q5.sound (K:Nat):af Tryz.prog (Q5.c K):=jz (d4 Tryz.func257 (by kernel_rfl) rfl) (by kernel_rfl) Q5.walk
end Go.Proofs.YthgnfidnmnkeaaaGreatEv
