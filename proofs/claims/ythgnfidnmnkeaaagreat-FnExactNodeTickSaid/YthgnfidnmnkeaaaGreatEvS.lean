/- slices.DeleteFunc: what its walk needs. -/
import Derived.Test.YthgnfidnmnkeaaaGreatEvR
import Derived.Laws.CopyRow
import Derived.Lib.AppendZerosOnto
namespace Go.Proofs.YthgnfidnmnkeaaaGreatEv
open Go Go.Proofs Go.RowKit
structure fm (N:Nat) (a b:World):Prop where
 os:b.os=a.os
 tape:b.tape=a.tape
 output:b.output=a.output
 size:b.heap.size=a.heap.size
 other:∀ k,k≠N→b.heap[k]?=a.heap[k]?
theorem fm.trans {N:Nat}{a b c:World}(h:fm N a b)(k:fm N b c):fm N a c :=
 ⟨k.os.trans h.os,k.tape.trans h.tape,k.output.trans h.output,k.size.trans h.size,fun i hi=>(k.other i hi).trans (h.other i hi)⟩
theorem vq (w:World)(g:Nat)(cs:Array Value):fm g w (w.setRow g cs):=⟨rfl,rfl,rfl,by simp,fun k hk=>setRow_other w g k cs hk⟩
theorem bM {P:Program}(w:World)(N t:Nat)(cur:Array Value)(E:TypeId)(v:Value)(h:w.heap[N]?=some (.cells cur E (0,0)))(ht:t<cur.size)(hv:v.oneCell'=true) :
  ∃ w1,(store ⟨N,t,none⟩ v).run P w=.ok () w1∧w1.heap[N]?=some (.cells (cur.setIfInBounds t v) E (0,0))∧fm N w w1:=by
 have hcell:w.cell? ⟨N,t,none⟩=some cur[t]:=by simp[World.cell?,h,ht]
 have hfro:w.frozen? ⟨N,t,none⟩=false:=by simp[World.frozen?,h]
 refine⟨_,?_,setRow_heap w N cur (cur.setIfInBounds t v) E (0,0) h,vq _ _ _⟩
 rw[run_store P w _ v _ hv,hcell]
 simp[hfro,setCell_eq_setRow w N t cur E (0,0) v h]
def fp (cur:Array Value)(o:Nat):List Value→Array Value
 |[]=>cur
 |c::cs=>fp (cur.setIfInBounds o c) (o+1) cs
theorem ov:∀ (cs:List Value) (cur:Array Value) (o:Nat),(fp cur o cs).size=cur.size
 |[],_,_=>rfl
 |c::cs,cur,o=>by rw[fp,ov cs];simp
theorem jP:∀ (cs:List Value) (cur:Array Value) (o t:Nat),t<o∨o+cs.length≤t→(fp cur o cs)[t]?=cur[t]?
 |[],_,_,_,_=>rfl
 |c::cs,cur,o,t,h=>by
  rw[List.length_cons]at h
  rw[fp,jP cs _ _ t (by omega),Array.getElem?_setIfInBounds,if_neg (by omega)]
theorem rN:∀ (cs:List Value) (cur:Array Value) (o i:Nat) (u:Value),o+cs.length≤cur.size→cs[i]?=some u→(fp cur o cs)[o+i]?=some u
 |[],_,_,_,_,_,h=>by simp at h
 |c::cs,cur,o,0,u,hl,h=>by
  simp only[List.getElem?_cons_zero,Option.some.injEq]at h
  subst h
  rw[List.length_cons]at hl
  rw[fp,jP cs _ _ _ (by omega),Array.getElem?_setIfInBounds,if_pos (by omega),if_pos (by omega)]
 |c::cs,cur,o,i+1,u,hl,h=>by
  rw[List.length_cons]at hl
  rw[List.getElem?_cons_succ]at h
  have:=rN cs (cur.setIfInBounds o c) (o+1) i u (by rw[Array.size_setIfInBounds];omega) h
  rw[fp,show o+(i+1)=o+1+i by omega]
  exact this
theorem uf (cs:List Value)(cur:Array Value)(o:Nat)(h:o+cs.length≤cur.size):(fp cur o cs).toList.take (o+cs.length)=cur.toList.take o++cs:=by
 refine List.ext_getElem? fun i=>?_
 rw[List.getElem?_take]
 have hl:(cur.toList.take o).length=o:=by rw[List.length_take,Array.length_toList];omega
 by_cases h1:i<o
 ·rw[if_pos (by omega),List.getElem?_append_left (by omega),List.getElem?_take,if_pos h1,Array.getElem?_toList,Array.getElem?_toList,jP cs cur o i (.inl h1)]
 ·rw[List.getElem?_append_right (by omega),hl]
  by_cases h2:i<o+cs.length
  ·rw[if_pos h2,Array.getElem?_toList]
   have h3:cs[i-o]?=some cs[i-o]:=List.getElem?_eq_getElem (by omega)
   rw[h3]
   have:=rN cs cur o (i-o) _ h h3
   rwa [show o+(i-o)=i by omega]at this
  ·rw[if_neg h2,List.getElem?_eq_none (by omega)]
theorem lj {P:Program}(w:World)(t e:TypeId)(i:TypeInfo)(z:Value)(hu:P.underlying t=some (.slice e))(hi:P.info? e=some i)(hz:i.zero=some z)(g o n c:Nat)(cur:Array Value)(E:TypeId)(hg:w.heap[g]?=some (.cells cur E (0,0)))
  (hn:0<n) (hfit:o+n*z.cells.size≤cur.size) (h1:∀ v∈z.cells.toList,v.oneCell'=true) :
  ∃ cur':Array Value,(∀ ty,(Builtin.clear_ #[t] ty #[.slice (some ⟨g,o,none⟩) n c]).run P w=.ok (.tuple #[]) (w.setRow g cur'))∧cur'.size=cur.size∧cur'.toList.take o=cur.toList.take o:=by
 have hl:(Builtin.zeroCells z.cells n).toList.length=n*z.cells.size:=by rw[Array.length_toList,size_zeroCells]
 have h2:∀ v∈(Builtin.zeroCells z.cells n).toList,v.oneCell'=true:=by
  intro v hv
  simp only[Builtin.zeroCells,Array.toList_map,List.mem_map]at hv
  obtain⟨j,hj,rfl⟩:=hv
  have hj':j<n*z.cells.size:=by simpa using hj
  have hp:0<z.cells.size:=by
   rcases Nat.eq_zero_or_pos z.cells.size with h|h
   ·rw[h]at hj';omega
   ·exact h
  have hm:j % z.cells.size<z.cells.size:=Nat.mod_lt _ hp
  rw[getElem!_pos z.cells _ hm]
  exact h1 _ (by simp)
 have hst:=run_storeCells_at (P:=P) g o E (Builtin.zeroCells z.cells n).toList 0 cur w hg (by rw[hl];exact hfit) h2
 obtain⟨cur',hcur⟩:∃ cur',cur'=(cur.toList.take (o+0)++(Builtin.zeroCells z.cells n).toList++cur.toList.drop (o+0+(Builtin.zeroCells z.cells n).toList.length)).toArray:=⟨_,rfl⟩
 rw[← hcur]at hst
 have e1:cur'.size=cur.size:=by
  rw[hcur]
  simp only[List.size_toArray,List.length_append,List.length_take,List.length_drop,hl,Array.length_toList,Nat.add_zero]
  omega
 have e2:cur'.toList.take o=cur.toList.take o:=by
  rw[hcur]
  simp only[Nat.add_zero,List.append_assoc]
  exact List.take_left' (by rw[List.length_take,Array.length_toList];omega)
 obtain⟨m,rfl⟩:∃ m,n=m+1:=⟨n-1,by omega⟩
 refine⟨cur',fun ty=>?_,e1,e2⟩
 have hzv:∀ w,(zeroValue e).run P w=.ok z w:=fun w=>by simp[zeroValue,typeInfo,hi,hz]
 simp[Builtin.clear_,run_underlying hu,hzv,hst]
structure dI (w:World) (g n s:Nat) (E:TypeId) (sz:Nat) (del:Nat→Bool) (flat:List Value) (p j:Nat) (wx:World):Prop where
 os:wx.os=w.os
 tape:wx.tape=w.tape
 output:wx.output=w.output
 size:w.heap.size≤wx.heap.size
 other:∀ k,k<w.heap.size→k≠g→wx.heap[k]?=w.heap[k]?
 row:∃ curx:Array Value,wx.heap[g]?=some (.cells curx E (0,0))∧curx.size=sz∧curx.toList.take (p*s)=eQ s del flat j∧∀ t,j*s≤t→t<n*s→curx[t]?=flat[t]?
 cnt:p=c7 del j
 lt:p<j
theorem ug {del:Nat→Bool}:∀ {j:Nat},c7 del j=j→∀ i,i<j→del i=false
 |0,_,i,hi=>by omega
 |j+1,h,i,hi=>by
  have hle:∀ m,c7 del m≤m:=fun m=>by
   induction m with
   |zero=>exact Nat.le_refl _
   |succ m ih=>simp only[c7];split <;> omega
  have:=hle j
  simp only[c7]at h
  cases hd:del j with
  |true=>rw[hd]at h;simp at h;omega
  |false =>
   rw[hd]at h
   simp at h
   rcases Nat.lt_or_eq_of_le (Nat.le_of_lt_succ hi) with h1|h1
   ·exact ug h i h1
   ·subst h1;exact hd
theorem nI {s:Nat}{del:Nat→Bool}{flat:List Value}:∀ {j:Nat},(∀ i,i<j→del i=false)→j*s≤flat.length→eQ s del flat j=flat.take (j*s)∧c7 del j=j
 |0,_,_=>by simp[eQ,c7]
 |j+1,h,hl=>by
  rw[Nat.succ_mul]at hl
  obtain⟨h1,h2⟩:=nI (s:=s) (del:=del) (flat:=flat) (j:=j) (fun i hi=>h i (by omega)) (by omega)
  simp only[eQ,c7,h j (by omega),Bool.false_eq_true,if_false,h1,h2]
  refine⟨?_,trivial⟩
  rw[Nat.succ_mul,List.take_add]
theorem nJ {s:Nat}{del:Nat→Bool}{flat:List Value}:∀ {j:Nat},j*s≤flat.length→(eQ s del flat j).length=c7 del j*s
 |0,_=>by simp[eQ,c7]
 |j+1,hl=>by
  rw[Nat.succ_mul]at hl
  have h1:=nJ (s:=s) (del:=del) (flat:=flat) (j:=j) (by omega)
  simp only[eQ,c7]
  cases del j with
  |true=>simp[h1]
  |false =>
   simp only[Bool.false_eq_true,if_false,List.length_append,h1,List.length_take,List.length_drop,Nat.succ_mul]
   omega
theorem dI.skip {w:World}{g n s:Nat}{E:TypeId}{sz:Nat}{del:Nat→Bool}{flat:List Value}{p j:Nat}{wx wy:World}(h:dI w g n s E sz del flat p j wx)(hd:del j=true)
  (os:wy.os=wx.os) (tape:wy.tape=wx.tape) (output:wy.output=wx.output) (size:wx.heap.size≤wy.heap.size) (other:∀ k,k<wx.heap.size→wy.heap[k]?=wx.heap[k]?) (hg:g<w.heap.size):dI w g n s E sz del flat p (j+1) wy:=by
 obtain⟨curx,h1,h2,h3,h4⟩:=h.row
 refine⟨os.trans h.os,tape.trans h.tape,output.trans h.output,Nat.le_trans h.size size,fun k hk hn=>(other k (Nat.lt_of_lt_of_le hk h.size)).trans (h.other k hk hn),⟨curx,(other g (Nat.lt_of_lt_of_le hg h.size)).trans h1,h2,?_,fun t ht hn=>h4 t (by rw[Nat.succ_mul]at ht;omega) hn⟩,?_,Nat.lt_succ_of_lt h.lt⟩
 ·simp only[eQ,hd,if_true,List.append_nil];exact h3
 ·simp only[c7,hd,if_true,Nat.add_zero];exact h.cnt
theorem dI.keep {w:World}{g n s:Nat}{E:TypeId}{sz:Nat}{del:Nat→Bool}{flat:List Value}{p j:Nat}{wx wy:World}{curx:Array Value}{cs:List Value}(h:dI w g n s E sz del flat p j wx)(hrow:wx.heap[g]?=some (.cells curx E (0,0)))(hd:del j=false)
  (os:wy.os=wx.os) (tape:wy.tape=wx.tape) (output:wy.output=wx.output) (size:wx.heap.size≤wy.heap.size) (other:∀ k,k<wx.heap.size→k≠g→wy.heap[k]?=wx.heap[k]?) (hj:j<n) (hfit:n*s≤sz)
  (hy:wy.heap[g]?=some (.cells (fp curx (p*s) cs) E (0,0))) (hcs:cs.length=s) (hc:(flat.drop (j*s)).take s=cs):dI w g n s E sz del flat (p+1) (j+1) wy:=by
 obtain⟨curx',h1,h2,h3,h4⟩:=h.row
 rw[hrow]at h1
 simp only[Option.some.injEq,Obj.cells.injEq]at h1
 obtain⟨rfl,_⟩:=h1
 have hlt:=h.lt
 have hps:p*s+s≤j*s:=by rw[← Nat.succ_mul];exact Nat.mul_le_mul_right _ hlt
 have hjs:j*s+s≤n*s:=by rw[← Nat.succ_mul];exact Nat.mul_le_mul_right _ hj
 refine⟨os.trans h.os,tape.trans h.tape,output.trans h.output,Nat.le_trans h.size size,fun k hk hn=>(other k (Nat.lt_of_lt_of_le hk h.size) hn).trans (h.other k hk hn),⟨_,hy,by rw[ov];exact h2,?_,fun t ht hn=>?_⟩,?_,by omega⟩
 ·have:=uf cs curx (p*s) (by rw[hcs,h2];omega)
  rw[hcs]at this
  rw[Nat.succ_mul,this,h3]
  simp only[eQ,hd,Bool.false_eq_true,if_false,hc]
 ·rw[Nat.succ_mul]at ht
  rw[jP cs curx _ t (.inr (by rw[hcs];omega))]
  exact h4 t (by omega) hn
 ·simp only[c7,hd,Bool.false_eq_true,if_false,h.cnt]
end Go.Proofs.YthgnfidnmnkeaaaGreatEv
