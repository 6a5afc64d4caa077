/- slices.DeleteFunc: what its walk needs. -/
import Derived.Test.YtaegajachoklkaaGreatEvR
import Derived.Laws.CopyRow
import Derived.Lib.AppendZerosOnto
set_option linter.unusedVariables false
set_option linter.unusedSimpArgs false
open Array renaming length_toList->BW,getElem?_toList->BY,getElem?_setIfInBounds->B3
open Bool renaming false_eq_true->BX
open Go.Builtin renaming zeroCells->BU,clear_->CC
open List renaming length_take->BZ,length_cons->B5,getElem?_take->B7,length_append->B8,length_drop->CB
open Nat renaming succ_mul->BV,lt_of_lt_of_le->B4,mul_le_mul_right->B6,add_zero->CA
open Option.some renaming injEq->B9
namespace Go.Proofs.YtaegajachoklkaaGreatEv
open Go Go.Proofs Go.RowKit
structure gr (N:Nat) (a b:World):Prop where
 os:b.os=a.os
 tape:b.tape=a.tape
 output:b.output=a.output
 size:b.heap.size=a.heap.size
 other:∀ k,k≠N->b.heap[k]?=a.heap[k]?
theorem gr.trans {N:Nat}{a b c:World}(h:gr N a b)(k:gr N b c):gr N a c :=
 ⟨k.os.trans h.os,k.tape.trans h.tape,k.output.trans h.output,k.size.trans h.size,λi r=>(k.other i r).trans (h.other i r)⟩
theorem yH (w:World)(g:Nat)(cs:Array Value):gr g w (w.setRow g cs):=⟨rfl,rfl,rfl,by simp,λk r=>setRow_other w g k cs r⟩
theorem ca {P:Program}(w:World)(N t:Nat)(cur:Array Value)(E:TypeId)(v:Value)(h:w.heap[N]?=some (.cells cur E (0,0)))(z:t<cur.size)(y:v.oneCell'=true) :
  ∃ w1,(store ⟨N,t,none⟩ v).run P w=.ok () w1/\w1.heap[N]?=some (.cells (cur.setIfInBounds t v) E (0,0))/\gr N w w1:=by
 have r:w.cell? ⟨N,t,none⟩=some cur[t]:=by simp[World.cell?,h,z]
 have u:w.frozen? ⟨N,t,none⟩=false:=by simp[World.frozen?,h]
 refine⟨_,?_,setRow_heap w N cur (cur.setIfInBounds t v) E (0,0) h,yH _ _ _⟩;rw[run_store P w _ v _ y,r];simp[u,setCell_eq_setRow w N t cur E (0,0) v h]
def gu (cur:Array Value)(o:Nat):List Value->Array Value
 |[]=>cur
 |c::r=>gu (cur.setIfInBounds o c) (o+1) r
theorem qt:∀ (cs:List Value) (cur:Array Value) (o:Nat),(gu cur o cs).size=cur.size
 |[],_,_=>rfl
 |c::cs,cur,o=>by rw[gu,qt cs];simp
theorem k9:∀ (cs:List Value) (cur:Array Value) (o t:Nat),t<o\/o+cs.length<=t->(gu cur o cs)[t]?=cur[t]?
 |[],_,_,_,_=>rfl
 |c::cs,cur,o,t,h=>by
  rw[B5]at h;rw[gu,k9 cs _ _ t (by omega),B3,if_neg (by omega)]
theorem ui:∀ (cs:List Value) (cur:Array Value) (o i:Nat) (u:Value),o+cs.length<=cur.size->cs[i]?=some u->(gu cur o cs)[o+i]?=some u
 |[],_,_,_,_,_,h=>by simp at h
 |c::cs,cur,o,0,u,r,h=>by
  simp only[List.getElem?_cons_zero,B9]at h;subst h;rw[B5]at r;rw[gu,k9 cs _ _ _ (by omega),B3,if_pos (by omega),if_pos (by omega)]
 |c::cs,cur,o,i+1,u,r,h=>by
  rw[B5]at r;rw[List.getElem?_cons_succ]at h;have:=ui cs (cur.setIfInBounds o c) (o+1) i u (by rw[Array.size_setIfInBounds];omega) h;rw[gu,show o+(i+1)=o+1+i by omega];exact this
theorem wX (cs:List Value)(cur:Array Value)(o:Nat)(h:o+cs.length<=cur.size):(gu cur o cs).toList.take (o+cs.length)=cur.toList.take o++cs:=by
 refine List.ext_getElem? λi=>?_
 rw[B7];have z:(cur.toList.take o).length=o:=by rw[BZ,BW];omega
 by_cases r:i<o
 ·rw[if_pos (by omega),List.getElem?_append_left (by omega),B7,if_pos r,BY,BY,k9 cs cur o i (.inl r)]
 ·rw[List.getElem?_append_right (by omega),z];by_cases u:i<o+cs.length
  ·rw[if_pos u,BY];have y:cs[i-o]?=some cs[i-o]:=List.getElem?_eq_getElem (by omega);rw[y];have:=ui cs cur o (i-o) _ h y
   rwa [show o+(i-o)=i by omega]at this
  ·rw[if_neg u,List.getElem?_eq_none (by omega)]
theorem mO {P:Program}(w:World)(t e:TypeId)(i:TypeInfo)(z:Value)(X:P.underlying t=some (.slice e))(hi:P.info? e=some i)(hz:i.zero=some z)(g o n c:Nat)(cur:Array Value)(E:TypeId)(hg:w.heap[g]?=some (.cells cur E (0,0)))
  (hn:0<n) (y:o+n*z.cells.size<=cur.size) (R:∀ v∈z.cells.toList,v.oneCell'=true) :
  ∃ r:Array Value,(∀ ty,(CC #[t] ty #[.slice (some ⟨g,o,none⟩) n c]).run P w=.ok (.tuple #[]) (w.setRow g r))/\r.size=cur.size/\r.toList.take o=cur.toList.take o:=by
 have M:(BU z.cells n).toList.length=n*z.cells.size:=by rw[BW,size_zeroCells]
 have Z:∀ v∈(BU z.cells n).toList,v.oneCell'=true:=by
  intro v O;simp only[BU,Array.toList_map,List.mem_map]at O;obtain⟨j,hj,rfl⟩:=O;have J:j<n*z.cells.size:=by simpa using hj
  have hp:0<z.cells.size:=by
   rcases Nat.eq_zero_or_pos z.cells.size with h|h
   ·rw[h]at J;omega
   ·exact h
  have Y:j % z.cells.size<z.cells.size:=Nat.mod_lt _ hp;rw[getElem!_pos z.cells _ Y];exact R _ (by simp)
 have H:=run_storeCells_at (P:=P) g o E (BU z.cells n).toList 0 cur w hg (by rw[M];exact y) Z;obtain⟨r,u⟩:∃ r,r=(cur.toList.take (o+0)++(BU z.cells n).toList++cur.toList.drop (o+0+(BU z.cells n).toList.length)).toArray:=⟨_,rfl⟩;rw[<- u]at H;have e1:r.size=cur.size:=by
  rw[u];simp only[List.size_toArray,B8,BZ,CB,M,BW,CA];omega
 have e2:r.toList.take o=cur.toList.take o:=by
  rw[u];simp only[CA,List.append_assoc];exact List.take_left' (by rw[BZ,BW];omega)
 obtain⟨m,rfl⟩:∃ m,n=m+1:=⟨n-1,by omega⟩;refine⟨r,λty=>?_,e1,e2⟩;have I:∀ w,(zeroValue e).run P w=.ok z w:=λw=>by simp[zeroValue,typeInfo,hi,hz]
 simp[CC,run_underlying X,I,H]
structure eq (w:World) (g n s:Nat) (E:TypeId) (sz:Nat) (del:Nat->Bool) (flat:List Value) (p j:Nat) (wx:World):Prop where
 os:wx.os=w.os
 tape:wx.tape=w.tape
 output:wx.output=w.output
 size:w.heap.size<=wx.heap.size
 other:∀ k,k<w.heap.size->k≠g->wx.heap[k]?=w.heap[k]?
 row:∃ curx:Array Value,wx.heap[g]?=some (.cells curx E (0,0))/\curx.size=sz/\curx.toList.take (p*s)=fO s del flat j/\∀ t,j*s<=t->t<n*s->curx[t]?=flat[t]?
 cnt:p=dI del j
 lt:p<j
theorem wY {del:Nat->Bool}:∀ {j:Nat},dI del j=j->∀ i,i<j->del i=false
 |0,_,i,z=>by omega
 |j+1,h,i,z=>by
  have u:∀ m,dI del m<=m:=λm=>by
   induction m with
   |zero=>exact Nat.le_refl _
   |succ m H=>simp only[dI];split <;> omega
  have:=u j;simp only[dI]at h;cases y:del j with
  |true=>rw[y]at h;simp at h;omega
  |false =>
   rw[y]at h;simp at h;rcases Nat.lt_or_eq_of_le (Nat.le_of_lt_succ z) with r|r
   ·exact wY h i r
   ·subst r;exact y
theorem pz {s:Nat}{del:Nat->Bool}{flat:List Value}:∀ {j:Nat},(∀ i,i<j->del i=false)->j*s<=flat.length->fO s del flat j=flat.take (j*s)/\dI del j=j
 |0,_,_=>by simp[fO,dI]
 |j+1,h,y=>by
  rw[BV]at y;obtain⟨r,u⟩:=pz (s:=s) (del:=del) (flat:=flat) (j:=j) (λi z=>h i (by omega)) (by omega);simp only[fO,dI,h j (by omega),BX,if_false,r,u];refine⟨?_,trivial⟩;rw[BV,List.take_add]
theorem pA {s:Nat}{del:Nat->Bool}{flat:List Value}:∀ {j:Nat},j*s<=flat.length->(fO s del flat j).length=dI del j*s
 |0,_=>by simp[fO,dI]
 |j+1,u=>by
  rw[BV]at u;have r:=pA (s:=s) (del:=del) (flat:=flat) (j:=j) (by omega);simp only[fO,dI];cases del j with
  |true=>simp[r]
  |false =>
   simp only[BX,if_false,B8,r,BZ,CB,BV];omega
theorem eq.skip {w:World}{g n s:Nat}{E:TypeId}{I:Nat}{del:Nat->Bool}{flat:List Value}{p j:Nat}{u y:World}(h:eq w g n s E I del flat p j u)(M:del j=true)
  (os:y.os=u.os) (tape:y.tape=u.tape) (output:y.output=u.output) (size:u.heap.size<=y.heap.size) (r:∀ k,k<u.heap.size->y.heap[k]?=u.heap[k]?) (Y:g<w.heap.size):eq w g n s E I del flat p (j+1) y:=by
 obtain⟨z,O,X,R,Z⟩:=h.row;refine⟨os.trans h.os,tape.trans h.tape,output.trans h.output,Nat.le_trans h.size size,λk J H=>(r k (B4 J h.size)).trans (h.other k J H),⟨z,(r g (B4 Y h.size)).trans O,X,?_,λt ht H=>Z t (by rw[BV]at ht;omega) H⟩,?_,Nat.lt_succ_of_lt h.lt⟩
 ·simp only[fO,M,if_true,List.append_nil];exact R
 ·simp only[dI,M,if_true,CA];exact h.cnt
theorem eq.keep {w:World}{g n s:Nat}{E:TypeId}{O:Nat}{del:Nat->Bool}{flat:List Value}{p j:Nat}{u z:World}{r:Array Value}{cs:List Value}(h:eq w g n s E O del flat p j u)(I:u.heap[g]?=some (.cells r E (0,0)))(hd:del j=false)
  (os:z.os=u.os) (tape:z.tape=u.tape) (output:z.output=u.output) (size:u.heap.size<=z.heap.size) (y:∀ k,k<u.heap.size->k≠g->z.heap[k]?=u.heap[k]?) (hj:j<n) (Y:n*s<=O)
  (hy:z.heap[g]?=some (.cells (gu r (p*s) cs) E (0,0))) (H:cs.length=s) (hc:(flat.drop (j*s)).take s=cs):eq w g n s E O del flat (p+1) (j+1) z:=by
 obtain⟨X,M,Z,h3,h4⟩:=h.row;rw[I]at M;simp only[B9,Obj.cells.injEq]at M;obtain⟨rfl,_⟩:=M;have R:=h.lt;have a0:p*s+s<=j*s:=by rw[<- BV];exact B6 _ R
 have a1:j*s+s<=n*s:=by rw[<- BV];exact B6 _ hj
 refine⟨os.trans h.os,tape.trans h.tape,output.trans h.output,Nat.le_trans h.size size,λk hk J=>(y k (B4 hk h.size) J).trans (h.other k hk J),⟨_,hy,by rw[qt];exact Z,?_,λt ht J=>?_⟩,?_,by omega⟩
 ·have:=wX cs r (p*s) (by rw[H,Z];omega);rw[H]at this;rw[BV,this,h3];simp only[fO,hd,BX,if_false,hc]
 ·rw[BV]at ht;rw[k9 cs r _ t (.inr (by rw[H];omega))];exact h4 t (by omega) J
 ·simp only[dI,hd,BX,if_false,h.cnt]
end Go.Proofs.YtaegajachoklkaaGreatEv
