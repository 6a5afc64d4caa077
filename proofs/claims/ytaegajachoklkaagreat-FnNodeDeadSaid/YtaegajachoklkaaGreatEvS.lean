/- slices.DeleteFunc: what its walk needs. -/
import Derived.Test.YtaegajachoklkaaGreatEvR
import Derived.Laws.CopyRow
import Derived.Lib.AppendZerosOnto
set_option linter.unusedVariables false
set_option linter.unusedSimpArgs false
open Array renaming length_toList->BM,getElem?_toList->BO,getElem?_setIfInBounds->BQ
open Bool renaming false_eq_true->BN
open Go.Builtin renaming zeroCells->BK,clear_->BZ
open List renaming length_take->BP,length_cons->BS,getElem?_take->BU,length_append->BV,length_drop->BY
open Nat renaming succ_mul->BL,lt_of_lt_of_le->BR,mul_le_mul_right->BT,add_zero->BX
open Option.some renaming injEq->BW
namespace Go.Proofs.YtaegajachoklkaaGreatEv
open Go Go.Proofs Go.RowKit
structure gh (N:Nat) (a b:World):Prop where
 os:b.os=a.os
 tape:b.tape=a.tape
 output:b.output=a.output
 size:b.heap.size=a.heap.size
 other:∀ k,k≠N->b.heap[k]?=a.heap[k]?
theorem gh.trans {N:Nat}{a b c:World}(h:gh N a b)(k:gh N b c):gh N a c :=
 ⟨k.os.trans h.os,k.tape.trans h.tape,k.output.trans h.output,k.size.trans h.size,λi r=>(k.other i r).trans (h.other i r)⟩
theorem yx (w:World)(g:Nat)(cs:Array Value):gh g w (w.setRow g cs):=⟨rfl,rfl,rfl,by simp,λk r=>setRow_other w g k cs r⟩
theorem bY {P:Program}(w:World)(N t:Nat)(cur:Array Value)(E:TypeId)(v:Value)(h:w.heap[N]?=some (.cells cur E (0,0)))(y:t<cur.size)(z:v.oneCell'=true) :
  ∃ w1,(store ⟨N,t,none⟩ v).run P w=.ok () w1/\w1.heap[N]?=some (.cells (cur.setIfInBounds t v) E (0,0))/\gh N w w1:=by
 have r:w.cell? ⟨N,t,none⟩=some cur[t]:=by simp[World.cell?,h,y]
 have u:w.frozen? ⟨N,t,none⟩=false:=by simp[World.frozen?,h]
 refine⟨_,?_,setRow_heap w N cur (cur.setIfInBounds t v) E (0,0) h,yx _ _ _⟩;rw[run_store P w _ v _ z,r];simp[u,setCell_eq_setRow w N t cur E (0,0) v h]
def gi (cur:Array Value)(o:Nat):List Value->Array Value
 |[]=>cur
 |c::r=>gi (cur.setIfInBounds o c) (o+1) r
theorem qm:∀ (cs:List Value) (cur:Array Value) (o:Nat),(gi cur o cs).size=cur.size
 |[],_,_=>rfl
 |c::cs,cur,o=>by rw[gi,qm cs];simp
theorem k9:∀ (cs:List Value) (cur:Array Value) (o t:Nat),t<o\/o+cs.length<=t->(gi cur o cs)[t]?=cur[t]?
 |[],_,_,_,_=>rfl
 |c::cs,cur,o,t,h=>by
  rw[BS]at h;rw[gi,k9 cs _ _ t (by omega),BQ,if_neg (by omega)]
theorem ud:∀ (cs:List Value) (cur:Array Value) (o i:Nat) (u:Value),o+cs.length<=cur.size->cs[i]?=some u->(gi cur o cs)[o+i]?=some u
 |[],_,_,_,_,_,h=>by simp at h
 |c::cs,cur,o,0,u,r,h=>by
  simp only[List.getElem?_cons_zero,BW]at h;subst h;rw[BS]at r;rw[gi,k9 cs _ _ _ (by omega),BQ,if_pos (by omega),if_pos (by omega)]
 |c::cs,cur,o,i+1,u,r,h=>by
  rw[BS]at r;rw[List.getElem?_cons_succ]at h;have:=ud cs (cur.setIfInBounds o c) (o+1) i u (by rw[Array.size_setIfInBounds];omega) h;rw[gi,show o+(i+1)=o+1+i by omega];exact this
theorem wQ (cs:List Value)(cur:Array Value)(o:Nat)(h:o+cs.length<=cur.size):(gi cur o cs).toList.take (o+cs.length)=cur.toList.take o++cs:=by
 refine List.ext_getElem? λi=>?_
 rw[BU];have z:(cur.toList.take o).length=o:=by rw[BP,BM];omega
 by_cases r:i<o
 ·rw[if_pos (by omega),List.getElem?_append_left (by omega),BU,if_pos r,BO,BO,k9 cs cur o i (.inl r)]
 ·rw[List.getElem?_append_right (by omega),z];by_cases y:i<o+cs.length
  ·rw[if_pos y,BO];have u:cs[i-o]?=some cs[i-o]:=List.getElem?_eq_getElem (by omega);rw[u];have:=ud cs cur o (i-o) _ h u
   rwa [show o+(i-o)=i by omega]at this
  ·rw[if_neg y,List.getElem?_eq_none (by omega)]
theorem mN {P:Program}(w:World)(t e:TypeId)(i:TypeInfo)(z:Value)(hu:P.underlying t=some (.slice e))(hi:P.info? e=some i)(R:i.zero=some z)(g o n c:Nat)(cur:Array Value)(E:TypeId)(X:w.heap[g]?=some (.cells cur E (0,0)))
  (hn:0<n) (H:o+n*z.cells.size<=cur.size) (h1:∀ v∈z.cells.toList,v.oneCell'=true) :
  ∃ r:Array Value,(∀ ty,(BZ #[t] ty #[.slice (some ⟨g,o,none⟩) n c]).run P w=.ok (.tuple #[]) (w.setRow g r))/\r.size=cur.size/\r.toList.take o=cur.toList.take o:=by
 have O:(BK z.cells n).toList.length=n*z.cells.size:=by rw[BM,size_zeroCells]
 have h2:∀ v∈(BK z.cells n).toList,v.oneCell'=true:=by
  intro v M;simp only[BK,Array.toList_map,List.mem_map]at M;obtain⟨j,hj,rfl⟩:=M;have I:j<n*z.cells.size:=by simpa using hj
  have Y:0<z.cells.size:=by
   rcases Nat.eq_zero_or_pos z.cells.size with h|h
   ·rw[h]at I;omega
   ·exact h
  have hm:j % z.cells.size<z.cells.size:=Nat.mod_lt _ Y;rw[getElem!_pos z.cells _ hm];exact h1 _ (by simp)
 have y:=run_storeCells_at (P:=P) g o E (BK z.cells n).toList 0 cur w X (by rw[O];exact H) h2;obtain⟨r,u⟩:∃ r,r=(cur.toList.take (o+0)++(BK z.cells n).toList++cur.toList.drop (o+0+(BK z.cells n).toList.length)).toArray:=⟨_,rfl⟩;rw[<- u]at y;have Z:r.size=cur.size:=by
  rw[u];simp only[List.size_toArray,BV,BP,BY,O,BM,BX];omega
 have e2:r.toList.take o=cur.toList.take o:=by
  rw[u];simp only[BX,List.append_assoc];exact List.take_left' (by rw[BP,BM];omega)
 obtain⟨m,rfl⟩:∃ m,n=m+1:=⟨n-1,by omega⟩;refine⟨r,λty=>?_,Z,e2⟩;have J:∀ w,(zeroValue e).run P w=.ok z w:=λw=>by simp[zeroValue,typeInfo,hi,R]
 simp[BZ,run_underlying hu,J,y]
structure ee (w:World) (g n s:Nat) (E:TypeId) (sz:Nat) (del:Nat->Bool) (flat:List Value) (p j:Nat) (wx:World):Prop where
 os:wx.os=w.os
 tape:wx.tape=w.tape
 output:wx.output=w.output
 size:w.heap.size<=wx.heap.size
 other:∀ k,k<w.heap.size->k≠g->wx.heap[k]?=w.heap[k]?
 row:∃ curx:Array Value,wx.heap[g]?=some (.cells curx E (0,0))/\curx.size=sz/\curx.toList.take (p*s)=fF s del flat j/\∀ t,j*s<=t->t<n*s->curx[t]?=flat[t]?
 cnt:p=dy del j
 lt:p<j
theorem wR {del:Nat->Bool}:∀ {j:Nat},dy del j=j->∀ i,i<j->del i=false
 |0,_,i,z=>by omega
 |j+1,h,i,z=>by
  have y:∀ m,dy del m<=m:=λm=>by
   induction m with
   |zero=>exact Nat.le_refl _
   |succ m H=>simp only[dy];split <;> omega
  have:=y j;simp only[dy]at h;cases r:del j with
  |true=>rw[r]at h;simp at h;omega
  |false =>
   rw[r]at h;simp at h;rcases Nat.lt_or_eq_of_le (Nat.le_of_lt_succ z) with u|u
   ·exact wR h i u
   ·subst u;exact r
theorem pm {s:Nat}{del:Nat->Bool}{flat:List Value}:∀ {j:Nat},(∀ i,i<j->del i=false)->j*s<=flat.length->fF s del flat j=flat.take (j*s)/\dy del j=j
 |0,_,_=>by simp[fF,dy]
 |j+1,h,u=>by
  rw[BL]at u;obtain⟨r,y⟩:=pm (s:=s) (del:=del) (flat:=flat) (j:=j) (λi z=>h i (by omega)) (by omega);simp only[fF,dy,h j (by omega),BN,if_false,r,y];refine⟨?_,trivial⟩;rw[BL,List.take_add]
theorem pn {s:Nat}{del:Nat->Bool}{flat:List Value}:∀ {j:Nat},j*s<=flat.length->(fF s del flat j).length=dy del j*s
 |0,_=>by simp[fF,dy]
 |j+1,u=>by
  rw[BL]at u;have r:=pn (s:=s) (del:=del) (flat:=flat) (j:=j) (by omega);simp only[fF,dy];cases del j with
  |true=>simp[r]
  |false =>
   simp only[BN,if_false,BV,r,BP,BY,BL];omega
theorem ee.skip {w:World}{g n s:Nat}{E:TypeId}{J:Nat}{del:Nat->Bool}{flat:List Value}{p j:Nat}{u y:World}(h:ee w g n s E J del flat p j u)(M:del j=true)
  (X:y.os=u.os) (tape:y.tape=u.tape) (output:y.output=u.output) (size:u.heap.size<=y.heap.size) (r:∀ k,k<u.heap.size->y.heap[k]?=u.heap[k]?) (R:g<w.heap.size):ee w g n s E J del flat p (j+1) y:=by
 obtain⟨z,Y,Z,h3,h4⟩:=h.row;refine⟨X.trans h.os,tape.trans h.tape,output.trans h.output,Nat.le_trans h.size size,λk I H=>(r k (BR I h.size)).trans (h.other k I H),⟨z,(r g (BR R h.size)).trans Y,Z,?_,λt O H=>h4 t (by rw[BL]at O;omega) H⟩,?_,Nat.lt_succ_of_lt h.lt⟩
 ·simp only[fF,M,if_true,List.append_nil];exact h3
 ·simp only[dy,M,if_true,BX];exact h.cnt
theorem ee.keep {w:World}{g n s:Nat}{E:TypeId}{R:Nat}{del:Nat->Bool}{flat:List Value}{p j:Nat}{u z:World}{r:Array Value}{cs:List Value}(h:ee w g n s E R del flat p j u)(I:u.heap[g]?=some (.cells r E (0,0)))(Z:del j=false)
  (os:z.os=u.os) (tape:z.tape=u.tape) (output:z.output=u.output) (size:u.heap.size<=z.heap.size) (H:∀ k,k<u.heap.size->k≠g->z.heap[k]?=u.heap[k]?) (hj:j<n) (a0:n*s<=R)
  (hy:z.heap[g]?=some (.cells (gi r (p*s) cs) E (0,0))) (y:cs.length=s) (hc:(flat.drop (j*s)).take s=cs):ee w g n s E R del flat (p+1) (j+1) z:=by
 obtain⟨O,X,h2,h3,h4⟩:=h.row;rw[I]at X;simp only[BW,Obj.cells.injEq]at X;obtain⟨rfl,_⟩:=X;have M:=h.lt;have a1:p*s+s<=j*s:=by rw[<- BL];exact BT _ M
 have a2:j*s+s<=n*s:=by rw[<- BL];exact BT _ hj
 refine⟨os.trans h.os,tape.trans h.tape,output.trans h.output,Nat.le_trans h.size size,λk Y J=>(H k (BR Y h.size) J).trans (h.other k Y J),⟨_,hy,by rw[qm];exact h2,?_,λt ht J=>?_⟩,?_,by omega⟩
 ·have:=wQ cs r (p*s) (by rw[y,h2];omega);rw[y]at this;rw[BL,this,h3];simp only[fF,Z,BN,if_false,hc]
 ·rw[BL]at ht;rw[k9 cs r _ t (.inr (by rw[y];omega))];exact h4 t (by omega) J
 ·simp only[dy,Z,BN,if_false,h.cnt]
end Go.Proofs.YtaegajachoklkaaGreatEv
