/- slices.DeleteFunc: what its walk needs. -/
import Derived.Test.YtaegajachoklkaaGreatEvR
import Derived.Laws.CopyRow
import Derived.Lib.AppendZerosOnto
set_option linter.unusedVariables false
set_option linter.unusedSimpArgs false
open Array renaming length_toList->BI,getElem?_toList->BK,getElem?_setIfInBounds->BM
open Bool renaming false_eq_true->BJ
open Go.Builtin renaming zeroCells->BG,clear_->BV
open List renaming length_take->BL,length_cons->BO,getElem?_take->BQ,length_append->BR,length_drop->BU
open Nat renaming succ_mul->BH,lt_of_lt_of_le->BN,mul_le_mul_right->BP,add_zero->BT
open Option.some renaming injEq->BS
namespace Go.Proofs.YtaegajachoklkaaGreatEv
open Go Go.Proofs Go.RowKit
structure gf (N:Nat) (a b:World):Prop where
 os:b.os=a.os
 tape:b.tape=a.tape
 output:b.output=a.output
 size:b.heap.size=a.heap.size
 other:∀ k,k≠N->b.heap[k]?=a.heap[k]?
theorem gf.trans {N:Nat}{a b c:World}(h:gf N a b)(k:gf N b c):gf N a c :=
 ⟨k.os.trans h.os,k.tape.trans h.tape,k.output.trans h.output,k.size.trans h.size,λi r=>(k.other i r).trans (h.other i r)⟩
theorem yp (w:World)(g:Nat)(cs:Array Value):gf g w (w.setRow g cs):=⟨rfl,rfl,rfl,by simp,λk r=>setRow_other w g k cs r⟩
theorem bZ {P:Program}(w:World)(N t:Nat)(cur:Array Value)(E:TypeId)(v:Value)(h:w.heap[N]?=some (.cells cur E (0,0)))(y:t<cur.size)(z:v.oneCell'=true) :
  ∃ w1,(store ⟨N,t,none⟩ v).run P w=.ok () w1/\w1.heap[N]?=some (.cells (cur.setIfInBounds t v) E (0,0))/\gf N w w1:=by
 have r:w.cell? ⟨N,t,none⟩=some cur[t]:=by simp[World.cell?,h,y]
 have u:w.frozen? ⟨N,t,none⟩=false:=by simp[World.frozen?,h]
 refine⟨_,?_,setRow_heap w N cur (cur.setIfInBounds t v) E (0,0) h,yp _ _ _⟩;rw[run_store P w _ v _ z,r];simp[u,setCell_eq_setRow w N t cur E (0,0) v h]
def gh (cur:Array Value)(o:Nat):List Value->Array Value
 |[]=>cur
 |c::r=>gh (cur.setIfInBounds o c) (o+1) r
theorem qn:∀ (cs:List Value) (cur:Array Value) (o:Nat),(gh cur o cs).size=cur.size
 |[],_,_=>rfl
 |c::cs,cur,o=>by rw[gh,qn cs];simp
theorem k9:∀ (cs:List Value) (cur:Array Value) (o t:Nat),t<o\/o+cs.length<=t->(gh cur o cs)[t]?=cur[t]?
 |[],_,_,_,_=>rfl
 |c::cs,cur,o,t,h=>by
  rw[BO]at h;rw[gh,k9 cs _ _ t (by omega),BM,if_neg (by omega)]
theorem ud:∀ (cs:List Value) (cur:Array Value) (o i:Nat) (u:Value),o+cs.length<=cur.size->cs[i]?=some u->(gh cur o cs)[o+i]?=some u
 |[],_,_,_,_,_,h=>by simp at h
 |c::cs,cur,o,0,u,r,h=>by
  simp only[List.getElem?_cons_zero,BS]at h;subst h;rw[BO]at r;rw[gh,k9 cs _ _ _ (by omega),BM,if_pos (by omega),if_pos (by omega)]
 |c::cs,cur,o,i+1,u,r,h=>by
  rw[BO]at r;rw[List.getElem?_cons_succ]at h;have:=ud cs (cur.setIfInBounds o c) (o+1) i u (by rw[Array.size_setIfInBounds];omega) h;rw[gh,show o+(i+1)=o+1+i by omega];exact this
theorem wL (cs:List Value)(cur:Array Value)(o:Nat)(h:o+cs.length<=cur.size):(gh cur o cs).toList.take (o+cs.length)=cur.toList.take o++cs:=by
 refine List.ext_getElem? λi=>?_
 rw[BQ];have z:(cur.toList.take o).length=o:=by rw[BL,BI];omega
 by_cases y:i<o
 ·rw[if_pos (by omega),List.getElem?_append_left (by omega),BQ,if_pos y,BK,BK,k9 cs cur o i (.inl y)]
 ·rw[List.getElem?_append_right (by omega),z];by_cases r:i<o+cs.length
  ·rw[if_pos r,BK];have u:cs[i-o]?=some cs[i-o]:=List.getElem?_eq_getElem (by omega);rw[u];have:=ud cs cur o (i-o) _ h u
   rwa [show o+(i-o)=i by omega]at this
  ·rw[if_neg r,List.getElem?_eq_none (by omega)]
theorem mJ {P:Program}(w:World)(t e:TypeId)(i:TypeInfo)(z:Value)(X:P.underlying t=some (.slice e))(hi:P.info? e=some i)(hz:i.zero=some z)(g o n c:Nat)(cur:Array Value)(E:TypeId)(R:w.heap[g]?=some (.cells cur E (0,0)))
  (hn:0<n) (y:o+n*z.cells.size<=cur.size) (h1:∀ v∈z.cells.toList,v.oneCell'=true) :
  ∃ r:Array Value,(∀ ty,(BV #[t] ty #[.slice (some ⟨g,o,none⟩) n c]).run P w=.ok (.tuple #[]) (w.setRow g r))/\r.size=cur.size/\r.toList.take o=cur.toList.take o:=by
 have M:(BG z.cells n).toList.length=n*z.cells.size:=by rw[BI,size_zeroCells]
 have Z:∀ v∈(BG z.cells n).toList,v.oneCell'=true:=by
  intro v O;simp only[BG,Array.toList_map,List.mem_map]at O;obtain⟨j,hj,rfl⟩:=O;have J:j<n*z.cells.size:=by simpa using hj
  have Y:0<z.cells.size:=by
   rcases Nat.eq_zero_or_pos z.cells.size with h|h
   ·rw[h]at J;omega
   ·exact h
  have hm:j % z.cells.size<z.cells.size:=Nat.mod_lt _ Y;rw[getElem!_pos z.cells _ hm];exact h1 _ (by simp)
 have H:=run_storeCells_at (P:=P) g o E (BG z.cells n).toList 0 cur w R (by rw[M];exact y) Z;obtain⟨r,u⟩:∃ r,r=(cur.toList.take (o+0)++(BG z.cells n).toList++cur.toList.drop (o+0+(BG z.cells n).toList.length)).toArray:=⟨_,rfl⟩;rw[<- u]at H;have e1:r.size=cur.size:=by
  rw[u];simp only[List.size_toArray,BR,BL,BU,M,BI,BT];omega
 have e2:r.toList.take o=cur.toList.take o:=by
  rw[u];simp only[BT,List.append_assoc];exact List.take_left' (by rw[BL,BI];omega)
 obtain⟨m,rfl⟩:∃ m,n=m+1:=⟨n-1,by omega⟩;refine⟨r,λty=>?_,e1,e2⟩;have I:∀ w,(zeroValue e).run P w=.ok z w:=λw=>by simp[zeroValue,typeInfo,hi,hz]
 simp[BV,run_underlying X,I,H]
structure ea (w:World) (g n s:Nat) (E:TypeId) (sz:Nat) (del:Nat->Bool) (flat:List Value) (p j:Nat) (wx:World):Prop where
 os:wx.os=w.os
 tape:wx.tape=w.tape
 output:wx.output=w.output
 size:w.heap.size<=wx.heap.size
 other:∀ k,k<w.heap.size->k≠g->wx.heap[k]?=w.heap[k]?
 row:∃ curx:Array Value,wx.heap[g]?=some (.cells curx E (0,0))/\curx.size=sz/\curx.toList.take (p*s)=fG s del flat j/\∀ t,j*s<=t->t<n*s->curx[t]?=flat[t]?
 cnt:p=dy del j
 lt:p<j
theorem wM {del:Nat->Bool}:∀ {j:Nat},dy del j=j->∀ i,i<j->del i=false
 |0,_,i,z=>by omega
 |j+1,h,i,z=>by
  have r:∀ m,dy del m<=m:=λm=>by
   induction m with
   |zero=>exact Nat.le_refl _
   |succ m H=>simp only[dy];split <;> omega
  have:=r j;simp only[dy]at h;cases u:del j with
  |true=>rw[u]at h;simp at h;omega
  |false =>
   rw[u]at h;simp at h;rcases Nat.lt_or_eq_of_le (Nat.le_of_lt_succ z) with y|y
   ·exact wM h i y
   ·subst y;exact u
theorem pq {s:Nat}{del:Nat->Bool}{flat:List Value}:∀ {j:Nat},(∀ i,i<j->del i=false)->j*s<=flat.length->fG s del flat j=flat.take (j*s)/\dy del j=j
 |0,_,_=>by simp[fG,dy]
 |j+1,h,u=>by
  rw[BH]at u;obtain⟨y,r⟩:=pq (s:=s) (del:=del) (flat:=flat) (j:=j) (λi z=>h i (by omega)) (by omega);simp only[fG,dy,h j (by omega),BJ,if_false,y,r];refine⟨?_,trivial⟩;rw[BH,List.take_add]
theorem pt {s:Nat}{del:Nat->Bool}{flat:List Value}:∀ {j:Nat},j*s<=flat.length->(fG s del flat j).length=dy del j*s
 |0,_=>by simp[fG,dy]
 |j+1,u=>by
  rw[BH]at u;have r:=pt (s:=s) (del:=del) (flat:=flat) (j:=j) (by omega);simp only[fG,dy];cases del j with
  |true=>simp[r]
  |false =>
   simp only[BJ,if_false,BR,r,BL,BU,BH];omega
theorem ea.skip {w:World}{g n s:Nat}{E:TypeId}{J:Nat}{del:Nat->Bool}{flat:List Value}{p j:Nat}{u y:World}(h:ea w g n s E J del flat p j u)(M:del j=true)
  (O:y.os=u.os) (tape:y.tape=u.tape) (output:y.output=u.output) (size:u.heap.size<=y.heap.size) (r:∀ k,k<u.heap.size->y.heap[k]?=u.heap[k]?) (R:g<w.heap.size):ea w g n s E J del flat p (j+1) y:=by
 obtain⟨z,h1,h2,Y,Z⟩:=h.row;refine⟨O.trans h.os,tape.trans h.tape,output.trans h.output,Nat.le_trans h.size size,λk I H=>(r k (BN I h.size)).trans (h.other k I H),⟨z,(r g (BN R h.size)).trans h1,h2,?_,λt X H=>Z t (by rw[BH]at X;omega) H⟩,?_,Nat.lt_succ_of_lt h.lt⟩
 ·simp only[fG,M,if_true,List.append_nil];exact Y
 ·simp only[dy,M,if_true,BT];exact h.cnt
theorem ea.keep {w:World}{g n s:Nat}{E:TypeId}{X:Nat}{del:Nat->Bool}{flat:List Value}{p j:Nat}{u y:World}{r:Array Value}{cs:List Value}(h:ea w g n s E X del flat p j u)(I:u.heap[g]?=some (.cells r E (0,0)))(hd:del j=false)
  (os:y.os=u.os) (tape:y.tape=u.tape) (output:y.output=u.output) (size:u.heap.size<=y.heap.size) (z:∀ k,k<u.heap.size->k≠g->y.heap[k]?=u.heap[k]?) (hj:j<n) (a0:n*s<=X)
  (hy:y.heap[g]?=some (.cells (gh r (p*s) cs) E (0,0))) (H:cs.length=s) (hc:(flat.drop (j*s)).take s=cs):ea w g n s E X del flat (p+1) (j+1) y:=by
 obtain⟨O,R,Z,h3,h4⟩:=h.row;rw[I]at R;simp only[BS,Obj.cells.injEq]at R;obtain⟨rfl,_⟩:=R;have M:=h.lt;have a2:p*s+s<=j*s:=by rw[<- BH];exact BP _ M
 have a1:j*s+s<=n*s:=by rw[<- BH];exact BP _ hj
 refine⟨os.trans h.os,tape.trans h.tape,output.trans h.output,Nat.le_trans h.size size,λk Y J=>(z k (BN Y h.size) J).trans (h.other k Y J),⟨_,hy,by rw[qn];exact Z,?_,λt ht J=>?_⟩,?_,by omega⟩
 ·have:=wL cs r (p*s) (by rw[H,Z];omega);rw[H]at this;rw[BH,this,h3];simp only[fG,hd,BJ,if_false,hc]
 ·rw[BH]at ht;rw[k9 cs r _ t (.inr (by rw[H];omega))];exact h4 t (by omega) J
 ·simp only[dy,hd,BJ,if_false,h.cnt]
end Go.Proofs.YtaegajachoklkaaGreatEv
