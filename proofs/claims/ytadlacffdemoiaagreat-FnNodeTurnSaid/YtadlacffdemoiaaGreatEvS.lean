/- slices.DeleteFunc: what its walk needs. -/
import Derived.Test.YtadlacffdemoiaaGreatEvR
import Derived.Laws.CopyRow
import Derived.Lib.AppendZerosOnto
set_option linter.unusedVariables false
set_option linter.unusedSimpArgs false
open Array renaming length_toList->BS,getElem?_toList->BU,getElem?_setIfInBounds->BW
open Bool renaming false_eq_true->BT
open Go.Builtin renaming zeroCells->BQ,clear_->B8
open List renaming length_take->BV,length_cons->BY,getElem?_take->B3,length_append->B4,length_drop->B7
open Nat renaming succ_mul->BR,lt_of_lt_of_le->BX,mul_le_mul_right->BZ,add_zero->B6
open Option.some renaming injEq->B5
namespace Go.Proofs.YtadlacffdemoiaaGreatEv
open Go Go.Proofs Go.RowKit
structure gl (N:Nat) (a b:World):Prop where
 os:b.os=a.os
 tape:b.tape=a.tape
 output:b.output=a.output
 size:b.heap.size=a.heap.size
 other:∀ k,k≠N->b.heap[k]?=a.heap[k]?
theorem gl.trans {N:Nat}{a b c:World}(h:gl N a b)(k:gl N b c):gl N a c :=
 ⟨k.os.trans h.os,k.tape.trans h.tape,k.output.trans h.output,k.size.trans h.size,λi r=>(k.other i r).trans (h.other i r)⟩
theorem yq (w:World)(g:Nat)(cs:Array Value):gl g w (w.setRow g cs):=⟨rfl,rfl,rfl,by simp,λk r=>setRow_other w g k cs r⟩
theorem b7 {P:Program}(w:World)(N t:Nat)(cur:Array Value)(E:TypeId)(v:Value)(h:w.heap[N]?=some (.cells cur E (0,0)))(y:t<cur.size)(z:v.oneCell'=true) :
  ∃ w1,(store ⟨N,t,none⟩ v).run P w=.ok () w1/\w1.heap[N]?=some (.cells (cur.setIfInBounds t v) E (0,0))/\gl N w w1:=by
 have r:w.cell? ⟨N,t,none⟩=some cur[t]:=by simp[World.cell?,h,y]
 have u:w.frozen? ⟨N,t,none⟩=false:=by simp[World.frozen?,h]
 refine⟨_,?_,setRow_heap w N cur (cur.setIfInBounds t v) E (0,0) h,yq _ _ _⟩;rw[run_store P w _ v _ z,r];simp[u,setCell_eq_setRow w N t cur E (0,0) v h]
def gm (cur:Array Value)(o:Nat):List Value->Array Value
 |[]=>cur
 |c::r=>gm (cur.setIfInBounds o c) (o+1) r
theorem qy:∀ (cs:List Value) (cur:Array Value) (o:Nat),(gm cur o cs).size=cur.size
 |[],_,_=>rfl
 |c::cs,cur,o=>by rw[gm,qy cs];simp
theorem kU:∀ (cs:List Value) (cur:Array Value) (o t:Nat),t<o\/o+cs.length<=t->(gm cur o cs)[t]?=cur[t]?
 |[],_,_,_,_=>rfl
 |c::cs,cur,o,t,h=>by
  rw[BY]at h;rw[gm,kU cs _ _ t (by omega),BW,if_neg (by omega)]
theorem uo:∀ (cs:List Value) (cur:Array Value) (o i:Nat) (u:Value),o+cs.length<=cur.size->cs[i]?=some u->(gm cur o cs)[o+i]?=some u
 |[],_,_,_,_,_,h=>by simp at h
 |c::cs,cur,o,0,u,r,h=>by
  simp only[List.getElem?_cons_zero,B5]at h;subst h;rw[BY]at r;rw[gm,kU cs _ _ _ (by omega),BW,if_pos (by omega),if_pos (by omega)]
 |c::cs,cur,o,i+1,u,r,h=>by
  rw[BY]at r;rw[List.getElem?_cons_succ]at h;have:=uo cs (cur.setIfInBounds o c) (o+1) i u (by rw[Array.size_setIfInBounds];omega) h;rw[gm,show o+(i+1)=o+1+i by omega];exact this
theorem wX (cs:List Value)(cur:Array Value)(o:Nat)(h:o+cs.length<=cur.size):(gm cur o cs).toList.take (o+cs.length)=cur.toList.take o++cs:=by
 refine List.ext_getElem? λi=>?_
 rw[B3];have z:(cur.toList.take o).length=o:=by rw[BV,BS];omega
 by_cases r:i<o
 ·rw[if_pos (by omega),List.getElem?_append_left (by omega),B3,if_pos r,BU,BU,kU cs cur o i (.inl r)]
 ·rw[List.getElem?_append_right (by omega),z];by_cases u:i<o+cs.length
  ·rw[if_pos u,BU];have y:cs[i-o]?=some cs[i-o]:=List.getElem?_eq_getElem (by omega);rw[y];have:=uo cs cur o (i-o) _ h y
   rwa [show o+(i-o)=i by omega]at this
  ·rw[if_neg u,List.getElem?_eq_none (by omega)]
theorem mN {P:Program}(w:World)(t e:TypeId)(i:TypeInfo)(z:Value)(hu:P.underlying t=some (.slice e))(hi:P.info? e=some i)(hz:i.zero=some z)(g o n c:Nat)(cur:Array Value)(E:TypeId)(hg:w.heap[g]?=some (.cells cur E (0,0)))
  (hn:0<n) (y:o+n*z.cells.size<=cur.size) (R:∀ v∈z.cells.toList,v.oneCell'=true) :
  ∃ r:Array Value,(∀ ty,(B8 #[t] ty #[.slice (some ⟨g,o,none⟩) n c]).run P w=.ok (.tuple #[]) (w.setRow g r))/\r.size=cur.size/\r.toList.take o=cur.toList.take o:=by
 have M:(BQ z.cells n).toList.length=n*z.cells.size:=by rw[BS,size_zeroCells]
 have h2:∀ v∈(BQ z.cells n).toList,v.oneCell'=true:=by
  intro v O;simp only[BQ,Array.toList_map,List.mem_map]at O;obtain⟨j,Y,rfl⟩:=O;have J:j<n*z.cells.size:=by simpa using Y
  have hp:0<z.cells.size:=by
   rcases Nat.eq_zero_or_pos z.cells.size with h|h
   ·rw[h]at J;omega
   ·exact h
  have hm:j % z.cells.size<z.cells.size:=Nat.mod_lt _ hp;rw[getElem!_pos z.cells _ hm];exact R _ (by simp)
 have H:=run_storeCells_at (P:=P) g o E (BQ z.cells n).toList 0 cur w hg (by rw[M];exact y) h2;obtain⟨r,u⟩:∃ r,r=(cur.toList.take (o+0)++(BQ z.cells n).toList++cur.toList.drop (o+0+(BQ z.cells n).toList.length)).toArray:=⟨_,rfl⟩;rw[<- u]at H;have Z:r.size=cur.size:=by
  rw[u];simp only[List.size_toArray,B4,BV,B7,M,BS,B6];omega
 have X:r.toList.take o=cur.toList.take o:=by
  rw[u];simp only[B6,List.append_assoc];exact List.take_left' (by rw[BV,BS];omega)
 obtain⟨m,rfl⟩:∃ m,n=m+1:=⟨n-1,by omega⟩;refine⟨r,λty=>?_,Z,X⟩;have I:∀ w,(zeroValue e).run P w=.ok z w:=λw=>by simp[zeroValue,typeInfo,hi,hz]
 simp[B8,run_underlying hu,I,H]
structure eh (w:World) (g n s:Nat) (E:TypeId) (sz:Nat) (del:Nat->Bool) (flat:List Value) (p j:Nat) (wx:World):Prop where
 os:wx.os=w.os
 tape:wx.tape=w.tape
 output:wx.output=w.output
 size:w.heap.size<=wx.heap.size
 other:∀ k,k<w.heap.size->k≠g->wx.heap[k]?=w.heap[k]?
 row:∃ curx:Array Value,wx.heap[g]?=some (.cells curx E (0,0))/\curx.size=sz/\curx.toList.take (p*s)=fE s del flat j/\∀ t,j*s<=t->t<n*s->curx[t]?=flat[t]?
 cnt:p=dE del j
 lt:p<j
theorem wY {del:Nat->Bool}:∀ {j:Nat},dE del j=j->∀ i,i<j->del i=false
 |0,_,i,z=>by omega
 |j+1,h,i,z=>by
  have r:∀ m,dE del m<=m:=λm=>by
   induction m with
   |zero=>exact Nat.le_refl _
   |succ m H=>simp only[dE];split <;> omega
  have:=r j;simp only[dE]at h;cases y:del j with
  |true=>rw[y]at h;simp at h;omega
  |false =>
   rw[y]at h;simp at h;rcases Nat.lt_or_eq_of_le (Nat.le_of_lt_succ z) with u|u
   ·exact wY h i u
   ·subst u;exact y
theorem pE {s:Nat}{del:Nat->Bool}{flat:List Value}:∀ {j:Nat},(∀ i,i<j->del i=false)->j*s<=flat.length->fE s del flat j=flat.take (j*s)/\dE del j=j
 |0,_,_=>by simp[fE,dE]
 |j+1,h,r=>by
  rw[BR]at r;obtain⟨u,y⟩:=pE (s:=s) (del:=del) (flat:=flat) (j:=j) (λi z=>h i (by omega)) (by omega);simp only[fE,dE,h j (by omega),BT,if_false,u,y];refine⟨?_,trivial⟩;rw[BR,List.take_add]
theorem pF {s:Nat}{del:Nat->Bool}{flat:List Value}:∀ {j:Nat},j*s<=flat.length->(fE s del flat j).length=dE del j*s
 |0,_=>by simp[fE,dE]
 |j+1,u=>by
  rw[BR]at u;have r:=pF (s:=s) (del:=del) (flat:=flat) (j:=j) (by omega);simp only[fE,dE];cases del j with
  |true=>simp[r]
  |false =>
   simp only[BT,if_false,B4,r,BV,B7,BR];omega
theorem eh.skip {w:World}{g n s:Nat}{E:TypeId}{I:Nat}{del:Nat->Bool}{flat:List Value}{p j:Nat}{u y:World}(h:eh w g n s E I del flat p j u)(M:del j=true)
  (os:y.os=u.os) (tape:y.tape=u.tape) (output:y.output=u.output) (size:u.heap.size<=y.heap.size) (r:∀ k,k<u.heap.size->y.heap[k]?=u.heap[k]?) (Y:g<w.heap.size):eh w g n s E I del flat p (j+1) y:=by
 obtain⟨z,O,Z,h3,R⟩:=h.row;refine⟨os.trans h.os,tape.trans h.tape,output.trans h.output,Nat.le_trans h.size size,λk J H=>(r k (BX J h.size)).trans (h.other k J H),⟨z,(r g (BX Y h.size)).trans O,Z,?_,λt X H=>R t (by rw[BR]at X;omega) H⟩,?_,Nat.lt_succ_of_lt h.lt⟩
 ·simp only[fE,M,if_true,List.append_nil];exact h3
 ·simp only[dE,M,if_true,B6];exact h.cnt
theorem eh.keep {w:World}{g n s:Nat}{E:TypeId}{M:Nat}{del:Nat->Bool}{flat:List Value}{p j:Nat}{u H:World}{r:Array Value}{cs:List Value}(h:eh w g n s E M del flat p j u)(I:u.heap[g]?=some (.cells r E (0,0)))(hd:del j=false)
  (os:H.os=u.os) (tape:H.tape=u.tape) (output:H.output=u.output) (size:u.heap.size<=H.heap.size) (y:∀ k,k<u.heap.size->k≠g->H.heap[k]?=u.heap[k]?) (hj:j<n) (Y:n*s<=M)
  (hy:H.heap[g]?=some (.cells (gm r (p*s) cs) E (0,0))) (z:cs.length=s) (hc:(flat.drop (j*s)).take s=cs):eh w g n s E M del flat (p+1) (j+1) H:=by
 obtain⟨O,R,h2,h3,h4⟩:=h.row;rw[I]at R;simp only[B5,Obj.cells.injEq]at R;obtain⟨rfl,_⟩:=R;have X:=h.lt;have a1:p*s+s<=j*s:=by rw[<- BR];exact BZ _ X
 have a0:j*s+s<=n*s:=by rw[<- BR];exact BZ _ hj
 refine⟨os.trans h.os,tape.trans h.tape,output.trans h.output,Nat.le_trans h.size size,λk Z J=>(y k (BX Z h.size) J).trans (h.other k Z J),⟨_,hy,by rw[qy];exact h2,?_,λt ht J=>?_⟩,?_,by omega⟩
 ·have:=wX cs r (p*s) (by rw[z,h2];omega);rw[z]at this;rw[BR,this,h3];simp only[fE,hd,BT,if_false,hc]
 ·rw[BR]at ht;rw[kU cs r _ t (.inr (by rw[z];omega))];exact h4 t (by omega) J
 ·simp only[dE,hd,BT,if_false,h.cnt]
end Go.Proofs.YtadlacffdemoiaaGreatEv
