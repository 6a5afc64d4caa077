/- slices.DeleteFunc: what its walk needs. -/
import Derived.Test.YtaegajachoklkabGreatEvR
import Derived.Laws.CopyRow
import Derived.Lib.AppendZerosOnto
set_option linter.unusedVariables false
set_option linter.unusedSimpArgs false
open Array renaming length_toList->BI,getElem?_toList->BK,getElem?_setIfInBounds->BM
open Bool renaming false_eq_true->BJ
open Go.Builtin renaming zeroCells->BG,clear_->BV
open List renaming length_take->BL,length_cons->BO,getElem?_take->BQ,length_append->BR,length_drop->BU
open Nat renaming succ_mul->BH,lt_of_lt_of_le->BN,mul_le_mul_right->BP,add_zero->BT
open Option.some renaming injEq->BS
namespace Go.Proofs.YtaegajachoklkabGreatEv
open Go Go.Proofs Go.RowKit
structure gf (N:Nat) (a b:World):Prop where
 os:b.os=a.os
 tape:b.tape=a.tape
 output:b.output=a.output
 size:b.heap.size=a.heap.size
 other:∀ k,k≠N->b.heap[k]?=a.heap[k]?
theorem gf.trans {N:Nat}{a b c:World}(h:gf N a b)(k:gf N b c):gf N a c :=
 ⟨k.os.trans h.os,k.tape.trans h.tape,k.output.trans h.output,k.size.trans h.size,λi r=>(k.other i r).trans (h.other i r)⟩
theorem yq (w:World)(g:Nat)(cs:Array Value):gf g w (w.setRow g cs):=⟨rfl,rfl,rfl,by simp,λk r=>setRow_other w g k cs r⟩
theorem bY {P:Program}(w:World)(N t:Nat)(cur:Array Value)(E:TypeId)(v:Value)(h:w.heap[N]?=some (.cells cur E (0,0)))(z:t<cur.size)(y:v.oneCell'=true) :
  ∃ w1,(store ⟨N,t,none⟩ v).run P w=.ok () w1/\w1.heap[N]?=some (.cells (cur.setIfInBounds t v) E (0,0))/\gf N w w1:=by
 have r:w.cell? ⟨N,t,none⟩=some cur[t]:=by simp[World.cell?,h,z]
 have u:w.frozen? ⟨N,t,none⟩=false:=by simp[World.frozen?,h]
 refine⟨_,?_,setRow_heap w N cur (cur.setIfInBounds t v) E (0,0) h,yq _ _ _⟩;rw[run_store P w _ v _ y,r];simp[u,setCell_eq_setRow w N t cur E (0,0) v h]
def gh (cur:Array Value)(o:Nat):List Value->Array Value
 |[]=>cur
 |c::r=>gh (cur.setIfInBounds o c) (o+1) r
theorem qm:∀ (cs:List Value) (cur:Array Value) (o:Nat),(gh cur o cs).size=cur.size
 |[],_,_=>rfl
 |c::cs,cur,o=>by rw[gh,qm cs];simp
theorem k6:∀ (cs:List Value) (cur:Array Value) (o t:Nat),t<o\/o+cs.length<=t->(gh cur o cs)[t]?=cur[t]?
 |[],_,_,_,_=>rfl
 |c::cs,cur,o,t,h=>by
  rw[BO]at h;rw[gh,k6 cs _ _ t (by omega),BM,if_neg (by omega)]
theorem ud:∀ (cs:List Value) (cur:Array Value) (o i:Nat) (u:Value),o+cs.length<=cur.size->cs[i]?=some u->(gh cur o cs)[o+i]?=some u
 |[],_,_,_,_,_,h=>by simp at h
 |c::cs,cur,o,0,u,r,h=>by
  simp only[List.getElem?_cons_zero,BS]at h;subst h;rw[BO]at r;rw[gh,k6 cs _ _ _ (by omega),BM,if_pos (by omega),if_pos (by omega)]
 |c::cs,cur,o,i+1,u,r,h=>by
  rw[BO]at r;rw[List.getElem?_cons_succ]at h;have:=ud cs (cur.setIfInBounds o c) (o+1) i u (by rw[Array.size_setIfInBounds];omega) h;rw[gh,show o+(i+1)=o+1+i by omega];exact this
theorem wM (cs:List Value)(cur:Array Value)(o:Nat)(h:o+cs.length<=cur.size):(gh cur o cs).toList.take (o+cs.length)=cur.toList.take o++cs:=by
 refine List.ext_getElem? λi=>?_
 rw[BQ];have z:(cur.toList.take o).length=o:=by rw[BL,BI];omega
 by_cases u:i<o
 ·rw[if_pos (by omega),List.getElem?_append_left (by omega),BQ,if_pos u,BK,BK,k6 cs cur o i (.inl u)]
 ·rw[List.getElem?_append_right (by omega),z];by_cases y:i<o+cs.length
  ·rw[if_pos y,BK];have r:cs[i-o]?=some cs[i-o]:=List.getElem?_eq_getElem (by omega);rw[r];have:=ud cs cur o (i-o) _ h r
   rwa [show o+(i-o)=i by omega]at this
  ·rw[if_neg y,List.getElem?_eq_none (by omega)]
theorem mG {P:Program}(w:World)(t e:TypeId)(i:TypeInfo)(z:Value)(hu:P.underlying t=some (.slice e))(hi:P.info? e=some i)(R:i.zero=some z)(g o n c:Nat)(cur:Array Value)(E:TypeId)(hg:w.heap[g]?=some (.cells cur E (0,0)))
  (hn:0<n) (H:o+n*z.cells.size<=cur.size) (X:∀ v∈z.cells.toList,v.oneCell'=true) :
  ∃ r:Array Value,(∀ ty,(BV #[t] ty #[.slice (some ⟨g,o,none⟩) n c]).run P w=.ok (.tuple #[]) (w.setRow g r))/\r.size=cur.size/\r.toList.take o=cur.toList.take o:=by
 have M:(BG z.cells n).toList.length=n*z.cells.size:=by rw[BI,size_zeroCells]
 have h2:∀ v∈(BG z.cells n).toList,v.oneCell'=true:=by
  intro v O;simp only[BG,Array.toList_map,List.mem_map]at O;obtain⟨j,Y,rfl⟩:=O;have I:j<n*z.cells.size:=by simpa using Y
  have hp:0<z.cells.size:=by
   rcases Nat.eq_zero_or_pos z.cells.size with h|h
   ·rw[h]at I;omega
   ·exact h
  have Z:j % z.cells.size<z.cells.size:=Nat.mod_lt _ hp;rw[getElem!_pos z.cells _ Z];exact X _ (by simp)
 have y:=run_storeCells_at (P:=P) g o E (BG z.cells n).toList 0 cur w hg (by rw[M];exact H) h2;obtain⟨r,u⟩:∃ r,r=(cur.toList.take (o+0)++(BG z.cells n).toList++cur.toList.drop (o+0+(BG z.cells n).toList.length)).toArray:=⟨_,rfl⟩;rw[<- u]at y;have e1:r.size=cur.size:=by
  rw[u];simp only[List.size_toArray,BR,BL,BU,M,BI,BT];omega
 have e2:r.toList.take o=cur.toList.take o:=by
  rw[u];simp only[BT,List.append_assoc];exact List.take_left' (by rw[BL,BI];omega)
 obtain⟨m,rfl⟩:∃ m,n=m+1:=⟨n-1,by omega⟩;refine⟨r,λty=>?_,e1,e2⟩;have J:∀ w,(zeroValue e).run P w=.ok z w:=λw=>by simp[zeroValue,typeInfo,hi,R]
 simp[BV,run_underlying hu,J,y]
structure d8 (w:World) (g n s:Nat) (E:TypeId) (sz:Nat) (del:Nat->Bool) (flat:List Value) (p j:Nat) (wx:World):Prop where
 os:wx.os=w.os
 tape:wx.tape=w.tape
 output:wx.output=w.output
 size:w.heap.size<=wx.heap.size
 other:∀ k,k<w.heap.size->k≠g->wx.heap[k]?=w.heap[k]?
 row:∃ curx:Array Value,wx.heap[g]?=some (.cells curx E (0,0))/\curx.size=sz/\curx.toList.take (p*s)=fE s del flat j/\∀ t,j*s<=t->t<n*s->curx[t]?=flat[t]?
 cnt:p=dw del j
 lt:p<j
theorem wN {del:Nat->Bool}:∀ {j:Nat},dw del j=j->∀ i,i<j->del i=false
 |0,_,i,z=>by omega
 |j+1,h,i,z=>by
  have r:∀ m,dw del m<=m:=λm=>by
   induction m with
   |zero=>exact Nat.le_refl _
   |succ m H=>simp only[dw];split <;> omega
  have:=r j;simp only[dw]at h;cases y:del j with
  |true=>rw[y]at h;simp at h;omega
  |false =>
   rw[y]at h;simp at h;rcases Nat.lt_or_eq_of_le (Nat.le_of_lt_succ z) with u|u
   ·exact wN h i u
   ·subst u;exact y
theorem pn {s:Nat}{del:Nat->Bool}{flat:List Value}:∀ {j:Nat},(∀ i,i<j->del i=false)->j*s<=flat.length->fE s del flat j=flat.take (j*s)/\dw del j=j
 |0,_,_=>by simp[fE,dw]
 |j+1,h,r=>by
  rw[BH]at r;obtain⟨u,y⟩:=pn (s:=s) (del:=del) (flat:=flat) (j:=j) (λi z=>h i (by omega)) (by omega);simp only[fE,dw,h j (by omega),BJ,if_false,u,y];refine⟨?_,trivial⟩;rw[BH,List.take_add]
theorem po {s:Nat}{del:Nat->Bool}{flat:List Value}:∀ {j:Nat},j*s<=flat.length->(fE s del flat j).length=dw del j*s
 |0,_=>by simp[fE,dw]
 |j+1,u=>by
  rw[BH]at u;have r:=po (s:=s) (del:=del) (flat:=flat) (j:=j) (by omega);simp only[fE,dw];cases del j with
  |true=>simp[r]
  |false =>
   simp only[BJ,if_false,BR,r,BL,BU,BH];omega
theorem d8.skip {w:World}{g n s:Nat}{E:TypeId}{M:Nat}{del:Nat->Bool}{flat:List Value}{p j:Nat}{u y:World}(h:d8 w g n s E M del flat p j u)(J:del j=true)
  (Z:y.os=u.os) (tape:y.tape=u.tape) (output:y.output=u.output) (size:u.heap.size<=y.heap.size) (r:∀ k,k<u.heap.size->y.heap[k]?=u.heap[k]?) (Y:g<w.heap.size):d8 w g n s E M del flat p (j+1) y:=by
 obtain⟨z,O,X,R,h4⟩:=h.row;refine⟨Z.trans h.os,tape.trans h.tape,output.trans h.output,Nat.le_trans h.size size,λk I H=>(r k (BN I h.size)).trans (h.other k I H),⟨z,(r g (BN Y h.size)).trans O,X,?_,λt ht H=>h4 t (by rw[BH]at ht;omega) H⟩,?_,Nat.lt_succ_of_lt h.lt⟩
 ·simp only[fE,J,if_true,List.append_nil];exact R
 ·simp only[dw,J,if_true,BT];exact h.cnt
theorem d8.keep {w:World}{g n s:Nat}{E:TypeId}{X:Nat}{del:Nat->Bool}{flat:List Value}{p j:Nat}{u H:World}{r:Array Value}{cs:List Value}(h:d8 w g n s E X del flat p j u)(I:u.heap[g]?=some (.cells r E (0,0)))(Z:del j=false)
  (os:H.os=u.os) (tape:H.tape=u.tape) (output:H.output=u.output) (size:u.heap.size<=H.heap.size) (z:∀ k,k<u.heap.size->k≠g->H.heap[k]?=u.heap[k]?) (hj:j<n) (a0:n*s<=X)
  (hy:H.heap[g]?=some (.cells (gh r (p*s) cs) E (0,0))) (y:cs.length=s) (hc:(flat.drop (j*s)).take s=cs):d8 w g n s E X del flat (p+1) (j+1) H:=by
 obtain⟨O,M,h2,h3,h4⟩:=h.row;rw[I]at M;simp only[BS,Obj.cells.injEq]at M;obtain⟨rfl,_⟩:=M;have R:=h.lt;have a1:p*s+s<=j*s:=by rw[<- BH];exact BP _ R
 have a2:j*s+s<=n*s:=by rw[<- BH];exact BP _ hj
 refine⟨os.trans h.os,tape.trans h.tape,output.trans h.output,Nat.le_trans h.size size,λk Y J=>(z k (BN Y h.size) J).trans (h.other k Y J),⟨_,hy,by rw[qm];exact h2,?_,λt ht J=>?_⟩,?_,by omega⟩
 ·have:=wM cs r (p*s) (by rw[y,h2];omega);rw[y]at this;rw[BH,this,h3];simp only[fE,Z,BJ,if_false,hc]
 ·rw[BH]at ht;rw[k6 cs r _ t (.inr (by rw[y];omega))];exact h4 t (by omega) J
 ·simp only[dw,Z,BJ,if_false,h.cnt]
end Go.Proofs.YtaegajachoklkabGreatEv
