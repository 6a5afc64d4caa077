/- slices.DeleteFunc: what its walk needs. -/
import Derived.Test.YtaegajachoklkaaGreatEvR
import Derived.Laws.CopyRow
import Derived.Lib.AppendZerosOnto
set_option linter.unusedVariables false
set_option linter.unusedSimpArgs false
open Array renaming length_toList->AV,getElem?_toList->AX,getElem?_setIfInBounds->AZ
open Bool renaming false_eq_true->AW
open Go.Builtin renaming zeroCells->AT,clear_->BI
open List renaming length_take->AY,length_cons->BB,getElem?_take->BD,length_append->BE,length_drop->BH
open Nat renaming succ_mul->AU,lt_of_lt_of_le->BA,mul_le_mul_right->BC,add_zero->BG
open Option.some renaming injEq->BF
namespace Go.Proofs.YtaegajachoklkaaGreatEv
open Go Go.Proofs Go.RowKit
structure jd (N:Nat) (a b:World):Prop where
 os:b.os=a.os
 tape:b.tape=a.tape
 output:b.output=a.output
 size:b.heap.size=a.heap.size
 other:∀ k,k≠N->b.heap[k]?=a.heap[k]?
theorem jd.trans {N:Nat}{a b c:World}(h:jd N a b)(k:jd N b c):jd N a c :=
 ⟨k.os.trans h.os,k.tape.trans h.tape,k.output.trans h.output,k.size.trans h.size,λi r=>(k.other i r).trans (h.other i r)⟩
theorem xC (w:World)(g:Nat)(cs:Array Value):jd g w (w.setRow g cs):=⟨rfl,rfl,rfl,by simp,λk r=>setRow_other w g k cs r⟩
theorem fk {P:Program}(w:World)(N t:Nat)(cur:Array Value)(E:TypeId)(v:Value)(h:w.heap[N]?=some (.cells cur E (0,0)))(y:t<cur.size)(z:v.oneCell'=true) :
  ∃ w1,(store ⟨N,t,none⟩ v).run P w=.ok () w1/\w1.heap[N]?=some (.cells (cur.setIfInBounds t v) E (0,0))/\jd N w w1:=by
 have r:w.cell? ⟨N,t,none⟩=some cur[t]:=by simp[World.cell?,h,y]
 have u:w.frozen? ⟨N,t,none⟩=false:=by simp[World.frozen?,h]
 refine⟨_,?_,setRow_heap w N cur (cur.setIfInBounds t v) E (0,0) h,xC _ _ _⟩;rw[run_store P w _ v _ z,r];simp[u,setCell_eq_setRow w N t cur E (0,0) v h]
def gP (cur:Array Value)(o:Nat):List Value->Array Value
 |[]=>cur
 |c::r=>gP (cur.setIfInBounds o c) (o+1) r
theorem pV:∀ (cs:List Value) (cur:Array Value) (o:Nat),(gP cur o cs).size=cur.size
 |[],_,_=>rfl
 |c::cs,cur,o=>by rw[gP,pV cs];simp
theorem kG:∀ (cs:List Value) (cur:Array Value) (o t:Nat),t<o\/o+cs.length<=t->(gP cur o cs)[t]?=cur[t]?
 |[],_,_,_,_=>rfl
 |c::cs,cur,o,t,h=>by
  rw[BB]at h;rw[gP,kG cs _ _ t (by omega),AZ,if_neg (by omega)]
theorem tH:∀ (cs:List Value) (cur:Array Value) (o i:Nat) (u:Value),o+cs.length<=cur.size->cs[i]?=some u->(gP cur o cs)[o+i]?=some u
 |[],_,_,_,_,_,h=>by simp at h
 |c::cs,cur,o,0,u,r,h=>by
  simp only[List.getElem?_cons_zero,BF]at h;subst h;rw[BB]at r;rw[gP,kG cs _ _ _ (by omega),AZ,if_pos (by omega),if_pos (by omega)]
 |c::cs,cur,o,i+1,u,r,h=>by
  rw[BB]at r;rw[List.getElem?_cons_succ]at h;have:=tH cs (cur.setIfInBounds o c) (o+1) i u (by rw[Array.size_setIfInBounds];omega) h;rw[gP,show o+(i+1)=o+1+i by omega];exact this
theorem vX (cs:List Value)(cur:Array Value)(o:Nat)(h:o+cs.length<=cur.size):(gP cur o cs).toList.take (o+cs.length)=cur.toList.take o++cs:=by
 refine List.ext_getElem? λi=>?_
 rw[BD];have z:(cur.toList.take o).length=o:=by rw[AY,AV];omega
 by_cases y:i<o
 ·rw[if_pos (by omega),List.getElem?_append_left (by omega),BD,if_pos y,AX,AX,kG cs cur o i (.inl y)]
 ·rw[List.getElem?_append_right (by omega),z];by_cases u:i<o+cs.length
  ·rw[if_pos u,AX];have r:cs[i-o]?=some cs[i-o]:=List.getElem?_eq_getElem (by omega);rw[r];have:=tH cs cur o (i-o) _ h r
   rwa [show o+(i-o)=i by omega]at this
  ·rw[if_neg u,List.getElem?_eq_none (by omega)]
theorem rH {P:Program}(w:World)(t e:TypeId)(i:TypeInfo)(z:Value)(hu:P.underlying t=some (.slice e))(hi:P.info? e=some i)(X:i.zero=some z)(g o n c:Nat)(cur:Array Value)(E:TypeId)(Z:w.heap[g]?=some (.cells cur E (0,0)))
  (hn:0<n) (y:o+n*z.cells.size<=cur.size) (Y:∀ v∈z.cells.toList,v.oneCell'=true) :
  ∃ r:Array Value,(∀ ty,(BI #[t] ty #[.slice (some ⟨g,o,none⟩) n c]).run P w=.ok (.tuple #[]) (w.setRow g r))/\r.size=cur.size/\r.toList.take o=cur.toList.take o:=by
 have O:(AT z.cells n).toList.length=n*z.cells.size:=by rw[AV,size_zeroCells]
 have R:∀ v∈(AT z.cells n).toList,v.oneCell'=true:=by
  intro v M;simp only[AT,Array.toList_map,List.mem_map]at M;obtain⟨j,hj,rfl⟩:=M;have J:j<n*z.cells.size:=by simpa using hj
  have hp:0<z.cells.size:=by
   rcases Nat.eq_zero_or_pos z.cells.size with h|h
   ·rw[h]at J;omega
   ·exact h
  have hm:j % z.cells.size<z.cells.size:=Nat.mod_lt _ hp;rw[getElem!_pos z.cells _ hm];exact Y _ (by simp)
 have H:=run_storeCells_at (P:=P) g o E (AT z.cells n).toList 0 cur w Z (by rw[O];exact y) R;obtain⟨r,u⟩:∃ r,r=(cur.toList.take (o+0)++(AT z.cells n).toList++cur.toList.drop (o+0+(AT z.cells n).toList.length)).toArray:=⟨_,rfl⟩;rw[<- u]at H;have e1:r.size=cur.size:=by
  rw[u];simp only[List.size_toArray,BE,AY,BH,O,AV,BG];omega
 have e2:r.toList.take o=cur.toList.take o:=by
  rw[u];simp only[BG,List.append_assoc];exact List.take_left' (by rw[AY,AV];omega)
 obtain⟨m,rfl⟩:∃ m,n=m+1:=⟨n-1,by omega⟩;refine⟨r,λty=>?_,e1,e2⟩;have I:∀ w,(zeroValue e).run P w=.ok z w:=λw=>by simp[zeroValue,typeInfo,hi,X]
 simp[BI,run_underlying hu,I,H]
structure gm (w:World) (g n s:Nat) (E:TypeId) (sz:Nat) (del:Nat->Bool) (flat:List Value) (p j:Nat) (wx:World):Prop where
 os:wx.os=w.os
 tape:wx.tape=w.tape
 output:wx.output=w.output
 size:w.heap.size<=wx.heap.size
 other:∀ k,k<w.heap.size->k≠g->wx.heap[k]?=w.heap[k]?
 row:∃ curx:Array Value,wx.heap[g]?=some (.cells curx E (0,0))/\curx.size=sz/\curx.toList.take (p*s)=gl s del flat j/\∀ t,j*s<=t->t<n*s->curx[t]?=flat[t]?
 cnt:p=dE del j
 lt:p<j
theorem vY {del:Nat->Bool}:∀ {j:Nat},dE del j=j->∀ i,i<j->del i=false
 |0,_,i,z=>by omega
 |j+1,h,i,z=>by
  have r:∀ m,dE del m<=m:=λm=>by
   induction m with
   |zero=>exact Nat.le_refl _
   |succ m H=>simp only[dE];split <;> omega
  have:=r j;simp only[dE]at h;cases u:del j with
  |true=>rw[u]at h;simp at h;omega
  |false =>
   rw[u]at h;simp at h;rcases Nat.lt_or_eq_of_le (Nat.le_of_lt_succ z) with y|y
   ·exact vY h i y
   ·subst y;exact u
theorem tI {s:Nat}{del:Nat->Bool}{flat:List Value}:∀ {j:Nat},(∀ i,i<j->del i=false)->j*s<=flat.length->gl s del flat j=flat.take (j*s)/\dE del j=j
 |0,_,_=>by simp[gl,dE]
 |j+1,h,u=>by
  rw[AU]at u;obtain⟨y,r⟩:=tI (s:=s) (del:=del) (flat:=flat) (j:=j) (λi z=>h i (by omega)) (by omega);simp only[gl,dE,h j (by omega),AW,if_false,y,r];refine⟨?_,trivial⟩;rw[AU,List.take_add]
theorem tJ {s:Nat}{del:Nat->Bool}{flat:List Value}:∀ {j:Nat},j*s<=flat.length->(gl s del flat j).length=dE del j*s
 |0,_=>by simp[gl,dE]
 |j+1,u=>by
  rw[AU]at u;have r:=tJ (s:=s) (del:=del) (flat:=flat) (j:=j) (by omega);simp only[gl,dE];cases del j with
  |true=>simp[r]
  |false =>
   simp only[AW,if_false,BE,r,AY,BH,AU];omega
theorem gm.skip {w:World}{g n s:Nat}{E:TypeId}{I:Nat}{del:Nat->Bool}{flat:List Value}{p j:Nat}{u y:World}(h:gm w g n s E I del flat p j u)(J:del j=true)
  (R:y.os=u.os) (tape:y.tape=u.tape) (output:y.output=u.output) (size:u.heap.size<=y.heap.size) (r:∀ k,k<u.heap.size->y.heap[k]?=u.heap[k]?) (Z:g<w.heap.size):gm w g n s E I del flat p (j+1) y:=by
 obtain⟨z,Y,O,X,h4⟩:=h.row;refine⟨R.trans h.os,tape.trans h.tape,output.trans h.output,Nat.le_trans h.size size,λk M H=>(r k (BA M h.size)).trans (h.other k M H),⟨z,(r g (BA Z h.size)).trans Y,O,?_,λt ht H=>h4 t (by rw[AU]at ht;omega) H⟩,?_,Nat.lt_succ_of_lt h.lt⟩
 ·simp only[gl,J,if_true,List.append_nil];exact X
 ·simp only[dE,J,if_true,BG];exact h.cnt
theorem gm.keep {w:World}{g n s:Nat}{E:TypeId}{R:Nat}{del:Nat->Bool}{flat:List Value}{p j:Nat}{u H:World}{r:Array Value}{cs:List Value}(h:gm w g n s E R del flat p j u)(I:u.heap[g]?=some (.cells r E (0,0)))(Z:del j=false)
  (os:H.os=u.os) (tape:H.tape=u.tape) (output:H.output=u.output) (size:u.heap.size<=H.heap.size) (y:∀ k,k<u.heap.size->k≠g->H.heap[k]?=u.heap[k]?) (hj:j<n) (a0:n*s<=R)
  (hy:H.heap[g]?=some (.cells (gP r (p*s) cs) E (0,0))) (z:cs.length=s) (hc:(flat.drop (j*s)).take s=cs):gm w g n s E R del flat (p+1) (j+1) H:=by
 obtain⟨O,X,Y,h3,h4⟩:=h.row;rw[I]at X;simp only[BF,Obj.cells.injEq]at X;obtain⟨rfl,_⟩:=X;have M:=h.lt;have a2:p*s+s<=j*s:=by rw[<- AU];exact BC _ M
 have a1:j*s+s<=n*s:=by rw[<- AU];exact BC _ hj
 refine⟨os.trans h.os,tape.trans h.tape,output.trans h.output,Nat.le_trans h.size size,λk hk J=>(y k (BA hk h.size) J).trans (h.other k hk J),⟨_,hy,by rw[pV];exact Y,?_,λt ht J=>?_⟩,?_,by omega⟩
 ·have:=vX cs r (p*s) (by rw[z,Y];omega);rw[z]at this;rw[AU,this,h3];simp only[gl,Z,AW,if_false,hc]
 ·rw[AU]at ht;rw[kG cs r _ t (.inr (by rw[z];omega))];exact h4 t (by omega) J
 ·simp only[dE,Z,AW,if_false,h.cnt]
end Go.Proofs.YtaegajachoklkaaGreatEv
