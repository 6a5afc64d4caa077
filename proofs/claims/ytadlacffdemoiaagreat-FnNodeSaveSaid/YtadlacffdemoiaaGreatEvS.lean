/- slices.DeleteFunc: what its walk needs. -/
import Derived.Test.YtadlacffdemoiaaGreatEvR
import Derived.Laws.CopyRow
import Derived.Lib.AppendZerosOnto
set_option linter.unusedVariables false
set_option linter.unusedSimpArgs false
open Array renaming length_toList->B5,getElem?_toList->B7,getElem?_setIfInBounds->B9
open Bool renaming false_eq_true->B6
open Go.Builtin renaming zeroCells->B3,clear_->CI
open List renaming length_take->B8,length_cons->CB,getElem?_take->CD,length_append->CE,length_drop->CH
open Nat renaming succ_mul->B4,lt_of_lt_of_le->CA,mul_le_mul_right->CC,add_zero->CG
open Option.some renaming injEq->CF
namespace Go.Proofs.YtadlacffdemoiaaGreatEv
open Go Go.Proofs Go.RowKit
structure gx (N:Nat) (a b:World):Prop where
 os:b.os=a.os
 tape:b.tape=a.tape
 output:b.output=a.output
 size:b.heap.size=a.heap.size
 other:∀ k,k≠N->b.heap[k]?=a.heap[k]?
theorem gx.trans {N:Nat}{a b c:World}(h:gx N a b)(k:gx N b c):gx N a c :=
 ⟨k.os.trans h.os,k.tape.trans h.tape,k.output.trans h.output,k.size.trans h.size,λi r=>(k.other i r).trans (h.other i r)⟩
theorem yO (w:World)(g:Nat)(cs:Array Value):gx g w (w.setRow g cs):=⟨rfl,rfl,rfl,by simp,λk r=>setRow_other w g k cs r⟩
theorem cg {P:Program}(w:World)(N t:Nat)(cur:Array Value)(E:TypeId)(v:Value)(h:w.heap[N]?=some (.cells cur E (0,0)))(z:t<cur.size)(y:v.oneCell'=true) :
  ∃ w1,(store ⟨N,t,none⟩ v).run P w=.ok () w1/\w1.heap[N]?=some (.cells (cur.setIfInBounds t v) E (0,0))/\gx N w w1:=by
 have r:w.cell? ⟨N,t,none⟩=some cur[t]:=by simp[World.cell?,h,z]
 have u:w.frozen? ⟨N,t,none⟩=false:=by simp[World.frozen?,h]
 refine⟨_,?_,setRow_heap w N cur (cur.setIfInBounds t v) E (0,0) h,yO _ _ _⟩;rw[run_store P w _ v _ y,r];simp[u,setCell_eq_setRow w N t cur E (0,0) v h]
def gy (cur:Array Value)(o:Nat):List Value->Array Value
 |[]=>cur
 |c::r=>gy (cur.setIfInBounds o c) (o+1) r
theorem qD:∀ (cs:List Value) (cur:Array Value) (o:Nat),(gy cur o cs).size=cur.size
 |[],_,_=>rfl
 |c::cs,cur,o=>by rw[gy,qD cs];simp
theorem ln:∀ (cs:List Value) (cur:Array Value) (o t:Nat),t<o\/o+cs.length<=t->(gy cur o cs)[t]?=cur[t]?
 |[],_,_,_,_=>rfl
 |c::cs,cur,o,t,h=>by
  rw[CB]at h;rw[gy,ln cs _ _ t (by omega),B9,if_neg (by omega)]
theorem uy:∀ (cs:List Value) (cur:Array Value) (o i:Nat) (u:Value),o+cs.length<=cur.size->cs[i]?=some u->(gy cur o cs)[o+i]?=some u
 |[],_,_,_,_,_,h=>by simp at h
 |c::cs,cur,o,0,u,r,h=>by
  simp only[List.getElem?_cons_zero,CF]at h;subst h;rw[CB]at r;rw[gy,ln cs _ _ _ (by omega),B9,if_pos (by omega),if_pos (by omega)]
 |c::cs,cur,o,i+1,u,r,h=>by
  rw[CB]at r;rw[List.getElem?_cons_succ]at h;have:=uy cs (cur.setIfInBounds o c) (o+1) i u (by rw[Array.size_setIfInBounds];omega) h;rw[gy,show o+(i+1)=o+1+i by omega];exact this
theorem xd (cs:List Value)(cur:Array Value)(o:Nat)(h:o+cs.length<=cur.size):(gy cur o cs).toList.take (o+cs.length)=cur.toList.take o++cs:=by
 refine List.ext_getElem? λi=>?_
 rw[CD];have z:(cur.toList.take o).length=o:=by rw[B8,B5];omega
 by_cases r:i<o
 ·rw[if_pos (by omega),List.getElem?_append_left (by omega),CD,if_pos r,B7,B7,ln cs cur o i (.inl r)]
 ·rw[List.getElem?_append_right (by omega),z];by_cases u:i<o+cs.length
  ·rw[if_pos u,B7];have y:cs[i-o]?=some cs[i-o]:=List.getElem?_eq_getElem (by omega);rw[y];have:=uy cs cur o (i-o) _ h y
   rwa [show o+(i-o)=i by omega]at this
  ·rw[if_neg u,List.getElem?_eq_none (by omega)]
theorem mU {P:Program}(w:World)(t e:TypeId)(i:TypeInfo)(z:Value)(hu:P.underlying t=some (.slice e))(hi:P.info? e=some i)(hz:i.zero=some z)(g o n c:Nat)(cur:Array Value)(E:TypeId)(hg:w.heap[g]?=some (.cells cur E (0,0)))
  (hn:0<n) (y:o+n*z.cells.size<=cur.size) (R:∀ v∈z.cells.toList,v.oneCell'=true) :
  ∃ r:Array Value,(∀ ty,(CI #[t] ty #[.slice (some ⟨g,o,none⟩) n c]).run P w=.ok (.tuple #[]) (w.setRow g r))/\r.size=cur.size/\r.toList.take o=cur.toList.take o:=by
 have M:(B3 z.cells n).toList.length=n*z.cells.size:=by rw[B5,size_zeroCells]
 have X:∀ v∈(B3 z.cells n).toList,v.oneCell'=true:=by
  intro v O;simp only[B3,Array.toList_map,List.mem_map]at O;obtain⟨j,hj,rfl⟩:=O;have I:j<n*z.cells.size:=by simpa using hj
  have hp:0<z.cells.size:=by
   rcases Nat.eq_zero_or_pos z.cells.size with h|h
   ·rw[h]at I;omega
   ·exact h
  have Z:j % z.cells.size<z.cells.size:=Nat.mod_lt _ hp;rw[getElem!_pos z.cells _ Z];exact R _ (by simp)
 have H:=run_storeCells_at (P:=P) g o E (B3 z.cells n).toList 0 cur w hg (by rw[M];exact y) X;obtain⟨r,u⟩:∃ r,r=(cur.toList.take (o+0)++(B3 z.cells n).toList++cur.toList.drop (o+0+(B3 z.cells n).toList.length)).toArray:=⟨_,rfl⟩;rw[<- u]at H;have Y:r.size=cur.size:=by
  rw[u];simp only[List.size_toArray,CE,B8,CH,M,B5,CG];omega
 have e2:r.toList.take o=cur.toList.take o:=by
  rw[u];simp only[CG,List.append_assoc];exact List.take_left' (by rw[B8,B5];omega)
 obtain⟨m,rfl⟩:∃ m,n=m+1:=⟨n-1,by omega⟩;refine⟨r,λty=>?_,Y,e2⟩;have J:∀ w,(zeroValue e).run P w=.ok z w:=λw=>by simp[zeroValue,typeInfo,hi,hz]
 simp[CI,run_underlying hu,J,H]
structure ew (w:World) (g n s:Nat) (E:TypeId) (sz:Nat) (del:Nat->Bool) (flat:List Value) (p j:Nat) (wx:World):Prop where
 os:wx.os=w.os
 tape:wx.tape=w.tape
 output:wx.output=w.output
 size:w.heap.size<=wx.heap.size
 other:∀ k,k<w.heap.size->k≠g->wx.heap[k]?=w.heap[k]?
 row:∃ curx:Array Value,wx.heap[g]?=some (.cells curx E (0,0))/\curx.size=sz/\curx.toList.take (p*s)=fR s del flat j/\∀ t,j*s<=t->t<n*s->curx[t]?=flat[t]?
 cnt:p=dM del j
 lt:p<j
theorem xe {del:Nat->Bool}:∀ {j:Nat},dM del j=j->∀ i,i<j->del i=false
 |0,_,i,z=>by omega
 |j+1,h,i,z=>by
  have y:∀ m,dM del m<=m:=λm=>by
   induction m with
   |zero=>exact Nat.le_refl _
   |succ m H=>simp only[dM];split <;> omega
  have:=y j;simp only[dM]at h;cases u:del j with
  |true=>rw[u]at h;simp at h;omega
  |false =>
   rw[u]at h;simp at h;rcases Nat.lt_or_eq_of_le (Nat.le_of_lt_succ z) with r|r
   ·exact xe h i r
   ·subst r;exact u
theorem pG {s:Nat}{del:Nat->Bool}{flat:List Value}:∀ {j:Nat},(∀ i,i<j->del i=false)->j*s<=flat.length->fR s del flat j=flat.take (j*s)/\dM del j=j
 |0,_,_=>by simp[fR,dM]
 |j+1,h,y=>by
  rw[B4]at y;obtain⟨r,u⟩:=pG (s:=s) (del:=del) (flat:=flat) (j:=j) (λi z=>h i (by omega)) (by omega);simp only[fR,dM,h j (by omega),B6,if_false,r,u];refine⟨?_,trivial⟩;rw[B4,List.take_add]
theorem pH {s:Nat}{del:Nat->Bool}{flat:List Value}:∀ {j:Nat},j*s<=flat.length->(fR s del flat j).length=dM del j*s
 |0,_=>by simp[fR,dM]
 |j+1,u=>by
  rw[B4]at u;have r:=pH (s:=s) (del:=del) (flat:=flat) (j:=j) (by omega);simp only[fR,dM];cases del j with
  |true=>simp[r]
  |false =>
   simp only[B6,if_false,CE,r,B8,CH,B4];omega
theorem ew.skip {w:World}{g n s:Nat}{E:TypeId}{I:Nat}{del:Nat->Bool}{flat:List Value}{p j:Nat}{u y:World}(h:ew w g n s E I del flat p j u)(M:del j=true)
  (os:y.os=u.os) (tape:y.tape=u.tape) (output:y.output=u.output) (size:u.heap.size<=y.heap.size) (r:∀ k,k<u.heap.size->y.heap[k]?=u.heap[k]?) (X:g<w.heap.size):ew w g n s E I del flat p (j+1) y:=by
 obtain⟨z,O,R,Y,h4⟩:=h.row;refine⟨os.trans h.os,tape.trans h.tape,output.trans h.output,Nat.le_trans h.size size,λk J H=>(r k (CA J h.size)).trans (h.other k J H),⟨z,(r g (CA X h.size)).trans O,R,?_,λt Z H=>h4 t (by rw[B4]at Z;omega) H⟩,?_,Nat.lt_succ_of_lt h.lt⟩
 ·simp only[fR,M,if_true,List.append_nil];exact Y
 ·simp only[dM,M,if_true,CG];exact h.cnt
theorem ew.keep {w:World}{g n s:Nat}{E:TypeId}{R:Nat}{del:Nat->Bool}{flat:List Value}{p j:Nat}{u y:World}{r:Array Value}{cs:List Value}(h:ew w g n s E R del flat p j u)(I:u.heap[g]?=some (.cells r E (0,0)))(hd:del j=false)
  (os:y.os=u.os) (tape:y.tape=u.tape) (output:y.output=u.output) (size:u.heap.size<=y.heap.size) (H:∀ k,k<u.heap.size->k≠g->y.heap[k]?=u.heap[k]?) (hj:j<n) (Y:n*s<=R)
  (hy:y.heap[g]?=some (.cells (gy r (p*s) cs) E (0,0))) (z:cs.length=s) (hc:(flat.drop (j*s)).take s=cs):ew w g n s E R del flat (p+1) (j+1) y:=by
 obtain⟨O,M,Z,h3,h4⟩:=h.row;rw[I]at M;simp only[CF,Obj.cells.injEq]at M;obtain⟨rfl,_⟩:=M;have X:=h.lt;have a1:p*s+s<=j*s:=by rw[<- B4];exact CC _ X
 have a0:j*s+s<=n*s:=by rw[<- B4];exact CC _ hj
 refine⟨os.trans h.os,tape.trans h.tape,output.trans h.output,Nat.le_trans h.size size,λk hk J=>(H k (CA hk h.size) J).trans (h.other k hk J),⟨_,hy,by rw[qD];exact Z,?_,λt ht J=>?_⟩,?_,by omega⟩
 ·have:=xd cs r (p*s) (by rw[z,Z];omega);rw[z]at this;rw[B4,this,h3];simp only[fR,hd,B6,if_false,hc]
 ·rw[B4]at ht;rw[ln cs r _ t (.inr (by rw[z];omega))];exact h4 t (by omega) J
 ·simp only[dM,hd,B6,if_false,h.cnt]
end Go.Proofs.YtadlacffdemoiaaGreatEv
