/- slices.DeleteFunc: what its walk needs. -/
import Derived.Test.YtmibehbhnkeaiaaGreatEvR
import Derived.Laws.CopyRow
import Derived.Lib.AppendZerosOnto
set_option linter.unusedVariables false
set_option linter.unusedSimpArgs false
open Array renaming length_toList->FL,getElem?_toList->FN,getElem?_setIfInBounds->FP
open Bool renaming false_eq_true->FM
open Go.Builtin renaming zeroCells->FJ,clear_->FY
open List renaming length_take->FO,length_cons->FR,getElem?_take->FT,length_append->FU,length_drop->FX
open Nat renaming succ_mul->FK,lt_of_lt_of_le->FQ,mul_le_mul_right->FS,add_zero->FW
open Option.some renaming injEq->FV
namespace Go.Proofs.YtmibehbhnkeaiaaGreatEv
open Go Go.Proofs Go.RowKit
structure gO (N:Nat) (a b:World):Prop where
 os:b.os=a.os
 tape:b.tape=a.tape
 output:b.output=a.output
 size:b.heap.size=a.heap.size
 other:∀ k,k≠N->b.heap[k]?=a.heap[k]?
theorem gO.trans {N:Nat}{a b c:World}(h:gO N a b)(k:gO N b c):gO N a c :=
 ⟨k.os.trans h.os,k.tape.trans h.tape,k.output.trans h.output,k.size.trans h.size,λi r=>(k.other i r).trans (h.other i r)⟩
theorem zJ (w:World)(g:Nat)(cs:Array Value):gO g w (w.setRow g cs):=⟨rfl,rfl,rfl,by simp,λk r=>setRow_other w g k cs r⟩
theorem cj {P:Program}(w:World)(N t:Nat)(cur:Array Value)(E:TypeId)(v:Value)(h:w.heap[N]?=some (.cells cur E (0,0)))(y:t<cur.size)(z:v.oneCell'=true) :
  ∃ w1,(store ⟨N,t,none⟩ v).run P w=.ok () w1/\w1.heap[N]?=some (.cells (cur.setIfInBounds t v) E (0,0))/\gO N w w1:=by
 have r:w.cell? ⟨N,t,none⟩=some cur[t]:=by simp[World.cell?,h,y]
 have u:w.frozen? ⟨N,t,none⟩=false:=by simp[World.frozen?,h]
 refine⟨_,?_,setRow_heap w N cur (cur.setIfInBounds t v) E (0,0) h,zJ _ _ _⟩;rw[run_store P w _ v _ z,r];simp[u,setCell_eq_setRow w N t cur E (0,0) v h]
def gP (cur:Array Value)(o:Nat):List Value->Array Value
 |[]=>cur
 |c::r=>gP (cur.setIfInBounds o c) (o+1) r
theorem rz:∀ (cs:List Value) (cur:Array Value) (o:Nat),(gP cur o cs).size=cur.size
 |[],_,_=>rfl
 |c::cs,cur,o=>by rw[gP,rz cs];simp
theorem lJ:∀ (cs:List Value) (cur:Array Value) (o t:Nat),t<o\/o+cs.length<=t->(gP cur o cs)[t]?=cur[t]?
 |[],_,_,_,_=>rfl
 |c::cs,cur,o,t,h=>by
  rw[FR]at h;rw[gP,lJ cs _ _ t (by omega),FP,if_neg (by omega)]
theorem vk:∀ (cs:List Value) (cur:Array Value) (o i:Nat) (u:Value),o+cs.length<=cur.size->cs[i]?=some u->(gP cur o cs)[o+i]?=some u
 |[],_,_,_,_,_,h=>by simp at h
 |c::cs,cur,o,0,u,r,h=>by
  simp only[List.getElem?_cons_zero,FV]at h;subst h;rw[FR]at r;rw[gP,lJ cs _ _ _ (by omega),FP,if_pos (by omega),if_pos (by omega)]
 |c::cs,cur,o,i+1,u,r,h=>by
  rw[FR]at r;rw[List.getElem?_cons_succ]at h;have:=vk cs (cur.setIfInBounds o c) (o+1) i u (by rw[Array.size_setIfInBounds];omega) h;rw[gP,show o+(i+1)=o+1+i by omega];exact this
theorem x8 (cs:List Value)(cur:Array Value)(o:Nat)(h:o+cs.length<=cur.size):(gP cur o cs).toList.take (o+cs.length)=cur.toList.take o++cs:=by
 refine List.ext_getElem? λi=>?_
 rw[FT];have z:(cur.toList.take o).length=o:=by rw[FO,FL];omega
 by_cases r:i<o
 ·rw[if_pos (by omega),List.getElem?_append_left (by omega),FT,if_pos r,FN,FN,lJ cs cur o i (.inl r)]
 ·rw[List.getElem?_append_right (by omega),z];by_cases u:i<o+cs.length
  ·rw[if_pos u,FN];have y:cs[i-o]?=some cs[i-o]:=List.getElem?_eq_getElem (by omega);rw[y];have:=vk cs cur o (i-o) _ h y
   rwa [show o+(i-o)=i by omega]at this
  ·rw[if_neg u,List.getElem?_eq_none (by omega)]
theorem nI {P:Program}(w:World)(t e:TypeId)(i:TypeInfo)(z:Value)(hu:P.underlying t=some (.slice e))(hi:P.info? e=some i)(hz:i.zero=some z)(g o n c:Nat)(cur:Array Value)(E:TypeId)(hg:w.heap[g]?=some (.cells cur E (0,0)))
  (hn:0<n) (y:o+n*z.cells.size<=cur.size) (Y:∀ v∈z.cells.toList,v.oneCell'=true) :
  ∃ r:Array Value,(∀ ty,(FY #[t] ty #[.slice (some ⟨g,o,none⟩) n c]).run P w=.ok (.tuple #[]) (w.setRow g r))/\r.size=cur.size/\r.toList.take o=cur.toList.take o:=by
 have M:(FJ z.cells n).toList.length=n*z.cells.size:=by rw[FL,size_zeroCells]
 have Z:∀ v∈(FJ z.cells n).toList,v.oneCell'=true:=by
  intro v O;simp only[FJ,Array.toList_map,List.mem_map]at O;obtain⟨j,hj,rfl⟩:=O;have I:j<n*z.cells.size:=by simpa using hj
  have hp:0<z.cells.size:=by
   rcases Nat.eq_zero_or_pos z.cells.size with h|h
   ·rw[h]at I;omega
   ·exact h
  have hm:j % z.cells.size<z.cells.size:=Nat.mod_lt _ hp;rw[getElem!_pos z.cells _ hm];exact Y _ (by simp)
 have H:=run_storeCells_at (P:=P) g o E (FJ z.cells n).toList 0 cur w hg (by rw[M];exact y) Z;obtain⟨r,u⟩:∃ r,r=(cur.toList.take (o+0)++(FJ z.cells n).toList++cur.toList.drop (o+0+(FJ z.cells n).toList.length)).toArray:=⟨_,rfl⟩;rw[<- u]at H;have R:r.size=cur.size:=by
  rw[u];simp only[List.size_toArray,FU,FO,FX,M,FL,FW];omega
 have X:r.toList.take o=cur.toList.take o:=by
  rw[u];simp only[FW,List.append_assoc];exact List.take_left' (by rw[FO,FL];omega)
 obtain⟨m,rfl⟩:∃ m,n=m+1:=⟨n-1,by omega⟩;refine⟨r,λty=>?_,R,X⟩;have J:∀ w,(zeroValue e).run P w=.ok z w:=λw=>by simp[zeroValue,typeInfo,hi,hz]
 simp[FY,run_underlying hu,J,H]
structure eJ (w:World) (g n s:Nat) (E:TypeId) (sz:Nat) (del:Nat->Bool) (flat:List Value) (p j:Nat) (wx:World):Prop where
 os:wx.os=w.os
 tape:wx.tape=w.tape
 output:wx.output=w.output
 size:w.heap.size<=wx.heap.size
 other:∀ k,k<w.heap.size->k≠g->wx.heap[k]?=w.heap[k]?
 row:∃ curx:Array Value,wx.heap[g]?=some (.cells curx E (0,0))/\curx.size=sz/\curx.toList.take (p*s)=kept s del flat j/\∀ t,j*s<=t->t<n*s->curx[t]?=flat[t]?
 cnt:p=dN del j
 lt:p<j
theorem x9 {del:Nat->Bool}:∀ {j:Nat},dN del j=j->∀ i,i<j->del i=false
 |0,_,i,z=>by omega
 |j+1,h,i,z=>by
  have y:∀ m,dN del m<=m:=λm=>by
   induction m with
   |zero=>exact Nat.le_refl _
   |succ m H=>simp only[dN];split <;> omega
  have:=y j;simp only[dN]at h;cases u:del j with
  |true=>rw[u]at h;simp at h;omega
  |false =>
   rw[u]at h;simp at h;rcases Nat.lt_or_eq_of_le (Nat.le_of_lt_succ z) with r|r
   ·exact x9 h i r
   ·subst r;exact u
theorem qp {s:Nat}{del:Nat->Bool}{flat:List Value}:∀ {j:Nat},(∀ i,i<j->del i=false)->j*s<=flat.length->kept s del flat j=flat.take (j*s)/\dN del j=j
 |0,_,_=>by simp[kept,dN]
 |j+1,h,y=>by
  rw[FK]at y;obtain⟨r,u⟩:=qp (s:=s) (del:=del) (flat:=flat) (j:=j) (λi z=>h i (by omega)) (by omega);simp only[kept,dN,h j (by omega),FM,if_false,r,u];refine⟨?_,trivial⟩;rw[FK,List.take_add]
theorem qq {s:Nat}{del:Nat->Bool}{flat:List Value}:∀ {j:Nat},j*s<=flat.length->(kept s del flat j).length=dN del j*s
 |0,_=>by simp[kept,dN]
 |j+1,u=>by
  rw[FK]at u;have r:=qq (s:=s) (del:=del) (flat:=flat) (j:=j) (by omega);simp only[kept,dN];cases del j with
  |true=>simp[r]
  |false =>
   simp only[FM,if_false,FU,r,FO,FX,FK];omega
theorem eJ.skip {w:World}{g n s:Nat}{E:TypeId}{M:Nat}{del:Nat->Bool}{flat:List Value}{p j:Nat}{u y:World}(h:eJ w g n s E M del flat p j u)(I:del j=true)
  (os:y.os=u.os) (tape:y.tape=u.tape) (output:y.output=u.output) (size:u.heap.size<=y.heap.size) (r:∀ k,k<u.heap.size->y.heap[k]?=u.heap[k]?) (Z:g<w.heap.size):eJ w g n s E M del flat p (j+1) y:=by
 obtain⟨z,O,R,X,Y⟩:=h.row;refine⟨os.trans h.os,tape.trans h.tape,output.trans h.output,Nat.le_trans h.size size,λk J H=>(r k (FQ J h.size)).trans (h.other k J H),⟨z,(r g (FQ Z h.size)).trans O,R,?_,λt ht H=>Y t (by rw[FK]at ht;omega) H⟩,?_,Nat.lt_succ_of_lt h.lt⟩
 ·simp only[kept,I,if_true,List.append_nil];exact X
 ·simp only[dN,I,if_true,FW];exact h.cnt
theorem eJ.keep {w:World}{g n s:Nat}{E:TypeId}{X:Nat}{del:Nat->Bool}{flat:List Value}{p j:Nat}{u H:World}{r:Array Value}{cs:List Value}(h:eJ w g n s E X del flat p j u)(I:u.heap[g]?=some (.cells r E (0,0)))(Z:del j=false)
  (os:H.os=u.os) (tape:H.tape=u.tape) (output:H.output=u.output) (size:u.heap.size<=H.heap.size) (z:∀ k,k<u.heap.size->k≠g->H.heap[k]?=u.heap[k]?) (hj:j<n) (a0:n*s<=X)
  (hy:H.heap[g]?=some (.cells (gP r (p*s) cs) E (0,0))) (y:cs.length=s) (hc:(flat.drop (j*s)).take s=cs):eJ w g n s E X del flat (p+1) (j+1) H:=by
 obtain⟨M,O,Y,h3,h4⟩:=h.row;rw[I]at O;simp only[FV,Obj.cells.injEq]at O;obtain⟨rfl,_⟩:=O;have R:=h.lt;have a2:p*s+s<=j*s:=by rw[<- FK];exact FS _ R
 have a1:j*s+s<=n*s:=by rw[<- FK];exact FS _ hj
 refine⟨os.trans h.os,tape.trans h.tape,output.trans h.output,Nat.le_trans h.size size,λk hk J=>(z k (FQ hk h.size) J).trans (h.other k hk J),⟨_,hy,by rw[rz];exact Y,?_,λt ht J=>?_⟩,?_,by omega⟩
 ·have:=x8 cs r (p*s) (by rw[y,Y];omega);rw[y]at this;rw[FK,this,h3];simp only[kept,Z,FM,if_false,hc]
 ·rw[FK]at ht;rw[lJ cs r _ t (.inr (by rw[y];omega))];exact h4 t (by omega) J
 ·simp only[dN,Z,FM,if_false,h.cnt]
end Go.Proofs.YtmibehbhnkeaiaaGreatEv
