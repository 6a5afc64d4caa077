/- slices.DeleteFunc: what its walk needs. -/
import Derived.Test.YtadlacffdemoiaaGreatEvR
import Derived.Laws.CopyRow
import Derived.Lib.AppendZerosOnto
set_option linter.unusedVariables false
set_option linter.unusedSimpArgs false
open Array renaming length_toList->BX,getElem?_toList->BZ,getElem?_setIfInBounds->B4
open Bool renaming false_eq_true->BY
open Go.Builtin renaming zeroCells->BV,clear_->CD
open List renaming length_take->B3,length_cons->B6,getElem?_take->B8,length_append->B9,length_drop->CC
open Nat renaming succ_mul->BW,lt_of_lt_of_le->B5,mul_le_mul_right->B7,add_zero->CB
open Option.some renaming injEq->CA
namespace Go.Proofs.YtadlacffdemoiaaGreatEv
open Go Go.Proofs Go.RowKit
structure gn (N:Nat) (a b:World):Prop where
 os:b.os=a.os
 tape:b.tape=a.tape
 output:b.output=a.output
 size:b.heap.size=a.heap.size
 other:∀ k,k≠N->b.heap[k]?=a.heap[k]?
theorem gn.trans {N:Nat}{a b c:World}(h:gn N a b)(k:gn N b c):gn N a c :=
 ⟨k.os.trans h.os,k.tape.trans h.tape,k.output.trans h.output,k.size.trans h.size,λi r=>(k.other i r).trans (h.other i r)⟩
theorem yz (w:World)(g:Nat)(cs:Array Value):gn g w (w.setRow g cs):=⟨rfl,rfl,rfl,by simp,λk r=>setRow_other w g k cs r⟩
theorem b6 {P:Program}(w:World)(N t:Nat)(cur:Array Value)(E:TypeId)(v:Value)(h:w.heap[N]?=some (.cells cur E (0,0)))(z:t<cur.size)(y:v.oneCell'=true) :
  ∃ w1,(store ⟨N,t,none⟩ v).run P w=.ok () w1/\w1.heap[N]?=some (.cells (cur.setIfInBounds t v) E (0,0))/\gn N w w1:=by
 have r:w.cell? ⟨N,t,none⟩=some cur[t]:=by simp[World.cell?,h,z]
 have u:w.frozen? ⟨N,t,none⟩=false:=by simp[World.frozen?,h]
 refine⟨_,?_,setRow_heap w N cur (cur.setIfInBounds t v) E (0,0) h,yz _ _ _⟩;rw[run_store P w _ v _ y,r];simp[u,setCell_eq_setRow w N t cur E (0,0) v h]
def gp (cur:Array Value)(o:Nat):List Value->Array Value
 |[]=>cur
 |c::r=>gp (cur.setIfInBounds o c) (o+1) r
theorem qw:∀ (cs:List Value) (cur:Array Value) (o:Nat),(gp cur o cs).size=cur.size
 |[],_,_=>rfl
 |c::cs,cur,o=>by rw[gp,qw cs];simp
theorem kV:∀ (cs:List Value) (cur:Array Value) (o t:Nat),t<o\/o+cs.length<=t->(gp cur o cs)[t]?=cur[t]?
 |[],_,_,_,_=>rfl
 |c::cs,cur,o,t,h=>by
  rw[B6]at h;rw[gp,kV cs _ _ t (by omega),B4,if_neg (by omega)]
theorem uk:∀ (cs:List Value) (cur:Array Value) (o i:Nat) (u:Value),o+cs.length<=cur.size->cs[i]?=some u->(gp cur o cs)[o+i]?=some u
 |[],_,_,_,_,_,h=>by simp at h
 |c::cs,cur,o,0,u,r,h=>by
  simp only[List.getElem?_cons_zero,CA]at h;subst h;rw[B6]at r;rw[gp,kV cs _ _ _ (by omega),B4,if_pos (by omega),if_pos (by omega)]
 |c::cs,cur,o,i+1,u,r,h=>by
  rw[B6]at r;rw[List.getElem?_cons_succ]at h;have:=uk cs (cur.setIfInBounds o c) (o+1) i u (by rw[Array.size_setIfInBounds];omega) h;rw[gp,show o+(i+1)=o+1+i by omega];exact this
theorem w8 (cs:List Value)(cur:Array Value)(o:Nat)(h:o+cs.length<=cur.size):(gp cur o cs).toList.take (o+cs.length)=cur.toList.take o++cs:=by
 refine List.ext_getElem? λi=>?_
 rw[B8];have z:(cur.toList.take o).length=o:=by rw[B3,BX];omega
 by_cases y:i<o
 ·rw[if_pos (by omega),List.getElem?_append_left (by omega),B8,if_pos y,BZ,BZ,kV cs cur o i (.inl y)]
 ·rw[List.getElem?_append_right (by omega),z];by_cases r:i<o+cs.length
  ·rw[if_pos r,BZ];have u:cs[i-o]?=some cs[i-o]:=List.getElem?_eq_getElem (by omega);rw[u];have:=uk cs cur o (i-o) _ h u
   rwa [show o+(i-o)=i by omega]at this
  ·rw[if_neg r,List.getElem?_eq_none (by omega)]
theorem mQ {P:Program}(w:World)(t e:TypeId)(i:TypeInfo)(z:Value)(hu:P.underlying t=some (.slice e))(hi:P.info? e=some i)(hz:i.zero=some z)(g o n c:Nat)(cur:Array Value)(E:TypeId)(hg:w.heap[g]?=some (.cells cur E (0,0)))
  (hn:0<n) (H:o+n*z.cells.size<=cur.size) (h1:∀ v∈z.cells.toList,v.oneCell'=true) :
  ∃ r:Array Value,(∀ ty,(CD #[t] ty #[.slice (some ⟨g,o,none⟩) n c]).run P w=.ok (.tuple #[]) (w.setRow g r))/\r.size=cur.size/\r.toList.take o=cur.toList.take o:=by
 have M:(BV z.cells n).toList.length=n*z.cells.size:=by rw[BX,size_zeroCells]
 have Z:∀ v∈(BV z.cells n).toList,v.oneCell'=true:=by
  intro v O;simp only[BV,Array.toList_map,List.mem_map]at O;obtain⟨j,hj,rfl⟩:=O;have I:j<n*z.cells.size:=by simpa using hj
  have hp:0<z.cells.size:=by
   rcases Nat.eq_zero_or_pos z.cells.size with h|h
   ·rw[h]at I;omega
   ·exact h
  have R:j % z.cells.size<z.cells.size:=Nat.mod_lt _ hp;rw[getElem!_pos z.cells _ R];exact h1 _ (by simp)
 have y:=run_storeCells_at (P:=P) g o E (BV z.cells n).toList 0 cur w hg (by rw[M];exact H) Z;obtain⟨r,u⟩:∃ r,r=(cur.toList.take (o+0)++(BV z.cells n).toList++cur.toList.drop (o+0+(BV z.cells n).toList.length)).toArray:=⟨_,rfl⟩;rw[<- u]at y;have Y:r.size=cur.size:=by
  rw[u];simp only[List.size_toArray,B9,B3,CC,M,BX,CB];omega
 have X:r.toList.take o=cur.toList.take o:=by
  rw[u];simp only[CB,List.append_assoc];exact List.take_left' (by rw[B3,BX];omega)
 obtain⟨m,rfl⟩:∃ m,n=m+1:=⟨n-1,by omega⟩;refine⟨r,λty=>?_,Y,X⟩;have J:∀ w,(zeroValue e).run P w=.ok z w:=λw=>by simp[zeroValue,typeInfo,hi,hz]
 simp[CD,run_underlying hu,J,y]
structure eh (w:World) (g n s:Nat) (E:TypeId) (sz:Nat) (del:Nat->Bool) (flat:List Value) (p j:Nat) (wx:World):Prop where
 os:wx.os=w.os
 tape:wx.tape=w.tape
 output:wx.output=w.output
 size:w.heap.size<=wx.heap.size
 other:∀ k,k<w.heap.size->k≠g->wx.heap[k]?=w.heap[k]?
 row:∃ curx:Array Value,wx.heap[g]?=some (.cells curx E (0,0))/\curx.size=sz/\curx.toList.take (p*s)=fA s del flat j/\∀ t,j*s<=t->t<n*s->curx[t]?=flat[t]?
 cnt:p=dD del j
 lt:p<j
theorem xa {del:Nat->Bool}:∀ {j:Nat},dD del j=j->∀ i,i<j->del i=false
 |0,_,i,z=>by omega
 |j+1,h,i,z=>by
  have u:∀ m,dD del m<=m:=λm=>by
   induction m with
   |zero=>exact Nat.le_refl _
   |succ m H=>simp only[dD];split <;> omega
  have:=u j;simp only[dD]at h;cases r:del j with
  |true=>rw[r]at h;simp at h;omega
  |false =>
   rw[r]at h;simp at h;rcases Nat.lt_or_eq_of_le (Nat.le_of_lt_succ z) with y|y
   ·exact xa h i y
   ·subst y;exact r
theorem pE {s:Nat}{del:Nat->Bool}{flat:List Value}:∀ {j:Nat},(∀ i,i<j->del i=false)->j*s<=flat.length->fA s del flat j=flat.take (j*s)/\dD del j=j
 |0,_,_=>by simp[fA,dD]
 |j+1,h,r=>by
  rw[BW]at r;obtain⟨y,u⟩:=pE (s:=s) (del:=del) (flat:=flat) (j:=j) (λi z=>h i (by omega)) (by omega);simp only[fA,dD,h j (by omega),BY,if_false,y,u];refine⟨?_,trivial⟩;rw[BW,List.take_add]
theorem pF {s:Nat}{del:Nat->Bool}{flat:List Value}:∀ {j:Nat},j*s<=flat.length->(fA s del flat j).length=dD del j*s
 |0,_=>by simp[fA,dD]
 |j+1,u=>by
  rw[BW]at u;have r:=pF (s:=s) (del:=del) (flat:=flat) (j:=j) (by omega);simp only[fA,dD];cases del j with
  |true=>simp[r]
  |false =>
   simp only[BY,if_false,B9,r,B3,CC,BW];omega
theorem eh.skip {w:World}{g n s:Nat}{E:TypeId}{J:Nat}{del:Nat->Bool}{flat:List Value}{p j:Nat}{u y:World}(h:eh w g n s E J del flat p j u)(M:del j=true)
  (R:y.os=u.os) (tape:y.tape=u.tape) (output:y.output=u.output) (size:u.heap.size<=y.heap.size) (r:∀ k,k<u.heap.size->y.heap[k]?=u.heap[k]?) (Y:g<w.heap.size):eh w g n s E J del flat p (j+1) y:=by
 obtain⟨z,h1,O,X,h4⟩:=h.row;refine⟨R.trans h.os,tape.trans h.tape,output.trans h.output,Nat.le_trans h.size size,λk I H=>(r k (B5 I h.size)).trans (h.other k I H),⟨z,(r g (B5 Y h.size)).trans h1,O,?_,λt Z H=>h4 t (by rw[BW]at Z;omega) H⟩,?_,Nat.lt_succ_of_lt h.lt⟩
 ·simp only[fA,M,if_true,List.append_nil];exact X
 ·simp only[dD,M,if_true,CB];exact h.cnt
theorem eh.keep {w:World}{g n s:Nat}{E:TypeId}{O:Nat}{del:Nat->Bool}{flat:List Value}{p j:Nat}{u H:World}{r:Array Value}{cs:List Value}(h:eh w g n s E O del flat p j u)(I:u.heap[g]?=some (.cells r E (0,0)))(hd:del j=false)
  (os:H.os=u.os) (tape:H.tape=u.tape) (output:H.output=u.output) (size:u.heap.size<=H.heap.size) (z:∀ k,k<u.heap.size->k≠g->H.heap[k]?=u.heap[k]?) (hj:j<n) (a0:n*s<=O)
  (hy:H.heap[g]?=some (.cells (gp r (p*s) cs) E (0,0))) (y:cs.length=s) (hc:(flat.drop (j*s)).take s=cs):eh w g n s E O del flat (p+1) (j+1) H:=by
 obtain⟨M,R,Y,h3,h4⟩:=h.row;rw[I]at R;simp only[CA,Obj.cells.injEq]at R;obtain⟨rfl,_⟩:=R;have X:=h.lt;have a1:p*s+s<=j*s:=by rw[<- BW];exact B7 _ X
 have a2:j*s+s<=n*s:=by rw[<- BW];exact B7 _ hj
 refine⟨os.trans h.os,tape.trans h.tape,output.trans h.output,Nat.le_trans h.size size,λk Z J=>(z k (B5 Z h.size) J).trans (h.other k Z J),⟨_,hy,by rw[qw];exact Y,?_,λt ht J=>?_⟩,?_,by omega⟩
 ·have:=w8 cs r (p*s) (by rw[y,Y];omega);rw[y]at this;rw[BW,this,h3];simp only[fA,hd,BY,if_false,hc]
 ·rw[BW]at ht;rw[kV cs r _ t (.inr (by rw[y];omega))];exact h4 t (by omega) J
 ·simp only[dD,hd,BY,if_false,h.cnt]
end Go.Proofs.YtadlacffdemoiaaGreatEv
