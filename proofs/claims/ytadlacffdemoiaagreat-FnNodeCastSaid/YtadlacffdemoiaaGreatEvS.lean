/- slices.DeleteFunc: what its walk needs. -/
import Derived.Test.YtadlacffdemoiaaGreatEvR
import Derived.Laws.CopyRow
import Derived.Lib.AppendZerosOnto
set_option linter.unusedVariables false
set_option linter.unusedSimpArgs false
open Array renaming length_toList->BC,getElem?_toList->BE,getElem?_setIfInBounds->BG
open Bool renaming false_eq_true->BD
open Go.Builtin renaming zeroCells->BA,clear_->BP
open List renaming length_take->BF,length_cons->BI,getElem?_take->BK,length_append->BL,length_drop->BO
open Nat renaming succ_mul->BB,lt_of_lt_of_le->BH,mul_le_mul_right->BJ,add_zero->BN
open Option.some renaming injEq->BM
namespace Go.Proofs.YtadlacffdemoiaaGreatEv
open Go Go.Proofs Go.RowKit
structure gf (N:Nat) (a b:World):Prop where
 os:b.os=a.os
 tape:b.tape=a.tape
 output:b.output=a.output
 size:b.heap.size=a.heap.size
 other:∀ k,k≠N->b.heap[k]?=a.heap[k]?
theorem gf.trans {N:Nat}{a b c:World}(h:gf N a b)(k:gf N b c):gf N a c :=
 ⟨k.os.trans h.os,k.tape.trans h.tape,k.output.trans h.output,k.size.trans h.size,λi r=>(k.other i r).trans (h.other i r)⟩
theorem x9 (w:World)(g:Nat)(cs:Array Value):gf g w (w.setRow g cs):=⟨rfl,rfl,rfl,by simp,λk r=>setRow_other w g k cs r⟩
theorem bZ {P:Program}(w:World)(N t:Nat)(cur:Array Value)(E:TypeId)(v:Value)(h:w.heap[N]?=some (.cells cur E (0,0)))(z:t<cur.size)(y:v.oneCell'=true) :
  ∃ w1,(store ⟨N,t,none⟩ v).run P w=.ok () w1/\w1.heap[N]?=some (.cells (cur.setIfInBounds t v) E (0,0))/\gf N w w1:=by
 have r:w.cell? ⟨N,t,none⟩=some cur[t]:=by simp[World.cell?,h,z]
 have u:w.frozen? ⟨N,t,none⟩=false:=by simp[World.frozen?,h]
 refine⟨_,?_,setRow_heap w N cur (cur.setIfInBounds t v) E (0,0) h,x9 _ _ _⟩;rw[run_store P w _ v _ y,r];simp[u,setCell_eq_setRow w N t cur E (0,0) v h]
def gh (cur:Array Value)(o:Nat):List Value->Array Value
 |[]=>cur
 |c::r=>gh (cur.setIfInBounds o c) (o+1) r
theorem qk:∀ (cs:List Value) (cur:Array Value) (o:Nat),(gh cur o cs).size=cur.size
 |[],_,_=>rfl
 |c::cs,cur,o=>by rw[gh,qk cs];simp
theorem kP:∀ (cs:List Value) (cur:Array Value) (o t:Nat),t<o\/o+cs.length<=t->(gh cur o cs)[t]?=cur[t]?
 |[],_,_,_,_=>rfl
 |c::cs,cur,o,t,h=>by
  rw[BI]at h;rw[gh,kP cs _ _ t (by omega),BG,if_neg (by omega)]
theorem tU:∀ (cs:List Value) (cur:Array Value) (o i:Nat) (u:Value),o+cs.length<=cur.size->cs[i]?=some u->(gh cur o cs)[o+i]?=some u
 |[],_,_,_,_,_,h=>by simp at h
 |c::cs,cur,o,0,u,r,h=>by
  simp only[List.getElem?_cons_zero,BM]at h;subst h;rw[BI]at r;rw[gh,kP cs _ _ _ (by omega),BG,if_pos (by omega),if_pos (by omega)]
 |c::cs,cur,o,i+1,u,r,h=>by
  rw[BI]at r;rw[List.getElem?_cons_succ]at h;have:=tU cs (cur.setIfInBounds o c) (o+1) i u (by rw[Array.size_setIfInBounds];omega) h;rw[gh,show o+(i+1)=o+1+i by omega];exact this
theorem wG (cs:List Value)(cur:Array Value)(o:Nat)(h:o+cs.length<=cur.size):(gh cur o cs).toList.take (o+cs.length)=cur.toList.take o++cs:=by
 refine List.ext_getElem? λi=>?_
 rw[BK];have z:(cur.toList.take o).length=o:=by rw[BF,BC];omega
 by_cases y:i<o
 ·rw[if_pos (by omega),List.getElem?_append_left (by omega),BK,if_pos y,BE,BE,kP cs cur o i (.inl y)]
 ·rw[List.getElem?_append_right (by omega),z];by_cases u:i<o+cs.length
  ·rw[if_pos u,BE];have r:cs[i-o]?=some cs[i-o]:=List.getElem?_eq_getElem (by omega);rw[r];have:=tU cs cur o (i-o) _ h r
   rwa [show o+(i-o)=i by omega]at this
  ·rw[if_neg u,List.getElem?_eq_none (by omega)]
theorem mF {P:Program}(w:World)(t e:TypeId)(i:TypeInfo)(z:Value)(hu:P.underlying t=some (.slice e))(Z:P.info? e=some i)(hz:i.zero=some z)(g o n c:Nat)(cur:Array Value)(E:TypeId)(hg:w.heap[g]?=some (.cells cur E (0,0)))
  (hn:0<n) (H:o+n*z.cells.size<=cur.size) (X:∀ v∈z.cells.toList,v.oneCell'=true) :
  ∃ r:Array Value,(∀ ty,(BP #[t] ty #[.slice (some ⟨g,o,none⟩) n c]).run P w=.ok (.tuple #[]) (w.setRow g r))/\r.size=cur.size/\r.toList.take o=cur.toList.take o:=by
 have O:(BA z.cells n).toList.length=n*z.cells.size:=by rw[BC,size_zeroCells]
 have h2:∀ v∈(BA z.cells n).toList,v.oneCell'=true:=by
  intro v M;simp only[BA,Array.toList_map,List.mem_map]at M;obtain⟨j,hj,rfl⟩:=M;have I:j<n*z.cells.size:=by simpa using hj
  have hp:0<z.cells.size:=by
   rcases Nat.eq_zero_or_pos z.cells.size with h|h
   ·rw[h]at I;omega
   ·exact h
  have R:j % z.cells.size<z.cells.size:=Nat.mod_lt _ hp;rw[getElem!_pos z.cells _ R];exact X _ (by simp)
 have y:=run_storeCells_at (P:=P) g o E (BA z.cells n).toList 0 cur w hg (by rw[O];exact H) h2;obtain⟨r,u⟩:∃ r,r=(cur.toList.take (o+0)++(BA z.cells n).toList++cur.toList.drop (o+0+(BA z.cells n).toList.length)).toArray:=⟨_,rfl⟩;rw[<- u]at y;have e1:r.size=cur.size:=by
  rw[u];simp only[List.size_toArray,BL,BF,BO,O,BC,BN];omega
 have Y:r.toList.take o=cur.toList.take o:=by
  rw[u];simp only[BN,List.append_assoc];exact List.take_left' (by rw[BF,BC];omega)
 obtain⟨m,rfl⟩:∃ m,n=m+1:=⟨n-1,by omega⟩;refine⟨r,λty=>?_,e1,Y⟩;have J:∀ w,(zeroValue e).run P w=.ok z w:=λw=>by simp[zeroValue,typeInfo,Z,hz]
 simp[BP,run_underlying hu,J,y]
structure d8 (w:World) (g n s:Nat) (E:TypeId) (sz:Nat) (del:Nat->Bool) (flat:List Value) (p j:Nat) (wx:World):Prop where
 os:wx.os=w.os
 tape:wx.tape=w.tape
 output:wx.output=w.output
 size:w.heap.size<=wx.heap.size
 other:∀ k,k<w.heap.size->k≠g->wx.heap[k]?=w.heap[k]?
 row:∃ curx:Array Value,wx.heap[g]?=some (.cells curx E (0,0))/\curx.size=sz/\curx.toList.take (p*s)=fu s del flat j/\∀ t,j*s<=t->t<n*s->curx[t]?=flat[t]?
 cnt:p=dB del j
 lt:p<j
theorem wH {del:Nat->Bool}:∀ {j:Nat},dB del j=j->∀ i,i<j->del i=false
 |0,_,i,z=>by omega
 |j+1,h,i,z=>by
  have u:∀ m,dB del m<=m:=λm=>by
   induction m with
   |zero=>exact Nat.le_refl _
   |succ m H=>simp only[dB];split <;> omega
  have:=u j;simp only[dB]at h;cases r:del j with
  |true=>rw[r]at h;simp at h;omega
  |false =>
   rw[r]at h;simp at h;rcases Nat.lt_or_eq_of_le (Nat.le_of_lt_succ z) with y|y
   ·exact wH h i y
   ·subst y;exact r
theorem pj {s:Nat}{del:Nat->Bool}{flat:List Value}:∀ {j:Nat},(∀ i,i<j->del i=false)->j*s<=flat.length->fu s del flat j=flat.take (j*s)/\dB del j=j
 |0,_,_=>by simp[fu,dB]
 |j+1,h,u=>by
  rw[BB]at u;obtain⟨y,r⟩:=pj (s:=s) (del:=del) (flat:=flat) (j:=j) (λi z=>h i (by omega)) (by omega);simp only[fu,dB,h j (by omega),BD,if_false,y,r];refine⟨?_,trivial⟩;rw[BB,List.take_add]
theorem pm {s:Nat}{del:Nat->Bool}{flat:List Value}:∀ {j:Nat},j*s<=flat.length->(fu s del flat j).length=dB del j*s
 |0,_=>by simp[fu,dB]
 |j+1,u=>by
  rw[BB]at u;have r:=pm (s:=s) (del:=del) (flat:=flat) (j:=j) (by omega);simp only[fu,dB];cases del j with
  |true=>simp[r]
  |false =>
   simp only[BD,if_false,BL,r,BF,BO,BB];omega
theorem d8.skip {w:World}{g n s:Nat}{E:TypeId}{M:Nat}{del:Nat->Bool}{flat:List Value}{p j:Nat}{u y:World}(h:d8 w g n s E M del flat p j u)(I:del j=true)
  (O:y.os=u.os) (tape:y.tape=u.tape) (output:y.output=u.output) (size:u.heap.size<=y.heap.size) (r:∀ k,k<u.heap.size->y.heap[k]?=u.heap[k]?) (X:g<w.heap.size):d8 w g n s E M del flat p (j+1) y:=by
 obtain⟨z,R,Z,Y,h4⟩:=h.row;refine⟨O.trans h.os,tape.trans h.tape,output.trans h.output,Nat.le_trans h.size size,λk J H=>(r k (BH J h.size)).trans (h.other k J H),⟨z,(r g (BH X h.size)).trans R,Z,?_,λt ht H=>h4 t (by rw[BB]at ht;omega) H⟩,?_,Nat.lt_succ_of_lt h.lt⟩
 ·simp only[fu,I,if_true,List.append_nil];exact Y
 ·simp only[dB,I,if_true,BN];exact h.cnt
theorem d8.keep {w:World}{g n s:Nat}{E:TypeId}{X:Nat}{del:Nat->Bool}{flat:List Value}{p j:Nat}{u H:World}{r:Array Value}{cs:List Value}(h:d8 w g n s E X del flat p j u)(I:u.heap[g]?=some (.cells r E (0,0)))(Y:del j=false)
  (os:H.os=u.os) (tape:H.tape=u.tape) (output:H.output=u.output) (size:u.heap.size<=H.heap.size) (y:∀ k,k<u.heap.size->k≠g->H.heap[k]?=u.heap[k]?) (hj:j<n) (Z:n*s<=X)
  (hy:H.heap[g]?=some (.cells (gh r (p*s) cs) E (0,0))) (z:cs.length=s) (hc:(flat.drop (j*s)).take s=cs):d8 w g n s E X del flat (p+1) (j+1) H:=by
 obtain⟨R,O,h2,h3,h4⟩:=h.row;rw[I]at O;simp only[BM,Obj.cells.injEq]at O;obtain⟨rfl,_⟩:=O;have M:=h.lt;have a1:p*s+s<=j*s:=by rw[<- BB];exact BJ _ M
 have a0:j*s+s<=n*s:=by rw[<- BB];exact BJ _ hj
 refine⟨os.trans h.os,tape.trans h.tape,output.trans h.output,Nat.le_trans h.size size,λk hk J=>(y k (BH hk h.size) J).trans (h.other k hk J),⟨_,hy,by rw[qk];exact h2,?_,λt ht J=>?_⟩,?_,by omega⟩
 ·have:=wG cs r (p*s) (by rw[z,h2];omega);rw[z]at this;rw[BB,this,h3];simp only[fu,Y,BD,if_false,hc]
 ·rw[BB]at ht;rw[kP cs r _ t (.inr (by rw[z];omega))];exact h4 t (by omega) J
 ·simp only[dB,Y,BD,if_false,h.cnt]
end Go.Proofs.YtadlacffdemoiaaGreatEv
