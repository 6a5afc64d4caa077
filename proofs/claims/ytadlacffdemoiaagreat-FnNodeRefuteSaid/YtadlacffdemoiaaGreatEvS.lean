/- slices.DeleteFunc: what its walk needs. -/
import Derived.Test.YtadlacffdemoiaaGreatEvR
import Derived.Laws.CopyRow
import Derived.Lib.AppendZerosOnto
set_option linter.unusedVariables false
set_option linter.unusedSimpArgs false
open Array renaming length_toList->BC,getElem?_toList->BE,getElem?_setIfInBounds->BG
open Bool renaming false_eq_true->BD
open Go.Builtin renaming zeroCells->BA,clear_->BP
open List renaming length_take->BF,length_cons->BI,getElem?_take->BK,length_append->BL,length_drop->BO
open Nat renaming succ_mul->BB,lt_of_lt_of_le->BH,mul_le_mul_right->BJ,add_zero->BN
open Option.some renaming injEq->BM
namespace Go.Proofs.YtadlacffdemoiaaGreatEv
open Go Go.Proofs Go.RowKit
structure f9 (N:Nat) (a b:World):Prop where
 os:b.os=a.os
 tape:b.tape=a.tape
 output:b.output=a.output
 size:b.heap.size=a.heap.size
 other:∀ k,k≠N->b.heap[k]?=a.heap[k]?
theorem f9.trans {N:Nat}{a b c:World}(h:f9 N a b)(k:f9 N b c):f9 N a c :=
 ⟨k.os.trans h.os,k.tape.trans h.tape,k.output.trans h.output,k.size.trans h.size,λi r=>(k.other i r).trans (h.other i r)⟩
theorem x3 (w:World)(g:Nat)(cs:Array Value):f9 g w (w.setRow g cs):=⟨rfl,rfl,rfl,by simp,λk r=>setRow_other w g k cs r⟩
theorem b6 {P:Program}(w:World)(N t:Nat)(cur:Array Value)(E:TypeId)(v:Value)(h:w.heap[N]?=some (.cells cur E (0,0)))(y:t<cur.size)(z:v.oneCell'=true) :
  ∃ w1,(store ⟨N,t,none⟩ v).run P w=.ok () w1/\w1.heap[N]?=some (.cells (cur.setIfInBounds t v) E (0,0))/\f9 N w w1:=by
 have r:w.cell? ⟨N,t,none⟩=some cur[t]:=by simp[World.cell?,h,y]
 have u:w.frozen? ⟨N,t,none⟩=false:=by simp[World.frozen?,h]
 refine⟨_,?_,setRow_heap w N cur (cur.setIfInBounds t v) E (0,0) h,x3 _ _ _⟩;rw[run_store P w _ v _ z,r];simp[u,setCell_eq_setRow w N t cur E (0,0) v h]
def gb (cur:Array Value)(o:Nat):List Value->Array Value
 |[]=>cur
 |c::r=>gb (cur.setIfInBounds o c) (o+1) r
theorem qj:∀ (cs:List Value) (cur:Array Value) (o:Nat),(gb cur o cs).size=cur.size
 |[],_,_=>rfl
 |c::cs,cur,o=>by rw[gb,qj cs];simp
theorem kO:∀ (cs:List Value) (cur:Array Value) (o t:Nat),t<o\/o+cs.length<=t->(gb cur o cs)[t]?=cur[t]?
 |[],_,_,_,_=>rfl
 |c::cs,cur,o,t,h=>by
  rw[BI]at h;rw[gb,kO cs _ _ t (by omega),BG,if_neg (by omega)]
theorem tR:∀ (cs:List Value) (cur:Array Value) (o i:Nat) (u:Value),o+cs.length<=cur.size->cs[i]?=some u->(gb cur o cs)[o+i]?=some u
 |[],_,_,_,_,_,h=>by simp at h
 |c::cs,cur,o,0,u,r,h=>by
  simp only[List.getElem?_cons_zero,BM]at h;subst h;rw[BI]at r;rw[gb,kO cs _ _ _ (by omega),BG,if_pos (by omega),if_pos (by omega)]
 |c::cs,cur,o,i+1,u,r,h=>by
  rw[BI]at r;rw[List.getElem?_cons_succ]at h;have:=tR cs (cur.setIfInBounds o c) (o+1) i u (by rw[Array.size_setIfInBounds];omega) h;rw[gb,show o+(i+1)=o+1+i by omega];exact this
theorem wA (cs:List Value)(cur:Array Value)(o:Nat)(h:o+cs.length<=cur.size):(gb cur o cs).toList.take (o+cs.length)=cur.toList.take o++cs:=by
 refine List.ext_getElem? λi=>?_
 rw[BK];have z:(cur.toList.take o).length=o:=by rw[BF,BC];omega
 by_cases r:i<o
 ·rw[if_pos (by omega),List.getElem?_append_left (by omega),BK,if_pos r,BE,BE,kO cs cur o i (.inl r)]
 ·rw[List.getElem?_append_right (by omega),z];by_cases y:i<o+cs.length
  ·rw[if_pos y,BE];have u:cs[i-o]?=some cs[i-o]:=List.getElem?_eq_getElem (by omega);rw[u];have:=tR cs cur o (i-o) _ h u
   rwa [show o+(i-o)=i by omega]at this
  ·rw[if_neg y,List.getElem?_eq_none (by omega)]
theorem mB {P:Program}(w:World)(t e:TypeId)(i:TypeInfo)(z:Value)(R:P.underlying t=some (.slice e))(hi:P.info? e=some i)(hz:i.zero=some z)(g o n c:Nat)(cur:Array Value)(E:TypeId)(hg:w.heap[g]?=some (.cells cur E (0,0)))
  (hn:0<n) (y:o+n*z.cells.size<=cur.size) (h1:∀ v∈z.cells.toList,v.oneCell'=true) :
  ∃ r:Array Value,(∀ ty,(BP #[t] ty #[.slice (some ⟨g,o,none⟩) n c]).run P w=.ok (.tuple #[]) (w.setRow g r))/\r.size=cur.size/\r.toList.take o=cur.toList.take o:=by
 have M:(BA z.cells n).toList.length=n*z.cells.size:=by rw[BC,size_zeroCells]
 have h2:∀ v∈(BA z.cells n).toList,v.oneCell'=true:=by
  intro v O;simp only[BA,Array.toList_map,List.mem_map]at O;obtain⟨j,Y,rfl⟩:=O;have J:j<n*z.cells.size:=by simpa using Y
  have Z:0<z.cells.size:=by
   rcases Nat.eq_zero_or_pos z.cells.size with h|h
   ·rw[h]at J;omega
   ·exact h
  have X:j % z.cells.size<z.cells.size:=Nat.mod_lt _ Z;rw[getElem!_pos z.cells _ X];exact h1 _ (by simp)
 have H:=run_storeCells_at (P:=P) g o E (BA z.cells n).toList 0 cur w hg (by rw[M];exact y) h2;obtain⟨r,u⟩:∃ r,r=(cur.toList.take (o+0)++(BA z.cells n).toList++cur.toList.drop (o+0+(BA z.cells n).toList.length)).toArray:=⟨_,rfl⟩;rw[<- u]at H;have e1:r.size=cur.size:=by
  rw[u];simp only[List.size_toArray,BL,BF,BO,M,BC,BN];omega
 have e2:r.toList.take o=cur.toList.take o:=by
  rw[u];simp only[BN,List.append_assoc];exact List.take_left' (by rw[BF,BC];omega)
 obtain⟨m,rfl⟩:∃ m,n=m+1:=⟨n-1,by omega⟩;refine⟨r,λty=>?_,e1,e2⟩;have I:∀ w,(zeroValue e).run P w=.ok z w:=λw=>by simp[zeroValue,typeInfo,hi,hz]
 simp[BP,run_underlying R,I,H]
structure d9 (w:World) (g n s:Nat) (E:TypeId) (sz:Nat) (del:Nat->Bool) (flat:List Value) (p j:Nat) (wx:World):Prop where
 os:wx.os=w.os
 tape:wx.tape=w.tape
 output:wx.output=w.output
 size:w.heap.size<=wx.heap.size
 other:∀ k,k<w.heap.size->k≠g->wx.heap[k]?=w.heap[k]?
 row:∃ curx:Array Value,wx.heap[g]?=some (.cells curx E (0,0))/\curx.size=sz/\curx.toList.take (p*s)=fu s del flat j/\∀ t,j*s<=t->t<n*s->curx[t]?=flat[t]?
 cnt:p=dB del j
 lt:p<j
theorem wB {del:Nat->Bool}:∀ {j:Nat},dB del j=j->∀ i,i<j->del i=false
 |0,_,i,z=>by omega
 |j+1,h,i,z=>by
  have u:∀ m,dB del m<=m:=λm=>by
   induction m with
   |zero=>exact Nat.le_refl _
   |succ m H=>simp only[dB];split <;> omega
  have:=u j;simp only[dB]at h;cases y:del j with
  |true=>rw[y]at h;simp at h;omega
  |false =>
   rw[y]at h;simp at h;rcases Nat.lt_or_eq_of_le (Nat.le_of_lt_succ z) with r|r
   ·exact wB h i r
   ·subst r;exact y
theorem pj {s:Nat}{del:Nat->Bool}{flat:List Value}:∀ {j:Nat},(∀ i,i<j->del i=false)->j*s<=flat.length->fu s del flat j=flat.take (j*s)/\dB del j=j
 |0,_,_=>by simp[fu,dB]
 |j+1,h,y=>by
  rw[BB]at y;obtain⟨r,u⟩:=pj (s:=s) (del:=del) (flat:=flat) (j:=j) (λi z=>h i (by omega)) (by omega);simp only[fu,dB,h j (by omega),BD,if_false,r,u];refine⟨?_,trivial⟩;rw[BB,List.take_add]
theorem pm {s:Nat}{del:Nat->Bool}{flat:List Value}:∀ {j:Nat},j*s<=flat.length->(fu s del flat j).length=dB del j*s
 |0,_=>by simp[fu,dB]
 |j+1,u=>by
  rw[BB]at u;have r:=pm (s:=s) (del:=del) (flat:=flat) (j:=j) (by omega);simp only[fu,dB];cases del j with
  |true=>simp[r]
  |false =>
   simp only[BD,if_false,BL,r,BF,BO,BB];omega
theorem d9.skip {w:World}{g n s:Nat}{E:TypeId}{I:Nat}{del:Nat->Bool}{flat:List Value}{p j:Nat}{u y:World}(h:d9 w g n s E I del flat p j u)(M:del j=true)
  (R:y.os=u.os) (tape:y.tape=u.tape) (output:y.output=u.output) (size:u.heap.size<=y.heap.size) (r:∀ k,k<u.heap.size->y.heap[k]?=u.heap[k]?) (hg:g<w.heap.size):d9 w g n s E I del flat p (j+1) y:=by
 obtain⟨z,X,h2,Z,Y⟩:=h.row;refine⟨R.trans h.os,tape.trans h.tape,output.trans h.output,Nat.le_trans h.size size,λk J H=>(r k (BH J h.size)).trans (h.other k J H),⟨z,(r g (BH hg h.size)).trans X,h2,?_,λt O H=>Y t (by rw[BB]at O;omega) H⟩,?_,Nat.lt_succ_of_lt h.lt⟩
 ·simp only[fu,M,if_true,List.append_nil];exact Z
 ·simp only[dB,M,if_true,BN];exact h.cnt
theorem d9.keep {w:World}{g n s:Nat}{E:TypeId}{M:Nat}{del:Nat->Bool}{flat:List Value}{p j:Nat}{u z:World}{r:Array Value}{cs:List Value}(h:d9 w g n s E M del flat p j u)(I:u.heap[g]?=some (.cells r E (0,0)))(hd:del j=false)
  (os:z.os=u.os) (tape:z.tape=u.tape) (output:z.output=u.output) (size:u.heap.size<=z.heap.size) (H:∀ k,k<u.heap.size->k≠g->z.heap[k]?=u.heap[k]?) (hj:j<n) (Y:n*s<=M)
  (hy:z.heap[g]?=some (.cells (gb r (p*s) cs) E (0,0))) (y:cs.length=s) (hc:(flat.drop (j*s)).take s=cs):d9 w g n s E M del flat (p+1) (j+1) z:=by
 obtain⟨X,O,h2,h3,h4⟩:=h.row;rw[I]at O;simp only[BM,Obj.cells.injEq]at O;obtain⟨rfl,_⟩:=O;have R:=h.lt;have a1:p*s+s<=j*s:=by rw[<- BB];exact BJ _ R
 have a0:j*s+s<=n*s:=by rw[<- BB];exact BJ _ hj
 refine⟨os.trans h.os,tape.trans h.tape,output.trans h.output,Nat.le_trans h.size size,λk Z J=>(H k (BH Z h.size) J).trans (h.other k Z J),⟨_,hy,by rw[qj];exact h2,?_,λt ht J=>?_⟩,?_,by omega⟩
 ·have:=wA cs r (p*s) (by rw[y,h2];omega);rw[y]at this;rw[BB,this,h3];simp only[fu,hd,BD,if_false,hc]
 ·rw[BB]at ht;rw[kO cs r _ t (.inr (by rw[y];omega))];exact h4 t (by omega) J
 ·simp only[dB,hd,BD,if_false,h.cnt]
end Go.Proofs.YtadlacffdemoiaaGreatEv
