/- slices.DeleteFunc: what its walk needs. -/
import Derived.Test.YtaegajachoklkaaGreatEvR
import Derived.Laws.CopyRow
import Derived.Lib.AppendZerosOnto
set_option linter.unusedVariables false
set_option linter.unusedSimpArgs false
open Array renaming length_toList->BF,getElem?_toList->BH,getElem?_setIfInBounds->BJ
open Bool renaming false_eq_true->BG
open Go.Builtin renaming zeroCells->BD,clear_->BS
open List renaming length_take->BI,length_cons->BL,getElem?_take->BN,length_append->BO,length_drop->BR
open Nat renaming succ_mul->BE,lt_of_lt_of_le->BK,mul_le_mul_right->BM,add_zero->BQ
open Option.some renaming injEq->BP
namespace Go.Proofs.YtaegajachoklkaaGreatEv
open Go Go.Proofs Go.RowKit
structure ge (N:Nat) (a b:World):Prop where
 os:b.os=a.os
 tape:b.tape=a.tape
 output:b.output=a.output
 size:b.heap.size=a.heap.size
 other:∀ k,k≠N->b.heap[k]?=a.heap[k]?
theorem ge.trans {N:Nat}{a b c:World}(h:ge N a b)(k:ge N b c):ge N a c :=
 ⟨k.os.trans h.os,k.tape.trans h.tape,k.output.trans h.output,k.size.trans h.size,λi r=>(k.other i r).trans (h.other i r)⟩
theorem yp (w:World)(g:Nat)(cs:Array Value):ge g w (w.setRow g cs):=⟨rfl,rfl,rfl,by simp,λk r=>setRow_other w g k cs r⟩
theorem bY {P:Program}(w:World)(N t:Nat)(cur:Array Value)(E:TypeId)(v:Value)(h:w.heap[N]?=some (.cells cur E (0,0)))(z:t<cur.size)(y:v.oneCell'=true) :
  ∃ w1,(store ⟨N,t,none⟩ v).run P w=.ok () w1/\w1.heap[N]?=some (.cells (cur.setIfInBounds t v) E (0,0))/\ge N w w1:=by
 have r:w.cell? ⟨N,t,none⟩=some cur[t]:=by simp[World.cell?,h,z]
 have u:w.frozen? ⟨N,t,none⟩=false:=by simp[World.frozen?,h]
 refine⟨_,?_,setRow_heap w N cur (cur.setIfInBounds t v) E (0,0) h,yp _ _ _⟩;rw[run_store P w _ v _ y,r];simp[u,setCell_eq_setRow w N t cur E (0,0) v h]
def gf (cur:Array Value)(o:Nat):List Value->Array Value
 |[]=>cur
 |c::r=>gf (cur.setIfInBounds o c) (o+1) r
theorem ql:∀ (cs:List Value) (cur:Array Value) (o:Nat),(gf cur o cs).size=cur.size
 |[],_,_=>rfl
 |c::cs,cur,o=>by rw[gf,ql cs];simp
theorem k7:∀ (cs:List Value) (cur:Array Value) (o t:Nat),t<o\/o+cs.length<=t->(gf cur o cs)[t]?=cur[t]?
 |[],_,_,_,_=>rfl
 |c::cs,cur,o,t,h=>by
  rw[BL]at h;rw[gf,k7 cs _ _ t (by omega),BJ,if_neg (by omega)]
theorem uc:∀ (cs:List Value) (cur:Array Value) (o i:Nat) (u:Value),o+cs.length<=cur.size->cs[i]?=some u->(gf cur o cs)[o+i]?=some u
 |[],_,_,_,_,_,h=>by simp at h
 |c::cs,cur,o,0,u,r,h=>by
  simp only[List.getElem?_cons_zero,BP]at h;subst h;rw[BL]at r;rw[gf,k7 cs _ _ _ (by omega),BJ,if_pos (by omega),if_pos (by omega)]
 |c::cs,cur,o,i+1,u,r,h=>by
  rw[BL]at r;rw[List.getElem?_cons_succ]at h;have:=uc cs (cur.setIfInBounds o c) (o+1) i u (by rw[Array.size_setIfInBounds];omega) h;rw[gf,show o+(i+1)=o+1+i by omega];exact this
theorem wN (cs:List Value)(cur:Array Value)(o:Nat)(h:o+cs.length<=cur.size):(gf cur o cs).toList.take (o+cs.length)=cur.toList.take o++cs:=by
 refine List.ext_getElem? λi=>?_
 rw[BN];have z:(cur.toList.take o).length=o:=by rw[BI,BF];omega
 by_cases y:i<o
 ·rw[if_pos (by omega),List.getElem?_append_left (by omega),BN,if_pos y,BH,BH,k7 cs cur o i (.inl y)]
 ·rw[List.getElem?_append_right (by omega),z];by_cases r:i<o+cs.length
  ·rw[if_pos r,BH];have u:cs[i-o]?=some cs[i-o]:=List.getElem?_eq_getElem (by omega);rw[u];have:=uc cs cur o (i-o) _ h u
   rwa [show o+(i-o)=i by omega]at this
  ·rw[if_neg r,List.getElem?_eq_none (by omega)]
theorem mL {P:Program}(w:World)(t e:TypeId)(i:TypeInfo)(z:Value)(X:P.underlying t=some (.slice e))(R:P.info? e=some i)(hz:i.zero=some z)(g o n c:Nat)(cur:Array Value)(E:TypeId)(hg:w.heap[g]?=some (.cells cur E (0,0)))
  (hn:0<n) (y:o+n*z.cells.size<=cur.size) (h1:∀ v∈z.cells.toList,v.oneCell'=true) :
  ∃ r:Array Value,(∀ ty,(BS #[t] ty #[.slice (some ⟨g,o,none⟩) n c]).run P w=.ok (.tuple #[]) (w.setRow g r))/\r.size=cur.size/\r.toList.take o=cur.toList.take o:=by
 have M:(BD z.cells n).toList.length=n*z.cells.size:=by rw[BF,size_zeroCells]
 have Z:∀ v∈(BD z.cells n).toList,v.oneCell'=true:=by
  intro v O;simp only[BD,Array.toList_map,List.mem_map]at O;obtain⟨j,hj,rfl⟩:=O;have I:j<n*z.cells.size:=by simpa using hj
  have hp:0<z.cells.size:=by
   rcases Nat.eq_zero_or_pos z.cells.size with h|h
   ·rw[h]at I;omega
   ·exact h
  have hm:j % z.cells.size<z.cells.size:=Nat.mod_lt _ hp;rw[getElem!_pos z.cells _ hm];exact h1 _ (by simp)
 have H:=run_storeCells_at (P:=P) g o E (BD z.cells n).toList 0 cur w hg (by rw[M];exact y) Z;obtain⟨r,u⟩:∃ r,r=(cur.toList.take (o+0)++(BD z.cells n).toList++cur.toList.drop (o+0+(BD z.cells n).toList.length)).toArray:=⟨_,rfl⟩;rw[<- u]at H;have e1:r.size=cur.size:=by
  rw[u];simp only[List.size_toArray,BO,BI,BR,M,BF,BQ];omega
 have Y:r.toList.take o=cur.toList.take o:=by
  rw[u];simp only[BQ,List.append_assoc];exact List.take_left' (by rw[BI,BF];omega)
 obtain⟨m,rfl⟩:∃ m,n=m+1:=⟨n-1,by omega⟩;refine⟨r,λty=>?_,e1,Y⟩;have J:∀ w,(zeroValue e).run P w=.ok z w:=λw=>by simp[zeroValue,typeInfo,R,hz]
 simp[BS,run_underlying X,J,H]
structure ea (w:World) (g n s:Nat) (E:TypeId) (sz:Nat) (del:Nat->Bool) (flat:List Value) (p j:Nat) (wx:World):Prop where
 os:wx.os=w.os
 tape:wx.tape=w.tape
 output:wx.output=w.output
 size:w.heap.size<=wx.heap.size
 other:∀ k,k<w.heap.size->k≠g->wx.heap[k]?=w.heap[k]?
 row:∃ curx:Array Value,wx.heap[g]?=some (.cells curx E (0,0))/\curx.size=sz/\curx.toList.take (p*s)=fD s del flat j/\∀ t,j*s<=t->t<n*s->curx[t]?=flat[t]?
 cnt:p=dy del j
 lt:p<j
theorem wO {del:Nat->Bool}:∀ {j:Nat},dy del j=j->∀ i,i<j->del i=false
 |0,_,i,z=>by omega
 |j+1,h,i,z=>by
  have r:∀ m,dy del m<=m:=λm=>by
   induction m with
   |zero=>exact Nat.le_refl _
   |succ m H=>simp only[dy];split <;> omega
  have:=r j;simp only[dy]at h;cases u:del j with
  |true=>rw[u]at h;simp at h;omega
  |false =>
   rw[u]at h;simp at h;rcases Nat.lt_or_eq_of_le (Nat.le_of_lt_succ z) with y|y
   ·exact wO h i y
   ·subst y;exact u
theorem pm {s:Nat}{del:Nat->Bool}{flat:List Value}:∀ {j:Nat},(∀ i,i<j->del i=false)->j*s<=flat.length->fD s del flat j=flat.take (j*s)/\dy del j=j
 |0,_,_=>by simp[fD,dy]
 |j+1,h,r=>by
  rw[BE]at r;obtain⟨y,u⟩:=pm (s:=s) (del:=del) (flat:=flat) (j:=j) (λi z=>h i (by omega)) (by omega);simp only[fD,dy,h j (by omega),BG,if_false,y,u];refine⟨?_,trivial⟩;rw[BE,List.take_add]
theorem pn {s:Nat}{del:Nat->Bool}{flat:List Value}:∀ {j:Nat},j*s<=flat.length->(fD s del flat j).length=dy del j*s
 |0,_=>by simp[fD,dy]
 |j+1,u=>by
  rw[BE]at u;have r:=pn (s:=s) (del:=del) (flat:=flat) (j:=j) (by omega);simp only[fD,dy];cases del j with
  |true=>simp[r]
  |false =>
   simp only[BG,if_false,BO,r,BI,BR,BE];omega
theorem ea.skip {w:World}{g n s:Nat}{E:TypeId}{M:Nat}{del:Nat->Bool}{flat:List Value}{p j:Nat}{u y:World}(h:ea w g n s E M del flat p j u)(I:del j=true)
  (O:y.os=u.os) (tape:y.tape=u.tape) (output:y.output=u.output) (size:u.heap.size<=y.heap.size) (r:∀ k,k<u.heap.size->y.heap[k]?=u.heap[k]?) (hg:g<w.heap.size):ea w g n s E M del flat p (j+1) y:=by
 obtain⟨z,Z,X,Y,h4⟩:=h.row;refine⟨O.trans h.os,tape.trans h.tape,output.trans h.output,Nat.le_trans h.size size,λk J H=>(r k (BK J h.size)).trans (h.other k J H),⟨z,(r g (BK hg h.size)).trans Z,X,?_,λt R H=>h4 t (by rw[BE]at R;omega) H⟩,?_,Nat.lt_succ_of_lt h.lt⟩
 ·simp only[fD,I,if_true,List.append_nil];exact Y
 ·simp only[dy,I,if_true,BQ];exact h.cnt
theorem ea.keep {w:World}{g n s:Nat}{E:TypeId}{R:Nat}{del:Nat->Bool}{flat:List Value}{p j:Nat}{u z:World}{r:Array Value}{cs:List Value}(h:ea w g n s E R del flat p j u)(I:u.heap[g]?=some (.cells r E (0,0)))(Z:del j=false)
  (os:z.os=u.os) (tape:z.tape=u.tape) (output:z.output=u.output) (size:u.heap.size<=z.heap.size) (y:∀ k,k<u.heap.size->k≠g->z.heap[k]?=u.heap[k]?) (hj:j<n) (Y:n*s<=R)
  (hy:z.heap[g]?=some (.cells (gf r (p*s) cs) E (0,0))) (H:cs.length=s) (hc:(flat.drop (j*s)).take s=cs):ea w g n s E R del flat (p+1) (j+1) z:=by
 obtain⟨O,X,h2,h3,h4⟩:=h.row;rw[I]at X;simp only[BP,Obj.cells.injEq]at X;obtain⟨rfl,_⟩:=X;have M:=h.lt;have a1:p*s+s<=j*s:=by rw[<- BE];exact BM _ M
 have a0:j*s+s<=n*s:=by rw[<- BE];exact BM _ hj
 refine⟨os.trans h.os,tape.trans h.tape,output.trans h.output,Nat.le_trans h.size size,λk hk J=>(y k (BK hk h.size) J).trans (h.other k hk J),⟨_,hy,by rw[ql];exact h2,?_,λt ht J=>?_⟩,?_,by omega⟩
 ·have:=wN cs r (p*s) (by rw[H,h2];omega);rw[H]at this;rw[BE,this,h3];simp only[fD,Z,BG,if_false,hc]
 ·rw[BE]at ht;rw[k7 cs r _ t (.inr (by rw[H];omega))];exact h4 t (by omega) J
 ·simp only[dy,Z,BG,if_false,h.cnt]
end Go.Proofs.YtaegajachoklkaaGreatEv
