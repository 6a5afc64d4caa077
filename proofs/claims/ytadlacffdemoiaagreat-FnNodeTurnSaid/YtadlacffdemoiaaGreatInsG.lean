/- slices.Insert: what its walk needs, for any element. -/
import Derived.Test.YtadlacffdemoiaaGreatEvQ
import Derived.Test.YtadlacffdemoiaaGreatE6
import Derived.Shelf.Spec.SlicesInsert
import Derived.Laws.CopyRow
import Derived.Lib.AppendZerosOnto
set_option linter.unusedVariables false
set_option maxRecDepth 100000
set_option linter.unusedVariables false
set_option linter.unusedSimpArgs false
open Array renaming length_toList->BW,getElem?_eq_some_iff->B7
open Go.Addr renaming add_lit->B6
open Go.Builtin renaming copy_->BV,firstCells->CC,zeroCells->CH,append_->CI
open Go.IntKind renaming wrap_i64->BY
open Go.Value renaming ownBlock->CB
open Go.World renaming cell?->CK
open List renaming length_append->BR,length_take->BS,length_drop->BU,size_toArray->BX,getElem?_eq_some_iff->BZ,append_assoc->B3,take_left'->B5,mem_of_mem_drop->CA,getElem?_take->CD,getElem?_drop->CE,take_take->CJ
open Nat renaming mul_le_mul_right->BQ,add_mul->BT,min_eq_left->B4,sub_mul->B8,min_def->B9,min->CF,zero_add->CG
namespace Go.Proofs.YtadlacffdemoiaaGreatEv
open Go Go.Proofs Go.Shelf Go.RowKit Go.Lib
theorem run_copy_rowN {P:Program}(w:World)(O Z ty y:TypeId)(i:TypeInfo)(hi:P.info? y=some i)(g o u H:Nat)(a:Addr)(r J:Nat)(cur:Array Value)(t:TypeId)(cs:List Value)
  (hu:P.underlying O=some (.slice y)) (hg:w.heap[g]?=some (.cells cur t (0,0))) (R:cs.length=CF r u*i.size)
  (I:∀ j v,cs[j]?=some v->w.cell? (a.add j)=some v) (z:o+cs.length<=cur.size) (X:∀ v∈cs,v.oneCell'=true) :
  (BV #[O,Z] ty #[.slice (some ⟨g,o,none⟩) u H,.slice (some a) r J]).run P w =
   .ok (goInt (CF r u)) (w.setRow g (cur.toList.take o++cs++cur.toList.drop (o+cs.length)).toArray):=by
 have Y:=run_loadCells_list (P:=P) w a cs I;have M:=run_storeCells_at P g o t cs 0 cur w hg (by simpa using z) X;simp[BV,run_underlying hu,Builtin.lenOf,CC,sizeOf,typeInfo,hi,<- R,Y,M]
def InsNil (P:Program)(F E C B:Nat):Prop :=
 ∀ (w:World) (i:TypeInfo) (z:Value) (hi:P.info? E=some i) (hz:i.zero=some z) (hs:i.size=C) (Y:i.bytes=B) (R:z.cells.size=C) (M m X:Nat) (r:List Value) (hl:r.length=m*C) (I:∀ j u,r[j]?=some u->w.cell? ⟨M,0+j,none⟩=some u) (Z:∀ u∈r,u.oneCell'=true) (hm:0<m) (O:m<=maxLen) (y:m*B<=140737488355328),
  Calls P F #[.slice none 0 0,.int .i64 0,.slice (some ⟨M,0,none⟩) m X] w λe J =>
   ∃ H,e=.returned H/\Row J E C H m r/\w.grownBy J none/\H.ownBlock=some w.heap.size
def InsEnd (P:Program)(F E C B:Nat):Prop :=
 ∀ (w:World) (g n H:Nat) (y:List Value) (i:TypeInfo) (z:Value) (hi:P.info? E=some i) (hz:i.zero=some z) (hs:i.size=C) (hb:i.bytes=B) (Z:z.cells.size=C) (X:Row w E C (.slice (some ⟨g,0,none⟩) n H) n y) (a0:n<=H) (R m vc:Nat) (r:List Value) (hl:r.length=m*C) (M:∀ j u,r[j]?=some u->w.cell? ⟨R,0+j,none⟩=some u) (h1:∀ u∈r,u.oneCell'=true) (hm:0<m) (Y:n+m<=maxLen) (I:(n+m)*B<=140737488355328),
  Calls P F #[.slice (some ⟨g,0,none⟩) n H,.int .i64 n,.slice (some ⟨R,0,none⟩) m vc] w λe O =>
   ∃ J,e=.returned J/\Row O E C J (n+m) (y++r)/\w.grownBy O (some g)/\(J.ownBlock=some g\/J.ownBlock=some w.heap.size)
def InsShift (P:Program)(F E C B:Nat):Prop :=
 ∀ (w:World) (g n H i:Nat) (I:Array Value) (r:List Value) (J:TypeInfo) (hi:P.info? E=some J) (hs:J.size=C) (hg:w.heap[g]?=some (.cells I E (0,0))) (a4:H<=maxLen) (a0:H*C<=I.size) (Y:I.toList.take (n*C)=r) (a1:r.length=n*C) (a3:∀ u∈r,u.oneCell'=true) (O m vc:Nat) (M:Array Value) (y:List Value) (a2:w.heap[O]?=some (.cells M E (0,0))) (a5:O≠g) (hl:y.length=m*C) (X:∀ j u,y[j]?=some u->w.cell? ⟨O,0+j,none⟩=some u) (h1:∀ u∈y,u.oneCell'=true) (hm:0<m) (Z:i<n) (R:n+m<=H),
  Calls P F #[.slice (some ⟨g,0,none⟩) n H,.int .i64 i,.slice (some ⟨O,0,none⟩) m vc] w λe w' =>
   e=.returned (.slice (some ⟨g,0,none⟩) (n+m) H)/\∃ z:Array Value,w'=w.drew.setRow g z/\z.size=I.size/\z.toList.take ((n+m)*C)=r.take (i*C)++y++r.drop (i*C)
def InsGrow (P:Program)(F E C B:Nat):Prop :=
 ∀ (w:World) (g n J i:Nat) (r:List Value) (I:TypeInfo) (z:Value) (hi:P.info? E=some I) (hz:I.zero=some z) (hs:I.size=C) (hb:I.bytes=B) (a6:z.cells.size=C) (a4:g<w.heap.size) (Z:∀ j u,r[j]?=some u->w.cell? ⟨g,j,none⟩=some u) (a2:r.length=n*C) (a5:∀ u∈r,u.oneCell'=true) (R m vc:Nat) (y:List Value) (a0:R<w.heap.size) (hl:y.length=m*C) (Y:∀ j u,y[j]?=some u->w.cell? ⟨R,0+j,none⟩=some u) (h1:∀ u∈y,u.oneCell'=true) (hm:0<m) (a1:i<n) (a9:n<=J) (X:J<n+m) (a3:n+m<=maxLen) (O:(n+m)*B<=140737488355328),
  Calls P F #[.slice (some ⟨g,0,none⟩) n J,.int .i64 i,.slice (some ⟨R,0,none⟩) m vc] w λe M =>
   ∃ G,n+m<=G/\G<=maxLen/\e=.returned (.slice (some ⟨w.heap.size,0,none⟩) (n+m) G)/\∃ H:Array Value,M.heap[w.heap.size]?=some (.cells H E (0,0))/\G*C<=H.size/\H.toList.take ((n+m)*C)=r.take (i*C)++y++r.drop (i*C) /\
    M.heap.size=w.heap.size+1/\M.os=w.os/\M.tape=w.tape/\M.output=w.output/\∀ k,k<w.heap.size->M.heap[k]?=w.heap[k]?
def ShiftGo (P:Program)(F S E C:Nat):Prop :=
 ∀ (w:World) (g n u i:Nat) (I:Array Value) (z:TypeInfo) (J m R:Nat) (H r y:Array Value),P.info? E=some z->z.size=C->w.heap[g]?=some (.cells I E (0,0))->w.heap[J]?=some (.cells H E (0,0))->J≠g->0<m->i<n->n+m<=u->I.size≠0 ->
  ¬ ((m:Int)=0)->¬ ((i:Int)=(n:Int))->u<=9223372036854775807->IntKind.i64.wrap ((i:Int)+(m:Int))=(i:Int)+(m:Int)->IntKind.i64.wrap ((n:Int)+(m:Int))=(n:Int)+(m:Int)->(0:Int)<=(i:Int)+(m:Int)->((i:Int)+(m:Int)).toNat=i+m->((n:Int)+(m:Int)).toNat=n+m->(i:Int)<=(n:Int)+(m:Int)->¬ (u=i+m)->i<=n->¬ (u=i) ->
  (∀ M O X,(BV #[S,S] M #[.slice (some ⟨g,(i+m)*C,none⟩) (n+m-(i+m)) O,.slice (some ⟨g,i*C,none⟩) (n+m-i) X]).run P w.drew=.ok (goInt (n-i:Nat)) (w.drew.setRow g r))->(∀ M O,(BV #[S,S] M #[.slice (some ⟨g,i*C,none⟩) (n+m-i) O,.slice (some ⟨J,0,none⟩) m R]).run P (w.drew.setRow g r)=.ok (goInt (m:Nat)) ((w.drew.setRow g r).setRow g y)) ->
  Calls P F #[.slice (some ⟨g,0,none⟩) n u,.int .i64 i,.slice (some ⟨J,0,none⟩) m R] w λe Y=>e=.returned (.slice (some ⟨g,0,none⟩) (n+m) u)/\Y=(w.drew.setRow g r).setRow g y
theorem shift_p {P:Program}{F S E C B:Nat}(t39:P.underlying S=some (.slice E))(hC:0<C)(go:ShiftGo P F S E C):InsShift P F E C B:=by
 intro w g n z i y u Z hi hs hg c1 c6 R a0 c4 vb m vc ad J c5 a9 hl a1 h1 hm bn O;have k1:(n+m)*C=n*C+m*C:=BT ..;have k2:(i+m)*C=i*C+m*C:=BT ..;have k3:(n-i)*C=n*C-i*C:=B8 ..;have k4:i*C<=n*C:=BQ _ (by omega);have c0:¬ ((m:Int)=0):=by omega
 have bl:¬ ((i:Int)=(n:Int)):=by omega
 have a4:z<=9223372036854775807:=by simp only[maxLen]at c1;omega
 have c3:IntKind.i64.wrap ((i:Int)+(m:Int))=(i:Int)+(m:Int):=by rw[BY];omega
 have bx:IntKind.i64.wrap ((n:Int)+(m:Int))=(n:Int)+(m:Int):=by rw[BY];omega
 have b5:(0:Int)<=(i:Int)+(m:Int):=by omega
 have b9:((i:Int)+(m:Int)).toNat=i+m:=by omega
 have b0:((n:Int)+(m:Int)).toNat=n+m:=by omega
 have c2:(i:Int)<=(n:Int)+(m:Int):=by omega
 have b6:¬ (z=i+m):=by omega
 have bb:i<=n:=by omega
 have ba:¬ (z=i):=by omega
 have X:(u.drop (i*C)).length=(n-i)*C:=by rw[BU,a0,<- B8]
 have a2:∀ j,j<n*C->u[j]?=y[j]?:=λj hj=>by rw[<- R,CD,if_pos hj];exact Array.getElem?_toList ..
 have b1:CF (n+m-i) (n+m-(i+m))=n-i:=by simp only[B9];split <;> omega
 have b3:CF m (n+m-i)=m:=by simp only[B9];split <;> omega
 obtain⟨r,H⟩:∃ c:Array Value,c=(y.toList.take ((i+m)*C)++u.drop (i*C)++y.toList.drop ((i+m)*C+(u.drop (i*C)).length)).toArray:=⟨_,rfl⟩;have a3:(i+m)*C+(n-i)*C<=y.size:=by
  have:(n+m)*C<=z*C:=BQ _ O;omega
 have a5:r.size=y.size:=by
  rw[H];simp only[BX,BR,BS,BU,BW,a0];omega
 obtain⟨I,M⟩:∃ c:Array Value,c=(r.toList.take (i*C)++J++r.toList.drop (i*C+J.length)).toArray:=⟨_,rfl⟩;have b4:∀ ty dc sc,(BV #[S,S] ty #[.slice (some ⟨g,(i+m)*C,none⟩) (n+m-(i+m)) dc,.slice (some ⟨g,i*C,none⟩) (n+m-i) sc]).run P w.drew=.ok (goInt (n-i:Nat)) (w.drew.setRow g r):=λty dc sc=>by
  have:=run_copy_rowN (P:=P) w.drew S S ty E Z hi g ((i+m)*C) (n+m-(i+m)) dc ⟨g,i*C,none⟩ (n+m-i) sc y E (u.drop (i*C)) t39 hg (by rw[X,b1,hs])
   (λj v hj=>by
    rw[B6];have b2:=(BZ.1 hj).1;rw[X]at b2;rw[CE]at hj;rw[show w.drew.cell? ⟨g,i*C+j,none⟩=w.cell? ⟨g,i*C+j,none⟩ from rfl,cell_of_row w g _ y E (0,0) hg,<- a2 _ (by rw[B8]at b2;omega)];exact hj)
   (by rw[X];exact a3) (λv hv=>c4 v (CA hv))
  rw[b1,<- H]at this;exact this
 have a6:∀ ty dc,(BV #[S,S] ty #[.slice (some ⟨g,i*C,none⟩) (n+m-i) dc,.slice (some ⟨vb,0,none⟩) m vc]).run P (w.drew.setRow g r)=.ok (goInt (m:Nat)) ((w.drew.setRow g r).setRow g I):=λty dc=>by
  have:=run_copy_rowN (P:=P) (w.drew.setRow g r) S S ty E Z hi g (i*C) (n+m-i) dc ⟨vb,0,none⟩ m vc r E J t39 (setRow_heap w.drew g y r E (0,0) hg) (by rw[hl,b3,hs])
   (λj v hj=>by
    rw[B6,cell_setRow_other _ _ _ _ a9];exact a1 j v hj)
   (by rw[hl,a5,<- BT];have:(i+m)*C<=z*C:=BQ _ (by omega);omega) h1
  rw[b3,<- M]at this;exact this
 have Y:I.size=y.size/\I.toList.take ((n+m)*C)=u.take (i*C)++J++u.drop (i*C):=by
  refine⟨?_,?_⟩
  ·rw[M];simp only[BX,BR,BS,BU,BW,hl,a5];have:(i+m)*C<=z*C:=BQ _ (by omega);omega
  ·have ha:r.toList.take (i*C)=u.take (i*C):=by
    rw[H,<- R,CJ,B4 (BQ _ (by omega)),B3];simp only[List.take_append_of_le_length (show i*C<=(y.toList.take ((i+m)*C)).length by simp only[BS,BW];have:(i+m)*C<=z*C:=BQ _ (by omega);omega),CJ];rw[B4 (by omega)]
   have hb:r.toList.drop (i*C+J.length)=u.drop (i*C)++y.toList.drop ((i+m)*C+(u.drop (i*C)).length):=by
    rw[H,hl,<- BT,B3];exact List.drop_left' (by simp only[BS,BW];have:(i+m)*C<=z*C:=BQ _ (by omega);omega)
   rw[M,ha,hb];simp only[<- B3];exact B5 (by simp only[BR,BS,a0,hl,X];rw[B4 (BQ _ (by omega))];omega)
 have k5:1*C<=z*C:=BQ _ (by omega);refine (go w g n z i y Z vb m vc ad r I hi hs hg c5 a9 hm bn O (by omega) c0 bl a4 c3 bx b5 b9 b0 c2 b6 bb ba b4 a6).mono λe w' h=>?_
 exact⟨h.1,I,h.2.trans (setRow_setRow _ _ _ _),Y.1,Y.2⟩
def GrowGo (P:Program)(F S E C:Nat):Prop :=
 ∀ (w:World) (g n u i:Nat) (I m J G:Nat) (ROW r y:Array Value),0<m->i<n->n<=u->u<n+m->n+m<=G ->
  ¬ ((m:Int)=0)->¬ ((i:Int)=(n:Int))->(u:Int)<(n:Int)+(m:Int)->n+m<=9223372036854775807->G<=9223372036854775807->¬ (G=i)->¬ (G=i+m)->¬ (u=i)->IntKind.i64.wrap ((i:Int)+(m:Int))=(i:Int)+(m:Int)->IntKind.i64.wrap ((n:Int)+(m:Int))=(n:Int)+(m:Int)->IntKind.i64.wrap ((n:Int)+(m:Int)-(i:Int))=(n:Int)+(m:Int)-(i:Int)->(0:Int)<=(i:Int)+(m:Int)->i<=n->((i:Int)+(m:Int)).toNat=i+m->(i:Int)<=(n:Int) ->
  (∀ z,(CI #[S,3] z #[.slice (some ⟨g,0,none⟩) i u,.int .i64 ((n:Int)+(m:Int)-(i:Int))]).run P w =
   .ok (.slice (some ⟨w.heap.size,0,none⟩) (n+m) G) (w.drew.alloc (.cells ROW E)))->(∀ z H,(BV #[S,S] z #[.slice (some ⟨w.heap.size,i*C,none⟩) (n+m-i) H,.slice (some ⟨I,0,none⟩) m J]).run P ((w.alloc (.cells ROW E)).drew)=.ok (goInt (m:Nat)) (((w.alloc (.cells ROW E)).drew).setRow w.heap.size r))->(∀ z H M,(BV #[S,S] z #[.slice (some ⟨w.heap.size,(i+m)*C,none⟩) (n+m-(i+m)) H,.slice (some ⟨g,i*C,none⟩) (n-i) M]).run P (((w.alloc (.cells ROW E)).drew.setRow w.heap.size r).drew)=.ok (goInt (n-i:Nat)) ((((w.alloc (.cells ROW E)).drew.setRow w.heap.size r).drew).setRow w.heap.size y)) ->
  Calls P F #[.slice (some ⟨g,0,none⟩) n u,.int .i64 i,.slice (some ⟨I,0,none⟩) m J] w λe O=>e=.returned (.slice (some ⟨w.heap.size,0,none⟩) (n+m) G)/\O=((((w.alloc (.cells ROW E)).drew.setRow w.heap.size r).drew).setRow w.heap.size y)
theorem grow_p {P:Program}{F S E C B:Nat}(t39:P.underlying S=some (.slice E))(t3:P.underlying 3=some (.int .i64))(hC:0<C)(go:GrowGo P F S E C):InsGrow P F E C B:=by
 intro w g n H i r a1 z hi hz hs hb cb d2 Y a4 e6 vb m vc y e0 hl a5 h1 hm cy e7 R bn a3;have k1:(n+m)*C=n*C+m*C:=BT ..;have k2:(i+m)*C=i*C+m*C:=BT ..;have k3:(n-i)*C=n*C-i*C:=B8 ..;have k4:i*C<=n*C:=BQ _ (by omega);have d3:¬ ((m:Int)=0):=by omega
 have cx:¬ ((i:Int)=(n:Int)):=by omega
 have c5:(H:Int)<(n:Int)+(m:Int):=by omega
 have b5:n+m<=9223372036854775807:=by simp only[maxLen]at bn;omega
 have e3:(n:Int)+(m:Int)-(i:Int)=((n+m-i:Nat):Int):=by omega
 have bl:i+(n+m-i)=n+m:=by omega
 have cc:i*C<=n*C:=BQ _ (by omega);have X:(r.take (i*C)).length=i*C:=by rw[BS,a4];exact B4 cc
 have b9:(CC a1.size i (.slice (some ⟨g,0,none⟩) i H)).run P w.drew=.ok (r.take (i*C)).toArray w.drew:=by
  rw[hs];exact run_firstCells_some w.drew C i ⟨g,0,none⟩ i H (r.take (i*C)) X (λj v hj=>by
   rw[B6,CG];rw[CD]at hj;split at hj
   ·exact Y j v hj
   ·cases hj)
 obtain⟨G,hG⟩:∃ G,G=grownCap w (n+m) H E:=⟨_,rfl⟩;obtain⟨ROW,O⟩:∃ ROW:Array Value,ROW=(r.take (i*C)).toArray++CH z.cells (n+m-i)++CH z.cells (G-(n+m)):=⟨_,rfl⟩;have c6:∀ Z,(CI #[S,3] Z #[.slice (some ⟨g,0,none⟩) i H,.int .i64 ((n:Int)+(m:Int)-(i:Int))]).run P w =
   .ok (.slice (some ⟨w.heap.size,0,none⟩) (n+m) G) (w.drew.alloc (.cells ROW E)):=λZ=>by
  have h:=Lib.run_append_grow_zeros w S 3 Z E a1 z .i64 .i64 t39 t3 hi hz (some ⟨g,0,none⟩) i H (r.take (i*C)) b9 (n+m-i) (by omega) (by omega) (by omega) (by omega)
   (by rw[hb];have:(n+m-i)*B<=(n+m)*B:=BQ _ (by omega);omega) (by rw[hb,bl];exact growslice_fits R a3)
  rw[bl,<- hG,<- O]at h;rw[e3];exact h
 have a6:n+m<=G:=by rw[hG];exact grownCap_ge w _ _ _
 have c3:G<=maxLen:=by rw[hG];exact grownCap_le_maxLen w (n+m) H E bn
 have ba:G<=9223372036854775807:=by unfold maxLen at c3;omega
 have a0:ROW.size=G*C:=by
  rw[O];simp only[Array.size_append,BX,size_zeroCells,cb,X,<- BT];rw[show i+(n+m-i)+(G-(n+m))=G by omega]
 obtain⟨u,J⟩:∃ c:Array Value,c=(ROW.toList.take (i*C)++y++ROW.toList.drop (i*C+y.length)).toArray:=⟨_,rfl⟩;obtain⟨I,M⟩:∃ c:Array Value,c=(u.toList.take ((i+m)*C)++r.drop (i*C)++u.toList.drop ((i+m)*C+(r.drop (i*C)).length)).toArray:=⟨_,rfl⟩;have eb:(n+m)*C<=G*C:=BQ _ a6;have a9:(r.drop (i*C)).length=(n-i)*C:=by rw[BU,a4,<- B8]
 have ad:u.size=ROW.size:=by
  rw[J];simp only[BX,BR,BS,BU,BW,hl,a0];omega
 have cu:I.size=ROW.size:=by
  rw[M];simp only[BX,BR,BS,BU,BW,a4,ad,a0];omega
 have a2:ROW.toList.take (i*C)=r.take (i*C):=by
  rw[O];simp only[Array.toList_append,B3];exact B5 X
 have b2:I.toList.take ((n+m)*C)=r.take (i*C)++y++r.drop (i*C):=by
  have e1:u.toList.take ((i+m)*C)=r.take (i*C)++y:=by
   rw[J,a2];show List.take ((i+m)*C) (r.take (i*C)++y++ROW.toList.drop (i*C+y.length))=_;exact B5 (by rw[BR,X,hl,<- BT])
  rw[M,e1];show List.take ((n+m)*C) (r.take (i*C)++y++r.drop (i*C)++_)=_;exact B5 (by rw[BR,BR,X,hl,a9,<- BT,<- BT,show i+m+(n-i)=n+m by omega])
 have b6:CF m (n+m-i)=m:=by simp only[B9];split <;> omega
 have bb:CF (n-i) (n+m-(i+m))=n-i:=by simp only[B9];split <;> omega
 have c0:∀ (W:World),W.heap[w.heap.size]?=some (.cells ROW E (0,0))->(∀ k,k<w.heap.size->W.heap[k]?=w.heap[k]?)->∀ Z dc,(BV #[S,S] Z #[.slice (some ⟨w.heap.size,i*C,none⟩) (n+m-i) dc,.slice (some ⟨vb,0,none⟩) m vc]).run P W=.ok (goInt (m:Nat)) (W.setRow w.heap.size u):=λW hW hk Z dc=>by
  have:=run_copy_rowN (P:=P) W S S Z E a1 hi w.heap.size (i*C) (n+m-i) dc ⟨vb,0,none⟩ m vc ROW E y t39 hW (by rw[hl,b6,hs])
   (λj v hj=>by
    rw[B6];have:=a5 j v hj;unfold CK at this ⊢;rw[hk vb e0];exact this)
   (by rw[hl,a0,<- BT];exact BQ _ (by omega)) h1
  rw[b6,<- J]at this;exact this
 have b3:∀ (W:World),W.heap[w.heap.size]?=some (.cells u E (0,0))->(∀ k,k<w.heap.size->W.heap[k]?=w.heap[k]?)->∀ Z dc sc,(BV #[S,S] Z #[.slice (some ⟨w.heap.size,(i+m)*C,none⟩) (n+m-(i+m)) dc,.slice (some ⟨g,i*C,none⟩) (n-i) sc]).run P W=.ok (goInt (n-i:Nat)) (W.setRow w.heap.size I):=λW hW hk Z dc sc=>by
  have:=run_copy_rowN (P:=P) W S S Z E a1 hi w.heap.size ((i+m)*C) (n+m-(i+m)) dc ⟨g,i*C,none⟩ (n-i) sc u E (r.drop (i*C)) t39 hW (by rw[a9,bb,hs])
   (λj v hj=>by
    rw[B6];rw[CE]at hj;have:=Y _ v hj;unfold CK at this ⊢;rw[hk g d2];exact this)
   (by rw[a9,ad,a0,<- BT];exact BQ _ (by omega)) (λv hv=>e6 v (CA hv))
  rw[bb,<- M]at this;exact this
 have c2:((w.alloc (.cells ROW E)).drew).heap[w.heap.size]?=some (.cells ROW E (0,0)):=heap_alloc_new w _;have b4:∀ k,k<w.heap.size->((w.alloc (.cells ROW E)).drew).heap[k]?=w.heap[k]?:=λk hk=>Go.heap_alloc_old w _ hk
 have c1:(((w.alloc (.cells ROW E)).drew.setRow w.heap.size u).drew).heap[w.heap.size]?=some (.cells u E (0,0)):=setRow_heap (w.alloc (.cells ROW E)).drew w.heap.size ROW u E (0,0) c2;have b0:∀ k,k<w.heap.size->(((w.alloc (.cells ROW E)).drew.setRow w.heap.size u).drew).heap[k]?=w.heap[k]?:=λk hk=>(setRow_other (w.alloc (.cells ROW E)).drew w.heap.size k u (by omega)).trans (b4 k hk)
 have cw:¬ (G=i):=by omega
 have bx:¬ (G=i+m):=by omega
 have e2:¬ (H=i):=by omega
 have e5:IntKind.i64.wrap ((i:Int)+(m:Int))=(i:Int)+(m:Int):=by rw[BY];omega
 have d1:IntKind.i64.wrap ((n:Int)+(m:Int))=(n:Int)+(m:Int):=by rw[BY];omega
 have dd:IntKind.i64.wrap ((n:Int)+(m:Int)-(i:Int))=(n:Int)+(m:Int)-(i:Int):=by rw[BY];omega
 have c4:(0:Int)<=(i:Int)+(m:Int):=by omega
 have b1:i<=n:=by omega
 have cp:((i:Int)+(m:Int)).toNat=i+m:=by omega
 have e4:(i:Int)<=(n:Int):=by omega
 refine (go w g n H i vb m vc G ROW u I hm cy e7 R a6 d3 cx c5 b5 ba cw bx e2 e5 d1 dd c4 b1 cp e4 c6 (c0 _ c2 b4) (b3 _ c1 b0)).mono λe w' h=>?_
 obtain⟨h1,rfl⟩:=h;exact⟨G,a6,c3,h1,I,setRow_heap _ _ _ _ _ _ c1,by rw[cu,a0];exact Nat.le_refl _,b2,by simp,rfl,rfl,rfl,λk hk=>(setRow_other _ _ _ _ (by omega)).trans (b0 k hk)⟩
theorem ins_walk {P:Program}{F E C B:Nat}(q1:(P.info? E).isSome=true)(q2:(P.info? E).map (λi=>i.size)=some C)(q3:(P.info? E).map (λi=>i.bytes)=some B)(q4:((P.info? E).bind λi=>i.zero).map (λz=>z.cells.size)=some C)
  (hC:0<C) (hE:¬ E=5) (hB:0<B) (ins_nil:InsNil P F E C B) (ins_end:InsEnd P F E C B) (ins_shift:InsShift P F E C B) (ins_grow:InsGrow P F E C B):jo P F E C B:=by
 intro w v0 v2 n m i y I r0 r2 o0 o2 hm ad b3 Y;have k1:(n+m)*C=n*C+m*C:=BT ..;have c4:=r2;obtain⟨J,h2⟩:=r2;rcases h2 with ⟨_,h⟩|⟨vb,vc,a5,mk,rfl,b5,cb,a6,c6,cc⟩
 ·omega
 obtain⟨rfl,_⟩:=a6.elim id (λh=>absurd h.1 hE);have r:∀ j u,I[j]?=some u->w.cell? ⟨vb,0+j,none⟩=some u:=λj u hj=>by
  rw[CG,c4.cellAt j (by rw[<- J];exact (BZ.1 hj).1)];exact hj
 have kB:n+m<=(n+m)*B:=Nat.le_mul_of_pos_right _ hB;have b1:n+m<=maxLen:=by unfold maxLen;omega
 obtain⟨M,hi⟩:=Option.isSome_iff_exists.1 q1;rw[hi]at q2 q3 q4;have hs:M.size=C:=by simpa using q2
 have hb:M.bytes=B:=by simpa using q3
 simp only[Option.bind_some,Option.map_eq_some_iff]at q4;obtain⟨z,hz,a2⟩:=q4;have c1:vb<w.heap.size:=(B7.1 b5).1;have a9:=r0;obtain⟨O,h0⟩:=r0;rcases h0 with ⟨rfl,h0⟩|⟨g,X,b2,mk,rfl,hg,b4,c0,b0,a3⟩
 ·subst h0;have:i=0:=by omega
  subst this;have hf:y=[]:=List.eq_nil_of_length_eq_zero (by simpa using O);subst hf;refine (ins_nil w M z hi hz hs hb a2 vb m vc I J r o2 hm (by omega) (by rw[CG]at Y;exact Y)).mono λe w' h=>?_
  obtain⟨v',e1,h1,h2,h3⟩:=h;exact⟨v',e1,by simpa using h1,h2,.inr h3⟩
 ·obtain⟨rfl,Z⟩:=c0.elim id (λh=>absurd h.1 hE);have bx:g<w.heap.size:=(B7.1 hg).1;have b6:vb≠g:=λh=>b3 g (by simp[CB]) (by simp[CB,h])
  have a4:∀ j u,y[j]?=some u->w.cell? ⟨g,j,none⟩=some u:=λj u hj=>by
   rw[a9.cellAt j (by rw[<- O];exact (BZ.1 hj).1)];exact hj
  by_cases hn:i=n
  ·subst hn;refine (ins_end w g i X y M z hi hz hs hb a2 a9 b4 vb m vc I J r o2 hm b1 Y).mono λe w' h=>?_
   obtain⟨v',e1,h1,h2,h3⟩:=h;refine⟨v',e1,?_,h2,h3⟩;rw[List.take_of_length_le (by omega),List.drop_of_length_le (by omega),List.append_nil];exact h1
  ·by_cases R:n+m<=X
   ·refine (ins_shift w g n X i b2 y M hi hs hg Z b0 a3 O o0 vb m vc a5 I b5 b6 J r o2 hm (by omega) R).mono λe w' h=>?_
    obtain⟨e1,H,rfl,a0,a1⟩:=h;refine⟨_,e1,⟨?_,.inr ⟨g,X,H,_,rfl,setRow_heap w.drew g b2 H E (0,0) hg,R,.inl ⟨rfl,Z⟩,by rw[a0];exact b0,a1⟩⟩,⟨rfl,rfl,rfl,by simp,λk _ hk=>setRow_other w.drew g k H (λh=>hk (by simp[CB,h]))⟩,.inl rfl⟩;simp only[BR,BS,BU,O,J];have:i*C<=n*C:=BQ _ ad;omega
   ·refine (ins_grow w g n X i y M z hi hz hs hb a2 bx a4 O o0 vb m vc I c1 J r o2 hm (by omega) b4 (by omega) b1 Y).mono λe w' h=>?_
    obtain⟨G,bb,bn,e1,H,a0,a1,ba,c5,bl,c2,b9,hk⟩:=h;refine⟨_,e1,⟨?_,.inr ⟨w.heap.size,G,H,_,rfl,a0,bb,.inl ⟨rfl,bn⟩,a1,ba⟩⟩,⟨bl,c2,b9,by omega,λk c3 _=>hk k c3⟩,.inr rfl⟩;simp only[BR,BS,BU,O,J];have:i*C<=n*C:=BQ _ ad;omega
end Go.Proofs.YtadlacffdemoiaaGreatEv
