/- slices.Insert: what its walk needs, for any element. -/
import Derived.Test.YtadlacffdemoiaaGreatEvQ
import Derived.Test.YtadlacffdemoiaaGreatE6
import Derived.Shelf.Spec.SlicesInsert
import Derived.Laws.CopyRow
import Derived.Lib.AppendZerosOnto
set_option linter.unusedVariables false
set_option maxRecDepth 100000
set_option linter.unusedVariables false
set_option linter.unusedSimpArgs false
open Array renaming length_toList->BG,getElem?_eq_some_iff->BO
open Go.Addr renaming add_lit->BN
open Go.Builtin renaming copy_->BF,firstCells->BT,zeroCells->BY,append_->BZ
open Go.IntKind renaming wrap_i64->BI
open Go.Value renaming ownBlock->BS
open Go.World renaming cell?->B4
open List renaming length_append->BB,length_take->BC,length_drop->BE,size_toArray->BH,getElem?_eq_some_iff->BJ,append_assoc->BK,take_left'->BM,mem_of_mem_drop->BR,getElem?_take->BU,getElem?_drop->BV,take_take->B3
open Nat renaming mul_le_mul_right->BA,add_mul->BD,min_eq_left->BL,sub_mul->BP,min_def->BQ,min->BW,zero_add->BX
namespace Go.Proofs.YtadlacffdemoiaaGreatEv
open Go Go.Proofs Go.Shelf Go.RowKit Go.Lib
theorem run_copy_rowN {P:Program}(w:World)(O sT ty y:TypeId)(i:TypeInfo)(X:P.info? y=some i)(g o r J:Nat)(a:Addr)(u I:Nat)(cur:Array Value)(t:TypeId)(cs:List Value)
  (hu:P.underlying O=some (.slice y)) (Y:w.heap[g]?=some (.cells cur t (0,0))) (Z:cs.length=BW u r*i.size)
  (z:∀ j v,cs[j]?=some v->w.cell? (a.add j)=some v) (H:o+cs.length<=cur.size) (R:∀ v∈cs,v.oneCell'=true) :
  (BF #[O,sT] ty #[.slice (some ⟨g,o,none⟩) r J,.slice (some a) u I]).run P w =
   .ok (goInt (BW u r)) (w.setRow g (cur.toList.take o++cs++cur.toList.drop (o+cs.length)).toArray):=by
 have hl:=run_loadCells_list (P:=P) w a cs z;have M:=run_storeCells_at P g o t cs 0 cur w Y (by simpa using H) R;simp[BF,run_underlying hu,Builtin.lenOf,BT,sizeOf,typeInfo,X,<- Z,hl,M]
def InsNil (P:Program)(F E C B:Nat):Prop :=
 ∀ (w:World) (i:TypeInfo) (z:Value) (hi:P.info? E=some i) (hz:i.zero=some z) (hs:i.size=C) (Y:i.bytes=B) (R:z.cells.size=C) (J m X:Nat) (r:List Value) (hl:r.length=m*C) (H:∀ j u,r[j]?=some u->w.cell? ⟨J,0+j,none⟩=some u) (h1:∀ u∈r,u.oneCell'=true) (Z:0<m) (O:m<=maxLen) (y:m*B<=140737488355328),
  Calls P F #[.slice none 0 0,.int .i64 0,.slice (some ⟨J,0,none⟩) m X] w λe M =>
   ∃ I,e=.returned I/\Row M E C I m r/\w.grownBy M none/\I.ownBlock=some w.heap.size
def InsEnd (P:Program)(F E C B:Nat):Prop :=
 ∀ (w:World) (g n H:Nat) (y:List Value) (i:TypeInfo) (z:Value) (hi:P.info? E=some i) (hz:i.zero=some z) (hs:i.size=C) (hb:i.bytes=B) (a0:z.cells.size=C) (O:Row w E C (.slice (some ⟨g,0,none⟩) n H) n y) (Y:n<=H) (R m vc:Nat) (r:List Value) (hl:r.length=m*C) (M:∀ j u,r[j]?=some u->w.cell? ⟨R,0+j,none⟩=some u) (h1:∀ u∈r,u.oneCell'=true) (hm:0<m) (Z:n+m<=maxLen) (I:(n+m)*B<=140737488355328),
  Calls P F #[.slice (some ⟨g,0,none⟩) n H,.int .i64 n,.slice (some ⟨R,0,none⟩) m vc] w λe X =>
   ∃ J,e=.returned J/\Row X E C J (n+m) (y++r)/\w.grownBy X (some g)/\(J.ownBlock=some g\/J.ownBlock=some w.heap.size)
def InsShift (P:Program)(F E C B:Nat):Prop :=
 ∀ (w:World) (g n H i:Nat) (I:Array Value) (r:List Value) (M:TypeInfo) (hi:P.info? E=some M) (hs:M.size=C) (hg:w.heap[g]?=some (.cells I E (0,0))) (a1:H<=maxLen) (a2:H*C<=I.size) (X:I.toList.take (n*C)=r) (a3:r.length=n*C) (a0:∀ u∈r,u.oneCell'=true) (O m vc:Nat) (J:Array Value) (y:List Value) (a5:w.heap[O]?=some (.cells J E (0,0))) (Z:O≠g) (hl:y.length=m*C) (Y:∀ j u,y[j]?=some u->w.cell? ⟨O,0+j,none⟩=some u) (h1:∀ u∈y,u.oneCell'=true) (hm:0<m) (a4:i<n) (R:n+m<=H),
  Calls P F #[.slice (some ⟨g,0,none⟩) n H,.int .i64 i,.slice (some ⟨O,0,none⟩) m vc] w λe w' =>
   e=.returned (.slice (some ⟨g,0,none⟩) (n+m) H)/\∃ z:Array Value,w'=w.drew.setRow g z/\z.size=I.size/\z.toList.take ((n+m)*C)=r.take (i*C)++y++r.drop (i*C)
def InsGrow (P:Program)(F E C B:Nat):Prop :=
 ∀ (w:World) (g n J i:Nat) (r:List Value) (I:TypeInfo) (z:Value) (hi:P.info? E=some I) (hz:I.zero=some z) (hs:I.size=C) (hb:I.bytes=B) (a9:z.cells.size=C) (a0:g<w.heap.size) (Z:∀ j u,r[j]?=some u->w.cell? ⟨g,j,none⟩=some u) (a4:r.length=n*C) (a3:∀ u∈r,u.oneCell'=true) (R m vc:Nat) (y:List Value) (a2:R<w.heap.size) (hl:y.length=m*C) (Y:∀ j u,y[j]?=some u->w.cell? ⟨R,0+j,none⟩=some u) (h1:∀ u∈y,u.oneCell'=true) (hm:0<m) (a5:i<n) (a1:n<=J) (X:J<n+m) (a6:n+m<=maxLen) (O:(n+m)*B<=140737488355328),
  Calls P F #[.slice (some ⟨g,0,none⟩) n J,.int .i64 i,.slice (some ⟨R,0,none⟩) m vc] w λe M =>
   ∃ G,n+m<=G/\G<=maxLen/\e=.returned (.slice (some ⟨w.heap.size,0,none⟩) (n+m) G)/\∃ H:Array Value,M.heap[w.heap.size]?=some (.cells H E (0,0))/\G*C<=H.size/\H.toList.take ((n+m)*C)=r.take (i*C)++y++r.drop (i*C) /\
    M.heap.size=w.heap.size+1/\M.os=w.os/\M.tape=w.tape/\M.output=w.output/\∀ k,k<w.heap.size->M.heap[k]?=w.heap[k]?
def ShiftGo (P:Program)(F S E C:Nat):Prop :=
 ∀ (w:World) (g n u i:Nat) (H:Array Value) (I:TypeInfo) (J m R:Nat) (z r y:Array Value),P.info? E=some I->I.size=C->w.heap[g]?=some (.cells H E (0,0))->w.heap[J]?=some (.cells z E (0,0))->J≠g->0<m->i<n->n+m<=u->H.size≠0 ->
  ¬ ((m:Int)=0)->¬ ((i:Int)=(n:Int))->u<=9223372036854775807->IntKind.i64.wrap ((i:Int)+(m:Int))=(i:Int)+(m:Int)->IntKind.i64.wrap ((n:Int)+(m:Int))=(n:Int)+(m:Int)->(0:Int)<=(i:Int)+(m:Int)->((i:Int)+(m:Int)).toNat=i+m->((n:Int)+(m:Int)).toNat=n+m->(i:Int)<=(n:Int)+(m:Int)->¬ (u=i+m)->i<=n->¬ (u=i) ->
  (∀ O M X,(BF #[S,S] O #[.slice (some ⟨g,(i+m)*C,none⟩) (n+m-(i+m)) M,.slice (some ⟨g,i*C,none⟩) (n+m-i) X]).run P w.drew=.ok (goInt (n-i:Nat)) (w.drew.setRow g r))->(∀ O M,(BF #[S,S] O #[.slice (some ⟨g,i*C,none⟩) (n+m-i) M,.slice (some ⟨J,0,none⟩) m R]).run P (w.drew.setRow g r)=.ok (goInt (m:Nat)) ((w.drew.setRow g r).setRow g y)) ->
  Calls P F #[.slice (some ⟨g,0,none⟩) n u,.int .i64 i,.slice (some ⟨J,0,none⟩) m R] w λe Y=>e=.returned (.slice (some ⟨g,0,none⟩) (n+m) u)/\Y=(w.drew.setRow g r).setRow g y
theorem shift_p {P:Program}{F S E C B:Nat}(t39:P.underlying S=some (.slice E))(hC:0<C)(go:ShiftGo P F S E C):InsShift P F E C B:=by
 intro w g n z i y u a1 hi hs hg c2 cb O Z c1 vb m vc b2 J c6 a5 hl a2 h1 hm c5 R;have k1:(n+m)*C=n*C+m*C:=BD ..;have k2:(i+m)*C=i*C+m*C:=BD ..;have k3:(n-i)*C=n*C-i*C:=BP ..;have k4:i*C<=n*C:=BA _ (by omega);have c0:¬ ((m:Int)=0):=by omega
 have bx:¬ ((i:Int)=(n:Int)):=by omega
 have ad:z<=9223372036854775807:=by simp only[maxLen]at c2;omega
 have bl:IntKind.i64.wrap ((i:Int)+(m:Int))=(i:Int)+(m:Int):=by rw[BI];omega
 have b9:IntKind.i64.wrap ((n:Int)+(m:Int))=(n:Int)+(m:Int):=by rw[BI];omega
 have bn:(0:Int)<=(i:Int)+(m:Int):=by omega
 have c4:((i:Int)+(m:Int)).toNat=i+m:=by omega
 have b0:((n:Int)+(m:Int)).toNat=n+m:=by omega
 have b5:(i:Int)<=(n:Int)+(m:Int):=by omega
 have bb:¬ (z=i+m):=by omega
 have ba:i<=n:=by omega
 have c3:¬ (z=i):=by omega
 have X:(u.drop (i*C)).length=(n-i)*C:=by rw[BE,Z,<- BP]
 have a0:∀ j,j<n*C->u[j]?=y[j]?:=λj hj=>by rw[<- O,BU,if_pos hj];exact Array.getElem?_toList ..
 have b1:BW (n+m-i) (n+m-(i+m))=n-i:=by simp only[BQ];split <;> omega
 have a9:BW m (n+m-i)=m:=by simp only[BQ];split <;> omega
 obtain⟨r,H⟩:∃ c:Array Value,c=(y.toList.take ((i+m)*C)++u.drop (i*C)++y.toList.drop ((i+m)*C+(u.drop (i*C)).length)).toArray:=⟨_,rfl⟩;have a6:(i+m)*C+(n-i)*C<=y.size:=by
  have:(n+m)*C<=z*C:=BA _ R;omega
 have b3:r.size=y.size:=by
  rw[H];simp only[BH,BB,BC,BE,BG,Z];omega
 obtain⟨I,M⟩:∃ c:Array Value,c=(r.toList.take (i*C)++J++r.toList.drop (i*C+J.length)).toArray:=⟨_,rfl⟩;have a4:∀ ty dc sc,(BF #[S,S] ty #[.slice (some ⟨g,(i+m)*C,none⟩) (n+m-(i+m)) dc,.slice (some ⟨g,i*C,none⟩) (n+m-i) sc]).run P w.drew=.ok (goInt (n-i:Nat)) (w.drew.setRow g r):=λty dc sc=>by
  have:=run_copy_rowN (P:=P) w.drew S S ty E a1 hi g ((i+m)*C) (n+m-(i+m)) dc ⟨g,i*C,none⟩ (n+m-i) sc y E (u.drop (i*C)) t39 hg (by rw[X,b1,hs])
   (λj v hj=>by
    rw[BN];have b4:=(BJ.1 hj).1;rw[X]at b4;rw[BV]at hj;rw[show w.drew.cell? ⟨g,i*C+j,none⟩=w.cell? ⟨g,i*C+j,none⟩ from rfl,cell_of_row w g _ y E (0,0) hg,<- a0 _ (by rw[BP]at b4;omega)];exact hj)
   (by rw[X];exact a6) (λv hv=>c1 v (BR hv))
  rw[b1,<- H]at this;exact this
 have a3:∀ ty dc,(BF #[S,S] ty #[.slice (some ⟨g,i*C,none⟩) (n+m-i) dc,.slice (some ⟨vb,0,none⟩) m vc]).run P (w.drew.setRow g r)=.ok (goInt (m:Nat)) ((w.drew.setRow g r).setRow g I):=λty dc=>by
  have:=run_copy_rowN (P:=P) (w.drew.setRow g r) S S ty E a1 hi g (i*C) (n+m-i) dc ⟨vb,0,none⟩ m vc r E J t39 (setRow_heap w.drew g y r E (0,0) hg) (by rw[hl,a9,hs])
   (λj v hj=>by
    rw[BN,cell_setRow_other _ _ _ _ a5];exact a2 j v hj)
   (by rw[hl,b3,<- BD];have:(i+m)*C<=z*C:=BA _ (by omega);omega) h1
  rw[a9,<- M]at this;exact this
 have Y:I.size=y.size/\I.toList.take ((n+m)*C)=u.take (i*C)++J++u.drop (i*C):=by
  refine⟨?_,?_⟩
  ·rw[M];simp only[BH,BB,BC,BE,BG,hl,b3];have:(i+m)*C<=z*C:=BA _ (by omega);omega
  ·have ha:r.toList.take (i*C)=u.take (i*C):=by
    rw[H,<- O,B3,BL (BA _ (by omega)),BK];simp only[List.take_append_of_le_length (show i*C<=(y.toList.take ((i+m)*C)).length by simp only[BC,BG];have:(i+m)*C<=z*C:=BA _ (by omega);omega),B3];rw[BL (by omega)]
   have hb:r.toList.drop (i*C+J.length)=u.drop (i*C)++y.toList.drop ((i+m)*C+(u.drop (i*C)).length):=by
    rw[H,hl,<- BD,BK];exact List.drop_left' (by simp only[BC,BG];have:(i+m)*C<=z*C:=BA _ (by omega);omega)
   rw[M,ha,hb];simp only[<- BK];exact BM (by simp only[BB,BC,Z,hl,X];rw[BL (BA _ (by omega))];omega)
 have k5:1*C<=z*C:=BA _ (by omega);refine (go w g n z i y a1 vb m vc b2 r I hi hs hg c6 a5 hm c5 R (by omega) c0 bx ad bl b9 bn c4 b0 b5 bb ba c3 a4 a3).mono λe w' h=>?_
 exact⟨h.1,I,h.2.trans (setRow_setRow _ _ _ _),Y.1,Y.2⟩
def GrowGo (P:Program)(F S E C:Nat):Prop :=
 ∀ (w:World) (g n u i:Nat) (I m J G:Nat) (ROW r y:Array Value),0<m->i<n->n<=u->u<n+m->n+m<=G ->
  ¬ ((m:Int)=0)->¬ ((i:Int)=(n:Int))->(u:Int)<(n:Int)+(m:Int)->n+m<=9223372036854775807->G<=9223372036854775807->¬ (G=i)->¬ (G=i+m)->¬ (u=i)->IntKind.i64.wrap ((i:Int)+(m:Int))=(i:Int)+(m:Int)->IntKind.i64.wrap ((n:Int)+(m:Int))=(n:Int)+(m:Int)->IntKind.i64.wrap ((n:Int)+(m:Int)-(i:Int))=(n:Int)+(m:Int)-(i:Int)->(0:Int)<=(i:Int)+(m:Int)->i<=n->((i:Int)+(m:Int)).toNat=i+m->(i:Int)<=(n:Int) ->
  (∀ z,(BZ #[S,3] z #[.slice (some ⟨g,0,none⟩) i u,.int .i64 ((n:Int)+(m:Int)-(i:Int))]).run P w =
   .ok (.slice (some ⟨w.heap.size,0,none⟩) (n+m) G) (w.drew.alloc (.cells ROW E)))->(∀ z H,(BF #[S,S] z #[.slice (some ⟨w.heap.size,i*C,none⟩) (n+m-i) H,.slice (some ⟨I,0,none⟩) m J]).run P ((w.alloc (.cells ROW E)).drew)=.ok (goInt (m:Nat)) (((w.alloc (.cells ROW E)).drew).setRow w.heap.size r))->(∀ z H M,(BF #[S,S] z #[.slice (some ⟨w.heap.size,(i+m)*C,none⟩) (n+m-(i+m)) H,.slice (some ⟨g,i*C,none⟩) (n-i) M]).run P (((w.alloc (.cells ROW E)).drew.setRow w.heap.size r).drew)=.ok (goInt (n-i:Nat)) ((((w.alloc (.cells ROW E)).drew.setRow w.heap.size r).drew).setRow w.heap.size y)) ->
  Calls P F #[.slice (some ⟨g,0,none⟩) n u,.int .i64 i,.slice (some ⟨I,0,none⟩) m J] w λe O=>e=.returned (.slice (some ⟨w.heap.size,0,none⟩) (n+m) G)/\O=((((w.alloc (.cells ROW E)).drew.setRow w.heap.size r).drew).setRow w.heap.size y)
theorem grow_p {P:Program}{F S E C B:Nat}(t39:P.underlying S=some (.slice E))(t3:P.underlying 3=some (.int .i64))(hC:0<C)(go:GrowGo P F S E C):InsGrow P F E C B:=by
 intro w g n H i r a3 z hi hz hs hb cc c5 X a4 e4 vb m vc y e3 hl a9 h1 hm e7 cx Z b9 a1;have k1:(n+m)*C=n*C+m*C:=BD ..;have k2:(i+m)*C=i*C+m*C:=BD ..;have k3:(n-i)*C=n*C-i*C:=BP ..;have k4:i*C<=n*C:=BA _ (by omega);have d3:¬ ((m:Int)=0):=by omega
 have d2:¬ ((i:Int)=(n:Int)):=by omega
 have cp:(H:Int)<(n:Int)+(m:Int):=by omega
 have ad:n+m<=9223372036854775807:=by simp only[maxLen]at b9;omega
 have cy:(n:Int)+(m:Int)-(i:Int)=((n+m-i:Nat):Int):=by omega
 have ba:i+(n+m-i)=n+m:=by omega
 have dd:i*C<=n*C:=BA _ (by omega);have R:(r.take (i*C)).length=i*C:=by rw[BC,a4];exact BL dd
 have b2:(BT a3.size i (.slice (some ⟨g,0,none⟩) i H)).run P w.drew=.ok (r.take (i*C)).toArray w.drew:=by
  rw[hs];exact run_firstCells_some w.drew C i ⟨g,0,none⟩ i H (r.take (i*C)) R (λj v hj=>by
   rw[BN,BX];rw[BU]at hj;split at hj
   ·exact X j v hj
   ·cases hj)
 obtain⟨G,hG⟩:∃ G,G=grownCap w (n+m) H E:=⟨_,rfl⟩;obtain⟨ROW,a0⟩:∃ ROW:Array Value,ROW=(r.take (i*C)).toArray++BY z.cells (n+m-i)++BY z.cells (G-(n+m)):=⟨_,rfl⟩;have cu:∀ O,(BZ #[S,3] O #[.slice (some ⟨g,0,none⟩) i H,.int .i64 ((n:Int)+(m:Int)-(i:Int))]).run P w =
   .ok (.slice (some ⟨w.heap.size,0,none⟩) (n+m) G) (w.drew.alloc (.cells ROW E)):=λO=>by
  have h:=Lib.run_append_grow_zeros w S 3 O E a3 z .i64 .i64 t39 t3 hi hz (some ⟨g,0,none⟩) i H (r.take (i*C)) b2 (n+m-i) (by omega) (by omega) (by omega) (by omega)
   (by rw[hb];have:(n+m-i)*B<=(n+m)*B:=BA _ (by omega);omega) (by rw[hb,ba];exact growslice_fits Z a1)
  rw[ba,<- hG,<- a0]at h;rw[cy];exact h
 have a5:n+m<=G:=by rw[hG];exact grownCap_ge w _ _ _
 have b1:G<=maxLen:=by rw[hG];exact grownCap_le_maxLen w (n+m) H E b9
 have bb:G<=9223372036854775807:=by unfold maxLen at b1;omega
 have Y:ROW.size=G*C:=by
  rw[a0];simp only[Array.size_append,BH,size_zeroCells,cc,R,<- BD];rw[show i+(n+m-i)+(G-(n+m))=G by omega]
 obtain⟨u,M⟩:∃ c:Array Value,c=(ROW.toList.take (i*C)++y++ROW.toList.drop (i*C+y.length)).toArray:=⟨_,rfl⟩;obtain⟨I,J⟩:∃ c:Array Value,c=(u.toList.take ((i+m)*C)++r.drop (i*C)++u.toList.drop ((i+m)*C+(r.drop (i*C)).length)).toArray:=⟨_,rfl⟩;have ec:(n+m)*C<=G*C:=BA _ a5;have a6:(r.drop (i*C)).length=(n-i)*C:=by rw[BE,a4,<- BP]
 have c1:u.size=ROW.size:=by
  rw[M];simp only[BH,BB,BC,BE,BG,hl,Y];omega
 have eb:I.size=ROW.size:=by
  rw[J];simp only[BH,BB,BC,BE,BG,a4,c1,Y];omega
 have a2:ROW.toList.take (i*C)=r.take (i*C):=by
  rw[a0];simp only[Array.toList_append,BK];exact BM R
 have b0:I.toList.take ((n+m)*C)=r.take (i*C)++y++r.drop (i*C):=by
  have e1:u.toList.take ((i+m)*C)=r.take (i*C)++y:=by
   rw[M,a2];show List.take ((i+m)*C) (r.take (i*C)++y++ROW.toList.drop (i*C+y.length))=_;exact BM (by rw[BB,R,hl,<- BD])
  rw[J,e1];show List.take ((n+m)*C) (r.take (i*C)++y++r.drop (i*C)++_)=_;exact BM (by rw[BB,BB,R,hl,a6,<- BD,<- BD,show i+m+(n-i)=n+m by omega])
 have bl:BW m (n+m-i)=m:=by simp only[BQ];split <;> omega
 have b3:BW (n-i) (n+m-(i+m))=n-i:=by simp only[BQ];split <;> omega
 have c3:∀ (W:World),W.heap[w.heap.size]?=some (.cells ROW E (0,0))->(∀ k,k<w.heap.size->W.heap[k]?=w.heap[k]?)->∀ O dc,(BF #[S,S] O #[.slice (some ⟨w.heap.size,i*C,none⟩) (n+m-i) dc,.slice (some ⟨vb,0,none⟩) m vc]).run P W=.ok (goInt (m:Nat)) (W.setRow w.heap.size u):=λW hW hk O dc=>by
  have:=run_copy_rowN (P:=P) W S S O E a3 hi w.heap.size (i*C) (n+m-i) dc ⟨vb,0,none⟩ m vc ROW E y t39 hW (by rw[hl,bl,hs])
   (λj v hj=>by
    rw[BN];have:=a9 j v hj;unfold B4 at this ⊢;rw[hk vb e3];exact this)
   (by rw[hl,Y,<- BD];exact BA _ (by omega)) h1
  rw[bl,<- M]at this;exact this
 have bn:∀ (W:World),W.heap[w.heap.size]?=some (.cells u E (0,0))->(∀ k,k<w.heap.size->W.heap[k]?=w.heap[k]?)->∀ O dc sc,(BF #[S,S] O #[.slice (some ⟨w.heap.size,(i+m)*C,none⟩) (n+m-(i+m)) dc,.slice (some ⟨g,i*C,none⟩) (n-i) sc]).run P W=.ok (goInt (n-i:Nat)) (W.setRow w.heap.size I):=λW hW hk O dc sc=>by
  have:=run_copy_rowN (P:=P) W S S O E a3 hi w.heap.size ((i+m)*C) (n+m-(i+m)) dc ⟨g,i*C,none⟩ (n-i) sc u E (r.drop (i*C)) t39 hW (by rw[a6,b3,hs])
   (λj v hj=>by
    rw[BN];rw[BV]at hj;have:=X _ v hj;unfold B4 at this ⊢;rw[hk g c5];exact this)
   (by rw[a6,c1,Y,<- BD];exact BA _ (by omega)) (λv hv=>e4 v (BR hv))
  rw[b3,<- J]at this;exact this
 have c2:((w.alloc (.cells ROW E)).drew).heap[w.heap.size]?=some (.cells ROW E (0,0)):=heap_alloc_new w _;have b5:∀ k,k<w.heap.size->((w.alloc (.cells ROW E)).drew).heap[k]?=w.heap[k]?:=λk hk=>Go.heap_alloc_old w _ hk
 have b4:(((w.alloc (.cells ROW E)).drew.setRow w.heap.size u).drew).heap[w.heap.size]?=some (.cells u E (0,0)):=setRow_heap (w.alloc (.cells ROW E)).drew w.heap.size ROW u E (0,0) c2;have bx:∀ k,k<w.heap.size->(((w.alloc (.cells ROW E)).drew.setRow w.heap.size u).drew).heap[k]?=w.heap[k]?:=λk hk=>(setRow_other (w.alloc (.cells ROW E)).drew w.heap.size k u (by omega)).trans (b5 k hk)
 have e0:¬ (G=i):=by omega
 have c4:¬ (G=i+m):=by omega
 have e2:¬ (H=i):=by omega
 have cw:IntKind.i64.wrap ((i:Int)+(m:Int))=(i:Int)+(m:Int):=by rw[BI];omega
 have cb:IntKind.i64.wrap ((n:Int)+(m:Int))=(n:Int)+(m:Int):=by rw[BI];omega
 have e6:IntKind.i64.wrap ((n:Int)+(m:Int)-(i:Int))=(n:Int)+(m:Int)-(i:Int):=by rw[BI];omega
 have d1:(0:Int)<=(i:Int)+(m:Int):=by omega
 have c0:i<=n:=by omega
 have e5:((i:Int)+(m:Int)).toNat=i+m:=by omega
 have c6:(i:Int)<=(n:Int):=by omega
 refine (go w g n H i vb m vc G ROW u I hm e7 cx Z a5 d3 d2 cp ad bb e0 c4 e2 cw cb e6 d1 c0 e5 c6 cu (c3 _ c2 b5) (bn _ b4 bx)).mono λe w' h=>?_
 obtain⟨h1,rfl⟩:=h;exact⟨G,a5,b1,h1,I,setRow_heap _ _ _ _ _ _ b4,by rw[eb,Y];exact Nat.le_refl _,b0,by simp,rfl,rfl,rfl,λk hk=>(setRow_other _ _ _ _ (by omega)).trans (bx k hk)⟩
theorem ins_walk {P:Program}{F E C B:Nat}(q1:(P.info? E).isSome=true)(q2:(P.info? E).map (λi=>i.size)=some C)(q3:(P.info? E).map (λi=>i.bytes)=some B)(q4:((P.info? E).bind λi=>i.zero).map (λz=>z.cells.size)=some C)
  (hC:0<C) (hE:¬ E=5) (hB:0<B) (ins_nil:InsNil P F E C B) (ins_end:InsEnd P F E C B) (ins_shift:InsShift P F E C B) (ins_grow:InsGrow P F E C B):jk P F E C B:=by
 intro w v0 v2 n m i H I r0 r2 o0 o2 hm b2 b5 Y;have k1:(n+m)*C=n*C+m*C:=BD ..;have bb:=r2;obtain⟨J,h2⟩:=r2;rcases h2 with ⟨_,h⟩|⟨vb,vc,b0,mk,rfl,b3,cp,b4,c6,cc⟩
 ·omega
 obtain⟨rfl,_⟩:=b4.elim id (λh=>absurd h.1 hE);have r:∀ j u,I[j]?=some u->w.cell? ⟨vb,0+j,none⟩=some u:=λj u hj=>by
  rw[BX,bb.cellAt j (by rw[<- J];exact (BJ.1 hj).1)];exact hj
 have kB:n+m<=(n+m)*B:=Nat.le_mul_of_pos_right _ hB;have a9:n+m<=maxLen:=by unfold maxLen;omega
 obtain⟨O,hi⟩:=Option.isSome_iff_exists.1 q1;rw[hi]at q2 q3 q4;have hs:O.size=C:=by simpa using q2
 have hb:O.bytes=B:=by simpa using q3
 simp only[Option.bind_some,Option.map_eq_some_iff]at q4;obtain⟨z,hz,a0⟩:=q4;have c4:vb<w.heap.size:=(BO.1 b3).1;have a5:=r0;obtain⟨M,h0⟩:=r0;rcases h0 with ⟨rfl,h0⟩|⟨g,R,b1,mk,rfl,hg,ad,c5,a6,a4⟩
 ·subst h0;have:i=0:=by omega
  subst this;have hf:H=[]:=List.eq_nil_of_length_eq_zero (by simpa using M);subst hf;refine (ins_nil w O z hi hz hs hb a0 vb m vc I J r o2 hm (by omega) (by rw[BX]at Y;exact Y)).mono λe w' h=>?_
  obtain⟨v',e1,h1,h2,h3⟩:=h;exact⟨v',e1,by simpa using h1,h2,.inr h3⟩
 ·obtain⟨rfl,Z⟩:=c5.elim id (λh=>absurd h.1 hE);have b9:g<w.heap.size:=(BO.1 hg).1;have bn:vb≠g:=λh=>b5 g (by simp[BS]) (by simp[BS,h])
  have a2:∀ j u,H[j]?=some u->w.cell? ⟨g,j,none⟩=some u:=λj u hj=>by
   rw[a5.cellAt j (by rw[<- M];exact (BJ.1 hj).1)];exact hj
  by_cases hn:i=n
  ·subst hn;refine (ins_end w g i R H O z hi hz hs hb a0 a5 ad vb m vc I J r o2 hm a9 Y).mono λe w' h=>?_
   obtain⟨v',e1,h1,h2,h3⟩:=h;refine⟨v',e1,?_,h2,h3⟩;rw[List.take_of_length_le (by omega),List.drop_of_length_le (by omega),List.append_nil];exact h1
  ·by_cases X:n+m<=R
   ·refine (ins_shift w g n R i b1 H O hi hs hg Z a6 a4 M o0 vb m vc b0 I b3 bn J r o2 hm (by omega) X).mono λe w' h=>?_
    obtain⟨e1,y,rfl,a3,a1⟩:=h;refine⟨_,e1,⟨?_,.inr ⟨g,R,y,_,rfl,setRow_heap w.drew g b1 y E (0,0) hg,X,.inl ⟨rfl,Z⟩,by rw[a3];exact a6,a1⟩⟩,⟨rfl,rfl,rfl,by simp,λk _ hk=>setRow_other w.drew g k y (λh=>hk (by simp[BS,h]))⟩,.inl rfl⟩;simp only[BB,BC,BE,M,J];have:i*C<=n*C:=BA _ b2;omega
   ·refine (ins_grow w g n R i H O z hi hz hs hb a0 b9 a2 M o0 vb m vc I c4 J r o2 hm (by omega) ad (by omega) a9 Y).mono λe w' h=>?_
    obtain⟨G,c1,bx,e1,y,a3,a1,c0,cb,ba,bl,c2,hk⟩:=h;refine⟨_,e1,⟨?_,.inr ⟨w.heap.size,G,y,_,rfl,a3,c1,.inl ⟨rfl,bx⟩,a1,c0⟩⟩,⟨ba,bl,c2,by omega,λk c3 _=>hk k c3⟩,.inr rfl⟩;simp only[BB,BC,BE,M,J];have:i*C<=n*C:=BA _ b2;omega
end Go.Proofs.YtadlacffdemoiaaGreatEv
