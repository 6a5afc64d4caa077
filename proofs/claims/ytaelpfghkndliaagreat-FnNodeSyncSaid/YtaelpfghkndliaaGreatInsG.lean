/- slices.Insert: what its walk needs, for any element. -/
import Derived.Test.YtaelpfghkndliaaGreatEvQ
import Derived.Test.YtaelpfghkndliaaGreatE6
import Derived.Shelf.Spec.SlicesInsert
import Derived.Laws.CopyRow
import Derived.Lib.AppendZerosOnto
set_option linter.unusedVariables false
set_option maxRecDepth 100000
set_option linter.unusedVariables false
set_option linter.unusedSimpArgs false
open Array renaming length_toList->BG,getElem?_eq_some_iff->BO
open Go.Addr renaming add_lit->BN
open Go.Builtin renaming copy_->BF,firstCells->BT,zeroCells->BY,append_->BZ
open Go.IntKind renaming wrap_i64->BI
open Go.Value renaming ownBlock->BS
open Go.World renaming cell?->Bp
open List renaming length_append->BB,length_take->BC,length_drop->BE,size_toArray->BH,getElem?_eq_some_iff->BJ,append_assoc->BK,take_left'->BM,mem_of_mem_drop->BR,getElem?_take->BU,getElem?_drop->BV,take_take->Bo
open Nat renaming mul_le_mul_right->BA,add_mul->BD,min_eq_left->BL,sub_mul->BP,min_def->BQ,min->BW,zero_add->BX
namespace Go.Proofs.YtaelpfghkndliaaGreatEv
open Go Go.Proofs Go.Shelf Go.RowKit Go.Lib
theorem run_copy_rowN {P:Program}(w:World)(O R ty y:TypeId)(i:TypeInfo)(Y:P.info? y=some i)(g o r z:Nat)(a:Addr)(u I:Nat)(cur:Array Value)(t:TypeId)(cs:List Value)
  (X:P.underlying O=some (.slice y)) (hg:w.heap[g]?=some (.cells cur t (0,0))) (hn:cs.length=BW u r*i.size)
  (H:∀ j v,cs[j]?=some v->w.cell? (a.add j)=some v) (J:o+cs.length<=cur.size) (h1:∀ v∈cs,v.oneCell'=true) :
  (BF #[O,R] ty #[.slice (some ⟨g,o,none⟩) r z,.slice (some a) u I]).run P w =
   .ok (goInt (BW u r)) (w.setRow g (cur.toList.take o++cs++cur.toList.drop (o+cs.length)).toArray):=by
 have Z:=run_loadCells_list (P:=P) w a cs H;have M:=run_storeCells_at P g o t cs 0 cur w hg (by simpa using J) h1;simp[BF,run_underlying X,Builtin.lenOf,BT,sizeOf,typeInfo,Y,<- hn,Z,M]
def InsNil (P:Program)(F E C B:Nat):Prop :=
 ∀ (w:World) (i:TypeInfo) (z:Value) (hi:P.info? E=some i) (Y:i.zero=some z) (hs:i.size=C) (Z:i.bytes=B) (X:z.cells.size=C) (J m O:Nat) (r:List Value) (hl:r.length=m*C) (I:∀ j u,r[j]?=some u->w.cell? ⟨J,0+j,none⟩=some u) (h1:∀ u∈r,u.oneCell'=true) (hm:0<m) (R:m<=maxLen) (y:m*B<=140737488355328),
  Calls P F #[.slice none 0 0,.int .i64 0,.slice (some ⟨J,0,none⟩) m O] w λe M =>
   ∃ H,e=.returned H/\Row M E C H m r/\w.grownBy M none/\H.ownBlock=some w.heap.size
def InsEnd (P:Program)(F E C B:Nat):Prop :=
 ∀ (w:World) (g n H:Nat) (y:List Value) (i:TypeInfo) (z:Value) (hi:P.info? E=some i) (hz:i.zero=some z) (hs:i.size=C) (hb:i.bytes=B) (a1:z.cells.size=C) (X:Row w E C (.slice (some ⟨g,0,none⟩) n H) n y) (Z:n<=H) (O m Y:Nat) (r:List Value) (hl:r.length=m*C) (M:∀ j u,r[j]?=some u->w.cell? ⟨O,0+j,none⟩=some u) (h1:∀ u∈r,u.oneCell'=true) (hm:0<m) (a0:n+m<=maxLen) (I:(n+m)*B<=140737488355328),
  Calls P F #[.slice (some ⟨g,0,none⟩) n H,.int .i64 n,.slice (some ⟨O,0,none⟩) m Y] w λe R =>
   ∃ J,e=.returned J/\Row R E C J (n+m) (y++r)/\w.grownBy R (some g)/\(J.ownBlock=some g\/J.ownBlock=some w.heap.size)
def InsShift (P:Program)(F E C B:Nat):Prop :=
 ∀ (w:World) (g n H i:Nat) (I:Array Value) (r:List Value) (J:TypeInfo) (hi:P.info? E=some J) (hs:J.size=C) (hg:w.heap[g]?=some (.cells I E (0,0))) (a4:H<=maxLen) (a6:H*C<=I.size) (Y:I.toList.take (n*C)=r) (a5:r.length=n*C) (a0:∀ u∈r,u.oneCell'=true) (O m vc:Nat) (M:Array Value) (y:List Value) (a1:w.heap[O]?=some (.cells M E (0,0))) (a2:O≠g) (hl:y.length=m*C) (X:∀ j u,y[j]?=some u->w.cell? ⟨O,0+j,none⟩=some u) (h1:∀ u∈y,u.oneCell'=true) (hm:0<m) (a3:i<n) (R:n+m<=H),
  Calls P F #[.slice (some ⟨g,0,none⟩) n H,.int .i64 i,.slice (some ⟨O,0,none⟩) m vc] w λe Z =>
   e=.returned (.slice (some ⟨g,0,none⟩) (n+m) H)/\∃ z:Array Value,Z=w.drew.setRow g z/\z.size=I.size/\z.toList.take ((n+m)*C)=r.take (i*C)++y++r.drop (i*C)
def InsGrow (P:Program)(F E C B:Nat):Prop :=
 ∀ (w:World) (g n J i:Nat) (r:List Value) (I:TypeInfo) (z:Value) (hi:P.info? E=some I) (hz:I.zero=some z) (hs:I.size=C) (hb:I.bytes=B) (a9:z.cells.size=C) (a2:g<w.heap.size) (Z:∀ j u,r[j]?=some u->w.cell? ⟨g,j,none⟩=some u) (a5:r.length=n*C) (a1:∀ u∈r,u.oneCell'=true) (R m vc:Nat) (y:List Value) (a0:R<w.heap.size) (hl:y.length=m*C) (Y:∀ j u,y[j]?=some u->w.cell? ⟨R,0+j,none⟩=some u) (h1:∀ u∈y,u.oneCell'=true) (hm:0<m) (a4:i<n) (a3:n<=J) (X:J<n+m) (a6:n+m<=maxLen) (O:(n+m)*B<=140737488355328),
  Calls P F #[.slice (some ⟨g,0,none⟩) n J,.int .i64 i,.slice (some ⟨R,0,none⟩) m vc] w λe M =>
   ∃ G,n+m<=G/\G<=maxLen/\e=.returned (.slice (some ⟨w.heap.size,0,none⟩) (n+m) G)/\∃ H:Array Value,M.heap[w.heap.size]?=some (.cells H E (0,0))/\G*C<=H.size/\H.toList.take ((n+m)*C)=r.take (i*C)++y++r.drop (i*C) /\
    M.heap.size=w.heap.size+1/\M.os=w.os/\M.tape=w.tape/\M.output=w.output/\∀ k,k<w.heap.size->M.heap[k]?=w.heap[k]?
def ShiftGo (P:Program)(F S E C:Nat):Prop :=
 ∀ (w:World) (g n u i:Nat) (z:Array Value) (H:TypeInfo) (J m R:Nat) (I r y:Array Value),P.info? E=some H->H.size=C->w.heap[g]?=some (.cells z E (0,0))->w.heap[J]?=some (.cells I E (0,0))->J≠g->0<m->i<n->n+m<=u->z.size≠0 ->
  ¬ ((m:Int)=0)->¬ ((i:Int)=(n:Int))->u<=9223372036854775807->IntKind.i64.wrap ((i:Int)+(m:Int))=(i:Int)+(m:Int)->IntKind.i64.wrap ((n:Int)+(m:Int))=(n:Int)+(m:Int)->(0:Int)<=(i:Int)+(m:Int)->((i:Int)+(m:Int)).toNat=i+m->((n:Int)+(m:Int)).toNat=n+m->(i:Int)<=(n:Int)+(m:Int)->¬ (u=i+m)->i<=n->¬ (u=i) ->
  (∀ O M Y,(BF #[S,S] O #[.slice (some ⟨g,(i+m)*C,none⟩) (n+m-(i+m)) M,.slice (some ⟨g,i*C,none⟩) (n+m-i) Y]).run P w.drew=.ok (goInt (n-i:Nat)) (w.drew.setRow g r))->(∀ O M,(BF #[S,S] O #[.slice (some ⟨g,i*C,none⟩) (n+m-i) M,.slice (some ⟨J,0,none⟩) m R]).run P (w.drew.setRow g r)=.ok (goInt (m:Nat)) ((w.drew.setRow g r).setRow g y)) ->
  Calls P F #[.slice (some ⟨g,0,none⟩) n u,.int .i64 i,.slice (some ⟨J,0,none⟩) m R] w λe X=>e=.returned (.slice (some ⟨g,0,none⟩) (n+m) u)/\X=(w.drew.setRow g r).setRow g y
theorem shift_p {P:Program}{F S E C B:Nat}(t39:P.underlying S=some (.slice E))(hC:0<C)(go:ShiftGo P F S E C):InsShift P F E C B:=by
 intro w g n z i y u Z hi hs hg ba c6 O a2 b5 vb m vc a9 I b9 b4 hl a0 h1 hm c0 R;have k1:(n+m)*C=n*C+m*C:=BD ..;have k2:(i+m)*C=i*C+m*C:=BD ..;have k3:(n-i)*C=n*C-i*C:=BP ..;have k4:i*C<=n*C:=BA _ (by omega);have c3:¬ ((m:Int)=0):=by omega
 have bn:¬ ((i:Int)=(n:Int)):=by omega
 have ad:z<=9223372036854775807:=by simp only[maxLen]at ba;omega
 have bx:IntKind.i64.wrap ((i:Int)+(m:Int))=(i:Int)+(m:Int):=by rw[BI];omega
 have c4:IntKind.i64.wrap ((n:Int)+(m:Int))=(n:Int)+(m:Int):=by rw[BI];omega
 have c5:(0:Int)<=(i:Int)+(m:Int):=by omega
 have bb:((i:Int)+(m:Int)).toNat=i+m:=by omega
 have b3:((n:Int)+(m:Int)).toNat=n+m:=by omega
 have c2:(i:Int)<=(n:Int)+(m:Int):=by omega
 have c1:¬ (z=i+m):=by omega
 have bl:i<=n:=by omega
 have b6:¬ (z=i):=by omega
 have X:(u.drop (i*C)).length=(n-i)*C:=by rw[BE,a2,<- BP]
 have a1:∀ j,j<n*C->u[j]?=y[j]?:=λj hj=>by rw[<- O,BU,if_pos hj];exact Array.getElem?_toList ..
 have a6:BW (n+m-i) (n+m-(i+m))=n-i:=by simp only[BQ];split <;> omega
 have a4:BW m (n+m-i)=m:=by simp only[BQ];split <;> omega
 obtain⟨r,H⟩:∃ c:Array Value,c=(y.toList.take ((i+m)*C)++u.drop (i*C)++y.toList.drop ((i+m)*C+(u.drop (i*C)).length)).toArray:=⟨_,rfl⟩;have a5:(i+m)*C+(n-i)*C<=y.size:=by
  have:(n+m)*C<=z*C:=BA _ R;omega
 have b2:r.size=y.size:=by
  rw[H];simp only[BH,BB,BC,BE,BG,a2];omega
 obtain⟨J,M⟩:∃ c:Array Value,c=(r.toList.take (i*C)++I++r.toList.drop (i*C+I.length)).toArray:=⟨_,rfl⟩;have b0:∀ ty dc sc,(BF #[S,S] ty #[.slice (some ⟨g,(i+m)*C,none⟩) (n+m-(i+m)) dc,.slice (some ⟨g,i*C,none⟩) (n+m-i) sc]).run P w.drew=.ok (goInt (n-i:Nat)) (w.drew.setRow g r):=λty dc sc=>by
  have:=run_copy_rowN (P:=P) w.drew S S ty E Z hi g ((i+m)*C) (n+m-(i+m)) dc ⟨g,i*C,none⟩ (n+m-i) sc y E (u.drop (i*C)) t39 hg (by rw[X,a6,hs])
   (λj v hj=>by
    rw[BN];have b1:=(BJ.1 hj).1;rw[X]at b1;rw[BV]at hj;rw[show w.drew.cell? ⟨g,i*C+j,none⟩=w.cell? ⟨g,i*C+j,none⟩ from rfl,cell_of_row w g _ y E (0,0) hg,<- a1 _ (by rw[BP]at b1;omega)];exact hj)
   (by rw[X];exact a5) (λv hv=>b5 v (BR hv))
  rw[a6,<- H]at this;exact this
 have a3:∀ ty dc,(BF #[S,S] ty #[.slice (some ⟨g,i*C,none⟩) (n+m-i) dc,.slice (some ⟨vb,0,none⟩) m vc]).run P (w.drew.setRow g r)=.ok (goInt (m:Nat)) ((w.drew.setRow g r).setRow g J):=λty dc=>by
  have:=run_copy_rowN (P:=P) (w.drew.setRow g r) S S ty E Z hi g (i*C) (n+m-i) dc ⟨vb,0,none⟩ m vc r E I t39 (setRow_heap w.drew g y r E (0,0) hg) (by rw[hl,a4,hs])
   (λj v hj=>by
    rw[BN,cell_setRow_other _ _ _ _ b4];exact a0 j v hj)
   (by rw[hl,b2,<- BD];have:(i+m)*C<=z*C:=BA _ (by omega);omega) h1
  rw[a4,<- M]at this;exact this
 have Y:J.size=y.size/\J.toList.take ((n+m)*C)=u.take (i*C)++I++u.drop (i*C):=by
  refine⟨?_,?_⟩
  ·rw[M];simp only[BH,BB,BC,BE,BG,hl,b2];have:(i+m)*C<=z*C:=BA _ (by omega);omega
  ·have ha:r.toList.take (i*C)=u.take (i*C):=by
    rw[H,<- O,Bo,BL (BA _ (by omega)),BK];simp only[List.take_append_of_le_length (show i*C<=(y.toList.take ((i+m)*C)).length by simp only[BC,BG];have:(i+m)*C<=z*C:=BA _ (by omega);omega),Bo];rw[BL (by omega)]
   have hb:r.toList.drop (i*C+I.length)=u.drop (i*C)++y.toList.drop ((i+m)*C+(u.drop (i*C)).length):=by
    rw[H,hl,<- BD,BK];exact List.drop_left' (by simp only[BC,BG];have:(i+m)*C<=z*C:=BA _ (by omega);omega)
   rw[M,ha,hb];simp only[<- BK];exact BM (by simp only[BB,BC,a2,hl,X];rw[BL (BA _ (by omega))];omega)
 have k5:1*C<=z*C:=BA _ (by omega);refine (go w g n z i y Z vb m vc a9 r J hi hs hg b9 b4 hm c0 R (by omega) c3 bn ad bx c4 c5 bb b3 c2 c1 bl b6 b0 a3).mono λe w' h=>?_
 exact⟨h.1,J,h.2.trans (setRow_setRow _ _ _ _),Y.1,Y.2⟩
def GrowGo (P:Program)(F S E C:Nat):Prop :=
 ∀ (w:World) (g n u i:Nat) (I m J G:Nat) (ROW r y:Array Value),0<m->i<n->n<=u->u<n+m->n+m<=G ->
  ¬ ((m:Int)=0)->¬ ((i:Int)=(n:Int))->(u:Int)<(n:Int)+(m:Int)->n+m<=9223372036854775807->G<=9223372036854775807->¬ (G=i)->¬ (G=i+m)->¬ (u=i)->IntKind.i64.wrap ((i:Int)+(m:Int))=(i:Int)+(m:Int)->IntKind.i64.wrap ((n:Int)+(m:Int))=(n:Int)+(m:Int)->IntKind.i64.wrap ((n:Int)+(m:Int)-(i:Int))=(n:Int)+(m:Int)-(i:Int)->(0:Int)<=(i:Int)+(m:Int)->i<=n->((i:Int)+(m:Int)).toNat=i+m->(i:Int)<=(n:Int) ->
  (∀ z,(BZ #[S,3] z #[.slice (some ⟨g,0,none⟩) i u,.int .i64 ((n:Int)+(m:Int)-(i:Int))]).run P w =
   .ok (.slice (some ⟨w.heap.size,0,none⟩) (n+m) G) (w.drew.alloc (.cells ROW E)))->(∀ z H,(BF #[S,S] z #[.slice (some ⟨w.heap.size,i*C,none⟩) (n+m-i) H,.slice (some ⟨I,0,none⟩) m J]).run P ((w.alloc (.cells ROW E)).drew)=.ok (goInt (m:Nat)) (((w.alloc (.cells ROW E)).drew).setRow w.heap.size r))->(∀ z H O,(BF #[S,S] z #[.slice (some ⟨w.heap.size,(i+m)*C,none⟩) (n+m-(i+m)) H,.slice (some ⟨g,i*C,none⟩) (n-i) O]).run P (((w.alloc (.cells ROW E)).drew.setRow w.heap.size r).drew)=.ok (goInt (n-i:Nat)) ((((w.alloc (.cells ROW E)).drew.setRow w.heap.size r).drew).setRow w.heap.size y)) ->
  Calls P F #[.slice (some ⟨g,0,none⟩) n u,.int .i64 i,.slice (some ⟨I,0,none⟩) m J] w λe M=>e=.returned (.slice (some ⟨w.heap.size,0,none⟩) (n+m) G)/\M=((((w.alloc (.cells ROW E)).drew.setRow w.heap.size r).drew).setRow w.heap.size y)
theorem grow_p {P:Program}{F S E C B:Nat}(t39:P.underlying S=some (.slice E))(t3:P.underlying 3=some (.int .i64))(hC:0<C)(go:GrowGo P F S E C):InsGrow P F E C B:=by
 intro w g n H i r a1 z hi hz hs hb e5 dd Y a5 c4 vb m vc y d2 hl a4 h1 hm cy e2 X bb a2;have k1:(n+m)*C=n*C+m*C:=BD ..;have k2:(i+m)*C=i*C+m*C:=BD ..;have k3:(n-i)*C=n*C-i*C:=BP ..;have k4:i*C<=n*C:=BA _ (by omega);have e4:¬ ((m:Int)=0):=by omega
 have c6:¬ ((i:Int)=(n:Int)):=by omega
 have d3:(H:Int)<(n:Int)+(m:Int):=by omega
 have b0:n+m<=9223372036854775807:=by simp only[maxLen]at bb;omega
 have cb:(n:Int)+(m:Int)-(i:Int)=((n+m-i:Nat):Int):=by omega
 have b3:i+(n+m-i)=n+m:=by omega
 have e3:i*C<=n*C:=BA _ (by omega);have a0:(r.take (i*C)).length=i*C:=by rw[BC,a5];exact BL e3
 have bx:(BT a1.size i (.slice (some ⟨g,0,none⟩) i H)).run P w.drew=.ok (r.take (i*C)).toArray w.drew:=by
  rw[hs];exact run_firstCells_some w.drew C i ⟨g,0,none⟩ i H (r.take (i*C)) a0 (λj v hj=>by
   rw[BN,BX];rw[BU]at hj;split at hj
   ·exact Y j v hj
   ·cases hj)
 obtain⟨G,hG⟩:∃ G,G=grownCap w (n+m) H E:=⟨_,rfl⟩;obtain⟨ROW,R⟩:∃ ROW:Array Value,ROW=(r.take (i*C)).toArray++BY z.cells (n+m-i)++BY z.cells (G-(n+m)):=⟨_,rfl⟩;have d1:∀ O,(BZ #[S,3] O #[.slice (some ⟨g,0,none⟩) i H,.int .i64 ((n:Int)+(m:Int)-(i:Int))]).run P w =
   .ok (.slice (some ⟨w.heap.size,0,none⟩) (n+m) G) (w.drew.alloc (.cells ROW E)):=λO=>by
  have h:=Lib.run_append_grow_zeros w S 3 O E a1 z .i64 .i64 t39 t3 hi hz (some ⟨g,0,none⟩) i H (r.take (i*C)) bx (n+m-i) (by omega) (by omega) (by omega) (by omega)
   (by rw[hb];have:(n+m-i)*B<=(n+m)*B:=BA _ (by omega);omega) (by rw[hb,b3];exact growslice_fits X a2)
  rw[b3,<- hG,<- R]at h;rw[cb];exact h
 have a6:n+m<=G:=by rw[hG];exact grownCap_ge w _ _ _
 have b4:G<=maxLen:=by rw[hG];exact grownCap_le_maxLen w (n+m) H E bb
 have ba:G<=9223372036854775807:=by unfold maxLen at b4;omega
 have Z:ROW.size=G*C:=by
  rw[R];simp only[Array.size_append,BH,size_zeroCells,e5,a0,<- BD];rw[show i+(n+m-i)+(G-(n+m))=G by omega]
 obtain⟨u,J⟩:∃ c:Array Value,c=(ROW.toList.take (i*C)++y++ROW.toList.drop (i*C+y.length)).toArray:=⟨_,rfl⟩;obtain⟨I,M⟩:∃ c:Array Value,c=(u.toList.take ((i+m)*C)++r.drop (i*C)++u.toList.drop ((i+m)*C+(r.drop (i*C)).length)).toArray:=⟨_,rfl⟩;have eb:(n+m)*C<=G*C:=BA _ a6;have a9:(r.drop (i*C)).length=(n-i)*C:=by rw[BE,a5,<- BP]
 have bn:u.size=ROW.size:=by
  rw[J];simp only[BH,BB,BC,BE,BG,hl,Z];omega
 have cu:I.size=ROW.size:=by
  rw[M];simp only[BH,BB,BC,BE,BG,a5,bn,Z];omega
 have a3:ROW.toList.take (i*C)=r.take (i*C):=by
  rw[R];simp only[Array.toList_append,BK];exact BM a0
 have c2:I.toList.take ((n+m)*C)=r.take (i*C)++y++r.drop (i*C):=by
  have e1:u.toList.take ((i+m)*C)=r.take (i*C)++y:=by
   rw[J,a3];show List.take ((i+m)*C) (r.take (i*C)++y++ROW.toList.drop (i*C+y.length))=_;exact BM (by rw[BB,a0,hl,<- BD])
  rw[M,e1];show List.take ((n+m)*C) (r.take (i*C)++y++r.drop (i*C)++_)=_;exact BM (by rw[BB,BB,a0,hl,a9,<- BD,<- BD,show i+m+(n-i)=n+m by omega])
 have b6:BW m (n+m-i)=m:=by simp only[BQ];split <;> omega
 have b1:BW (n-i) (n+m-(i+m))=n-i:=by simp only[BQ];split <;> omega
 have b2:∀ (W:World),W.heap[w.heap.size]?=some (.cells ROW E (0,0))->(∀ k,k<w.heap.size->W.heap[k]?=w.heap[k]?)->∀ O dc,(BF #[S,S] O #[.slice (some ⟨w.heap.size,i*C,none⟩) (n+m-i) dc,.slice (some ⟨vb,0,none⟩) m vc]).run P W=.ok (goInt (m:Nat)) (W.setRow w.heap.size u):=λW hW hk O dc=>by
  have:=run_copy_rowN (P:=P) W S S O E a1 hi w.heap.size (i*C) (n+m-i) dc ⟨vb,0,none⟩ m vc ROW E y t39 hW (by rw[hl,b6,hs])
   (λj v hj=>by
    rw[BN];have:=a4 j v hj;unfold Bp at this ⊢;rw[hk vb d2];exact this)
   (by rw[hl,Z,<- BD];exact BA _ (by omega)) h1
  rw[b6,<- J]at this;exact this
 have c3:∀ (W:World),W.heap[w.heap.size]?=some (.cells u E (0,0))->(∀ k,k<w.heap.size->W.heap[k]?=w.heap[k]?)->∀ O dc sc,(BF #[S,S] O #[.slice (some ⟨w.heap.size,(i+m)*C,none⟩) (n+m-(i+m)) dc,.slice (some ⟨g,i*C,none⟩) (n-i) sc]).run P W=.ok (goInt (n-i:Nat)) (W.setRow w.heap.size I):=λW hW hk O dc sc=>by
  have:=run_copy_rowN (P:=P) W S S O E a1 hi w.heap.size ((i+m)*C) (n+m-(i+m)) dc ⟨g,i*C,none⟩ (n-i) sc u E (r.drop (i*C)) t39 hW (by rw[a9,b1,hs])
   (λj v hj=>by
    rw[BN];rw[BV]at hj;have:=Y _ v hj;unfold Bp at this ⊢;rw[hk g dd];exact this)
   (by rw[a9,bn,Z,<- BD];exact BA _ (by omega)) (λv hv=>c4 v (BR hv))
  rw[b1,<- M]at this;exact this
 have c0:((w.alloc (.cells ROW E)).drew).heap[w.heap.size]?=some (.cells ROW E (0,0)):=heap_alloc_new w _;have c1:∀ k,k<w.heap.size->((w.alloc (.cells ROW E)).drew).heap[k]?=w.heap[k]?:=λk hk=>Go.heap_alloc_old w _ hk
 have ad:(((w.alloc (.cells ROW E)).drew.setRow w.heap.size u).drew).heap[w.heap.size]?=some (.cells u E (0,0)):=setRow_heap (w.alloc (.cells ROW E)).drew w.heap.size ROW u E (0,0) c0;have b5:∀ k,k<w.heap.size->(((w.alloc (.cells ROW E)).drew.setRow w.heap.size u).drew).heap[k]?=w.heap[k]?:=λk hk=>(setRow_other (w.alloc (.cells ROW E)).drew w.heap.size k u (by omega)).trans (c1 k hk)
 have cx:¬ (G=i):=by omega
 have bl:¬ (G=i+m):=by omega
 have cc:¬ (H=i):=by omega
 have cw:IntKind.i64.wrap ((i:Int)+(m:Int))=(i:Int)+(m:Int):=by rw[BI];omega
 have e6:IntKind.i64.wrap ((n:Int)+(m:Int))=(n:Int)+(m:Int):=by rw[BI];omega
 have cp:IntKind.i64.wrap ((n:Int)+(m:Int)-(i:Int))=(n:Int)+(m:Int)-(i:Int):=by rw[BI];omega
 have e7:(0:Int)<=(i:Int)+(m:Int):=by omega
 have b9:i<=n:=by omega
 have c5:((i:Int)+(m:Int)).toNat=i+m:=by omega
 have e0:(i:Int)<=(n:Int):=by omega
 refine (go w g n H i vb m vc G ROW u I hm cy e2 X a6 e4 c6 d3 b0 ba cx bl cc cw e6 cp e7 b9 c5 e0 d1 (b2 _ c0 c1) (c3 _ ad b5)).mono λe w' h=>?_
 obtain⟨h1,rfl⟩:=h;exact⟨G,a6,b4,h1,I,setRow_heap _ _ _ _ _ _ ad,by rw[cu,Z];exact Nat.le_refl _,c2,by simp,rfl,rfl,rfl,λk hk=>(setRow_other _ _ _ _ (by omega)).trans (b5 k hk)⟩
theorem ins_walk {P:Program}{F E C B:Nat}(q1:(P.info? E).isSome=true)(q2:(P.info? E).map (λi=>i.size)=some C)(q3:(P.info? E).map (λi=>i.bytes)=some B)(q4:((P.info? E).bind λi=>i.zero).map (λz=>z.cells.size)=some C)
  (hC:0<C) (hE:¬ E=5) (hB:0<B) (ins_nil:InsNil P F E C B) (ins_end:InsEnd P F E C B) (ins_shift:InsShift P F E C B) (ins_grow:InsGrow P F E C B):ji P F E C B:=by
 intro w v0 v2 n m i I y r0 r2 o0 o2 hm b0 a5 Y;have k1:(n+m)*C=n*C+m*C:=BD ..;have ba:=r2;obtain⟨J,h2⟩:=r2;rcases h2 with ⟨_,h⟩|⟨vb,vc,b1,mk,rfl,a6,cb,ad,c6,cc⟩
 ·omega
 obtain⟨rfl,_⟩:=ad.elim id (λh=>absurd h.1 hE);have r:∀ j u,y[j]?=some u->w.cell? ⟨vb,0+j,none⟩=some u:=λj u hj=>by
  rw[BX,ba.cellAt j (by rw[<- J];exact (BJ.1 hj).1)];exact hj
 have kB:n+m<=(n+m)*B:=Nat.le_mul_of_pos_right _ hB;have b4:n+m<=maxLen:=by unfold maxLen;omega
 obtain⟨M,hi⟩:=Option.isSome_iff_exists.1 q1;rw[hi]at q2 q3 q4;have hs:M.size=C:=by simpa using q2
 have hb:M.bytes=B:=by simpa using q3
 simp only[Option.bind_some,Option.map_eq_some_iff]at q4;obtain⟨z,hz,a4⟩:=q4;have bx:vb<w.heap.size:=(BO.1 a6).1;have a9:=r0;obtain⟨O,h0⟩:=r0;rcases h0 with ⟨rfl,h0⟩|⟨g,X,b2,mk,rfl,hg,b3,b6,b5,a0⟩
 ·subst h0;have:i=0:=by omega
  subst this;have hf:I=[]:=List.eq_nil_of_length_eq_zero (by simpa using O);subst hf;refine (ins_nil w M z hi hz hs hb a4 vb m vc y J r o2 hm (by omega) (by rw[BX]at Y;exact Y)).mono λe w' h=>?_
  obtain⟨v',e1,h1,h2,h3⟩:=h;exact⟨v',e1,by simpa using h1,h2,.inr h3⟩
 ·obtain⟨rfl,Z⟩:=b6.elim id (λh=>absurd h.1 hE);have c0:g<w.heap.size:=(BO.1 hg).1;have c4:vb≠g:=λh=>a5 g (by simp[BS]) (by simp[BS,h])
  have a3:∀ j u,I[j]?=some u->w.cell? ⟨g,j,none⟩=some u:=λj u hj=>by
   rw[a9.cellAt j (by rw[<- O];exact (BJ.1 hj).1)];exact hj
  by_cases hn:i=n
  ·subst hn;refine (ins_end w g i X I M z hi hz hs hb a4 a9 b3 vb m vc y J r o2 hm b4 Y).mono λe w' h=>?_
   obtain⟨v',e1,h1,h2,h3⟩:=h;refine⟨v',e1,?_,h2,h3⟩;rw[List.take_of_length_le (by omega),List.drop_of_length_le (by omega),List.append_nil];exact h1
  ·by_cases R:n+m<=X
   ·refine (ins_shift w g n X i b2 I M hi hs hg Z b5 a0 O o0 vb m vc b1 y a6 c4 J r o2 hm (by omega) R).mono λe w' h=>?_
    obtain⟨e1,H,rfl,a2,a1⟩:=h;refine⟨_,e1,⟨?_,.inr ⟨g,X,H,_,rfl,setRow_heap w.drew g b2 H E (0,0) hg,R,.inl ⟨rfl,Z⟩,by rw[a2];exact b5,a1⟩⟩,⟨rfl,rfl,rfl,by simp,λk _ hk=>setRow_other w.drew g k H (λh=>hk (by simp[BS,h]))⟩,.inl rfl⟩;simp only[BB,BC,BE,O,J];have:i*C<=n*C:=BA _ b0;omega
   ·refine (ins_grow w g n X i I M z hi hz hs hb a4 c0 a3 O o0 vb m vc y bx J r o2 hm (by omega) b3 (by omega) b4 Y).mono λe w' h=>?_
    obtain⟨G,bb,c3,e1,H,a2,a1,c2,c5,bn,c1,bl,hk⟩:=h;refine⟨_,e1,⟨?_,.inr ⟨w.heap.size,G,H,_,rfl,a2,bb,.inl ⟨rfl,c3⟩,a1,c2⟩⟩,⟨bn,c1,bl,by omega,λk b9 _=>hk k b9⟩,.inr rfl⟩;simp only[BB,BC,BE,O,J];have:i*C<=n*C:=BA _ b0;omega
end Go.Proofs.YtaelpfghkndliaaGreatEv
