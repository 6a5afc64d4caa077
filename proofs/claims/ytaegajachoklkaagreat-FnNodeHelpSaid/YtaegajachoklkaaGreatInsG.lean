/- slices.Insert: what its walk needs, for any element. -/
import Derived.Test.YtaegajachoklkaaGreatEvQ
import Derived.Test.YtaegajachoklkaaGreatE6
import Derived.Shelf.Spec.SlicesInsert
import Derived.Laws.CopyRow
import Derived.Lib.AppendZerosOnto
set_option linter.unusedVariables false
set_option maxRecDepth 100000
set_option linter.unusedVariables false
set_option linter.unusedSimpArgs false
open Array renaming length_toList->BM,getElem?_eq_some_iff->BU
open Go.Addr renaming add_lit->BT
open Go.Builtin renaming copy_->BL,firstCells->BZ,zeroCells->B7,append_->B8
open Go.IntKind renaming wrap_i64->BO
open Go.Value renaming ownBlock->BY
open Go.World renaming cell?->CA
open List renaming length_append->BH,length_take->BI,length_drop->BK,size_toArray->BN,getElem?_eq_some_iff->BP,append_assoc->BQ,take_left'->BS,mem_of_mem_drop->BX,getElem?_take->B3,getElem?_drop->B4,take_take->B9
open Nat renaming mul_le_mul_right->BG,add_mul->BJ,min_eq_left->BR,sub_mul->BV,min_def->BW,min->B5,zero_add->B6
namespace Go.Proofs.YtaegajachoklkaaGreatEv
open Go Go.Proofs Go.Shelf Go.RowKit Go.Lib
theorem run_copy_rowN {P:Program}(w:World)(O sT ty y:TypeId)(i:TypeInfo)(hi:P.info? y=some i)(g o u z:Nat)(a:Addr)(r H:Nat)(cur:Array Value)(t:TypeId)(cs:List Value)
  (X:P.underlying O=some (.slice y)) (R:w.heap[g]?=some (.cells cur t (0,0))) (Z:cs.length=B5 r u*i.size)
  (J:∀ j v,cs[j]?=some v->w.cell? (a.add j)=some v) (I:o+cs.length<=cur.size) (h1:∀ v∈cs,v.oneCell'=true) :
  (BL #[O,sT] ty #[.slice (some ⟨g,o,none⟩) u z,.slice (some a) r H]).run P w =
   .ok (goInt (B5 r u)) (w.setRow g (cur.toList.take o++cs++cur.toList.drop (o+cs.length)).toArray):=by
 have Y:=run_loadCells_list (P:=P) w a cs J;have M:=run_storeCells_at P g o t cs 0 cur w R (by simpa using I) h1;simp[BL,run_underlying X,Builtin.lenOf,BZ,sizeOf,typeInfo,hi,<- Z,Y,M]
def InsNil (P:Program)(F E C B:Nat):Prop :=
 ∀ (w:World) (i:TypeInfo) (z:Value) (hi:P.info? E=some i) (hz:i.zero=some z) (Y:i.size=C) (Z:i.bytes=B) (X:z.cells.size=C) (M m R:Nat) (r:List Value) (hl:r.length=m*C) (I:∀ j u,r[j]?=some u->w.cell? ⟨M,0+j,none⟩=some u) (h1:∀ u∈r,u.oneCell'=true) (hm:0<m) (O:m<=maxLen) (y:m*B<=140737488355328),
  Calls P F #[.slice none 0 0,.int .i64 0,.slice (some ⟨M,0,none⟩) m R] w λe J =>
   ∃ H,e=.returned H/\Row J E C H m r/\w.grownBy J none/\H.ownBlock=some w.heap.size
def InsEnd (P:Program)(F E C B:Nat):Prop :=
 ∀ (w:World) (g n H:Nat) (y:List Value) (i:TypeInfo) (z:Value) (hi:P.info? E=some i) (hz:i.zero=some z) (hs:i.size=C) (hb:i.bytes=B) (a1:z.cells.size=C) (X:Row w E C (.slice (some ⟨g,0,none⟩) n H) n y) (a0:n<=H) (R m Z:Nat) (r:List Value) (hl:r.length=m*C) (M:∀ j u,r[j]?=some u->w.cell? ⟨R,0+j,none⟩=some u) (h1:∀ u∈r,u.oneCell'=true) (hm:0<m) (Y:n+m<=maxLen) (I:(n+m)*B<=140737488355328),
  Calls P F #[.slice (some ⟨g,0,none⟩) n H,.int .i64 n,.slice (some ⟨R,0,none⟩) m Z] w λe O =>
   ∃ J,e=.returned J/\Row O E C J (n+m) (y++r)/\w.grownBy O (some g)/\(J.ownBlock=some g\/J.ownBlock=some w.heap.size)
def InsShift (P:Program)(F E C B:Nat):Prop :=
 ∀ (w:World) (g n H i:Nat) (I:Array Value) (r:List Value) (J:TypeInfo) (hi:P.info? E=some J) (hs:J.size=C) (hg:w.heap[g]?=some (.cells I E (0,0))) (a3:H<=maxLen) (a5:H*C<=I.size) (R:I.toList.take (n*C)=r) (a1:r.length=n*C) (a4:∀ u∈r,u.oneCell'=true) (O m vc:Nat) (M:Array Value) (y:List Value) (a0:w.heap[O]?=some (.cells M E (0,0))) (a2:O≠g) (hl:y.length=m*C) (Y:∀ j u,y[j]?=some u->w.cell? ⟨O,0+j,none⟩=some u) (h1:∀ u∈y,u.oneCell'=true) (hm:0<m) (Z:i<n) (X:n+m<=H),
  Calls P F #[.slice (some ⟨g,0,none⟩) n H,.int .i64 i,.slice (some ⟨O,0,none⟩) m vc] w λe w' =>
   e=.returned (.slice (some ⟨g,0,none⟩) (n+m) H)/\∃ z:Array Value,w'=w.drew.setRow g z/\z.size=I.size/\z.toList.take ((n+m)*C)=r.take (i*C)++y++r.drop (i*C)
def InsGrow (P:Program)(F E C B:Nat):Prop :=
 ∀ (w:World) (g n J i:Nat) (r:List Value) (I:TypeInfo) (z:Value) (hi:P.info? E=some I) (hz:I.zero=some z) (hs:I.size=C) (hb:I.bytes=B) (a6:z.cells.size=C) (a2:g<w.heap.size) (X:∀ j u,r[j]?=some u->w.cell? ⟨g,j,none⟩=some u) (a3:r.length=n*C) (a9:∀ u∈r,u.oneCell'=true) (R m vc:Nat) (y:List Value) (a4:R<w.heap.size) (hl:y.length=m*C) (Z:∀ j u,y[j]?=some u->w.cell? ⟨R,0+j,none⟩=some u) (h1:∀ u∈y,u.oneCell'=true) (hm:0<m) (a0:i<n) (a5:n<=J) (Y:J<n+m) (a1:n+m<=maxLen) (O:(n+m)*B<=140737488355328),
  Calls P F #[.slice (some ⟨g,0,none⟩) n J,.int .i64 i,.slice (some ⟨R,0,none⟩) m vc] w λe M =>
   ∃ G,n+m<=G/\G<=maxLen/\e=.returned (.slice (some ⟨w.heap.size,0,none⟩) (n+m) G)/\∃ H:Array Value,M.heap[w.heap.size]?=some (.cells H E (0,0))/\G*C<=H.size/\H.toList.take ((n+m)*C)=r.take (i*C)++y++r.drop (i*C) /\
    M.heap.size=w.heap.size+1/\M.os=w.os/\M.tape=w.tape/\M.output=w.output/\∀ k,k<w.heap.size->M.heap[k]?=w.heap[k]?
def ShiftGo (P:Program)(F S E C:Nat):Prop :=
 ∀ (w:World) (g n u i:Nat) (I:Array Value) (z:TypeInfo) (J m R:Nat) (H r y:Array Value),P.info? E=some z->z.size=C->w.heap[g]?=some (.cells I E (0,0))->w.heap[J]?=some (.cells H E (0,0))->J≠g->0<m->i<n->n+m<=u->I.size≠0 ->
  ¬ ((m:Int)=0)->¬ ((i:Int)=(n:Int))->u<=9223372036854775807->IntKind.i64.wrap ((i:Int)+(m:Int))=(i:Int)+(m:Int)->IntKind.i64.wrap ((n:Int)+(m:Int))=(n:Int)+(m:Int)->(0:Int)<=(i:Int)+(m:Int)->((i:Int)+(m:Int)).toNat=i+m->((n:Int)+(m:Int)).toNat=n+m->(i:Int)<=(n:Int)+(m:Int)->¬ (u=i+m)->i<=n->¬ (u=i) ->
  (∀ M O Y,(BL #[S,S] M #[.slice (some ⟨g,(i+m)*C,none⟩) (n+m-(i+m)) O,.slice (some ⟨g,i*C,none⟩) (n+m-i) Y]).run P w.drew=.ok (goInt (n-i:Nat)) (w.drew.setRow g r))->(∀ M O,(BL #[S,S] M #[.slice (some ⟨g,i*C,none⟩) (n+m-i) O,.slice (some ⟨J,0,none⟩) m R]).run P (w.drew.setRow g r)=.ok (goInt (m:Nat)) ((w.drew.setRow g r).setRow g y)) ->
  Calls P F #[.slice (some ⟨g,0,none⟩) n u,.int .i64 i,.slice (some ⟨J,0,none⟩) m R] w λe X=>e=.returned (.slice (some ⟨g,0,none⟩) (n+m) u)/\X=(w.drew.setRow g r).setRow g y
theorem shift_p {P:Program}{F S E C B:Nat}(t39:P.underlying S=some (.slice E))(hC:1<C)(go:ShiftGo P F S E C):InsShift P F E C B:=by
 intro w g n z i y u a0 hi hs hg c0 cp R Z c4 vb m vc b0 I bl a4 hl a1 h1 hm bb O;have k1:(n+m)*C=n*C+m*C:=BJ ..;have k2:(i+m)*C=i*C+m*C:=BJ ..;have k3:(n-i)*C=n*C-i*C:=BV ..;have k4:i*C<=n*C:=BG _ (by omega);have ba:¬ ((m:Int)=0):=by omega
 have b5:¬ ((i:Int)=(n:Int)):=by omega
 have b4:z<=9223372036854775807:=by simp only[maxLen]at c0;omega
 have c3:IntKind.i64.wrap ((i:Int)+(m:Int))=(i:Int)+(m:Int):=by rw[BO];omega
 have bx:IntKind.i64.wrap ((n:Int)+(m:Int))=(n:Int)+(m:Int):=by rw[BO];omega
 have b9:(0:Int)<=(i:Int)+(m:Int):=by omega
 have c2:((i:Int)+(m:Int)).toNat=i+m:=by omega
 have a6:((n:Int)+(m:Int)).toNat=n+m:=by omega
 have cb:(i:Int)<=(n:Int)+(m:Int):=by omega
 have c1:¬ (z=i+m):=by omega
 have bn:i<=n:=by omega
 have cc:¬ (z=i):=by omega
 have X:(u.drop (i*C)).length=(n-i)*C:=by rw[BK,Z,<- BV]
 have a2:∀ j,j<n*C->u[j]?=y[j]?:=λj hj=>by rw[<- R,B3,if_pos hj];exact Array.getElem?_toList ..
 have a9:B5 (n+m-i) (n+m-(i+m))=n-i:=by simp only[BW];split <;> omega
 have ad:B5 m (n+m-i)=m:=by simp only[BW];split <;> omega
 obtain⟨r,H⟩:∃ c:Array Value,c=(y.toList.take ((i+m)*C)++u.drop (i*C)++y.toList.drop ((i+m)*C+(u.drop (i*C)).length)).toArray:=⟨_,rfl⟩;have b3:(i+m)*C+(n-i)*C<=y.size:=by
  have:(n+m)*C<=z*C:=BG _ O;omega
 have b2:r.size=y.size:=by
  rw[H];simp only[BN,BH,BI,BK,BM,Z];omega
 obtain⟨J,M⟩:∃ c:Array Value,c=(r.toList.take (i*C)++I++r.toList.drop (i*C+I.length)).toArray:=⟨_,rfl⟩;have a3:∀ ty dc sc,(BL #[S,S] ty #[.slice (some ⟨g,(i+m)*C,none⟩) (n+m-(i+m)) dc,.slice (some ⟨g,i*C,none⟩) (n+m-i) sc]).run P w.drew=.ok (goInt (n-i:Nat)) (w.drew.setRow g r):=λty dc sc=>by
  have:=run_copy_rowN (P:=P) w.drew S S ty E a0 hi g ((i+m)*C) (n+m-(i+m)) dc ⟨g,i*C,none⟩ (n+m-i) sc y E (u.drop (i*C)) t39 hg (by rw[X,a9,hs])
   (λj v hj=>by
    rw[BT];have b1:=(BP.1 hj).1;rw[X]at b1;rw[B4]at hj;rw[show w.drew.cell? ⟨g,i*C+j,none⟩=w.cell? ⟨g,i*C+j,none⟩ from rfl,cell_of_row w g _ y E (0,0) hg,<- a2 _ (by rw[BV]at b1;omega)];exact hj)
   (by rw[X];exact b3) (λv hv=>c4 v (BX hv))
  rw[a9,<- H]at this;exact this
 have a5:∀ ty dc,(BL #[S,S] ty #[.slice (some ⟨g,i*C,none⟩) (n+m-i) dc,.slice (some ⟨vb,0,none⟩) m vc]).run P (w.drew.setRow g r)=.ok (goInt (m:Nat)) ((w.drew.setRow g r).setRow g J):=λty dc=>by
  have:=run_copy_rowN (P:=P) (w.drew.setRow g r) S S ty E a0 hi g (i*C) (n+m-i) dc ⟨vb,0,none⟩ m vc r E I t39 (setRow_heap w.drew g y r E (0,0) hg) (by rw[hl,ad,hs])
   (λj v hj=>by
    rw[BT,cell_setRow_other _ _ _ _ a4];exact a1 j v hj)
   (by rw[hl,b2,<- BJ];have:(i+m)*C<=z*C:=BG _ (by omega);omega) h1
  rw[ad,<- M]at this;exact this
 have Y:J.size=y.size/\J.toList.take ((n+m)*C)=u.take (i*C)++I++u.drop (i*C):=by
  refine⟨?_,?_⟩
  ·rw[M];simp only[BN,BH,BI,BK,BM,hl,b2];have:(i+m)*C<=z*C:=BG _ (by omega);omega
  ·have ha:r.toList.take (i*C)=u.take (i*C):=by
    rw[H,<- R,B9,BR (BG _ (by omega)),BQ];simp only[List.take_append_of_le_length (show i*C<=(y.toList.take ((i+m)*C)).length by simp only[BI,BM];have:(i+m)*C<=z*C:=BG _ (by omega);omega),B9];rw[BR (by omega)]
   have hb:r.toList.drop (i*C+I.length)=u.drop (i*C)++y.toList.drop ((i+m)*C+(u.drop (i*C)).length):=by
    rw[H,hl,<- BJ,BQ];exact List.drop_left' (by simp only[BI,BM];have:(i+m)*C<=z*C:=BG _ (by omega);omega)
   rw[M,ha,hb];simp only[<- BQ];exact BS (by simp only[BH,BI,Z,hl,X];rw[BR (BG _ (by omega))];omega)
 have k5:1*C<=z*C:=BG _ (by omega);refine (go w g n z i y a0 vb m vc b0 r J hi hs hg bl a4 hm bb O (by omega) ba b5 b4 c3 bx b9 c2 a6 cb c1 bn cc a3 a5).mono λe w' h=>?_
 exact⟨h.1,J,h.2.trans (setRow_setRow _ _ _ _),Y.1,Y.2⟩
def GrowGo (P:Program)(F S E C:Nat):Prop :=
 ∀ (w:World) (g n u i:Nat) (J m I G:Nat) (ROW r y:Array Value),0<m->i<n->n<=u->u<n+m->n+m<=G ->
  ¬ ((m:Int)=0)->¬ ((i:Int)=(n:Int))->(u:Int)<(n:Int)+(m:Int)->n+m<=9223372036854775807->G<=9223372036854775807->¬ (G=i)->¬ (G=i+m)->¬ (u=i)->IntKind.i64.wrap ((i:Int)+(m:Int))=(i:Int)+(m:Int)->IntKind.i64.wrap ((n:Int)+(m:Int))=(n:Int)+(m:Int)->IntKind.i64.wrap ((n:Int)+(m:Int)-(i:Int))=(n:Int)+(m:Int)-(i:Int)->(0:Int)<=(i:Int)+(m:Int)->i<=n->((i:Int)+(m:Int)).toNat=i+m->(i:Int)<=(n:Int) ->
  (∀ z,(B8 #[S,3] z #[.slice (some ⟨g,0,none⟩) i u,.int .i64 ((n:Int)+(m:Int)-(i:Int))]).run P w =
   .ok (.slice (some ⟨w.heap.size,0,none⟩) (n+m) G) (w.drew.alloc (.cells ROW E)))->(∀ z H,(BL #[S,S] z #[.slice (some ⟨w.heap.size,i*C,none⟩) (n+m-i) H,.slice (some ⟨J,0,none⟩) m I]).run P ((w.alloc (.cells ROW E)).drew)=.ok (goInt (m:Nat)) (((w.alloc (.cells ROW E)).drew).setRow w.heap.size r))->(∀ z H O,(BL #[S,S] z #[.slice (some ⟨w.heap.size,(i+m)*C,none⟩) (n+m-(i+m)) H,.slice (some ⟨g,i*C,none⟩) (n-i) O]).run P (((w.alloc (.cells ROW E)).drew.setRow w.heap.size r).drew)=.ok (goInt (n-i:Nat)) ((((w.alloc (.cells ROW E)).drew.setRow w.heap.size r).drew).setRow w.heap.size y)) ->
  Calls P F #[.slice (some ⟨g,0,none⟩) n u,.int .i64 i,.slice (some ⟨J,0,none⟩) m I] w λe M=>e=.returned (.slice (some ⟨w.heap.size,0,none⟩) (n+m) G)/\M=((((w.alloc (.cells ROW E)).drew.setRow w.heap.size r).drew).setRow w.heap.size y)
theorem grow_p {P:Program}{F S E C B:Nat}(t39:P.underlying S=some (.slice E))(t3:P.underlying 3=some (.int .i64))(hC:1<C)(go:GrowGo P F S E C):InsGrow P F E C B:=by
 intro w g n H i r a2 z hi hz hs hb e2 d2 R a4 e5 vb m vc y d3 hl a6 h1 hm d1 ec X b1 a3;have k1:(n+m)*C=n*C+m*C:=BJ ..;have k2:(i+m)*C=i*C+m*C:=BJ ..;have k3:(n-i)*C=n*C-i*C:=BV ..;have k4:i*C<=n*C:=BG _ (by omega);have cw:¬ ((m:Int)=0):=by omega
 have cb:¬ ((i:Int)=(n:Int)):=by omega
 have e6:(H:Int)<(n:Int)+(m:Int):=by omega
 have c3:n+m<=9223372036854775807:=by simp only[maxLen]at b1;omega
 have cp:(n:Int)+(m:Int)-(i:Int)=((n+m-i:Nat):Int):=by omega
 have bl:i+(n+m-i)=n+m:=by omega
 have cy:i*C<=n*C:=BG _ (by omega);have Z:(r.take (i*C)).length=i*C:=by rw[BI,a4];exact BR cy
 have b2:(BZ a2.size i (.slice (some ⟨g,0,none⟩) i H)).run P w.drew=.ok (r.take (i*C)).toArray w.drew:=by
  rw[hs];exact run_firstCells_some w.drew C i ⟨g,0,none⟩ i H (r.take (i*C)) Z (λj v hj=>by
   rw[BT,B6];rw[B3]at hj;split at hj
   ·exact R j v hj
   ·cases hj)
 obtain⟨G,hG⟩:∃ G,G=grownCap w (n+m) H E:=⟨_,rfl⟩;obtain⟨ROW,Y⟩:∃ ROW:Array Value,ROW=(r.take (i*C)).toArray++B7 z.cells (n+m-i)++B7 z.cells (G-(n+m)):=⟨_,rfl⟩;have e0:∀ O,(B8 #[S,3] O #[.slice (some ⟨g,0,none⟩) i H,.int .i64 ((n:Int)+(m:Int)-(i:Int))]).run P w =
   .ok (.slice (some ⟨w.heap.size,0,none⟩) (n+m) G) (w.drew.alloc (.cells ROW E)):=λO=>by
  have h:=Lib.run_append_grow_zeros w S 3 O E a2 z .i64 .i64 t39 t3 hi hz (some ⟨g,0,none⟩) i H (r.take (i*C)) b2 (n+m-i) (by omega) (by omega) (by omega) (by omega)
   (by rw[hb];have:(n+m-i)*B<=(n+m)*B:=BG _ (by omega);omega) (by rw[hb,bl];exact growslice_fits X a3)
  rw[bl,<- hG,<- Y]at h;rw[cp];exact h
 have a5:n+m<=G:=by rw[hG];exact grownCap_ge w _ _ _
 have c2:G<=maxLen:=by rw[hG];exact grownCap_le_maxLen w (n+m) H E b1
 have bx:G<=9223372036854775807:=by unfold maxLen at c2;omega
 have a0:ROW.size=G*C:=by
  rw[Y];simp only[Array.size_append,BN,size_zeroCells,e2,Z,<- BJ];rw[show i+(n+m-i)+(G-(n+m))=G by omega]
 obtain⟨u,J⟩:∃ c:Array Value,c=(ROW.toList.take (i*C)++y++ROW.toList.drop (i*C+y.length)).toArray:=⟨_,rfl⟩;obtain⟨I,M⟩:∃ c:Array Value,c=(u.toList.take ((i+m)*C)++r.drop (i*C)++u.toList.drop ((i+m)*C+(r.drop (i*C)).length)).toArray:=⟨_,rfl⟩;have ef:(n+m)*C<=G*C:=BG _ a5;have a9:(r.drop (i*C)).length=(n-i)*C:=by rw[BK,a4,<- BV]
 have c4:u.size=ROW.size:=by
  rw[J];simp only[BN,BH,BI,BK,BM,hl,a0];omega
 have cu:I.size=ROW.size:=by
  rw[M];simp only[BN,BH,BI,BK,BM,a4,c4,a0];omega
 have a1:ROW.toList.take (i*C)=r.take (i*C):=by
  rw[Y];simp only[Array.toList_append,BQ];exact BS Z
 have b0:I.toList.take ((n+m)*C)=r.take (i*C)++y++r.drop (i*C):=by
  have e1:u.toList.take ((i+m)*C)=r.take (i*C)++y:=by
   rw[J,a1];show List.take ((i+m)*C) (r.take (i*C)++y++ROW.toList.drop (i*C+y.length))=_;exact BS (by rw[BH,Z,hl,<- BJ])
  rw[M,e1];show List.take ((n+m)*C) (r.take (i*C)++y++r.drop (i*C)++_)=_;exact BS (by rw[BH,BH,Z,hl,a9,<- BJ,<- BJ,show i+m+(n-i)=n+m by omega])
 have b4:B5 m (n+m-i)=m:=by simp only[BW];split <;> omega
 have b5:B5 (n-i) (n+m-(i+m))=n-i:=by simp only[BW];split <;> omega
 have b3:∀ (W:World),W.heap[w.heap.size]?=some (.cells ROW E (0,0))->(∀ k,k<w.heap.size->W.heap[k]?=w.heap[k]?)->∀ O dc,(BL #[S,S] O #[.slice (some ⟨w.heap.size,i*C,none⟩) (n+m-i) dc,.slice (some ⟨vb,0,none⟩) m vc]).run P W=.ok (goInt (m:Nat)) (W.setRow w.heap.size u):=λW hW hk O dc=>by
  have:=run_copy_rowN (P:=P) W S S O E a2 hi w.heap.size (i*C) (n+m-i) dc ⟨vb,0,none⟩ m vc ROW E y t39 hW (by rw[hl,b4,hs])
   (λj v hj=>by
    rw[BT];have:=a6 j v hj;unfold CA at this ⊢;rw[hk vb d3];exact this)
   (by rw[hl,a0,<- BJ];exact BG _ (by omega)) h1
  rw[b4,<- J]at this;exact this
 have ba:∀ (W:World),W.heap[w.heap.size]?=some (.cells u E (0,0))->(∀ k,k<w.heap.size->W.heap[k]?=w.heap[k]?)->∀ O dc sc,(BL #[S,S] O #[.slice (some ⟨w.heap.size,(i+m)*C,none⟩) (n+m-(i+m)) dc,.slice (some ⟨g,i*C,none⟩) (n-i) sc]).run P W=.ok (goInt (n-i:Nat)) (W.setRow w.heap.size I):=λW hW hk O dc sc=>by
  have:=run_copy_rowN (P:=P) W S S O E a2 hi w.heap.size ((i+m)*C) (n+m-(i+m)) dc ⟨g,i*C,none⟩ (n-i) sc u E (r.drop (i*C)) t39 hW (by rw[a9,b5,hs])
   (λj v hj=>by
    rw[BT];rw[B4]at hj;have:=R _ v hj;unfold CA at this ⊢;rw[hk g d2];exact this)
   (by rw[a9,c4,a0,<- BJ];exact BG _ (by omega)) (λv hv=>e5 v (BX hv))
  rw[b5,<- M]at this;exact this
 have c0:((w.alloc (.cells ROW E)).drew).heap[w.heap.size]?=some (.cells ROW E (0,0)):=heap_alloc_new w _;have bb:∀ k,k<w.heap.size->((w.alloc (.cells ROW E)).drew).heap[k]?=w.heap[k]?:=λk hk=>Go.heap_alloc_old w _ hk
 have c1:(((w.alloc (.cells ROW E)).drew.setRow w.heap.size u).drew).heap[w.heap.size]?=some (.cells u E (0,0)):=setRow_heap (w.alloc (.cells ROW E)).drew w.heap.size ROW u E (0,0) c0;have ad:∀ k,k<w.heap.size->(((w.alloc (.cells ROW E)).drew.setRow w.heap.size u).drew).heap[k]?=w.heap[k]?:=λk hk=>(setRow_other (w.alloc (.cells ROW E)).drew w.heap.size k u (by omega)).trans (bb k hk)
 have eb:¬ (G=i):=by omega
 have bn:¬ (G=i+m):=by omega
 have cx:¬ (H=i):=by omega
 have e4:IntKind.i64.wrap ((i:Int)+(m:Int))=(i:Int)+(m:Int):=by rw[BO];omega
 have dd:IntKind.i64.wrap ((n:Int)+(m:Int))=(n:Int)+(m:Int):=by rw[BO];omega
 have ed:IntKind.i64.wrap ((n:Int)+(m:Int)-(i:Int))=(n:Int)+(m:Int)-(i:Int):=by rw[BO];omega
 have cc:(0:Int)<=(i:Int)+(m:Int):=by omega
 have b9:i<=n:=by omega
 have e3:((i:Int)+(m:Int)).toNat=i+m:=by omega
 have e7:(i:Int)<=(n:Int):=by omega
 refine (go w g n H i vb m vc G ROW u I hm d1 ec X a5 cw cb e6 c3 bx eb bn cx e4 dd ed cc b9 e3 e7 e0 (b3 _ c0 bb) (ba _ c1 ad)).mono λe w' h=>?_
 obtain⟨h1,rfl⟩:=h;exact⟨G,a5,c2,h1,I,setRow_heap _ _ _ _ _ _ c1,by rw[cu,a0];exact Nat.le_refl _,b0,by simp,rfl,rfl,rfl,λk hk=>(setRow_other _ _ _ _ (by omega)).trans (ad k hk)⟩
theorem ins_walk {P:Program}{F E C B:Nat}(q1:(P.info? E).isSome=true)(q2:(P.info? E).map (λi=>i.size)=some C)(q3:(P.info? E).map (λi=>i.bytes)=some B)(q4:((P.info? E).bind λi=>i.zero).map (λz=>z.cells.size)=some C)
  (hC:1<C) (hB:0<B) (ins_nil:InsNil P F E C B) (ins_end:InsEnd P F E C B) (ins_shift:InsShift P F E C B) (ins_grow:InsGrow P F E C B):lS P F E C B:=by
 intro w v0 v2 n m i I y r0 r2 o0 o2 hm a6 b4 Y;have k1:(n+m)*C=n*C+m*C:=BJ ..;have c2:=r2;obtain⟨J,h2⟩:=r2;rcases h2 with ⟨_,h⟩|⟨vb,vc,b2,mk,rfl,ad,cu,a5,cp,cw⟩
 ·omega
 obtain⟨rfl,_⟩:=a5.elim id (λh=>absurd h.1 (by omega));have r:∀ j u,y[j]?=some u->w.cell? ⟨vb,0+j,none⟩=some u:=λj u hj=>by
  rw[B6,c2.cellAt j (by rw[<- J];exact (BP.1 hj).1)];exact hj
 have kB:n+m<=(n+m)*B:=Nat.le_mul_of_pos_right _ hB;have a9:n+m<=maxLen:=by unfold maxLen;omega
 obtain⟨M,hi⟩:=Option.isSome_iff_exists.1 q1;rw[hi]at q2 q3 q4;have hs:M.size=C:=by simpa using q2
 have hb:M.bytes=B:=by simpa using q3
 simp only[Option.bind_some,Option.map_eq_some_iff]at q4;obtain⟨z,hz,a2⟩:=q4;have bl:vb<w.heap.size:=(BU.1 ad).1;have b0:=r0;obtain⟨O,h0⟩:=r0;rcases h0 with ⟨rfl,h0⟩|⟨g,R,b3,mk,rfl,hg,b5,bn,b1,a4⟩
 ·subst h0;have:i=0:=by omega
  subst this;have hf:I=[]:=List.eq_nil_of_length_eq_zero (by simpa using O);subst hf;refine (ins_nil w M z hi hz hs hb a2 vb m vc y J r o2 hm (by omega) (by rw[B6]at Y;exact Y)).mono λe w' h=>?_
  obtain⟨v',e1,h1,h2,h3⟩:=h;exact⟨v',e1,by simpa using h1,h2,.inr h3⟩
 ·obtain⟨rfl,Z⟩:=bn.elim id (λh=>absurd h.1 (by omega));have bb:g<w.heap.size:=(BU.1 hg).1;have ba:vb≠g:=λh=>b4 g (by simp[BY]) (by simp[BY,h])
  have a0:∀ j u,I[j]?=some u->w.cell? ⟨g,j,none⟩=some u:=λj u hj=>by
   rw[b0.cellAt j (by rw[<- O];exact (BP.1 hj).1)];exact hj
  by_cases hn:i=n
  ·subst hn;refine (ins_end w g i R I M z hi hz hs hb a2 b0 b5 vb m vc y J r o2 hm a9 Y).mono λe w' h=>?_
   obtain⟨v',e1,h1,h2,h3⟩:=h;refine⟨v',e1,?_,h2,h3⟩;rw[List.take_of_length_le (by omega),List.drop_of_length_le (by omega),List.append_nil];exact h1
  ·by_cases X:n+m<=R
   ·refine (ins_shift w g n R i b3 I M hi hs hg Z b1 a4 O o0 vb m vc b2 y ad ba J r o2 hm (by omega) X).mono λe w' h=>?_
    obtain⟨e1,H,rfl,a3,a1⟩:=h;refine⟨_,e1,⟨?_,.inr ⟨g,R,H,_,rfl,setRow_heap w.drew g b3 H E (0,0) hg,X,.inl ⟨rfl,Z⟩,by rw[a3];exact b1,a1⟩⟩,⟨rfl,rfl,rfl,by simp,λk _ hk=>setRow_other w.drew g k H (λh=>hk (by simp[BY,h]))⟩,.inl rfl⟩;simp only[BH,BI,BK,O,J];have:i*C<=n*C:=BG _ a6;omega
   ·refine (ins_grow w g n R i I M z hi hz hs hb a2 bb a0 O o0 vb m vc y bl J r o2 hm (by omega) b5 (by omega) a9 Y).mono λe w' h=>?_
    obtain⟨G,c4,c1,e1,H,a3,a1,bx,cc,c0,cb,b9,hk⟩:=h;refine⟨_,e1,⟨?_,.inr ⟨w.heap.size,G,H,_,rfl,a3,c4,.inl ⟨rfl,c1⟩,a1,bx⟩⟩,⟨c0,cb,b9,by omega,λk c3 _=>hk k c3⟩,.inr rfl⟩;simp only[BH,BI,BK,O,J];have:i*C<=n*C:=BG _ a6;omega
end Go.Proofs.YtaegajachoklkaaGreatEv
