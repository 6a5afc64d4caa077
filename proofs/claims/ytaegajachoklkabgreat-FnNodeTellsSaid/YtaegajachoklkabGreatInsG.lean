/- slices.Insert: what its walk needs, for any element. -/
import Derived.Test.YtaegajachoklkabGreatEvQ
import Derived.Test.YtaegajachoklkabGreatE6
import Derived.Shelf.Spec.SlicesInsert
import Derived.Laws.CopyRow
import Derived.Lib.AppendZerosOnto
set_option linter.unusedVariables false
set_option maxRecDepth 100000
set_option linter.unusedVariables false
set_option linter.unusedSimpArgs false
open Array renaming length_toList->BM,getElem?_eq_some_iff->BU
open Go.Addr renaming add_lit->BT
open Go.Builtin renaming copy_->BL,firstCells->BZ,zeroCells->B7,append_->B8
open Go.IntKind renaming wrap_i64->BO
open Go.Value renaming ownBlock->BY
open Go.World renaming cell?->CA
open List renaming length_append->BH,length_take->BI,length_drop->BK,size_toArray->BN,getElem?_eq_some_iff->BP,append_assoc->BQ,take_left'->BS,mem_of_mem_drop->BX,getElem?_take->B3,getElem?_drop->B4,take_take->B9
open Nat renaming mul_le_mul_right->BG,add_mul->BJ,min_eq_left->BR,sub_mul->BV,min_def->BW,min->B5,zero_add->B6
namespace Go.Proofs.YtaegajachoklkabGreatEv
open Go Go.Proofs Go.Shelf Go.RowKit Go.Lib
theorem run_copy_rowN {P:Program}(w:World)(O Z ty y:TypeId)(i:TypeInfo)(hi:P.info? y=some i)(g o u z:Nat)(a:Addr)(r I:Nat)(cur:Array Value)(t:TypeId)(cs:List Value)
  (hu:P.underlying O=some (.slice y)) (hg:w.heap[g]?=some (.cells cur t (0,0))) (X:cs.length=B5 r u*i.size)
  (H:∀ j v,cs[j]?=some v->w.cell? (a.add j)=some v) (J:o+cs.length<=cur.size) (R:∀ v∈cs,v.oneCell'=true) :
  (BL #[O,Z] ty #[.slice (some ⟨g,o,none⟩) u z,.slice (some a) r I]).run P w =
   .ok (goInt (B5 r u)) (w.setRow g (cur.toList.take o++cs++cur.toList.drop (o+cs.length)).toArray):=by
 have Y:=run_loadCells_list (P:=P) w a cs H;have M:=run_storeCells_at P g o t cs 0 cur w hg (by simpa using J) R;simp[BL,run_underlying hu,Builtin.lenOf,BZ,sizeOf,typeInfo,hi,<- X,Y,M]
def InsNil (P:Program)(F E C B:Nat):Prop :=
 ∀ (w:World) (i:TypeInfo) (z:Value) (hi:P.info? E=some i) (Y:i.zero=some z) (hs:i.size=C) (hb:i.bytes=B) (R:z.cells.size=C) (J m X:Nat) (r:List Value) (hl:r.length=m*C) (H:∀ j u,r[j]?=some u->w.cell? ⟨J,0+j,none⟩=some u) (Z:∀ u∈r,u.oneCell'=true) (hm:0<m) (O:m<=maxLen) (y:m*B<=140737488355328),
  Calls P F #[.slice none 0 0,.int .i64 0,.slice (some ⟨J,0,none⟩) m X] w λe M =>
   ∃ I,e=.returned I/\Row M E C I m r/\w.grownBy M none/\I.ownBlock=some w.heap.size
def InsEnd (P:Program)(F E C B:Nat):Prop :=
 ∀ (w:World) (g n H:Nat) (y:List Value) (i:TypeInfo) (z:Value) (hi:P.info? E=some i) (hz:i.zero=some z) (hs:i.size=C) (hb:i.bytes=B) (Z:z.cells.size=C) (O:Row w E C (.slice (some ⟨g,0,none⟩) n H) n y) (a0:n<=H) (R m vc:Nat) (r:List Value) (hl:r.length=m*C) (M:∀ j u,r[j]?=some u->w.cell? ⟨R,0+j,none⟩=some u) (h1:∀ u∈r,u.oneCell'=true) (hm:0<m) (Y:n+m<=maxLen) (I:(n+m)*B<=140737488355328),
  Calls P F #[.slice (some ⟨g,0,none⟩) n H,.int .i64 n,.slice (some ⟨R,0,none⟩) m vc] w λe X =>
   ∃ J,e=.returned J/\Row X E C J (n+m) (y++r)/\w.grownBy X (some g)/\(J.ownBlock=some g\/J.ownBlock=some w.heap.size)
def InsShift (P:Program)(F E C B:Nat):Prop :=
 ∀ (w:World) (g n H i:Nat) (I:Array Value) (r:List Value) (M:TypeInfo) (hi:P.info? E=some M) (hs:M.size=C) (hg:w.heap[g]?=some (.cells I E (0,0))) (a5:H<=maxLen) (a3:H*C<=I.size) (Y:I.toList.take (n*C)=r) (a2:r.length=n*C) (a1:∀ u∈r,u.oneCell'=true) (O m vc:Nat) (J:Array Value) (y:List Value) (a4:w.heap[O]?=some (.cells J E (0,0))) (Z:O≠g) (hl:y.length=m*C) (X:∀ j u,y[j]?=some u->w.cell? ⟨O,0+j,none⟩=some u) (h1:∀ u∈y,u.oneCell'=true) (hm:0<m) (a0:i<n) (R:n+m<=H),
  Calls P F #[.slice (some ⟨g,0,none⟩) n H,.int .i64 i,.slice (some ⟨O,0,none⟩) m vc] w λe w' =>
   e=.returned (.slice (some ⟨g,0,none⟩) (n+m) H)/\∃ z:Array Value,w'=w.drew.setRow g z/\z.size=I.size/\z.toList.take ((n+m)*C)=r.take (i*C)++y++r.drop (i*C)
def InsGrow (P:Program)(F E C B:Nat):Prop :=
 ∀ (w:World) (g n J i:Nat) (r:List Value) (I:TypeInfo) (z:Value) (hi:P.info? E=some I) (hz:I.zero=some z) (hs:I.size=C) (hb:I.bytes=B) (a3:z.cells.size=C) (a6:g<w.heap.size) (Z:∀ j u,r[j]?=some u->w.cell? ⟨g,j,none⟩=some u) (a4:r.length=n*C) (a2:∀ u∈r,u.oneCell'=true) (Y m vc:Nat) (y:List Value) (a9:Y<w.heap.size) (hl:y.length=m*C) (X:∀ j u,y[j]?=some u->w.cell? ⟨Y,0+j,none⟩=some u) (h1:∀ u∈y,u.oneCell'=true) (hm:0<m) (a1:i<n) (a5:n<=J) (R:J<n+m) (a0:n+m<=maxLen) (O:(n+m)*B<=140737488355328),
  Calls P F #[.slice (some ⟨g,0,none⟩) n J,.int .i64 i,.slice (some ⟨Y,0,none⟩) m vc] w λe M =>
   ∃ G,n+m<=G/\G<=maxLen/\e=.returned (.slice (some ⟨w.heap.size,0,none⟩) (n+m) G)/\∃ H:Array Value,M.heap[w.heap.size]?=some (.cells H E (0,0))/\G*C<=H.size/\H.toList.take ((n+m)*C)=r.take (i*C)++y++r.drop (i*C) /\
    M.heap.size=w.heap.size+1/\M.os=w.os/\M.tape=w.tape/\M.output=w.output/\∀ k,k<w.heap.size->M.heap[k]?=w.heap[k]?
def ShiftGo (P:Program)(F S E C:Nat):Prop :=
 ∀ (w:World) (g n u i:Nat) (z:Array Value) (I:TypeInfo) (J m R:Nat) (H r y:Array Value),P.info? E=some I->I.size=C->w.heap[g]?=some (.cells z E (0,0))->w.heap[J]?=some (.cells H E (0,0))->J≠g->0<m->i<n->n+m<=u->z.size≠0 ->
  ¬ ((m:Int)=0)->¬ ((i:Int)=(n:Int))->u<=9223372036854775807->IntKind.i64.wrap ((i:Int)+(m:Int))=(i:Int)+(m:Int)->IntKind.i64.wrap ((n:Int)+(m:Int))=(n:Int)+(m:Int)->(0:Int)<=(i:Int)+(m:Int)->((i:Int)+(m:Int)).toNat=i+m->((n:Int)+(m:Int)).toNat=n+m->(i:Int)<=(n:Int)+(m:Int)->¬ (u=i+m)->i<=n->¬ (u=i) ->
  (∀ M O X,(BL #[S,S] M #[.slice (some ⟨g,(i+m)*C,none⟩) (n+m-(i+m)) O,.slice (some ⟨g,i*C,none⟩) (n+m-i) X]).run P w.drew=.ok (goInt (n-i:Nat)) (w.drew.setRow g r))->(∀ M O,(BL #[S,S] M #[.slice (some ⟨g,i*C,none⟩) (n+m-i) O,.slice (some ⟨J,0,none⟩) m R]).run P (w.drew.setRow g r)=.ok (goInt (m:Nat)) ((w.drew.setRow g r).setRow g y)) ->
  Calls P F #[.slice (some ⟨g,0,none⟩) n u,.int .i64 i,.slice (some ⟨J,0,none⟩) m R] w λe Y=>e=.returned (.slice (some ⟨g,0,none⟩) (n+m) u)/\Y=(w.drew.setRow g r).setRow g y
theorem shift_p {P:Program}{F S E C B:Nat}(t39:P.underlying S=some (.slice E))(hC:1<C)(go:ShiftGo P F S E C):InsShift P F E C B:=by
 intro w g n z i y u Z hi hs hg c0 cp R a0 bl vb m vc b2 J c3 a9 hl a1 h1 hm bb O;have k1:(n+m)*C=n*C+m*C:=BJ ..;have k2:(i+m)*C=i*C+m*C:=BJ ..;have k3:(n-i)*C=n*C-i*C:=BV ..;have k4:i*C<=n*C:=BG _ (by omega);have b5:¬ ((m:Int)=0):=by omega
 have ba:¬ ((i:Int)=(n:Int)):=by omega
 have b0:z<=9223372036854775807:=by simp only[maxLen]at c0;omega
 have cc:IntKind.i64.wrap ((i:Int)+(m:Int))=(i:Int)+(m:Int):=by rw[BO];omega
 have bx:IntKind.i64.wrap ((n:Int)+(m:Int))=(n:Int)+(m:Int):=by rw[BO];omega
 have c4:(0:Int)<=(i:Int)+(m:Int):=by omega
 have bn:((i:Int)+(m:Int)).toNat=i+m:=by omega
 have b3:((n:Int)+(m:Int)).toNat=n+m:=by omega
 have b9:(i:Int)<=(n:Int)+(m:Int):=by omega
 have c1:¬ (z=i+m):=by omega
 have cb:i<=n:=by omega
 have c2:¬ (z=i):=by omega
 have X:(u.drop (i*C)).length=(n-i)*C:=by rw[BK,a0,<- BV]
 have a2:∀ j,j<n*C->u[j]?=y[j]?:=λj hj=>by rw[<- R,B3,if_pos hj];exact Array.getElem?_toList ..
 have a3:B5 (n+m-i) (n+m-(i+m))=n-i:=by simp only[BW];split <;> omega
 have a4:B5 m (n+m-i)=m:=by simp only[BW];split <;> omega
 obtain⟨r,H⟩:∃ c:Array Value,c=(y.toList.take ((i+m)*C)++u.drop (i*C)++y.toList.drop ((i+m)*C+(u.drop (i*C)).length)).toArray:=⟨_,rfl⟩;have b4:(i+m)*C+(n-i)*C<=y.size:=by
  have:(n+m)*C<=z*C:=BG _ O;omega
 have a5:r.size=y.size:=by
  rw[H];simp only[BN,BH,BI,BK,BM,a0];omega
 obtain⟨I,M⟩:∃ c:Array Value,c=(r.toList.take (i*C)++J++r.toList.drop (i*C+J.length)).toArray:=⟨_,rfl⟩;have a6:∀ ty dc sc,(BL #[S,S] ty #[.slice (some ⟨g,(i+m)*C,none⟩) (n+m-(i+m)) dc,.slice (some ⟨g,i*C,none⟩) (n+m-i) sc]).run P w.drew=.ok (goInt (n-i:Nat)) (w.drew.setRow g r):=λty dc sc=>by
  have:=run_copy_rowN (P:=P) w.drew S S ty E Z hi g ((i+m)*C) (n+m-(i+m)) dc ⟨g,i*C,none⟩ (n+m-i) sc y E (u.drop (i*C)) t39 hg (by rw[X,a3,hs])
   (λj v hj=>by
    rw[BT];have ad:=(BP.1 hj).1;rw[X]at ad;rw[B4]at hj;rw[show w.drew.cell? ⟨g,i*C+j,none⟩=w.cell? ⟨g,i*C+j,none⟩ from rfl,cell_of_row w g _ y E (0,0) hg,<- a2 _ (by rw[BV]at ad;omega)];exact hj)
   (by rw[X];exact b4) (λv hv=>bl v (BX hv))
  rw[a3,<- H]at this;exact this
 have b1:∀ ty dc,(BL #[S,S] ty #[.slice (some ⟨g,i*C,none⟩) (n+m-i) dc,.slice (some ⟨vb,0,none⟩) m vc]).run P (w.drew.setRow g r)=.ok (goInt (m:Nat)) ((w.drew.setRow g r).setRow g I):=λty dc=>by
  have:=run_copy_rowN (P:=P) (w.drew.setRow g r) S S ty E Z hi g (i*C) (n+m-i) dc ⟨vb,0,none⟩ m vc r E J t39 (setRow_heap w.drew g y r E (0,0) hg) (by rw[hl,a4,hs])
   (λj v hj=>by
    rw[BT,cell_setRow_other _ _ _ _ a9];exact a1 j v hj)
   (by rw[hl,a5,<- BJ];have:(i+m)*C<=z*C:=BG _ (by omega);omega) h1
  rw[a4,<- M]at this;exact this
 have Y:I.size=y.size/\I.toList.take ((n+m)*C)=u.take (i*C)++J++u.drop (i*C):=by
  refine⟨?_,?_⟩
  ·rw[M];simp only[BN,BH,BI,BK,BM,hl,a5];have:(i+m)*C<=z*C:=BG _ (by omega);omega
  ·have ha:r.toList.take (i*C)=u.take (i*C):=by
    rw[H,<- R,B9,BR (BG _ (by omega)),BQ];simp only[List.take_append_of_le_length (show i*C<=(y.toList.take ((i+m)*C)).length by simp only[BI,BM];have:(i+m)*C<=z*C:=BG _ (by omega);omega),B9];rw[BR (by omega)]
   have hb:r.toList.drop (i*C+J.length)=u.drop (i*C)++y.toList.drop ((i+m)*C+(u.drop (i*C)).length):=by
    rw[H,hl,<- BJ,BQ];exact List.drop_left' (by simp only[BI,BM];have:(i+m)*C<=z*C:=BG _ (by omega);omega)
   rw[M,ha,hb];simp only[<- BQ];exact BS (by simp only[BH,BI,a0,hl,X];rw[BR (BG _ (by omega))];omega)
 have k5:1*C<=z*C:=BG _ (by omega);refine (go w g n z i y Z vb m vc b2 r I hi hs hg c3 a9 hm bb O (by omega) b5 ba b0 cc bx c4 bn b3 b9 c1 cb c2 a6 b1).mono λe w' h=>?_
 exact⟨h.1,I,h.2.trans (setRow_setRow _ _ _ _),Y.1,Y.2⟩
def GrowGo (P:Program)(F S E C:Nat):Prop :=
 ∀ (w:World) (g n u i:Nat) (I m J G:Nat) (ROW r y:Array Value),0<m->i<n->n<=u->u<n+m->n+m<=G ->
  ¬ ((m:Int)=0)->¬ ((i:Int)=(n:Int))->(u:Int)<(n:Int)+(m:Int)->n+m<=9223372036854775807->G<=9223372036854775807->¬ (G=i)->¬ (G=i+m)->¬ (u=i)->IntKind.i64.wrap ((i:Int)+(m:Int))=(i:Int)+(m:Int)->IntKind.i64.wrap ((n:Int)+(m:Int))=(n:Int)+(m:Int)->IntKind.i64.wrap ((n:Int)+(m:Int)-(i:Int))=(n:Int)+(m:Int)-(i:Int)->(0:Int)<=(i:Int)+(m:Int)->i<=n->((i:Int)+(m:Int)).toNat=i+m->(i:Int)<=(n:Int) ->
  (∀ z,(B8 #[S,3] z #[.slice (some ⟨g,0,none⟩) i u,.int .i64 ((n:Int)+(m:Int)-(i:Int))]).run P w =
   .ok (.slice (some ⟨w.heap.size,0,none⟩) (n+m) G) (w.drew.alloc (.cells ROW E)))->(∀ z H,(BL #[S,S] z #[.slice (some ⟨w.heap.size,i*C,none⟩) (n+m-i) H,.slice (some ⟨I,0,none⟩) m J]).run P ((w.alloc (.cells ROW E)).drew)=.ok (goInt (m:Nat)) (((w.alloc (.cells ROW E)).drew).setRow w.heap.size r))->(∀ z H M,(BL #[S,S] z #[.slice (some ⟨w.heap.size,(i+m)*C,none⟩) (n+m-(i+m)) H,.slice (some ⟨g,i*C,none⟩) (n-i) M]).run P (((w.alloc (.cells ROW E)).drew.setRow w.heap.size r).drew)=.ok (goInt (n-i:Nat)) ((((w.alloc (.cells ROW E)).drew.setRow w.heap.size r).drew).setRow w.heap.size y)) ->
  Calls P F #[.slice (some ⟨g,0,none⟩) n u,.int .i64 i,.slice (some ⟨I,0,none⟩) m J] w λe O=>e=.returned (.slice (some ⟨w.heap.size,0,none⟩) (n+m) G)/\O=((((w.alloc (.cells ROW E)).drew.setRow w.heap.size r).drew).setRow w.heap.size y)
theorem grow_p {P:Program}{F S E C B:Nat}(t39:P.underlying S=some (.slice E))(t3:P.underlying 3=some (.int .i64))(hC:1<C)(go:GrowGo P F S E C):InsGrow P F E C B:=by
 intro w g n H i r a2 z hi hz hs hb cy ed a0 a4 d1 vb m vc y e5 hl a6 h1 hm cx e3 X ad a1;have k1:(n+m)*C=n*C+m*C:=BJ ..;have k2:(i+m)*C=i*C+m*C:=BJ ..;have k3:(n-i)*C=n*C-i*C:=BV ..;have k4:i*C<=n*C:=BG _ (by omega);have cc:¬ ((m:Int)=0):=by omega
 have cw:¬ ((i:Int)=(n:Int)):=by omega
 have eb:(H:Int)<(n:Int)+(m:Int):=by omega
 have b3:n+m<=9223372036854775807:=by simp only[maxLen]at ad;omega
 have cu:(n:Int)+(m:Int)-(i:Int)=((n+m-i:Nat):Int):=by omega
 have c3:i+(n+m-i)=n+m:=by omega
 have e6:i*C<=n*C:=BG _ (by omega);have Y:(r.take (i*C)).length=i*C:=by rw[BI,a4];exact BR e6
 have bn:(BZ a2.size i (.slice (some ⟨g,0,none⟩) i H)).run P w.drew=.ok (r.take (i*C)).toArray w.drew:=by
  rw[hs];exact run_firstCells_some w.drew C i ⟨g,0,none⟩ i H (r.take (i*C)) Y (λj v hj=>by
   rw[BT,B6];rw[B3]at hj;split at hj
   ·exact a0 j v hj
   ·cases hj)
 obtain⟨G,hG⟩:∃ G,G=grownCap w (n+m) H E:=⟨_,rfl⟩;obtain⟨ROW,R⟩:∃ ROW:Array Value,ROW=(r.take (i*C)).toArray++B7 z.cells (n+m-i)++B7 z.cells (G-(n+m)):=⟨_,rfl⟩;have e7:∀ Z,(B8 #[S,3] Z #[.slice (some ⟨g,0,none⟩) i H,.int .i64 ((n:Int)+(m:Int)-(i:Int))]).run P w =
   .ok (.slice (some ⟨w.heap.size,0,none⟩) (n+m) G) (w.drew.alloc (.cells ROW E)):=λZ=>by
  have h:=Lib.run_append_grow_zeros w S 3 Z E a2 z .i64 .i64 t39 t3 hi hz (some ⟨g,0,none⟩) i H (r.take (i*C)) bn (n+m-i) (by omega) (by omega) (by omega) (by omega)
   (by rw[hb];have:(n+m-i)*B<=(n+m)*B:=BG _ (by omega);omega) (by rw[hb,c3];exact growslice_fits X a1)
  rw[c3,<- hG,<- R]at h;rw[cu];exact h
 have a5:n+m<=G:=by rw[hG];exact grownCap_ge w _ _ _
 have c0:G<=maxLen:=by rw[hG];exact grownCap_le_maxLen w (n+m) H E ad
 have c1:G<=9223372036854775807:=by unfold maxLen at c0;omega
 have O:ROW.size=G*C:=by
  rw[R];simp only[Array.size_append,BN,size_zeroCells,cy,Y,<- BJ];rw[show i+(n+m-i)+(G-(n+m))=G by omega]
 obtain⟨u,M⟩:∃ c:Array Value,c=(ROW.toList.take (i*C)++y++ROW.toList.drop (i*C+y.length)).toArray:=⟨_,rfl⟩;obtain⟨I,J⟩:∃ c:Array Value,c=(u.toList.take ((i+m)*C)++r.drop (i*C)++u.toList.drop ((i+m)*C+(r.drop (i*C)).length)).toArray:=⟨_,rfl⟩;have ef:(n+m)*C<=G*C:=BG _ a5;have a9:(r.drop (i*C)).length=(n-i)*C:=by rw[BK,a4,<- BV]
 have b9:u.size=ROW.size:=by
  rw[M];simp only[BN,BH,BI,BK,BM,hl,O];omega
 have e0:I.size=ROW.size:=by
  rw[J];simp only[BN,BH,BI,BK,BM,a4,b9,O];omega
 have a3:ROW.toList.take (i*C)=r.take (i*C):=by
  rw[R];simp only[Array.toList_append,BQ];exact BS Y
 have bl:I.toList.take ((n+m)*C)=r.take (i*C)++y++r.drop (i*C):=by
  have e1:u.toList.take ((i+m)*C)=r.take (i*C)++y:=by
   rw[M,a3];show List.take ((i+m)*C) (r.take (i*C)++y++ROW.toList.drop (i*C+y.length))=_;exact BS (by rw[BH,Y,hl,<- BJ])
  rw[J,e1];show List.take ((n+m)*C) (r.take (i*C)++y++r.drop (i*C)++_)=_;exact BS (by rw[BH,BH,Y,hl,a9,<- BJ,<- BJ,show i+m+(n-i)=n+m by omega])
 have b2:B5 m (n+m-i)=m:=by simp only[BW];split <;> omega
 have b4:B5 (n-i) (n+m-(i+m))=n-i:=by simp only[BW];split <;> omega
 have bb:∀ (W:World),W.heap[w.heap.size]?=some (.cells ROW E (0,0))->(∀ k,k<w.heap.size->W.heap[k]?=w.heap[k]?)->∀ Z dc,(BL #[S,S] Z #[.slice (some ⟨w.heap.size,i*C,none⟩) (n+m-i) dc,.slice (some ⟨vb,0,none⟩) m vc]).run P W=.ok (goInt (m:Nat)) (W.setRow w.heap.size u):=λW hW hk Z dc=>by
  have:=run_copy_rowN (P:=P) W S S Z E a2 hi w.heap.size (i*C) (n+m-i) dc ⟨vb,0,none⟩ m vc ROW E y t39 hW (by rw[hl,b2,hs])
   (λj v hj=>by
    rw[BT];have:=a6 j v hj;unfold CA at this ⊢;rw[hk vb e5];exact this)
   (by rw[hl,O,<- BJ];exact BG _ (by omega)) h1
  rw[b2,<- M]at this;exact this
 have bx:∀ (W:World),W.heap[w.heap.size]?=some (.cells u E (0,0))->(∀ k,k<w.heap.size->W.heap[k]?=w.heap[k]?)->∀ Z dc sc,(BL #[S,S] Z #[.slice (some ⟨w.heap.size,(i+m)*C,none⟩) (n+m-(i+m)) dc,.slice (some ⟨g,i*C,none⟩) (n-i) sc]).run P W=.ok (goInt (n-i:Nat)) (W.setRow w.heap.size I):=λW hW hk Z dc sc=>by
  have:=run_copy_rowN (P:=P) W S S Z E a2 hi w.heap.size ((i+m)*C) (n+m-(i+m)) dc ⟨g,i*C,none⟩ (n-i) sc u E (r.drop (i*C)) t39 hW (by rw[a9,b4,hs])
   (λj v hj=>by
    rw[BT];rw[B4]at hj;have:=a0 _ v hj;unfold CA at this ⊢;rw[hk g ed];exact this)
   (by rw[a9,b9,O,<- BJ];exact BG _ (by omega)) (λv hv=>d1 v (BX hv))
  rw[b4,<- J]at this;exact this
 have c4:((w.alloc (.cells ROW E)).drew).heap[w.heap.size]?=some (.cells ROW E (0,0)):=heap_alloc_new w _;have b5:∀ k,k<w.heap.size->((w.alloc (.cells ROW E)).drew).heap[k]?=w.heap[k]?:=λk hk=>Go.heap_alloc_old w _ hk
 have ba:(((w.alloc (.cells ROW E)).drew.setRow w.heap.size u).drew).heap[w.heap.size]?=some (.cells u E (0,0)):=setRow_heap (w.alloc (.cells ROW E)).drew w.heap.size ROW u E (0,0) c4;have b0:∀ k,k<w.heap.size->(((w.alloc (.cells ROW E)).drew.setRow w.heap.size u).drew).heap[k]?=w.heap[k]?:=λk hk=>(setRow_other (w.alloc (.cells ROW E)).drew w.heap.size k u (by omega)).trans (b5 k hk)
 have d2:¬ (G=i):=by omega
 have c2:¬ (G=i+m):=by omega
 have e2:¬ (H=i):=by omega
 have ec:IntKind.i64.wrap ((i:Int)+(m:Int))=(i:Int)+(m:Int):=by rw[BO];omega
 have dd:IntKind.i64.wrap ((n:Int)+(m:Int))=(n:Int)+(m:Int):=by rw[BO];omega
 have cb:IntKind.i64.wrap ((n:Int)+(m:Int)-(i:Int))=(n:Int)+(m:Int)-(i:Int):=by rw[BO];omega
 have e4:(0:Int)<=(i:Int)+(m:Int):=by omega
 have b1:i<=n:=by omega
 have d3:((i:Int)+(m:Int)).toNat=i+m:=by omega
 have cp:(i:Int)<=(n:Int):=by omega
 refine (go w g n H i vb m vc G ROW u I hm cx e3 X a5 cc cw eb b3 c1 d2 c2 e2 ec dd cb e4 b1 d3 cp e7 (bb _ c4 b5) (bx _ ba b0)).mono λe w' h=>?_
 obtain⟨h1,rfl⟩:=h;exact⟨G,a5,c0,h1,I,setRow_heap _ _ _ _ _ _ ba,by rw[e0,O];exact Nat.le_refl _,bl,by simp,rfl,rfl,rfl,λk hk=>(setRow_other _ _ _ _ (by omega)).trans (b0 k hk)⟩
theorem ins_walk {P:Program}{F E C B:Nat}(q1:(P.info? E).isSome=true)(q2:(P.info? E).map (λi=>i.size)=some C)(q3:(P.info? E).map (λi=>i.bytes)=some B)(q4:((P.info? E).bind λi=>i.zero).map (λz=>z.cells.size)=some C)
  (hC:1<C) (hB:0<B) (ins_nil:InsNil P F E C B) (ins_end:InsEnd P F E C B) (ins_shift:InsShift P F E C B) (ins_grow:InsGrow P F E C B):lP P F E C B:=by
 intro w v0 v2 n m i y I r0 r2 o0 o2 hm a9 a6 Y;have k1:(n+m)*C=n*C+m*C:=BJ ..;have c0:=r2;obtain⟨J,h2⟩:=r2;rcases h2 with ⟨_,h⟩|⟨vb,vc,b5,mk,rfl,b4,cu,b2,cp,cw⟩
 ·omega
 obtain⟨rfl,_⟩:=b2.elim id (λh=>absurd h.1 (by omega));have r:∀ j u,I[j]?=some u->w.cell? ⟨vb,0+j,none⟩=some u:=λj u hj=>by
  rw[B6,c0.cellAt j (by rw[<- J];exact (BP.1 hj).1)];exact hj
 have kB:n+m<=(n+m)*B:=Nat.le_mul_of_pos_right _ hB;have a5:n+m<=maxLen:=by unfold maxLen;omega
 obtain⟨O,hi⟩:=Option.isSome_iff_exists.1 q1;rw[hi]at q2 q3 q4;have hs:O.size=C:=by simpa using q2
 have hb:O.bytes=B:=by simpa using q3
 simp only[Option.bind_some,Option.map_eq_some_iff]at q4;obtain⟨z,hz,a1⟩:=q4;have c4:vb<w.heap.size:=(BU.1 b4).1;have b1:=r0;obtain⟨M,h0⟩:=r0;rcases h0 with ⟨rfl,h0⟩|⟨g,X,ad,mk,rfl,hg,b3,bn,b0,a2⟩
 ·subst h0;have:i=0:=by omega
  subst this;have hf:y=[]:=List.eq_nil_of_length_eq_zero (by simpa using M);subst hf;refine (ins_nil w O z hi hz hs hb a1 vb m vc I J r o2 hm (by omega) (by rw[B6]at Y;exact Y)).mono λe w' h=>?_
  obtain⟨v',e1,h1,h2,h3⟩:=h;exact⟨v',e1,by simpa using h1,h2,.inr h3⟩
 ·obtain⟨rfl,Z⟩:=bn.elim id (λh=>absurd h.1 (by omega));have cb:g<w.heap.size:=(BU.1 hg).1;have bl:vb≠g:=λh=>a6 g (by simp[BY]) (by simp[BY,h])
  have a4:∀ j u,y[j]?=some u->w.cell? ⟨g,j,none⟩=some u:=λj u hj=>by
   rw[b1.cellAt j (by rw[<- M];exact (BP.1 hj).1)];exact hj
  by_cases hn:i=n
  ·subst hn;refine (ins_end w g i X y O z hi hz hs hb a1 b1 b3 vb m vc I J r o2 hm a5 Y).mono λe w' h=>?_
   obtain⟨v',e1,h1,h2,h3⟩:=h;refine⟨v',e1,?_,h2,h3⟩;rw[List.take_of_length_le (by omega),List.drop_of_length_le (by omega),List.append_nil];exact h1
  ·by_cases R:n+m<=X
   ·refine (ins_shift w g n X i ad y O hi hs hg Z b0 a2 M o0 vb m vc b5 I b4 bl J r o2 hm (by omega) R).mono λe w' h=>?_
    obtain⟨e1,H,rfl,a0,a3⟩:=h;refine⟨_,e1,⟨?_,.inr ⟨g,X,H,_,rfl,setRow_heap w.drew g ad H E (0,0) hg,R,.inl ⟨rfl,Z⟩,by rw[a0];exact b0,a3⟩⟩,⟨rfl,rfl,rfl,by simp,λk _ hk=>setRow_other w.drew g k H (λh=>hk (by simp[BY,h]))⟩,.inl rfl⟩;simp only[BH,BI,BK,M,J];have:i*C<=n*C:=BG _ a9;omega
   ·refine (ins_grow w g n X i y O z hi hz hs hb a1 cb a4 M o0 vb m vc I c4 J r o2 hm (by omega) b3 (by omega) a5 Y).mono λe w' h=>?_
    obtain⟨G,c3,bx,e1,H,a0,a3,bb,cc,c2,ba,c1,hk⟩:=h;refine⟨_,e1,⟨?_,.inr ⟨w.heap.size,G,H,_,rfl,a0,c3,.inl ⟨rfl,bx⟩,a3,bb⟩⟩,⟨c2,ba,c1,by omega,λk b9 _=>hk k b9⟩,.inr rfl⟩;simp only[BH,BI,BK,M,J];have:i*C<=n*C:=BG _ a9;omega
end Go.Proofs.YtaegajachoklkabGreatEv
