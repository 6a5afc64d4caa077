/- slices.Insert: what its walk needs, for any element. -/
import Derived.Test.YtaegajachoklkaaGreatEvQ
import Derived.Test.YtaegajachoklkaaGreatE6
import Derived.Shelf.Spec.SlicesInsert
import Derived.Laws.CopyRow
import Derived.Lib.AppendZerosOnto
set_option linter.unusedVariables false
set_option maxRecDepth 100000
set_option linter.unusedVariables false
set_option linter.unusedSimpArgs false
open Array renaming length_toList->BQ,getElem?_eq_some_iff->BY
open Go.Addr renaming add_lit->BX
open Go.Builtin renaming copy_->BP,firstCells->B6,zeroCells->CB,append_->CC
open Go.IntKind renaming wrap_i64->BS
open Go.Value renaming ownBlock->B5
open Go.World renaming cell?->CE
open List renaming length_append->BL,length_take->BM,length_drop->BO,size_toArray->BR,getElem?_eq_some_iff->BT,append_assoc->BU,take_left'->BW,mem_of_mem_drop->B4,getElem?_take->B7,getElem?_drop->B8,take_take->CD
open Nat renaming mul_le_mul_right->BK,add_mul->BN,min_eq_left->BV,sub_mul->BZ,min_def->B3,min->B9,zero_add->CA
namespace Go.Proofs.YtaegajachoklkaaGreatEv
open Go Go.Proofs Go.Shelf Go.RowKit Go.Lib
theorem run_copy_rowN {P:Program}(w:World)(O R ty y:TypeId)(i:TypeInfo)(hi:P.info? y=some i)(g o r I:Nat)(a:Addr)(u z:Nat)(cur:Array Value)(t:TypeId)(cs:List Value)
  (hu:P.underlying O=some (.slice y)) (X:w.heap[g]?=some (.cells cur t (0,0))) (hn:cs.length=B9 u r*i.size)
  (H:∀ j v,cs[j]?=some v->w.cell? (a.add j)=some v) (J:o+cs.length<=cur.size) (Y:∀ v∈cs,v.oneCell'=true) :
  (BP #[O,R] ty #[.slice (some ⟨g,o,none⟩) r I,.slice (some a) u z]).run P w =
   .ok (goInt (B9 u r)) (w.setRow g (cur.toList.take o++cs++cur.toList.drop (o+cs.length)).toArray):=by
 have Z:=run_loadCells_list (P:=P) w a cs H;have M:=run_storeCells_at P g o t cs 0 cur w X (by simpa using J) Y;simp[BP,run_underlying hu,Builtin.lenOf,B6,sizeOf,typeInfo,hi,<- hn,Z,M]
def InsNil (P:Program)(F E C B:Nat):Prop :=
 ∀ (w:World) (i:TypeInfo) (z:Value) (hi:P.info? E=some i) (Y:i.zero=some z) (hs:i.size=C) (hb:i.bytes=B) (X:z.cells.size=C) (J m R:Nat) (r:List Value) (hl:r.length=m*C) (I:∀ j u,r[j]?=some u->w.cell? ⟨J,0+j,none⟩=some u) (h1:∀ u∈r,u.oneCell'=true) (Z:0<m) (O:m<=maxLen) (y:m*B<=140737488355328),
  Calls P F #[.slice none 0 0,.int .i64 0,.slice (some ⟨J,0,none⟩) m R] w λe M =>
   ∃ H,e=.returned H/\Row M E C H m r/\w.grownBy M none/\H.ownBlock=some w.heap.size
def InsEnd (P:Program)(F E C B:Nat):Prop :=
 ∀ (w:World) (g n H:Nat) (y:List Value) (i:TypeInfo) (z:Value) (hi:P.info? E=some i) (hz:i.zero=some z) (hs:i.size=C) (hb:i.bytes=B) (a0:z.cells.size=C) (X:Row w E C (.slice (some ⟨g,0,none⟩) n H) n y) (a1:n<=H) (O m Z:Nat) (r:List Value) (hl:r.length=m*C) (M:∀ j u,r[j]?=some u->w.cell? ⟨O,0+j,none⟩=some u) (h1:∀ u∈r,u.oneCell'=true) (hm:0<m) (Y:n+m<=maxLen) (J:(n+m)*B<=140737488355328),
  Calls P F #[.slice (some ⟨g,0,none⟩) n H,.int .i64 n,.slice (some ⟨O,0,none⟩) m Z] w λe R =>
   ∃ I,e=.returned I/\Row R E C I (n+m) (y++r)/\w.grownBy R (some g)/\(I.ownBlock=some g\/I.ownBlock=some w.heap.size)
def InsShift (P:Program)(F E C B:Nat):Prop :=
 ∀ (w:World) (g n z i:Nat) (I:Array Value) (r:List Value) (J:TypeInfo) (hi:P.info? E=some J) (hs:J.size=C) (hg:w.heap[g]?=some (.cells I E (0,0))) (a0:z<=maxLen) (a3:z*C<=I.size) (R:I.toList.take (n*C)=r) (a4:r.length=n*C) (a2:∀ u∈r,u.oneCell'=true) (O m vc:Nat) (M:Array Value) (y:List Value) (a5:w.heap[O]?=some (.cells M E (0,0))) (a1:O≠g) (hl:y.length=m*C) (X:∀ j u,y[j]?=some u->w.cell? ⟨O,0+j,none⟩=some u) (h1:∀ u∈y,u.oneCell'=true) (hm:0<m) (Z:i<n) (Y:n+m<=z),
  Calls P F #[.slice (some ⟨g,0,none⟩) n z,.int .i64 i,.slice (some ⟨O,0,none⟩) m vc] w λe w' =>
   e=.returned (.slice (some ⟨g,0,none⟩) (n+m) z)/\∃ H:Array Value,w'=w.drew.setRow g H/\H.size=I.size/\H.toList.take ((n+m)*C)=r.take (i*C)++y++r.drop (i*C)
def InsGrow (P:Program)(F E C B:Nat):Prop :=
 ∀ (w:World) (g n J i:Nat) (r:List Value) (I:TypeInfo) (z:Value) (hi:P.info? E=some I) (hz:I.zero=some z) (hs:I.size=C) (hb:I.bytes=B) (a3:z.cells.size=C) (a6:g<w.heap.size) (R:∀ j u,r[j]?=some u->w.cell? ⟨g,j,none⟩=some u) (a5:r.length=n*C) (a2:∀ u∈r,u.oneCell'=true) (X m vc:Nat) (y:List Value) (a9:X<w.heap.size) (hl:y.length=m*C) (Y:∀ j u,y[j]?=some u->w.cell? ⟨X,0+j,none⟩=some u) (h1:∀ u∈y,u.oneCell'=true) (hm:0<m) (a0:i<n) (a4:n<=J) (Z:J<n+m) (a1:n+m<=maxLen) (O:(n+m)*B<=140737488355328),
  Calls P F #[.slice (some ⟨g,0,none⟩) n J,.int .i64 i,.slice (some ⟨X,0,none⟩) m vc] w λe M =>
   ∃ G,n+m<=G/\G<=maxLen/\e=.returned (.slice (some ⟨w.heap.size,0,none⟩) (n+m) G)/\∃ H:Array Value,M.heap[w.heap.size]?=some (.cells H E (0,0))/\G*C<=H.size/\H.toList.take ((n+m)*C)=r.take (i*C)++y++r.drop (i*C) /\
    M.heap.size=w.heap.size+1/\M.os=w.os/\M.tape=w.tape/\M.output=w.output/\∀ k,k<w.heap.size->M.heap[k]?=w.heap[k]?
def ShiftGo (P:Program)(F S E C:Nat):Prop :=
 ∀ (w:World) (g n u i:Nat) (z:Array Value) (H:TypeInfo) (J m R:Nat) (I r y:Array Value),P.info? E=some H->H.size=C->w.heap[g]?=some (.cells z E (0,0))->w.heap[J]?=some (.cells I E (0,0))->J≠g->0<m->i<n->n+m<=u->z.size≠0 ->
  ¬ ((m:Int)=0)->¬ ((i:Int)=(n:Int))->u<=9223372036854775807->IntKind.i64.wrap ((i:Int)+(m:Int))=(i:Int)+(m:Int)->IntKind.i64.wrap ((n:Int)+(m:Int))=(n:Int)+(m:Int)->(0:Int)<=(i:Int)+(m:Int)->((i:Int)+(m:Int)).toNat=i+m->((n:Int)+(m:Int)).toNat=n+m->(i:Int)<=(n:Int)+(m:Int)->¬ (u=i+m)->i<=n->¬ (u=i) ->
  (∀ O M X,(BP #[S,S] O #[.slice (some ⟨g,(i+m)*C,none⟩) (n+m-(i+m)) M,.slice (some ⟨g,i*C,none⟩) (n+m-i) X]).run P w.drew=.ok (goInt (n-i:Nat)) (w.drew.setRow g r))->(∀ O M,(BP #[S,S] O #[.slice (some ⟨g,i*C,none⟩) (n+m-i) M,.slice (some ⟨J,0,none⟩) m R]).run P (w.drew.setRow g r)=.ok (goInt (m:Nat)) ((w.drew.setRow g r).setRow g y)) ->
  Calls P F #[.slice (some ⟨g,0,none⟩) n u,.int .i64 i,.slice (some ⟨J,0,none⟩) m R] w λe Y=>e=.returned (.slice (some ⟨g,0,none⟩) (n+m) u)/\Y=(w.drew.setRow g r).setRow g y
theorem shift_p {P:Program}{F S E C B:Nat}(t39:P.underlying S=some (.slice E))(hC:1<C)(go:ShiftGo P F S E C):InsShift P F E C B:=by
 intro w g n z i y u a2 hi hs hg b9 cp O a1 c4 vb m vc a4 I bx a3 hl a0 h1 hm b5 R;have k1:(n+m)*C=n*C+m*C:=BN ..;have k2:(i+m)*C=i*C+m*C:=BN ..;have k3:(n-i)*C=n*C-i*C:=BZ ..;have k4:i*C<=n*C:=BK _ (by omega);have c0:¬ ((m:Int)=0):=by omega
 have c2:¬ ((i:Int)=(n:Int)):=by omega
 have b1:z<=9223372036854775807:=by simp only[maxLen]at b9;omega
 have c3:IntKind.i64.wrap ((i:Int)+(m:Int))=(i:Int)+(m:Int):=by rw[BS];omega
 have cc:IntKind.i64.wrap ((n:Int)+(m:Int))=(n:Int)+(m:Int):=by rw[BS];omega
 have ba:(0:Int)<=(i:Int)+(m:Int):=by omega
 have cb:((i:Int)+(m:Int)).toNat=i+m:=by omega
 have a5:((n:Int)+(m:Int)).toNat=n+m:=by omega
 have bl:(i:Int)<=(n:Int)+(m:Int):=by omega
 have bn:¬ (z=i+m):=by omega
 have bb:i<=n:=by omega
 have c1:¬ (z=i):=by omega
 have X:(u.drop (i*C)).length=(n-i)*C:=by rw[BO,a1,<- BZ]
 have Z:∀ j,j<n*C->u[j]?=y[j]?:=λj hj=>by rw[<- O,B7,if_pos hj];exact Array.getElem?_toList ..
 have ad:B9 (n+m-i) (n+m-(i+m))=n-i:=by simp only[B3];split <;> omega
 have a9:B9 m (n+m-i)=m:=by simp only[B3];split <;> omega
 obtain⟨r,H⟩:∃ c:Array Value,c=(y.toList.take ((i+m)*C)++u.drop (i*C)++y.toList.drop ((i+m)*C+(u.drop (i*C)).length)).toArray:=⟨_,rfl⟩;have b4:(i+m)*C+(n-i)*C<=y.size:=by
  have:(n+m)*C<=z*C:=BK _ R;omega
 have b3:r.size=y.size:=by
  rw[H];simp only[BR,BL,BM,BO,BQ,a1];omega
 obtain⟨J,M⟩:∃ c:Array Value,c=(r.toList.take (i*C)++I++r.toList.drop (i*C+I.length)).toArray:=⟨_,rfl⟩;have b2:∀ ty dc sc,(BP #[S,S] ty #[.slice (some ⟨g,(i+m)*C,none⟩) (n+m-(i+m)) dc,.slice (some ⟨g,i*C,none⟩) (n+m-i) sc]).run P w.drew=.ok (goInt (n-i:Nat)) (w.drew.setRow g r):=λty dc sc=>by
  have:=run_copy_rowN (P:=P) w.drew S S ty E a2 hi g ((i+m)*C) (n+m-(i+m)) dc ⟨g,i*C,none⟩ (n+m-i) sc y E (u.drop (i*C)) t39 hg (by rw[X,ad,hs])
   (λj v hj=>by
    rw[BX];have a6:=(BT.1 hj).1;rw[X]at a6;rw[B8]at hj;rw[show w.drew.cell? ⟨g,i*C+j,none⟩=w.cell? ⟨g,i*C+j,none⟩ from rfl,cell_of_row w g _ y E (0,0) hg,<- Z _ (by rw[BZ]at a6;omega)];exact hj)
   (by rw[X];exact b4) (λv hv=>c4 v (B4 hv))
  rw[ad,<- H]at this;exact this
 have b0:∀ ty dc,(BP #[S,S] ty #[.slice (some ⟨g,i*C,none⟩) (n+m-i) dc,.slice (some ⟨vb,0,none⟩) m vc]).run P (w.drew.setRow g r)=.ok (goInt (m:Nat)) ((w.drew.setRow g r).setRow g J):=λty dc=>by
  have:=run_copy_rowN (P:=P) (w.drew.setRow g r) S S ty E a2 hi g (i*C) (n+m-i) dc ⟨vb,0,none⟩ m vc r E I t39 (setRow_heap w.drew g y r E (0,0) hg) (by rw[hl,a9,hs])
   (λj v hj=>by
    rw[BX,cell_setRow_other _ _ _ _ a3];exact a0 j v hj)
   (by rw[hl,b3,<- BN];have:(i+m)*C<=z*C:=BK _ (by omega);omega) h1
  rw[a9,<- M]at this;exact this
 have Y:J.size=y.size/\J.toList.take ((n+m)*C)=u.take (i*C)++I++u.drop (i*C):=by
  refine⟨?_,?_⟩
  ·rw[M];simp only[BR,BL,BM,BO,BQ,hl,b3];have:(i+m)*C<=z*C:=BK _ (by omega);omega
  ·have ha:r.toList.take (i*C)=u.take (i*C):=by
    rw[H,<- O,CD,BV (BK _ (by omega)),BU];simp only[List.take_append_of_le_length (show i*C<=(y.toList.take ((i+m)*C)).length by simp only[BM,BQ];have:(i+m)*C<=z*C:=BK _ (by omega);omega),CD];rw[BV (by omega)]
   have hb:r.toList.drop (i*C+I.length)=u.drop (i*C)++y.toList.drop ((i+m)*C+(u.drop (i*C)).length):=by
    rw[H,hl,<- BN,BU];exact List.drop_left' (by simp only[BM,BQ];have:(i+m)*C<=z*C:=BK _ (by omega);omega)
   rw[M,ha,hb];simp only[<- BU];exact BW (by simp only[BL,BM,a1,hl,X];rw[BV (BK _ (by omega))];omega)
 have k5:1*C<=z*C:=BK _ (by omega);refine (go w g n z i y a2 vb m vc a4 r J hi hs hg bx a3 hm b5 R (by omega) c0 c2 b1 c3 cc ba cb a5 bl bn bb c1 b2 b0).mono λe w' h=>?_
 exact⟨h.1,J,h.2.trans (setRow_setRow _ _ _ _),Y.1,Y.2⟩
def GrowGo (P:Program)(F S E C:Nat):Prop :=
 ∀ (w:World) (g n u i:Nat) (J m I G:Nat) (ROW r y:Array Value),0<m->i<n->n<=u->u<n+m->n+m<=G ->
  ¬ ((m:Int)=0)->¬ ((i:Int)=(n:Int))->(u:Int)<(n:Int)+(m:Int)->n+m<=9223372036854775807->G<=9223372036854775807->¬ (G=i)->¬ (G=i+m)->¬ (u=i)->IntKind.i64.wrap ((i:Int)+(m:Int))=(i:Int)+(m:Int)->IntKind.i64.wrap ((n:Int)+(m:Int))=(n:Int)+(m:Int)->IntKind.i64.wrap ((n:Int)+(m:Int)-(i:Int))=(n:Int)+(m:Int)-(i:Int)->(0:Int)<=(i:Int)+(m:Int)->i<=n->((i:Int)+(m:Int)).toNat=i+m->(i:Int)<=(n:Int) ->
  (∀ z,(CC #[S,3] z #[.slice (some ⟨g,0,none⟩) i u,.int .i64 ((n:Int)+(m:Int)-(i:Int))]).run P w =
   .ok (.slice (some ⟨w.heap.size,0,none⟩) (n+m) G) (w.drew.alloc (.cells ROW E)))->(∀ z H,(BP #[S,S] z #[.slice (some ⟨w.heap.size,i*C,none⟩) (n+m-i) H,.slice (some ⟨J,0,none⟩) m I]).run P ((w.alloc (.cells ROW E)).drew)=.ok (goInt (m:Nat)) (((w.alloc (.cells ROW E)).drew).setRow w.heap.size r))->(∀ z H M,(BP #[S,S] z #[.slice (some ⟨w.heap.size,(i+m)*C,none⟩) (n+m-(i+m)) H,.slice (some ⟨g,i*C,none⟩) (n-i) M]).run P (((w.alloc (.cells ROW E)).drew.setRow w.heap.size r).drew)=.ok (goInt (n-i:Nat)) ((((w.alloc (.cells ROW E)).drew.setRow w.heap.size r).drew).setRow w.heap.size y)) ->
  Calls P F #[.slice (some ⟨g,0,none⟩) n u,.int .i64 i,.slice (some ⟨J,0,none⟩) m I] w λe O=>e=.returned (.slice (some ⟨w.heap.size,0,none⟩) (n+m) G)/\O=((((w.alloc (.cells ROW E)).drew.setRow w.heap.size r).drew).setRow w.heap.size y)
theorem grow_p {P:Program}{F S E C B:Nat}(t39:P.underlying S=some (.slice E))(t3:P.underlying 3=some (.int .i64))(hC:1<C)(go:GrowGo P F S E C):InsGrow P F E C B:=by
 intro w g n H i r a3 z hi hz hs hb cp e6 Y a9 e5 vb m vc y e4 hl a6 h1 hm cb e0 a0 ad a1;have k1:(n+m)*C=n*C+m*C:=BN ..;have k2:(i+m)*C=i*C+m*C:=BN ..;have k3:(n-i)*C=n*C-i*C:=BZ ..;have k4:i*C<=n*C:=BK _ (by omega);have d3:¬ ((m:Int)=0):=by omega
 have dd:¬ ((i:Int)=(n:Int)):=by omega
 have eb:(H:Int)<(n:Int)+(m:Int):=by omega
 have b1:n+m<=9223372036854775807:=by simp only[maxLen]at ad;omega
 have d4:(n:Int)+(m:Int)-(i:Int)=((n+m-i:Nat):Int):=by omega
 have b5:i+(n+m-i)=n+m:=by omega
 have cc:i*C<=n*C:=BK _ (by omega);have X:(r.take (i*C)).length=i*C:=by rw[BM,a9];exact BV cc
 have c0:(B6 a3.size i (.slice (some ⟨g,0,none⟩) i H)).run P w.drew=.ok (r.take (i*C)).toArray w.drew:=by
  rw[hs];exact run_firstCells_some w.drew C i ⟨g,0,none⟩ i H (r.take (i*C)) X (λj v hj=>by
   rw[BX,CA];rw[B7]at hj;split at hj
   ·exact Y j v hj
   ·cases hj)
 obtain⟨G,hG⟩:∃ G,G=grownCap w (n+m) H E:=⟨_,rfl⟩;obtain⟨ROW,Z⟩:∃ ROW:Array Value,ROW=(r.take (i*C)).toArray++CB z.cells (n+m-i)++CB z.cells (G-(n+m)):=⟨_,rfl⟩;have e3:∀ R,(CC #[S,3] R #[.slice (some ⟨g,0,none⟩) i H,.int .i64 ((n:Int)+(m:Int)-(i:Int))]).run P w =
   .ok (.slice (some ⟨w.heap.size,0,none⟩) (n+m) G) (w.drew.alloc (.cells ROW E)):=λR=>by
  have h:=Lib.run_append_grow_zeros w S 3 R E a3 z .i64 .i64 t39 t3 hi hz (some ⟨g,0,none⟩) i H (r.take (i*C)) c0 (n+m-i) (by omega) (by omega) (by omega) (by omega)
   (by rw[hb];have:(n+m-i)*B<=(n+m)*B:=BK _ (by omega);omega) (by rw[hb,b5];exact growslice_fits a0 a1)
  rw[b5,<- hG,<- Z]at h;rw[d4];exact h
 have a4:n+m<=G:=by rw[hG];exact grownCap_ge w _ _ _
 have b9:G<=maxLen:=by rw[hG];exact grownCap_le_maxLen w (n+m) H E ad
 have b3:G<=9223372036854775807:=by unfold maxLen at b9;omega
 have O:ROW.size=G*C:=by
  rw[Z];simp only[Array.size_append,BR,size_zeroCells,cp,X,<- BN];rw[show i+(n+m-i)+(G-(n+m))=G by omega]
 obtain⟨u,M⟩:∃ c:Array Value,c=(ROW.toList.take (i*C)++y++ROW.toList.drop (i*C+y.length)).toArray:=⟨_,rfl⟩;obtain⟨I,J⟩:∃ c:Array Value,c=(u.toList.take ((i+m)*C)++r.drop (i*C)++u.toList.drop ((i+m)*C+(r.drop (i*C)).length)).toArray:=⟨_,rfl⟩;have ed:(n+m)*C<=G*C:=BK _ a4;have a5:(r.drop (i*C)).length=(n-i)*C:=by rw[BO,a9,<- BZ]
 have c2:u.size=ROW.size:=by
  rw[M];simp only[BR,BL,BM,BO,BQ,hl,O];omega
 have cx:I.size=ROW.size:=by
  rw[J];simp only[BR,BL,BM,BO,BQ,a9,c2,O];omega
 have a2:ROW.toList.take (i*C)=r.take (i*C):=by
  rw[Z];simp only[Array.toList_append,BU];exact BW X
 have bn:I.toList.take ((n+m)*C)=r.take (i*C)++y++r.drop (i*C):=by
  have e1:u.toList.take ((i+m)*C)=r.take (i*C)++y:=by
   rw[M,a2];show List.take ((i+m)*C) (r.take (i*C)++y++ROW.toList.drop (i*C+y.length))=_;exact BW (by rw[BL,X,hl,<- BN])
  rw[J,e1];show List.take ((n+m)*C) (r.take (i*C)++y++r.drop (i*C)++_)=_;exact BW (by rw[BL,BL,X,hl,a5,<- BN,<- BN,show i+m+(n-i)=n+m by omega])
 have ba:B9 m (n+m-i)=m:=by simp only[B3];split <;> omega
 have b4:B9 (n-i) (n+m-(i+m))=n-i:=by simp only[B3];split <;> omega
 have c1:∀ (W:World),W.heap[w.heap.size]?=some (.cells ROW E (0,0))->(∀ k,k<w.heap.size->W.heap[k]?=w.heap[k]?)->∀ R dc,(BP #[S,S] R #[.slice (some ⟨w.heap.size,i*C,none⟩) (n+m-i) dc,.slice (some ⟨vb,0,none⟩) m vc]).run P W=.ok (goInt (m:Nat)) (W.setRow w.heap.size u):=λW hW hk R dc=>by
  have:=run_copy_rowN (P:=P) W S S R E a3 hi w.heap.size (i*C) (n+m-i) dc ⟨vb,0,none⟩ m vc ROW E y t39 hW (by rw[hl,ba,hs])
   (λj v hj=>by
    rw[BX];have:=a6 j v hj;unfold CE at this ⊢;rw[hk vb e4];exact this)
   (by rw[hl,O,<- BN];exact BK _ (by omega)) h1
  rw[ba,<- M]at this;exact this
 have b2:∀ (W:World),W.heap[w.heap.size]?=some (.cells u E (0,0))->(∀ k,k<w.heap.size->W.heap[k]?=w.heap[k]?)->∀ R dc sc,(BP #[S,S] R #[.slice (some ⟨w.heap.size,(i+m)*C,none⟩) (n+m-(i+m)) dc,.slice (some ⟨g,i*C,none⟩) (n-i) sc]).run P W=.ok (goInt (n-i:Nat)) (W.setRow w.heap.size I):=λW hW hk R dc sc=>by
  have:=run_copy_rowN (P:=P) W S S R E a3 hi w.heap.size ((i+m)*C) (n+m-(i+m)) dc ⟨g,i*C,none⟩ (n-i) sc u E (r.drop (i*C)) t39 hW (by rw[a5,b4,hs])
   (λj v hj=>by
    rw[BX];rw[B8]at hj;have:=Y _ v hj;unfold CE at this ⊢;rw[hk g e6];exact this)
   (by rw[a5,c2,O,<- BN];exact BK _ (by omega)) (λv hv=>e5 v (B4 hv))
  rw[b4,<- J]at this;exact this
 have b0:((w.alloc (.cells ROW E)).drew).heap[w.heap.size]?=some (.cells ROW E (0,0)):=heap_alloc_new w _;have bb:∀ k,k<w.heap.size->((w.alloc (.cells ROW E)).drew).heap[k]?=w.heap[k]?:=λk hk=>Go.heap_alloc_old w _ hk
 have c4:(((w.alloc (.cells ROW E)).drew.setRow w.heap.size u).drew).heap[w.heap.size]?=some (.cells u E (0,0)):=setRow_heap (w.alloc (.cells ROW E)).drew w.heap.size ROW u E (0,0) b0;have bl:∀ k,k<w.heap.size->(((w.alloc (.cells ROW E)).drew.setRow w.heap.size u).drew).heap[k]?=w.heap[k]?:=λk hk=>(setRow_other (w.alloc (.cells ROW E)).drew w.heap.size k u (by omega)).trans (bb k hk)
 have cu:¬ (G=i):=by omega
 have c3:¬ (G=i+m):=by omega
 have cy:¬ (H=i):=by omega
 have e2:IntKind.i64.wrap ((i:Int)+(m:Int))=(i:Int)+(m:Int):=by rw[BS];omega
 have ec:IntKind.i64.wrap ((n:Int)+(m:Int))=(n:Int)+(m:Int):=by rw[BS];omega
 have d2:IntKind.i64.wrap ((n:Int)+(m:Int)-(i:Int))=(n:Int)+(m:Int)-(i:Int):=by rw[BS];omega
 have cw:(0:Int)<=(i:Int)+(m:Int):=by omega
 have bx:i<=n:=by omega
 have e7:((i:Int)+(m:Int)).toNat=i+m:=by omega
 have d1:(i:Int)<=(n:Int):=by omega
 refine (go w g n H i vb m vc G ROW u I hm cb e0 a0 a4 d3 dd eb b1 b3 cu c3 cy e2 ec d2 cw bx e7 d1 e3 (c1 _ b0 bb) (b2 _ c4 bl)).mono λe w' h=>?_
 obtain⟨h1,rfl⟩:=h;exact⟨G,a4,b9,h1,I,setRow_heap _ _ _ _ _ _ c4,by rw[cx,O];exact Nat.le_refl _,bn,by simp,rfl,rfl,rfl,λk hk=>(setRow_other _ _ _ _ (by omega)).trans (bl k hk)⟩
theorem ins_walk {P:Program}{F E C B:Nat}(q1:(P.info? E).isSome=true)(q2:(P.info? E).map (λi=>i.size)=some C)(q3:(P.info? E).map (λi=>i.bytes)=some B)(q4:((P.info? E).bind λi=>i.zero).map (λz=>z.cells.size)=some C)
  (hC:1<C) (hB:0<B) (ins_nil:InsNil P F E C B) (ins_end:InsEnd P F E C B) (ins_shift:InsShift P F E C B) (ins_grow:InsGrow P F E C B):lS P F E C B:=by
 intro w v0 v2 n m i H y r0 r2 o0 o2 hm a5 b4 Y;have k1:(n+m)*C=n*C+m*C:=BN ..;have c4:=r2;obtain⟨J,h2⟩:=r2;rcases h2 with ⟨_,h⟩|⟨vb,vc,ad,mk,rfl,b0,cw,b3,cc,cu⟩
 ·omega
 obtain⟨rfl,_⟩:=b3.elim id (λh=>absurd h.1 (by omega));have r:∀ j u,y[j]?=some u->w.cell? ⟨vb,0+j,none⟩=some u:=λj u hj=>by
  rw[CA,c4.cellAt j (by rw[<- J];exact (BT.1 hj).1)];exact hj
 have kB:n+m<=(n+m)*B:=Nat.le_mul_of_pos_right _ hB;have a6:n+m<=maxLen:=by unfold maxLen;omega
 obtain⟨O,hi⟩:=Option.isSome_iff_exists.1 q1;rw[hi]at q2 q3 q4;have hs:O.size=C:=by simpa using q2
 have hb:O.bytes=B:=by simpa using q3
 simp only[Option.bind_some,Option.map_eq_some_iff]at q4;obtain⟨z,hz,a0⟩:=q4;have c2:vb<w.heap.size:=(BY.1 b0).1;have b5:=r0;obtain⟨M,h0⟩:=r0;rcases h0 with ⟨rfl,h0⟩|⟨g,R,b1,mk,rfl,hg,b2,b9,a9,a3⟩
 ·subst h0;have:i=0:=by omega
  subst this;have hf:H=[]:=List.eq_nil_of_length_eq_zero (by simpa using M);subst hf;refine (ins_nil w O z hi hz hs hb a0 vb m vc y J r o2 hm (by omega) (by rw[CA]at Y;exact Y)).mono λe w' h=>?_
  obtain⟨v',e1,h1,h2,h3⟩:=h;exact⟨v',e1,by simpa using h1,h2,.inr h3⟩
 ·obtain⟨rfl,Z⟩:=b9.elim id (λh=>absurd h.1 (by omega));have c3:g<w.heap.size:=(BY.1 hg).1;have ba:vb≠g:=λh=>b4 g (by simp[B5]) (by simp[B5,h])
  have a1:∀ j u,H[j]?=some u->w.cell? ⟨g,j,none⟩=some u:=λj u hj=>by
   rw[b5.cellAt j (by rw[<- M];exact (BT.1 hj).1)];exact hj
  by_cases hn:i=n
  ·subst hn;refine (ins_end w g i R H O z hi hz hs hb a0 b5 b2 vb m vc y J r o2 hm a6 Y).mono λe w' h=>?_
   obtain⟨v',e1,h1,h2,h3⟩:=h;refine⟨v',e1,?_,h2,h3⟩;rw[List.take_of_length_le (by omega),List.drop_of_length_le (by omega),List.append_nil];exact h1
  ·by_cases X:n+m<=R
   ·refine (ins_shift w g n R i b1 H O hi hs hg Z a9 a3 M o0 vb m vc ad y b0 ba J r o2 hm (by omega) X).mono λe w' h=>?_
    obtain⟨e1,I,rfl,a4,a2⟩:=h;refine⟨_,e1,⟨?_,.inr ⟨g,R,I,_,rfl,setRow_heap w.drew g b1 I E (0,0) hg,X,.inl ⟨rfl,Z⟩,by rw[a4];exact a9,a2⟩⟩,⟨rfl,rfl,rfl,by simp,λk _ hk=>setRow_other w.drew g k I (λh=>hk (by simp[B5,h]))⟩,.inl rfl⟩;simp only[BL,BM,BO,M,J];have:i*C<=n*C:=BK _ a5;omega
   ·refine (ins_grow w g n R i H O z hi hz hs hb a0 c3 a1 M o0 vb m vc y c2 J r o2 hm (by omega) b2 (by omega) a6 Y).mono λe w' h=>?_
    obtain⟨G,bb,bl,e1,I,a4,a2,c1,cp,bx,c0,cb,hk⟩:=h;refine⟨_,e1,⟨?_,.inr ⟨w.heap.size,G,I,_,rfl,a4,bb,.inl ⟨rfl,bl⟩,a2,c1⟩⟩,⟨bx,c0,cb,by omega,λk bn _=>hk k bn⟩,.inr rfl⟩;simp only[BL,BM,BO,M,J];have:i*C<=n*C:=BK _ a5;omega
end Go.Proofs.YtaegajachoklkaaGreatEv
