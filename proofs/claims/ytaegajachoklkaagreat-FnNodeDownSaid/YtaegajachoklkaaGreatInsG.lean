/- slices.Insert: what its walk needs, for any element. -/
import Derived.Test.YtaegajachoklkaaGreatEvQ
import Derived.Test.YtaegajachoklkaaGreatE6
import Derived.Shelf.Spec.SlicesInsert
import Derived.Laws.CopyRow
import Derived.Lib.AppendZerosOnto
set_option linter.unusedVariables false
set_option maxRecDepth 100000
set_option linter.unusedVariables false
set_option linter.unusedSimpArgs false
open Array renaming length_toList->AZ,getElem?_eq_some_iff->BH
open Go.Addr renaming add_lit->BG
open Go.Builtin renaming copy_->AY,firstCells->BM,zeroCells->BR,append_->BS
open Go.IntKind renaming wrap_i64->BB
open Go.Value renaming ownBlock->BL
open Go.World renaming cell?->BU
open List renaming length_append->AU,length_take->AV,length_drop->AX,size_toArray->BA,getElem?_eq_some_iff->BC,append_assoc->BD,take_left'->BF,mem_of_mem_drop->BK,getElem?_take->BN,getElem?_drop->BO,take_take->BT
open Nat renaming mul_le_mul_right->AT,add_mul->AW,min_eq_left->BE,sub_mul->BI,min_def->BJ,min->BP,zero_add->BQ
namespace Go.Proofs.YtaegajachoklkaaGreatEv
open Go Go.Proofs Go.Shelf Go.RowKit Go.Lib
theorem run_copy_rowN {P:Program}(w:World)(O Z ty y:TypeId)(i:TypeInfo)(hi:P.info? y=some i)(g o u J:Nat)(a:Addr)(r H:Nat)(cur:Array Value)(t:TypeId)(cs:List Value)
  (hu:P.underlying O=some (.slice y)) (Y:w.heap[g]?=some (.cells cur t (0,0))) (R:cs.length=BP r u*i.size)
  (z:∀ j v,cs[j]?=some v->w.cell? (a.add j)=some v) (I:o+cs.length<=cur.size) (X:∀ v∈cs,v.oneCell'=true) :
  (AY #[O,Z] ty #[.slice (some ⟨g,o,none⟩) u J,.slice (some a) r H]).run P w =
   .ok (goInt (BP r u)) (w.setRow g (cur.toList.take o++cs++cur.toList.drop (o+cs.length)).toArray):=by
 have hl:=run_loadCells_list (P:=P) w a cs z;have M:=run_storeCells_at P g o t cs 0 cur w Y (by simpa using I) X;simp[AY,run_underlying hu,Builtin.lenOf,BM,sizeOf,typeInfo,hi,<- R,hl,M]
def InsNil (P:Program)(F E C B:Nat):Prop :=
 ∀ (w:World) (i:TypeInfo) (z:Value) (hi:P.info? E=some i) (Z:i.zero=some z) (hs:i.size=C) (hb:i.bytes=B) (X:z.cells.size=C) (M m R:Nat) (r:List Value) (hl:r.length=m*C) (H:∀ j u,r[j]?=some u->w.cell? ⟨M,0+j,none⟩=some u) (h1:∀ u∈r,u.oneCell'=true) (Y:0<m) (O:m<=maxLen) (y:m*B<=140737488355328),
  Calls P F #[.slice none 0 0,.int .i64 0,.slice (some ⟨M,0,none⟩) m R] w λe J =>
   ∃ I,e=.returned I/\Row J E C I m r/\w.grownBy J none/\I.ownBlock=some w.heap.size
def InsEnd (P:Program)(F E C B:Nat):Prop :=
 ∀ (w:World) (g n H:Nat) (y:List Value) (i:TypeInfo) (z:Value) (hi:P.info? E=some i) (hz:i.zero=some z) (hs:i.size=C) (hb:i.bytes=B) (a0:z.cells.size=C) (R:Row w E C (.slice (some ⟨g,0,none⟩) n H) n y) (Y:n<=H) (X m vc:Nat) (r:List Value) (hl:r.length=m*C) (M:∀ j u,r[j]?=some u->w.cell? ⟨X,0+j,none⟩=some u) (h1:∀ u∈r,u.oneCell'=true) (hm:0<m) (Z:n+m<=maxLen) (J:(n+m)*B<=140737488355328),
  Calls P F #[.slice (some ⟨g,0,none⟩) n H,.int .i64 n,.slice (some ⟨X,0,none⟩) m vc] w λe O =>
   ∃ I,e=.returned I/\Row O E C I (n+m) (y++r)/\w.grownBy O (some g)/\(I.ownBlock=some g\/I.ownBlock=some w.heap.size)
def InsShift (P:Program)(F E C B:Nat):Prop :=
 ∀ (w:World) (g n z i:Nat) (I:Array Value) (r:List Value) (J:TypeInfo) (hi:P.info? E=some J) (hs:J.size=C) (hg:w.heap[g]?=some (.cells I E (0,0))) (a4:z<=maxLen) (a2:z*C<=I.size) (Y:I.toList.take (n*C)=r) (a0:r.length=n*C) (a1:∀ u∈r,u.oneCell'=true) (O m vc:Nat) (M:Array Value) (y:List Value) (a3:w.heap[O]?=some (.cells M E (0,0))) (a5:O≠g) (hl:y.length=m*C) (R:∀ j u,y[j]?=some u->w.cell? ⟨O,0+j,none⟩=some u) (h1:∀ u∈y,u.oneCell'=true) (hm:0<m) (a6:i<n) (X:n+m<=z),
  Calls P F #[.slice (some ⟨g,0,none⟩) n z,.int .i64 i,.slice (some ⟨O,0,none⟩) m vc] w λe Z =>
   e=.returned (.slice (some ⟨g,0,none⟩) (n+m) z)/\∃ H:Array Value,Z=w.drew.setRow g H/\H.size=I.size/\H.toList.take ((n+m)*C)=r.take (i*C)++y++r.drop (i*C)
def InsGrow (P:Program)(F E C B:Nat):Prop :=
 ∀ (w:World) (g n J i:Nat) (r:List Value) (I:TypeInfo) (z:Value) (hi:P.info? E=some I) (hz:I.zero=some z) (hs:I.size=C) (hb:I.bytes=B) (a6:z.cells.size=C) (a0:g<w.heap.size) (R:∀ j u,r[j]?=some u->w.cell? ⟨g,j,none⟩=some u) (a1:r.length=n*C) (a4:∀ u∈r,u.oneCell'=true) (Z m vc:Nat) (y:List Value) (a5:Z<w.heap.size) (hl:y.length=m*C) (X:∀ j u,y[j]?=some u->w.cell? ⟨Z,0+j,none⟩=some u) (h1:∀ u∈y,u.oneCell'=true) (hm:0<m) (a9:i<n) (a2:n<=J) (Y:J<n+m) (a3:n+m<=maxLen) (O:(n+m)*B<=140737488355328),
  Calls P F #[.slice (some ⟨g,0,none⟩) n J,.int .i64 i,.slice (some ⟨Z,0,none⟩) m vc] w λe M =>
   ∃ G,n+m<=G/\G<=maxLen/\e=.returned (.slice (some ⟨w.heap.size,0,none⟩) (n+m) G)/\∃ H:Array Value,M.heap[w.heap.size]?=some (.cells H E (0,0))/\G*C<=H.size/\H.toList.take ((n+m)*C)=r.take (i*C)++y++r.drop (i*C) /\
    M.heap.size=w.heap.size+1/\M.os=w.os/\M.tape=w.tape/\M.output=w.output/\∀ k,k<w.heap.size->M.heap[k]?=w.heap[k]?
def ShiftGo (P:Program)(F S E C:Nat):Prop :=
 ∀ (w:World) (g n u i:Nat) (I:Array Value) (z:TypeInfo) (J m R:Nat) (H r y:Array Value),P.info? E=some z->z.size=C->w.heap[g]?=some (.cells I E (0,0))->w.heap[J]?=some (.cells H E (0,0))->J≠g->0<m->i<n->n+m<=u->I.size≠0 ->
  ¬ ((m:Int)=0)->¬ ((i:Int)=(n:Int))->u<=9223372036854775807->IntKind.i64.wrap ((i:Int)+(m:Int))=(i:Int)+(m:Int)->IntKind.i64.wrap ((n:Int)+(m:Int))=(n:Int)+(m:Int)->(0:Int)<=(i:Int)+(m:Int)->((i:Int)+(m:Int)).toNat=i+m->((n:Int)+(m:Int)).toNat=n+m->(i:Int)<=(n:Int)+(m:Int)->¬ (u=i+m)->i<=n->¬ (u=i) ->
  (∀ O M Y,(AY #[S,S] O #[.slice (some ⟨g,(i+m)*C,none⟩) (n+m-(i+m)) M,.slice (some ⟨g,i*C,none⟩) (n+m-i) Y]).run P w.drew=.ok (goInt (n-i:Nat)) (w.drew.setRow g r))->(∀ O M,(AY #[S,S] O #[.slice (some ⟨g,i*C,none⟩) (n+m-i) M,.slice (some ⟨J,0,none⟩) m R]).run P (w.drew.setRow g r)=.ok (goInt (m:Nat)) ((w.drew.setRow g r).setRow g y)) ->
  Calls P F #[.slice (some ⟨g,0,none⟩) n u,.int .i64 i,.slice (some ⟨J,0,none⟩) m R] w λe X=>e=.returned (.slice (some ⟨g,0,none⟩) (n+m) u)/\X=(w.drew.setRow g r).setRow g y
theorem shift_p {P:Program}{F S E C B:Nat}(t39:P.underlying S=some (.slice E))(hC:0<C)(go:ShiftGo P F S E C):InsShift P F E C B:=by
 intro w g n z i y u Z hi hs hg ba cb R a0 c1 vb m vc a4 J b9 b2 hl a1 h1 hm c2 O;have k1:(n+m)*C=n*C+m*C:=AW ..;have k2:(i+m)*C=i*C+m*C:=AW ..;have k3:(n-i)*C=n*C-i*C:=BI ..;have k4:i*C<=n*C:=AT _ (by omega);have c0:¬ ((m:Int)=0):=by omega
 have c4:¬ ((i:Int)=(n:Int)):=by omega
 have a9:z<=9223372036854775807:=by simp only[maxLen]at ba;omega
 have bn:IntKind.i64.wrap ((i:Int)+(m:Int))=(i:Int)+(m:Int):=by rw[BB];omega
 have bx:IntKind.i64.wrap ((n:Int)+(m:Int))=(n:Int)+(m:Int):=by rw[BB];omega
 have c6:(0:Int)<=(i:Int)+(m:Int):=by omega
 have c3:((i:Int)+(m:Int)).toNat=i+m:=by omega
 have a3:((n:Int)+(m:Int)).toNat=n+m:=by omega
 have c5:(i:Int)<=(n:Int)+(m:Int):=by omega
 have bb:¬ (z=i+m):=by omega
 have b5:i<=n:=by omega
 have bl:¬ (z=i):=by omega
 have X:(u.drop (i*C)).length=(n-i)*C:=by rw[AX,a0,<- BI]
 have a2:∀ j,j<n*C->u[j]?=y[j]?:=λj hj=>by rw[<- R,BN,if_pos hj];exact Array.getElem?_toList ..
 have b1:BP (n+m-i) (n+m-(i+m))=n-i:=by simp only[BJ];split <;> omega
 have b0:BP m (n+m-i)=m:=by simp only[BJ];split <;> omega
 obtain⟨r,H⟩:∃ c:Array Value,c=(y.toList.take ((i+m)*C)++u.drop (i*C)++y.toList.drop ((i+m)*C+(u.drop (i*C)).length)).toArray:=⟨_,rfl⟩;have b4:(i+m)*C+(n-i)*C<=y.size:=by
  have:(n+m)*C<=z*C:=AT _ O;omega
 have a5:r.size=y.size:=by
  rw[H];simp only[BA,AU,AV,AX,AZ,a0];omega
 obtain⟨I,M⟩:∃ c:Array Value,c=(r.toList.take (i*C)++J++r.toList.drop (i*C+J.length)).toArray:=⟨_,rfl⟩;have b3:∀ ty dc sc,(AY #[S,S] ty #[.slice (some ⟨g,(i+m)*C,none⟩) (n+m-(i+m)) dc,.slice (some ⟨g,i*C,none⟩) (n+m-i) sc]).run P w.drew=.ok (goInt (n-i:Nat)) (w.drew.setRow g r):=λty dc sc=>by
  have:=run_copy_rowN (P:=P) w.drew S S ty E Z hi g ((i+m)*C) (n+m-(i+m)) dc ⟨g,i*C,none⟩ (n+m-i) sc y E (u.drop (i*C)) t39 hg (by rw[X,b1,hs])
   (λj v hj=>by
    rw[BG];have ad:=(BC.1 hj).1;rw[X]at ad;rw[BO]at hj;rw[show w.drew.cell? ⟨g,i*C+j,none⟩=w.cell? ⟨g,i*C+j,none⟩ from rfl,cell_of_row w g _ y E (0,0) hg,<- a2 _ (by rw[BI]at ad;omega)];exact hj)
   (by rw[X];exact b4) (λv hv=>c1 v (BK hv))
  rw[b1,<- H]at this;exact this
 have a6:∀ ty dc,(AY #[S,S] ty #[.slice (some ⟨g,i*C,none⟩) (n+m-i) dc,.slice (some ⟨vb,0,none⟩) m vc]).run P (w.drew.setRow g r)=.ok (goInt (m:Nat)) ((w.drew.setRow g r).setRow g I):=λty dc=>by
  have:=run_copy_rowN (P:=P) (w.drew.setRow g r) S S ty E Z hi g (i*C) (n+m-i) dc ⟨vb,0,none⟩ m vc r E J t39 (setRow_heap w.drew g y r E (0,0) hg) (by rw[hl,b0,hs])
   (λj v hj=>by
    rw[BG,cell_setRow_other _ _ _ _ b2];exact a1 j v hj)
   (by rw[hl,a5,<- AW];have:(i+m)*C<=z*C:=AT _ (by omega);omega) h1
  rw[b0,<- M]at this;exact this
 have Y:I.size=y.size/\I.toList.take ((n+m)*C)=u.take (i*C)++J++u.drop (i*C):=by
  refine⟨?_,?_⟩
  ·rw[M];simp only[BA,AU,AV,AX,AZ,hl,a5];have:(i+m)*C<=z*C:=AT _ (by omega);omega
  ·have ha:r.toList.take (i*C)=u.take (i*C):=by
    rw[H,<- R,BT,BE (AT _ (by omega)),BD];simp only[List.take_append_of_le_length (show i*C<=(y.toList.take ((i+m)*C)).length by simp only[AV,AZ];have:(i+m)*C<=z*C:=AT _ (by omega);omega),BT];rw[BE (by omega)]
   have hb:r.toList.drop (i*C+J.length)=u.drop (i*C)++y.toList.drop ((i+m)*C+(u.drop (i*C)).length):=by
    rw[H,hl,<- AW,BD];exact List.drop_left' (by simp only[AV,AZ];have:(i+m)*C<=z*C:=AT _ (by omega);omega)
   rw[M,ha,hb];simp only[<- BD];exact BF (by simp only[AU,AV,a0,hl,X];rw[BE (AT _ (by omega))];omega)
 have k5:1*C<=z*C:=AT _ (by omega);refine (go w g n z i y Z vb m vc a4 r I hi hs hg b9 b2 hm c2 O (by omega) c0 c4 a9 bn bx c6 c3 a3 c5 bb b5 bl b3 a6).mono λe w' h=>?_
 exact⟨h.1,I,h.2.trans (setRow_setRow _ _ _ _),Y.1,Y.2⟩
def GrowGo (P:Program)(F S E C:Nat):Prop :=
 ∀ (w:World) (g n u i:Nat) (J m I G:Nat) (ROW r y:Array Value),0<m->i<n->n<=u->u<n+m->n+m<=G ->
  ¬ ((m:Int)=0)->¬ ((i:Int)=(n:Int))->(u:Int)<(n:Int)+(m:Int)->n+m<=9223372036854775807->G<=9223372036854775807->¬ (G=i)->¬ (G=i+m)->¬ (u=i)->IntKind.i64.wrap ((i:Int)+(m:Int))=(i:Int)+(m:Int)->IntKind.i64.wrap ((n:Int)+(m:Int))=(n:Int)+(m:Int)->IntKind.i64.wrap ((n:Int)+(m:Int)-(i:Int))=(n:Int)+(m:Int)-(i:Int)->(0:Int)<=(i:Int)+(m:Int)->i<=n->((i:Int)+(m:Int)).toNat=i+m->(i:Int)<=(n:Int) ->
  (∀ z,(BS #[S,3] z #[.slice (some ⟨g,0,none⟩) i u,.int .i64 ((n:Int)+(m:Int)-(i:Int))]).run P w =
   .ok (.slice (some ⟨w.heap.size,0,none⟩) (n+m) G) (w.drew.alloc (.cells ROW E)))->(∀ z H,(AY #[S,S] z #[.slice (some ⟨w.heap.size,i*C,none⟩) (n+m-i) H,.slice (some ⟨J,0,none⟩) m I]).run P ((w.alloc (.cells ROW E)).drew)=.ok (goInt (m:Nat)) (((w.alloc (.cells ROW E)).drew).setRow w.heap.size r))->(∀ z H O,(AY #[S,S] z #[.slice (some ⟨w.heap.size,(i+m)*C,none⟩) (n+m-(i+m)) H,.slice (some ⟨g,i*C,none⟩) (n-i) O]).run P (((w.alloc (.cells ROW E)).drew.setRow w.heap.size r).drew)=.ok (goInt (n-i:Nat)) ((((w.alloc (.cells ROW E)).drew.setRow w.heap.size r).drew).setRow w.heap.size y)) ->
  Calls P F #[.slice (some ⟨g,0,none⟩) n u,.int .i64 i,.slice (some ⟨J,0,none⟩) m I] w λe M=>e=.returned (.slice (some ⟨w.heap.size,0,none⟩) (n+m) G)/\M=((((w.alloc (.cells ROW E)).drew.setRow w.heap.size r).drew).setRow w.heap.size y)
theorem grow_p {P:Program}{F S E C B:Nat}(t39:P.underlying S=some (.slice E))(t3:P.underlying 3=some (.int .i64))(hC:0<C)(go:GrowGo P F S E C):InsGrow P F E C B:=by
 intro w g n H i r a0 z hi hz hs hb cb c4 R a4 cx vb m vc y dd hl a5 h1 hm cy e2 X b9 a1;have k1:(n+m)*C=n*C+m*C:=AW ..;have k2:(i+m)*C=i*C+m*C:=AW ..;have k3:(n-i)*C=n*C-i*C:=BI ..;have k4:i*C<=n*C:=AT _ (by omega);have cw:¬ ((m:Int)=0):=by omega
 have d3:¬ ((i:Int)=(n:Int)):=by omega
 have e3:(H:Int)<(n:Int)+(m:Int):=by omega
 have b1:n+m<=9223372036854775807:=by simp only[maxLen]at b9;omega
 have e4:(n:Int)+(m:Int)-(i:Int)=((n+m-i:Nat):Int):=by omega
 have ba:i+(n+m-i)=n+m:=by omega
 have cu:i*C<=n*C:=AT _ (by omega);have O:(r.take (i*C)).length=i*C:=by rw[AV,a4];exact BE cu
 have ad:(BM a0.size i (.slice (some ⟨g,0,none⟩) i H)).run P w.drew=.ok (r.take (i*C)).toArray w.drew:=by
  rw[hs];exact run_firstCells_some w.drew C i ⟨g,0,none⟩ i H (r.take (i*C)) O (λj v hj=>by
   rw[BG,BQ];rw[BN]at hj;split at hj
   ·exact R j v hj
   ·cases hj)
 obtain⟨G,hG⟩:∃ G,G=grownCap w (n+m) H E:=⟨_,rfl⟩;obtain⟨ROW,Y⟩:∃ ROW:Array Value,ROW=(r.take (i*C)).toArray++BR z.cells (n+m-i)++BR z.cells (G-(n+m)):=⟨_,rfl⟩;have c5:∀ ty,(BS #[S,3] ty #[.slice (some ⟨g,0,none⟩) i H,.int .i64 ((n:Int)+(m:Int)-(i:Int))]).run P w =
   .ok (.slice (some ⟨w.heap.size,0,none⟩) (n+m) G) (w.drew.alloc (.cells ROW E)):=λty=>by
  have h:=Lib.run_append_grow_zeros w S 3 ty E a0 z .i64 .i64 t39 t3 hi hz (some ⟨g,0,none⟩) i H (r.take (i*C)) ad (n+m-i) (by omega) (by omega) (by omega) (by omega)
   (by rw[hb];have:(n+m-i)*B<=(n+m)*B:=AT _ (by omega);omega) (by rw[hb,ba];exact growslice_fits X a1)
  rw[ba,<- hG,<- Y]at h;rw[e4];exact h
 have a6:n+m<=G:=by rw[hG];exact grownCap_ge w _ _ _
 have c2:G<=maxLen:=by rw[hG];exact grownCap_le_maxLen w (n+m) H E b9
 have bn:G<=9223372036854775807:=by unfold maxLen at c2;omega
 have Z:ROW.size=G*C:=by
  rw[Y];simp only[Array.size_append,BA,size_zeroCells,cb,O,<- AW];rw[show i+(n+m-i)+(G-(n+m))=G by omega]
 obtain⟨u,M⟩:∃ c:Array Value,c=(ROW.toList.take (i*C)++y++ROW.toList.drop (i*C+y.length)).toArray:=⟨_,rfl⟩;obtain⟨I,J⟩:∃ c:Array Value,c=(u.toList.take ((i+m)*C)++r.drop (i*C)++u.toList.drop ((i+m)*C+(r.drop (i*C)).length)).toArray:=⟨_,rfl⟩;have e5:(n+m)*C<=G*C:=AT _ a6;have a3:(r.drop (i*C)).length=(n-i)*C:=by rw[AX,a4,<- BI]
 have b0:u.size=ROW.size:=by
  rw[M];simp only[BA,AU,AV,AX,AZ,hl,Z];omega
 have d1:I.size=ROW.size:=by
  rw[J];simp only[BA,AU,AV,AX,AZ,a4,b0,Z];omega
 have a2:ROW.toList.take (i*C)=r.take (i*C):=by
  rw[Y];simp only[Array.toList_append,BD];exact BF O
 have bx:I.toList.take ((n+m)*C)=r.take (i*C)++y++r.drop (i*C):=by
  have e1:u.toList.take ((i+m)*C)=r.take (i*C)++y:=by
   rw[M,a2];show List.take ((i+m)*C) (r.take (i*C)++y++ROW.toList.drop (i*C+y.length))=_;exact BF (by rw[AU,O,hl,<- AW])
  rw[J,e1];show List.take ((n+m)*C) (r.take (i*C)++y++r.drop (i*C)++_)=_;exact BF (by rw[AU,AU,O,hl,a3,<- AW,<- AW,show i+m+(n-i)=n+m by omega])
 have bl:BP m (n+m-i)=m:=by simp only[BJ];split <;> omega
 have bb:BP (n-i) (n+m-(i+m))=n-i:=by simp only[BJ];split <;> omega
 have c1:∀ (W:World),W.heap[w.heap.size]?=some (.cells ROW E (0,0))->(∀ k,k<w.heap.size->W.heap[k]?=w.heap[k]?)->∀ ty dc,(AY #[S,S] ty #[.slice (some ⟨w.heap.size,i*C,none⟩) (n+m-i) dc,.slice (some ⟨vb,0,none⟩) m vc]).run P W=.ok (goInt (m:Nat)) (W.setRow w.heap.size u):=λW hW hk ty dc=>by
  have:=run_copy_rowN (P:=P) W S S ty E a0 hi w.heap.size (i*C) (n+m-i) dc ⟨vb,0,none⟩ m vc ROW E y t39 hW (by rw[hl,bl,hs])
   (λj v hj=>by
    rw[BG];have:=a5 j v hj;unfold BU at this ⊢;rw[hk vb dd];exact this)
   (by rw[hl,Z,<- AW];exact AT _ (by omega)) h1
  rw[bl,<- M]at this;exact this
 have c0:∀ (W:World),W.heap[w.heap.size]?=some (.cells u E (0,0))->(∀ k,k<w.heap.size->W.heap[k]?=w.heap[k]?)->∀ ty dc sc,(AY #[S,S] ty #[.slice (some ⟨w.heap.size,(i+m)*C,none⟩) (n+m-(i+m)) dc,.slice (some ⟨g,i*C,none⟩) (n-i) sc]).run P W=.ok (goInt (n-i:Nat)) (W.setRow w.heap.size I):=λW hW hk ty dc sc=>by
  have:=run_copy_rowN (P:=P) W S S ty E a0 hi w.heap.size ((i+m)*C) (n+m-(i+m)) dc ⟨g,i*C,none⟩ (n-i) sc u E (r.drop (i*C)) t39 hW (by rw[a3,bb,hs])
   (λj v hj=>by
    rw[BG];rw[BO]at hj;have:=R _ v hj;unfold BU at this ⊢;rw[hk g c4];exact this)
   (by rw[a3,b0,Z,<- AW];exact AT _ (by omega)) (λv hv=>cx v (BK hv))
  rw[bb,<- J]at this;exact this
 have b3:((w.alloc (.cells ROW E)).drew).heap[w.heap.size]?=some (.cells ROW E (0,0)):=heap_alloc_new w _;have c3:∀ k,k<w.heap.size->((w.alloc (.cells ROW E)).drew).heap[k]?=w.heap[k]?:=λk hk=>Go.heap_alloc_old w _ hk
 have a9:(((w.alloc (.cells ROW E)).drew.setRow w.heap.size u).drew).heap[w.heap.size]?=some (.cells u E (0,0)):=setRow_heap (w.alloc (.cells ROW E)).drew w.heap.size ROW u E (0,0) b3;have b2:∀ k,k<w.heap.size->(((w.alloc (.cells ROW E)).drew.setRow w.heap.size u).drew).heap[k]?=w.heap[k]?:=λk hk=>(setRow_other (w.alloc (.cells ROW E)).drew w.heap.size k u (by omega)).trans (c3 k hk)
 have cc:¬ (G=i):=by omega
 have b5:¬ (G=i+m):=by omega
 have d4:¬ (H=i):=by omega
 have c6:IntKind.i64.wrap ((i:Int)+(m:Int))=(i:Int)+(m:Int):=by rw[BB];omega
 have cp:IntKind.i64.wrap ((n:Int)+(m:Int))=(n:Int)+(m:Int):=by rw[BB];omega
 have e0:IntKind.i64.wrap ((n:Int)+(m:Int)-(i:Int))=(n:Int)+(m:Int)-(i:Int):=by rw[BB];omega
 have d6:(0:Int)<=(i:Int)+(m:Int):=by omega
 have b4:i<=n:=by omega
 have d2:((i:Int)+(m:Int)).toNat=i+m:=by omega
 have d5:(i:Int)<=(n:Int):=by omega
 refine (go w g n H i vb m vc G ROW u I hm cy e2 X a6 cw d3 e3 b1 bn cc b5 d4 c6 cp e0 d6 b4 d2 d5 c5 (c1 _ b3 c3) (c0 _ a9 b2)).mono λe w' h=>?_
 obtain⟨h1,rfl⟩:=h;exact⟨G,a6,c2,h1,I,setRow_heap _ _ _ _ _ _ a9,by rw[d1,Z];exact Nat.le_refl _,bx,by simp,rfl,rfl,rfl,λk hk=>(setRow_other _ _ _ _ (by omega)).trans (b2 k hk)⟩
theorem ins_walk {P:Program}{F E C B:Nat}(q1:(P.info? E).isSome=true)(q2:(P.info? E).map (λi=>i.size)=some C)(q3:(P.info? E).map (λi=>i.bytes)=some B)(q4:((P.info? E).bind λi=>i.zero).map (λz=>z.cells.size)=some C)
  (hC:0<C) (hE:¬ E=5) (hB:0<B) (ins_nil:InsNil P F E C B) (ins_end:InsEnd P F E C B) (ins_shift:InsShift P F E C B) (ins_grow:InsGrow P F E C B):lx P F E C B:=by
 intro w v0 v2 n m i y H r0 r2 o0 o2 hm b2 a9 Y;have k1:(n+m)*C=n*C+m*C:=AW ..;have bx:=r2;obtain⟨J,h2⟩:=r2;rcases h2 with ⟨_,h⟩|⟨vb,vc,a5,mk,rfl,a6,cc,ad,c6,cp⟩
 ·omega
 obtain⟨rfl,_⟩:=ad.elim id (λh=>absurd h.1 hE);have r:∀ j u,H[j]?=some u->w.cell? ⟨vb,0+j,none⟩=some u:=λj u hj=>by
  rw[BQ,bx.cellAt j (by rw[<- J];exact (BC.1 hj).1)];exact hj
 have kB:n+m<=(n+m)*B:=Nat.le_mul_of_pos_right _ hB;have b0:n+m<=maxLen:=by unfold maxLen;omega
 obtain⟨M,hi⟩:=Option.isSome_iff_exists.1 q1;rw[hi]at q2 q3 q4;have hs:M.size=C:=by simpa using q2
 have hb:M.bytes=B:=by simpa using q3
 simp only[Option.bind_some,Option.map_eq_some_iff]at q4;obtain⟨z,hz,a0⟩:=q4;have c3:vb<w.heap.size:=(BH.1 a6).1;have b4:=r0;obtain⟨O,h0⟩:=r0;rcases h0 with ⟨rfl,h0⟩|⟨g,R,b3,mk,rfl,hg,b5,bl,b1,a3⟩
 ·subst h0;have:i=0:=by omega
  subst this;have hf:y=[]:=List.eq_nil_of_length_eq_zero (by simpa using O);subst hf;refine (ins_nil w M z hi hz hs hb a0 vb m vc H J r o2 hm (by omega) (by rw[BQ]at Y;exact Y)).mono λe w' h=>?_
  obtain⟨v',e1,h1,h2,h3⟩:=h;exact⟨v',e1,by simpa using h1,h2,.inr h3⟩
 ·obtain⟨rfl,Z⟩:=bl.elim id (λh=>absurd h.1 hE);have ba:g<w.heap.size:=(BH.1 hg).1;have c2:vb≠g:=λh=>a9 g (by simp[BL]) (by simp[BL,h])
  have a2:∀ j u,y[j]?=some u->w.cell? ⟨g,j,none⟩=some u:=λj u hj=>by
   rw[b4.cellAt j (by rw[<- O];exact (BC.1 hj).1)];exact hj
  by_cases hn:i=n
  ·subst hn;refine (ins_end w g i R y M z hi hz hs hb a0 b4 b5 vb m vc H J r o2 hm b0 Y).mono λe w' h=>?_
   obtain⟨v',e1,h1,h2,h3⟩:=h;refine⟨v',e1,?_,h2,h3⟩;rw[List.take_of_length_le (by omega),List.drop_of_length_le (by omega),List.append_nil];exact h1
  ·by_cases X:n+m<=R
   ·refine (ins_shift w g n R i b3 y M hi hs hg Z b1 a3 O o0 vb m vc a5 H a6 c2 J r o2 hm (by omega) X).mono λe w' h=>?_
    obtain⟨e1,I,rfl,a1,a4⟩:=h;refine⟨_,e1,⟨?_,.inr ⟨g,R,I,_,rfl,setRow_heap w.drew g b3 I E (0,0) hg,X,.inl ⟨rfl,Z⟩,by rw[a1];exact b1,a4⟩⟩,⟨rfl,rfl,rfl,by simp,λk _ hk=>setRow_other w.drew g k I (λh=>hk (by simp[BL,h]))⟩,.inl rfl⟩;simp only[AU,AV,AX,O,J];have:i*C<=n*C:=AT _ b2;omega
   ·refine (ins_grow w g n R i y M z hi hz hs hb a0 ba a2 O o0 vb m vc H c3 J r o2 hm (by omega) b5 (by omega) b0 Y).mono λe w' h=>?_
    obtain⟨G,c0,bb,e1,I,a1,a4,c4,cb,b9,bn,c1,hk⟩:=h;refine⟨_,e1,⟨?_,.inr ⟨w.heap.size,G,I,_,rfl,a1,c0,.inl ⟨rfl,bb⟩,a4,c4⟩⟩,⟨b9,bn,c1,by omega,λk c5 _=>hk k c5⟩,.inr rfl⟩;simp only[AU,AV,AX,O,J];have:i*C<=n*C:=AT _ b2;omega
end Go.Proofs.YtaegajachoklkaaGreatEv
