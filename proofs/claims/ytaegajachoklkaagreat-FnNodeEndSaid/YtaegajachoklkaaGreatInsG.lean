/- slices.Insert: what its walk needs, for any element. -/
import Derived.Test.YtaegajachoklkaaGreatEvQ
import Derived.Test.YtaegajachoklkaaGreatE6
import Derived.Shelf.Spec.SlicesInsert
import Derived.Laws.CopyRow
import Derived.Lib.AppendZerosOnto
set_option linter.unusedVariables false
set_option maxRecDepth 100000
set_option linter.unusedVariables false
set_option linter.unusedSimpArgs false
open Array renaming length_toList->BJ,getElem?_eq_some_iff->BR
open Go.Addr renaming add_lit->BQ
open Go.Builtin renaming copy_->BI,firstCells->BW,zeroCells->B4,append_->B5
open Go.IntKind renaming wrap_i64->BL
open Go.Value renaming ownBlock->BV
open Go.World renaming cell?->B7
open List renaming length_append->BE,length_take->BF,length_drop->BH,size_toArray->BK,getElem?_eq_some_iff->BM,append_assoc->BN,take_left'->BP,mem_of_mem_drop->BU,getElem?_take->BX,getElem?_drop->BY,take_take->B6
open Nat renaming mul_le_mul_right->BD,add_mul->BG,min_eq_left->BO,sub_mul->BS,min_def->BT,min->BZ,zero_add->B3
namespace Go.Proofs.YtaegajachoklkaaGreatEv
open Go Go.Proofs Go.Shelf Go.RowKit Go.Lib
theorem run_copy_rowN {P:Program}(w:World)(O Y ty y:TypeId)(i:TypeInfo)(hi:P.info? y=some i)(g o u J:Nat)(a:Addr)(r I:Nat)(cur:Array Value)(t:TypeId)(cs:List Value)
  (R:P.underlying O=some (.slice y)) (Z:w.heap[g]?=some (.cells cur t (0,0))) (hn:cs.length=BZ r u*i.size)
  (z:∀ j v,cs[j]?=some v->w.cell? (a.add j)=some v) (H:o+cs.length<=cur.size) (h1:∀ v∈cs,v.oneCell'=true) :
  (BI #[O,Y] ty #[.slice (some ⟨g,o,none⟩) u J,.slice (some a) r I]).run P w =
   .ok (goInt (BZ r u)) (w.setRow g (cur.toList.take o++cs++cur.toList.drop (o+cs.length)).toArray):=by
 have X:=run_loadCells_list (P:=P) w a cs z;have M:=run_storeCells_at P g o t cs 0 cur w Z (by simpa using H) h1;simp[BI,run_underlying R,Builtin.lenOf,BW,sizeOf,typeInfo,hi,<- hn,X,M]
def InsNil (P:Program)(F E C B:Nat):Prop :=
 ∀ (w:World) (i:TypeInfo) (z:Value) (hi:P.info? E=some i) (Z:i.zero=some z) (hs:i.size=C) (hb:i.bytes=B) (X:z.cells.size=C) (M m O:Nat) (r:List Value) (Y:r.length=m*C) (I:∀ j u,r[j]?=some u->w.cell? ⟨M,0+j,none⟩=some u) (h1:∀ u∈r,u.oneCell'=true) (hm:0<m) (R:m<=maxLen) (y:m*B<=140737488355328),
  Calls P F #[.slice none 0 0,.int .i64 0,.slice (some ⟨M,0,none⟩) m O] w λe J =>
   ∃ H,e=.returned H/\Row J E C H m r/\w.grownBy J none/\H.ownBlock=some w.heap.size
def InsEnd (P:Program)(F E C B:Nat):Prop :=
 ∀ (w:World) (g n H:Nat) (y:List Value) (i:TypeInfo) (z:Value) (hi:P.info? E=some i) (hz:i.zero=some z) (hs:i.size=C) (hb:i.bytes=B) (a1:z.cells.size=C) (O:Row w E C (.slice (some ⟨g,0,none⟩) n H) n y) (Z:n<=H) (X m Y:Nat) (r:List Value) (hl:r.length=m*C) (M:∀ j u,r[j]?=some u->w.cell? ⟨X,0+j,none⟩=some u) (h1:∀ u∈r,u.oneCell'=true) (hm:0<m) (a0:n+m<=maxLen) (J:(n+m)*B<=140737488355328),
  Calls P F #[.slice (some ⟨g,0,none⟩) n H,.int .i64 n,.slice (some ⟨X,0,none⟩) m Y] w λe R =>
   ∃ I,e=.returned I/\Row R E C I (n+m) (y++r)/\w.grownBy R (some g)/\(I.ownBlock=some g\/I.ownBlock=some w.heap.size)
def InsShift (P:Program)(F E C B:Nat):Prop :=
 ∀ (w:World) (g n H i:Nat) (I:Array Value) (r:List Value) (J:TypeInfo) (hi:P.info? E=some J) (hs:J.size=C) (hg:w.heap[g]?=some (.cells I E (0,0))) (a4:H<=maxLen) (a0:H*C<=I.size) (X:I.toList.take (n*C)=r) (a5:r.length=n*C) (a1:∀ u∈r,u.oneCell'=true) (O m vc:Nat) (M:Array Value) (y:List Value) (Z:w.heap[O]?=some (.cells M E (0,0))) (a3:O≠g) (hl:y.length=m*C) (R:∀ j u,y[j]?=some u->w.cell? ⟨O,0+j,none⟩=some u) (h1:∀ u∈y,u.oneCell'=true) (hm:0<m) (a2:i<n) (Y:n+m<=H),
  Calls P F #[.slice (some ⟨g,0,none⟩) n H,.int .i64 i,.slice (some ⟨O,0,none⟩) m vc] w λe w' =>
   e=.returned (.slice (some ⟨g,0,none⟩) (n+m) H)/\∃ z:Array Value,w'=w.drew.setRow g z/\z.size=I.size/\z.toList.take ((n+m)*C)=r.take (i*C)++y++r.drop (i*C)
def InsGrow (P:Program)(F E C B:Nat):Prop :=
 ∀ (w:World) (g n J i:Nat) (r:List Value) (I:TypeInfo) (z:Value) (hi:P.info? E=some I) (hz:I.zero=some z) (hs:I.size=C) (hb:I.bytes=B) (a9:z.cells.size=C) (a0:g<w.heap.size) (Z:∀ j u,r[j]?=some u->w.cell? ⟨g,j,none⟩=some u) (a6:r.length=n*C) (a1:∀ u∈r,u.oneCell'=true) (X m vc:Nat) (y:List Value) (a4:X<w.heap.size) (hl:y.length=m*C) (R:∀ j u,y[j]?=some u->w.cell? ⟨X,0+j,none⟩=some u) (h1:∀ u∈y,u.oneCell'=true) (hm:0<m) (a3:i<n) (a2:n<=J) (Y:J<n+m) (a5:n+m<=maxLen) (O:(n+m)*B<=140737488355328),
  Calls P F #[.slice (some ⟨g,0,none⟩) n J,.int .i64 i,.slice (some ⟨X,0,none⟩) m vc] w λe M =>
   ∃ G,n+m<=G/\G<=maxLen/\e=.returned (.slice (some ⟨w.heap.size,0,none⟩) (n+m) G)/\∃ H:Array Value,M.heap[w.heap.size]?=some (.cells H E (0,0))/\G*C<=H.size/\H.toList.take ((n+m)*C)=r.take (i*C)++y++r.drop (i*C) /\
    M.heap.size=w.heap.size+1/\M.os=w.os/\M.tape=w.tape/\M.output=w.output/\∀ k,k<w.heap.size->M.heap[k]?=w.heap[k]?
def ShiftGo (P:Program)(F S E C:Nat):Prop :=
 ∀ (w:World) (g n u i:Nat) (z:Array Value) (H:TypeInfo) (J m R:Nat) (I r y:Array Value),P.info? E=some H->H.size=C->w.heap[g]?=some (.cells z E (0,0))->w.heap[J]?=some (.cells I E (0,0))->J≠g->0<m->i<n->n+m<=u->z.size≠0 ->
  ¬ ((m:Int)=0)->¬ ((i:Int)=(n:Int))->u<=9223372036854775807->IntKind.i64.wrap ((i:Int)+(m:Int))=(i:Int)+(m:Int)->IntKind.i64.wrap ((n:Int)+(m:Int))=(n:Int)+(m:Int)->(0:Int)<=(i:Int)+(m:Int)->((i:Int)+(m:Int)).toNat=i+m->((n:Int)+(m:Int)).toNat=n+m->(i:Int)<=(n:Int)+(m:Int)->¬ (u=i+m)->i<=n->¬ (u=i) ->
  (∀ O M Y,(BI #[S,S] O #[.slice (some ⟨g,(i+m)*C,none⟩) (n+m-(i+m)) M,.slice (some ⟨g,i*C,none⟩) (n+m-i) Y]).run P w.drew=.ok (goInt (n-i:Nat)) (w.drew.setRow g r))->(∀ O M,(BI #[S,S] O #[.slice (some ⟨g,i*C,none⟩) (n+m-i) M,.slice (some ⟨J,0,none⟩) m R]).run P (w.drew.setRow g r)=.ok (goInt (m:Nat)) ((w.drew.setRow g r).setRow g y)) ->
  Calls P F #[.slice (some ⟨g,0,none⟩) n u,.int .i64 i,.slice (some ⟨J,0,none⟩) m R] w λe X=>e=.returned (.slice (some ⟨g,0,none⟩) (n+m) u)/\X=(w.drew.setRow g r).setRow g y
theorem shift_p {P:Program}{F S E C B:Nat}(t39:P.underlying S=some (.slice E))(hC:1<C)(go:ShiftGo P F S E C):InsShift P F E C B:=by
 intro w g n z i y u a2 hi hs hg c2 cu R a0 bb vb m vc b3 I c4 b0 hl a1 h1 hm c1 O;have k1:(n+m)*C=n*C+m*C:=BG ..;have k2:(i+m)*C=i*C+m*C:=BG ..;have k3:(n-i)*C=n*C-i*C:=BS ..;have k4:i*C<=n*C:=BD _ (by omega);have ba:¬ ((m:Int)=0):=by omega
 have cb:¬ ((i:Int)=(n:Int)):=by omega
 have a4:z<=9223372036854775807:=by simp only[maxLen]at c2;omega
 have bx:IntKind.i64.wrap ((i:Int)+(m:Int))=(i:Int)+(m:Int):=by rw[BL];omega
 have b9:IntKind.i64.wrap ((n:Int)+(m:Int))=(n:Int)+(m:Int):=by rw[BL];omega
 have cp:(0:Int)<=(i:Int)+(m:Int):=by omega
 have c3:((i:Int)+(m:Int)).toNat=i+m:=by omega
 have b1:((n:Int)+(m:Int)).toNat=n+m:=by omega
 have c0:(i:Int)<=(n:Int)+(m:Int):=by omega
 have bn:¬ (z=i+m):=by omega
 have cc:i<=n:=by omega
 have bl:¬ (z=i):=by omega
 have X:(u.drop (i*C)).length=(n-i)*C:=by rw[BH,a0,<- BS]
 have a3:∀ j,j<n*C->u[j]?=y[j]?:=λj hj=>by rw[<- R,BX,if_pos hj];exact Array.getElem?_toList ..
 have b2:BZ (n+m-i) (n+m-(i+m))=n-i:=by simp only[BT];split <;> omega
 have b5:BZ m (n+m-i)=m:=by simp only[BT];split <;> omega
 obtain⟨r,H⟩:∃ c:Array Value,c=(y.toList.take ((i+m)*C)++u.drop (i*C)++y.toList.drop ((i+m)*C+(u.drop (i*C)).length)).toArray:=⟨_,rfl⟩;have a9:(i+m)*C+(n-i)*C<=y.size:=by
  have:(n+m)*C<=z*C:=BD _ O;omega
 have a6:r.size=y.size:=by
  rw[H];simp only[BK,BE,BF,BH,BJ,a0];omega
 obtain⟨J,M⟩:∃ c:Array Value,c=(r.toList.take (i*C)++I++r.toList.drop (i*C+I.length)).toArray:=⟨_,rfl⟩;have ad:∀ ty Z sc,(BI #[S,S] ty #[.slice (some ⟨g,(i+m)*C,none⟩) (n+m-(i+m)) Z,.slice (some ⟨g,i*C,none⟩) (n+m-i) sc]).run P w.drew=.ok (goInt (n-i:Nat)) (w.drew.setRow g r):=λty Z sc=>by
  have:=run_copy_rowN (P:=P) w.drew S S ty E a2 hi g ((i+m)*C) (n+m-(i+m)) Z ⟨g,i*C,none⟩ (n+m-i) sc y E (u.drop (i*C)) t39 hg (by rw[X,b2,hs])
   (λj v hj=>by
    rw[BQ];have a5:=(BM.1 hj).1;rw[X]at a5;rw[BY]at hj;rw[show w.drew.cell? ⟨g,i*C+j,none⟩=w.cell? ⟨g,i*C+j,none⟩ from rfl,cell_of_row w g _ y E (0,0) hg,<- a3 _ (by rw[BS]at a5;omega)];exact hj)
   (by rw[X];exact a9) (λv hv=>bb v (BU hv))
  rw[b2,<- H]at this;exact this
 have b4:∀ ty Z,(BI #[S,S] ty #[.slice (some ⟨g,i*C,none⟩) (n+m-i) Z,.slice (some ⟨vb,0,none⟩) m vc]).run P (w.drew.setRow g r)=.ok (goInt (m:Nat)) ((w.drew.setRow g r).setRow g J):=λty Z=>by
  have:=run_copy_rowN (P:=P) (w.drew.setRow g r) S S ty E a2 hi g (i*C) (n+m-i) Z ⟨vb,0,none⟩ m vc r E I t39 (setRow_heap w.drew g y r E (0,0) hg) (by rw[hl,b5,hs])
   (λj v hj=>by
    rw[BQ,cell_setRow_other _ _ _ _ b0];exact a1 j v hj)
   (by rw[hl,a6,<- BG];have:(i+m)*C<=z*C:=BD _ (by omega);omega) h1
  rw[b5,<- M]at this;exact this
 have Y:J.size=y.size/\J.toList.take ((n+m)*C)=u.take (i*C)++I++u.drop (i*C):=by
  refine⟨?_,?_⟩
  ·rw[M];simp only[BK,BE,BF,BH,BJ,hl,a6];have:(i+m)*C<=z*C:=BD _ (by omega);omega
  ·have ha:r.toList.take (i*C)=u.take (i*C):=by
    rw[H,<- R,B6,BO (BD _ (by omega)),BN];simp only[List.take_append_of_le_length (show i*C<=(y.toList.take ((i+m)*C)).length by simp only[BF,BJ];have:(i+m)*C<=z*C:=BD _ (by omega);omega),B6];rw[BO (by omega)]
   have hb:r.toList.drop (i*C+I.length)=u.drop (i*C)++y.toList.drop ((i+m)*C+(u.drop (i*C)).length):=by
    rw[H,hl,<- BG,BN];exact List.drop_left' (by simp only[BF,BJ];have:(i+m)*C<=z*C:=BD _ (by omega);omega)
   rw[M,ha,hb];simp only[<- BN];exact BP (by simp only[BE,BF,a0,hl,X];rw[BO (BD _ (by omega))];omega)
 have k5:1*C<=z*C:=BD _ (by omega);refine (go w g n z i y a2 vb m vc b3 r J hi hs hg c4 b0 hm c1 O (by omega) ba cb a4 bx b9 cp c3 b1 c0 bn cc bl ad b4).mono λe w' h=>?_
 exact⟨h.1,J,h.2.trans (setRow_setRow _ _ _ _),Y.1,Y.2⟩
def GrowGo (P:Program)(F S E C:Nat):Prop :=
 ∀ (w:World) (g n u i:Nat) (J m I G:Nat) (ROW r y:Array Value),0<m->i<n->n<=u->u<n+m->n+m<=G ->
  ¬ ((m:Int)=0)->¬ ((i:Int)=(n:Int))->(u:Int)<(n:Int)+(m:Int)->n+m<=9223372036854775807->G<=9223372036854775807->¬ (G=i)->¬ (G=i+m)->¬ (u=i)->IntKind.i64.wrap ((i:Int)+(m:Int))=(i:Int)+(m:Int)->IntKind.i64.wrap ((n:Int)+(m:Int))=(n:Int)+(m:Int)->IntKind.i64.wrap ((n:Int)+(m:Int)-(i:Int))=(n:Int)+(m:Int)-(i:Int)->(0:Int)<=(i:Int)+(m:Int)->i<=n->((i:Int)+(m:Int)).toNat=i+m->(i:Int)<=(n:Int) ->
  (∀ z,(B5 #[S,3] z #[.slice (some ⟨g,0,none⟩) i u,.int .i64 ((n:Int)+(m:Int)-(i:Int))]).run P w =
   .ok (.slice (some ⟨w.heap.size,0,none⟩) (n+m) G) (w.drew.alloc (.cells ROW E)))->(∀ z H,(BI #[S,S] z #[.slice (some ⟨w.heap.size,i*C,none⟩) (n+m-i) H,.slice (some ⟨J,0,none⟩) m I]).run P ((w.alloc (.cells ROW E)).drew)=.ok (goInt (m:Nat)) (((w.alloc (.cells ROW E)).drew).setRow w.heap.size r))->(∀ z H O,(BI #[S,S] z #[.slice (some ⟨w.heap.size,(i+m)*C,none⟩) (n+m-(i+m)) H,.slice (some ⟨g,i*C,none⟩) (n-i) O]).run P (((w.alloc (.cells ROW E)).drew.setRow w.heap.size r).drew)=.ok (goInt (n-i:Nat)) ((((w.alloc (.cells ROW E)).drew.setRow w.heap.size r).drew).setRow w.heap.size y)) ->
  Calls P F #[.slice (some ⟨g,0,none⟩) n u,.int .i64 i,.slice (some ⟨J,0,none⟩) m I] w λe M=>e=.returned (.slice (some ⟨w.heap.size,0,none⟩) (n+m) G)/\M=((((w.alloc (.cells ROW E)).drew.setRow w.heap.size r).drew).setRow w.heap.size y)
theorem grow_p {P:Program}{F S E C B:Nat}(t39:P.underlying S=some (.slice E))(t3:P.underlying 3=some (.int .i64))(hC:1<C)(go:GrowGo P F S E C):InsGrow P F E C B:=by
 intro w g n H i r a3 z hi hz hs hb e5 e6 a0 a5 cp vb m vc y cu hl a9 h1 hm e2 eb R bb a2;have k1:(n+m)*C=n*C+m*C:=BG ..;have k2:(i+m)*C=i*C+m*C:=BG ..;have k3:(n-i)*C=n*C-i*C:=BS ..;have k4:i*C<=n*C:=BD _ (by omega);have cc:¬ ((m:Int)=0):=by omega
 have e7:¬ ((i:Int)=(n:Int)):=by omega
 have dd:(H:Int)<(n:Int)+(m:Int):=by omega
 have c3:n+m<=9223372036854775807:=by simp only[maxLen]at bb;omega
 have cy:(n:Int)+(m:Int)-(i:Int)=((n+m-i:Nat):Int):=by omega
 have b1:i+(n+m-i)=n+m:=by omega
 have cw:i*C<=n*C:=BD _ (by omega);have Z:(r.take (i*C)).length=i*C:=by rw[BF,a5];exact BO cw
 have c1:(BW a3.size i (.slice (some ⟨g,0,none⟩) i H)).run P w.drew=.ok (r.take (i*C)).toArray w.drew:=by
  rw[hs];exact run_firstCells_some w.drew C i ⟨g,0,none⟩ i H (r.take (i*C)) Z (λj v hj=>by
   rw[BQ,B3];rw[BX]at hj;split at hj
   ·exact a0 j v hj
   ·cases hj)
 obtain⟨G,hG⟩:∃ G,G=grownCap w (n+m) H E:=⟨_,rfl⟩;obtain⟨ROW,O⟩:∃ ROW:Array Value,ROW=(r.take (i*C)).toArray++B4 z.cells (n+m-i)++B4 z.cells (G-(n+m)):=⟨_,rfl⟩;have ec:∀ Y,(B5 #[S,3] Y #[.slice (some ⟨g,0,none⟩) i H,.int .i64 ((n:Int)+(m:Int)-(i:Int))]).run P w =
   .ok (.slice (some ⟨w.heap.size,0,none⟩) (n+m) G) (w.drew.alloc (.cells ROW E)):=λY=>by
  have h:=Lib.run_append_grow_zeros w S 3 Y E a3 z .i64 .i64 t39 t3 hi hz (some ⟨g,0,none⟩) i H (r.take (i*C)) c1 (n+m-i) (by omega) (by omega) (by omega) (by omega)
   (by rw[hb];have:(n+m-i)*B<=(n+m)*B:=BD _ (by omega);omega) (by rw[hb,b1];exact growslice_fits R a2)
  rw[b1,<- hG,<- O]at h;rw[cy];exact h
 have a4:n+m<=G:=by rw[hG];exact grownCap_ge w _ _ _
 have b4:G<=maxLen:=by rw[hG];exact grownCap_le_maxLen w (n+m) H E bb
 have bl:G<=9223372036854775807:=by unfold maxLen at b4;omega
 have X:ROW.size=G*C:=by
  rw[O];simp only[Array.size_append,BK,size_zeroCells,e5,Z,<- BG];rw[show i+(n+m-i)+(G-(n+m))=G by omega]
 obtain⟨u,J⟩:∃ c:Array Value,c=(ROW.toList.take (i*C)++y++ROW.toList.drop (i*C+y.length)).toArray:=⟨_,rfl⟩;obtain⟨I,M⟩:∃ c:Array Value,c=(u.toList.take ((i+m)*C)++r.drop (i*C)++u.toList.drop ((i+m)*C+(r.drop (i*C)).length)).toArray:=⟨_,rfl⟩;have ef:(n+m)*C<=G*C:=BD _ a4;have a6:(r.drop (i*C)).length=(n-i)*C:=by rw[BH,a5,<- BS]
 have b3:u.size=ROW.size:=by
  rw[J];simp only[BK,BE,BF,BH,BJ,hl,X];omega
 have d1:I.size=ROW.size:=by
  rw[M];simp only[BK,BE,BF,BH,BJ,a5,b3,X];omega
 have a1:ROW.toList.take (i*C)=r.take (i*C):=by
  rw[O];simp only[Array.toList_append,BN];exact BP Z
 have bn:I.toList.take ((n+m)*C)=r.take (i*C)++y++r.drop (i*C):=by
  have e1:u.toList.take ((i+m)*C)=r.take (i*C)++y:=by
   rw[J,a1];show List.take ((i+m)*C) (r.take (i*C)++y++ROW.toList.drop (i*C+y.length))=_;exact BP (by rw[BE,Z,hl,<- BG])
  rw[M,e1];show List.take ((n+m)*C) (r.take (i*C)++y++r.drop (i*C)++_)=_;exact BP (by rw[BE,BE,Z,hl,a6,<- BG,<- BG,show i+m+(n-i)=n+m by omega])
 have b9:BZ m (n+m-i)=m:=by simp only[BT];split <;> omega
 have c4:BZ (n-i) (n+m-(i+m))=n-i:=by simp only[BT];split <;> omega
 have c0:∀ (W:World),W.heap[w.heap.size]?=some (.cells ROW E (0,0))->(∀ k,k<w.heap.size->W.heap[k]?=w.heap[k]?)->∀ Y dc,(BI #[S,S] Y #[.slice (some ⟨w.heap.size,i*C,none⟩) (n+m-i) dc,.slice (some ⟨vb,0,none⟩) m vc]).run P W=.ok (goInt (m:Nat)) (W.setRow w.heap.size u):=λW hW hk Y dc=>by
  have:=run_copy_rowN (P:=P) W S S Y E a3 hi w.heap.size (i*C) (n+m-i) dc ⟨vb,0,none⟩ m vc ROW E y t39 hW (by rw[hl,b9,hs])
   (λj v hj=>by
    rw[BQ];have:=a9 j v hj;unfold B7 at this ⊢;rw[hk vb cu];exact this)
   (by rw[hl,X,<- BG];exact BD _ (by omega)) h1
  rw[b9,<- J]at this;exact this
 have b0:∀ (W:World),W.heap[w.heap.size]?=some (.cells u E (0,0))->(∀ k,k<w.heap.size->W.heap[k]?=w.heap[k]?)->∀ Y dc sc,(BI #[S,S] Y #[.slice (some ⟨w.heap.size,(i+m)*C,none⟩) (n+m-(i+m)) dc,.slice (some ⟨g,i*C,none⟩) (n-i) sc]).run P W=.ok (goInt (n-i:Nat)) (W.setRow w.heap.size I):=λW hW hk Y dc sc=>by
  have:=run_copy_rowN (P:=P) W S S Y E a3 hi w.heap.size ((i+m)*C) (n+m-(i+m)) dc ⟨g,i*C,none⟩ (n-i) sc u E (r.drop (i*C)) t39 hW (by rw[a6,c4,hs])
   (λj v hj=>by
    rw[BQ];rw[BY]at hj;have:=a0 _ v hj;unfold B7 at this ⊢;rw[hk g e6];exact this)
   (by rw[a6,b3,X,<- BG];exact BD _ (by omega)) (λv hv=>cp v (BU hv))
  rw[c4,<- M]at this;exact this
 have bx:((w.alloc (.cells ROW E)).drew).heap[w.heap.size]?=some (.cells ROW E (0,0)):=heap_alloc_new w _;have ad:∀ k,k<w.heap.size->((w.alloc (.cells ROW E)).drew).heap[k]?=w.heap[k]?:=λk hk=>Go.heap_alloc_old w _ hk
 have b5:(((w.alloc (.cells ROW E)).drew.setRow w.heap.size u).drew).heap[w.heap.size]?=some (.cells u E (0,0)):=setRow_heap (w.alloc (.cells ROW E)).drew w.heap.size ROW u E (0,0) bx;have c2:∀ k,k<w.heap.size->(((w.alloc (.cells ROW E)).drew.setRow w.heap.size u).drew).heap[k]?=w.heap[k]?:=λk hk=>(setRow_other (w.alloc (.cells ROW E)).drew w.heap.size k u (by omega)).trans (ad k hk)
 have d2:¬ (G=i):=by omega
 have ba:¬ (G=i+m):=by omega
 have cx:¬ (H=i):=by omega
 have d3:IntKind.i64.wrap ((i:Int)+(m:Int))=(i:Int)+(m:Int):=by rw[BL];omega
 have cb:IntKind.i64.wrap ((n:Int)+(m:Int))=(n:Int)+(m:Int):=by rw[BL];omega
 have e4:IntKind.i64.wrap ((n:Int)+(m:Int)-(i:Int))=(n:Int)+(m:Int)-(i:Int):=by rw[BL];omega
 have ed:(0:Int)<=(i:Int)+(m:Int):=by omega
 have b2:i<=n:=by omega
 have e3:((i:Int)+(m:Int)).toNat=i+m:=by omega
 have e0:(i:Int)<=(n:Int):=by omega
 refine (go w g n H i vb m vc G ROW u I hm e2 eb R a4 cc e7 dd c3 bl d2 ba cx d3 cb e4 ed b2 e3 e0 ec (c0 _ bx ad) (b0 _ b5 c2)).mono λe w' h=>?_
 obtain⟨h1,rfl⟩:=h;exact⟨G,a4,b4,h1,I,setRow_heap _ _ _ _ _ _ b5,by rw[d1,X];exact Nat.le_refl _,bn,by simp,rfl,rfl,rfl,λk hk=>(setRow_other _ _ _ _ (by omega)).trans (c2 k hk)⟩
theorem ins_walk {P:Program}{F E C B:Nat}(q1:(P.info? E).isSome=true)(q2:(P.info? E).map (λi=>i.size)=some C)(q3:(P.info? E).map (λi=>i.bytes)=some B)(q4:((P.info? E).bind λi=>i.zero).map (λz=>z.cells.size)=some C)
  (hC:1<C) (hB:0<B) (ins_nil:InsNil P F E C B) (ins_end:InsEnd P F E C B) (ins_shift:InsShift P F E C B) (ins_grow:InsGrow P F E C B):lP P F E C B:=by
 intro w v0 v2 n m i I y r0 r2 o0 o2 hm b1 b4 Y;have k1:(n+m)*C=n*C+m*C:=BG ..;have cb:=r2;obtain⟨J,h2⟩:=r2;rcases h2 with ⟨_,h⟩|⟨vb,vc,b0,mk,rfl,b3,cw,a9,cc,cu⟩
 ·omega
 obtain⟨rfl,_⟩:=a9.elim id (λh=>absurd h.1 (by omega));have r:∀ j u,y[j]?=some u->w.cell? ⟨vb,0+j,none⟩=some u:=λj u hj=>by
  rw[B3,cb.cellAt j (by rw[<- J];exact (BM.1 hj).1)];exact hj
 have kB:n+m<=(n+m)*B:=Nat.le_mul_of_pos_right _ hB;have b2:n+m<=maxLen:=by unfold maxLen;omega
 obtain⟨O,hi⟩:=Option.isSome_iff_exists.1 q1;rw[hi]at q2 q3 q4;have hs:O.size=C:=by simpa using q2
 have hb:O.bytes=B:=by simpa using q3
 simp only[Option.bind_some,Option.map_eq_some_iff]at q4;obtain⟨z,hz,a2⟩:=q4;have bl:vb<w.heap.size:=(BR.1 b3).1;have ad:=r0;obtain⟨M,h0⟩:=r0;rcases h0 with ⟨rfl,h0⟩|⟨g,X,a5,mk,rfl,hg,b5,c1,a6,a3⟩
 ·subst h0;have:i=0:=by omega
  subst this;have hf:I=[]:=List.eq_nil_of_length_eq_zero (by simpa using M);subst hf;refine (ins_nil w O z hi hz hs hb a2 vb m vc y J r o2 hm (by omega) (by rw[B3]at Y;exact Y)).mono λe w' h=>?_
  obtain⟨v',e1,h1,h2,h3⟩:=h;exact⟨v',e1,by simpa using h1,h2,.inr h3⟩
 ·obtain⟨rfl,Z⟩:=c1.elim id (λh=>absurd h.1 (by omega));have c3:g<w.heap.size:=(BR.1 hg).1;have bx:vb≠g:=λh=>b4 g (by simp[BV]) (by simp[BV,h])
  have a1:∀ j u,I[j]?=some u->w.cell? ⟨g,j,none⟩=some u:=λj u hj=>by
   rw[ad.cellAt j (by rw[<- M];exact (BM.1 hj).1)];exact hj
  by_cases hn:i=n
  ·subst hn;refine (ins_end w g i X I O z hi hz hs hb a2 ad b5 vb m vc y J r o2 hm b2 Y).mono λe w' h=>?_
   obtain⟨v',e1,h1,h2,h3⟩:=h;refine⟨v',e1,?_,h2,h3⟩;rw[List.take_of_length_le (by omega),List.drop_of_length_le (by omega),List.append_nil];exact h1
  ·by_cases R:n+m<=X
   ·refine (ins_shift w g n X i a5 I O hi hs hg Z a6 a3 M o0 vb m vc b0 y b3 bx J r o2 hm (by omega) R).mono λe w' h=>?_
    obtain⟨e1,H,rfl,a4,a0⟩:=h;refine⟨_,e1,⟨?_,.inr ⟨g,X,H,_,rfl,setRow_heap w.drew g a5 H E (0,0) hg,R,.inl ⟨rfl,Z⟩,by rw[a4];exact a6,a0⟩⟩,⟨rfl,rfl,rfl,by simp,λk _ hk=>setRow_other w.drew g k H (λh=>hk (by simp[BV,h]))⟩,.inl rfl⟩;simp only[BE,BF,BH,M,J];have:i*C<=n*C:=BD _ b1;omega
   ·refine (ins_grow w g n X i I O z hi hz hs hb a2 c3 a1 M o0 vb m vc y bl J r o2 hm (by omega) b5 (by omega) b2 Y).mono λe w' h=>?_
    obtain⟨G,b9,ba,e1,H,a4,a0,bn,cp,c4,c0,bb,hk⟩:=h;refine⟨_,e1,⟨?_,.inr ⟨w.heap.size,G,H,_,rfl,a4,b9,.inl ⟨rfl,ba⟩,a0,bn⟩⟩,⟨c4,c0,bb,by omega,λk c2 _=>hk k c2⟩,.inr rfl⟩;simp only[BE,BF,BH,M,J];have:i*C<=n*C:=BD _ b1;omega
end Go.Proofs.YtaegajachoklkaaGreatEv
