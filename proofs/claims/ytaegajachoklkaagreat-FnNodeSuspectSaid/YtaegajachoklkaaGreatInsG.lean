/- slices.Insert: what its walk needs, for any element. -/
import Derived.Test.YtaegajachoklkaaGreatEvQ
import Derived.Test.YtaegajachoklkaaGreatE6
import Derived.Shelf.Spec.SlicesInsert
import Derived.Laws.CopyRow
import Derived.Lib.AppendZerosOnto
set_option linter.unusedVariables false
set_option maxRecDepth 100000
set_option linter.unusedVariables false
set_option linter.unusedSimpArgs false
open Array renaming length_toList->BJ,getElem?_eq_some_iff->BR
open Go.Addr renaming add_lit->BQ
open Go.Builtin renaming copy_->BI,firstCells->BW,zeroCells->B4,append_->B5
open Go.IntKind renaming wrap_i64->BL
open Go.Value renaming ownBlock->BV
open Go.World renaming cell?->B7
open List renaming length_append->BE,length_take->BF,length_drop->BH,size_toArray->BK,getElem?_eq_some_iff->BM,append_assoc->BN,take_left'->BP,mem_of_mem_drop->BU,getElem?_take->BX,getElem?_drop->BY,take_take->B6
open Nat renaming mul_le_mul_right->BD,add_mul->BG,min_eq_left->BO,sub_mul->BS,min_def->BT,min->BZ,zero_add->B3
namespace Go.Proofs.YtaegajachoklkaaGreatEv
open Go Go.Proofs Go.Shelf Go.RowKit Go.Lib
theorem run_copy_rowN {P:Program}(w:World)(O Z ty y:TypeId)(i:TypeInfo)(Y:P.info? y=some i)(g o r J:Nat)(a:Addr)(u H:Nat)(cur:Array Value)(t:TypeId)(cs:List Value)
  (X:P.underlying O=some (.slice y)) (hg:w.heap[g]?=some (.cells cur t (0,0))) (hn:cs.length=BZ u r*i.size)
  (I:∀ j v,cs[j]?=some v->w.cell? (a.add j)=some v) (z:o+cs.length<=cur.size) (h1:∀ v∈cs,v.oneCell'=true) :
  (BI #[O,Z] ty #[.slice (some ⟨g,o,none⟩) r J,.slice (some a) u H]).run P w =
   .ok (goInt (BZ u r)) (w.setRow g (cur.toList.take o++cs++cur.toList.drop (o+cs.length)).toArray):=by
 have R:=run_loadCells_list (P:=P) w a cs I;have M:=run_storeCells_at P g o t cs 0 cur w hg (by simpa using z) h1;simp[BI,run_underlying X,Builtin.lenOf,BW,sizeOf,typeInfo,Y,<- hn,R,M]
def InsNil (P:Program)(F E C B:Nat):Prop :=
 ∀ (w:World) (i:TypeInfo) (z:Value) (Z:P.info? E=some i) (hz:i.zero=some z) (hs:i.size=C) (hb:i.bytes=B) (R:z.cells.size=C) (M m O:Nat) (r:List Value) (Y:r.length=m*C) (I:∀ j u,r[j]?=some u->w.cell? ⟨M,0+j,none⟩=some u) (h1:∀ u∈r,u.oneCell'=true) (hm:0<m) (X:m<=maxLen) (y:m*B<=140737488355328),
  Calls P F #[.slice none 0 0,.int .i64 0,.slice (some ⟨M,0,none⟩) m O] w λe J =>
   ∃ H,e=.returned H/\Row J E C H m r/\w.grownBy J none/\H.ownBlock=some w.heap.size
def InsEnd (P:Program)(F E C B:Nat):Prop :=
 ∀ (w:World) (g n H:Nat) (y:List Value) (i:TypeInfo) (z:Value) (hi:P.info? E=some i) (hz:i.zero=some z) (hs:i.size=C) (hb:i.bytes=B) (Z:z.cells.size=C) (R:Row w E C (.slice (some ⟨g,0,none⟩) n H) n y) (a1:n<=H) (X m Y:Nat) (r:List Value) (hl:r.length=m*C) (M:∀ j u,r[j]?=some u->w.cell? ⟨X,0+j,none⟩=some u) (h1:∀ u∈r,u.oneCell'=true) (hm:0<m) (a0:n+m<=maxLen) (J:(n+m)*B<=140737488355328),
  Calls P F #[.slice (some ⟨g,0,none⟩) n H,.int .i64 n,.slice (some ⟨X,0,none⟩) m Y] w λe O =>
   ∃ I,e=.returned I/\Row O E C I (n+m) (y++r)/\w.grownBy O (some g)/\(I.ownBlock=some g\/I.ownBlock=some w.heap.size)
def InsShift (P:Program)(F E C B:Nat):Prop :=
 ∀ (w:World) (g n z i:Nat) (I:Array Value) (r:List Value) (J:TypeInfo) (hi:P.info? E=some J) (hs:J.size=C) (hg:w.heap[g]?=some (.cells I E (0,0))) (a1:z<=maxLen) (a4:z*C<=I.size) (X:I.toList.take (n*C)=r) (a5:r.length=n*C) (Z:∀ u∈r,u.oneCell'=true) (O m vc:Nat) (M:Array Value) (y:List Value) (a0:w.heap[O]?=some (.cells M E (0,0))) (a3:O≠g) (hl:y.length=m*C) (Y:∀ j u,y[j]?=some u->w.cell? ⟨O,0+j,none⟩=some u) (h1:∀ u∈y,u.oneCell'=true) (hm:0<m) (a2:i<n) (R:n+m<=z),
  Calls P F #[.slice (some ⟨g,0,none⟩) n z,.int .i64 i,.slice (some ⟨O,0,none⟩) m vc] w λe w' =>
   e=.returned (.slice (some ⟨g,0,none⟩) (n+m) z)/\∃ H:Array Value,w'=w.drew.setRow g H/\H.size=I.size/\H.toList.take ((n+m)*C)=r.take (i*C)++y++r.drop (i*C)
def InsGrow (P:Program)(F E C B:Nat):Prop :=
 ∀ (w:World) (g n J i:Nat) (r:List Value) (I:TypeInfo) (z:Value) (hi:P.info? E=some I) (hz:I.zero=some z) (hs:I.size=C) (hb:I.bytes=B) (a2:z.cells.size=C) (a6:g<w.heap.size) (X:∀ j u,r[j]?=some u->w.cell? ⟨g,j,none⟩=some u) (a9:r.length=n*C) (a0:∀ u∈r,u.oneCell'=true) (Z m vc:Nat) (y:List Value) (a3:Z<w.heap.size) (hl:y.length=m*C) (Y:∀ j u,y[j]?=some u->w.cell? ⟨Z,0+j,none⟩=some u) (h1:∀ u∈y,u.oneCell'=true) (hm:0<m) (a1:i<n) (a5:n<=J) (R:J<n+m) (a4:n+m<=maxLen) (O:(n+m)*B<=140737488355328),
  Calls P F #[.slice (some ⟨g,0,none⟩) n J,.int .i64 i,.slice (some ⟨Z,0,none⟩) m vc] w λe M =>
   ∃ G,n+m<=G/\G<=maxLen/\e=.returned (.slice (some ⟨w.heap.size,0,none⟩) (n+m) G)/\∃ H:Array Value,M.heap[w.heap.size]?=some (.cells H E (0,0))/\G*C<=H.size/\H.toList.take ((n+m)*C)=r.take (i*C)++y++r.drop (i*C) /\
    M.heap.size=w.heap.size+1/\M.os=w.os/\M.tape=w.tape/\M.output=w.output/\∀ k,k<w.heap.size->M.heap[k]?=w.heap[k]?
def ShiftGo (P:Program)(F S E C:Nat):Prop :=
 ∀ (w:World) (g n u i:Nat) (I:Array Value) (z:TypeInfo) (J m R:Nat) (H r y:Array Value),P.info? E=some z->z.size=C->w.heap[g]?=some (.cells I E (0,0))->w.heap[J]?=some (.cells H E (0,0))->J≠g->0<m->i<n->n+m<=u->I.size≠0 ->
  ¬ ((m:Int)=0)->¬ ((i:Int)=(n:Int))->u<=9223372036854775807->IntKind.i64.wrap ((i:Int)+(m:Int))=(i:Int)+(m:Int)->IntKind.i64.wrap ((n:Int)+(m:Int))=(n:Int)+(m:Int)->(0:Int)<=(i:Int)+(m:Int)->((i:Int)+(m:Int)).toNat=i+m->((n:Int)+(m:Int)).toNat=n+m->(i:Int)<=(n:Int)+(m:Int)->¬ (u=i+m)->i<=n->¬ (u=i) ->
  (∀ M O Y,(BI #[S,S] M #[.slice (some ⟨g,(i+m)*C,none⟩) (n+m-(i+m)) O,.slice (some ⟨g,i*C,none⟩) (n+m-i) Y]).run P w.drew=.ok (goInt (n-i:Nat)) (w.drew.setRow g r))->(∀ M O,(BI #[S,S] M #[.slice (some ⟨g,i*C,none⟩) (n+m-i) O,.slice (some ⟨J,0,none⟩) m R]).run P (w.drew.setRow g r)=.ok (goInt (m:Nat)) ((w.drew.setRow g r).setRow g y)) ->
  Calls P F #[.slice (some ⟨g,0,none⟩) n u,.int .i64 i,.slice (some ⟨J,0,none⟩) m R] w λe X=>e=.returned (.slice (some ⟨g,0,none⟩) (n+m) u)/\X=(w.drew.setRow g r).setRow g y
theorem shift_p {P:Program}{F S E C B:Nat}(t39:P.underlying S=some (.slice E))(hC:1<C)(go:ShiftGo P F S E C):InsShift P F E C B:=by
 intro w g n z i y u a0 hi hs hg bn cp R a2 b9 vb m vc a6 I c2 b4 hl a1 h1 hm c3 O;have k1:(n+m)*C=n*C+m*C:=BG ..;have k2:(i+m)*C=i*C+m*C:=BG ..;have k3:(n-i)*C=n*C-i*C:=BS ..;have k4:i*C<=n*C:=BD _ (by omega);have bl:¬ ((m:Int)=0):=by omega
 have cc:¬ ((i:Int)=(n:Int)):=by omega
 have a3:z<=9223372036854775807:=by simp only[maxLen]at bn;omega
 have ba:IntKind.i64.wrap ((i:Int)+(m:Int))=(i:Int)+(m:Int):=by rw[BL];omega
 have c0:IntKind.i64.wrap ((n:Int)+(m:Int))=(n:Int)+(m:Int):=by rw[BL];omega
 have c4:(0:Int)<=(i:Int)+(m:Int):=by omega
 have bx:((i:Int)+(m:Int)).toNat=i+m:=by omega
 have b0:((n:Int)+(m:Int)).toNat=n+m:=by omega
 have c1:(i:Int)<=(n:Int)+(m:Int):=by omega
 have b5:¬ (z=i+m):=by omega
 have cb:i<=n:=by omega
 have bb:¬ (z=i):=by omega
 have X:(u.drop (i*C)).length=(n-i)*C:=by rw[BH,a2,<- BS]
 have Z:∀ j,j<n*C->u[j]?=y[j]?:=λj hj=>by rw[<- R,BX,if_pos hj];exact Array.getElem?_toList ..
 have a5:BZ (n+m-i) (n+m-(i+m))=n-i:=by simp only[BT];split <;> omega
 have b2:BZ m (n+m-i)=m:=by simp only[BT];split <;> omega
 obtain⟨r,H⟩:∃ c:Array Value,c=(y.toList.take ((i+m)*C)++u.drop (i*C)++y.toList.drop ((i+m)*C+(u.drop (i*C)).length)).toArray:=⟨_,rfl⟩;have b1:(i+m)*C+(n-i)*C<=y.size:=by
  have:(n+m)*C<=z*C:=BD _ O;omega
 have a4:r.size=y.size:=by
  rw[H];simp only[BK,BE,BF,BH,BJ,a2];omega
 obtain⟨J,M⟩:∃ c:Array Value,c=(r.toList.take (i*C)++I++r.toList.drop (i*C+I.length)).toArray:=⟨_,rfl⟩;have a9:∀ ty dc sc,(BI #[S,S] ty #[.slice (some ⟨g,(i+m)*C,none⟩) (n+m-(i+m)) dc,.slice (some ⟨g,i*C,none⟩) (n+m-i) sc]).run P w.drew=.ok (goInt (n-i:Nat)) (w.drew.setRow g r):=λty dc sc=>by
  have:=run_copy_rowN (P:=P) w.drew S S ty E a0 hi g ((i+m)*C) (n+m-(i+m)) dc ⟨g,i*C,none⟩ (n+m-i) sc y E (u.drop (i*C)) t39 hg (by rw[X,a5,hs])
   (λj v hj=>by
    rw[BQ];have b3:=(BM.1 hj).1;rw[X]at b3;rw[BY]at hj;rw[show w.drew.cell? ⟨g,i*C+j,none⟩=w.cell? ⟨g,i*C+j,none⟩ from rfl,cell_of_row w g _ y E (0,0) hg,<- Z _ (by rw[BS]at b3;omega)];exact hj)
   (by rw[X];exact b1) (λv hv=>b9 v (BU hv))
  rw[a5,<- H]at this;exact this
 have ad:∀ ty dc,(BI #[S,S] ty #[.slice (some ⟨g,i*C,none⟩) (n+m-i) dc,.slice (some ⟨vb,0,none⟩) m vc]).run P (w.drew.setRow g r)=.ok (goInt (m:Nat)) ((w.drew.setRow g r).setRow g J):=λty dc=>by
  have:=run_copy_rowN (P:=P) (w.drew.setRow g r) S S ty E a0 hi g (i*C) (n+m-i) dc ⟨vb,0,none⟩ m vc r E I t39 (setRow_heap w.drew g y r E (0,0) hg) (by rw[hl,b2,hs])
   (λj v hj=>by
    rw[BQ,cell_setRow_other _ _ _ _ b4];exact a1 j v hj)
   (by rw[hl,a4,<- BG];have:(i+m)*C<=z*C:=BD _ (by omega);omega) h1
  rw[b2,<- M]at this;exact this
 have Y:J.size=y.size/\J.toList.take ((n+m)*C)=u.take (i*C)++I++u.drop (i*C):=by
  refine⟨?_,?_⟩
  ·rw[M];simp only[BK,BE,BF,BH,BJ,hl,a4];have:(i+m)*C<=z*C:=BD _ (by omega);omega
  ·have ha:r.toList.take (i*C)=u.take (i*C):=by
    rw[H,<- R,B6,BO (BD _ (by omega)),BN];simp only[List.take_append_of_le_length (show i*C<=(y.toList.take ((i+m)*C)).length by simp only[BF,BJ];have:(i+m)*C<=z*C:=BD _ (by omega);omega),B6];rw[BO (by omega)]
   have hb:r.toList.drop (i*C+I.length)=u.drop (i*C)++y.toList.drop ((i+m)*C+(u.drop (i*C)).length):=by
    rw[H,hl,<- BG,BN];exact List.drop_left' (by simp only[BF,BJ];have:(i+m)*C<=z*C:=BD _ (by omega);omega)
   rw[M,ha,hb];simp only[<- BN];exact BP (by simp only[BE,BF,a2,hl,X];rw[BO (BD _ (by omega))];omega)
 have k5:1*C<=z*C:=BD _ (by omega);refine (go w g n z i y a0 vb m vc a6 r J hi hs hg c2 b4 hm c3 O (by omega) bl cc a3 ba c0 c4 bx b0 c1 b5 cb bb a9 ad).mono λe w' h=>?_
 exact⟨h.1,J,h.2.trans (setRow_setRow _ _ _ _),Y.1,Y.2⟩
def GrowGo (P:Program)(F S E C:Nat):Prop :=
 ∀ (w:World) (g n u i:Nat) (J m I G:Nat) (ROW r y:Array Value),0<m->i<n->n<=u->u<n+m->n+m<=G ->
  ¬ ((m:Int)=0)->¬ ((i:Int)=(n:Int))->(u:Int)<(n:Int)+(m:Int)->n+m<=9223372036854775807->G<=9223372036854775807->¬ (G=i)->¬ (G=i+m)->¬ (u=i)->IntKind.i64.wrap ((i:Int)+(m:Int))=(i:Int)+(m:Int)->IntKind.i64.wrap ((n:Int)+(m:Int))=(n:Int)+(m:Int)->IntKind.i64.wrap ((n:Int)+(m:Int)-(i:Int))=(n:Int)+(m:Int)-(i:Int)->(0:Int)<=(i:Int)+(m:Int)->i<=n->((i:Int)+(m:Int)).toNat=i+m->(i:Int)<=(n:Int) ->
  (∀ z,(B5 #[S,3] z #[.slice (some ⟨g,0,none⟩) i u,.int .i64 ((n:Int)+(m:Int)-(i:Int))]).run P w =
   .ok (.slice (some ⟨w.heap.size,0,none⟩) (n+m) G) (w.drew.alloc (.cells ROW E)))->(∀ z H,(BI #[S,S] z #[.slice (some ⟨w.heap.size,i*C,none⟩) (n+m-i) H,.slice (some ⟨J,0,none⟩) m I]).run P ((w.alloc (.cells ROW E)).drew)=.ok (goInt (m:Nat)) (((w.alloc (.cells ROW E)).drew).setRow w.heap.size r))->(∀ z H O,(BI #[S,S] z #[.slice (some ⟨w.heap.size,(i+m)*C,none⟩) (n+m-(i+m)) H,.slice (some ⟨g,i*C,none⟩) (n-i) O]).run P (((w.alloc (.cells ROW E)).drew.setRow w.heap.size r).drew)=.ok (goInt (n-i:Nat)) ((((w.alloc (.cells ROW E)).drew.setRow w.heap.size r).drew).setRow w.heap.size y)) ->
  Calls P F #[.slice (some ⟨g,0,none⟩) n u,.int .i64 i,.slice (some ⟨J,0,none⟩) m I] w λe M=>e=.returned (.slice (some ⟨w.heap.size,0,none⟩) (n+m) G)/\M=((((w.alloc (.cells ROW E)).drew.setRow w.heap.size r).drew).setRow w.heap.size y)
theorem grow_p {P:Program}{F S E C B:Nat}(t39:P.underlying S=some (.slice E))(t3:P.underlying 3=some (.int .i64))(hC:1<C)(go:GrowGo P F S E C):InsGrow P F E C B:=by
 intro w g n H i r a2 z hi hz hs hb e7 ec R a9 cb vb m vc y d1 hl a6 h1 hm e2 cu X ba a3;have k1:(n+m)*C=n*C+m*C:=BG ..;have k2:(i+m)*C=i*C+m*C:=BG ..;have k3:(n-i)*C=n*C-i*C:=BS ..;have k4:i*C<=n*C:=BD _ (by omega);have cy:¬ ((m:Int)=0):=by omega
 have ed:¬ ((i:Int)=(n:Int)):=by omega
 have e0:(H:Int)<(n:Int)+(m:Int):=by omega
 have b0:n+m<=9223372036854775807:=by simp only[maxLen]at ba;omega
 have cx:(n:Int)+(m:Int)-(i:Int)=((n+m-i:Nat):Int):=by omega
 have bb:i+(n+m-i)=n+m:=by omega
 have e5:i*C<=n*C:=BD _ (by omega);have O:(r.take (i*C)).length=i*C:=by rw[BF,a9];exact BO e5
 have bl:(BW a2.size i (.slice (some ⟨g,0,none⟩) i H)).run P w.drew=.ok (r.take (i*C)).toArray w.drew:=by
  rw[hs];exact run_firstCells_some w.drew C i ⟨g,0,none⟩ i H (r.take (i*C)) O (λj v hj=>by
   rw[BQ,B3];rw[BX]at hj;split at hj
   ·exact R j v hj
   ·cases hj)
 obtain⟨G,hG⟩:∃ G,G=grownCap w (n+m) H E:=⟨_,rfl⟩;obtain⟨ROW,Z⟩:∃ ROW:Array Value,ROW=(r.take (i*C)).toArray++B4 z.cells (n+m-i)++B4 z.cells (G-(n+m)):=⟨_,rfl⟩;have e3:∀ Y,(B5 #[S,3] Y #[.slice (some ⟨g,0,none⟩) i H,.int .i64 ((n:Int)+(m:Int)-(i:Int))]).run P w =
   .ok (.slice (some ⟨w.heap.size,0,none⟩) (n+m) G) (w.drew.alloc (.cells ROW E)):=λY=>by
  have h:=Lib.run_append_grow_zeros w S 3 Y E a2 z .i64 .i64 t39 t3 hi hz (some ⟨g,0,none⟩) i H (r.take (i*C)) bl (n+m-i) (by omega) (by omega) (by omega) (by omega)
   (by rw[hb];have:(n+m-i)*B<=(n+m)*B:=BD _ (by omega);omega) (by rw[hb,bb];exact growslice_fits X a3)
  rw[bb,<- hG,<- Z]at h;rw[cx];exact h
 have a5:n+m<=G:=by rw[hG];exact grownCap_ge w _ _ _
 have c3:G<=maxLen:=by rw[hG];exact grownCap_le_maxLen w (n+m) H E ba
 have c1:G<=9223372036854775807:=by unfold maxLen at c3;omega
 have a0:ROW.size=G*C:=by
  rw[Z];simp only[Array.size_append,BK,size_zeroCells,e7,O,<- BG];rw[show i+(n+m-i)+(G-(n+m))=G by omega]
 obtain⟨u,M⟩:∃ c:Array Value,c=(ROW.toList.take (i*C)++y++ROW.toList.drop (i*C+y.length)).toArray:=⟨_,rfl⟩;obtain⟨I,J⟩:∃ c:Array Value,c=(u.toList.take ((i+m)*C)++r.drop (i*C)++u.toList.drop ((i+m)*C+(r.drop (i*C)).length)).toArray:=⟨_,rfl⟩;have ef:(n+m)*C<=G*C:=BD _ a5;have a4:(r.drop (i*C)).length=(n-i)*C:=by rw[BH,a9,<- BS]
 have b3:u.size=ROW.size:=by
  rw[M];simp only[BK,BE,BF,BH,BJ,hl,a0];omega
 have cw:I.size=ROW.size:=by
  rw[J];simp only[BK,BE,BF,BH,BJ,a9,b3,a0];omega
 have a1:ROW.toList.take (i*C)=r.take (i*C):=by
  rw[Z];simp only[Array.toList_append,BN];exact BP O
 have b9:I.toList.take ((n+m)*C)=r.take (i*C)++y++r.drop (i*C):=by
  have e1:u.toList.take ((i+m)*C)=r.take (i*C)++y:=by
   rw[M,a1];show List.take ((i+m)*C) (r.take (i*C)++y++ROW.toList.drop (i*C+y.length))=_;exact BP (by rw[BE,O,hl,<- BG])
  rw[J,e1];show List.take ((n+m)*C) (r.take (i*C)++y++r.drop (i*C)++_)=_;exact BP (by rw[BE,BE,O,hl,a4,<- BG,<- BG,show i+m+(n-i)=n+m by omega])
 have b5:BZ m (n+m-i)=m:=by simp only[BT];split <;> omega
 have bn:BZ (n-i) (n+m-(i+m))=n-i:=by simp only[BT];split <;> omega
 have b1:∀ (W:World),W.heap[w.heap.size]?=some (.cells ROW E (0,0))->(∀ k,k<w.heap.size->W.heap[k]?=w.heap[k]?)->∀ Y dc,(BI #[S,S] Y #[.slice (some ⟨w.heap.size,i*C,none⟩) (n+m-i) dc,.slice (some ⟨vb,0,none⟩) m vc]).run P W=.ok (goInt (m:Nat)) (W.setRow w.heap.size u):=λW hW hk Y dc=>by
  have:=run_copy_rowN (P:=P) W S S Y E a2 hi w.heap.size (i*C) (n+m-i) dc ⟨vb,0,none⟩ m vc ROW E y t39 hW (by rw[hl,b5,hs])
   (λj v hj=>by
    rw[BQ];have:=a6 j v hj;unfold B7 at this ⊢;rw[hk vb d1];exact this)
   (by rw[hl,a0,<- BG];exact BD _ (by omega)) h1
  rw[b5,<- M]at this;exact this
 have bx:∀ (W:World),W.heap[w.heap.size]?=some (.cells u E (0,0))->(∀ k,k<w.heap.size->W.heap[k]?=w.heap[k]?)->∀ Y dc sc,(BI #[S,S] Y #[.slice (some ⟨w.heap.size,(i+m)*C,none⟩) (n+m-(i+m)) dc,.slice (some ⟨g,i*C,none⟩) (n-i) sc]).run P W=.ok (goInt (n-i:Nat)) (W.setRow w.heap.size I):=λW hW hk Y dc sc=>by
  have:=run_copy_rowN (P:=P) W S S Y E a2 hi w.heap.size ((i+m)*C) (n+m-(i+m)) dc ⟨g,i*C,none⟩ (n-i) sc u E (r.drop (i*C)) t39 hW (by rw[a4,bn,hs])
   (λj v hj=>by
    rw[BQ];rw[BY]at hj;have:=R _ v hj;unfold B7 at this ⊢;rw[hk g ec];exact this)
   (by rw[a4,b3,a0,<- BG];exact BD _ (by omega)) (λv hv=>cb v (BU hv))
  rw[bn,<- J]at this;exact this
 have ad:((w.alloc (.cells ROW E)).drew).heap[w.heap.size]?=some (.cells ROW E (0,0)):=heap_alloc_new w _;have c0:∀ k,k<w.heap.size->((w.alloc (.cells ROW E)).drew).heap[k]?=w.heap[k]?:=λk hk=>Go.heap_alloc_old w _ hk
 have c2:(((w.alloc (.cells ROW E)).drew.setRow w.heap.size u).drew).heap[w.heap.size]?=some (.cells u E (0,0)):=setRow_heap (w.alloc (.cells ROW E)).drew w.heap.size ROW u E (0,0) ad;have b2:∀ k,k<w.heap.size->(((w.alloc (.cells ROW E)).drew.setRow w.heap.size u).drew).heap[k]?=w.heap[k]?:=λk hk=>(setRow_other (w.alloc (.cells ROW E)).drew w.heap.size k u (by omega)).trans (c0 k hk)
 have eb:¬ (G=i):=by omega
 have c4:¬ (G=i+m):=by omega
 have cp:¬ (H=i):=by omega
 have cc:IntKind.i64.wrap ((i:Int)+(m:Int))=(i:Int)+(m:Int):=by rw[BL];omega
 have d3:IntKind.i64.wrap ((n:Int)+(m:Int))=(n:Int)+(m:Int):=by rw[BL];omega
 have e6:IntKind.i64.wrap ((n:Int)+(m:Int)-(i:Int))=(n:Int)+(m:Int)-(i:Int):=by rw[BL];omega
 have e4:(0:Int)<=(i:Int)+(m:Int):=by omega
 have b4:i<=n:=by omega
 have d2:((i:Int)+(m:Int)).toNat=i+m:=by omega
 have dd:(i:Int)<=(n:Int):=by omega
 refine (go w g n H i vb m vc G ROW u I hm e2 cu X a5 cy ed e0 b0 c1 eb c4 cp cc d3 e6 e4 b4 d2 dd e3 (b1 _ ad c0) (bx _ c2 b2)).mono λe w' h=>?_
 obtain⟨h1,rfl⟩:=h;exact⟨G,a5,c3,h1,I,setRow_heap _ _ _ _ _ _ c2,by rw[cw,a0];exact Nat.le_refl _,b9,by simp,rfl,rfl,rfl,λk hk=>(setRow_other _ _ _ _ (by omega)).trans (b2 k hk)⟩
theorem ins_walk {P:Program}{F E C B:Nat}(q1:(P.info? E).isSome=true)(q2:(P.info? E).map (λi=>i.size)=some C)(q3:(P.info? E).map (λi=>i.bytes)=some B)(q4:((P.info? E).bind λi=>i.zero).map (λz=>z.cells.size)=some C)
  (hC:1<C) (hB:0<B) (ins_nil:InsNil P F E C B) (ins_end:InsEnd P F E C B) (ins_shift:InsShift P F E C B) (ins_grow:InsGrow P F E C B):lR P F E C B:=by
 intro w v0 v2 n m i y I r0 r2 o0 o2 hm b3 b5 Y;have k1:(n+m)*C=n*C+m*C:=BG ..;have ba:=r2;obtain⟨J,h2⟩:=r2;rcases h2 with ⟨_,h⟩|⟨vb,vc,ad,mk,rfl,b2,cu,b4,cc,cw⟩
 ·omega
 obtain⟨rfl,_⟩:=b4.elim id (λh=>absurd h.1 (by omega));have r:∀ j u,I[j]?=some u->w.cell? ⟨vb,0+j,none⟩=some u:=λj u hj=>by
  rw[B3,ba.cellAt j (by rw[<- J];exact (BM.1 hj).1)];exact hj
 have kB:n+m<=(n+m)*B:=Nat.le_mul_of_pos_right _ hB;have b1:n+m<=maxLen:=by unfold maxLen;omega
 obtain⟨O,hi⟩:=Option.isSome_iff_exists.1 q1;rw[hi]at q2 q3 q4;have hs:O.size=C:=by simpa using q2
 have hb:O.bytes=B:=by simpa using q3
 simp only[Option.bind_some,Option.map_eq_some_iff]at q4;obtain⟨z,hz,a3⟩:=q4;have bn:vb<w.heap.size:=(BR.1 b2).1;have a5:=r0;obtain⟨M,h0⟩:=r0;rcases h0 with ⟨rfl,h0⟩|⟨g,X,b0,mk,rfl,hg,a6,bl,a9,a4⟩
 ·subst h0;have:i=0:=by omega
  subst this;have hf:y=[]:=List.eq_nil_of_length_eq_zero (by simpa using M);subst hf;refine (ins_nil w O z hi hz hs hb a3 vb m vc I J r o2 hm (by omega) (by rw[B3]at Y;exact Y)).mono λe w' h=>?_
  obtain⟨v',e1,h1,h2,h3⟩:=h;exact⟨v',e1,by simpa using h1,h2,.inr h3⟩
 ·obtain⟨rfl,Z⟩:=bl.elim id (λh=>absurd h.1 (by omega));have cb:g<w.heap.size:=(BR.1 hg).1;have c4:vb≠g:=λh=>b5 g (by simp[BV]) (by simp[BV,h])
  have a0:∀ j u,y[j]?=some u->w.cell? ⟨g,j,none⟩=some u:=λj u hj=>by
   rw[a5.cellAt j (by rw[<- M];exact (BM.1 hj).1)];exact hj
  by_cases hn:i=n
  ·subst hn;refine (ins_end w g i X y O z hi hz hs hb a3 a5 a6 vb m vc I J r o2 hm b1 Y).mono λe w' h=>?_
   obtain⟨v',e1,h1,h2,h3⟩:=h;refine⟨v',e1,?_,h2,h3⟩;rw[List.take_of_length_le (by omega),List.drop_of_length_le (by omega),List.append_nil];exact h1
  ·by_cases R:n+m<=X
   ·refine (ins_shift w g n X i b0 y O hi hs hg Z a9 a4 M o0 vb m vc ad I b2 c4 J r o2 hm (by omega) R).mono λe w' h=>?_
    obtain⟨e1,H,rfl,a2,a1⟩:=h;refine⟨_,e1,⟨?_,.inr ⟨g,X,H,_,rfl,setRow_heap w.drew g b0 H E (0,0) hg,R,.inl ⟨rfl,Z⟩,by rw[a2];exact a9,a1⟩⟩,⟨rfl,rfl,rfl,by simp,λk _ hk=>setRow_other w.drew g k H (λh=>hk (by simp[BV,h]))⟩,.inl rfl⟩;simp only[BE,BF,BH,M,J];have:i*C<=n*C:=BD _ b3;omega
   ·refine (ins_grow w g n X i y O z hi hz hs hb a3 cb a0 M o0 vb m vc I bn J r o2 hm (by omega) a6 (by omega) b1 Y).mono λe w' h=>?_
    obtain⟨G,bb,c0,e1,H,a2,a1,c2,cp,c3,c1,bx,hk⟩:=h;refine⟨_,e1,⟨?_,.inr ⟨w.heap.size,G,H,_,rfl,a2,bb,.inl ⟨rfl,c0⟩,a1,c2⟩⟩,⟨c3,c1,bx,by omega,λk b9 _=>hk k b9⟩,.inr rfl⟩;simp only[BE,BF,BH,M,J];have:i*C<=n*C:=BD _ b3;omega
end Go.Proofs.YtaegajachoklkaaGreatEv
