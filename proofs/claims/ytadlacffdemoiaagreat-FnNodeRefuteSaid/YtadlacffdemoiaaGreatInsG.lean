/- slices.Insert: what its walk needs, for any element. -/
import Derived.Test.YtadlacffdemoiaaGreatEvQ
import Derived.Test.YtadlacffdemoiaaGreatE6
import Derived.Shelf.Spec.SlicesInsert
import Derived.Laws.CopyRow
import Derived.Lib.AppendZerosOnto
set_option linter.unusedVariables false
set_option maxRecDepth 100000
set_option linter.unusedVariables false
set_option linter.unusedSimpArgs false
open Array renaming length_toList->BG,getElem?_eq_some_iff->BO
open Go.Addr renaming add_lit->BN
open Go.Builtin renaming copy_->BF,firstCells->BT,zeroCells->BY,append_->BZ
open Go.IntKind renaming wrap_i64->BI
open Go.Value renaming ownBlock->BS
open Go.World renaming cell?->Bv
open List renaming length_append->BB,length_take->BC,length_drop->BE,size_toArray->BH,getElem?_eq_some_iff->BJ,append_assoc->BK,take_left'->BM,mem_of_mem_drop->BR,getElem?_take->BU,getElem?_drop->BV,take_take->Bu
open Nat renaming mul_le_mul_right->BA,add_mul->BD,min_eq_left->BL,sub_mul->BP,min_def->BQ,min->BW,zero_add->BX
namespace Go.Proofs.YtadlacffdemoiaaGreatEv
open Go Go.Proofs Go.Shelf Go.RowKit Go.Lib
theorem run_copy_rowN {P:Program}(w:World)(O X ty y:TypeId)(i:TypeInfo)(hi:P.info? y=some i)(g o u I:Nat)(a:Addr)(r H:Nat)(cur:Array Value)(t:TypeId)(cs:List Value)
  (R:P.underlying O=some (.slice y)) (hg:w.heap[g]?=some (.cells cur t (0,0))) (hn:cs.length=BW r u*i.size)
  (J:∀ j v,cs[j]?=some v->w.cell? (a.add j)=some v) (z:o+cs.length<=cur.size) (Z:∀ v∈cs,v.oneCell'=true) :
  (BF #[O,X] ty #[.slice (some ⟨g,o,none⟩) u I,.slice (some a) r H]).run P w =
   .ok (goInt (BW r u)) (w.setRow g (cur.toList.take o++cs++cur.toList.drop (o+cs.length)).toArray):=by
 have Y:=run_loadCells_list (P:=P) w a cs J;have M:=run_storeCells_at P g o t cs 0 cur w hg (by simpa using z) Z;simp[BF,run_underlying R,Builtin.lenOf,BT,sizeOf,typeInfo,hi,<- hn,Y,M]
def InsNil (P:Program)(F E C B:Nat):Prop :=
 ∀ (w:World) (i:TypeInfo) (z:Value) (hi:P.info? E=some i) (hz:i.zero=some z) (hs:i.size=C) (hb:i.bytes=B) (X:z.cells.size=C) (M m O:Nat) (r:List Value) (Z:r.length=m*C) (H:∀ j u,r[j]?=some u->w.cell? ⟨M,0+j,none⟩=some u) (h1:∀ u∈r,u.oneCell'=true) (Y:0<m) (R:m<=maxLen) (y:m*B<=140737488355328),
  Calls P F #[.slice none 0 0,.int .i64 0,.slice (some ⟨M,0,none⟩) m O] w λe J =>
   ∃ I,e=.returned I/\Row J E C I m r/\w.grownBy J none/\I.ownBlock=some w.heap.size
def InsEnd (P:Program)(F E C B:Nat):Prop :=
 ∀ (w:World) (g n H:Nat) (y:List Value) (i:TypeInfo) (z:Value) (hi:P.info? E=some i) (hz:i.zero=some z) (hs:i.size=C) (hb:i.bytes=B) (a1:z.cells.size=C) (O:Row w E C (.slice (some ⟨g,0,none⟩) n H) n y) (Y:n<=H) (X m Z:Nat) (r:List Value) (hl:r.length=m*C) (M:∀ j u,r[j]?=some u->w.cell? ⟨X,0+j,none⟩=some u) (h1:∀ u∈r,u.oneCell'=true) (hm:0<m) (a0:n+m<=maxLen) (I:(n+m)*B<=140737488355328),
  Calls P F #[.slice (some ⟨g,0,none⟩) n H,.int .i64 n,.slice (some ⟨X,0,none⟩) m Z] w λe R =>
   ∃ J,e=.returned J/\Row R E C J (n+m) (y++r)/\w.grownBy R (some g)/\(J.ownBlock=some g\/J.ownBlock=some w.heap.size)
def InsShift (P:Program)(F E C B:Nat):Prop :=
 ∀ (w:World) (g n z i:Nat) (I:Array Value) (r:List Value) (J:TypeInfo) (hi:P.info? E=some J) (hs:J.size=C) (hg:w.heap[g]?=some (.cells I E (0,0))) (a5:z<=maxLen) (a2:z*C<=I.size) (R:I.toList.take (n*C)=r) (a0:r.length=n*C) (Z:∀ u∈r,u.oneCell'=true) (O m vc:Nat) (M:Array Value) (y:List Value) (a3:w.heap[O]?=some (.cells M E (0,0))) (a4:O≠g) (hl:y.length=m*C) (X:∀ j u,y[j]?=some u->w.cell? ⟨O,0+j,none⟩=some u) (h1:∀ u∈y,u.oneCell'=true) (hm:0<m) (a1:i<n) (Y:n+m<=z),
  Calls P F #[.slice (some ⟨g,0,none⟩) n z,.int .i64 i,.slice (some ⟨O,0,none⟩) m vc] w λe w' =>
   e=.returned (.slice (some ⟨g,0,none⟩) (n+m) z)/\∃ H:Array Value,w'=w.drew.setRow g H/\H.size=I.size/\H.toList.take ((n+m)*C)=r.take (i*C)++y++r.drop (i*C)
def InsGrow (P:Program)(F E C B:Nat):Prop :=
 ∀ (w:World) (g n J i:Nat) (r:List Value) (I:TypeInfo) (z:Value) (hi:P.info? E=some I) (hz:I.zero=some z) (hs:I.size=C) (hb:I.bytes=B) (a9:z.cells.size=C) (a6:g<w.heap.size) (X:∀ j u,r[j]?=some u->w.cell? ⟨g,j,none⟩=some u) (a2:r.length=n*C) (a0:∀ u∈r,u.oneCell'=true) (Y m vc:Nat) (y:List Value) (a4:Y<w.heap.size) (hl:y.length=m*C) (R:∀ j u,y[j]?=some u->w.cell? ⟨Y,0+j,none⟩=some u) (h1:∀ u∈y,u.oneCell'=true) (hm:0<m) (a3:i<n) (a1:n<=J) (Z:J<n+m) (a5:n+m<=maxLen) (O:(n+m)*B<=140737488355328),
  Calls P F #[.slice (some ⟨g,0,none⟩) n J,.int .i64 i,.slice (some ⟨Y,0,none⟩) m vc] w λe M =>
   ∃ G,n+m<=G/\G<=maxLen/\e=.returned (.slice (some ⟨w.heap.size,0,none⟩) (n+m) G)/\∃ H:Array Value,M.heap[w.heap.size]?=some (.cells H E (0,0))/\G*C<=H.size/\H.toList.take ((n+m)*C)=r.take (i*C)++y++r.drop (i*C) /\
    M.heap.size=w.heap.size+1/\M.os=w.os/\M.tape=w.tape/\M.output=w.output/\∀ k,k<w.heap.size->M.heap[k]?=w.heap[k]?
def ShiftGo (P:Program)(F S E C:Nat):Prop :=
 ∀ (w:World) (g n u i:Nat) (H:Array Value) (z:TypeInfo) (J m R:Nat) (I r y:Array Value),P.info? E=some z->z.size=C->w.heap[g]?=some (.cells H E (0,0))->w.heap[J]?=some (.cells I E (0,0))->J≠g->0<m->i<n->n+m<=u->H.size≠0 ->
  ¬ ((m:Int)=0)->¬ ((i:Int)=(n:Int))->u<=9223372036854775807->IntKind.i64.wrap ((i:Int)+(m:Int))=(i:Int)+(m:Int)->IntKind.i64.wrap ((n:Int)+(m:Int))=(n:Int)+(m:Int)->(0:Int)<=(i:Int)+(m:Int)->((i:Int)+(m:Int)).toNat=i+m->((n:Int)+(m:Int)).toNat=n+m->(i:Int)<=(n:Int)+(m:Int)->¬ (u=i+m)->i<=n->¬ (u=i) ->
  (∀ M O X,(BF #[S,S] M #[.slice (some ⟨g,(i+m)*C,none⟩) (n+m-(i+m)) O,.slice (some ⟨g,i*C,none⟩) (n+m-i) X]).run P w.drew=.ok (goInt (n-i:Nat)) (w.drew.setRow g r))->(∀ M O,(BF #[S,S] M #[.slice (some ⟨g,i*C,none⟩) (n+m-i) O,.slice (some ⟨J,0,none⟩) m R]).run P (w.drew.setRow g r)=.ok (goInt (m:Nat)) ((w.drew.setRow g r).setRow g y)) ->
  Calls P F #[.slice (some ⟨g,0,none⟩) n u,.int .i64 i,.slice (some ⟨J,0,none⟩) m R] w λe Y=>e=.returned (.slice (some ⟨g,0,none⟩) (n+m) u)/\Y=(w.drew.setRow g r).setRow g y
theorem shift_p {P:Program}{F S E C B:Nat}(t39:P.underlying S=some (.slice E))(hC:0<C)(go:ShiftGo P F S E C):InsShift P F E C B:=by
 intro w g n z i y u a2 hi hs hg bx cb O Z ba vb m vc a9 I bl a5 hl a0 h1 hm c6 R;have k1:(n+m)*C=n*C+m*C:=BD ..;have k2:(i+m)*C=i*C+m*C:=BD ..;have k3:(n-i)*C=n*C-i*C:=BP ..;have k4:i*C<=n*C:=BA _ (by omega);have c4:¬ ((m:Int)=0):=by omega
 have b9:¬ ((i:Int)=(n:Int)):=by omega
 have b3:z<=9223372036854775807:=by simp only[maxLen]at bx;omega
 have bb:IntKind.i64.wrap ((i:Int)+(m:Int))=(i:Int)+(m:Int):=by rw[BI];omega
 have c0:IntKind.i64.wrap ((n:Int)+(m:Int))=(n:Int)+(m:Int):=by rw[BI];omega
 have c1:(0:Int)<=(i:Int)+(m:Int):=by omega
 have c2:((i:Int)+(m:Int)).toNat=i+m:=by omega
 have b1:((n:Int)+(m:Int)).toNat=n+m:=by omega
 have bn:(i:Int)<=(n:Int)+(m:Int):=by omega
 have c5:¬ (z=i+m):=by omega
 have c3:i<=n:=by omega
 have b5:¬ (z=i):=by omega
 have X:(u.drop (i*C)).length=(n-i)*C:=by rw[BE,Z,<- BP]
 have a1:∀ j,j<n*C->u[j]?=y[j]?:=λj hj=>by rw[<- O,BU,if_pos hj];exact Array.getElem?_toList ..
 have a3:BW (n+m-i) (n+m-(i+m))=n-i:=by simp only[BQ];split <;> omega
 have b0:BW m (n+m-i)=m:=by simp only[BQ];split <;> omega
 obtain⟨r,H⟩:∃ c:Array Value,c=(y.toList.take ((i+m)*C)++u.drop (i*C)++y.toList.drop ((i+m)*C+(u.drop (i*C)).length)).toArray:=⟨_,rfl⟩;have ad:(i+m)*C+(n-i)*C<=y.size:=by
  have:(n+m)*C<=z*C:=BA _ R;omega
 have b2:r.size=y.size:=by
  rw[H];simp only[BH,BB,BC,BE,BG,Z];omega
 obtain⟨J,M⟩:∃ c:Array Value,c=(r.toList.take (i*C)++I++r.toList.drop (i*C+I.length)).toArray:=⟨_,rfl⟩;have a4:∀ ty dc sc,(BF #[S,S] ty #[.slice (some ⟨g,(i+m)*C,none⟩) (n+m-(i+m)) dc,.slice (some ⟨g,i*C,none⟩) (n+m-i) sc]).run P w.drew=.ok (goInt (n-i:Nat)) (w.drew.setRow g r):=λty dc sc=>by
  have:=run_copy_rowN (P:=P) w.drew S S ty E a2 hi g ((i+m)*C) (n+m-(i+m)) dc ⟨g,i*C,none⟩ (n+m-i) sc y E (u.drop (i*C)) t39 hg (by rw[X,a3,hs])
   (λj v hj=>by
    rw[BN];have b4:=(BJ.1 hj).1;rw[X]at b4;rw[BV]at hj;rw[show w.drew.cell? ⟨g,i*C+j,none⟩=w.cell? ⟨g,i*C+j,none⟩ from rfl,cell_of_row w g _ y E (0,0) hg,<- a1 _ (by rw[BP]at b4;omega)];exact hj)
   (by rw[X];exact ad) (λv hv=>ba v (BR hv))
  rw[a3,<- H]at this;exact this
 have a6:∀ ty dc,(BF #[S,S] ty #[.slice (some ⟨g,i*C,none⟩) (n+m-i) dc,.slice (some ⟨vb,0,none⟩) m vc]).run P (w.drew.setRow g r)=.ok (goInt (m:Nat)) ((w.drew.setRow g r).setRow g J):=λty dc=>by
  have:=run_copy_rowN (P:=P) (w.drew.setRow g r) S S ty E a2 hi g (i*C) (n+m-i) dc ⟨vb,0,none⟩ m vc r E I t39 (setRow_heap w.drew g y r E (0,0) hg) (by rw[hl,b0,hs])
   (λj v hj=>by
    rw[BN,cell_setRow_other _ _ _ _ a5];exact a0 j v hj)
   (by rw[hl,b2,<- BD];have:(i+m)*C<=z*C:=BA _ (by omega);omega) h1
  rw[b0,<- M]at this;exact this
 have Y:J.size=y.size/\J.toList.take ((n+m)*C)=u.take (i*C)++I++u.drop (i*C):=by
  refine⟨?_,?_⟩
  ·rw[M];simp only[BH,BB,BC,BE,BG,hl,b2];have:(i+m)*C<=z*C:=BA _ (by omega);omega
  ·have ha:r.toList.take (i*C)=u.take (i*C):=by
    rw[H,<- O,Bu,BL (BA _ (by omega)),BK];simp only[List.take_append_of_le_length (show i*C<=(y.toList.take ((i+m)*C)).length by simp only[BC,BG];have:(i+m)*C<=z*C:=BA _ (by omega);omega),Bu];rw[BL (by omega)]
   have hb:r.toList.drop (i*C+I.length)=u.drop (i*C)++y.toList.drop ((i+m)*C+(u.drop (i*C)).length):=by
    rw[H,hl,<- BD,BK];exact List.drop_left' (by simp only[BC,BG];have:(i+m)*C<=z*C:=BA _ (by omega);omega)
   rw[M,ha,hb];simp only[<- BK];exact BM (by simp only[BB,BC,Z,hl,X];rw[BL (BA _ (by omega))];omega)
 have k5:1*C<=z*C:=BA _ (by omega);refine (go w g n z i y a2 vb m vc a9 r J hi hs hg bl a5 hm c6 R (by omega) c4 b9 b3 bb c0 c1 c2 b1 bn c5 c3 b5 a4 a6).mono λe w' h=>?_
 exact⟨h.1,J,h.2.trans (setRow_setRow _ _ _ _),Y.1,Y.2⟩
def GrowGo (P:Program)(F S E C:Nat):Prop :=
 ∀ (w:World) (g n u i:Nat) (I m J G:Nat) (ROW r y:Array Value),0<m->i<n->n<=u->u<n+m->n+m<=G ->
  ¬ ((m:Int)=0)->¬ ((i:Int)=(n:Int))->(u:Int)<(n:Int)+(m:Int)->n+m<=9223372036854775807->G<=9223372036854775807->¬ (G=i)->¬ (G=i+m)->¬ (u=i)->IntKind.i64.wrap ((i:Int)+(m:Int))=(i:Int)+(m:Int)->IntKind.i64.wrap ((n:Int)+(m:Int))=(n:Int)+(m:Int)->IntKind.i64.wrap ((n:Int)+(m:Int)-(i:Int))=(n:Int)+(m:Int)-(i:Int)->(0:Int)<=(i:Int)+(m:Int)->i<=n->((i:Int)+(m:Int)).toNat=i+m->(i:Int)<=(n:Int) ->
  (∀ z,(BZ #[S,3] z #[.slice (some ⟨g,0,none⟩) i u,.int .i64 ((n:Int)+(m:Int)-(i:Int))]).run P w =
   .ok (.slice (some ⟨w.heap.size,0,none⟩) (n+m) G) (w.drew.alloc (.cells ROW E)))->(∀ z H,(BF #[S,S] z #[.slice (some ⟨w.heap.size,i*C,none⟩) (n+m-i) H,.slice (some ⟨I,0,none⟩) m J]).run P ((w.alloc (.cells ROW E)).drew)=.ok (goInt (m:Nat)) (((w.alloc (.cells ROW E)).drew).setRow w.heap.size r))->(∀ z H M,(BF #[S,S] z #[.slice (some ⟨w.heap.size,(i+m)*C,none⟩) (n+m-(i+m)) H,.slice (some ⟨g,i*C,none⟩) (n-i) M]).run P (((w.alloc (.cells ROW E)).drew.setRow w.heap.size r).drew)=.ok (goInt (n-i:Nat)) ((((w.alloc (.cells ROW E)).drew.setRow w.heap.size r).drew).setRow w.heap.size y)) ->
  Calls P F #[.slice (some ⟨g,0,none⟩) n u,.int .i64 i,.slice (some ⟨I,0,none⟩) m J] w λe O=>e=.returned (.slice (some ⟨w.heap.size,0,none⟩) (n+m) G)/\O=((((w.alloc (.cells ROW E)).drew.setRow w.heap.size r).drew).setRow w.heap.size y)
theorem grow_p {P:Program}{F S E C B:Nat}(t39:P.underlying S=some (.slice E))(t3:P.underlying 3=some (.int .i64))(hC:0<C)(go:GrowGo P F S E C):InsGrow P F E C B:=by
 intro w g n H i r a3 z hi hz hs hb e3 e7 R a4 cc vb m vc y e6 hl a6 h1 hm e5 c5 Y b4 a2;have k1:(n+m)*C=n*C+m*C:=BD ..;have k2:(i+m)*C=i*C+m*C:=BD ..;have k3:(n-i)*C=n*C-i*C:=BP ..;have k4:i*C<=n*C:=BA _ (by omega);have e4:¬ ((m:Int)=0):=by omega
 have c6:¬ ((i:Int)=(n:Int)):=by omega
 have cb:(H:Int)<(n:Int)+(m:Int):=by omega
 have c1:n+m<=9223372036854775807:=by simp only[maxLen]at b4;omega
 have cw:(n:Int)+(m:Int)-(i:Int)=((n+m-i:Nat):Int):=by omega
 have b5:i+(n+m-i)=n+m:=by omega
 have eb:i*C<=n*C:=BA _ (by omega);have O:(r.take (i*C)).length=i*C:=by rw[BC,a4];exact BL eb
 have ba:(BT a3.size i (.slice (some ⟨g,0,none⟩) i H)).run P w.drew=.ok (r.take (i*C)).toArray w.drew:=by
  rw[hs];exact run_firstCells_some w.drew C i ⟨g,0,none⟩ i H (r.take (i*C)) O (λj v hj=>by
   rw[BN,BX];rw[BU]at hj;split at hj
   ·exact R j v hj
   ·cases hj)
 obtain⟨G,hG⟩:∃ G,G=grownCap w (n+m) H E:=⟨_,rfl⟩;obtain⟨ROW,a0⟩:∃ ROW:Array Value,ROW=(r.take (i*C)).toArray++BY z.cells (n+m-i)++BY z.cells (G-(n+m)):=⟨_,rfl⟩;have cp:∀ Z,(BZ #[S,3] Z #[.slice (some ⟨g,0,none⟩) i H,.int .i64 ((n:Int)+(m:Int)-(i:Int))]).run P w =
   .ok (.slice (some ⟨w.heap.size,0,none⟩) (n+m) G) (w.drew.alloc (.cells ROW E)):=λZ=>by
  have h:=Lib.run_append_grow_zeros w S 3 Z E a3 z .i64 .i64 t39 t3 hi hz (some ⟨g,0,none⟩) i H (r.take (i*C)) ba (n+m-i) (by omega) (by omega) (by omega) (by omega)
   (by rw[hb];have:(n+m-i)*B<=(n+m)*B:=BA _ (by omega);omega) (by rw[hb,b5];exact growslice_fits Y a2)
  rw[b5,<- hG,<- a0]at h;rw[cw];exact h
 have a5:n+m<=G:=by rw[hG];exact grownCap_ge w _ _ _
 have b9:G<=maxLen:=by rw[hG];exact grownCap_le_maxLen w (n+m) H E b4
 have c4:G<=9223372036854775807:=by unfold maxLen at b9;omega
 have X:ROW.size=G*C:=by
  rw[a0];simp only[Array.size_append,BH,size_zeroCells,e3,O,<- BD];rw[show i+(n+m-i)+(G-(n+m))=G by omega]
 obtain⟨u,J⟩:∃ c:Array Value,c=(ROW.toList.take (i*C)++y++ROW.toList.drop (i*C+y.length)).toArray:=⟨_,rfl⟩;obtain⟨I,M⟩:∃ c:Array Value,c=(u.toList.take ((i+m)*C)++r.drop (i*C)++u.toList.drop ((i+m)*C+(r.drop (i*C)).length)).toArray:=⟨_,rfl⟩;have ec:(n+m)*C<=G*C:=BA _ a5;have a9:(r.drop (i*C)).length=(n-i)*C:=by rw[BE,a4,<- BP]
 have c2:u.size=ROW.size:=by
  rw[J];simp only[BH,BB,BC,BE,BG,hl,X];omega
 have d1:I.size=ROW.size:=by
  rw[M];simp only[BH,BB,BC,BE,BG,a4,c2,X];omega
 have a1:ROW.toList.take (i*C)=r.take (i*C):=by
  rw[a0];simp only[Array.toList_append,BK];exact BM O
 have b2:I.toList.take ((n+m)*C)=r.take (i*C)++y++r.drop (i*C):=by
  have e1:u.toList.take ((i+m)*C)=r.take (i*C)++y:=by
   rw[J,a1];show List.take ((i+m)*C) (r.take (i*C)++y++ROW.toList.drop (i*C+y.length))=_;exact BM (by rw[BB,O,hl,<- BD])
  rw[M,e1];show List.take ((n+m)*C) (r.take (i*C)++y++r.drop (i*C)++_)=_;exact BM (by rw[BB,BB,O,hl,a9,<- BD,<- BD,show i+m+(n-i)=n+m by omega])
 have b1:BW m (n+m-i)=m:=by simp only[BQ];split <;> omega
 have bx:BW (n-i) (n+m-(i+m))=n-i:=by simp only[BQ];split <;> omega
 have bl:∀ (W:World),W.heap[w.heap.size]?=some (.cells ROW E (0,0))->(∀ k,k<w.heap.size->W.heap[k]?=w.heap[k]?)->∀ Z dc,(BF #[S,S] Z #[.slice (some ⟨w.heap.size,i*C,none⟩) (n+m-i) dc,.slice (some ⟨vb,0,none⟩) m vc]).run P W=.ok (goInt (m:Nat)) (W.setRow w.heap.size u):=λW hW hk Z dc=>by
  have:=run_copy_rowN (P:=P) W S S Z E a3 hi w.heap.size (i*C) (n+m-i) dc ⟨vb,0,none⟩ m vc ROW E y t39 hW (by rw[hl,b1,hs])
   (λj v hj=>by
    rw[BN];have:=a6 j v hj;unfold Bv at this ⊢;rw[hk vb e6];exact this)
   (by rw[hl,X,<- BD];exact BA _ (by omega)) h1
  rw[b1,<- J]at this;exact this
 have c3:∀ (W:World),W.heap[w.heap.size]?=some (.cells u E (0,0))->(∀ k,k<w.heap.size->W.heap[k]?=w.heap[k]?)->∀ Z dc sc,(BF #[S,S] Z #[.slice (some ⟨w.heap.size,(i+m)*C,none⟩) (n+m-(i+m)) dc,.slice (some ⟨g,i*C,none⟩) (n-i) sc]).run P W=.ok (goInt (n-i:Nat)) (W.setRow w.heap.size I):=λW hW hk Z dc sc=>by
  have:=run_copy_rowN (P:=P) W S S Z E a3 hi w.heap.size ((i+m)*C) (n+m-(i+m)) dc ⟨g,i*C,none⟩ (n-i) sc u E (r.drop (i*C)) t39 hW (by rw[a9,bx,hs])
   (λj v hj=>by
    rw[BN];rw[BV]at hj;have:=R _ v hj;unfold Bv at this ⊢;rw[hk g e7];exact this)
   (by rw[a9,c2,X,<- BD];exact BA _ (by omega)) (λv hv=>cc v (BR hv))
  rw[bx,<- M]at this;exact this
 have b3:((w.alloc (.cells ROW E)).drew).heap[w.heap.size]?=some (.cells ROW E (0,0)):=heap_alloc_new w _;have c0:∀ k,k<w.heap.size->((w.alloc (.cells ROW E)).drew).heap[k]?=w.heap[k]?:=λk hk=>Go.heap_alloc_old w _ hk
 have bb:(((w.alloc (.cells ROW E)).drew.setRow w.heap.size u).drew).heap[w.heap.size]?=some (.cells u E (0,0)):=setRow_heap (w.alloc (.cells ROW E)).drew w.heap.size ROW u E (0,0) b3;have ad:∀ k,k<w.heap.size->(((w.alloc (.cells ROW E)).drew.setRow w.heap.size u).drew).heap[k]?=w.heap[k]?:=λk hk=>(setRow_other (w.alloc (.cells ROW E)).drew w.heap.size k u (by omega)).trans (c0 k hk)
 have e2:¬ (G=i):=by omega
 have bn:¬ (G=i+m):=by omega
 have d3:¬ (H=i):=by omega
 have cu:IntKind.i64.wrap ((i:Int)+(m:Int))=(i:Int)+(m:Int):=by rw[BI];omega
 have d2:IntKind.i64.wrap ((n:Int)+(m:Int))=(n:Int)+(m:Int):=by rw[BI];omega
 have cy:IntKind.i64.wrap ((n:Int)+(m:Int)-(i:Int))=(n:Int)+(m:Int)-(i:Int):=by rw[BI];omega
 have dd:(0:Int)<=(i:Int)+(m:Int):=by omega
 have b0:i<=n:=by omega
 have e0:((i:Int)+(m:Int)).toNat=i+m:=by omega
 have cx:(i:Int)<=(n:Int):=by omega
 refine (go w g n H i vb m vc G ROW u I hm e5 c5 Y a5 e4 c6 cb c1 c4 e2 bn d3 cu d2 cy dd b0 e0 cx cp (bl _ b3 c0) (c3 _ bb ad)).mono λe w' h=>?_
 obtain⟨h1,rfl⟩:=h;exact⟨G,a5,b9,h1,I,setRow_heap _ _ _ _ _ _ bb,by rw[d1,X];exact Nat.le_refl _,b2,by simp,rfl,rfl,rfl,λk hk=>(setRow_other _ _ _ _ (by omega)).trans (ad k hk)⟩
theorem ins_walk {P:Program}{F E C B:Nat}(q1:(P.info? E).isSome=true)(q2:(P.info? E).map (λi=>i.size)=some C)(q3:(P.info? E).map (λi=>i.bytes)=some B)(q4:((P.info? E).bind λi=>i.zero).map (λz=>z.cells.size)=some C)
  (hC:0<C) (hE:¬ E=5) (hB:0<B) (ins_nil:InsNil P F E C B) (ins_end:InsEnd P F E C B) (ins_shift:InsShift P F E C B) (ins_grow:InsGrow P F E C B):jj P F E C B:=by
 intro w v0 v2 n m i H I r0 r2 o0 o2 hm b5 b0 Y;have k1:(n+m)*C=n*C+m*C:=BD ..;have c4:=r2;obtain⟨J,h2⟩:=r2;rcases h2 with ⟨_,h⟩|⟨vb,vc,ad,mk,rfl,b3,cc,a6,cb,cp⟩
 ·omega
 obtain⟨rfl,_⟩:=a6.elim id (λh=>absurd h.1 hE);have r:∀ j u,I[j]?=some u->w.cell? ⟨vb,0+j,none⟩=some u:=λj u hj=>by
  rw[BX,c4.cellAt j (by rw[<- J];exact (BJ.1 hj).1)];exact hj
 have kB:n+m<=(n+m)*B:=Nat.le_mul_of_pos_right _ hB;have a9:n+m<=maxLen:=by unfold maxLen;omega
 obtain⟨O,hi⟩:=Option.isSome_iff_exists.1 q1;rw[hi]at q2 q3 q4;have hs:O.size=C:=by simpa using q2
 have hb:O.bytes=B:=by simpa using q3
 simp only[Option.bind_some,Option.map_eq_some_iff]at q4;obtain⟨z,hz,a4⟩:=q4;have c2:vb<w.heap.size:=(BO.1 b3).1;have b2:=r0;obtain⟨M,h0⟩:=r0;rcases h0 with ⟨rfl,h0⟩|⟨g,X,b4,mk,rfl,hg,a5,c0,b1,a0⟩
 ·subst h0;have:i=0:=by omega
  subst this;have hf:H=[]:=List.eq_nil_of_length_eq_zero (by simpa using M);subst hf;refine (ins_nil w O z hi hz hs hb a4 vb m vc I J r o2 hm (by omega) (by rw[BX]at Y;exact Y)).mono λe w' h=>?_
  obtain⟨v',e1,h1,h2,h3⟩:=h;exact⟨v',e1,by simpa using h1,h2,.inr h3⟩
 ·obtain⟨rfl,Z⟩:=c0.elim id (λh=>absurd h.1 hE);have c3:g<w.heap.size:=(BO.1 hg).1;have bl:vb≠g:=λh=>b0 g (by simp[BS]) (by simp[BS,h])
  have a1:∀ j u,H[j]?=some u->w.cell? ⟨g,j,none⟩=some u:=λj u hj=>by
   rw[b2.cellAt j (by rw[<- M];exact (BJ.1 hj).1)];exact hj
  by_cases hn:i=n
  ·subst hn;refine (ins_end w g i X H O z hi hz hs hb a4 b2 a5 vb m vc I J r o2 hm a9 Y).mono λe w' h=>?_
   obtain⟨v',e1,h1,h2,h3⟩:=h;refine⟨v',e1,?_,h2,h3⟩;rw[List.take_of_length_le (by omega),List.drop_of_length_le (by omega),List.append_nil];exact h1
  ·by_cases R:n+m<=X
   ·refine (ins_shift w g n X i b4 H O hi hs hg Z b1 a0 M o0 vb m vc ad I b3 bl J r o2 hm (by omega) R).mono λe w' h=>?_
    obtain⟨e1,y,rfl,a3,a2⟩:=h;refine⟨_,e1,⟨?_,.inr ⟨g,X,y,_,rfl,setRow_heap w.drew g b4 y E (0,0) hg,R,.inl ⟨rfl,Z⟩,by rw[a3];exact b1,a2⟩⟩,⟨rfl,rfl,rfl,by simp,λk _ hk=>setRow_other w.drew g k y (λh=>hk (by simp[BS,h]))⟩,.inl rfl⟩;simp only[BB,BC,BE,M,J];have:i*C<=n*C:=BA _ b5;omega
   ·refine (ins_grow w g n X i H O z hi hz hs hb a4 c3 a1 M o0 vb m vc I c2 J r o2 hm (by omega) a5 (by omega) a9 Y).mono λe w' h=>?_
    obtain⟨G,bb,c5,e1,y,a3,a2,bx,c6,bn,b9,c1,hk⟩:=h;refine⟨_,e1,⟨?_,.inr ⟨w.heap.size,G,y,_,rfl,a3,bb,.inl ⟨rfl,c5⟩,a2,bx⟩⟩,⟨bn,b9,c1,by omega,λk ba _=>hk k ba⟩,.inr rfl⟩;simp only[BB,BC,BE,M,J];have:i*C<=n*C:=BA _ b5;omega
end Go.Proofs.YtadlacffdemoiaaGreatEv
