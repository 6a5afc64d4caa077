/- slices.Insert: what its walk needs, for any element. -/
import Derived.Test.YtaelpfghkndliaaGreatEvQ
import Derived.Test.YtaelpfghkndliaaGreatE6
import Derived.Shelf.Spec.SlicesInsert
import Derived.Laws.CopyRow
import Derived.Lib.AppendZerosOnto
set_option linter.unusedVariables false
set_option maxRecDepth 100000
set_option linter.unusedVariables false
set_option linter.unusedSimpArgs false
open Array renaming length_toList->BG,getElem?_eq_some_iff->BO
open Go.Addr renaming add_lit->BN
open Go.Builtin renaming copy_->BF,firstCells->BT,zeroCells->BY,append_->BZ
open Go.IntKind renaming wrap_i64->BI
open Go.Value renaming ownBlock->BS
open Go.World renaming cell?->Bs
open List renaming length_append->BB,length_take->BC,length_drop->BE,size_toArray->BH,getElem?_eq_some_iff->BJ,append_assoc->BK,take_left'->BM,mem_of_mem_drop->BR,getElem?_take->BU,getElem?_drop->BV,take_take->Br
open Nat renaming mul_le_mul_right->BA,add_mul->BD,min_eq_left->BL,sub_mul->BP,min_def->BQ,min->BW,zero_add->BX
namespace Go.Proofs.YtaelpfghkndliaaGreatEv
open Go Go.Proofs Go.Shelf Go.RowKit Go.Lib
theorem run_copy_rowN {P:Program}(w:World)(O Y ty y:TypeId)(i:TypeInfo)(hi:P.info? y=some i)(g o r H:Nat)(a:Addr)(u z:Nat)(cur:Array Value)(t:TypeId)(cs:List Value)
  (hu:P.underlying O=some (.slice y)) (X:w.heap[g]?=some (.cells cur t (0,0))) (R:cs.length=BW u r*i.size)
  (I:∀ j v,cs[j]?=some v->w.cell? (a.add j)=some v) (J:o+cs.length<=cur.size) (Z:∀ v∈cs,v.oneCell'=true) :
  (BF #[O,Y] ty #[.slice (some ⟨g,o,none⟩) r H,.slice (some a) u z]).run P w =
   .ok (goInt (BW u r)) (w.setRow g (cur.toList.take o++cs++cur.toList.drop (o+cs.length)).toArray):=by
 have hl:=run_loadCells_list (P:=P) w a cs I;have M:=run_storeCells_at P g o t cs 0 cur w X (by simpa using J) Z;simp[BF,run_underlying hu,Builtin.lenOf,BT,sizeOf,typeInfo,hi,<- R,hl,M]
def InsNil (P:Program)(F E C B:Nat):Prop :=
 ∀ (w:World) (i:TypeInfo) (z:Value) (hi:P.info? E=some i) (hz:i.zero=some z) (Y:i.size=C) (hb:i.bytes=B) (R:z.cells.size=C) (M m X:Nat) (r:List Value) (hl:r.length=m*C) (I:∀ j u,r[j]?=some u->w.cell? ⟨M,0+j,none⟩=some u) (h1:∀ u∈r,u.oneCell'=true) (Z:0<m) (O:m<=maxLen) (y:m*B<=140737488355328),
  Calls P F #[.slice none 0 0,.int .i64 0,.slice (some ⟨M,0,none⟩) m X] w λe J =>
   ∃ H,e=.returned H/\Row J E C H m r/\w.grownBy J none/\H.ownBlock=some w.heap.size
def InsEnd (P:Program)(F E C B:Nat):Prop :=
 ∀ (w:World) (g n H:Nat) (y:List Value) (i:TypeInfo) (z:Value) (hi:P.info? E=some i) (hz:i.zero=some z) (hs:i.size=C) (hb:i.bytes=B) (a0:z.cells.size=C) (X:Row w E C (.slice (some ⟨g,0,none⟩) n H) n y) (Z:n<=H) (R m vc:Nat) (r:List Value) (hl:r.length=m*C) (M:∀ j u,r[j]?=some u->w.cell? ⟨R,0+j,none⟩=some u) (h1:∀ u∈r,u.oneCell'=true) (hm:0<m) (Y:n+m<=maxLen) (J:(n+m)*B<=140737488355328),
  Calls P F #[.slice (some ⟨g,0,none⟩) n H,.int .i64 n,.slice (some ⟨R,0,none⟩) m vc] w λe O =>
   ∃ I,e=.returned I/\Row O E C I (n+m) (y++r)/\w.grownBy O (some g)/\(I.ownBlock=some g\/I.ownBlock=some w.heap.size)
def InsShift (P:Program)(F E C B:Nat):Prop :=
 ∀ (w:World) (g n z i:Nat) (I:Array Value) (r:List Value) (M:TypeInfo) (hi:P.info? E=some M) (hs:M.size=C) (hg:w.heap[g]?=some (.cells I E (0,0))) (a0:z<=maxLen) (a5:z*C<=I.size) (X:I.toList.take (n*C)=r) (a3:r.length=n*C) (a2:∀ u∈r,u.oneCell'=true) (O m vc:Nat) (J:Array Value) (y:List Value) (a4:w.heap[O]?=some (.cells J E (0,0))) (a1:O≠g) (hl:y.length=m*C) (Y:∀ j u,y[j]?=some u->w.cell? ⟨O,0+j,none⟩=some u) (h1:∀ u∈y,u.oneCell'=true) (hm:0<m) (a6:i<n) (R:n+m<=z),
  Calls P F #[.slice (some ⟨g,0,none⟩) n z,.int .i64 i,.slice (some ⟨O,0,none⟩) m vc] w λe Z =>
   e=.returned (.slice (some ⟨g,0,none⟩) (n+m) z)/\∃ H:Array Value,Z=w.drew.setRow g H/\H.size=I.size/\H.toList.take ((n+m)*C)=r.take (i*C)++y++r.drop (i*C)
def InsGrow (P:Program)(F E C B:Nat):Prop :=
 ∀ (w:World) (g n J i:Nat) (r:List Value) (I:TypeInfo) (z:Value) (hi:P.info? E=some I) (hz:I.zero=some z) (hs:I.size=C) (hb:I.bytes=B) (a1:z.cells.size=C) (a2:g<w.heap.size) (Z:∀ j u,r[j]?=some u->w.cell? ⟨g,j,none⟩=some u) (a6:r.length=n*C) (a4:∀ u∈r,u.oneCell'=true) (X m vc:Nat) (y:List Value) (a5:X<w.heap.size) (hl:y.length=m*C) (Y:∀ j u,y[j]?=some u->w.cell? ⟨X,0+j,none⟩=some u) (h1:∀ u∈y,u.oneCell'=true) (hm:0<m) (a9:i<n) (a3:n<=J) (R:J<n+m) (a0:n+m<=maxLen) (O:(n+m)*B<=140737488355328),
  Calls P F #[.slice (some ⟨g,0,none⟩) n J,.int .i64 i,.slice (some ⟨X,0,none⟩) m vc] w λe M =>
   ∃ G,n+m<=G/\G<=maxLen/\e=.returned (.slice (some ⟨w.heap.size,0,none⟩) (n+m) G)/\∃ H:Array Value,M.heap[w.heap.size]?=some (.cells H E (0,0))/\G*C<=H.size/\H.toList.take ((n+m)*C)=r.take (i*C)++y++r.drop (i*C) /\
    M.heap.size=w.heap.size+1/\M.os=w.os/\M.tape=w.tape/\M.output=w.output/\∀ k,k<w.heap.size->M.heap[k]?=w.heap[k]?
def ShiftGo (P:Program)(F S E C:Nat):Prop :=
 ∀ (w:World) (g n u i:Nat) (H:Array Value) (I:TypeInfo) (J m R:Nat) (z r y:Array Value),P.info? E=some I->I.size=C->w.heap[g]?=some (.cells H E (0,0))->w.heap[J]?=some (.cells z E (0,0))->J≠g->0<m->i<n->n+m<=u->H.size≠0 ->
  ¬ ((m:Int)=0)->¬ ((i:Int)=(n:Int))->u<=9223372036854775807->IntKind.i64.wrap ((i:Int)+(m:Int))=(i:Int)+(m:Int)->IntKind.i64.wrap ((n:Int)+(m:Int))=(n:Int)+(m:Int)->(0:Int)<=(i:Int)+(m:Int)->((i:Int)+(m:Int)).toNat=i+m->((n:Int)+(m:Int)).toNat=n+m->(i:Int)<=(n:Int)+(m:Int)->¬ (u=i+m)->i<=n->¬ (u=i) ->
  (∀ O M Y,(BF #[S,S] O #[.slice (some ⟨g,(i+m)*C,none⟩) (n+m-(i+m)) M,.slice (some ⟨g,i*C,none⟩) (n+m-i) Y]).run P w.drew=.ok (goInt (n-i:Nat)) (w.drew.setRow g r))->(∀ O M,(BF #[S,S] O #[.slice (some ⟨g,i*C,none⟩) (n+m-i) M,.slice (some ⟨J,0,none⟩) m R]).run P (w.drew.setRow g r)=.ok (goInt (m:Nat)) ((w.drew.setRow g r).setRow g y)) ->
  Calls P F #[.slice (some ⟨g,0,none⟩) n u,.int .i64 i,.slice (some ⟨J,0,none⟩) m R] w λe X=>e=.returned (.slice (some ⟨g,0,none⟩) (n+m) u)/\X=(w.drew.setRow g r).setRow g y
theorem shift_p {P:Program}{F S E C B:Nat}(t39:P.underlying S=some (.slice E))(hC:1<C)(go:ShiftGo P F S E C):InsShift P F E C B:=by
 intro w g n z i y u a2 hi hs hg c1 c5 R a1 ba vb m vc b0 I b9 a9 hl a0 h1 hm bn O;have k1:(n+m)*C=n*C+m*C:=BD ..;have k2:(i+m)*C=i*C+m*C:=BD ..;have k3:(n-i)*C=n*C-i*C:=BP ..;have k4:i*C<=n*C:=BA _ (by omega);have c0:¬ ((m:Int)=0):=by omega
 have bb:¬ ((i:Int)=(n:Int)):=by omega
 have a6:z<=9223372036854775807:=by simp only[maxLen]at c1;omega
 have c3:IntKind.i64.wrap ((i:Int)+(m:Int))=(i:Int)+(m:Int):=by rw[BI];omega
 have c2:IntKind.i64.wrap ((n:Int)+(m:Int))=(n:Int)+(m:Int):=by rw[BI];omega
 have b6:(0:Int)<=(i:Int)+(m:Int):=by omega
 have c4:((i:Int)+(m:Int)).toNat=i+m:=by omega
 have ad:((n:Int)+(m:Int)).toNat=n+m:=by omega
 have b4:(i:Int)<=(n:Int)+(m:Int):=by omega
 have b5:¬ (z=i+m):=by omega
 have bl:i<=n:=by omega
 have bx:¬ (z=i):=by omega
 have X:(u.drop (i*C)).length=(n-i)*C:=by rw[BE,a1,<- BP]
 have Z:∀ j,j<n*C->u[j]?=y[j]?:=λj hj=>by rw[<- R,BU,if_pos hj];exact Array.getElem?_toList ..
 have a5:BW (n+m-i) (n+m-(i+m))=n-i:=by simp only[BQ];split <;> omega
 have ab:BW m (n+m-i)=m:=by simp only[BQ];split <;> omega
 obtain⟨r,H⟩:∃ c:Array Value,c=(y.toList.take ((i+m)*C)++u.drop (i*C)++y.toList.drop ((i+m)*C+(u.drop (i*C)).length)).toArray:=⟨_,rfl⟩;have b3:(i+m)*C+(n-i)*C<=y.size:=by
  have:(n+m)*C<=z*C:=BA _ O;omega
 have b2:r.size=y.size:=by
  rw[H];simp only[BH,BB,BC,BE,BG,a1];omega
 obtain⟨J,M⟩:∃ c:Array Value,c=(r.toList.take (i*C)++I++r.toList.drop (i*C+I.length)).toArray:=⟨_,rfl⟩;have a3:∀ ty dc sc,(BF #[S,S] ty #[.slice (some ⟨g,(i+m)*C,none⟩) (n+m-(i+m)) dc,.slice (some ⟨g,i*C,none⟩) (n+m-i) sc]).run P w.drew=.ok (goInt (n-i:Nat)) (w.drew.setRow g r):=λty dc sc=>by
  have:=run_copy_rowN (P:=P) w.drew S S ty E a2 hi g ((i+m)*C) (n+m-(i+m)) dc ⟨g,i*C,none⟩ (n+m-i) sc y E (u.drop (i*C)) t39 hg (by rw[X,a5,hs])
   (λj v hj=>by
    rw[BN];have a4:=(BJ.1 hj).1;rw[X]at a4;rw[BV]at hj;rw[show w.drew.cell? ⟨g,i*C+j,none⟩=w.cell? ⟨g,i*C+j,none⟩ from rfl,cell_of_row w g _ y E (0,0) hg,<- Z _ (by rw[BP]at a4;omega)];exact hj)
   (by rw[X];exact b3) (λv hv=>ba v (BR hv))
  rw[a5,<- H]at this;exact this
 have b1:∀ ty dc,(BF #[S,S] ty #[.slice (some ⟨g,i*C,none⟩) (n+m-i) dc,.slice (some ⟨vb,0,none⟩) m vc]).run P (w.drew.setRow g r)=.ok (goInt (m:Nat)) ((w.drew.setRow g r).setRow g J):=λty dc=>by
  have:=run_copy_rowN (P:=P) (w.drew.setRow g r) S S ty E a2 hi g (i*C) (n+m-i) dc ⟨vb,0,none⟩ m vc r E I t39 (setRow_heap w.drew g y r E (0,0) hg) (by rw[hl,ab,hs])
   (λj v hj=>by
    rw[BN,cell_setRow_other _ _ _ _ a9];exact a0 j v hj)
   (by rw[hl,b2,<- BD];have:(i+m)*C<=z*C:=BA _ (by omega);omega) h1
  rw[ab,<- M]at this;exact this
 have Y:J.size=y.size/\J.toList.take ((n+m)*C)=u.take (i*C)++I++u.drop (i*C):=by
  refine⟨?_,?_⟩
  ·rw[M];simp only[BH,BB,BC,BE,BG,hl,b2];have:(i+m)*C<=z*C:=BA _ (by omega);omega
  ·have ha:r.toList.take (i*C)=u.take (i*C):=by
    rw[H,<- R,Br,BL (BA _ (by omega)),BK];simp only[List.take_append_of_le_length (show i*C<=(y.toList.take ((i+m)*C)).length by simp only[BC,BG];have:(i+m)*C<=z*C:=BA _ (by omega);omega),Br];rw[BL (by omega)]
   have hb:r.toList.drop (i*C+I.length)=u.drop (i*C)++y.toList.drop ((i+m)*C+(u.drop (i*C)).length):=by
    rw[H,hl,<- BD,BK];exact List.drop_left' (by simp only[BC,BG];have:(i+m)*C<=z*C:=BA _ (by omega);omega)
   rw[M,ha,hb];simp only[<- BK];exact BM (by simp only[BB,BC,a1,hl,X];rw[BL (BA _ (by omega))];omega)
 have k5:1*C<=z*C:=BA _ (by omega);refine (go w g n z i y a2 vb m vc b0 r J hi hs hg b9 a9 hm bn O (by omega) c0 bb a6 c3 c2 b6 c4 ad b4 b5 bl bx a3 b1).mono λe w' h=>?_
 exact⟨h.1,J,h.2.trans (setRow_setRow _ _ _ _),Y.1,Y.2⟩
def GrowGo (P:Program)(F S E C:Nat):Prop :=
 ∀ (w:World) (g n u i:Nat) (I m J G:Nat) (ROW r y:Array Value),0<m->i<n->n<=u->u<n+m->n+m<=G ->
  ¬ ((m:Int)=0)->¬ ((i:Int)=(n:Int))->(u:Int)<(n:Int)+(m:Int)->n+m<=9223372036854775807->G<=9223372036854775807->¬ (G=i)->¬ (G=i+m)->¬ (u=i)->IntKind.i64.wrap ((i:Int)+(m:Int))=(i:Int)+(m:Int)->IntKind.i64.wrap ((n:Int)+(m:Int))=(n:Int)+(m:Int)->IntKind.i64.wrap ((n:Int)+(m:Int)-(i:Int))=(n:Int)+(m:Int)-(i:Int)->(0:Int)<=(i:Int)+(m:Int)->i<=n->((i:Int)+(m:Int)).toNat=i+m->(i:Int)<=(n:Int) ->
  (∀ z,(BZ #[S,3] z #[.slice (some ⟨g,0,none⟩) i u,.int .i64 ((n:Int)+(m:Int)-(i:Int))]).run P w =
   .ok (.slice (some ⟨w.heap.size,0,none⟩) (n+m) G) (w.drew.alloc (.cells ROW E)))->(∀ z H,(BF #[S,S] z #[.slice (some ⟨w.heap.size,i*C,none⟩) (n+m-i) H,.slice (some ⟨I,0,none⟩) m J]).run P ((w.alloc (.cells ROW E)).drew)=.ok (goInt (m:Nat)) (((w.alloc (.cells ROW E)).drew).setRow w.heap.size r))->(∀ z H O,(BF #[S,S] z #[.slice (some ⟨w.heap.size,(i+m)*C,none⟩) (n+m-(i+m)) H,.slice (some ⟨g,i*C,none⟩) (n-i) O]).run P (((w.alloc (.cells ROW E)).drew.setRow w.heap.size r).drew)=.ok (goInt (n-i:Nat)) ((((w.alloc (.cells ROW E)).drew.setRow w.heap.size r).drew).setRow w.heap.size y)) ->
  Calls P F #[.slice (some ⟨g,0,none⟩) n u,.int .i64 i,.slice (some ⟨I,0,none⟩) m J] w λe M=>e=.returned (.slice (some ⟨w.heap.size,0,none⟩) (n+m) G)/\M=((((w.alloc (.cells ROW E)).drew.setRow w.heap.size r).drew).setRow w.heap.size y)
theorem grow_p {P:Program}{F S E C B:Nat}(t39:P.underlying S=some (.slice E))(t3:P.underlying 3=some (.int .i64))(hC:1<C)(go:GrowGo P F S E C):InsGrow P F E C B:=by
 intro w g n H i r a3 z hi hz hs hb e0 c4 Y a6 cp vb m vc y e3 hl a4 h1 hm d1 e2 Z ba a2;have k1:(n+m)*C=n*C+m*C:=BD ..;have k2:(i+m)*C=i*C+m*C:=BD ..;have k3:(n-i)*C=n*C-i*C:=BP ..;have k4:i*C<=n*C:=BA _ (by omega);have d2:¬ ((m:Int)=0):=by omega
 have cx:¬ ((i:Int)=(n:Int)):=by omega
 have d3:(H:Int)<(n:Int)+(m:Int):=by omega
 have b0:n+m<=9223372036854775807:=by simp only[maxLen]at ba;omega
 have c5:(n:Int)+(m:Int)-(i:Int)=((n+m-i:Nat):Int):=by omega
 have c1:i+(n+m-i)=n+m:=by omega
 have cu:i*C<=n*C:=BA _ (by omega);have R:(r.take (i*C)).length=i*C:=by rw[BC,a6];exact BL cu
 have b3:(BT a3.size i (.slice (some ⟨g,0,none⟩) i H)).run P w.drew=.ok (r.take (i*C)).toArray w.drew:=by
  rw[hs];exact run_firstCells_some w.drew C i ⟨g,0,none⟩ i H (r.take (i*C)) R (λj v hj=>by
   rw[BN,BX];rw[BU]at hj;split at hj
   ·exact Y j v hj
   ·cases hj)
 obtain⟨G,hG⟩:∃ G,G=grownCap w (n+m) H E:=⟨_,rfl⟩;obtain⟨ROW,O⟩:∃ ROW:Array Value,ROW=(r.take (i*C)).toArray++BY z.cells (n+m-i)++BY z.cells (G-(n+m)):=⟨_,rfl⟩;have e4:∀ X,(BZ #[S,3] X #[.slice (some ⟨g,0,none⟩) i H,.int .i64 ((n:Int)+(m:Int)-(i:Int))]).run P w =
   .ok (.slice (some ⟨w.heap.size,0,none⟩) (n+m) G) (w.drew.alloc (.cells ROW E)):=λX=>by
  have h:=Lib.run_append_grow_zeros w S 3 X E a3 z .i64 .i64 t39 t3 hi hz (some ⟨g,0,none⟩) i H (r.take (i*C)) b3 (n+m-i) (by omega) (by omega) (by omega) (by omega)
   (by rw[hb];have:(n+m-i)*B<=(n+m)*B:=BA _ (by omega);omega) (by rw[hb,c1];exact growslice_fits Z a2)
  rw[c1,<- hG,<- O]at h;rw[c5];exact h
 have a5:n+m<=G:=by rw[hG];exact grownCap_ge w _ _ _
 have c0:G<=maxLen:=by rw[hG];exact grownCap_le_maxLen w (n+m) H E ba
 have b1:G<=9223372036854775807:=by unfold maxLen at c0;omega
 have a0:ROW.size=G*C:=by
  rw[O];simp only[Array.size_append,BH,size_zeroCells,e0,R,<- BD];rw[show i+(n+m-i)+(G-(n+m))=G by omega]
 obtain⟨u,M⟩:∃ c:Array Value,c=(ROW.toList.take (i*C)++y++ROW.toList.drop (i*C+y.length)).toArray:=⟨_,rfl⟩;obtain⟨I,J⟩:∃ c:Array Value,c=(u.toList.take ((i+m)*C)++r.drop (i*C)++u.toList.drop ((i+m)*C+(r.drop (i*C)).length)).toArray:=⟨_,rfl⟩;have e7:(n+m)*C<=G*C:=BA _ a5;have a9:(r.drop (i*C)).length=(n-i)*C:=by rw[BE,a6,<- BP]
 have b4:u.size=ROW.size:=by
  rw[M];simp only[BH,BB,BC,BE,BG,hl,a0];omega
 have cc:I.size=ROW.size:=by
  rw[J];simp only[BH,BB,BC,BE,BG,a6,b4,a0];omega
 have a1:ROW.toList.take (i*C)=r.take (i*C):=by
  rw[O];simp only[Array.toList_append,BK];exact BM R
 have b6:I.toList.take ((n+m)*C)=r.take (i*C)++y++r.drop (i*C):=by
  have e1:u.toList.take ((i+m)*C)=r.take (i*C)++y:=by
   rw[M,a1];show List.take ((i+m)*C) (r.take (i*C)++y++ROW.toList.drop (i*C+y.length))=_;exact BM (by rw[BB,R,hl,<- BD])
  rw[J,e1];show List.take ((n+m)*C) (r.take (i*C)++y++r.drop (i*C)++_)=_;exact BM (by rw[BB,BB,R,hl,a9,<- BD,<- BD,show i+m+(n-i)=n+m by omega])
 have ab:BW m (n+m-i)=m:=by simp only[BQ];split <;> omega
 have b2:BW (n-i) (n+m-(i+m))=n-i:=by simp only[BQ];split <;> omega
 have bb:∀ (W:World),W.heap[w.heap.size]?=some (.cells ROW E (0,0))->(∀ k,k<w.heap.size->W.heap[k]?=w.heap[k]?)->∀ X dc,(BF #[S,S] X #[.slice (some ⟨w.heap.size,i*C,none⟩) (n+m-i) dc,.slice (some ⟨vb,0,none⟩) m vc]).run P W=.ok (goInt (m:Nat)) (W.setRow w.heap.size u):=λW hW hk X dc=>by
  have:=run_copy_rowN (P:=P) W S S X E a3 hi w.heap.size (i*C) (n+m-i) dc ⟨vb,0,none⟩ m vc ROW E y t39 hW (by rw[hl,ab,hs])
   (λj v hj=>by
    rw[BN];have:=a4 j v hj;unfold Bs at this ⊢;rw[hk vb e3];exact this)
   (by rw[hl,a0,<- BD];exact BA _ (by omega)) h1
  rw[ab,<- M]at this;exact this
 have b5:∀ (W:World),W.heap[w.heap.size]?=some (.cells u E (0,0))->(∀ k,k<w.heap.size->W.heap[k]?=w.heap[k]?)->∀ X dc sc,(BF #[S,S] X #[.slice (some ⟨w.heap.size,(i+m)*C,none⟩) (n+m-(i+m)) dc,.slice (some ⟨g,i*C,none⟩) (n-i) sc]).run P W=.ok (goInt (n-i:Nat)) (W.setRow w.heap.size I):=λW hW hk X dc sc=>by
  have:=run_copy_rowN (P:=P) W S S X E a3 hi w.heap.size ((i+m)*C) (n+m-(i+m)) dc ⟨g,i*C,none⟩ (n-i) sc u E (r.drop (i*C)) t39 hW (by rw[a9,b2,hs])
   (λj v hj=>by
    rw[BN];rw[BV]at hj;have:=Y _ v hj;unfold Bs at this ⊢;rw[hk g c4];exact this)
   (by rw[a9,b4,a0,<- BD];exact BA _ (by omega)) (λv hv=>cp v (BR hv))
  rw[b2,<- J]at this;exact this
 have c2:((w.alloc (.cells ROW E)).drew).heap[w.heap.size]?=some (.cells ROW E (0,0)):=heap_alloc_new w _;have bn:∀ k,k<w.heap.size->((w.alloc (.cells ROW E)).drew).heap[k]?=w.heap[k]?:=λk hk=>Go.heap_alloc_old w _ hk
 have bx:(((w.alloc (.cells ROW E)).drew.setRow w.heap.size u).drew).heap[w.heap.size]?=some (.cells u E (0,0)):=setRow_heap (w.alloc (.cells ROW E)).drew w.heap.size ROW u E (0,0) c2;have b9:∀ k,k<w.heap.size->(((w.alloc (.cells ROW E)).drew.setRow w.heap.size u).drew).heap[k]?=w.heap[k]?:=λk hk=>(setRow_other (w.alloc (.cells ROW E)).drew w.heap.size k u (by omega)).trans (bn k hk)
 have cb:¬ (G=i):=by omega
 have bl:¬ (G=i+m):=by omega
 have cy:¬ (H=i):=by omega
 have e5:IntKind.i64.wrap ((i:Int)+(m:Int))=(i:Int)+(m:Int):=by rw[BI];omega
 have dd:IntKind.i64.wrap ((n:Int)+(m:Int))=(n:Int)+(m:Int):=by rw[BI];omega
 have cw:IntKind.i64.wrap ((n:Int)+(m:Int)-(i:Int))=(n:Int)+(m:Int)-(i:Int):=by rw[BI];omega
 have c6:(0:Int)<=(i:Int)+(m:Int):=by omega
 have ad:i<=n:=by omega
 have e6:((i:Int)+(m:Int)).toNat=i+m:=by omega
 have c3:(i:Int)<=(n:Int):=by omega
 refine (go w g n H i vb m vc G ROW u I hm d1 e2 Z a5 d2 cx d3 b0 b1 cb bl cy e5 dd cw c6 ad e6 c3 e4 (bb _ c2 bn) (b5 _ bx b9)).mono λe w' h=>?_
 obtain⟨h1,rfl⟩:=h;exact⟨G,a5,c0,h1,I,setRow_heap _ _ _ _ _ _ bx,by rw[cc,a0];exact Nat.le_refl _,b6,by simp,rfl,rfl,rfl,λk hk=>(setRow_other _ _ _ _ (by omega)).trans (b9 k hk)⟩
theorem ins_walk {P:Program}{F E C B:Nat}(q1:(P.info? E).isSome=true)(q2:(P.info? E).map (λi=>i.size)=some C)(q3:(P.info? E).map (λi=>i.bytes)=some B)(q4:((P.info? E).bind λi=>i.zero).map (λz=>z.cells.size)=some C)
  (hC:1<C) (hB:0<B) (ins_nil:InsNil P F E C B) (ins_end:InsEnd P F E C B) (ins_shift:InsShift P F E C B) (ins_grow:InsGrow P F E C B):ji P F E C B:=by
 intro w v0 v2 n m i I y r0 r2 o0 o2 hm ab b3 Y;have k1:(n+m)*C=n*C+m*C:=BD ..;have c2:=r2;obtain⟨J,h2⟩:=r2;rcases h2 with ⟨_,h⟩|⟨vb,vc,ad,mk,rfl,a6,cb,a5,c5,c6⟩
 ·omega
 obtain⟨rfl,_⟩:=a5.elim id (λh=>absurd h.1 (by omega));have r:∀ j u,y[j]?=some u->w.cell? ⟨vb,0+j,none⟩=some u:=λj u hj=>by
  rw[BX,c2.cellAt j (by rw[<- J];exact (BJ.1 hj).1)];exact hj
 have kB:n+m<=(n+m)*B:=Nat.le_mul_of_pos_right _ hB;have b0:n+m<=maxLen:=by unfold maxLen;omega
 obtain⟨M,hi⟩:=Option.isSome_iff_exists.1 q1;rw[hi]at q2 q3 q4;have hs:M.size=C:=by simpa using q2
 have hb:M.bytes=B:=by simpa using q3
 simp only[Option.bind_some,Option.map_eq_some_iff]at q4;obtain⟨z,hz,a3⟩:=q4;have c3:vb<w.heap.size:=(BO.1 a6).1;have a9:=r0;obtain⟨O,h0⟩:=r0;rcases h0 with ⟨rfl,h0⟩|⟨g,R,b2,mk,rfl,hg,b1,c0,b4,a4⟩
 ·subst h0;have:i=0:=by omega
  subst this;have hf:I=[]:=List.eq_nil_of_length_eq_zero (by simpa using O);subst hf;refine (ins_nil w M z hi hz hs hb a3 vb m vc y J r o2 hm (by omega) (by rw[BX]at Y;exact Y)).mono λe w' h=>?_
  obtain⟨v',e1,h1,h2,h3⟩:=h;exact⟨v',e1,by simpa using h1,h2,.inr h3⟩
 ·obtain⟨rfl,Z⟩:=c0.elim id (λh=>absurd h.1 (by omega));have b6:g<w.heap.size:=(BO.1 hg).1;have bb:vb≠g:=λh=>b3 g (by simp[BS]) (by simp[BS,h])
  have a2:∀ j u,I[j]?=some u->w.cell? ⟨g,j,none⟩=some u:=λj u hj=>by
   rw[a9.cellAt j (by rw[<- O];exact (BJ.1 hj).1)];exact hj
  by_cases hn:i=n
  ·subst hn;refine (ins_end w g i R I M z hi hz hs hb a3 a9 b1 vb m vc y J r o2 hm b0 Y).mono λe w' h=>?_
   obtain⟨v',e1,h1,h2,h3⟩:=h;refine⟨v',e1,?_,h2,h3⟩;rw[List.take_of_length_le (by omega),List.drop_of_length_le (by omega),List.append_nil];exact h1
  ·by_cases X:n+m<=R
   ·refine (ins_shift w g n R i b2 I M hi hs hg Z b4 a4 O o0 vb m vc ad y a6 bb J r o2 hm (by omega) X).mono λe w' h=>?_
    obtain⟨e1,H,rfl,a0,a1⟩:=h;refine⟨_,e1,⟨?_,.inr ⟨g,R,H,_,rfl,setRow_heap w.drew g b2 H E (0,0) hg,X,.inl ⟨rfl,Z⟩,by rw[a0];exact b4,a1⟩⟩,⟨rfl,rfl,rfl,by simp,λk _ hk=>setRow_other w.drew g k H (λh=>hk (by simp[BS,h]))⟩,.inl rfl⟩;simp only[BB,BC,BE,O,J];have:i*C<=n*C:=BA _ ab;omega
   ·refine (ins_grow w g n R i I M z hi hz hs hb a3 b6 a2 O o0 vb m vc y c3 J r o2 hm (by omega) b1 (by omega) b0 Y).mono λe w' h=>?_
    obtain⟨G,ba,bx,e1,H,a0,a1,c1,c4,bn,b9,bl,hk⟩:=h;refine⟨_,e1,⟨?_,.inr ⟨w.heap.size,G,H,_,rfl,a0,ba,.inl ⟨rfl,bx⟩,a1,c1⟩⟩,⟨bn,b9,bl,by omega,λk b5 _=>hk k b5⟩,.inr rfl⟩;simp only[BB,BC,BE,O,J];have:i*C<=n*C:=BA _ ab;omega
end Go.Proofs.YtaelpfghkndliaaGreatEv
