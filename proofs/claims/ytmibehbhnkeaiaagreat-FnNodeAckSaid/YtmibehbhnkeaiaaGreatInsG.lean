/- slices.Insert: what its walk needs, for any element. -/
import Derived.Test.YtmibehbhnkeaiaaGreatEvQ
import Derived.Test.YtmibehbhnkeaiaaGreatE6
import Derived.Shelf.Spec.SlicesInsert
import Derived.Laws.CopyRow
import Derived.Lib.AppendZerosOnto
set_option linter.unusedVariables false
set_option maxRecDepth 100000
set_option linter.unusedVariables false
set_option linter.unusedSimpArgs false
open Array renaming length_toList->FP,getElem?_eq_some_iff->FX
open Go.Addr renaming add_lit->FW
open Go.Builtin renaming copy_->FO,firstCells->F2,zeroCells->F7,append_->F8
open Go.IntKind renaming wrap_i64->FR
open Go.Value renaming ownBlock->F1
open Go.World renaming cell?->GA
open List renaming length_append->FK,length_take->FL,length_drop->FN,size_toArray->FQ,getElem?_eq_some_iff->FS,append_assoc->FT,take_left'->FV,mem_of_mem_drop->F0,getElem?_take->F3,getElem?_drop->F4,take_take->F9
open Nat renaming mul_le_mul_right->FJ,add_mul->FM,min_eq_left->FU,sub_mul->FY,min_def->FZ,min->F5,zero_add->F6
namespace Go.Proofs.YtmibehbhnkeaiaaGreatEv
open Go Go.Proofs Go.Shelf Go.RowKit Go.Lib
theorem run_copy_rowN {P:Program}(w:World)(O sT ty y:TypeId)(i:TypeInfo)(Y:P.info? y=some i)(g o r z:Nat)(a:Addr)(u J:Nat)(cur:Array Value)(t:TypeId)(cs:List Value)
  (hu:P.underlying O=some (.slice y)) (X:w.heap[g]?=some (.cells cur t (0,0))) (hn:cs.length=F5 u r*i.size)
  (I:∀ j v,cs[j]?=some v->w.cell? (a.add j)=some v) (H:o+cs.length<=cur.size) (R:∀ v∈cs,v.oneCell'=true) :
  (FO #[O,sT] ty #[.slice (some ⟨g,o,none⟩) r z,.slice (some a) u J]).run P w =
   .ok (goInt (F5 u r)) (w.setRow g (cur.toList.take o++cs++cur.toList.drop (o+cs.length)).toArray):=by
 have Z:=run_loadCells_list (P:=P) w a cs I;have M:=run_storeCells_at P g o t cs 0 cur w X (by simpa using H) R;simp[FO,run_underlying hu,Builtin.lenOf,F2,sizeOf,typeInfo,Y,<- hn,Z,M]
def InsNil (P:Program)(F E C B:Nat):Prop :=
 ∀ (w:World) (i:TypeInfo) (z:Value) (hi:P.info? E=some i) (hz:i.zero=some z) (hs:i.size=C) (Z:i.bytes=B) (R:z.cells.size=C) (J m X:Nat) (r:List Value) (hl:r.length=m*C) (H:∀ j u,r[j]?=some u->w.cell? ⟨J,0+j,none⟩=some u) (Y:∀ u∈r,u.oneCell'=true) (hm:0<m) (O:m<=maxLen) (y:m*B<=140737488355328),
  Calls P F #[.slice none 0 0,.int .i64 0,.slice (some ⟨J,0,none⟩) m X] w λe M =>
   ∃ I,e=.returned I/\Row M E C I m r/\w.grownBy M none/\I.ownBlock=some w.heap.size
def InsEnd (P:Program)(F E C B:Nat):Prop :=
 ∀ (w:World) (g n H:Nat) (y:List Value) (i:TypeInfo) (z:Value) (hi:P.info? E=some i) (hz:i.zero=some z) (hs:i.size=C) (hb:i.bytes=B) (a0:z.cells.size=C) (O:Row w E C (.slice (some ⟨g,0,none⟩) n H) n y) (Z:n<=H) (R m vc:Nat) (r:List Value) (hl:r.length=m*C) (M:∀ j u,r[j]?=some u->w.cell? ⟨R,0+j,none⟩=some u) (h1:∀ u∈r,u.oneCell'=true) (hm:0<m) (Y:n+m<=maxLen) (I:(n+m)*B<=140737488355328),
  Calls P F #[.slice (some ⟨g,0,none⟩) n H,.int .i64 n,.slice (some ⟨R,0,none⟩) m vc] w λe X =>
   ∃ J,e=.returned J/\Row X E C J (n+m) (y++r)/\w.grownBy X (some g)/\(J.ownBlock=some g\/J.ownBlock=some w.heap.size)
def InsShift (P:Program)(F E C B:Nat):Prop :=
 ∀ (w:World) (g n z i:Nat) (I:Array Value) (r:List Value) (J:TypeInfo) (hi:P.info? E=some J) (hs:J.size=C) (hg:w.heap[g]?=some (.cells I E (0,0))) (a0:z<=maxLen) (a1:z*C<=I.size) (Y:I.toList.take (n*C)=r) (a2:r.length=n*C) (Z:∀ u∈r,u.oneCell'=true) (O m vc:Nat) (M:Array Value) (y:List Value) (a5:w.heap[O]?=some (.cells M E (0,0))) (a4:O≠g) (hl:y.length=m*C) (R:∀ j u,y[j]?=some u->w.cell? ⟨O,0+j,none⟩=some u) (h1:∀ u∈y,u.oneCell'=true) (hm:0<m) (a3:i<n) (X:n+m<=z),
  Calls P F #[.slice (some ⟨g,0,none⟩) n z,.int .i64 i,.slice (some ⟨O,0,none⟩) m vc] w λe w' =>
   e=.returned (.slice (some ⟨g,0,none⟩) (n+m) z)/\∃ H:Array Value,w'=w.drew.setRow g H/\H.size=I.size/\H.toList.take ((n+m)*C)=r.take (i*C)++y++r.drop (i*C)
def InsGrow (P:Program)(F E C B:Nat):Prop :=
 ∀ (w:World) (g n J i:Nat) (r:List Value) (I:TypeInfo) (z:Value) (hi:P.info? E=some I) (hz:I.zero=some z) (hs:I.size=C) (hb:I.bytes=B) (a7:z.cells.size=C) (a3:g<w.heap.size) (R:∀ j u,r[j]?=some u->w.cell? ⟨g,j,none⟩=some u) (a2:r.length=n*C) (a0:∀ u∈r,u.oneCell'=true) (Z m vc:Nat) (y:List Value) (a6:Z<w.heap.size) (hl:y.length=m*C) (X:∀ j u,y[j]?=some u->w.cell? ⟨Z,0+j,none⟩=some u) (h1:∀ u∈y,u.oneCell'=true) (hm:0<m) (a4:i<n) (a5:n<=J) (Y:J<n+m) (a1:n+m<=maxLen) (O:(n+m)*B<=140737488355328),
  Calls P F #[.slice (some ⟨g,0,none⟩) n J,.int .i64 i,.slice (some ⟨Z,0,none⟩) m vc] w λe M =>
   ∃ G,n+m<=G/\G<=maxLen/\e=.returned (.slice (some ⟨w.heap.size,0,none⟩) (n+m) G)/\∃ H:Array Value,M.heap[w.heap.size]?=some (.cells H E (0,0))/\G*C<=H.size/\H.toList.take ((n+m)*C)=r.take (i*C)++y++r.drop (i*C) /\
    M.heap.size=w.heap.size+1/\M.os=w.os/\M.tape=w.tape/\M.output=w.output/\∀ k,k<w.heap.size->M.heap[k]?=w.heap[k]?
def ShiftGo (P:Program)(F S E C:Nat):Prop :=
 ∀ (w:World) (g n u i:Nat) (z:Array Value) (H:TypeInfo) (J m R:Nat) (I r y:Array Value),P.info? E=some H->H.size=C->w.heap[g]?=some (.cells z E (0,0))->w.heap[J]?=some (.cells I E (0,0))->J≠g->0<m->i<n->n+m<=u->z.size≠0 ->
  ¬ ((m:Int)=0)->¬ ((i:Int)=(n:Int))->u<=9223372036854775807->IntKind.i64.wrap ((i:Int)+(m:Int))=(i:Int)+(m:Int)->IntKind.i64.wrap ((n:Int)+(m:Int))=(n:Int)+(m:Int)->(0:Int)<=(i:Int)+(m:Int)->((i:Int)+(m:Int)).toNat=i+m->((n:Int)+(m:Int)).toNat=n+m->(i:Int)<=(n:Int)+(m:Int)->¬ (u=i+m)->i<=n->¬ (u=i) ->
  (∀ O M X,(FO #[S,S] O #[.slice (some ⟨g,(i+m)*C,none⟩) (n+m-(i+m)) M,.slice (some ⟨g,i*C,none⟩) (n+m-i) X]).run P w.drew=.ok (goInt (n-i:Nat)) (w.drew.setRow g r))->(∀ O M,(FO #[S,S] O #[.slice (some ⟨g,i*C,none⟩) (n+m-i) M,.slice (some ⟨J,0,none⟩) m R]).run P (w.drew.setRow g r)=.ok (goInt (m:Nat)) ((w.drew.setRow g r).setRow g y)) ->
  Calls P F #[.slice (some ⟨g,0,none⟩) n u,.int .i64 i,.slice (some ⟨J,0,none⟩) m R] w λe Y=>e=.returned (.slice (some ⟨g,0,none⟩) (n+m) u)/\Y=(w.drew.setRow g r).setRow g y
theorem shift_p {P:Program}{F S E C B:Nat}(t39:P.underlying S=some (.slice E))(hC:0<C)(go:ShiftGo P F S E C):InsShift P F E C B:=by
 intro w g n z i y u a3 hi hs hg b9 c1 R a0 b1 vb m vc b0 J bl az hl a2 h1 hm ba O;have k1:(n+m)*C=n*C+m*C:=FM ..;have k2:(i+m)*C=i*C+m*C:=FM ..;have k3:(n-i)*C=n*C-i*C:=FY ..;have k4:i*C<=n*C:=FJ _ (by omega);have bx:¬ ((m:Int)=0):=by omega
 have c0:¬ ((i:Int)=(n:Int)):=by omega
 have a4:z<=9223372036854775807:=by simp only[maxLen]at b9;omega
 have bn:IntKind.i64.wrap ((i:Int)+(m:Int))=(i:Int)+(m:Int):=by rw[FR];omega
 have bo:IntKind.i64.wrap ((n:Int)+(m:Int))=(n:Int)+(m:Int):=by rw[FR];omega
 have b2:(0:Int)<=(i:Int)+(m:Int):=by omega
 have bb:((i:Int)+(m:Int)).toNat=i+m:=by omega
 have ay:((n:Int)+(m:Int)).toNat=n+m:=by omega
 have b4:(i:Int)<=(n:Int)+(m:Int):=by omega
 have b3:¬ (z=i+m):=by omega
 have b6:i<=n:=by omega
 have b5:¬ (z=i):=by omega
 have X:(u.drop (i*C)).length=(n-i)*C:=by rw[FN,a0,<- FY]
 have a1:∀ j,j<n*C->u[j]?=y[j]?:=λj hj=>by rw[<- R,F3,if_pos hj];exact Array.getElem?_toList ..
 have a9:F5 (n+m-i) (n+m-(i+m))=n-i:=by simp only[FZ];split <;> omega
 have ad:F5 m (n+m-i)=m:=by simp only[FZ];split <;> omega
 obtain⟨r,H⟩:∃ c:Array Value,c=(y.toList.take ((i+m)*C)++u.drop (i*C)++y.toList.drop ((i+m)*C+(u.drop (i*C)).length)).toArray:=⟨_,rfl⟩;have a7:(i+m)*C+(n-i)*C<=y.size:=by
  have:(n+m)*C<=z*C:=FJ _ O;omega
 have aw:r.size=y.size:=by
  rw[H];simp only[FQ,FK,FL,FN,FP,a0];omega
 obtain⟨I,M⟩:∃ c:Array Value,c=(r.toList.take (i*C)++J++r.toList.drop (i*C+J.length)).toArray:=⟨_,rfl⟩;have a5:∀ ty Z sc,(FO #[S,S] ty #[.slice (some ⟨g,(i+m)*C,none⟩) (n+m-(i+m)) Z,.slice (some ⟨g,i*C,none⟩) (n+m-i) sc]).run P w.drew=.ok (goInt (n-i:Nat)) (w.drew.setRow g r):=λty Z sc=>by
  have:=run_copy_rowN (P:=P) w.drew S S ty E a3 hi g ((i+m)*C) (n+m-(i+m)) Z ⟨g,i*C,none⟩ (n+m-i) sc y E (u.drop (i*C)) t39 hg (by rw[X,a9,hs])
   (λj v hj=>by
    rw[FW];have a8:=(FS.1 hj).1;rw[X]at a8;rw[F4]at hj;rw[show w.drew.cell? ⟨g,i*C+j,none⟩=w.cell? ⟨g,i*C+j,none⟩ from rfl,cell_of_row w g _ y E (0,0) hg,<- a1 _ (by rw[FY]at a8;omega)];exact hj)
   (by rw[X];exact a7) (λv hv=>b1 v (F0 hv))
  rw[a9,<- H]at this;exact this
 have a6:∀ ty Z,(FO #[S,S] ty #[.slice (some ⟨g,i*C,none⟩) (n+m-i) Z,.slice (some ⟨vb,0,none⟩) m vc]).run P (w.drew.setRow g r)=.ok (goInt (m:Nat)) ((w.drew.setRow g r).setRow g I):=λty Z=>by
  have:=run_copy_rowN (P:=P) (w.drew.setRow g r) S S ty E a3 hi g (i*C) (n+m-i) Z ⟨vb,0,none⟩ m vc r E J t39 (setRow_heap w.drew g y r E (0,0) hg) (by rw[hl,ad,hs])
   (λj v hj=>by
    rw[FW,cell_setRow_other _ _ _ _ az];exact a2 j v hj)
   (by rw[hl,aw,<- FM];have:(i+m)*C<=z*C:=FJ _ (by omega);omega) h1
  rw[ad,<- M]at this;exact this
 have Y:I.size=y.size/\I.toList.take ((n+m)*C)=u.take (i*C)++J++u.drop (i*C):=by
  refine⟨?_,?_⟩
  ·rw[M];simp only[FQ,FK,FL,FN,FP,hl,aw];have:(i+m)*C<=z*C:=FJ _ (by omega);omega
  ·have ha:r.toList.take (i*C)=u.take (i*C):=by
    rw[H,<- R,F9,FU (FJ _ (by omega)),FT];simp only[List.take_append_of_le_length (show i*C<=(y.toList.take ((i+m)*C)).length by simp only[FL,FP];have:(i+m)*C<=z*C:=FJ _ (by omega);omega),F9];rw[FU (by omega)]
   have hb:r.toList.drop (i*C+J.length)=u.drop (i*C)++y.toList.drop ((i+m)*C+(u.drop (i*C)).length):=by
    rw[H,hl,<- FM,FT];exact List.drop_left' (by simp only[FL,FP];have:(i+m)*C<=z*C:=FJ _ (by omega);omega)
   rw[M,ha,hb];simp only[<- FT];exact FV (by simp only[FK,FL,a0,hl,X];rw[FU (FJ _ (by omega))];omega)
 have k5:1*C<=z*C:=FJ _ (by omega);refine (go w g n z i y a3 vb m vc b0 r I hi hs hg bl az hm ba O (by omega) bx c0 a4 bn bo b2 bb ay b4 b3 b6 b5 a5 a6).mono λe w' h=>?_
 exact⟨h.1,I,h.2.trans (setRow_setRow _ _ _ _),Y.1,Y.2⟩
def GrowGo (P:Program)(F S E C:Nat):Prop :=
 ∀ (w:World) (g n u i:Nat) (I m J G:Nat) (ROW r y:Array Value),0<m->i<n->n<=u->u<n+m->n+m<=G ->
  ¬ ((m:Int)=0)->¬ ((i:Int)=(n:Int))->(u:Int)<(n:Int)+(m:Int)->n+m<=9223372036854775807->G<=9223372036854775807->¬ (G=i)->¬ (G=i+m)->¬ (u=i)->IntKind.i64.wrap ((i:Int)+(m:Int))=(i:Int)+(m:Int)->IntKind.i64.wrap ((n:Int)+(m:Int))=(n:Int)+(m:Int)->IntKind.i64.wrap ((n:Int)+(m:Int)-(i:Int))=(n:Int)+(m:Int)-(i:Int)->(0:Int)<=(i:Int)+(m:Int)->i<=n->((i:Int)+(m:Int)).toNat=i+m->(i:Int)<=(n:Int) ->
  (∀ z,(F8 #[S,3] z #[.slice (some ⟨g,0,none⟩) i u,.int .i64 ((n:Int)+(m:Int)-(i:Int))]).run P w =
   .ok (.slice (some ⟨w.heap.size,0,none⟩) (n+m) G) (w.drew.alloc (.cells ROW E)))->(∀ z H,(FO #[S,S] z #[.slice (some ⟨w.heap.size,i*C,none⟩) (n+m-i) H,.slice (some ⟨I,0,none⟩) m J]).run P ((w.alloc (.cells ROW E)).drew)=.ok (goInt (m:Nat)) (((w.alloc (.cells ROW E)).drew).setRow w.heap.size r))->(∀ z H M,(FO #[S,S] z #[.slice (some ⟨w.heap.size,(i+m)*C,none⟩) (n+m-(i+m)) H,.slice (some ⟨g,i*C,none⟩) (n-i) M]).run P (((w.alloc (.cells ROW E)).drew.setRow w.heap.size r).drew)=.ok (goInt (n-i:Nat)) ((((w.alloc (.cells ROW E)).drew.setRow w.heap.size r).drew).setRow w.heap.size y)) ->
  Calls P F #[.slice (some ⟨g,0,none⟩) n u,.int .i64 i,.slice (some ⟨I,0,none⟩) m J] w λe O=>e=.returned (.slice (some ⟨w.heap.size,0,none⟩) (n+m) G)/\O=((((w.alloc (.cells ROW E)).drew.setRow w.heap.size r).drew).setRow w.heap.size y)
theorem grow_p {P:Program}{F S E C B:Nat}(t39:P.underlying S=some (.slice E))(t3:P.underlying 3=some (.int .i64))(hC:0<C)(go:GrowGo P F S E C):InsGrow P F E C B:=by
 intro w g n H i r a2 z hi hz hs hb d4 c2 X a5 bn vb m vc y cu hl a6 h1 hm c4 c6 Y a7 a0;have k1:(n+m)*C=n*C+m*C:=FM ..;have k2:(i+m)*C=i*C+m*C:=FM ..;have k3:(n-i)*C=n*C-i*C:=FY ..;have k4:i*C<=n*C:=FJ _ (by omega);have d1:¬ ((m:Int)=0):=by omega
 have d2:¬ ((i:Int)=(n:Int)):=by omega
 have d3:(H:Int)<(n:Int)+(m:Int):=by omega
 have a8:n+m<=9223372036854775807:=by simp only[maxLen]at a7;omega
 have c5:(n:Int)+(m:Int)-(i:Int)=((n+m-i:Nat):Int):=by omega
 have b5:i+(n+m-i)=n+m:=by omega
 have c3:i*C<=n*C:=FJ _ (by omega);have Z:(r.take (i*C)).length=i*C:=by rw[FL,a5];exact FU c3
 have bb:(F2 a2.size i (.slice (some ⟨g,0,none⟩) i H)).run P w.drew=.ok (r.take (i*C)).toArray w.drew:=by
  rw[hs];exact run_firstCells_some w.drew C i ⟨g,0,none⟩ i H (r.take (i*C)) Z (λj v hj=>by
   rw[FW,F6];rw[F3]at hj;split at hj
   ·exact X j v hj
   ·cases hj)
 obtain⟨G,hG⟩:∃ G,G=grownCap w (n+m) H E:=⟨_,rfl⟩;obtain⟨ROW,O⟩:∃ ROW:Array Value,ROW=(r.take (i*C)).toArray++F7 z.cells (n+m-i)++F7 z.cells (G-(n+m)):=⟨_,rfl⟩;have cb:∀ ty,(F8 #[S,3] ty #[.slice (some ⟨g,0,none⟩) i H,.int .i64 ((n:Int)+(m:Int)-(i:Int))]).run P w =
   .ok (.slice (some ⟨w.heap.size,0,none⟩) (n+m) G) (w.drew.alloc (.cells ROW E)):=λty=>by
  have h:=Lib.run_append_grow_zeros w S 3 ty E a2 z .i64 .i64 t39 t3 hi hz (some ⟨g,0,none⟩) i H (r.take (i*C)) bb (n+m-i) (by omega) (by omega) (by omega) (by omega)
   (by rw[hb];have:(n+m-i)*B<=(n+m)*B:=FJ _ (by omega);omega) (by rw[hb,b5];exact growslice_fits Y a0)
  rw[b5,<- hG,<- O]at h;rw[c5];exact h
 have a3:n+m<=G:=by rw[hG];exact grownCap_ge w _ _ _
 have b1:G<=maxLen:=by rw[hG];exact grownCap_le_maxLen w (n+m) H E a7
 have az:G<=9223372036854775807:=by unfold maxLen at b1;omega
 have R:ROW.size=G*C:=by
  rw[O];simp only[Array.size_append,FQ,size_zeroCells,d4,Z,<- FM];rw[show i+(n+m-i)+(G-(n+m))=G by omega]
 obtain⟨u,J⟩:∃ c:Array Value,c=(ROW.toList.take (i*C)++y++ROW.toList.drop (i*C+y.length)).toArray:=⟨_,rfl⟩;obtain⟨I,M⟩:∃ c:Array Value,c=(u.toList.take ((i+m)*C)++r.drop (i*C)++u.toList.drop ((i+m)*C+(r.drop (i*C)).length)).toArray:=⟨_,rfl⟩;have d5:(n+m)*C<=G*C:=FJ _ a3;have a4:(r.drop (i*C)).length=(n-i)*C:=by rw[FN,a5,<- FY]
 have bl:u.size=ROW.size:=by
  rw[J];simp only[FQ,FK,FL,FN,FP,hl,R];omega
 have cc:I.size=ROW.size:=by
  rw[M];simp only[FQ,FK,FL,FN,FP,a5,bl,R];omega
 have a1:ROW.toList.take (i*C)=r.take (i*C):=by
  rw[O];simp only[Array.toList_append,FT];exact FV Z
 have b4:I.toList.take ((n+m)*C)=r.take (i*C)++y++r.drop (i*C):=by
  have e1:u.toList.take ((i+m)*C)=r.take (i*C)++y:=by
   rw[J,a1];show List.take ((i+m)*C) (r.take (i*C)++y++ROW.toList.drop (i*C+y.length))=_;exact FV (by rw[FK,Z,hl,<- FM])
  rw[M,e1];show List.take ((n+m)*C) (r.take (i*C)++y++r.drop (i*C)++_)=_;exact FV (by rw[FK,FK,Z,hl,a4,<- FM,<- FM,show i+m+(n-i)=n+m by omega])
 have b9:F5 m (n+m-i)=m:=by simp only[FZ];split <;> omega
 have ba:F5 (n-i) (n+m-(i+m))=n-i:=by simp only[FZ];split <;> omega
 have b2:∀ (W:World),W.heap[w.heap.size]?=some (.cells ROW E (0,0))->(∀ k,k<w.heap.size->W.heap[k]?=w.heap[k]?)->∀ ty dc,(FO #[S,S] ty #[.slice (some ⟨w.heap.size,i*C,none⟩) (n+m-i) dc,.slice (some ⟨vb,0,none⟩) m vc]).run P W=.ok (goInt (m:Nat)) (W.setRow w.heap.size u):=λW hW hk ty dc=>by
  have:=run_copy_rowN (P:=P) W S S ty E a2 hi w.heap.size (i*C) (n+m-i) dc ⟨vb,0,none⟩ m vc ROW E y t39 hW (by rw[hl,b9,hs])
   (λj v hj=>by
    rw[FW];have:=a6 j v hj;unfold GA at this ⊢;rw[hk vb cu];exact this)
   (by rw[hl,R,<- FM];exact FJ _ (by omega)) h1
  rw[b9,<- J]at this;exact this
 have b3:∀ (W:World),W.heap[w.heap.size]?=some (.cells u E (0,0))->(∀ k,k<w.heap.size->W.heap[k]?=w.heap[k]?)->∀ ty dc sc,(FO #[S,S] ty #[.slice (some ⟨w.heap.size,(i+m)*C,none⟩) (n+m-(i+m)) dc,.slice (some ⟨g,i*C,none⟩) (n-i) sc]).run P W=.ok (goInt (n-i:Nat)) (W.setRow w.heap.size I):=λW hW hk ty dc sc=>by
  have:=run_copy_rowN (P:=P) W S S ty E a2 hi w.heap.size ((i+m)*C) (n+m-(i+m)) dc ⟨g,i*C,none⟩ (n-i) sc u E (r.drop (i*C)) t39 hW (by rw[a4,ba,hs])
   (λj v hj=>by
    rw[FW];rw[F4]at hj;have:=X _ v hj;unfold GA at this ⊢;rw[hk g c2];exact this)
   (by rw[a4,bl,R,<- FM];exact FJ _ (by omega)) (λv hv=>bn v (F0 hv))
  rw[ba,<- M]at this;exact this
 have a9:((w.alloc (.cells ROW E)).drew).heap[w.heap.size]?=some (.cells ROW E (0,0)):=heap_alloc_new w _;have ad:∀ k,k<w.heap.size->((w.alloc (.cells ROW E)).drew).heap[k]?=w.heap[k]?:=λk hk=>Go.heap_alloc_old w _ hk
 have aw:(((w.alloc (.cells ROW E)).drew.setRow w.heap.size u).drew).heap[w.heap.size]?=some (.cells u E (0,0)):=setRow_heap (w.alloc (.cells ROW E)).drew w.heap.size ROW u E (0,0) a9;have ay:∀ k,k<w.heap.size->(((w.alloc (.cells ROW E)).drew.setRow w.heap.size u).drew).heap[k]?=w.heap[k]?:=λk hk=>(setRow_other (w.alloc (.cells ROW E)).drew w.heap.size k u (by omega)).trans (ad k hk)
 have bo:¬ (G=i):=by omega
 have b0:¬ (G=i+m):=by omega
 have c1:¬ (H=i):=by omega
 have cw:IntKind.i64.wrap ((i:Int)+(m:Int))=(i:Int)+(m:Int):=by rw[FR];omega
 have cx:IntKind.i64.wrap ((n:Int)+(m:Int))=(n:Int)+(m:Int):=by rw[FR];omega
 have cy:IntKind.i64.wrap ((n:Int)+(m:Int)-(i:Int))=(n:Int)+(m:Int)-(i:Int):=by rw[FR];omega
 have bx:(0:Int)<=(i:Int)+(m:Int):=by omega
 have b6:i<=n:=by omega
 have cp:((i:Int)+(m:Int)).toNat=i+m:=by omega
 have c0:(i:Int)<=(n:Int):=by omega
 refine (go w g n H i vb m vc G ROW u I hm c4 c6 Y a3 d1 d2 d3 a8 az bo b0 c1 cw cx cy bx b6 cp c0 cb (b2 _ a9 ad) (b3 _ aw ay)).mono λe w' h=>?_
 obtain⟨h1,rfl⟩:=h;exact⟨G,a3,b1,h1,I,setRow_heap _ _ _ _ _ _ aw,by rw[cc,R];exact Nat.le_refl _,b4,by simp,rfl,rfl,rfl,λk hk=>(setRow_other _ _ _ _ (by omega)).trans (ay k hk)⟩
theorem ins_walk {P:Program}{F E C B:Nat}(q1:(P.info? E).isSome=true)(q2:(P.info? E).map (λi=>i.size)=some C)(q3:(P.info? E).map (λi=>i.bytes)=some B)(q4:((P.info? E).bind λi=>i.zero).map (λz=>z.cells.size)=some C)
  (hC:0<C) (hE:¬ E=5) (hB:0<B) (ins_nil:InsNil P F E C B) (ins_end:InsEnd P F E C B) (ins_shift:InsShift P F E C B) (ins_grow:InsGrow P F E C B):jr P F E C B:=by
 intro w v0 v2 n m i H I r0 r2 o0 o2 hm a9 a8 Y;have k1:(n+m)*C=n*C+m*C:=FM ..;have bo:=r2;obtain⟨J,h2⟩:=r2;rcases h2 with ⟨_,h⟩|⟨vb,vc,b0,mk,rfl,ay,c1,aw,c0,c2⟩
 ·omega
 obtain⟨rfl,_⟩:=aw.elim id (λh=>absurd h.1 hE);have r:∀ j u,I[j]?=some u->w.cell? ⟨vb,0+j,none⟩=some u:=λj u hj=>by
  rw[F6,bo.cellAt j (by rw[<- J];exact (FS.1 hj).1)];exact hj
 have kB:n+m<=(n+m)*B:=Nat.le_mul_of_pos_right _ hB;have a6:n+m<=maxLen:=by unfold maxLen;omega
 obtain⟨O,hi⟩:=Option.isSome_iff_exists.1 q1;rw[hi]at q2 q3 q4;have hs:O.size=C:=by simpa using q2
 have hb:O.bytes=B:=by simpa using q3
 simp only[Option.bind_some,Option.map_eq_some_iff]at q4;obtain⟨z,hz,a4⟩:=q4;have bn:vb<w.heap.size:=(FX.1 ay).1;have az:=r0;obtain⟨M,h0⟩:=r0;rcases h0 with ⟨rfl,h0⟩|⟨g,R,a5,mk,rfl,hg,ad,b4,a7,a3⟩
 ·subst h0;have:i=0:=by omega
  subst this;have hf:H=[]:=List.eq_nil_of_length_eq_zero (by simpa using M);subst hf;refine (ins_nil w O z hi hz hs hb a4 vb m vc I J r o2 hm (by omega) (by rw[F6]at Y;exact Y)).mono λe w' h=>?_
  obtain⟨v',e1,h1,h2,h3⟩:=h;exact⟨v',e1,by simpa using h1,h2,.inr h3⟩
 ·obtain⟨rfl,Z⟩:=b4.elim id (λh=>absurd h.1 hE);have b5:g<w.heap.size:=(FX.1 hg).1;have bl:vb≠g:=λh=>a8 g (by simp[F1]) (by simp[F1,h])
  have a2:∀ j u,H[j]?=some u->w.cell? ⟨g,j,none⟩=some u:=λj u hj=>by
   rw[az.cellAt j (by rw[<- M];exact (FS.1 hj).1)];exact hj
  by_cases hn:i=n
  ·subst hn;refine (ins_end w g i R H O z hi hz hs hb a4 az ad vb m vc I J r o2 hm a6 Y).mono λe w' h=>?_
   obtain⟨v',e1,h1,h2,h3⟩:=h;refine⟨v',e1,?_,h2,h3⟩;rw[List.take_of_length_le (by omega),List.drop_of_length_le (by omega),List.append_nil];exact h1
  ·by_cases X:n+m<=R
   ·refine (ins_shift w g n R i a5 H O hi hs hg Z a7 a3 M o0 vb m vc b0 I ay bl J r o2 hm (by omega) X).mono λe w' h=>?_
    obtain⟨e1,y,rfl,a0,a1⟩:=h;refine⟨_,e1,⟨?_,.inr ⟨g,R,y,_,rfl,setRow_heap w.drew g a5 y E (0,0) hg,X,.inl ⟨rfl,Z⟩,by rw[a0];exact a7,a1⟩⟩,⟨rfl,rfl,rfl,by simp,λk _ hk=>setRow_other w.drew g k y (λh=>hk (by simp[F1,h]))⟩,.inl rfl⟩;simp only[FK,FL,FN,M,J];have:i*C<=n*C:=FJ _ a9;omega
   ·refine (ins_grow w g n R i H O z hi hz hs hb a4 b5 a2 M o0 vb m vc I bn J r o2 hm (by omega) ad (by omega) a6 Y).mono λe w' h=>?_
    obtain⟨G,b1,b2,e1,y,a0,a1,b3,bx,b9,ba,bb,hk⟩:=h;refine⟨_,e1,⟨?_,.inr ⟨w.heap.size,G,y,_,rfl,a0,b1,.inl ⟨rfl,b2⟩,a1,b3⟩⟩,⟨b9,ba,bb,by omega,λk b6 _=>hk k b6⟩,.inr rfl⟩;simp only[FK,FL,FN,M,J];have:i*C<=n*C:=FJ _ a9;omega
end Go.Proofs.YtmibehbhnkeaiaaGreatEv
