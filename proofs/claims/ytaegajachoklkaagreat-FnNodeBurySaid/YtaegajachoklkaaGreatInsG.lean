/- slices.Insert: what its walk needs, for any element. -/
import Derived.Test.YtaegajachoklkaaGreatEvQ
import Derived.Test.YtaegajachoklkaaGreatE6
import Derived.Shelf.Spec.SlicesInsert
import Derived.Laws.CopyRow
import Derived.Lib.AppendZerosOnto
set_option linter.unusedVariables false
set_option maxRecDepth 100000
set_option linter.unusedVariables false
set_option linter.unusedSimpArgs false
open Array renaming length_toList->B3,getElem?_eq_some_iff->CB
open Go.Addr renaming add_lit->CA
open Go.Builtin renaming copy_->BZ,firstCells->CG,zeroCells->CL,append_->CM
open Go.IntKind renaming wrap_i64->B5
open Go.Value renaming ownBlock->CF
open Go.World renaming cell?->CO
open List renaming length_append->BV,length_take->BW,length_drop->BY,size_toArray->B4,getElem?_eq_some_iff->B6,append_assoc->B7,take_left'->B9,mem_of_mem_drop->CE,getElem?_take->CH,getElem?_drop->CI,take_take->CN
open Nat renaming mul_le_mul_right->BU,add_mul->BX,min_eq_left->B8,sub_mul->CC,min_def->CD,min->CJ,zero_add->CK
namespace Go.Proofs.YtaegajachoklkaaGreatEv
open Go Go.Proofs Go.Shelf Go.RowKit Go.Lib
theorem run_copy_rowN {P:Program}(w:World)(O Y ty y:TypeId)(i:TypeInfo)(hi:P.info? y=some i)(g o u J:Nat)(a:Addr)(r I:Nat)(cur:Array Value)(t:TypeId)(cs:List Value)
  (X:P.underlying O=some (.slice y)) (Z:w.heap[g]?=some (.cells cur t (0,0))) (hn:cs.length=CJ r u*i.size)
  (z:∀ j v,cs[j]?=some v->w.cell? (a.add j)=some v) (H:o+cs.length<=cur.size) (R:∀ v∈cs,v.oneCell'=true) :
  (BZ #[O,Y] ty #[.slice (some ⟨g,o,none⟩) u J,.slice (some a) r I]).run P w =
   .ok (goInt (CJ r u)) (w.setRow g (cur.toList.take o++cs++cur.toList.drop (o+cs.length)).toArray):=by
 have hl:=run_loadCells_list (P:=P) w a cs z;have M:=run_storeCells_at P g o t cs 0 cur w Z (by simpa using H) R;simp[BZ,run_underlying X,Builtin.lenOf,CG,sizeOf,typeInfo,hi,<- hn,hl,M]
def InsNil (P:Program)(F E C B:Nat):Prop :=
 ∀ (w:World) (i:TypeInfo) (z:Value) (hi:P.info? E=some i) (hz:i.zero=some z) (hs:i.size=C) (hb:i.bytes=B) (O:z.cells.size=C) (J m X:Nat) (r:List Value) (hl:r.length=m*C) (I:∀ j u,r[j]?=some u->w.cell? ⟨J,0+j,none⟩=some u) (Y:∀ u∈r,u.oneCell'=true) (Z:0<m) (R:m<=maxLen) (y:m*B<=140737488355328),
  Calls P F #[.slice none 0 0,.int .i64 0,.slice (some ⟨J,0,none⟩) m X] w λe M =>
   ∃ H,e=.returned H/\Row M E C H m r/\w.grownBy M none/\H.ownBlock=some w.heap.size
def InsEnd (P:Program)(F E C B:Nat):Prop :=
 ∀ (w:World) (g n H:Nat) (y:List Value) (i:TypeInfo) (z:Value) (hi:P.info? E=some i) (hz:i.zero=some z) (hs:i.size=C) (hb:i.bytes=B) (Y:z.cells.size=C) (O:Row w E C (.slice (some ⟨g,0,none⟩) n H) n y) (Z:n<=H) (R m vc:Nat) (r:List Value) (hl:r.length=m*C) (M:∀ j u,r[j]?=some u->w.cell? ⟨R,0+j,none⟩=some u) (h1:∀ u∈r,u.oneCell'=true) (hm:0<m) (a0:n+m<=maxLen) (I:(n+m)*B<=140737488355328),
  Calls P F #[.slice (some ⟨g,0,none⟩) n H,.int .i64 n,.slice (some ⟨R,0,none⟩) m vc] w λe X =>
   ∃ J,e=.returned J/\Row X E C J (n+m) (y++r)/\w.grownBy X (some g)/\(J.ownBlock=some g\/J.ownBlock=some w.heap.size)
def InsShift (P:Program)(F E C B:Nat):Prop :=
 ∀ (w:World) (g n H i:Nat) (I:Array Value) (r:List Value) (J:TypeInfo) (hi:P.info? E=some J) (hs:J.size=C) (hg:w.heap[g]?=some (.cells I E (0,0))) (a2:H<=maxLen) (a4:H*C<=I.size) (X:I.toList.take (n*C)=r) (Z:r.length=n*C) (a3:∀ u∈r,u.oneCell'=true) (O m vc:Nat) (M:Array Value) (y:List Value) (a0:w.heap[O]?=some (.cells M E (0,0))) (a1:O≠g) (hl:y.length=m*C) (R:∀ j u,y[j]?=some u->w.cell? ⟨O,0+j,none⟩=some u) (h1:∀ u∈y,u.oneCell'=true) (hm:0<m) (a5:i<n) (Y:n+m<=H),
  Calls P F #[.slice (some ⟨g,0,none⟩) n H,.int .i64 i,.slice (some ⟨O,0,none⟩) m vc] w λe w' =>
   e=.returned (.slice (some ⟨g,0,none⟩) (n+m) H)/\∃ z:Array Value,w'=w.drew.setRow g z/\z.size=I.size/\z.toList.take ((n+m)*C)=r.take (i*C)++y++r.drop (i*C)
def InsGrow (P:Program)(F E C B:Nat):Prop :=
 ∀ (w:World) (g n J i:Nat) (r:List Value) (I:TypeInfo) (z:Value) (hi:P.info? E=some I) (hz:I.zero=some z) (hs:I.size=C) (hb:I.bytes=B) (a2:z.cells.size=C) (a5:g<w.heap.size) (R:∀ j u,r[j]?=some u->w.cell? ⟨g,j,none⟩=some u) (a1:r.length=n*C) (a4:∀ u∈r,u.oneCell'=true) (X m vc:Nat) (y:List Value) (a0:X<w.heap.size) (hl:y.length=m*C) (Y:∀ j u,y[j]?=some u->w.cell? ⟨X,0+j,none⟩=some u) (h1:∀ u∈y,u.oneCell'=true) (hm:0<m) (a7:i<n) (a3:n<=J) (Z:J<n+m) (a6:n+m<=maxLen) (O:(n+m)*B<=140737488355328),
  Calls P F #[.slice (some ⟨g,0,none⟩) n J,.int .i64 i,.slice (some ⟨X,0,none⟩) m vc] w λe M =>
   ∃ G,n+m<=G/\G<=maxLen/\e=.returned (.slice (some ⟨w.heap.size,0,none⟩) (n+m) G)/\∃ H:Array Value,M.heap[w.heap.size]?=some (.cells H E (0,0))/\G*C<=H.size/\H.toList.take ((n+m)*C)=r.take (i*C)++y++r.drop (i*C) /\
    M.heap.size=w.heap.size+1/\M.os=w.os/\M.tape=w.tape/\M.output=w.output/\∀ k,k<w.heap.size->M.heap[k]?=w.heap[k]?
def ShiftGo (P:Program)(F S E C:Nat):Prop :=
 ∀ (w:World) (g n u i:Nat) (H:Array Value) (z:TypeInfo) (J m R:Nat) (I r y:Array Value),P.info? E=some z->z.size=C->w.heap[g]?=some (.cells H E (0,0))->w.heap[J]?=some (.cells I E (0,0))->J≠g->0<m->i<n->n+m<=u->H.size≠0 ->
  ¬ ((m:Int)=0)->¬ ((i:Int)=(n:Int))->u<=9223372036854775807->IntKind.i64.wrap ((i:Int)+(m:Int))=(i:Int)+(m:Int)->IntKind.i64.wrap ((n:Int)+(m:Int))=(n:Int)+(m:Int)->(0:Int)<=(i:Int)+(m:Int)->((i:Int)+(m:Int)).toNat=i+m->((n:Int)+(m:Int)).toNat=n+m->(i:Int)<=(n:Int)+(m:Int)->¬ (u=i+m)->i<=n->¬ (u=i) ->
  (∀ M O X,(BZ #[S,S] M #[.slice (some ⟨g,(i+m)*C,none⟩) (n+m-(i+m)) O,.slice (some ⟨g,i*C,none⟩) (n+m-i) X]).run P w.drew=.ok (goInt (n-i:Nat)) (w.drew.setRow g r))->(∀ M O,(BZ #[S,S] M #[.slice (some ⟨g,i*C,none⟩) (n+m-i) O,.slice (some ⟨J,0,none⟩) m R]).run P (w.drew.setRow g r)=.ok (goInt (m:Nat)) ((w.drew.setRow g r).setRow g y)) ->
  Calls P F #[.slice (some ⟨g,0,none⟩) n u,.int .i64 i,.slice (some ⟨J,0,none⟩) m R] w λe Y=>e=.returned (.slice (some ⟨g,0,none⟩) (n+m) u)/\Y=(w.drew.setRow g r).setRow g y
theorem shift_p {P:Program}{F S E C B:Nat}(t39:P.underlying S=some (.slice E))(hC:1<C)(go:ShiftGo P F S E C):InsShift P F E C B:=by
 intro w g n z i y u a3 hi hs hg ba cc R a2 c0 vb m vc a6 J bl a8 hl a0 h1 hm cb O;have k1:(n+m)*C=n*C+m*C:=BX ..;have k2:(i+m)*C=i*C+m*C:=BX ..;have k3:(n-i)*C=n*C-i*C:=CC ..;have k4:i*C<=n*C:=BU _ (by omega);have c4:¬ ((m:Int)=0):=by omega
 have bb:¬ ((i:Int)=(n:Int)):=by omega
 have a5:z<=9223372036854775807:=by simp only[maxLen]at ba;omega
 have c2:IntKind.i64.wrap ((i:Int)+(m:Int))=(i:Int)+(m:Int):=by rw[B5];omega
 have c1:IntKind.i64.wrap ((n:Int)+(m:Int))=(n:Int)+(m:Int):=by rw[B5];omega
 have b4:(0:Int)<=(i:Int)+(m:Int):=by omega
 have c3:((i:Int)+(m:Int)).toNat=i+m:=by omega
 have b0:((n:Int)+(m:Int)).toNat=n+m:=by omega
 have bx:(i:Int)<=(n:Int)+(m:Int):=by omega
 have b9:¬ (z=i+m):=by omega
 have b5:i<=n:=by omega
 have bn:¬ (z=i):=by omega
 have X:(u.drop (i*C)).length=(n-i)*C:=by rw[BY,a2,<- CC]
 have a1:∀ j,j<n*C->u[j]?=y[j]?:=λj hj=>by rw[<- R,CH,if_pos hj];exact Array.getElem?_toList ..
 have b2:CJ (n+m-i) (n+m-(i+m))=n-i:=by simp only[CD];split <;> omega
 have b1:CJ m (n+m-i)=m:=by simp only[CD];split <;> omega
 obtain⟨r,H⟩:∃ c:Array Value,c=(y.toList.take ((i+m)*C)++u.drop (i*C)++y.toList.drop ((i+m)*C+(u.drop (i*C)).length)).toArray:=⟨_,rfl⟩;have a7:(i+m)*C+(n-i)*C<=y.size:=by
  have:(n+m)*C<=z*C:=BU _ O;omega
 have b3:r.size=y.size:=by
  rw[H];simp only[B4,BV,BW,BY,B3,a2];omega
 obtain⟨I,M⟩:∃ c:Array Value,c=(r.toList.take (i*C)++J++r.toList.drop (i*C+J.length)).toArray:=⟨_,rfl⟩;have a4:∀ Z dc sc,(BZ #[S,S] Z #[.slice (some ⟨g,(i+m)*C,none⟩) (n+m-(i+m)) dc,.slice (some ⟨g,i*C,none⟩) (n+m-i) sc]).run P w.drew=.ok (goInt (n-i:Nat)) (w.drew.setRow g r):=λZ dc sc=>by
  have:=run_copy_rowN (P:=P) w.drew S S Z E a3 hi g ((i+m)*C) (n+m-(i+m)) dc ⟨g,i*C,none⟩ (n+m-i) sc y E (u.drop (i*C)) t39 hg (by rw[X,b2,hs])
   (λj v hj=>by
    rw[CA];have ad:=(B6.1 hj).1;rw[X]at ad;rw[CI]at hj;rw[show w.drew.cell? ⟨g,i*C+j,none⟩=w.cell? ⟨g,i*C+j,none⟩ from rfl,cell_of_row w g _ y E (0,0) hg,<- a1 _ (by rw[CC]at ad;omega)];exact hj)
   (by rw[X];exact a7) (λv hv=>c0 v (CE hv))
  rw[b2,<- H]at this;exact this
 have a9:∀ Z dc,(BZ #[S,S] Z #[.slice (some ⟨g,i*C,none⟩) (n+m-i) dc,.slice (some ⟨vb,0,none⟩) m vc]).run P (w.drew.setRow g r)=.ok (goInt (m:Nat)) ((w.drew.setRow g r).setRow g I):=λZ dc=>by
  have:=run_copy_rowN (P:=P) (w.drew.setRow g r) S S Z E a3 hi g (i*C) (n+m-i) dc ⟨vb,0,none⟩ m vc r E J t39 (setRow_heap w.drew g y r E (0,0) hg) (by rw[hl,b1,hs])
   (λj v hj=>by
    rw[CA,cell_setRow_other _ _ _ _ a8];exact a0 j v hj)
   (by rw[hl,b3,<- BX];have:(i+m)*C<=z*C:=BU _ (by omega);omega) h1
  rw[b1,<- M]at this;exact this
 have Y:I.size=y.size/\I.toList.take ((n+m)*C)=u.take (i*C)++J++u.drop (i*C):=by
  refine⟨?_,?_⟩
  ·rw[M];simp only[B4,BV,BW,BY,B3,hl,b3];have:(i+m)*C<=z*C:=BU _ (by omega);omega
  ·have ha:r.toList.take (i*C)=u.take (i*C):=by
    rw[H,<- R,CN,B8 (BU _ (by omega)),B7];simp only[List.take_append_of_le_length (show i*C<=(y.toList.take ((i+m)*C)).length by simp only[BW,B3];have:(i+m)*C<=z*C:=BU _ (by omega);omega),CN];rw[B8 (by omega)]
   have hb:r.toList.drop (i*C+J.length)=u.drop (i*C)++y.toList.drop ((i+m)*C+(u.drop (i*C)).length):=by
    rw[H,hl,<- BX,B7];exact List.drop_left' (by simp only[BW,B3];have:(i+m)*C<=z*C:=BU _ (by omega);omega)
   rw[M,ha,hb];simp only[<- B7];exact B9 (by simp only[BV,BW,a2,hl,X];rw[B8 (BU _ (by omega))];omega)
 have k5:1*C<=z*C:=BU _ (by omega);refine (go w g n z i y a3 vb m vc a6 r I hi hs hg bl a8 hm cb O (by omega) c4 bb a5 c2 c1 b4 c3 b0 bx b9 b5 bn a4 a9).mono λe w' h=>?_
 exact⟨h.1,I,h.2.trans (setRow_setRow _ _ _ _),Y.1,Y.2⟩
def GrowGo (P:Program)(F S E C:Nat):Prop :=
 ∀ (w:World) (g n u i:Nat) (I m J G:Nat) (ROW r y:Array Value),0<m->i<n->n<=u->u<n+m->n+m<=G ->
  ¬ ((m:Int)=0)->¬ ((i:Int)=(n:Int))->(u:Int)<(n:Int)+(m:Int)->n+m<=9223372036854775807->G<=9223372036854775807->¬ (G=i)->¬ (G=i+m)->¬ (u=i)->IntKind.i64.wrap ((i:Int)+(m:Int))=(i:Int)+(m:Int)->IntKind.i64.wrap ((n:Int)+(m:Int))=(n:Int)+(m:Int)->IntKind.i64.wrap ((n:Int)+(m:Int)-(i:Int))=(n:Int)+(m:Int)-(i:Int)->(0:Int)<=(i:Int)+(m:Int)->i<=n->((i:Int)+(m:Int)).toNat=i+m->(i:Int)<=(n:Int) ->
  (∀ z,(CM #[S,3] z #[.slice (some ⟨g,0,none⟩) i u,.int .i64 ((n:Int)+(m:Int)-(i:Int))]).run P w =
   .ok (.slice (some ⟨w.heap.size,0,none⟩) (n+m) G) (w.drew.alloc (.cells ROW E)))->(∀ z H,(BZ #[S,S] z #[.slice (some ⟨w.heap.size,i*C,none⟩) (n+m-i) H,.slice (some ⟨I,0,none⟩) m J]).run P ((w.alloc (.cells ROW E)).drew)=.ok (goInt (m:Nat)) (((w.alloc (.cells ROW E)).drew).setRow w.heap.size r))->(∀ z H M,(BZ #[S,S] z #[.slice (some ⟨w.heap.size,(i+m)*C,none⟩) (n+m-(i+m)) H,.slice (some ⟨g,i*C,none⟩) (n-i) M]).run P (((w.alloc (.cells ROW E)).drew.setRow w.heap.size r).drew)=.ok (goInt (n-i:Nat)) ((((w.alloc (.cells ROW E)).drew.setRow w.heap.size r).drew).setRow w.heap.size y)) ->
  Calls P F #[.slice (some ⟨g,0,none⟩) n u,.int .i64 i,.slice (some ⟨I,0,none⟩) m J] w λe O=>e=.returned (.slice (some ⟨w.heap.size,0,none⟩) (n+m) G)/\O=((((w.alloc (.cells ROW E)).drew.setRow w.heap.size r).drew).setRow w.heap.size y)
theorem grow_p {P:Program}{F S E C B:Nat}(t39:P.underlying S=some (.slice E))(t3:P.underlying 3=some (.int .i64))(hC:1<C)(go:GrowGo P F S E C):InsGrow P F E C B:=by
 intro w g n H i r a3 z hi hz hs hb d3 cc a0 a6 e2 vb m vc y d2 hl a5 h1 hm eb c3 X ba a2;have k1:(n+m)*C=n*C+m*C:=BX ..;have k2:(i+m)*C=i*C+m*C:=BX ..;have k3:(n-i)*C=n*C-i*C:=CC ..;have k4:i*C<=n*C:=BU _ (by omega);have e7:¬ ((m:Int)=0):=by omega
 have cu:¬ ((i:Int)=(n:Int)):=by omega
 have cp:(H:Int)<(n:Int)+(m:Int):=by omega
 have b2:n+m<=9223372036854775807:=by simp only[maxLen]at ba;omega
 have cb:(n:Int)+(m:Int)-(i:Int)=((n+m-i:Nat):Int):=by omega
 have c1:i+(n+m-i)=n+m:=by omega
 have e5:i*C<=n*C:=BU _ (by omega);have R:(r.take (i*C)).length=i*C:=by rw[BW,a6];exact B8 e5
 have b9:(CG a3.size i (.slice (some ⟨g,0,none⟩) i H)).run P w.drew=.ok (r.take (i*C)).toArray w.drew:=by
  rw[hs];exact run_firstCells_some w.drew C i ⟨g,0,none⟩ i H (r.take (i*C)) R (λj v hj=>by
   rw[CA,CK];rw[CH]at hj;split at hj
   ·exact a0 j v hj
   ·cases hj)
 obtain⟨G,hG⟩:∃ G,G=grownCap w (n+m) H E:=⟨_,rfl⟩;obtain⟨ROW,Y⟩:∃ ROW:Array Value,ROW=(r.take (i*C)).toArray++CL z.cells (n+m-i)++CL z.cells (G-(n+m)):=⟨_,rfl⟩;have cw:∀ O,(CM #[S,3] O #[.slice (some ⟨g,0,none⟩) i H,.int .i64 ((n:Int)+(m:Int)-(i:Int))]).run P w =
   .ok (.slice (some ⟨w.heap.size,0,none⟩) (n+m) G) (w.drew.alloc (.cells ROW E)):=λO=>by
  have h:=Lib.run_append_grow_zeros w S 3 O E a3 z .i64 .i64 t39 t3 hi hz (some ⟨g,0,none⟩) i H (r.take (i*C)) b9 (n+m-i) (by omega) (by omega) (by omega) (by omega)
   (by rw[hb];have:(n+m-i)*B<=(n+m)*B:=BU _ (by omega);omega) (by rw[hb,c1];exact growslice_fits X a2)
  rw[c1,<- hG,<- Y]at h;rw[cb];exact h
 have a7:n+m<=G:=by rw[hG];exact grownCap_ge w _ _ _
 have b3:G<=maxLen:=by rw[hG];exact grownCap_le_maxLen w (n+m) H E ba
 have bb:G<=9223372036854775807:=by unfold maxLen at b3;omega
 have Z:ROW.size=G*C:=by
  rw[Y];simp only[Array.size_append,B4,size_zeroCells,d3,R,<- BX];rw[show i+(n+m-i)+(G-(n+m))=G by omega]
 obtain⟨u,J⟩:∃ c:Array Value,c=(ROW.toList.take (i*C)++y++ROW.toList.drop (i*C+y.length)).toArray:=⟨_,rfl⟩;obtain⟨I,M⟩:∃ c:Array Value,c=(u.toList.take ((i+m)*C)++r.drop (i*C)++u.toList.drop ((i+m)*C+(r.drop (i*C)).length)).toArray:=⟨_,rfl⟩;have ec:(n+m)*C<=G*C:=BU _ a7;have a4:(r.drop (i*C)).length=(n-i)*C:=by rw[BY,a6,<- CC]
 have c2:u.size=ROW.size:=by
  rw[J];simp only[B4,BV,BW,BY,B3,hl,Z];omega
 have e0:I.size=ROW.size:=by
  rw[M];simp only[B4,BV,BW,BY,B3,a6,c2,Z];omega
 have a1:ROW.toList.take (i*C)=r.take (i*C):=by
  rw[Y];simp only[Array.toList_append,B7];exact B9 R
 have b1:I.toList.take ((n+m)*C)=r.take (i*C)++y++r.drop (i*C):=by
  have e1:u.toList.take ((i+m)*C)=r.take (i*C)++y:=by
   rw[J,a1];show List.take ((i+m)*C) (r.take (i*C)++y++ROW.toList.drop (i*C+y.length))=_;exact B9 (by rw[BV,R,hl,<- BX])
  rw[M,e1];show List.take ((n+m)*C) (r.take (i*C)++y++r.drop (i*C)++_)=_;exact B9 (by rw[BV,BV,R,hl,a4,<- BX,<- BX,show i+m+(n-i)=n+m by omega])
 have c0:CJ m (n+m-i)=m:=by simp only[CD];split <;> omega
 have bn:CJ (n-i) (n+m-(i+m))=n-i:=by simp only[CD];split <;> omega
 have b0:∀ (W:World),W.heap[w.heap.size]?=some (.cells ROW E (0,0))->(∀ k,k<w.heap.size->W.heap[k]?=w.heap[k]?)->∀ O dc,(BZ #[S,S] O #[.slice (some ⟨w.heap.size,i*C,none⟩) (n+m-i) dc,.slice (some ⟨vb,0,none⟩) m vc]).run P W=.ok (goInt (m:Nat)) (W.setRow w.heap.size u):=λW hW hk O dc=>by
  have:=run_copy_rowN (P:=P) W S S O E a3 hi w.heap.size (i*C) (n+m-i) dc ⟨vb,0,none⟩ m vc ROW E y t39 hW (by rw[hl,c0,hs])
   (λj v hj=>by
    rw[CA];have:=a5 j v hj;unfold CO at this ⊢;rw[hk vb d2];exact this)
   (by rw[hl,Z,<- BX];exact BU _ (by omega)) h1
  rw[c0,<- J]at this;exact this
 have a8:∀ (W:World),W.heap[w.heap.size]?=some (.cells u E (0,0))->(∀ k,k<w.heap.size->W.heap[k]?=w.heap[k]?)->∀ O dc sc,(BZ #[S,S] O #[.slice (some ⟨w.heap.size,(i+m)*C,none⟩) (n+m-(i+m)) dc,.slice (some ⟨g,i*C,none⟩) (n-i) sc]).run P W=.ok (goInt (n-i:Nat)) (W.setRow w.heap.size I):=λW hW hk O dc sc=>by
  have:=run_copy_rowN (P:=P) W S S O E a3 hi w.heap.size ((i+m)*C) (n+m-(i+m)) dc ⟨g,i*C,none⟩ (n-i) sc u E (r.drop (i*C)) t39 hW (by rw[a4,bn,hs])
   (λj v hj=>by
    rw[CA];rw[CI]at hj;have:=a0 _ v hj;unfold CO at this ⊢;rw[hk g cc];exact this)
   (by rw[a4,c2,Z,<- BX];exact BU _ (by omega)) (λv hv=>e2 v (CE hv))
  rw[bn,<- M]at this;exact this
 have a9:((w.alloc (.cells ROW E)).drew).heap[w.heap.size]?=some (.cells ROW E (0,0)):=heap_alloc_new w _;have b4:∀ k,k<w.heap.size->((w.alloc (.cells ROW E)).drew).heap[k]?=w.heap[k]?:=λk hk=>Go.heap_alloc_old w _ hk
 have ad:(((w.alloc (.cells ROW E)).drew.setRow w.heap.size u).drew).heap[w.heap.size]?=some (.cells u E (0,0)):=setRow_heap (w.alloc (.cells ROW E)).drew w.heap.size ROW u E (0,0) a9;have bx:∀ k,k<w.heap.size->(((w.alloc (.cells ROW E)).drew.setRow w.heap.size u).drew).heap[k]?=w.heap[k]?:=λk hk=>(setRow_other (w.alloc (.cells ROW E)).drew w.heap.size k u (by omega)).trans (b4 k hk)
 have cx:¬ (G=i):=by omega
 have bl:¬ (G=i+m):=by omega
 have cy:¬ (H=i):=by omega
 have e4:IntKind.i64.wrap ((i:Int)+(m:Int))=(i:Int)+(m:Int):=by rw[B5];omega
 have e3:IntKind.i64.wrap ((n:Int)+(m:Int))=(n:Int)+(m:Int):=by rw[B5];omega
 have d1:IntKind.i64.wrap ((n:Int)+(m:Int)-(i:Int))=(n:Int)+(m:Int)-(i:Int):=by rw[B5];omega
 have c4:(0:Int)<=(i:Int)+(m:Int):=by omega
 have b5:i<=n:=by omega
 have e6:((i:Int)+(m:Int)).toNat=i+m:=by omega
 have dd:(i:Int)<=(n:Int):=by omega
 refine (go w g n H i vb m vc G ROW u I hm eb c3 X a7 e7 cu cp b2 bb cx bl cy e4 e3 d1 c4 b5 e6 dd cw (b0 _ a9 b4) (a8 _ ad bx)).mono λe w' h=>?_
 obtain⟨h1,rfl⟩:=h;exact⟨G,a7,b3,h1,I,setRow_heap _ _ _ _ _ _ ad,by rw[e0,Z];exact Nat.le_refl _,b1,by simp,rfl,rfl,rfl,λk hk=>(setRow_other _ _ _ _ (by omega)).trans (bx k hk)⟩
theorem ins_walk {P:Program}{F E C B:Nat}(q1:(P.info? E).isSome=true)(q2:(P.info? E).map (λi=>i.size)=some C)(q3:(P.info? E).map (λi=>i.bytes)=some B)(q4:((P.info? E).bind λi=>i.zero).map (λz=>z.cells.size)=some C)
  (hC:1<C) (hB:0<B) (ins_nil:InsNil P F E C B) (ins_end:InsEnd P F E C B) (ins_shift:InsShift P F E C B) (ins_grow:InsGrow P F E C B):lV P F E C B:=by
 intro w v0 v2 n m i H I r0 r2 o0 o2 hm b3 a7 Y;have k1:(n+m)*C=n*C+m*C:=BX ..;have c1:=r2;obtain⟨J,h2⟩:=r2;rcases h2 with ⟨_,h⟩|⟨vb,vc,ad,mk,rfl,b0,cc,a6,cb,cp⟩
 ·omega
 obtain⟨rfl,_⟩:=a6.elim id (λh=>absurd h.1 (by omega));have r:∀ j u,I[j]?=some u->w.cell? ⟨vb,0+j,none⟩=some u:=λj u hj=>by
  rw[CK,c1.cellAt j (by rw[<- J];exact (B6.1 hj).1)];exact hj
 have kB:n+m<=(n+m)*B:=Nat.le_mul_of_pos_right _ hB;have b1:n+m<=maxLen:=by unfold maxLen;omega
 obtain⟨O,hi⟩:=Option.isSome_iff_exists.1 q1;rw[hi]at q2 q3 q4;have hs:O.size=C:=by simpa using q2
 have hb:O.bytes=B:=by simpa using q3
 simp only[Option.bind_some,Option.map_eq_some_iff]at q4;obtain⟨z,hz,a1⟩:=q4;have c0:vb<w.heap.size:=(CB.1 b0).1;have a9:=r0;obtain⟨M,h0⟩:=r0;rcases h0 with ⟨rfl,h0⟩|⟨g,R,a8,mk,rfl,hg,a5,bn,b2,a2⟩
 ·subst h0;have:i=0:=by omega
  subst this;have hf:H=[]:=List.eq_nil_of_length_eq_zero (by simpa using M);subst hf;refine (ins_nil w O z hi hz hs hb a1 vb m vc I J r o2 hm (by omega) (by rw[CK]at Y;exact Y)).mono λe w' h=>?_
  obtain⟨v',e1,h1,h2,h3⟩:=h;exact⟨v',e1,by simpa using h1,h2,.inr h3⟩
 ·obtain⟨rfl,Z⟩:=bn.elim id (λh=>absurd h.1 (by omega));have b5:g<w.heap.size:=(CB.1 hg).1;have ba:vb≠g:=λh=>a7 g (by simp[CF]) (by simp[CF,h])
  have a3:∀ j u,H[j]?=some u->w.cell? ⟨g,j,none⟩=some u:=λj u hj=>by
   rw[a9.cellAt j (by rw[<- M];exact (B6.1 hj).1)];exact hj
  by_cases hn:i=n
  ·subst hn;refine (ins_end w g i R H O z hi hz hs hb a1 a9 a5 vb m vc I J r o2 hm b1 Y).mono λe w' h=>?_
   obtain⟨v',e1,h1,h2,h3⟩:=h;refine⟨v',e1,?_,h2,h3⟩;rw[List.take_of_length_le (by omega),List.drop_of_length_le (by omega),List.append_nil];exact h1
  ·by_cases X:n+m<=R
   ·refine (ins_shift w g n R i a8 H O hi hs hg Z b2 a2 M o0 vb m vc ad I b0 ba J r o2 hm (by omega) X).mono λe w' h=>?_
    obtain⟨e1,y,rfl,a4,a0⟩:=h;refine⟨_,e1,⟨?_,.inr ⟨g,R,y,_,rfl,setRow_heap w.drew g a8 y E (0,0) hg,X,.inl ⟨rfl,Z⟩,by rw[a4];exact b2,a0⟩⟩,⟨rfl,rfl,rfl,by simp,λk _ hk=>setRow_other w.drew g k y (λh=>hk (by simp[CF,h]))⟩,.inl rfl⟩;simp only[BV,BW,BY,M,J];have:i*C<=n*C:=BU _ b3;omega
   ·refine (ins_grow w g n R i H O z hi hz hs hb a1 b5 a3 M o0 vb m vc I c0 J r o2 hm (by omega) a5 (by omega) b1 Y).mono λe w' h=>?_
    obtain⟨G,b9,b4,e1,y,a4,a0,c3,c4,bx,c2,bl,hk⟩:=h;refine⟨_,e1,⟨?_,.inr ⟨w.heap.size,G,y,_,rfl,a4,b9,.inl ⟨rfl,b4⟩,a0,c3⟩⟩,⟨bx,c2,bl,by omega,λk bb _=>hk k bb⟩,.inr rfl⟩;simp only[BV,BW,BY,M,J];have:i*C<=n*C:=BU _ b3;omega
end Go.Proofs.YtaegajachoklkaaGreatEv
