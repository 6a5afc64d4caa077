/- slices.Insert: what its walk needs, for any element. -/
import Derived.Test.YtadlacffdemoiaaGreatEvQ
import Derived.Test.YtadlacffdemoiaaGreatE6
import Derived.Shelf.Spec.SlicesInsert
import Derived.Laws.CopyRow
import Derived.Lib.AppendZerosOnto
set_option linter.unusedVariables false
set_option maxRecDepth 100000
set_option linter.unusedVariables false
set_option linter.unusedSimpArgs false
open Array renaming length_toList->B9,getElem?_eq_some_iff->CH
open Go.Addr renaming add_lit->CG
open Go.Builtin renaming copy_->B8,firstCells->CM,zeroCells->CR,append_->CS
open Go.IntKind renaming wrap_i64->CB
open Go.Value renaming ownBlock->CL
open Go.World renaming cell?->CU
open List renaming length_append->B4,length_take->B5,length_drop->B7,size_toArray->CA,getElem?_eq_some_iff->CC,append_assoc->CD,take_left'->CF,mem_of_mem_drop->CK,getElem?_take->CN,getElem?_drop->CO,take_take->CT
open Nat renaming mul_le_mul_right->B3,add_mul->B6,min_eq_left->CE,sub_mul->CI,min_def->CJ,min->CP,zero_add->CQ
namespace Go.Proofs.YtadlacffdemoiaaGreatEv
open Go Go.Proofs Go.Shelf Go.RowKit Go.Lib
theorem run_copy_rowN {P:Program}(w:World)(O X ty y:TypeId)(i:TypeInfo)(hi:P.info? y=some i)(g o r J:Nat)(a:Addr)(u I:Nat)(cur:Array Value)(t:TypeId)(cs:List Value)
  (Y:P.underlying O=some (.slice y)) (Z:w.heap[g]?=some (.cells cur t (0,0))) (hn:cs.length=CP u r*i.size)
  (H:∀ j v,cs[j]?=some v->w.cell? (a.add j)=some v) (z:o+cs.length<=cur.size) (R:∀ v∈cs,v.oneCell'=true) :
  (B8 #[O,X] ty #[.slice (some ⟨g,o,none⟩) r J,.slice (some a) u I]).run P w =
   .ok (goInt (CP u r)) (w.setRow g (cur.toList.take o++cs++cur.toList.drop (o+cs.length)).toArray):=by
 have hl:=run_loadCells_list (P:=P) w a cs H;have M:=run_storeCells_at P g o t cs 0 cur w Z (by simpa using z) R;simp[B8,run_underlying Y,Builtin.lenOf,CM,sizeOf,typeInfo,hi,<- hn,hl,M]
def InsNil (P:Program)(F E C B:Nat):Prop :=
 ∀ (w:World) (i:TypeInfo) (z:Value) (hi:P.info? E=some i) (hz:i.zero=some z) (hs:i.size=C) (Z:i.bytes=B) (O:z.cells.size=C) (J m R:Nat) (r:List Value) (hl:r.length=m*C) (H:∀ j u,r[j]?=some u->w.cell? ⟨J,0+j,none⟩=some u) (Y:∀ u∈r,u.oneCell'=true) (hm:0<m) (X:m<=maxLen) (y:m*B<=140737488355328),
  Calls P F #[.slice none 0 0,.int .i64 0,.slice (some ⟨J,0,none⟩) m R] w λe M =>
   ∃ I,e=.returned I/\Row M E C I m r/\w.grownBy M none/\I.ownBlock=some w.heap.size
def InsEnd (P:Program)(F E C B:Nat):Prop :=
 ∀ (w:World) (g n H:Nat) (y:List Value) (i:TypeInfo) (z:Value) (hi:P.info? E=some i) (hz:i.zero=some z) (hs:i.size=C) (hb:i.bytes=B) (Y:z.cells.size=C) (O:Row w E C (.slice (some ⟨g,0,none⟩) n H) n y) (Z:n<=H) (R m vc:Nat) (r:List Value) (hl:r.length=m*C) (M:∀ j u,r[j]?=some u->w.cell? ⟨R,0+j,none⟩=some u) (h1:∀ u∈r,u.oneCell'=true) (hm:0<m) (a0:n+m<=maxLen) (I:(n+m)*B<=140737488355328),
  Calls P F #[.slice (some ⟨g,0,none⟩) n H,.int .i64 n,.slice (some ⟨R,0,none⟩) m vc] w λe X =>
   ∃ J,e=.returned J/\Row X E C J (n+m) (y++r)/\w.grownBy X (some g)/\(J.ownBlock=some g\/J.ownBlock=some w.heap.size)
def InsShift (P:Program)(F E C B:Nat):Prop :=
 ∀ (w:World) (g n z i:Nat) (I:Array Value) (r:List Value) (J:TypeInfo) (hi:P.info? E=some J) (hs:J.size=C) (hg:w.heap[g]?=some (.cells I E (0,0))) (a1:z<=maxLen) (a3:z*C<=I.size) (Y:I.toList.take (n*C)=r) (a5:r.length=n*C) (a4:∀ u∈r,u.oneCell'=true) (O m vc:Nat) (M:Array Value) (y:List Value) (Z:w.heap[O]?=some (.cells M E (0,0))) (a0:O≠g) (hl:y.length=m*C) (X:∀ j u,y[j]?=some u->w.cell? ⟨O,0+j,none⟩=some u) (h1:∀ u∈y,u.oneCell'=true) (hm:0<m) (a2:i<n) (R:n+m<=z),
  Calls P F #[.slice (some ⟨g,0,none⟩) n z,.int .i64 i,.slice (some ⟨O,0,none⟩) m vc] w λe w' =>
   e=.returned (.slice (some ⟨g,0,none⟩) (n+m) z)/\∃ H:Array Value,w'=w.drew.setRow g H/\H.size=I.size/\H.toList.take ((n+m)*C)=r.take (i*C)++y++r.drop (i*C)
def InsGrow (P:Program)(F E C B:Nat):Prop :=
 ∀ (w:World) (g n J i:Nat) (r:List Value) (I:TypeInfo) (z:Value) (hi:P.info? E=some I) (hz:I.zero=some z) (hs:I.size=C) (hb:I.bytes=B) (a0:z.cells.size=C) (a1:g<w.heap.size) (Z:∀ j u,r[j]?=some u->w.cell? ⟨g,j,none⟩=some u) (a6:r.length=n*C) (a5:∀ u∈r,u.oneCell'=true) (Y m vc:Nat) (y:List Value) (a4:Y<w.heap.size) (hl:y.length=m*C) (X:∀ j u,y[j]?=some u->w.cell? ⟨Y,0+j,none⟩=some u) (h1:∀ u∈y,u.oneCell'=true) (hm:0<m) (a2:i<n) (a3:n<=J) (R:J<n+m) (a7:n+m<=maxLen) (O:(n+m)*B<=140737488355328),
  Calls P F #[.slice (some ⟨g,0,none⟩) n J,.int .i64 i,.slice (some ⟨Y,0,none⟩) m vc] w λe M =>
   ∃ G,n+m<=G/\G<=maxLen/\e=.returned (.slice (some ⟨w.heap.size,0,none⟩) (n+m) G)/\∃ H:Array Value,M.heap[w.heap.size]?=some (.cells H E (0,0))/\G*C<=H.size/\H.toList.take ((n+m)*C)=r.take (i*C)++y++r.drop (i*C) /\
    M.heap.size=w.heap.size+1/\M.os=w.os/\M.tape=w.tape/\M.output=w.output/\∀ k,k<w.heap.size->M.heap[k]?=w.heap[k]?
def ShiftGo (P:Program)(F S E C:Nat):Prop :=
 ∀ (w:World) (g n u i:Nat) (I:Array Value) (z:TypeInfo) (J m R:Nat) (H r y:Array Value),P.info? E=some z->z.size=C->w.heap[g]?=some (.cells I E (0,0))->w.heap[J]?=some (.cells H E (0,0))->J≠g->0<m->i<n->n+m<=u->I.size≠0 ->
  ¬ ((m:Int)=0)->¬ ((i:Int)=(n:Int))->u<=9223372036854775807->IntKind.i64.wrap ((i:Int)+(m:Int))=(i:Int)+(m:Int)->IntKind.i64.wrap ((n:Int)+(m:Int))=(n:Int)+(m:Int)->(0:Int)<=(i:Int)+(m:Int)->((i:Int)+(m:Int)).toNat=i+m->((n:Int)+(m:Int)).toNat=n+m->(i:Int)<=(n:Int)+(m:Int)->¬ (u=i+m)->i<=n->¬ (u=i) ->
  (∀ O M X,(B8 #[S,S] O #[.slice (some ⟨g,(i+m)*C,none⟩) (n+m-(i+m)) M,.slice (some ⟨g,i*C,none⟩) (n+m-i) X]).run P w.drew=.ok (goInt (n-i:Nat)) (w.drew.setRow g r))->(∀ O M,(B8 #[S,S] O #[.slice (some ⟨g,i*C,none⟩) (n+m-i) M,.slice (some ⟨J,0,none⟩) m R]).run P (w.drew.setRow g r)=.ok (goInt (m:Nat)) ((w.drew.setRow g r).setRow g y)) ->
  Calls P F #[.slice (some ⟨g,0,none⟩) n u,.int .i64 i,.slice (some ⟨J,0,none⟩) m R] w λe Y=>e=.returned (.slice (some ⟨g,0,none⟩) (n+m) u)/\Y=(w.drew.setRow g r).setRow g y
theorem shift_p {P:Program}{F S E C B:Nat}(t39:P.underlying S=some (.slice E))(hC:0<C)(go:ShiftGo P F S E C):InsShift P F E C B:=by
 intro w g n z i y u a0 hi hs hg b4 c4 R a2 ba vb m vc a5 I c1 a3 hl Z h1 hm bn O;have k1:(n+m)*C=n*C+m*C:=B6 ..;have k2:(i+m)*C=i*C+m*C:=B6 ..;have k3:(n-i)*C=n*C-i*C:=CI ..;have k4:i*C<=n*C:=B3 _ (by omega);have c3:¬ ((m:Int)=0):=by omega
 have b5:¬ ((i:Int)=(n:Int)):=by omega
 have b2:z<=9223372036854775807:=by simp only[maxLen]at b4;omega
 have c0:IntKind.i64.wrap ((i:Int)+(m:Int))=(i:Int)+(m:Int):=by rw[CB];omega
 have bx:IntKind.i64.wrap ((n:Int)+(m:Int))=(n:Int)+(m:Int):=by rw[CB];omega
 have b6:(0:Int)<=(i:Int)+(m:Int):=by omega
 have bb:((i:Int)+(m:Int)).toNat=i+m:=by omega
 have b0:((n:Int)+(m:Int)).toNat=n+m:=by omega
 have bl:(i:Int)<=(n:Int)+(m:Int):=by omega
 have c2:¬ (z=i+m):=by omega
 have b9:i<=n:=by omega
 have b3:¬ (z=i):=by omega
 have X:(u.drop (i*C)).length=(n-i)*C:=by rw[B7,a2,<- CI]
 have a1:∀ j,j<n*C->u[j]?=y[j]?:=λj hj=>by rw[<- R,CN,if_pos hj];exact Array.getElem?_toList ..
 have ad:CP (n+m-i) (n+m-(i+m))=n-i:=by simp only[CJ];split <;> omega
 have a8:CP m (n+m-i)=m:=by simp only[CJ];split <;> omega
 obtain⟨r,H⟩:∃ c:Array Value,c=(y.toList.take ((i+m)*C)++u.drop (i*C)++y.toList.drop ((i+m)*C+(u.drop (i*C)).length)).toArray:=⟨_,rfl⟩;have a7:(i+m)*C+(n-i)*C<=y.size:=by
  have:(n+m)*C<=z*C:=B3 _ O;omega
 have a4:r.size=y.size:=by
  rw[H];simp only[CA,B4,B5,B7,B9,a2];omega
 obtain⟨J,M⟩:∃ c:Array Value,c=(r.toList.take (i*C)++I++r.toList.drop (i*C+I.length)).toArray:=⟨_,rfl⟩;have a9:∀ ty dc sc,(B8 #[S,S] ty #[.slice (some ⟨g,(i+m)*C,none⟩) (n+m-(i+m)) dc,.slice (some ⟨g,i*C,none⟩) (n+m-i) sc]).run P w.drew=.ok (goInt (n-i:Nat)) (w.drew.setRow g r):=λty dc sc=>by
  have:=run_copy_rowN (P:=P) w.drew S S ty E a0 hi g ((i+m)*C) (n+m-(i+m)) dc ⟨g,i*C,none⟩ (n+m-i) sc y E (u.drop (i*C)) t39 hg (by rw[X,ad,hs])
   (λj v hj=>by
    rw[CG];have b1:=(CC.1 hj).1;rw[X]at b1;rw[CO]at hj;rw[show w.drew.cell? ⟨g,i*C+j,none⟩=w.cell? ⟨g,i*C+j,none⟩ from rfl,cell_of_row w g _ y E (0,0) hg,<- a1 _ (by rw[CI]at b1;omega)];exact hj)
   (by rw[X];exact a7) (λv hv=>ba v (CK hv))
  rw[ad,<- H]at this;exact this
 have a6:∀ ty dc,(B8 #[S,S] ty #[.slice (some ⟨g,i*C,none⟩) (n+m-i) dc,.slice (some ⟨vb,0,none⟩) m vc]).run P (w.drew.setRow g r)=.ok (goInt (m:Nat)) ((w.drew.setRow g r).setRow g J):=λty dc=>by
  have:=run_copy_rowN (P:=P) (w.drew.setRow g r) S S ty E a0 hi g (i*C) (n+m-i) dc ⟨vb,0,none⟩ m vc r E I t39 (setRow_heap w.drew g y r E (0,0) hg) (by rw[hl,a8,hs])
   (λj v hj=>by
    rw[CG,cell_setRow_other _ _ _ _ a3];exact Z j v hj)
   (by rw[hl,a4,<- B6];have:(i+m)*C<=z*C:=B3 _ (by omega);omega) h1
  rw[a8,<- M]at this;exact this
 have Y:J.size=y.size/\J.toList.take ((n+m)*C)=u.take (i*C)++I++u.drop (i*C):=by
  refine⟨?_,?_⟩
  ·rw[M];simp only[CA,B4,B5,B7,B9,hl,a4];have:(i+m)*C<=z*C:=B3 _ (by omega);omega
  ·have ha:r.toList.take (i*C)=u.take (i*C):=by
    rw[H,<- R,CT,CE (B3 _ (by omega)),CD];simp only[List.take_append_of_le_length (show i*C<=(y.toList.take ((i+m)*C)).length by simp only[B5,B9];have:(i+m)*C<=z*C:=B3 _ (by omega);omega),CT];rw[CE (by omega)]
   have hb:r.toList.drop (i*C+I.length)=u.drop (i*C)++y.toList.drop ((i+m)*C+(u.drop (i*C)).length):=by
    rw[H,hl,<- B6,CD];exact List.drop_left' (by simp only[B5,B9];have:(i+m)*C<=z*C:=B3 _ (by omega);omega)
   rw[M,ha,hb];simp only[<- CD];exact CF (by simp only[B4,B5,a2,hl,X];rw[CE (B3 _ (by omega))];omega)
 have k5:1*C<=z*C:=B3 _ (by omega);refine (go w g n z i y a0 vb m vc a5 r J hi hs hg c1 a3 hm bn O (by omega) c3 b5 b2 c0 bx b6 bb b0 bl c2 b9 b3 a9 a6).mono λe w' h=>?_
 exact⟨h.1,J,h.2.trans (setRow_setRow _ _ _ _),Y.1,Y.2⟩
def GrowGo (P:Program)(F S E C:Nat):Prop :=
 ∀ (w:World) (g n u i:Nat) (I m J G:Nat) (ROW r y:Array Value),0<m->i<n->n<=u->u<n+m->n+m<=G ->
  ¬ ((m:Int)=0)->¬ ((i:Int)=(n:Int))->(u:Int)<(n:Int)+(m:Int)->n+m<=9223372036854775807->G<=9223372036854775807->¬ (G=i)->¬ (G=i+m)->¬ (u=i)->IntKind.i64.wrap ((i:Int)+(m:Int))=(i:Int)+(m:Int)->IntKind.i64.wrap ((n:Int)+(m:Int))=(n:Int)+(m:Int)->IntKind.i64.wrap ((n:Int)+(m:Int)-(i:Int))=(n:Int)+(m:Int)-(i:Int)->(0:Int)<=(i:Int)+(m:Int)->i<=n->((i:Int)+(m:Int)).toNat=i+m->(i:Int)<=(n:Int) ->
  (∀ z,(CS #[S,3] z #[.slice (some ⟨g,0,none⟩) i u,.int .i64 ((n:Int)+(m:Int)-(i:Int))]).run P w =
   .ok (.slice (some ⟨w.heap.size,0,none⟩) (n+m) G) (w.drew.alloc (.cells ROW E)))->(∀ z H,(B8 #[S,S] z #[.slice (some ⟨w.heap.size,i*C,none⟩) (n+m-i) H,.slice (some ⟨I,0,none⟩) m J]).run P ((w.alloc (.cells ROW E)).drew)=.ok (goInt (m:Nat)) (((w.alloc (.cells ROW E)).drew).setRow w.heap.size r))->(∀ z H M,(B8 #[S,S] z #[.slice (some ⟨w.heap.size,(i+m)*C,none⟩) (n+m-(i+m)) H,.slice (some ⟨g,i*C,none⟩) (n-i) M]).run P (((w.alloc (.cells ROW E)).drew.setRow w.heap.size r).drew)=.ok (goInt (n-i:Nat)) ((((w.alloc (.cells ROW E)).drew.setRow w.heap.size r).drew).setRow w.heap.size y)) ->
  Calls P F #[.slice (some ⟨g,0,none⟩) n u,.int .i64 i,.slice (some ⟨I,0,none⟩) m J] w λe O=>e=.returned (.slice (some ⟨w.heap.size,0,none⟩) (n+m) G)/\O=((((w.alloc (.cells ROW E)).drew.setRow w.heap.size r).drew).setRow w.heap.size y)
theorem grow_p {P:Program}{F S E C B:Nat}(t39:P.underlying S=some (.slice E))(t3:P.underlying 3=some (.int .i64))(hC:0<C)(go:GrowGo P F S E C):InsGrow P F E C B:=by
 intro w g n H i r a2 z hi hz hs hb e3 e4 a0 a7 cx vb m vc y cc hl a5 h1 hm d3 e5 R ba a3;have k1:(n+m)*C=n*C+m*C:=B6 ..;have k2:(i+m)*C=i*C+m*C:=B6 ..;have k3:(n-i)*C=n*C-i*C:=CI ..;have k4:i*C<=n*C:=B3 _ (by omega);have e7:¬ ((m:Int)=0):=by omega
 have cp:¬ ((i:Int)=(n:Int)):=by omega
 have c4:(H:Int)<(n:Int)+(m:Int):=by omega
 have b1:n+m<=9223372036854775807:=by simp only[maxLen]at ba;omega
 have cy:(n:Int)+(m:Int)-(i:Int)=((n+m-i:Nat):Int):=by omega
 have b3:i+(n+m-i)=n+m:=by omega
 have c2:i*C<=n*C:=B3 _ (by omega);have X:(r.take (i*C)).length=i*C:=by rw[B5,a7];exact CE c2
 have c1:(CM a2.size i (.slice (some ⟨g,0,none⟩) i H)).run P w.drew=.ok (r.take (i*C)).toArray w.drew:=by
  rw[hs];exact run_firstCells_some w.drew C i ⟨g,0,none⟩ i H (r.take (i*C)) X (λj v hj=>by
   rw[CG,CQ];rw[CN]at hj;split at hj
   ·exact a0 j v hj
   ·cases hj)
 obtain⟨G,hG⟩:∃ G,G=grownCap w (n+m) H E:=⟨_,rfl⟩;obtain⟨ROW,Z⟩:∃ ROW:Array Value,ROW=(r.take (i*C)).toArray++CR z.cells (n+m-i)++CR z.cells (G-(n+m)):=⟨_,rfl⟩;have cb:∀ Y,(CS #[S,3] Y #[.slice (some ⟨g,0,none⟩) i H,.int .i64 ((n:Int)+(m:Int)-(i:Int))]).run P w =
   .ok (.slice (some ⟨w.heap.size,0,none⟩) (n+m) G) (w.drew.alloc (.cells ROW E)):=λY=>by
  have h:=Lib.run_append_grow_zeros w S 3 Y E a2 z .i64 .i64 t39 t3 hi hz (some ⟨g,0,none⟩) i H (r.take (i*C)) c1 (n+m-i) (by omega) (by omega) (by omega) (by omega)
   (by rw[hb];have:(n+m-i)*B<=(n+m)*B:=B3 _ (by omega);omega) (by rw[hb,b3];exact growslice_fits R a3)
  rw[b3,<- hG,<- Z]at h;rw[cy];exact h
 have a6:n+m<=G:=by rw[hG];exact grownCap_ge w _ _ _
 have a9:G<=maxLen:=by rw[hG];exact grownCap_le_maxLen w (n+m) H E ba
 have b4:G<=9223372036854775807:=by unfold maxLen at a9;omega
 have O:ROW.size=G*C:=by
  rw[Z];simp only[Array.size_append,CA,size_zeroCells,e3,X,<- B6];rw[show i+(n+m-i)+(G-(n+m))=G by omega]
 obtain⟨u,J⟩:∃ c:Array Value,c=(ROW.toList.take (i*C)++y++ROW.toList.drop (i*C+y.length)).toArray:=⟨_,rfl⟩;obtain⟨I,M⟩:∃ c:Array Value,c=(u.toList.take ((i+m)*C)++r.drop (i*C)++u.toList.drop ((i+m)*C+(r.drop (i*C)).length)).toArray:=⟨_,rfl⟩;have eb:(n+m)*C<=G*C:=B3 _ a6;have a4:(r.drop (i*C)).length=(n-i)*C:=by rw[B7,a7,<- CI]
 have b0:u.size=ROW.size:=by
  rw[J];simp only[CA,B4,B5,B7,B9,hl,O];omega
 have e0:I.size=ROW.size:=by
  rw[M];simp only[CA,B4,B5,B7,B9,a7,b0,O];omega
 have a1:ROW.toList.take (i*C)=r.take (i*C):=by
  rw[Z];simp only[Array.toList_append,CD];exact CF X
 have ad:I.toList.take ((n+m)*C)=r.take (i*C)++y++r.drop (i*C):=by
  have e1:u.toList.take ((i+m)*C)=r.take (i*C)++y:=by
   rw[J,a1];show List.take ((i+m)*C) (r.take (i*C)++y++ROW.toList.drop (i*C+y.length))=_;exact CF (by rw[B4,X,hl,<- B6])
  rw[M,e1];show List.take ((n+m)*C) (r.take (i*C)++y++r.drop (i*C)++_)=_;exact CF (by rw[B4,B4,X,hl,a4,<- B6,<- B6,show i+m+(n-i)=n+m by omega])
 have bl:CP m (n+m-i)=m:=by simp only[CJ];split <;> omega
 have b6:CP (n-i) (n+m-(i+m))=n-i:=by simp only[CJ];split <;> omega
 have b2:∀ (W:World),W.heap[w.heap.size]?=some (.cells ROW E (0,0))->(∀ k,k<w.heap.size->W.heap[k]?=w.heap[k]?)->∀ Y dc,(B8 #[S,S] Y #[.slice (some ⟨w.heap.size,i*C,none⟩) (n+m-i) dc,.slice (some ⟨vb,0,none⟩) m vc]).run P W=.ok (goInt (m:Nat)) (W.setRow w.heap.size u):=λW hW hk Y dc=>by
  have:=run_copy_rowN (P:=P) W S S Y E a2 hi w.heap.size (i*C) (n+m-i) dc ⟨vb,0,none⟩ m vc ROW E y t39 hW (by rw[hl,bl,hs])
   (λj v hj=>by
    rw[CG];have:=a5 j v hj;unfold CU at this ⊢;rw[hk vb cc];exact this)
   (by rw[hl,O,<- B6];exact B3 _ (by omega)) h1
  rw[bl,<- J]at this;exact this
 have c0:∀ (W:World),W.heap[w.heap.size]?=some (.cells u E (0,0))->(∀ k,k<w.heap.size->W.heap[k]?=w.heap[k]?)->∀ Y dc sc,(B8 #[S,S] Y #[.slice (some ⟨w.heap.size,(i+m)*C,none⟩) (n+m-(i+m)) dc,.slice (some ⟨g,i*C,none⟩) (n-i) sc]).run P W=.ok (goInt (n-i:Nat)) (W.setRow w.heap.size I):=λW hW hk Y dc sc=>by
  have:=run_copy_rowN (P:=P) W S S Y E a2 hi w.heap.size ((i+m)*C) (n+m-(i+m)) dc ⟨g,i*C,none⟩ (n-i) sc u E (r.drop (i*C)) t39 hW (by rw[a4,b6,hs])
   (λj v hj=>by
    rw[CG];rw[CO]at hj;have:=a0 _ v hj;unfold CU at this ⊢;rw[hk g e4];exact this)
   (by rw[a4,b0,O,<- B6];exact B3 _ (by omega)) (λv hv=>cx v (CK hv))
  rw[b6,<- M]at this;exact this
 have bx:((w.alloc (.cells ROW E)).drew).heap[w.heap.size]?=some (.cells ROW E (0,0)):=heap_alloc_new w _;have b5:∀ k,k<w.heap.size->((w.alloc (.cells ROW E)).drew).heap[k]?=w.heap[k]?:=λk hk=>Go.heap_alloc_old w _ hk
 have a8:(((w.alloc (.cells ROW E)).drew.setRow w.heap.size u).drew).heap[w.heap.size]?=some (.cells u E (0,0)):=setRow_heap (w.alloc (.cells ROW E)).drew w.heap.size ROW u E (0,0) bx;have b9:∀ k,k<w.heap.size->(((w.alloc (.cells ROW E)).drew.setRow w.heap.size u).drew).heap[k]?=w.heap[k]?:=λk hk=>(setRow_other (w.alloc (.cells ROW E)).drew w.heap.size k u (by omega)).trans (b5 k hk)
 have e6:¬ (G=i):=by omega
 have bb:¬ (G=i+m):=by omega
 have c3:¬ (H=i):=by omega
 have e2:IntKind.i64.wrap ((i:Int)+(m:Int))=(i:Int)+(m:Int):=by rw[CB];omega
 have dd:IntKind.i64.wrap ((n:Int)+(m:Int))=(n:Int)+(m:Int):=by rw[CB];omega
 have cu:IntKind.i64.wrap ((n:Int)+(m:Int)-(i:Int))=(n:Int)+(m:Int)-(i:Int):=by rw[CB];omega
 have cw:(0:Int)<=(i:Int)+(m:Int):=by omega
 have bn:i<=n:=by omega
 have d1:((i:Int)+(m:Int)).toNat=i+m:=by omega
 have d2:(i:Int)<=(n:Int):=by omega
 refine (go w g n H i vb m vc G ROW u I hm d3 e5 R a6 e7 cp c4 b1 b4 e6 bb c3 e2 dd cu cw bn d1 d2 cb (b2 _ bx b5) (c0 _ a8 b9)).mono λe w' h=>?_
 obtain⟨h1,rfl⟩:=h;exact⟨G,a6,a9,h1,I,setRow_heap _ _ _ _ _ _ a8,by rw[e0,O];exact Nat.le_refl _,ad,by simp,rfl,rfl,rfl,λk hk=>(setRow_other _ _ _ _ (by omega)).trans (b9 k hk)⟩
theorem ins_walk {P:Program}{F E C B:Nat}(q1:(P.info? E).isSome=true)(q2:(P.info? E).map (λi=>i.size)=some C)(q3:(P.info? E).map (λi=>i.bytes)=some B)(q4:((P.info? E).bind λi=>i.zero).map (λz=>z.cells.size)=some C)
  (hC:0<C) (hE:¬ E=5) (hB:0<B) (ins_nil:InsNil P F E C B) (ins_end:InsEnd P F E C B) (ins_shift:InsShift P F E C B) (ins_grow:InsGrow P F E C B):jF P F E C B:=by
 intro w v0 v2 n m i I H r0 r2 o0 o2 hm b0 a7 Y;have k1:(n+m)*C=n*C+m*C:=B6 ..;have b6:=r2;obtain⟨J,h2⟩:=r2;rcases h2 with ⟨_,h⟩|⟨vb,vc,a5,mk,rfl,b2,cb,a8,c4,cc⟩
 ·omega
 obtain⟨rfl,_⟩:=a8.elim id (λh=>absurd h.1 hE);have r:∀ j u,H[j]?=some u->w.cell? ⟨vb,0+j,none⟩=some u:=λj u hj=>by
  rw[CQ,b6.cellAt j (by rw[<- J];exact (CC.1 hj).1)];exact hj
 have kB:n+m<=(n+m)*B:=Nat.le_mul_of_pos_right _ hB;have a9:n+m<=maxLen:=by unfold maxLen;omega
 obtain⟨M,hi⟩:=Option.isSome_iff_exists.1 q1;rw[hi]at q2 q3 q4;have hs:M.size=C:=by simpa using q2
 have hb:M.bytes=B:=by simpa using q3
 simp only[Option.bind_some,Option.map_eq_some_iff]at q4;obtain⟨z,hz,a3⟩:=q4;have bl:vb<w.heap.size:=(CH.1 b2).1;have a6:=r0;obtain⟨O,h0⟩:=r0;rcases h0 with ⟨rfl,h0⟩|⟨g,X,ad,mk,rfl,hg,b3,bb,b1,a4⟩
 ·subst h0;have:i=0:=by omega
  subst this;have hf:I=[]:=List.eq_nil_of_length_eq_zero (by simpa using O);subst hf;refine (ins_nil w M z hi hz hs hb a3 vb m vc H J r o2 hm (by omega) (by rw[CQ]at Y;exact Y)).mono λe w' h=>?_
  obtain⟨v',e1,h1,h2,h3⟩:=h;exact⟨v',e1,by simpa using h1,h2,.inr h3⟩
 ·obtain⟨rfl,Z⟩:=bb.elim id (λh=>absurd h.1 hE);have c2:g<w.heap.size:=(CH.1 hg).1;have b9:vb≠g:=λh=>a7 g (by simp[CL]) (by simp[CL,h])
  have a2:∀ j u,I[j]?=some u->w.cell? ⟨g,j,none⟩=some u:=λj u hj=>by
   rw[a6.cellAt j (by rw[<- O];exact (CC.1 hj).1)];exact hj
  by_cases hn:i=n
  ·subst hn;refine (ins_end w g i X I M z hi hz hs hb a3 a6 b3 vb m vc H J r o2 hm a9 Y).mono λe w' h=>?_
   obtain⟨v',e1,h1,h2,h3⟩:=h;refine⟨v',e1,?_,h2,h3⟩;rw[List.take_of_length_le (by omega),List.drop_of_length_le (by omega),List.append_nil];exact h1
  ·by_cases R:n+m<=X
   ·refine (ins_shift w g n X i ad I M hi hs hg Z b1 a4 O o0 vb m vc a5 H b2 b9 J r o2 hm (by omega) R).mono λe w' h=>?_
    obtain⟨e1,y,rfl,a0,a1⟩:=h;refine⟨_,e1,⟨?_,.inr ⟨g,X,y,_,rfl,setRow_heap w.drew g ad y E (0,0) hg,R,.inl ⟨rfl,Z⟩,by rw[a0];exact b1,a1⟩⟩,⟨rfl,rfl,rfl,by simp,λk _ hk=>setRow_other w.drew g k y (λh=>hk (by simp[CL,h]))⟩,.inl rfl⟩;simp only[B4,B5,B7,O,J];have:i*C<=n*C:=B3 _ b0;omega
   ·refine (ins_grow w g n X i I M z hi hz hs hb a3 c2 a2 O o0 vb m vc H bl J r o2 hm (by omega) b3 (by omega) a9 Y).mono λe w' h=>?_
    obtain⟨G,c1,ba,e1,y,a0,a1,c0,c3,b5,b4,bn,hk⟩:=h;refine⟨_,e1,⟨?_,.inr ⟨w.heap.size,G,y,_,rfl,a0,c1,.inl ⟨rfl,ba⟩,a1,c0⟩⟩,⟨b5,b4,bn,by omega,λk bx _=>hk k bx⟩,.inr rfl⟩;simp only[B4,B5,B7,O,J];have:i*C<=n*C:=B3 _ b0;omega
end Go.Proofs.YtadlacffdemoiaaGreatEv
