/- slices.Insert: what its walk needs, for any element. -/
import Derived.Test.YtadlacffdemoiaaGreatEvQ
import Derived.Test.YtadlacffdemoiaaGreatE6
import Derived.Shelf.Spec.SlicesInsert
import Derived.Laws.CopyRow
import Derived.Lib.AppendZerosOnto
set_option linter.unusedVariables false
set_option maxRecDepth 100000
set_option linter.unusedVariables false
set_option linter.unusedSimpArgs false
open Array renaming length_toList->B4,getElem?_eq_some_iff->CC
open Go.Addr renaming add_lit->CB
open Go.Builtin renaming copy_->B3,firstCells->CH,zeroCells->CM,append_->CN
open Go.IntKind renaming wrap_i64->B6
open Go.Value renaming ownBlock->CG
open Go.World renaming cell?->CP
open List renaming length_append->BW,length_take->BX,length_drop->BZ,size_toArray->B5,getElem?_eq_some_iff->B7,append_assoc->B8,take_left'->CA,mem_of_mem_drop->CF,getElem?_take->CI,getElem?_drop->CJ,take_take->CO
open Nat renaming mul_le_mul_right->BV,add_mul->BY,min_eq_left->B9,sub_mul->CD,min_def->CE,min->CK,zero_add->CL
namespace Go.Proofs.YtadlacffdemoiaaGreatEv
open Go Go.Proofs Go.Shelf Go.RowKit Go.Lib
theorem run_copy_rowN {P:Program}(w:World)(O sT ty y:TypeId)(i:TypeInfo)(X:P.info? y=some i)(g o r I:Nat)(a:Addr)(u H:Nat)(cur:Array Value)(t:TypeId)(cs:List Value)
  (Y:P.underlying O=some (.slice y)) (Z:w.heap[g]?=some (.cells cur t (0,0))) (hn:cs.length=CK u r*i.size)
  (z:∀ j v,cs[j]?=some v->w.cell? (a.add j)=some v) (J:o+cs.length<=cur.size) (h1:∀ v∈cs,v.oneCell'=true) :
  (B3 #[O,sT] ty #[.slice (some ⟨g,o,none⟩) r I,.slice (some a) u H]).run P w =
   .ok (goInt (CK u r)) (w.setRow g (cur.toList.take o++cs++cur.toList.drop (o+cs.length)).toArray):=by
 have R:=run_loadCells_list (P:=P) w a cs z;have M:=run_storeCells_at P g o t cs 0 cur w Z (by simpa using J) h1;simp[B3,run_underlying Y,Builtin.lenOf,CH,sizeOf,typeInfo,X,<- hn,R,M]
def InsNil (P:Program)(F E C B:Nat):Prop :=
 ∀ (w:World) (i:TypeInfo) (z:Value) (hi:P.info? E=some i) (Z:i.zero=some z) (hs:i.size=C) (hb:i.bytes=B) (X:z.cells.size=C) (M m O:Nat) (r:List Value) (hl:r.length=m*C) (I:∀ j u,r[j]?=some u->w.cell? ⟨M,0+j,none⟩=some u) (h1:∀ u∈r,u.oneCell'=true) (Y:0<m) (R:m<=maxLen) (y:m*B<=140737488355328),
  Calls P F #[.slice none 0 0,.int .i64 0,.slice (some ⟨M,0,none⟩) m O] w λe J =>
   ∃ H,e=.returned H/\Row J E C H m r/\w.grownBy J none/\H.ownBlock=some w.heap.size
def InsEnd (P:Program)(F E C B:Nat):Prop :=
 ∀ (w:World) (g n H:Nat) (y:List Value) (i:TypeInfo) (z:Value) (hi:P.info? E=some i) (hz:i.zero=some z) (hs:i.size=C) (hb:i.bytes=B) (a1:z.cells.size=C) (X:Row w E C (.slice (some ⟨g,0,none⟩) n H) n y) (a0:n<=H) (R m Y:Nat) (r:List Value) (hl:r.length=m*C) (M:∀ j u,r[j]?=some u->w.cell? ⟨R,0+j,none⟩=some u) (h1:∀ u∈r,u.oneCell'=true) (hm:0<m) (Z:n+m<=maxLen) (J:(n+m)*B<=140737488355328),
  Calls P F #[.slice (some ⟨g,0,none⟩) n H,.int .i64 n,.slice (some ⟨R,0,none⟩) m Y] w λe O =>
   ∃ I,e=.returned I/\Row O E C I (n+m) (y++r)/\w.grownBy O (some g)/\(I.ownBlock=some g\/I.ownBlock=some w.heap.size)
def InsShift (P:Program)(F E C B:Nat):Prop :=
 ∀ (w:World) (g n H i:Nat) (I:Array Value) (r:List Value) (M:TypeInfo) (hi:P.info? E=some M) (hs:M.size=C) (hg:w.heap[g]?=some (.cells I E (0,0))) (Z:H<=maxLen) (a0:H*C<=I.size) (X:I.toList.take (n*C)=r) (a2:r.length=n*C) (a4:∀ u∈r,u.oneCell'=true) (O m vc:Nat) (J:Array Value) (y:List Value) (a3:w.heap[O]?=some (.cells J E (0,0))) (a1:O≠g) (hl:y.length=m*C) (R:∀ j u,y[j]?=some u->w.cell? ⟨O,0+j,none⟩=some u) (h1:∀ u∈y,u.oneCell'=true) (hm:0<m) (a5:i<n) (Y:n+m<=H),
  Calls P F #[.slice (some ⟨g,0,none⟩) n H,.int .i64 i,.slice (some ⟨O,0,none⟩) m vc] w λe w' =>
   e=.returned (.slice (some ⟨g,0,none⟩) (n+m) H)/\∃ z:Array Value,w'=w.drew.setRow g z/\z.size=I.size/\z.toList.take ((n+m)*C)=r.take (i*C)++y++r.drop (i*C)
def InsGrow (P:Program)(F E C B:Nat):Prop :=
 ∀ (w:World) (g n J i:Nat) (r:List Value) (I:TypeInfo) (z:Value) (hi:P.info? E=some I) (hz:I.zero=some z) (hs:I.size=C) (hb:I.bytes=B) (a9:z.cells.size=C) (a2:g<w.heap.size) (Z:∀ j u,r[j]?=some u->w.cell? ⟨g,j,none⟩=some u) (a3:r.length=n*C) (a5:∀ u∈r,u.oneCell'=true) (Y m vc:Nat) (y:List Value) (a4:Y<w.heap.size) (hl:y.length=m*C) (R:∀ j u,y[j]?=some u->w.cell? ⟨Y,0+j,none⟩=some u) (h1:∀ u∈y,u.oneCell'=true) (hm:0<m) (a6:i<n) (a1:n<=J) (X:J<n+m) (a0:n+m<=maxLen) (O:(n+m)*B<=140737488355328),
  Calls P F #[.slice (some ⟨g,0,none⟩) n J,.int .i64 i,.slice (some ⟨Y,0,none⟩) m vc] w λe M =>
   ∃ G,n+m<=G/\G<=maxLen/\e=.returned (.slice (some ⟨w.heap.size,0,none⟩) (n+m) G)/\∃ H:Array Value,M.heap[w.heap.size]?=some (.cells H E (0,0))/\G*C<=H.size/\H.toList.take ((n+m)*C)=r.take (i*C)++y++r.drop (i*C) /\
    M.heap.size=w.heap.size+1/\M.os=w.os/\M.tape=w.tape/\M.output=w.output/\∀ k,k<w.heap.size->M.heap[k]?=w.heap[k]?
def ShiftGo (P:Program)(F S E C:Nat):Prop :=
 ∀ (w:World) (g n u i:Nat) (z:Array Value) (I:TypeInfo) (J m R:Nat) (H r y:Array Value),P.info? E=some I->I.size=C->w.heap[g]?=some (.cells z E (0,0))->w.heap[J]?=some (.cells H E (0,0))->J≠g->0<m->i<n->n+m<=u->z.size≠0 ->
  ¬ ((m:Int)=0)->¬ ((i:Int)=(n:Int))->u<=9223372036854775807->IntKind.i64.wrap ((i:Int)+(m:Int))=(i:Int)+(m:Int)->IntKind.i64.wrap ((n:Int)+(m:Int))=(n:Int)+(m:Int)->(0:Int)<=(i:Int)+(m:Int)->((i:Int)+(m:Int)).toNat=i+m->((n:Int)+(m:Int)).toNat=n+m->(i:Int)<=(n:Int)+(m:Int)->¬ (u=i+m)->i<=n->¬ (u=i) ->
  (∀ O M X,(B3 #[S,S] O #[.slice (some ⟨g,(i+m)*C,none⟩) (n+m-(i+m)) M,.slice (some ⟨g,i*C,none⟩) (n+m-i) X]).run P w.drew=.ok (goInt (n-i:Nat)) (w.drew.setRow g r))->(∀ O M,(B3 #[S,S] O #[.slice (some ⟨g,i*C,none⟩) (n+m-i) M,.slice (some ⟨J,0,none⟩) m R]).run P (w.drew.setRow g r)=.ok (goInt (m:Nat)) ((w.drew.setRow g r).setRow g y)) ->
  Calls P F #[.slice (some ⟨g,0,none⟩) n u,.int .i64 i,.slice (some ⟨J,0,none⟩) m R] w λe Y=>e=.returned (.slice (some ⟨g,0,none⟩) (n+m) u)/\Y=(w.drew.setRow g r).setRow g y
theorem shift_p {P:Program}{F S E C B:Nat}(t39:P.underlying S=some (.slice E))(hC:0<C)(go:ShiftGo P F S E C):InsShift P F E C B:=by
 intro w g n z i y u a0 hi hs hg bl cb O a1 c2 vb m vc a3 I bn a4 hl Z h1 hm c6 R;have k1:(n+m)*C=n*C+m*C:=BY ..;have k2:(i+m)*C=i*C+m*C:=BY ..;have k3:(n-i)*C=n*C-i*C:=CD ..;have k4:i*C<=n*C:=BV _ (by omega);have c5:¬ ((m:Int)=0):=by omega
 have ba:¬ ((i:Int)=(n:Int)):=by omega
 have a5:z<=9223372036854775807:=by simp only[maxLen]at bl;omega
 have c3:IntKind.i64.wrap ((i:Int)+(m:Int))=(i:Int)+(m:Int):=by rw[B6];omega
 have b5:IntKind.i64.wrap ((n:Int)+(m:Int))=(n:Int)+(m:Int):=by rw[B6];omega
 have b9:(0:Int)<=(i:Int)+(m:Int):=by omega
 have bb:((i:Int)+(m:Int)).toNat=i+m:=by omega
 have b3:((n:Int)+(m:Int)).toNat=n+m:=by omega
 have c4:(i:Int)<=(n:Int)+(m:Int):=by omega
 have bx:¬ (z=i+m):=by omega
 have c0:i<=n:=by omega
 have c1:¬ (z=i):=by omega
 have X:(u.drop (i*C)).length=(n-i)*C:=by rw[BZ,a1,<- CD]
 have a2:∀ j,j<n*C->u[j]?=y[j]?:=λj hj=>by rw[<- O,CI,if_pos hj];exact Array.getElem?_toList ..
 have ad:CK (n+m-i) (n+m-(i+m))=n-i:=by simp only[CE];split <;> omega
 have b0:CK m (n+m-i)=m:=by simp only[CE];split <;> omega
 obtain⟨r,H⟩:∃ c:Array Value,c=(y.toList.take ((i+m)*C)++u.drop (i*C)++y.toList.drop ((i+m)*C+(u.drop (i*C)).length)).toArray:=⟨_,rfl⟩;have b4:(i+m)*C+(n-i)*C<=y.size:=by
  have:(n+m)*C<=z*C:=BV _ R;omega
 have a6:r.size=y.size:=by
  rw[H];simp only[B5,BW,BX,BZ,B4,a1];omega
 obtain⟨J,M⟩:∃ c:Array Value,c=(r.toList.take (i*C)++I++r.toList.drop (i*C+I.length)).toArray:=⟨_,rfl⟩;have a9:∀ ty dc sc,(B3 #[S,S] ty #[.slice (some ⟨g,(i+m)*C,none⟩) (n+m-(i+m)) dc,.slice (some ⟨g,i*C,none⟩) (n+m-i) sc]).run P w.drew=.ok (goInt (n-i:Nat)) (w.drew.setRow g r):=λty dc sc=>by
  have:=run_copy_rowN (P:=P) w.drew S S ty E a0 hi g ((i+m)*C) (n+m-(i+m)) dc ⟨g,i*C,none⟩ (n+m-i) sc y E (u.drop (i*C)) t39 hg (by rw[X,ad,hs])
   (λj v hj=>by
    rw[CB];have b2:=(B7.1 hj).1;rw[X]at b2;rw[CJ]at hj;rw[show w.drew.cell? ⟨g,i*C+j,none⟩=w.cell? ⟨g,i*C+j,none⟩ from rfl,cell_of_row w g _ y E (0,0) hg,<- a2 _ (by rw[CD]at b2;omega)];exact hj)
   (by rw[X];exact b4) (λv hv=>c2 v (CF hv))
  rw[ad,<- H]at this;exact this
 have b1:∀ ty dc,(B3 #[S,S] ty #[.slice (some ⟨g,i*C,none⟩) (n+m-i) dc,.slice (some ⟨vb,0,none⟩) m vc]).run P (w.drew.setRow g r)=.ok (goInt (m:Nat)) ((w.drew.setRow g r).setRow g J):=λty dc=>by
  have:=run_copy_rowN (P:=P) (w.drew.setRow g r) S S ty E a0 hi g (i*C) (n+m-i) dc ⟨vb,0,none⟩ m vc r E I t39 (setRow_heap w.drew g y r E (0,0) hg) (by rw[hl,b0,hs])
   (λj v hj=>by
    rw[CB,cell_setRow_other _ _ _ _ a4];exact Z j v hj)
   (by rw[hl,a6,<- BY];have:(i+m)*C<=z*C:=BV _ (by omega);omega) h1
  rw[b0,<- M]at this;exact this
 have Y:J.size=y.size/\J.toList.take ((n+m)*C)=u.take (i*C)++I++u.drop (i*C):=by
  refine⟨?_,?_⟩
  ·rw[M];simp only[B5,BW,BX,BZ,B4,hl,a6];have:(i+m)*C<=z*C:=BV _ (by omega);omega
  ·have ha:r.toList.take (i*C)=u.take (i*C):=by
    rw[H,<- O,CO,B9 (BV _ (by omega)),B8];simp only[List.take_append_of_le_length (show i*C<=(y.toList.take ((i+m)*C)).length by simp only[BX,B4];have:(i+m)*C<=z*C:=BV _ (by omega);omega),CO];rw[B9 (by omega)]
   have hb:r.toList.drop (i*C+I.length)=u.drop (i*C)++y.toList.drop ((i+m)*C+(u.drop (i*C)).length):=by
    rw[H,hl,<- BY,B8];exact List.drop_left' (by simp only[BX,B4];have:(i+m)*C<=z*C:=BV _ (by omega);omega)
   rw[M,ha,hb];simp only[<- B8];exact CA (by simp only[BW,BX,a1,hl,X];rw[B9 (BV _ (by omega))];omega)
 have k5:1*C<=z*C:=BV _ (by omega);refine (go w g n z i y a0 vb m vc a3 r J hi hs hg bn a4 hm c6 R (by omega) c5 ba a5 c3 b5 b9 bb b3 c4 bx c0 c1 a9 b1).mono λe w' h=>?_
 exact⟨h.1,J,h.2.trans (setRow_setRow _ _ _ _),Y.1,Y.2⟩
def GrowGo (P:Program)(F S E C:Nat):Prop :=
 ∀ (w:World) (g n u i:Nat) (J m I G:Nat) (ROW r y:Array Value),0<m->i<n->n<=u->u<n+m->n+m<=G ->
  ¬ ((m:Int)=0)->¬ ((i:Int)=(n:Int))->(u:Int)<(n:Int)+(m:Int)->n+m<=9223372036854775807->G<=9223372036854775807->¬ (G=i)->¬ (G=i+m)->¬ (u=i)->IntKind.i64.wrap ((i:Int)+(m:Int))=(i:Int)+(m:Int)->IntKind.i64.wrap ((n:Int)+(m:Int))=(n:Int)+(m:Int)->IntKind.i64.wrap ((n:Int)+(m:Int)-(i:Int))=(n:Int)+(m:Int)-(i:Int)->(0:Int)<=(i:Int)+(m:Int)->i<=n->((i:Int)+(m:Int)).toNat=i+m->(i:Int)<=(n:Int) ->
  (∀ z,(CN #[S,3] z #[.slice (some ⟨g,0,none⟩) i u,.int .i64 ((n:Int)+(m:Int)-(i:Int))]).run P w =
   .ok (.slice (some ⟨w.heap.size,0,none⟩) (n+m) G) (w.drew.alloc (.cells ROW E)))->(∀ z H,(B3 #[S,S] z #[.slice (some ⟨w.heap.size,i*C,none⟩) (n+m-i) H,.slice (some ⟨J,0,none⟩) m I]).run P ((w.alloc (.cells ROW E)).drew)=.ok (goInt (m:Nat)) (((w.alloc (.cells ROW E)).drew).setRow w.heap.size r))->(∀ z H M,(B3 #[S,S] z #[.slice (some ⟨w.heap.size,(i+m)*C,none⟩) (n+m-(i+m)) H,.slice (some ⟨g,i*C,none⟩) (n-i) M]).run P (((w.alloc (.cells ROW E)).drew.setRow w.heap.size r).drew)=.ok (goInt (n-i:Nat)) ((((w.alloc (.cells ROW E)).drew.setRow w.heap.size r).drew).setRow w.heap.size y)) ->
  Calls P F #[.slice (some ⟨g,0,none⟩) n u,.int .i64 i,.slice (some ⟨J,0,none⟩) m I] w λe O=>e=.returned (.slice (some ⟨w.heap.size,0,none⟩) (n+m) G)/\O=((((w.alloc (.cells ROW E)).drew.setRow w.heap.size r).drew).setRow w.heap.size y)
theorem grow_p {P:Program}{F S E C B:Nat}(t39:P.underlying S=some (.slice E))(t3:P.underlying 3=some (.int .i64))(hC:0<C)(go:GrowGo P F S E C):InsGrow P F E C B:=by
 intro w g n H i r a1 z hi hz hs hb d1 cb R a9 d2 vb m vc y e7 hl a4 h1 hm eb e6 Z b3 a3;have k1:(n+m)*C=n*C+m*C:=BY ..;have k2:(i+m)*C=i*C+m*C:=BY ..;have k3:(n-i)*C=n*C-i*C:=CD ..;have k4:i*C<=n*C:=BV _ (by omega);have e4:¬ ((m:Int)=0):=by omega
 have cc:¬ ((i:Int)=(n:Int)):=by omega
 have e2:(H:Int)<(n:Int)+(m:Int):=by omega
 have c2:n+m<=9223372036854775807:=by simp only[maxLen]at b3;omega
 have cy:(n:Int)+(m:Int)-(i:Int)=((n+m-i:Nat):Int):=by omega
 have c1:i+(n+m-i)=n+m:=by omega
 have e3:i*C<=n*C:=BV _ (by omega);have Y:(r.take (i*C)).length=i*C:=by rw[BX,a9];exact B9 e3
 have b1:(CH a1.size i (.slice (some ⟨g,0,none⟩) i H)).run P w.drew=.ok (r.take (i*C)).toArray w.drew:=by
  rw[hs];exact run_firstCells_some w.drew C i ⟨g,0,none⟩ i H (r.take (i*C)) Y (λj v hj=>by
   rw[CB,CL];rw[CI]at hj;split at hj
   ·exact R j v hj
   ·cases hj)
 obtain⟨G,hG⟩:∃ G,G=grownCap w (n+m) H E:=⟨_,rfl⟩;obtain⟨ROW,X⟩:∃ ROW:Array Value,ROW=(r.take (i*C)).toArray++CM z.cells (n+m-i)++CM z.cells (G-(n+m)):=⟨_,rfl⟩;have d3:∀ O,(CN #[S,3] O #[.slice (some ⟨g,0,none⟩) i H,.int .i64 ((n:Int)+(m:Int)-(i:Int))]).run P w =
   .ok (.slice (some ⟨w.heap.size,0,none⟩) (n+m) G) (w.drew.alloc (.cells ROW E)):=λO=>by
  have h:=Lib.run_append_grow_zeros w S 3 O E a1 z .i64 .i64 t39 t3 hi hz (some ⟨g,0,none⟩) i H (r.take (i*C)) b1 (n+m-i) (by omega) (by omega) (by omega) (by omega)
   (by rw[hb];have:(n+m-i)*B<=(n+m)*B:=BV _ (by omega);omega) (by rw[hb,c1];exact growslice_fits Z a3)
  rw[c1,<- hG,<- X]at h;rw[cy];exact h
 have a5:n+m<=G:=by rw[hG];exact grownCap_ge w _ _ _
 have b2:G<=maxLen:=by rw[hG];exact grownCap_le_maxLen w (n+m) H E b3
 have c0:G<=9223372036854775807:=by unfold maxLen at b2;omega
 have a0:ROW.size=G*C:=by
  rw[X];simp only[Array.size_append,B5,size_zeroCells,d1,Y,<- BY];rw[show i+(n+m-i)+(G-(n+m))=G by omega]
 obtain⟨u,M⟩:∃ c:Array Value,c=(ROW.toList.take (i*C)++y++ROW.toList.drop (i*C+y.length)).toArray:=⟨_,rfl⟩;obtain⟨I,J⟩:∃ c:Array Value,c=(u.toList.take ((i+m)*C)++r.drop (i*C)++u.toList.drop ((i+m)*C+(r.drop (i*C)).length)).toArray:=⟨_,rfl⟩;have ec:(n+m)*C<=G*C:=BV _ a5;have a6:(r.drop (i*C)).length=(n-i)*C:=by rw[BZ,a9,<- CD]
 have ba:u.size=ROW.size:=by
  rw[M];simp only[B5,BW,BX,BZ,B4,hl,a0];omega
 have cp:I.size=ROW.size:=by
  rw[J];simp only[B5,BW,BX,BZ,B4,a9,ba,a0];omega
 have a2:ROW.toList.take (i*C)=r.take (i*C):=by
  rw[X];simp only[Array.toList_append,B8];exact CA Y
 have b4:I.toList.take ((n+m)*C)=r.take (i*C)++y++r.drop (i*C):=by
  have e1:u.toList.take ((i+m)*C)=r.take (i*C)++y:=by
   rw[M,a2];show List.take ((i+m)*C) (r.take (i*C)++y++ROW.toList.drop (i*C+y.length))=_;exact CA (by rw[BW,Y,hl,<- BY])
  rw[J,e1];show List.take ((n+m)*C) (r.take (i*C)++y++r.drop (i*C)++_)=_;exact CA (by rw[BW,BW,Y,hl,a6,<- BY,<- BY,show i+m+(n-i)=n+m by omega])
 have bl:CK m (n+m-i)=m:=by simp only[CE];split <;> omega
 have bn:CK (n-i) (n+m-(i+m))=n-i:=by simp only[CE];split <;> omega
 have bx:∀ (W:World),W.heap[w.heap.size]?=some (.cells ROW E (0,0))->(∀ k,k<w.heap.size->W.heap[k]?=w.heap[k]?)->∀ O dc,(B3 #[S,S] O #[.slice (some ⟨w.heap.size,i*C,none⟩) (n+m-i) dc,.slice (some ⟨vb,0,none⟩) m vc]).run P W=.ok (goInt (m:Nat)) (W.setRow w.heap.size u):=λW hW hk O dc=>by
  have:=run_copy_rowN (P:=P) W S S O E a1 hi w.heap.size (i*C) (n+m-i) dc ⟨vb,0,none⟩ m vc ROW E y t39 hW (by rw[hl,bl,hs])
   (λj v hj=>by
    rw[CB];have:=a4 j v hj;unfold CP at this ⊢;rw[hk vb e7];exact this)
   (by rw[hl,a0,<- BY];exact BV _ (by omega)) h1
  rw[bl,<- M]at this;exact this
 have b9:∀ (W:World),W.heap[w.heap.size]?=some (.cells u E (0,0))->(∀ k,k<w.heap.size->W.heap[k]?=w.heap[k]?)->∀ O dc sc,(B3 #[S,S] O #[.slice (some ⟨w.heap.size,(i+m)*C,none⟩) (n+m-(i+m)) dc,.slice (some ⟨g,i*C,none⟩) (n-i) sc]).run P W=.ok (goInt (n-i:Nat)) (W.setRow w.heap.size I):=λW hW hk O dc sc=>by
  have:=run_copy_rowN (P:=P) W S S O E a1 hi w.heap.size ((i+m)*C) (n+m-(i+m)) dc ⟨g,i*C,none⟩ (n-i) sc u E (r.drop (i*C)) t39 hW (by rw[a6,bn,hs])
   (λj v hj=>by
    rw[CB];rw[CJ]at hj;have:=R _ v hj;unfold CP at this ⊢;rw[hk g cb];exact this)
   (by rw[a6,ba,a0,<- BY];exact BV _ (by omega)) (λv hv=>d2 v (CF hv))
  rw[bn,<- J]at this;exact this
 have bb:((w.alloc (.cells ROW E)).drew).heap[w.heap.size]?=some (.cells ROW E (0,0)):=heap_alloc_new w _;have c3:∀ k,k<w.heap.size->((w.alloc (.cells ROW E)).drew).heap[k]?=w.heap[k]?:=λk hk=>Go.heap_alloc_old w _ hk
 have b5:(((w.alloc (.cells ROW E)).drew.setRow w.heap.size u).drew).heap[w.heap.size]?=some (.cells u E (0,0)):=setRow_heap (w.alloc (.cells ROW E)).drew w.heap.size ROW u E (0,0) bb;have ad:∀ k,k<w.heap.size->(((w.alloc (.cells ROW E)).drew.setRow w.heap.size u).drew).heap[k]?=w.heap[k]?:=λk hk=>(setRow_other (w.alloc (.cells ROW E)).drew w.heap.size k u (by omega)).trans (c3 k hk)
 have cw:¬ (G=i):=by omega
 have c4:¬ (G=i+m):=by omega
 have cx:¬ (H=i):=by omega
 have dd:IntKind.i64.wrap ((i:Int)+(m:Int))=(i:Int)+(m:Int):=by rw[B6];omega
 have c5:IntKind.i64.wrap ((n:Int)+(m:Int))=(n:Int)+(m:Int):=by rw[B6];omega
 have e5:IntKind.i64.wrap ((n:Int)+(m:Int)-(i:Int))=(n:Int)+(m:Int)-(i:Int):=by rw[B6];omega
 have c6:(0:Int)<=(i:Int)+(m:Int):=by omega
 have b0:i<=n:=by omega
 have cu:((i:Int)+(m:Int)).toNat=i+m:=by omega
 have e0:(i:Int)<=(n:Int):=by omega
 refine (go w g n H i vb m vc G ROW u I hm eb e6 Z a5 e4 cc e2 c2 c0 cw c4 cx dd c5 e5 c6 b0 cu e0 d3 (bx _ bb c3) (b9 _ b5 ad)).mono λe w' h=>?_
 obtain⟨h1,rfl⟩:=h;exact⟨G,a5,b2,h1,I,setRow_heap _ _ _ _ _ _ b5,by rw[cp,a0];exact Nat.le_refl _,b4,by simp,rfl,rfl,rfl,λk hk=>(setRow_other _ _ _ _ (by omega)).trans (ad k hk)⟩
theorem ins_walk {P:Program}{F E C B:Nat}(q1:(P.info? E).isSome=true)(q2:(P.info? E).map (λi=>i.size)=some C)(q3:(P.info? E).map (λi=>i.bytes)=some B)(q4:((P.info? E).bind λi=>i.zero).map (λz=>z.cells.size)=some C)
  (hC:0<C) (hE:¬ E=5) (hB:0<B) (ins_nil:InsNil P F E C B) (ins_end:InsEnd P F E C B) (ins_shift:InsShift P F E C B) (ins_grow:InsGrow P F E C B):jq P F E C B:=by
 intro w v0 v2 n m i I H r0 r2 o0 o2 hm b5 b4 Y;have k1:(n+m)*C=n*C+m*C:=BY ..;have c0:=r2;obtain⟨J,h2⟩:=r2;rcases h2 with ⟨_,h⟩|⟨vb,vc,a6,mk,rfl,ad,cc,b0,cb,cp⟩
 ·omega
 obtain⟨rfl,_⟩:=b0.elim id (λh=>absurd h.1 hE);have r:∀ j u,H[j]?=some u->w.cell? ⟨vb,0+j,none⟩=some u:=λj u hj=>by
  rw[CL,c0.cellAt j (by rw[<- J];exact (B7.1 hj).1)];exact hj
 have kB:n+m<=(n+m)*B:=Nat.le_mul_of_pos_right _ hB;have a9:n+m<=maxLen:=by unfold maxLen;omega
 obtain⟨O,hi⟩:=Option.isSome_iff_exists.1 q1;rw[hi]at q2 q3 q4;have hs:O.size=C:=by simpa using q2
 have hb:O.bytes=B:=by simpa using q3
 simp only[Option.bind_some,Option.map_eq_some_iff]at q4;obtain⟨z,hz,a2⟩:=q4;have c2:vb<w.heap.size:=(CC.1 ad).1;have b3:=r0;obtain⟨M,h0⟩:=r0;rcases h0 with ⟨rfl,h0⟩|⟨g,R,b1,mk,rfl,hg,b2,bl,a5,a0⟩
 ·subst h0;have:i=0:=by omega
  subst this;have hf:I=[]:=List.eq_nil_of_length_eq_zero (by simpa using M);subst hf;refine (ins_nil w O z hi hz hs hb a2 vb m vc H J r o2 hm (by omega) (by rw[CL]at Y;exact Y)).mono λe w' h=>?_
  obtain⟨v',e1,h1,h2,h3⟩:=h;exact⟨v',e1,by simpa using h1,h2,.inr h3⟩
 ·obtain⟨rfl,Z⟩:=bl.elim id (λh=>absurd h.1 hE);have b9:g<w.heap.size:=(CC.1 hg).1;have ba:vb≠g:=λh=>b4 g (by simp[CG]) (by simp[CG,h])
  have a1:∀ j u,I[j]?=some u->w.cell? ⟨g,j,none⟩=some u:=λj u hj=>by
   rw[b3.cellAt j (by rw[<- M];exact (B7.1 hj).1)];exact hj
  by_cases hn:i=n
  ·subst hn;refine (ins_end w g i R I O z hi hz hs hb a2 b3 b2 vb m vc H J r o2 hm a9 Y).mono λe w' h=>?_
   obtain⟨v',e1,h1,h2,h3⟩:=h;refine⟨v',e1,?_,h2,h3⟩;rw[List.take_of_length_le (by omega),List.drop_of_length_le (by omega),List.append_nil];exact h1
  ·by_cases X:n+m<=R
   ·refine (ins_shift w g n R i b1 I O hi hs hg Z a5 a0 M o0 vb m vc a6 H ad ba J r o2 hm (by omega) X).mono λe w' h=>?_
    obtain⟨e1,y,rfl,a4,a3⟩:=h;refine⟨_,e1,⟨?_,.inr ⟨g,R,y,_,rfl,setRow_heap w.drew g b1 y E (0,0) hg,X,.inl ⟨rfl,Z⟩,by rw[a4];exact a5,a3⟩⟩,⟨rfl,rfl,rfl,by simp,λk _ hk=>setRow_other w.drew g k y (λh=>hk (by simp[CG,h]))⟩,.inl rfl⟩;simp only[BW,BX,BZ,M,J];have:i*C<=n*C:=BV _ b5;omega
   ·refine (ins_grow w g n R i I O z hi hz hs hb a2 b9 a1 M o0 vb m vc H c2 J r o2 hm (by omega) b2 (by omega) a9 Y).mono λe w' h=>?_
    obtain⟨G,c3,bx,e1,y,a4,a3,c5,c6,bn,c1,c4,hk⟩:=h;refine⟨_,e1,⟨?_,.inr ⟨w.heap.size,G,y,_,rfl,a4,c3,.inl ⟨rfl,bx⟩,a3,c5⟩⟩,⟨bn,c1,c4,by omega,λk bb _=>hk k bb⟩,.inr rfl⟩;simp only[BW,BX,BZ,M,J];have:i*C<=n*C:=BV _ b5;omega
end Go.Proofs.YtadlacffdemoiaaGreatEv
