/- One operation: boxes made, boxes written. -/
import Derived.Test.YtadlacffdemoiaaGreatE0
import Derived.Deep.MidRow
import Derived.Great.FillDense
set_option linter.unusedVariables false
set_option linter.unusedSimpArgs false
open Array renaming toArray_toList->CR,length_toList->CV,getElem?_toList->DK,toList_append->DR,size_append->DZ,toList_map->Di,ext'->Dw
open Bool renaming and_eq_true->BX,not_eq_true'->CM,or_eq_false_iff->DP,or_eq_true->Dr
open Go.Addr.mk renaming injEq->C6
open Go.Builtin renaming append_->CW,firstCells->C3,lenOf->C7,zeroCells->De
open Go.Instr renaming sliceBounds->Dc,storeAt->Dy
open Go.Result renaming andThen_ok->C4
open Go.Sem renaming run_bind->DY
open Go.Value renaming ownBlock->CQ
open Go.Value.slice renaming injEq->CU
open Go.World renaming setCells->DL,alloc_eq->DO,drew_eq->DS,freeze->Da,alloc->Dm,drew->Du
open Iff renaming rfl->DC
open Int renaming toNat_natCast->DX
open List renaming getElem?_eq_some_iff->BY,mem_append_right->BZ,count_append->B3,getElem?_append_right->B4,getElem?_append_left->B5,mem_append_left->B7,count_pos_iff->B8,mem_append->B9,range->CC,mem_cons_of_mem->CD,append_assoc->CE,length_append->CF,getElem?_eq_getElem->CG,eq_nil_of_length_eq_zero->CJ,mem_cons_self->CK,flatten_cons->CL,count_eq_zero->CN,append_nil->CO,length_take->CP,any_eq_false->CT,getElem?_take->CZ,getD_eq_getElem?_getD->Ca,nodup_append->Cc,replicate->Ce,nodup_cons->Cg,length_set->Ch,flatMap_cons->Cj,getElem?_set_ne->Ck,mem_cons->Cn,getElem?_drop->Co,getElem?_cons_zero->Cp,getElem?_replicate->Cq,size_toArray->Cr,getElem?_set_self->Cs,any_cons->Cv,length_nil->Cw,length_map->Cx,length_drop->C8,length_cons->C9,mem_map->DF,count_cons->DG,singleton_append->DI,length_replicate->DJ,mem_range->DM,all_cons->DT,map_nil->DW,map_map->Db,isEmpty_iff->Df,flatMap_map->Dg,cons_append->Dj,length->Dn,map_append->Do,nil_append->Ds,nodup_nil->Dt,take_left->Dv,map_cons->Dz
open List.cons renaming injEq->Cy
open Nat renaming eq_of_beq_eq_true->B6,lt_succ_self->CA,mul_le_mul_right->CB,beq->CH,le_refl->CI,succ_mul->CX,add_zero->Cb,le_trans->Cd,lt_of_lt_of_le->Cf,le_of_ble_eq_true->Ci,zero_add->Cm,ble_eq_true_of_le->Ct,le_add_right->Cu,mul_le_mul_left->Cz,blt_eq->C0,add_mul->C5,le_of_eq->DA,ble->DB,mul_comm->DD,sub_zero->DE,mul_one->DN,blt->DQ,eq_zero_or_pos->DV,zero_mul->Dd,mod_eq_of_lt->Dh,le_succ->Dk,zero_le->Dl,mul_add_mod->Dp,add_assoc->Dx
open Ne renaming symm->Cl
open Option renaming map_eq_some_iff->BW,bind_eq_some_iff->CS,map_none->DH,toList_some->DU,map_some->Dq
open Option.some renaming injEq->BV
open Prod renaming ext->D0
open Prod.mk renaming injEq->CY
namespace Go.Proofs.YtadlacffdemoiaaGreatEv
open Go Go.RowKit
section
variable {P:Program} {V:Env} {Γ:List Ctr} {T:TypeId->TI} {st:St} {o:Oper} {R:Type} {κ:Upd->Option R} {r:R}
theorem nj {q u:Nat}(h:q≠u)(c y:bU)(st:St):ac [(q,c)] (ac [(u,y)] st)=ac [(u,y)] (ac [(q,c)] st):=by
 funext k;rcases am q k c (ac [(u,y)] st) with ⟨rfl,e⟩|⟨I,e⟩
 ·rw[e,aH h,bm]
 ·rw[e];rcases am u k y st with ⟨rfl,z⟩|⟨H,z⟩
  ·rw[z,bm]
  ·rw[z,aH H,aH I]
theorem ap.boxed (hV:ay V){W:Wit}{a:Act}{w:World}(h:ap P V W st a w)(d:Nat)(hd:d<V.nt)(J:∀ x∈V.fixt,x.1≠d)(X:(st (B0+d)).sh=.off)(ls:List Leaf)
  (y:List Value) (z:Nat->List Nat) (E:TypeId)
  (hl:ls.length=y.length) (h1:∀ u∈y,u.oneCell'=true)
  (H:∀ (j:Nat) (l:Leaf) (u:Value),ls[j]?=some l->y[j]?=some u->aI P V W st w (z j) l u)
  (O:∀ (j:Nat) (l:Leaf),ls[j]?=some l->ao l->∀ k∈z j,¬ W.nw k/\¬ V.prot k/\k<w.heap.size/\(∀ b,live st b->W.β b≠k) /\
   ∀ (Y Z:Nat) (l1:Leaf),(st Y).ls[Z]?=some l1->ao l1->k∉W.bs Y Z)
  (M:∀ (j j':Nat) (l l':Leaf),ls[j]?=some l->ao l->ls[j']?=some l'->ao l'->∀ k,k∈z j->k∈z j'->j=j') :
  Rel P V (ac ((B0+d,⟨(st (B0+d)).ver+1,.agg,ls⟩)::[(d,⟨(st d).ver+1,.one,[.bp (B0+d) 0]⟩)]) st) (a.put (some d) (.pointer (some ⟨w.heap.size,0,none⟩))) (w.alloc (.cells y.toArray E)):=by
 have I:B0+d≠d:=by simp[B0]
 have a0:¬ live st (B0+d):=by simp[live,X]
 have h2:=h.setBox hV (B0+d) (Cu _ _) ((st (B0+d)).ver+1) ls y z w.heap.size E (w':=w.alloc (.cells y.toArray E)) (CA _) (.inr ⟨a0,CI _⟩)
  (heap_alloc_new w _) (λk hk _=>Go.heap_alloc_old w _ hk) (by simp) rfl rfl rfl hl h1 H (λj l hj ho k hk=>by
   obtain⟨h3,h4,h5,h6,h7⟩:=O j l hj ho k hk;exact⟨h3,h4,h5,h6,λY Z l1 _=>h7 Y Z l1⟩) M
 rw[aQ,nj I];refine h2.putLs hV d hd J _ .one [.bp (B0+d) 0] _ [.pointer (some ⟨w.heap.size,0,none⟩)] ?_ rfl ⟨⟨⟨Cu _ _,by rw[bm],by simp⟩,id,rfl⟩,trivial⟩;rw[aH (Cl I)];omega
theorem uL {t:TypeId}(I:TOk P T)(H:(T t).cells≠0)(w:World):∃ z y,(zeroValue t).run P w=.ok z w/\z.cells=y.toArray/\∀ (V:Env) (W:Wit) (st:St),aC P V W st w (T t).zero y:=by
 have h:=I t;cases u:T t with
 |none=>rw[u]at H;exact absurd rfl H
 |int k=>rw[u]at h;exact⟨_,[.int k 0],gw h.2.2 w,rfl,λV W st=>⟨⟨rfl,id,rfl⟩,trivial⟩⟩
 |bool=>rw[u]at h;exact⟨_,[.bool false],gw h.2.2 w,rfl,λV W st=>⟨⟨rfl,id,rfl⟩,trivial⟩⟩
 |str=>rw[u]at h;exact⟨_,[.string ByteArray.empty],gw h.2.2 w,rfl,λV W st=>⟨⟨rfl,id,rfl⟩,trivial⟩⟩
 |slice E e b=>rw[u]at h;exact⟨_,[.slice none 0 0],gw h.2.2.1 w,rfl,λV W st=>⟨⟨rfl,id,rfl⟩,trivial⟩⟩
 |struct a J=>rw[u]at h;exact⟨_,zeroCells a,gw h.2.2.1 w,rfl,λV W st=>lB a⟩
 |arr e n=>rw[u]at h;exact⟨_,(Ce n (zeroCells e)).flatten,gw h.2.2.2 w,rfl,λV W st=>o7 e n⟩
 |ptr=>rw[u]at h;exact⟨_,[.pointer none],gw h.2.2 w,rfl,λV W st=>⟨⟨trivial,id,rfl⟩,trivial⟩⟩
 |fn=>rw[u]at h;exact⟨_,[.nilFunc],gw h.2.2 w,rfl,λV W st=>⟨⟨trivial,id,rfl⟩,trivial⟩⟩
theorem yc (hV:ay V)(hT:TOk P T)(H:bP V o){t:TypeId}(J:o.op=.alloc t)(h:act Γ T o st κ=some r):bY P V o st κ r:=by
 simp only[act,J]at h;split at h
 ·rename_i d O;cases I:decide ((st (B0+d)).sh=.off)&&!decide ((T t).cells=0) with
  |false=>simp[I]at h
  |true =>
   simp only[I]at h;simp at I;refine⟨_,h,λW a w hr next Q hn=>?_⟩;obtain⟨z,X,Z,hc,y⟩:=uL hT I.2 w;have y:=y V W st;refine dY (v:=.pointer (some ⟨w.heap.size,0,none⟩)) (w':=w.alloc (.cells X.toArray t)) ?_ ?_
   ·simp[execOp,J,Instr.alloc,Z,newVar,newRow,hc]
   ·rw[O];refine hn _ _ ?_;exact hr.boxed hV d (H d O).1 (H d O).2 I.1 _ X (λ_=>[]) t y.length y.one' (λj l u h1 Y=>(y.at_ j l u h1 Y).1) (λ_ _ _ _ k M=>by simp at M) (λ_ _ _ _ _ _ _ _ k M=>by simp at M)
 ·grind
theorem AO (hV:ay V)(I:bP V o){t:TypeId}{x:Operand}(a0:o.op=.box t x)(h:act Γ T o st κ=some r):bY P V o st κ r:=by
 simp only[act,a0]at h;split at h
 ·rename_i d O;cases hb:decide ((st (B0+d)).sh=.off)&&decide ((au st x).2.length=(T t).cells)&&decide ((au st x).1=bk (T t).agg)&&ii st (au st x).2 with
  |false=>simp[hb]at h
  |true =>
   simp only[hb]at h;simp at hb;obtain⟨⟨⟨Y,a2⟩,a1⟩,Z⟩:=hb;have J:∀ (W:Wit) (a:Act) (w:World) (H:List Value),ei (au st x).1 (a.eval x) H->aC P V W st w (au st x).2 H ->
     (execOp a.eval o).run P w=.ok (.value (.pointer (some ⟨w.heap.size,0,none⟩))) (w.alloc (.cells H.toArray t)):=by
    intro W a w H X y;rw[a1]at X;have hc:=gX X y.one';simp[execOp,a0,Instr.box,newVar,newRow,hc]
   cases z:sA st x with
   |true =>
    rw[z]at h;refine⟨_,h,λW a w M next Q hn=>?_⟩;obtain⟨H,X,y⟩:=cU M x;refine dY (J W a w H X y) ?_;rw[O];refine hn _ _ ?_;exact M.boxed hV d (I d O).1 (I d O).2 Y _ H (λ_=>[]) t y.length y.one' (λj l u h1 h2=>(y.at_ j l u h1 h2).1) (λ_ _ _ _ k hk=>by simp at hk) (λ_ _ _ _ _ _ _ _ k hk=>by simp at hk)
   |false =>
    rw[z]at h;refine⟨_,h,λW a w M next Q hn=>?_⟩;obtain⟨H,X,y⟩:=cU M x;obtain⟨h1,h2,h3,h4,h5⟩:=oZ hV M y Z;have h6:=zO hV M y Z;refine dY (J W a w H X y) ?_;rw[O];refine hn _ _ ?_;have:=h1.boxed hV d (I d O).1 (I d O).2 (by rw[(h6 _).1];exact Y) _ H (dq W (au st x).2) t h2 y.one' h3 h4 h5;exact this
 ·grind
theorem jO (b:Nat)(E:TypeId):∀ (u:List Value) (k o:Nat) (w:World) (cur:Array Value) {mk:Nat×Nat},w.heap[b]?=some (.cells cur E mk) ->
  (w.setCells b (o+k) u).heap[b]?=some (.cells ((u.zipIdx k).foldl (λy (x:Value×Nat)=>y.setIfInBounds (o+x.2) x.1) cur) E mk)
 |[],_,_,_,_,_,h=>h
 |v::u,k,o,w,cur,mk,h=>by
  have:=jO b E u (k+1) o (w.setCell ⟨b,o+k,none⟩ v) _ (by rw[setCell_eq_setRow w b (o+k) cur E mk v h];exact setRow_heap w b cur _ E mk h);simpa[DL,Dx]using this
theorem eN (b:Nat):∀ (u:List Value) (o:Nat) (w:World) (k:Nat),k≠b->(w.setCells b o u).heap[k]?=w.heap[k]?
 |[],_,_,_,_=>rfl
 |v::u,o,w,k,h=>by
  rw[DL,eN b u (o+1) _ k h];exact heap_setCell_other w ⟨b,o,none⟩ k v h
theorem jP (b:Nat):∀ (u:List Value) (o:Nat) (w:World),(w.setCells b o u).os=w.os/\(w.setCells b o u).tape=w.tape/\(w.setCells b o u).output=w.output/\(w.setCells b o u).heap.size=w.heap.size
 |[],_,_=>⟨rfl,rfl,rfl,rfl⟩
 |v::u,o,w=>by
  obtain⟨I,z,H,y⟩:=jP b u (o+1) (w.setCell ⟨b,o,none⟩ v);exact⟨I,z,H,by rw[DL,y];simp⟩
theorem nk {t:TypeId}{n:Nat}(H:bS P t n){w:World}{b off:Nat}{cur:List Value}{E:TypeId}{mk:Nat×Nat}(J:w.heap[b]?=some (.cells cur.toArray E mk))(I:mk.2=0\/cur.length<=mk.1){v:Value}{cs:List Value}
  (X:v.cells=cs.toArray) (M:cs.length=n) (Y:∀ u∈cs,u.oneCell'=true) (a0:off+cs.length<=cur.length) :
  (Dy t (.pointer (some ⟨b,off,none⟩)) v).run P w=.ok () (w.setCells b off cs):=by
 have y:∀ j,j<cs.length->(w.cell? ⟨b,off+j,none⟩).isSome=true:=by
  intro j z;rw[cell_of_row w b _ _ E mk J]
  grind
 have O:=run_storeCells_cells (P:=P) b off cs 0 w (λj z=>y j z) (λj z=>rg J (by simpa using I) (by simp;omega)) Y;have Z:=dv H w;simp[Dy,Instr.sureAddr,storeVar,Z,X,M,O]
theorem tJ (hV:ay V)(hT:TOk P T){t:TypeId}{x y:Operand}{b off:Nat}(b5:o.op=.store t x y)(hd:o.dst=none)(hx:one st x=.bp b off)
  (c3:(au st y).2.length=(T t).cells) (b4:(au st y).1=bk (T t).agg) (a9:(T t).cells≠0) (ad:(st b).sh=.agg) (c2:off+(au st y).2.length<=(st b).ls.length) (a4:ii st (au st y).2=true)
  {W:Wit} {a:Act} {w:World} (hr:ap P V W st a w) :
  mS P V o st ((b,⟨(ac (mvU st (au st y).2) st b).ver+1,.agg,jA (ac (mvU st (au st y).2) st b).ls (dJ st (au st y).2) off⟩)::mvU st (au st y).2) a w:=by
 intro next Q hn;obtain⟨I,hs,hl⟩:=cU hr y;rw[b4]at hs;have hc:=gX hs hl.one';obtain⟨h1,h2,h3,h4,h5⟩:=oZ hV hr hl a4;have h6:=zO hV hr hl a4;obtain⟨hp,_,_,_⟩:=bt hr x (by rw[hx];simp);rw[hx]at hp;obtain⟨hB,_,hv⟩:=hp;have bb:T t≠.none:=by intro e;rw[e]at a9;exact a9 rfl
 rcases hr.boxes b hB with ⟨h8,_⟩|⟨_,E,h8⟩
 ·rw[ad]at h8;cases h8
 ·have c0:=hl.length;have c4:=hr.len b;have c1:(ac (mvU st (au st y).2) st b).ls.length=(W.cs b).length:=h1.len b;have b1:off+I.length<=(W.cs b).length:=by omega
  have b0:=nk (o6 (hT t) bb) h8 (.inl rfl) hc (by omega) hl.one' b1;refine pN (w':=w.setCells (W.β b) off I) (by simp[execOp,b5,hv,b0]) ?_;rw[hd];refine hn _ _ ?_;rw[aQ];obtain⟨e1,e2,e3,e4⟩:=jP (W.β b) I off w;have a0:=jO (W.β b) E I 0 off w _ h8;rw[kX (W.cs b) I off b1]at a0;simp only[Cb]at a0;have ba:live (ac (mvU st (au st y).2) st) b:=⟨hB,by rw[(h6 b).1];exact ad⟩;have bl:(dJ st (au st y).2).length=I.length:=h2;have M:∀ (j:Nat) (l:Leaf),(jA (ac (mvU st (au st y).2) st b).ls (dJ st (au st y).2) off)[j]?=some l ->
    (off<=j/\j<off+I.length/\(dJ st (au st y).2)[j-off]?=some l)\/((j<off\/off+I.length<=j)/\(ac (mvU st (au st y).2) st b).ls[j]?=some l):=by
   intro j l hj;unfold jA at hj;rw[bl]at hj;by_cases Z:j<off
   ·rw[CE,B5 (by simp;omega),CZ,if_pos Z]at hj;exact .inr ⟨.inl Z,hj⟩
   ·by_cases J:j<off+I.length
    ·rw[CE,B4 (by simp;omega),B5 (by simp;omega)]at hj;refine .inl ⟨by omega,J,?_⟩;rw[<- hj];congr 1;simp;omega
    ·rw[B4 (by simp;omega),Co]at hj;refine .inr ⟨.inr (by omega),?_⟩;rw[<- hj];congr 1;simp;omega
  have a2:∀ (j:Nat),((W.cs b).take off++I++(W.cs b).drop (off+I.length))[j]?=if off<=j/\j<off+I.length then I[j-off]? else (W.cs b)[j]?:=by
   intro j;by_cases Z:j<off
   ·rw[CE,B5 (by simp;omega),CZ,if_pos Z,if_neg (by omega)]
   ·by_cases J:j<off+I.length
    ·rw[CE,B4 (by simp;omega),B5 (by simp;omega),if_pos ⟨by omega,J⟩];congr 1;simp;omega
    ·rw[B4 (by simp;omega),Co,if_neg (by omega)];congr 1;simp;omega
  refine⟨_,h1.setBox hV b hB _ _ ((W.cs b).take off++I++(W.cs b).drop (off+I.length)) (λj=>if off<=j/\j<off+I.length then dq W (au st y).2 (j-off) else W.bs b j) (W.β b) E
   (CA _) (.inl ⟨ba,rfl⟩) a0 (λk _ O=>eN (W.β b) I off w k O) (DA e4.symm) e1 e2 e3 ?_ ?_ ?_ ?_ ?_⟩
  ·simp only[jA,CF,CP,C8];omega
  ·intro u hu;simp only[B9]at hu;rcases hu with (hu|hu)|hu
   ·exact hr.one b u (List.mem_of_mem_take hu)
   ·exact hl.one' u hu
   ·exact hr.one b u (List.mem_of_mem_drop hu)
  ·intro j l u hj hu;rw[a2]at hu;rcases M j l hj with ⟨Z,J,H⟩|⟨Z,H⟩
   ·rw[if_pos ⟨Z,J⟩]at hu;simp only[if_pos (⟨Z,J⟩:off<=j/\j<off+I.length)];exact h3 _ l u H hu
   ·have z:¬ (off<=j/\j<off+I.length):=by omega
    rw[if_neg z]at hu;simp only[if_neg z];exact h1.leaf b j l u H hu
  ·intro j l hj ho k O;rcases M j l hj with ⟨Z,J,H⟩|⟨Z,H⟩
   ·simp only[if_pos (⟨Z,J⟩:off<=j/\j<off+I.length)]at O;obtain⟨q1,q2,q3,q4,q5⟩:=h4 _ l H ho k O;exact⟨q1,q2,q3,q4,λr1 j1 l1 _=>q5 r1 j1 l1⟩
   ·have z:¬ (off<=j/\j<off+I.length):=by omega
    simp only[if_neg z]at O;obtain⟨q1,q2,q3⟩:=h1.ownb b j l H ho k O;exact⟨q1,q2,h1.own_lt H ho k O,q3,λr1 j1 l1 b2 b3 b9 bx=>b2 (h1.sep b j l r1 j1 l1 H ho b3 b9 k O bx).1.symm⟩
  ·intro j j' l l' hj ho bn a1 k O Y;rcases M j l hj with ⟨Z,J,H⟩|⟨Z,H⟩ <;> rcases M j' l' bn with ⟨a5,a3,X⟩|⟨a5,X⟩
   ·simp only[if_pos (⟨Z,J⟩:off<=j/\j<off+I.length)]at O;simp only[if_pos (⟨a5,a3⟩:off<=j'/\j'<off+I.length)]at Y;have:=h5 _ _ l l' H ho X a1 k O Y;omega
   ·have z:¬ (off<=j'/\j'<off+I.length):=by omega
    simp only[if_pos (⟨Z,J⟩:off<=j/\j<off+I.length)]at O;simp only[if_neg z]at Y;exact absurd Y ((h4 _ l H ho k O).2.2.2.2 b j' l' X a1)
   ·have z:¬ (off<=j/\j<off+I.length):=by omega
    simp only[if_neg z]at O;simp only[if_pos (⟨a5,a3⟩:off<=j'/\j'<off+I.length)]at Y;exact absurd O ((h4 _ l' X a1 k Y).2.2.2.2 b j l H ho)
   ·have z:¬ (off<=j/\j<off+I.length):=by omega
    have a6:¬ (off<=j'/\j'<off+I.length):=by omega
    simp only[if_neg z]at O;simp only[if_neg a6]at Y;exact (h1.sep b j l b j' l' H ho X a1 k O Y).2
end
theorem bu {l:List Nat}:l.Nodup<->∀ k,l.count k<=1:=by
 induction l with
 |nil=>simp
 |cons a l H =>
  rw[Cg,H];constructor
  ·rintro⟨r,u⟩ k;rw[DG];by_cases y:a=k
   ·subst y;have:l.count a=0:=CN.2 r;simp[this]
   ·have:=u k;simp[y,this]
  ·intro h;refine⟨λz=>?_,λk=>?_⟩
   ·have r:=h a;have u:0<l.count a:=B8.2 z;rw[DG]at r;simp at r;omega
   ·have:=h k;rw[DG]at this;omega
theorem qh {n:Nat}(r:Nat->List Nat)(k:Nat):((CC n).flatMap r).count k=((CC n).map λj=>(r j).count k).sum:=by
 generalize CC n=l;induction l with
 |nil=>rfl
 |cons a l u=>simp[B3,u]
theorem kv {n i:Nat}(H:i<n)(r:Nat->List Nat)(b:List Nat)(k:Nat) :
  ((CC n).flatMap λj=>if j=i then b else r j).count k+(r i).count k=((CC n).flatMap r).count k+b.count k:=by
 rw[qh,qh];induction n with
 |zero=>omega
 |succ n z =>
  rw[List.range_succ];simp only[Do,Dz,DW,List.sum_append,List.sum_cons,List.sum_nil];by_cases u:i=n
  ·subst u;have:(CC i).map (λj=>List.count k (if j=i then b else r j))=(CC i).map λj=>(r j).count k:=by
    refine List.map_congr_left λj y=>?_
    rw[if_neg (by have:=DM.1 y;omega)]
   rw[this,if_pos rfl];omega
  ·have:=z (by omega);rw[if_neg (λe=>u e.symm)];omega
theorem nl {bs bs' K:List Nat}(y:bs.Nodup)(z:K.Nodup)(I:∀ k∈K,k∉bs)(h:∀ k,bs'.count k<=bs.count k+K.count k):bs'.Nodup/\∀ k∈bs',k∈bs\/k∈K:=by
 rw[bu]at y z;refine⟨bu.2 λk=>?_,λk r=>?_⟩
 ·have H:=h k;have J:=y k;have u:=z k;by_cases r:k∈K
  ·have:bs.count k=0:=CN.2 (I k r);omega
  ·have:K.count k=0:=CN.2 r;omega
 ·have H:=h k;have J:0<bs'.count k:=B8.2 r;by_cases u:k∈bs
  ·exact .inl u
  ·have:bs.count k=0:=CN.2 u;exact .inr (B8.1 (by omega))
theorem Mx.pos {w:World}{G:Nat->Prop}:∀ {a:Ty} {pos r:Nat} {x:a.den} {cs:List Value} {bs:List Nat},Mx w G a none pos x cs bs->Mx w G a none r x cs bs
 |.int _,_,_,_,_,_,h=>h
 |.bool,_,_,_,_,_,h=>h
 |.str,_,_,_,_,_,h=>h
 |.unit,_,_,_,_,_,h=>h
 |.hdr,_,_,_,_,_,h=>h
 |.pair _ _,_,_,_,_,_,⟨I,M,R,J,y,u,O,z⟩=>⟨I,M,R,J,y,u,Mx.pos O,Mx.pos z⟩
 |.list m E e,_,_,_,_,_,H=>by
  cases m with
  |false=>rw[co]at H ⊢;exact H
  |true=>rw[bJ (by simp)]at H ⊢;exact H
section
variable {P:Program} {V:Env} {W:Wit} {st:St} {w w':World} {a:Act}
theorem Mx.scalar {G:Nat->Prop}{b:Ty}{hol:Option Nat}{pos:Nat}{x:b.den}{cs:List Value}{S:Nat->Prop}(r:b.flat=true)(h:Rd w S b x cs):Mx w G b hol pos x cs []:=Mx.flat r h
theorem lL (h:ap P V W st a w):∀ (b:Ty) (pos:Nat) (ls:List Leaf) (cs:List Value) (t:cK b.den),aC P V W st w ls cs->take st b ls=some t ->
  ∃ J M O,cs=J++M/\ls=O++t.rest/\aC P V W st w O J/\aC P V W st w t.rest M/\Mx w (bq V W t.p t.frz) b none pos t.val J (aZ W t.kill) /\
   (∀ x∈t.frz,aB st x)/\(∀ x∈t.kill,aB st x)
 |.pair b c,pos,ls,cs,t,H,z=>by
  simp only[take]at z;split at z
  ·rename_i u hb;split at z
   ·rename_i v hc;simp only[BV]at z;subst z;obtain⟨J,M,O,e1,e2,h1,Y,X,h4,h5⟩:=lL h b pos ls cs u H hb;obtain⟨c3,c4,l2,e3,e4,h6,h7,h8,h9,a0⟩:=lL h c (pos+b.cells) u.rest M v Y hc;refine⟨J++c3,c4,O++l2,by rw[e1,e3,CE],by rw[e2,e4,CE],h1.append h6,h7,⟨J,c3,_,_,rfl,dK W _ _,?_,?_⟩,?_,?_⟩
    ·refine X.mono λk I=>?_
     rcases I with I|⟨y,hy,I⟩
     ·exact .inl (bW (by intro h;simp[h]) (λ_ h=>h) k I)
     ·exact .inr ⟨y,B7 _ hy,I⟩
    ·refine h8.mono λk I=>?_
     rcases I with I|⟨y,hy,I⟩
     ·exact .inl (bW (by intro h;simp[h]) (λ_ h=>h) k I)
     ·exact .inr ⟨y,BZ _ hy,I⟩
    ·intro x R;exact (B9.1 R).elim (h4 x) (h9 x)
    ·intro x R;exact (B9.1 R).elim (h5 x) (a0 x)
   ·cases z
  ·cases z
 |.unit,pos,ls,cs,t,H,z=>by
  simp only[take,BV]at z;subst z;exact⟨[],cs,[],rfl,rfl,trivial,H,⟨rfl,rfl⟩,by simp,by simp⟩
 |.list m E e,pos,ls,cs,t,H,z=>by
  cases ls with
  |nil=>simp[take]at z
  |cons l ls =>
   cases cs with
   |nil=>exact H.elim
   |cons v cs =>
    cases m with
    |false =>
     simp only[take,cond_false]at z;split at z
     ·rename_i p xs ha;simp only[BV]at z;subst z;refine⟨[v],cs,[l],rfl,rfl,⟨H.1,trivial⟩,H.2,co.2 ⟨rfl,kG h H.1.1 H.1.2.1 ha⟩,λx R=>eq (cs:=[v]) (ls:=[l]) ⟨H.1,trivial⟩ R,by simp⟩
     ·cases z
    |true =>
     simp only[take,cond_true]at z;split at z
     ·rename_i r j n;split at z
      ·rename_i p E' e' xs hd;simp only[BW]at z;obtain⟨ys,hc,rfl⟩:=z;obtain⟨rfl,rfl,rfl⟩:=jL hc;obtain⟨h1,Y,X,h4⟩:=km h hd H.1.1;refine⟨[v],cs,[_],rfl,rfl,⟨H.1,trivial⟩,H.2,(bJ (by simp)).2 ⟨v,rfl,?_⟩,by simp,?_⟩
       ·have:aZ W [(r,j)]=W.bs r j:=by simp[aZ]
        show OwB w _ none E' e' xs v (aZ W [(r,j)]);rw[this];exact Y.2.carry (λk I=>.inl I) (λ_ _=>rfl) (λ_ _=>rfl)
       ·intro x R;simp only[List.mem_singleton]at R;subst R;exact⟨_,X,trivial⟩
      ·cases z
     ·simp only[BV]at z;subst z;have X:v=.slice none 0 0:=H.1.1;refine⟨[v],cs,[_],rfl,rfl,⟨H.1,trivial⟩,H.2,(bJ (by simp)).2 ⟨v,rfl,?_⟩,by simp,by simp⟩;rw[X];exact (OwH.nil w _ E e).2
     ·cases z
 |.int k,pos,ls,cs,t,H,z=>take_scalar h (b:=.int k) rfl H z
 |.bool,pos,ls,cs,t,H,z=>take_scalar h (b:=.bool) rfl H z
 |.str,pos,ls,cs,t,H,z=>take_scalar h (b:=.str) rfl H z
 |.hdr,pos,ls,cs,t,H,z=>take_scalar h (b:=.hdr) rfl H z
where
 take_scalar (h:ap P V W st a w) {b:Ty} {pos:Nat} {ls:List Leaf} {cs:List Value} {t:cK b.den} (hf:b.flat=true) (H:aC P V W st w ls cs) (z:(bc st b ls).map (λx=>(⟨false,x.2.1,[],[],x.2.2⟩:cK b.den))=some t) :
   ∃ J M O,cs=J++M/\ls=O++t.rest/\aC P V W st w O J/\aC P V W st w t.rest M/\Mx w (bq V W t.p t.frz) b none pos t.val J (aZ W t.kill) /\
    (∀ x∈t.frz,aB st x)/\(∀ x∈t.kill,aB st x):=by
  simp only[BW]at z;obtain⟨⟨p,x,Z⟩,h1,rfl⟩:=z;obtain⟨J,M,O,e1,e2,Y,X,h4⟩:=kH h b ls cs p x Z H h1;exact⟨J,M,O,e1,e2,Y,X,Mx.flat hf h4,by simp,by simp⟩
theorem dP (h:ap P V W st a w){b:Ty}{pos:Nat}{ls:List Leaf}{cs:List Value}{t:cK b.den}(I:aC P V W st w ls cs)(r:ch st b ls=some t) :
  Mx w (bq V W t.p t.frz) b none pos t.val cs (aZ W t.kill)/\(∀ x∈t.frz,aB st x)/\(∀ x∈t.kill,aB st x):=by
 unfold ch at r;split at r
 ·rename_i p x f k H;simp only[BV]at r;subst r;obtain⟨X,y,Z,u,R,Y,z,J,M,O⟩:=lL h b pos ls cs _ I H;have:y=[]:=by
   cases y with
   |nil=>rfl
   |cons=>exact z.elim
  subst this;simp only[CO]at u;subst u;exact⟨J,M,O⟩
 ·cases r
theorem gS (h:ap P V W st a w):∀ {ks:List (Nat×Nat)},a8 ks=true->(∀ x∈ks,aB st x)->(aZ W ks).Nodup
 |[],_,_=>Dt
 |x::ks,M,J=>by
  simp only[a8,BX,CM,CT]at M;have ih:=gS h M.2 (λy H=>J y (CD _ H));show (W.bs x.1 x.2++aZ W ks).Nodup;rw[Cc];obtain⟨l,I,u⟩:=J x (CK ..);refine⟨?_,ih,λk Z k' r e=>?_⟩
  ·have Y:x.2<(W.cs x.1).length:=by rw[<- h.len];exact (BY.1 I).1
   have:=h.leaf x.1 x.2 l _ I (CG Y);cases l <;> simp only[ao]at u;exact OwH.nodup this
  ·subst e;obtain⟨y,H,r⟩:=gu.1 r;obtain⟨l',O,z⟩:=J y (CD _ H);obtain⟨X,R⟩:=h.sep x.1 x.2 l y.1 y.2 l' I u O z k Z r;have:=M.1 y H;rw[X,R]at this;simp at this
theorem ka:∀ {b:Ty} {S O:Nat->Prop} {M:Option Nat} {pos:Nat} {y:b.den} {c:List Value} {q:List Nat},b.flat=true->Mx w S b M pos y c q->Rd w O b y c
 |.int _,_,_,_,_,_,_,_,_,h=>h.1
 |.bool,_,_,_,_,_,_,_,_,h=>h.1
 |.str,_,_,_,_,_,_,_,_,h=>h.1
 |.unit,_,_,_,_,_,_,_,_,h=>h.1
 |.hdr,_,_,_,_,_,_,_,_,h=>h.1
 |.pair _ _,_,_,_,_,_,_,_,r,⟨H,I,Y,X,u,R,J,z⟩=>by
  simp only[Ty.flat,BX]at r;exact⟨H,I,u,ka r.1 J,ka r.2 z⟩
 |.list _ _ _,_,_,_,_,_,_,_,r,_=>by simp[Ty.flat]at r
theorem my (h:ap P V W st a w){G:Nat->Prop}{off n:Nat}{hol J:Option Nat}(a5:∀ k,off<=k->k<off+n->J≠some k)(Y:∀ k,¬ (off<=k/\k<off+n)->(J=some k<->hol=some k)) :
  ∀ (b:Ty) (pos:Nat) (x:b.den) (ls:List Leaf) (cs:List Value) (t:cK b.den) (R:List Value) (z:List Nat),aC P V W st w ls cs->da st off n b pos x ls=some t->Mx w G b hol pos x R z ->
  ∃ O c2 c' I,cs=O++c2/\aC P V W st w t.rest c2/\O.length=min (off+n) (pos+b.cells)-max off pos /\
   Mx w (λk=>G k\/bq V W t.p t.frz k) b J pos t.val c' I /\
   (∀ i,i<b.cells->c'[i]?=if off<=pos+i/\pos+i<off+n then O[pos+i-max off pos]? else R[i]?) /\
   (∀ k,I.count k<=z.count k+(aZ W t.kill).count k)/\(∀ x∈t.frz,aB st x)/\(∀ x∈t.kill,aB st x)
 |.pair b c,pos,x,ls,cs,t,R,z,M,r,⟨d1,d2,b1,b2,e1,e2,ad,b5⟩=>by
  simp only[da]at r;split at r
  ·rename_i u X;split at r
   ·rename_i v hc;simp only[BV]at r;subst r;obtain⟨O,c2,c',I,f1,f2,f3,f4,f5,f6,f7,f8⟩:=my h a5 Y b pos x.1 ls cs u d1 b1 M X ad;obtain⟨c3,c4,a9,a1,g1,g2,g3,g4,g5,g6,g7,g8⟩:=my h a5 Y c (pos+b.cells) x.2 u.rest c2 v d2 b2 f2 hc b5;have b9:=f4.len;have bb:=g4.len;have b4:=ad.len;refine⟨O++c3,c4,c'++a9,I++a1,by rw[f1,g1,CE],g2,?_,⟨c',a9,I,a1,rfl,rfl,?_,?_⟩,?_,?_,?_,?_⟩
    ·rw[CF,f3,g3];simp only[Ty.cells];omega
    ·refine f4.mono λk H=>?_
     rcases H with H|H|⟨y,hy,H⟩
     ·exact .inl H
     ·exact .inr (.inl (bW (by intro h;simp[h]) (λ_ h=>h) k H))
     ·exact .inr (.inr ⟨y,B7 _ hy,H⟩)
    ·refine g4.mono λk H=>?_
     rcases H with H|H|⟨y,hy,H⟩
     ·exact .inl H
     ·exact .inr (.inl (bW (by intro h;simp[h]) (λ_ h=>h) k H))
     ·exact .inr (.inr ⟨y,BZ _ hy,H⟩)
    ·intro i hi;simp only[Ty.cells]at hi;rw[e1];by_cases b3:i<b.cells
     ·rw[B5 (by omega),f5 i b3];by_cases hr:off<=pos+i/\pos+i<off+n
      ·rw[if_pos hr,if_pos hr,B5 (by omega)]
      ·rw[if_neg hr,if_neg hr,B5 (by omega)]
     ·rw[B4 (by omega),b9,g5 (i-b.cells) (by omega)];have e3:pos+b.cells+(i-b.cells)=pos+i:=by omega
      rw[e3];by_cases hr:off<=pos+i/\pos+i<off+n
      ·rw[if_pos hr,if_pos hr,B4 (by omega)];congr 1;omega
      ·rw[if_neg hr,if_neg hr,B4 (by omega),b4]
    ·intro k;rw[e2,B3,B3,dK,B3];have:=f6 k;have:=g6 k;omega
    ·intro y hy;exact (B9.1 hy).elim (f7 y) (g7 y)
    ·intro y hy;exact (B9.1 hy).elim (f8 y) (g8 y)
   ·cases r
  ·cases r
 |.unit,pos,x,ls,cs,t,R,z,M,r,hm=>by
  simp only[da,BV]at r;subst r;refine⟨[],cs,[],[],rfl,M,by simp only[Ty.cells,Cw];omega,⟨rfl,rfl⟩,λi hi=>by simp[Ty.cells]at hi,λk=>by simp,by simp,by simp⟩
 |.hdr,pos,x,ls,cs,t,R,z,M,r,hm=>by simp[da]at r
 |.int k,pos,x,ls,cs,t,R,z,M,r,hm=>put_scalar h (b:=.int k) rfl rfl M r hm
 |.bool,pos,x,ls,cs,t,R,z,M,r,hm=>put_scalar h (b:=.bool) rfl rfl M r hm
 |.str,pos,x,ls,cs,t,R,z,M,r,hm=>put_scalar h (b:=.str) rfl rfl M r hm
 |.list m E e,pos,x,ls,cs,t,R,z,M,r,hm=>by
  simp only[da]at r;have ba:=hm.len;have e0:(Ty.list m E e).cells=1:=rfl;cases X:DB off pos&&DQ pos (off+n) with
  |true =>
   rw[X]at r;simp only[cond_true]at r;simp only[BX,C0]at X;have a6:=Ci X.1;obtain⟨O,c2,l1,e1,e2,h1,h2,h3,h4,h5⟩:=lL h (.list m E e) pos ls cs t M r;have a3:=h3.len;refine⟨O,c2,O,aZ W t.kill,e1,h2,by rw[a3];omega,?_,λi hi=>?_,λk=>by omega,h4,h5⟩
   ·have Z:=h3.mono (G':=λk=>G k\/bq V W t.p t.frz k) (λk H=>.inr H);cases m with
    |false=>rw[co]at Z ⊢;exact Z
    |true =>
     rw[bJ (by simp)]at Z;rw[bJ (a5 pos a6 X.2)];exact Z
   ·rw[if_pos (by omega)];congr 1;omega
  |false =>
   rw[X]at r;simp only[cond_false,BV]at r;subst r;have a4:¬ (off<=pos/\pos<off+n):=by
    rintro⟨h1,h2⟩;have:(DB off pos&&DQ pos (off+n))=true:=by
     simp only[BX,C0];exact⟨Ct h1,h2⟩
    rw[X]at this;cases this
   refine⟨[],cs,R,z,rfl,M,by simp only[Cw];omega,?_,λi hi=>?_,λk=>by omega,by simp,by simp⟩
   ·have Z:=hm.mono (G':=λk=>G k\/bq V W false [] k) (λk H=>.inl H);cases m with
    |false=>rw[co]at Z ⊢;exact Z
    |true =>
     by_cases hp:hol=some pos
     ·have a2:=(Y pos a4).2 hp;subst hp;subst a2;rw[jd]at Z ⊢;exact Z
     ·have a2:J≠some pos:=λe=>hp ((Y pos a4).1 e)
      rw[bJ hp]at Z;rw[bJ a2];exact Z
   ·rw[if_neg (by omega)]
where
 put_scalar (h:ap P V W st a w) {b:Ty} {pos:Nat} {x:b.den} {ls:List Leaf} {cs:List Value} {t:cK b.den} {R:List Value} {z:List Nat} (hf:b.flat=true) (h1:b.cells=1) (M:aC P V W st w ls cs)
   (r:(bif DB off pos&&DQ pos (off+n) then take st b ls else some ⟨false,x,[],[],ls⟩)=some t) (hm:Mx w G b hol pos x R z) :
   ∃ O c2 c' I,cs=O++c2/\aC P V W st w t.rest c2/\O.length=min (off+n) (pos+b.cells)-max off pos /\
    Mx w (λk=>G k\/bq V W t.p t.frz k) b J pos t.val c' I /\
    (∀ i,i<b.cells->c'[i]?=if off<=pos+i/\pos+i<off+n then O[pos+i-max off pos]? else R[i]?) /\
    (∀ k,I.count k<=z.count k+(aZ W t.kill).count k)/\(∀ x∈t.frz,aB st x)/\(∀ x∈t.kill,aB st x):=by
  have a0:∀ {S S':Nat->Prop} {hh b0:Option Nat} {y:b.den} {c:List Value} {q:List Nat},Mx w S b hh pos y c q->Mx w S' b b0 pos y c []:=by
   intro S S' hh b0 y c q hq;exact Mx.flat (w:=w) (G:=λ_=>True) hf (ka hf hq)
  cases X:DB off pos&&DQ pos (off+n) with
  |true =>
   rw[X]at r;simp only[cond_true]at r;simp only[BX,C0]at X;have a6:=Ci X.1;obtain⟨O,c2,l1,e1,e2,h2,h3,h4,h5,Z⟩:=lL h b pos ls cs t M r;have a3:=h4.len;refine⟨O,c2,O,[],e1,h3,by rw[a3];omega,a0 h4,λi hi=>?_,λk=>by simp,h5,Z⟩;rw[if_pos (by omega)];congr 1;omega
  |false =>
   rw[X]at r;simp only[cond_false,BV]at r;subst r;have a4:¬ (off<=pos/\pos<off+n):=by
    rintro⟨h1,h2⟩;have:(DB off pos&&DQ pos (off+n))=true:=by
     simp only[BX,C0];exact⟨Ct h1,h2⟩
    rw[X]at this;cases this
   refine⟨[],cs,R,[],rfl,M,by simp only[Cw];omega,a0 hm,λi hi=>?_,λk=>by simp,by simp,by simp⟩;rw[if_neg (by omega)]
end
section
variable {P:Program} {V:Env} {Γ:List Ctr} {T:TypeId->TI} {st st2:St} {o:Oper} {R:Type} {κ:Upd->Option R} {r:R}
def vo (V:Env)(W:Wit)(st:St)(q j k:Nat):Prop :=
 ¬ W.nw k/\¬ V.prot k/\(∀ b,live st b->W.β b≠k)/\∀ (u i:Nat) (l:Leaf),(st u).ls[i]?=some l->ao l->(u,i)≠(q,j)->k∉W.bs u i
structure yd (st st2:St) (q j:Nat) (l':Leaf):Prop where
 sh:∀ r,(st2 r).sh=(st r).sh
 ver:∀ r,(st r).ver<=(st2 r).ver
 epo:(st EPO).ver<(st2 EPO).ver
 len:∀ r,(st2 r).ls.length=(st r).ls.length
 at_:∀ l,(st2 q).ls[j]?=some l->l=l'
 old:∀ r i l,(r,i)≠(q,j)->(st2 r).ls[i]?=some l->(st r).ls[i]?=some l
def Wit.tell (W:Wit)(q j:Nat)(bs:List Nat):Wit:={ W with bs:=λr i=>if (r,i)=(q,j) then bs else W.bs r i }
theorem ap.retell (hV:ay V){W:Wit}{a:Act}{w w':World}(h:ap P V W st a w){q j:Nat}{l l':Leaf}(O:yd st st2 q j l'){v:Value}{bs':List Nat}
  (hl:(st q).ls[j]?=some l) (a5:ao l) (hv:(W.cs q)[j]?=some v) (b4:ao l') (ad:aI P V W st w' bs' l' v)
  (a4:∀ k∈bs',vo V W st q j k)
  (H:∀ k,ce V W st k->k∉W.bs q j->w'.heap[k]?=w.heap[k]?) (a9:w.heap.size<=w'.heap.size) (b0:w'.os=w.os) (ht:w'.tape=w.tape) (ho:w'.output=w.output) :
  ap P V (W.tell q j bs') st2 a w':=by
 have a0:=h.ownb q j _ hl a5;have X:∀ b,live st2 b<->live st b:=iF O.sh;have a2:∀ {y i:Nat},(y,i)≠(q,j)->(W.tell q j bs').bs y i=W.bs y i:=λh=>if_neg h
 have a3:(W.tell q j bs').bs q j=bs':=if_pos rfl;have b1:∀ (y i:Nat) (l:Leaf),(st2 y).ls[i]?=some l->ao l->(y,i)≠(q,j)->(st y).ls[i]?=some l:=λy i l Y _ J=>O.old y i l J Y
 have I:cE V W (W.tell q j bs') st st2 w w':=by
  refine⟨λy=>⟨O.ver y,λ_=>rfl⟩,λb hb=>⟨(X b).2 hb,rfl⟩,λ_ h=>h,λk z=>H k (z.elim .inl (λh=>.inr (.inl h))) (λhm=>?_),λhe=>?_⟩
  ·rcases z with z|z
   ·exact (a0 k hm).1 z
   ·exact (a0 k hm).2.1 z
  ·have:=O.epo;omega
 exact {
  nt:=h.nt,df:=h.df
  slots:=λt b2=>by rw[O.sh];exact h.slots t b2
  boxes:=λb hb=>by
   rw[O.sh];rcases h.boxes b hb with ⟨Y,J⟩|⟨Y,E0,J⟩
   ·refine .inl ⟨Y,CJ ?_⟩;rw[O.len,J];rfl
   ·refine .inr ⟨Y,E0,?_⟩;show w'.heap[W.β b]?=_;rw[H _ (.inr (.inr (.inl ⟨b,⟨hb,Y⟩,rfl⟩))) (λhm=>(a0 _ hm).2.2 b ⟨hb,Y⟩ rfl)];exact J
  len:=λy=>by rw[O.len];exact h.len y
  one:=h.one
  leaf:=λy i l1 u Y J=>by
   by_cases M:(y,i)=(q,j)
   ·cases M;obtain rfl:=O.at_ l1 Y;have J:(W.cs q)[j]?=some u:=J;rw[hv]at J;simp only[BV]at J;subst J;rw[a3];have a6:cE V W (W.tell q j bs') st st2 w' w':=⟨I.ver,I.box,I.nw,λ_ _=>rfl,λhe=>by have:=O.epo;omega⟩;exact ad.carry hV.ro a6 (λ_=>⟨rfl,λ_ _=>rfl⟩)
   ·have h3:=O.old y i l1 M Y;rw[a2 M];refine (h.leaf y i l1 u h3 J).carry hV.ro I (λho=>⟨rfl,λk z=>H k (.inr (.inr (.inr ⟨y,i,l1,h3,ho,z⟩))) (λhm=>M ?_)⟩);obtain⟨rfl,rfl⟩:=h.sep y i l1 q j _ h3 ho hl a5 k z hm;rfl
  ownb:=λy i l1 Y J k z=>by
   by_cases M:(y,i)=(q,j)
   ·cases M;rw[a3]at z;obtain⟨q1,q2,q3,_⟩:=a4 k z;exact⟨q1,q2,λb hb=>q3 b ((X b).1 hb)⟩
   ·rw[a2 M]at z;obtain⟨q1,q2,q3⟩:=h.ownb y i l1 (O.old y i l1 M Y) J k z;exact⟨q1,q2,λb hb=>q3 b ((X b).1 hb)⟩
  sep:=λy i l1 r2 i2 l2 Y J h3 h4 k z a1=>by
   by_cases M:(y,i)=(q,j) <;> by_cases Z:(r2,i2)=(q,j)
   ·rw[<- Z]at M;cases M;exact⟨rfl,rfl⟩
   ·cases M;rw[a3]at z;rw[a2 Z]at a1;exact absurd a1 ((a4 k z).2.2.2 r2 i2 l2 (O.old r2 i2 l2 Z h3) h4 Z)
   ·cases Z;rw[a3]at a1;rw[a2 M]at z;exact absurd z ((a4 k a1).2.2.2 y i l1 (O.old y i l1 M Y) J M)
   ·rw[a2 M]at z;rw[a2 Z]at a1;exact h.sep y i l1 r2 i2 l2 (O.old y i l1 M Y) J (O.old r2 i2 l2 Z h3) h4 k z a1
  box:=λb hb=>h.box b ((X b).1 hb)
  inj:=λb b' hb b3=>h.inj b b' ((X b).1 hb) ((X b').1 b3)
  nwlt:=λk z=>⟨Cf (h.nwlt k z).1 a9,(h.nwlt k z).2⟩
  os:=b0.trans h.os,tape:=ht.trans h.tape,output:=ho.trans h.output,size:=Cd h.size a9
  keep:=λk hp=>by
   rw[H k (.inr (.inl hp)) (λhm=>(a0 k hm).2.1 hp)];exact h.keep k hp
  fixb:=λx hx=>⟨(X _).2 (h.fixb x hx).1,(h.fixb x hx).2⟩
  fixt:=h.fixt }
theorem kP {q:Nat}(st:St):∀ (ks:List (Nat×Nat)),(∀ x∈ks,x.1≠q)->ac (aE st ks) st q=st q
 |[],_=>rfl
 |(r,j)::ks,h=>by
  have e:ac (aE st ((r,j)::ks)) st=ac [(r,fZ (ac (aE st ks) st r) j)] (ac (aE st ks) st):=aQ _ _ _ _;rw[e,aH (Cl (h (r,j) (CK ..))),kP st ks (λx u=>h x (CD _ u))]
theorem kw {q:Nat}(st:St):∀ (ks:List (Nat×Nat)),(∀ x∈ks,x.1≠q)->ac (aM st ks) st q=st q
 |[],_=>rfl
 |(r,j)::ks,h=>by
  have e:ac (aM st ((r,j)::ks)) st=ac [(r,gi (ac (aM st ks) st r) j)] (ac (aM st ks) st):=aQ _ _ _ _;rw[e,aH (Cl (h (r,j) (CK ..))),kw st ks (λx u=>h x (CD _ u))]
theorem OwH.store {w:World}{G G':Nat->Prop}{h h':Option (Nat×Nat)}{E:TypeId}{e:Ty}{xs:List e.den}{g len a3:Nat}{bs K:List Nat}(H:OwH w G h E e xs (.slice (some ⟨g,0,none⟩) len a3) bs)
  (hG:∀ k,G k->G' k) (c3:¬ G' g) (hK:K.Nodup) (c6:∀ k∈K,k∉bs) {i:Nat} {a9 z:e.den} (hi:xs[i]?=some a9) (hh:∀ j,j≠i->cP h' j=cP h j) {off:Nat} {cs:List Value} (e2:off+cs.length<=e.cells)
  (M:∀ c0 bl,Mx w G e (cP h i) 0 a9 c0 bl->∃ c J,Mx w G' e (cP h' i) 0 z c J/\(∀ k,k<e.cells->c[k]?=if off<=k/\k<off+cs.length then cs[k-off]? else c0[k]?)/\∀ k,J.count k<=bl.count k+K.count k) :
  ∃ b9,OwH (w.setCells g (i*e.cells+off) cs) G' h' E e (xs.set i z) (.slice (some ⟨g,0,none⟩) len a3) b9/\∀ k∈b9,k∈bs\/k∈K:=by
 obtain⟨cp,a0,Y,h1,h2,h3⟩:=H;have ad:i<xs.length:=(BY.1 hi).1;obtain⟨c0,b4,d2⟩:=h3 i a9 hi;obtain⟨c,J,hm,cb,c2⟩:=M c0 (Y i) b4;have cy:=h1.1;rcases h1.2 with ⟨h4,_⟩|⟨g',d3,y,mk,h4,hg,bn,cw,c5,a6⟩
 ·simp at h4
 ·simp only[CU,BV,C6,and_true,true_and]at h4;obtain⟨rfl,rfl,rfl⟩:=h4;have e1:g∈bs:=by rw[h2];simp[CQ]
  have dd:=b4.len;have c4:=hm.len;have b3:(i+1)*e.cells<=xs.length*e.cells:=CB _ ad;rw[CX]at b3;have dc:xs.length*e.cells<=a3*e.cells:=CB _ bn;have cc:y.toList.length=y.size:=by rw[CV]
  have c1:a0=y.toList.take (xs.length*e.cells):=a6.symm;have M:=jO g E cs 0 (i*e.cells+off) w y hg;have b1:=kX y.toList cs (i*e.cells+off) (by omega);rw[CR]at b1;rw[b1]at M;simp only[Cb]at M;have Z:∀ k,k<xs.length*e.cells->(y.toList.take (i*e.cells+off)++cs++y.toList.drop (i*e.cells+off+cs.length))[k]? =
    if i*e.cells+off<=k/\k<i*e.cells+off+cs.length then cs[k-(i*e.cells+off)]? else a0[k]?:=by
   intro k X;have b0:a0[k]?=y.toList[k]?:=by rw[c1,CZ,if_pos X]
   by_cases h9:k<i*e.cells+off
   ·rw[CE,B5 (by simp only[CP];omega),CZ,if_pos h9,if_neg (by omega),b0]
   ·by_cases cx:k<i*e.cells+off+cs.length
    ·rw[CE,B4 (by simp only[CP];omega),B5 (by simp only[CP];omega),if_pos ⟨by omega,cx⟩];congr 1;simp only[CP];omega
    ·rw[B4 (by simp only[CP,CF];omega),Co,if_neg (by omega),b0];congr 1;simp only[CP,CF];omega
  have O:(y.toList.take (i*e.cells+off)++cs++y.toList.drop (i*e.cells+off+cs.length)).length=y.size:=by
   simp only[CF,CP,C8];omega
  have a2:∀ k,([g]++(CC xs.length).flatMap λj=>if j=i then J else Y j).count k<=bs.count k+K.count k:=by
   intro k;have h5:=kv ad Y J k;have h6:=c2 k;rw[h2];simp only[CQ,DU,B3];omega
  have a1:=nl cp hK c6 a2;have bb:∀ j,j<xs.length->∀ k∈(if j=i then J else Y j),k≠g:=by
   intro j hj k X e0;subst e0;have h7:=a1.1;rw[DI,Cg]at h7;exact h7.1 (dX.2 ⟨j,hj,X⟩)
  have I:∀ k,k≠g->(w.setCells g (i*e.cells+off) cs).heap[k]?=w.heap[k]?:=λk X=>eN g cs _ w k X
  refine⟨[g]++(CC xs.length).flatMap λj=>if j=i then J else Y j,⟨a1.1,(y.toList.take (i*e.cells+off)++cs++y.toList.drop (i*e.cells+off+cs.length)).take (xs.length*e.cells),
   λj=>if j=i then J else Y j,⟨?_,.inr ⟨g,a3,_,_,?_,M,?_,by rw[Cr,O];exact cw,?_,?_⟩⟩,?_,?_⟩,a1.2⟩
  ·rw[CP,O,Ch];omega
  ·rw[Ch]
  ·rw[Ch];exact bn
  ·rw[Cr,O];exact c5
  ·rw[Ch]
  ·simp[CQ]
  ·intro j x hj;rcases aS _ _ _ _ _ hj with ⟨rfl,rfl,_⟩|⟨a4,hj⟩
   ·refine⟨c,?_,λk u hu=>?_⟩
    ·simp only[if_true];exact hm.carry (λ_ h=>h) (λk X=>I k (λe0=>c3 (e0 ▸ X))) (λk X=>I k (bb j ad k (by simpa using X)))
    ·have b2:k<e.cells:=by rw[<- c4];exact (BY.1 hu).1
     rw[CZ,if_pos (by omega),Z _ (by omega)];rw[cb k b2]at hu;by_cases bx:off<=k/\k<off+cs.length
     ·rw[if_pos bx]at hu;rw[if_pos (by omega),<- hu];congr 1;omega
     ·rw[if_neg bx]at hu;rw[if_neg (by omega)];exact d2 k u hu
   ·obtain⟨c',b5,cu⟩:=h3 j x hj;have ba:j<xs.length:=(BY.1 hj).1;refine⟨c',?_,λk u hu=>?_⟩
    ·rw[hh j a4];simp only[if_neg a4];exact b5.carry hG (λk X=>I k (λe0=>c3 (e0 ▸ hG k X))) (λk X=>I k (bb j ba k (by rw[if_neg a4];exact X)))
    ·have b2:k<e.cells:=by rw[<- b5.len];exact (BY.1 hu).1
     have d1:(j+1)*e.cells<=xs.length*e.cells:=CB _ ba;rw[CX]at d1;rw[CZ,if_pos (by omega),Z _ (by omega),if_neg ?_]
     ·exact cu k u hu
     ·rintro⟨h14,h15⟩;rcases Nat.lt_or_gt_of_ne (λe=>a4 e.symm:i≠j) with a5|a5
      ·have:(i+1)*e.cells<=j*e.cells:=CB _ a5;rw[CX]at this;omega
      ·have:(j+1)*e.cells<=i*e.cells:=CB _ a5;rw[CX]at this;omega
theorem ye (hV:ay V)(hT:TOk P T){t:TypeId}{x y:Operand}(b2:o.op=.store t x y)(h:act Γ T o st κ=some r):bY P V o st κ r:=by
  simp only[act,wrU,b2]at h;split at h
  · cases h
  · rename_i hd
    cases hb:CH (au st y).2.length (T t).cells&&decide ((au st y).1=bk (T t).agg)&&!decide ((T t).cells=0) with
    |false=>simp[hb]at h
    |true =>
      simp only[hb,cond_true]at h;simp only[BX,decide_eq_true_eq,CM,decide_eq_false_iff_not]at hb;obtain⟨⟨ad,c6⟩,b9⟩:=hb;have ad:=B6 ad;split at h
      · rename_i b off hx
        cases Z:decide ((st b).sh=.agg)&&decide (off+(au st y).2.length<=(st b).ls.length)&&ii st (au st y).2 with
        |false=>simp[Z]at h
        |true =>
          simp only[Z,cond_true]at h;simp only[BX,decide_eq_true_eq]at Z;exact⟨_,h,λW a w hr=>tJ hV hT b2 hd hx ad c6 b9 Z.1.1 Z.1.2 Z.2 hr⟩
      · rename_i z j fl i sz off hx
        split at h
        · rename_i p hh E e xs eg
          cases Z:CH sz e.cells&&decide (off+(au st y).2.length<=e.cells)&&sl z with
          |false=>simp[Z]at h
          |true =>
            simp only[Z,cond_true]at h;simp only[BX,decide_eq_true_eq,sl,CM]at Z;obtain⟨⟨b4,fo⟩,fv,dd⟩:=Z;have b4:=B6 b4;subst b4;have ej:z≠EPO:=λe0=>by subst e0;simp at dd
            unfold gM at h;obtain⟨a1,c3,h⟩:=CS.1 h;obtain⟨_,_,h4⟩:=gv c3;simp only[DX]at h4;split at h
            · rename_i u hu
              cases hq:u.rest.isEmpty&&a8 u.kill&&dE u.frz u.kill&&!((u.kill++u.frz).any λk=>CH k.1 z) with
              |false=>rw[hq]at h;cases h
              |true =>
                simp only[hq,cond_true]at h;simp only[BX,CM,CT]at hq;obtain⟨⟨⟨es,en⟩,dc⟩,a2⟩:=hq;have a2:∀ k∈u.kill++u.frz,k.1≠z:=λk H e0=>a2 k H (by simp[e0])
                obtain ⟨I, hκ, d1, a9, bx⟩ : ∃ I : Option (Nat × Nat), κ ((z, ⟨(st z).ver, (st z).sh, aT (st z).ls j (.own (p || u.p) I E e (xs.set i u.val))⟩) :: (EPO, bX (ac (aM (ac (aE st u.frz) st) u.kill ++ aE st u.frz) st EPO)) ::
                      (aM (ac (aE st u.frz) st) u.kill++aE st u.frz))=some r /\
                    (∀ k,off<=k->k<off+(au st y).2.length->cP I i≠some k)/\(∀ k,¬ (off<=k/\k<off+(au st y).2.length)->(cP I i=some k<->cP hh i=some k))/\(∀ j',j'≠i->cP I j'=cP hh j'):=by
                  cases hh with
                  |none=>exact⟨none,h,λ_ _ _=>by simp[cP],λ_ _=>DC,λ_ _=>rfl⟩
                  |some hp =>
                    obtain⟨hi,ho⟩:=hp;simp only at h;cases J:DB off ho&&DQ ho (off+(au st y).2.length) with
                    |true =>
                      rw[J]at h;simp only[cond_true]at h;simp only[BX,C0]at J;have f0:=Ci J.1;cases b5:CH i hi with
                      |true =>
                        rw[b5]at h;have h9:=h;have:=B6 b5;subst this;refine⟨none,h9,λ_ _ _=>by simp[cP],λk H=>?_,λj' ex=>?_⟩
                        · simp only[cP,Nat.beq_refl,cond_true,reduceCtorEq,BV,false_iff]
                          rintro rfl;exact H ⟨f0,J.2⟩
                        · have:CH i j'=false:=by
                            cases ey:CH i j' with
                            |false=>rfl
                            |true=>exact absurd (B6 ey).symm ex
                          simp[cP,this]
                      |false=>rw[b5]at h;cases h
                    |false =>
                      rw[J]at h;refine⟨some (hi,ho),h,λk bb eb=>?_,λ_ _=>DC,λ_ _=>rfl⟩;simp only[cP];cases CH hi i with
                      |false=>simp
                      |true =>
                        simp only[cond_true,ne_eq,BV];rintro rfl;have:(DB off ho&&DQ ho (off+(au st y).2.length))=true:=by
                          simp only[BX,C0];exact⟨Ct bb,eb⟩
                        rw[J]at this;cases this
                refine⟨_,hκ,λW a w hr next Q hn=>?_⟩;obtain⟨cs,hs,M⟩:=cU hr y;rw[c6]at hs;have e6:=gX hs M.one';have d2:=M.length;obtain⟨h5,h6⟩:=fa eg (by simp);obtain⟨hp,_,_,_⟩:=bt hr x (by rw[hx];simp);rw[hx]at hp;obtain⟨g,d3,ef,a4,fr,hv⟩:=hp.2 h5;have et:T t≠.none:=by intro e;rw[e]at b9;exact b9 rfl
                have a0:=hr.leaf z j _ _ h6 a4;have ed:∀ c0 X,Mx w (gd V W p) e (cP hh i) 0 a1 c0 X->∃ c a3,Mx w (λk=>gd V W p k\/bq V W u.p u.frz k) e (cP I i) 0 u.val c a3 /\
                    (∀ k,k<e.cells->c[k]?=if off<=k/\k<off+cs.length then cs[k-off]? else c0[k]?)/\∀ k,a3.count k<=X.count k+(aZ W u.kill).count k:=by
                  intro c0 X hm;obtain⟨c1,c2,c',bs',f1,f2,f3,f4,f5,f6,f7,f8⟩:=my hr d1 a9 e 0 a1 (au st y).2 cs u c0 X M hu hm;have cw:c2=[]:=by
                    have:=f2.length;rw[Df.1 es]at this;exact CJ this.symm
                  subst cw;rw[CO]at f1;subst f1;refine⟨c',bs',f4,λk H=>?_,f6⟩;rw[f5 k H,d2];simp only[Cm];by_cases J:off<=k/\k<off+cs.length
                  · rw[if_pos J,if_pos J]
                    congr 1;omega
                  · rw[if_neg J,if_neg J]
                have ba:(∀ x∈u.frz,aB st x)/\(∀ x∈u.kill,aB st x):=by
                  obtain⟨_,a5,cb,_,_,cc⟩:=a0;obtain⟨c0,ec,_⟩:=cc i a1 h4;obtain⟨_,_,_,_,_,_,_,_,_,_,f7,f8⟩:=my hr d1 a9 e 0 a1 (au st y).2 cs u c0 _ M hu ec;exact⟨f7,f8⟩
                obtain⟨k1,k2,k3,k4⟩:=fG hV hr dc ba.2;have O:ac (aM (ac (aE st u.frz) st) u.kill++aE st u.frz) st z=st z:=by
                  rw[bB,kw _ _ (λx hx=>a2 x (B7 _ hx)),kP _ _ (λx hx=>a2 x (BZ _ hx))]
                have h7:(ac (aM (ac (aE st u.frz) st) u.kill++aE st u.frz) st z).ls[j]?=some (.own p hh E e xs):=by rw[O];exact h6
                have a6:=k1.ownb z j _ h7 trivial;have cp:∀ k,gd V W p k\/bq V W u.p u.frz k->gd V (W.frz st u.frz) (p||u.p) k:=by
                  rintro k (H|H)
                  · exact bW (W':=W.frz st u.frz) (by intro h;simp[h]) (λ_ h=>Or.inl h) k H
                  · exact bW (W':=W.frz st u.frz) (by intro h;simp[h]) (λ_ h=>h) k (ko ba.1 k H)
                have b1:g∈W.bs z j:=by obtain⟨_,a5,cb,_,c5,_⟩:=a0;rw[c5];simp[CQ]
                have fc:¬ gd V (W.frz st u.frz) (p||u.p) g:=by
                  rintro (H|⟨_,H⟩)
                  · exact (a6 g b1).1 H
                  · exact (a6 g b1).2.1 (hV.ro g H)
                have e5:∀ k∈aZ W u.kill,k∉W.bs z j:=λk H em=>(k4 k H).2.2.2.2 z j _ h7 trivial em
                obtain⟨bs',cu,cx⟩:=OwH.store (G':=gd V (W.frz st u.frz) (p||u.p)) (h':=I) a0 (λk H=>cp k (.inl H)) fc (gS hr en ba.2) e5 h4 bx (off:=off) (cs:=cs) (by omega)
                  (λc0 X hm=>by
                    obtain⟨c,a3,q1,q2,q3⟩:=ed c0 X hm;exact⟨c,a3,q1.mono cp,q2,q3⟩)
                obtain⟨_,a5,cb,ho,c5,_⟩:=a0;have e7:d3=xs.length:=by
                  obtain⟨A,bn,e0,_⟩:=ho.slice;simp only[CU]at e0;exact e0.2.1
                subst e7;rcases ho.2 with ⟨h8,_⟩|⟨g',bn,cur,mk,h8,hg,ez,ev,fi,_⟩
                · simp at h8
                · simp only[CU,BV,C6,and_true,true_and]at h8
                  obtain⟨rfl,rfl⟩:=h8;have c4:(i+1)*e.cells<=xs.length*e.cells:=CB _ (BY.1 h4).1;rw[CX]at c4;have fd:xs.length*e.cells<=ef*e.cells:=CB _ ez;have b0:cur.toList.length=cur.size:=by rw[CV]
                  have cy:=nk (P:=P) (o6 (hT t) et) (w:=w) (b:=g) (off:=i*e.cells+off) (cur:=cur.toList) (E:=E) (by rw[CR];exact hg) (by rw[b0];exact zN ev) e6 (by omega) M.one' (by omega);refine pN (w':=w.setCells g (i*e.cells+off) cs) (by simp[execOp,b2,hv,cy]) ?_;rw[hd];refine hn _ _ ?_;obtain⟨e1,e2,e3,e4⟩:=jP g cs (i*e.cells+off) w;refine⟨_,k1.retell hV (l':=.own (p||u.p) I E e (xs.set i u.val)) (w':=w.setCells g (i*e.cells+off) cs) (bs':=bs') ?_ h7 trivial a4 trivial cu (λk H=>?_) (λk _ H=>eN g cs _ w k (λe=>H (e ▸ b1))) (DA e4.symm) e1 e2 e3⟩
                  · rw[aQ z,aQ EPO]
                    have Y:EPO≠z:=Cl ej;generalize aM (ac (aE st u.frz) st) u.kill++aE st u.frz=U at O ⊢;refine⟨λq=>?_,λq=>?_,?_,λq=>?_,λl M=>?_,λq i' l hq M=>?_⟩
                    · rcases am z q ⟨(st z).ver,(st z).sh,aT (st z).ls j (.own (p||u.p) I E e (xs.set i u.val))⟩ (ac [(EPO,bX (ac U st EPO))] (ac U st)) with ⟨rfl,e⟩ | ⟨_,e⟩
                      · rw[e,O]
                      · rw[e]
                        rcases am EPO q (bX (ac U st EPO)) (ac U st) with ⟨rfl,e⟩|⟨_,e⟩ <;> rw[e];rfl
                    · rcases am z q ⟨(st z).ver,(st z).sh,aT (st z).ls j (.own (p||u.p) I E e (xs.set i u.val))⟩ (ac [(EPO,bX (ac U st EPO))] (ac U st)) with ⟨rfl,e⟩ | ⟨_,e⟩
                      · rw[e,O];exact CI _
                      · rw[e]
                        rcases am EPO q (bX (ac U st EPO)) (ac U st) with ⟨rfl,e⟩|⟨_,e⟩ <;> rw[e]
                        · exact Dk _
                        · exact CI _
                    · rw[aH Y,bm];exact CA _
                    · rcases am z q ⟨(st z).ver,(st z).sh,aT (st z).ls j (.own (p||u.p) I E e (xs.set i u.val))⟩ (ac [(EPO,bX (ac U st EPO))] (ac U st)) with ⟨rfl,e⟩ | ⟨_,e⟩
                      · rw[e,O];simp[aT]
                      · rw[e]
                        rcases am EPO q (bX (ac U st EPO)) (ac U st) with ⟨rfl,e⟩|⟨_,e⟩ <;> rw[e];rfl
                    · rw[bm]at M
                      rcases aS _ _ _ _ _ M with ⟨_,rfl,_⟩|⟨Y,_⟩
                      · rfl
                      · exact absurd rfl Y
                    · rcases am z q ⟨(st z).ver,(st z).sh,aT (st z).ls j (.own (p||u.p) I E e (xs.set i u.val))⟩ (ac [(EPO,bX (ac U st EPO))] (ac U st)) with ⟨rfl,e⟩ | ⟨_,e⟩
                      · rw[e]at M
                        rw[O];rcases aS _ _ _ _ _ M with ⟨rfl,_,_⟩|⟨_,M⟩
                        · exact absurd rfl hq
                        · exact M
                      · rw[e]at M
                        rcases am EPO q (bX (ac U st EPO)) (ac U st) with ⟨rfl,e⟩|⟨_,e⟩ <;> rw[e]at M <;> exact M
                  · rcases cx k H with H|H
                    · have h9:=k1.ownb z j _ h7 trivial k H
                      exact⟨h9.1,h9.2.1,h9.2.2,λr1 i1 l1 bl b3 Y bb=>Y (by obtain⟨e1,e2⟩:=k1.sep r1 i1 l1 z j _ bl b3 h7 trivial k bb H;rw[e1,e2])⟩
                    · have h9:=k4 k H
                      exact⟨h9.1,h9.2.1,h9.2.2.2.1,λr1 i1 l1 bl b3 _=>h9.2.2.2.2 r1 i1 l1 bl b3⟩
            · cases h
        · cases h
      · cases h
end
section
variable {P:Program} {V:Env} {Γ:List Ctr} {T:TypeId->TI} {st:St} {o:Oper} {R:Type} {κ:Upd->Option R} {r:R}
theorem ap.putOwn (Y:ay V){W:Wit}{a:Act}{w w':World}(h:ap P V W st a w)(O:w.heap.size<=w'.heap.size)(I:w'.os=w.os)(ht:w'.tape=w.tape)(ho:w'.output=w.output)
  (hk:∀ k,ce V W st k->w'.heap[k]?=w.heap[k]?) (d:Nat) (hd:d<V.nt) (z:∀ x∈V.fixt,x.1≠d) (n:Nat) (hn:(st d).ver<n) {p:Bool} {E:TypeId} {e:Ty} {xs:List e.den} {v:Value} {bs:List Nat}
  (X:Ow w' (gd V W p) E e xs v bs) (hb:∀ k∈bs,¬ ce V W st k):Rel P V (ac [(d,⟨n,.one,[.own p none E e xs]⟩)] st) (a.put (some d) v) w':=by
 refine⟨_,(h.world Y O I ht ho hk).put Y d hd z n .one [.own p none E e xs] v [v] (λ_=>bs) hn rfl rfl (λu Z=>by simp at Z;subst Z;exact X.one) ?_ ?_ ?_⟩
 ·intro j l u y H;cases j with
  |zero=>simp at y H;subst y;subst H;exact X
  |succ j=>simp at y
 ·intro j l y H k M;have:=hb k M;simp only[ce,not_or,not_exists,not_and]at this;exact⟨this.1,this.2.1,this.2.2.1,λr1 j1 l1 _ J h4=>this.2.2.2 r1 j1 l1 J h4⟩
 ·intro j j' l l' y H J h4 k h5 h6;have h7:j<1:=(BY.1 y).1;have h8:j'<1:=(BY.1 J).1;omega
theorem dR {W:Wit}{p q:Bool}{H z:List (Nat×Nat)}:(∀ k,bq V W p H k->bq V W (p||q) (H++z) k)/\(∀ k,bq V W q z k->bq V W (p||q) (H++z) k):=by
 constructor
 ·rintro k (u|⟨x,y,u⟩)
  ·exact .inl (bW (W':=W) (by intro h;simp[h]) (λ_ h=>h) k u)
  ·exact .inr ⟨x,B7 _ y,u⟩
 ·rintro k (u|⟨x,y,u⟩)
  ·exact .inl (bW (W':=W) (by intro h;simp[h]) (λ_ h=>h) k u)
  ·exact .inr ⟨x,BZ _ y,u⟩
theorem yf (n:Nat)(u:Nat->List Nat):(CC (n+1)).flatMap u=u 0++(CC n).flatMap λj=>u (j+1):=by
 rw[List.range_succ_eq_map,Cj,Dg]
theorem oJ {W:Wit}{a:Act}{w:World}(M:ap P V W st a w){e:Ty}:∀ (ps:List (Nat×Operand)) (k:Nat) (u:cK (List e.den)),eD st e k ps=some u ->
  ps.map (λx=>(x.1,a.eval x.2))=((ps.map λx=>a.eval x.2).zipIdx k).map (λx=>(x.2,x.1))/\u.val.length=ps.length/\(∀ x∈u.frz,aB st x)/\(∀ x∈u.kill,aB st x) /\
  ∃ z:Nat->List Nat,aZ W u.kill=(CC u.val.length).flatMap z /\
   ∀ (j:Nat) (x:e.den),u.val[j]?=some x->∃ v c,(ps.map λx=>a.eval x.2)[j]?=some v/\v.cells=c.toArray/\Mx w (bq V W u.p u.frz) e none 0 x c (z j)
 |[],k,u,h=>by
  simp only[eD,BV]at h;subst h;exact⟨rfl,rfl,by simp,by simp,λ_=>[],rfl,λj x H=>by simp at H⟩
 |(i,y)::ps,k,u,h=>by
  simp only[eD]at h;cases I:CH i k&&decide ((au st y).1=bk e.isAgg) with
  |false=>simp[I]at h
  |true =>
   simp only[I,cond_true]at h;simp only[BX,decide_eq_true_eq]at I;have J:=B6 I.1;subst J;split at h
   ·rename_i t1 u1 hg X;simp only[BV]at h;subst h;obtain⟨h1,h2,h3,h4,z,h5,h6⟩:=oJ M ps (i+1) u1 X;obtain⟨cs,Z,Y⟩:=cU M y;rw[I.2]at Z;have hc:=gX Z Y.one';obtain⟨g1,g2,g3⟩:=dP (pos:=0) M Y hg;refine⟨by simp[h1],by simp[h2],λx O=>(B9.1 O).elim (g2 x) (h3 x),λx O=>(B9.1 O).elim (g3 x) (h4 x),λj=>match j with|0=>aZ W t1.kill|j+1=>z j,?_,?_⟩
    ·rw[dK,h5,C9,yf]
    ·intro j x H;cases j with
     |zero =>
      simp at H;subst H;exact⟨a.eval y,cs,by simp,hc,g1.mono dR.1⟩
     |succ j =>
      obtain⟨v,c,h7,h8,h9⟩:=h6 j x (by simpa using H);exact⟨v,c,by simpa using h7,h8,h9.mono dR.2⟩
   ·cases h
theorem lM (w:World)(G:Nat->Prop):∀ (b:Ty),Rd w G b b.zero (zeroCells b)
 |.int _=>rfl
 |.bool=>rfl
 |.str=>rfl
 |.unit=>rfl
 |.hdr=>⟨none,0,rfl⟩
 |.pair a b=>⟨_,_,rfl,lM w G a,lM w G b⟩
 |.list m E e=>Rd.nil w G m E e
theorem qN (w:World)(G:Nat->Prop):∀ (b:Ty) (pos:Nat),Mx w G b none pos b.zero (zeroCells b) []
 |.int _,_=>⟨rfl,rfl⟩
 |.bool,_=>⟨rfl,rfl⟩
 |.str,_=>⟨rfl,rfl⟩
 |.unit,_=>⟨rfl,rfl⟩
 |.hdr,_=>⟨⟨none,0,rfl⟩,rfl⟩
 |.pair a b,_=>⟨_,_,[],[],rfl,rfl,qN w G a _,qN w G b _⟩
 |.list m E e,_=>by
  cases m with
  |false=>exact co.2 ⟨rfl,Rd.nil w G false E e⟩
  |true=>exact (bJ (by simp)).2 ⟨_,rfl,(OwH.nil w G E e).2⟩
theorem mz {W:Wit}{k:Nat}(h:¬ W.nw k/\¬ V.prot k/\(∀ b,live st b->W.β b≠k)/\∀ (u i:Nat) (l:Leaf),(st u).ls[i]?=some l->ao l->k∉W.bs u i):¬ ce V W st k:=by
 rintro (y|y|⟨b,H,e⟩|⟨u,i,l,J,z,I⟩)
 ·exact h.1 y
 ·exact h.2.1 y
 ·exact h.2.2.1 b H e
 ·exact h.2.2.2 u i l J z I
theorem mA:(9223372036854775807:Nat)<=maxLen:=by decide
theorem qO (hV:ay V)(hT:TOk P T)(ad:bP V o){t:TypeId}{n:Nat}{y:Array (Nat×Operand)}(a0:o.op=.buildSlice t n y)(h:act Γ T o st κ=some r):bY P V o st κ r:=by
 simp only[act,wrU,a0]at h;cases ht:T t with
 |slice E e c6 =>
  simp only[ht]at h;split at h
  ·rename_i u c3;cases hb:CH u.val.length n&&decide (n*e.cells<=16777216)&&a8 u.kill&&dE u.frz u.kill with
   |false=>simp[hb]at h
   |true =>
    simp only[hb,cond_true]at h;simp only[BX,decide_eq_true_eq]at hb;obtain⟨⟨⟨bb,cb⟩,c4⟩,c2⟩:=hb;have bx:=B6 bb;subst bx;split at h
    ·rename_i d hd;refine⟨_,h,λW a w hr next Q hn=>?_⟩;have h1:=hT t;rw[ht]at h1;obtain⟨hu,_,_,Y,_,ti,z,a1,O,_,hz,cc⟩:=h1;obtain⟨h2,h3,b0,b9,b2,bn,h5⟩:=oJ hr y.toList 0 u c3;generalize cp:u.val=I at *;have a5:∀ v∈(y.toList.map λx=>a.eval x.2),v.cells.size=e.cells:=by
      intro v hv;obtain⟨j,hj,e1⟩:=List.getElem_of_mem hv;have c5:j<I.length:=by rw[h3];simpa using hj
      obtain⟨v',c,X,Z,h8⟩:=h5 j I[j] (CG c5);rw[CG hj]at X;simp only[BV]at X;rw[<- e1,X,Z];simpa using h8.len
     have a6:(y.toList.map λx=>a.eval x.2).length=I.length:=by rw[Cx,h3]
     have a4:∀ (j:Nat) (x:e.den),I[j]?=some x->∃ c,Mx w (bq V W u.p u.frz) e none 0 x c (b2 j)/\∀ i u,c[i]?=some u ->
       ((y.toList.map λx=>a.eval x.2).flatMap λv=>v.cells.toList)[j*e.cells+i]?=some u:=by
      intro j x hj;obtain⟨v,c,X,Z,h8⟩:=h5 j x hj;refine⟨c,h8,λi u hi=>?_⟩;have b5:i<e.cells:=by rw[<- h8.len];exact (BY.1 hi).1
      rw[Great.flat_get Y _ a5];have e1:(j*e.cells+i) / e.cells=j:=by
       rw[DD,Nat.mul_add_div Y,Nat.div_eq_of_lt b5,Cb]
      have e2:(j*e.cells+i) % e.cells=i:=by
       rw[DD,Dp,Dh b5]
      rw[e1,e2,X];simpa[Z]using hi
     have a2:((y.toList.map λx=>a.eval x.2).flatMap λv=>v.cells.toList).length=I.length*e.cells:=by
      have:∀ (vs:List Value),(∀ v∈vs,v.cells.size=e.cells)->(vs.flatMap λv=>v.cells.toList).length=vs.length*e.cells:=by
       intro vs;induction vs with
       |nil=>intro _;simp
       |cons v vs ih =>
        intro hv;rw[Cj,CF,ih (λu hu=>hv u (CD _ hu)),CV,hv v (CK ..),C9,CX];omega
      rw[this _ a5,a6]
     have H:=Great.fill_whole Y (y.toList.map λx=>a.eval x.2) ((Array.range (I.length*e.cells)).map ((if I.length*e.cells=0 then (#[]:Array Value) else z.cells)[· % (if I.length*e.cells=0 then (#[]:Array Value) else z.cells).size]!)) a5 (by rw[a6];simp);rw[<- h2]at H;have a3:(y.map λ (i,x)=>(i,a.eval x)).toList=y.toList.map λx=>(x.1,a.eval x.2):=by rw[Di]
     have ba:(execOp a.eval o).run P w=.ok (.value (.slice (some ⟨w.heap.size,0,none⟩) I.length I.length)) (w.alloc (.cells ((y.toList.map λx=>a.eval x.2).flatMap λv=>v.cells.toList).toArray E)):=by
      have M:¬ (I.length*e.cells>2 ^ 24):=by omega
      by_cases h0:I.length*e.cells=0
      ·rw[if_pos h0]at H;simp only[execOp,a0,Instr.buildSlice,DY,run_underlying hu,C4,sizeOf,typeInfo,a1,O,a3];simp[M,h0,newRow,a1,O,a3]at H ⊢;simp[H]
      ·rw[if_neg h0]at H;have:=run_buildSlice (P:=P) w t E I.length (y.map λ (i,x)=>(i,a.eval x)) _ ti z hu a1 hz (by rw[O];exact M) (by rw[O];exact h0) (by rw[O,a3];exact H);simp[execOp,a0,this]
     refine dY ba ?_;rw[hd];refine hn _ _ ?_;rw[ck,aQ];obtain⟨X,_,_,a9⟩:=fG hV hr c2 b9;have b1:=X.used_lt;have b3:I.length<=maxLen:=by
      have:=mA;have:I.length*1<=I.length*e.cells:=Cz _ Y;omega
     have bl:=World.ownsRow_lit (e:=E) (size:=e.cells) (base:=0) w ((y.toList.map λx=>a.eval x.2).flatMap λv=>v.cells.toList).toArray I.length (Dl _) b3 (by simpa using a2);refine X.putOwn hV (w':=w.alloc (.cells ((y.toList.map λx=>a.eval x.2).flatMap λv=>v.cells.toList).toArray E)) (by simp) rfl rfl rfl (λk J=>Go.heap_alloc_old w _ (b1 k J)) d (ad d hd).1 (ad d hd).2 _ (CA _) (bs:=w.heap.size::aZ W u.kill) ?_ (λk J hu=>?_)
     ·refine⟨Cg.2 ⟨λhm=>?_,gS hr c4 b9⟩,_,b2,Row.of bl,by rw[bn];rfl,λj x hj=>?_⟩
      ·have:=(a9 _ hm).2.2.1;omega
      ·obtain⟨c,b4,c0⟩:=a4 j x hj;have c1:∀ k,bq V W u.p u.frz k->k<w.heap.size:=λk J=>by
        rcases ko b0 k J with J|⟨_,J⟩
        ·exact (X.nwlt k J).1
        ·exact Cf (hV.ro k J).1 X.size
       exact⟨c,b4.carry (ko b0) (λk J=>Go.heap_alloc_old w _ (c1 k J)) (λk J=>Go.heap_alloc_old w _ (b4.lt k J)),λi u hi=>by simpa using c0 i u hi⟩
     ·rcases Cn.1 J with rfl|J
      ·have:=b1 _ hu;omega
      ·have Z:=a9 k J;exact mz ⟨Z.1,Z.2.1,Z.2.2.2.1,Z.2.2.2.2⟩ hu
    ·cases h
  ·cases h
 |_=>simp[ht]at h
theorem yg {w:World}{G:Nat->Prop}{E':TypeId}{y u e:TypeId}(X:P.underlying y=some (.slice e))(Z:P.underlying e=some (.int .u8))(O:P.underlying u=some .string){xs:List Int}{v:Value}
  (h:Rd w G (.list false E' (.int .u8)) xs [v]):(convert y u v).run P w=.ok (.string (gN xs)) w:=by
 obtain⟨A,z,hv,hc,J⟩:=h;simp only[Cy,and_true]at hv;subst hv;cases A with
 |none =>
  have hx:xs=[]:=by
   cases xs with
   |nil=>rfl
   |cons x xs=>obtain⟨g,o,M,_⟩:=J (by simp);cases M
  subst hx;show (convert y u (.slice none 0 z)).run P w=_;rw[run_convert_bytes_nil w y e X Z 0 z u O];rfl
 |some ad =>
  cases H:xs with
  |nil =>
   subst H;show (convert y u (.slice (some ad) 0 z)).run P w=_;rw[run_convert_bytes_string w y u e ad 0 z X Z O];simp[Conv.bytesToString,loadCells,loadCellsFrom];rfl
  |cons x0 a0 =>
   rw[<- H];obtain⟨g,o,M,_,hr⟩:=J (by rw[H];simp);simp only[BV]at M;subst M;have:=run_convert_bytes_arg (P:=P) w y e X Z g o xs.length z xs rfl (λi hi=>by
    obtain⟨c,I,Y⟩:=hr i xs[i] (CG hi);have I:c=[.int .u8 xs[i]]:=I;subst I;have:=Y 0 _ rfl;simp only[Ty.cells,DN,Cb]at this;rw[this];simp[List.getD,CG hi]) u O
   rw[this];rfl
theorem uM (hV:ay V)(hT:TOk P T)(J:bP V o){s t:TypeId}{x:Operand}(M:o.op=.convert s t x)(h:act Γ T o st κ=some r):bY P V o st κ r:=by
 simp only[act,wrU,M]at h;have y:=hT t;have z:=hT s;split at h
 ·rename_i k' k a5 n Y X hx;split at h
  ·rename_i d O;refine⟨_,h,λW a w I=>aN hV I O J (v:=.int k (k.wrap n)) ?_ rfl id rfl⟩;rw[X]at y;rw[Y]at z;simp[execOp,M,bF I hx,Go.convert,run_underlying y.1,run_underlying z.1,Conv.intToInt]
  ·cases h
 ·rename_i E b Y X;split at h
  ·rename_i p xs ha;split at h
   ·rename_i d O;refine⟨_,h,λW a w I=>?_⟩;have a1:one st x≠.dead:=by intro e0;rw[e0]at ha;simp[aD,dh]at ha
    obtain⟨h1,h2,_⟩:=bt I x a1;have a3:=kG (m:=false) (E:=E) I h1 h2 ha;rw[X]at y;rw[Y]at z;refine aN hV I O J (v:=.string (gN xs)) ?_ rfl id rfl;have:=yg (P:=P) z.1 (z.2.2.2.2.1.2 rfl) y.1 a3;simp[execOp,M,this]
   ·cases h
  ·cases h
 ·rename_i E b H Y X hx;cases hE:CH E 5 with
  |false=>simp[hE]at h
  |true =>
  simp only[hE,cond_true]at h;have a0:E=5:=B6 hE;split at h
  ·rename_i d O;refine⟨_,h,λW a w I next Q hn=>?_⟩;rw[X]at y;rw[Y]at z;have hc:(eA H).length=H.size:=by simp only[eA,Cx,CV];rfl
   have Z:=Lib.run_convert_string_bytes (P:=P) w s t E H z.1 y.1 (y.2.2.2.2.1.2 rfl);refine dY (v:=.slice (some ⟨w.heap.size,0,none⟩) H.size (grownCap w H.size 0 E)) (w':=Lib.bytesWorld w E H) (by simp[execOp,M,iE I hx,Z]) ?_;rw[O];refine hn _ _ ?_;have a4:=grownCap_ge w H.size 0 E;have a2:(Lib.bytesCells w E H).size=grownCap w H.size 0 E:=by
    simp only[Lib.bytesCells,DZ,Array.size_map,Array.size_replicate];show H.size+_=_;omega
   refine I.putOwn hV (by rw[Lib.bytesWorld_size];omega) (by simp[Lib.bytesWorld,Da,Dm,Du,-DO,-DS]) (by simp[Lib.bytesWorld,Da,Dm,Du,-DO,-DS]) (by simp[Lib.bytesWorld,Da,Dm,Du,-DO,-DS])
    (λk hk=>Lib.bytesWorld_at_old w E H k (I.used_lt k hk)) d (J d O).1 (J d O).2 _ (CA _) (bs:=[w.heap.size])
    ⟨by simp,(eA H).map (Value.int .u8),λ_=>[],⟨by rw[Cx];exact (DN _).symm,.inr ⟨w.heap.size,_,_,_,by rw[hc],Lib.bytesWorld_at_new w E H,by rw[hc];exact a4,.inr ⟨a0,CI _⟩,by rw[a2];exact DA (DN _),?_⟩⟩,by simp[CQ],λj x hj=>?_⟩ (λk hk hu=>?_)
   ·simp only[Lib.bytesCells,DR,Di,Ty.cells,DN,eA,Db];exact List.take_left' (by simp)
   ·refine⟨[.int .u8 x],⟨rfl,rfl⟩,λi u hi=>?_⟩
    match i,hi with
    |0,hi =>
     simp only[Cp,BV]at hi;subst hi;simp[Ty.cells,hj]
   ·simp at hk;have:=I.used_lt k hu;omega
  ·cases h
 ·cases h
theorem si (hV:ay V)(hT:TOk P T)(Y:bP V o){t:TypeId}{n c:Operand}(a0:o.op=.makeSlice t n c)(h:act Γ T o st κ=some r):bY P V o st κ r:=by
 simp only[act,wrU,a0]at h;split at h
 ·rename_i E e H k1 m k2 m' ht a1 b1;cases hb:decide (0<=m)&&decide (m=m')&&decide (m*H<=(an:Int)) with
  |false=>simp[hb]at h
  |true =>
   simp only[hb,cond_true]at h;simp only[BX,decide_eq_true_eq]at hb;obtain⟨⟨h0,rfl⟩,b2⟩:=hb;split at h
   ·rename_i d hd;refine⟨_,h,λW a w O next Q hn=>?_⟩;have h1:=hT t;rw[ht]at h1;obtain⟨hu,_,_,bb,b0,ti,z,a3,a9,a6,hz,X⟩:=h1;have hm:(m.toNat:Int)=m:=by omega
    have J:m.toNat*H<=an:=by
     have:((m.toNat*H:Nat):Int)<=(an:Int):=by rw[Int.natCast_mul,hm];exact b2
     omega
    have bl:m.toNat*1<=m.toNat*H:=Cz _ b0.1;simp only[an]at J;have b9:=mA;obtain⟨w',I,b3,y⟩:=run_make_full (P:=P) w 0 t E ti z e.cells hu a3 hz a9 k1 k2 m.toNat (by rw[a6,DD];omega) (by omega) (Dl _);rw[hm]at I;refine dY (v:=.slice (some ⟨w.heap.size,0,none⟩) m.toNat m.toNat) (w':=w') (by simp[execOp,a0,bF O a1,bF O b1,I]) ?_;rw[hd];refine hn _ _ ?_;have b4:z.cells.size=e.cells:=by
     have h2:=(lM w (λ_=>False) e).len;rw[<- CV,X,h2]
    refine O.putOwn hV y.size y.os y.tape y.output (λk hk=>y.block k (O.used_lt k hk) (by simp)) d (Y d hd).1 (Y d hd).2 _ (CA _) (bs:=[w.heap.size])
     ⟨by simp,_,λ_=>[],by rw[DJ];exact Row.of b3,by simp[CQ],λj x M=>?_⟩ (λk hk hu=>?_)
    ·rw[Cq]at M;split at M
     ·rename_i a4;simp at M;subst M;refine⟨_,qN w' _ e 0,λi u hi=>?_⟩;have a2:i<e.cells:=by rw[<- (lM w' (λ_=>False) e).len];exact (BY.1 hi).1
      have Z:(j+1)*e.cells<=m.toNat*e.cells:=CB _ a4;rw[CX]at Z;have b5:j*e.cells+i<m.toNat*e.cells:=by omega
      have e2:(j*e.cells+i) % e.cells=i:=by rw[DD,Dp,Dh a2]
      have a5:z.cells[i]?=some u:=by rw[<- DK,X];exact hi
      obtain⟨ba,ad⟩:=Array.getElem?_eq_some_iff.1 a5;simp only[madeCells,DK,Array.getElem?_map,Array.getElem?_range,b5,if_true,Dq,b4,e2];rw[getElem!_pos z.cells i (by omega),ad]
     ·cases M
    ·simp at hk;have:=O.used_lt k hu;omega
   ·cases h
 ·cases h
theorem uN (n u:Nat)(z:n<=u)(k y:IntKind)(w:World):(Dc true n u none (some (.int k n)) (some (.int y n))).run P w=.ok (0,n,n) w:=by
 simp[Dc,Instr.sliceBound,asIntOf,z]
theorem wD (hV:ay V)(hT:TOk P T)(a3:bP V o){t:TypeId}{x m:Operand}{lo hi:Option Operand}(a5:o.op=.slice t x lo hi (some m))(h:act Γ T o st κ=some r):bY P V o st κ r:=by
 simp only[act,wrU,a5]at h;cases hd:o.dst with
 |none=>simp[hd]at h
 |some d =>
  simp only[hd]at h;split at h
  ·rename_i E' e' c5 O j v ht hx;split at h
   ·rename_i p E e J hdr;split at h
    ·rename_i hh k c1 b2;cases hb:hi.isSome&&decide (hh=(J.length:Int))&&decide (k=(J.length:Int))&&CH e'.cells e.cells with
     |false=>rw[hb]at h;cases h
     |true =>
      rw[hb]at h;simp only[cond_true]at h;simp only[BX,decide_eq_true_eq]at hb;obtain⟨⟨⟨Z,rfl⟩,rfl⟩,Y⟩:=hb;have Y:=B6 Y;refine⟨_,h,λW a w hr next Q hn=>?_⟩;have h1:=hT t;rw[ht]at h1;obtain⟨hu,_,_,_,_,ti,z,bb,c6,_⟩:=h1;obtain⟨a6,_,_,_,_⟩:=bt hr x (by rw[hx];simp);rw[hx]at a6;obtain⟨h8,a1,bx,cc⟩:=km hr hdr a6;obtain⟨y,hy,k1,c0⟩:∃ y,hi=some y/\∃ k1,a.eval y=.int k1 J.length:=by
       rcases mV hr c1 with ⟨I,_⟩|⟨y,k1,I,H⟩
       ·rw[I]at Z;cases Z
       ·exact⟨y,I,k1,H⟩
      obtain⟨k2,b0⟩:∃ k2,a.eval m=.int k2 J.length:=by
       rcases mV hr b2 with ⟨I,_⟩|⟨y,k2,I,H⟩
       ·cases I
       ·cases I;exact⟨k2,H⟩
      obtain⟨A,b9,hv,a0⟩:=a1.slice;have hE:=dv (P:=P) (t:=E') (n:=e.cells) (by simp[bS,bb,c6,Y]) w;have a2:(if J.length=0 then A else A.map λx=>x.add (0*e.cells))=A:=by
       cases A with
       |none=>simp
       |some ad =>
        have e0:ad.add 0=ad:=by simp[Addr.add]
        show (if J.length=0 then some ad else some (ad.add (0*e.cells)))=some ad;rw[Dd,e0];split <;> rfl
      refine dY (v:=.slice A J.length J.length) (w':=w) ?_ ?_
      ·simp only[execOp,a5,hv,hy,Dq,DH,c0,b0,Instr.sliceAt,Instr.slice,DY,run_underlying hu,C4,uN J.length b9 a0 k1 k2 w,hE,Sem.run_pure,DE,a2]
      ·rw[hd];refine hn _ _ ?_;rw[ck,aQ];have c3:∀ z∈[(O,j)],aB st z:=λz hz=>by simp at hz;subst hz;exact⟨_,bx,trivial⟩
       obtain⟨h6,_,_,u⟩:=fG (frz:=[]) (kill:=[(O,j)]) hV hr rfl c3;have e1:aM (ac (aE st []) st) [(O,j)]++aE st []=aM st [(O,j)]:=CO _;rw[e1]at h6 u;have b3:aZ W [(O,j)]=W.bs O j:=by simp[aZ]
       rw[b3]at u;obtain⟨b1,a4,b4,M,a9,b5⟩:=a1;refine h6.putOwn hV (w':=w) (CI _) rfl rfl rfl (λ_ _=>rfl) d (a3 d hd).1 (a3 d hd).2 _ (CA _) (bs:=W.bs O j) ?_ (λk hk=>mz ⟨(u k hk).1,(u k hk).2.1,(u k hk).2.2.2.1,(u k hk).2.2.2.2⟩);have bl:∀ k,gd V W p k->gd V (W.frz st []) p k:=bW (W':=W.frz st []) (λh=>h) (λ_ h=>Or.inl h);refine OwH.carry (G:=gd V W p) ⟨b1,a4,b4,⟨M.1,?_⟩,?_,b5⟩ bl (λ_ _=>rfl) (λ_ _=>rfl)
       ·rcases M.2 with ⟨X,I⟩|⟨g,cb,ba,mk,X,I,H,c2,bn,c4⟩
        ·rw[hv]at X;simp only[CU]at X;exact .inl ⟨by rw[X.1,I],I⟩
        ·rw[hv]at X;simp only[CU,true_and]at X;exact .inr ⟨g,J.length,ba,mk,by rw[X.1],I,CI _,c2.imp (λh=>⟨h.1,Cd H h.2⟩) id,Cd (CB _ H) bn,c4⟩
       ·rw[a9,hv];cases A <;> rfl
    ·cases h
   ·cases h
  ·cases h
theorem yh (z:ay V)(H:TOk P T)(y:bP V o){t:TypeId}{x:Operand}{J M I:Option Operand}(u:o.op=.slice t x J M I)(h:act Γ T o st κ=some r):bY P V o st κ r:=by
 cases I with
 |none=>exact vN z H y u h
 |some m=>exact wD z H y u h
theorem AP (Z:ay V)(J:bP V o){c:Call}(H:o.op=.call c)(O:c.callee=.builtin .min)(h:act Γ T o st κ=some r):bY P V o st κ r:=by
 simp only[act,wrU,H,O]at h;split at h
 ·cases h
 ·rename_i d M;simp only[M]at h;split at h
  ·rename_i x y hx;split at h
   ·rename_i Y m k2 n X hn;have u:c.args=#[x,y]:=by rw[<- CR (xs:=c.args),hx]
    refine⟨_,h,λW a w I=>aN Z I M J (v:=.int Y (bif decide (n<m) then n else m)) ?_ rfl id rfl⟩;cases z:decide (n<m) <;> simp[execOp,H,O,resolve,invoke,builtin,u,bF I X,bF I hn,Builtin.min_,Builtin.min2] <;> simp at z <;> omega
   ·cases h
  ·cases h
theorem AQ (Z:ay V)(J:bP V o){c:Call}(H:o.op=.call c)(O:c.callee=.builtin .max)(h:act Γ T o st κ=some r):bY P V o st κ r:=by
 simp only[act,wrU,H,O]at h;split at h
 ·cases h
 ·rename_i d M;simp only[M]at h;split at h
  ·rename_i x y hx;split at h
   ·rename_i Y m k2 n X hn;have u:c.args=#[x,y]:=by rw[<- CR (xs:=c.args),hx]
    refine⟨_,h,λW a w I=>aN Z I M J (v:=.int Y (bif decide (m<n) then n else m)) ?_ rfl id rfl⟩;cases z:decide (m<n) <;> simp[execOp,H,O,resolve,invoke,builtin,u,bF I X,bF I hn,Builtin.max_,Builtin.max2] <;> simp at z <;> omega
   ·cases h
  ·cases h
end
section
variable {P:Program} {V:Env} {W:Wit} {st st':St} {w w':World} {a:Act}
theorem ap.putGhost (hV:ay V)(h:ap P V W st a w)(d:Nat)(hd:GH<=d)(a4:d<B0)(n:Nat)(sh:aG)(ls:List Leaf)
  (R:List Value) (I:Nat->List Nat) (hn:(st d).ver<n) (hl:ls.length=R.length) (h1:∀ u∈R,u.oneCell'=true)
  (a1:∀ (j:Nat) (l:Leaf) (u:Value),ls[j]?=some l->R[j]?=some u->aI P V W st w (I j) l u)
  (a0:∀ (j:Nat) (l:Leaf),ls[j]?=some l->ao l->∀ k∈I j,¬ W.nw k/\¬ V.prot k/\(∀ b,live st b->W.β b≠k) /\
   ∀ (r1 j1:Nat) (l1:Leaf),r1≠d->(st r1).ls[j1]?=some l1->ao l1->k∉W.bs r1 j1)
  (a2:∀ (j j':Nat) (l l':Leaf),ls[j]?=some l->ao l->ls[j']?=some l'->ao l'->∀ k,k∈I j->k∈I j'->j=j') :
  ap P V { W with cs:=λr=>if r=d then R else W.cs r,bs:=λr j=>if r=d then I j else W.bs r j } (ac [(d,⟨n,sh,ls⟩)] st) a w /\
   cE V W { W with cs:=λr=>if r=d then R else W.cs r,bs:=λr j=>if r=d then I j else W.bs r j } st (ac [(d,⟨n,sh,ls⟩)] st) w w:=by
 have O:∀ b,live (ac [(d,⟨n,sh,ls⟩)] st) b<->live st b:=by
  intro b;by_cases Y:B0<=b
  ·rw[live,live,aH (by omega)]
  ·simp[live,Y]
 have M:cE V W { W with cs:=λr=>if r=d then R else W.cs r,bs:=λr j=>if r=d then I j else W.bs r j } st (ac [(d,⟨n,sh,ls⟩)] st) w w:=by
  refine⟨λq=>?_,λb Y=>⟨(O b).2 Y,rfl⟩,λ_ h=>h,λ_ _=>rfl,λ_ q j' l' J h4 h5=>?_⟩
  ·rcases am d q ⟨n,sh,ls⟩ st with ⟨rfl,e⟩|⟨y,e⟩
   ·rw[e];exact⟨Nat.le_of_lt hn,λe=>absurd e (by show n≠_;omega)⟩
   ·rw[e];exact⟨CI _,λ_=>by simp[y]⟩
  ·rcases am d q ⟨n,sh,ls⟩ st with ⟨rfl,e⟩|⟨y,e⟩
   ·rw[e]at h5;exact absurd h5 (by show n≠_;omega)
   ·rw[e]at J;exact⟨⟨l',J,h4⟩,by simp[y],λ_ _=>rfl⟩
 refine⟨?_,M⟩
 exact {
  nt:=h.nt,df:=h.df
  slots:=λt ht=>by
   have:t≠d:=by omega
   rw[aH this];simpa[this]using h.slots t ht
  boxes:=λb Y=>by
   have:b≠d:=by omega
   rw[aH this];simpa[this]using h.boxes b Y
  len:=λq=>by
   rcases am d q ⟨n,sh,ls⟩ st with ⟨rfl,e⟩|⟨y,e⟩
   ·rw[e];simpa using hl
   ·rw[e];simpa[y]using h.len q
  one:=λq u hu=>by
   by_cases hq:q=d
   ·simp only[hq,if_true]at hu;exact h1 u hu
   ·simp only[hq,if_false]at hu;exact h.one q u hu
  leaf:=λq j l u z J=>by
   rcases am d q ⟨n,sh,ls⟩ st with ⟨rfl,e⟩|⟨y,e⟩
   ·rw[e]at z;simp only[if_true]at J;exact (a1 j l u z J).carry hV.ro M (λ_=>⟨by simp,λ_ _=>rfl⟩)
   ·rw[e]at z;simp only[y,if_false]at J;exact (h.leaf q j l u z J).carry hV.ro M (λ_=>⟨by simp[y],λ_ _=>rfl⟩)
  ownb:=λq j l z J k X=>by
   rcases am d q ⟨n,sh,ls⟩ st with ⟨rfl,e⟩|⟨y,e⟩
   ·rw[e]at z;simp only[if_true]at X;have:=a0 j l z J k X;exact⟨this.1,this.2.1,λb Y=>this.2.2.1 b ((O b).1 Y)⟩
   ·rw[e]at z;simp only[y,if_false]at X;have:=h.ownb q j l z J k X;exact⟨this.1,this.2.1,λb Y=>this.2.2 b ((O b).1 Y)⟩
  sep:=λq j l q' j' l' z J h4 h5 k X H=>by
   rcases am d q ⟨n,sh,ls⟩ st with ⟨e0,e⟩|⟨y,e⟩ <;> rcases am d q' ⟨n,sh,ls⟩ st with ⟨e1,e'⟩|⟨Z,e'⟩
   ·rw[e]at z;rw[e']at h4;simp only[e0,if_true]at X;simp only[e1,if_true]at H;exact⟨e0.trans e1.symm,a2 j j' l l' z J h4 h5 k X H⟩
   ·rw[e]at z;rw[e']at h4;simp only[e0,if_true]at X;simp only[Z,if_false]at H;exact absurd H ((a0 j l z J k X).2.2.2 q' j' l' Z h4 h5)
   ·rw[e]at z;rw[e']at h4;simp only[y,if_false]at X;simp only[e1,if_true]at H;exact absurd X ((a0 j' l' h4 h5 k H).2.2.2 q j l y z J)
   ·rw[e]at z;rw[e']at h4;simp only[y,if_false]at X;simp only[Z,if_false]at H;exact h.sep q j l q' j' l' z J h4 h5 k X H
  box:=λb Y=>h.box b ((O b).1 Y)
  inj:=λb b' Y a3=>h.inj b b' ((O b).1 Y) ((O b').1 a3)
  nwlt:=h.nwlt
  os:=h.os,tape:=h.tape,output:=h.output,size:=h.size,keep:=h.keep
  fixb:=λx hx=>⟨(O _).2 (h.fixb x hx).1,(h.fixb x hx).2⟩
  fixt:=h.fixt }
theorem gD {off:Nat}:∀ {a:Ty} {pos:Nat} {x:a.den} {u:(E:TypeId)×(e:Ty)×List e.den},bf off a pos x=some u->pos<=off/\off<pos+a.cells
 |.pair a b,pos,x,u,h=>by
  simp only[bf]at h;split at h
  ·rename_i v y;have:=gD y;simp only[Ty.cells];omega
  ·have:=gD h;simp only[Ty.cells];omega
 |.list m E e,pos,z,u,h=>by
  simp only[bf]at h;cases r:m&&CH pos off with
  |false=>simp[r]at h
  |true =>
   simp only[BX]at r;have:=B6 r.2;simp only[Ty.cells];omega
 |.int _,_,_,_,h=>by simp[bf]at h
 |.bool,_,_,_,h=>by simp[bf]at h
 |.str,_,_,_,h=>by simp[bf]at h
 |.unit,_,_,_,h=>by simp[bf]at h
 |.hdr,_,_,_,h=>by simp[bf]at h
theorem nm {off:Nat}:∀ {a:Ty} {pos:Nat} {x:a.den} {E:TypeId} {e:Ty} {u:List e.den},bf off a pos x=some ⟨E,e,u⟩->e.shy=true->a.shy=true
 |.pair a b,pos,x,E,e,u,h,r=>by
  simp only[bf]at h;simp only[Ty.shy,Dr];split at h
  ·rename_i v z;simp only[BV]at h;subst h;exact .inl (nm z r)
  ·exact .inr (nm h r)
 |.list m H I,pos,J,E,e,u,h,r=>by
  simp only[bf]at h;cases y:m&&CH pos off with
  |false=>simp[y]at h
  |true =>
   rw[y]at h;simp only[cond_true,BV,Sigma.mk.injEq]at h;obtain⟨rfl,h⟩:=h;rw[heq_eq_eq,Sigma.mk.injEq]at h;obtain⟨rfl,_⟩:=h;simp[Ty.shy,r]
 |.int _,_,_,_,_,_,h,_=>by simp[bf]at h
 |.bool,_,_,_,_,_,h,_=>by simp[bf]at h
 |.str,_,_,_,_,_,h,_=>by simp[bf]at h
 |.unit,_,_,_,_,_,h,_=>by simp[bf]at h
 |.hdr,_,_,_,_,_,h,_=>by simp[bf]at h
theorem Mx.hol_out {G:Nat->Prop}{o:Nat}:∀ {a:Ty} {pos:Nat} {x:a.den} {cs:List Value} {bs:List Nat},(o<pos\/pos+a.cells<=o)->(Mx w G a none pos x cs bs<->Mx w G a (some o) pos x cs bs)
 |.int _,_,_,_,_,_=>DC
 |.bool,_,_,_,_,_=>DC
 |.str,_,_,_,_,_=>DC
 |.unit,_,_,_,_,_=>DC
 |.hdr,_,_,_,_,_=>DC
 |.pair a b,pos,x,cs,bs,r=>by
  simp only[Ty.cells]at r;constructor
  ·rintro⟨c1,c2,b1,b2,e1,e2,h1,h2⟩;exact⟨c1,c2,b1,b2,e1,e2,(Mx.hol_out (by omega)).1 h1,(Mx.hol_out (by omega)).1 h2⟩
  ·rintro⟨c1,c2,b1,b2,e1,e2,h1,h2⟩;exact⟨c1,c2,b1,b2,e1,e2,(Mx.hol_out (by omega)).2 h1,(Mx.hol_out (by omega)).2 h2⟩
 |.list m E e,pos,u,cs,bs,r=>by
  simp only[Ty.cells]at r;cases m with
  |false=>rw[co,co]
  |true=>rw[bJ (by simp),bJ (by simp only[ne_eq,BV];omega)]
theorem Mx.out {G:Nat->Prop}{off:Nat}{E:TypeId}{e:Ty}{ys:List e.den}:∀ {a:Ty} {pos:Nat} {x:a.den} {cs:List Value} {bs:List Nat},Mx w G a none pos x cs bs->bf off a pos x=some ⟨E,e,ys⟩ ->
  ∃ v z r,OwB w G none E e ys v z/\cs[off-pos]?=some v/\Mx w G a (some off) pos x cs r/\∀ k,bs.count k=r.count k+z.count k
 |.pair a b,pos,x,cs,bs,⟨c1,c2,b1,b2,J,e2,X,h2⟩,h=>by
  have hl:=X.len;simp only[bf]at h;split at h
  ·rename_i u M;simp only[BV]at h;subst h;have Y:=gD M;obtain⟨v,z,r,g1,Z,R,O⟩:=Mx.out X M;refine⟨v,z,r++b2,g1,?_,⟨c1,c2,r,b2,J,rfl,R,(Mx.hol_out (by omega)).1 h2⟩,λk=>?_⟩
   ·rw[J,B5 (by omega)];exact Z
   ·rw[e2,B3,B3,O k];omega
  ·rename_i M;have Y:=gD h;obtain⟨v,z,r,g1,Z,R,O⟩:=Mx.out h2 h;refine⟨v,z,b1++r,g1,?_,⟨c1,c2,b1,r,J,rfl,(Mx.hol_out (by omega)).1 X,R⟩,λk=>?_⟩
   ·rw[J,B4 (by omega),hl,show off-pos-a.cells=off-(pos+a.cells) by omega];exact Z
   ·rw[e2,B3,B3,O k];omega
 |.list m E' e',pos,xs,cs,bs,H,h=>by
  simp only[bf]at h;cases y:m&&CH pos off with
  |false=>simp[y]at h
  |true =>
   rw[y]at h;simp only[cond_true,BV,Sigma.mk.injEq]at h;obtain⟨rfl,h⟩:=h;simp only[BX]at y;obtain⟨rfl,y⟩:=y;have y:=B6 y;subst y;rw[heq_eq_eq,Sigma.mk.injEq]at h;obtain⟨rfl,h⟩:=h;rw[heq_eq_eq]at h;subst h;have I:=H.one;rw[bJ (by simp)]at H;obtain⟨v,rfl,hO⟩:=H;exact⟨v,bs,[],hO,by simp,jd.2 ⟨v,rfl,I v (by simp),rfl⟩,λk=>by simp⟩
 |.int _,_,_,_,_,_,h=>by simp[bf]at h
 |.bool,_,_,_,_,_,h=>by simp[bf]at h
 |.str,_,_,_,_,_,h=>by simp[bf]at h
 |.unit,_,_,_,_,_,h=>by simp[bf]at h
 |.hdr,_,_,_,_,_,h=>by simp[bf]at h
theorem Mx.back {G:Nat->Prop}{off:Nat}{E:TypeId}{e:Ty}{X:List e.den}{v:Value}{bn:List Nat}(Y:OwB w G none E e X v bn):∀ {a:Ty} {pos:Nat} {x z:a.den} {cs:List Value} {I:List Nat},Mx w G a (some off) pos x cs I->bO off E e X a pos x=some z ->
  cs[off-pos]?=some v->∃ O,Mx w G a none pos z cs O/\∀ k,O.count k=I.count k+bn.count k
 |.pair a b,pos,x,z,cs,O,⟨c1,c2,b1,b2,M,e2,R,h2⟩,h,J=>by
  have hl:=R.len;simp only[bO]at h;split at h
  ·rename_i u y;simp only[BV]at h;subst h;have Z:=set_in y;obtain⟨I,g1,g2⟩:=Mx.back Y R y (by rw[M,B5 (by omega)]at J;exact J);refine⟨I++b2,⟨c1,c2,I,b2,M,rfl,g1,(Mx.hol_out (by omega)).2 h2⟩,λk=>?_⟩;rw[e2,B3,B3,g2 k];omega
  ·rename_i y;simp only[BW]at h;obtain⟨u,y,rfl⟩:=h;have Z:=set_in y;obtain⟨I,g1,g2⟩:=Mx.back Y h2 y (by
    rw[M,B4 (by omega),hl]at J;rw[show off-(pos+a.cells)=off-pos-a.cells by omega];exact J)
   refine⟨b1++I,⟨c1,c2,b1,I,M,rfl,(Mx.hol_out (by omega)).2 R,g1⟩,λk=>?_⟩;rw[e2,B3,B3,g2 k];omega
 |.list m E' e',pos,xs,z,cs,O,H,h,J=>by
  simp only[bO]at h;cases r:m&&CH pos off with
  |false=>simp[r]at h
  |true =>
   rw[r]at h;simp only[cond_true]at h;obtain⟨rfl,rfl,rfl⟩:=jL h;simp only[BX]at r;obtain⟨rfl,r⟩:=r;have r:=B6 r;subst r;rw[jd]at H;obtain⟨v',rfl,R,rfl⟩:=H;simp only[Nat.sub_self,Cp,BV]at J;subst J;exact⟨bn,(bJ (by simp)).2 ⟨v',rfl,Y⟩,λk=>by simp⟩
 |.int _,_,_,_,_,_,_,h,_=>by simp[bO]at h
 |.bool,_,_,_,_,_,_,h,_=>by simp[bO]at h
 |.str,_,_,_,_,_,_,h,_=>by simp[bO]at h
 |.unit,_,_,_,_,_,_,h,_=>by simp[bO]at h
 |.hdr,_,_,_,_,_,_,h,_=>by simp[bO]at h
where
 set_in {off:Nat} {E:TypeId} {e:Ty} {X:List e.den}:∀ {a:Ty} {pos:Nat} {x z:a.den},bO off E e X a pos x=some z->pos<=off/\off<pos+a.cells
  |.pair a b,pos,x,z,h=>by
   simp only[bO]at h;split at h
   ·rename_i u y;have:=set_in y;simp only[Ty.cells];omega
   ·simp only[BW]at h;obtain⟨u,y,_⟩:=h;have:=set_in y;simp only[Ty.cells];omega
  |.list m E' e',pos,xs,z,h=>by
   simp only[bO]at h;cases r:m&&CH pos off with
   |false=>simp[r]at h
   |true =>
    simp only[BX]at r;have:=B6 r.2;simp only[Ty.cells];omega
  |.int _,_,_,_,h=>by simp[bO]at h
  |.bool,_,_,_,h=>by simp[bO]at h
  |.str,_,_,_,h=>by simp[bO]at h
  |.unit,_,_,_,h=>by simp[bO]at h
  |.hdr,_,_,_,h=>by simp[bO]at h
end
section
variable {P:Program} {V:Env} {W W' W2:Wit} {st st' st2:St} {w w' w2:World} {a:Act}
theorem cE.trans (h:cE V W W' st st' w w')(u:cE V W' W2 st' st2 w' w2):cE V W W2 st st2 w w2:=by
 refine⟨λr=>⟨Cd (h.ver r).1 (u.ver r).1,λe=>?_⟩,λb Z=>?_,λk y=>u.nw k (h.nw k y),λk y=>?_,λhe r j l z H J=>?_⟩
 ·have z:=(h.ver r).1;have H:=(u.ver r).1;rw[(u.ver r).2 (by omega),(h.ver r).2 (by omega)]
 ·obtain⟨z,H⟩:=h.box b Z;obtain⟨J,O⟩:=u.box b z;exact⟨J,O.trans H⟩
 ·rw[u.heap k (y.imp (h.nw k) id),h.heap k y]
 ·have e1:=(h.ver EPO).1;have e2:=(u.ver EPO).1;have e3:=(h.ver r).1;have e4:=(u.ver r).1;obtain⟨⟨Y,g1,g2⟩,X,M⟩:=u.epo (by omega) r j l z H (by omega);obtain⟨g5,I,R⟩:=h.epo (by omega) r j Y g1 g2 (by omega);exact⟨g5,X.trans I,λk y=>(M k (by rw[I];exact y)).trans (R k y)⟩
theorem qP {n i:Nat}(H:i<n)(r:Nat->List Nat)(b y:List Nat)(z:∀ k,(r i).count k=b.count k+y.count k)(u:List Nat)(k:Nat) :
  (u++(CC n).flatMap r).count k=(u++(CC n).flatMap λj=>if j=i then b else r j).count k+y.count k:=by
 have:=kv H r b k;have:=z k;rw[B3,B3];omega
theorem OwH.out {G:Nat->Prop}{E E1:TypeId}{e e1:Ty}{xs:List e.den}{v:Value}{bs:List Nat}{i off:Nat}{y:e.den}{ys:List e1.den}(H:Ow w G E e xs v bs)(hy:xs[i]?=some y)(hg:bf off e 0 y=some ⟨E1,e1,ys⟩) :
  ∃ u X O,OwH w G (some (i,off)) E e xs v O/\Ow w G E1 e1 ys u X/\(∀ g Y,v=.slice (some ⟨g,0,none⟩) xs.length Y->w.cell? ⟨g,i*e.cells+off,none⟩=some u)/\∀ k,bs.count k=O.count k+X.count k:=by
 obtain⟨a0,R,I,h1,h2,h3⟩:=H;have M:i<xs.length:=(BY.1 hy).1;obtain⟨c,hm,hc⟩:=h3 i y hy;have hm:Mx w G e none 0 y c (I i):=hm;obtain⟨u,X,b',g1,g2,g3,g4⟩:=hm.out hg;have r:=qP M I b' X g4 v.ownBlock.toList;rw[<- h2]at r;have z:=bu.1 a0;refine⟨u,X,v.ownBlock.toList++(CC xs.length).flatMap λj=>if j=i then b' else I j,⟨bu.2 λk=>by have:=z k;have:=r k;omega,R,_,h1,rfl,λj x Z=>?_⟩,
  ⟨bu.2 λk=>by have:=z k;have:=r k;omega,g1⟩,λg Y hv=>?_,r⟩
 ·by_cases J:j=i
  ·subst J;rw[hy]at Z;simp only[BV]at Z;subst Z;refine⟨c,?_,hc⟩;simp only[cP,Nat.beq_refl,cond_true,if_true];exact g3
  ·obtain⟨c',h4,h5⟩:=h3 j x Z;refine⟨c',?_,h5⟩;have:CH i j=false:=by
    cases hb:CH i j with
    |false=>rfl
    |true=>exact absurd (B6 hb).symm J
   simp only[cP,this,cond_false,if_neg J];exact h4
 ·subst hv;have a2:=gD hg;have a1:i*e.cells+off<xs.length*e.cells:=by
   have:=CB e.cells (show i+1<=xs.length from M);rw[C5,Nat.one_mul]at this;omega
  rw[h1.cellAt _ a1];exact hc off u (by simpa using g2)
theorem OwH.back {G:Nat->Prop}{E E1:TypeId}{e e1:Ty}{xs:List e.den}{v u:Value}{bs bn:List Nat}{i off:Nat}{y z:e.den}{ys:List e1.den}(H:OwH w G (some (i,off)) E e xs v bs)(hn:Ow w G E1 e1 ys u bn)
  (hd:∀ k∈bn,k∉bs) (hy:xs[i]?=some y) (hs:bO off E1 e1 ys e 0 y=some z) (J:∀ g M,v=.slice (some ⟨g,0,none⟩) xs.length M->w.cell? ⟨g,i*e.cells+off,none⟩=some u) :
  ∃ Y,Ow w G E e (xs.set i z) v Y/\∀ k,Y.count k=bs.count k+bn.count k:=by
 obtain⟨a2,Z,a1,h1,h2,h3⟩:=H;have X:i<xs.length:=(BY.1 hy).1;obtain⟨c,hm,hc⟩:=h3 i y hy;have a0:cP (some (i,off)) i=some off:=by simp[cP]
 rw[a0]at hm;have a6:=Mx.back.set_in hs;have a5:=hm.len;have I:c[off-0]?=some u:=by
  rcases h1.2 with ⟨rfl,h0⟩|⟨g,M,a4,_,rfl,_⟩
  ·omega
  ·have O:=J g M rfl;have a3:i*e.cells+off<xs.length*e.cells:=by
    have:=CB e.cells (show i+1<=xs.length from X);rw[C5,Nat.one_mul]at this;omega
   rw[h1.cellAt _ a3]at O;have h5:off<c.length:=by omega
   have h6:=hc off _ (CG h5);rw[O]at h6;rw[DE,CG h5,h6]
 obtain⟨b1,g1,g2⟩:=Mx.back hn.2 hm hs I;have r:∀ k,(v.ownBlock.toList++(CC xs.length).flatMap λj=>if j=i then b1 else a1 j).count k=bs.count k+bn.count k:=by
  intro k;have O:=kv X a1 b1 k;have h5:=g2 k;rw[h2,B3,B3];omega
 refine⟨_,⟨(nl a2 hn.1 hd (λk=>DA (r k))).1,Z,_,by rw[Ch];exact h1,by rw[Ch],λj x hj=>?_⟩,r⟩;rcases aS _ _ _ _ _ hj with ⟨rfl,rfl,_⟩|⟨R,hj⟩
 ·refine⟨c,?_,hc⟩;simp only[if_true];exact g1
 ·obtain⟨c',O,h5⟩:=h3 j x hj;refine⟨c',?_,h5⟩;have:CH i j=false:=by
   cases hb:CH i j with
   |false=>rfl
   |true=>exact absurd (B6 hb).symm R
  have e0:cP (some (i,off)) j=none:=by simp[cP,this]
  rw[e0]at O;simp only[if_neg R];exact O
theorem i8:GH<=TMP/\TMP<B0/\TMP≠EPO:=by decide
def tK (W:Wit)(S:St)(w:World)(r j:Nat)(v:Value):Prop :=
 r≠TMP/\r≠EPO/\∃ (i off:Nat) (p:Bool) (E:TypeId) (e:Ty) (y:List e.den) (g u:Nat),(S r).ls[j]?=some (.own p (some (i,off)) E e y)/\(W.cs r)[j]?=some (.slice (some ⟨g,0,none⟩) y.length u) /\
  g∈W.bs r j/\w.cell? ⟨g,i*e.cells+off,none⟩=some v
theorem vp (hV:ay V)(h:ap P V W st a w){l l':Leaf}{U:Upd}{v:Value}(Z:aI P V W st w [] l v)(I:cl st l=some (U,l')) :
  ∃ W0 n p0 E0 e0 c4,ap P V W0 (ac U st) a w/\cE V W W0 st (ac U st) w w/\l'=.al TMP 0 n/\aI P V W0 (ac U st) w [] l' v/\(ac U st TMP).ver=n/\(ac U st TMP).ls=[.own p0 none E0 e0 c4] /\
   W0.nw=W.nw/\W0.β=W.β/\(∀ q,q≠TMP->W0.cs q=W.cs q)/\W0.cs TMP=[v]/\(∀ q,(ac U st q).sh=(st q).sh\/q=TMP)/\tK W0 (ac U st) w (ke l).1 (ke l).2 v:=by
 cases l with
 |nal p ks ep cp E e xs =>
  simp only[cl]at I;cases a6:br st ks ep with
  |false=>simp[a6]at I
  |true =>
   rw[a6]at I;simp only[cond_true]at I;split at I
   ·rename_i r j n0 i sz off;split at I
    ·rename_i M X J z hg;cases hb:!CH r TMP&&!CH r EPO&&CH sz J.cells with
     |false=>simp[hb]at I
     |true =>
      rw[hb]at I;simp only[cond_true]at I;simp only[BX,CM]at hb;obtain⟨⟨bx,c2⟩,b0⟩:=hb;have b0:=B6 b0;subst b0;have R:r≠TMP:=λe=>by subst e;simp at bx
      have b4:r≠EPO:=λe=>by subst e;simp at c2
      split at I
      ·rename_i y hy;split at I
       ·rename_i E1 e1 ys b9;simp only[BV,CY]at I;obtain⟨rfl,rfl⟩:=I;have ba:=pM a6 Z;obtain⟨r',j',n',b3,g,bl,b2,a4,cx,cu,O⟩:=ba.at_ i _ off rfl;simp only[Cy,CY,and_true]at b3;obtain⟨rfl,rfl,rfl⟩:=b3;have a3:(st r).ls[j]?=some (.own M none X J z):=by
         rw[Ca]at hg;cases H:(st r).ls[j]? with
         |none=>rw[H]at hg;simp at hg
         |some l0=>rw[H]at hg;simp at hg;rw[hg]
        have a1:=h.leaf r j _ _ a3 a4;have a1:Ow w (gd V W M) X J z _ (W.bs r j):=a1;have bb:bl=z.length:=by
         obtain⟨A,cb,e0,_⟩:=a1.slice;simp only[CU]at e0;exact e0.2.1
        subst bb;obtain⟨u,bn,bs',g1,g2,g3,g4⟩:=a1.out hy b9;have hu:u=v:=by
         have:=g3 g b2 rfl;rw[this]at O;exact Option.some.inj O
        subst hu;have c0:=bu.1 a1.1;have b5:∀ k∈bs',k∈W.bs r j:=λk hk=>B8.1 (by have:=g4 k;have:=B8.2 hk;omega)
        have a2:∀ k∈bn,k∈W.bs r j/\k∉bs':=λk hk=>by
         have h5:=g4 k;have h6:=B8.2 hk;have h7:=c0 k;refine⟨B8.1 (by omega),λc5=>?_⟩;have:=B8.2 c5;omega
        have a0:∀ k∈W.bs r j,vo V W st r j k:=λk hk=>by
         have h9:=h.ownb r j _ a3 trivial k hk;exact⟨h9.1,h9.2.1,h9.2.2,λr1 i1 l1 b1 a9 a5 Y=>a5 (by obtain⟨e1,e2⟩:=h.sep r1 i1 l1 r j _ b1 a9 a3 trivial k Y hk;rw[e1,e2])⟩
        have hR:yd st (ac [(r,⟨(st r).ver,(st r).sh,aT (st r).ls j (.own M (some (i,off)) X J z)⟩)] (ac [(EPO,bX (st EPO))] st)) r j (.own M (some (i,off)) X J z):=by
         refine⟨λq=>?_,λq=>?_,?_,λq=>?_,λl Z=>?_,λq i' l H Z=>?_⟩
         ·rcases am r q ⟨(st r).ver,(st r).sh,aT (st r).ls j (.own M (some (i,off)) X J z)⟩ (ac [(EPO,bX (st EPO))] st) with ⟨rfl,e⟩|⟨_,e⟩
          ·rw[e]
          ·rw[e];rcases am EPO q (bX (st EPO)) st with ⟨rfl,e⟩|⟨_,e⟩ <;> rw[e];rfl
         ·rcases am r q ⟨(st r).ver,(st r).sh,aT (st r).ls j (.own M (some (i,off)) X J z)⟩ (ac [(EPO,bX (st EPO))] st) with ⟨rfl,e⟩|⟨_,e⟩
          ·rw[e];exact CI _
          ·rw[e];rcases am EPO q (bX (st EPO)) st with ⟨rfl,e⟩|⟨_,e⟩ <;> rw[e]
           ·exact Dk _
           ·exact CI _
         ·rw[aH (Cl b4),bm];exact CA _
         ·rcases am r q ⟨(st r).ver,(st r).sh,aT (st r).ls j (.own M (some (i,off)) X J z)⟩ (ac [(EPO,bX (st EPO))] st) with ⟨rfl,e⟩|⟨_,e⟩
          ·rw[e];simp[aT]
          ·rw[e];rcases am EPO q (bX (st EPO)) st with ⟨rfl,e⟩|⟨_,e⟩ <;> rw[e];rfl
         ·rw[bm]at Z;rcases aS _ _ _ _ _ Z with ⟨_,rfl,_⟩|⟨a5,_⟩
          ·rfl
          ·exact absurd rfl a5
         ·rcases am r q ⟨(st r).ver,(st r).sh,aT (st r).ls j (.own M (some (i,off)) X J z)⟩ (ac [(EPO,bX (st EPO))] st) with ⟨rfl,e⟩|⟨_,e⟩
          ·rw[e]at Z;rcases aS _ _ _ _ _ Z with ⟨rfl,_,_⟩|⟨_,Z⟩
           ·exact absurd rfl H
           ·exact Z
          ·rw[e]at Z;rcases am EPO q (bX (st EPO)) st with ⟨rfl,e⟩|⟨_,e⟩ <;> rw[e]at Z <;> exact Z
        have h1:=h.retell hV hR a3 trivial a4 trivial (bs':=bs') g1 (λk hk=>a0 k (b5 k hk)) (λ_ _ _=>rfl) (CI _) rfl rfl rfl;have c3:cE V W (W.tell r j bs') st (ac [(r,⟨(st r).ver,(st r).sh,aT (st r).ls j (.own M (some (i,off)) X J z)⟩)] (ac [(EPO,bX (st EPO))] st)) w w :=
         ⟨λq=>⟨hR.ver q,λ_=>rfl⟩,λb hb=>⟨(iF hR.sh b).2 hb,rfl⟩,λ_ h=>h,λ_ _=>rfl,λhe=>by have:=hR.epo;omega⟩
        have c6:(ac [(r,⟨(st r).ver,(st r).sh,aT (st r).ls j (.own M (some (i,off)) X J z)⟩)] (ac [(EPO,bX (st EPO))] st) TMP).ver=(st TMP).ver:=by
         rw[aH (Cl R),aH i8.2.2]
        obtain⟨h2,c1⟩:=h1.putGhost hV TMP i8.1 i8.2.1 ((st TMP).ver+1) .one [.own (M&&J.shy) none E1 e1 ys] [u] (λ_=>bn) (by rw[c6];exact CA _) rfl (λx hx=>by simp at hx;subst hx;exact g2.one)
         (λq l x H hx=>by
          cases q with
          |zero=>simp at H hx;subst H;subst hx;exact⟨g2.1,(OwB.shy g2.2).carry (bW (W':=W) (by intro hh;simp only[BX]at hh ⊢;exact⟨hh.1,nm b9 hh.2⟩) (λ_ h=>h)) (λ_ _=>rfl) (λ_ _=>rfl)⟩
          |succ q=>simp at H)
         (λq l H _ k hk=>by
          obtain⟨q1,q2,q3,q4⟩:=a0 k (a2 k hk).1;refine⟨q1,q2,λb hb=>q3 b ((iF hR.sh b).1 hb),λr1 i1 l1 _ b1 a9 Y=>?_⟩;by_cases H:(r1,i1)=(r,j)
          ·cases H;rw[show (W.tell r j bs').bs r j=bs' from if_pos rfl]at Y;exact (a2 k hk).2 Y
          ·rw[show (W.tell r j bs').bs r1 i1=W.bs r1 i1 from if_neg H]at Y;exact q4 r1 i1 l1 (hR.old r1 i1 l1 H b1) a9 H Y)
         (λq q' l l2 h1 h2 h3 h4 k h5 h6=>by
          have h7:q<1:=(BY.1 h1).1;have h8:q'<1:=(BY.1 h3).1;omega)
        have ad:ac [(r,⟨(st r).ver,(st r).sh,aT (st r).ls j (.own M (some (i,off)) X J z)⟩),(TMP,⟨(st TMP).ver+1,.one,[.own (M&&J.shy) none E1 e1 ys]⟩),(EPO,bX (st EPO))] st =
          ac [(TMP,⟨(st TMP).ver+1,.one,[.own (M&&J.shy) none E1 e1 ys]⟩)] (ac [(r,⟨(st r).ver,(st r).sh,aT (st r).ls j (.own M (some (i,off)) X J z)⟩)] (ac [(EPO,bX (st EPO))] st)):=by
         rw[aQ r,aQ TMP,nj R]
        rw[ad];refine⟨_,_,_,_,_,_,h2,c3.trans c1,rfl,⟨by rw[bm];exact CI _,λ_=>by simp⟩,by rw[bm],by rw[bm],rfl,rfl,λq H=>by simp[H,Wit.tell],by simp,λq=>?_,R,b4,i,off,M,X,J,z,g,b2,?_,?_,?_,O⟩
        ·by_cases H:q=TMP
         ·exact .inr H
         ·rw[aH H];exact .inl (hR.sh q)
        ·show (ac [(TMP,_)] _ r).ls[j]?=_;rw[aH R,bm];simp only[aT];rw[Cs (BY.1 a3).1]
        ·show (if r=TMP then _ else W.cs r)[j]?=_;rw[if_neg R];exact a4
        ·show g∈(if r=TMP then _ else (W.tell r j bs').bs r j);rw[if_neg R,show (W.tell r j bs').bs r j=bs' from if_pos rfl];obtain⟨_,cc,cw,_,q2,_⟩:=g1;rw[q2];simp[CQ]
       ·cases I
      ·cases I
    ·cases I
   ·cases I
 |_=>simp[cl]at I
theorem hY {R:Type}(l:Leaf)(J:Upd->Leaf->Option R):lT st l J=(cl st l).bind λu=>J u.1 u.2:=by
 cases l with
 |nal p X ep O E e xs =>
  simp only[lT,cl];cases br st X ep with
  |false=>rfl
  |true =>
   simp only[cond_true];split
   ·rename_i r j n i M off;split
    ·rename_i Z Y I z _;cases !CH r TMP&&!CH r EPO&&CH M I.cells with
     |false=>rfl
     |true =>
      simp only[cond_true];have H:idx z (i:Int)=z[i]?:=by
       unfold idx;rw[if_neg (by omega)];simp
      rw[H];cases z[i]? with
      |none=>rfl
      |some y =>
       simp only[Option.bind_some];cases bf off I 0 y with
       |none=>rfl
       |some u=>rfl
    ·rfl
   ·rfl
 |_=>rfl
end
theorem rJ {w:World}{α:Type}{s g:Nat}:∀ (M:List α) (o:Nat) (Q:Nat->α->List Value->Prop),(∀ j x c,Q j x c->c.length=s/\∀ u∈c,u.oneCell'=true)->(∀ (j:Nat) (x:α),M[j]?=some x->∃ c,Q j x c/\cW w g (o+j*s) c) ->
  ∃ r:List Value,r.length=M.length*s/\(∀ j u,r[j]?=some u->w.cell? ⟨g,o+j,none⟩=some u)/\(∀ u∈r,u.oneCell'=true) /\
   ∀ (j:Nat) (x:α),M[j]?=some x->∃ c,Q j x c/\∀ i u,c[i]?=some u->r[j*s+i]?=some u
 |[],o,_,_,_=>⟨[],by simp,by simp,by simp,by simp⟩
 |y::M,o,Q,hQ,h=>by
  obtain⟨c,hr,hc⟩:=h 0 y rfl;obtain⟨r,h1,h2,h3,h4⟩:=rJ M (o+s) (λj=>Q (j+1)) (λj=>hQ (j+1)) (λj x z=>by
   obtain⟨Z,I,H⟩:=h (j+1) x (by simpa using z);refine⟨Z,I,?_⟩;rw[CX]at H;have:o+s+j*s=o+(j*s+s):=by omega
   rw[this];exact H)
  obtain⟨R,X⟩:=hQ 0 y c hr;refine⟨c++r,by rw[CF,h1,R,C9,CX];omega,?_,?_,?_⟩
  ·intro j u z;by_cases a0:j<c.length
   ·rw[B5 a0]at z;have:=hc j u z
    rwa [Dd,Cb]at this
   ·rw[B4 (by omega)]at z;have:=h2 (j-c.length) u z;have e1:o+s+(j-c.length)=o+j:=by omega
    rwa [e1]at this
  ·intro u J;rcases B9.1 J with J|J
   ·exact X u J
   ·exact h3 u J
  ·intro j x z;cases j with
   |zero =>
    simp at z;subst z;refine⟨c,hr,λi u O=>?_⟩;have Y:=(BY.1 O).1;rw[Dd,Cm,B5 Y];exact O
   |succ j =>
    obtain⟨Z,I,H⟩:=h4 j x (by simpa using z);refine⟨Z,I,λi u O=>?_⟩;rw[CX,B4 (by omega)];rw[<- H i u O];congr 1;omega
theorem jT {P:Program}(g o:Nat)(t:TypeId)(mk:Nat×Nat):∀ (y:List Value) (i:Nat) (cur:Array Value) (w:World),w.heap[g]?=some (.cells cur t mk)->(mk.2=0\/cur.size<=mk.1)->o+i+y.length<=cur.size->(∀ v∈y,v.oneCell'=true) ->
  (storeCells ⟨g,o,none⟩ y i).run P w=.ok () (w.setRow g (cur.toList.take (o+i)++y++cur.toList.drop (o+i+y.length)).toArray)
 |[],i,cur,w,u,_,_,_=>by
  simp only[storeCells,CO,Cw,Cb,List.take_append_drop,CR];rw[setRow_self w g cur t mk u];rfl
 |v::r,i,cur,w,u,J,I,O=>by
  have M:o+i<cur.size:=by simp at I;omega
  have z:(⟨g,o,none⟩:Addr).add i=⟨g,o+i,none⟩:=by unfold Addr.add;split <;> simp_all
  have H:(store ((⟨g,o,none⟩:Addr).add i) v).run P w=.ok () (w.setRow g (cur.setIfInBounds (o+i) v)):=by
   rw[z,run_store P w _ v _ (O v (by simp)),cell_of_row w g _ cur t mk u,Array.getElem?_eq_getElem M];simp[rg u J M,setCell_eq_setRow w g (o+i) cur t mk v u]
  have X:=jT (P:=P) g o t mk r (i+1) (cur.setIfInBounds (o+i) v) (w.setRow g (cur.setIfInBounds (o+i) v)) (setRow_heap w g cur _ t _ u) (by simpa using J) (by simp at I ⊢;omega) (λx R=>O x (by simp[R]));simp only[storeCells,DY,H,C4,X,setRow_setRow];congr 3;have e:=list_seg_step cur.toList (o+i) v r (by simp at I ⊢;omega);simpa[Array.toList_setIfInBounds,Dx]using e
theorem nn {P:Program}(w:World)(t ty e:TypeId)(i:TypeInfo)(Z:P.underlying t=some (.slice e))(X:P.info? e=some i)
  (g y z:Nat) (cur:Array Value) (mk:Nat×Nat) (Y:w.heap[g]?=some (.cells cur e mk)) (O:mk.2=0\/cur.size<=mk.1)
  (a:Addr) (m c:Nat) (r:List Value) (R:r.length=m*i.size) (H:∀ j u,r[j]?=some u->w.cell? (a.add j)=some u) (h1:∀ u∈r,u.oneCell'=true)
  (I:y+m<=z) (M:y*i.size+r.length<=cur.size) :
  (CW #[t,t] ty #[.slice (some ⟨g,0,none⟩) y z,.slice (some a) m c]).run P w =
   .ok (.slice (some ⟨g,0,none⟩) (y+m) z) (w.setRow g (cur.toList.take (y*i.size)++r++cur.toList.drop (y*i.size+r.length)).toArray):=by
 have hf:=run_firstCells_some (P:=P) w i.size m a m c r R H;have J:=jT (P:=P) g (y*i.size) e mk r 0 cur w Y O (by simpa using M) h1;simp only[Cb]at J;simp[CW,run_underlying Z,sizeOf,typeInfo,X,C7,I,hf,Addr.add_lit,J]
theorem cf {P:Program}(w:World)(t ty e:TypeId)(i:TypeInfo)(z:Value)(size a0:Nat)(ht:P.underlying t=some (.slice e))(hi:P.info? e=some i)(hz:i.zero=some z)
  (a5:i.size=size) (b3:i.bytes=a0) (b4:z.cells.size=size)
  (v:Value) (n:Nat) (xs:List Value) (y:Row w e size v n xs)
  (a:Addr) (m c:Nat) (r:List Value) (hl:r.length=m*size) (I:∀ j u,r[j]?=some u->w.cell? (a.add j)=some u) (h1:∀ u∈r,u.oneCell'=true)
  (a9:n+m<=maxLen) (M:(n+m)*a0<=140737488355328) :
  ∃ v' w',(CW #[t,t] ty #[v,.slice (some a) m c]).run P w=.ok v' w'/\Row w' e size v' (n+m) (xs++r)/\w.grownBy w' v.ownBlock/\(v'.ownBlock=v.ownBlock\/v'.ownBlock=some w.heap.size):=by
 subst a5;subst b3;have b1:n+m<=9223372036854775807:=by simp only[maxLen]at a9;omega
 have O:(xs++r).length=(n+m)*i.size:=by rw[CF,y.1,hl,C5]
 have Z:∀ (H:Nat),H<n+m->∀ (ad:Option Nat),
   Row (w.drew.alloc (.cells (xs.toArray++r.toArray++De z.cells (grownCap w (n+m) H e-(n+m))) e)) e i.size
    (.slice (some ⟨w.heap.size,0,none⟩) (n+m) (grownCap w (n+m) H e)) (n+m) (xs++r) /\
   w.grownBy (w.drew.alloc (.cells (xs.toArray++r.toArray++De z.cells (grownCap w (n+m) H e-(n+m))) e)) ad:=by
  intro H ho ad;have b2:=grownCap_ge w (n+m) H e;have a1:grownCap w (n+m) H e<=maxLen:=grownCap_le_maxLen w (n+m) H e a9;refine⟨⟨O,.inr ⟨w.heap.size,_,_,_,rfl,heap_alloc_new w.drew _,b2,.inl ⟨rfl,a1⟩,?_,?_⟩⟩,⟨rfl,rfl,rfl,by simp,λk hk _=>Go.heap_alloc_old w.drew _ hk⟩⟩
  ·simp only[DZ,Cr,size_zeroCells,b4,y.1,hl,<- C5];exact CB _ (by omega)
  ·simp only[DR,CE];rw[<- CE,<- O];exact Dv
 rcases y.2 with ⟨rfl,rfl⟩|⟨g,Y,X,mk,rfl,hg,b5,a1,a6,a3⟩
 ·have hx:xs=[]:=CJ (by simpa using y.1);subst hx;by_cases hm:m=0
  ·subst hm;have hn:r=[]:=CJ (by simpa using hl);subst hn;refine⟨.slice none 0 0,w,?_,Row.nil w e i.size,⟨rfl,rfl,rfl,CI _,λ_ _ _=>rfl⟩,.inl rfl⟩;simp[CW,run_underlying ht,sizeOf,typeInfo,hi,C7,C3,loadCells,loadCellsFrom]
  ·have hr:=run_append_nil (P:=P) w t ty e i z ht hi hz a m c r hl I (by omega) (by omega) (by have hb:=M;simp only[Cm]at hb;omega);have R:=Z 0 (by omega) (CQ (.slice none 0 0));simp only[Cm,Ds,Array.empty_append]at R ⊢;exact⟨_,_,hr,R.1,R.2,.inr rfl⟩
 ·by_cases J:n+m<=Y
  ·have b0:n*i.size+r.length<=X.size:=by rw[hl,<- C5];exact Cd (CB _ J) a6
   have hr:=nn (P:=P) w t ty e i ht hi g n Y X mk hg (zN a1) a m c r hl I h1 J b0;have a2:(X.toList.take (n*i.size)++r++X.toList.drop (n*i.size+r.length)).toArray.size=X.size:=by
    simp only[Cr,CF,CP,C8,CV];omega
   refine⟨_,_,hr,⟨O,.inr ⟨g,Y,_,mk,rfl,setRow_heap w g X _ e _ hg,J,a1.imp id (λh=>⟨h.1,?_⟩),?_,?_⟩⟩,⟨rfl,rfl,rfl,by simp,λk _ hk=>setRow_other w g k _ (λe=>hk (by simp[CQ,e]))⟩,.inl rfl⟩
   ·rw[a2];exact h.2
   ·rw[a2];exact a6
   ·rw[a3,<- O];exact Dv
  ·have a4:∀ j u,xs[j]?=some u->w.cell? ((⟨g,0,none⟩:Addr).add j)=some u:=λj u hj=>by
    rw[eZ,Cm,y.cellAt _ (by rw[<- y.1];exact (BY.1 hj).1)];exact hj
   have hr:=run_append_grow (P:=P) w t ty e i z ht hi hz ⟨g,0,none⟩ n Y xs y.1 a4 a m c r hl I (by omega) (by omega) (growslice_fits (by omega) M);have R:=Z Y (by omega) (CQ (.slice (some ⟨g,0,none⟩) n Y));exact⟨_,_,hr,R.1,R.2,.inr rfl⟩
theorem nq {P:Program}(w:World)(t ty e:TypeId)(i:TypeInfo)(size c:Nat)(z:P.underlying t=some (.slice e))(y:P.info? e=some i)
  (v:Value) (n:Nat) (xs:List Value) (r:Row w e size v n xs) :
  (CW #[t,t] ty #[v,.slice none 0 c]).run P w=.ok v w:=by
 rcases r.2 with ⟨rfl,rfl⟩|⟨g,I,H,_,rfl,_,u,_⟩
 ·simp[CW,run_underlying z,sizeOf,typeInfo,y,C7,C3]
 ·simp[CW,run_underlying z,sizeOf,typeInfo,y,C7,C3,u,storeCells]
theorem jk {α:Type}{f g:α->List Nat}:∀ {l:List α},(∀ x∈l,f x=g x)->l.flatMap f=l.flatMap g
 |[],_=>rfl
 |x::l,h=>by rw[Cj,Cj,h x (CK ..),jk (λy r=>h y (CD _ r))]
theorem zu (n m:Nat)(f g:Nat->List Nat):(CC (n+m)).flatMap (λj=>if j<n then f j else g (j-n))=(CC n).flatMap f++(CC m).flatMap g:=by
 rw[List.range_add,List.flatMap_append,Dg];congr 1
 ·refine jk λj r=>?_
  rw[if_pos (DM.1 r)]
 ·refine jk λj _=>?_
  rw[if_neg (by omega),show n+j-n=j by omega]
def wE (w:World)(G:Nat->Prop)(e:Ty)(y:List e.den)(u:Value)(r:Nat->List Nat):Prop :=
 ∃ A z,u=.slice A y.length z/\(0<y.length->∃ g o,A=some ⟨g,o,none⟩/\∀ j (x:e.den),y[j]?=some x->∃ c,Mx w G e none 0 x c (r j)/\cW w g (o+j*e.cells) c)
section
variable {P:Program} {V:Env} {Γ:List Ctr} {T:TypeId->TI} {st:St} {o:Oper} {R:Type} {κ:Upd->Option R} {r:R}
theorem wF {w:World}{t ty E:TypeId}{e e':Ty}{J:Nat}(c2:oY P t (.slice E e J))(b1:e'.cells=e.cells){G G2 G':Nat->Prop}{xs H:List e'.den}{v u:Value}{bs:List Nat}{O:Nat->List Nat}(hx:Ow w G E e' xs v bs)
  (hy:wE w G2 e' H u O) (ba:(xs.length+H.length)*J<=an) (hG:∀ k,G k->G' k) (b3:∀ k,G2 k->G' k) (b9:∀ k,G' k->k<w.heap.size/\v.ownBlock≠some k) (cb:∀ j,j<H.length->∀ k∈O j,v.ownBlock≠some k) :
  ∃ Z M I,(CW #[t,t] ty #[v,u]).run P w=.ok Z M/\w.grownBy M v.ownBlock/\OwB M G' none E e' (xs++H) Z I /\
   ∀ k,I.count k<=bs.count k+(((CC H.length).flatMap O)++[w.heap.size]).count k:=by
 obtain⟨hu,_,_,cp,c4,ti,z,hi,hs,hb,hz,c6⟩:=c2;obtain⟨bn,X,a5,ho,b2,c3⟩:=hx;obtain⟨A,b5,c0,b4⟩:=hy;subst c0;have bb:ti.size=e'.cells:=by rw[b1];exact hs
 have a3:∀ (M:World),w.grownBy M v.ownBlock->∀ k,G' k->M.heap[k]?=w.heap[k]?:=λM hg k Y=>hg.block k (b9 k Y).1 (Cl (b9 k Y).2)
 have bx:xs.length+H.length<=maxLen:=by
  have h1:(xs.length+H.length)*1<=(xs.length+H.length)*J:=Cz _ c4.1;have:=mA;simp only[an]at ba;omega
 have b0:∀ (y:List Value),(∀ (j:Nat) (x:e'.den),H[j]?=some x->∃ c,Mx w G2 e' none 0 x c (O j)/\∀ i u,c[i]?=some u->y[j*e'.cells+i]?=some u) ->
   ∀ Z M,Row M E e'.cells Z (xs.length+H.length) (X++y)->w.grownBy M v.ownBlock->(Z.ownBlock=v.ownBlock\/Z.ownBlock=some w.heap.size) ->
    ∃ I,OwB M G' none E e' (xs++H) Z I/\∀ k,I.count k<=bs.count k+(((CC H.length).flatMap O)++[w.heap.size]).count k:=by
  intro y hn Z M a4 hg a6;refine⟨Z.ownBlock.toList++(CC (xs.length+H.length)).flatMap (λj=>if j<xs.length then a5 j else O (j-xs.length)),⟨X++y,_,by rw[CF];exact a4,by rw[CF],λj x hj=>?_⟩,λk=>?_⟩
  ·by_cases a2:j<xs.length
   ·rw[B5 a2]at hj;obtain⟨c,hr,hc⟩:=c3 j x hj;have hr:Mx w G e' none 0 x c (a5 j):=hr;refine⟨c,?_,λi u hi=>?_⟩
    ·rw[if_pos a2];refine hr.carry hG (λk Y=>a3 M hg k (hG k Y)) λk Y=>hg.block k (hr.lt k Y) (λe0=>?_)
     have h5:=bu.1 bn k;rw[b2,<- e0,B3]at h5;have h6:0<((CC xs.length).flatMap a5).count k:=B8.2 (dX.2 ⟨j,a2,Y⟩);simp at h5;omega
    ·have:=hc i u hi;rw[B5 (BY.1 this).1];exact this
   ·rw[B4 (by omega)]at hj;obtain⟨c,hr,hc⟩:=hn _ x hj;have c5:=(BY.1 hj).1;refine⟨c,?_,λi u hi=>?_⟩
    ·rw[if_neg a2];exact hr.carry b3 (λk Y=>a3 M hg k (b3 k Y)) λk Y=>hg.block k (hr.lt k Y) (Cl (cb _ c5 k Y))
    ·have:=hc i u hi;have a9:=ho.1;have cc:xs.length*e'.cells<=j*e'.cells:=CB _ (Nat.le_of_not_lt a2);rw[B4 (by omega),<- this,a9,Nat.sub_mul];congr 1;omega
  ·rw[zu,b2];simp only[B3];rcases a6 with h5|h5
   ·rw[h5];omega
   ·rw[h5];simp only[DU];omega
 cases A with
 |none =>
  have a0:H.length=0:=by
   rcases DV H.length with h|h
   ·exact h
   ·obtain⟨g,o,hA,_⟩:=b4 h;cases hA
  have a0:=CJ a0;subst a0;have a1:=nq (P:=P) w t ty E ti e'.cells b5 hu hi v xs.length X ho;have hg:w.grownBy w v.ownBlock:=⟨rfl,rfl,rfl,CI _,λ_ _ _=>rfl⟩;obtain⟨I,h1,h2⟩:=b0 [] (by simp) v w (by simpa using ho) hg (.inl rfl);exact⟨v,w,I,a1,hg,h1,h2⟩
 |some ad =>
  have bl:∃ y:List Value,y.length=H.length*e'.cells/\(∀ j u,y[j]?=some u->w.cell? (ad.add j)=some u)/\(∀ u∈y,u.oneCell'=true) /\
    ∀ (j:Nat) (x:e'.den),H[j]?=some x->∃ c,Mx w G2 e' none 0 x c (O j)/\∀ i u,c[i]?=some u->y[j*e'.cells+i]?=some u:=by
   rcases DV H.length with h|h
   ·have a0:=CJ h;subst a0;exact⟨[],by simp,by simp,by simp,by simp⟩
   ·obtain⟨g,o,hA,he⟩:=b4 h;simp at hA;subst hA;obtain⟨y,h1,h2,h3,h4⟩:=rJ H o (λj x c=>Mx w G2 e' none 0 x c (O j)) (λj x c hq=>⟨hq.len,hq.one⟩) he;exact⟨y,h1,λj u hj=>by rw[eZ];exact h2 j u hj,h3,h4⟩
  obtain⟨y,h1,h2,h3,h4⟩:=bl;have c1:z.cells.size=e'.cells:=by
   have h2:=(lM w (λ_=>False) e).len;rw[<- CV,c6,h2,b1]
  obtain⟨Z,M,a1,a4,hg,a6⟩:=cf (P:=P) w t ty E ti z e'.cells J hu hi hz bb hb c1 v xs.length X ho ad H.length b5 y h1 h2 h3 bx (by simpa[an]using ba);obtain⟨I,h5,h6⟩:=b0 y h4 Z M a4 hg a6;exact⟨Z,M,I,a1,hg,h5,h6⟩
theorem wG {W:Wit}{a:Act}{w:World}(h:ap P V W st a w){E:TypeId}{e:Ty}{y:Leaf}{u:Value}{t:cK (List e.den)}(hl:aC P V W st w [y] [u])(H:fT st E e y=some t) :
  (∃ I,wE w (bq V W t.p t.frz) e t.val u I/\∀ k,((CC t.val.length).flatMap I).count k<=(aZ W t.kill).count k)/\(∀ x∈t.frz,aB st x)/\(∀ x∈t.kill,aB st x):=by
 have z:∀ {p q:Bool} {O:List e.den} {ks:List (Nat×Nat)},dh e (aD st y)=some (p,O)->(∀ (S:Nat->Prop) (x:e.den) (c:List Value),Rd w (bq V W p (bz st [y])) e x c->Mx w (bq V W q ks) e none 0 x c []) ->
   ∃ I,wE w (bq V W q ks) e O u I/\∀ k,((CC O.length).flatMap I).count k<=(aZ W []).count k:=by
  intro p q O ks X hm;obtain⟨A,M,hu,_,hx⟩:=kG (m:=false) (E:=E) h hl.1.1 hl.1.2.1 X;have hu:u=.slice A O.length M:=by simpa using hu
  refine⟨(λ_=>[]:Nat->List Nat),⟨A,M,hu,λhp=>?_⟩,λk=>by rw[show ((CC O.length).flatMap λ_=>([]:List Nat))=[] from by simp];exact Dl _⟩;obtain⟨g,o',hA,_,a0⟩:=hx hp;exact⟨g,o',hA,λj x hj=>by
   obtain⟨c,Z,hc⟩:=a0 j x hj;exact⟨c,hm (λ_=>True) x c Z,hc⟩⟩
 unfold fT at H;cases hf:e.flat with
 |true =>
  rw[hf]at H;simp only[cond_true,BW]at H;obtain⟨⟨p,O⟩,X,rfl⟩:=H;exact⟨z X (λ_ x c Z=>Mx.flat hf Z),by simp,by simp⟩
 |false =>
  rw[hf]at H;simp only[cond_false]at H;cases hs:decide (e.sh=e) with
  |true =>
   rw[hs]at H;simp only[cond_true,BW]at H;obtain⟨⟨p,O⟩,X,rfl⟩:=H;exact⟨z X (λ_ x c Z=>Mx.shared (of_decide_eq_true hs) Z),λx hx=>eq hl hx,by simp⟩
  |false =>
   rw[hs]at H;simp only[cond_false,BW]at H;obtain⟨J,X,rfl⟩:=H;obtain⟨h1,h2,h3⟩:=dP (pos:=0) h hl X;have h1:Mx w (bq V W J.p J.frz) (.list true E e) none 0 J.val [u] (aZ W J.kill):=h1;rw[bJ (by simp)]at h1;obtain⟨v,hv,a1,Y,h4,h5,h6⟩:=h1;simp only[Cy,and_true]at hv;subst hv;refine⟨⟨Y,?_,λk=>?_⟩,h2,h3⟩
   ·rcases h4.2 with ⟨hn,h0⟩|⟨g,M,a2,_,hv,hg,a3,_⟩
    ·exact⟨none,0,by rw[hn];show _=Value.slice none (Dn J.val) 0;rw[h0],λhp=>by have hp:0<Dn J.val:=hp;omega⟩
    ·refine⟨some ⟨g,0,none⟩,M,hv,λhp=>⟨g,0,rfl,λj x hj=>?_⟩⟩;obtain⟨c,h7,h8⟩:=h6 j x hj;have h7:Mx w (bq V W J.p J.frz) e none 0 x c (Y j):=h7;refine⟨c,h7,λi u hi=>?_⟩;have h9:=h8 i u hi;rw[Cm];rw[hv]at h4;rw[h4.cellAt _ (by rw[<- h4.1];exact (BY.1 h9).1)];exact h9
   ·show ((CC (Dn J.val)).flatMap Y).count k<=(aZ W J.kill).count k;rw[h5,B3];omega
theorem AR {l l':Leaf}{U:Upd}(u:cl st l=some (U,l')):∃ n,l'=.al TMP 0 n:=by
 cases l with
 |nal p O ep M E e xs =>
  simp only[cl]at u;cases y:br st O ep with
  |false=>simp[y]at u
  |true =>
   rw[y]at u;simp only[cond_true]at u;split at u
   ·rename_i r j Y i I off;split at u
    ·rename_i Z X H J hg;cases z:!CH r TMP&&!CH r EPO&&CH I H.cells with
     |false=>simp[z]at u
     |true =>
      rw[z]at u;simp only[cond_true]at u;split at u
      ·split at u
       ·simp only[BV,CY]at u;exact⟨_,u.2.symm⟩
       ·cases u
      ·cases u
    ·cases u
   ·cases u
 |_=>simp[cl]at u
theorem wH (hV:ay V)(hT:TOk P T)(c3:bP V o){c:Call}(c5:o.op=.call c)(hc:c.callee=.builtin .append)(h:act Γ T o st κ=some r):bY P V o st κ r:=by
  simp only[act,wrU,c5,hc]at h;split at h
  · cases h
  · rename_i d hd
    split at h
    · rename_i x y t u a0 b0
      split at h
      · rename_i E e a3 ht
        cases ad:CH t u with
        |false=>simp[ad]at h
        |true =>
          simp only[ad,cond_true]at h;have ad:=B6 ad;subst ad;have cb:=hT t;rw[ht]at cb;have a0:c.args=#[x,y]:=by rw[<- CR (xs:=c.args),a0]
          have b0:c.argTypes=#[t,t]:=by rw[<- CR (xs:=c.argTypes),b0]
          have bx:∀ (a:Act) (w w':World) (v:Value),(CW #[t,t] o.type #[a.eval x,a.eval y]).run P w=.ok v w'->(execOp a.eval o).run P w=.ok (.value v) w':=by
            intro a w w' v Z;simp[execOp,c5,hc,resolve,invoke,builtin,a0,b0,Z]
          have b9:∀ (I:Upd) (E':TypeId) (e':Ty) (p:Bool) (xs:List e'.den) (ks:List (Nat×Nat)),E'=E->e'.sh=e.sh->dW st (ac I st) I d E' e' a3 p xs ks (one st y) κ=some r ->
              ∃ U,κ U=some r/\∀ (O:Wit) (a:Act) (w:World),ap P V O (ac I st) a w->aC P V O (ac I st) w [one st y] [a.eval y]->(∀ x∈ks,aB (ac I st) x)->Ow w (gd V O p) E' e' xs (a.eval x) (aZ O ks)->mS P V o st U a w:=by
            intro I E' e' p xs ks hE he M;subst hE;unfold dW at M;split at M
            · rename_i t1 dc
              cases Y:a8 (t1.kill++ks)&&dE t1.frz (t1.kill++ks)&&decide ((xs.length+t1.val.length)*a3<=an) with
              |false=>simp[Y]at M
              |true =>
                simp only[Y,cond_true]at M;simp only[BX,decide_eq_true_eq]at Y;obtain⟨⟨cw,cy⟩,bn⟩:=Y;refine⟨_,M,λO a w Z a4 d3 c2 next Q hn=>?_⟩;obtain⟨⟨cp,d1,b5⟩,hf,cx⟩:=wG Z a4 dc;have c4:∀ x∈t1.kill++ks,aB (ac I st) x:=λx hx=>(B9.1 hx).elim (cx x) (d3 x)
                obtain⟨h1,_,_,h4⟩:=fG hV Z cy c4;have bb:=gS Z cw c4;rw[dK]at bb h4;have X:∀ k∈aZ O t1.kill++aZ O ks,¬ ce V (O.frz (ac I st) t1.frz) _ k:=λk H=>mz ⟨(h4 k H).1,(h4 k H).2.1,(h4 k H).2.2.2.1,(h4 k H).2.2.2.2⟩
                rw[Cc]at bb;obtain⟨cc,c0,b4⟩:=bb;have ba:∀ k,(a.eval x).ownBlock=some k->k∈aZ O ks:=by
                  intro k H;obtain⟨_,dd,e2,_,bn,_⟩:=c2;rw[bn,H];simp
                have c6:∀ k,gd V (O.frz (ac I st) t1.frz) (p||t1.p) k->ce V (O.frz (ac I st) t1.frz) (ac (aM (ac (aE (ac I st) t1.frz) (ac I st)) (t1.kill++ks)++aE (ac I st) t1.frz) (ac I st)) k:=by
                  rintro k (H|⟨_,H⟩)
                  · exact .inl H
                  · exact .inr (.inl (hV.ro k H))
                have a9:∀ k∈(CC t1.val.length).flatMap cp,k∈aZ O t1.kill:=λk H=>B8.1 (by have:=b5 k;have:=B8.2 H;omega)
                obtain⟨v',w',e4,cu,hg,c1,bl⟩:=wF (P:=P) (t:=t) (ty:=o.type) cb (ik he) c2 d1 bn (G':=gd V (O.frz (ac I st) t1.frz) (p||t1.p))
                  (bW (W':=O.frz (ac I st) t1.frz) (by intro h;simp[h]) (λ_ h=>Or.inl h))
                  (λk H=>bW (W':=O.frz (ac I st) t1.frz) (by intro h;simp[h]) (λ_ h=>h) k (ko hf k H))
                  (λk H=>⟨h1.used_lt k (c6 k H),λe1=>X k (BZ _ (ba k e1)) (c6 k H)⟩)
                  (λj hj k H e1=>b4 k (a9 k (dX.2 ⟨j,hj,H⟩)) k (ba k e1) rfl)
                have b3:=nl (bs:=aZ O ks) (K:=(CC t1.val.length).flatMap cp++[w.heap.size]) c0
                  (bu.2 λk=>by
                    rw[B3];have h5:=b5 k;have h6:=bu.1 cc k;by_cases H:k=w.heap.size
                    · subst H
                      have:(aZ O t1.kill).count w.heap.size=0:=CN.2 (λhm=>by have:=(h4 _ (B7 _ hm)).2.2.1;omega);simp;omega
                    · have:List.count k [w.heap.size]=0:=CN.2 (by simp[H])
                      omega)
                  (λk H hm=>by
                    rcases B9.1 H with H|H
                    · exact b4 k (a9 k H) k hm rfl
                    · simp at H
                      subst H;have:=(h4 _ (BZ _ hm)).2.2.1;omega) bl
                refine dY (bx a w w' v' cu) ?_;rw[hd];refine hn _ _ ?_;rw[ck,aQ,bB];refine h1.putOwn hV hg.size hg.os hg.tape hg.output (λk H=>hg.block k (h1.used_lt k H) (λe1=>X k (BZ _ (ba k e1.symm)) H)) d (c3 d hd).1 (c3 d hd).2 _ (CA _) ⟨b3.1,c1⟩ (λk H hu=>?_);rcases b3.2 k H with H|H
                · exact X k (BZ _ H) hu
                · rcases B9.1 H with H|H
                  · exact X k (B7 _ (a9 k H)) hu
                  · simp at H
                    have:=h1.used_lt k hu;omega
            · cases M
          have a1:∀ (I:Upd) (x':Leaf),ew st I d E e a3 x' (one st y) κ=some r->one st y≠.dead:=by
            intro I x' h e1;rw[e1]at h;unfold ew at h;split at h
            · split at h
              · rename_i p E' e' b2 b1
                cases Y:CH E' E&&decide (e'.sh=e.sh) with
                |false=>simp[Y]at h
                |true =>
                  simp only[Y,cond_true,dW,fT,aD,dh,DH,ch,take]at h;cases e'.flat <;> cases decide (e'.sh=e') <;> simp at h
              · cases h
            · simp only[dW,fT,aD,dh,DH,ch,take]at h
              cases e.flat <;> cases decide (e.sh=e) <;> simp at h
            · cases h
          simp only[iB]at h;cases hn:jr (one st x) with
          |true =>
            rw[hn]at h;simp only[cond_true]at h;rw[hY]at h;obtain⟨⟨I,x'⟩,a6,h⟩:=CS.1 h;have a1:=a1 _ _ h;simp only[ew]at h;split at h
            · rename_i r' j n
              split at h
              · rename_i p' E' e' b2 b1
                cases Y:CH E' E&&decide (e'.sh=e.sh) with
                |false=>simp[Y]at h
                |true =>
                  simp only[Y,cond_true]at h;simp only[BX,decide_eq_true_eq]at Y;obtain⟨U,hU,hg⟩:=b9 I E' e' p' b2 [(r',j)] (B6 Y.1) Y.2 h;refine⟨U,hU,λW a w Z=>?_⟩;obtain⟨a2,_,_,_,_⟩:=bt Z x (by intro e1;rw[e1]at hn;simp[jr]at hn);obtain⟨O,n0,p0,E0,e0,e3,g1,g2,g3,g4,_⟩:=vp hV Z a2 a6;obtain⟨a4,J,a5,_,_⟩:=bt Z y a1;obtain⟨h5,h6,h7,h8⟩:=km g1 b1 g4;exact hg O a w g1 ⟨⟨a4.carry hV.ro g2 (λho=>absurd ho J),J,a5⟩,trivial⟩ (λz hz=>by simp at hz;subst hz;exact⟨_,h7,trivial⟩) (by simpa[aZ]using h6)
              · cases h
            · exfalso
              obtain⟨n,d2⟩:=AR a6;cases d2
            · cases h
          |false =>
            rw[hn]at h;simp only[cond_false]at h;have a1:=a1 _ _ h;simp only[ew]at h;split at h
            · rename_i r' j n hx
              split at h
              · rename_i p' E' e' b2 b1
                cases Y:CH E' E&&decide (e'.sh=e.sh) with
                |false=>simp[Y]at h
                |true =>
                  simp only[Y,cond_true]at h;simp only[BX,decide_eq_true_eq]at Y;obtain⟨U,hU,hg⟩:=b9 [] E' e' p' b2 [(r',j)] (B6 Y.1) Y.2 h;refine⟨U,hU,λW a w Z=>?_⟩;obtain⟨a2,_,_,_,_⟩:=bt Z x (by rw[hx];simp);rw[hx]at a2;obtain⟨a4,J,a5,_,_⟩:=bt Z y a1;obtain⟨h5,h6,h7,h8⟩:=km Z b1 a2;exact hg W a w Z ⟨⟨a4,J,a5⟩,trivial⟩ (λz hz=>by simp at hz;subst hz;exact⟨_,h7,trivial⟩) (by simpa[aZ]using h6)
              · cases h
            · rename_i hx
              obtain⟨U,hU,hg⟩:=b9 [] E e false [] [] rfl rfl h;refine⟨U,hU,λW a w Z=>?_⟩;obtain⟨a2,_,_,_,_⟩:=bt Z x (by rw[hx];simp);rw[hx]at a2;obtain⟨a4,J,a5,_,_⟩:=bt Z y a1;exact hg W a w Z ⟨⟨a4,J,a5⟩,trivial⟩ (by simp) (by rw[show a.eval x=_ from a2];exact OwH.nil w _ E e)
            · cases h
      · cases h
    · cases h
end
def gT (w:World)(ro pr:Nat->Prop)(r:Bool)(a:Ty)(x:a.den)(v:Value):Prop :=
 if r=true then ∃ b u g o c,v=.pointer (some ⟨b,u,none⟩)/\pr b/\w.cell? ⟨b,u,none⟩=some (.pointer (some ⟨g,o,none⟩))/\pr g/\Rd w ro a x c/\cW w g o c
 else ∃ g o c,v=.pointer (some ⟨g,o,none⟩)/\pr g/\Rd w ro a x c/\cW w g o c
def jH (w:World)(ro pr:Nat->Prop):(cs:List (Bool×Ty))->lR cs->List Value->Prop
 |[],_,y=>y=[]
 |c::cs,x,y=>∃ u r,y=u::r/\gT w ro pr c.1 c.2 x.1 u/\jH w ro pr cs x.2 r
def oh (P:Program)(w:World)(ro pr:Nat->Prop):(pk:PK)->pk.den->Value->List Nat->Prop
 |.rd a,x,v,r=>r=[]/\∃ y,db a.isAgg v y/\Rd w ro a x y
 |.own a,x,v,r=>∃ y,db a.isAgg v y/\Mx w ro a none 0 x y r
 |.io a,x,v,r=>∃ y,db a.isAgg v y/\Mx w ro a none 0 x y r
 |.rref a,x,v,r=>r=[]/\gT w ro pr false a x v
 |.rref2 a,x,v,r=>r=[]/\gT w ro pr true a x v
 |.iop a,x,v,r=>∃ g c E z,v=.pointer (some ⟨g,0,none⟩)/\w.heap[g]?=some (.cells c.toArray E (0,0))/\Mx w ro a none 0 x c z/\r=g::z
 |.fn O B,M,v,r=>r=[]/\il P w pr O B M v
 |.clo f y,x,v,r=>r=[]/\∃ H:List Value,v=.func (.func f) #[] H.toArray/\jH w ro pr y x H
 |.hol a c off,x,v,r=>∃ y u z J E e I,db a.isAgg v y/\Mx w ro a (some c) 0 x.1 y z/\y[c]?=some u/\bf c a 0 x.1=some ⟨E,e,I⟩/\OwB w ro (some (x.2,off)) E e I u J/\∀ k,r.count k=z.count k+J.count k
def c9 (P:Program)(w:World)(ro pr:Nat->Prop):(ps:List PK)->ab ps->List Value->List (List Nat)->Prop
 |[],_,z,u=>z=[]/\u=[]
 |p::ps,x,z,u=>∃ v y b r,z=v::y/\u=b::r/\oh P w ro pr p x.1 v b/\c9 P w ro pr ps x.2 y r
def jv (w:World)(G:Nat->Prop)(a:Ty)(x:a.den)(ptr:Bool)(v:Value)(bs:List Nat):Prop :=
 if ptr=true then ∃ g c E u,v=.pointer (some ⟨g,0,none⟩)/\w.heap[g]?=some (.cells c.toArray E (0,0))/\Mx w G a none 0 x c u/\bs=g::u
 else ∃ r,db a.isAgg v r/\Mx w G a none 0 x r bs
def bN (w:World)(G:Nat->Prop):(ps:List PK)->ah ps->List Value->List (List Nat)->Prop
 |.io a::ps,o,v::u,b::r=>jv w G a o.1 false v b/\bN w G ps o.2 u r
 |.iop a::ps,o,v::u,b::r=>jv w G a o.1 true v b/\bN w G ps o.2 u r
 |.rd _::ps,o,_::u,b::r=>b=[]/\bN w G ps o u r
 |.own _::ps,o,_::u,b::r=>b=[]/\bN w G ps o u r
 |.rref _::ps,o,_::u,b::r=>b=[]/\bN w G ps o u r
 |.rref2 _::ps,o,_::u,b::r=>b=[]/\bN w G ps o u r
 |.fn _ _::ps,o,_::u,b::r=>b=[]/\bN w G ps o u r
 |.clo _ _::ps,o,_::u,b::r=>b=[]/\bN w G ps o u r
 |.hol _ _ _::ps,o,_::u,b::r=>b=[]/\bN w G ps o u r
 |[],_,[],[]=>True
 |_,_,_,_=>False
def qi (w:World)(G ro:Nat->Prop):(r:RK)->r.den->Value->List Nat->Prop
 |.v a,y,v,u=>∃ z,db a.isAgg v z/\Mx w G a none 0 y z u
 |.bv a,y,v,u=>u=[]/\∃ z,db a.isAgg v z/\Rd w (λk=>G k\/ro k) a y z
 |.box a,y,v,u=>∃ g c E H,v=.pointer (some ⟨g,0,none⟩)/\w.heap[g]?=some (.cells c.toArray E (0,0))/\Mx w G a none 0 y c H/\u=g::H
def gE (w:World)(G ro:Nat->Prop):(M:List RK)->ai M->List Value->List (List Nat)->Prop
 |[],_,J,H=>J=[]/\H=[]
 |r::M,y,J,H=>∃ u I b z,J=u::I/\H=b::z/\qi w G ro r y.1 u b/\gE w G ro M y.2 I z
def sw:List Value->Value->Prop
 |[u],v=>v=u
 |r,v=>v=.tuple r.toArray
def qj (w w':World)(r:List Nat)(k:Nat):Prop:=k<w'.heap.size/\(w.heap.size<=k\/k∈r)
def tL (c:Ctr)(w:World)(ro:Nat->Prop)(I:List Value)(u:List (List Nat))(y:ai c.rs×ah c.ps)(e:Ending)(w':World):Prop :=
 ∃ (v:Value) (H:List Value) (N:Nat->Prop) (r z:List (List Nat)),e=.returned v/\sw H v/\w.heap.size<=w'.heap.size/\w'.os=w.os/\w'.tape=w.tape/\w'.output=w.output /\
  (∀ k,k<w.heap.size->k∉u.flatten->w'.heap[k]?=w.heap[k]?)/\(∀ k,N k->qj w w' u.flatten k) /\
  bN w' (λk=>N k\/(c.fresh=false/\ro k)) c.ps y.2 I r/\gE w' (λk=>N k\/(c.fresh=false/\ro k)) ro c.rs y.1 H z /\
  (r.flatten++z.flatten).Nodup/\∀ k∈r.flatten++z.flatten,qj w w' u.flatten k/\¬ N k
def bR (P:Program)(c:Ctr):Prop :=
 fV P c.f/\∀ (w:World) (ro:Nat->Prop) (x:ab c.ps) (u:List Value) (r:List (List Nat)) (y:ai c.rs×ah c.ps),
  c9 P w ro (λk=>k<w.heap.size/\k∉r.flatten) c.ps x u r->(∀ k,ro k->k<w.heap.size/\k∉r.flatten)->r.flatten.Nodup->c.den x=some y ->
  Calls P c.f u.toArray w (tL c w ro u r y)
section
variable {P:Program} {V:Env} {Γ:List Ctr} {T:TypeId->TI} {st:St} {o:Oper} {R:Type} {κ:Upd->Option R} {r:R}
theorem il.mono {w0:World}{S I:Nat->Prop}(X:∀ k,S k->I k){z:List Ty}{B:Ty}{H:Tup z->Option B.den}{v:Value}(h:il P w0 S z B H v):il P w0 I z B H v:=by
 obtain⟨f,u,e,Y,O⟩:=h;exact⟨f,u,e,Y,λw1 M J=>O w1 M (λk y=>J k (X k y))⟩
theorem il.move {w0 w:World}{S J:Nat->Prop}(z:w0.heap.size<=w.heap.size)(M:∀ k,S k->J k/\w.heap[k]?=w0.heap[k]?){H:List Ty}{B:Ty}{I:Tup H->Option B.den}{v:Value}
  (h:il P w0 S H B I v):il P w J H B I v:=by
 obtain⟨f,y,e,Z,Y⟩:=h;exact⟨f,y,e,Z,λw1 X O=>Y w1 (Cd z X) (λk u=>(O k (M k u).1).trans (M k u).2)⟩
theorem gT.carry {w w1:World}{ro ro' pr I:Nat->Prop}(y:∀ k,ro k->ro' k/\w1.heap[k]?=w.heap[k]?)(u:∀ k,pr k->I k/\w1.heap[k]?=w.heap[k]?){J:Bool}{a:Ty}{x:a.den}{v:Value}(h:gT w ro pr J a x v):gT w1 ro' I J a x v:=by
 unfold gT at h ⊢;split at h
 ·rename_i X;rw[if_pos X];obtain⟨b,ob,g,o,c,O,H,Y,M,h7,Z⟩:=h;exact⟨b,ob,g,o,c,O,(u b H).1,by rw[kF (u b H).2];exact Y,(u g M).1,h7.carry (λk z=>(y k z).1) (λk z=>(y k z).2),Z.same (u g M).2⟩
 ·rename_i X;rw[if_neg X];obtain⟨g,o,c,O,H,Y,M⟩:=h;exact⟨g,o,c,O,(u g H).1,Y.carry (λk z=>(y k z).1) (λk z=>(y k z).2),M.same (u g H).2⟩
theorem jH.carry {w w1:World}{ro ro' pr z:Nat->Prop}(y:∀ k,ro k->ro' k/\w1.heap[k]?=w.heap[k]?)(H:∀ k,pr k->z k/\w1.heap[k]?=w.heap[k]?):∀ {cs:List (Bool×Ty)} {x:lR cs} {us:List Value},jH w ro pr cs x us->jH w1 ro' z cs x us
 |[],_,_,h=>h
 |_::_,_,_,⟨u,I,e,M,J⟩=>⟨u,I,e,M.carry y H,jH.carry y H J⟩
theorem oh.mono {w:World}{ro ro' pr O:Nat->Prop}(y:∀ k,ro k->ro' k)(J:∀ k,pr k->O k):∀ {pk:PK} {x:pk.den} {v:Value} {bs:List Nat},oh P w ro pr pk x v bs->oh P w ro' O pk x v bs
 |.rd _,_,_,_,⟨e,M,I,z⟩=>⟨e,M,I,z.mono y⟩
 |.own _,_,_,_,⟨M,I,z⟩=>⟨M,I,z.mono y⟩
 |.io _,_,_,_,⟨M,I,z⟩=>⟨M,I,z.mono y⟩
 |.rref _,_,_,_,⟨e,h⟩=>⟨e,h.carry (λk H=>⟨y k H,rfl⟩) (λk H=>⟨J k H,rfl⟩)⟩
 |.rref2 _,_,_,_,⟨e,h⟩=>⟨e,h.carry (λk H=>⟨y k H,rfl⟩) (λk H=>⟨J k H,rfl⟩)⟩
 |.iop _,_,_,_,⟨g,c,E,Z,I,z,X,Y⟩=>⟨g,c,E,Z,I,z,X.mono y,Y⟩
 |.fn _ _,_,_,_,⟨e,h⟩=>⟨e,il.mono J h⟩
 |.clo _ _,_,_,_,⟨e,us,I,z⟩=>⟨e,us,I,z.carry (λk H=>⟨y k H,rfl⟩) (λk H=>⟨J k H,rfl⟩)⟩
 |.hol _ _ _,_,_,_,⟨M,u,Z,b1,E,e,xs,I,z,X,Y,h5,h6⟩=>⟨M,u,Z,b1,E,e,xs,I,z.mono y,X,Y,h5.carry y (λ_ _=>rfl) (λ_ _=>rfl),h6⟩
theorem c9.mono {w:World}{ro ro' pr z:Nat->Prop}(u:∀ k,ro k->ro' k)(I:∀ k,pr k->z k):∀ {ps:List PK} {x:ab ps} {M:List Value} {H:List (List Nat)},c9 P w ro pr ps x M H->c9 P w ro' z ps x M H
 |[],_,_,_,h=>h
 |_::_,_,_,_,⟨v,J,b,y,X,O,Z,Y⟩=>⟨v,J,b,y,X,O,Z.mono u I,c9.mono u I Y⟩
def jQ (V:Env)(W:Wit)(st:St)(ks:List (Nat×Nat))(u:List Nat)(k:Nat):Prop:=W.nw k\/V.prot k\/(∃ b∈u,live st b/\W.β b=k)\/∃ x∈ks,k∈W.bs x.1 x.2
theorem kQ {W:Wit}{I H:List (Nat×Nat)}{z y:List Nat}(h:∀ x∈I,x∈H)(O:∀ b∈z,b∈y):∀ k,jQ V W st I z k->jQ V W st H y k:=by
 rintro k (u|u|⟨b,M,u⟩|⟨x,J,u⟩)
 ·exact .inl u
 ·exact .inr (.inl u)
 ·exact .inr (.inr (.inl ⟨b,O b M,u⟩))
 ·exact .inr (.inr (.inr ⟨x,h x J,u⟩))
theorem i9 {W:Wit}{p q:Bool}{z y:List (Nat×Nat)}(I:p=true->q=true)(h:∀ x∈z,x∈y):∀ k,bq V W p z k->bq V W q y k:=by
 rintro k (u|⟨x,H,u⟩)
 ·exact .inl (bW (W':=W) I (λ_ h=>h) k u)
 ·exact .inr ⟨x,h x H,u⟩
theorem gF {agg:Bool}{v:Value}{cs:List Value}(h:ei (bk agg) v cs):db agg v cs:=by
 cases agg <;> exact h
theorem nr {W:Wit}{a:Act}{w:World}(h:ap P V W st a w){l:Leaf}{ls:List Leaf}{v:Value}(hl:aI P V W st w [] l v)(y:target st l=some ls)(ks:List (Nat×Nat))(M:List Nat)(O:∀ b∈fj [l],b∈M) :
  ∃ g o cs,v=.pointer (some ⟨g,o,none⟩)/\jQ V W st ks M g/\aC P V W st w ls cs/\cW w g o cs:=by
 unfold target at y;split at y
 ·rename_i b;cases Z:decide ((st b).sh=.agg) with
  |false=>simp[Z]at y
  |true =>
   simp only[Z,cond_true,BV]at y;subst y;obtain⟨hB,J,z⟩:=hl;rcases h.boxes b hB with ⟨Y,_⟩|⟨_,E,Y⟩
   ·rw[J]at Y;cases Y
   ·exact⟨W.β b,0,W.cs b,z,.inr (.inr (.inl ⟨b,O b (by simp[fj]),⟨hB,J⟩,rfl⟩)),iD h b,λi v z=>by
     rw[Cm,cell_of_row w (W.β b) i _ E (0,0) Y];simpa using z⟩
 ·rename_i p a x;simp only[BV]at y;subst y;obtain⟨g,X,c,z,hg,H,hc⟩:=hl;rw[Cb]at z;exact⟨g,X,c,z,hg.elim .inl (λh=>.inr (.inl h)),eY (λ_ h=>h) H,hc⟩
 ·rename_i p a x;simp only[BV]at y;subst y;obtain⟨b,ob,g,X,c,z,Z,I,hg,H,hc⟩:=hl;refine⟨b,ob,[.pointer (some ⟨g,X,none⟩)],z,Z.elim .inl (λh=>.inr (.inl h)),⟨⟨⟨g,X,c,rfl,hg,H,hc⟩,id,rfl⟩,trivial⟩,λi u hi=>?_⟩;cases i with
  |zero=>simp at hi;subst hi;exact I
  |succ i=>simp at hi
 ·cases y
theorem gU {W:Wit}{w:World}{x:aG×List Leaf}{l:Leaf}{v:Value}{cs:List Value}(y:ei x.1 v cs)(z:aC P V W st w x.2 cs)(u:cm x=l)(H:l≠.dead) :
  aI P V W st w [] l v/\v.oneCell'=true:=by
 unfold cm at u;split at u
 ·rename_i I;subst u;have y:cs=[v]:=y;subst y;exact⟨z.1.1,z.1.2.2⟩
 ·exact absurd u.symm H
theorem nu {W:Wit}{a:Act}{w:World}(h:ap P V W st a w){c:Bool×Ty}{l:Leaf}{v:Value}(hl:aI P V W st w [] l v){g:Got c.2.den}(H:fk st c l=some g) :
  gT w (bq V W g.p g.frz) (jQ V W st g.frz g.see) c.1 c.2 g.val v/\(∀ z∈g.frz,aB st z)/\g.kill=[]/\g.lend=[]:=by
 unfold fk at H;cases hc:c.1 with
 |true =>
  rw[hc]at H;simp only[cond_true]at H;split at H
  ·rename_i l' ht;split at H
   ·rename_i Z a2;simp only[BW]at H;obtain⟨⟨p,y⟩,hy,rfl⟩:=H;obtain⟨g,o',cs,hv,Y,I,X⟩:=nr h hl ht (bz st Z) (fj [l,l']) (λb O=>by
     cases l <;> simp[fj]at O ⊢ <;> exact .inl O)
    match cs,I with
    |[u],I =>
     obtain⟨g2,o2,a3,a0,a1,M,a4⟩:=nr h I.1.1 a2 (bz st Z) (fj [l,l']) (λb O=>by
      cases l <;> cases l' <;> simp[fj]at O ⊢ <;> first|exact O|exact .inr O)
     have J:=X 0 u rfl;rw[Cb,a0]at J;refine⟨?_,λz hz=>eq M hz,rfl,rfl⟩;unfold gT;rw[if_pos rfl];exact⟨g,o',g2,o2,a3,hv,Y,J,a1,eE h M hy,a4⟩
   ·cases H
  ·cases H
 |false =>
  rw[hc]at H;simp only[cond_false]at H;split at H
  ·rename_i Z ht;simp only[BW]at H;obtain⟨⟨p,y⟩,hy,rfl⟩:=H;obtain⟨g,o',cs,hv,Y,I,X⟩:=nr h hl ht (bz st Z) (fj [l]) (λb O=>O);refine⟨?_,λz hz=>eq I hz,rfl,rfl⟩;unfold gT;rw[if_neg (by simp)];exact⟨g,o',cs,hv,Y,eE h I hy,X⟩
  ·cases H
theorem mB {W:Wit}{a:Act}{w:World}(h:ap P V W st a w):∀ {cs:List (Bool×Ty)} {ls:List Leaf} {us:List Value} {g:Got (lR cs)},aC P V W st w ls us->cA st cs ls=some g ->
  jH w (bq V W g.p g.frz) (jQ V W st g.frz g.see) cs g.val us/\(∀ z∈g.frz,aB st z)/\g.kill=[]/\g.lend=[]
 |[],[],us,g,J,y=>by
  simp only[cA,BV]at y;subst y;cases us with
  |nil=>exact⟨rfl,by simp,rfl,rfl⟩
  |cons=>exact J.elim
 |[],_::_,_,_,_,y=>by simp[cA]at y
 |_::_,[],_,_,_,y=>by simp[cA]at y
 |c::cs,l::ls,us,g,J,y=>by
  cases us with
  |nil=>exact J.elim
  |cons u us =>
   simp only[cA]at y;split at y
   ·rename_i g1 O;split at y
    ·rename_i g2 M;simp only[BV]at y;subst y;obtain⟨h1,X,h3,h4⟩:=nu h J.1.1 O;obtain⟨h5,Z,h7,h8⟩:=mB h J.2 M;refine⟨⟨u,us,rfl,h1.carry (λk I=>⟨i9 (by intro h;simp[h]) (λx H=>B7 _ H) k I,rfl⟩) (λk I=>⟨kQ (λx H=>B7 _ H) (λx H=>B7 _ H) k I,rfl⟩),
      h5.carry (λk I=>⟨i9 (by intro h;simp[h]) (λx H=>BZ _ H) k I,rfl⟩) (λk I=>⟨kQ (λx H=>BZ _ H) (λx H=>BZ _ H) k I,rfl⟩)⟩,?_,rfl,rfl⟩
     intro z Y;exact (B9.1 Y).elim (X z) (Z z)
    ·cases y
   ·cases y
theorem wI {W:Wit}{w:World}{c:Bool×Bool×(a:Ty)×a.den}{v:Value}(h:iR V W w c v):aI P V W st w [] (eR c) v/\¬ ao (eR c)/\v.oneCell'=true:=by
 unfold iR at h;unfold eR;split at h
 ·rename_i u;rw[u];refine⟨h,id,?_⟩;obtain⟨b,I,g,H,z,y,_⟩:=h;rw[y];rfl
 ·rename_i u;have u:c.2.1=false:=by simpa using u
  rw[u];refine⟨h,id,?_⟩;obtain⟨g,H,z,y,_⟩:=h;rw[y];rfl
theorem qQ {W:Wit}{w:World}{caps:List (Bool×Bool×(a:Ty)×a.den)}{us:List Value}(H:us.length=caps.length)(h:∀ (i:Nat) (c:Bool×Bool×(a:Ty)×a.den) (u:Value),caps[i]?=some c->us[i]?=some u->iR V W w c u) :
  aC P V W st w (caps.map eR) us :=
 aC.mk (by simp[H]) λj l v y z=>by
  rw[List.getElem?_map,BW]at y;obtain⟨c,I,rfl⟩:=y;exact wI (h j c v I z)
theorem qk {W:Wit}{w:World}:∀ (caps:List Nat),(∀ b∈caps,B0<=b/\(st b).sh=.agg)->aC P V W st w (caps.map λb=>Leaf.bp b 0) (caps.map λb=>Value.pointer (some ⟨W.β b,0,none⟩))
 |[],_=>trivial
 |b::caps,h=>⟨⟨⟨(h b (CK ..)).1,(h b (CK ..)).2,rfl⟩,id,rfl⟩,qk caps (λq u=>h q (CD _ u))⟩
theorem nv {off:Nat}{E:TypeId}{e:Ty}{X:List e.den}:∀ {a:Ty} {pos:Nat} {x z:a.den},bO off E e X a pos x=some z->(∃ H,bf off a pos x=some ⟨E,e,H⟩)/\bf off a pos z=some ⟨E,e,X⟩
 |.pair a b,pos,x,z,h=>by
  simp only[bO]at h;split at h
  ·rename_i u I;simp only[BV]at h;subst h;obtain⟨⟨H,O⟩,M⟩:=nv I;exact⟨⟨H,by simp only[bf,O]⟩,by simp only[bf,M]⟩
  ·rename_i hn;simp only[BW]at h;obtain⟨u,I,rfl⟩:=h;have a0:=Mx.back.set_in I;obtain⟨⟨H,O⟩,M⟩:=nv I;have y:bf off a pos x.1=none:=by
    cases Y:bf off a pos x.1 with
    |none=>rfl
    |some u=>have:=gD Y;omega
   exact⟨⟨H,by simp only[bf,y,O]⟩,by simp only[bf,y,M]⟩
 |.list m E' e',pos,Z,z,h=>by
  simp only[bO]at h;cases J:m&&CH pos off with
  |false=>simp[J]at h
  |true =>
   rw[J]at h;simp only[cond_true]at h;obtain⟨rfl,rfl,rfl⟩:=jL h;exact⟨⟨Z,by simp[bf,J]⟩,by simp[bf,J]⟩
 |.int _,_,_,_,h=>by simp[bO]at h
 |.bool,_,_,_,h=>by simp[bO]at h
 |.str,_,_,_,h=>by simp[bO]at h
 |.unit,_,_,_,h=>by simp[bO]at h
 |.hdr,_,_,_,h=>by simp[bO]at h
theorem Mx.refill {w:World}{G:Nat->Prop}{off:Nat}{E:TypeId}{e:Ty}{ys:List e.den}{u:Value}(X:u.oneCell'=true):∀ {a:Ty} {pos:Nat} {x z:a.den} {cs:List Value} {bs:List Nat},Mx w G a (some off) pos x cs bs->bO off E e ys a pos x=some z ->
  Mx w G a (some off) pos z (cs.set (off-pos) u) bs
 |.pair a b,pos,x,z,cs,bs,⟨c1,c2,b1,b2,e1,Z,O,M⟩,h=>by
  have hl:=O.len;simp only[bO]at h;split at h
  ·rename_i y J;simp only[BV]at h;subst h;have Y:=Mx.back.set_in J;refine⟨c1.set (off-pos) u,c2,b1,b2,?_,Z,Mx.refill X O J,M⟩;rw[e1,List.set_append_left _ _ (by omega)]
  ·simp only[BW]at h;obtain⟨y,J,rfl⟩:=h;have Y:=Mx.back.set_in J;refine⟨c1,c2.set (off-(pos+a.cells)) u,b1,b2,?_,Z,O,Mx.refill X M J⟩;rw[e1,List.set_append_right _ _ (by omega),hl,show off-pos-a.cells=off-(pos+a.cells) by omega]
 |.list m E' e',pos,xs,z,cs,bs,H,h=>by
  simp only[bO]at h;cases I:m&&CH pos off with
  |false=>simp[I]at h
  |true =>
   simp only[BX]at I;obtain⟨rfl,I⟩:=I;have I:=B6 I;subst I;rw[jd]at H ⊢;obtain⟨v,rfl,O,M⟩:=H;exact⟨u,by simp,X,M⟩
 |.int _,_,_,_,_,_,_,h=>by simp[bO]at h
 |.bool,_,_,_,_,_,_,h=>by simp[bO]at h
 |.str,_,_,_,_,_,_,h=>by simp[bO]at h
 |.unit,_,_,_,_,_,_,h=>by simp[bO]at h
 |.hdr,_,_,_,_,_,_,h=>by simp[bO]at h
theorem aC.setNil {W:Wit}{w:World}{ls:List Leaf}{cs:List Value}(I:aC P V W st w ls cs)(c:Nat):aC P V W st w (aT ls c .nil) (cs.set c (.slice none 0 0)):=by
 have y:=I.length;refine aC.mk (by simp[aT,y]) λj l v H u=>?_
 rcases aS _ _ _ _ _ H with ⟨rfl,rfl,J⟩|⟨z,H⟩
 ·rw[Cs (by omega)]at u;simp only[BV]at u;subst u;exact⟨rfl,id,rfl⟩
 ·rw[Ck (Cl z)]at u;exact I.at_ j l v H u
def wJ (P:Program)(V:Env)(W:Wit)(st:St)(w:World)(pk:PK)(v:Value)(g:Got pk.den):Prop :=
 (∃ u,oh P w (bq V W g.p g.frz) (jQ V W st g.frz g.see) pk g.val v u/\u=g.lend.map W.β++aZ W g.kill)/\(∀ z∈g.frz,aB st z)/\(∀ z∈g.kill,aB st z)/\(∀ b∈g.lend,live st b)
theorem ny (hV:ay V){W:Wit}{a:Act}{w:World}(h:ap P V W st a w){pk:PK}{x:aG×List Leaf}{v:Value}{cs:List Value}(hs:ei x.1 v cs)(hl:aC P V W st w x.2 cs)
  {g:Got pk.den} (u:bi st pk x=some g):wJ P V W st w pk v g:=by
 obtain⟨sh,ls⟩:=x;have Y:∀ {b:Ty} {g:Got b.den},(bif decide (sh=bk b.isAgg) then (ch st b ls).map (λt=>(⟨t.p,t.val,t.frz,t.kill,[],[]⟩:Got b.den)) else none)=some g ->
   (∃ cs,db b.isAgg v cs/\Mx w (bq V W g.p g.frz) b none 0 g.val cs (aZ W g.kill))/\g.lend=[]/\g.see=[]/\(∀ z∈g.frz,aB st z)/\(∀ z∈g.kill,aB st z):=by
  intro b g hq;cases I:decide (sh=bk b.isAgg) with
  |false=>simp[I]at hq
  |true =>
   rw[I]at hq;simp only[cond_true,BW]at hq;have M:=of_decide_eq_true I;subst M;obtain⟨t,ht,rfl⟩:=hq;obtain⟨X,J,O⟩:=dP (pos:=0) h hl ht;exact⟨⟨cs,gF hs,X⟩,rfl,rfl,J,O⟩
 cases pk with
 |rd b =>
  simp only[bi]at u;cases I:decide (sh=bk b.isAgg) with
  |false=>simp[I]at u
  |true =>
   rw[I]at u;simp only[cond_true,BW]at u;have M:=of_decide_eq_true I;subst M;obtain⟨⟨p,y⟩,hy,rfl⟩:=u;exact⟨⟨[],⟨rfl,cs,gF hs,eE h hl hy⟩,rfl⟩,λz hz=>eq hl hz,by simp[Got.ofRd],by simp[Got.ofRd]⟩
 |own b =>
  obtain⟨X,J,O,Z,h5⟩:=Y u;exact⟨⟨_,X,by rw[J];rfl⟩,Z,h5,by rw[J];simp⟩
 |io b =>
  obtain⟨X,J,O,Z,h5⟩:=Y u;exact⟨⟨_,X,by rw[J];rfl⟩,Z,h5,by rw[J];simp⟩
 |iop b =>
  simp only[bi]at u;split at u
  ·rename_i q hx;cases I:decide ((st q).sh=.agg) with
   |false=>simp[I]at u
   |true =>
    simp only[I,cond_true,BW]at u;obtain⟨t,ht,rfl⟩:=u;obtain⟨H,hv⟩:=gU hs hl hx (by simp);obtain⟨hB,a5,b4⟩:=H;rcases h.boxes q hB with ⟨h8,_⟩|⟨_,E,h8⟩
    ·rw[a5]at h8;cases h8
    ·obtain⟨X,J,O⟩:=dP (pos:=0) h (iD h q) ht;exact⟨⟨_,⟨W.β q,W.cs q,E,_,b4,h8,X,rfl⟩,rfl⟩,J,O,λb' M=>by simp at M;subst M;exact⟨hB,a5⟩⟩
  ·cases u
 |rref b =>
  simp only[bi]at u;have hd:cm (sh,ls)≠.dead:=by
   intro e;rw[e]at u;simp[fk,target]at u
  obtain⟨H,hv⟩:=gU hs hl rfl hd;obtain⟨X,J,O,Z⟩:=nu (c:=(false,b)) h H u;exact⟨⟨[],⟨rfl,X⟩,by rw[O,Z];rfl⟩,J,by rw[O];simp,by rw[Z];simp⟩
 |rref2 b =>
  simp only[bi]at u;have hd:cm (sh,ls)≠.dead:=by
   intro e;rw[e]at u;simp[fk,target]at u
  obtain⟨H,hv⟩:=gU hs hl rfl hd;obtain⟨X,J,O,Z⟩:=nu (c:=(true,b)) h H u;exact⟨⟨[],⟨rfl,X⟩,by rw[O,Z];rfl⟩,J,by rw[O];simp,by rw[Z];simp⟩
 |fn As B =>
  simp only[bi]at u;split at u
  ·rename_i As' B' φ hx;obtain⟨H,hv⟩:=gU hs hl hx (by simp);split at u
   ·rename_i hh;obtain⟨rfl,rfl⟩:=hh;simp only[BV]at u;subst u;have hf:il P V.w0 V.prot As' B' φ v:=H;exact⟨⟨[],⟨rfl,il.move h.size (λk hk=>⟨.inr (.inl hk),h.keep k hk⟩) hf⟩,rfl⟩,by simp,by simp,by simp⟩
   ·cases u
  ·cases u
 |clo f ba =>
  simp only[bi]at u;split at u
  ·rename_i f' a2 hx;cases I:CH f' f with
   |false=>simp[I]at u
   |true =>
    simp only[I,cond_true]at u;have I:=B6 I;subst I;obtain⟨H,hv⟩:=gU hs hl hx (by simp);obtain⟨X,J⟩:=H;obtain⟨O,Z,h5,h6⟩:=mB h (qk a2 J) u;exact⟨⟨[],⟨rfl,_,X,O⟩,by rw[h5,h6];rfl⟩,Z,by rw[h5];simp,by rw[h6];simp⟩
  ·rename_i f' a2 hx;cases I:CH f' f with
   |false=>simp[I]at u
   |true =>
    simp only[I,cond_true]at u;have I:=B6 I;subst I;obtain⟨H,hv⟩:=gU hs hl hx (by simp);obtain⟨us,X,J,h7⟩:=H;obtain⟨O,Z,h5,h6⟩:=mB h (qQ J h7) u;exact⟨⟨[],⟨rfl,us,X,O⟩,by rw[h5,h6];rfl⟩,Z,by rw[h5];simp,by rw[h6];simp⟩
  ·cases u
 |hol b c off =>
  simp only[bi]at u;cases I:decide (sh=bk b.isAgg) with
  |false=>simp[I]at u
  |true =>
   rw[I]at u;simp only[cond_true]at u;have M:=of_decide_eq_true I;subst M;split at u
   ·rename_i r' j n a0;split at u
    ·rename_i p i o' E e xs hd;cases a1:CH o' off with
     |false=>simp[a1]at u
     |true =>
      rw[a1]at u;simp only[cond_true]at u;have a1:=B6 a1;subst a1;split at u
      ·rename_i t ht;split at u
       ·rename_i y hy;simp only[BV]at u;subst u;have a4:ls[c]?=some (.al r' j n):=by
         rw[Ca]at a0;cases hq:ls[c]? with
         |none=>rw[hq]at a0;simp at a0
         |some l0=>rw[hq]at a0;simp at a0;rw[a0]
        have a9:c<cs.length:=by rw[<- hl.length];exact (BY.1 a4).1
        have a3:=CG a9;obtain⟨H,_,a6⟩:=hl.at_ c _ _ a4 a3;obtain⟨_,b1,b5,_⟩:=km h hd H;obtain⟨X,J,O⟩:=dP (pos:=0) h (hl.setNil c) ht;obtain⟨⟨bl,ad⟩,b3⟩:=nv hy;obtain⟨v0,bn,b0,g1,g2,g3,g4⟩:=X.out ad;have b2:bn=[]:=by
         simp only[DE,Cs a9,BV]at g2;obtain⟨b9,bb,q1,q2,_⟩:=g1;obtain⟨A,bx,q4,_⟩:=q1.slice;rw[<- g2]at q2 q4;simp only[CU]at q4;rw[q2,<- q4.2.1];rfl
        have g5:=Mx.refill a6 g3 hy;simp only[DE,List.set_set,List.set_getElem_self]at g5;refine⟨⟨_,⟨cs,cs[c],b0,W.bs r' j,E,e,xs,gF hs,g5.mono (i9 (by intro h;simp[h]) (λ_ h=>h)),a3,b3,
         b1.2.carry (λk hk=>.inl (bW (W':=W) (by intro h;simp[h]) (λ_ h=>h) k hk)) (λ_ _=>rfl) (λ_ _=>rfl),λk=>?_⟩,rfl⟩,J,?_,by simp⟩
        ·have:=g4 k;rw[b2]at this;simp only[DW,Ds];rw[show aZ W ((r',j)::t.kill)=W.bs r' j++aZ W t.kill from rfl,B3,this];simp;omega
        ·intro z hz;rcases Cn.1 hz with rfl|hz
         ·exact⟨_,b5,trivial⟩
         ·exact O z hz
       ·cases u
      ·cases u
    ·cases u
   ·cases u
end
section
variable {P:Program} {V:Env} {Γ:List Ctr} {T:TypeId->TI} {st:St} {o:Oper} {R:Type} {κ:Upd->Option R} {r:R}
def gW (P:Program)(V:Env)(W:Wit)(st:St)(w:World):List (aG×List Leaf)->List Value->Prop
 |[],y=>y=[]
 |x::H,y=>∃ v u z,y=v::u/\ei x.1 v z/\aC P V W st w x.2 z/\gW P V W st w H u
theorem kx {W:Wit}{w:World}{ga:(pk:PK)->aG×List Leaf->Option (Got pk.den)}
  (H:∀ (pk:PK) (x:aG×List Leaf) (v:Value) (cs:List Value) (g:Got pk.den),ei x.1 v cs->aC P V W st w x.2 cs->ga pk x=some g->wJ P V W st w pk v g) :
  ∀ (ps:List PK) (xs:List (aG×List Leaf)) (X:List Value) (g:Got (ab ps)),gW P V W st w xs X->bd ga ps xs=some g ->
   (∃ I,c9 P w (bq V W g.p g.frz) (jQ V W st g.frz g.see) ps g.val X I/\∀ k,I.flatten.count k=(g.lend.map W.β).count k+(aZ W g.kill).count k) /\
    (∀ z∈g.frz,aB st z)/\(∀ z∈g.kill,aB st z)/\(∀ b∈g.lend,live st b)
 |[],[],X,g,u,y=>by
  simp only[bd,BV]at y;subst y;exact⟨⟨[],⟨u,rfl⟩,λk=>by simp[aZ]⟩,by simp,by simp,by simp⟩
 |[],_::_,_,_,_,y=>by simp[bd]at y
 |_::_,[],_,_,_,y=>by simp[bd]at y
 |p::ps,x::xs,X,g,u,y=>by
  obtain⟨v,O,cs,rfl,hs,hl,J⟩:=u;simp only[bd]at y;split at y
  ·rename_i g1 a0;split at y
   ·rename_i g2 Y;simp only[BV]at y;subst y;obtain⟨⟨b,h1,h2⟩,h3,h4,h5⟩:=H p x v cs g1 hs hl a0;obtain⟨⟨I,h6,h7⟩,h8,h9,Z⟩:=kx H ps xs O g2 J Y;refine⟨⟨b::I,⟨v,O,b,I,rfl,rfl,h1.mono (i9 (by intro h;simp[h]) (λx u=>B7 _ u)) (kQ (λx u=>B7 _ u) (λx u=>B7 _ u)),
     h6.mono (i9 (by intro h;simp[h]) (λx u=>BZ _ u)) (kQ (λx u=>BZ _ u) (λx u=>BZ _ u))⟩,λk=>?_⟩,?_,?_,?_⟩
    ·rw[CL,B3,h7 k,h2,B3,Do,B3,dK,B3];omega
    ·intro z M;exact (B9.1 M).elim (h3 z) (h8 z)
    ·intro z M;exact (B9.1 M).elim (h4 z) (h9 z)
    ·intro z M;exact (B9.1 M).elim (h5 z) (Z z)
   ·cases y
  ·cases y
theorem nz:∀ {Γ:List Ctr} {f:FuncId} {c:Ctr},lS Γ f=some c->c∈Γ/\c.f=f
 |[],_,_,h=>by simp[lS]at h
 |y::Γ,f,c,h=>by
  simp only[lS]at h;cases u:CH y.f f with
  |true =>
   simp only[u,cond_true,BV]at h;subst h;exact⟨CK ..,B6 u⟩
  |false =>
   simp only[u,cond_false]at h;obtain⟨H,z⟩:=nz h;exact⟨CD _ H,z⟩
theorem tM {w:World}{G pr:Nat->Prop}{q:List PK}{z:ab q}{cv:List Value}{H:List (List Nat)}(J:c9 P w G pr q z cv H):∀ (y:List Ty) (x:Tup y) (u:List Value),sn w G y x u ->
  c9 P w G pr (y.map .rd++q) (nS q z y x) (u++cv) (y.map (λ_=>[])++H)
 |[],_,_,h=>by rw[show _=_ from h];exact J
 |a::y,x,_,⟨v,c,I,rfl,X,M,O⟩=>⟨v,I++cv,[],_,rfl,rfl,⟨rfl,c,X,M⟩,tM J y x.2 I O⟩
theorem ql {w:World}{ro pr:Nat->Prop}:∀ {ps:List PK} {x:ab ps} {H:List Value} {u:List (List Nat)},ps.all PK.reads=true->c9 P w ro pr ps x H u->u.flatten=[]
 |[],_,_,_,_,⟨_,e⟩=>by rw[e];rfl
 |p::ps,_,_,_,h,⟨v,I,b,y,_,e,J,z⟩=>by
  simp only[DT,BX]at h;rw[e,CL,ql h.2 z,CO];cases p <;> first|exact J.1|simp[PK.reads]at h
theorem qm {w w1:World}{ro pr ro' I:Nat->Prop}(u:∀ k,ro k->ro' k/\w1.heap[k]?=w.heap[k]?)(y:∀ k,pr k->I k/\w1.heap[k]?=w.heap[k]?):∀ {ps:List PK} {x:ab ps} {Y:List Value} {J:List (List Nat)},
  ps.all PK.reads=true->c9 P w ro pr ps x Y J->c9 P w1 ro' I ps x Y J
 |[],_,_,_,_,h=>h
 |p::ps,x,_,_,M,⟨v,X,b,z,e,Z,H,h2⟩=>by
  simp only[DT,BX]at M;refine⟨v,X,b,z,e,Z,?_,qm u y M.2 h2⟩;cases p with
  |rd a =>
   obtain⟨h0,cs,h3,h4⟩:=H;exact⟨h0,cs,h3,h4.carry (λk O=>(u k O).1) (λk O=>(u k O).2)⟩
  |rref a=>exact⟨H.1,H.2.carry u y⟩
  |rref2 a=>exact⟨H.1,H.2.carry u y⟩
  |_=>simp[PK.reads]at M
theorem mC (z:ay V){W:Wit}{p:Bool}{ks:List (Nat×Nat)}{y:List Nat}:∀ k,bq V W p ks k->jQ V W st ks y k:=by
 rintro k ((u|⟨_,u⟩)|u)
 ·exact .inl u
 ·exact .inr (.inl (z.ro k u))
 ·exact .inr (.inr (.inr u))
theorem rK {W:Wit}{ks:List (Nat×Nat)}{y:List Nat}(H:∀ z∈ks,aB st z):∀ k,jQ V W st ks y k->ce V W st k:=by
 rintro k (u|u|⟨b,_,M,e⟩|⟨x,I,u⟩)
 ·exact .inl u
 ·exact .inr (.inl u)
 ·exact .inr (.inr (.inl ⟨b,M,e⟩))
 ·obtain⟨l,O,J⟩:=H x I;exact .inr (.inr (.inr ⟨x.1,x.2,l,O,J,u⟩))
theorem sx {W:Wit}{w:World}:∀ {ls:List Leaf} {us:List Value},aC P V W st w ls us->gW P V W st w (ls.map λl=>(aG.one,[l])) us
 |[],[],_=>rfl
 |_::_,_::_,h=>⟨_,_,[_],rfl,rfl,⟨h.1,trivial⟩,sx h.2⟩
theorem yi (hV:ay V)(hΓ:∀ c∈Γ,bR P c){W:Wit}{a:Act}{w:World}(h:ap P V W st a w){Z:List Ty}{B:Ty}{f:FuncId}{ls:List Leaf}{us:List Value}{v:Value}(hv:v=.func (.func f) #[] us.toArray)(c0:aC P V W st w ls us)
  {g:Got (Tup Z->Option B.den)} (H:kA Γ st Z B f ls=some g):il P w (jQ V W st g.frz g.see) Z B g.val v/\(∀ z∈g.frz,aB st z)/\g.kill=[]/\g.lend=[]:=by
 unfold kA at H;split at H
 ·rename_i c hc;obtain⟨b1,rfl⟩:=nz hc;obtain⟨a1,J⟩:=hΓ c b1;obtain⟨f',ps,rs,a3,cb⟩:=c;simp only at H a1 J hv;generalize ps.drop Z.length=q at H;unfold sk at H;split at H
  ·rename_i hh;obtain⟨rfl,rfl⟩:=hh;cases hb:q.all PK.reads&&B.flat&&a3 with
   |false=>simp[hb]at H
   |true =>
    simp only[hb,cond_true]at H;simp only[BX]at hb;obtain⟨⟨a9,bb⟩,bn⟩:=hb;subst bn;split at H
    ·rename_i g0 b5;simp only[BV]at H;subst H;obtain⟨⟨a5,h1,h2⟩,h3,h4,h5⟩:=kx (λpk x v cs g hs hl H=>ny hV h hs hl H) q _ _ g0 (sx c0) b5;have b4:=ql a9 h1;refine⟨⟨f',us.toArray,hv,a1,λw1 c1 X x I y hx hy=>?_⟩,h3,rfl,rfl⟩;simp only[BW]at hy;obtain⟨y0,b0,rfl⟩:=hy;have M:(Z.map (λ_=>([]:List Nat))++a5).flatten=[]:=by
      rw[List.flatten_append,b4,CO];clear hx b0;induction Z with
      |nil=>rfl
      |cons a Z ih=>simp
     have b3:∀ k,jQ V W st g0.frz g0.see k->k<w1.heap.size:=λk O=>Cf (h.used_lt k (rK h3 k O)) c1
     have a4:=tM (P:=P) (pr:=λk=>k<w1.heap.size/\k∉(Z.map (λ_=>([]:List Nat))++a5).flatten)
      (qm (P:=P) (w1:=w1) (ro':=λk=>k<w1.heap.size) (λk O=>⟨b3 k (mC hV k O),X k (mC hV k O)⟩)
       (λk O=>⟨⟨b3 k O,by rw[M];simp⟩,X k O⟩) a9 h1) Z x I hx
     have a0:=J w1 (λk=>k<w1.heap.size) (nS q g0.val Z x) (I++us) (Z.map (λ_=>[])++a5) y0 a4
      (λk O=>⟨O,by rw[M];simp⟩) (by rw[M];exact Dt) b0
     have a2:I.toArray++us.toArray=(I++us).toArray:=by simp
     rw[a2];refine a0.mono λe w2 a6=>?_
     obtain⟨u,cc,N,c4,c6,rfl,Y,b2,bl,c2,b9,ba,_,_,ad,_,_⟩:=a6;obtain⟨u1,c5,b,c3,e1,e2,⟨cs,bx,hm⟩,e3,e4⟩:=ad;subst e3;subst e1;have Y:u=u1:=Y;subst Y;exact⟨u,cs,rfl,bx,ka bb hm,⟨bl,c2,b9,b2,λk O=>ba k O (by rw[M];simp)⟩⟩
    ·cases H
  ·cases H
 ·cases H
theorem uO (X:ay V)(hΓ:∀ c∈Γ,bR P c){W:Wit}{a:Act}{w:World}(h:ap P V W st a w)(pk:PK)(x:aG×List Leaf)(v:Value)(cs:List Value)(g:Got pk.den)(Z:ei x.1 v cs)(O:aC P V W st w x.2 cs)
  (H:cd Γ st pk x=some g):wJ P V W st w pk v g:=by
 cases pk with
 |fn As B =>
  simp only[cd]at H;split at H
  ·rename_i Y y;have J:(∃ u,cm x=.clo Y.1 u/\Y.2=u.map λb=>Leaf.bp b 0)\/∃ u,cm x=.clr Y.1 u/\Y.2=u.map eR:=by
    generalize cm x=l at y;cases l <;> simp only[vI,BV,reduceCtorEq]at y
    ·subst y;exact .inl ⟨_,rfl,rfl⟩
    ·subst y;exact .inr ⟨_,rfl,rfl⟩
   rcases J with ⟨u,J,he⟩|⟨u,J,he⟩
   ·obtain⟨z,_⟩:=gU Z O J (by simp);rw[he]at H;obtain⟨h1,h2,I,M⟩:=yi X hΓ h z.1 (qk u z.2) H;exact⟨⟨[],⟨rfl,h1⟩,by rw[I,M];rfl⟩,h2,by rw[I];simp,by rw[M];simp⟩
   ·obtain⟨z,_⟩:=gU Z O J (by simp);rw[he]at H;obtain⟨us,e1,e2,e3⟩:=z;obtain⟨h1,h2,I,M⟩:=yi X hΓ h e1 (qQ e2 e3) H;exact⟨⟨[],⟨rfl,h1⟩,by rw[I,M];rfl⟩,h2,by rw[I];simp,by rw[M];simp⟩
  ·exact ny X h Z O H
 |_=>exact ny X h Z O H
end
section
variable {P:Program} {V:Env} {W:Wit} {st st':St} {w w':World} {a:Act}
theorem iO {G:Nat->Prop}{p:Bool}(hG:∀ k,G k->gd V W p k):∀ {b:Ty} {pos:Nat} {x:b.den} {cs:List Value} {bs:List Nat},Mx w G b none pos x cs bs->bs.Nodup ->
  ∃ Z:Nat->List Nat,(aq p b x).length=cs.length /\
   (∀ (j:Nat) (l:Leaf) (u:Value),(aq p b x)[j]?=some l->cs[j]?=some u->aI P V W st w (Z j) l u) /\
   (∀ (j:Nat) (l:Leaf),(aq p b x)[j]?=some l->ao l->∀ k∈Z j,k∈bs) /\
   (∀ (j J:Nat) (l l':Leaf),(aq p b x)[j]?=some l->ao l->(aq p b x)[J]?=some l'->ao l'->∀ k,k∈Z j->k∈Z J->j=J)
 |.int k,_,x,cs,bs,H,_=>by
  obtain⟨rfl,rfl⟩:=H;exact⟨λ_=>[],rfl,λj l u y R=>by cases j with|zero=>simp[aq]at y R;subst y;subst R;rfl|succ j=>simp[aq]at y,λj l y _ k r=>by simp at r,λj J l l' _ _ _ _ k r=>by simp at r⟩
 |.bool,_,x,cs,bs,H,_=>by
  obtain⟨rfl,rfl⟩:=H;exact⟨λ_=>[],rfl,λj l u y R=>by cases j with|zero=>simp[aq]at y R;subst y;subst R;rfl|succ j=>simp[aq]at y,λj l y _ k r=>by simp at r,λj J l l' _ _ _ _ k r=>by simp at r⟩
 |.str,_,x,cs,bs,H,_=>by
  obtain⟨rfl,rfl⟩:=H;exact⟨λ_=>[],rfl,λj l u y R=>by cases j with|zero=>simp[aq]at y R;subst y;subst R;rfl|succ j=>simp[aq]at y,λj l y _ k r=>by simp at r,λj J l l' _ _ _ _ k r=>by simp at r⟩
 |.unit,_,x,cs,bs,H,_=>by
  obtain⟨rfl,rfl⟩:=H;exact⟨λ_=>[],rfl,λj l u y R=>by simp[aq]at y,λj l y _ k r=>by simp at r,λj J l l' _ _ _ _ k r=>by simp at r⟩
 |.hdr,_,x,cs,bs,H,_=>by
  obtain⟨⟨A,a2,rfl⟩,rfl⟩:=H;exact⟨λ_=>[],rfl,λj l u y R=>by cases j with|zero=>simp[aq]at y R;subst y;subst R;exact⟨A,a2,rfl⟩|succ j=>simp[aq]at y,λj l y _ k r=>by simp at r,λj J l l' _ _ _ _ k r=>by simp at r⟩
 |.pair b c,pos,x,cs,bs,⟨c1,c2,b1,b2,e1,e2,y,R⟩,Y=>by
  subst e1;subst e2;rw[Cc]at Y;obtain⟨d1,f1,f2,f3,f4⟩:=iO hG y Y.1;obtain⟨d2,g1,g2,g3,g4⟩:=iO hG R Y.2.1;have a4:=cI p b x.1;have a5:=y.len;have I:∀ (j:Nat) (l:Leaf),(aq p b x.1++aq p c x.2)[j]?=some l->(j<b.cells/\(aq p b x.1)[j]?=some l)\/(b.cells<=j/\(aq p c x.2)[j-b.cells]?=some l):=by
   intro j l z;by_cases O:j<b.cells
   ·rw[B5 (by omega)]at z;exact .inl ⟨O,z⟩
   ·rw[B4 (by omega),a4]at z;exact .inr ⟨by omega,z⟩
  refine⟨λj=>if j<b.cells then d1 j else d2 (j-b.cells),by simp only[aq,CF];omega,λj l u z hu=>?_,λj l z ho k r=>?_,λj J l l' z ho X a0 k r M=>?_⟩
  ·rcases I j l z with ⟨O,z⟩|⟨a3,z⟩
   ·rw[B5 (by omega)]at hu;simp only[if_pos O];exact f2 j l u z hu
   ·rw[B4 (by omega),a5]at hu;simp only[if_neg (show ¬ j<b.cells by omega)];exact g2 _ l u z hu
  ·rcases I j l z with ⟨O,z⟩|⟨a3,z⟩
   ·simp only[if_pos O]at r;exact B7 _ (f3 j l z ho k r)
   ·simp only[if_neg (show ¬ j<b.cells by omega)]at r;exact BZ _ (g3 _ l z ho k r)
  ·rcases I j l z with ⟨O,z⟩|⟨a3,z⟩ <;> rcases I J l' X with ⟨a1,X⟩|⟨a6,X⟩
   ·simp only[if_pos O]at r;simp only[if_pos a1]at M;exact f4 j J l l' z ho X a0 k r M
   ·simp only[if_pos O]at r;simp only[if_neg (show ¬ J<b.cells by omega)]at M;exact absurd rfl (Y.2.2 k (f3 j l z ho k r) k (g3 _ l' X a0 k M))
   ·simp only[if_neg (show ¬ j<b.cells by omega)]at r;simp only[if_pos a1]at M;exact absurd rfl (Y.2.2 k (f3 J l' X a0 k M) k (g3 _ l z ho k r))
   ·simp only[if_neg (show ¬ j<b.cells by omega)]at r;simp only[if_neg (show ¬ J<b.cells by omega)]at M;have:=g4 _ _ l l' z ho X a0 k r M;omega
 |.list m E e,pos,xs,cs,bs,H,Y=>by
  cases m with
  |false =>
   rw[co]at H;obtain⟨rfl,A,a2,rfl,R,h3⟩:=H;refine⟨λ_=>[],rfl,λj l u y h4=>?_,λj l y _ k r=>by simp at r,λj J l l' _ _ _ _ k r=>by simp at r⟩;cases j with
   |zero =>
    simp[aq]at y h4;subst y;subst h4;exact Rd.mono hG (⟨A,a2,rfl,R,h3⟩:Rd w G (.list false E e) xs _)
   |succ j=>simp[aq]at y
  |true =>
   rw[bJ (by simp)]at H;obtain⟨v,rfl,hO⟩:=H;refine⟨λ_=>bs,rfl,λj l u y h4=>?_,λj l y _ k r=>r,λj J l l' y _ h3 _ k _ _=>?_⟩
   ·cases j with
    |zero =>
     simp[aq]at y h4;subst y;subst h4;exact⟨Y,OwB.shy (hO.carry hG (λ_ _=>rfl) (λ_ _=>rfl))⟩
    |succ j=>simp[aq]at y
   ·have h7:j<1:=by simpa[aq]using (BY.1 y).1
    have h8:J<1:=by simpa[aq]using (BY.1 h3).1
    omega
theorem ap.reown (hV:ay V)(h:ap P V W st a w)(r:Nat)(c:bU)(O:Nat->List Nat)(a3:(st r).ver<c.ver)(a1:c.sh=(st r).sh)(a0:c.ls.length=(st r).ls.length)
  (a2:∀ (j:Nat) (l:Leaf) (v:Value),c.ls[j]?=some l->(W.cs r)[j]?=some v->aI P V W st w (O j) l v)
  (Z:∀ (j:Nat) (l:Leaf),c.ls[j]?=some l->ao l->∀ k∈O j,¬ W.nw k/\¬ V.prot k/\(∀ b,live st b->W.β b≠k) /\
   ∀ (r1 j1:Nat) (l1:Leaf),r1≠r->(st r1).ls[j1]?=some l1->ao l1->k∉W.bs r1 j1)
  (a4:∀ (j j':Nat) (l l':Leaf),c.ls[j]?=some l->ao l->c.ls[j']?=some l'->ao l'->∀ k,k∈O j->k∈O j'->j=j') :
  ap P V { W with bs:=λr' j=>if r'=r then O j else W.bs r' j } (ac [(r,c)] st) a w:=by
 have I:∀ b,live (ac [(r,c)] st) b<->live st b:=by
  intro b;rcases am r b c st with ⟨rfl,e⟩|⟨_,e⟩
  ·simp[live,e,a1]
  ·simp[live,e]
 have Y:cE V W { W with bs:=λr' j=>if r'=r then O j else W.bs r' j } st (ac [(r,c)] st) w w:=by
  refine⟨λq=>?_,λb R=>⟨(I b).2 R,rfl⟩,λ_ h=>h,λ_ _=>rfl,λ_ q j' l' J h4 h5=>?_⟩
  ·rcases am r q c st with ⟨rfl,e⟩|⟨y,e⟩
   ·rw[e];exact⟨Nat.le_of_lt a3,λ_=>rfl⟩
   ·rw[e];exact⟨CI _,λ_=>rfl⟩
  ·rcases am r q c st with ⟨rfl,e⟩|⟨y,e⟩
   ·rw[e]at h5;omega
   ·rw[e]at J;exact⟨⟨l',J,h4⟩,by simp[y],λ_ _=>rfl⟩
 exact {
  nt:=h.nt,df:=h.df
  slots:=λt ht=>by
   rcases am r t c st with ⟨rfl,e⟩|⟨_,e⟩
   ·rw[e,a1];exact h.slots t ht
   ·rw[e];exact h.slots t ht
  boxes:=λb R=>by
   rcases am r b c st with ⟨rfl,e⟩|⟨_,e⟩
   ·rw[e,a1];rcases h.boxes b R with ⟨h1,z⟩|h1
    ·refine .inl ⟨h1,?_⟩;rw[z]at a0;exact CJ a0
    ·exact .inr h1
   ·rw[e];exact h.boxes b R
  len:=λq=>by
   rcases am r q c st with ⟨rfl,e⟩|⟨_,e⟩
   ·rw[e,a0];exact h.len q
   ·rw[e];exact h.len q
  one:=h.one
  leaf:=λq j l u z J=>by
   rcases am r q c st with ⟨rfl,e⟩|⟨y,e⟩
   ·rw[e]at z;exact (a2 j l u z J).carry hV.ro Y (λ_=>⟨by simp,λ_ _=>rfl⟩)
   ·rw[e]at z;exact (h.leaf q j l u z J).carry hV.ro Y (λ_=>⟨by simp[y],λ_ _=>rfl⟩)
  ownb:=λq j l z J k M=>by
   rcases am r q c st with ⟨rfl,e⟩|⟨y,e⟩
   ·rw[e]at z;simp only[if_true]at M;have:=Z j l z J k M;exact⟨this.1,this.2.1,λb R=>this.2.2.1 b ((I b).1 R)⟩
   ·rw[e]at z;simp only[y,if_false]at M;have:=h.ownb q j l z J k M;exact⟨this.1,this.2.1,λb R=>this.2.2 b ((I b).1 R)⟩
  sep:=λq j l q' j' l' z J h4 h5 k M H=>by
   rcases am r q c st with ⟨e0,e⟩|⟨y,e⟩ <;> rcases am r q' c st with ⟨e1,e'⟩|⟨X,e'⟩
   ·rw[e]at z;rw[e']at h4;simp only[e0,if_true]at M;simp only[e1,if_true]at H;exact⟨e0.trans e1.symm,a4 j j' l l' z J h4 h5 k M H⟩
   ·rw[e]at z;rw[e']at h4;simp only[e0,if_true]at M;simp only[X,if_false]at H;exact absurd H ((Z j l z J k M).2.2.2 q' j' l' X h4 h5)
   ·rw[e]at z;rw[e']at h4;simp only[y,if_false]at M;simp only[e1,if_true]at H;exact absurd M ((Z j' l' h4 h5 k H).2.2.2 q j l y z J)
   ·rw[e]at z;rw[e']at h4;simp only[y,if_false]at M;simp only[X,if_false]at H;exact h.sep q j l q' j' l' z J h4 h5 k M H
  box:=λb R=>h.box b ((I b).1 R)
  inj:=λb b' R a5=>h.inj b b' ((I b).1 R) ((I b').1 a5)
  nwlt:=h.nwlt
  os:=h.os,tape:=h.tape,output:=h.output,size:=h.size,keep:=h.keep
  fixb:=λx hx=>⟨(I _).2 (h.fixb x hx).1,(h.fixb x hx).2⟩
  fixt:=h.fixt }
theorem ap.reownE (hV:ay V)(h:ap P V W st a w)(r:Nat)(c:bU)(M:Nat->List Nat)(a5:r≠EPO)(a1:(st r).ver<=c.ver)(a6:c.sh=(st r).sh)(a4:c.ls.length=(st r).ls.length)
  (a0:∀ (j:Nat) (l:Leaf) (v:Value),c.ls[j]?=some l->(W.cs r)[j]?=some v->aI P V W st w (M j) l v)
  (Y:∀ (j:Nat) (l:Leaf),c.ls[j]?=some l->ao l->∀ k∈M j,¬ W.nw k/\¬ V.prot k/\(∀ b,live st b->W.β b≠k) /\
   ∀ (r1 j1:Nat) (l1:Leaf),r1≠r->(st r1).ls[j1]?=some l1->ao l1->k∉W.bs r1 j1)
  (a2:∀ (j j':Nat) (l l':Leaf),c.ls[j]?=some l->ao l->c.ls[j']?=some l'->ao l'->∀ k,k∈M j->k∈M j'->j=j') :
  ap P V { W with bs:=λr' j=>if r'=r then M j else W.bs r' j } (ac [(r,c),(EPO,bX (st EPO))] st) a w /\
   (∀ q,(ac [(r,c),(EPO,bX (st EPO))] st q).sh=(st q).sh/\(st q).ver<=(ac [(r,c),(EPO,bX (st EPO))] st q).ver/\(q≠r->(ac [(r,c),(EPO,bX (st EPO))] st q).ls=(st q).ls))/\ac [(r,c),(EPO,bX (st EPO))] st r=c:=by
 have e0:ac [(r,c),(EPO,bX (st EPO))] st=ac [(r,c)] (ac [(EPO,bX (st EPO))] st):=aQ _ _ _ _;generalize hS:ac [(r,c),(EPO,bX (st EPO))] st=S;rw[e0]at hS;have hr:S r=c:=by rw[<- hS,bm]
 have O:∀ q,(S q).sh=(st q).sh/\(st q).ver<=(S q).ver/\(q≠r->(S q).ls=(st q).ls):=by
  intro q;rw[<- hS];rcases am r q c (ac [(EPO,bX (st EPO))] st) with ⟨rfl,e⟩|⟨ad,e⟩
  ·rw[e];exact⟨a6,a1,λh=>absurd rfl h⟩
  ·rw[e];rcases am EPO q (bX (st EPO)) st with ⟨rfl,e⟩|⟨_,e⟩ <;> rw[e]
   ·exact⟨rfl,Dk _,λ_=>rfl⟩
   ·exact⟨rfl,CI _,λ_=>rfl⟩
 have hE:(st EPO).ver<(S EPO).ver:=by
  rw[<- hS,aH (Cl a5),bm];exact CA _
 refine⟨?_,O,hr⟩;have I:∀ b,live S b<->live st b:=λb=>by simp[live,(O b).1]
 have R:cE V W { W with bs:=λr' j=>if r'=r then M j else W.bs r' j } st S w w :=
  ⟨λq=>⟨(O q).2.1,λ_=>rfl⟩,λb X=>⟨(I b).2 X,rfl⟩,λ_ h=>h,λ_ _=>rfl,λhe=>by omega⟩
 have a3:∀ q,(S q).ls.length=(st q).ls.length:=λq=>by
  by_cases y:q=r
  ·rw[y,hr,a4]
  ·rw[(O q).2.2 y]
 exact {
  nt:=h.nt,df:=h.df
  slots:=λt ht=>by rw[(O t).1];exact h.slots t ht
  boxes:=λb X=>by
   rw[(O b).1];rcases h.boxes b X with ⟨h1,z⟩|h1
   ·refine .inl ⟨h1,CJ ?_⟩;rw[a3,z];rfl
   ·exact .inr h1
  len:=λq=>by rw[a3];exact h.len q
  one:=h.one
  leaf:=λq j l u z Z=>by
   by_cases y:q=r
   ·subst y;rw[hr]at z;exact (a0 j l u z Z).carry hV.ro R (λ_=>⟨by simp,λ_ _=>rfl⟩)
   ·rw[(O q).2.2 y]at z;exact (h.leaf q j l u z Z).carry hV.ro R (λ_=>⟨by simp[y],λ_ _=>rfl⟩)
  ownb:=λq j l z Z k J=>by
   by_cases y:q=r
   ·subst y;rw[hr]at z;simp only[if_true]at J;have:=Y j l z Z k J;exact⟨this.1,this.2.1,λb X=>this.2.2.1 b ((I b).1 X)⟩
   ·rw[(O q).2.2 y]at z;simp only[y,if_false]at J;have:=h.ownb q j l z Z k J;exact⟨this.1,this.2.1,λb X=>this.2.2 b ((I b).1 X)⟩
  sep:=λq j l q' j' l' z Z h4 h5 k J H=>by
   by_cases e0:q=r <;> by_cases e1:q'=r
   ·subst e0;subst e1;rw[hr]at z h4;simp only[if_true]at J H;exact⟨rfl,a2 j j' l l' z Z h4 h5 k J H⟩
   ·subst e0;rw[hr]at z;rw[(O q').2.2 e1]at h4;simp only[if_true]at J;simp only[e1,if_false]at H;exact absurd H ((Y j l z Z k J).2.2.2 q' j' l' e1 h4 h5)
   ·subst e1;rw[(O q).2.2 e0]at z;rw[hr]at h4;simp only[e0,if_false]at J;simp only[if_true]at H;exact absurd J ((Y j' l' h4 h5 k H).2.2.2 q j l e0 z Z)
   ·rw[(O q).2.2 e0]at z;rw[(O q').2.2 e1]at h4;simp only[e0,if_false]at J;simp only[e1,if_false]at H;exact h.sep q j l q' j' l' z Z h4 h5 k J H
  box:=λb X=>h.box b ((I b).1 X)
  inj:=λb b' X a9=>h.inj b b' ((I b).1 X) ((I b').1 a9)
  nwlt:=h.nwlt
  os:=h.os,tape:=h.tape,output:=h.output,size:=h.size,keep:=h.keep
  fixb:=λx hx=>⟨(I _).2 (h.fixb x hx).1,(h.fixb x hx).2⟩
  fixt:=h.fixt }
theorem ap.nwGrow (O:ay V)(h:ap P V W st a w)(N:Nat->Prop)(M:∀ k,N k->k<w.heap.size/\¬ ce V W st k):ap P V { W with nw:=λk=>W.nw k\/N k } st a w:=by
 have H:cE V W { W with nw:=λk=>W.nw k\/N k } st st w w:=⟨λr=>⟨CI _,λ_=>rfl⟩,λb J=>⟨J,rfl⟩,λ_ h=>.inl h,λ_ _=>rfl,λ_ _ _ l y z _=>⟨⟨l,y,z⟩,rfl,λ_ _=>rfl⟩⟩
 exact {
  nt:=h.nt,df:=h.df,slots:=h.slots,boxes:=h.boxes,len:=h.len,one:=h.one
  leaf:=λr j l v y z=>(h.leaf r j l v y z).carry O.ro H (λ_=>⟨rfl,λ_ _=>rfl⟩)
  ownb:=λr j l y z k u=>⟨λI=>I.elim (h.ownb r j l y z k u).1 (λI=>(M k I).2 (.inr (.inr (.inr ⟨r,j,l,y,z,u⟩)))),(h.ownb r j l y z k u).2⟩
  sep:=h.sep
  box:=λb J=>⟨λI=>I.elim (h.box b J).1 (λI=>(M _ I).2 (.inr (.inr (.inl ⟨b,J,rfl⟩)))),(h.box b J).2⟩
  inj:=h.inj
  nwlt:=λk u=>u.elim (h.nwlt k) (λu=>⟨(M k u).1,λR=>(M k u).2 (.inr (.inl R))⟩)
  os:=h.os,tape:=h.tape,output:=h.output,size:=h.size,keep:=h.keep,fixb:=h.fixb,fixt:=h.fixt }
end
def eP:List Leaf->List Leaf->List (Nat×Nat)
 |.al r j _::u,l::y=>(match l with|.own _ _ _ _ _=>[(r,j)]|_=>[])++eP u y
 |_::u,_::y=>eP u y
 |_,_=>[]
section
variable {P:Program} {V:Env} {st st':St} {w w':World} {a:Act}
theorem nA {x l:Leaf}{xs ls:List Leaf}(h:¬ ao l):eP (x::xs) (l::ls)=eP xs ls:=by
 cases x <;> try rfl
 cases l <;> first|exact absurd trivial h|rfl
theorem vq {k:IntKind}{ls:List Leaf}{x:Bool×(Ty.int k).den×List Leaf}(h:bc st (.int k) ls=some x):∃ l,ls=l::x.2.2:=by
 simp only[bc]at h;split at h
 ·split at h
  ·simp only[BV]at h;subst h;exact⟨_,rfl⟩
  ·cases h
 ·cases h
theorem tN {ls:List Leaf}{x:Bool×Ty.bool.den×List Leaf}(h:bc st .bool ls=some x):∃ l,ls=l::x.2.2:=by
 simp only[bc]at h;split at h
 ·simp only[BV]at h;subst h;exact⟨_,rfl⟩
 ·cases h
theorem vr {ls:List Leaf}{x:Bool×Ty.str.den×List Leaf}(h:bc st .str ls=some x):∃ l,ls=l::x.2.2:=by
 simp only[bc]at h;split at h
 ·simp only[BV]at h;subst h;exact⟨_,rfl⟩
 ·cases h
theorem vt {ls:List Leaf}{x:Bool×Ty.hdr.den×List Leaf}(h:bc st .hdr ls=some x):∃ l,ls=l::x.2.2:=by
 simp only[bc]at h;split at h
 ·split at h
  ·simp only[BV]at h;subst h;exact⟨_,rfl⟩
  ·cases h
 ·cases h
theorem lg {p:Bool}:∀ (b:Ty) (ls:List Leaf) (t:cK b.den),take st b ls=some t->∀ (y:b.den) (r:List Leaf),eP ls (aq p b y++r)=t.kill++eP t.rest r
 |.pair b c,ls,t,h,y,r=>by
  simp only[take]at h;split at h
  ·rename_i u I;split at h
   ·rename_i v J;simp only[BV]at h;subst h;simp only[aq];rw[CE,lg b ls u I y.1,lg c u.rest v J y.2,CE]
   ·cases h
  ·cases h
 |.unit,ls,t,h,y,r=>by
  simp only[take,BV]at h;subst h;rfl
 |.list m E e,ls,t,h,y,r=>by
  cases ls with
  |nil=>simp[take]at h
  |cons l ls =>
   cases m with
   |false =>
    simp only[take,cond_false]at h;split at h
    ·simp only[BV]at h;subst h;exact nA id
    ·cases h
   |true =>
    simp only[take,cond_true]at h;split at h
    ·split at h
     ·simp only[BW]at h;obtain⟨O,_,rfl⟩:=h;rfl
     ·cases h
    ·simp only[BV]at h;subst h;rfl
    ·cases h
 |.int k,ls,t,h,y,r=>scal (b:=.int k) h vq (l':=.int k y) id
 |.bool,ls,t,h,y,r=>scal (b:=.bool) h tN (l':=.bool y) id
 |.str,ls,t,h,y,r=>scal (b:=.str) h vr (l':=.str y) id
 |.hdr,ls,t,h,y,r=>scal (b:=.hdr) h vt (l':=.hdr y) id
where
 scal {b:Ty} {ls:List Leaf} {t:cK b.den} {l':Leaf} {r:List Leaf} (h:(bc st b ls).map (λx=>(⟨false,x.2.1,[],[],x.2.2⟩:cK b.den))=some t)
   (H:∀ {ls:List Leaf} {x:Bool×b.den×List Leaf},bc st b ls=some x->∃ l,ls=l::x.2.2) (z:¬ ao l'):eP ls ([l']++r)=t.kill++eP t.rest r:=by
  simp only[BW]at h;obtain⟨x,M,rfl⟩:=h;obtain⟨l,rfl⟩:=H M;exact nA z
theorem zv {W W':Wit}{bs:List Nat}{l:Leaf}{v:Value}(u:ao l)(y:W'.nw=W.nw)(h:aI P V W st w bs l v):aI P V W' st' w bs l v:=by
 cases l <;> simp only[ao]at u;exact OwH.carry h (λk r=>by
  rcases r with r|r
  ·exact .inl (by rw[y];exact r)
  ·exact .inr r) (λ_ _=>rfl) (λ_ _=>rfl)
theorem wK {S:St}{x l:Leaf}{xs ls:List Leaf}(h:¬ ao l):ac (b8 S (x::xs) (l::ls)) S=ac (b8 S xs ls) S:=by
 cases x <;> try rfl
 cases l <;> first|exact absurd trivial h|rfl
theorem jR {x:Nat×Nat}{l:List (Nat×Nat)}(h:a8 (x::l)=true):x∉l/\a8 l=true:=by
 simp only[a8,BX,CM,CT]at h;exact⟨λr=>by have:=h.1 x r;simp at this,h.2⟩
theorem zV (hV:ay V){W:Wit}{S:St}(h:ap P V W S a w):∀ (xl ls:List Leaf) (cs:List Value) (R:Nat->List Nat),a8 (eP xl ls)=true->(∀ x∈eP xl ls,x.1≠EPO)->xl.length=cs.length->ls.length=cs.length ->
  (∀ (i r j n:Nat) (l:Leaf) (u:Value),xl[i]?=some (.al r j n)->ls[i]?=some l->ao l->cs[i]?=some u->(W.cs r)[j]?=some u) ->
  (∀ x∈eP xl ls,∀ l,(S x.1).ls[x.2]?=some l->¬ ao l) ->
  (∀ (i:Nat) (l:Leaf) (u:Value),ls[i]?=some l->cs[i]?=some u->aI P V W S w (R i) l u) ->
  (∀ (i:Nat) (l:Leaf),ls[i]?=some l->ao l->∀ k∈R i,¬ ce V W S k) ->
  (∀ (i i':Nat) (l l':Leaf),ls[i]?=some l->ao l->ls[i']?=some l'->ao l'->∀ k,k∈R i->k∈R i'->i=i') ->
  ∃ W',ap P V W' (ac (b8 S xl ls) S) a w/\W'.cs=W.cs/\W'.β=W.β/\W'.nw=W.nw/\(∀ q,(ac (b8 S xl ls) S q).sh=(S q).sh/\(S q).ver<=(ac (b8 S xl ls) S q).ver) /\
   (∀ (q i:Nat),(q,i)∉eP xl ls->(ac (b8 S xl ls) S q).ls[i]?=(S q).ls[i]?/\W'.bs q i=W.bs q i) /\
   (∀ k,ce V W' (ac (b8 S xl ls) S) k->ce V W S k\/∃ i l,ls[i]?=some l/\ao l/\k∈R i)
 |[],ls,cs,R,_,_,hx,hl,_,_,_,_,_=>⟨W,h,rfl,rfl,rfl,λ_=>⟨rfl,CI _⟩,λ_ _ _=>⟨rfl,rfl⟩,λk O=>.inl O⟩
 |x::X,[],cs,R,_,_,hx,hl,_,_,_,_,_=>by simp at hx hl;omega
 |x::X,l::ls,[],R,_,_,hx,hl,_,_,_,_,_=>by simp at hx
 |x::X,l::ls,u::cs,R,hd,ba,hx,hl,b4,b5,a4,a2,b0=>by
  have b3:a8 (eP X ls)=true:=by
   cases x with
   |al r j n =>
    cases l with
    |own p hh E e ys=>exact (jR hd).2
    |_=>exact hd
   |_=>exact hd
  have ad:∀ z∈eP X ls,z∈eP (x::X) (l::ls):=by
   intro z hz;cases x with
   |al r j n=>exact BZ _ hz
   |_=>exact hz
  obtain⟨W1,h1,e1,e2,e3,e4,e5,e6⟩:=zV hV h X ls cs (λi=>R (i+1)) b3 (λz hz=>ba z (ad z hz)) (by simpa using hx) (by simpa using hl)
   (λi r j n l' u' J I M g4=>b4 (i+1) r j n l' u' (by simpa using J) (by simpa using I) M (by simpa using g4))
   (λz hz=>b5 z (ad z hz)) (λi l' u' J I=>a4 (i+1) l' u' (by simpa using J) (by simpa using I))
   (λi l' J I=>a2 (i+1) l' (by simpa using J) I)
   (λi i' l1 l2 J I M g4 k g5 g6=>by have:=b0 (i+1) (i'+1) l1 l2 (by simpa using J) I (by simpa using M) g4 k g5 g6;omega)
  by_cases hs:¬ ao l\/(∀ r j n,x≠.al r j n)
  ·have a6:ac (b8 S (x::X) (l::ls)) S=ac (b8 S X ls) S/\eP (x::X) (l::ls)=eP X ls:=by
    rcases hs with hs|hs
    ·exact⟨wK hs,nA hs⟩
    ·cases x with
     |al r j n=>exact absurd rfl (hs r j n)
     |_=>exact⟨rfl,rfl⟩
   rw[a6.1,a6.2];exact⟨W1,h1,e1,e2,e3,e4,e5,λk O=>(e6 k O).imp id λ⟨i,l',J,I,M⟩=>⟨i+1,l',by simpa using J,I,M⟩⟩
  ·simp only[not_or,Classical.not_not]at hs;obtain⟨bx,bn⟩:=hs;obtain⟨r,j,n,rfl⟩:∃ r j n,x=.al r j n:=by
    cases x with
    |al r j n=>exact⟨r,j,n,rfl⟩
    |_=>exact absurd (λ_ _ _ h=>by cases h) bn
   obtain⟨p,hh,E,e,ys,rfl⟩:∃ p hh E e ys,l=.own p hh E e ys:=by
    cases l <;> simp only[ao]at bx;exact⟨_,_,_,_,_,rfl⟩
   have b2:eP (.al r j n::X) (.own p hh E e ys::ls)=(r,j)::eP X ls:=rfl;rw[b2]at hd b5;obtain⟨c0,c1⟩:=jR hd;have hv:=b4 0 r j n _ u rfl rfl trivial rfl;have a6:ac (b8 S (.al r j n::X) (.own p hh E e ys::ls)) S=ac [(r,⟨(ac (b8 S X ls) S r).ver,(ac (b8 S X ls) S r).sh,aT (ac (b8 S X ls) S r).ls j (.own p hh E e ys)⟩),(EPO,bX (ac (b8 S X ls) S EPO))] (ac (b8 S X ls) S):=bB [_,_] _ _;have a9:aI P V W1 (ac (b8 S X ls) S) w (R 0) (.own p hh E e ys) u:=zv trivial e3 (a4 0 _ u rfl rfl);have Y:∀ k∈R 0,¬ ce V W1 (ac (b8 S X ls) S) k:=λk O hu=>by
    rcases e6 k hu with hu|⟨i,l',J,I,M⟩
    ·exact a2 0 _ rfl trivial k O hu
    ·have:=b0 0 (i+1) _ l' rfl trivial (by simpa using J) I k O M;omega
   have H:∀ (i:Nat) (l':Leaf),i≠j->(aT (ac (b8 S X ls) S r).ls j (.own p hh E e ys))[i]?=some l'->(ac (b8 S X ls) S r).ls[i]?=some l':=by
    intro i l' a3 Z;rcases aS _ _ _ _ _ Z with ⟨rfl,_,_⟩|⟨_,Z⟩
    ·exact absurd rfl a3
    ·exact Z
   have b9:∀ (l':Leaf),(aT (ac (b8 S X ls) S r).ls j (.own p hh E e ys))[j]?=some l'->l'=.own p hh E e ys:=by
    intro l' Z;rcases aS _ _ _ _ _ Z with ⟨_,rfl,_⟩|⟨a3,_⟩
    ·rfl
    ·exact absurd rfl a3
   have bl:r≠EPO:=ba (r,j) (by rw[b2];exact CK ..);obtain⟨h2,a5,bb⟩:=h1.reownE hV r ⟨(ac (b8 S X ls) S r).ver,(ac (b8 S X ls) S r).sh,aT (ac (b8 S X ls) S r).ls j (.own p hh E e ys)⟩ (λi=>if i=j then R 0 else W1.bs r i) bl (CI _) rfl (by simp[aT])
    (λi l' v' J I=>by
     by_cases y:i=j
     ·subst y;obtain rfl:=b9 l' J;rw[e1,hv]at I;simp only[BV]at I;subst I;simp only[if_true];exact a9
     ·simp only[if_neg y];exact h1.leaf r i l' v' (H i l' y J) I)
    (λi l' J I k O=>by
     by_cases y:i=j
     ·subst y;simp only[if_true]at O;have hu:=Y k O;simp only[ce,not_or,not_exists,not_and]at hu;exact⟨hu.1,hu.2.1,hu.2.2.1,λr1 j1 l1 _ M g4 g5=>hu.2.2.2 r1 j1 l1 M g4 g5⟩
     ·simp only[if_neg y]at O;have Z:=H i l' y J;have h9:=h1.ownb r i l' Z I k O;exact⟨h9.1,h9.2.1,h9.2.2,λr1 j1 l1 a3 M g4 g5=>a3 (h1.sep r i l' r1 j1 l1 Z I M g4 k O g5).1.symm⟩)
    (λi i' l1 l2 J I M g4 k O a1=>by
     by_cases y:i=j <;> by_cases a0:i'=j
     ·omega
     ·subst y;simp only[if_true]at O;simp only[if_neg a0]at a1;exact absurd (.inr (.inr (.inr ⟨r,i',l2,H i' l2 a0 M,g4,a1⟩))) (Y k O)
     ·subst a0;simp only[if_true]at a1;simp only[if_neg y]at O;exact absurd (.inr (.inr (.inr ⟨r,i,l1,H i l1 y J,I,O⟩))) (Y k a1)
     ·simp only[if_neg y]at O;simp only[if_neg a0]at a1;exact (h1.sep r i l1 r i' l2 (H i l1 y J) I (H i' l2 a0 M) g4 k O a1).2)
   rw[a6];refine⟨_,h2,e1,e2,e3,λq=>?_,λq i hq=>?_,λk O=>?_⟩
   ·exact⟨(a5 q).1.trans (e4 q).1,Cd (e4 q).2 (a5 q).2.1⟩
   ·rw[b2]at hq;simp only[Cn,not_or]at hq;by_cases b1:q=r
    ·subst b1;rw[bb];have y:j≠i:=λe0=>hq.1 (by rw[e0])
     simp only[aT];rw[Ck y];refine⟨(e5 q i hq.2).1,?_⟩;simp only[if_true,if_neg (Cl y)];exact (e5 q i hq.2).2
    ·rw[(a5 q).2.2 b1];refine⟨(e5 q i hq.2).1,?_⟩;show (if q=r then _ else W1.bs q i)=_;rw[if_neg b1];exact (e5 q i hq.2).2
   ·rcases O with O|O|⟨b,hb,O⟩|⟨q,i,l',J,I,M⟩
    ·exact .inl (.inl (by rw[<- e3];exact O))
    ·exact .inl (.inr (.inl O))
    ·refine (e6 k (.inr (.inr (.inl ⟨b,?_,O⟩)))).imp id λ⟨i,l',J,I,M⟩=>⟨i+1,l',by simpa using J,I,M⟩
     exact (iF (λq=>(a5 q).1) b).1 hb
    ·by_cases hq:q=r
     ·subst hq;rw[bb]at J;simp only[if_true]at M;by_cases y:i=j
      ·subst y;simp only[if_true]at M;exact .inr ⟨0,_,rfl,trivial,M⟩
      ·simp only[if_neg y]at M;exact (e6 k (.inr (.inr (.inr ⟨q,i,l',H i l' y J,I,M⟩)))).imp id λ⟨i,l',J,I,M⟩=>⟨i+1,l',by simpa using J,I,M⟩
     ·rw[(a5 q).2.2 hq]at J;simp only[if_neg hq]at M;exact (e6 k (.inr (.inr (.inr ⟨q,i,l',J,I,M⟩)))).imp id λ⟨i,l',J,I,M⟩=>⟨i+1,l',by simpa using J,I,M⟩
end
def PK.isIop:PK->Bool
 |.iop _=>true
 |_=>false
section
variable {P:Program} {V:Env} {Γ:List Ctr} {st st':St} {w w':World} {a:Act}
theorem kR:∀ {a b:List (Nat×Nat)},a8 (a++b)=true->a8 a=true/\a8 b=true/\∀ x∈a,x∉b
 |[],b,h=>⟨rfl,h,by simp⟩
 |x::a,b,h=>by
  obtain⟨z,O⟩:=jR h;obtain⟨X,I,H⟩:=kR O;refine⟨?_,I,λy r u=>?_⟩
  ·simp only[a8,BX,CM,CT];refine⟨λy r R=>z (B7 _ ?_),X⟩;obtain⟨M,J⟩:x.1=y.1/\x.2=y.2:=by simpa using R
   rw[show x=y from D0 M J];exact r
  ·rcases Cn.1 r with rfl|r
   ·exact z (BZ _ u)
   ·exact H y r u
theorem ki {p:Bool}:∀ (b:Ty) (ls:List Leaf) (t:cK b.den),take st b ls=some t->∀ (y:b.den) (i r j n:Nat) (l:Leaf),ls[i]?=some (.al r j n)->(aq p b y)[i]?=some l->ao l->(st r).ver=n
 |.pair b c,ls,t,h,y,i,r,j,n,l,J,z,I=>by
  simp only[take]at h;split at h
  ·rename_i u M;split at h
   ·rename_i v O;simp only[aq]at z;have R:=cI p b y.1;by_cases hi:i<b.cells
    ·rw[B5 (by omega)]at z;exact ki b ls u M y.1 i r j n l J z I
    ·rw[B4 (by omega),R]at z;have X:=take_rest b ls u M;refine ki c u.rest v O y.2 (i-b.cells) r j n l ?_ z I;rw[X,Co,show b.cells+(i-b.cells)=i by omega];exact J
   ·cases h
  ·cases h
 |.list m E e,ls,t,h,y,i,r,j,n,l,J,z,I=>by
  cases m with
  |false =>
   cases i with
   |zero=>simp[aq]at z;subst z;exact I.elim
   |succ i=>simp[aq]at z
  |true =>
   cases i with
   |succ i=>simp[aq]at z
   |zero =>
    cases ls with
    |nil=>simp at J
    |cons l' ls =>
     simp only[Cp,BV]at J;subst J;simp only[take,cond_true]at h;split at h
     ·rename_i Z;exact (fa Z (by simp)).1
     ·cases h
 |.int k,ls,t,h,y,i,r,j,n,l,J,z,I=>by
  cases i with
  |zero=>simp[aq]at z;subst z;exact I.elim
  |succ i=>simp[aq]at z
 |.bool,ls,t,h,y,i,r,j,n,l,J,z,I=>by
  cases i with
  |zero=>simp[aq]at z;subst z;exact I.elim
  |succ i=>simp[aq]at z
 |.str,ls,t,h,y,i,r,j,n,l,J,z,I=>by
  cases i with
  |zero=>simp[aq]at z;subst z;exact I.elim
  |succ i=>simp[aq]at z
 |.hdr,ls,t,h,y,i,r,j,n,l,J,z,I=>by
  cases i with
  |zero=>simp[aq]at z;subst z;exact I.elim
  |succ i=>simp[aq]at z
 |.unit,ls,t,h,y,i,r,j,n,l,J,z,I=>by simp[aq]at z
where
 take_rest:∀ (b:Ty) (ls:List Leaf) (t:cK b.den),take st b ls=some t->t.rest=ls.drop b.cells
  |.pair b c,ls,t,h=>by
   simp only[take]at h;split at h
   ·rename_i u M;split at h
    ·rename_i v O;simp only[BV]at h;subst h;show v.rest=_;rw[take_rest c u.rest v O,take_rest b ls u M,List.drop_drop];rfl
    ·cases h
   ·cases h
  |.unit,ls,t,h=>by
   simp only[take,BV]at h;subst h;rfl
  |.list m E e,ls,t,h=>by
   cases ls with
   |nil=>simp[take]at h
   |cons l ls =>
    cases m with
    |false =>
     simp only[take,cond_false]at h;split at h
     ·simp only[BV]at h;subst h;rfl
     ·cases h
    |true =>
     simp only[take,cond_true]at h;split at h
     ·split at h
      ·simp only[BW]at h;obtain⟨xs,_,rfl⟩:=h;rfl
      ·cases h
     ·simp only[BV]at h;subst h;rfl
     ·cases h
  |.int k,ls,t,h=>sc (b:=.int k) h vq rfl
  |.bool,ls,t,h=>sc (b:=.bool) h tN rfl
  |.str,ls,t,h=>sc (b:=.str) h vr rfl
  |.hdr,ls,t,h=>sc (b:=.hdr) h vt rfl
 sc {b:Ty} {ls:List Leaf} {t:cK b.den} (h:(bc st b ls).map (λx=>(⟨false,x.2.1,[],[],x.2.2⟩:cK b.den))=some t)
   (H:∀ {ls:List Leaf} {x:Bool×b.den×List Leaf},bc st b ls=some x->∃ l,ls=l::x.2.2) (J:b.cells=1):t.rest=ls.drop b.cells:=by
  simp only[BW]at h;obtain⟨x,Y,rfl⟩:=h;obtain⟨l,rfl⟩:=H Y;rw[J];rfl
theorem wL {agg:Bool}{v:Value}{z y:List Value}(u:db agg v z)(r:db agg v y):z=y:=by
 unfold db at u r;cases agg with
 |true =>
  simp only[if_true]at u r;rw[u]at r;simpa using r
 |false =>
  simp only[Bool.false_eq_true,if_false]at u r;rw[u,r]
theorem qR (hV:ay V){W0 W:Wit}{S0 S:St}{w0:World}{G:Nat->Prop}{p:Bool}(a3:W.cs=W0.cs)(hG:∀ k,G k->gd V W p k)(h:ap P V W S a w) :
  ∀ (ps:List PK) (xs:List (aG×List Leaf)) (vs:List Value) (g:Got (ab ps)) (o:ah ps) (y:List (List Nat)),gW P V W0 S0 w0 xs vs->bd (cd Γ S0) ps xs=some g->ps.any PK.isIop=false ->
  bN w G ps o vs y->a8 g.kill=true->(∀ x∈g.kill,x.1≠EPO)->(∀ x∈g.kill,∀ l,(S x.1).ls[x.2]?=some l->¬ ao l)->(∀ k∈y.flatten,¬ ce V W S k)->y.flatten.Nodup ->
  ∃ W',ap P V W' (ac (aF S p ps xs o) S) a w/\W'.cs=W.cs/\W'.β=W.β/\W'.nw=W.nw/\(∀ q,(ac (aF S p ps xs o) S q).sh=(S q).sh/\(S q).ver<=(ac (aF S p ps xs o) S q).ver) /\
   (∀ q i,(q,i)∉g.kill->(ac (aF S p ps xs o) S q).ls[i]?=(S q).ls[i]?/\W'.bs q i=W.bs q i)/\(∀ k,ce V W' (ac (aF S p ps xs o) S) k->ce V W S k\/k∈y.flatten)
 |[],xs,vs,g,o,y,_,_,_,_,_,_,_,_,_=>⟨W,h,rfl,rfl,rfl,λ_=>⟨rfl,CI _⟩,λ_ _ _=>⟨rfl,rfl⟩,λk O=>.inl O⟩
 |pk::ps,[],vs,g,o,y,_,hg,_,_,_,_,_,_,_=>by simp[bd]at hg
 |pk::ps,x::xs,vs,g,o,y,hx,hg,hp,ho,hd,a5,a4,R,a0=>by
  obtain⟨v,a6,cs,rfl,hs,hl,a1⟩:=hx;simp only[bd]at hg;split at hg
  ·rename_i g1 a2;split at hg
   ·rename_i g2 b2;simp only[BV]at hg;subst hg;simp only[Cv,DP]at hp;obtain⟨b5,b1,bl⟩:=kR hd;have I:∀ (o':ah ps) (b:List Nat) (M:List (List Nat)),y=b::M->b=[]->bN w G ps o' a6 M->aF S p (pk::ps) (x::xs) o=aF S p ps xs o' ->
      ∃ W',ap P V W' (ac (aF S p (pk::ps) (x::xs) o) S) a w/\W'.cs=W.cs/\W'.β=W.β/\W'.nw=W.nw/\(∀ q,(ac (aF S p (pk::ps) (x::xs) o) S q).sh=(S q).sh/\(S q).ver<=(ac (aF S p (pk::ps) (x::xs) o) S q).ver) /\
       (∀ q i,(q,i)∉g1.kill++g2.kill->(ac (aF S p (pk::ps) (x::xs) o) S q).ls[i]?=(S q).ls[i]?/\W'.bs q i=W.bs q i)/\(∀ k,ce V W' (ac (aF S p (pk::ps) (x::xs) o) S) k->ce V W S k\/k∈y.flatten):=by
     intro o' b M e1 e2 b4 e3;subst e1;subst e2;rw[e3];obtain⟨W1,f1,f2,f3,f4,f5,f6,f7⟩:=qR hV a3 hG h ps xs a6 g2 o' M a1 b2 hp.2 b4 b1 (λz Y=>a5 z (BZ _ Y)) (λz Y=>a4 z (BZ _ Y)) (λk O=>R k (by simpa using O)) (by simpa using a0);exact⟨W1,f1,f2,f3,f4,f5,λq i hq=>f6 q i (λhm=>hq (BZ _ hm)),λk O=>(f7 k O).imp id (λhm=>by simpa using hm)⟩
    cases pk with
    |io b =>
     match y,ho with
     |Z::M,⟨H,J⟩ =>
      simp only[CL]at a0 R;rw[Cc]at a0;obtain⟨W1,f1,f2,f3,f4,f5,f6,f7⟩:=qR hV a3 hG h ps xs a6 g2 o.2 M a1 b2 hp.2 J b1 (λz Y=>a5 z (BZ _ Y)) (λz Y=>a4 z (BZ _ Y)) (λk O=>R k (BZ _ O)) a0.2.1;simp only[cd,bi]at a2;cases hb:decide (x.1=bk b.isAgg) with
      |false=>simp[hb]at a2
      |true =>
       rw[hb]at a2;simp only[cond_true,BW]at a2;obtain⟨t,ht,rfl⟩:=a2;rw[of_decide_eq_true hb]at hs;unfold jv at H;rw[if_neg (by simp)]at H;obtain⟨ad,b9,hm⟩:=H;have:=wL b9 (gF hs);subst this;obtain⟨bb,m1,m2,m3,m4⟩:=iO (P:=P) (V:=V) (W:=W1) (st:=ac (aF S p ps xs o.2) S) (p:=p) (λk O=>by
        rcases hG k O with O|O
        ·exact .inl (by rw[f4];exact O)
        ·exact .inr O) hm a0.1
       unfold ch at ht;split at ht
       ·rename_i p0 x0 f0 k0 b3;simp only[BV]at ht;subst ht;have X:=lg (p:=p) b x.2 _ b3 o.1 [];simp only[CO]at X;have X:eP x.2 (aq p b o.1)=k0:=by
         rw[X];show k0++eP [] []=k0;simp[eP]
        obtain⟨W2,q1,q2,q3,q4,q5,q6,q7⟩:=zV hV f1 x.2 (aq p b o.1) ad bb (by rw[X];exact b5) (λz Y=>a5 z (B7 _ (by rw[X]at Y;exact Y))) hl.length m1
         (λi r j n l u g3 g4 g5 g6=>by
          have h5:=(hl.at_ i _ u g3 g6).1;rw[f2,a3];exact h5.2 (ki b x.2 _ b3 o.1 i r j n l g3 g4 g5))
         (λz Y l b0=>by
          rw[X]at Y;rw[(f6 z.1 z.2 (bl z Y)).1]at b0;exact a4 z (B7 _ Y) l b0)
         m2
         (λi l g3 g4 k O hu=>by
          have a9:=m3 i l g3 g4 k O;rcases f7 k hu with hu|hu
          ·exact R k (B7 _ a9) hu
          ·exact a0.2.2 k a9 k hu rfl) m4
        have ba:ac (aF S p (.io b::ps) (x::xs) o) S=ac (b8 (ac (aF S p ps xs o.2) S) x.2 (aq p b o.1)) (ac (aF S p ps xs o.2) S):=bB _ _ _;rw[ba];rw[X]at q6;refine⟨W2,q1,q2.trans f2,q3.trans f3,q4.trans f4,λq=>⟨(q5 q).1.trans (f5 q).1,Cd (f5 q).2 (q5 q).2⟩,λq i hq=>?_,λk O=>?_⟩
        ·simp only[B9,not_or]at hq;exact⟨(q6 q i hq.1).1.trans (f6 q i hq.2).1,(q6 q i hq.1).2.trans (f6 q i hq.2).2⟩
        ·rcases q7 k O with O|⟨i,l,g3,g4,g5⟩
         ·exact (f7 k O).imp id (λhm=>BZ _ hm)
         ·exact .inr (B7 _ (m3 i l g3 g4 k g5))
       ·cases ht
    |iop b=>simp[PK.isIop]at hp
    |rd b =>
     match y,ho with
     |Z::M,⟨H,J⟩=>exact I o Z M rfl H J rfl
    |own b =>
     match y,ho with
     |Z::M,⟨H,J⟩=>exact I o Z M rfl H J rfl
    |rref b =>
     match y,ho with
     |Z::M,⟨H,J⟩=>exact I o Z M rfl H J rfl
    |rref2 b =>
     match y,ho with
     |Z::M,⟨H,J⟩=>exact I o Z M rfl H J rfl
    |fn As B =>
     match y,ho with
     |Z::M,⟨H,J⟩=>exact I o Z M rfl H J rfl
    |clo f ad =>
     match y,ho with
     |Z::M,⟨H,J⟩=>exact I o Z M rfl H J rfl
    |hol b cc off =>
     match y,ho with
     |Z::M,⟨H,J⟩=>exact I o Z M rfl H J rfl
   ·cases hg
  ·cases hg
end
section
variable {P:Program} {V:Env} {W:Wit} {st:St} {w:World} {a:Act}
theorem oK {G ro:Nat->Prop}{p q:Bool}{ks:List (Nat×Nat×Nat)}{ep:Nat}(hG:∀ k,G k->gd V W p k)(d n:Nat) :
  ∀ (O:List RK) (y:ai O) (us:List Value) (a0:List (List Nat)),
  (O.any RK.isBv=true->(∀ k,G k\/ro k->gd V W q k\/∃ x∈ks,k∈W.bs x.1 x.2.1)/\ep<=(st EPO).ver/\(∀ k∈ks,k.2.2<=(st k.1).ver))->gE w G ro O y us a0->O.all RK.isV=true->a0.flatten.Nodup ->
  (bE d n p q ks ep O y).2=[]/\∃ (cs:List Value) (a2:Nat->List Nat),pL ((bE d n p q ks ep O y).1.map λx=>(x.1,x.2.length)) us cs/\(((bE d n p q ks ep O y).1.map (·.2)).flatten).length=cs.length/\(∀ u∈cs,u.oneCell'=true) /\
   (∀ (j:Nat) (l:Leaf) (u:Value),(((bE d n p q ks ep O y).1.map (·.2)).flatten)[j]?=some l->cs[j]?=some u->aI P V W st w (a2 j) l u) /\
   (∀ (j:Nat) (l:Leaf),(((bE d n p q ks ep O y).1.map (·.2)).flatten)[j]?=some l->ao l->∀ k∈a2 j,k∈a0.flatten) /\
   (∀ (j X:Nat) (l l':Leaf),(((bE d n p q ks ep O y).1.map (·.2)).flatten)[j]?=some l->ao l->(((bE d n p q ks ep O y).1.map (·.2)).flatten)[X]?=some l'->ao l'->∀ k,k∈a2 j->k∈a2 X->j=X)
 |[],y,us,a0,_,⟨e1,e2⟩,_,_=>by
  subst e1;subst e2;exact⟨rfl,[],λ_=>[],⟨rfl,rfl⟩,rfl,by simp,λj l u h1 h2=>by simp at h2,λj l h1 h2 k J=>by simp at J,λj X l l' _ _ _ _ k J=>by simp at J⟩
 |r::O,y,us,a0,hB,⟨u0,a6,b,ad,e1,e2,hr,a4⟩,hv,Z=>by
  subst e1;subst e2;simp only[DT,BX]at hv;rw[CL,Cc]at Z;obtain⟨f0,a5,d2,f1,f2,b5,f3,f4,f5⟩:=oK (ks:=ks) (q:=q) (ep:=ep) hG d n O y.2 a6 ad (λhb=>hB (by simp[hb])) a4 hv.2 Z.2.1;obtain⟨agg,L,I,d1,g0,b9,g1,g2,ba,g3,g4,g5⟩:∃ (agg:Bool) (L:List Leaf) (I:List Value) (d1:Nat->List Nat),(pH d n p q ks ep r y.1).1=(agg,L)/\(pH d n p q ks ep r y.1).2=[]/\db agg u0 I/\L.length=I.length/\(∀ u∈I,u.oneCell'=true) /\
    (∀ (j:Nat) (l:Leaf) (u:Value),L[j]?=some l->I[j]?=some u->aI P V W st w (d1 j) l u)/\(∀ (j:Nat) (l:Leaf),L[j]?=some l->ao l->∀ k∈d1 j,k∈b) /\
    (∀ (j X:Nat) (l l':Leaf),L[j]?=some l->ao l->L[X]?=some l'->ao l'->∀ k,k∈d1 j->k∈d1 X->j=X):=by
   cases r with
   |v c =>
    obtain⟨I,h1,h2⟩:=hr;obtain⟨d1,m1,m2,m3,m4⟩:=iO (P:=P) (V:=V) (W:=W) (st:=st) (p:=p) hG h2 Z.1;exact⟨c.isAgg,_,I,d1,rfl,rfl,h1,m1,h2.one,m2,m3,m4⟩
   |bv c =>
    obtain⟨_,I,h1,h2⟩:=hr;obtain⟨b1,b0,b4⟩:=hB (by simp[RK.isBv]);have h3:=jW (P:=P) (V:=V) (W:=W) (st:=st) (p:=q) b0 b4 (h2.mono b1);exact⟨c.isAgg,_,I,λ_=>[],rfl,rfl,h1,h3.length,h2.one,λj l u g1 g2=>(h3.at_ j l u g1 g2).1,λj l _ _ k J=>by simp at J,λj X l l' _ _ _ _ k J=>by simp at J⟩
   |box c=>simp[RK.isV]at hv
  have b2:(bE d n p q ks ep (r::O) y).1=(agg,L)::(bE d n p q ks ep O y.2).1:=by simp only[bE,g0]
  have b3:(bE d n p q ks ep (r::O) y).2=[]:=by simp only[bE,b9,f0,CO]
  rw[b2];simp only[Dz,CL];have H:∀ (j:Nat) (l:Leaf),(L++((bE d n p q ks ep O y.2).1.map (·.2)).flatten)[j]?=some l->(j<L.length/\L[j]?=some l)\/(L.length<=j/\(((bE d n p q ks ep O y.2).1.map (·.2)).flatten)[j-L.length]?=some l):=by
   intro j l z;by_cases M:j<L.length
   ·rw[B5 M]at z;exact .inl ⟨M,z⟩
   ·rw[B4 (by omega)]at z;exact .inr ⟨by omega,z⟩
  refine⟨b3,I++a5,λj=>if j<L.length then d1 j else d2 (j-L.length),⟨u0,a6,I,a5,rfl,rfl,g2.symm,g1,f1⟩,by rw[CF,CF,g2,f2],λu hu=>(B9.1 hu).elim (ba u) (b5 u),λj l u z hu=>?_,λj l z ho k J=>?_,λj X l l' z ho Y a1 k J R=>?_⟩
  ·rcases H j l z with ⟨M,z⟩|⟨a9,z⟩
   ·rw[B5 (by omega)]at hu;simp only[if_pos M];exact g3 j l u z hu
   ·rw[B4 (by omega),<- g2]at hu;simp only[if_neg (show ¬ j<L.length by omega)];exact f3 _ l u z hu
  ·rcases H j l z with ⟨M,z⟩|⟨a9,z⟩
   ·simp only[if_pos M]at J;exact B7 _ (g4 j l z ho k J)
   ·simp only[if_neg (show ¬ j<L.length by omega)]at J;exact BZ _ (f4 _ l z ho k J)
  ·rcases H j l z with ⟨M,z⟩|⟨a9,z⟩ <;> rcases H X l' Y with ⟨a3,Y⟩|⟨bb,Y⟩
   ·simp only[if_pos M]at J;simp only[if_pos a3]at R;exact g5 j X l l' z ho Y a1 k J R
   ·simp only[if_pos M]at J;simp only[if_neg (show ¬ X<L.length by omega)]at R;exact absurd rfl (Z.2.2 k (g4 j l z ho k J) k (f4 _ l' Y a1 k R))
   ·simp only[if_neg (show ¬ j<L.length by omega)]at J;simp only[if_pos a3]at R;exact absurd rfl (Z.2.2 k (g4 X l' Y a1 k R) k (f4 _ l z ho k J))
   ·simp only[if_neg (show ¬ j<L.length by omega)]at J;simp only[if_neg (show ¬ X<L.length by omega)]at R;have:=f5 _ _ l l' z ho Y a1 k J R;omega
theorem BH {l:List (Bool×List Leaf)}{us cs:List Value}{v:Value}(n:Nat)(h:pL (l.map λx=>(x.1,x.2.length)) us cs)(H:sw us v) :
  ei (eS n l).sh v cs/\(eS n l).ls=(l.map (·.2)).flatten/\(eS n l).ver=n:=by
 match l,us,h with
 |[],_,⟨z,y⟩ =>
  subst z;subst y;exact⟨⟨[],H,rfl,rfl⟩,rfl,rfl⟩
 |[(agg,L)],_,⟨u,r,c,Z,z,y,h1,R,Y,X⟩ =>
  subst z;subst y;subst Y;subst X;have H:v=u:=H;subst H;refine⟨?_,by simp[eS],rfl⟩;simp only[eS,CO];exact kf R
 |x::x'::l,us,h =>
  refine⟨?_,rfl,rfl⟩;have J:∃ u M r,us=u::M::r:=by
   obtain⟨u,r,_,_,z,_,_,_,O,I,_,_,y,_⟩:=h;exact⟨u,O,I,by rw[z,y]⟩
  obtain⟨u,M,r,rfl⟩:=J;exact⟨_,H,h⟩
end
section
variable {P:Program} {V:Env} {Γ:List Ctr} {st:St} {w:World} {a:Act}
theorem zw {pk:PK}{x:aG×List Leaf}{g:Got pk.den}(r:cd Γ st pk x=some g)(X:pk.isIop=false):g.lend=[]:=by
 cases pk with
 |iop b=>simp[PK.isIop]at X
 |rd b =>
  simp only[cd,bi]at r;cases u:decide (x.1=bk b.isAgg) with
  |false=>simp[u]at r
  |true=>rw[u]at r;simp only[cond_true,BW]at r;obtain⟨y,_,rfl⟩:=r;rfl
 |own b =>
  simp only[cd,bi]at r;cases u:decide (x.1=bk b.isAgg) with
  |false=>simp[u]at r
  |true=>rw[u]at r;simp only[cond_true,BW]at r;obtain⟨y,_,rfl⟩:=r;rfl
 |io b =>
  simp only[cd,bi]at r;cases u:decide (x.1=bk b.isAgg) with
  |false=>simp[u]at r
  |true=>rw[u]at r;simp only[cond_true,BW]at r;obtain⟨y,_,rfl⟩:=r;rfl
 |rref b=>exact cap (c:=(false,b)) r
 |rref2 b=>exact cap (c:=(true,b)) r
 |fn Y B =>
  simp only[cd]at r;split at r
  ·unfold kA at r;split at r
   ·unfold sk at r;split at r
    ·rename_i c _ Z;cases u:(c.ps.drop Y.length).all PK.reads&&B.flat&&c.fresh with
     |false=>rw[u]at r;cases r
     |true =>
      rw[u]at r;simp only[cond_true]at r;split at r
      ·simp only[BV]at r;subst r;rfl
      ·cases r
    ·cases r
   ·cases r
  ·simp only[bi]at r;split at r
   ·split at r
    ·simp only[BV]at r;subst r;rfl
    ·cases r
   ·cases r
 |hol b cc off =>
  simp only[cd,bi]at r;cases u:decide (x.1=bk b.isAgg) with
  |false=>simp[u]at r
  |true =>
   rw[u]at r;simp only[cond_true]at r;split at r
   ·split at r
    ·rename_i R _ _ _ _;cases z:CH R off with
     |false=>simp[z]at r
     |true =>
      rw[z]at r;simp only[cond_true]at r;split at r
      ·split at r
       ·simp only[BV]at r;subst r;rfl
       ·cases r
      ·cases r
    ·cases r
   ·cases r
 |clo f I =>
  simp only[cd,bi]at r;split at r
  ·rename_i J H _;cases u:CH J f with
   |false=>simp[u]at r
   |true=>rw[u]at r;exact caps_ r
  ·rename_i J H _;cases u:CH J f with
   |false=>simp[u]at r
   |true=>rw[u]at r;exact caps_ r
  ·cases r
where
 cap {c:Bool×Ty} {l:Leaf} {g:Got c.2.den} (r:fk st c l=some g):g.lend=[]:=by
  unfold fk at r;cases O:c.1 with
  |true =>
   rw[O]at r;simp only[cond_true]at r;split at r
   ·split at r
    ·simp only[BW]at r;obtain⟨y,_,rfl⟩:=r;rfl
    ·cases r
   ·cases r
  |false =>
   rw[O]at r;simp only[cond_false]at r;split at r
   ·simp only[BW]at r;obtain⟨y,_,rfl⟩:=r;rfl
   ·cases r
 caps_:∀ {I:List (Bool×Ty)} {M:List Leaf} {g:Got (lR I)},cA st I M=some g->g.lend=[]
  |[],[],g,r=>by simp only[cA,BV]at r;subst r;rfl
  |[],_::_,_,r=>by simp[cA]at r
  |_::_,[],_,r=>by simp[cA]at r
  |c::I,l::M,g,r=>by
   simp only[cA]at r;split at r
   ·split at r
    ·simp only[BV]at r;subst r;rfl
    ·cases r
   ·cases r
theorem tO:∀ (ps:List PK) (xs:List (aG×List Leaf)) (g:Got (ab ps)),bd (cd Γ st) ps xs=some g->g.lend=[]->ps.any PK.isIop=false
 |[],_,_,_,_=>rfl
 |_::_,[],_,u,_=>by simp[bd]at u
 |I::ps,x::xs,g,u,z=>by
  simp only[bd]at u;split at u
  ·rename_i M r;split at u
   ·rename_i J y;simp only[BV]at u;subst u;simp only[List.append_eq_nil_iff]at z;rw[Cv,tO ps xs J y z.2,Bool.or_false];cases I with
    |iop b =>
     simp only[cd,bi]at r;split at r
     ·rename_i q _;cases H:decide ((st q).sh=.agg) with
      |false=>simp[H]at r
      |true =>
       rw[H]at r;simp only[cond_true,BW]at r;obtain⟨t,_,rfl⟩:=r;simp at z
     ·cases r
    |_=>rfl
   ·cases u
  ·cases u
theorem po {W0:Wit}{S0 S:St}{w0:World}{a0:Act}(h0:ap P V W0 S0 a0 w0){G:Nat->Prop}{p:Bool} :
  ∀ (ps:List PK) (xs:List (aG×List Leaf)) (vs:List Value) (g:Got (ab ps)) (o:ah ps) (r:List (List Nat)),gW P V W0 S0 w0 xs vs->bd (cd Γ S0) ps xs=some g->ps.any PK.isIo=false->bN w G ps o vs r ->
  (g.lend=[]->aF S p ps xs o=[]/\r.flatten=[]) /\
  (∀ b,g.lend=[b]->∃ (c:Ty) (y:c.den) (cs:List Value) (E:TypeId) (b0:List Nat),aF S p ps xs o=[(b,⟨(S b).ver+2,.agg,aq p c y⟩)]/\w.heap[W0.β b]?=some (.cells cs.toArray E (0,0))/\Mx w G c none 0 y cs b0/\r.flatten=W0.β b::b0/\(S0 b).ls.length=c.cells)
 |[],[],vs,g,o,r,hx,M,_,X=>by
  simp only[bd,BV]at M;subst M;refine⟨λ_=>⟨rfl,?_⟩,λb hb=>by simp at hb⟩
  match vs,r,X with
  |[],[],_=>rfl
 |[],_::_,_,_,_,_,_,M,_,_=>by simp[bd]at M
 |_::_,[],_,_,_,_,_,M,_,_=>by simp[bd]at M
 |pk::ps,x::xs,vs,g,o,r,hx,M,hn,X=>by
  obtain⟨v,a1,cs,rfl,hs,hl,R⟩:=hx;simp only[bd]at M;split at M
  ·rename_i g1 J;split at M
   ·rename_i g2 a2;simp only[BV]at M;subst M;simp only[Cv,DP]at hn;have z:∀ (o':ah ps) (b:List Nat) (I:List (List Nat)),pk.isIop=false->r=b::I->b=[]->bN w G ps o' a1 I->aF S p (pk::ps) (x::xs) o=aF S p ps xs o' ->
      (g1.lend++g2.lend=[]->aF S p (pk::ps) (x::xs) o=[]/\r.flatten=[]) /\
      (∀ b,g1.lend++g2.lend=[b]->∃ (c:Ty) (y:c.den) (cs:List Value) (E:TypeId) (b0:List Nat),aF S p (pk::ps) (x::xs) o=[(b,⟨(S b).ver+2,.agg,aq p c y⟩)]/\w.heap[W0.β b]?=some (.cells cs.toArray E (0,0))/\Mx w G c none 0 y cs b0/\r.flatten=W0.β b::b0/\(S0 b).ls.length=c.cells):=by
     intro o' b I hi e1 e2 a5 e3;subst e1;subst e2;rw[e3,zw J hi];simpa using po h0 (S:=S) (p:=p) ps xs a1 g2 o' I R a2 hn.2 a5
    cases pk with
    |iop b =>
     match r,X with
     |O::I,⟨u,H⟩ =>
      obtain⟨r1,r2⟩:=po h0 (S:=S) (p:=p) ps xs a1 g2 o.2 I R a2 hn.2 H;simp only[cd,bi]at J;split at J
      ·rename_i q hq;cases hb:decide ((S0 q).sh=.agg) with
       |false=>simp[hb]at J
       |true =>
        rw[hb]at J;simp only[cond_true,BW]at J;obtain⟨t,ht,rfl⟩:=J;refine⟨λhb=>by simp at hb,λb' Y=>?_⟩;simp only[DI,Cy]at Y;obtain⟨rfl,Y⟩:=Y;obtain⟨r3,r4⟩:=r1 Y;obtain⟨a4,_⟩:=gU hs hl hq (by simp);unfold jv at u;rw[if_pos rfl]at u;obtain⟨g',a3,E,b0,hv,Z,hm,rfl⟩:=u;have a6:g'=W0.β q:=by
         have h9:=a4.2.2;rw[hv]at h9;simp only[Value.pointer.injEq,BV,C6,and_true]at h9;exact h9
        subst a6;refine⟨b,o.1,a3,E,b0,?_,Z,hm,by rw[CL,r4,CO],?_⟩
        rotate_left
        ·rw[h0.len];exact (dP (pos:=0) h0 (iD h0 q) ht).1.len
        simp only[aF,r3,hq,CO];rfl
      ·cases J
    |io b=>simp[PK.isIo]at hn
    |rd b =>
     match r,X with
     |O::I,⟨u,H⟩=>exact z o O I rfl rfl u H rfl
    |own b =>
     match r,X with
     |O::I,⟨u,H⟩=>exact z o O I rfl rfl u H rfl
    |rref b =>
     match r,X with
     |O::I,⟨u,H⟩=>exact z o O I rfl rfl u H rfl
    |rref2 b =>
     match r,X with
     |O::I,⟨u,H⟩=>exact z o O I rfl rfl u H rfl
    |fn As B =>
     match r,X with
     |O::I,⟨u,H⟩=>exact z o O I rfl rfl u H rfl
    |clo f a3 =>
     match r,X with
     |O::I,⟨u,H⟩=>exact z o O I rfl rfl u H rfl
    |hol b cc off =>
     match r,X with
     |O::I,⟨u,H⟩=>exact z o O I rfl rfl u H rfl
   ·cases M
  ·cases M
end
section
variable {P:Program} {V:Env}
theorem wM (hV:ay V){W:Wit}{S:St}{a:Act}{w:World}(h:ap P V W S a w){M:List RK}{y:ai M}{us:List Value}{Y:List (List Nat)}{v:Value}{p q:Bool}{ks:List (Nat×Nat×Nat)}{ep:Nat}{G ro:Nat->Prop}
  (Z:gE w G ro M y us Y) (hG:∀ k,G k->gd V W p k)
  (hB:M.any RK.isBv=true->(∀ k,G k\/ro k->gd V W q k\/∃ x∈ks,k∈W.bs x.1 x.2.1)/\ep<=(S EPO).ver/\(∀ k∈ks,k.2.2<=(S k.1).ver))
  (H:∀ k∈Y.flatten,¬ ce V W S k) (a2:Y.flatten.Nodup) (J:sw us v) {d:Nat} (hd:d<V.nt) (a0:∀ x∈V.fixt,x.1≠d) (r:gL S d M=true) :
  ∃ W1,ap P V W1 (ac ((d,eS ((ac (bE d (S (B0+d)).ver p q ks ep M y).2 S d).ver+1) (bE d (S (B0+d)).ver p q ks ep M y).1)::(bE d (S (B0+d)).ver p q ks ep M y).2) S) (a.put (some d) v) w /\
   ∀ z,z≠d->z≠B0+d->W1.cs z=W.cs z:=by
 cases hv:M.all RK.isV with
 |true =>
  obtain⟨m0,cs,a1,m1,m2,m3,m4,m5,m6⟩:=oK (P:=P) (W:=W) (st:=S) (p:=p) (q:=q) (ks:=ks) (ep:=ep) hG d (S (B0+d)).ver M y us Y hB Z hv a2;rw[m0];obtain⟨s1,s2,s3⟩:=BH ((S d).ver+1) m1 J;show ∃ W1,ap P V W1 (ac [(d,eS ((S d).ver+1) (bE d (S (B0+d)).ver p q ks ep M y).1)] S) (a.put (some d) v) w/\_;generalize eS ((S d).ver+1) (bE d (S (B0+d)).ver p q ks ep M y).1=rc at s1 s2 s3 ⊢;obtain⟨v0,b5,bl⟩:=rc;simp only at s1 s2 s3;subst s3;subst s2;have a5:=h.put hV d hd a0 ((S d).ver+1) b5 _ v cs a1 (CA _) s1 m2 m3 m4
   (λj l R ho k X=>by
    have a9:=m5 j l R ho k X;have I:=H k a9;simp only[ce,not_or,not_exists,not_and]at I;exact⟨I.1,I.2.1,I.2.2.1,λr1 j1 l1 _ h8 h9=>I.2.2.2 r1 j1 l1 h8 h9⟩) m6
  refine⟨_,a5,λz hz _=>?_⟩;show (if z=d then cs else W.cs z)=_;rw[if_neg hz]
 |false =>
  have hb:∃ b,M=[.box b]:=by
   unfold gL at r;split at r
   ·exact⟨_,rfl⟩
   ·rw[hv]at r;cases r
  obtain⟨b,rfl⟩:=hb;obtain⟨u0,bb,rb,ba,e1,e2,⟨g',cs,E,b0,b3,b4,hm,a6⟩,e3,e4⟩:=Z;subst e3;subst e4;subst e1;subst e2;subst a6;have J:v=u0:=J;subst J;subst b3;have a4:(S (B0+d)).sh=.off:=by simpa[gL]using r
  have O:(g'::b0).Nodup:=by simpa using a2
  rw[Cg]at O;obtain⟨a1,m1,m2,m3,m4⟩:=iO (P:=P) (V:=V) (W:=W) (st:=S) (p:=p) hG hm O.2;have a3:d≠B0+d:=by simp[B0]
  have b2:=H g' (by simp);have b9:=h.setBoxG hV (B0+d) (Cu _ _) ((S (B0+d)).ver+1) (aq p b y.1) cs a1 g' E (w':=w) (CA _)
   (.inr ⟨by simp[live,a4],b2,λj l R ho k X e0=>O.1 (by rw[<- e0];exact m3 j l R ho k X)⟩) b4 (λ_ _ _=>rfl) (λ_ _ _ _ _ _ _=>rfl) (CI _) rfl rfl rfl m1 hm.one m2
   (λj l R ho k X=>by
    have I:=H k (by simp;exact .inr (m3 j l R ho k X));simp only[ce,not_or,not_exists,not_and]at I;exact⟨I.1,I.2.1,I.2.2.1,λr1 j1 l1 _ h8 h9=>I.2.2.2 r1 j1 l1 h8 h9⟩) m4
  have b1:=b9.put hV d hd a0 ((S d).ver+1) .one [.bp (B0+d) 0] (.pointer (some ⟨g',0,none⟩)) [.pointer (some ⟨g',0,none⟩)] (λ_=>[]) (by rw[aH a3];exact CA _) rfl rfl (λu I=>by simp at I;subst I;rfl)
   (λj l u R g9=>by
    cases j with
    |zero=>simp at R g9;subst R;subst g9;exact⟨Cu _ _,by rw[bm],by simp⟩
    |succ j=>simp at R)
   (λj l R ho k X=>by simp at X) (λj j' l l' _ _ _ _ k X=>by simp at X)
  have e1:ac (bE d (S (B0+d)).ver p q ks ep [.box b] y).2 S=ac [(B0+d,⟨(S (B0+d)).ver+1,.agg,aq p b y.1⟩)] S:=rfl;rw[aQ,e1,aH a3];refine⟨_,b1,λz hz ad=>?_⟩;show (if z=d then _ else (if z=B0+d then _ else W.cs z))=_;rw[if_neg hz,if_neg ad]
theorem uP (r:Nat)(c u:bU)(S:St):ac [(r,c)] (ac [(r,u)] S)=ac [(r,c)] S:=by
 funext q;rcases am r q c (ac [(r,u)] S) with ⟨rfl,e⟩|⟨h,e⟩
 ·rw[e,bm]
 ·rw[e,aH h,aH h]
theorem zx (hV:ay V){W:Wit}{S:St}{a:Act}{w w':World}(h:ap P V W S a w){b:Nat}(hb:live S b){N:Nat->Prop}{cs:List Value}{E:TypeId}{c:Ty}{y:c.den}{b0:List Nat}{G:Nat->Prop}{p:Bool}
  (Z:w'.heap[W.β b]?=some (.cells cs.toArray E (0,0))) (hm:Mx w' G c none 0 y cs b0) (a3:(W.β b::b0).Nodup) (a6:(S b).ls.length=c.cells)
  (a2:∀ k,ce V W S k->k≠W.β b->w'.heap[k]?=w.heap[k]?) (b1:w.heap.size<=w'.heap.size) (ad:w'.os=w.os) (ht:w'.tape=w.tape) (ho:w'.output=w.output)
  (hN:∀ k,N k->k<w'.heap.size/\¬ ce V W S k) (a0:∀ k∈b0,¬ ce V W S k/\¬ N k) (hG:∀ k,G k->gd V { W with nw:=λk=>W.nw k\/N k } p k) :
  ∃ W1,ap P V W1 (ac [(b,⟨(S b).ver+2,.agg,aq p c y⟩)] S) a w'/\W1.β=W.β/\(∀ k,W1.nw k<->W.nw k\/N k)/\(∀ q,q≠b->W1.cs q=W.cs q)/\(∀ q i,q≠b->W1.bs q i=W.bs q i) /\
   (∀ k,ce V W1 (ac [(b,⟨(S b).ver+2,.agg,aq p c y⟩)] S) k->ce V W S k\/N k\/k∈b0):=by
 have J:∀ (q:Nat),(if q=b then W.β b else W.β q)=W.β q:=λq=>by split <;> simp_all
 have h1:=h.setBoxG hV b hb.1 ((S b).ver+1) (Ce cs.length .dead) cs (λ_=>[]) (W.β b) E (w':=w') (CA _) (.inl ⟨hb,rfl⟩) Z a2 (λ_ _ _ _ k H=>by simp at H) b1 ad ht ho (by simp) hm.one
  (λj l u I R=>by
   rw[Cq]at I;split at I
   ·simp at I;subst I;trivial
   ·cases I)
  (λj l I R k H=>by simp at H) (λj j' l l' _ _ _ _ k H=>by simp at H)
 have a1:∀ (j:Nat) (l:Leaf),(Ce cs.length Leaf.dead)[j]?=some l->¬ ao l:=by
  intro j l I;rw[Cq]at I;split at I
  ·simp at I;subst I;exact id
  ·cases I
 have a5:∀ z,live (ac [(b,⟨(S b).ver+1,.agg,Ce cs.length .dead⟩)] S) z->live S z:=by
  intro z X;rcases am b z ⟨(S b).ver+1,.agg,Ce cs.length .dead⟩ S with ⟨rfl,e⟩|⟨_,e⟩
  ·exact hb
  ·exact⟨X.1,by rw[<- e];exact X.2⟩
 have b2:∀ k,ce V { W with β:=λr=>if r=b then W.β b else W.β r,cs:=λr=>if r=b then cs else W.cs r,bs:=λr j=>if r=b then [] else W.bs r j } (ac [(b,⟨(S b).ver+1,.agg,Ce cs.length .dead⟩)] S) k->ce V W S k:=by
  rintro k (H|H|⟨z,X,H⟩|⟨z,i,l,I,R,O⟩)
  ·exact .inl H
  ·exact .inr (.inl H)
  ·exact .inr (.inr (.inl ⟨z,a5 z X,by rw[<- H];exact (J z).symm⟩))
  ·by_cases M:z=b
   ·subst M;rw[bm]at I;exact absurd R (a1 i l I)
   ·rw[aH M]at I;simp only[if_neg M]at O;exact .inr (.inr (.inr ⟨z,i,l,I,R,O⟩))
 have h2:=h1.nwGrow hV N (λk H=>⟨(hN k H).1,λhu=>(hN k H).2 (b2 k hu)⟩);rw[Cg]at a3;obtain⟨Y,m1,m2,m3,m4⟩:=iO (P:=P) (V:=V) (W:={ W with β:=λr=>if r=b then W.β b else W.β r,cs:=λr=>if r=b then cs else W.cs r,bs:=λr j=>if r=b then [] else W.bs r j,nw:=λk=>W.nw k\/N k })
  (st:=ac [(b,⟨(S b).ver+1,.agg,Ce cs.length .dead⟩)] S) (p:=p) (λk H=>hG k H) hm a3.2
 have b3:=hm.len;have b4:=cI p c y;have h3:=h2.reown hV b ⟨(S b).ver+2,.agg,aq p c y⟩ Y (by rw[bm];exact CA _) (by rw[bm]) (by rw[bm,DJ];omega)
  (λj l v I R=>m2 j l v I (by simpa using R))
  (λj l I R k H=>by
   have a9:=m3 j l I R k H;obtain⟨q1,q2⟩:=a0 k a9;refine⟨λhn=>hn.elim (λhn=>q1 (.inl hn)) q2,λhp=>q1 (.inr (.inl hp)),λz X e0=>q1 (.inr (.inr (.inl ⟨z,a5 z X,by rw[<- e0];exact (J z).symm⟩))),λr1 j1 l1 a4 O g4 g5=>?_⟩;rw[aH a4]at O;have g5:k∈(if r1=b then [] else W.bs r1 j1):=g5;rw[if_neg a4]at g5;exact q1 (.inr (.inr (.inr ⟨r1,j1,l1,O,g4,g5⟩)))) m4
 rw[uP]at h3;refine⟨_,h3,funext λq=>J q,λk=>DC,λq hq=>if_neg hq,λq i hq=>?_,?_⟩
 ·show (if q=b then Y i else if q=b then [] else W.bs q i)=_;rw[if_neg hq,if_neg hq]
 ·rintro k ((H|H)|H|⟨z,X,H⟩|⟨z,i,l,I,R,O⟩)
  ·exact .inl (.inl H)
  ·exact .inr (.inl H)
  ·exact .inl (.inr (.inl H))
  ·refine .inl (.inr (.inr (.inl ⟨z,?_,by rw[<- H];exact (J z).symm⟩)));rcases am b z ⟨(S b).ver+2,.agg,aq p c y⟩ S with ⟨rfl,e⟩|⟨_,e⟩
   ·exact hb
   ·exact⟨X.1,by rw[<- e];exact X.2⟩
  ·by_cases M:z=b
   ·subst M;rw[bm]at I;have O:k∈(if z=z then Y i else _):=O;rw[if_pos rfl]at O;exact .inr (.inr (m3 i l I R k O))
   ·rw[aH M]at I;have O:k∈(if z=b then Y i else if z=b then [] else W.bs z i):=O;rw[if_neg M,if_neg M]at O;exact .inl (.inr (.inr (.inr ⟨z,i,l,I,R,O⟩)))
end
section
variable {P:Program} {V:Env} {Γ:List Ctr} {st:St} {R:Type}
theorem gG:∀ (ps:List PK) (xs:List (aG×List Leaf)) (r:Upd->List (aG×List Leaf)->Option (Bool×Nat×Nat)->Option R),kD st ps xs r=(cY st ps xs).bind λu=>r u.1 u.2.1 u.2.2
 |[],xs,r=>rfl
 |_::_,[],r=>rfl
 |p::ps,x::xs,r=>by
  simp only[kD,cY];split
  ·rw[hY];cases cl st (x.2.getD _ .dead) <;> rfl
  ·rw[gG ps xs];cases cY st ps xs <;> rfl
theorem lh {a:Ty}:∀ {ls:List Leaf} {j k:Nat},lw a j ls=some k->j<=k/\∃ l,ls[k-j]?=some l/\jr l=true
 |[],_,_,h=>by simp[lw]at h
 |l::ls,j,k,h=>by
  simp only[lw]at h;cases r:jr l&&pI a j with
  |true =>
   rw[r]at h;simp only[cond_true,BV]at h;subst h;simp only[BX]at r;exact⟨CI _,l,by simp,r.1⟩
  |false =>
   rw[r]at h;obtain⟨H,y,u,z⟩:=lh h;exact⟨by omega,y,by rw[show k-j=(k-(j+1))+1 by omega];simpa using u,z⟩
theorem rL {p:PK}{ls:List Leaf}{k:Nat}(h:p.nest ls=some k):∃ l,ls[k]?=some l/\jr l=true:=by
 cases p with
 |own a=>obtain⟨_,l,u,r⟩:=lh h;exact⟨l,by simpa using u,r⟩
 |io a=>obtain⟨_,l,u,r⟩:=lh h;exact⟨l,by simpa using u,r⟩
 |_=>simp[PK.nest]at h
theorem tP (u:ay V){W W':Wit}{st':St}{w w':World}(y:cE V W W' st st' w w'):∀ {xs:List (aG×List Leaf)} {z:List Value},gW P V W st w xs z->gW P V W' st' w' xs z
 |[],_,h=>h
 |_::_,_,⟨v,r,I,e,M,H,J⟩=>⟨v,r,I,e,M,H.carry u.ro y,tP u y J⟩
theorem aC.setLeaf {W:Wit}{w:World}{ls:List Leaf}{cs:List Value}(z:aC P V W st w ls cs){k:Nat}{l:Leaf}(y:¬ ao l)(h:∀ v,cs[k]?=some v->aI P V W st w [] l v):aC P V W st w (aT ls k l) cs:=by
 have r:=z.length;refine aC.mk (by simp[aT,r]) λj J v H u=>?_
 rcases aS _ _ _ _ _ H with ⟨rfl,rfl,M⟩|⟨I,H⟩
 ·exact⟨h v u,y,z.one' v (List.mem_of_getElem? u)⟩
 ·exact z.at_ j J v H u
def BI (W:Wit)(S:St)(w:World):Option (Bool×Nat×Nat)->Prop
 |some (_,r,j)=>∃ v,W.cs TMP=[v]/\tK W S w r j v
 |none=>True
theorem oL (X:ay V){W:Wit}{a:Act}{w:World}(h:ap P V W st a w):∀ (ps:List PK) (xs:List (aG×List Leaf)) (O:List Value) (U:Upd) (Z:List (aG×List Leaf)) (b:Option (Bool×Nat×Nat)),
  gW P V W st w xs O->cY st ps xs=some (U,Z,b)->∃ H,ap P V H (ac U st) a w/\gW P V H (ac U st) w Z O/\H.nw=W.nw/\H.β=W.β/\BI H (ac U st) w b/\cE V W H st (ac U st) w w/\(∀ q,(ac U st q).sh=(st q).sh\/q=TMP) /\
   (∀ f r j,b=some (f,r,j)->f=true->ps.any PK.isIo=true)
 |[],xs,O,U,Z,b,hx,y=>by
  simp only[cY,BV,CY]at y;obtain⟨rfl,rfl,rfl⟩:=y;exact⟨W,h,hx,rfl,rfl,trivial,cE.refl V W st w,λ_=>.inl rfl,λ_ _ _ h=>by cases h⟩
 |_::_,[],O,U,Z,b,hx,y=>by
  simp only[cY,BV,CY]at y;obtain⟨rfl,rfl,rfl⟩:=y;exact⟨W,h,hx,rfl,rfl,trivial,cE.refl V W st w,λ_=>.inl rfl,λ_ _ _ h=>by cases h⟩
 |p::ps,x::xs,O,U,Z,b,⟨v,M,cs,e,hs,hl,z⟩,y=>by
  subst e;simp only[cY]at y;split at y
  ·rename_i k hk;simp only[BW]at y;obtain⟨u,I,y⟩:=y;simp only[CY]at y;obtain⟨rfl,rfl,rfl⟩:=y;obtain⟨l,J,a1⟩:=rL hk;have hg:x.2.getD k .dead=l:=by rw[Ca,J];rfl
   rw[hg]at I ⊢;have a0:k<cs.length:=by rw[<- hl.length];exact (BY.1 J).1
   have Y:=CG a0;obtain⟨U,l'⟩:=u;obtain⟨H,n,p0,E0,e0,a2,g1,g2,g3,g4,_,_,g5,g6,_,g7,g8,g9⟩:=vp X h (hl.at_ k l _ J Y).1 I;subst g3;refine⟨H,g1,⟨v,M,cs,rfl,hs,(hl.carry X.ro g2).setLeaf id λu I=>?_,tP X g2 z⟩,g5,g6,⟨_,g7,g9⟩,g2,g8,λf r j hb hf=>?_⟩
   ·rw[Y]at I;simp only[BV]at I;subst I;exact g4
   ·simp only[BV,CY]at hb;rw[Cv,hb.1,hf];rfl
  ·simp only[BW]at y;obtain⟨u,I,y⟩:=y;simp only[CY]at y;obtain⟨rfl,rfl,rfl⟩:=y;obtain⟨H,g1,g2,g3,g4,g5,g6,g7,g8⟩:=oL X h ps xs M u.1 u.2.1 u.2.2 z I;exact⟨H,g1,⟨v,M,cs,rfl,hs,hl.carry X.ro g6,g2⟩,g3,g4,g5,g6,g7,λf r j hb hf=>by rw[Cv,g8 f r j hb hf,Bool.or_true]⟩
end
section
variable {P:Program} {V:Env} {Γ:List Ctr} {st:St}
theorem iP {st:St}{q i:Nat}:∀ {ks:List (Nat×Nat)},(q,i)∉ks->(ac (aE st ks) st q).ls[i]?=(st q).ls[i]?
 |[],_=>rfl
 |(r,j)::ks,h=>by
  simp only[Cn,not_or]at h;have e:ac (aE st ((r,j)::ks)) st=ac [(r,fZ (ac (aE st ks) st r) j)] (ac (aE st ks) st):=aQ _ _ _ _;rw[e];rcases am r q (fZ (ac (aE st ks) st r) j) (ac (aE st ks) st) with ⟨rfl,e⟩|⟨_,e⟩
  ·rw[e];simp only[fZ,aT];rw[Ck (λu=>h.1 (by rw[u]))];exact iP h.2
  ·rw[e];exact iP h.2
theorem li {st:St}{q i:Nat}:∀ {ks:List (Nat×Nat)},(q,i)∉ks->(ac (aM st ks) st q).ls[i]?=(st q).ls[i]?
 |[],_=>rfl
 |(r,j)::ks,h=>by
  simp only[Cn,not_or]at h;have e:ac (aM st ((r,j)::ks)) st=ac [(r,gi (ac (aM st ks) st r) j)] (ac (aM st ks) st):=aQ _ _ _ _;rw[e];rcases am r q (gi (ac (aM st ks) st r) j) (ac (aM st ks) st) with ⟨rfl,e⟩|⟨_,e⟩
  ·rw[e];simp only[gi,aT];rw[Ck (λu=>h.1 (by rw[u]))];exact li h.2
  ·rw[e];exact li h.2
theorem nB (d n:Nat)(p q:Bool)(ks:List (Nat×Nat×Nat))(ep:Nat):∀ (z:List RK) (y:ai z),∀ x∈(bE d n p q ks ep z y).2,x.1=B0+d
 |[],_,x,u=>by simp[bE]at u
 |r::z,y,x,u=>by
  simp only[bE,B9]at u;rcases u with u|u
  ·cases r <;> simp[pH]at u;rw[u]
  ·exact nB d n p q ks ep z y.2 x u
theorem rM {q:Nat}(st:St):∀ (U:Upd),(∀ x∈U,x.1≠q)->ac U st q=st q
 |[],_=>rfl
 |(r,c)::U,h=>by
  rw[aQ,aH (Cl (h (r,c) (CK ..)))];exact rM st U (λx u=>h x (CD _ u))
def mD (u:St)(c:Ctr)(d:Nat)(xs:List (aG×List Leaf))(g:Got (ab c.ps))(y:ai c.rs×ah c.ps):Upd :=
 let H:=(let U:=(bif c.fresh then [] else aE u g.frz);aM (ac U u) g.kill++U);let z:=aF (ac H u) (g.p&&!c.fresh) c.ps xs y.2++H;let r:=bE d (ac z u (B0+d)).ver (g.p&&!c.fresh) g.p (g.frz.map λk=>(k.1,k.2,(ac z u k.1).ver)) (ac z u EPO).ver c.rs y.1
 (d,eS ((ac (r.2++z) u d).ver+1) r.1)::(r.2++z)
theorem zy (hV:ay V){W0:Wit}{u:St}{a:Act}{w:World}(h0:ap P V W0 u a w){c:Ctr}{xs:List (aG×List Leaf)}{vs:List Value}(ed:gW P V W0 u w xs vs){g:Got (ab c.ps)}(hg:bd (cd Γ u) c.ps xs=some g)
  (hf:∀ z∈g.frz,aB u z) (H:∀ z∈g.kill,aB u z) (ey:∀ b∈g.lend,live u b) (ef:a8 g.kill=true) (eb:dE g.frz g.kill=true) (hE:∀ z∈g.kill,z.1≠EPO) (b5:g.lend.length<=1) (en:g.lend=[]\/c.ps.any PK.isIo=false)
  {ba:List (List Nat)} (c1:∀ k,ba.flatten.count k=(g.lend.map W0.β).count k+(aZ W0 g.kill).count k)
  {d:Nat} (hd:d<V.nt) (dd:∀ x∈V.fixt,x.1≠d) (a5:gL u d c.rs=true) (e7:((c.fresh&&g.lend.isEmpty)||!(c.rs.any RK.isBv))=true) {y:ai c.rs×ah c.ps} {e:Ending} {w':World} (cc:tL c w (bq V W0 g.p g.frz) vs ba y e w') :
  ∃ v,e=.returned v/\∃ W1,ap P V W1 (ac (mD u c d xs g y) u) (a.put (some d) v) w'/\(∀ q,q≠d->q≠B0+d->q∉g.lend->W1.cs q=W0.cs q) /\
   (∀ q i,q≠d->q≠B0+d->q∉g.lend->(q,i)∉g.frz->(q,i)∉g.kill->(ac (mD u c d xs g y) u q).ls[i]?=(u q).ls[i]?)/\(∀ k,k<w.heap.size->k∉aZ W0 g.kill->k∉g.lend.map W0.β->w'.heap[k]?=w.heap[k]?)/\w.heap.size<=w'.heap.size:=by
 obtain⟨v,us,N,c4,bb,rfl,eg,cw,e4,em,d1,ex,hN,c2,d2,R,Z⟩:=cc;have a3:∀ k,k∈ba.flatten<->k∈g.lend.map W0.β\/k∈aZ W0 g.kill:=λk=>by
  rw[<- B8,<- B8,<- B8,c1 k];omega
 have a0:∀ k,k<w.heap.size->k∉aZ W0 g.kill->k∉g.lend.map W0.β->w'.heap[k]?=w.heap[k]?:=λk h1 h2 h3=>ex k h1 (λh=>((a3 k).1 h).elim h3 h2)
 refine⟨v,rfl,?_⟩;unfold mD;generalize b9:(bif c.fresh then [] else g.frz)=O;have hU:(bif c.fresh then [] else aE u g.frz)=aE u O:=by rw[<- b9];cases c.fresh <;> rfl
 have e6:dE O g.kill=true:=by rw[<- b9];cases c.fresh with|true=>rfl|false=>exact eb
 have bn:∀ z∈O,z∈g.frz:=by rw[<- b9];cases c.fresh with|true=>simp|false=>exact λ_ h=>h
 have f2:∀ z∈O,aB u z:=λz hz=>hf z (bn z hz)
 rw[hU];obtain⟨h1,h2,h3,h4⟩:=fG hV h0 e6 H;have b1:∀ q i,(q,i)∉g.frz->(q,i)∉g.kill->(ac (aM (ac (aE u O) u) g.kill++aE u O) u q).ls[i]?=(u q).ls[i]?:=λq i q1 q2=>by
  rw[bB,li q2,iP (λh=>q1 (bn _ h))]
 generalize f1:aM (ac (aE u O) u) g.kill++aE u O=I at h1 h2 h3 h4 b1;have a1:∀ k∈aZ W0 g.kill,¬ ce V (W0.frz u O) (ac I u) k:=λk H=>mz ⟨(h4 k H).1,(h4 k H).2.1,(h4 k H).2.2.2.1,(h4 k H).2.2.2.2⟩
 have a2:∀ k,qj w w' ba.flatten k->k∉g.lend.map W0.β->k<w'.heap.size/\¬ ce V (W0.frz u O) (ac I u) k:=by
  rintro k ⟨f0,a6⟩ ev;refine⟨f0,λJ=>?_⟩;rcases a6 with a6|a6
  ·have:=h1.used_lt k J;omega
  ·exact ((a3 k).1 a6).elim ev (λa6=>a1 k a6 J)
 have hG:∀ k,(N k\/(c.fresh=false/\bq V W0 g.p g.frz k))->gd V { W0.frz u O with nw:=λk=>(W0.frz u O).nw k\/N k } (g.p&&!c.fresh) k:=by
  rintro k (H|⟨d3,H⟩)
  ·exact .inl (.inr H)
  ·have e1:O=g.frz:=by rw[<- b9,d3];rfl
   have:=ko (V:=V) (W:=W0) (p:=g.p) hf k H;rw[d3];rw[<- e1]at this;exact bW (W':={ W0.frz u O with nw:=λk=>(W0.frz u O).nw k\/N k }) (by intro h;simp[h]) (λ_ h=>Or.inl h) k this
 rw[Cc]at R;have c3:∀ (W2:Wit),ap P V W2 (ac (aF (ac I u) (g.p&&!c.fresh) c.ps xs y.2++I) u) a w'->(∀ k,(N k\/(c.fresh=false/\bq V W0 g.p g.frz k))->gd V W2 (g.p&&!c.fresh) k) ->
   (∀ k∈bb.flatten,¬ ce V W2 (ac (aF (ac I u) (g.p&&!c.fresh) c.ps xs y.2++I) u) k) ->
   (c.rs.any RK.isBv=true->∀ x∈g.frz,∀ k,k∈W0.bs x.1 x.2->k∈W2.bs x.1 x.2)->(c.rs.any RK.isBv=true->∀ k,W0.nw k->W2.nw k) ->
   (∀ q,q∉g.lend->W2.cs q=W0.cs q)->(∀ q i,q∉g.lend->(q,i)∉g.frz->(q,i)∉g.kill->(ac (aF (ac I u) (g.p&&!c.fresh) c.ps xs y.2++I) u q).ls[i]?=(u q).ls[i]?) ->
   (∀ q,(ac (aF (ac I u) (g.p&&!c.fresh) c.ps xs y.2++I) u q).sh=(u q).sh) ->
   ∃ W1,ap P V W1 (ac (let Y:=aF (ac I u) (g.p&&!c.fresh) c.ps xs y.2++I
     let r:=bE d (ac Y u (B0+d)).ver (g.p&&!c.fresh) g.p (g.frz.map λk=>(k.1,k.2,(ac Y u k.1).ver)) (ac Y u EPO).ver c.rs y.1
     (d,eS ((ac (r.2++Y) u d).ver+1) r.1)::(r.2++Y)) u) (a.put (some d) v) w'/\(∀ q,q≠d->q≠B0+d->q∉g.lend->W1.cs q=W0.cs q) /\
    (∀ q i,q≠d->q≠B0+d->q∉g.lend->(q,i)∉g.frz->(q,i)∉g.kill->(ac (let Y:=aF (ac I u) (g.p&&!c.fresh) c.ps xs y.2++I
     let r:=bE d (ac Y u (B0+d)).ver (g.p&&!c.fresh) g.p (g.frz.map λk=>(k.1,k.2,(ac Y u k.1).ver)) (ac Y u EPO).ver c.rs y.1
     (d,eS ((ac (r.2++Y) u d).ver+1) r.1)::(r.2++Y)) u q).ls[i]?=(u q).ls[i]?):=by
  intro W2 g1 e0 a4 ec ej cy bx c0;generalize aF (ac I u) (g.p&&!c.fresh) c.ps xs y.2++I=Y at g1 a4 bx c0 ⊢;have c5:gL (ac Y u) d c.rs=true:=by
   unfold gL at a5 ⊢;split at a5
   ·rw[c0];exact a5
   ·exact a5
  obtain⟨W1,q1,q2⟩:=wM hV g1 (q:=g.p) (ks:=g.frz.map λk=>(k.1,k.2,(ac Y u k.1).ver)) (ep:=(ac Y u EPO).ver) d2 e0 (λhb=>by
   refine⟨λk H=>?_,CI _,λk H=>?_⟩
   ·rcases H with H|(H|H)|⟨x,hx,H⟩
    ·exact .inl (bW (W':=W2) (by intro h;simp at h;exact h.1) (λ_ h=>h) k (e0 k H))
    ·exact .inl (.inl (ej hb k H))
    ·exact .inl (.inr H)
    ·exact .inr ⟨(x.1,x.2,(ac Y u x.1).ver),DF.2 ⟨x,hx,rfl⟩,ec hb x hx k H⟩
   ·obtain⟨x,hx,rfl⟩:=DF.1 H;exact CI _) a4 R.2.1 eg hd dd c5
  have e1:∀ (X:Upd) (C:bU),ac ((d,C)::(X++Y)) u=ac ((d,C)::X) (ac Y u):=λX C=>by
   rw[aQ d C (X++Y),aQ d C X,bB]
  simp only[e1,bB];refine⟨W1,q1,λq hq cp cx=>(q2 q hq cp).trans (cy q cx),λq i hq cp cx b2 a9=>?_⟩;rw[aQ,aH hq,rM _ _ (λx hx=>by rw[nB _ _ _ _ _ _ _ _ x hx];exact Cl cp)];exact bx q i cx b2 a9
 refine (?_:∃ W1,_/\_/\_).imp λW1 hh=>⟨hh.1,hh.2.1,hh.2.2,a0,cw⟩
 cases M:g.lend with
 |nil =>
  rw[M]at a3 a0 a2 c1;simp only[DW,List.not_mem_nil,not_false_iff,true_implies,forall_const,false_or]at a3 a0 a2;rw[M]at c3;have h5:=h1.world hV cw e4 em d1 (λk H=>a0 k (h1.used_lt k H) (λhm=>a1 k hm H));have h6:=h5.nwGrow hV N (λk H=>a2 k (hN k H));have cb:∀ k,ce V { W0.frz u O with nw:=λk=>(W0.frz u O).nw k\/N k } (ac I u) k->ce V (W0.frz u O) (ac I u) k\/N k:=by
   rintro k ((H|H)|H|H|H)
   ·exact .inl (.inl H)
   ·exact .inr H
   ·exact .inl (.inr (.inl H))
   ·exact .inl (.inr (.inr (.inl H)))
   ·exact .inl (.inr (.inr (.inr H)))
  have b4:∀ k∈c4.flatten++bb.flatten,¬ ce V { W0.frz u O with nw:=λk=>(W0.frz u O).nw k\/N k } (ac I u) k:=λk H J=>by
   obtain⟨q1,q2⟩:=Z k H;rcases cb k J with J|J
   ·exact (a2 k q1).2 J
   ·exact q2 J
  obtain⟨W2,g1,g2,g3,g4,g5,g6,g7⟩:=qR (Γ:=Γ) hV (W0:=W0) (W:={ W0.frz u O with nw:=λk=>(W0.frz u O).nw k\/N k }) (p:=g.p&&!c.fresh) rfl hG h6 c.ps xs vs g y.2 c4 ed hg (tO c.ps xs g hg M) c2 ef hE
   (λx hx l hl ho=>(h2 x.1 x.2 l hl ho).2.2 hx) (λk H=>b4 k (B7 _ H)) R.1
  rw[<- bB]at g1 g5 g6 g7;refine c3 W2 g1 (λk H=>?_) (λk H J=>?_) (λhb x hx k H=>?_) (λhb k H=>?_) (λq _=>by rw[g2];rfl) (λq i _ b2 a9=>(g6 q i a9).1.trans (b1 q i b2 a9)) (λq=>(g5 q).1.trans (h3 q).1)
  ·rcases hG k H with H|H
   ·exact .inl (by rw[g4];exact H)
   ·exact .inr H
  ·rcases g7 k J with J|J
   ·exact b4 k (BZ _ H) J
   ·exact R.2.2 k J k H rfl
  ·rw[(g6 x.1 x.2 (nU eb x hx)).2];exact H
  ·rw[g4];exact .inl (.inl H)
 |cons b dc =>
  have cu:dc=[]:=by
   rw[M]at b5;simp at b5;exact b5
  subst cu;have ez:c.ps.any PK.isIo=false:=en.resolve_left (by rw[M];simp);have e5:c.rs.any RK.isBv=false:=by
   rw[M]at e7;simpa using e7
  obtain⟨_,r2⟩:=po (Γ:=Γ) h0 (S:=ac I u) (p:=g.p&&!c.fresh) c.ps xs vs g y.2 c4 ed hg ez c2;obtain⟨cT,yv,cs,E,b0,r3,r4,r5,r6,r7⟩:=r2 b M;rw[r6]at R Z;have hβ:(W0.frz u O).β=W0.β:=rfl;have bl:∀ k,k∈g.lend.map W0.β<->k=W0.β b:=λk=>by rw[M];simp
  have hb:live (ac I u) b:=(iF (λq=>(h3 q).1) b).2 (ey b (by rw[M];simp));have c6:∀ k,k∈(W0.β b::b0)++bb.flatten->¬ N k:=λk H=>(Z k H).2
  obtain⟨W2,g1,g2,g3,g4,g5,g6⟩:=zx hV h1 hb (N:=N) (p:=g.p&&!c.fresh) r4 r5 R.1 (by rw[h1.len b];show (W0.cs b).length=_;rw[<- h0.len b];exact r7)
   (λk J es=>a0 k (h1.used_lt k J) (λhm=>a1 k hm J) (λhm=>es ((bl k).1 hm))) cw e4 em d1
   (λk H=>a2 k (hN k H) (λhm=>c6 _ (B7 _ (CK ..)) (by rw[<- (bl k).1 hm];exact H)))
   (λk H=>⟨(a2 k (Z k (B7 _ (CD _ H))).1 (λhm=>by
    have:=(bl k).1 hm;subst this;exact (Cg.1 R.1).1 H)).2,c6 k (B7 _ (CD _ H))⟩) hG
  have e2:ac (aF (ac I u) (g.p&&!c.fresh) c.ps xs y.2++I) u=ac [(b,⟨(ac I u b).ver+2,.agg,aq (g.p&&!c.fresh) cT yv⟩)] (ac I u):=by rw[bB,r3]
  have et:∀ k∈bb.flatten,k∉g.lend.map W0.β:=λk H hm=>R.2.2 _ (CK ..) k H ((bl k).1 hm).symm
  rw[<- e2]at g1 g6;have ad:=c3 W2 g1 (λk H=>?_) (λk H J=>?_) (λb3=>by rw[e5]at b3;cases b3) (λb3=>by rw[e5]at b3;cases b3) (λq hq=>?_) (λq i hq b2 a9=>?_) (λq=>?_)
  ·rw[M]at ad;exact ad
  ·rcases hG k H with H|H
   ·exact .inl ((g3 k).2 H)
   ·exact .inr H
  ·rcases g6 k J with J|J|J
   ·exact (a2 k (Z k (BZ _ H)).1 (et k H)).2 J
   ·exact c6 k (BZ _ H) J
   ·exact R.2.2 k (CD _ J) k H rfl
  ·rw[M]at hq;rw[g4 q (by simpa using hq)];rfl
  ·rw[M]at hq;rw[e2,aH (by simpa using hq)];exact b1 q i b2 a9
  ·rw[e2];rcases am b q ⟨(ac I u b).ver+2,.agg,aq (g.p&&!c.fresh) cT yv⟩ (ac I u) with ⟨rfl,e3⟩|⟨_,e3⟩
   ·rw[e3];have:=hb.2;rw[(h3 q).1]at this;exact this.symm
   ·rw[e3];exact (h3 q).1
end
section
variable {P:Program} {V:Env} {Γ:List Ctr} {T:TypeId->TI} {st:St} {o:Oper} {R:Type} {κ:Upd->Option R} {r:R}
theorem zz {ls:List Leaf}{j:Nat}{p:Bool}{u:Option (Nat×Nat)}{E:TypeId}{e:Ty}{xs:List e.den}(h:ls.getD j .dead=.own p u E e xs):ls[j]?=some (.own p u E e xs):=by
 rw[Ca]at h;cases y:ls[j]? with
 |none=>rw[y]at h;simp at h
 |some z=>rw[y]at h;simp at h;rw[h]
theorem AS (hV:ay V){b:Option (Bool×Nat×Nat)}{U:Upd}(h:jU st b U κ=some r) :
  ∃ U',κ U'=some r/\∀ I a w,ap P V I (ac U st) a w->(∀ q j,b=some (true,q,j)->∃ v,I.cs TMP=[v]/\tK I (ac U st) w q j v)->Rel P V (ac U' st) a w:=by
 unfold jU at h;split at h
 ·rename_i q j;split at h
  ·rename_i p i off E' e' xs q' E e ys hq ba;obtain⟨y,hy,h⟩:=CS.1 h;obtain⟨_,_,hy⟩:=gv hy;simp only[DX]at hy;split at h
   ·rename_i z hz;refine⟨_,h,λI a w hr hb=>?_⟩;obtain⟨v,c4,a4,c0,i0,bb,p0,E0,e0,c2,g,cb,g1,g2,g3,g4⟩:=hb q j rfl;have hq:=zz hq;rw[hq]at g1;obtain⟨rfl,b4,rfl,h4⟩:p=p0/\some (i,off)=some (i0,bb)/\E'=E0/\(⟨e',xs⟩:(e:Ty)×List e.den)=⟨e0,c2⟩:=by
     simp only[BV,Leaf.own.injEq]at g1;obtain⟨q1,q2,q3,q4,q5⟩:=g1;subst q4;rw[heq_eq_eq]at q5;subst q5;exact⟨q1,by simpa using q2,q3,rfl⟩
    simp only[BV,CY]at b4;obtain⟨rfl,rfl⟩:=b4;simp only[Sigma.mk.injEq]at h4;obtain⟨rfl,h4⟩:=h4;rw[heq_eq_eq]at h4;subst h4;generalize hS:ac U st=S at hr hq g1 g2 g3 ba ⊢;have a9:(S TMP).ls[0]?=some (.own q' none E e ys):=by rw[ba];rfl
    have b5:(I.cs TMP)[0]?=some v:=by rw[c4];rfl
    have b1:=hr.leaf q j _ _ hq g2;have b0:=hr.leaf TMP 0 _ _ a9 b5;have b1:OwH w (gd V I p) (some (i,off)) E' e' xs _ (I.bs q j):=b1;have b0:Ow w (gd V I q') E e ys v (I.bs TMP 0):=b0;have b9:=b1.carry (G':=gd V I (p||q')) (bW (W':=I) (by intro h;simp[h]) (λ_ h=>h)) (λ_ _=>rfl) (λ_ _=>rfl);have bl:=OwH.carry (G':=gd V I (p||q')) b0 (bW (W':=I) (by intro h;simp[h]) (λ_ h=>h)) (λ_ _=>rfl) (λ_ _=>rfl);have c3:∀ k∈I.bs TMP 0,k∉I.bs q j:=λk M a2=>a4 (hr.sep TMP 0 _ q j _ a9 trivial hq trivial k M a2).1.symm
    obtain⟨b3,bx,c1⟩:=b9.back bl c3 hy hz (λg' c6 e1=>by
     simp only[CU,BV,C6,and_true]at e1;rw[<- e1.1];exact g4)
    have c5:∀ k∈b3,k∈I.bs q j\/k∈I.bs TMP 0:=λk M=>by
     have h5:=c1 k;have h6:=B8.2 M;by_cases h7:k∈I.bs q j
     ·exact .inl h7
     ·have:=CN.2 h7;exact .inr (B8.1 (by omega))
    obtain⟨h1,cc⟩:=hr.putGhost hV TMP i8.1 i8.2.1 ((S TMP).ver+1) .off [] [] (λ_=>[]) (CA _) rfl (by simp) (λj l u hj=>by simp at hj) (λj l hj=>by simp at hj) (λj j' l l' hj=>by simp at hj);have a5:∀ x,x≠TMP->ac [(TMP,⟨(S TMP).ver+1,.off,[]⟩)] S x=S x:=λx hx=>aH hx _ _
    have ad:(ac [(TMP,⟨(S TMP).ver+1,.off,[]⟩)] S) q=S q:=a5 q a4;have H:∀ (Y:Nat) (l':Leaf),Y≠j->(aT (S q).ls j (.own (p||q') none E' e' (xs.set i z)))[Y]?=some l'->(S q).ls[Y]?=some l':=by
     intro Y l' a3 a1;rcases aS _ _ _ _ _ a1 with ⟨rfl,_,_⟩|⟨_,a1⟩
     ·exact absurd rfl a3
     ·exact a1
    have bn:∀ (l':Leaf),(aT (S q).ls j (.own (p||q') none E' e' (xs.set i z)))[j]?=some l'->l'=.own (p||q') none E' e' (xs.set i z):=by
     intro l' a1;rcases aS _ _ _ _ _ a1 with ⟨_,rfl,_⟩|⟨a3,_⟩
     ·rfl
     ·exact absurd rfl a3
    have a6:∀ b,live (ac [(TMP,⟨(S TMP).ver+1,.off,[]⟩)] S) b->live S b:=λb hb=>by
     have:b≠TMP:=by have:=hb.1;have:=i8.2.1;omega
     exact⟨hb.1,by rw[<- a5 b this];exact hb.2⟩
    have b2:∀ k∈b3,¬ I.nw k/\¬ V.prot k/\(∀ b,live S b->I.β b≠k)/\∀ (O i1:Nat) (l1:Leaf),(S O).ls[i1]?=some l1->ao l1->(O,i1)≠(q,j)->O≠TMP->k∉I.bs O i1:=λk M=>by
     rcases c5 k M with M|M
     ·have h9:=hr.ownb q j _ hq trivial k M;exact⟨h9.1,h9.2.1,h9.2.2,λO i1 l1 g5 Z g7 _ g8=>g7 (by obtain⟨e1,e2⟩:=hr.sep O i1 l1 q j _ g5 Z hq trivial k g8 M;rw[e1,e2])⟩
     ·have h9:=hr.ownb TMP 0 _ a9 trivial k M;exact⟨h9.1,h9.2.1,h9.2.2,λO i1 l1 g5 Z _ g7 g8=>g7 (hr.sep O i1 l1 TMP 0 _ g5 Z a9 trivial k g8 M).1⟩
    have h2:=(h1.reownE hV q ⟨(S q).ver,(S q).sh,aT (S q).ls j (.own (p||q') none E' e' (xs.set i z))⟩ (λY=>if Y=j then b3 else I.bs q Y) c0 (by rw[ad];exact CI _) (by rw[ad]) (by rw[ad];simp[aT])
     (λY l' u g5 Z=>by
      have Z:(if q=TMP then [] else I.cs q)[Y]?=some u:=Z;rw[if_neg a4]at Z;by_cases J:Y=j
      ·subst J;obtain rfl:=bn l' g5;rw[g2]at Z;simp only[BV]at Z;subst Z;simp only[if_true];exact bx
      ·simp only[if_neg J];have:=h1.leaf q Y l' u (by rw[ad];exact H Y l' J g5) (by show (if q=TMP then [] else I.cs q)[Y]?=_;rw[if_neg a4];exact Z);have e0:(if q=TMP then ([]:List Nat) else I.bs q Y)=I.bs q Y:=if_neg a4;simp only[e0]at this;exact this)
     (λY l' g5 Z k M=>by
      by_cases J:Y=j
      ·subst J;simp only[if_true]at M;obtain⟨q1,q2,q3,q4⟩:=b2 k M;refine⟨q1,q2,λb hb=>q3 b (a6 b hb),λO j1 l1 a3 g7 g8 g9=>?_⟩;by_cases a0:O=TMP
       ·subst a0;rw[bm]at g7;simp at g7
       ·rw[a5 O a0]at g7;have g9:k∈(if O=TMP then [] else I.bs O j1):=g9;rw[if_neg a0]at g9;exact q4 O j1 l1 g7 g8 (λe=>a3 (by cases e;rfl)) a0 g9
      ·simp only[if_neg J]at M;have a1:=H Y l' J g5;have h9:=hr.ownb q Y l' a1 Z k M;refine⟨h9.1,h9.2.1,λb hb=>h9.2.2 b (a6 b hb),λO j1 l1 a3 g7 g8 g9=>?_⟩;by_cases a0:O=TMP
       ·subst a0;rw[bm]at g7;simp at g7
       ·rw[a5 O a0]at g7;have g9:k∈(if O=TMP then [] else I.bs O j1):=g9;rw[if_neg a0]at g9;exact a3 (hr.sep q Y l' O j1 l1 a1 Z g7 g8 k M g9).1.symm)
     (λi1 i2 l1 l2 g5 Z g7 g8 k M a2=>by
      by_cases J:i1=j <;> by_cases X:i2=j
      ·omega
      ·subst J;simp only[if_true]at M;simp only[if_neg X]at a2;exact absurd a2 ((b2 k M).2.2.2 q i2 l2 (H i2 l2 X g7) g8 (λe=>X (by cases e;rfl)) a4)
      ·subst X;simp only[if_true]at a2;simp only[if_neg J]at M;exact absurd M ((b2 k a2).2.2.2 q i1 l1 (H i1 l1 J g5) Z (λe=>J (by cases e;rfl)) a4)
      ·simp only[if_neg J]at M;simp only[if_neg X]at a2;exact (hr.sep q i1 l1 q i2 l2 (H i1 l1 J g5) Z (H i2 l2 X g7) g8 k M a2).2)).1
    show ∃ W,ap P V W _ a w;have e1:ac ((q,⟨(S q).ver,(S q).sh,aT (S q).ls j (.own (p||q') none E' e' (xs.set i z))⟩)::(TMP,⟨(S TMP).ver+1,.off,[]⟩)::(EPO,bX (S EPO))::U) st =
      ac [(q,⟨(S q).ver,(S q).sh,aT (S q).ls j (.own (p||q') none E' e' (xs.set i z))⟩),(EPO,bX (ac [(TMP,⟨(S TMP).ver+1,.off,[]⟩)] S EPO))] (ac [(TMP,⟨(S TMP).ver+1,.off,[]⟩)] S):=by
     rw[a5 EPO (Cl i8.2.2),aQ q,aQ TMP,aQ EPO,hS,aQ q _ [(EPO,bX (S EPO))],nj i8.2.2]
    rw[e1];exact⟨_,h2⟩
   ·cases h
  ·cases h
 ·exact⟨_,h,λI a w hr _=>⟨I,hr⟩⟩
theorem vu (hV:ay V)(hΓ:∀ c∈Γ,bR P c){d:Nat}(hd:d<V.nt)(dd:∀ x∈V.fixt,x.1≠d){f:FuncId}{xs:List (aG×List Leaf)}(h:js Γ st d f xs κ=some r) :
  fV P f/\∃ U,κ U=some r/\∀ W a w,ap P V W st a w->∀ vs,gW P V W st w xs vs->Calls P f vs.toArray w (λe w'=>∃ v,e=.returned v/\Rel P V (ac U st) (a.put (some d) v) w'):=by
 unfold js at h;split at h
 ·rename_i c hc;obtain⟨d3,rfl⟩:=nz hc;obtain⟨cx,a9⟩:=hΓ c d3;refine⟨cx,?_⟩;rw[gG]at h;obtain⟨⟨U0,ys,b⟩,c3,h⟩:=CS.1 h;simp only at h;split at h
  ·rename_i g hg;cases I:a8 g.kill&&dE g.frz g.kill&&gL st d c.rs&&!(g.see.any λq=>g.lend.any (CH q))&&DB g.lend.length 1&&(g.lend.isEmpty||!(c.ps.any PK.isIo))&&((c.fresh&&g.lend.isEmpty)||!(c.rs.any RK.isBv))&&(g.kill.all λk=>!CH k.1 EPO)&&oX b g.frz g.kill d with
   |false=>rw[I]at h;cases h
   |true =>
    rw[I]at h;simp only[cond_true]at h;simp only[BX]at I;obtain⟨⟨⟨⟨⟨⟨⟨⟨bl,e6⟩,J⟩,b4⟩,M⟩,cp⟩,f0⟩,hE⟩,cc⟩:=I;obtain⟨y,hy,h⟩:=CS.1 h;obtain⟨U',f4,c2⟩:=AS (P:=P) (V:=V) hV h;refine⟨U',f4,λW a w hr vs f5=>?_⟩;obtain⟨W0,Y,cb,f8,hβ0,d2,cu,b9,cw⟩:=oL hV hr c.ps xs vs U0 ys b f5 c3;generalize b0:ac U0 st=S0 at Y cb d2 cu b9 hg;obtain⟨⟨a6,c0,a5⟩,hf,hk,a2⟩:=kx (uO hV hΓ Y) c.ps ys vs g cb hg;have hE:∀ z∈g.kill,z.1≠EPO:=λz hz e0=>by
     have:=List.all_eq_true.1 hE z hz;rw[e0]at this;simp at this
    have M:g.lend.length<=1:=Ci M;have ba:g.lend=[]\/c.ps.any PK.isIo=false:=by
     simp only[Dr,Df,CM]at cp;exact cp
    have c4:∀ k,k∈a6.flatten<->k∈g.lend.map W0.β\/k∈aZ W0 g.kill:=λk=>by
     rw[<- B8,<- B8,<- B8,a5 k];omega
    have a3:∀ k,jQ V W0 S0 g.frz g.see k->k<w.heap.size/\k∉a6.flatten:=by
     intro k H;refine⟨Y.used_lt k (rK hf k H),λZ=>?_⟩;rcases (c4 k).1 Z with Z|Z
     ·obtain⟨b',O,rfl⟩:=DF.1 Z;have ec:=Y.box b' (a2 b' O);rcases H with H|H|⟨b2,e3,a1,e2⟩|⟨z,hz,H⟩
      ·exact ec.1 H
      ·exact ec.2 H
      ·have:=Y.inj b2 b' a1 (a2 b' O) e2;subst this;simp only[CM,CT]at b4;have:=b4 b2 e3;rw[Bool.not_eq_true,CT]at this;have:=this b2 O;simp at this
      ·obtain⟨l,hl,ho⟩:=hf z hz;exact (Y.ownb z.1 z.2 l hl ho _ H).2.2 b' (a2 b' O) rfl
     ·obtain⟨z,hz,X⟩:=gu.1 Z;obtain⟨l,hl,ho⟩:=hk z hz;have a4:=Y.ownb z.1 z.2 l hl ho k X;rcases H with H|H|⟨b2,e3,a1,e2⟩|⟨z',ed,H⟩
      ·exact a4.1 H
      ·exact a4.2.1 H
      ·exact a4.2.2 b2 a1 e2
      ·obtain⟨l',et,ef⟩:=hf z' ed;obtain⟨e1,e2⟩:=Y.sep z.1 z.2 l z'.1 z'.2 l' hl ho et ef k X H;exact nU e6 z' ed (by rw[show z'=z from D0 e1.symm e2.symm];exact hz)
    have eg:a6.flatten.Nodup:=bu.2 λk=>by
     rw[a5 k];have h5:=bu.1 (gS Y bl hk) k;have h6:(g.lend.map W0.β).count k<=1:=by
      exact Cd List.count_le_length (by rw[Cx];exact M)
     by_cases h7:k∈g.lend.map W0.β
     ·have:(aZ W0 g.kill).count k=0:=CN.2 λZ=>by
       obtain⟨b',O,e0⟩:=DF.1 h7;obtain⟨z,hz,X⟩:=gu.1 Z;obtain⟨l,hl,ho⟩:=hk z hz;exact (Y.ownb z.1 z.2 l hl ho k X).2.2 b' (a2 b' O) e0
      omega
     ·have:(g.lend.map W0.β).count k=0:=CN.2 h7;omega
    have b3:=a9 w (bq V W0 g.p g.frz) g.val vs a6 y (c0.mono (λ_ h=>h) a3) (λk H=>a3 k (mC hV k H)) eg hy;have c6:gL S0 d c.rs=true:=by
     unfold gL at J ⊢;split at J
     ·rcases b9 (B0+d) with e0|e0
      ·rw[e0];exact J
      ·exact absurd e0 (by have:=i8.2.1;omega)
     ·exact J
    refine b3.mono λe w' c5=>?_
    obtain⟨v,rfl,W1,a0,b5,dc,bx,_⟩:=zy (Γ:=Γ) hV Y cb hg hf hk a2 bl e6 hE M ba a5 hd dd c6 f0 c5;refine⟨v,rfl,?_⟩;refine c2 W1 _ w' ?_ ?_
    ·have e1:=bB (mD S0 c d ys g y) U0 st;rw[b0]at e1;rw[<- e1]at a0;subst b0;unfold mD at a0;simp only[bB,CE,Dj]at a0 ⊢;exact a0
    ·intro q j hb;subst hb;obtain⟨u,f3,f1,em,i,off,p,E,e,ez,gg,ev,q1,q2,q3,q4⟩:=d2;have eb:=cw true q j rfl rfl;have b1:g.lend=[]:=ba.resolve_right (by rw[eb];simp);simp only[oX,BX,CM]at cc;obtain⟨⟨⟨cy,d1⟩,bb⟩,bn⟩:=cc;have e7:q≠d:=λe0=>by rw[e0]at bb;simp at bb
     have e5:q≠B0+d:=λe0=>by rw[e0]at bn;simp at bn
     have e4:(q,j)∉g.kill:=λZ=>by
      have:=CT.1 cy _ Z;simp[iA]at this
     have ey:(q,j)∉g.frz:=λZ=>by
      have:=CT.1 d1 _ Z;simp[iA]at this
     have ej:TMP≠d:=by have:=hV.nt;have:=i8.1;omega
     have f2:TMP≠B0+d:=by have:=i8.2.1;omega
     have hL:=dc q j e7 e5 (by rw[b1];simp) ey e4;rw[q1]at hL;have hC:=b5 q e7 e5 (by rw[b1];simp);have e1:=bB (mD S0 c d ys g y) U0 st;rw[b0]at e1;have ex:gg<w.heap.size:=Y.own_lt q1 trivial gg q3;have f6:gg∉aZ W0 g.kill:=λZ=>by
      obtain⟨z,hz,X⟩:=gu.1 Z;obtain⟨l,hl,ho⟩:=hk z hz;obtain⟨e1,e2⟩:=Y.sep z.1 z.2 l q j _ hl ho q1 trivial gg X q3;exact e4 (by rw[show (q,j)=z from D0 e1.symm e2.symm];exact hz)
     have c1:w'.cell? ⟨gg,i*e.cells+off,none⟩=some u:=by
      rw[kF (bx gg ex f6 (by rw[b1];simp))];exact q4
     have es:gg∈W1.bs q j:=by
      have h9:=a0.leaf q j _ _ hL (by rw[hC];exact q2);obtain⟨_,f7,fc,_,en,_⟩:=h9;rw[en];simp[CQ]
     refine⟨u,by rw[b5 TMP ej f2 (by rw[b1];simp)];exact f3,f1,em,i,off,p,E,e,ez,gg,ev,?_,by rw[hC];exact q2,es,c1⟩;have ad:=hL;rw[<- e1]at ad;subst b0;unfold mD at ad;simp only[bB,CE,Dj]at ad ⊢;exact ad
  ·cases h
 ·cases h
end
section
variable {P:Program} {V:Env} {Γ:List Ctr} {T:TypeId->TI} {st:St} {o:Oper} {R:Type} {κ:Upd->Option R} {r:R}
theorem oi {W:Wit}{a:Act}{w:World}(h:ap P V W st a w):∀ (l:List Operand),gW P V W st w (l.map (au st)) (l.map a.eval)
 |[]=>rfl
 |x::l=>by
  obtain⟨y,z,u⟩:=cU h x;exact⟨a.eval x,l.map a.eval,y,rfl,z,u,oi h l⟩
theorem nC {W:Wit}{w:World}:∀ {xs y:List (aG×List Leaf)} {z us:List Value},gW P V W st w xs z->gW P V W st w y us->gW P V W st w (xs++y) (z++us)
 |[],_,_,_,X,u=>by rw[show _=_ from X];exact u
 |x::xs,_,_,_,⟨v,M,J,e,O,I,H⟩,u=>by
  subst e;exact⟨v,_,J,rfl,O,I,nC H u⟩
theorem qS {a:Act}{w:World}{c:Call}{x:Operand}{f:FuncId}{caps:Array Value}(z:o.op=.call c)(M:c.callee=.value x)(I:a.eval x=.func (.func f) #[] caps)(J:fV P f){next:Act->World->Prop}{Q:Exit->Act->World->Prop}
  (u:Calls P f (c.args.map a.eval++caps) w (λe H=>∃ v,e=.returned v/\next (a.put o.dst v) H)):o.wp P a w next Q:=by
 unfold Oper.wp;have y:(execOp a.eval o).run P w=.ok (.enter f (c.args.map a.eval++caps)) w:=by
  have:=J (c.args.map a.eval++caps) w;simp[execOp,z,resolve,M,I,Deferred.ofValue,invoke,this]
 rw[y,Oper.upon_enter];refine u.mono λe H=>?_
 rintro⟨v,rfl,hn⟩;exact hn
theorem lj {p:Bool}:∀ {b:Ty} {x:b.den},b.flat=true->aq p b x=cJ p b x
 |.int _,_,_=>rfl
 |.bool,_,_=>rfl
 |.str,_,_=>rfl
 |.unit,_,_=>rfl
 |.hdr,_,_=>rfl
 |.pair a b,x,h=>by
  simp only[Ty.flat,BX]at h;simp only[aq,cJ,lj h.1,lj h.2]
 |.list _ _ _,_,h=>by simp[Ty.flat]at h
theorem rN (hV:ay V){W:Wit}{a:Act}{w:World}(h:ap P V W st a w):∀ (O:List Ty) (xs:List (aG×List Leaf)) (X:List Value) (x:Tup O),gW P V W st w xs X->iQ st O xs=some x ->
  sn w (λk=>k<w.heap.size) O x X
 |[],[],X,_,hx,_=>hx
 |[],_::_,_,_,_,u=>by simp[iQ]at u
 |_::_,[],_,_,_,u=>by simp[iQ]at u
 |b::O,x::xs,X,z,⟨v,M,cs,e,hs,Z,H⟩,u=>by
  subst e;simp only[iQ]at u;cases J:decide (x.1=bk b.isAgg) with
  |false=>simp[J]at u
  |true =>
   simp only[J,cond_true]at u;have J:=of_decide_eq_true J;rw[J]at hs;split at u
   ·rename_i p y hy;simp only[BW]at u;obtain⟨t,ht,rfl⟩:=u;have Y:=eE h Z hy;refine⟨v,cs,M,rfl,gF hs,Y.mono (λk I=>?_),rN hV h O xs M t H ht⟩;rcases I with (I|⟨_,I⟩)|⟨z,hz,I⟩
    ·exact (h.nwlt k I).1
    ·exact Cf (hV.ro k I).1 h.size
    ·obtain⟨l,h1,h2⟩:=eq Z hz;exact h.own_lt h1 h2 k I
   ·cases u
theorem yj (hV:ay V)(hΓ:∀ c∈Γ,bR P c)(M:bP V o){c:Call}{f:Operand}(Y:o.op=.call c)(hc:c.callee=.value f)
  (h:act Γ T o st κ=some r):bY P V o st κ r:=by
 simp only[act,wrU,Y,hc]at h;split at h
 ·cases h
 ·rename_i d X;split at h
  ·rename_i g H Z;obtain⟨he,U,hU,z⟩:=vu hV hΓ (M d X).1 (M d X).2 h;refine⟨U,hU,λW a w I next Q hn=>?_⟩;obtain⟨J,_,_,_,_⟩:=bt I f (by rw[Z];simp);rw[Z]at J;have O:=nC (oi I c.args.toList) (sx (qk (P:=P) (V:=V) (W:=W) (w:=w) H J.2));rw[Db]at O;have:=z W a w I _ O;have e:(c.args.toList.map a.eval++H.map λb=>Value.pointer (some ⟨W.β b,0,none⟩)).toArray=c.args.map a.eval++(H.map λb=>Value.pointer (some ⟨W.β b,0,none⟩)).toArray:=by
    apply Dw;simp
   rw[e]at this;refine qS Y hc J.1 he (this.mono λe w'=>?_);rintro⟨v,rfl,hrel⟩;refine⟨v,rfl,hn _ _ ?_⟩;rw[X];exact hrel
  ·rename_i g H Z;obtain⟨he,U,hU,z⟩:=vu hV hΓ (M d X).1 (M d X).2 h;refine⟨U,hU,λW a w I next Q hn=>?_⟩;obtain⟨J,_,_,_,_⟩:=bt I f (by rw[Z];simp);rw[Z]at J;obtain⟨us,J,a3,a2⟩:=J;have O:=nC (oi I c.args.toList) (sx (qQ (st:=st) a3 a2));rw[Db]at O;have:=z W a w I _ O;have e:(c.args.toList.map a.eval++us).toArray=c.args.map a.eval++us.toArray:=by
    apply Dw;simp
   rw[e]at this;refine qS Y hc J he (this.mono λe w'=>?_);rintro⟨v,rfl,hrel⟩;refine⟨v,rfl,hn _ _ ?_⟩;rw[X];exact hrel
  ·rename_i As B φ Z;cases hb:B.flat with
   |false=>simp[hb]at h
   |true =>
    simp only[hb,cond_true]at h;split at h
    ·rename_i x hx;obtain⟨y,hy,h⟩:=CS.1 h;simp only[X]at h;refine⟨_,h,λW a w I next Q hn=>?_⟩;obtain⟨J,_,_,_,_⟩:=bt I f (by rw[Z];simp);rw[Z]at J;obtain⟨f',H,J,he,z⟩:=J;have a0:=rN hV I As _ _ x (oi I c.args.toList) hx;have:=z w I.size I.keep x _ y a0 hy;have e:(c.args.toList.map a.eval).toArray=c.args.map a.eval:=by apply Dw;simp
     rw[e]at this;refine qS Y hc J he (this.mono λe w'=>?_);rintro⟨u,cs,rfl,hvo,hrd,hbelow⟩;refine⟨u,rfl,hn _ _ ?_⟩;rw[X];have a4:=I.below hV hbelow;have a1:=eY (P:=P) (V:=V) (W:=W) (st:=st) (G:=λ_=>False) (p:=false) (λ_ h=>h.elim) hrd;rw[<- lj hb]at a1;exact a4.putLs hV d (M d X).1 (M d X).2 _ _ _ u cs (CA _) (kf hvo) a1
    ·cases h
  ·cases h
theorem BJ (H:ay V)(I:TOk P T)(hΓ:∀ c∈Γ,bR P c)(z:bP V o)(h:act Γ T o st κ=some r):bY P V o st κ r:=by
 cases u:o.op with
 |move x=>exact yA H z u h
 |assign x=>exact vM H z u h
 |pick c x y=>exact yB H z u h
 |alloc t=>exact yc H I z u h
 |box t x=>exact AO H z u h
 |build t J=>exact xk H I z u h
 |buildSlice t n J=>exact qO H I z u h
 |load t x=>exact yD H I z u h
 |store t x y=>exact ye H I u h
 |nilCheck x=>exact sO H z u h
 |binOp X t x y t'=>exact xg H I z u h
 |unOp X t x=>exact yC H z u h
 |convert s t x=>exact uM H I z u h
 |makeSlice t n c=>exact si H I z u h
 |slice t x Y Z mx=>exact yh H I z u h
 |fieldAddr t x f=>exact sd H I z u h
 |field t x f=>exact xj H I z u h
 |indexAddr t x i=>exact se H I z u h
 |index t x i=>exact xi H I z u h
 |extract x i=>exact um H z u h
 |makeFunc fn first O=>exact sP H z u h
 |call c =>
  cases M:c.callee with
  |value f=>exact yj H hΓ z u M h
  |builtin b =>
   cases b with
   |len=>exact z8 H I z u M h
   |append=>exact wH H I z u M h
   |min=>exact AP H z u M h
   |max=>exact AQ H z u M h
   |_ =>
    simp only[act,wrU,u,M]at h;split at h <;> cases h
  |_ =>
   simp only[act,wrU,u,M]at h;split at h <;> cases h
 |_=>simp[act,wrU,u]at h
end
def cC:Ty->Ty->Bool
 |.pair a b,z=>match z with
  |.pair c d=>cC a c&&cC b d
  |_=>false
 |.list m E e,z=>match z with
  |.list n u r=>decide (E=u)&&(bif n then m&&cC e r else decide (e.sh=r.sh))
  |_=>false
 |a,z=>decide (a=z)
theorem fX:∀ {a b:Ty},cC a b=true->a.sh=b.sh
 |.pair a b,z,h=>by
  cases z with
  |pair c d =>
   simp only[cC,BX]at h;simp only[Ty.sh,fX h.1,fX h.2]
  |_=>simp[cC]at h
 |.list m E e,z,h=>by
  cases z with
  |list n r u =>
   simp only[cC,BX,decide_eq_true_eq]at h;obtain⟨rfl,h⟩:=h;cases n with
   |true =>
    simp only[cond_true,BX]at h;simp only[Ty.sh,fX h.2]
   |false =>
    simp only[cond_false,decide_eq_true_eq]at h;simp only[Ty.sh,h]
  |_=>simp[cC]at h
 |.int _,z,h=>by simp only[cC,decide_eq_true_eq]at h;rw[h]
 |.bool,z,h=>by simp only[cC,decide_eq_true_eq]at h;rw[h]
 |.str,z,h=>by simp only[cC,decide_eq_true_eq]at h;rw[h]
 |.unit,z,h=>by simp only[cC,decide_eq_true_eq]at h;rw[h]
 |.hdr,z,h=>by simp only[cC,decide_eq_true_eq]at h;rw[h]
theorem zA {a b:Ty}(h:cC a b=true):a.isAgg=b.isAgg:=by
 cases a with
 |pair c d=>cases b <;> first|rfl|(simp[cC]at h)
 |list m E e=>cases b <;> first|rfl|(simp[cC]at h)
 |_=>simp only[cC,decide_eq_true_eq]at h;rw[h]
theorem oM {f g h:Nat->List Nat}{k:Nat}:∀ {l:List Nat},(∀ j∈l,(f j).count k=(g j).count k+(h j).count k)->(l.flatMap f).count k=(l.flatMap g).count k+(l.flatMap h).count k
 |[],_=>rfl
 |a::l,H=>by
  have y:=H a (CK ..);have u:=oM (l:=l) (λj r=>H j (CD _ r));simp only[Cj,B3];omega
theorem Mx.thin {w:World}{G:Nat->Prop}:∀ {a b:Ty} {pos:Nat} {x:a.den} {y:b.den} {cs:List Value} {bs:List Nat},cC a b=true->HEq x y->Mx w G a none pos x cs bs ->
  ∃ b1 b2:List Nat,(∀ k,bs.count k=b1.count k+b2.count k)/\Mx w (λk=>G k\/k∈b2) b none pos y cs b1
 |.pair a b,z,pos,x,y,cs,bs,h,r,H=>by
  cases z with
  |pair c d =>
   simp only[cC,BX]at h;obtain⟨c1,c2,ba,bb,rfl,rfl,h1,h2⟩:=H;obtain⟨h3,h4⟩:=sG (jz (fX h.1)) (jz (fX h.2)) r;obtain⟨p1,p2,X,R⟩:=Mx.thin h.1 h3 h1;obtain⟨r1,r2,s1,s2⟩:=Mx.thin h.2 h4 h2;refine⟨p1++r1,p2++r2,λk=>?_,c1,c2,p1,r1,rfl,rfl,R.mono (λk M=>M.imp id (B7 _)),?_⟩
   ·have:=X k;have:=s1 k;simp only[B3];omega
   ·have:=s2.mono (G':=λk=>G k\/k∈p2++r2) (λk M=>M.imp id (BZ _))
    rwa [ik (fX h.1)]at this
  |_=>simp[cC]at h
 |.list m E e,z,pos,xs,Y,cs,bs,h,r,H=>by
  have a0:=fX h;cases z with
  |list n E' e' =>
   simp only[cC,BX,decide_eq_true_eq]at h;obtain⟨rfl,h⟩:=h;cases n with
   |true =>
    simp only[cond_true,BX]at h;obtain⟨rfl,h⟩:=h;rw[bJ (by simp)]at H;obtain⟨v,rfl,I,a2,h1,h2,h3⟩:=H;obtain⟨h4,h5⟩:=sH (jz (fX h)) r;have a1:∀ j,∃ q:List Nat×List Nat,j<Y.length->(∀ k,(a2 j).count k=q.1.count k+q.2.count k) /\
      ∀ y,Y[j]?=some y->∃ c,Mx w (λk=>G k\/k∈q.2) e' none 0 y c q.1/\∀ i u,c[i]?=some u->I[j*e'.cells+i]?=some u:=by
     intro j;by_cases J:j<Y.length
     ·have Z:=CG J;obtain⟨x,hx,r⟩:=h5 j _ Z;obtain⟨c,hm,hc⟩:=h3 j x hx;obtain⟨b1,b2,X,R⟩:=Mx.thin h r hm;refine⟨(b1,b2),λ_=>⟨X,λy O=>⟨c,?_,λi u hi=>?_⟩⟩⟩
      ·rw[Z]at O;simp only[BV]at O;subst O;exact R
      ·rw[<- ik (fX h)];exact hc i u hi
     ·exact⟨([],[]),λh=>absurd h J⟩
    obtain⟨f,hf⟩:=Classical.skolem.1 a1;refine⟨v.ownBlock.toList++(CC Y.length).flatMap (λj=>(f j).1),(CC Y.length).flatMap (λj=>(f j).2),λk=>?_,?_⟩
    ·rw[h2,B3,B3,h4,oM (g:=λj=>(f j).1) (h:=λj=>(f j).2) (λj J=>(hf j (DM.1 J)).1 k)];omega
    ·rw[bJ (by simp)];refine⟨v,rfl,I,λj=>(f j).1,by rw[<- h4,<- ik (fX h)];exact h1,rfl,λj y O=>?_⟩;have J:=(BY.1 O).1;obtain⟨c,X,R⟩:=(hf j J).2 y O;exact⟨c,X.mono (λk M=>M.imp id (λM=>dX.2 ⟨j,J,M⟩)),R⟩
   |false =>
    refine⟨[],bs,λk=>by simp,?_⟩;rw[co];exact⟨rfl,Rd.flags a0 r (Mx.rd (S:=λk=>G k\/k∈bs) (λ_=>.inl) (λ_=>.inr) H)⟩
  |_=>simp[cC]at h
 |.int _,z,pos,x,y,cs,bs,h,r,H=>by
  simp only[cC,decide_eq_true_eq]at h;subst h;cases r;exact⟨bs,[],λk=>by simp,H.mono (λ_=>.inl)⟩
 |.bool,z,pos,x,y,cs,bs,h,r,H=>by
  simp only[cC,decide_eq_true_eq]at h;subst h;cases r;exact⟨bs,[],λk=>by simp,H.mono (λ_=>.inl)⟩
 |.str,z,pos,x,y,cs,bs,h,r,H=>by
  simp only[cC,decide_eq_true_eq]at h;subst h;cases r;exact⟨bs,[],λk=>by simp,H.mono (λ_=>.inl)⟩
 |.unit,z,pos,x,y,cs,bs,h,r,H=>by
  simp only[cC,decide_eq_true_eq]at h;subst h;cases r;exact⟨bs,[],λk=>by simp,H.mono (λ_=>.inl)⟩
 |.hdr,z,pos,x,y,cs,bs,h,r,H=>by
  simp only[cC,decide_eq_true_eq]at h;subst h;cases r;exact⟨bs,[],λk=>by simp,H.mono (λ_=>.inl)⟩
theorem jv.mono {w:World}{G G':Nat->Prop}(z:∀ k,G k->G' k){a:Ty}{x:a.den}{ptr:Bool}{v:Value}{bs:List Nat}(h:jv w G a x ptr v bs):jv w G' a x ptr v bs:=by
 unfold jv at h ⊢;split at h
 ·rename_i y;rw[if_pos y];obtain⟨g,c,E,M,u,r,H,J⟩:=h;exact⟨g,c,E,M,u,r,H.mono z,J⟩
 ·rename_i y;rw[if_neg y];obtain⟨I,u,r⟩:=h;exact⟨I,u,r.mono z⟩
theorem bN.mono {w:World}{G G':Nat->Prop}(y:∀ k,G k->G' k):∀ {ps:List PK} {o:ah ps} {z:List Value} {bs:List (List Nat)},bN w G ps o z bs->bN w G' ps o z bs
 |.io _::_,_,_::_,_::_,⟨u,r⟩=>⟨u.mono y,bN.mono y r⟩
 |.iop _::_,_,_::_,_::_,⟨u,r⟩=>⟨u.mono y,bN.mono y r⟩
 |.rd _::_,_,_::_,_::_,⟨u,r⟩=>⟨u,bN.mono y r⟩
 |.own _::_,_,_::_,_::_,⟨u,r⟩=>⟨u,bN.mono y r⟩
 |.rref _::_,_,_::_,_::_,⟨u,r⟩=>⟨u,bN.mono y r⟩
 |.rref2 _::_,_,_::_,_::_,⟨u,r⟩=>⟨u,bN.mono y r⟩
 |.fn _ _::_,_,_::_,_::_,⟨u,r⟩=>⟨u,bN.mono y r⟩
 |.clo _ _::_,_,_::_,_::_,⟨u,r⟩=>⟨u,bN.mono y r⟩
 |.hol _ _ _::_,_,_::_,_::_,⟨u,r⟩=>⟨u,bN.mono y r⟩
 |[],_,[],[],_=>trivial
 |[],_,_::_,_,h=>by simp[bN]at h
 |[],_,[],_::_,h=>by simp[bN]at h
 |p::_,_,[],_,h=>by cases p <;> exact h.elim
 |p::_,_,_::_,[],h=>by cases p <;> exact h.elim
theorem qi.mono {w:World}{G G' ro ro':Nat->Prop}(I:∀ k,G k->G' k)(J:∀ k,G k\/ro k->G' k\/ro' k):∀ {r:RK} {y:r.den} {v:Value} {bs:List Nat},qi w G ro r y v bs->qi w G' ro' r y v bs
 |.v _,_,_,_,⟨H,z,u⟩=>⟨H,z,u.mono I⟩
 |.bv _,_,_,_,⟨e,H,z,u⟩=>⟨e,H,z,u.mono J⟩
 |.box _,_,_,_,⟨g,c,E,R,z,u,M,O⟩=>⟨g,c,E,R,z,u,M.mono I,O⟩
theorem gE.mono {w:World}{G G' ro ro':Nat->Prop}(M:∀ k,G k->G' k)(J:∀ k,G k\/ro k->G' k\/ro' k):∀ {I:List RK} {y:ai I} {us:List Value} {z:List (List Nat)},gE w G ro I y us z->gE w G' ro' I y us z
 |[],_,_,_,h=>h
 |_::_,_,_,_,⟨u,H,b,r,R,O,Y,X⟩=>⟨u,H,b,r,R,O,Y.mono M J,gE.mono M J X⟩
theorem bR.thin {P:Program}{f:FuncId}{a a':Ty}{ps:List PK}{rs:List RK}{fr:Bool}{b0:ab (.own a::ps)->Option (ai rs×ah (.own a::ps))}{X:ab (.own a'::ps)->Option (ai rs×ah (.own a'::ps))}
  (h:bR P ⟨f,.own a::ps,rs,fr,b0⟩) (ht:cC a' a=true) (cv:a'.den->a.den) (bb:∀ x,HEq x (cv x)) (hd:∀ x,X x=b0 (cv x.1,x.2)):bR P ⟨f,.own a'::ps,rs,fr,X⟩:=by
 refine⟨h.1,λw ro x vs c3 y a0 a5 a3 hy=>?_⟩;obtain⟨x1,xr⟩:=x;obtain⟨v,b4,b,u,rfl,rfl,⟨cs,c1,hm⟩,a1⟩:=a0;obtain⟨R,O,Y,c0⟩:=Mx.thin ht (bb x1) hm;have a2:=hm.lt;rw[bu]at a3;have M:∀ k,R.count k+O.count k+u.flatten.count k<=1:=λk=>by
  have:=a3 k;rw[CL,B3,Y k]at this;exact this
 have hb:∀ k,k∈b<->k∈R\/k∈O:=λk=>by
  rw[<- B8,<- B8,<- B8,Y k];omega
 have H:∀ k,k∈(R::u).flatten->k∈(b::u).flatten:=λk r=>by
  rw[CL,B9]at r ⊢;exact r.imp (λh=>(hb k).2 (.inl h)) id
 have a6:∀ k,k∈O->k∉(R::u).flatten:=λk r z=>by
  have h1:=M k;have h2:=B8.2 r;have h3:=B8.2 z;rw[CL,B3]at h3;omega
 have ad:∀ k,k∈O->k∈(b::u).flatten:=λk r=>by
  rw[CL,B9];exact .inl ((hb k).2 (.inr r))
 have J:c9 P w (λk=>ro k\/k∈O) (λk=>k<w.heap.size/\k∉(R::u).flatten) (.own a::ps) (cv x1,xr) (v::b4) (R::u) :=
  ⟨v,b4,R,u,rfl,rfl,⟨cs,by rw[<- zA ht];exact c1,c0⟩,a1.mono (λ_=>.inl) (λk r=>⟨r.1,λh=>r.2 (H k h)⟩)⟩
 refine (h.2 w _ _ _ _ y J (λk r=>?_) ?_ (by rw[<- hy];exact (hd (x1,xr)).symm)).mono λe w' hp=>?_
 ·rcases r with r|r
  ·exact⟨(a5 k r).1,λh=>(a5 k r).2 (H k h)⟩
  ·exact⟨a2 k ((hb k).2 (.inr r)),a6 k r⟩
 ·rw[bu];intro k;have:=M k;show ((R::u).flatten).count k<=1;rw[CL,B3];omega
 ·obtain⟨v',us,N,Z,bn,h1,b9,b5,bx,c2,ba,bl,hN,hO,a4,a9,I⟩:=hp;have hG:∀ k,(N k\/fr=false/\(ro k\/k∈O))->((N k\/k∈O)\/fr=false/\ro k):=λk r=>by
   rcases r with r|⟨r,z|z⟩
   ·exact .inl (.inl r)
   ·exact .inr ⟨r,z⟩
   ·exact .inl (.inr z)
  refine⟨v',us,λk=>N k\/k∈O,Z,bn,h1,b9,b5,bx,c2,ba,λk r hn=>bl k r (λh=>hn (H k h)),λk r=>?_,?_,?_,a9,λk r=>?_⟩
  ·rcases r with r|r
   ·exact⟨(hN k r).1,(hN k r).2.imp id (H k)⟩
   ·exact⟨Cf (a2 k ((hb k).2 (.inr r))) b5,.inr (ad k r)⟩
  ·match Z,hO with
   |b3::Z,hO=>exact⟨hO.1,bN.mono hG hO.2⟩
   |[],hO=>exact hO.elim
  ·refine gE.mono hG (λk r=>?_) a4;rcases r with r|r|r
   ·exact .inl (hG k r)
   ·exact .inr r
   ·exact .inl (.inl (.inr r))
  ·obtain⟨h5,h6⟩:=I k r;refine⟨⟨h5.1,h5.2.imp id (H k)⟩,λh=>h.elim h6 (λh=>?_)⟩;rcases h5.2 with h7|h7
   ·have:=a2 k ((hb k).2 (.inr h));omega
   ·exact a6 k h h7
end Go.Proofs.YtadlacffdemoiaaGreatEv
