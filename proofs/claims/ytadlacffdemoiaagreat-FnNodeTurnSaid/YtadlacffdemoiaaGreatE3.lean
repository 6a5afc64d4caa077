/- One operation: boxes made, boxes written. -/
import Derived.Test.YtadlacffdemoiaaGreatE0
import Derived.Deep.MidRow
import Derived.Great.FillDense
set_option linter.unusedVariables false
set_option linter.unusedSimpArgs false
open Array renaming toArray_toList->CM,length_toList->CQ,getElem?_toList->DF,toList_append->DM,size_append->DU,toList_map->Dd,ext'->Dr
open Bool renaming and_eq_true->BS,not_eq_true'->CH,or_eq_false_iff->DK,or_eq_true->Dm
open Go.Addr.mk renaming injEq->Cz
open Go.Builtin renaming append_->CR,firstCells->Cw,lenOf->C0,zeroCells->DZ
open Go.Instr renaming sliceBounds->DX,storeAt->Dt
open Go.Result renaming andThen_ok->Cx
open Go.Sem renaming run_bind->DT
open Go.Value renaming ownBlock->CL
open Go.Value.slice renaming injEq->CP
open Go.World renaming setCells->DG,alloc_eq->DJ,drew_eq->DN,freeze->DV,alloc->Dh,drew->Dp
open Iff renaming rfl->C7
open Int renaming toNat_natCast->DS
open List renaming getElem?_eq_some_iff->BT,mem_append_right->BU,count_append->BV,getElem?_append_right->BW,getElem?_append_left->BX,mem_append_left->BZ,count_pos_iff->B3,mem_append->B4,range->B7,mem_cons_of_mem->B8,append_assoc->B9,length_append->CA,getElem?_eq_getElem->CB,eq_nil_of_length_eq_zero->CE,mem_cons_self->CF,flatten_cons->CG,count_eq_zero->CI,append_nil->CJ,length_take->CK,any_eq_false->CO,getElem?_take->CU,getD_eq_getElem?_getD->CV,nodup_append->CX,replicate->CZ,nodup_cons->Cb,length_set->Cc,flatMap_cons->Ce,getElem?_set_ne->Cf,mem_cons->Ci,getElem?_drop->Cj,getElem?_cons_zero->Ck,getElem?_replicate->Cl,size_toArray->Cm,getElem?_set_self->Cn,any_cons->Cq,length_nil->Cr,length_map->Cs,length_drop->C3,length_cons->C4,mem_map->DA,count_cons->DB,singleton_append->DD,length_replicate->DE,mem_range->DH,all_cons->DO,map_nil->DR,map_map->DW,isEmpty_iff->Da,flatMap_map->Db,cons_append->De,length->Di,map_append->Dj,nil_append->Dn,nodup_nil->Do,take_left->Dq,map_cons->Du
open List.cons renaming injEq->Ct
open Nat renaming eq_of_beq_eq_true->BY,lt_succ_self->B5,mul_le_mul_right->B6,beq->CC,le_refl->CD,succ_mul->CS,add_zero->CW,le_trans->CY,lt_of_lt_of_le->Ca,le_of_ble_eq_true->Cd,zero_add->Ch,ble_eq_true_of_le->Co,le_add_right->Cp,mul_le_mul_left->Cu,blt_eq->Cv,add_mul->Cy,le_of_eq->C5,ble->C6,mul_comm->C8,sub_zero->C9,mul_one->DI,blt->DL,eq_zero_or_pos->DQ,zero_mul->DY,mod_eq_of_lt->Dc,le_succ->Df,zero_le->Dg,mul_add_mod->Dk,add_assoc->Ds
open Ne renaming symm->Cg
open Option renaming map_eq_some_iff->BR,bind_eq_some_iff->CN,map_none->DC,toList_some->DP,map_some->Dl
open Option.some renaming injEq->BQ
open Prod renaming ext->Dv
open Prod.mk renaming injEq->CT
namespace Go.Proofs.YtadlacffdemoiaaGreatEv
open Go Go.RowKit
section
variable {P:Program} {V:Env} {Γ:List Ctr} {T:TypeId->TI} {st:St} {o:Oper} {R:Type} {κ:Upd->Option R} {r:R}
theorem nf {q u:Nat}(h:q≠u)(c y:bT)(st:St):ac [(q,c)] (ac [(u,y)] st)=ac [(u,y)] (ac [(q,c)] st):=by
 funext k;rcases am q k c (ac [(u,y)] st) with ⟨rfl,e⟩|⟨H,e⟩
 ·rw[e,aH h,bk]
 ·rw[e];rcases am u k y st with ⟨rfl,z⟩|⟨I,z⟩
  ·rw[z,bk]
  ·rw[z,aH I,aH H]
theorem ap.boxed (hV:ay V){W:Wit}{a:Act}{w:World}(h:ap P V W st a w)(d:Nat)(hd:d<V.nt)(I:∀ x∈V.fixt,x.1≠d)(X:(st (B0+d)).sh=.off)(ls:List Leaf)
  (y:List Value) (z:Nat->List Nat) (E:TypeId)
  (hl:ls.length=y.length) (h1:∀ u∈y,u.oneCell'=true)
  (H:∀ (j:Nat) (l:Leaf) (u:Value),ls[j]?=some l->y[j]?=some u->aI P V W st w (z j) l u)
  (M:∀ (j:Nat) (l:Leaf),ls[j]?=some l->ao l->∀ k∈z j,¬ W.nw k/\¬ V.prot k/\k<w.heap.size/\(∀ b,live st b->W.β b≠k) /\
   ∀ (Y j1:Nat) (Z:Leaf),(st Y).ls[j1]?=some Z->ao Z->k∉W.bs Y j1)
  (O:∀ (j j':Nat) (l l':Leaf),ls[j]?=some l->ao l->ls[j']?=some l'->ao l'->∀ k,k∈z j->k∈z j'->j=j') :
  Rel P V (ac ((B0+d,⟨(st (B0+d)).ver+1,.agg,ls⟩)::[(d,⟨(st d).ver+1,.one,[.bp (B0+d) 0]⟩)]) st) (a.put (some d) (.pointer (some ⟨w.heap.size,0,none⟩))) (w.alloc (.cells y.toArray E)):=by
 have J:B0+d≠d:=by simp[B0]
 have a0:¬ live st (B0+d):=by simp[live,X]
 have h2:=h.setBox hV (B0+d) (Cp _ _) ((st (B0+d)).ver+1) ls y z w.heap.size E (w':=w.alloc (.cells y.toArray E)) (B5 _) (.inr ⟨a0,CD _⟩)
  (heap_alloc_new w _) (λk hk _=>Go.heap_alloc_old w _ hk) (by simp) rfl rfl rfl hl h1 H (λj l hj ho k hk=>by
   obtain⟨h3,h4,h5,h6,h7⟩:=M j l hj ho k hk;exact⟨h3,h4,h5,h6,λY j1 Z _=>h7 Y j1 Z⟩) O
 rw[aP,nf J];refine h2.putLs hV d hd I _ .one [.bp (B0+d) 0] _ [.pointer (some ⟨w.heap.size,0,none⟩)] ?_ rfl ⟨⟨⟨Cp _ _,by rw[bk],by simp⟩,id,rfl⟩,trivial⟩;rw[aH (Cg J)];omega
theorem uO {t:TypeId}(I:TOk P T)(y:(T t).cells≠0)(w:World):∃ z H,(zeroValue t).run P w=.ok z w/\z.cells=H.toArray/\∀ (V:Env) (W:Wit) (st:St),aC P V W st w (T t).zero H:=by
 have h:=I t;cases u:T t with
 |none=>rw[u]at y;exact absurd rfl y
 |int k=>rw[u]at h;exact⟨_,[.int k 0],gu h.2.2 w,rfl,λV W st=>⟨⟨rfl,id,rfl⟩,trivial⟩⟩
 |bool=>rw[u]at h;exact⟨_,[.bool false],gu h.2.2 w,rfl,λV W st=>⟨⟨rfl,id,rfl⟩,trivial⟩⟩
 |str=>rw[u]at h;exact⟨_,[.string ByteArray.empty],gu h.2.2 w,rfl,λV W st=>⟨⟨rfl,id,rfl⟩,trivial⟩⟩
 |slice E e b=>rw[u]at h;exact⟨_,[.slice none 0 0],gu h.2.2.1 w,rfl,λV W st=>⟨⟨rfl,id,rfl⟩,trivial⟩⟩
 |struct a J=>rw[u]at h;exact⟨_,zeroCells a,gu h.2.2.1 w,rfl,λV W st=>lz a⟩
 |arr e n=>rw[u]at h;exact⟨_,(CZ n (zeroCells e)).flatten,gu h.2.2.2 w,rfl,λV W st=>oY e n⟩
 |ptr=>rw[u]at h;exact⟨_,[.pointer none],gu h.2.2 w,rfl,λV W st=>⟨⟨trivial,id,rfl⟩,trivial⟩⟩
 |fn=>rw[u]at h;exact⟨_,[.nilFunc],gu h.2.2 w,rfl,λV W st=>⟨⟨trivial,id,rfl⟩,trivial⟩⟩
theorem x6 (Z:ay V)(hT:TOk P T)(J:bN V o){t:TypeId}(I:o.op=.alloc t)(h:act Γ T o st κ=some r):bW P V o st κ r:=by
 simp only[act,I]at h;split at h
 ·rename_i d O;cases y:decide ((st (B0+d)).sh=.off)&&!decide ((T t).cells=0) with
  |false=>simp[y]at h
  |true =>
   simp only[y]at h;simp at y;refine⟨_,h,λW a w hr next Q Y=>?_⟩;obtain⟨z,X,hz,hc,H⟩:=uO hT y.2 w;have H:=H V W st;refine dY (v:=.pointer (some ⟨w.heap.size,0,none⟩)) (w':=w.alloc (.cells X.toArray t)) ?_ ?_
   ·simp[execOp,I,Instr.alloc,hz,newVar,newRow,hc]
   ·rw[O];refine Y _ _ ?_;exact hr.boxed Z d (J d O).1 (J d O).2 y.1 _ X (λ_=>[]) t H.length H.one' (λj l u h1 h2=>(H.at_ j l u h1 h2).1) (λ_ _ _ _ k M=>by simp at M) (λ_ _ _ _ _ _ _ _ k M=>by simp at M)
 ·grind
theorem AH (hV:ay V)(I:bN V o){t:TypeId}{x:Operand}(Y:o.op=.box t x)(h:act Γ T o st κ=some r):bW P V o st κ r:=by
 simp only[act,Y]at h;split at h
 ·rename_i d O;cases hb:decide ((st (B0+d)).sh=.off)&&decide ((au st x).2.length=(T t).cells)&&decide ((au st x).1=bg (T t).agg)&&ii st (au st x).2 with
  |false=>simp[hb]at h
  |true =>
   simp only[hb]at h;simp at hb;obtain⟨⟨⟨Z,a2⟩,a1⟩,a0⟩:=hb;have J:∀ (W:Wit) (a:Act) (w:World) (H:List Value),ei (au st x).1 (a.eval x) H->aC P V W st w (au st x).2 H ->
     (execOp a.eval o).run P w=.ok (.value (.pointer (some ⟨w.heap.size,0,none⟩))) (w.alloc (.cells H.toArray t)):=by
    intro W a w H X z;rw[a1]at X;have hc:=gY X z.one';simp[execOp,Y,Instr.box,newVar,newRow,hc]
   cases y:sE st x with
   |true =>
    rw[y]at h;refine⟨_,h,λW a w M next Q hn=>?_⟩;obtain⟨H,X,z⟩:=cW M x;refine dY (J W a w H X z) ?_;rw[O];refine hn _ _ ?_;exact M.boxed hV d (I d O).1 (I d O).2 Z _ H (λ_=>[]) t z.length z.one' (λj l u h1 h2=>(z.at_ j l u h1 h2).1) (λ_ _ _ _ k hk=>by simp at hk) (λ_ _ _ _ _ _ _ _ k hk=>by simp at hk)
   |false =>
    rw[y]at h;refine⟨_,h,λW a w M next Q hn=>?_⟩;obtain⟨H,X,z⟩:=cW M x;obtain⟨h1,h2,h3,h4,h5⟩:=oW hV M z a0;have h6:=zJ hV M z a0;refine dY (J W a w H X z) ?_;rw[O];refine hn _ _ ?_;have:=h1.boxed hV d (I d O).1 (I d O).2 (by rw[(h6 _).1];exact Z) _ H (du W (au st x).2) t h2 z.one' h3 h4 h5;exact this
 ·grind
theorem jN (b:Nat)(E:TypeId):∀ (u:List Value) (k o:Nat) (w:World) (cur:Array Value) {mk:Nat×Nat},w.heap[b]?=some (.cells cur E mk) ->
  (w.setCells b (o+k) u).heap[b]?=some (.cells ((u.zipIdx k).foldl (λy (x:Value×Nat)=>y.setIfInBounds (o+x.2) x.1) cur) E mk)
 |[],_,_,_,_,_,h=>h
 |v::u,k,o,w,cur,mk,h=>by
  have:=jN b E u (k+1) o (w.setCell ⟨b,o+k,none⟩ v) _ (by rw[setCell_eq_setRow w b (o+k) cur E mk v h];exact setRow_heap w b cur _ E mk h);simpa[DG,Ds]using this
theorem eN (b:Nat):∀ (u:List Value) (o:Nat) (w:World) (k:Nat),k≠b->(w.setCells b o u).heap[k]?=w.heap[k]?
 |[],_,_,_,_=>rfl
 |v::u,o,w,k,h=>by
  rw[DG,eN b u (o+1) _ k h];exact heap_setCell_other w ⟨b,o,none⟩ k v h
theorem jO (b:Nat):∀ (u:List Value) (o:Nat) (w:World),(w.setCells b o u).os=w.os/\(w.setCells b o u).tape=w.tape/\(w.setCells b o u).output=w.output/\(w.setCells b o u).heap.size=w.heap.size
 |[],_,_=>⟨rfl,rfl,rfl,rfl⟩
 |v::u,o,w=>by
  obtain⟨y,z,H,I⟩:=jO b u (o+1) (w.setCell ⟨b,o,none⟩ v);exact⟨y,z,H,by rw[DG,I];simp⟩
theorem ng {t:TypeId}{n:Nat}(H:bQ P t n){w:World}{b off:Nat}{cur:List Value}{E:TypeId}{mk:Nat×Nat}(J:w.heap[b]?=some (.cells cur.toArray E mk))(I:mk.2=0\/cur.length<=mk.1){v:Value}{cs:List Value}
  (Z:v.cells=cs.toArray) (Y:cs.length=n) (O:∀ u∈cs,u.oneCell'=true) (M:off+cs.length<=cur.length) :
  (Dt t (.pointer (some ⟨b,off,none⟩)) v).run P w=.ok () (w.setCells b off cs):=by
 have y:∀ j,j<cs.length->(w.cell? ⟨b,off+j,none⟩).isSome=true:=by
  intro j z;rw[cell_of_row w b _ _ E mk J]
  grind
 have h3:=run_storeCells_cells (P:=P) b off cs 0 w (λj z=>y j z) (λj z=>rj J (by simpa using I) (by simp;omega)) O;have X:=dx H w;simp[Dt,Instr.sureAddr,storeVar,X,Z,Y,h3]
theorem tN (hV:ay V)(hT:TOk P T){t:TypeId}{x y:Operand}{b off:Nat}(ba:o.op=.store t x y)(hd:o.dst=none)(hx:one st x=.bp b off)
  (c1:(au st y).2.length=(T t).cells) (bb:(au st y).1=bg (T t).agg) (b0:(T t).cells≠0) (b1:(st b).sh=.agg) (c2:off+(au st y).2.length<=(st b).ls.length) (a4:ii st (au st y).2=true)
  {W:Wit} {a:Act} {w:World} (hr:ap P V W st a w) :
  mP P V o st ((b,⟨(ac (mvU st (au st y).2) st b).ver+1,.agg,jz (ac (mvU st (au st y).2) st b).ls (dJ st (au st y).2) off⟩)::mvU st (au st y).2) a w:=by
 intro next Q hn;obtain⟨I,hs,hl⟩:=cW hr y;rw[bb]at hs;have hc:=gY hs hl.one';obtain⟨h1,h2,h3,h4,h5⟩:=oW hV hr hl a4;have h6:=zJ hV hr hl a4;obtain⟨hp,_,_,_⟩:=br hr x (by rw[hx];simp);rw[hx]at hp;obtain⟨hB,_,hv⟩:=hp;have bx:T t≠.none:=by intro e;rw[e]at b0;exact b0 rfl
 rcases hr.boxes b hB with ⟨h8,_⟩|⟨_,E,h8⟩
 ·rw[b1]at h8;cases h8
 ·have b4:=hl.length;have c3:=hr.len b;have c0:(ac (mvU st (au st y).2) st b).ls.length=(W.cs b).length:=h1.len b;have a9:off+I.length<=(W.cs b).length:=by omega
  have ad:=ng (oX (hT t) bx) h8 (.inl rfl) hc (by omega) hl.one' a9;refine pN (w':=w.setCells (W.β b) off I) (by simp[execOp,ba,hv,ad]) ?_;rw[hd];refine hn _ _ ?_;rw[aP];obtain⟨e1,e2,e3,e4⟩:=jO (W.β b) I off w;have a0:=jN (W.β b) E I 0 off w _ h8;rw[kW (W.cs b) I off a9]at a0;simp only[CW]at a0;have bl:live (ac (mvU st (au st y).2) st) b:=⟨hB,by rw[(h6 b).1];exact b1⟩;have b2:(dJ st (au st y).2).length=I.length:=h2;have M:∀ (j:Nat) (l:Leaf),(jz (ac (mvU st (au st y).2) st b).ls (dJ st (au st y).2) off)[j]?=some l ->
    (off<=j/\j<off+I.length/\(dJ st (au st y).2)[j-off]?=some l)\/((j<off\/off+I.length<=j)/\(ac (mvU st (au st y).2) st b).ls[j]?=some l):=by
   intro j l hj;unfold jz at hj;rw[b2]at hj;by_cases Z:j<off
   ·rw[B9,BX (by simp;omega),CU,if_pos Z]at hj;exact .inr ⟨.inl Z,hj⟩
   ·by_cases J:j<off+I.length
    ·rw[B9,BW (by simp;omega),BX (by simp;omega)]at hj;refine .inl ⟨by omega,J,?_⟩;rw[<- hj];congr 1;simp;omega
    ·rw[BW (by simp;omega),Cj]at hj;refine .inr ⟨.inr (by omega),?_⟩;rw[<- hj];congr 1;simp;omega
  have a1:∀ (j:Nat),((W.cs b).take off++I++(W.cs b).drop (off+I.length))[j]?=if off<=j/\j<off+I.length then I[j-off]? else (W.cs b)[j]?:=by
   intro j;by_cases Z:j<off
   ·rw[B9,BX (by simp;omega),CU,if_pos Z,if_neg (by omega)]
   ·by_cases J:j<off+I.length
    ·rw[B9,BW (by simp;omega),BX (by simp;omega),if_pos ⟨by omega,J⟩];congr 1;simp;omega
    ·rw[BW (by simp;omega),Cj,if_neg (by omega)];congr 1;simp;omega
  refine⟨_,h1.setBox hV b hB _ _ ((W.cs b).take off++I++(W.cs b).drop (off+I.length)) (λj=>if off<=j/\j<off+I.length then du W (au st y).2 (j-off) else W.bs b j) (W.β b) E
   (B5 _) (.inl ⟨bl,rfl⟩) a0 (λk _ O=>eN (W.β b) I off w k O) (C5 e4.symm) e1 e2 e3 ?_ ?_ ?_ ?_ ?_⟩
  ·simp only[jz,CA,CK,C3];omega
  ·intro u hu;simp only[B4]at hu;rcases hu with (hu|hu)|hu
   ·exact hr.one b u (List.mem_of_mem_take hu)
   ·exact hl.one' u hu
   ·exact hr.one b u (List.mem_of_mem_drop hu)
  ·intro j l u hj hu;rw[a1]at hu;rcases M j l hj with ⟨Z,J,H⟩|⟨Z,H⟩
   ·rw[if_pos ⟨Z,J⟩]at hu;simp only[if_pos (⟨Z,J⟩:off<=j/\j<off+I.length)];exact h3 _ l u H hu
   ·have z:¬ (off<=j/\j<off+I.length):=by omega
    rw[if_neg z]at hu;simp only[if_neg z];exact h1.leaf b j l u H hu
  ·intro j l hj ho k O;rcases M j l hj with ⟨Z,J,H⟩|⟨Z,H⟩
   ·simp only[if_pos (⟨Z,J⟩:off<=j/\j<off+I.length)]at O;obtain⟨q1,q2,q3,q4,q5⟩:=h4 _ l H ho k O;exact⟨q1,q2,q3,q4,λr1 j1 l1 _=>q5 r1 j1 l1⟩
   ·have z:¬ (off<=j/\j<off+I.length):=by omega
    simp only[if_neg z]at O;obtain⟨q1,q2,q3⟩:=h1.ownb b j l H ho k O;exact⟨q1,q2,h1.own_lt H ho k O,q3,λr1 j1 l1 b9 b6 b5 bn=>b9 (h1.sep b j l r1 j1 l1 H ho b6 b5 k O bn).1.symm⟩
  ·intro j j' l l' hj ho b3 a2 k O X;rcases M j l hj with ⟨Z,J,H⟩|⟨Z,H⟩ <;> rcases M j' l' b3 with ⟨a6,a3,Y⟩|⟨a6,Y⟩
   ·simp only[if_pos (⟨Z,J⟩:off<=j/\j<off+I.length)]at O;simp only[if_pos (⟨a6,a3⟩:off<=j'/\j'<off+I.length)]at X;have:=h5 _ _ l l' H ho Y a2 k O X;omega
   ·have z:¬ (off<=j'/\j'<off+I.length):=by omega
    simp only[if_pos (⟨Z,J⟩:off<=j/\j<off+I.length)]at O;simp only[if_neg z]at X;exact absurd X ((h4 _ l H ho k O).2.2.2.2 b j' l' Y a2)
   ·have z:¬ (off<=j/\j<off+I.length):=by omega
    simp only[if_neg z]at O;simp only[if_pos (⟨a6,a3⟩:off<=j'/\j'<off+I.length)]at X;exact absurd O ((h4 _ l' Y a2 k X).2.2.2.2 b j l H ho)
   ·have z:¬ (off<=j/\j<off+I.length):=by omega
    have a5:¬ (off<=j'/\j'<off+I.length):=by omega
    simp only[if_neg z]at O;simp only[if_neg a5]at X;exact (h1.sep b j l b j' l' H ho Y a2 k O X).2
end
theorem bt {l:List Nat}:l.Nodup<->∀ k,l.count k<=1:=by
 induction l with
 |nil=>simp
 |cons a l H =>
  rw[Cb,H];constructor
  ·rintro⟨r,u⟩ k;rw[DB];by_cases y:a=k
   ·subst y;have:l.count a=0:=CI.2 r;simp[this]
   ·have:=u k;simp[y,this]
  ·intro h;refine⟨λz=>?_,λk=>?_⟩
   ·have r:=h a;have u:0<l.count a:=B3.2 z;rw[DB]at r;simp at r;omega
   ·have:=h k;rw[DB]at this;omega
theorem qj {n:Nat}(r:Nat->List Nat)(k:Nat):((B7 n).flatMap r).count k=((B7 n).map λj=>(r j).count k).sum:=by
 generalize B7 n=l;induction l with
 |nil=>rfl
 |cons a l u=>simp[BV,u]
theorem kt {n i:Nat}(H:i<n)(r:Nat->List Nat)(b:List Nat)(k:Nat) :
  ((B7 n).flatMap λj=>if j=i then b else r j).count k+(r i).count k=((B7 n).flatMap r).count k+b.count k:=by
 rw[qj,qj];induction n with
 |zero=>omega
 |succ n z =>
  rw[List.range_succ];simp only[Dj,Du,DR,List.sum_append,List.sum_cons,List.sum_nil];by_cases u:i=n
  ·subst u;have:(B7 i).map (λj=>List.count k (if j=i then b else r j))=(B7 i).map λj=>(r j).count k:=by
    refine List.map_congr_left λj y=>?_
    rw[if_neg (by have:=DH.1 y;omega)]
   rw[this,if_pos rfl];omega
  ·have:=z (by omega);rw[if_neg (λe=>u e.symm)];omega
theorem nh {bs bs' K:List Nat}(y:bs.Nodup)(z:K.Nodup)(J:∀ k∈K,k∉bs)(h:∀ k,bs'.count k<=bs.count k+K.count k):bs'.Nodup/\∀ k∈bs',k∈bs\/k∈K:=by
 rw[bt]at y z;refine⟨bt.2 λk=>?_,λk r=>?_⟩
 ·have H:=h k;have I:=y k;have u:=z k;by_cases r:k∈K
  ·have:bs.count k=0:=CI.2 (J k r);omega
  ·have:K.count k=0:=CI.2 r;omega
 ·have H:=h k;have I:0<bs'.count k:=B3.2 r;by_cases u:k∈bs
  ·exact .inl u
  ·have:bs.count k=0:=CI.2 u;exact .inr (B3.1 (by omega))
theorem Mx.pos {w:World}{G:Nat->Prop}:∀ {a:Ty} {pos r:Nat} {x:a.den} {cs:List Value} {bs:List Nat},Mx w G a none pos x cs bs->Mx w G a none r x cs bs
 |.int _,_,_,_,_,_,h=>h
 |.bool,_,_,_,_,_,h=>h
 |.str,_,_,_,_,_,h=>h
 |.unit,_,_,_,_,_,h=>h
 |.hdr,_,_,_,_,_,h=>h
 |.pair _ _,_,_,_,_,_,⟨u,M,I,R,J,z,y,O⟩=>⟨u,M,I,R,J,z,Mx.pos y,Mx.pos O⟩
 |.list m E e,_,_,_,_,_,H=>by
  cases m with
  |false=>rw[cr]at H ⊢;exact H
  |true=>rw[bJ (by simp)]at H ⊢;exact H
section
variable {P:Program} {V:Env} {W:Wit} {st:St} {w w':World} {a:Act}
theorem Mx.scalar {G:Nat->Prop}{b:Ty}{hol:Option Nat}{pos:Nat}{x:b.den}{cs:List Value}{S:Nat->Prop}(r:b.flat=true)(h:Rd w S b x cs):Mx w G b hol pos x cs []:=Mx.flat r h
theorem lK (h:ap P V W st a w):∀ (b:Ty) (pos:Nat) (ls:List Leaf) (cs:List Value) (t:cO b.den),aC P V W st w ls cs->take st b ls=some t ->
  ∃ J O M,cs=J++O/\ls=M++t.rest/\aC P V W st w M J/\aC P V W st w t.rest O/\Mx w (bo V W t.p t.frz) b none pos t.val J (aY W t.kill) /\
   (∀ x∈t.frz,aB st x)/\(∀ x∈t.kill,aB st x)
 |.pair b c,pos,ls,cs,t,H,z=>by
  simp only[take]at z;split at z
  ·rename_i u hb;split at z
   ·rename_i v hc;simp only[BQ]at z;subst z;obtain⟨J,O,M,e1,e2,h1,Z,X,h4,h5⟩:=lK h b pos ls cs u H hb;obtain⟨c3,c4,l2,e3,e4,h6,h7,h8,h9,a0⟩:=lK h c (pos+b.cells) u.rest O v Z hc;refine⟨J++c3,c4,M++l2,by rw[e1,e3,B9],by rw[e2,e4,B9],h1.append h6,h7,⟨J,c3,_,_,rfl,dK W _ _,?_,?_⟩,?_,?_⟩
    ·refine X.mono λk I=>?_
     rcases I with I|⟨y,hy,I⟩
     ·exact .inl (bU (by intro h;simp[h]) (λ_ h=>h) k I)
     ·exact .inr ⟨y,BZ _ hy,I⟩
    ·refine h8.mono λk I=>?_
     rcases I with I|⟨y,hy,I⟩
     ·exact .inl (bU (by intro h;simp[h]) (λ_ h=>h) k I)
     ·exact .inr ⟨y,BU _ hy,I⟩
    ·intro x R;exact (B4.1 R).elim (h4 x) (h9 x)
    ·intro x R;exact (B4.1 R).elim (h5 x) (a0 x)
   ·cases z
  ·cases z
 |.unit,pos,ls,cs,t,H,z=>by
  simp only[take,BQ]at z;subst z;exact⟨[],cs,[],rfl,rfl,trivial,H,⟨rfl,rfl⟩,by simp,by simp⟩
 |.list m E e,pos,ls,cs,t,H,z=>by
  cases ls with
  |nil=>simp[take]at z
  |cons l ls =>
   cases cs with
   |nil=>exact H.elim
   |cons v cs =>
    cases m with
    |false =>
     simp only[take,cond_false]at z;split at z
     ·rename_i p xs ha;simp only[BQ]at z;subst z;refine⟨[v],cs,[l],rfl,rfl,⟨H.1,trivial⟩,H.2,cr.2 ⟨rfl,kE h H.1.1 H.1.2.1 ha⟩,λx R=>eo (cs:=[v]) (ls:=[l]) ⟨H.1,trivial⟩ R,by simp⟩
     ·cases z
    |true =>
     simp only[take,cond_true]at z;split at z
     ·rename_i r j n;split at z
      ·rename_i p E' e' xs hd;simp only[BR]at z;obtain⟨ys,hc,rfl⟩:=z;obtain⟨rfl,rfl,rfl⟩:=jK hc;obtain⟨h1,Z,X,h4⟩:=kk h hd H.1.1;refine⟨[v],cs,[_],rfl,rfl,⟨H.1,trivial⟩,H.2,(bJ (by simp)).2 ⟨v,rfl,?_⟩,by simp,?_⟩
       ·have:aY W [(r,j)]=W.bs r j:=by simp[aY]
        show OwB w _ none E' e' xs v (aY W [(r,j)]);rw[this];exact Z.2.carry (λk I=>.inl I) (λ_ _=>rfl) (λ_ _=>rfl)
       ·intro x R;simp only[List.mem_singleton]at R;subst R;exact⟨_,X,trivial⟩
      ·cases z
     ·simp only[BQ]at z;subst z;have X:v=.slice none 0 0:=H.1.1;refine⟨[v],cs,[_],rfl,rfl,⟨H.1,trivial⟩,H.2,(bJ (by simp)).2 ⟨v,rfl,?_⟩,by simp,by simp⟩;rw[X];exact (OwH.nil w _ E e).2
     ·cases z
 |.int k,pos,ls,cs,t,H,z=>take_scalar h (b:=.int k) rfl H z
 |.bool,pos,ls,cs,t,H,z=>take_scalar h (b:=.bool) rfl H z
 |.str,pos,ls,cs,t,H,z=>take_scalar h (b:=.str) rfl H z
 |.hdr,pos,ls,cs,t,H,z=>take_scalar h (b:=.hdr) rfl H z
where
 take_scalar (h:ap P V W st a w) {b:Ty} {pos:Nat} {ls:List Leaf} {cs:List Value} {t:cO b.den} (hf:b.flat=true) (H:aC P V W st w ls cs) (z:(a7 st b ls).map (λx=>(⟨false,x.2.1,[],[],x.2.2⟩:cO b.den))=some t) :
   ∃ J O M,cs=J++O/\ls=M++t.rest/\aC P V W st w M J/\aC P V W st w t.rest O/\Mx w (bo V W t.p t.frz) b none pos t.val J (aY W t.kill) /\
    (∀ x∈t.frz,aB st x)/\(∀ x∈t.kill,aB st x):=by
  simp only[BR]at z;obtain⟨⟨p,x,Y⟩,h1,rfl⟩:=z;obtain⟨J,O,M,e1,e2,Z,X,h4⟩:=kF h b ls cs p x Y H h1;exact⟨J,O,M,e1,e2,Z,X,Mx.flat hf h4,by simp,by simp⟩
theorem dP (h:ap P V W st a w){b:Ty}{pos:Nat}{ls:List Leaf}{cs:List Value}{t:cO b.den}(H:aC P V W st w ls cs)(r:cj st b ls=some t) :
  Mx w (bo V W t.p t.frz) b none pos t.val cs (aY W t.kill)/\(∀ x∈t.frz,aB st x)/\(∀ x∈t.kill,aB st x):=by
 unfold cj at r;split at r
 ·rename_i p x f k M;simp only[BQ]at r;subst r;obtain⟨R,y,Z,u,Y,X,I,O,z,J⟩:=lK h b pos ls cs _ H M;have:y=[]:=by
   cases y with
   |nil=>rfl
   |cons=>exact I.elim
  subst this;simp only[CJ]at u;subst u;exact⟨O,z,J⟩
 ·cases r
theorem gT (h:ap P V W st a w):∀ {ks:List (Nat×Nat)},aZ ks=true->(∀ x∈ks,aB st x)->(aY W ks).Nodup
 |[],_,_=>Do
 |x::ks,O,I=>by
  simp only[aZ,BS,CH,CO]at O;have ih:=gT h O.2 (λy H=>I y (B8 _ H));show (W.bs x.1 x.2++aY W ks).Nodup;rw[CX];obtain⟨l,M,z⟩:=I x (CF ..);refine⟨?_,ih,λk R k' r e=>?_⟩
  ·have Y:x.2<(W.cs x.1).length:=by rw[<- h.len];exact (BT.1 M).1
   have:=h.leaf x.1 x.2 l _ M (CB Y);cases l <;> simp only[ao]at z;exact OwH.nodup this
  ·subst e;obtain⟨y,H,r⟩:=gq.1 r;obtain⟨l',J,u⟩:=I y (B8 _ H);obtain⟨Z,X⟩:=h.sep x.1 x.2 l y.1 y.2 l' M z J u k R r;have:=O.1 y H;rw[Z,X]at this;simp at this
theorem j9:∀ {b:Ty} {S M:Nat->Prop} {O:Option Nat} {pos:Nat} {y:b.den} {c:List Value} {q:List Nat},b.flat=true->Mx w S b O pos y c q->Rd w M b y c
 |.int _,_,_,_,_,_,_,_,_,h=>h.1
 |.bool,_,_,_,_,_,_,_,_,h=>h.1
 |.str,_,_,_,_,_,_,_,_,h=>h.1
 |.unit,_,_,_,_,_,_,_,_,h=>h.1
 |.hdr,_,_,_,_,_,_,_,_,h=>h.1
 |.pair _ _,_,_,_,_,_,_,_,r,⟨u,I,X,Y,H,R,z,J⟩=>by
  simp only[Ty.flat,BS]at r;exact⟨u,I,H,j9 r.1 z,j9 r.2 J⟩
 |.list _ _ _,_,_,_,_,_,_,_,r,_=>by simp[Ty.flat]at r
theorem mu (h:ap P V W st a w){G:Nat->Prop}{off n:Nat}{hol I:Option Nat}(a4:∀ k,off<=k->k<off+n->I≠some k)(X:∀ k,¬ (off<=k/\k<off+n)->(I=some k<->hol=some k)) :
  ∀ (b:Ty) (pos:Nat) (x:b.den) (ls:List Leaf) (cs:List Value) (t:cO b.den) (R:List Value) (z:List Nat),aC P V W st w ls cs->dh st off n b pos x ls=some t->Mx w G b hol pos x R z ->
  ∃ O c2 c' J,cs=O++c2/\aC P V W st w t.rest c2/\O.length=min (off+n) (pos+b.cells)-max off pos /\
   Mx w (λk=>G k\/bo V W t.p t.frz k) b I pos t.val c' J /\
   (∀ i,i<b.cells->c'[i]?=if off<=pos+i/\pos+i<off+n then O[pos+i-max off pos]? else R[i]?) /\
   (∀ k,J.count k<=z.count k+(aY W t.kill).count k)/\(∀ x∈t.frz,aB st x)/\(∀ x∈t.kill,aB st x)
 |.pair b c,pos,x,ls,cs,t,R,z,M,r,⟨d1,d2,b1,b2,e1,e2,ad,b3⟩=>by
  simp only[dh]at r;split at r
  ·rename_i u Y;split at r
   ·rename_i v hc;simp only[BQ]at r;subst r;obtain⟨O,c2,c',J,f1,f2,f3,f4,f5,f6,f7,f8⟩:=mu h a4 X b pos x.1 ls cs u d1 b1 M Y ad;obtain⟨c3,c4,a9,a1,g1,g2,g3,g4,g5,g6,g7,g8⟩:=mu h a4 X c (pos+b.cells) x.2 u.rest c2 v d2 b2 f2 hc b3;have b4:=f4.len;have ba:=g4.len;have b5:=ad.len;refine⟨O++c3,c4,c'++a9,J++a1,by rw[f1,g1,B9],g2,?_,⟨c',a9,J,a1,rfl,rfl,?_,?_⟩,?_,?_,?_,?_⟩
    ·rw[CA,f3,g3];simp only[Ty.cells];omega
    ·refine f4.mono λk H=>?_
     rcases H with H|H|⟨y,hy,H⟩
     ·exact .inl H
     ·exact .inr (.inl (bU (by intro h;simp[h]) (λ_ h=>h) k H))
     ·exact .inr (.inr ⟨y,BZ _ hy,H⟩)
    ·refine g4.mono λk H=>?_
     rcases H with H|H|⟨y,hy,H⟩
     ·exact .inl H
     ·exact .inr (.inl (bU (by intro h;simp[h]) (λ_ h=>h) k H))
     ·exact .inr (.inr ⟨y,BU _ hy,H⟩)
    ·intro i hi;simp only[Ty.cells]at hi;rw[e1];by_cases b6:i<b.cells
     ·rw[BX (by omega),f5 i b6];by_cases hr:off<=pos+i/\pos+i<off+n
      ·rw[if_pos hr,if_pos hr,BX (by omega)]
      ·rw[if_neg hr,if_neg hr,BX (by omega)]
     ·rw[BW (by omega),b4,g5 (i-b.cells) (by omega)];have e3:pos+b.cells+(i-b.cells)=pos+i:=by omega
      rw[e3];by_cases hr:off<=pos+i/\pos+i<off+n
      ·rw[if_pos hr,if_pos hr,BW (by omega)];congr 1;omega
      ·rw[if_neg hr,if_neg hr,BW (by omega),b5]
    ·intro k;rw[e2,BV,BV,dK,BV];have:=f6 k;have:=g6 k;omega
    ·intro y hy;exact (B4.1 hy).elim (f7 y) (g7 y)
    ·intro y hy;exact (B4.1 hy).elim (f8 y) (g8 y)
   ·cases r
  ·cases r
 |.unit,pos,x,ls,cs,t,R,z,M,r,hm=>by
  simp only[dh,BQ]at r;subst r;refine⟨[],cs,[],[],rfl,M,by simp only[Ty.cells,Cr];omega,⟨rfl,rfl⟩,λi hi=>by simp[Ty.cells]at hi,λk=>by simp,by simp,by simp⟩
 |.hdr,pos,x,ls,cs,t,R,z,M,r,hm=>by simp[dh]at r
 |.int k,pos,x,ls,cs,t,R,z,M,r,hm=>put_scalar h (b:=.int k) rfl rfl M r hm
 |.bool,pos,x,ls,cs,t,R,z,M,r,hm=>put_scalar h (b:=.bool) rfl rfl M r hm
 |.str,pos,x,ls,cs,t,R,z,M,r,hm=>put_scalar h (b:=.str) rfl rfl M r hm
 |.list m E e,pos,x,ls,cs,t,R,z,M,r,hm=>by
  simp only[dh]at r;have b9:=hm.len;have e0:(Ty.list m E e).cells=1:=rfl;cases Y:C6 off pos&&DL pos (off+n) with
  |true =>
   rw[Y]at r;simp only[cond_true]at r;simp only[BS,Cv]at Y;have a6:=Cd Y.1;obtain⟨O,c2,l1,e1,e2,h1,h2,h3,h4,h5⟩:=lK h (.list m E e) pos ls cs t M r;have a3:=h3.len;refine⟨O,c2,O,aY W t.kill,e1,h2,by rw[a3];omega,?_,λi hi=>?_,λk=>by omega,h4,h5⟩
   ·have Z:=h3.mono (G':=λk=>G k\/bo V W t.p t.frz k) (λk H=>.inr H);cases m with
    |false=>rw[cr]at Z ⊢;exact Z
    |true =>
     rw[bJ (by simp)]at Z;rw[bJ (a4 pos a6 Y.2)];exact Z
   ·rw[if_pos (by omega)];congr 1;omega
  |false =>
   rw[Y]at r;simp only[cond_false,BQ]at r;subst r;have a2:¬ (off<=pos/\pos<off+n):=by
    rintro⟨h1,h2⟩;have:(C6 off pos&&DL pos (off+n))=true:=by
     simp only[BS,Cv];exact⟨Co h1,h2⟩
    rw[Y]at this;cases this
   refine⟨[],cs,R,z,rfl,M,by simp only[Cr];omega,?_,λi hi=>?_,λk=>by omega,by simp,by simp⟩
   ·have Z:=hm.mono (G':=λk=>G k\/bo V W false [] k) (λk H=>.inl H);cases m with
    |false=>rw[cr]at Z ⊢;exact Z
    |true =>
     by_cases hp:hol=some pos
     ·have a5:=(X pos a2).2 hp;subst hp;subst a5;rw[jc]at Z ⊢;exact Z
     ·have a5:I≠some pos:=λe=>hp ((X pos a2).1 e)
      rw[bJ hp]at Z;rw[bJ a5];exact Z
   ·rw[if_neg (by omega)]
where
 put_scalar (h:ap P V W st a w) {b:Ty} {pos:Nat} {x:b.den} {ls:List Leaf} {cs:List Value} {t:cO b.den} {R:List Value} {z:List Nat} (hf:b.flat=true) (h1:b.cells=1) (M:aC P V W st w ls cs)
   (r:(bif C6 off pos&&DL pos (off+n) then take st b ls else some ⟨false,x,[],[],ls⟩)=some t) (hm:Mx w G b hol pos x R z) :
   ∃ O c2 c' J,cs=O++c2/\aC P V W st w t.rest c2/\O.length=min (off+n) (pos+b.cells)-max off pos /\
    Mx w (λk=>G k\/bo V W t.p t.frz k) b I pos t.val c' J /\
    (∀ i,i<b.cells->c'[i]?=if off<=pos+i/\pos+i<off+n then O[pos+i-max off pos]? else R[i]?) /\
    (∀ k,J.count k<=z.count k+(aY W t.kill).count k)/\(∀ x∈t.frz,aB st x)/\(∀ x∈t.kill,aB st x):=by
  have a0:∀ {S S':Nat->Prop} {hh b0:Option Nat} {y:b.den} {c:List Value} {q:List Nat},Mx w S b hh pos y c q->Mx w S' b b0 pos y c []:=by
   intro S S' hh b0 y c q hq;exact Mx.flat (w:=w) (G:=λ_=>True) hf (j9 hf hq)
  cases Y:C6 off pos&&DL pos (off+n) with
  |true =>
   rw[Y]at r;simp only[cond_true]at r;simp only[BS,Cv]at Y;have a6:=Cd Y.1;obtain⟨O,c2,l1,e1,e2,h2,h3,h4,h5,Z⟩:=lK h b pos ls cs t M r;have a3:=h4.len;refine⟨O,c2,O,[],e1,h3,by rw[a3];omega,a0 h4,λi hi=>?_,λk=>by simp,h5,Z⟩;rw[if_pos (by omega)];congr 1;omega
  |false =>
   rw[Y]at r;simp only[cond_false,BQ]at r;subst r;have a2:¬ (off<=pos/\pos<off+n):=by
    rintro⟨h1,h2⟩;have:(C6 off pos&&DL pos (off+n))=true:=by
     simp only[BS,Cv];exact⟨Co h1,h2⟩
    rw[Y]at this;cases this
   refine⟨[],cs,R,[],rfl,M,by simp only[Cr];omega,a0 hm,λi hi=>?_,λk=>by simp,by simp,by simp⟩;rw[if_neg (by omega)]
end
section
variable {P:Program} {V:Env} {Γ:List Ctr} {T:TypeId->TI} {st st2:St} {o:Oper} {R:Type} {κ:Upd->Option R} {r:R}
def vq (V:Env)(W:Wit)(st:St)(q j k:Nat):Prop :=
 ¬ W.nw k/\¬ V.prot k/\(∀ b,live st b->W.β b≠k)/\∀ (u i:Nat) (l:Leaf),(st u).ls[i]?=some l->ao l->(u,i)≠(q,j)->k∉W.bs u i
structure x7 (st st2:St) (q j:Nat) (l':Leaf):Prop where
 sh:∀ r,(st2 r).sh=(st r).sh
 ver:∀ r,(st r).ver<=(st2 r).ver
 epo:(st EPO).ver<(st2 EPO).ver
 len:∀ r,(st2 r).ls.length=(st r).ls.length
 at_:∀ l,(st2 q).ls[j]?=some l->l=l'
 old:∀ r i l,(r,i)≠(q,j)->(st2 r).ls[i]?=some l->(st r).ls[i]?=some l
def Wit.tell (W:Wit)(q j:Nat)(bs:List Nat):Wit:={ W with bs:=λr i=>if (r,i)=(q,j) then bs else W.bs r i }
theorem ap.retell (hV:ay V){W:Wit}{a:Act}{w w':World}(h:ap P V W st a w){q j:Nat}{l l':Leaf}(O:x7 st st2 q j l'){v:Value}{bs':List Nat}
  (hl:(st q).ls[j]?=some l) (ad:ao l) (hv:(W.cs q)[j]?=some v) (b4:ao l') (a5:aI P V W st w' bs' l' v)
  (a4:∀ k∈bs',vq V W st q j k)
  (I:∀ k,cf V W st k->k∉W.bs q j->w'.heap[k]?=w.heap[k]?) (a9:w.heap.size<=w'.heap.size) (b0:w'.os=w.os) (ht:w'.tape=w.tape) (ho:w'.output=w.output) :
  ap P V (W.tell q j bs') st2 a w':=by
 have a0:=h.ownb q j _ hl ad;have Z:∀ b,live st2 b<->live st b:=iF O.sh;have a1:∀ {y i:Nat},(y,i)≠(q,j)->(W.tell q j bs').bs y i=W.bs y i:=λh=>if_neg h
 have a3:(W.tell q j bs').bs q j=bs':=if_pos rfl;have b3:∀ (y i:Nat) (l:Leaf),(st2 y).ls[i]?=some l->ao l->(y,i)≠(q,j)->(st y).ls[i]?=some l:=λy i l Y _ J=>O.old y i l J Y
 have H:cH V W (W.tell q j bs') st st2 w w':=by
  refine⟨λy=>⟨O.ver y,λ_=>rfl⟩,λb hb=>⟨(Z b).2 hb,rfl⟩,λ_ h=>h,λk z=>I k (z.elim .inl (λh=>.inr (.inl h))) (λhm=>?_),λhe=>?_⟩
  ·rcases z with z|z
   ·exact (a0 k hm).1 z
   ·exact (a0 k hm).2.1 z
  ·have:=O.epo;omega
 exact {
  nt:=h.nt,df:=h.df
  slots:=λt b1=>by rw[O.sh];exact h.slots t b1
  boxes:=λb hb=>by
   rw[O.sh];rcases h.boxes b hb with ⟨Y,J⟩|⟨Y,E0,J⟩
   ·refine .inl ⟨Y,CE ?_⟩;rw[O.len,J];rfl
   ·refine .inr ⟨Y,E0,?_⟩;show w'.heap[W.β b]?=_;rw[I _ (.inr (.inr (.inl ⟨b,⟨hb,Y⟩,rfl⟩))) (λhm=>(a0 _ hm).2.2 b ⟨hb,Y⟩ rfl)];exact J
  len:=λy=>by rw[O.len];exact h.len y
  one:=h.one
  leaf:=λy i l1 u Y J=>by
   by_cases M:(y,i)=(q,j)
   ·cases M;obtain rfl:=O.at_ l1 Y;have J:(W.cs q)[j]?=some u:=J;rw[hv]at J;simp only[BQ]at J;subst J;rw[a3];have a6:cH V W (W.tell q j bs') st st2 w' w':=⟨H.ver,H.box,H.nw,λ_ _=>rfl,λhe=>by have:=O.epo;omega⟩;exact a5.carry hV.ro a6 (λ_=>⟨rfl,λ_ _=>rfl⟩)
   ·have h3:=O.old y i l1 M Y;rw[a1 M];refine (h.leaf y i l1 u h3 J).carry hV.ro H (λho=>⟨rfl,λk z=>I k (.inr (.inr (.inr ⟨y,i,l1,h3,ho,z⟩))) (λhm=>M ?_)⟩);obtain⟨rfl,rfl⟩:=h.sep y i l1 q j _ h3 ho hl ad k z hm;rfl
  ownb:=λy i l1 Y J k z=>by
   by_cases M:(y,i)=(q,j)
   ·cases M;rw[a3]at z;obtain⟨q1,q2,q3,_⟩:=a4 k z;exact⟨q1,q2,λb hb=>q3 b ((Z b).1 hb)⟩
   ·rw[a1 M]at z;obtain⟨q1,q2,q3⟩:=h.ownb y i l1 (O.old y i l1 M Y) J k z;exact⟨q1,q2,λb hb=>q3 b ((Z b).1 hb)⟩
  sep:=λy i l1 r2 i2 l2 Y J h3 h4 k z a2=>by
   by_cases M:(y,i)=(q,j) <;> by_cases X:(r2,i2)=(q,j)
   ·rw[<- X]at M;cases M;exact⟨rfl,rfl⟩
   ·cases M;rw[a3]at z;rw[a1 X]at a2;exact absurd a2 ((a4 k z).2.2.2 r2 i2 l2 (O.old r2 i2 l2 X h3) h4 X)
   ·cases X;rw[a3]at a2;rw[a1 M]at z;exact absurd z ((a4 k a2).2.2.2 y i l1 (O.old y i l1 M Y) J M)
   ·rw[a1 M]at z;rw[a1 X]at a2;exact h.sep y i l1 r2 i2 l2 (O.old y i l1 M Y) J (O.old r2 i2 l2 X h3) h4 k z a2
  box:=λb hb=>h.box b ((Z b).1 hb)
  inj:=λb b' hb b2=>h.inj b b' ((Z b).1 hb) ((Z b').1 b2)
  nwlt:=λk z=>⟨Ca (h.nwlt k z).1 a9,(h.nwlt k z).2⟩
  os:=b0.trans h.os,tape:=ht.trans h.tape,output:=ho.trans h.output,size:=CY h.size a9
  keep:=λk hp=>by
   rw[I k (.inr (.inl hp)) (λhm=>(a0 k hm).2.1 hp)];exact h.keep k hp
  fixb:=λx hx=>⟨(Z _).2 (h.fixb x hx).1,(h.fixb x hx).2⟩
  fixt:=h.fixt }
theorem kO {q:Nat}(st:St):∀ (ks:List (Nat×Nat)),(∀ x∈ks,x.1≠q)->ac (aE st ks) st q=st q
 |[],_=>rfl
 |(r,j)::ks,h=>by
  have e:ac (aE st ((r,j)::ks)) st=ac [(r,f9 (ac (aE st ks) st r) j)] (ac (aE st ks) st):=aP _ _ _ _;rw[e,aH (Cg (h (r,j) (CF ..))),kO st ks (λx u=>h x (B8 _ u))]
theorem ku {q:Nat}(st:St):∀ (ks:List (Nat×Nat)),(∀ x∈ks,x.1≠q)->ac (aM st ks) st q=st q
 |[],_=>rfl
 |(r,j)::ks,h=>by
  have e:ac (aM st ((r,j)::ks)) st=ac [(r,gi (ac (aM st ks) st r) j)] (ac (aM st ks) st):=aP _ _ _ _;rw[e,aH (Cg (h (r,j) (CF ..))),ku st ks (λx u=>h x (B8 _ u))]
theorem OwH.store {w:World}{G G':Nat->Prop}{h h':Option (Nat×Nat)}{E:TypeId}{e:Ty}{xs:List e.den}{g len a4:Nat}{bs K:List Nat}(H:OwH w G h E e xs (.slice (some ⟨g,0,none⟩) len a4) bs)
  (hG:∀ k,G k->G' k) (bl:¬ G' g) (hK:K.Nodup) (cx:∀ k∈K,k∉bs) {i:Nat} {ad z:e.den} (hi:xs[i]?=some ad) (hh:∀ j,j≠i->cS h' j=cS h j) {off:Nat} {cs:List Value} (e1:off+cs.length<=e.cells)
  (J:∀ c0 b0,Mx w G e (cS h i) 0 ad c0 b0->∃ c M,Mx w G' e (cS h' i) 0 z c M/\(∀ k,k<e.cells->c[k]?=if off<=k/\k<off+cs.length then cs[k-off]? else c0[k]?)/\∀ k,M.count k<=b0.count k+K.count k) :
  ∃ b4,OwH (w.setCells g (i*e.cells+off) cs) G' h' E e (xs.set i z) (.slice (some ⟨g,0,none⟩) len a4) b4/\∀ k∈b4,k∈bs\/k∈K:=by
 obtain⟨cp,a0,Y,h1,h2,h3⟩:=H;have a5:i<xs.length:=(BT.1 hi).1;obtain⟨c0,bn,c5⟩:=h3 i ad hi;obtain⟨c,M,hm,c6,b9⟩:=J c0 (Y i) bn;have d1:=h1.1;rcases h1.2 with ⟨h4,_⟩|⟨g',dd,y,mk,h4,hg,c2,cw,cb,a9⟩
 ·simp at h4
 ·simp only[CP,BQ,Cz,and_true,true_and]at h4;obtain⟨rfl,rfl,rfl⟩:=h4;have dc:g∈bs:=by rw[h2];simp[CL]
  have d3:=bn.len;have cy:=hm.len;have b3:(i+1)*e.cells<=xs.length*e.cells:=B6 _ a5;rw[CS]at b3;have d2:xs.length*e.cells<=a4*e.cells:=B6 _ c2;have c4:y.toList.length=y.size:=by rw[CQ]
  have b2:a0=y.toList.take (xs.length*e.cells):=a9.symm;have J:=jN g E cs 0 (i*e.cells+off) w y hg;have b6:=kW y.toList cs (i*e.cells+off) (by omega);rw[CM]at b6;rw[b6]at J;simp only[CW]at J;have a1:∀ k,k<xs.length*e.cells->(y.toList.take (i*e.cells+off)++cs++y.toList.drop (i*e.cells+off+cs.length))[k]? =
    if i*e.cells+off<=k/\k<i*e.cells+off+cs.length then cs[k-(i*e.cells+off)]? else a0[k]?:=by
   intro k X;have c1:a0[k]?=y.toList[k]?:=by rw[b2,CU,if_pos X]
   by_cases h9:k<i*e.cells+off
   ·rw[B9,BX (by simp only[CK];omega),CU,if_pos h9,if_neg (by omega),c1]
   ·by_cases cu:k<i*e.cells+off+cs.length
    ·rw[B9,BW (by simp only[CK];omega),BX (by simp only[CK];omega),if_pos ⟨by omega,cu⟩];congr 1;simp only[CK];omega
    ·rw[BW (by simp only[CK,CA];omega),Cj,if_neg (by omega),c1];congr 1;simp only[CK,CA];omega
  have O:(y.toList.take (i*e.cells+off)++cs++y.toList.drop (i*e.cells+off+cs.length)).length=y.size:=by
   simp only[CA,CK,C3];omega
  have a3:∀ k,([g]++(B7 xs.length).flatMap λj=>if j=i then M else Y j).count k<=bs.count k+K.count k:=by
   intro k;have h5:=kt a5 Y M k;have h6:=b9 k;rw[h2];simp only[CL,DP,BV];omega
  have Z:=nh cp hK cx a3;have b1:∀ j,j<xs.length->∀ k∈(if j=i then M else Y j),k≠g:=by
   intro j hj k X e0;subst e0;have h7:=Z.1;rw[DD,Cb]at h7;exact h7.1 (dX.2 ⟨j,hj,X⟩)
  have I:∀ k,k≠g->(w.setCells g (i*e.cells+off) cs).heap[k]?=w.heap[k]?:=λk X=>eN g cs _ w k X
  refine⟨[g]++(B7 xs.length).flatMap λj=>if j=i then M else Y j,⟨Z.1,(y.toList.take (i*e.cells+off)++cs++y.toList.drop (i*e.cells+off+cs.length)).take (xs.length*e.cells),
   λj=>if j=i then M else Y j,⟨?_,.inr ⟨g,a4,_,_,?_,J,?_,by rw[Cm,O];exact cw,?_,?_⟩⟩,?_,?_⟩,Z.2⟩
  ·rw[CK,O,Cc];omega
  ·rw[Cc]
  ·rw[Cc];exact c2
  ·rw[Cm,O];exact cb
  ·rw[Cc]
  ·simp[CL]
  ·intro j x hj;rcases aR _ _ _ _ _ hj with ⟨rfl,rfl,_⟩|⟨a2,hj⟩
   ·refine⟨c,?_,λk u hu=>?_⟩
    ·simp only[if_true];exact hm.carry (λ_ h=>h) (λk X=>I k (λe0=>bl (e0 ▸ X))) (λk X=>I k (b1 j a5 k (by simpa using X)))
    ·have ba:k<e.cells:=by rw[<- cy];exact (BT.1 hu).1
     rw[CU,if_pos (by omega),a1 _ (by omega)];rw[c6 k ba]at hu;by_cases b5:off<=k/\k<off+cs.length
     ·rw[if_pos b5]at hu;rw[if_pos (by omega),<- hu];congr 1;omega
     ·rw[if_neg b5]at hu;rw[if_neg (by omega)];exact c5 k u hu
   ·obtain⟨c',bx,c3⟩:=h3 j x hj;have bb:j<xs.length:=(BT.1 hj).1;refine⟨c',?_,λk u hu=>?_⟩
    ·rw[hh j a2];simp only[if_neg a2];exact bx.carry hG (λk X=>I k (λe0=>bl (e0 ▸ hG k X))) (λk X=>I k (b1 j bb k (by rw[if_neg a2];exact X)))
    ·have ba:k<e.cells:=by rw[<- bx.len];exact (BT.1 hu).1
     have cc:(j+1)*e.cells<=xs.length*e.cells:=B6 _ bb;rw[CS]at cc;rw[CU,if_pos (by omega),a1 _ (by omega),if_neg ?_]
     ·exact c3 k u hu
     ·rintro⟨h14,h15⟩;rcases Nat.lt_or_gt_of_ne (λe=>a2 e.symm:i≠j) with a6|a6
      ·have:(i+1)*e.cells<=j*e.cells:=B6 _ a6;rw[CS]at this;omega
      ·have:(j+1)*e.cells<=i*e.cells:=B6 _ a6;rw[CS]at this;omega
theorem x8 (hV:ay V)(hT:TOk P T){t:TypeId}{x y:Operand}(b5:o.op=.store t x y)(h:act Γ T o st κ=some r):bW P V o st κ r:=by
  simp only[act,wrU,b5]at h;split at h
  · cases h
  · rename_i hd
    cases hb:CC (au st y).2.length (T t).cells&&decide ((au st y).1=bg (T t).agg)&&!decide ((T t).cells=0) with
    |false=>simp[hb]at h
    |true =>
      simp only[hb,cond_true]at h;simp only[BS,decide_eq_true_eq,CH,decide_eq_false_iff_not]at hb;obtain⟨⟨b0,bx⟩,b9⟩:=hb;have b0:=BY b0;split at h
      · rename_i b off hx
        cases Y:decide ((st b).sh=.agg)&&decide (off+(au st y).2.length<=(st b).ls.length)&&ii st (au st y).2 with
        |false=>simp[Y]at h
        |true =>
          simp only[Y,cond_true]at h;simp only[BS,decide_eq_true_eq]at Y;exact⟨_,h,λW a w hr=>tN hV hT b5 hd hx b0 bx b9 Y.1.1 Y.1.2 Y.2 hr⟩
      · rename_i z j fo i sz off hx
        split at h
        · rename_i p hh E e xs eb
          cases Y:CC sz e.cells&&decide (off+(au st y).2.length<=e.cells)&&sn z with
          |false=>simp[Y]at h
          |true =>
            simp only[Y,cond_true]at h;simp only[BS,decide_eq_true_eq,sn,CH]at Y;obtain⟨⟨ad,fi⟩,fr,d2⟩:=Y;have ad:=BY ad;subst ad;have e5:z≠EPO:=λe0=>by subst e0;simp at d2
            unfold gM at h;obtain⟨a2,c6,h⟩:=CN.1 h;obtain⟨_,_,h4⟩:=gr c6;simp only[DS]at h4;split at h
            · rename_i u hu
              cases hq:u.rest.isEmpty&&aZ u.kill&&dF u.frz u.kill&&!((u.kill++u.frz).any λk=>CC k.1 z) with
              |false=>rw[hq]at h;cases h
              |true =>
                simp only[hq,cond_true]at h;simp only[BS,CH,CO]at hq;obtain⟨⟨⟨es,em⟩,ef⟩,a0⟩:=hq;have a0:∀ k∈u.kill++u.frz,k.1≠z:=λk H e0=>a0 k H (by simp[e0])
                obtain ⟨I, hκ, c5, a4, cy⟩ : ∃ I : Option (Nat × Nat), κ ((z, ⟨(st z).ver, (st z).sh, aS (st z).ls j (.own (p || u.p) I E e (xs.set i u.val))⟩) :: (EPO, bV (ac (aM (ac (aE st u.frz) st) u.kill ++ aE st u.frz) st EPO)) ::
                      (aM (ac (aE st u.frz) st) u.kill++aE st u.frz))=some r /\
                    (∀ k,off<=k->k<off+(au st y).2.length->cS I i≠some k)/\(∀ k,¬ (off<=k/\k<off+(au st y).2.length)->(cS I i=some k<->cS hh i=some k))/\(∀ j',j'≠i->cS I j'=cS hh j'):=by
                  cases hh with
                  |none=>exact⟨none,h,λ_ _ _=>by simp[cS],λ_ _=>C7,λ_ _=>rfl⟩
                  |some hp =>
                    obtain⟨hi,ho⟩:=hp;simp only at h;cases J:C6 off ho&&DL ho (off+(au st y).2.length) with
                    |true =>
                      rw[J]at h;simp only[cond_true]at h;simp only[BS,Cv]at J;have ej:=Cd J.1;cases ba:CC i hi with
                      |true =>
                        rw[ba]at h;have h9:=h;have:=BY ba;subst this;refine⟨none,h9,λ_ _ _=>by simp[cS],λk H=>?_,λj' dd=>?_⟩
                        · simp only[cS,Nat.beq_refl,cond_true,reduceCtorEq,BQ,false_iff]
                          rintro rfl;exact H ⟨ej,J.2⟩
                        · have:CC i j'=false:=by
                            cases ev:CC i j' with
                            |false=>rfl
                            |true=>exact absurd (BY ev).symm dd
                          simp[cS,this]
                      |false=>rw[ba]at h;cases h
                    |false =>
                      rw[J]at h;refine⟨some (hi,ho),h,λk bb ey=>?_,λ_ _=>C7,λ_ _=>rfl⟩;simp only[cS];cases CC hi i with
                      |false=>simp
                      |true =>
                        simp only[cond_true,ne_eq,BQ];rintro rfl;have:(C6 off ho&&DL ho (off+(au st y).2.length))=true:=by
                          simp only[BS,Cv];exact⟨Co bb,ey⟩
                        rw[J]at this;cases this
                refine⟨_,hκ,λW a w hr next Q hn=>?_⟩;obtain⟨cs,hs,M⟩:=cW hr y;rw[bx]at hs;have e6:=gY hs M.one';have cp:=M.length;obtain⟨h5,h6⟩:=fe eb (by simp);obtain⟨hp,_,_,_⟩:=br hr x (by rw[hx];simp);rw[hx]at hp;obtain⟨g,d3,ec,a6,fl,hv⟩:=hp.2 h5;have f0:T t≠.none:=by intro e;rw[e]at b9;exact b9 rfl
                have a1:=hr.leaf z j _ _ h6 a6;have e7:∀ c0 O,Mx w (gd V W p) e (cS hh i) 0 a2 c0 O->∃ c a3,Mx w (λk=>gd V W p k\/bo V W u.p u.frz k) e (cS I i) 0 u.val c a3 /\
                    (∀ k,k<e.cells->c[k]?=if off<=k/\k<off+cs.length then cs[k-off]? else c0[k]?)/\∀ k,a3.count k<=O.count k+(aY W u.kill).count k:=by
                  intro c0 O hm;obtain⟨c1,c2,c',bs',f1,f2,f3,f4,f5,f6,f7,f8⟩:=mu hr c5 a4 e 0 a2 (au st y).2 cs u c0 O M hu hm;have c4:c2=[]:=by
                    have:=f2.length;rw[Da.1 es]at this;exact CE this.symm
                  subst c4;rw[CJ]at f1;subst f1;refine⟨c',bs',f4,λk H=>?_,f6⟩;rw[f5 k H,cp];simp only[Ch];by_cases J:off<=k/\k<off+cs.length
                  · rw[if_pos J,if_pos J]
                    congr 1;omega
                  · rw[if_neg J,if_neg J]
                have b6:(∀ x∈u.frz,aB st x)/\(∀ x∈u.kill,aB st x):=by
                  obtain⟨_,a5,cw,_,_,bn⟩:=a1;obtain⟨c0,et,_⟩:=bn i a2 h4;obtain⟨_,_,_,_,_,_,_,_,_,_,f7,f8⟩:=mu hr c5 a4 e 0 a2 (au st y).2 cs u c0 _ M hu et;exact⟨f7,f8⟩
                obtain⟨k1,k2,k3,k4⟩:=fJ hV hr ef b6.2;have X:ac (aM (ac (aE st u.frz) st) u.kill++aE st u.frz) st z=st z:=by
                  rw[bA,ku _ _ (λx hx=>a0 x (BZ _ hx)),kO _ _ (λx hx=>a0 x (BU _ hx))]
                have h7:(ac (aM (ac (aE st u.frz) st) u.kill++aE st u.frz) st z).ls[j]?=some (.own p hh E e xs):=by rw[X];exact h6
                have a9:=k1.ownb z j _ h7 trivial;have cb:∀ k,gd V W p k\/bo V W u.p u.frz k->gd V (W.frz st u.frz) (p||u.p) k:=by
                  rintro k (H|H)
                  · exact bU (W':=W.frz st u.frz) (by intro h;simp[h]) (λ_ h=>Or.inl h) k H
                  · exact bU (W':=W.frz st u.frz) (by intro h;simp[h]) (λ_ h=>h) k (km b6.1 k H)
                have b3:g∈W.bs z j:=by obtain⟨_,a5,cw,_,cu,_⟩:=a1;rw[cu];simp[CL]
                have eg:¬ gd V (W.frz st u.frz) (p||u.p) g:=by
                  rintro (H|⟨_,H⟩)
                  · exact (a9 g b3).1 H
                  · exact (a9 g b3).2.1 (hV.ro g H)
                have en:∀ k∈aY W u.kill,k∉W.bs z j:=λk H dc=>(k4 k H).2.2.2.2 z j _ h7 trivial dc
                obtain⟨bs',cx,bl⟩:=OwH.store (G':=gd V (W.frz st u.frz) (p||u.p)) (h':=I) a1 (λk H=>cb k (.inl H)) eg (gT hr em b6.2) en h4 cy (off:=off) (cs:=cs) (by omega)
                  (λc0 O hm=>by
                    obtain⟨c,a3,q1,q2,q3⟩:=e7 c0 O hm;exact⟨c,a3,q1.mono cb,q2,q3⟩)
                obtain⟨_,a5,cw,ho,cu,_⟩:=a1;have ed:d3=xs.length:=by
                  obtain⟨A,d1,e0,_⟩:=ho.slice;simp only[CP]at e0;exact e0.2.1
                subst ed;rcases ho.2 with ⟨h8,_⟩|⟨g',d1,cur,mk,h8,hg,fc,ex,fv,_⟩
                · simp at h8
                · simp only[CP,BQ,Cz,and_true,true_and]at h8
                  obtain⟨rfl,rfl⟩:=h8;have c3:(i+1)*e.cells<=xs.length*e.cells:=B6 _ (BT.1 h4).1;rw[CS]at c3;have fd:xs.length*e.cells<=ec*e.cells:=B6 _ fc;have b1:cur.toList.length=cur.size:=by rw[CQ]
                  have cc:=ng (P:=P) (oX (hT t) f0) (w:=w) (b:=g) (off:=i*e.cells+off) (cur:=cur.toList) (E:=E) (by rw[CM];exact hg) (by rw[b1];exact zI ex) e6 (by omega) M.one' (by omega);refine pN (w':=w.setCells g (i*e.cells+off) cs) (by simp[execOp,b5,hv,cc]) ?_;rw[hd];refine hn _ _ ?_;obtain⟨e1,e2,e3,e4⟩:=jO g cs (i*e.cells+off) w;refine⟨_,k1.retell hV (l':=.own (p||u.p) I E e (xs.set i u.val)) (w':=w.setCells g (i*e.cells+off) cs) (bs':=bs') ?_ h7 trivial a6 trivial cx (λk H=>?_) (λk _ H=>eN g cs _ w k (λe=>H (e ▸ b3))) (C5 e4.symm) e1 e2 e3⟩
                  · rw[aP z,aP EPO]
                    have Z:EPO≠z:=Cg e5;generalize aM (ac (aE st u.frz) st) u.kill++aE st u.frz=U at X ⊢;refine⟨λq=>?_,λq=>?_,?_,λq=>?_,λl M=>?_,λq i' l hq M=>?_⟩
                    · rcases am z q ⟨(st z).ver,(st z).sh,aS (st z).ls j (.own (p||u.p) I E e (xs.set i u.val))⟩ (ac [(EPO,bV (ac U st EPO))] (ac U st)) with ⟨rfl,e⟩ | ⟨_,e⟩
                      · rw[e,X]
                      · rw[e]
                        rcases am EPO q (bV (ac U st EPO)) (ac U st) with ⟨rfl,e⟩|⟨_,e⟩ <;> rw[e];rfl
                    · rcases am z q ⟨(st z).ver,(st z).sh,aS (st z).ls j (.own (p||u.p) I E e (xs.set i u.val))⟩ (ac [(EPO,bV (ac U st EPO))] (ac U st)) with ⟨rfl,e⟩ | ⟨_,e⟩
                      · rw[e,X];exact CD _
                      · rw[e]
                        rcases am EPO q (bV (ac U st EPO)) (ac U st) with ⟨rfl,e⟩|⟨_,e⟩ <;> rw[e]
                        · exact Df _
                        · exact CD _
                    · rw[aH Z,bk];exact B5 _
                    · rcases am z q ⟨(st z).ver,(st z).sh,aS (st z).ls j (.own (p||u.p) I E e (xs.set i u.val))⟩ (ac [(EPO,bV (ac U st EPO))] (ac U st)) with ⟨rfl,e⟩ | ⟨_,e⟩
                      · rw[e,X];simp[aS]
                      · rw[e]
                        rcases am EPO q (bV (ac U st EPO)) (ac U st) with ⟨rfl,e⟩|⟨_,e⟩ <;> rw[e];rfl
                    · rw[bk]at M
                      rcases aR _ _ _ _ _ M with ⟨_,rfl,_⟩|⟨Z,_⟩
                      · rfl
                      · exact absurd rfl Z
                    · rcases am z q ⟨(st z).ver,(st z).sh,aS (st z).ls j (.own (p||u.p) I E e (xs.set i u.val))⟩ (ac [(EPO,bV (ac U st EPO))] (ac U st)) with ⟨rfl,e⟩ | ⟨_,e⟩
                      · rw[e]at M
                        rw[X];rcases aR _ _ _ _ _ M with ⟨rfl,_,_⟩|⟨_,M⟩
                        · exact absurd rfl hq
                        · exact M
                      · rw[e]at M
                        rcases am EPO q (bV (ac U st EPO)) (ac U st) with ⟨rfl,e⟩|⟨_,e⟩ <;> rw[e]at M <;> exact M
                  · rcases bl k H with H|H
                    · have h9:=k1.ownb z j _ h7 trivial k H
                      exact⟨h9.1,h9.2.1,h9.2.2,λr1 i1 l1 b4 b2 Z bb=>Z (by obtain⟨e1,e2⟩:=k1.sep r1 i1 l1 z j _ b4 b2 h7 trivial k bb H;rw[e1,e2])⟩
                    · have h9:=k4 k H
                      exact⟨h9.1,h9.2.1,h9.2.2.2.1,λr1 i1 l1 b4 b2 _=>h9.2.2.2.2 r1 i1 l1 b4 b2⟩
            · cases h
        · cases h
      · cases h
end
section
variable {P:Program} {V:Env} {Γ:List Ctr} {T:TypeId->TI} {st:St} {o:Oper} {R:Type} {κ:Upd->Option R} {r:R}
theorem ap.putOwn (X:ay V){W:Wit}{a:Act}{w w':World}(h:ap P V W st a w)(M:w.heap.size<=w'.heap.size)(I:w'.os=w.os)(ht:w'.tape=w.tape)(ho:w'.output=w.output)
  (hk:∀ k,cf V W st k->w'.heap[k]?=w.heap[k]?) (d:Nat) (hd:d<V.nt) (z:∀ x∈V.fixt,x.1≠d) (n:Nat) (hn:(st d).ver<n) {p:Bool} {E:TypeId} {e:Ty} {xs:List e.den} {v:Value} {bs:List Nat}
  (Z:Ow w' (gd V W p) E e xs v bs) (hb:∀ k∈bs,¬ cf V W st k):Rel P V (ac [(d,⟨n,.one,[.own p none E e xs]⟩)] st) (a.put (some d) v) w':=by
 refine⟨_,(h.world X M I ht ho hk).put X d hd z n .one [.own p none E e xs] v [v] (λ_=>bs) hn rfl rfl (λu hu=>by simp at hu;subst hu;exact Z.one) ?_ ?_ ?_⟩
 ·intro j l u y H;cases j with
  |zero=>simp at y H;subst y;subst H;exact Z
  |succ j=>simp at y
 ·intro j l y H k J;have:=hb k J;simp only[cf,not_or,not_exists,not_and]at this;exact⟨this.1,this.2.1,this.2.2.1,λr1 j1 l1 _ O Y=>this.2.2.2 r1 j1 l1 O Y⟩
 ·intro j j' l l' y H O Y k h5 h6;have h7:j<1:=(BT.1 y).1;have h8:j'<1:=(BT.1 O).1;omega
theorem dS {W:Wit}{p q:Bool}{y z:List (Nat×Nat)}:(∀ k,bo V W p y k->bo V W (p||q) (y++z) k)/\(∀ k,bo V W q z k->bo V W (p||q) (y++z) k):=by
 constructor
 ·rintro k (u|⟨x,H,u⟩)
  ·exact .inl (bU (W':=W) (by intro h;simp[h]) (λ_ h=>h) k u)
  ·exact .inr ⟨x,BZ _ H,u⟩
 ·rintro k (u|⟨x,H,u⟩)
  ·exact .inl (bU (W':=W) (by intro h;simp[h]) (λ_ h=>h) k u)
  ·exact .inr ⟨x,BU _ H,u⟩
theorem x9 (n:Nat)(u:Nat->List Nat):(B7 (n+1)).flatMap u=u 0++(B7 n).flatMap λj=>u (j+1):=by
 rw[List.range_succ_eq_map,Ce,Db]
theorem oG {W:Wit}{a:Act}{w:World}(X:ap P V W st a w){e:Ty}:∀ (ps:List (Nat×Operand)) (k:Nat) (u:cO (List e.den)),eC st e k ps=some u ->
  ps.map (λx=>(x.1,a.eval x.2))=((ps.map λx=>a.eval x.2).zipIdx k).map (λx=>(x.2,x.1))/\u.val.length=ps.length/\(∀ x∈u.frz,aB st x)/\(∀ x∈u.kill,aB st x) /\
  ∃ z:Nat->List Nat,aY W u.kill=(B7 u.val.length).flatMap z /\
   ∀ (j:Nat) (x:e.den),u.val[j]?=some x->∃ v c,(ps.map λx=>a.eval x.2)[j]?=some v/\v.cells=c.toArray/\Mx w (bo V W u.p u.frz) e none 0 x c (z j)
 |[],k,u,h=>by
  simp only[eC,BQ]at h;subst h;exact⟨rfl,rfl,by simp,by simp,λ_=>[],rfl,λj x I=>by simp at I⟩
 |(i,y)::ps,k,u,h=>by
  simp only[eC]at h;cases H:CC i k&&decide ((au st y).1=bg e.isAgg) with
  |false=>simp[H]at h
  |true =>
   simp only[H,cond_true]at h;simp only[BS,decide_eq_true_eq]at H;have M:=BY H.1;subst M;split at h
   ·rename_i t1 u1 hg J;simp only[BQ]at h;subst h;obtain⟨h1,h2,h3,h4,z,h5,h6⟩:=oG X ps (i+1) u1 J;obtain⟨cs,Z,Y⟩:=cW X y;rw[H.2]at Z;have hc:=gY Z Y.one';obtain⟨g1,g2,g3⟩:=dP (pos:=0) X Y hg;refine⟨by simp[h1],by simp[h2],λx O=>(B4.1 O).elim (g2 x) (h3 x),λx O=>(B4.1 O).elim (g3 x) (h4 x),λj=>match j with|0=>aY W t1.kill|j+1=>z j,?_,?_⟩
    ·rw[dK,h5,C4,x9]
    ·intro j x I;cases j with
     |zero =>
      simp at I;subst I;exact⟨a.eval y,cs,by simp,hc,g1.mono dS.1⟩
     |succ j =>
      obtain⟨v,c,h7,h8,h9⟩:=h6 j x (by simpa using I);exact⟨v,c,by simpa using h7,h8,h9.mono dS.2⟩
   ·cases h
theorem lL (w:World)(G:Nat->Prop):∀ (b:Ty),Rd w G b b.zero (zeroCells b)
 |.int _=>rfl
 |.bool=>rfl
 |.str=>rfl
 |.unit=>rfl
 |.hdr=>⟨none,0,rfl⟩
 |.pair a b=>⟨_,_,rfl,lL w G a,lL w G b⟩
 |.list m E e=>Rd.nil w G m E e
theorem qQ (w:World)(G:Nat->Prop):∀ (b:Ty) (pos:Nat),Mx w G b none pos b.zero (zeroCells b) []
 |.int _,_=>⟨rfl,rfl⟩
 |.bool,_=>⟨rfl,rfl⟩
 |.str,_=>⟨rfl,rfl⟩
 |.unit,_=>⟨rfl,rfl⟩
 |.hdr,_=>⟨⟨none,0,rfl⟩,rfl⟩
 |.pair a b,_=>⟨_,_,[],[],rfl,rfl,qQ w G a _,qQ w G b _⟩
 |.list m E e,_=>by
  cases m with
  |false=>exact cr.2 ⟨rfl,Rd.nil w G false E e⟩
  |true=>exact (bJ (by simp)).2 ⟨_,rfl,(OwH.nil w G E e).2⟩
theorem mv {W:Wit}{k:Nat}(h:¬ W.nw k/\¬ V.prot k/\(∀ b,live st b->W.β b≠k)/\∀ (u i:Nat) (l:Leaf),(st u).ls[i]?=some l->ao l->k∉W.bs u i):¬ cf V W st k:=by
 rintro (y|y|⟨b,z,e⟩|⟨u,i,l,H,I,J⟩)
 ·exact h.1 y
 ·exact h.2.1 y
 ·exact h.2.2.1 b z e
 ·exact h.2.2.2 u i l H I J
theorem mw:(9223372036854775807:Nat)<=maxLen:=by decide
theorem qR (hV:ay V)(hT:TOk P T)(b6:bN V o){t:TypeId}{n:Nat}{y:Array (Nat×Operand)}(a2:o.op=.buildSlice t n y)(h:act Γ T o st κ=some r):bW P V o st κ r:=by
 simp only[act,wrU,a2]at h;cases ht:T t with
 |slice E e bb =>
  simp only[ht]at h;split at h
  ·rename_i u ba;cases hb:CC u.val.length n&&decide (n*e.cells<=16777216)&&aZ u.kill&&dF u.frz u.kill with
   |false=>simp[hb]at h
   |true =>
    simp only[hb,cond_true]at h;simp only[BS,decide_eq_true_eq]at hb;obtain⟨⟨⟨bx,c6⟩,c5⟩,c1⟩:=hb;have c3:=BY bx;subst c3;split at h
    ·rename_i d hd;refine⟨_,h,λW a w hr next Q hn=>?_⟩;have h1:=hT t;rw[ht]at h1;obtain⟨hu,_,_,Y,_,ti,z,a1,O,_,hz,cb⟩:=h1;obtain⟨h2,h3,a9,b0,b5,c4,h5⟩:=oG hr y.toList 0 u ba;generalize cc:u.val=I at *;have a4:∀ v∈(y.toList.map λx=>a.eval x.2),v.cells.size=e.cells:=by
      intro v hv;obtain⟨j,hj,e1⟩:=List.getElem_of_mem hv;have c0:j<I.length:=by rw[h3];simpa using hj
      obtain⟨v',c,X,Z,h8⟩:=h5 j I[j] (CB c0);rw[CB hj]at X;simp only[BQ]at X;rw[<- e1,X,Z];simpa using h8.len
     have b3:(y.toList.map λx=>a.eval x.2).length=I.length:=by rw[Cs,h3]
     have a5:∀ (j:Nat) (x:e.den),I[j]?=some x->∃ c,Mx w (bo V W u.p u.frz) e none 0 x c (b5 j)/\∀ i u,c[i]?=some u ->
       ((y.toList.map λx=>a.eval x.2).flatMap λv=>v.cells.toList)[j*e.cells+i]?=some u:=by
      intro j x hj;obtain⟨v,c,X,Z,h8⟩:=h5 j x hj;refine⟨c,h8,λi u hi=>?_⟩;have ad:i<e.cells:=by rw[<- h8.len];exact (BT.1 hi).1
      rw[Great.flat_get Y _ a4];have e1:(j*e.cells+i) / e.cells=j:=by
       rw[C8,Nat.mul_add_div Y,Nat.div_eq_of_lt ad,CW]
      have e2:(j*e.cells+i) % e.cells=i:=by
       rw[C8,Dk,Dc ad]
      rw[e1,e2,X];simpa[Z]using hi
     have a0:((y.toList.map λx=>a.eval x.2).flatMap λv=>v.cells.toList).length=I.length*e.cells:=by
      have:∀ (vs:List Value),(∀ v∈vs,v.cells.size=e.cells)->(vs.flatMap λv=>v.cells.toList).length=vs.length*e.cells:=by
       intro vs;induction vs with
       |nil=>intro _;simp
       |cons v vs ih =>
        intro hv;rw[Ce,CA,ih (λu hu=>hv u (B8 _ hu)),CQ,hv v (CF ..),C4,CS];omega
      rw[this _ a4,b3]
     have H:=Great.fill_whole Y (y.toList.map λx=>a.eval x.2) ((Array.range (I.length*e.cells)).map ((if I.length*e.cells=0 then (#[]:Array Value) else z.cells)[· % (if I.length*e.cells=0 then (#[]:Array Value) else z.cells).size]!)) a4 (by rw[b3];simp);rw[<- h2]at H;have a3:(y.map λ (i,x)=>(i,a.eval x)).toList=y.toList.map λx=>(x.1,a.eval x.2):=by rw[Dd]
     have b4:(execOp a.eval o).run P w=.ok (.value (.slice (some ⟨w.heap.size,0,none⟩) I.length I.length)) (w.alloc (.cells ((y.toList.map λx=>a.eval x.2).flatMap λv=>v.cells.toList).toArray E)):=by
      have M:¬ (I.length*e.cells>2 ^ 24):=by omega
      by_cases h0:I.length*e.cells=0
      ·rw[if_pos h0]at H;simp only[execOp,a2,Instr.buildSlice,DT,run_underlying hu,Cx,sizeOf,typeInfo,a1,O,a3];simp[M,h0,newRow,a1,O,a3]at H ⊢;simp[H]
      ·rw[if_neg h0]at H;have:=run_buildSlice (P:=P) w t E I.length (y.map λ (i,x)=>(i,a.eval x)) _ ti z hu a1 hz (by rw[O];exact M) (by rw[O];exact h0) (by rw[O,a3];exact H);simp[execOp,a2,this]
     refine dY b4 ?_;rw[hd];refine hn _ _ ?_;rw[cm,aP];obtain⟨X,_,_,b9⟩:=fJ hV hr c1 b0;have b1:=X.used_lt;have b2:I.length<=maxLen:=by
      have:=mw;have:I.length*1<=I.length*e.cells:=Cu _ Y;omega
     have c2:=World.ownsRow_lit (e:=E) (size:=e.cells) (base:=0) w ((y.toList.map λx=>a.eval x.2).flatMap λv=>v.cells.toList).toArray I.length (Dg _) b2 (by simpa using a0);refine X.putOwn hV (w':=w.alloc (.cells ((y.toList.map λx=>a.eval x.2).flatMap λv=>v.cells.toList).toArray E)) (by simp) rfl rfl rfl (λk J=>Go.heap_alloc_old w _ (b1 k J)) d (b6 d hd).1 (b6 d hd).2 _ (B5 _) (bs:=w.heap.size::aY W u.kill) ?_ (λk J hu=>?_)
     ·refine⟨Cb.2 ⟨λhm=>?_,gT hr c5 b0⟩,_,b5,Row.of c2,by rw[c4];rfl,λj x hj=>?_⟩
      ·have:=(b9 _ hm).2.2.1;omega
      ·obtain⟨c,a6,bl⟩:=a5 j x hj;have bn:∀ k,bo V W u.p u.frz k->k<w.heap.size:=λk J=>by
        rcases km a9 k J with J|⟨_,J⟩
        ·exact (X.nwlt k J).1
        ·exact Ca (hV.ro k J).1 X.size
       exact⟨c,a6.carry (km a9) (λk J=>Go.heap_alloc_old w _ (bn k J)) (λk J=>Go.heap_alloc_old w _ (a6.lt k J)),λi u hi=>by simpa using bl i u hi⟩
     ·rcases Ci.1 J with rfl|J
      ·have:=b1 _ hu;omega
      ·have Z:=b9 k J;exact mv ⟨Z.1,Z.2.1,Z.2.2.2.1,Z.2.2.2.2⟩ hu
    ·cases h
  ·cases h
 |_=>simp[ht]at h
theorem ya {w:World}{G:Nat->Prop}{E':TypeId}{y u e:TypeId}(Z:P.underlying y=some (.slice e))(O:P.underlying e=some (.int .u8))(Y:P.underlying u=some .string){xs:List Int}{v:Value}
  (h:Rd w G (.list false E' (.int .u8)) xs [v]):(convert y u v).run P w=.ok (.string (gN xs)) w:=by
 obtain⟨A,z,hv,hc,J⟩:=h;simp only[Ct,and_true]at hv;subst hv;cases A with
 |none =>
  have hx:xs=[]:=by
   cases xs with
   |nil=>rfl
   |cons x xs=>obtain⟨g,o,M,_⟩:=J (by simp);cases M
  subst hx;show (convert y u (.slice none 0 z)).run P w=_;rw[run_convert_bytes_nil w y e Z O 0 z u Y];rfl
 |some ad =>
  cases I:xs with
  |nil =>
   subst I;show (convert y u (.slice (some ad) 0 z)).run P w=_;rw[run_convert_bytes_string w y u e ad 0 z Z O Y];simp[Conv.bytesToString,loadCells,loadCellsFrom];rfl
  |cons x0 a0 =>
   rw[<- I];obtain⟨g,o,M,_,hr⟩:=J (by rw[I];simp);simp only[BQ]at M;subst M;have:=run_convert_bytes_arg (P:=P) w y e Z O g o xs.length z xs rfl (λi hi=>by
    obtain⟨c,H,X⟩:=hr i xs[i] (CB hi);have H:c=[.int .u8 xs[i]]:=H;subst H;have:=X 0 _ rfl;simp only[Ty.cells,DI,CW]at this;rw[this];simp[List.getD,CB hi]) u Y
   rw[this];rfl
theorem uP (hV:ay V)(hT:TOk P T)(J:bN V o){s t:TypeId}{x:Operand}(M:o.op=.convert s t x)(h:act Γ T o st κ=some r):bW P V o st κ r:=by
 simp only[act,wrU,M]at h;have y:=hT t;have z:=hT s;split at h
 ·rename_i k' k a5 n Z X hx;split at h
  ·rename_i d O;refine⟨_,h,λW a w I=>aO hV I O J (v:=.int k (k.wrap n)) ?_ rfl id rfl⟩;rw[X]at y;rw[Z]at z;simp[execOp,M,bE I hx,Go.convert,run_underlying y.1,run_underlying z.1,Conv.intToInt]
  ·cases h
 ·rename_i E b Z X;split at h
  ·rename_i p xs ha;split at h
   ·rename_i d O;refine⟨_,h,λW a w I=>?_⟩;have a2:one st x≠.dead:=by intro e0;rw[e0]at ha;simp[aD,dl]at ha
    obtain⟨h1,h2,_⟩:=br I x a2;have a1:=kE (m:=false) (E:=E) I h1 h2 ha;rw[X]at y;rw[Z]at z;refine aO hV I O J (v:=.string (gN xs)) ?_ rfl id rfl;have:=ya (P:=P) z.1 (z.2.2.2.2.1.2 rfl) y.1 a1;simp[execOp,M,this]
   ·cases h
  ·cases h
 ·rename_i E b H Z X hx;cases hE:CC E 5 with
  |false=>simp[hE]at h
  |true =>
  simp only[hE,cond_true]at h;have a4:E=5:=BY hE;split at h
  ·rename_i d O;refine⟨_,h,λW a w I next Q hn=>?_⟩;rw[X]at y;rw[Z]at z;have hc:(ez H).length=H.size:=by simp only[ez,Cs,CQ];rfl
   have Y:=Lib.run_convert_string_bytes (P:=P) w s t E H z.1 y.1 (y.2.2.2.2.1.2 rfl);refine dY (v:=.slice (some ⟨w.heap.size,0,none⟩) H.size (grownCap w H.size 0 E)) (w':=Lib.bytesWorld w E H) (by simp[execOp,M,iE I hx,Y]) ?_;rw[O];refine hn _ _ ?_;have a3:=grownCap_ge w H.size 0 E;have a0:(Lib.bytesCells w E H).size=grownCap w H.size 0 E:=by
    simp only[Lib.bytesCells,DU,Array.size_map,Array.size_replicate];show H.size+_=_;omega
   refine I.putOwn hV (by rw[Lib.bytesWorld_size];omega) (by simp[Lib.bytesWorld,DV,Dh,Dp,-DJ,-DN]) (by simp[Lib.bytesWorld,DV,Dh,Dp,-DJ,-DN]) (by simp[Lib.bytesWorld,DV,Dh,Dp,-DJ,-DN])
    (λk hk=>Lib.bytesWorld_at_old w E H k (I.used_lt k hk)) d (J d O).1 (J d O).2 _ (B5 _) (bs:=[w.heap.size])
    ⟨by simp,(ez H).map (Value.int .u8),λ_=>[],⟨by rw[Cs];exact (DI _).symm,.inr ⟨w.heap.size,_,_,_,by rw[hc],Lib.bytesWorld_at_new w E H,by rw[hc];exact a3,.inr ⟨a4,CD _⟩,by rw[a0];exact C5 (DI _),?_⟩⟩,by simp[CL],λj x hj=>?_⟩ (λk hk hu=>?_)
   ·simp only[Lib.bytesCells,DM,Dd,Ty.cells,DI,ez,DW];exact List.take_left' (by simp)
   ·refine⟨[.int .u8 x],⟨rfl,rfl⟩,λi u hi=>?_⟩
    match i,hi with
    |0,hi =>
     simp only[Ck,BQ]at hi;subst hi;simp[Ty.cells,hj]
   ·simp at hk;have:=I.used_lt k hu;omega
  ·cases h
 ·cases h
theorem sk (hV:ay V)(hT:TOk P T)(O:bN V o){t:TypeId}{n c:Operand}(X:o.op=.makeSlice t n c)(h:act Γ T o st κ=some r):bW P V o st κ r:=by
 simp only[act,wrU,X]at h;split at h
 ·rename_i E e H k1 m k2 m' ht a4 a1;cases hb:decide (0<=m)&&decide (m=m')&&decide (m*H<=(an:Int)) with
  |false=>simp[hb]at h
  |true =>
   simp only[hb,cond_true]at h;simp only[BS,decide_eq_true_eq]at hb;obtain⟨⟨h0,rfl⟩,a5⟩:=hb;split at h
   ·rename_i d hd;refine⟨_,h,λW a w Z next Q hn=>?_⟩;have h1:=hT t;rw[ht]at h1;obtain⟨hu,_,_,bb,b5,ti,z,a3,b1,b3,hz,Y⟩:=h1;have hm:(m.toNat:Int)=m:=by omega
    have a0:m.toNat*H<=an:=by
     have:((m.toNat*H:Nat):Int)<=(an:Int):=by rw[Int.natCast_mul,hm];exact a5
     omega
    have ba:m.toNat*1<=m.toNat*H:=Cu _ b5.1;simp only[an]at a0;have b6:=mw;obtain⟨w',I,b2,y⟩:=run_make_full (P:=P) w 0 t E ti z e.cells hu a3 hz b1 k1 k2 m.toNat (by rw[b3,C8];omega) (by omega) (Dg _);rw[hm]at I;refine dY (v:=.slice (some ⟨w.heap.size,0,none⟩) m.toNat m.toNat) (w':=w') (by simp[execOp,X,bE Z a4,bE Z a1,I]) ?_;rw[hd];refine hn _ _ ?_;have b4:z.cells.size=e.cells:=by
     have h2:=(lL w (λ_=>False) e).len;rw[<- CQ,Y,h2]
    refine Z.putOwn hV y.size y.os y.tape y.output (λk hk=>y.block k (Z.used_lt k hk) (by simp)) d (O d hd).1 (O d hd).2 _ (B5 _) (bs:=[w.heap.size])
     ⟨by simp,_,λ_=>[],by rw[DE];exact Row.of b2,by simp[CL],λj x M=>?_⟩ (λk hk hu=>?_)
    ·rw[Cl]at M;split at M
     ·rename_i b0;simp at M;subst M;refine⟨_,qQ w' _ e 0,λi u hi=>?_⟩;have a6:i<e.cells:=by rw[<- (lL w' (λ_=>False) e).len];exact (BT.1 hi).1
      have J:(j+1)*e.cells<=m.toNat*e.cells:=B6 _ b0;rw[CS]at J;have ad:j*e.cells+i<m.toNat*e.cells:=by omega
      have e2:(j*e.cells+i) % e.cells=i:=by rw[C8,Dk,Dc a6]
      have a9:z.cells[i]?=some u:=by rw[<- DF,Y];exact hi
      obtain⟨b9,a2⟩:=Array.getElem?_eq_some_iff.1 a9;simp only[madeCells,DF,Array.getElem?_map,Array.getElem?_range,ad,if_true,Dl,b4,e2];rw[getElem!_pos z.cells i (by omega),a2]
     ·cases M
    ·simp at hk;have:=Z.used_lt k hu;omega
   ·cases h
 ·cases h
theorem uQ (n u:Nat)(z:n<=u)(k y:IntKind)(w:World):(DX true n u none (some (.int k n)) (some (.int y n))).run P w=.ok (0,n,n) w:=by
 simp[DX,Instr.sliceBound,asIntOf,z]
theorem wA (hV:ay V)(hT:TOk P T)(a6:bN V o){t:TypeId}{x m:Operand}{lo hi:Option Operand}(a5:o.op=.slice t x lo hi (some m))(h:act Γ T o st κ=some r):bW P V o st κ r:=by
 simp only[act,wrU,a5]at h;cases hd:o.dst with
 |none=>simp[hd]at h
 |some d =>
  simp only[hd]at h;split at h
  ·rename_i E' e' b0 O j v ht hx;split at h
   ·rename_i p E e J hdr;split at h
    ·rename_i hh k b6 b4;cases hb:hi.isSome&&decide (hh=(J.length:Int))&&decide (k=(J.length:Int))&&CC e'.cells e.cells with
     |false=>rw[hb]at h;cases h
     |true =>
      rw[hb]at h;simp only[cond_true]at h;simp only[BS,decide_eq_true_eq]at hb;obtain⟨⟨⟨a4,rfl⟩,rfl⟩,X⟩:=hb;have X:=BY X;refine⟨_,h,λW a w hr next Q hn=>?_⟩;have h1:=hT t;rw[ht]at h1;obtain⟨hu,_,_,_,_,ti,z,b9,bx,_⟩:=h1;obtain⟨Z,_,_,_,_⟩:=br hr x (by rw[hx];simp);rw[hx]at Z;obtain⟨h8,a3,c0,cb⟩:=kk hr hdr Z;obtain⟨y,hy,k1,c3⟩:∃ y,hi=some y/\∃ k1,a.eval y=.int k1 J.length:=by
       rcases mS hr b6 with ⟨I,_⟩|⟨y,k1,I,u⟩
       ·rw[I]at a4;cases a4
       ·exact⟨y,I,k1,u⟩
      obtain⟨k2,c5⟩:∃ k2,a.eval m=.int k2 J.length:=by
       rcases mS hr b4 with ⟨I,_⟩|⟨y,k2,I,u⟩
       ·cases I
       ·cases I;exact⟨k2,u⟩
      obtain⟨A,ba,hv,a0⟩:=a3.slice;have hE:=dx (P:=P) (t:=E') (n:=e.cells) (by simp[bQ,b9,bx,X]) w;have a9:(if J.length=0 then A else A.map λx=>x.add (0*e.cells))=A:=by
       cases A with
       |none=>simp
       |some ad =>
        have e0:ad.add 0=ad:=by simp[Addr.add]
        show (if J.length=0 then some ad else some (ad.add (0*e.cells)))=some ad;rw[DY,e0];split <;> rfl
      refine dY (v:=.slice A J.length J.length) (w':=w) ?_ ?_
      ·simp only[execOp,a5,hv,hy,Dl,DC,c3,c5,Instr.sliceAt,Instr.slice,DT,run_underlying hu,Cx,uQ J.length ba a0 k1 k2 w,hE,Sem.run_pure,C9,a9]
      ·rw[hd];refine hn _ _ ?_;rw[cm,aP];have c2:∀ z∈[(O,j)],aB st z:=λz hz=>by simp at hz;subst hz;exact⟨_,c0,trivial⟩
       obtain⟨h6,_,_,H⟩:=fJ (frz:=[]) (kill:=[(O,j)]) hV hr rfl c2;have e1:aM (ac (aE st []) st) [(O,j)]++aE st []=aM st [(O,j)]:=CJ _;rw[e1]at h6 H;have bb:aY W [(O,j)]=W.bs O j:=by simp[aY]
       rw[bb]at H;obtain⟨bl,a2,bn,M,a1,b3⟩:=a3;refine h6.putOwn hV (w':=w) (CD _) rfl rfl rfl (λ_ _=>rfl) d (a6 d hd).1 (a6 d hd).2 _ (B5 _) (bs:=W.bs O j) ?_ (λk hk=>mv ⟨(H k hk).1,(H k hk).2.1,(H k hk).2.2.2.1,(H k hk).2.2.2.2⟩);have c4:∀ k,gd V W p k->gd V (W.frz st []) p k:=bU (W':=W.frz st []) (λh=>h) (λ_ h=>Or.inl h);refine OwH.carry (G:=gd V W p) ⟨bl,a2,bn,⟨M.1,?_⟩,?_,b3⟩ c4 (λ_ _=>rfl) (λ_ _=>rfl)
       ·rcases M.2 with ⟨Y,I⟩|⟨g,c6,c1,mk,Y,I,u,b2,b1,b5⟩
        ·rw[hv]at Y;simp only[CP]at Y;exact .inl ⟨by rw[Y.1,I],I⟩
        ·rw[hv]at Y;simp only[CP,true_and]at Y;exact .inr ⟨g,J.length,c1,mk,by rw[Y.1],I,CD _,b2.imp (λh=>⟨h.1,CY u h.2⟩) id,CY (B6 _ u) b1,b5⟩
       ·rw[a1,hv];cases A <;> rfl
    ·cases h
   ·cases h
  ·cases h
theorem yb (z:ay V)(I:TOk P T)(u:bN V o){t:TypeId}{x:Operand}{J M H:Option Operand}(y:o.op=.slice t x J M H)(h:act Γ T o st κ=some r):bW P V o st κ r:=by
 cases H with
 |none=>exact vP z I u y h
 |some m=>exact wA z I u y h
theorem AI (Y:ay V)(I:bN V o){c:Call}(z:o.op=.call c)(M:c.callee=.builtin .min)(h:act Γ T o st κ=some r):bW P V o st κ r:=by
 simp only[act,wrU,z,M]at h;split at h
 ·cases h
 ·rename_i d O;simp only[O]at h;split at h
  ·rename_i x y hx;split at h
   ·rename_i Z m k2 n hm X;have u:c.args=#[x,y]:=by rw[<- CM (xs:=c.args),hx]
    refine⟨_,h,λW a w J=>aO Y J O I (v:=.int Z (bif decide (n<m) then n else m)) ?_ rfl id rfl⟩;cases H:decide (n<m) <;> simp[execOp,z,M,resolve,invoke,builtin,u,bE J hm,bE J X,Builtin.min_,Builtin.min2] <;> simp at H <;> omega
   ·cases h
  ·cases h
theorem AJ (Y:ay V)(I:bN V o){c:Call}(z:o.op=.call c)(M:c.callee=.builtin .max)(h:act Γ T o st κ=some r):bW P V o st κ r:=by
 simp only[act,wrU,z,M]at h;split at h
 ·cases h
 ·rename_i d O;simp only[O]at h;split at h
  ·rename_i x y hx;split at h
   ·rename_i Z m k2 n hm X;have u:c.args=#[x,y]:=by rw[<- CM (xs:=c.args),hx]
    refine⟨_,h,λW a w J=>aO Y J O I (v:=.int Z (bif decide (m<n) then n else m)) ?_ rfl id rfl⟩;cases H:decide (m<n) <;> simp[execOp,z,M,resolve,invoke,builtin,u,bE J hm,bE J X,Builtin.max_,Builtin.max2] <;> simp at H <;> omega
   ·cases h
  ·cases h
end
section
variable {P:Program} {V:Env} {W:Wit} {st st':St} {w w':World} {a:Act}
theorem ap.putGhost (hV:ay V)(h:ap P V W st a w)(d:Nat)(hd:GH<=d)(a4:d<B0)(n:Nat)(sh:aG)(ls:List Leaf)
  (Y:List Value) (I:Nat->List Nat) (hn:(st d).ver<n) (hl:ls.length=Y.length) (h1:∀ u∈Y,u.oneCell'=true)
  (a1:∀ (j:Nat) (l:Leaf) (u:Value),ls[j]?=some l->Y[j]?=some u->aI P V W st w (I j) l u)
  (a0:∀ (j:Nat) (l:Leaf),ls[j]?=some l->ao l->∀ k∈I j,¬ W.nw k/\¬ V.prot k/\(∀ b,live st b->W.β b≠k) /\
   ∀ (r1 j1:Nat) (l1:Leaf),r1≠d->(st r1).ls[j1]?=some l1->ao l1->k∉W.bs r1 j1)
  (a2:∀ (j j':Nat) (l l':Leaf),ls[j]?=some l->ao l->ls[j']?=some l'->ao l'->∀ k,k∈I j->k∈I j'->j=j') :
  ap P V { W with cs:=λr=>if r=d then Y else W.cs r,bs:=λr j=>if r=d then I j else W.bs r j } (ac [(d,⟨n,sh,ls⟩)] st) a w /\
   cH V W { W with cs:=λr=>if r=d then Y else W.cs r,bs:=λr j=>if r=d then I j else W.bs r j } st (ac [(d,⟨n,sh,ls⟩)] st) w w:=by
 have J:∀ b,live (ac [(d,⟨n,sh,ls⟩)] st) b<->live st b:=by
  intro b;by_cases R:B0<=b
  ·rw[live,live,aH (by omega)]
  ·simp[live,R]
 have M:cH V W { W with cs:=λr=>if r=d then Y else W.cs r,bs:=λr j=>if r=d then I j else W.bs r j } st (ac [(d,⟨n,sh,ls⟩)] st) w w:=by
  refine⟨λq=>?_,λb R=>⟨(J b).2 R,rfl⟩,λ_ h=>h,λ_ _=>rfl,λ_ q j' l' O h4 h5=>?_⟩
  ·rcases am d q ⟨n,sh,ls⟩ st with ⟨rfl,e⟩|⟨y,e⟩
   ·rw[e];exact⟨Nat.le_of_lt hn,λe=>absurd e (by show n≠_;omega)⟩
   ·rw[e];exact⟨CD _,λ_=>by simp[y]⟩
  ·rcases am d q ⟨n,sh,ls⟩ st with ⟨rfl,e⟩|⟨y,e⟩
   ·rw[e]at h5;exact absurd h5 (by show n≠_;omega)
   ·rw[e]at O;exact⟨⟨l',O,h4⟩,by simp[y],λ_ _=>rfl⟩
 refine⟨?_,M⟩
 exact {
  nt:=h.nt,df:=h.df
  slots:=λt ht=>by
   have:t≠d:=by omega
   rw[aH this];simpa[this]using h.slots t ht
  boxes:=λb R=>by
   have:b≠d:=by omega
   rw[aH this];simpa[this]using h.boxes b R
  len:=λq=>by
   rcases am d q ⟨n,sh,ls⟩ st with ⟨rfl,e⟩|⟨y,e⟩
   ·rw[e];simpa using hl
   ·rw[e];simpa[y]using h.len q
  one:=λq u hu=>by
   by_cases hq:q=d
   ·simp only[hq,if_true]at hu;exact h1 u hu
   ·simp only[hq,if_false]at hu;exact h.one q u hu
  leaf:=λq j l u z O=>by
   rcases am d q ⟨n,sh,ls⟩ st with ⟨rfl,e⟩|⟨y,e⟩
   ·rw[e]at z;simp only[if_true]at O;exact (a1 j l u z O).carry hV.ro M (λ_=>⟨by simp,λ_ _=>rfl⟩)
   ·rw[e]at z;simp only[y,if_false]at O;exact (h.leaf q j l u z O).carry hV.ro M (λ_=>⟨by simp[y],λ_ _=>rfl⟩)
  ownb:=λq j l z O k X=>by
   rcases am d q ⟨n,sh,ls⟩ st with ⟨rfl,e⟩|⟨y,e⟩
   ·rw[e]at z;simp only[if_true]at X;have:=a0 j l z O k X;exact⟨this.1,this.2.1,λb R=>this.2.2.1 b ((J b).1 R)⟩
   ·rw[e]at z;simp only[y,if_false]at X;have:=h.ownb q j l z O k X;exact⟨this.1,this.2.1,λb R=>this.2.2 b ((J b).1 R)⟩
  sep:=λq j l q' j' l' z O h4 h5 k X H=>by
   rcases am d q ⟨n,sh,ls⟩ st with ⟨e0,e⟩|⟨y,e⟩ <;> rcases am d q' ⟨n,sh,ls⟩ st with ⟨e1,e'⟩|⟨Z,e'⟩
   ·rw[e]at z;rw[e']at h4;simp only[e0,if_true]at X;simp only[e1,if_true]at H;exact⟨e0.trans e1.symm,a2 j j' l l' z O h4 h5 k X H⟩
   ·rw[e]at z;rw[e']at h4;simp only[e0,if_true]at X;simp only[Z,if_false]at H;exact absurd H ((a0 j l z O k X).2.2.2 q' j' l' Z h4 h5)
   ·rw[e]at z;rw[e']at h4;simp only[y,if_false]at X;simp only[e1,if_true]at H;exact absurd X ((a0 j' l' h4 h5 k H).2.2.2 q j l y z O)
   ·rw[e]at z;rw[e']at h4;simp only[y,if_false]at X;simp only[Z,if_false]at H;exact h.sep q j l q' j' l' z O h4 h5 k X H
  box:=λb R=>h.box b ((J b).1 R)
  inj:=λb b' R a3=>h.inj b b' ((J b).1 R) ((J b').1 a3)
  nwlt:=h.nwlt
  os:=h.os,tape:=h.tape,output:=h.output,size:=h.size,keep:=h.keep
  fixb:=λx hx=>⟨(J _).2 (h.fixb x hx).1,(h.fixb x hx).2⟩
  fixt:=h.fixt }
theorem gD {off:Nat}:∀ {a:Ty} {pos:Nat} {x:a.den} {u:(E:TypeId)×(e:Ty)×List e.den},bd off a pos x=some u->pos<=off/\off<pos+a.cells
 |.pair a b,pos,x,u,h=>by
  simp only[bd]at h;split at h
  ·rename_i v y;have:=gD y;simp only[Ty.cells];omega
  ·have:=gD h;simp only[Ty.cells];omega
 |.list m E e,pos,z,u,h=>by
  simp only[bd]at h;cases r:m&&CC pos off with
  |false=>simp[r]at h
  |true =>
   simp only[BS]at r;have:=BY r.2;simp only[Ty.cells];omega
 |.int _,_,_,_,h=>by simp[bd]at h
 |.bool,_,_,_,h=>by simp[bd]at h
 |.str,_,_,_,h=>by simp[bd]at h
 |.unit,_,_,_,h=>by simp[bd]at h
 |.hdr,_,_,_,h=>by simp[bd]at h
theorem ni {off:Nat}:∀ {a:Ty} {pos:Nat} {x:a.den} {E:TypeId} {e:Ty} {u:List e.den},bd off a pos x=some ⟨E,e,u⟩->e.shy=true->a.shy=true
 |.pair a b,pos,x,E,e,u,h,r=>by
  simp only[bd]at h;simp only[Ty.shy,Dm];split at h
  ·rename_i v z;simp only[BQ]at h;subst h;exact .inl (ni z r)
  ·exact .inr (ni h r)
 |.list m H I,pos,J,E,e,u,h,r=>by
  simp only[bd]at h;cases y:m&&CC pos off with
  |false=>simp[y]at h
  |true =>
   rw[y]at h;simp only[cond_true,BQ,Sigma.mk.injEq]at h;obtain⟨rfl,h⟩:=h;rw[heq_eq_eq,Sigma.mk.injEq]at h;obtain⟨rfl,_⟩:=h;simp[Ty.shy,r]
 |.int _,_,_,_,_,_,h,_=>by simp[bd]at h
 |.bool,_,_,_,_,_,h,_=>by simp[bd]at h
 |.str,_,_,_,_,_,h,_=>by simp[bd]at h
 |.unit,_,_,_,_,_,h,_=>by simp[bd]at h
 |.hdr,_,_,_,_,_,h,_=>by simp[bd]at h
theorem Mx.hol_out {G:Nat->Prop}{o:Nat}:∀ {a:Ty} {pos:Nat} {x:a.den} {cs:List Value} {bs:List Nat},(o<pos\/pos+a.cells<=o)->(Mx w G a none pos x cs bs<->Mx w G a (some o) pos x cs bs)
 |.int _,_,_,_,_,_=>C7
 |.bool,_,_,_,_,_=>C7
 |.str,_,_,_,_,_=>C7
 |.unit,_,_,_,_,_=>C7
 |.hdr,_,_,_,_,_=>C7
 |.pair a b,pos,x,cs,bs,r=>by
  simp only[Ty.cells]at r;constructor
  ·rintro⟨c1,c2,b1,b2,e1,e2,h1,h2⟩;exact⟨c1,c2,b1,b2,e1,e2,(Mx.hol_out (by omega)).1 h1,(Mx.hol_out (by omega)).1 h2⟩
  ·rintro⟨c1,c2,b1,b2,e1,e2,h1,h2⟩;exact⟨c1,c2,b1,b2,e1,e2,(Mx.hol_out (by omega)).2 h1,(Mx.hol_out (by omega)).2 h2⟩
 |.list m E e,pos,u,cs,bs,r=>by
  simp only[Ty.cells]at r;cases m with
  |false=>rw[cr,cr]
  |true=>rw[bJ (by simp),bJ (by simp only[ne_eq,BQ];omega)]
theorem Mx.out {G:Nat->Prop}{off:Nat}{E:TypeId}{e:Ty}{ys:List e.den}:∀ {a:Ty} {pos:Nat} {x:a.den} {cs:List Value} {bs:List Nat},Mx w G a none pos x cs bs->bd off a pos x=some ⟨E,e,ys⟩ ->
  ∃ v z y,OwB w G none E e ys v z/\cs[off-pos]?=some v/\Mx w G a (some off) pos x cs y/\∀ k,bs.count k=y.count k+z.count k
 |.pair a b,pos,x,cs,bs,⟨c1,c2,b1,b2,J,e2,R,h2⟩,h=>by
  have hl:=R.len;simp only[bd]at h;split at h
  ·rename_i u hu;simp only[BQ]at h;subst h;have M:=gD hu;obtain⟨v,z,y,X,O,Z,Y⟩:=Mx.out R hu;refine⟨v,z,y++b2,X,?_,⟨c1,c2,y,b2,J,rfl,Z,(Mx.hol_out (by omega)).1 h2⟩,λk=>?_⟩
   ·rw[J,BX (by omega)];exact O
   ·rw[e2,BV,BV,Y k];omega
  ·rename_i hu;have M:=gD h;obtain⟨v,z,y,X,O,Z,Y⟩:=Mx.out h2 h;refine⟨v,z,b1++y,X,?_,⟨c1,c2,b1,y,J,rfl,(Mx.hol_out (by omega)).1 R,Z⟩,λk=>?_⟩
   ·rw[J,BW (by omega),hl,show off-pos-a.cells=off-(pos+a.cells) by omega];exact O
   ·rw[e2,BV,BV,Y k];omega
 |.list m E' e',pos,xs,cs,bs,H,h=>by
  simp only[bd]at h;cases r:m&&CC pos off with
  |false=>simp[r]at h
  |true =>
   rw[r]at h;simp only[cond_true,BQ,Sigma.mk.injEq]at h;obtain⟨rfl,h⟩:=h;simp only[BS]at r;obtain⟨rfl,r⟩:=r;have r:=BY r;subst r;rw[heq_eq_eq,Sigma.mk.injEq]at h;obtain⟨rfl,h⟩:=h;rw[heq_eq_eq]at h;subst h;have I:=H.one;rw[bJ (by simp)]at H;obtain⟨v,rfl,hO⟩:=H;exact⟨v,bs,[],hO,by simp,jc.2 ⟨v,rfl,I v (by simp),rfl⟩,λk=>by simp⟩
 |.int _,_,_,_,_,_,h=>by simp[bd]at h
 |.bool,_,_,_,_,_,h=>by simp[bd]at h
 |.str,_,_,_,_,_,h=>by simp[bd]at h
 |.unit,_,_,_,_,_,h=>by simp[bd]at h
 |.hdr,_,_,_,_,_,h=>by simp[bd]at h
theorem Mx.back {G:Nat->Prop}{off:Nat}{E:TypeId}{e:Ty}{O:List e.den}{v:Value}{bn:List Nat}(hO:OwB w G none E e O v bn):∀ {a:Ty} {pos:Nat} {x z:a.den} {cs:List Value} {I:List Nat},Mx w G a (some off) pos x cs I->bM off E e O a pos x=some z ->
  cs[off-pos]?=some v->∃ R,Mx w G a none pos z cs R/\∀ k,R.count k=I.count k+bn.count k
 |.pair a b,pos,x,z,cs,R,⟨c1,c2,b1,b2,X,e2,M,h2⟩,h,J=>by
  have hl:=M.len;simp only[bM]at h;split at h
  ·rename_i u y;simp only[BQ]at h;subst h;have Y:=set_in y;obtain⟨I,g1,Z⟩:=Mx.back hO M y (by rw[X,BX (by omega)]at J;exact J);refine⟨I++b2,⟨c1,c2,I,b2,X,rfl,g1,(Mx.hol_out (by omega)).2 h2⟩,λk=>?_⟩;rw[e2,BV,BV,Z k];omega
  ·rename_i y;simp only[BR]at h;obtain⟨u,y,rfl⟩:=h;have Y:=set_in y;obtain⟨I,g1,Z⟩:=Mx.back hO h2 y (by
    rw[X,BW (by omega),hl]at J;rw[show off-(pos+a.cells)=off-pos-a.cells by omega];exact J)
   refine⟨b1++I,⟨c1,c2,b1,I,X,rfl,(Mx.hol_out (by omega)).2 M,g1⟩,λk=>?_⟩;rw[e2,BV,BV,Z k];omega
 |.list m E' e',pos,xs,z,cs,R,H,h,J=>by
  simp only[bM]at h;cases r:m&&CC pos off with
  |false=>simp[r]at h
  |true =>
   rw[r]at h;simp only[cond_true]at h;obtain⟨rfl,rfl,rfl⟩:=jK h;simp only[BS]at r;obtain⟨rfl,r⟩:=r;have r:=BY r;subst r;rw[jc]at H;obtain⟨v',rfl,M,rfl⟩:=H;simp only[Nat.sub_self,Ck,BQ]at J;subst J;exact⟨bn,(bJ (by simp)).2 ⟨v',rfl,hO⟩,λk=>by simp⟩
 |.int _,_,_,_,_,_,_,h,_=>by simp[bM]at h
 |.bool,_,_,_,_,_,_,h,_=>by simp[bM]at h
 |.str,_,_,_,_,_,_,h,_=>by simp[bM]at h
 |.unit,_,_,_,_,_,_,h,_=>by simp[bM]at h
 |.hdr,_,_,_,_,_,_,h,_=>by simp[bM]at h
where
 set_in {off:Nat} {E:TypeId} {e:Ty} {O:List e.den}:∀ {a:Ty} {pos:Nat} {x z:a.den},bM off E e O a pos x=some z->pos<=off/\off<pos+a.cells
  |.pair a b,pos,x,z,h=>by
   simp only[bM]at h;split at h
   ·rename_i u y;have:=set_in y;simp only[Ty.cells];omega
   ·simp only[BR]at h;obtain⟨u,y,_⟩:=h;have:=set_in y;simp only[Ty.cells];omega
  |.list m E' e',pos,xs,z,h=>by
   simp only[bM]at h;cases r:m&&CC pos off with
   |false=>simp[r]at h
   |true =>
    simp only[BS]at r;have:=BY r.2;simp only[Ty.cells];omega
  |.int _,_,_,_,h=>by simp[bM]at h
  |.bool,_,_,_,h=>by simp[bM]at h
  |.str,_,_,_,h=>by simp[bM]at h
  |.unit,_,_,_,h=>by simp[bM]at h
  |.hdr,_,_,_,h=>by simp[bM]at h
end
section
variable {P:Program} {V:Env} {W W' W2:Wit} {st st' st2:St} {w w' w2:World} {a:Act}
theorem cH.trans (h:cH V W W' st st' w w')(u:cH V W' W2 st' st2 w' w2):cH V W W2 st st2 w w2:=by
 refine⟨λr=>⟨CY (h.ver r).1 (u.ver r).1,λe=>?_⟩,λb M=>?_,λk y=>u.nw k (h.nw k y),λk y=>?_,λhe r j l H z I=>?_⟩
 ·have H:=(h.ver r).1;have z:=(u.ver r).1;rw[(u.ver r).2 (by omega),(h.ver r).2 (by omega)]
 ·obtain⟨H,z⟩:=h.box b M;obtain⟨I,h6⟩:=u.box b H;exact⟨I,h6.trans z⟩
 ·rw[u.heap k (y.imp (h.nw k) id),h.heap k y]
 ·have e1:=(h.ver EPO).1;have e2:=(u.ver EPO).1;have e3:=(h.ver r).1;have e4:=(u.ver r).1;obtain⟨⟨l',Y,O⟩,R,g7⟩:=u.epo (by omega) r j l H z (by omega);obtain⟨X,J,Z⟩:=h.epo (by omega) r j l' Y O (by omega);exact⟨X,R.trans J,λk y=>(g7 k (by rw[J];exact y)).trans (Z k y)⟩
theorem qS {n i:Nat}(H:i<n)(r:Nat->List Nat)(b y:List Nat)(z:∀ k,(r i).count k=b.count k+y.count k)(u:List Nat)(k:Nat) :
  (u++(B7 n).flatMap r).count k=(u++(B7 n).flatMap λj=>if j=i then b else r j).count k+y.count k:=by
 have:=kt H r b k;have:=z k;rw[BV,BV];omega
theorem OwH.out {G:Nat->Prop}{E E1:TypeId}{e e1:Ty}{xs:List e.den}{v:Value}{bs:List Nat}{i off:Nat}{y:e.den}{ys:List e1.den}(H:Ow w G E e xs v bs)(hy:xs[i]?=some y)(hg:bd off e 0 y=some ⟨E1,e1,ys⟩) :
  ∃ u Y X,OwH w G (some (i,off)) E e xs v X/\Ow w G E1 e1 ys u Y/\(∀ g O,v=.slice (some ⟨g,0,none⟩) xs.length O->w.cell? ⟨g,i*e.cells+off,none⟩=some u)/\∀ k,bs.count k=X.count k+Y.count k:=by
 obtain⟨a1,M,J,h1,h2,h3⟩:=H;have R:i<xs.length:=(BT.1 hy).1;obtain⟨c,hm,hc⟩:=h3 i y hy;have hm:Mx w G e none 0 y c (J i):=hm;obtain⟨u,Y,b',g1,g2,g3,g4⟩:=hm.out hg;have r:=qS R J b' Y g4 v.ownBlock.toList;rw[<- h2]at r;have z:=bt.1 a1;refine⟨u,Y,v.ownBlock.toList++(B7 xs.length).flatMap λj=>if j=i then b' else J j,⟨bt.2 λk=>by have:=z k;have:=r k;omega,M,_,h1,rfl,λj x Z=>?_⟩,
  ⟨bt.2 λk=>by have:=z k;have:=r k;omega,g1⟩,λg O hv=>?_,r⟩
 ·by_cases I:j=i
  ·subst I;rw[hy]at Z;simp only[BQ]at Z;subst Z;refine⟨c,?_,hc⟩;simp only[cS,Nat.beq_refl,cond_true,if_true];exact g3
  ·obtain⟨c',h4,h5⟩:=h3 j x Z;refine⟨c',?_,h5⟩;have:CC i j=false:=by
    cases hb:CC i j with
    |false=>rfl
    |true=>exact absurd (BY hb).symm I
   simp only[cS,this,cond_false,if_neg I];exact h4
 ·subst hv;have a2:=gD hg;have a0:i*e.cells+off<xs.length*e.cells:=by
   have:=B6 e.cells (show i+1<=xs.length from R);rw[Cy,Nat.one_mul]at this;omega
  rw[h1.cellAt _ a0];exact hc off u (by simpa using g2)
theorem OwH.back {G:Nat->Prop}{E E1:TypeId}{e e1:Ty}{xs:List e.den}{v u:Value}{bs bn:List Nat}{i off:Nat}{y z:e.den}{ys:List e1.den}(H:OwH w G (some (i,off)) E e xs v bs)(hn:Ow w G E1 e1 ys u bn)
  (hd:∀ k∈bn,k∉bs) (hy:xs[i]?=some y) (hs:bM off E1 e1 ys e 0 y=some z) (M:∀ g J,v=.slice (some ⟨g,0,none⟩) xs.length J->w.cell? ⟨g,i*e.cells+off,none⟩=some u) :
  ∃ Z,Ow w G E e (xs.set i z) v Z/\∀ k,Z.count k=bs.count k+bn.count k:=by
 obtain⟨a3,R,a0,h1,h2,h3⟩:=H;have X:i<xs.length:=(BT.1 hy).1;obtain⟨c,hm,hc⟩:=h3 i y hy;have a1:cS (some (i,off)) i=some off:=by simp[cS]
 rw[a1]at hm;have a4:=Mx.back.set_in hs;have a5:=hm.len;have I:c[off-0]?=some u:=by
  rcases h1.2 with ⟨rfl,h0⟩|⟨g,J,a6,_,rfl,_⟩
  ·omega
  ·have O:=M g J rfl;have a2:i*e.cells+off<xs.length*e.cells:=by
    have:=B6 e.cells (show i+1<=xs.length from X);rw[Cy,Nat.one_mul]at this;omega
   rw[h1.cellAt _ a2]at O;have h5:off<c.length:=by omega
   have h6:=hc off _ (CB h5);rw[O]at h6;rw[C9,CB h5,h6]
 obtain⟨b1,g1,g2⟩:=Mx.back hn.2 hm hs I;have r:∀ k,(v.ownBlock.toList++(B7 xs.length).flatMap λj=>if j=i then b1 else a0 j).count k=bs.count k+bn.count k:=by
  intro k;have O:=kt X a0 b1 k;have h5:=g2 k;rw[h2,BV,BV];omega
 refine⟨_,⟨(nh a3 hn.1 hd (λk=>C5 (r k))).1,R,_,by rw[Cc];exact h1,by rw[Cc],λj x hj=>?_⟩,r⟩;rcases aR _ _ _ _ _ hj with ⟨rfl,rfl,_⟩|⟨Y,hj⟩
 ·refine⟨c,?_,hc⟩;simp only[if_true];exact g1
 ·obtain⟨c',O,h5⟩:=h3 j x hj;refine⟨c',?_,h5⟩;have:CC i j=false:=by
   cases hb:CC i j with
   |false=>rfl
   |true=>exact absurd (BY hb).symm Y
  have e0:cS (some (i,off)) j=none:=by simp[cS,this]
  rw[e0]at O;simp only[if_neg Y];exact O
theorem iZ:GH<=TMP/\TMP<B0/\TMP≠EPO:=by decide
def tO (W:Wit)(S:St)(w:World)(r j:Nat)(v:Value):Prop :=
 r≠TMP/\r≠EPO/\∃ (i off:Nat) (p:Bool) (E:TypeId) (e:Ty) (y:List e.den) (g u:Nat),(S r).ls[j]?=some (.own p (some (i,off)) E e y)/\(W.cs r)[j]?=some (.slice (some ⟨g,0,none⟩) y.length u) /\
  g∈W.bs r j/\w.cell? ⟨g,i*e.cells+off,none⟩=some v
theorem vr (hV:ay V)(h:ap P V W st a w){l l':Leaf}{U:Upd}{v:Value}(Z:aI P V W st w [] l v)(I:cn st l=some (U,l')) :
  ∃ W0 n p0 E0 e0 c3,ap P V W0 (ac U st) a w/\cH V W W0 st (ac U st) w w/\l'=.al TMP 0 n/\aI P V W0 (ac U st) w [] l' v/\(ac U st TMP).ver=n/\(ac U st TMP).ls=[.own p0 none E0 e0 c3] /\
   W0.nw=W.nw/\W0.β=W.β/\(∀ q,q≠TMP->W0.cs q=W.cs q)/\W0.cs TMP=[v]/\(∀ q,(ac U st q).sh=(st q).sh\/q=TMP)/\tO W0 (ac U st) w (kd l).1 (kd l).2 v:=by
 cases l with
 |nal p ks ep cp E e xs =>
  simp only[cn]at I;cases b1:bq st ks ep with
  |false=>simp[b1]at I
  |true =>
   rw[b1]at I;simp only[cond_true]at I;split at I
   ·rename_i r j n0 i sz off;split at I
    ·rename_i M R J z hg;cases hb:!CC r TMP&&!CC r EPO&&CC sz J.cells with
     |false=>simp[hb]at I
     |true =>
      rw[hb]at I;simp only[cond_true]at I;simp only[BS,CH]at hb;obtain⟨⟨c0,c1⟩,b0⟩:=hb;have b0:=BY b0;subst b0;have X:r≠TMP:=λe=>by subst e;simp at c0
      have b3:r≠EPO:=λe=>by subst e;simp at c1
      split at I
      ·rename_i y hy;split at I
       ·rename_i E1 e1 ys ba;simp only[BQ,CT]at I;obtain⟨rfl,rfl⟩:=I;have b4:=pM b1 Z;obtain⟨r',j',n',b5,g,bl,b6,a6,cc,cu,O⟩:=b4.at_ i _ off rfl;simp only[Ct,CT,and_true]at b5;obtain⟨rfl,rfl,rfl⟩:=b5;have a1:(st r).ls[j]?=some (.own M none R J z):=by
         rw[CV]at hg;cases H:(st r).ls[j]? with
         |none=>rw[H]at hg;simp at hg
         |some l0=>rw[H]at hg;simp at hg;rw[hg]
        have a2:=h.leaf r j _ _ a1 a6;have a2:Ow w (gd V W M) R J z _ (W.bs r j):=a2;have b9:bl=z.length:=by
         obtain⟨A,cb,e0,_⟩:=a2.slice;simp only[CP]at e0;exact e0.2.1
        subst b9;obtain⟨u,bn,bs',g1,g2,g3,g4⟩:=a2.out hy ba;have hu:u=v:=by
         have:=g3 g b6 rfl;rw[this]at O;exact Option.some.inj O
        subst hu;have c5:=bt.1 a2.1;have b2:∀ k∈bs',k∈W.bs r j:=λk hk=>B3.1 (by have:=g4 k;have:=B3.2 hk;omega)
        have a3:∀ k∈bn,k∈W.bs r j/\k∉bs':=λk hk=>by
         have h5:=g4 k;have h6:=B3.2 hk;have h7:=c5 k;refine⟨B3.1 (by omega),λbx=>?_⟩;have:=B3.2 bx;omega
        have a0:∀ k∈W.bs r j,vq V W st r j k:=λk hk=>by
         have h9:=h.ownb r j _ a1 trivial k hk;exact⟨h9.1,h9.2.1,h9.2.2,λr1 i1 l1 ad a4 a5 Y=>a5 (by obtain⟨e1,e2⟩:=h.sep r1 i1 l1 r j _ ad a4 a1 trivial k Y hk;rw[e1,e2])⟩
        have hR:x7 st (ac [(r,⟨(st r).ver,(st r).sh,aS (st r).ls j (.own M (some (i,off)) R J z)⟩)] (ac [(EPO,bV (st EPO))] st)) r j (.own M (some (i,off)) R J z):=by
         refine⟨λq=>?_,λq=>?_,?_,λq=>?_,λl Z=>?_,λq i' l H Z=>?_⟩
         ·rcases am r q ⟨(st r).ver,(st r).sh,aS (st r).ls j (.own M (some (i,off)) R J z)⟩ (ac [(EPO,bV (st EPO))] st) with ⟨rfl,e⟩|⟨_,e⟩
          ·rw[e]
          ·rw[e];rcases am EPO q (bV (st EPO)) st with ⟨rfl,e⟩|⟨_,e⟩ <;> rw[e];rfl
         ·rcases am r q ⟨(st r).ver,(st r).sh,aS (st r).ls j (.own M (some (i,off)) R J z)⟩ (ac [(EPO,bV (st EPO))] st) with ⟨rfl,e⟩|⟨_,e⟩
          ·rw[e];exact CD _
          ·rw[e];rcases am EPO q (bV (st EPO)) st with ⟨rfl,e⟩|⟨_,e⟩ <;> rw[e]
           ·exact Df _
           ·exact CD _
         ·rw[aH (Cg b3),bk];exact B5 _
         ·rcases am r q ⟨(st r).ver,(st r).sh,aS (st r).ls j (.own M (some (i,off)) R J z)⟩ (ac [(EPO,bV (st EPO))] st) with ⟨rfl,e⟩|⟨_,e⟩
          ·rw[e];simp[aS]
          ·rw[e];rcases am EPO q (bV (st EPO)) st with ⟨rfl,e⟩|⟨_,e⟩ <;> rw[e];rfl
         ·rw[bk]at Z;rcases aR _ _ _ _ _ Z with ⟨_,rfl,_⟩|⟨a5,_⟩
          ·rfl
          ·exact absurd rfl a5
         ·rcases am r q ⟨(st r).ver,(st r).sh,aS (st r).ls j (.own M (some (i,off)) R J z)⟩ (ac [(EPO,bV (st EPO))] st) with ⟨rfl,e⟩|⟨_,e⟩
          ·rw[e]at Z;rcases aR _ _ _ _ _ Z with ⟨rfl,_,_⟩|⟨_,Z⟩
           ·exact absurd rfl H
           ·exact Z
          ·rw[e]at Z;rcases am EPO q (bV (st EPO)) st with ⟨rfl,e⟩|⟨_,e⟩ <;> rw[e]at Z <;> exact Z
        have h1:=h.retell hV hR a1 trivial a6 trivial (bs':=bs') g1 (λk hk=>a0 k (b2 k hk)) (λ_ _ _=>rfl) (CD _) rfl rfl rfl;have bb:cH V W (W.tell r j bs') st (ac [(r,⟨(st r).ver,(st r).sh,aS (st r).ls j (.own M (some (i,off)) R J z)⟩)] (ac [(EPO,bV (st EPO))] st)) w w :=
         ⟨λq=>⟨hR.ver q,λ_=>rfl⟩,λb hb=>⟨(iF hR.sh b).2 hb,rfl⟩,λ_ h=>h,λ_ _=>rfl,λhe=>by have:=hR.epo;omega⟩
        have c4:(ac [(r,⟨(st r).ver,(st r).sh,aS (st r).ls j (.own M (some (i,off)) R J z)⟩)] (ac [(EPO,bV (st EPO))] st) TMP).ver=(st TMP).ver:=by
         rw[aH (Cg X),aH iZ.2.2]
        obtain⟨h2,c2⟩:=h1.putGhost hV TMP iZ.1 iZ.2.1 ((st TMP).ver+1) .one [.own (M&&J.shy) none E1 e1 ys] [u] (λ_=>bn) (by rw[c4];exact B5 _) rfl (λx hx=>by simp at hx;subst hx;exact g2.one)
         (λq l x H hx=>by
          cases q with
          |zero=>simp at H hx;subst H;subst hx;exact⟨g2.1,(OwB.shy g2.2).carry (bU (W':=W) (by intro hh;simp only[BS]at hh ⊢;exact⟨hh.1,ni ba hh.2⟩) (λ_ h=>h)) (λ_ _=>rfl) (λ_ _=>rfl)⟩
          |succ q=>simp at H)
         (λq l H _ k hk=>by
          obtain⟨q1,q2,q3,q4⟩:=a0 k (a3 k hk).1;refine⟨q1,q2,λb hb=>q3 b ((iF hR.sh b).1 hb),λr1 i1 l1 _ ad a4 Y=>?_⟩;by_cases H:(r1,i1)=(r,j)
          ·cases H;rw[show (W.tell r j bs').bs r j=bs' from if_pos rfl]at Y;exact (a3 k hk).2 Y
          ·rw[show (W.tell r j bs').bs r1 i1=W.bs r1 i1 from if_neg H]at Y;exact q4 r1 i1 l1 (hR.old r1 i1 l1 H ad) a4 H Y)
         (λq q' l l2 h1 h2 h3 h4 k h5 h6=>by
          have h7:q<1:=(BT.1 h1).1;have h8:q'<1:=(BT.1 h3).1;omega)
        have a9:ac [(r,⟨(st r).ver,(st r).sh,aS (st r).ls j (.own M (some (i,off)) R J z)⟩),(TMP,⟨(st TMP).ver+1,.one,[.own (M&&J.shy) none E1 e1 ys]⟩),(EPO,bV (st EPO))] st =
          ac [(TMP,⟨(st TMP).ver+1,.one,[.own (M&&J.shy) none E1 e1 ys]⟩)] (ac [(r,⟨(st r).ver,(st r).sh,aS (st r).ls j (.own M (some (i,off)) R J z)⟩)] (ac [(EPO,bV (st EPO))] st)):=by
         rw[aP r,aP TMP,nf X]
        rw[a9];refine⟨_,_,_,_,_,_,h2,bb.trans c2,rfl,⟨by rw[bk];exact CD _,λ_=>by simp⟩,by rw[bk],by rw[bk],rfl,rfl,λq H=>by simp[H,Wit.tell],by simp,λq=>?_,X,b3,i,off,M,R,J,z,g,b6,?_,?_,?_,O⟩
        ·by_cases H:q=TMP
         ·exact .inr H
         ·rw[aH H];exact .inl (hR.sh q)
        ·show (ac [(TMP,_)] _ r).ls[j]?=_;rw[aH X,bk];simp only[aS];rw[Cn (BT.1 a1).1]
        ·show (if r=TMP then _ else W.cs r)[j]?=_;rw[if_neg X];exact a6
        ·show g∈(if r=TMP then _ else (W.tell r j bs').bs r j);rw[if_neg X,show (W.tell r j bs').bs r j=bs' from if_pos rfl];obtain⟨_,c6,cw,_,q2,_⟩:=g1;rw[q2];simp[CL]
       ·cases I
      ·cases I
    ·cases I
   ·cases I
 |_=>simp[cn]at I
theorem hZ {R:Type}(l:Leaf)(J:Upd->Leaf->Option R):lS st l J=(cn st l).bind λu=>J u.1 u.2:=by
 cases l with
 |nal p O ep X E e Z =>
  simp only[lS,cn];cases bq st O ep with
  |false=>rfl
  |true =>
   simp only[cond_true];split
   ·rename_i r j n i M off;split
    ·rename_i p' Y I z _;cases !CC r TMP&&!CC r EPO&&CC M I.cells with
     |false=>rfl
     |true =>
      simp only[cond_true];have H:idx z (i:Int)=z[i]?:=by
       unfold idx;rw[if_neg (by omega)];simp
      rw[H];cases z[i]? with
      |none=>rfl
      |some y =>
       simp only[Option.bind_some];cases bd off I 0 y with
       |none=>rfl
       |some u=>rfl
    ·rfl
   ·rfl
 |_=>rfl
end
theorem rM {w:World}{α:Type}{s g:Nat}:∀ (J:List α) (o:Nat) (Q:Nat->α->List Value->Prop),(∀ j x c,Q j x c->c.length=s/\∀ u∈c,u.oneCell'=true)->(∀ (j:Nat) (x:α),J[j]?=some x->∃ c,Q j x c/\cY w g (o+j*s) c) ->
  ∃ r:List Value,r.length=J.length*s/\(∀ j u,r[j]?=some u->w.cell? ⟨g,o+j,none⟩=some u)/\(∀ u∈r,u.oneCell'=true) /\
   ∀ (j:Nat) (x:α),J[j]?=some x->∃ c,Q j x c/\∀ i u,c[i]?=some u->r[j*s+i]?=some u
 |[],o,_,_,_=>⟨[],by simp,by simp,by simp,by simp⟩
 |y::J,o,Q,hQ,h=>by
  obtain⟨c,hr,hc⟩:=h 0 y rfl;obtain⟨r,h1,h2,h3,h4⟩:=rM J (o+s) (λj=>Q (j+1)) (λj=>hQ (j+1)) (λj x z=>by
   obtain⟨Z,I,H⟩:=h (j+1) x (by simpa using z);refine⟨Z,I,?_⟩;rw[CS]at H;have:o+s+j*s=o+(j*s+s):=by omega
   rw[this];exact H)
  obtain⟨R,X⟩:=hQ 0 y c hr;refine⟨c++r,by rw[CA,h1,R,C4,CS];omega,?_,?_,?_⟩
  ·intro j u z;by_cases a0:j<c.length
   ·rw[BX a0]at z;have:=hc j u z
    rwa [DY,CW]at this
   ·rw[BW (by omega)]at z;have:=h2 (j-c.length) u z;have e1:o+s+(j-c.length)=o+j:=by omega
    rwa [e1]at this
  ·intro u M;rcases B4.1 M with M|M
   ·exact X u M
   ·exact h3 u M
  ·intro j x z;cases j with
   |zero =>
    simp at z;subst z;refine⟨c,hr,λi u O=>?_⟩;have Y:=(BT.1 O).1;rw[DY,Ch,BX Y];exact O
   |succ j =>
    obtain⟨Z,I,H⟩:=h4 j x (by simpa using z);refine⟨Z,I,λi u O=>?_⟩;rw[CS,BW (by omega)];rw[<- H i u O];congr 1;omega
theorem jS {P:Program}(g o:Nat)(t:TypeId)(mk:Nat×Nat):∀ (y:List Value) (i:Nat) (cur:Array Value) (w:World),w.heap[g]?=some (.cells cur t mk)->(mk.2=0\/cur.size<=mk.1)->o+i+y.length<=cur.size->(∀ v∈y,v.oneCell'=true) ->
  (storeCells ⟨g,o,none⟩ y i).run P w=.ok () (w.setRow g (cur.toList.take (o+i)++y++cur.toList.drop (o+i+y.length)).toArray)
 |[],i,cur,w,u,_,_,_=>by
  simp only[storeCells,CJ,Cr,CW,List.take_append_drop,CM];rw[setRow_self w g cur t mk u];rfl
 |v::r,i,cur,w,u,M,H,J=>by
  have O:o+i<cur.size:=by simp at H;omega
  have z:(⟨g,o,none⟩:Addr).add i=⟨g,o+i,none⟩:=by unfold Addr.add;split <;> simp_all
  have I:(store ((⟨g,o,none⟩:Addr).add i) v).run P w=.ok () (w.setRow g (cur.setIfInBounds (o+i) v)):=by
   rw[z,run_store P w _ v _ (J v (by simp)),cell_of_row w g _ cur t mk u,Array.getElem?_eq_getElem O];simp[rj u M O,setCell_eq_setRow w g (o+i) cur t mk v u]
  have X:=jS (P:=P) g o t mk r (i+1) (cur.setIfInBounds (o+i) v) (w.setRow g (cur.setIfInBounds (o+i) v)) (setRow_heap w g cur _ t _ u) (by simpa using M) (by simp at H ⊢;omega) (λx R=>J x (by simp[R]));simp only[storeCells,DT,I,Cx,X,setRow_setRow];congr 3;have e:=list_seg_step cur.toList (o+i) v r (by simp at H ⊢;omega);simpa[Array.toList_setIfInBounds,Ds]using e
theorem nj {P:Program}(w:World)(t ty e:TypeId)(i:TypeInfo)(R:P.underlying t=some (.slice e))(hi:P.info? e=some i)
  (g y z:Nat) (cur:Array Value) (mk:Nat×Nat) (Y:w.heap[g]?=some (.cells cur e mk)) (hm:mk.2=0\/cur.size<=mk.1)
  (a:Addr) (m c:Nat) (r:List Value) (X:r.length=m*i.size) (I:∀ j u,r[j]?=some u->w.cell? (a.add j)=some u) (O:∀ u∈r,u.oneCell'=true)
  (H:y+m<=z) (J:y*i.size+r.length<=cur.size) :
  (CR #[t,t] ty #[.slice (some ⟨g,0,none⟩) y z,.slice (some a) m c]).run P w =
   .ok (.slice (some ⟨g,0,none⟩) (y+m) z) (w.setRow g (cur.toList.take (y*i.size)++r++cur.toList.drop (y*i.size+r.length)).toArray):=by
 have Z:=run_firstCells_some (P:=P) w i.size m a m c r X I;have M:=jS (P:=P) g (y*i.size) e mk r 0 cur w Y hm (by simpa using J) O;simp only[CW]at M;simp[CR,run_underlying R,sizeOf,typeInfo,hi,C0,H,Z,Addr.add_lit,M]
theorem cg {P:Program}(w:World)(t ty e:TypeId)(i:TypeInfo)(z:Value)(size Z:Nat)(ht:P.underlying t=some (.slice e))(hi:P.info? e=some i)(hz:i.zero=some z)
  (a4:i.size=size) (b4:i.bytes=Z) (b3:z.cells.size=size)
  (v:Value) (n:Nat) (xs:List Value) (y:Row w e size v n xs)
  (a:Addr) (m c:Nat) (r:List Value) (hl:r.length=m*size) (J:∀ j u,r[j]?=some u->w.cell? (a.add j)=some u) (h1:∀ u∈r,u.oneCell'=true)
  (b0:n+m<=maxLen) (M:(n+m)*Z<=140737488355328) :
  ∃ v' w',(CR #[t,t] ty #[v,.slice (some a) m c]).run P w=.ok v' w'/\Row w' e size v' (n+m) (xs++r)/\w.grownBy w' v.ownBlock/\(v'.ownBlock=v.ownBlock\/v'.ownBlock=some w.heap.size):=by
 subst a4;subst b4;have b1:n+m<=9223372036854775807:=by simp only[maxLen]at b0;omega
 have O:(xs++r).length=(n+m)*i.size:=by rw[CA,y.1,hl,Cy]
 have a0:∀ (H:Nat),H<n+m->∀ (ad:Option Nat),
   Row (w.drew.alloc (.cells (xs.toArray++r.toArray++DZ z.cells (grownCap w (n+m) H e-(n+m))) e)) e i.size
    (.slice (some ⟨w.heap.size,0,none⟩) (n+m) (grownCap w (n+m) H e)) (n+m) (xs++r) /\
   w.grownBy (w.drew.alloc (.cells (xs.toArray++r.toArray++DZ z.cells (grownCap w (n+m) H e-(n+m))) e)) ad:=by
  intro H ho ad;have b2:=grownCap_ge w (n+m) H e;have a1:grownCap w (n+m) H e<=maxLen:=grownCap_le_maxLen w (n+m) H e b0;refine⟨⟨O,.inr ⟨w.heap.size,_,_,_,rfl,heap_alloc_new w.drew _,b2,.inl ⟨rfl,a1⟩,?_,?_⟩⟩,⟨rfl,rfl,rfl,by simp,λk hk _=>Go.heap_alloc_old w.drew _ hk⟩⟩
  ·simp only[DU,Cm,size_zeroCells,b3,y.1,hl,<- Cy];exact B6 _ (by omega)
  ·simp only[DM,B9];rw[<- B9,<- O];exact Dq
 rcases y.2 with ⟨rfl,rfl⟩|⟨g,X,Y,mk,rfl,hg,b5,a1,a9,a5⟩
 ·have hx:xs=[]:=CE (by simpa using y.1);subst hx;by_cases hm:m=0
  ·subst hm;have hn:r=[]:=CE (by simpa using hl);subst hn;refine⟨.slice none 0 0,w,?_,Row.nil w e i.size,⟨rfl,rfl,rfl,CD _,λ_ _ _=>rfl⟩,.inl rfl⟩;simp[CR,run_underlying ht,sizeOf,typeInfo,hi,C0,Cw,loadCells,loadCellsFrom]
  ·have hr:=run_append_nil (P:=P) w t ty e i z ht hi hz a m c r hl J (by omega) (by omega) (by have hb:=M;simp only[Ch]at hb;omega);have R:=a0 0 (by omega) (CL (.slice none 0 0));simp only[Ch,Dn,Array.empty_append]at R ⊢;exact⟨_,_,hr,R.1,R.2,.inr rfl⟩
 ·by_cases I:n+m<=X
  ·have a6:n*i.size+r.length<=Y.size:=by rw[hl,<- Cy];exact CY (B6 _ I) a9
   have hr:=nj (P:=P) w t ty e i ht hi g n X Y mk hg (zI a1) a m c r hl J h1 I a6;have a2:(Y.toList.take (n*i.size)++r++Y.toList.drop (n*i.size+r.length)).toArray.size=Y.size:=by
    simp only[Cm,CA,CK,C3,CQ];omega
   refine⟨_,_,hr,⟨O,.inr ⟨g,X,_,mk,rfl,setRow_heap w g Y _ e _ hg,I,a1.imp id (λh=>⟨h.1,?_⟩),?_,?_⟩⟩,⟨rfl,rfl,rfl,by simp,λk _ hk=>setRow_other w g k _ (λe=>hk (by simp[CL,e]))⟩,.inl rfl⟩
   ·rw[a2];exact h.2
   ·rw[a2];exact a9
   ·rw[a5,<- O];exact Dq
  ·have a3:∀ j u,xs[j]?=some u->w.cell? ((⟨g,0,none⟩:Addr).add j)=some u:=λj u hj=>by
    rw[e8,Ch,y.cellAt _ (by rw[<- y.1];exact (BT.1 hj).1)];exact hj
   have hr:=run_append_grow (P:=P) w t ty e i z ht hi hz ⟨g,0,none⟩ n X xs y.1 a3 a m c r hl J (by omega) (by omega) (growslice_fits (by omega) M);have R:=a0 X (by omega) (CL (.slice (some ⟨g,0,none⟩) n X));exact⟨_,_,hr,R.1,R.2,.inr rfl⟩
theorem nk {P:Program}(w:World)(t ty e:TypeId)(i:TypeInfo)(size c:Nat)(y:P.underlying t=some (.slice e))(z:P.info? e=some i)
  (v:Value) (n:Nat) (xs:List Value) (r:Row w e size v n xs) :
  (CR #[t,t] ty #[v,.slice none 0 c]).run P w=.ok v w:=by
 rcases r.2 with ⟨rfl,rfl⟩|⟨g,H,I,_,rfl,_,u,_⟩
 ·simp[CR,run_underlying y,sizeOf,typeInfo,z,C0,Cw]
 ·simp[CR,run_underlying y,sizeOf,typeInfo,z,C0,Cw,u,storeCells]
theorem ji {α:Type}{f g:α->List Nat}:∀ {l:List α},(∀ x∈l,f x=g x)->l.flatMap f=l.flatMap g
 |[],_=>rfl
 |x::l,h=>by rw[Ce,Ce,h x (CF ..),ji (λy r=>h y (B8 _ r))]
theorem zo (n m:Nat)(f g:Nat->List Nat):(B7 (n+m)).flatMap (λj=>if j<n then f j else g (j-n))=(B7 n).flatMap f++(B7 m).flatMap g:=by
 rw[List.range_add,List.flatMap_append,Db];congr 1
 ·refine ji λj r=>?_
  rw[if_pos (DH.1 r)]
 ·refine ji λj _=>?_
  rw[if_neg (by omega),show n+j-n=j by omega]
def wB (w:World)(G:Nat->Prop)(e:Ty)(y:List e.den)(u:Value)(z:Nat->List Nat):Prop :=
 ∃ A r,u=.slice A y.length r/\(0<y.length->∃ g o,A=some ⟨g,o,none⟩/\∀ j (x:e.den),y[j]?=some x->∃ c,Mx w G e none 0 x c (z j)/\cY w g (o+j*e.cells) c)
section
variable {P:Program} {V:Env} {Γ:List Ctr} {T:TypeId->TI} {st:St} {o:Oper} {R:Type} {κ:Upd->Option R} {r:R}
theorem wC {w:World}{t ty E:TypeId}{e e':Ty}{I:Nat}(bx:oV P t (.slice E e I))(b6:e'.cells=e.cells){G G2 G':Nat->Prop}{xs H:List e'.den}{v u:Value}{bs:List Nat}{O:Nat->List Nat}(hx:Ow w G E e' xs v bs)
  (hy:wB w G2 e' H u O) (b5:(xs.length+H.length)*I<=an) (hG:∀ k,G k->G' k) (b2:∀ k,G2 k->G' k) (a9:∀ k,G' k->k<w.heap.size/\v.ownBlock≠some k) (bn:∀ j,j<H.length->∀ k∈O j,v.ownBlock≠some k) :
  ∃ v' M J,(CR #[t,t] ty #[v,u]).run P w=.ok v' M/\w.grownBy M v.ownBlock/\OwB M G' none E e' (xs++H) v' J /\
   ∀ k,J.count k<=bs.count k+(((B7 H.length).flatMap O)++[w.heap.size]).count k:=by
 obtain⟨hu,_,_,cb,c4,ti,z,hi,hs,hb,hz,c2⟩:=bx;obtain⟨c3,X,a5,ho,b4,ba⟩:=hx;obtain⟨A,b3,c5,b1⟩:=hy;subst c5;have bb:ti.size=e'.cells:=by rw[b6];exact hs
 have a3:∀ (M:World),w.grownBy M v.ownBlock->∀ k,G' k->M.heap[k]?=w.heap[k]?:=λM Z k Y=>Z.block k (a9 k Y).1 (Cg (a9 k Y).2)
 have c1:xs.length+H.length<=maxLen:=by
  have h1:(xs.length+H.length)*1<=(xs.length+H.length)*I:=Cu _ c4.1;have:=mw;simp only[an]at b5;omega
 have b0:∀ (y:List Value),(∀ (j:Nat) (x:e'.den),H[j]?=some x->∃ c,Mx w G2 e' none 0 x c (O j)/\∀ i u,c[i]?=some u->y[j*e'.cells+i]?=some u) ->
   ∀ v' M,Row M E e'.cells v' (xs.length+H.length) (X++y)->w.grownBy M v.ownBlock->(v'.ownBlock=v.ownBlock\/v'.ownBlock=some w.heap.size) ->
    ∃ J,OwB M G' none E e' (xs++H) v' J/\∀ k,J.count k<=bs.count k+(((B7 H.length).flatMap O)++[w.heap.size]).count k:=by
  intro y hn v' M a4 Z a6;refine⟨v'.ownBlock.toList++(B7 (xs.length+H.length)).flatMap (λj=>if j<xs.length then a5 j else O (j-xs.length)),⟨X++y,_,by rw[CA];exact a4,by rw[CA],λj x hj=>?_⟩,λk=>?_⟩
  ·by_cases a2:j<xs.length
   ·rw[BX a2]at hj;obtain⟨c,hr,hc⟩:=ba j x hj;have hr:Mx w G e' none 0 x c (a5 j):=hr;refine⟨c,?_,λi u hi=>?_⟩
    ·rw[if_pos a2];refine hr.carry hG (λk Y=>a3 M Z k (hG k Y)) λk Y=>Z.block k (hr.lt k Y) (λe0=>?_)
     have h5:=bt.1 c3 k;rw[b4,<- e0,BV]at h5;have h6:0<((B7 xs.length).flatMap a5).count k:=B3.2 (dX.2 ⟨j,a2,Y⟩);simp at h5;omega
    ·have:=hc i u hi;rw[BX (BT.1 this).1];exact this
   ·rw[BW (by omega)]at hj;obtain⟨c,hr,hc⟩:=hn _ x hj;have c0:=(BT.1 hj).1;refine⟨c,?_,λi u hi=>?_⟩
    ·rw[if_neg a2];exact hr.carry b2 (λk Y=>a3 M Z k (b2 k Y)) λk Y=>Z.block k (hr.lt k Y) (Cg (bn _ c0 k Y))
    ·have:=hc i u hi;have b9:=ho.1;have cc:xs.length*e'.cells<=j*e'.cells:=B6 _ (Nat.le_of_not_lt a2);rw[BW (by omega),<- this,b9,Nat.sub_mul];congr 1;omega
  ·rw[zo,b4];simp only[BV];rcases a6 with h5|h5
   ·rw[h5];omega
   ·rw[h5];simp only[DP];omega
 cases A with
 |none =>
  have a0:H.length=0:=by
   rcases DQ H.length with h|h
   ·exact h
   ·obtain⟨g,o,hA,_⟩:=b1 h;cases hA
  have a0:=CE a0;subst a0;have a1:=nk (P:=P) w t ty E ti e'.cells b3 hu hi v xs.length X ho;have Z:w.grownBy w v.ownBlock:=⟨rfl,rfl,rfl,CD _,λ_ _ _=>rfl⟩;obtain⟨J,h1,h2⟩:=b0 [] (by simp) v w (by simpa using ho) Z (.inl rfl);exact⟨v,w,J,a1,Z,h1,h2⟩
 |some ad =>
  have c6:∃ y:List Value,y.length=H.length*e'.cells/\(∀ j u,y[j]?=some u->w.cell? (ad.add j)=some u)/\(∀ u∈y,u.oneCell'=true) /\
    ∀ (j:Nat) (x:e'.den),H[j]?=some x->∃ c,Mx w G2 e' none 0 x c (O j)/\∀ i u,c[i]?=some u->y[j*e'.cells+i]?=some u:=by
   rcases DQ H.length with h|h
   ·have a0:=CE h;subst a0;exact⟨[],by simp,by simp,by simp,by simp⟩
   ·obtain⟨g,o,hA,he⟩:=b1 h;simp at hA;subst hA;obtain⟨y,h1,h2,h3,h4⟩:=rM H o (λj x c=>Mx w G2 e' none 0 x c (O j)) (λj x c hq=>⟨hq.len,hq.one⟩) he;exact⟨y,h1,λj u hj=>by rw[e8];exact h2 j u hj,h3,h4⟩
  obtain⟨y,h1,h2,h3,h4⟩:=c6;have bl:z.cells.size=e'.cells:=by
   have h2:=(lL w (λ_=>False) e).len;rw[<- CQ,c2,h2,b6]
  obtain⟨v',M,a1,a4,Z,a6⟩:=cg (P:=P) w t ty E ti z e'.cells I hu hi hz bb hb bl v xs.length X ho ad H.length b3 y h1 h2 h3 c1 (by simpa[an]using b5);obtain⟨J,h5,h6⟩:=b0 y h4 v' M a4 Z a6;exact⟨v',M,J,a1,Z,h5,h6⟩
theorem wD {W:Wit}{a:Act}{w:World}(h:ap P V W st a w){E:TypeId}{e:Ty}{y:Leaf}{u:Value}{t:cO (List e.den)}(hl:aC P V W st w [y] [u])(H:fU st E e y=some t) :
  (∃ I,wB w (bo V W t.p t.frz) e t.val u I/\∀ k,((B7 t.val.length).flatMap I).count k<=(aY W t.kill).count k)/\(∀ x∈t.frz,aB st x)/\(∀ x∈t.kill,aB st x):=by
 have z:∀ {p q:Bool} {O:List e.den} {ks:List (Nat×Nat)},dl e (aD st y)=some (p,O)->(∀ (S:Nat->Prop) (x:e.den) (c:List Value),Rd w (bo V W p (bw st [y])) e x c->Mx w (bo V W q ks) e none 0 x c []) ->
   ∃ I,wB w (bo V W q ks) e O u I/\∀ k,((B7 O.length).flatMap I).count k<=(aY W []).count k:=by
  intro p q O ks Y hm;obtain⟨A,M,hu,_,hx⟩:=kE (m:=false) (E:=E) h hl.1.1 hl.1.2.1 Y;have hu:u=.slice A O.length M:=by simpa using hu
  refine⟨(λ_=>[]:Nat->List Nat),⟨A,M,hu,λhp=>?_⟩,λk=>by rw[show ((B7 O.length).flatMap λ_=>([]:List Nat))=[] from by simp];exact Dg _⟩;obtain⟨g,o',hA,_,a0⟩:=hx hp;exact⟨g,o',hA,λj x hj=>by
   obtain⟨c,Z,hc⟩:=a0 j x hj;exact⟨c,hm (λ_=>True) x c Z,hc⟩⟩
 unfold fU at H;cases hf:e.flat with
 |true =>
  rw[hf]at H;simp only[cond_true,BR]at H;obtain⟨⟨p,O⟩,Y,rfl⟩:=H;exact⟨z Y (λ_ x c Z=>Mx.flat hf Z),by simp,by simp⟩
 |false =>
  rw[hf]at H;simp only[cond_false]at H;cases hs:decide (e.sh=e) with
  |true =>
   rw[hs]at H;simp only[cond_true,BR]at H;obtain⟨⟨p,O⟩,Y,rfl⟩:=H;exact⟨z Y (λ_ x c Z=>Mx.shared (of_decide_eq_true hs) Z),λx hx=>eo hl hx,by simp⟩
  |false =>
   rw[hs]at H;simp only[cond_false,BR]at H;obtain⟨J,Y,rfl⟩:=H;obtain⟨h1,h2,h3⟩:=dP (pos:=0) h hl Y;have h1:Mx w (bo V W J.p J.frz) (.list true E e) none 0 J.val [u] (aY W J.kill):=h1;rw[bJ (by simp)]at h1;obtain⟨v,hv,a1,X,h4,h5,h6⟩:=h1;simp only[Ct,and_true]at hv;subst hv;refine⟨⟨X,?_,λk=>?_⟩,h2,h3⟩
   ·rcases h4.2 with ⟨hn,h0⟩|⟨g,M,a3,_,hv,hg,a2,_⟩
    ·exact⟨none,0,by rw[hn];show _=Value.slice none (Di J.val) 0;rw[h0],λhp=>by have hp:0<Di J.val:=hp;omega⟩
    ·refine⟨some ⟨g,0,none⟩,M,hv,λhp=>⟨g,0,rfl,λj x hj=>?_⟩⟩;obtain⟨c,h7,h8⟩:=h6 j x hj;have h7:Mx w (bo V W J.p J.frz) e none 0 x c (X j):=h7;refine⟨c,h7,λi u hi=>?_⟩;have h9:=h8 i u hi;rw[Ch];rw[hv]at h4;rw[h4.cellAt _ (by rw[<- h4.1];exact (BT.1 h9).1)];exact h9
   ·show ((B7 (Di J.val)).flatMap X).count k<=(aY W J.kill).count k;rw[h5,BV];omega
theorem AK {l l':Leaf}{U:Upd}(u:cn st l=some (U,l')):∃ n,l'=.al TMP 0 n:=by
 cases l with
 |nal p M ep O E e xs =>
  simp only[cn]at u;cases y:bq st M ep with
  |false=>simp[y]at u
  |true =>
   rw[y]at u;simp only[cond_true]at u;split at u
   ·rename_i r j X i I off;split at u
    ·rename_i p' Y J H Z;cases z:!CC r TMP&&!CC r EPO&&CC I J.cells with
     |false=>simp[z]at u
     |true =>
      rw[z]at u;simp only[cond_true]at u;split at u
      ·split at u
       ·simp only[BQ,CT]at u;exact⟨_,u.2.symm⟩
       ·cases u
      ·cases u
    ·cases u
   ·cases u
 |_=>simp[cn]at u
theorem wE (hV:ay V)(hT:TOk P T)(cc:bN V o){c:Call}(c4:o.op=.call c)(hc:c.callee=.builtin .append)(h:act Γ T o st κ=some r):bW P V o st κ r:=by
  simp only[act,wrU,c4,hc]at h;split at h
  · cases h
  · rename_i d hd
    split at h
    · rename_i x y t u a4 b0
      split at h
      · rename_i E e a1 ht
        cases a9:CC t u with
        |false=>simp[a9]at h
        |true =>
          simp only[a9,cond_true]at h;have a9:=BY a9;subst a9;have c2:=hT t;rw[ht]at c2;have a4:c.args=#[x,y]:=by rw[<- CM (xs:=c.args),a4]
          have b0:c.argTypes=#[t,t]:=by rw[<- CM (xs:=c.argTypes),b0]
          have bb:∀ (a:Act) (w w':World) (v:Value),(CR #[t,t] o.type #[a.eval x,a.eval y]).run P w=.ok v w'->(execOp a.eval o).run P w=.ok (.value v) w':=by
            intro a w w' v Z;simp[execOp,c4,hc,resolve,invoke,builtin,a4,b0,Z]
          have b6:∀ (I:Upd) (E':TypeId) (e':Ty) (p:Bool) (xs:List e'.den) (ks:List (Nat×Nat)),E'=E->e'.sh=e.sh->dW st (ac I st) I d E' e' a1 p xs ks (one st y) κ=some r ->
              ∃ U,κ U=some r/\∀ (Y:Wit) (a:Act) (w:World),ap P V Y (ac I st) a w->aC P V Y (ac I st) w [one st y] [a.eval y]->(∀ x∈ks,aB (ac I st) x)->Ow w (gd V Y p) E' e' xs (a.eval x) (aY Y ks)->mP P V o st U a w:=by
            intro I E' e' p xs ks hE he M;subst hE;unfold dW at M;split at M
            · rename_i t1 cx
              cases X:aZ (t1.kill++ks)&&dF t1.frz (t1.kill++ks)&&decide ((xs.length+t1.val.length)*a1<=an) with
              |false=>simp[X]at M
              |true =>
                simp only[X,cond_true]at M;simp only[BS,decide_eq_true_eq]at X;obtain⟨⟨cu,cw⟩,bn⟩:=X;refine⟨_,M,λY a w Z a3 d1 c1 next Q hn=>?_⟩;obtain⟨⟨c5,cy,b4⟩,hf,d2⟩:=wD Z a3 cx;have cb:∀ x∈t1.kill++ks,aB (ac I st) x:=λx hx=>(B4.1 hx).elim (d2 x) (d1 x)
                obtain⟨h1,_,_,h4⟩:=fJ hV Z cw cb;have bl:=gT Z cu cb;rw[dK]at bl h4;have O:∀ k∈aY Y t1.kill++aY Y ks,¬ cf V (Y.frz (ac I st) t1.frz) _ k:=λk H=>mv ⟨(h4 k H).1,(h4 k H).2.1,(h4 k H).2.2.2.1,(h4 k H).2.2.2.2⟩
                rw[CX]at bl;obtain⟨c0,bx,b5⟩:=bl;have b9:∀ k,(a.eval x).ownBlock=some k->k∈aY Y ks:=by
                  intro k H;obtain⟨_,dc,e3,_,bn,_⟩:=c1;rw[bn,H];simp
                have c6:∀ k,gd V (Y.frz (ac I st) t1.frz) (p||t1.p) k->cf V (Y.frz (ac I st) t1.frz) (ac (aM (ac (aE (ac I st) t1.frz) (ac I st)) (t1.kill++ks)++aE (ac I st) t1.frz) (ac I st)) k:=by
                  rintro k (H|⟨_,H⟩)
                  · exact .inl H
                  · exact .inr (.inl (hV.ro k H))
                have a5:∀ k∈(B7 t1.val.length).flatMap c5,k∈aY Y t1.kill:=λk H=>B3.1 (by have:=b4 k;have:=B3.2 H;omega)
                obtain⟨v',w',dd,c3,hg,cp,ba⟩:=wC (P:=P) (t:=t) (ty:=o.type) c2 (ik he) c1 cy bn (G':=gd V (Y.frz (ac I st) t1.frz) (p||t1.p))
                  (bU (W':=Y.frz (ac I st) t1.frz) (by intro h;simp[h]) (λ_ h=>Or.inl h))
                  (λk H=>bU (W':=Y.frz (ac I st) t1.frz) (by intro h;simp[h]) (λ_ h=>h) k (km hf k H))
                  (λk H=>⟨h1.used_lt k (c6 k H),λe1=>O k (BU _ (b9 k e1)) (c6 k H)⟩)
                  (λj hj k H e1=>b5 k (a5 k (dX.2 ⟨j,hj,H⟩)) k (b9 k e1) rfl)
                have b3:=nh (bs:=aY Y ks) (K:=(B7 t1.val.length).flatMap c5++[w.heap.size]) bx
                  (bt.2 λk=>by
                    rw[BV];have h5:=b4 k;have h6:=bt.1 c0 k;by_cases H:k=w.heap.size
                    · subst H
                      have:(aY Y t1.kill).count w.heap.size=0:=CI.2 (λhm=>by have:=(h4 _ (BZ _ hm)).2.2.1;omega);simp;omega
                    · have:List.count k [w.heap.size]=0:=CI.2 (by simp[H])
                      omega)
                  (λk H hm=>by
                    rcases B4.1 H with H|H
                    · exact b5 k (a5 k H) k hm rfl
                    · simp at H
                      subst H;have:=(h4 _ (BU _ hm)).2.2.1;omega) ba
                refine dY (bb a w w' v' c3) ?_;rw[hd];refine hn _ _ ?_;rw[cm,aP,bA];refine h1.putOwn hV hg.size hg.os hg.tape hg.output (λk H=>hg.block k (h1.used_lt k H) (λe1=>O k (BU _ (b9 k e1.symm)) H)) d (cc d hd).1 (cc d hd).2 _ (B5 _) ⟨b3.1,cp⟩ (λk H hu=>?_);rcases b3.2 k H with H|H
                · exact O k (BU _ H) hu
                · rcases B4.1 H with H|H
                  · exact O k (BZ _ (a5 k H)) hu
                  · simp at H
                    have:=h1.used_lt k hu;omega
            · cases M
          have a0:∀ (I:Upd) (x':Leaf),ew st I d E e a1 x' (one st y) κ=some r->one st y≠.dead:=by
            intro I x' h e1;rw[e1]at h;unfold ew at h;split at h
            · split at h
              · rename_i p E' e' b2 b1
                cases X:CC E' E&&decide (e'.sh=e.sh) with
                |false=>simp[X]at h
                |true =>
                  simp only[X,cond_true,dW,fU,aD,dl,DC,cj,take]at h;cases e'.flat <;> cases decide (e'.sh=e') <;> simp at h
              · cases h
            · simp only[dW,fU,aD,dl,DC,cj,take]at h
              cases e.flat <;> cases decide (e.sh=e) <;> simp at h
            · cases h
          simp only[iB]at h;cases hn:jp (one st x) with
          |true =>
            rw[hn]at h;simp only[cond_true]at h;rw[hZ]at h;obtain⟨⟨I,x'⟩,ad,h⟩:=CN.1 h;have a0:=a0 _ _ h;simp only[ew]at h;split at h
            · rename_i r' j n
              split at h
              · rename_i p' E' e' b2 b1
                cases X:CC E' E&&decide (e'.sh=e.sh) with
                |false=>simp[X]at h
                |true =>
                  simp only[X,cond_true]at h;simp only[BS,decide_eq_true_eq]at X;obtain⟨U,hU,hg⟩:=b6 I E' e' p' b2 [(r',j)] (BY X.1) X.2 h;refine⟨U,hU,λW a w Z=>?_⟩;obtain⟨a2,_,_,_,_⟩:=br Z x (by intro e1;rw[e1]at hn;simp[jp]at hn);obtain⟨Y,n0,p0,E0,e0,e2,g1,g2,g3,g4,_⟩:=vr hV Z a2 ad;obtain⟨a3,J,a6,_,_⟩:=br Z y a0;obtain⟨h5,h6,h7,h8⟩:=kk g1 b1 g4;exact hg Y a w g1 ⟨⟨a3.carry hV.ro g2 (λho=>absurd ho J),J,a6⟩,trivial⟩ (λz hz=>by simp at hz;subst hz;exact⟨_,h7,trivial⟩) (by simpa[aY]using h6)
              · cases h
            · exfalso
              obtain⟨n,d3⟩:=AK ad;cases d3
            · cases h
          |false =>
            rw[hn]at h;simp only[cond_false]at h;have a0:=a0 _ _ h;simp only[ew]at h;split at h
            · rename_i r' j n hx
              split at h
              · rename_i p' E' e' b2 b1
                cases X:CC E' E&&decide (e'.sh=e.sh) with
                |false=>simp[X]at h
                |true =>
                  simp only[X,cond_true]at h;simp only[BS,decide_eq_true_eq]at X;obtain⟨U,hU,hg⟩:=b6 [] E' e' p' b2 [(r',j)] (BY X.1) X.2 h;refine⟨U,hU,λW a w Z=>?_⟩;obtain⟨a2,_,_,_,_⟩:=br Z x (by rw[hx];simp);rw[hx]at a2;obtain⟨a3,J,a6,_,_⟩:=br Z y a0;obtain⟨h5,h6,h7,h8⟩:=kk Z b1 a2;exact hg W a w Z ⟨⟨a3,J,a6⟩,trivial⟩ (λz hz=>by simp at hz;subst hz;exact⟨_,h7,trivial⟩) (by simpa[aY]using h6)
              · cases h
            · rename_i hx
              obtain⟨U,hU,hg⟩:=b6 [] E e false [] [] rfl rfl h;refine⟨U,hU,λW a w Z=>?_⟩;obtain⟨a2,_,_,_,_⟩:=br Z x (by rw[hx];simp);rw[hx]at a2;obtain⟨a3,J,a6,_,_⟩:=br Z y a0;exact hg W a w Z ⟨⟨a3,J,a6⟩,trivial⟩ (by simp) (by rw[show a.eval x=_ from a2];exact OwH.nil w _ E e)
            · cases h
      · cases h
    · cases h
end
def gU (w:World)(ro pr:Nat->Prop)(r:Bool)(a:Ty)(x:a.den)(v:Value):Prop :=
 if r=true then ∃ b u g o c,v=.pointer (some ⟨b,u,none⟩)/\pr b/\w.cell? ⟨b,u,none⟩=some (.pointer (some ⟨g,o,none⟩))/\pr g/\Rd w ro a x c/\cY w g o c
 else ∃ g o c,v=.pointer (some ⟨g,o,none⟩)/\pr g/\Rd w ro a x c/\cY w g o c
def jG (w:World)(ro pr:Nat->Prop):(cs:List (Bool×Ty))->lQ cs->List Value->Prop
 |[],_,y=>y=[]
 |c::cs,x,y=>∃ u r,y=u::r/\gU w ro pr c.1 c.2 x.1 u/\jG w ro pr cs x.2 r
def oc (P:Program)(w:World)(ro pr:Nat->Prop):(pk:PK)->pk.den->Value->List Nat->Prop
 |.rd a,x,v,r=>r=[]/\∃ y,di a.isAgg v y/\Rd w ro a x y
 |.own a,x,v,r=>∃ y,di a.isAgg v y/\Mx w ro a none 0 x y r
 |.io a,x,v,r=>∃ y,di a.isAgg v y/\Mx w ro a none 0 x y r
 |.rref a,x,v,r=>r=[]/\gU w ro pr false a x v
 |.rref2 a,x,v,r=>r=[]/\gU w ro pr true a x v
 |.iop a,x,v,r=>∃ g c E z,v=.pointer (some ⟨g,0,none⟩)/\w.heap[g]?=some (.cells c.toArray E (0,0))/\Mx w ro a none 0 x c z/\r=g::z
 |.fn M B,O,v,r=>r=[]/\il P w pr M B O v
 |.clo f y,x,v,r=>r=[]/\∃ I:List Value,v=.func (.func f) #[] I.toArray/\jG w ro pr y x I
 |.hol a c off,x,v,r=>∃ y u z H E e J,di a.isAgg v y/\Mx w ro a (some c) 0 x.1 y z/\y[c]?=some u/\bd c a 0 x.1=some ⟨E,e,J⟩/\OwB w ro (some (x.2,off)) E e J u H/\∀ k,r.count k=z.count k+H.count k
def dg (P:Program)(w:World)(ro pr:Nat->Prop):(ps:List PK)->ab ps->List Value->List (List Nat)->Prop
 |[],_,z,u=>z=[]/\u=[]
 |p::ps,x,z,u=>∃ v y b r,z=v::y/\u=b::r/\oc P w ro pr p x.1 v b/\dg P w ro pr ps x.2 y r
def ju (w:World)(G:Nat->Prop)(a:Ty)(x:a.den)(ptr:Bool)(v:Value)(bs:List Nat):Prop :=
 if ptr=true then ∃ g c E r,v=.pointer (some ⟨g,0,none⟩)/\w.heap[g]?=some (.cells c.toArray E (0,0))/\Mx w G a none 0 x c r/\bs=g::r
 else ∃ u,di a.isAgg v u/\Mx w G a none 0 x u bs
def bL (w:World)(G:Nat->Prop):(ps:List PK)->ai ps->List Value->List (List Nat)->Prop
 |.io a::ps,o,v::r,b::u=>ju w G a o.1 false v b/\bL w G ps o.2 r u
 |.iop a::ps,o,v::r,b::u=>ju w G a o.1 true v b/\bL w G ps o.2 r u
 |.rd _::ps,o,_::r,b::u=>b=[]/\bL w G ps o r u
 |.own _::ps,o,_::r,b::u=>b=[]/\bL w G ps o r u
 |.rref _::ps,o,_::r,b::u=>b=[]/\bL w G ps o r u
 |.rref2 _::ps,o,_::r,b::u=>b=[]/\bL w G ps o r u
 |.fn _ _::ps,o,_::r,b::u=>b=[]/\bL w G ps o r u
 |.clo _ _::ps,o,_::r,b::u=>b=[]/\bL w G ps o r u
 |.hol _ _ _::ps,o,_::r,b::u=>b=[]/\bL w G ps o r u
 |[],_,[],[]=>True
 |_,_,_,_=>False
def qk (w:World)(G ro:Nat->Prop):(r:RK)->r.den->Value->List Nat->Prop
 |.v a,y,v,z=>∃ u,di a.isAgg v u/\Mx w G a none 0 y u z
 |.bv a,y,v,z=>z=[]/\∃ u,di a.isAgg v u/\Rd w (λk=>G k\/ro k) a y u
 |.box a,y,v,z=>∃ g c E H,v=.pointer (some ⟨g,0,none⟩)/\w.heap[g]?=some (.cells c.toArray E (0,0))/\Mx w G a none 0 y c H/\z=g::H
def gE (w:World)(G ro:Nat->Prop):(J:List RK)->aj J->List Value->List (List Nat)->Prop
 |[],_,M,H=>M=[]/\H=[]
 |r::J,y,M,H=>∃ u I b z,M=u::I/\H=b::z/\qk w G ro r y.1 u b/\gE w G ro J y.2 I z
def sA:List Value->Value->Prop
 |[u],v=>v=u
 |r,v=>v=.tuple r.toArray
def ql (w w':World)(r:List Nat)(k:Nat):Prop:=k<w'.heap.size/\(w.heap.size<=k\/k∈r)
def tP (c:Ctr)(w:World)(ro:Nat->Prop)(I:List Value)(z:List (List Nat))(y:aj c.rs×ai c.ps)(e:Ending)(w':World):Prop :=
 ∃ (v:Value) (H:List Value) (N:Nat->Prop) (u r:List (List Nat)),e=.returned v/\sA H v/\w.heap.size<=w'.heap.size/\w'.os=w.os/\w'.tape=w.tape/\w'.output=w.output /\
  (∀ k,k<w.heap.size->k∉z.flatten->w'.heap[k]?=w.heap[k]?)/\(∀ k,N k->ql w w' z.flatten k) /\
  bL w' (λk=>N k\/(c.fresh=false/\ro k)) c.ps y.2 I u/\gE w' (λk=>N k\/(c.fresh=false/\ro k)) ro c.rs y.1 H r /\
  (u.flatten++r.flatten).Nodup/\∀ k∈u.flatten++r.flatten,ql w w' z.flatten k/\¬ N k
def bP (P:Program)(c:Ctr):Prop :=
 fW P c.f/\∀ (w:World) (ro:Nat->Prop) (x:ab c.ps) (u:List Value) (r:List (List Nat)) (y:aj c.rs×ai c.ps),
  dg P w ro (λk=>k<w.heap.size/\k∉r.flatten) c.ps x u r->(∀ k,ro k->k<w.heap.size/\k∉r.flatten)->r.flatten.Nodup->c.den x=some y ->
  Calls P c.f u.toArray w (tP c w ro u r y)
section
variable {P:Program} {V:Env} {Γ:List Ctr} {T:TypeId->TI} {st:St} {o:Oper} {R:Type} {κ:Upd->Option R} {r:R}
theorem il.mono {w0:World}{S H:Nat->Prop}(O:∀ k,S k->H k){y:List Ty}{B:Ty}{I:Tup y->Option B.den}{v:Value}(h:il P w0 S y B I v):il P w0 H y B I v:=by
 obtain⟨f,u,e,J,X⟩:=h;exact⟨f,u,e,J,λw1 Y M=>X w1 Y (λk z=>M k (O k z))⟩
theorem il.move {w0 w:World}{S J:Nat->Prop}(H:w0.heap.size<=w.heap.size)(I:∀ k,S k->J k/\w.heap[k]?=w0.heap[k]?){z:List Ty}{B:Ty}{M:Tup z->Option B.den}{v:Value}
  (h:il P w0 S z B M v):il P w J z B M v:=by
 obtain⟨f,y,e,O,Y⟩:=h;exact⟨f,y,e,O,λw1 Z X=>Y w1 (CY H Z) (λk u=>(X k (I k u).1).trans (I k u).2)⟩
theorem gU.carry {w w1:World}{ro ro' pr J:Nat->Prop}(y:∀ k,ro k->ro' k/\w1.heap[k]?=w.heap[k]?)(u:∀ k,pr k->J k/\w1.heap[k]?=w.heap[k]?){H:Bool}{a:Ty}{x:a.den}{v:Value}(h:gU w ro pr H a x v):gU w1 ro' J H a x v:=by
 unfold gU at h ⊢;split at h
 ·rename_i O;rw[if_pos O];obtain⟨b,Z,g,o,c,Y,I,X,M,h7,h8⟩:=h;exact⟨b,Z,g,o,c,Y,(u b I).1,by rw[kD (u b I).2];exact X,(u g M).1,h7.carry (λk z=>(y k z).1) (λk z=>(y k z).2),h8.same (u g M).2⟩
 ·rename_i O;rw[if_neg O];obtain⟨g,o,c,Y,I,X,M⟩:=h;exact⟨g,o,c,Y,(u g I).1,X.carry (λk z=>(y k z).1) (λk z=>(y k z).2),M.same (u g I).2⟩
theorem jG.carry {w w1:World}{ro ro' pr y:Nat->Prop}(H:∀ k,ro k->ro' k/\w1.heap[k]?=w.heap[k]?)(z:∀ k,pr k->y k/\w1.heap[k]?=w.heap[k]?):∀ {cs:List (Bool×Ty)} {x:lQ cs} {us:List Value},jG w ro pr cs x us->jG w1 ro' y cs x us
 |[],_,_,h=>h
 |_::_,_,_,⟨u,I,e,J,M⟩=>⟨u,I,e,J.carry H z,jG.carry H z M⟩
theorem oc.mono {w:World}{ro ro' pr O:Nat->Prop}(y:∀ k,ro k->ro' k)(J:∀ k,pr k->O k):∀ {pk:PK} {x:pk.den} {v:Value} {bs:List Nat},oc P w ro pr pk x v bs->oc P w ro' O pk x v bs
 |.rd _,_,_,_,⟨e,M,z,I⟩=>⟨e,M,z,I.mono y⟩
 |.own _,_,_,_,⟨M,z,I⟩=>⟨M,z,I.mono y⟩
 |.io _,_,_,_,⟨M,z,I⟩=>⟨M,z,I.mono y⟩
 |.rref _,_,_,_,⟨e,h⟩=>⟨e,h.carry (λk H=>⟨y k H,rfl⟩) (λk H=>⟨J k H,rfl⟩)⟩
 |.rref2 _,_,_,_,⟨e,h⟩=>⟨e,h.carry (λk H=>⟨y k H,rfl⟩) (λk H=>⟨J k H,rfl⟩)⟩
 |.iop _,_,_,_,⟨g,c,E,X,z,I,Z,Y⟩=>⟨g,c,E,X,z,I,Z.mono y,Y⟩
 |.fn _ _,_,_,_,⟨e,h⟩=>⟨e,il.mono J h⟩
 |.clo _ _,_,_,_,⟨e,us,z,I⟩=>⟨e,us,z,I.carry (λk H=>⟨y k H,rfl⟩) (λk H=>⟨J k H,rfl⟩)⟩
 |.hol _ _ _,_,_,_,⟨M,u,X,b1,E,e,xs,z,I,Z,Y,h5,h6⟩=>⟨M,u,X,b1,E,e,xs,z,I.mono y,Z,Y,h5.carry y (λ_ _=>rfl) (λ_ _=>rfl),h6⟩
theorem dg.mono {w:World}{ro ro' pr y:Nat->Prop}(I:∀ k,ro k->ro' k)(H:∀ k,pr k->y k):∀ {ps:List PK} {x:ab ps} {M:List Value} {z:List (List Nat)},dg P w ro pr ps x M z->dg P w ro' y ps x M z
 |[],_,_,_,h=>h
 |_::_,_,_,_,⟨v,J,b,u,Y,X,O,Z⟩=>⟨v,J,b,u,Y,X,O.mono I H,dg.mono I H Z⟩
def jP (V:Env)(W:Wit)(st:St)(ks:List (Nat×Nat))(u:List Nat)(k:Nat):Prop:=W.nw k\/V.prot k\/(∃ b∈u,live st b/\W.β b=k)\/∃ x∈ks,k∈W.bs x.1 x.2
theorem kP {W:Wit}{H I:List (Nat×Nat)}{y z:List Nat}(h:∀ x∈H,x∈I)(M:∀ b∈y,b∈z):∀ k,jP V W st H y k->jP V W st I z k:=by
 rintro k (u|u|⟨b,J,u⟩|⟨x,O,u⟩)
 ·exact .inl u
 ·exact .inr (.inl u)
 ·exact .inr (.inr (.inl ⟨b,M b J,u⟩))
 ·exact .inr (.inr (.inr ⟨x,h x O,u⟩))
theorem i8 {W:Wit}{p q:Bool}{y z:List (Nat×Nat)}(H:p=true->q=true)(h:∀ x∈y,x∈z):∀ k,bo V W p y k->bo V W q z k:=by
 rintro k (u|⟨x,I,u⟩)
 ·exact .inl (bU (W':=W) H (λ_ h=>h) k u)
 ·exact .inr ⟨x,h x I,u⟩
theorem gF {agg:Bool}{v:Value}{cs:List Value}(h:ei (bg agg) v cs):di agg v cs:=by
 cases agg <;> exact h
theorem nl {W:Wit}{a:Act}{w:World}(h:ap P V W st a w){l:Leaf}{ls:List Leaf}{v:Value}(hl:aI P V W st w [] l v)(y:target st l=some ls)(ks:List (Nat×Nat))(M:List Nat)(O:∀ b∈fj [l],b∈M) :
  ∃ g o cs,v=.pointer (some ⟨g,o,none⟩)/\jP V W st ks M g/\aC P V W st w ls cs/\cY w g o cs:=by
 unfold target at y;split at y
 ·rename_i b;cases X:decide ((st b).sh=.agg) with
  |false=>simp[X]at y
  |true =>
   simp only[X,cond_true,BQ]at y;subst y;obtain⟨hB,J,z⟩:=hl;rcases h.boxes b hB with ⟨Z,_⟩|⟨_,E,Z⟩
   ·rw[J]at Z;cases Z
   ·exact⟨W.β b,0,W.cs b,z,.inr (.inr (.inl ⟨b,O b (by simp[fj]),⟨hB,J⟩,rfl⟩)),iD h b,λi v z=>by
     rw[Ch,cell_of_row w (W.β b) i _ E (0,0) Z];simpa using z⟩
 ·rename_i p a x;simp only[BQ]at y;subst y;obtain⟨g,Y,c,z,hg,H,hc⟩:=hl;rw[CW]at z;exact⟨g,Y,c,z,hg.elim .inl (λh=>.inr (.inl h)),eZ (λ_ h=>h) H,hc⟩
 ·rename_i p a x;simp only[BQ]at y;subst y;obtain⟨b,ob,g,Y,c,z,X,I,hg,H,hc⟩:=hl;refine⟨b,ob,[.pointer (some ⟨g,Y,none⟩)],z,X.elim .inl (λh=>.inr (.inl h)),⟨⟨⟨g,Y,c,rfl,hg,H,hc⟩,id,rfl⟩,trivial⟩,λi u hi=>?_⟩;cases i with
  |zero=>simp at hi;subst hi;exact I
  |succ i=>simp at hi
 ·cases y
theorem gV {W:Wit}{w:World}{x:aG×List Leaf}{l:Leaf}{v:Value}{cs:List Value}(y:ei x.1 v cs)(z:aC P V W st w x.2 cs)(u:co x=l)(H:l≠.dead) :
  aI P V W st w [] l v/\v.oneCell'=true:=by
 unfold co at u;split at u
 ·rename_i I;subst u;have y:cs=[v]:=y;subst y;exact⟨z.1.1,z.1.2.2⟩
 ·exact absurd u.symm H
theorem nm {W:Wit}{a:Act}{w:World}(h:ap P V W st a w){c:Bool×Ty}{l:Leaf}{v:Value}(hl:aI P V W st w [] l v){g:Got c.2.den}(H:fk st c l=some g) :
  gU w (bo V W g.p g.frz) (jP V W st g.frz g.see) c.1 c.2 g.val v/\(∀ z∈g.frz,aB st z)/\g.kill=[]/\g.lend=[]:=by
 unfold fk at H;cases hc:c.1 with
 |true =>
  rw[hc]at H;simp only[cond_true]at H;split at H
  ·rename_i l' ht;split at H
   ·rename_i Z a3;simp only[BR]at H;obtain⟨⟨p,y⟩,hy,rfl⟩:=H;obtain⟨g,o',cs,hv,Y,I,X⟩:=nl h hl ht (bw st Z) (fj [l,l']) (λb M=>by
     cases l <;> simp[fj]at M ⊢ <;> exact .inl M)
    match cs,I with
    |[u],I =>
     obtain⟨g2,o2,a4,a2,a1,O,a0⟩:=nl h I.1.1 a3 (bw st Z) (fj [l,l']) (λb M=>by
      cases l <;> cases l' <;> simp[fj]at M ⊢ <;> first|exact M|exact .inr M)
     have J:=X 0 u rfl;rw[CW,a2]at J;refine⟨?_,λz hz=>eo O hz,rfl,rfl⟩;unfold gU;rw[if_pos rfl];exact⟨g,o',g2,o2,a4,hv,Y,J,a1,eD h O hy,a0⟩
   ·cases H
  ·cases H
 |false =>
  rw[hc]at H;simp only[cond_false]at H;split at H
  ·rename_i Z ht;simp only[BR]at H;obtain⟨⟨p,y⟩,hy,rfl⟩:=H;obtain⟨g,o',cs,hv,Y,I,X⟩:=nl h hl ht (bw st Z) (fj [l]) (λb M=>M);refine⟨?_,λz hz=>eo I hz,rfl,rfl⟩;unfold gU;rw[if_neg (by simp)];exact⟨g,o',cs,hv,Y,eD h I hy,X⟩
  ·cases H
theorem my {W:Wit}{a:Act}{w:World}(h:ap P V W st a w):∀ {cs:List (Bool×Ty)} {ls:List Leaf} {us:List Value} {g:Got (lQ cs)},aC P V W st w ls us->cC st cs ls=some g ->
  jG w (bo V W g.p g.frz) (jP V W st g.frz g.see) cs g.val us/\(∀ z∈g.frz,aB st z)/\g.kill=[]/\g.lend=[]
 |[],[],us,g,J,y=>by
  simp only[cC,BQ]at y;subst y;cases us with
  |nil=>exact⟨rfl,by simp,rfl,rfl⟩
  |cons=>exact J.elim
 |[],_::_,_,_,_,y=>by simp[cC]at y
 |_::_,[],_,_,_,y=>by simp[cC]at y
 |c::cs,l::ls,us,g,J,y=>by
  cases us with
  |nil=>exact J.elim
  |cons u us =>
   simp only[cC]at y;split at y
   ·rename_i g1 M;split at y
    ·rename_i g2 O;simp only[BQ]at y;subst y;obtain⟨X,Y,h3,h4⟩:=nm h J.1.1 M;obtain⟨Z,h6,h7,h8⟩:=my h J.2 O;refine⟨⟨u,us,rfl,X.carry (λk I=>⟨i8 (by intro h;simp[h]) (λx H=>BZ _ H) k I,rfl⟩) (λk I=>⟨kP (λx H=>BZ _ H) (λx H=>BZ _ H) k I,rfl⟩),
      Z.carry (λk I=>⟨i8 (by intro h;simp[h]) (λx H=>BU _ H) k I,rfl⟩) (λk I=>⟨kP (λx H=>BU _ H) (λx H=>BU _ H) k I,rfl⟩)⟩,?_,rfl,rfl⟩
     intro z hz;exact (B4.1 hz).elim (Y z) (h6 z)
    ·cases y
   ·cases y
theorem wF {W:Wit}{w:World}{c:Bool×Bool×(a:Ty)×a.den}{v:Value}(h:iP V W w c v):aI P V W st w [] (eR c) v/\¬ ao (eR c)/\v.oneCell'=true:=by
 unfold iP at h;unfold eR;split at h
 ·rename_i u;rw[u];refine⟨h,id,?_⟩;obtain⟨b,I,g,z,H,y,_⟩:=h;rw[y];rfl
 ·rename_i u;have u:c.2.1=false:=by simpa using u
  rw[u];refine⟨h,id,?_⟩;obtain⟨g,z,H,y,_⟩:=h;rw[y];rfl
theorem qT {W:Wit}{w:World}{caps:List (Bool×Bool×(a:Ty)×a.den)}{us:List Value}(z:us.length=caps.length)(h:∀ (i:Nat) (c:Bool×Bool×(a:Ty)×a.den) (u:Value),caps[i]?=some c->us[i]?=some u->iP V W w c u) :
  aC P V W st w (caps.map eR) us :=
 aC.mk (by simp[z]) λj l v y H=>by
  rw[List.getElem?_map,BR]at y;obtain⟨c,I,rfl⟩:=y;exact wF (h j c v I H)
theorem qm {W:Wit}{w:World}:∀ (caps:List Nat),(∀ b∈caps,B0<=b/\(st b).sh=.agg)->aC P V W st w (caps.map λb=>Leaf.bp b 0) (caps.map λb=>Value.pointer (some ⟨W.β b,0,none⟩))
 |[],_=>trivial
 |b::caps,h=>⟨⟨⟨(h b (CF ..)).1,(h b (CF ..)).2,rfl⟩,id,rfl⟩,qm caps (λq u=>h q (B8 _ u))⟩
theorem nn {off:Nat}{E:TypeId}{e:Ty}{X:List e.den}:∀ {a:Ty} {pos:Nat} {x z:a.den},bM off E e X a pos x=some z->(∃ H,bd off a pos x=some ⟨E,e,H⟩)/\bd off a pos z=some ⟨E,e,X⟩
 |.pair a b,pos,x,z,h=>by
  simp only[bM]at h;split at h
  ·rename_i u J;simp only[BQ]at h;subst h;obtain⟨⟨H,M⟩,O⟩:=nn J;exact⟨⟨H,by simp only[bd,M]⟩,by simp only[bd,O]⟩
  ·rename_i hn;simp only[BR]at h;obtain⟨u,J,rfl⟩:=h;have Y:=Mx.back.set_in J;obtain⟨⟨H,M⟩,O⟩:=nn J;have y:bd off a pos x.1=none:=by
    cases Z:bd off a pos x.1 with
    |none=>rfl
    |some u=>have:=gD Z;omega
   exact⟨⟨H,by simp only[bd,y,M]⟩,by simp only[bd,y,O]⟩
 |.list m E' e',pos,xs,z,h=>by
  simp only[bM]at h;cases I:m&&CC pos off with
  |false=>simp[I]at h
  |true =>
   rw[I]at h;simp only[cond_true]at h;obtain⟨rfl,rfl,rfl⟩:=jK h;exact⟨⟨xs,by simp[bd,I]⟩,by simp[bd,I]⟩
 |.int _,_,_,_,h=>by simp[bM]at h
 |.bool,_,_,_,h=>by simp[bM]at h
 |.str,_,_,_,h=>by simp[bM]at h
 |.unit,_,_,_,h=>by simp[bM]at h
 |.hdr,_,_,_,h=>by simp[bM]at h
theorem Mx.refill {w:World}{G:Nat->Prop}{off:Nat}{E:TypeId}{e:Ty}{ys:List e.den}{u:Value}(Y:u.oneCell'=true):∀ {a:Ty} {pos:Nat} {x z:a.den} {cs:List Value} {bs:List Nat},Mx w G a (some off) pos x cs bs->bM off E e ys a pos x=some z ->
  Mx w G a (some off) pos z (cs.set (off-pos) u) bs
 |.pair a b,pos,x,z,cs,bs,⟨Z,c2,b1,b2,e1,e2,M,O⟩,h=>by
  have hl:=M.len;simp only[bM]at h;split at h
  ·rename_i y J;simp only[BQ]at h;subst h;have X:=Mx.back.set_in J;refine⟨Z.set (off-pos) u,c2,b1,b2,?_,e2,Mx.refill Y M J,O⟩;rw[e1,List.set_append_left _ _ (by omega)]
  ·simp only[BR]at h;obtain⟨y,J,rfl⟩:=h;have X:=Mx.back.set_in J;refine⟨Z,c2.set (off-(pos+a.cells)) u,b1,b2,?_,e2,M,Mx.refill Y O J⟩;rw[e1,List.set_append_right _ _ (by omega),hl,show off-pos-a.cells=off-(pos+a.cells) by omega]
 |.list m E' e',pos,xs,z,cs,bs,H,h=>by
  simp only[bM]at h;cases I:m&&CC pos off with
  |false=>simp[I]at h
  |true =>
   simp only[BS]at I;obtain⟨rfl,I⟩:=I;have I:=BY I;subst I;rw[jc]at H ⊢;obtain⟨v,rfl,M,O⟩:=H;exact⟨u,by simp,Y,O⟩
 |.int _,_,_,_,_,_,_,h=>by simp[bM]at h
 |.bool,_,_,_,_,_,_,h=>by simp[bM]at h
 |.str,_,_,_,_,_,_,h=>by simp[bM]at h
 |.unit,_,_,_,_,_,_,h=>by simp[bM]at h
 |.hdr,_,_,_,_,_,_,h=>by simp[bM]at h
theorem aC.setNil {W:Wit}{w:World}{ls:List Leaf}{cs:List Value}(I:aC P V W st w ls cs)(c:Nat):aC P V W st w (aS ls c .nil) (cs.set c (.slice none 0 0)):=by
 have y:=I.length;refine aC.mk (by simp[aS,y]) λj l v H u=>?_
 rcases aR _ _ _ _ _ H with ⟨rfl,rfl,J⟩|⟨z,H⟩
 ·rw[Cn (by omega)]at u;simp only[BQ]at u;subst u;exact⟨rfl,id,rfl⟩
 ·rw[Cf (Cg z)]at u;exact I.at_ j l v H u
def wG (P:Program)(V:Env)(W:Wit)(st:St)(w:World)(pk:PK)(v:Value)(g:Got pk.den):Prop :=
 (∃ u,oc P w (bo V W g.p g.frz) (jP V W st g.frz g.see) pk g.val v u/\u=g.lend.map W.β++aY W g.kill)/\(∀ z∈g.frz,aB st z)/\(∀ z∈g.kill,aB st z)/\(∀ b∈g.lend,live st b)
theorem nq (hV:ay V){W:Wit}{a:Act}{w:World}(h:ap P V W st a w){pk:PK}{x:aG×List Leaf}{v:Value}{cs:List Value}(hs:ei x.1 v cs)(hl:aC P V W st w x.2 cs)
  {g:Got pk.den} (u:bf st pk x=some g):wG P V W st w pk v g:=by
 obtain⟨sh,ls⟩:=x;have Y:∀ {b:Ty} {g:Got b.den},(bif decide (sh=bg b.isAgg) then (cj st b ls).map (λt=>(⟨t.p,t.val,t.frz,t.kill,[],[]⟩:Got b.den)) else none)=some g ->
   (∃ cs,di b.isAgg v cs/\Mx w (bo V W g.p g.frz) b none 0 g.val cs (aY W g.kill))/\g.lend=[]/\g.see=[]/\(∀ z∈g.frz,aB st z)/\(∀ z∈g.kill,aB st z):=by
  intro b g hq;cases I:decide (sh=bg b.isAgg) with
  |false=>simp[I]at hq
  |true =>
   rw[I]at hq;simp only[cond_true,BR]at hq;have X:=of_decide_eq_true I;subst X;obtain⟨t,ht,rfl⟩:=hq;obtain⟨M,J,O⟩:=dP (pos:=0) h hl ht;exact⟨⟨cs,gF hs,M⟩,rfl,rfl,J,O⟩
 cases pk with
 |rd b =>
  simp only[bf]at u;cases I:decide (sh=bg b.isAgg) with
  |false=>simp[I]at u
  |true =>
   rw[I]at u;simp only[cond_true,BR]at u;have X:=of_decide_eq_true I;subst X;obtain⟨⟨p,y⟩,hy,rfl⟩:=u;exact⟨⟨[],⟨rfl,cs,gF hs,eD h hl hy⟩,rfl⟩,λz hz=>eo hl hz,by simp[Got.ofRd],by simp[Got.ofRd]⟩
 |own b =>
  obtain⟨M,J,O,h4,h5⟩:=Y u;exact⟨⟨_,M,by rw[J];rfl⟩,h4,h5,by rw[J];simp⟩
 |io b =>
  obtain⟨M,J,O,h4,h5⟩:=Y u;exact⟨⟨_,M,by rw[J];rfl⟩,h4,h5,by rw[J];simp⟩
 |iop b =>
  simp only[bf]at u;split at u
  ·rename_i q hx;cases I:decide ((st q).sh=.agg) with
   |false=>simp[I]at u
   |true =>
    simp only[I,cond_true,BR]at u;obtain⟨t,ht,rfl⟩:=u;obtain⟨H,hv⟩:=gV hs hl hx (by simp);obtain⟨hB,a3,ad⟩:=H;rcases h.boxes q hB with ⟨h8,_⟩|⟨_,E,h8⟩
    ·rw[a3]at h8;cases h8
    ·obtain⟨M,J,O⟩:=dP (pos:=0) h (iD h q) ht;exact⟨⟨_,⟨W.β q,W.cs q,E,_,ad,h8,M,rfl⟩,rfl⟩,J,O,λb' X=>by simp at X;subst X;exact⟨hB,a3⟩⟩
  ·cases u
 |rref b =>
  simp only[bf]at u;have hd:co (sh,ls)≠.dead:=by
   intro e;rw[e]at u;simp[fk,target]at u
  obtain⟨H,hv⟩:=gV hs hl rfl hd;obtain⟨M,J,O,h4⟩:=nm (c:=(false,b)) h H u;exact⟨⟨[],⟨rfl,M⟩,by rw[O,h4];rfl⟩,J,by rw[O];simp,by rw[h4];simp⟩
 |rref2 b =>
  simp only[bf]at u;have hd:co (sh,ls)≠.dead:=by
   intro e;rw[e]at u;simp[fk,target]at u
  obtain⟨H,hv⟩:=gV hs hl rfl hd;obtain⟨M,J,O,h4⟩:=nm (c:=(true,b)) h H u;exact⟨⟨[],⟨rfl,M⟩,by rw[O,h4];rfl⟩,J,by rw[O];simp,by rw[h4];simp⟩
 |fn As B =>
  simp only[bf]at u;split at u
  ·rename_i As' B' φ hx;obtain⟨H,hv⟩:=gV hs hl hx (by simp);split at u
   ·rename_i hh;obtain⟨rfl,rfl⟩:=hh;simp only[BQ]at u;subst u;have hf:il P V.w0 V.prot As' B' φ v:=H;exact⟨⟨[],⟨rfl,il.move h.size (λk hk=>⟨.inr (.inl hk),h.keep k hk⟩) hf⟩,rfl⟩,by simp,by simp,by simp⟩
   ·cases u
  ·cases u
 |clo f bb =>
  simp only[bf]at u;split at u
  ·rename_i f' a1 hx;cases I:CC f' f with
   |false=>simp[I]at u
   |true =>
    simp only[I,cond_true]at u;have I:=BY I;subst I;obtain⟨H,hv⟩:=gV hs hl hx (by simp);obtain⟨M,J⟩:=H;obtain⟨O,h4,h5,h6⟩:=my h (qm a1 J) u;exact⟨⟨[],⟨rfl,_,M,O⟩,by rw[h5,h6];rfl⟩,h4,by rw[h5];simp,by rw[h6];simp⟩
  ·rename_i f' a1 hx;cases I:CC f' f with
   |false=>simp[I]at u
   |true =>
    simp only[I,cond_true]at u;have I:=BY I;subst I;obtain⟨H,hv⟩:=gV hs hl hx (by simp);obtain⟨us,M,J,h7⟩:=H;obtain⟨O,h4,h5,h6⟩:=my h (qT J h7) u;exact⟨⟨[],⟨rfl,us,M,O⟩,by rw[h5,h6];rfl⟩,h4,by rw[h5];simp,by rw[h6];simp⟩
  ·cases u
 |hol b c off =>
  simp only[bf]at u;cases I:decide (sh=bg b.isAgg) with
  |false=>simp[I]at u
  |true =>
   rw[I]at u;simp only[cond_true]at u;have X:=of_decide_eq_true I;subst X;split at u
   ·rename_i r' j n Z;split at u
    ·rename_i p i o' E e xs hd;cases a0:CC o' off with
     |false=>simp[a0]at u
     |true =>
      rw[a0]at u;simp only[cond_true]at u;have a0:=BY a0;subst a0;split at u
      ·rename_i t ht;split at u
       ·rename_i y hy;simp only[BQ]at u;subst u;have a4:ls[c]?=some (.al r' j n):=by
         rw[CV]at Z;cases hq:ls[c]? with
         |none=>rw[hq]at Z;simp at Z
         |some l0=>rw[hq]at Z;simp at Z;rw[Z]
        have a5:c<cs.length:=by rw[<- hl.length];exact (BT.1 a4).1
        have a2:=CB a5;obtain⟨H,_,a6⟩:=hl.at_ c _ _ a4 a2;obtain⟨_,b2,b4,_⟩:=kk h hd H;obtain⟨M,J,O⟩:=dP (pos:=0) h (hl.setNil c) ht;obtain⟨⟨b6,a9⟩,b1⟩:=nn hy;obtain⟨v0,bn,b0,g1,g2,g3,g4⟩:=M.out a9;have b3:bn=[]:=by
         simp only[C9,Cn a5,BQ]at g2;obtain⟨b5,ba,q1,q2,_⟩:=g1;obtain⟨A,b9,q4,_⟩:=q1.slice;rw[<- g2]at q2 q4;simp only[CP]at q4;rw[q2,<- q4.2.1];rfl
        have g5:=Mx.refill a6 g3 hy;simp only[C9,List.set_set,List.set_getElem_self]at g5;refine⟨⟨_,⟨cs,cs[c],b0,W.bs r' j,E,e,xs,gF hs,g5.mono (i8 (by intro h;simp[h]) (λ_ h=>h)),a2,b1,
         b2.2.carry (λk hk=>.inl (bU (W':=W) (by intro h;simp[h]) (λ_ h=>h) k hk)) (λ_ _=>rfl) (λ_ _=>rfl),λk=>?_⟩,rfl⟩,J,?_,by simp⟩
        ·have:=g4 k;rw[b3]at this;simp only[DR,Dn];rw[show aY W ((r',j)::t.kill)=W.bs r' j++aY W t.kill from rfl,BV,this];simp;omega
        ·intro z hz;rcases Ci.1 hz with rfl|hz
         ·exact⟨_,b4,trivial⟩
         ·exact O z hz
       ·cases u
      ·cases u
    ·cases u
   ·cases u
end
section
variable {P:Program} {V:Env} {Γ:List Ctr} {T:TypeId->TI} {st:St} {o:Oper} {R:Type} {κ:Upd->Option R} {r:R}
def gX (P:Program)(V:Env)(W:Wit)(st:St)(w:World):List (aG×List Leaf)->List Value->Prop
 |[],y=>y=[]
 |x::H,y=>∃ v u z,y=v::u/\ei x.1 v z/\aC P V W st w x.2 z/\gX P V W st w H u
theorem kv {W:Wit}{w:World}{ga:(pk:PK)->aG×List Leaf->Option (Got pk.den)}
  (H:∀ (pk:PK) (x:aG×List Leaf) (v:Value) (cs:List Value) (g:Got pk.den),ei x.1 v cs->aC P V W st w x.2 cs->ga pk x=some g->wG P V W st w pk v g) :
  ∀ (ps:List PK) (xs:List (aG×List Leaf)) (X:List Value) (g:Got (ab ps)),gX P V W st w xs X->a8 ga ps xs=some g ->
   (∃ I,dg P w (bo V W g.p g.frz) (jP V W st g.frz g.see) ps g.val X I/\∀ k,I.flatten.count k=(g.lend.map W.β).count k+(aY W g.kill).count k) /\
    (∀ z∈g.frz,aB st z)/\(∀ z∈g.kill,aB st z)/\(∀ b∈g.lend,live st b)
 |[],[],X,g,u,y=>by
  simp only[a8,BQ]at y;subst y;exact⟨⟨[],⟨u,rfl⟩,λk=>by simp[aY]⟩,by simp,by simp,by simp⟩
 |[],_::_,_,_,_,y=>by simp[a8]at y
 |_::_,[],_,_,_,y=>by simp[a8]at y
 |p::ps,x::xs,X,g,u,y=>by
  obtain⟨v,M,cs,rfl,hs,hl,J⟩:=u;simp only[a8]at y;split at y
  ·rename_i g1 Y;split at y
   ·rename_i g2 Z;simp only[BQ]at y;subst y;obtain⟨⟨b,h1,h2⟩,h3,h4,h5⟩:=H p x v cs g1 hs hl Y;obtain⟨⟨I,h6,h7⟩,h8,h9,a0⟩:=kv H ps xs M g2 J Z;refine⟨⟨b::I,⟨v,M,b,I,rfl,rfl,h1.mono (i8 (by intro h;simp[h]) (λx u=>BZ _ u)) (kP (λx u=>BZ _ u) (λx u=>BZ _ u)),
     h6.mono (i8 (by intro h;simp[h]) (λx u=>BU _ u)) (kP (λx u=>BU _ u) (λx u=>BU _ u))⟩,λk=>?_⟩,?_,?_,?_⟩
    ·rw[CG,BV,h7 k,h2,BV,Dj,BV,dK,BV];omega
    ·intro z O;exact (B4.1 O).elim (h3 z) (h8 z)
    ·intro z O;exact (B4.1 O).elim (h4 z) (h9 z)
    ·intro z O;exact (B4.1 O).elim (h5 z) (a0 z)
   ·cases y
  ·cases y
theorem nr:∀ {Γ:List Ctr} {f:FuncId} {c:Ctr},lR Γ f=some c->c∈Γ/\c.f=f
 |[],_,_,h=>by simp[lR]at h
 |H::Γ,f,c,h=>by
  simp only[lR]at h;cases u:CC H.f f with
  |true =>
   simp only[u,cond_true,BQ]at h;subst h;exact⟨CF ..,BY u⟩
  |false =>
   simp only[u,cond_false]at h;obtain⟨y,z⟩:=nr h;exact⟨B8 _ y,z⟩
theorem tQ {w:World}{G pr:Nat->Prop}{q:List PK}{z:ab q}{cv:List Value}{I:List (List Nat)}(J:dg P w G pr q z cv I):∀ (y:List Ty) (x:Tup y) (u:List Value),sq w G y x u ->
  dg P w G pr (y.map .rd++q) (nO q z y x) (u++cv) (y.map (λ_=>[])++I)
 |[],_,_,h=>by rw[show _=_ from h];exact J
 |a::y,x,_,⟨v,c,H,rfl,M,O,X⟩=>⟨v,H++cv,[],_,rfl,rfl,⟨rfl,c,M,O⟩,tQ J y x.2 H X⟩
theorem qn {w:World}{ro pr:Nat->Prop}:∀ {ps:List PK} {x:ab ps} {H:List Value} {u:List (List Nat)},ps.all PK.reads=true->dg P w ro pr ps x H u->u.flatten=[]
 |[],_,_,_,_,⟨_,e⟩=>by rw[e];rfl
 |p::ps,_,_,_,h,⟨v,z,b,y,_,e,I,J⟩=>by
  simp only[DO,BS]at h;rw[e,CG,qn h.2 J,CJ];cases p <;> first|exact I.1|simp[PK.reads]at h
theorem qo {w w1:World}{ro pr ro' I:Nat->Prop}(u:∀ k,ro k->ro' k/\w1.heap[k]?=w.heap[k]?)(y:∀ k,pr k->I k/\w1.heap[k]?=w.heap[k]?):∀ {ps:List PK} {x:ab ps} {Y:List Value} {J:List (List Nat)},
  ps.all PK.reads=true->dg P w ro pr ps x Y J->dg P w1 ro' I ps x Y J
 |[],_,_,_,_,h=>h
 |p::ps,x,_,_,X,⟨v,O,b,z,e,e2,H,h2⟩=>by
  simp only[DO,BS]at X;refine⟨v,O,b,z,e,e2,?_,qo u y X.2 h2⟩;cases p with
  |rd a =>
   obtain⟨Z,cs,h3,h4⟩:=H;exact⟨Z,cs,h3,h4.carry (λk M=>(u k M).1) (λk M=>(u k M).2)⟩
  |rref a=>exact⟨H.1,H.2.carry u y⟩
  |rref2 a=>exact⟨H.1,H.2.carry u y⟩
  |_=>simp[PK.reads]at X
theorem mz (z:ay V){W:Wit}{p:Bool}{ks:List (Nat×Nat)}{y:List Nat}:∀ k,bo V W p ks k->jP V W st ks y k:=by
 rintro k ((u|⟨_,u⟩)|u)
 ·exact .inl u
 ·exact .inr (.inl (z.ro k u))
 ·exact .inr (.inr (.inr u))
theorem rN {W:Wit}{ks:List (Nat×Nat)}{H:List Nat}(y:∀ z∈ks,aB st z):∀ k,jP V W st ks H k->cf V W st k:=by
 rintro k (u|u|⟨b,_,I,e⟩|⟨x,O,u⟩)
 ·exact .inl u
 ·exact .inr (.inl u)
 ·exact .inr (.inr (.inl ⟨b,I,e⟩))
 ·obtain⟨l,J,M⟩:=y x O;exact .inr (.inr (.inr ⟨x.1,x.2,l,J,M,u⟩))
theorem sC {W:Wit}{w:World}:∀ {ls:List Leaf} {us:List Value},aC P V W st w ls us->gX P V W st w (ls.map λl=>(aG.one,[l])) us
 |[],[],_=>rfl
 |_::_,_::_,h=>⟨_,_,[_],rfl,rfl,⟨h.1,trivial⟩,sC h.2⟩
theorem yc (hV:ay V)(hΓ:∀ c∈Γ,bP P c){W:Wit}{a:Act}{w:World}(h:ap P V W st a w){X:List Ty}{B:Ty}{f:FuncId}{ls:List Leaf}{us:List Value}{v:Value}(hv:v=.func (.func f) #[] us.toArray)(b6:aC P V W st w ls us)
  {g:Got (Tup X->Option B.den)} (H:ky Γ st X B f ls=some g):il P w (jP V W st g.frz g.see) X B g.val v/\(∀ z∈g.frz,aB st z)/\g.kill=[]/\g.lend=[]:=by
 unfold ky at H;split at H
 ·rename_i c hc;obtain⟨b2,rfl⟩:=nr hc;obtain⟨a1,M⟩:=hΓ c b2;obtain⟨f',ps,rs,a5,c4⟩:=c;simp only at H a1 M hv;generalize ps.drop X.length=q at H;unfold sm at H;split at H
  ·rename_i hh;obtain⟨rfl,rfl⟩:=hh;cases hb:q.all PK.reads&&B.flat&&a5 with
   |false=>simp[hb]at H
   |true =>
    simp only[hb,cond_true]at H;simp only[BS]at hb;obtain⟨⟨a9,b9⟩,bx⟩:=hb;subst bx;split at H
    ·rename_i g0 b5;simp only[BQ]at H;subst H;obtain⟨⟨a2,h1,h2⟩,h3,h4,h5⟩:=kv (λpk x v cs g hs hl H=>nq hV h hs hl H) q _ _ g0 (sC b6) b5;have ba:=qn a9 h1;refine⟨⟨f',us.toArray,hv,a1,λw1 bl Y x J y hx hy=>?_⟩,h3,rfl,rfl⟩;simp only[BR]at hy;obtain⟨y0,b1,rfl⟩:=hy;have I:(X.map (λ_=>([]:List Nat))++a2).flatten=[]:=by
      rw[List.flatten_append,ba,CJ];clear hx b1;induction X with
      |nil=>rfl
      |cons a X ih=>simp
     have b3:∀ k,jP V W st g0.frz g0.see k->k<w1.heap.size:=λk O=>Ca (h.used_lt k (rN h3 k O)) bl
     have a4:=tQ (P:=P) (pr:=λk=>k<w1.heap.size/\k∉(X.map (λ_=>([]:List Nat))++a2).flatten)
      (qo (P:=P) (w1:=w1) (ro':=λk=>k<w1.heap.size) (λk O=>⟨b3 k (mz hV k O),Y k (mz hV k O)⟩)
       (λk O=>⟨⟨b3 k O,by rw[I];simp⟩,Y k O⟩) a9 h1) X x J hx
     have a0:=M w1 (λk=>k<w1.heap.size) (nO q g0.val X x) (J++us) (X.map (λ_=>[])++a2) y0 a4
      (λk O=>⟨O,by rw[I];simp⟩) (by rw[I];exact Do) b1
     have a6:J.toArray++us.toArray=(J++us).toArray:=by simp
     rw[a6];refine a0.mono λe w2 a3=>?_
     obtain⟨u,cb,N,c5,c6,rfl,Z,ad,c1,bb,c0,bn,_,_,b0,_,_⟩:=a3;obtain⟨u1,c3,b,c2,e1,e2,⟨cs,b4,hm⟩,e3,e4⟩:=b0;subst e3;subst e1;have Z:u=u1:=Z;subst Z;exact⟨u,cs,rfl,b4,j9 b9 hm,⟨c1,bb,c0,ad,λk O=>bn k O (by rw[I];simp)⟩⟩
    ·cases H
  ·cases H
 ·cases H
theorem uR (O:ay V)(hΓ:∀ c∈Γ,bP P c){W:Wit}{a:Act}{w:World}(h:ap P V W st a w)(pk:PK)(x:aG×List Leaf)(v:Value)(cs:List Value)(g:Got pk.den)(Y:ei x.1 v cs)(X:aC P V W st w x.2 cs)
  (H:ce Γ st pk x=some g):wG P V W st w pk v g:=by
 cases pk with
 |fn As B =>
  simp only[ce]at H;split at H
  ·rename_i Z y;have J:(∃ u,co x=.clo Z.1 u/\Z.2=u.map λb=>Leaf.bp b 0)\/∃ u,co x=.clr Z.1 u/\Z.2=u.map eR:=by
    generalize co x=l at y;cases l <;> simp only[vK,BQ,reduceCtorEq]at y
    ·subst y;exact .inl ⟨_,rfl,rfl⟩
    ·subst y;exact .inr ⟨_,rfl,rfl⟩
   rcases J with ⟨u,J,he⟩|⟨u,J,he⟩
   ·obtain⟨z,_⟩:=gV Y X J (by simp);rw[he]at H;obtain⟨h1,h2,M,I⟩:=yc O hΓ h z.1 (qm u z.2) H;exact⟨⟨[],⟨rfl,h1⟩,by rw[M,I];rfl⟩,h2,by rw[M];simp,by rw[I];simp⟩
   ·obtain⟨z,_⟩:=gV Y X J (by simp);rw[he]at H;obtain⟨us,e1,e2,e3⟩:=z;obtain⟨h1,h2,M,I⟩:=yc O hΓ h e1 (qT e2 e3) H;exact⟨⟨[],⟨rfl,h1⟩,by rw[M,I];rfl⟩,h2,by rw[M];simp,by rw[I];simp⟩
  ·exact nq O h Y X H
 |_=>exact nq O h Y X H
end
section
variable {P:Program} {V:Env} {W:Wit} {st st':St} {w w':World} {a:Act}
theorem iM {G:Nat->Prop}{p:Bool}(hG:∀ k,G k->gd V W p k):∀ {b:Ty} {pos:Nat} {x:b.den} {cs:List Value} {bs:List Nat},Mx w G b none pos x cs bs->bs.Nodup ->
  ∃ Z:Nat->List Nat,(aq p b x).length=cs.length /\
   (∀ (j:Nat) (l:Leaf) (u:Value),(aq p b x)[j]?=some l->cs[j]?=some u->aI P V W st w (Z j) l u) /\
   (∀ (j:Nat) (l:Leaf),(aq p b x)[j]?=some l->ao l->∀ k∈Z j,k∈bs) /\
   (∀ (j O:Nat) (l l':Leaf),(aq p b x)[j]?=some l->ao l->(aq p b x)[O]?=some l'->ao l'->∀ k,k∈Z j->k∈Z O->j=O)
 |.int k,_,x,cs,bs,H,_=>by
  obtain⟨rfl,rfl⟩:=H;exact⟨λ_=>[],rfl,λj l u y R=>by cases j with|zero=>simp[aq]at y R;subst y;subst R;rfl|succ j=>simp[aq]at y,λj l y _ k r=>by simp at r,λj O l l' _ _ _ _ k r=>by simp at r⟩
 |.bool,_,x,cs,bs,H,_=>by
  obtain⟨rfl,rfl⟩:=H;exact⟨λ_=>[],rfl,λj l u y R=>by cases j with|zero=>simp[aq]at y R;subst y;subst R;rfl|succ j=>simp[aq]at y,λj l y _ k r=>by simp at r,λj O l l' _ _ _ _ k r=>by simp at r⟩
 |.str,_,x,cs,bs,H,_=>by
  obtain⟨rfl,rfl⟩:=H;exact⟨λ_=>[],rfl,λj l u y R=>by cases j with|zero=>simp[aq]at y R;subst y;subst R;rfl|succ j=>simp[aq]at y,λj l y _ k r=>by simp at r,λj O l l' _ _ _ _ k r=>by simp at r⟩
 |.unit,_,x,cs,bs,H,_=>by
  obtain⟨rfl,rfl⟩:=H;exact⟨λ_=>[],rfl,λj l u y R=>by simp[aq]at y,λj l y _ k r=>by simp at r,λj O l l' _ _ _ _ k r=>by simp at r⟩
 |.hdr,_,x,cs,bs,H,_=>by
  obtain⟨⟨A,a2,rfl⟩,rfl⟩:=H;exact⟨λ_=>[],rfl,λj l u y R=>by cases j with|zero=>simp[aq]at y R;subst y;subst R;exact⟨A,a2,rfl⟩|succ j=>simp[aq]at y,λj l y _ k r=>by simp at r,λj O l l' _ _ _ _ k r=>by simp at r⟩
 |.pair b c,pos,x,cs,bs,⟨c1,c2,b1,b2,e1,e2,y,R⟩,Y=>by
  subst e1;subst e2;rw[CX]at Y;obtain⟨d1,f1,f2,f3,f4⟩:=iM hG y Y.1;obtain⟨d2,g1,g2,g3,g4⟩:=iM hG R Y.2.1;have a5:=cM p b x.1;have a4:=y.len;have z:∀ (j:Nat) (l:Leaf),(aq p b x.1++aq p c x.2)[j]?=some l->(j<b.cells/\(aq p b x.1)[j]?=some l)\/(b.cells<=j/\(aq p c x.2)[j-b.cells]?=some l):=by
   intro j l I;by_cases M:j<b.cells
   ·rw[BX (by omega)]at I;exact .inl ⟨M,I⟩
   ·rw[BW (by omega),a5]at I;exact .inr ⟨by omega,I⟩
  refine⟨λj=>if j<b.cells then d1 j else d2 (j-b.cells),by simp only[aq,CA];omega,λj l u I hu=>?_,λj l I ho k r=>?_,λj O l l' I ho X a0 k r J=>?_⟩
  ·rcases z j l I with ⟨M,I⟩|⟨a3,I⟩
   ·rw[BX (by omega)]at hu;simp only[if_pos M];exact f2 j l u I hu
   ·rw[BW (by omega),a4]at hu;simp only[if_neg (show ¬ j<b.cells by omega)];exact g2 _ l u I hu
  ·rcases z j l I with ⟨M,I⟩|⟨a3,I⟩
   ·simp only[if_pos M]at r;exact BZ _ (f3 j l I ho k r)
   ·simp only[if_neg (show ¬ j<b.cells by omega)]at r;exact BU _ (g3 _ l I ho k r)
  ·rcases z j l I with ⟨M,I⟩|⟨a3,I⟩ <;> rcases z O l' X with ⟨a1,X⟩|⟨a6,X⟩
   ·simp only[if_pos M]at r;simp only[if_pos a1]at J;exact f4 j O l l' I ho X a0 k r J
   ·simp only[if_pos M]at r;simp only[if_neg (show ¬ O<b.cells by omega)]at J;exact absurd rfl (Y.2.2 k (f3 j l I ho k r) k (g3 _ l' X a0 k J))
   ·simp only[if_neg (show ¬ j<b.cells by omega)]at r;simp only[if_pos a1]at J;exact absurd rfl (Y.2.2 k (f3 O l' X a0 k J) k (g3 _ l I ho k r))
   ·simp only[if_neg (show ¬ j<b.cells by omega)]at r;simp only[if_neg (show ¬ O<b.cells by omega)]at J;have:=g4 _ _ l l' I ho X a0 k r J;omega
 |.list m E e,pos,xs,cs,bs,H,Y=>by
  cases m with
  |false =>
   rw[cr]at H;obtain⟨rfl,A,a2,rfl,R,h3⟩:=H;refine⟨λ_=>[],rfl,λj l u y h4=>?_,λj l y _ k r=>by simp at r,λj O l l' _ _ _ _ k r=>by simp at r⟩;cases j with
   |zero =>
    simp[aq]at y h4;subst y;subst h4;exact Rd.mono hG (⟨A,a2,rfl,R,h3⟩:Rd w G (.list false E e) xs _)
   |succ j=>simp[aq]at y
  |true =>
   rw[bJ (by simp)]at H;obtain⟨v,rfl,hO⟩:=H;refine⟨λ_=>bs,rfl,λj l u y h4=>?_,λj l y _ k r=>r,λj O l l' y _ h3 _ k _ _=>?_⟩
   ·cases j with
    |zero =>
     simp[aq]at y h4;subst y;subst h4;exact⟨Y,OwB.shy (hO.carry hG (λ_ _=>rfl) (λ_ _=>rfl))⟩
    |succ j=>simp[aq]at y
   ·have h7:j<1:=by simpa[aq]using (BT.1 y).1
    have h8:O<1:=by simpa[aq]using (BT.1 h3).1
    omega
theorem ap.reown (hV:ay V)(h:ap P V W st a w)(r:Nat)(c:bT)(M:Nat->List Nat)(a3:(st r).ver<c.ver)(a1:c.sh=(st r).sh)(a0:c.ls.length=(st r).ls.length)
  (a2:∀ (j:Nat) (l:Leaf) (v:Value),c.ls[j]?=some l->(W.cs r)[j]?=some v->aI P V W st w (M j) l v)
  (Y:∀ (j:Nat) (l:Leaf),c.ls[j]?=some l->ao l->∀ k∈M j,¬ W.nw k/\¬ V.prot k/\(∀ b,live st b->W.β b≠k) /\
   ∀ (r1 j1:Nat) (l1:Leaf),r1≠r->(st r1).ls[j1]?=some l1->ao l1->k∉W.bs r1 j1)
  (a4:∀ (j j':Nat) (l l':Leaf),c.ls[j]?=some l->ao l->c.ls[j']?=some l'->ao l'->∀ k,k∈M j->k∈M j'->j=j') :
  ap P V { W with bs:=λr' j=>if r'=r then M j else W.bs r' j } (ac [(r,c)] st) a w:=by
 have I:∀ b,live (ac [(r,c)] st) b<->live st b:=by
  intro b;rcases am r b c st with ⟨rfl,e⟩|⟨_,e⟩
  ·simp[live,e,a1]
  ·simp[live,e]
 have Z:cH V W { W with bs:=λr' j=>if r'=r then M j else W.bs r' j } st (ac [(r,c)] st) w w:=by
  refine⟨λq=>?_,λb R=>⟨(I b).2 R,rfl⟩,λ_ h=>h,λ_ _=>rfl,λ_ q j' l' O h4 h5=>?_⟩
  ·rcases am r q c st with ⟨rfl,e⟩|⟨y,e⟩
   ·rw[e];exact⟨Nat.le_of_lt a3,λ_=>rfl⟩
   ·rw[e];exact⟨CD _,λ_=>rfl⟩
  ·rcases am r q c st with ⟨rfl,e⟩|⟨y,e⟩
   ·rw[e]at h5;omega
   ·rw[e]at O;exact⟨⟨l',O,h4⟩,by simp[y],λ_ _=>rfl⟩
 exact {
  nt:=h.nt,df:=h.df
  slots:=λt ht=>by
   rcases am r t c st with ⟨rfl,e⟩|⟨_,e⟩
   ·rw[e,a1];exact h.slots t ht
   ·rw[e];exact h.slots t ht
  boxes:=λb R=>by
   rcases am r b c st with ⟨rfl,e⟩|⟨_,e⟩
   ·rw[e,a1];rcases h.boxes b R with ⟨h1,z⟩|h1
    ·refine .inl ⟨h1,?_⟩;rw[z]at a0;exact CE a0
    ·exact .inr h1
   ·rw[e];exact h.boxes b R
  len:=λq=>by
   rcases am r q c st with ⟨rfl,e⟩|⟨_,e⟩
   ·rw[e,a0];exact h.len q
   ·rw[e];exact h.len q
  one:=h.one
  leaf:=λq j l u z O=>by
   rcases am r q c st with ⟨rfl,e⟩|⟨y,e⟩
   ·rw[e]at z;exact (a2 j l u z O).carry hV.ro Z (λ_=>⟨by simp,λ_ _=>rfl⟩)
   ·rw[e]at z;exact (h.leaf q j l u z O).carry hV.ro Z (λ_=>⟨by simp[y],λ_ _=>rfl⟩)
  ownb:=λq j l z O k J=>by
   rcases am r q c st with ⟨rfl,e⟩|⟨y,e⟩
   ·rw[e]at z;simp only[if_true]at J;have:=Y j l z O k J;exact⟨this.1,this.2.1,λb R=>this.2.2.1 b ((I b).1 R)⟩
   ·rw[e]at z;simp only[y,if_false]at J;have:=h.ownb q j l z O k J;exact⟨this.1,this.2.1,λb R=>this.2.2 b ((I b).1 R)⟩
  sep:=λq j l q' j' l' z O h4 h5 k J H=>by
   rcases am r q c st with ⟨e0,e⟩|⟨y,e⟩ <;> rcases am r q' c st with ⟨e1,e'⟩|⟨X,e'⟩
   ·rw[e]at z;rw[e']at h4;simp only[e0,if_true]at J;simp only[e1,if_true]at H;exact⟨e0.trans e1.symm,a4 j j' l l' z O h4 h5 k J H⟩
   ·rw[e]at z;rw[e']at h4;simp only[e0,if_true]at J;simp only[X,if_false]at H;exact absurd H ((Y j l z O k J).2.2.2 q' j' l' X h4 h5)
   ·rw[e]at z;rw[e']at h4;simp only[y,if_false]at J;simp only[e1,if_true]at H;exact absurd J ((Y j' l' h4 h5 k H).2.2.2 q j l y z O)
   ·rw[e]at z;rw[e']at h4;simp only[y,if_false]at J;simp only[X,if_false]at H;exact h.sep q j l q' j' l' z O h4 h5 k J H
  box:=λb R=>h.box b ((I b).1 R)
  inj:=λb b' R a5=>h.inj b b' ((I b).1 R) ((I b').1 a5)
  nwlt:=h.nwlt
  os:=h.os,tape:=h.tape,output:=h.output,size:=h.size,keep:=h.keep
  fixb:=λx hx=>⟨(I _).2 (h.fixb x hx).1,(h.fixb x hx).2⟩
  fixt:=h.fixt }
theorem ap.reownE (hV:ay V)(h:ap P V W st a w)(r:Nat)(c:bT)(M:Nat->List Nat)(a6:r≠EPO)(a3:(st r).ver<=c.ver)(a5:c.sh=(st r).sh)(a1:c.ls.length=(st r).ls.length)
  (a0:∀ (j:Nat) (l:Leaf) (v:Value),c.ls[j]?=some l->(W.cs r)[j]?=some v->aI P V W st w (M j) l v)
  (X:∀ (j:Nat) (l:Leaf),c.ls[j]?=some l->ao l->∀ k∈M j,¬ W.nw k/\¬ V.prot k/\(∀ b,live st b->W.β b≠k) /\
   ∀ (r1 j1:Nat) (l1:Leaf),r1≠r->(st r1).ls[j1]?=some l1->ao l1->k∉W.bs r1 j1)
  (a4:∀ (j j':Nat) (l l':Leaf),c.ls[j]?=some l->ao l->c.ls[j']?=some l'->ao l'->∀ k,k∈M j->k∈M j'->j=j') :
  ap P V { W with bs:=λr' j=>if r'=r then M j else W.bs r' j } (ac [(r,c),(EPO,bV (st EPO))] st) a w /\
   (∀ q,(ac [(r,c),(EPO,bV (st EPO))] st q).sh=(st q).sh/\(st q).ver<=(ac [(r,c),(EPO,bV (st EPO))] st q).ver/\(q≠r->(ac [(r,c),(EPO,bV (st EPO))] st q).ls=(st q).ls))/\ac [(r,c),(EPO,bV (st EPO))] st r=c:=by
 have e0:ac [(r,c),(EPO,bV (st EPO))] st=ac [(r,c)] (ac [(EPO,bV (st EPO))] st):=aP _ _ _ _;generalize hS:ac [(r,c),(EPO,bV (st EPO))] st=S;rw[e0]at hS;have hr:S r=c:=by rw[<- hS,bk]
 have O:∀ q,(S q).sh=(st q).sh/\(st q).ver<=(S q).ver/\(q≠r->(S q).ls=(st q).ls):=by
  intro q;rw[<- hS];rcases am r q c (ac [(EPO,bV (st EPO))] st) with ⟨rfl,e⟩|⟨ad,e⟩
  ·rw[e];exact⟨a5,a3,λh=>absurd rfl h⟩
  ·rw[e];rcases am EPO q (bV (st EPO)) st with ⟨rfl,e⟩|⟨_,e⟩ <;> rw[e]
   ·exact⟨rfl,Df _,λ_=>rfl⟩
   ·exact⟨rfl,CD _,λ_=>rfl⟩
 have hE:(st EPO).ver<(S EPO).ver:=by
  rw[<- hS,aH (Cg a6),bk];exact B5 _
 refine⟨?_,O,hr⟩;have I:∀ b,live S b<->live st b:=λb=>by simp[live,(O b).1]
 have Y:cH V W { W with bs:=λr' j=>if r'=r then M j else W.bs r' j } st S w w :=
  ⟨λq=>⟨(O q).2.1,λ_=>rfl⟩,λb R=>⟨(I b).2 R,rfl⟩,λ_ h=>h,λ_ _=>rfl,λhe=>by omega⟩
 have a2:∀ q,(S q).ls.length=(st q).ls.length:=λq=>by
  by_cases y:q=r
  ·rw[y,hr,a1]
  ·rw[(O q).2.2 y]
 exact {
  nt:=h.nt,df:=h.df
  slots:=λt ht=>by rw[(O t).1];exact h.slots t ht
  boxes:=λb R=>by
   rw[(O b).1];rcases h.boxes b R with ⟨h1,z⟩|h1
   ·refine .inl ⟨h1,CE ?_⟩;rw[a2,z];rfl
   ·exact .inr h1
  len:=λq=>by rw[a2];exact h.len q
  one:=h.one
  leaf:=λq j l u z Z=>by
   by_cases y:q=r
   ·subst y;rw[hr]at z;exact (a0 j l u z Z).carry hV.ro Y (λ_=>⟨by simp,λ_ _=>rfl⟩)
   ·rw[(O q).2.2 y]at z;exact (h.leaf q j l u z Z).carry hV.ro Y (λ_=>⟨by simp[y],λ_ _=>rfl⟩)
  ownb:=λq j l z Z k J=>by
   by_cases y:q=r
   ·subst y;rw[hr]at z;simp only[if_true]at J;have:=X j l z Z k J;exact⟨this.1,this.2.1,λb R=>this.2.2.1 b ((I b).1 R)⟩
   ·rw[(O q).2.2 y]at z;simp only[y,if_false]at J;have:=h.ownb q j l z Z k J;exact⟨this.1,this.2.1,λb R=>this.2.2 b ((I b).1 R)⟩
  sep:=λq j l q' j' l' z Z h4 h5 k J H=>by
   by_cases e0:q=r <;> by_cases e1:q'=r
   ·subst e0;subst e1;rw[hr]at z h4;simp only[if_true]at J H;exact⟨rfl,a4 j j' l l' z Z h4 h5 k J H⟩
   ·subst e0;rw[hr]at z;rw[(O q').2.2 e1]at h4;simp only[if_true]at J;simp only[e1,if_false]at H;exact absurd H ((X j l z Z k J).2.2.2 q' j' l' e1 h4 h5)
   ·subst e1;rw[(O q).2.2 e0]at z;rw[hr]at h4;simp only[e0,if_false]at J;simp only[if_true]at H;exact absurd J ((X j' l' h4 h5 k H).2.2.2 q j l e0 z Z)
   ·rw[(O q).2.2 e0]at z;rw[(O q').2.2 e1]at h4;simp only[e0,if_false]at J;simp only[e1,if_false]at H;exact h.sep q j l q' j' l' z Z h4 h5 k J H
  box:=λb R=>h.box b ((I b).1 R)
  inj:=λb b' R a9=>h.inj b b' ((I b).1 R) ((I b').1 a9)
  nwlt:=h.nwlt
  os:=h.os,tape:=h.tape,output:=h.output,size:=h.size,keep:=h.keep
  fixb:=λx hx=>⟨(I _).2 (h.fixb x hx).1,(h.fixb x hx).2⟩
  fixt:=h.fixt }
theorem ap.nwGrow (O:ay V)(h:ap P V W st a w)(N:Nat->Prop)(M:∀ k,N k->k<w.heap.size/\¬ cf V W st k):ap P V { W with nw:=λk=>W.nw k\/N k } st a w:=by
 have y:cH V W { W with nw:=λk=>W.nw k\/N k } st st w w:=⟨λr=>⟨CD _,λ_=>rfl⟩,λb J=>⟨J,rfl⟩,λ_ h=>.inl h,λ_ _=>rfl,λ_ _ _ l H I _=>⟨⟨l,H,I⟩,rfl,λ_ _=>rfl⟩⟩
 exact {
  nt:=h.nt,df:=h.df,slots:=h.slots,boxes:=h.boxes,len:=h.len,one:=h.one
  leaf:=λr j l v H I=>(h.leaf r j l v H I).carry O.ro y (λ_=>⟨rfl,λ_ _=>rfl⟩)
  ownb:=λr j l H I k u=>⟨λz=>z.elim (h.ownb r j l H I k u).1 (λz=>(M k z).2 (.inr (.inr (.inr ⟨r,j,l,H,I,u⟩)))),(h.ownb r j l H I k u).2⟩
  sep:=h.sep
  box:=λb J=>⟨λz=>z.elim (h.box b J).1 (λz=>(M _ z).2 (.inr (.inr (.inl ⟨b,J,rfl⟩)))),(h.box b J).2⟩
  inj:=h.inj
  nwlt:=λk u=>u.elim (h.nwlt k) (λu=>⟨(M k u).1,λR=>(M k u).2 (.inr (.inl R))⟩)
  os:=h.os,tape:=h.tape,output:=h.output,size:=h.size,keep:=h.keep,fixb:=h.fixb,fixt:=h.fixt }
end
def eP:List Leaf->List Leaf->List (Nat×Nat)
 |.al r j _::y,l::u=>(match l with|.own _ _ _ _ _=>[(r,j)]|_=>[])++eP y u
 |_::y,_::u=>eP y u
 |_,_=>[]
section
variable {P:Program} {V:Env} {st st':St} {w w':World} {a:Act}
theorem nu {x l:Leaf}{xs ls:List Leaf}(h:¬ ao l):eP (x::xs) (l::ls)=eP xs ls:=by
 cases x <;> try rfl
 cases l <;> first|exact absurd trivial h|rfl
theorem vt {k:IntKind}{ls:List Leaf}{x:Bool×(Ty.int k).den×List Leaf}(h:a7 st (.int k) ls=some x):∃ l,ls=l::x.2.2:=by
 simp only[a7]at h;split at h
 ·split at h
  ·simp only[BQ]at h;subst h;exact⟨_,rfl⟩
  ·cases h
 ·cases h
theorem tR {ls:List Leaf}{x:Bool×Ty.bool.den×List Leaf}(h:a7 st .bool ls=some x):∃ l,ls=l::x.2.2:=by
 simp only[a7]at h;split at h
 ·simp only[BQ]at h;subst h;exact⟨_,rfl⟩
 ·cases h
theorem vu {ls:List Leaf}{x:Bool×Ty.str.den×List Leaf}(h:a7 st .str ls=some x):∃ l,ls=l::x.2.2:=by
 simp only[a7]at h;split at h
 ·simp only[BQ]at h;subst h;exact⟨_,rfl⟩
 ·cases h
theorem vv {ls:List Leaf}{x:Bool×Ty.hdr.den×List Leaf}(h:a7 st .hdr ls=some x):∃ l,ls=l::x.2.2:=by
 simp only[a7]at h;split at h
 ·split at h
  ·simp only[BQ]at h;subst h;exact⟨_,rfl⟩
  ·cases h
 ·cases h
theorem la {p:Bool}:∀ (b:Ty) (ls:List Leaf) (t:cO b.den),take st b ls=some t->∀ (y:b.den) (r:List Leaf),eP ls (aq p b y++r)=t.kill++eP t.rest r
 |.pair b c,ls,t,h,y,r=>by
  simp only[take]at h;split at h
  ·rename_i u M;split at h
   ·rename_i v J;simp only[BQ]at h;subst h;simp only[aq];rw[B9,la b ls u M y.1,la c u.rest v J y.2,B9]
   ·cases h
  ·cases h
 |.unit,ls,t,h,y,r=>by
  simp only[take,BQ]at h;subst h;rfl
 |.list m E e,ls,t,h,y,r=>by
  cases ls with
  |nil=>simp[take]at h
  |cons l ls =>
   cases m with
   |false =>
    simp only[take,cond_false]at h;split at h
    ·simp only[BQ]at h;subst h;exact nu id
    ·cases h
   |true =>
    simp only[take,cond_true]at h;split at h
    ·split at h
     ·simp only[BR]at h;obtain⟨O,_,rfl⟩:=h;rfl
     ·cases h
    ·simp only[BQ]at h;subst h;rfl
    ·cases h
 |.int k,ls,t,h,y,r=>scal (b:=.int k) h vt (l':=.int k y) id
 |.bool,ls,t,h,y,r=>scal (b:=.bool) h tR (l':=.bool y) id
 |.str,ls,t,h,y,r=>scal (b:=.str) h vu (l':=.str y) id
 |.hdr,ls,t,h,y,r=>scal (b:=.hdr) h vv (l':=.hdr y) id
where
 scal {b:Ty} {ls:List Leaf} {t:cO b.den} {l':Leaf} {r:List Leaf} (h:(a7 st b ls).map (λx=>(⟨false,x.2.1,[],[],x.2.2⟩:cO b.den))=some t)
   (H:∀ {ls:List Leaf} {x:Bool×b.den×List Leaf},a7 st b ls=some x->∃ l,ls=l::x.2.2) (z:¬ ao l'):eP ls ([l']++r)=t.kill++eP t.rest r:=by
  simp only[BR]at h;obtain⟨x,I,rfl⟩:=h;obtain⟨l,rfl⟩:=H I;exact nu z
theorem zp {W W':Wit}{bs:List Nat}{l:Leaf}{v:Value}(y:ao l)(u:W'.nw=W.nw)(h:aI P V W st w bs l v):aI P V W' st' w bs l v:=by
 cases l <;> simp only[ao]at y;exact OwH.carry h (λk r=>by
  rcases r with r|r
  ·exact .inl (by rw[u];exact r)
  ·exact .inr r) (λ_ _=>rfl) (λ_ _=>rfl)
theorem wH {S:St}{x l:Leaf}{xs ls:List Leaf}(h:¬ ao l):ac (ca S (x::xs) (l::ls)) S=ac (ca S xs ls) S:=by
 cases x <;> try rfl
 cases l <;> first|exact absurd trivial h|rfl
theorem jQ {x:Nat×Nat}{l:List (Nat×Nat)}(h:aZ (x::l)=true):x∉l/\aZ l=true:=by
 simp only[aZ,BS,CH,CO]at h;exact⟨λr=>by have:=h.1 x r;simp at this,h.2⟩
theorem zQ (hV:ay V){W:Wit}{S:St}(h:ap P V W S a w):∀ (xl ls:List Leaf) (cs:List Value) (O:Nat->List Nat),aZ (eP xl ls)=true->(∀ x∈eP xl ls,x.1≠EPO)->xl.length=cs.length->ls.length=cs.length ->
  (∀ (i r j n:Nat) (l:Leaf) (u:Value),xl[i]?=some (.al r j n)->ls[i]?=some l->ao l->cs[i]?=some u->(W.cs r)[j]?=some u) ->
  (∀ x∈eP xl ls,∀ l,(S x.1).ls[x.2]?=some l->¬ ao l) ->
  (∀ (i:Nat) (l:Leaf) (u:Value),ls[i]?=some l->cs[i]?=some u->aI P V W S w (O i) l u) ->
  (∀ (i:Nat) (l:Leaf),ls[i]?=some l->ao l->∀ k∈O i,¬ cf V W S k) ->
  (∀ (i i':Nat) (l l':Leaf),ls[i]?=some l->ao l->ls[i']?=some l'->ao l'->∀ k,k∈O i->k∈O i'->i=i') ->
  ∃ W',ap P V W' (ac (ca S xl ls) S) a w/\W'.cs=W.cs/\W'.β=W.β/\W'.nw=W.nw/\(∀ q,(ac (ca S xl ls) S q).sh=(S q).sh/\(S q).ver<=(ac (ca S xl ls) S q).ver) /\
   (∀ (q i:Nat),(q,i)∉eP xl ls->(ac (ca S xl ls) S q).ls[i]?=(S q).ls[i]?/\W'.bs q i=W.bs q i) /\
   (∀ k,cf V W' (ac (ca S xl ls) S) k->cf V W S k\/∃ i l,ls[i]?=some l/\ao l/\k∈O i)
 |[],ls,cs,O,_,_,hx,hl,_,_,_,_,_=>⟨W,h,rfl,rfl,rfl,λ_=>⟨rfl,CD _⟩,λ_ _ _=>⟨rfl,rfl⟩,λk R=>.inl R⟩
 |x::X,[],cs,O,_,_,hx,hl,_,_,_,_,_=>by simp at hx hl;omega
 |x::X,l::ls,[],O,_,_,hx,hl,_,_,_,_,_=>by simp at hx
 |x::X,l::ls,u::cs,O,hd,ba,hx,hl,b5,b4,a5,a2,b0=>by
  have b2:aZ (eP X ls)=true:=by
   cases x with
   |al r j n =>
    cases l with
    |own p hh E e ys=>exact (jQ hd).2
    |_=>exact hd
   |_=>exact hd
  have ad:∀ z∈eP X ls,z∈eP (x::X) (l::ls):=by
   intro z hz;cases x with
   |al r j n=>exact BU _ hz
   |_=>exact hz
  obtain⟨W1,h1,e1,e2,e3,e4,e5,e6⟩:=zQ hV h X ls cs (λi=>O (i+1)) b2 (λz hz=>ba z (ad z hz)) (by simpa using hx) (by simpa using hl)
   (λi r j n l' u' J I M g4=>b5 (i+1) r j n l' u' (by simpa using J) (by simpa using I) M (by simpa using g4))
   (λz hz=>b4 z (ad z hz)) (λi l' u' J I=>a5 (i+1) l' u' (by simpa using J) (by simpa using I))
   (λi l' J I=>a2 (i+1) l' (by simpa using J) I)
   (λi i' l1 l2 J I M g4 k g5 g6=>by have:=b0 (i+1) (i'+1) l1 l2 (by simpa using J) I (by simpa using M) g4 k g5 g6;omega)
  by_cases hs:¬ ao l\/(∀ r j n,x≠.al r j n)
  ·have a6:ac (ca S (x::X) (l::ls)) S=ac (ca S X ls) S/\eP (x::X) (l::ls)=eP X ls:=by
    rcases hs with hs|hs
    ·exact⟨wH hs,nu hs⟩
    ·cases x with
     |al r j n=>exact absurd rfl (hs r j n)
     |_=>exact⟨rfl,rfl⟩
   rw[a6.1,a6.2];exact⟨W1,h1,e1,e2,e3,e4,e5,λk R=>(e6 k R).imp id λ⟨i,l',J,I,M⟩=>⟨i+1,l',by simpa using J,I,M⟩⟩
  ·simp only[not_or,Classical.not_not]at hs;obtain⟨bb,bn⟩:=hs;obtain⟨r,j,n,rfl⟩:∃ r j n,x=.al r j n:=by
    cases x with
    |al r j n=>exact⟨r,j,n,rfl⟩
    |_=>exact absurd (λ_ _ _ h=>by cases h) bn
   obtain⟨p,hh,E,e,ys,rfl⟩:∃ p hh E e ys,l=.own p hh E e ys:=by
    cases l <;> simp only[ao]at bb;exact⟨_,_,_,_,_,rfl⟩
   have b3:eP (.al r j n::X) (.own p hh E e ys::ls)=(r,j)::eP X ls:=rfl;rw[b3]at hd b4;obtain⟨bx,c0⟩:=jQ hd;have hv:=b5 0 r j n _ u rfl rfl trivial rfl;have a6:ac (ca S (.al r j n::X) (.own p hh E e ys::ls)) S=ac [(r,⟨(ac (ca S X ls) S r).ver,(ac (ca S X ls) S r).sh,aS (ac (ca S X ls) S r).ls j (.own p hh E e ys)⟩),(EPO,bV (ac (ca S X ls) S EPO))] (ac (ca S X ls) S):=bA [_,_] _ _;have a9:aI P V W1 (ac (ca S X ls) S) w (O 0) (.own p hh E e ys) u:=zp trivial e3 (a5 0 _ u rfl rfl);have Y:∀ k∈O 0,¬ cf V W1 (ac (ca S X ls) S) k:=λk R hu=>by
    rcases e6 k hu with hu|⟨i,l',J,I,M⟩
    ·exact a2 0 _ rfl trivial k R hu
    ·have:=b0 0 (i+1) _ l' rfl trivial (by simpa using J) I k R M;omega
   have H:∀ (i:Nat) (l':Leaf),i≠j->(aS (ac (ca S X ls) S r).ls j (.own p hh E e ys))[i]?=some l'->(ac (ca S X ls) S r).ls[i]?=some l':=by
    intro i l' a3 Z;rcases aR _ _ _ _ _ Z with ⟨rfl,_,_⟩|⟨_,Z⟩
    ·exact absurd rfl a3
    ·exact Z
   have b9:∀ (l':Leaf),(aS (ac (ca S X ls) S r).ls j (.own p hh E e ys))[j]?=some l'->l'=.own p hh E e ys:=by
    intro l' Z;rcases aR _ _ _ _ _ Z with ⟨_,rfl,_⟩|⟨a3,_⟩
    ·rfl
    ·exact absurd rfl a3
   have bl:r≠EPO:=ba (r,j) (by rw[b3];exact CF ..);obtain⟨h2,a4,b6⟩:=h1.reownE hV r ⟨(ac (ca S X ls) S r).ver,(ac (ca S X ls) S r).sh,aS (ac (ca S X ls) S r).ls j (.own p hh E e ys)⟩ (λi=>if i=j then O 0 else W1.bs r i) bl (CD _) rfl (by simp[aS])
    (λi l' v' J I=>by
     by_cases y:i=j
     ·subst y;obtain rfl:=b9 l' J;rw[e1,hv]at I;simp only[BQ]at I;subst I;simp only[if_true];exact a9
     ·simp only[if_neg y];exact h1.leaf r i l' v' (H i l' y J) I)
    (λi l' J I k R=>by
     by_cases y:i=j
     ·subst y;simp only[if_true]at R;have hu:=Y k R;simp only[cf,not_or,not_exists,not_and]at hu;exact⟨hu.1,hu.2.1,hu.2.2.1,λr1 j1 l1 _ M g4 g5=>hu.2.2.2 r1 j1 l1 M g4 g5⟩
     ·simp only[if_neg y]at R;have Z:=H i l' y J;have h9:=h1.ownb r i l' Z I k R;exact⟨h9.1,h9.2.1,h9.2.2,λr1 j1 l1 a3 M g4 g5=>a3 (h1.sep r i l' r1 j1 l1 Z I M g4 k R g5).1.symm⟩)
    (λi i' l1 l2 J I M g4 k R a1=>by
     by_cases y:i=j <;> by_cases a0:i'=j
     ·omega
     ·subst y;simp only[if_true]at R;simp only[if_neg a0]at a1;exact absurd (.inr (.inr (.inr ⟨r,i',l2,H i' l2 a0 M,g4,a1⟩))) (Y k R)
     ·subst a0;simp only[if_true]at a1;simp only[if_neg y]at R;exact absurd (.inr (.inr (.inr ⟨r,i,l1,H i l1 y J,I,R⟩))) (Y k a1)
     ·simp only[if_neg y]at R;simp only[if_neg a0]at a1;exact (h1.sep r i l1 r i' l2 (H i l1 y J) I (H i' l2 a0 M) g4 k R a1).2)
   rw[a6];refine⟨_,h2,e1,e2,e3,λq=>?_,λq i hq=>?_,λk R=>?_⟩
   ·exact⟨(a4 q).1.trans (e4 q).1,CY (e4 q).2 (a4 q).2.1⟩
   ·rw[b3]at hq;simp only[Ci,not_or]at hq;by_cases b1:q=r
    ·subst b1;rw[b6];have y:j≠i:=λe0=>hq.1 (by rw[e0])
     simp only[aS];rw[Cf y];refine⟨(e5 q i hq.2).1,?_⟩;simp only[if_true,if_neg (Cg y)];exact (e5 q i hq.2).2
    ·rw[(a4 q).2.2 b1];refine⟨(e5 q i hq.2).1,?_⟩;show (if q=r then _ else W1.bs q i)=_;rw[if_neg b1];exact (e5 q i hq.2).2
   ·rcases R with R|R|⟨b,hb,R⟩|⟨q,i,l',J,I,M⟩
    ·exact .inl (.inl (by rw[<- e3];exact R))
    ·exact .inl (.inr (.inl R))
    ·refine (e6 k (.inr (.inr (.inl ⟨b,?_,R⟩)))).imp id λ⟨i,l',J,I,M⟩=>⟨i+1,l',by simpa using J,I,M⟩
     exact (iF (λq=>(a4 q).1) b).1 hb
    ·by_cases hq:q=r
     ·subst hq;rw[b6]at J;simp only[if_true]at M;by_cases y:i=j
      ·subst y;simp only[if_true]at M;exact .inr ⟨0,_,rfl,trivial,M⟩
      ·simp only[if_neg y]at M;exact (e6 k (.inr (.inr (.inr ⟨q,i,l',H i l' y J,I,M⟩)))).imp id λ⟨i,l',J,I,M⟩=>⟨i+1,l',by simpa using J,I,M⟩
     ·rw[(a4 q).2.2 hq]at J;simp only[if_neg hq]at M;exact (e6 k (.inr (.inr (.inr ⟨q,i,l',J,I,M⟩)))).imp id λ⟨i,l',J,I,M⟩=>⟨i+1,l',by simpa using J,I,M⟩
end
def PK.isIop:PK->Bool
 |.iop _=>true
 |_=>false
section
variable {P:Program} {V:Env} {Γ:List Ctr} {st st':St} {w w':World} {a:Act}
theorem kQ:∀ {a b:List (Nat×Nat)},aZ (a++b)=true->aZ a=true/\aZ b=true/\∀ x∈a,x∉b
 |[],b,h=>⟨rfl,h,by simp⟩
 |x::a,b,h=>by
  obtain⟨z,J⟩:=jQ h;obtain⟨M,O,I⟩:=kQ J;refine⟨?_,O,λy r u=>?_⟩
  ·simp only[aZ,BS,CH,CO];refine⟨λy r H=>z (BZ _ ?_),M⟩;obtain⟨R,X⟩:x.1=y.1/\x.2=y.2:=by simpa using H
   rw[show x=y from Dv R X];exact r
  ·rcases Ci.1 r with rfl|r
   ·exact z (BU _ u)
   ·exact I y r u
theorem kg {p:Bool}:∀ (b:Ty) (ls:List Leaf) (t:cO b.den),take st b ls=some t->∀ (y:b.den) (i r j n:Nat) (l:Leaf),ls[i]?=some (.al r j n)->(aq p b y)[i]?=some l->ao l->(st r).ver=n
 |.pair b c,ls,t,h,y,i,r,j,n,l,I,z,J=>by
  simp only[take]at h;split at h
  ·rename_i u M;split at h
   ·rename_i v O;simp only[aq]at z;have R:=cM p b y.1;by_cases hi:i<b.cells
    ·rw[BX (by omega)]at z;exact kg b ls u M y.1 i r j n l I z J
    ·rw[BW (by omega),R]at z;have Y:=take_rest b ls u M;refine kg c u.rest v O y.2 (i-b.cells) r j n l ?_ z J;rw[Y,Cj,show b.cells+(i-b.cells)=i by omega];exact I
   ·cases h
  ·cases h
 |.list m E e,ls,t,h,y,i,r,j,n,l,I,z,J=>by
  cases m with
  |false =>
   cases i with
   |zero=>simp[aq]at z;subst z;exact J.elim
   |succ i=>simp[aq]at z
  |true =>
   cases i with
   |succ i=>simp[aq]at z
   |zero =>
    cases ls with
    |nil=>simp at I
    |cons l' ls =>
     simp only[Ck,BQ]at I;subst I;simp only[take,cond_true]at h;split at h
     ·rename_i Z;exact (fe Z (by simp)).1
     ·cases h
 |.int k,ls,t,h,y,i,r,j,n,l,I,z,J=>by
  cases i with
  |zero=>simp[aq]at z;subst z;exact J.elim
  |succ i=>simp[aq]at z
 |.bool,ls,t,h,y,i,r,j,n,l,I,z,J=>by
  cases i with
  |zero=>simp[aq]at z;subst z;exact J.elim
  |succ i=>simp[aq]at z
 |.str,ls,t,h,y,i,r,j,n,l,I,z,J=>by
  cases i with
  |zero=>simp[aq]at z;subst z;exact J.elim
  |succ i=>simp[aq]at z
 |.hdr,ls,t,h,y,i,r,j,n,l,I,z,J=>by
  cases i with
  |zero=>simp[aq]at z;subst z;exact J.elim
  |succ i=>simp[aq]at z
 |.unit,ls,t,h,y,i,r,j,n,l,I,z,J=>by simp[aq]at z
where
 take_rest:∀ (b:Ty) (ls:List Leaf) (t:cO b.den),take st b ls=some t->t.rest=ls.drop b.cells
  |.pair b c,ls,t,h=>by
   simp only[take]at h;split at h
   ·rename_i u M;split at h
    ·rename_i v O;simp only[BQ]at h;subst h;show v.rest=_;rw[take_rest c u.rest v O,take_rest b ls u M,List.drop_drop];rfl
    ·cases h
   ·cases h
  |.unit,ls,t,h=>by
   simp only[take,BQ]at h;subst h;rfl
  |.list m E e,ls,t,h=>by
   cases ls with
   |nil=>simp[take]at h
   |cons l ls =>
    cases m with
    |false =>
     simp only[take,cond_false]at h;split at h
     ·simp only[BQ]at h;subst h;rfl
     ·cases h
    |true =>
     simp only[take,cond_true]at h;split at h
     ·split at h
      ·simp only[BR]at h;obtain⟨xs,_,rfl⟩:=h;rfl
      ·cases h
     ·simp only[BQ]at h;subst h;rfl
     ·cases h
  |.int k,ls,t,h=>sc (b:=.int k) h vt rfl
  |.bool,ls,t,h=>sc (b:=.bool) h tR rfl
  |.str,ls,t,h=>sc (b:=.str) h vu rfl
  |.hdr,ls,t,h=>sc (b:=.hdr) h vv rfl
 sc {b:Ty} {ls:List Leaf} {t:cO b.den} (h:(a7 st b ls).map (λx=>(⟨false,x.2.1,[],[],x.2.2⟩:cO b.den))=some t)
   (H:∀ {ls:List Leaf} {x:Bool×b.den×List Leaf},a7 st b ls=some x->∃ l,ls=l::x.2.2) (I:b.cells=1):t.rest=ls.drop b.cells:=by
  simp only[BR]at h;obtain⟨x,X,rfl⟩:=h;obtain⟨l,rfl⟩:=H X;rw[I];rfl
theorem wI {agg:Bool}{v:Value}{y z:List Value}(u:di agg v y)(r:di agg v z):y=z:=by
 unfold di at u r;cases agg with
 |true =>
  simp only[if_true]at u r;rw[u]at r;simpa using r
 |false =>
  simp only[Bool.false_eq_true,if_false]at u r;rw[u,r]
theorem qU (hV:ay V){W0 W:Wit}{S0 S:St}{w0:World}{G:Nat->Prop}{p:Bool}(a4:W.cs=W0.cs)(hG:∀ k,G k->gd V W p k)(h:ap P V W S a w) :
  ∀ (ps:List PK) (xs:List (aG×List Leaf)) (vs:List Value) (g:Got (ab ps)) (o:ai ps) (H:List (List Nat)),gX P V W0 S0 w0 xs vs->a8 (ce Γ S0) ps xs=some g->ps.any PK.isIop=false ->
  bL w G ps o vs H->aZ g.kill=true->(∀ x∈g.kill,x.1≠EPO)->(∀ x∈g.kill,∀ l,(S x.1).ls[x.2]?=some l->¬ ao l)->(∀ k∈H.flatten,¬ cf V W S k)->H.flatten.Nodup ->
  ∃ W',ap P V W' (ac (aF S p ps xs o) S) a w/\W'.cs=W.cs/\W'.β=W.β/\W'.nw=W.nw/\(∀ q,(ac (aF S p ps xs o) S q).sh=(S q).sh/\(S q).ver<=(ac (aF S p ps xs o) S q).ver) /\
   (∀ q i,(q,i)∉g.kill->(ac (aF S p ps xs o) S q).ls[i]?=(S q).ls[i]?/\W'.bs q i=W.bs q i)/\(∀ k,cf V W' (ac (aF S p ps xs o) S) k->cf V W S k\/k∈H.flatten)
 |[],xs,vs,g,o,H,_,_,_,_,_,_,_,_,_=>⟨W,h,rfl,rfl,rfl,λ_=>⟨rfl,CD _⟩,λ_ _ _=>⟨rfl,rfl⟩,λk O=>.inl O⟩
 |pk::ps,[],vs,g,o,H,_,hg,_,_,_,_,_,_,_=>by simp[a8]at hg
 |pk::ps,x::xs,vs,g,o,H,hx,hg,hp,ho,hd,a6,a3,R,a0=>by
  obtain⟨v,a5,cs,rfl,hs,hl,a1⟩:=hx;simp only[a8]at hg;split at hg
  ·rename_i g1 a2;split at hg
   ·rename_i g2 a9;simp only[BQ]at hg;subst hg;simp only[Cq,DK]at hp;obtain⟨bb,b1,b5⟩:=kQ hd;have I:∀ (o':ai ps) (b:List Nat) (M:List (List Nat)),H=b::M->b=[]->bL w G ps o' a5 M->aF S p (pk::ps) (x::xs) o=aF S p ps xs o' ->
      ∃ W',ap P V W' (ac (aF S p (pk::ps) (x::xs) o) S) a w/\W'.cs=W.cs/\W'.β=W.β/\W'.nw=W.nw/\(∀ q,(ac (aF S p (pk::ps) (x::xs) o) S q).sh=(S q).sh/\(S q).ver<=(ac (aF S p (pk::ps) (x::xs) o) S q).ver) /\
       (∀ q i,(q,i)∉g1.kill++g2.kill->(ac (aF S p (pk::ps) (x::xs) o) S q).ls[i]?=(S q).ls[i]?/\W'.bs q i=W.bs q i)/\(∀ k,cf V W' (ac (aF S p (pk::ps) (x::xs) o) S) k->cf V W S k\/k∈H.flatten):=by
     intro o' b M e1 e2 b9 e3;subst e1;subst e2;rw[e3];obtain⟨W1,f1,f2,f3,f4,f5,f6,f7⟩:=qU hV a4 hG h ps xs a5 g2 o' M a1 a9 hp.2 b9 b1 (λz Z=>a6 z (BU _ Z)) (λz Z=>a3 z (BU _ Z)) (λk O=>R k (by simpa using O)) (by simpa using a0);exact⟨W1,f1,f2,f3,f4,f5,λq i hq=>f6 q i (λhm=>hq (BU _ hm)),λk O=>(f7 k O).imp id (λhm=>by simpa using hm)⟩
    cases pk with
    |io b =>
     match H,ho with
     |Y::M,⟨y,J⟩ =>
      simp only[CG]at a0 R;rw[CX]at a0;obtain⟨W1,f1,f2,f3,f4,f5,f6,f7⟩:=qU hV a4 hG h ps xs a5 g2 o.2 M a1 a9 hp.2 J b1 (λz Z=>a6 z (BU _ Z)) (λz Z=>a3 z (BU _ Z)) (λk O=>R k (BU _ O)) a0.2.1;simp only[ce,bf]at a2;cases hb:decide (x.1=bg b.isAgg) with
      |false=>simp[hb]at a2
      |true =>
       rw[hb]at a2;simp only[cond_true,BR]at a2;obtain⟨t,ht,rfl⟩:=a2;rw[of_decide_eq_true hb]at hs;unfold ju at y;rw[if_neg (by simp)]at y;obtain⟨b2,ba,hm⟩:=y;have:=wI ba (gF hs);subst this;obtain⟨b4,m1,m2,m3,m4⟩:=iM (P:=P) (V:=V) (W:=W1) (st:=ac (aF S p ps xs o.2) S) (p:=p) (λk O=>by
        rcases hG k O with O|O
        ·exact .inl (by rw[f4];exact O)
        ·exact .inr O) hm a0.1
       unfold cj at ht;split at ht
       ·rename_i p0 x0 f0 k0 ad;simp only[BQ]at ht;subst ht;have X:=la (p:=p) b x.2 _ ad o.1 [];simp only[CJ]at X;have X:eP x.2 (aq p b o.1)=k0:=by
         rw[X];show k0++eP [] []=k0;simp[eP]
        obtain⟨W2,q1,q2,q3,q4,q5,q6,q7⟩:=zQ hV f1 x.2 (aq p b o.1) b2 b4 (by rw[X];exact bb) (λz Z=>a6 z (BZ _ (by rw[X]at Z;exact Z))) hl.length m1
         (λi r j n l u g3 g4 g5 g6=>by
          have h5:=(hl.at_ i _ u g3 g6).1;rw[f2,a4];exact h5.2 (kg b x.2 _ ad o.1 i r j n l g3 g4 g5))
         (λz Z l b0=>by
          rw[X]at Z;rw[(f6 z.1 z.2 (b5 z Z)).1]at b0;exact a3 z (BZ _ Z) l b0)
         m2
         (λi l g3 g4 k O hu=>by
          have b3:=m3 i l g3 g4 k O;rcases f7 k hu with hu|hu
          ·exact R k (BZ _ b3) hu
          ·exact a0.2.2 k b3 k hu rfl) m4
        have b6:ac (aF S p (.io b::ps) (x::xs) o) S=ac (ca (ac (aF S p ps xs o.2) S) x.2 (aq p b o.1)) (ac (aF S p ps xs o.2) S):=bA _ _ _;rw[b6];rw[X]at q6;refine⟨W2,q1,q2.trans f2,q3.trans f3,q4.trans f4,λq=>⟨(q5 q).1.trans (f5 q).1,CY (f5 q).2 (q5 q).2⟩,λq i hq=>?_,λk O=>?_⟩
        ·simp only[B4,not_or]at hq;exact⟨(q6 q i hq.1).1.trans (f6 q i hq.2).1,(q6 q i hq.1).2.trans (f6 q i hq.2).2⟩
        ·rcases q7 k O with O|⟨i,l,g3,g4,g5⟩
         ·exact (f7 k O).imp id (λhm=>BU _ hm)
         ·exact .inr (BZ _ (m3 i l g3 g4 k g5))
       ·cases ht
    |iop b=>simp[PK.isIop]at hp
    |rd b =>
     match H,ho with
     |Y::M,⟨y,J⟩=>exact I o Y M rfl y J rfl
    |own b =>
     match H,ho with
     |Y::M,⟨y,J⟩=>exact I o Y M rfl y J rfl
    |rref b =>
     match H,ho with
     |Y::M,⟨y,J⟩=>exact I o Y M rfl y J rfl
    |rref2 b =>
     match H,ho with
     |Y::M,⟨y,J⟩=>exact I o Y M rfl y J rfl
    |fn As B =>
     match H,ho with
     |Y::M,⟨y,J⟩=>exact I o Y M rfl y J rfl
    |clo f b2 =>
     match H,ho with
     |Y::M,⟨y,J⟩=>exact I o Y M rfl y J rfl
    |hol b cc off =>
     match H,ho with
     |Y::M,⟨y,J⟩=>exact I o Y M rfl y J rfl
   ·cases hg
  ·cases hg
end
section
variable {P:Program} {V:Env} {W:Wit} {st:St} {w:World} {a:Act}
theorem oH {G ro:Nat->Prop}{p q:Bool}{ks:List (Nat×Nat×Nat)}{ep:Nat}(hG:∀ k,G k->gd V W p k)(d n:Nat) :
  ∀ (O:List RK) (y:aj O) (us:List Value) (Z:List (List Nat)),
  (O.any RK.isBv=true->(∀ k,G k\/ro k->gd V W q k\/∃ x∈ks,k∈W.bs x.1 x.2.1)/\ep<=(st EPO).ver/\(∀ k∈ks,k.2.2<=(st k.1).ver))->gE w G ro O y us Z->O.all RK.isV=true->Z.flatten.Nodup ->
  (bD d n p q ks ep O y).2=[]/\∃ (cs:List Value) (a1:Nat->List Nat),pL ((bD d n p q ks ep O y).1.map λx=>(x.1,x.2.length)) us cs/\(((bD d n p q ks ep O y).1.map (·.2)).flatten).length=cs.length/\(∀ u∈cs,u.oneCell'=true) /\
   (∀ (j:Nat) (l:Leaf) (u:Value),(((bD d n p q ks ep O y).1.map (·.2)).flatten)[j]?=some l->cs[j]?=some u->aI P V W st w (a1 j) l u) /\
   (∀ (j:Nat) (l:Leaf),(((bD d n p q ks ep O y).1.map (·.2)).flatten)[j]?=some l->ao l->∀ k∈a1 j,k∈Z.flatten) /\
   (∀ (j Y:Nat) (l l':Leaf),(((bD d n p q ks ep O y).1.map (·.2)).flatten)[j]?=some l->ao l->(((bD d n p q ks ep O y).1.map (·.2)).flatten)[Y]?=some l'->ao l'->∀ k,k∈a1 j->k∈a1 Y->j=Y)
 |[],y,us,Z,_,⟨e1,e2⟩,_,_=>by
  subst e1;subst e2;exact⟨rfl,[],λ_=>[],⟨rfl,rfl⟩,rfl,by simp,λj l u h1 h2=>by simp at h2,λj l h1 h2 k J=>by simp at J,λj Y l l' _ _ _ _ k J=>by simp at J⟩
 |r::O,y,us,Z,hB,⟨u0,a6,b,a9,e1,e2,hr,a4⟩,hv,a0=>by
  subst e1;subst e2;simp only[DO,BS]at hv;rw[CG,CX]at a0;obtain⟨f0,ad,d2,f1,f2,b5,f3,f4,f5⟩:=oH (ks:=ks) (q:=q) (ep:=ep) hG d n O y.2 a6 a9 (λhb=>hB (by simp[hb])) a4 hv.2 a0.2.1;obtain⟨agg,L,I,d1,g0,b0,g1,g2,b6,g3,g4,g5⟩:∃ (agg:Bool) (L:List Leaf) (I:List Value) (d1:Nat->List Nat),(pH d n p q ks ep r y.1).1=(agg,L)/\(pH d n p q ks ep r y.1).2=[]/\di agg u0 I/\L.length=I.length/\(∀ u∈I,u.oneCell'=true) /\
    (∀ (j:Nat) (l:Leaf) (u:Value),L[j]?=some l->I[j]?=some u->aI P V W st w (d1 j) l u)/\(∀ (j:Nat) (l:Leaf),L[j]?=some l->ao l->∀ k∈d1 j,k∈b) /\
    (∀ (j Y:Nat) (l l':Leaf),L[j]?=some l->ao l->L[Y]?=some l'->ao l'->∀ k,k∈d1 j->k∈d1 Y->j=Y):=by
   cases r with
   |v c =>
    obtain⟨I,h1,h2⟩:=hr;obtain⟨d1,m1,m2,m3,m4⟩:=iM (P:=P) (V:=V) (W:=W) (st:=st) (p:=p) hG h2 a0.1;exact⟨c.isAgg,_,I,d1,rfl,rfl,h1,m1,h2.one,m2,m3,m4⟩
   |bv c =>
    obtain⟨_,I,h1,h2⟩:=hr;obtain⟨b1,b9,b4⟩:=hB (by simp[RK.isBv]);have h3:=jV (P:=P) (V:=V) (W:=W) (st:=st) (p:=q) b9 b4 (h2.mono b1);exact⟨c.isAgg,_,I,λ_=>[],rfl,rfl,h1,h3.length,h2.one,λj l u g1 g2=>(h3.at_ j l u g1 g2).1,λj l _ _ k J=>by simp at J,λj Y l l' _ _ _ _ k J=>by simp at J⟩
   |box c=>simp[RK.isV]at hv
  have b2:(bD d n p q ks ep (r::O) y).1=(agg,L)::(bD d n p q ks ep O y.2).1:=by simp only[bD,g0]
  have b3:(bD d n p q ks ep (r::O) y).2=[]:=by simp only[bD,b0,f0,CJ]
  rw[b2];simp only[Du,CG];have z:∀ (j:Nat) (l:Leaf),(L++((bD d n p q ks ep O y.2).1.map (·.2)).flatten)[j]?=some l->(j<L.length/\L[j]?=some l)\/(L.length<=j/\(((bD d n p q ks ep O y.2).1.map (·.2)).flatten)[j-L.length]?=some l):=by
   intro j l H;by_cases M:j<L.length
   ·rw[BX M]at H;exact .inl ⟨M,H⟩
   ·rw[BW (by omega)]at H;exact .inr ⟨by omega,H⟩
  refine⟨b3,I++ad,λj=>if j<L.length then d1 j else d2 (j-L.length),⟨u0,a6,I,ad,rfl,rfl,g2.symm,g1,f1⟩,by rw[CA,CA,g2,f2],λu hu=>(B4.1 hu).elim (b6 u) (b5 u),λj l u H hu=>?_,λj l H ho k J=>?_,λj Y l l' H ho X a2 k J R=>?_⟩
  ·rcases z j l H with ⟨M,H⟩|⟨a5,H⟩
   ·rw[BX (by omega)]at hu;simp only[if_pos M];exact g3 j l u H hu
   ·rw[BW (by omega),<- g2]at hu;simp only[if_neg (show ¬ j<L.length by omega)];exact f3 _ l u H hu
  ·rcases z j l H with ⟨M,H⟩|⟨a5,H⟩
   ·simp only[if_pos M]at J;exact BZ _ (g4 j l H ho k J)
   ·simp only[if_neg (show ¬ j<L.length by omega)]at J;exact BU _ (f4 _ l H ho k J)
  ·rcases z j l H with ⟨M,H⟩|⟨a5,H⟩ <;> rcases z Y l' X with ⟨a3,X⟩|⟨ba,X⟩
   ·simp only[if_pos M]at J;simp only[if_pos a3]at R;exact g5 j Y l l' H ho X a2 k J R
   ·simp only[if_pos M]at J;simp only[if_neg (show ¬ Y<L.length by omega)]at R;exact absurd rfl (a0.2.2 k (g4 j l H ho k J) k (f4 _ l' X a2 k R))
   ·simp only[if_neg (show ¬ j<L.length by omega)]at J;simp only[if_pos a3]at R;exact absurd rfl (a0.2.2 k (g4 Y l' X a2 k R) k (f4 _ l H ho k J))
   ·simp only[if_neg (show ¬ j<L.length by omega)]at J;simp only[if_neg (show ¬ Y<L.length by omega)]at R;have:=f5 _ _ l l' H ho X a2 k J R;omega
theorem BC {l:List (Bool×List Leaf)}{us cs:List Value}{v:Value}(n:Nat)(h:pL (l.map λx=>(x.1,x.2.length)) us cs)(H:sA us v) :
  ei (eS n l).sh v cs/\(eS n l).ls=(l.map (·.2)).flatten/\(eS n l).ver=n:=by
 match l,us,h with
 |[],_,⟨z,y⟩ =>
  subst z;subst y;exact⟨⟨[],H,rfl,rfl⟩,rfl,rfl⟩
 |[(agg,L)],_,⟨u,r,c,X,z,y,h1,Y,Z,R⟩ =>
  subst z;subst y;subst Z;subst R;have H:v=u:=H;subst H;refine⟨?_,by simp[eS],rfl⟩;simp only[eS,CJ];exact ke Y
 |x::x'::l,us,h =>
  refine⟨?_,rfl,rfl⟩;have J:∃ u M r,us=u::M::r:=by
   obtain⟨u,r,_,_,z,_,_,_,O,I,_,_,y,_⟩:=h;exact⟨u,O,I,by rw[z,y]⟩
  obtain⟨u,M,r,rfl⟩:=J;exact⟨_,H,h⟩
end
section
variable {P:Program} {V:Env} {Γ:List Ctr} {st:St} {w:World} {a:Act}
theorem zq {pk:PK}{x:aG×List Leaf}{g:Got pk.den}(r:ce Γ st pk x=some g)(R:pk.isIop=false):g.lend=[]:=by
 cases pk with
 |iop b=>simp[PK.isIop]at R
 |rd b =>
  simp only[ce,bf]at r;cases u:decide (x.1=bg b.isAgg) with
  |false=>simp[u]at r
  |true=>rw[u]at r;simp only[cond_true,BR]at r;obtain⟨y,_,rfl⟩:=r;rfl
 |own b =>
  simp only[ce,bf]at r;cases u:decide (x.1=bg b.isAgg) with
  |false=>simp[u]at r
  |true=>rw[u]at r;simp only[cond_true,BR]at r;obtain⟨y,_,rfl⟩:=r;rfl
 |io b =>
  simp only[ce,bf]at r;cases u:decide (x.1=bg b.isAgg) with
  |false=>simp[u]at r
  |true=>rw[u]at r;simp only[cond_true,BR]at r;obtain⟨y,_,rfl⟩:=r;rfl
 |rref b=>exact cap (c:=(false,b)) r
 |rref2 b=>exact cap (c:=(true,b)) r
 |fn X B =>
  simp only[ce]at r;split at r
  ·unfold ky at r;split at r
   ·unfold sm at r;split at r
    ·rename_i c _ hh;cases u:(c.ps.drop X.length).all PK.reads&&B.flat&&c.fresh with
     |false=>rw[u]at r;cases r
     |true =>
      rw[u]at r;simp only[cond_true]at r;split at r
      ·simp only[BQ]at r;subst r;rfl
      ·cases r
    ·cases r
   ·cases r
  ·simp only[bf]at r;split at r
   ·split at r
    ·simp only[BQ]at r;subst r;rfl
    ·cases r
   ·cases r
 |hol b Z off =>
  simp only[ce,bf]at r;cases u:decide (x.1=bg b.isAgg) with
  |false=>simp[u]at r
  |true =>
   rw[u]at r;simp only[cond_true]at r;split at r
   ·split at r
    ·rename_i Y _ _ _ _;cases z:CC Y off with
     |false=>simp[z]at r
     |true =>
      rw[z]at r;simp only[cond_true]at r;split at r
      ·split at r
       ·simp only[BQ]at r;subst r;rfl
       ·cases r
      ·cases r
    ·cases r
   ·cases r
 |clo f I =>
  simp only[ce,bf]at r;split at r
  ·rename_i J H _;cases u:CC J f with
   |false=>simp[u]at r
   |true=>rw[u]at r;exact caps_ r
  ·rename_i J H _;cases u:CC J f with
   |false=>simp[u]at r
   |true=>rw[u]at r;exact caps_ r
  ·cases r
where
 cap {c:Bool×Ty} {l:Leaf} {g:Got c.2.den} (r:fk st c l=some g):g.lend=[]:=by
  unfold fk at r;cases O:c.1 with
  |true =>
   rw[O]at r;simp only[cond_true]at r;split at r
   ·split at r
    ·simp only[BR]at r;obtain⟨y,_,rfl⟩:=r;rfl
    ·cases r
   ·cases r
  |false =>
   rw[O]at r;simp only[cond_false]at r;split at r
   ·simp only[BR]at r;obtain⟨y,_,rfl⟩:=r;rfl
   ·cases r
 caps_:∀ {I:List (Bool×Ty)} {M:List Leaf} {g:Got (lQ I)},cC st I M=some g->g.lend=[]
  |[],[],g,r=>by simp only[cC,BQ]at r;subst r;rfl
  |[],_::_,_,r=>by simp[cC]at r
  |_::_,[],_,r=>by simp[cC]at r
  |c::I,l::M,g,r=>by
   simp only[cC]at r;split at r
   ·split at r
    ·simp only[BQ]at r;subst r;rfl
    ·cases r
   ·cases r
theorem tS:∀ (ps:List PK) (xs:List (aG×List Leaf)) (g:Got (ab ps)),a8 (ce Γ st) ps xs=some g->g.lend=[]->ps.any PK.isIop=false
 |[],_,_,_,_=>rfl
 |_::_,[],_,u,_=>by simp[a8]at u
 |J::ps,x::xs,g,u,y=>by
  simp only[a8]at u;split at u
  ·rename_i M r;split at u
   ·rename_i I z;simp only[BQ]at u;subst u;simp only[List.append_eq_nil_iff]at y;rw[Cq,tS ps xs I z y.2,Bool.or_false];cases J with
    |iop b =>
     simp only[ce,bf]at r;split at r
     ·rename_i q _;cases H:decide ((st q).sh=.agg) with
      |false=>simp[H]at r
      |true =>
       rw[H]at r;simp only[cond_true,BR]at r;obtain⟨t,_,rfl⟩:=r;simp at y
     ·cases r
    |_=>rfl
   ·cases u
  ·cases u
theorem po {W0:Wit}{S0 S:St}{w0:World}{a0:Act}(h0:ap P V W0 S0 a0 w0){G:Nat->Prop}{p:Bool} :
  ∀ (ps:List PK) (xs:List (aG×List Leaf)) (vs:List Value) (g:Got (ab ps)) (o:ai ps) (u:List (List Nat)),gX P V W0 S0 w0 xs vs->a8 (ce Γ S0) ps xs=some g->ps.any PK.isIo=false->bL w G ps o vs u ->
  (g.lend=[]->aF S p ps xs o=[]/\u.flatten=[]) /\
  (∀ b,g.lend=[b]->∃ (c:Ty) (y:c.den) (cs:List Value) (E:TypeId) (Z:List Nat),aF S p ps xs o=[(b,⟨(S b).ver+2,.agg,aq p c y⟩)]/\w.heap[W0.β b]?=some (.cells cs.toArray E (0,0))/\Mx w G c none 0 y cs Z/\u.flatten=W0.β b::Z/\(S0 b).ls.length=c.cells)
 |[],[],vs,g,o,u,hx,M,_,X=>by
  simp only[a8,BQ]at M;subst M;refine⟨λ_=>⟨rfl,?_⟩,λb hb=>by simp at hb⟩
  match vs,u,X with
  |[],[],_=>rfl
 |[],_::_,_,_,_,_,_,M,_,_=>by simp[a8]at M
 |_::_,[],_,_,_,_,_,M,_,_=>by simp[a8]at M
 |pk::ps,x::xs,vs,g,o,u,hx,M,hn,X=>by
  obtain⟨v,a1,cs,rfl,hs,hl,R⟩:=hx;simp only[a8]at M;split at M
  ·rename_i g1 J;split at M
   ·rename_i g2 a4;simp only[BQ]at M;subst M;simp only[Cq,DK]at hn;have z:∀ (o':ai ps) (b:List Nat) (I:List (List Nat)),pk.isIop=false->u=b::I->b=[]->bL w G ps o' a1 I->aF S p (pk::ps) (x::xs) o=aF S p ps xs o' ->
      (g1.lend++g2.lend=[]->aF S p (pk::ps) (x::xs) o=[]/\u.flatten=[]) /\
      (∀ b,g1.lend++g2.lend=[b]->∃ (c:Ty) (y:c.den) (cs:List Value) (E:TypeId) (Z:List Nat),aF S p (pk::ps) (x::xs) o=[(b,⟨(S b).ver+2,.agg,aq p c y⟩)]/\w.heap[W0.β b]?=some (.cells cs.toArray E (0,0))/\Mx w G c none 0 y cs Z/\u.flatten=W0.β b::Z/\(S0 b).ls.length=c.cells):=by
     intro o' b I hi e1 e2 a6 e3;subst e1;subst e2;rw[e3,zq J hi];simpa using po h0 (S:=S) (p:=p) ps xs a1 g2 o' I R a4 hn.2 a6
    cases pk with
    |iop b =>
     match u,X with
     |O::I,⟨r,H⟩ =>
      obtain⟨r1,r2⟩:=po h0 (S:=S) (p:=p) ps xs a1 g2 o.2 I R a4 hn.2 H;simp only[ce,bf]at J;split at J
      ·rename_i q hq;cases hb:decide ((S0 q).sh=.agg) with
       |false=>simp[hb]at J
       |true =>
        rw[hb]at J;simp only[cond_true,BR]at J;obtain⟨t,ht,rfl⟩:=J;refine⟨λhb=>by simp at hb,λb' Y=>?_⟩;simp only[DD,Ct]at Y;obtain⟨rfl,Y⟩:=Y;obtain⟨r3,r4⟩:=r1 Y;obtain⟨a9,_⟩:=gV hs hl hq (by simp);unfold ju at r;rw[if_pos rfl]at r;obtain⟨g',a3,E,Z,hv,a2,hm,rfl⟩:=r;have a5:g'=W0.β q:=by
         have h9:=a9.2.2;rw[hv]at h9;simp only[Value.pointer.injEq,BQ,Cz,and_true]at h9;exact h9
        subst a5;refine⟨b,o.1,a3,E,Z,?_,a2,hm,by rw[CG,r4,CJ],?_⟩
        rotate_left
        ·rw[h0.len];exact (dP (pos:=0) h0 (iD h0 q) ht).1.len
        simp only[aF,r3,hq,CJ];rfl
      ·cases J
    |io b=>simp[PK.isIo]at hn
    |rd b =>
     match u,X with
     |O::I,⟨r,H⟩=>exact z o O I rfl rfl r H rfl
    |own b =>
     match u,X with
     |O::I,⟨r,H⟩=>exact z o O I rfl rfl r H rfl
    |rref b =>
     match u,X with
     |O::I,⟨r,H⟩=>exact z o O I rfl rfl r H rfl
    |rref2 b =>
     match u,X with
     |O::I,⟨r,H⟩=>exact z o O I rfl rfl r H rfl
    |fn As B =>
     match u,X with
     |O::I,⟨r,H⟩=>exact z o O I rfl rfl r H rfl
    |clo f a3 =>
     match u,X with
     |O::I,⟨r,H⟩=>exact z o O I rfl rfl r H rfl
    |hol b cc off =>
     match u,X with
     |O::I,⟨r,H⟩=>exact z o O I rfl rfl r H rfl
   ·cases M
  ·cases M
end
section
variable {P:Program} {V:Env}
theorem wJ (hV:ay V){W:Wit}{S:St}{a:Act}{w:World}(h:ap P V W S a w){M:List RK}{y:aj M}{us:List Value}{Y:List (List Nat)}{v:Value}{p q:Bool}{ks:List (Nat×Nat×Nat)}{ep:Nat}{G ro:Nat->Prop}
  (Z:gE w G ro M y us Y) (hG:∀ k,G k->gd V W p k)
  (hB:M.any RK.isBv=true->(∀ k,G k\/ro k->gd V W q k\/∃ x∈ks,k∈W.bs x.1 x.2.1)/\ep<=(S EPO).ver/\(∀ k∈ks,k.2.2<=(S k.1).ver))
  (H:∀ k∈Y.flatten,¬ cf V W S k) (a4:Y.flatten.Nodup) (I:sA us v) {d:Nat} (hd:d<V.nt) (a0:∀ x∈V.fixt,x.1≠d) (r:gL S d M=true) :
  ∃ W1,ap P V W1 (ac ((d,eS ((ac (bD d (S (B0+d)).ver p q ks ep M y).2 S d).ver+1) (bD d (S (B0+d)).ver p q ks ep M y).1)::(bD d (S (B0+d)).ver p q ks ep M y).2) S) (a.put (some d) v) w /\
   ∀ z,z≠d->z≠B0+d->W1.cs z=W.cs z:=by
 cases hv:M.all RK.isV with
 |true =>
  obtain⟨m0,cs,a1,m1,m2,m3,m4,m5,m6⟩:=oH (P:=P) (W:=W) (st:=S) (p:=p) (q:=q) (ks:=ks) (ep:=ep) hG d (S (B0+d)).ver M y us Y hB Z hv a4;rw[m0];obtain⟨s1,s2,s3⟩:=BC ((S d).ver+1) m1 I;show ∃ W1,ap P V W1 (ac [(d,eS ((S d).ver+1) (bD d (S (B0+d)).ver p q ks ep M y).1)] S) (a.put (some d) v) w/\_;generalize eS ((S d).ver+1) (bD d (S (B0+d)).ver p q ks ep M y).1=rc at s1 s2 s3 ⊢;obtain⟨v0,b2,bb⟩:=rc;simp only at s1 s2 s3;subst s3;subst s2;have a2:=h.put hV d hd a0 ((S d).ver+1) b2 _ v cs a1 (B5 _) s1 m2 m3 m4
   (λj l R ho k X=>by
    have b6:=m5 j l R ho k X;have J:=H k b6;simp only[cf,not_or,not_exists,not_and]at J;exact⟨J.1,J.2.1,J.2.2.1,λr1 j1 l1 _ h8 h9=>J.2.2.2 r1 j1 l1 h8 h9⟩) m6
  refine⟨_,a2,λz hz _=>?_⟩;show (if z=d then cs else W.cs z)=_;rw[if_neg hz]
 |false =>
  have hb:∃ b,M=[.box b]:=by
   unfold gL at r;split at r
   ·exact⟨_,rfl⟩
   ·rw[hv]at r;cases r
  obtain⟨b,rfl⟩:=hb;obtain⟨u0,ba,rb,b9,e1,e2,⟨g',cs,E,b0,b3,a9,hm,b1⟩,e3,e4⟩:=Z;subst e3;subst e4;subst e1;subst e2;subst b1;have I:v=u0:=I;subst I;subst b3;have a5:(S (B0+d)).sh=.off:=by simpa[gL]using r
  have O:(g'::b0).Nodup:=by simpa using a4
  rw[Cb]at O;obtain⟨a1,m1,m2,m3,m4⟩:=iM (P:=P) (V:=V) (W:=W) (st:=S) (p:=p) hG hm O.2;have a3:d≠B0+d:=by simp[B0]
  have b4:=H g' (by simp);have a6:=h.setBoxG hV (B0+d) (Cp _ _) ((S (B0+d)).ver+1) (aq p b y.1) cs a1 g' E (w':=w) (B5 _)
   (.inr ⟨by simp[live,a5],b4,λj l R ho k X e0=>O.1 (by rw[<- e0];exact m3 j l R ho k X)⟩) a9 (λ_ _ _=>rfl) (λ_ _ _ _ _ _ _=>rfl) (CD _) rfl rfl rfl m1 hm.one m2
   (λj l R ho k X=>by
    have J:=H k (by simp;exact .inr (m3 j l R ho k X));simp only[cf,not_or,not_exists,not_and]at J;exact⟨J.1,J.2.1,J.2.2.1,λr1 j1 l1 _ h8 h9=>J.2.2.2 r1 j1 l1 h8 h9⟩) m4
  have b5:=a6.put hV d hd a0 ((S d).ver+1) .one [.bp (B0+d) 0] (.pointer (some ⟨g',0,none⟩)) [.pointer (some ⟨g',0,none⟩)] (λ_=>[]) (by rw[aH a3];exact B5 _) rfl rfl (λu J=>by simp at J;subst J;rfl)
   (λj l u R g9=>by
    cases j with
    |zero=>simp at R g9;subst R;subst g9;exact⟨Cp _ _,by rw[bk],by simp⟩
    |succ j=>simp at R)
   (λj l R ho k X=>by simp at X) (λj j' l l' _ _ _ _ k X=>by simp at X)
  have e1:ac (bD d (S (B0+d)).ver p q ks ep [.box b] y).2 S=ac [(B0+d,⟨(S (B0+d)).ver+1,.agg,aq p b y.1⟩)] S:=rfl;rw[aP,e1,aH a3];refine⟨_,b5,λz hz ad=>?_⟩;show (if z=d then _ else (if z=B0+d then _ else W.cs z))=_;rw[if_neg hz,if_neg ad]
theorem uS (r:Nat)(c u:bT)(S:St):ac [(r,c)] (ac [(r,u)] S)=ac [(r,c)] S:=by
 funext q;rcases am r q c (ac [(r,u)] S) with ⟨rfl,e⟩|⟨h,e⟩
 ·rw[e,bk]
 ·rw[e,aH h,aH h]
theorem zr (hV:ay V){W:Wit}{S:St}{a:Act}{w w':World}(h:ap P V W S a w){b:Nat}(hb:live S b){N:Nat->Prop}{cs:List Value}{E:TypeId}{c:Ty}{y:c.den}{b0:List Nat}{G:Nat->Prop}{p:Bool}
  (Z:w'.heap[W.β b]?=some (.cells cs.toArray E (0,0))) (hm:Mx w' G c none 0 y cs b0) (a3:(W.β b::b0).Nodup) (a6:(S b).ls.length=c.cells)
  (a2:∀ k,cf V W S k->k≠W.β b->w'.heap[k]?=w.heap[k]?) (ad:w.heap.size<=w'.heap.size) (b1:w'.os=w.os) (ht:w'.tape=w.tape) (ho:w'.output=w.output)
  (hN:∀ k,N k->k<w'.heap.size/\¬ cf V W S k) (a1:∀ k∈b0,¬ cf V W S k/\¬ N k) (hG:∀ k,G k->gd V { W with nw:=λk=>W.nw k\/N k } p k) :
  ∃ W1,ap P V W1 (ac [(b,⟨(S b).ver+2,.agg,aq p c y⟩)] S) a w'/\W1.β=W.β/\(∀ k,W1.nw k<->W.nw k\/N k)/\(∀ q,q≠b->W1.cs q=W.cs q)/\(∀ q i,q≠b->W1.bs q i=W.bs q i) /\
   (∀ k,cf V W1 (ac [(b,⟨(S b).ver+2,.agg,aq p c y⟩)] S) k->cf V W S k\/N k\/k∈b0):=by
 have J:∀ (q:Nat),(if q=b then W.β b else W.β q)=W.β q:=λq=>by split <;> simp_all
 have h1:=h.setBoxG hV b hb.1 ((S b).ver+1) (CZ cs.length .dead) cs (λ_=>[]) (W.β b) E (w':=w') (B5 _) (.inl ⟨hb,rfl⟩) Z a2 (λ_ _ _ _ k H=>by simp at H) ad b1 ht ho (by simp) hm.one
  (λj l u I R=>by
   rw[Cl]at I;split at I
   ·simp at I;subst I;trivial
   ·cases I)
  (λj l I R k H=>by simp at H) (λj j' l l' _ _ _ _ k H=>by simp at H)
 have a0:∀ (j:Nat) (l:Leaf),(CZ cs.length Leaf.dead)[j]?=some l->¬ ao l:=by
  intro j l I;rw[Cl]at I;split at I
  ·simp at I;subst I;exact id
  ·cases I
 have a5:∀ z,live (ac [(b,⟨(S b).ver+1,.agg,CZ cs.length .dead⟩)] S) z->live S z:=by
  intro z Y;rcases am b z ⟨(S b).ver+1,.agg,CZ cs.length .dead⟩ S with ⟨rfl,e⟩|⟨_,e⟩
  ·exact hb
  ·exact⟨Y.1,by rw[<- e];exact Y.2⟩
 have a9:∀ k,cf V { W with β:=λr=>if r=b then W.β b else W.β r,cs:=λr=>if r=b then cs else W.cs r,bs:=λr j=>if r=b then [] else W.bs r j } (ac [(b,⟨(S b).ver+1,.agg,CZ cs.length .dead⟩)] S) k->cf V W S k:=by
  rintro k (H|H|⟨z,Y,H⟩|⟨z,i,l,I,R,O⟩)
  ·exact .inl H
  ·exact .inr (.inl H)
  ·exact .inr (.inr (.inl ⟨z,a5 z Y,by rw[<- H];exact (J z).symm⟩))
  ·by_cases M:z=b
   ·subst M;rw[bk]at I;exact absurd R (a0 i l I)
   ·rw[aH M]at I;simp only[if_neg M]at O;exact .inr (.inr (.inr ⟨z,i,l,I,R,O⟩))
 have h2:=h1.nwGrow hV N (λk H=>⟨(hN k H).1,λhu=>(hN k H).2 (a9 k hu)⟩);rw[Cb]at a3;obtain⟨X,m1,m2,m3,m4⟩:=iM (P:=P) (V:=V) (W:={ W with β:=λr=>if r=b then W.β b else W.β r,cs:=λr=>if r=b then cs else W.cs r,bs:=λr j=>if r=b then [] else W.bs r j,nw:=λk=>W.nw k\/N k })
  (st:=ac [(b,⟨(S b).ver+1,.agg,CZ cs.length .dead⟩)] S) (p:=p) (λk H=>hG k H) hm a3.2
 have b4:=hm.len;have b3:=cM p c y;have h3:=h2.reown hV b ⟨(S b).ver+2,.agg,aq p c y⟩ X (by rw[bk];exact B5 _) (by rw[bk]) (by rw[bk,DE];omega)
  (λj l v I R=>m2 j l v I (by simpa using R))
  (λj l I R k H=>by
   have b2:=m3 j l I R k H;obtain⟨q1,q2⟩:=a1 k b2;refine⟨λhn=>hn.elim (λhn=>q1 (.inl hn)) q2,λhp=>q1 (.inr (.inl hp)),λz Y e0=>q1 (.inr (.inr (.inl ⟨z,a5 z Y,by rw[<- e0];exact (J z).symm⟩))),λr1 j1 l1 a4 O g4 g5=>?_⟩;rw[aH a4]at O;have g5:k∈(if r1=b then [] else W.bs r1 j1):=g5;rw[if_neg a4]at g5;exact q1 (.inr (.inr (.inr ⟨r1,j1,l1,O,g4,g5⟩)))) m4
 rw[uS]at h3;refine⟨_,h3,funext λq=>J q,λk=>C7,λq hq=>if_neg hq,λq i hq=>?_,?_⟩
 ·show (if q=b then X i else if q=b then [] else W.bs q i)=_;rw[if_neg hq,if_neg hq]
 ·rintro k ((H|H)|H|⟨z,Y,H⟩|⟨z,i,l,I,R,O⟩)
  ·exact .inl (.inl H)
  ·exact .inr (.inl H)
  ·exact .inl (.inr (.inl H))
  ·refine .inl (.inr (.inr (.inl ⟨z,?_,by rw[<- H];exact (J z).symm⟩)));rcases am b z ⟨(S b).ver+2,.agg,aq p c y⟩ S with ⟨rfl,e⟩|⟨_,e⟩
   ·exact hb
   ·exact⟨Y.1,by rw[<- e];exact Y.2⟩
  ·by_cases M:z=b
   ·subst M;rw[bk]at I;have O:k∈(if z=z then X i else _):=O;rw[if_pos rfl]at O;exact .inr (.inr (m3 i l I R k O))
   ·rw[aH M]at I;have O:k∈(if z=b then X i else if z=b then [] else W.bs z i):=O;rw[if_neg M,if_neg M]at O;exact .inl (.inr (.inr (.inr ⟨z,i,l,I,R,O⟩)))
end
section
variable {P:Program} {V:Env} {Γ:List Ctr} {st:St} {R:Type}
theorem gG:∀ (ps:List PK) (xs:List (aG×List Leaf)) (r:Upd->List (aG×List Leaf)->Option (Bool×Nat×Nat)->Option R),kz st ps xs r=(c8 st ps xs).bind λu=>r u.1 u.2.1 u.2.2
 |[],xs,r=>rfl
 |_::_,[],r=>rfl
 |p::ps,x::xs,r=>by
  simp only[kz,c8];split
  ·rw[hZ];cases cn st (x.2.getD _ .dead) <;> rfl
  ·rw[gG ps xs];cases c8 st ps xs <;> rfl
theorem lf {a:Ty}:∀ {ls:List Leaf} {j k:Nat},lu a j ls=some k->j<=k/\∃ l,ls[k-j]?=some l/\jp l=true
 |[],_,_,h=>by simp[lu]at h
 |l::ls,j,k,h=>by
  simp only[lu]at h;cases r:jp l&&pI a j with
  |true =>
   rw[r]at h;simp only[cond_true,BQ]at h;subst h;simp only[BS]at r;exact⟨CD _,l,by simp,r.1⟩
  |false =>
   rw[r]at h;obtain⟨H,u,y,z⟩:=lf h;exact⟨by omega,u,by rw[show k-j=(k-(j+1))+1 by omega];simpa using y,z⟩
theorem rO {p:PK}{ls:List Leaf}{k:Nat}(h:p.nest ls=some k):∃ l,ls[k]?=some l/\jp l=true:=by
 cases p with
 |own a=>obtain⟨_,l,r,u⟩:=lf h;exact⟨l,by simpa using r,u⟩
 |io a=>obtain⟨_,l,r,u⟩:=lf h;exact⟨l,by simpa using r,u⟩
 |_=>simp[PK.nest]at h
theorem tT (u:ay V){W W':Wit}{st':St}{w w':World}(y:cH V W W' st st' w w'):∀ {xs:List (aG×List Leaf)} {z:List Value},gX P V W st w xs z->gX P V W' st' w' xs z
 |[],_,h=>h
 |_::_,_,⟨v,r,H,e,I,J,M⟩=>⟨v,r,H,e,I,J.carry u.ro y,tT u y M⟩
theorem aC.setLeaf {W:Wit}{w:World}{ls:List Leaf}{cs:List Value}(y:aC P V W st w ls cs){k:Nat}{l:Leaf}(u:¬ ao l)(h:∀ v,cs[k]?=some v->aI P V W st w [] l v):aC P V W st w (aS ls k l) cs:=by
 have r:=y.length;refine aC.mk (by simp[aS,r]) λj I v z H=>?_
 rcases aR _ _ _ _ _ z with ⟨rfl,rfl,M⟩|⟨J,z⟩
 ·exact⟨h v H,u,y.one' v (List.mem_of_getElem? H)⟩
 ·exact y.at_ j I v z H
def BD (W:Wit)(S:St)(w:World):Option (Bool×Nat×Nat)->Prop
 |some (_,r,j)=>∃ v,W.cs TMP=[v]/\tO W S w r j v
 |none=>True
theorem oI (O:ay V){W:Wit}{a:Act}{w:World}(h:ap P V W st a w):∀ (ps:List PK) (xs:List (aG×List Leaf)) (vs:List Value) (U:Upd) (Y:List (aG×List Leaf)) (b:Option (Bool×Nat×Nat)),
  gX P V W st w xs vs->c8 st ps xs=some (U,Y,b)->∃ H,ap P V H (ac U st) a w/\gX P V H (ac U st) w Y vs/\H.nw=W.nw/\H.β=W.β/\BD H (ac U st) w b/\cH V W H st (ac U st) w w/\(∀ q,(ac U st q).sh=(st q).sh\/q=TMP) /\
   (∀ f r j,b=some (f,r,j)->f=true->ps.any PK.isIo=true)
 |[],xs,vs,U,Y,b,hx,y=>by
  simp only[c8,BQ,CT]at y;obtain⟨rfl,rfl,rfl⟩:=y;exact⟨W,h,hx,rfl,rfl,trivial,cH.refl V W st w,λ_=>.inl rfl,λ_ _ _ h=>by cases h⟩
 |_::_,[],vs,U,Y,b,hx,y=>by
  simp only[c8,BQ,CT]at y;obtain⟨rfl,rfl,rfl⟩:=y;exact⟨W,h,hx,rfl,rfl,trivial,cH.refl V W st w,λ_=>.inl rfl,λ_ _ _ h=>by cases h⟩
 |p::ps,x::xs,vs,U,Y,b,⟨v,J,cs,e,hs,hl,z⟩,y=>by
  subst e;simp only[c8]at y;split at y
  ·rename_i k hk;simp only[BR]at y;obtain⟨u,I,y⟩:=y;simp only[CT]at y;obtain⟨rfl,rfl,rfl⟩:=y;obtain⟨l,M,a1⟩:=rO hk;have hg:x.2.getD k .dead=l:=by rw[CV,M];rfl
   rw[hg]at I ⊢;have a0:k<cs.length:=by rw[<- hl.length];exact (BT.1 M).1
   have Z:=CB a0;obtain⟨U,l'⟩:=u;obtain⟨H,n,p0,E0,e0,a2,g1,X,g3,g4,_,_,g5,g6,_,g7,g8,g9⟩:=vr O h (hl.at_ k l _ M Z).1 I;subst g3;refine⟨H,g1,⟨v,J,cs,rfl,hs,(hl.carry O.ro X).setLeaf id λu I=>?_,tT O X z⟩,g5,g6,⟨_,g7,g9⟩,X,g8,λf r j hb hf=>?_⟩
   ·rw[Z]at I;simp only[BQ]at I;subst I;exact g4
   ·simp only[BQ,CT]at hb;rw[Cq,hb.1,hf];rfl
  ·simp only[BR]at y;obtain⟨u,I,y⟩:=y;simp only[CT]at y;obtain⟨rfl,rfl,rfl⟩:=y;obtain⟨H,g1,X,g3,g4,g5,g6,g7,g8⟩:=oI O h ps xs J u.1 u.2.1 u.2.2 z I;exact⟨H,g1,⟨v,J,cs,rfl,hs,hl.carry O.ro g6,X⟩,g3,g4,g5,g6,g7,λf r j hb hf=>by rw[Cq,g8 f r j hb hf,Bool.or_true]⟩
end
section
variable {P:Program} {V:Env} {Γ:List Ctr} {st:St}
theorem iN {st:St}{q i:Nat}:∀ {ks:List (Nat×Nat)},(q,i)∉ks->(ac (aE st ks) st q).ls[i]?=(st q).ls[i]?
 |[],_=>rfl
 |(r,j)::ks,h=>by
  simp only[Ci,not_or]at h;have e:ac (aE st ((r,j)::ks)) st=ac [(r,f9 (ac (aE st ks) st r) j)] (ac (aE st ks) st):=aP _ _ _ _;rw[e];rcases am r q (f9 (ac (aE st ks) st r) j) (ac (aE st ks) st) with ⟨rfl,e⟩|⟨_,e⟩
  ·rw[e];simp only[f9,aS];rw[Cf (λu=>h.1 (by rw[u]))];exact iN h.2
  ·rw[e];exact iN h.2
theorem lg {st:St}{q i:Nat}:∀ {ks:List (Nat×Nat)},(q,i)∉ks->(ac (aM st ks) st q).ls[i]?=(st q).ls[i]?
 |[],_=>rfl
 |(r,j)::ks,h=>by
  simp only[Ci,not_or]at h;have e:ac (aM st ((r,j)::ks)) st=ac [(r,gi (ac (aM st ks) st r) j)] (ac (aM st ks) st):=aP _ _ _ _;rw[e];rcases am r q (gi (ac (aM st ks) st r) j) (ac (aM st ks) st) with ⟨rfl,e⟩|⟨_,e⟩
  ·rw[e];simp only[gi,aS];rw[Cf (λu=>h.1 (by rw[u]))];exact lg h.2
  ·rw[e];exact lg h.2
theorem nv (d n:Nat)(p q:Bool)(ks:List (Nat×Nat×Nat))(ep:Nat):∀ (z:List RK) (y:aj z),∀ x∈(bD d n p q ks ep z y).2,x.1=B0+d
 |[],_,x,u=>by simp[bD]at u
 |r::z,y,x,u=>by
  simp only[bD,B4]at u;rcases u with u|u
  ·cases r <;> simp[pH]at u;rw[u]
  ·exact nv d n p q ks ep z y.2 x u
theorem rP {q:Nat}(st:St):∀ (U:Upd),(∀ x∈U,x.1≠q)->ac U st q=st q
 |[],_=>rfl
 |(r,c)::U,h=>by
  rw[aP,aH (Cg (h (r,c) (CF ..)))];exact rP st U (λx u=>h x (B8 _ u))
def mA (u:St)(c:Ctr)(d:Nat)(xs:List (aG×List Leaf))(g:Got (ab c.ps))(y:aj c.rs×ai c.ps):Upd :=
 let H:=(let U:=(bif c.fresh then [] else aE u g.frz);aM (ac U u) g.kill++U);let z:=aF (ac H u) (g.p&&!c.fresh) c.ps xs y.2++H;let r:=bD d (ac z u (B0+d)).ver (g.p&&!c.fresh) g.p (g.frz.map λk=>(k.1,k.2,(ac z u k.1).ver)) (ac z u EPO).ver c.rs y.1
 (d,eS ((ac (r.2++z) u d).ver+1) r.1)::(r.2++z)
theorem zt (hV:ay V){W0:Wit}{u:St}{a:Act}{w:World}(h0:ap P V W0 u a w){c:Ctr}{xs:List (aG×List Leaf)}{vs:List Value}(ej:gX P V W0 u w xs vs){g:Got (ab c.ps)}(hg:a8 (ce Γ u) c.ps xs=some g)
  (hf:∀ z∈g.frz,aB u z) (H:∀ z∈g.kill,aB u z) (ey:∀ b∈g.lend,live u b) (eg:aZ g.kill=true) (d2:dF g.frz g.kill=true) (hE:∀ z∈g.kill,z.1≠EPO) (b3:g.lend.length<=1) (es:g.lend=[]\/c.ps.any PK.isIo=false)
  {ba:List (List Nat)} (c1:∀ k,ba.flatten.count k=(g.lend.map W0.β).count k+(aY W0 g.kill).count k)
  {d:Nat} (hd:d<V.nt) (dc:∀ x∈V.fixt,x.1≠d) (a4:gL u d c.rs=true) (e0:((c.fresh&&g.lend.isEmpty)||!(c.rs.any RK.isBv))=true) {y:aj c.rs×ai c.ps} {e:Ending} {w':World} (cw:tP c w (bo V W0 g.p g.frz) vs ba y e w') :
  ∃ v,e=.returned v/\∃ W1,ap P V W1 (ac (mA u c d xs g y) u) (a.put (some d) v) w'/\(∀ q,q≠d->q≠B0+d->q∉g.lend->W1.cs q=W0.cs q) /\
   (∀ q i,q≠d->q≠B0+d->q∉g.lend->(q,i)∉g.frz->(q,i)∉g.kill->(ac (mA u c d xs g y) u q).ls[i]?=(u q).ls[i]?)/\(∀ k,k<w.heap.size->k∉aY W0 g.kill->k∉g.lend.map W0.β->w'.heap[k]?=w.heap[k]?)/\w.heap.size<=w'.heap.size:=by
 obtain⟨v,us,N,cc,b9,rfl,e5,cp,ef,e7,ec,ex,hN,bl,d3,R,a0⟩:=cw;have a3:∀ k,k∈ba.flatten<->k∈g.lend.map W0.β\/k∈aY W0 g.kill:=λk=>by
  rw[<- B3,<- B3,<- B3,c1 k];omega
 have Z:∀ k,k<w.heap.size->k∉aY W0 g.kill->k∉g.lend.map W0.β->w'.heap[k]?=w.heap[k]?:=λk h1 h2 h3=>ex k h1 (λh=>((a3 k).1 h).elim h3 h2)
 refine⟨v,rfl,?_⟩;unfold mA;generalize bb:(bif c.fresh then [] else g.frz)=O;have hU:(bif c.fresh then [] else aE u g.frz)=aE u O:=by rw[<- bb];cases c.fresh <;> rfl
 have e4:dF O g.kill=true:=by rw[<- bb];cases c.fresh with|true=>rfl|false=>exact d2
 have bn:∀ z∈O,z∈g.frz:=by rw[<- bb];cases c.fresh with|true=>simp|false=>exact λ_ h=>h
 have f1:∀ z∈O,aB u z:=λz hz=>hf z (bn z hz)
 rw[hU];obtain⟨h1,h2,h3,h4⟩:=fJ hV h0 e4 H;have b1:∀ q i,(q,i)∉g.frz->(q,i)∉g.kill->(ac (aM (ac (aE u O) u) g.kill++aE u O) u q).ls[i]?=(u q).ls[i]?:=λq i q1 q2=>by
  rw[bA,lg q2,iN (λh=>q1 (bn _ h))]
 generalize f2:aM (ac (aE u O) u) g.kill++aE u O=I at h1 h2 h3 h4 b1;have a2:∀ k∈aY W0 g.kill,¬ cf V (W0.frz u O) (ac I u) k:=λk H=>mv ⟨(h4 k H).1,(h4 k H).2.1,(h4 k H).2.2.2.1,(h4 k H).2.2.2.2⟩
 have a1:∀ k,ql w w' ba.flatten k->k∉g.lend.map W0.β->k<w'.heap.size/\¬ cf V (W0.frz u O) (ac I u) k:=by
  rintro k ⟨f0,a9⟩ ev;refine⟨f0,λM=>?_⟩;rcases a9 with a9|a9
  ·have:=h1.used_lt k M;omega
  ·exact ((a3 k).1 a9).elim ev (λa9=>a2 k a9 M)
 have hG:∀ k,(N k\/(c.fresh=false/\bo V W0 g.p g.frz k))->gd V { W0.frz u O with nw:=λk=>(W0.frz u O).nw k\/N k } (g.p&&!c.fresh) k:=by
  rintro k (H|⟨ed,H⟩)
  ·exact .inl (.inr H)
  ·have e1:O=g.frz:=by rw[<- bb,ed];rfl
   have:=km (V:=V) (W:=W0) (p:=g.p) hf k H;rw[ed];rw[<- e1]at this;exact bU (W':={ W0.frz u O with nw:=λk=>(W0.frz u O).nw k\/N k }) (by intro h;simp[h]) (λ_ h=>Or.inl h) k this
 rw[CX]at R;have c5:∀ (W2:Wit),ap P V W2 (ac (aF (ac I u) (g.p&&!c.fresh) c.ps xs y.2++I) u) a w'->(∀ k,(N k\/(c.fresh=false/\bo V W0 g.p g.frz k))->gd V W2 (g.p&&!c.fresh) k) ->
   (∀ k∈b9.flatten,¬ cf V W2 (ac (aF (ac I u) (g.p&&!c.fresh) c.ps xs y.2++I) u) k) ->
   (c.rs.any RK.isBv=true->∀ x∈g.frz,∀ k,k∈W0.bs x.1 x.2->k∈W2.bs x.1 x.2)->(c.rs.any RK.isBv=true->∀ k,W0.nw k->W2.nw k) ->
   (∀ q,q∉g.lend->W2.cs q=W0.cs q)->(∀ q i,q∉g.lend->(q,i)∉g.frz->(q,i)∉g.kill->(ac (aF (ac I u) (g.p&&!c.fresh) c.ps xs y.2++I) u q).ls[i]?=(u q).ls[i]?) ->
   (∀ q,(ac (aF (ac I u) (g.p&&!c.fresh) c.ps xs y.2++I) u q).sh=(u q).sh) ->
   ∃ W1,ap P V W1 (ac (let Y:=aF (ac I u) (g.p&&!c.fresh) c.ps xs y.2++I
     let r:=bD d (ac Y u (B0+d)).ver (g.p&&!c.fresh) g.p (g.frz.map λk=>(k.1,k.2,(ac Y u k.1).ver)) (ac Y u EPO).ver c.rs y.1
     (d,eS ((ac (r.2++Y) u d).ver+1) r.1)::(r.2++Y)) u) (a.put (some d) v) w'/\(∀ q,q≠d->q≠B0+d->q∉g.lend->W1.cs q=W0.cs q) /\
    (∀ q i,q≠d->q≠B0+d->q∉g.lend->(q,i)∉g.frz->(q,i)∉g.kill->(ac (let Y:=aF (ac I u) (g.p&&!c.fresh) c.ps xs y.2++I
     let r:=bD d (ac Y u (B0+d)).ver (g.p&&!c.fresh) g.p (g.frz.map λk=>(k.1,k.2,(ac Y u k.1).ver)) (ac Y u EPO).ver c.rs y.1
     (d,eS ((ac (r.2++Y) u d).ver+1) r.1)::(r.2++Y)) u q).ls[i]?=(u q).ls[i]?):=by
  intro W2 g1 e6 a5 cx d1 eb c0 bx;generalize aF (ac I u) (g.p&&!c.fresh) c.ps xs y.2++I=Y at g1 a5 c0 bx ⊢;have c6:gL (ac Y u) d c.rs=true:=by
   unfold gL at a4 ⊢;split at a4
   ·rw[bx];exact a4
   ·exact a4
  obtain⟨W1,q1,q2⟩:=wJ hV g1 (q:=g.p) (ks:=g.frz.map λk=>(k.1,k.2,(ac Y u k.1).ver)) (ep:=(ac Y u EPO).ver) d3 e6 (λhb=>by
   refine⟨λk H=>?_,CD _,λk H=>?_⟩
   ·rcases H with H|(H|H)|⟨x,hx,H⟩
    ·exact .inl (bU (W':=W2) (by intro h;simp at h;exact h.1) (λ_ h=>h) k (e6 k H))
    ·exact .inl (.inl (d1 hb k H))
    ·exact .inl (.inr H)
    ·exact .inr ⟨(x.1,x.2,(ac Y u x.1).ver),DA.2 ⟨x,hx,rfl⟩,cx hb x hx k H⟩
   ·obtain⟨x,hx,rfl⟩:=DA.1 H;exact CD _) a5 R.2.1 e5 hd dc c6
  have e1:∀ (X:Upd) (C:bT),ac ((d,C)::(X++Y)) u=ac ((d,C)::X) (ac Y u):=λX C=>by
   rw[aP d C (X++Y),aP d C X,bA]
  simp only[e1,bA];refine⟨W1,q1,λq hq cu c3=>(q2 q hq cu).trans (eb q c3),λq i hq cu c3 ad a6=>?_⟩;rw[aP,aH hq,rP _ _ (λx hx=>by rw[nv _ _ _ _ _ _ _ _ x hx];exact Cg cu)];exact c0 q i c3 ad a6
 refine (?_:∃ W1,_/\_/\_).imp λW1 hh=>⟨hh.1,hh.2.1,hh.2.2,Z,cp⟩
 cases J:g.lend with
 |nil =>
  rw[J]at a3 Z a1 c1;simp only[DR,List.not_mem_nil,not_false_iff,true_implies,forall_const,false_or]at a3 Z a1;rw[J]at c5;have h5:=h1.world hV cp ef e7 ec (λk H=>Z k (h1.used_lt k H) (λhm=>a2 k hm H));have h6:=h5.nwGrow hV N (λk H=>a1 k (hN k H));have c2:∀ k,cf V { W0.frz u O with nw:=λk=>(W0.frz u O).nw k\/N k } (ac I u) k->cf V (W0.frz u O) (ac I u) k\/N k:=by
   rintro k ((H|H)|H|H|H)
   ·exact .inl (.inl H)
   ·exact .inr H
   ·exact .inl (.inr (.inl H))
   ·exact .inl (.inr (.inr (.inl H)))
   ·exact .inl (.inr (.inr (.inr H)))
  have b4:∀ k∈cc.flatten++b9.flatten,¬ cf V { W0.frz u O with nw:=λk=>(W0.frz u O).nw k\/N k } (ac I u) k:=λk H M=>by
   obtain⟨q1,q2⟩:=a0 k H;rcases c2 k M with M|M
   ·exact (a1 k q1).2 M
   ·exact q2 M
  obtain⟨W2,g1,g2,g3,g4,g5,g6,g7⟩:=qU (Γ:=Γ) hV (W0:=W0) (W:={ W0.frz u O with nw:=λk=>(W0.frz u O).nw k\/N k }) (p:=g.p&&!c.fresh) rfl hG h6 c.ps xs vs g y.2 cc ej hg (tS c.ps xs g hg J) bl eg hE
   (λx hx l hl ho=>(h2 x.1 x.2 l hl ho).2.2 hx) (λk H=>b4 k (BZ _ H)) R.1
  rw[<- bA]at g1 g5 g6 g7;refine c5 W2 g1 (λk H=>?_) (λk H M=>?_) (λhb x hx k H=>?_) (λhb k H=>?_) (λq _=>by rw[g2];rfl) (λq i _ ad a6=>(g6 q i a6).1.trans (b1 q i ad a6)) (λq=>(g5 q).1.trans (h3 q).1)
  ·rcases hG k H with H|H
   ·exact .inl (by rw[g4];exact H)
   ·exact .inr H
  ·rcases g7 k M with M|M
   ·exact b4 k (BU _ H) M
   ·exact R.2.2 k M k H rfl
  ·rw[(g6 x.1 x.2 (nQ d2 x hx)).2];exact H
  ·rw[g4];exact .inl (.inl H)
 |cons b cy =>
  have c4:cy=[]:=by
   rw[J]at b3;simp at b3;exact b3
  subst c4;have en:c.ps.any PK.isIo=false:=es.resolve_left (by rw[J];simp);have dd:c.rs.any RK.isBv=false:=by
   rw[J]at e0;simpa using e0
  obtain⟨_,r2⟩:=po (Γ:=Γ) h0 (S:=ac I u) (p:=g.p&&!c.fresh) c.ps xs vs g y.2 cc ej hg en bl;obtain⟨cT,yv,cs,E,b0,r3,r4,r5,r6,r7⟩:=r2 b J;rw[r6]at R a0;have hβ:(W0.frz u O).β=W0.β:=rfl;have b6:∀ k,k∈g.lend.map W0.β<->k=W0.β b:=λk=>by rw[J];simp
  have hb:live (ac I u) b:=(iF (λq=>(h3 q).1) b).2 (ey b (by rw[J];simp));have cb:∀ k,k∈(W0.β b::b0)++b9.flatten->¬ N k:=λk H=>(a0 k H).2
  obtain⟨W2,g1,g2,g3,g4,g5,g6⟩:=zr hV h1 hb (N:=N) (p:=g.p&&!c.fresh) r4 r5 R.1 (by rw[h1.len b];show (W0.cs b).length=_;rw[<- h0.len b];exact r7)
   (λk M et=>Z k (h1.used_lt k M) (λhm=>a2 k hm M) (λhm=>et ((b6 k).1 hm))) cp ef e7 ec
   (λk H=>a1 k (hN k H) (λhm=>cb _ (BZ _ (CF ..)) (by rw[<- (b6 k).1 hm];exact H)))
   (λk H=>⟨(a1 k (a0 k (BZ _ (B8 _ H))).1 (λhm=>by
    have:=(b6 k).1 hm;subst this;exact (Cb.1 R.1).1 H)).2,cb k (BZ _ (B8 _ H))⟩) hG
  have e2:ac (aF (ac I u) (g.p&&!c.fresh) c.ps xs y.2++I) u=ac [(b,⟨(ac I u b).ver+2,.agg,aq (g.p&&!c.fresh) cT yv⟩)] (ac I u):=by rw[bA,r3]
  have em:∀ k∈b9.flatten,k∉g.lend.map W0.β:=λk H hm=>R.2.2 _ (CF ..) k H ((b6 k).1 hm).symm
  rw[<- e2]at g1 g6;have b2:=c5 W2 g1 (λk H=>?_) (λk H M=>?_) (λb5=>by rw[dd]at b5;cases b5) (λb5=>by rw[dd]at b5;cases b5) (λq hq=>?_) (λq i hq ad a6=>?_) (λq=>?_)
  ·rw[J]at b2;exact b2
  ·rcases hG k H with H|H
   ·exact .inl ((g3 k).2 H)
   ·exact .inr H
  ·rcases g6 k M with M|M|M
   ·exact (a1 k (a0 k (BU _ H)).1 (em k H)).2 M
   ·exact cb k (BU _ H) M
   ·exact R.2.2 k (B8 _ M) k H rfl
  ·rw[J]at hq;rw[g4 q (by simpa using hq)];rfl
  ·rw[J]at hq;rw[e2,aH (by simpa using hq)];exact b1 q i ad a6
  ·rw[e2];rcases am b q ⟨(ac I u b).ver+2,.agg,aq (g.p&&!c.fresh) cT yv⟩ (ac I u) with ⟨rfl,e3⟩|⟨_,e3⟩
   ·rw[e3];have:=hb.2;rw[(h3 q).1]at this;exact this.symm
   ·rw[e3];exact (h3 q).1
end
section
variable {P:Program} {V:Env} {Γ:List Ctr} {T:TypeId->TI} {st:St} {o:Oper} {R:Type} {κ:Upd->Option R} {r:R}
theorem zu {ls:List Leaf}{j:Nat}{p:Bool}{y:Option (Nat×Nat)}{E:TypeId}{e:Ty}{xs:List e.den}(h:ls.getD j .dead=.own p y E e xs):ls[j]?=some (.own p y E e xs):=by
 rw[CV]at h;cases u:ls[j]? with
 |none=>rw[u]at h;simp at h
 |some z=>rw[u]at h;simp at h;rw[h]
theorem AL (hV:ay V){b:Option (Bool×Nat×Nat)}{U:Upd}(h:jT st b U κ=some r) :
  ∃ U',κ U'=some r/\∀ I a w,ap P V I (ac U st) a w->(∀ q j,b=some (true,q,j)->∃ v,I.cs TMP=[v]/\tO I (ac U st) w q j v)->Rel P V (ac U' st) a w:=by
 unfold jT at h;split at h
 ·rename_i q j;split at h
  ·rename_i p i off E' e' xs q' E e ys hq b9;obtain⟨y,hy,h⟩:=CN.1 h;obtain⟨_,_,hy⟩:=gr hy;simp only[DS]at hy;split at h
   ·rename_i z hz;refine⟨_,h,λI a w hr hb=>?_⟩;obtain⟨v,bn,a2,bl,i0,b5,p0,E0,e0,c2,g,c6,g1,g2,g3,g4⟩:=hb q j rfl;have hq:=zu hq;rw[hq]at g1;obtain⟨rfl,b3,rfl,h4⟩:p=p0/\some (i,off)=some (i0,b5)/\E'=E0/\(⟨e',xs⟩:(e:Ty)×List e.den)=⟨e0,c2⟩:=by
     simp only[BQ,Leaf.own.injEq]at g1;obtain⟨q1,q2,q3,q4,q5⟩:=g1;subst q4;rw[heq_eq_eq]at q5;subst q5;exact⟨q1,by simpa using q2,q3,rfl⟩
    simp only[BQ,CT]at b3;obtain⟨rfl,rfl⟩:=b3;simp only[Sigma.mk.injEq]at h4;obtain⟨rfl,h4⟩:=h4;rw[heq_eq_eq]at h4;subst h4;generalize hS:ac U st=S at hr hq g1 g2 g3 b9 ⊢;have a9:(S TMP).ls[0]?=some (.own q' none E e ys):=by rw[b9];rfl
    have b6:(I.cs TMP)[0]?=some v:=by rw[bn];rfl
    have b0:=hr.leaf q j _ _ hq g2;have b1:=hr.leaf TMP 0 _ _ a9 b6;have b0:OwH w (gd V I p) (some (i,off)) E' e' xs _ (I.bs q j):=b0;have b1:Ow w (gd V I q') E e ys v (I.bs TMP 0):=b1;have bb:=b0.carry (G':=gd V I (p||q')) (bU (W':=I) (by intro h;simp[h]) (λ_ h=>h)) (λ_ _=>rfl) (λ_ _=>rfl);have b4:=OwH.carry (G':=gd V I (p||q')) b1 (bU (W':=I) (by intro h;simp[h]) (λ_ h=>h)) (λ_ _=>rfl) (λ_ _=>rfl);have c0:∀ k∈I.bs TMP 0,k∉I.bs q j:=λk M Z=>a2 (hr.sep TMP 0 _ q j _ a9 trivial hq trivial k M Z).1.symm
    obtain⟨ad,bx,c1⟩:=bb.back b4 c0 hy hz (λg' c4 e1=>by
     simp only[CP,BQ,Cz,and_true]at e1;rw[<- e1.1];exact g4)
    have c3:∀ k∈ad,k∈I.bs q j\/k∈I.bs TMP 0:=λk M=>by
     have h5:=c1 k;have h6:=B3.2 M;by_cases h7:k∈I.bs q j
     ·exact .inl h7
     ·have:=CI.2 h7;exact .inr (B3.1 (by omega))
    obtain⟨h1,c5⟩:=hr.putGhost hV TMP iZ.1 iZ.2.1 ((S TMP).ver+1) .off [] [] (λ_=>[]) (B5 _) rfl (by simp) (λj l u hj=>by simp at hj) (λj l hj=>by simp at hj) (λj j' l l' hj=>by simp at hj);have a5:∀ x,x≠TMP->ac [(TMP,⟨(S TMP).ver+1,.off,[]⟩)] S x=S x:=λx hx=>aH hx _ _
    have a6:(ac [(TMP,⟨(S TMP).ver+1,.off,[]⟩)] S) q=S q:=a5 q a2;have H:∀ (O:Nat) (l':Leaf),O≠j->(aS (S q).ls j (.own (p||q') none E' e' (xs.set i z)))[O]?=some l'->(S q).ls[O]?=some l':=by
     intro O l' a3 a1;rcases aR _ _ _ _ _ a1 with ⟨rfl,_,_⟩|⟨_,a1⟩
     ·exact absurd rfl a3
     ·exact a1
    have ba:∀ (l':Leaf),(aS (S q).ls j (.own (p||q') none E' e' (xs.set i z)))[j]?=some l'->l'=.own (p||q') none E' e' (xs.set i z):=by
     intro l' a1;rcases aR _ _ _ _ _ a1 with ⟨_,rfl,_⟩|⟨a3,_⟩
     ·rfl
     ·exact absurd rfl a3
    have a4:∀ b,live (ac [(TMP,⟨(S TMP).ver+1,.off,[]⟩)] S) b->live S b:=λb hb=>by
     have:b≠TMP:=by have:=hb.1;have:=iZ.2.1;omega
     exact⟨hb.1,by rw[<- a5 b this];exact hb.2⟩
    have b2:∀ k∈ad,¬ I.nw k/\¬ V.prot k/\(∀ b,live S b->I.β b≠k)/\∀ (X i1:Nat) (l1:Leaf),(S X).ls[i1]?=some l1->ao l1->(X,i1)≠(q,j)->X≠TMP->k∉I.bs X i1:=λk M=>by
     rcases c3 k M with M|M
     ·have h9:=hr.ownb q j _ hq trivial k M;exact⟨h9.1,h9.2.1,h9.2.2,λX i1 l1 g5 g6 g7 _ g8=>g7 (by obtain⟨e1,e2⟩:=hr.sep X i1 l1 q j _ g5 g6 hq trivial k g8 M;rw[e1,e2])⟩
     ·have h9:=hr.ownb TMP 0 _ a9 trivial k M;exact⟨h9.1,h9.2.1,h9.2.2,λX i1 l1 g5 g6 _ g7 g8=>g7 (hr.sep X i1 l1 TMP 0 _ g5 g6 a9 trivial k g8 M).1⟩
    have h2:=(h1.reownE hV q ⟨(S q).ver,(S q).sh,aS (S q).ls j (.own (p||q') none E' e' (xs.set i z))⟩ (λO=>if O=j then ad else I.bs q O) bl (by rw[a6];exact CD _) (by rw[a6]) (by rw[a6];simp[aS])
     (λO l' u g5 g6=>by
      have g6:(if q=TMP then [] else I.cs q)[O]?=some u:=g6;rw[if_neg a2]at g6;by_cases J:O=j
      ·subst J;obtain rfl:=ba l' g5;rw[g2]at g6;simp only[BQ]at g6;subst g6;simp only[if_true];exact bx
      ·simp only[if_neg J];have:=h1.leaf q O l' u (by rw[a6];exact H O l' J g5) (by show (if q=TMP then [] else I.cs q)[O]?=_;rw[if_neg a2];exact g6);have e0:(if q=TMP then ([]:List Nat) else I.bs q O)=I.bs q O:=if_neg a2;simp only[e0]at this;exact this)
     (λO l' g5 g6 k M=>by
      by_cases J:O=j
      ·subst J;simp only[if_true]at M;obtain⟨q1,q2,q3,q4⟩:=b2 k M;refine⟨q1,q2,λb hb=>q3 b (a4 b hb),λX j1 l1 a3 g7 g8 g9=>?_⟩;by_cases a0:X=TMP
       ·subst a0;rw[bk]at g7;simp at g7
       ·rw[a5 X a0]at g7;have g9:k∈(if X=TMP then [] else I.bs X j1):=g9;rw[if_neg a0]at g9;exact q4 X j1 l1 g7 g8 (λe=>a3 (by cases e;rfl)) a0 g9
      ·simp only[if_neg J]at M;have a1:=H O l' J g5;have h9:=hr.ownb q O l' a1 g6 k M;refine⟨h9.1,h9.2.1,λb hb=>h9.2.2 b (a4 b hb),λX j1 l1 a3 g7 g8 g9=>?_⟩;by_cases a0:X=TMP
       ·subst a0;rw[bk]at g7;simp at g7
       ·rw[a5 X a0]at g7;have g9:k∈(if X=TMP then [] else I.bs X j1):=g9;rw[if_neg a0]at g9;exact a3 (hr.sep q O l' X j1 l1 a1 g6 g7 g8 k M g9).1.symm)
     (λi1 i2 l1 l2 g5 g6 g7 g8 k M Z=>by
      by_cases J:i1=j <;> by_cases Y:i2=j
      ·omega
      ·subst J;simp only[if_true]at M;simp only[if_neg Y]at Z;exact absurd Z ((b2 k M).2.2.2 q i2 l2 (H i2 l2 Y g7) g8 (λe=>Y (by cases e;rfl)) a2)
      ·subst Y;simp only[if_true]at Z;simp only[if_neg J]at M;exact absurd M ((b2 k Z).2.2.2 q i1 l1 (H i1 l1 J g5) g6 (λe=>J (by cases e;rfl)) a2)
      ·simp only[if_neg J]at M;simp only[if_neg Y]at Z;exact (hr.sep q i1 l1 q i2 l2 (H i1 l1 J g5) g6 (H i2 l2 Y g7) g8 k M Z).2)).1
    show ∃ W,ap P V W _ a w;have e1:ac ((q,⟨(S q).ver,(S q).sh,aS (S q).ls j (.own (p||q') none E' e' (xs.set i z))⟩)::(TMP,⟨(S TMP).ver+1,.off,[]⟩)::(EPO,bV (S EPO))::U) st =
      ac [(q,⟨(S q).ver,(S q).sh,aS (S q).ls j (.own (p||q') none E' e' (xs.set i z))⟩),(EPO,bV (ac [(TMP,⟨(S TMP).ver+1,.off,[]⟩)] S EPO))] (ac [(TMP,⟨(S TMP).ver+1,.off,[]⟩)] S):=by
     rw[a5 EPO (Cg iZ.2.2),aP q,aP TMP,aP EPO,hS,aP q _ [(EPO,bV (S EPO))],nf iZ.2.2]
    rw[e1];exact⟨_,h2⟩
   ·cases h
  ·cases h
 ·exact⟨_,h,λI a w hr _=>⟨I,hr⟩⟩
theorem vw (hV:ay V)(hΓ:∀ c∈Γ,bP P c){d:Nat}(hd:d<V.nt)(d1:∀ x∈V.fixt,x.1≠d){f:FuncId}{xs:List (aG×List Leaf)}(h:jq Γ st d f xs κ=some r) :
  fW P f/\∃ U,κ U=some r/\∀ W a w,ap P V W st a w->∀ vs,gX P V W st w xs vs->Calls P f vs.toArray w (λe w'=>∃ v,e=.returned v/\Rel P V (ac U st) (a.put (some d) v) w'):=by
 unfold jq at h;split at h
 ·rename_i c hc;obtain⟨e4,rfl⟩:=nr hc;obtain⟨d2,b0⟩:=hΓ c e4;refine⟨d2,?_⟩;rw[gG]at h;obtain⟨⟨U0,ys,b⟩,c0,h⟩:=CN.1 h;simp only at h;split at h
  ·rename_i g hg;cases M:aZ g.kill&&dF g.frz g.kill&&gL st d c.rs&&!(g.see.any λq=>g.lend.any (CC q))&&C6 g.lend.length 1&&(g.lend.isEmpty||!(c.ps.any PK.isIo))&&((c.fresh&&g.lend.isEmpty)||!(c.rs.any RK.isBv))&&(g.kill.all λk=>!CC k.1 EPO)&&oU b g.frz g.kill d with
   |false=>rw[M]at h;cases h
   |true =>
    rw[M]at h;simp only[cond_true]at h;simp only[BS]at M;obtain⟨⟨⟨⟨⟨⟨⟨⟨bl,cw⟩,I⟩,bb⟩,J⟩,d3⟩,et⟩,hE⟩,dc⟩:=M;obtain⟨y,hy,h⟩:=CN.1 h;obtain⟨U',f5,c6⟩:=AL (P:=P) (V:=V) hV h;refine⟨U',f5,λW a w hr vs f6=>?_⟩;obtain⟨W0,Y,c2,fc,hβ0,cb,cu,b5,cp⟩:=oI hV hr c.ps xs vs U0 ys b f6 c0;generalize a9:ac U0 st=S0 at Y c2 cb cu b5 hg;obtain⟨⟨b1,c5,a2⟩,hf,hk,a5⟩:=kv (uR hV hΓ Y) c.ps ys vs g c2 hg;have hE:∀ z∈g.kill,z.1≠EPO:=λz hz e0=>by
     have:=List.all_eq_true.1 hE z hz;rw[e0]at this;simp at this
    have J:g.lend.length<=1:=Cd J;have ba:g.lend=[]\/c.ps.any PK.isIo=false:=by
     simp only[Dm,Da,CH]at d3;exact d3
    have c4:∀ k,k∈b1.flatten<->k∈g.lend.map W0.β\/k∈aY W0 g.kill:=λk=>by
     rw[<- B3,<- B3,<- B3,a2 k];omega
    have a1:∀ k,jP V W0 S0 g.frz g.see k->k<w.heap.size/\k∉b1.flatten:=by
     intro k H;refine⟨Y.used_lt k (rN hf k H),λZ=>?_⟩;rcases (c4 k).1 Z with Z|Z
     ·obtain⟨b',X,rfl⟩:=DA.1 Z;have e5:=Y.box b' (a5 b' X);rcases H with H|H|⟨b2,e3,a0,e2⟩|⟨z,hz,H⟩
      ·exact e5.1 H
      ·exact e5.2 H
      ·have:=Y.inj b2 b' a0 (a5 b' X) e2;subst this;simp only[CH,CO]at bb;have:=bb b2 e3;rw[Bool.not_eq_true,CO]at this;have:=this b2 X;simp at this
      ·obtain⟨l,hl,ho⟩:=hf z hz;exact (Y.ownb z.1 z.2 l hl ho _ H).2.2 b' (a5 b' X) rfl
     ·obtain⟨z,hz,O⟩:=gq.1 Z;obtain⟨l,hl,ho⟩:=hk z hz;have a4:=Y.ownb z.1 z.2 l hl ho k O;rcases H with H|H|⟨b2,e3,a0,e2⟩|⟨z',eb,H⟩
      ·exact a4.1 H
      ·exact a4.2.1 H
      ·exact a4.2.2 b2 a0 e2
      ·obtain⟨l',es,en⟩:=hf z' eb;obtain⟨e1,e2⟩:=Y.sep z.1 z.2 l z'.1 z'.2 l' hl ho es en k O H;exact nQ cw z' eb (by rw[show z'=z from Dv e1.symm e2.symm];exact hz)
    have f0:b1.flatten.Nodup:=bt.2 λk=>by
     rw[a2 k];have h5:=bt.1 (gT Y bl hk) k;have h6:(g.lend.map W0.β).count k<=1:=by
      exact CY List.count_le_length (by rw[Cs];exact J)
     by_cases h7:k∈g.lend.map W0.β
     ·have:(aY W0 g.kill).count k=0:=CI.2 λZ=>by
       obtain⟨b',X,e0⟩:=DA.1 h7;obtain⟨z,hz,O⟩:=gq.1 Z;obtain⟨l,hl,ho⟩:=hk z hz;exact (Y.ownb z.1 z.2 l hl ho k O).2.2 b' (a5 b' X) e0
      omega
     ·have:(g.lend.map W0.β).count k=0:=CI.2 h7;omega
    have b3:=b0 w (bo V W0 g.p g.frz) g.val vs b1 y (c5.mono (λ_ h=>h) a1) (λk H=>a1 k (mz hV k H)) f0 hy;have bn:gL S0 d c.rs=true:=by
     unfold gL at I ⊢;split at I
     ·rcases b5 (B0+d) with e0|e0
      ·rw[e0];exact I
      ·exact absurd e0 (by have:=iZ.2.1;omega)
     ·exact I
    refine b3.mono λe w' c3=>?_
    obtain⟨v,rfl,W1,a3,b4,cy,bx,_⟩:=zt (Γ:=Γ) hV Y c2 hg hf hk a5 bl cw hE J ba a2 hd d1 bn et c3;refine⟨v,rfl,?_⟩;refine c6 W1 _ w' ?_ ?_
    ·have e1:=bA (mA S0 c d ys g y) U0 st;rw[a9]at e1;rw[<- e1]at a3;subst a9;unfold mA at a3;simp only[bA,B9,De]at a3 ⊢;exact a3
    ·intro q j hb;subst hb;obtain⟨u,eg,em,ed,i,off,p,E,e,f4,gg,ex,q1,q2,q3,q4⟩:=cb;have cx:=cp true q j rfl rfl;have ad:g.lend=[]:=ba.resolve_right (by rw[cx];simp);simp only[oU,BS,CH]at dc;obtain⟨⟨⟨ec,dd⟩,b6⟩,b9⟩:=dc;have e6:q≠d:=λe0=>by rw[e0]at b6;simp at b6
     have cc:q≠B0+d:=λe0=>by rw[e0]at b9;simp at b9
     have e7:(q,j)∉g.kill:=λZ=>by
      have:=CO.1 ec _ Z;simp[iA]at this
     have ej:(q,j)∉g.frz:=λZ=>by
      have:=CO.1 dd _ Z;simp[iA]at this
     have f2:TMP≠d:=by have:=hV.nt;have:=iZ.1;omega
     have ev:TMP≠B0+d:=by have:=iZ.2.1;omega
     have hL:=cy q j e6 cc (by rw[ad];simp) ej e7;rw[q1]at hL;have hC:=b4 q e6 cc (by rw[ad];simp);have e1:=bA (mA S0 c d ys g y) U0 st;rw[a9]at e1;have ef:gg<w.heap.size:=Y.own_lt q1 trivial gg q3;have f3:gg∉aY W0 g.kill:=λZ=>by
      obtain⟨z,hz,O⟩:=gq.1 Z;obtain⟨l,hl,ho⟩:=hk z hz;obtain⟨e1,e2⟩:=Y.sep z.1 z.2 l q j _ hl ho q1 trivial gg O q3;exact e7 (by rw[show (q,j)=z from Dv e1.symm e2.symm];exact hz)
     have c1:w'.cell? ⟨gg,i*e.cells+off,none⟩=some u:=by
      rw[kD (bx gg ef f3 (by rw[ad];simp))];exact q4
     have ey:gg∈W1.bs q j:=by
      have h9:=a3.leaf q j _ _ hL (by rw[hC];exact q2);obtain⟨_,f7,f8,_,f1,_⟩:=h9;rw[f1];simp[CL]
     refine⟨u,by rw[b4 TMP f2 ev (by rw[ad];simp)];exact eg,em,ed,i,off,p,E,e,f4,gg,ex,?_,by rw[hC];exact q2,ey,c1⟩;have a6:=hL;rw[<- e1]at a6;subst a9;unfold mA at a6;simp only[bA,B9,De]at a6 ⊢;exact a6
  ·cases h
 ·cases h
end
section
variable {P:Program} {V:Env} {Γ:List Ctr} {T:TypeId->TI} {st:St} {o:Oper} {R:Type} {κ:Upd->Option R} {r:R}
theorem od {W:Wit}{a:Act}{w:World}(h:ap P V W st a w):∀ (l:List Operand),gX P V W st w (l.map (au st)) (l.map a.eval)
 |[]=>rfl
 |x::l=>by
  obtain⟨u,y,z⟩:=cW h x;exact⟨a.eval x,l.map a.eval,u,rfl,y,z,od h l⟩
theorem ny {W:Wit}{w:World}:∀ {xs z:List (aG×List Leaf)} {y us:List Value},gX P V W st w xs y->gX P V W st w z us->gX P V W st w (xs++z) (y++us)
 |[],_,_,_,M,u=>by rw[show _=_ from M];exact u
 |x::xs,_,_,_,⟨v,H,J,e,O,X,I⟩,u=>by
  subst e;exact⟨v,_,J,rfl,O,X,ny I u⟩
theorem qW {a:Act}{w:World}{c:Call}{x:Operand}{f:FuncId}{caps:Array Value}(z:o.op=.call c)(I:c.callee=.value x)(M:a.eval x=.func (.func f) #[] caps)(J:fW P f){next:Act->World->Prop}{Q:Exit->Act->World->Prop}
  (u:Calls P f (c.args.map a.eval++caps) w (λe H=>∃ v,e=.returned v/\next (a.put o.dst v) H)):o.wp P a w next Q:=by
 unfold Oper.wp;have y:(execOp a.eval o).run P w=.ok (.enter f (c.args.map a.eval++caps)) w:=by
  have:=J (c.args.map a.eval++caps) w;simp[execOp,z,resolve,I,M,Deferred.ofValue,invoke,this]
 rw[y,Oper.upon_enter];refine u.mono λe H=>?_
 rintro⟨v,rfl,hn⟩;exact hn
theorem lh {p:Bool}:∀ {b:Ty} {x:b.den},b.flat=true->aq p b x=cN p b x
 |.int _,_,_=>rfl
 |.bool,_,_=>rfl
 |.str,_,_=>rfl
 |.unit,_,_=>rfl
 |.hdr,_,_=>rfl
 |.pair a b,x,h=>by
  simp only[Ty.flat,BS]at h;simp only[aq,cN,lh h.1,lh h.2]
 |.list _ _ _,_,h=>by simp[Ty.flat]at h
theorem rQ (Z:ay V){W:Wit}{a:Act}{w:World}(h:ap P V W st a w):∀ (O:List Ty) (xs:List (aG×List Leaf)) (X:List Value) (x:Tup O),gX P V W st w xs X->iO st O xs=some x ->
  sq w (λk=>k<w.heap.size) O x X
 |[],[],X,_,hx,_=>hx
 |[],_::_,_,_,_,u=>by simp[iO]at u
 |_::_,[],_,_,_,u=>by simp[iO]at u
 |b::O,x::xs,X,z,⟨v,M,cs,e,hs,hl,I⟩,u=>by
  subst e;simp only[iO]at u;cases J:decide (x.1=bg b.isAgg) with
  |false=>simp[J]at u
  |true =>
   simp only[J,cond_true]at u;have J:=of_decide_eq_true J;rw[J]at hs;split at u
   ·rename_i p y hy;simp only[BR]at u;obtain⟨t,ht,rfl⟩:=u;have Y:=eD h hl hy;refine⟨v,cs,M,rfl,gF hs,Y.mono (λk H=>?_),rQ Z h O xs M t I ht⟩;rcases H with (H|⟨_,H⟩)|⟨z,hz,H⟩
    ·exact (h.nwlt k H).1
    ·exact Ca (Z.ro k H).1 h.size
    ·obtain⟨l,h1,h2⟩:=eo hl hz;exact h.own_lt h1 h2 k H
   ·cases u
theorem yd (hV:ay V)(hΓ:∀ c∈Γ,bP P c)(J:bN V o){c:Call}{f:Operand}(Y:o.op=.call c)(hc:c.callee=.value f)
  (h:act Γ T o st κ=some r):bW P V o st κ r:=by
 simp only[act,wrU,Y,hc]at h;split at h
 ·cases h
 ·rename_i d X;split at h
  ·rename_i g H Z;obtain⟨he,U,hU,z⟩:=vw hV hΓ (J d X).1 (J d X).2 h;refine⟨U,hU,λW a w I next Q hn=>?_⟩;obtain⟨M,_,_,_,_⟩:=br I f (by rw[Z];simp);rw[Z]at M;have O:=ny (od I c.args.toList) (sC (qm (P:=P) (V:=V) (W:=W) (w:=w) H M.2));rw[DW]at O;have:=z W a w I _ O;have e:(c.args.toList.map a.eval++H.map λb=>Value.pointer (some ⟨W.β b,0,none⟩)).toArray=c.args.map a.eval++(H.map λb=>Value.pointer (some ⟨W.β b,0,none⟩)).toArray:=by
    apply Dr;simp
   rw[e]at this;refine qW Y hc M.1 he (this.mono λe w'=>?_);rintro⟨v,rfl,hrel⟩;refine⟨v,rfl,hn _ _ ?_⟩;rw[X];exact hrel
  ·rename_i g H Z;obtain⟨he,U,hU,z⟩:=vw hV hΓ (J d X).1 (J d X).2 h;refine⟨U,hU,λW a w I next Q hn=>?_⟩;obtain⟨M,_,_,_,_⟩:=br I f (by rw[Z];simp);rw[Z]at M;obtain⟨us,M,a1,a0⟩:=M;have O:=ny (od I c.args.toList) (sC (qT (st:=st) a1 a0));rw[DW]at O;have:=z W a w I _ O;have e:(c.args.toList.map a.eval++us).toArray=c.args.map a.eval++us.toArray:=by
    apply Dr;simp
   rw[e]at this;refine qW Y hc M he (this.mono λe w'=>?_);rintro⟨v,rfl,hrel⟩;refine⟨v,rfl,hn _ _ ?_⟩;rw[X];exact hrel
  ·rename_i As B φ Z;cases hb:B.flat with
   |false=>simp[hb]at h
   |true =>
    simp only[hb,cond_true]at h;split at h
    ·rename_i x hx;obtain⟨y,hy,h⟩:=CN.1 h;simp only[X]at h;refine⟨_,h,λW a w I next Q hn=>?_⟩;obtain⟨M,_,_,_,_⟩:=br I f (by rw[Z];simp);rw[Z]at M;obtain⟨f',H,M,he,z⟩:=M;have a3:=rQ hV I As _ _ x (od I c.args.toList) hx;have:=z w I.size I.keep x _ y a3 hy;have e:(c.args.toList.map a.eval).toArray=c.args.map a.eval:=by apply Dr;simp
     rw[e]at this;refine qW Y hc M he (this.mono λe w'=>?_);rintro⟨u,cs,rfl,hvo,hrd,hbelow⟩;refine⟨u,rfl,hn _ _ ?_⟩;rw[X];have a4:=I.below hV hbelow;have a2:=eZ (P:=P) (V:=V) (W:=W) (st:=st) (G:=λ_=>False) (p:=false) (λ_ h=>h.elim) hrd;rw[<- lh hb]at a2;exact a4.putLs hV d (J d X).1 (J d X).2 _ _ _ u cs (B5 _) (ke hvo) a2
    ·cases h
  ·cases h
theorem BE (H:ay V)(I:TOk P T)(hΓ:∀ c∈Γ,bP P c)(z:bN V o)(h:act Γ T o st κ=some r):bW P V o st κ r:=by
 cases u:o.op with
 |move x=>exact yt H z u h
 |assign x=>exact vO H z u h
 |pick c x y=>exact yu H z u h
 |alloc t=>exact x6 H I z u h
 |box t x=>exact AH H z u h
 |build t M=>exact xh H I z u h
 |buildSlice t n M=>exact qR H I z u h
 |load t x=>exact yx H I z u h
 |store t x y=>exact x8 H I u h
 |nilCheck x=>exact sR H z u h
 |binOp X t x y t'=>exact xd H I z u h
 |unOp X t x=>exact yw H z u h
 |convert s t x=>exact uP H I z u h
 |makeSlice t n c=>exact sk H I z u h
 |slice t x Y hi Z=>exact yb H I z u h
 |fieldAddr t x f=>exact sg H I z u h
 |field t x f=>exact xg H I z u h
 |indexAddr t x i=>exact si H I z u h
 |index t x i=>exact xf H I z u h
 |extract x i=>exact ur H z u h
 |makeFunc fn first O=>exact sS H z u h
 |call c =>
  cases J:c.callee with
  |value f=>exact yd H hΓ z u J h
  |builtin b =>
   cases b with
   |len=>exact zW H I z u J h
   |append=>exact wE H I z u J h
   |min=>exact AI H z u J h
   |max=>exact AJ H z u J h
   |_ =>
    simp only[act,wrU,u,J]at h;split at h <;> cases h
  |_ =>
   simp only[act,wrU,u,J]at h;split at h <;> cases h
 |_=>simp[act,wrU,u]at h
end
def cF:Ty->Ty->Bool
 |.pair a b,z=>match z with
  |.pair c d=>cF a c&&cF b d
  |_=>false
 |.list m E e,z=>match z with
  |.list n u r=>decide (E=u)&&(bif n then m&&cF e r else decide (e.sh=r.sh))
  |_=>false
 |a,z=>decide (a=z)
theorem fY:∀ {a b:Ty},cF a b=true->a.sh=b.sh
 |.pair a b,z,h=>by
  cases z with
  |pair c d =>
   simp only[cF,BS]at h;simp only[Ty.sh,fY h.1,fY h.2]
  |_=>simp[cF]at h
 |.list m E e,z,h=>by
  cases z with
  |list n u r =>
   simp only[cF,BS,decide_eq_true_eq]at h;obtain⟨rfl,h⟩:=h;cases n with
   |true =>
    simp only[cond_true,BS]at h;simp only[Ty.sh,fY h.2]
   |false =>
    simp only[cond_false,decide_eq_true_eq]at h;simp only[Ty.sh,h]
  |_=>simp[cF]at h
 |.int _,z,h=>by simp only[cF,decide_eq_true_eq]at h;rw[h]
 |.bool,z,h=>by simp only[cF,decide_eq_true_eq]at h;rw[h]
 |.str,z,h=>by simp only[cF,decide_eq_true_eq]at h;rw[h]
 |.unit,z,h=>by simp only[cF,decide_eq_true_eq]at h;rw[h]
 |.hdr,z,h=>by simp only[cF,decide_eq_true_eq]at h;rw[h]
theorem zv {a b:Ty}(h:cF a b=true):a.isAgg=b.isAgg:=by
 cases a with
 |pair c d=>cases b <;> first|rfl|(simp[cF]at h)
 |list m E e=>cases b <;> first|rfl|(simp[cF]at h)
 |_=>simp only[cF,decide_eq_true_eq]at h;rw[h]
theorem oJ {f g h:Nat->List Nat}{k:Nat}:∀ {l:List Nat},(∀ j∈l,(f j).count k=(g j).count k+(h j).count k)->(l.flatMap f).count k=(l.flatMap g).count k+(l.flatMap h).count k
 |[],_=>rfl
 |a::l,H=>by
  have u:=H a (CF ..);have y:=oJ (l:=l) (λj r=>H j (B8 _ r));simp only[Ce,BV];omega
theorem Mx.thin {w:World}{G:Nat->Prop}:∀ {a b:Ty} {pos:Nat} {x:a.den} {y:b.den} {cs:List Value} {bs:List Nat},cF a b=true->HEq x y->Mx w G a none pos x cs bs ->
  ∃ b1 b2:List Nat,(∀ k,bs.count k=b1.count k+b2.count k)/\Mx w (λk=>G k\/k∈b2) b none pos y cs b1
 |.pair a b,z,pos,x,y,cs,bs,h,r,H=>by
  cases z with
  |pair c d =>
   simp only[cF,BS]at h;obtain⟨c1,c2,ba,bb,rfl,rfl,h1,h2⟩:=H;obtain⟨h3,h4⟩:=sJ (jy (fY h.1)) (jy (fY h.2)) r;obtain⟨p1,p2,Y,X⟩:=Mx.thin h.1 h3 h1;obtain⟨r1,r2,s1,s2⟩:=Mx.thin h.2 h4 h2;refine⟨p1++r1,p2++r2,λk=>?_,c1,c2,p1,r1,rfl,rfl,X.mono (λk J=>J.imp id (BZ _)),?_⟩
   ·have:=Y k;have:=s1 k;simp only[BV];omega
   ·have:=s2.mono (G':=λk=>G k\/k∈p2++r2) (λk J=>J.imp id (BU _))
    rwa [ik (fY h.1)]at this
  |_=>simp[cF]at h
 |.list m E e,z,pos,xs,R,cs,bs,h,r,H=>by
  have a0:=fY h;cases z with
  |list n E' e' =>
   simp only[cF,BS,decide_eq_true_eq]at h;obtain⟨rfl,h⟩:=h;cases n with
   |true =>
    simp only[cond_true,BS]at h;obtain⟨rfl,h⟩:=h;rw[bJ (by simp)]at H;obtain⟨v,rfl,I,a2,h1,h2,h3⟩:=H;obtain⟨h4,h5⟩:=sK (jy (fY h)) r;have a1:∀ j,∃ q:List Nat×List Nat,j<R.length->(∀ k,(a2 j).count k=q.1.count k+q.2.count k) /\
      ∀ y,R[j]?=some y->∃ c,Mx w (λk=>G k\/k∈q.2) e' none 0 y c q.1/\∀ i u,c[i]?=some u->I[j*e'.cells+i]?=some u:=by
     intro j;by_cases M:j<R.length
     ·have Z:=CB M;obtain⟨x,hx,r⟩:=h5 j _ Z;obtain⟨c,hm,hc⟩:=h3 j x hx;obtain⟨b1,b2,Y,X⟩:=Mx.thin h r hm;refine⟨(b1,b2),λ_=>⟨Y,λy O=>⟨c,?_,λi u hi=>?_⟩⟩⟩
      ·rw[Z]at O;simp only[BQ]at O;subst O;exact X
      ·rw[<- ik (fY h)];exact hc i u hi
     ·exact⟨([],[]),λh=>absurd h M⟩
    obtain⟨f,hf⟩:=Classical.skolem.1 a1;refine⟨v.ownBlock.toList++(B7 R.length).flatMap (λj=>(f j).1),(B7 R.length).flatMap (λj=>(f j).2),λk=>?_,?_⟩
    ·rw[h2,BV,BV,h4,oJ (g:=λj=>(f j).1) (h:=λj=>(f j).2) (λj M=>(hf j (DH.1 M)).1 k)];omega
    ·rw[bJ (by simp)];refine⟨v,rfl,I,λj=>(f j).1,by rw[<- h4,<- ik (fY h)];exact h1,rfl,λj y O=>?_⟩;have M:=(BT.1 O).1;obtain⟨c,Y,X⟩:=(hf j M).2 y O;exact⟨c,Y.mono (λk J=>J.imp id (λJ=>dX.2 ⟨j,M,J⟩)),X⟩
   |false =>
    refine⟨[],bs,λk=>by simp,?_⟩;rw[cr];exact⟨rfl,Rd.flags a0 r (Mx.rd (S:=λk=>G k\/k∈bs) (λ_=>.inl) (λ_=>.inr) H)⟩
  |_=>simp[cF]at h
 |.int _,z,pos,x,y,cs,bs,h,r,H=>by
  simp only[cF,decide_eq_true_eq]at h;subst h;cases r;exact⟨bs,[],λk=>by simp,H.mono (λ_=>.inl)⟩
 |.bool,z,pos,x,y,cs,bs,h,r,H=>by
  simp only[cF,decide_eq_true_eq]at h;subst h;cases r;exact⟨bs,[],λk=>by simp,H.mono (λ_=>.inl)⟩
 |.str,z,pos,x,y,cs,bs,h,r,H=>by
  simp only[cF,decide_eq_true_eq]at h;subst h;cases r;exact⟨bs,[],λk=>by simp,H.mono (λ_=>.inl)⟩
 |.unit,z,pos,x,y,cs,bs,h,r,H=>by
  simp only[cF,decide_eq_true_eq]at h;subst h;cases r;exact⟨bs,[],λk=>by simp,H.mono (λ_=>.inl)⟩
 |.hdr,z,pos,x,y,cs,bs,h,r,H=>by
  simp only[cF,decide_eq_true_eq]at h;subst h;cases r;exact⟨bs,[],λk=>by simp,H.mono (λ_=>.inl)⟩
theorem ju.mono {w:World}{G G':Nat->Prop}(z:∀ k,G k->G' k){a:Ty}{x:a.den}{ptr:Bool}{v:Value}{bs:List Nat}(h:ju w G a x ptr v bs):ju w G' a x ptr v bs:=by
 unfold ju at h ⊢;split at h
 ·rename_i y;rw[if_pos y];obtain⟨g,c,E,H,r,u,M,J⟩:=h;exact⟨g,c,E,H,r,u,M.mono z,J⟩
 ·rename_i y;rw[if_neg y];obtain⟨I,r,u⟩:=h;exact⟨I,r,u.mono z⟩
theorem bL.mono {w:World}{G G':Nat->Prop}(y:∀ k,G k->G' k):∀ {ps:List PK} {o:ai ps} {z:List Value} {bs:List (List Nat)},bL w G ps o z bs->bL w G' ps o z bs
 |.io _::_,_,_::_,_::_,⟨r,u⟩=>⟨r.mono y,bL.mono y u⟩
 |.iop _::_,_,_::_,_::_,⟨r,u⟩=>⟨r.mono y,bL.mono y u⟩
 |.rd _::_,_,_::_,_::_,⟨r,u⟩=>⟨r,bL.mono y u⟩
 |.own _::_,_,_::_,_::_,⟨r,u⟩=>⟨r,bL.mono y u⟩
 |.rref _::_,_,_::_,_::_,⟨r,u⟩=>⟨r,bL.mono y u⟩
 |.rref2 _::_,_,_::_,_::_,⟨r,u⟩=>⟨r,bL.mono y u⟩
 |.fn _ _::_,_,_::_,_::_,⟨r,u⟩=>⟨r,bL.mono y u⟩
 |.clo _ _::_,_,_::_,_::_,⟨r,u⟩=>⟨r,bL.mono y u⟩
 |.hol _ _ _::_,_,_::_,_::_,⟨r,u⟩=>⟨r,bL.mono y u⟩
 |[],_,[],[],_=>trivial
 |[],_,_::_,_,h=>by simp[bL]at h
 |[],_,[],_::_,h=>by simp[bL]at h
 |p::_,_,[],_,h=>by cases p <;> exact h.elim
 |p::_,_,_::_,[],h=>by cases p <;> exact h.elim
theorem qk.mono {w:World}{G G' ro ro':Nat->Prop}(I:∀ k,G k->G' k)(O:∀ k,G k\/ro k->G' k\/ro' k):∀ {r:RK} {y:r.den} {v:Value} {bs:List Nat},qk w G ro r y v bs->qk w G' ro' r y v bs
 |.v _,_,_,_,⟨H,u,z⟩=>⟨H,u,z.mono I⟩
 |.bv _,_,_,_,⟨e,H,u,z⟩=>⟨e,H,u,z.mono O⟩
 |.box _,_,_,_,⟨g,c,E,J,u,z,R,M⟩=>⟨g,c,E,J,u,z,R.mono I,M⟩
theorem gE.mono {w:World}{G G' ro ro':Nat->Prop}(J:∀ k,G k->G' k)(M:∀ k,G k\/ro k->G' k\/ro' k):∀ {H:List RK} {y:aj H} {us:List Value} {z:List (List Nat)},gE w G ro H y us z->gE w G' ro' H y us z
 |[],_,_,_,h=>h
 |_::_,_,_,_,⟨u,I,b,r,X,R,O,Y⟩=>⟨u,I,b,r,X,R,O.mono J M,gE.mono J M Y⟩
theorem bP.thin {P:Program}{f:FuncId}{a a':Ty}{ps:List PK}{rs:List RK}{fr:Bool}{a9:ab (.own a::ps)->Option (aj rs×ai (.own a::ps))}{X:ab (.own a'::ps)->Option (aj rs×ai (.own a'::ps))}
  (h:bP P ⟨f,.own a::ps,rs,fr,a9⟩) (ht:cF a' a=true) (cv:a'.den->a.den) (ba:∀ x,HEq x (cv x)) (hd:∀ x,X x=a9 (cv x.1,x.2)):bP P ⟨f,.own a'::ps,rs,fr,X⟩:=by
 refine⟨h.1,λw ro x vs c2 y a2 a3 b5 hy=>?_⟩;obtain⟨x1,xr⟩:=x;obtain⟨v,b0,b,u,rfl,rfl,⟨cs,b9,hm⟩,Z⟩:=a2;obtain⟨Y,O,R,bb⟩:=Mx.thin ht (ba x1) hm;have a1:=hm.lt;rw[bt]at b5;have M:∀ k,Y.count k+O.count k+u.flatten.count k<=1:=λk=>by
  have:=b5 k;rw[CG,BV,R k]at this;exact this
 have hb:∀ k,k∈b<->k∈Y\/k∈O:=λk=>by
  rw[<- B3,<- B3,<- B3,R k];omega
 have z:∀ k,k∈(Y::u).flatten->k∈(b::u).flatten:=λk r=>by
  rw[CG,B4]at r ⊢;exact r.imp (λh=>(hb k).2 (.inl h)) id
 have a6:∀ k,k∈O->k∉(Y::u).flatten:=λk r H=>by
  have h1:=M k;have h2:=B3.2 r;have h3:=B3.2 H;rw[CG,BV]at h3;omega
 have a5:∀ k,k∈O->k∈(b::u).flatten:=λk r=>by
  rw[CG,B4];exact .inl ((hb k).2 (.inr r))
 have I:dg P w (λk=>ro k\/k∈O) (λk=>k<w.heap.size/\k∉(Y::u).flatten) (.own a::ps) (cv x1,xr) (v::b0) (Y::u) :=
  ⟨v,b0,Y,u,rfl,rfl,⟨cs,by rw[<- zv ht];exact b9,bb⟩,Z.mono (λ_=>.inl) (λk r=>⟨r.1,λh=>r.2 (z k h)⟩)⟩
 refine (h.2 w _ _ _ _ y I (λk r=>?_) ?_ (by rw[<- hy];exact (hd (x1,xr)).symm)).mono λe w' hp=>?_
 ·rcases r with r|r
  ·exact⟨(a3 k r).1,λh=>(a3 k r).2 (z k h)⟩
  ·exact⟨a1 k ((hb k).2 (.inr r)),a6 k r⟩
 ·rw[bt];intro k;have:=M k;show ((Y::u).flatten).count k<=1;rw[CG,BV];omega
 ·obtain⟨v',us,N,a0,bl,h1,ad,b6,c1,bn,c0,bx,hN,hO,a4,b4,J⟩:=hp;have hG:∀ k,(N k\/fr=false/\(ro k\/k∈O))->((N k\/k∈O)\/fr=false/\ro k):=λk r=>by
   rcases r with r|⟨r,H|H⟩
   ·exact .inl (.inl r)
   ·exact .inr ⟨r,H⟩
   ·exact .inl (.inr H)
  refine⟨v',us,λk=>N k\/k∈O,a0,bl,h1,ad,b6,c1,bn,c0,λk r hn=>bx k r (λh=>hn (z k h)),λk r=>?_,?_,?_,b4,λk r=>?_⟩
  ·rcases r with r|r
   ·exact⟨(hN k r).1,(hN k r).2.imp id (z k)⟩
   ·exact⟨Ca (a1 k ((hb k).2 (.inr r))) b6,.inr (a5 k r)⟩
  ·match a0,hO with
   |b3::a0,hO=>exact⟨hO.1,bL.mono hG hO.2⟩
   |[],hO=>exact hO.elim
  ·refine gE.mono hG (λk r=>?_) a4;rcases r with r|r|r
   ·exact .inl (hG k r)
   ·exact .inr r
   ·exact .inl (.inl (.inr r))
  ·obtain⟨h5,h6⟩:=J k r;refine⟨⟨h5.1,h5.2.imp id (z k)⟩,λh=>h.elim h6 (λh=>?_)⟩;rcases h5.2 with h7|h7
   ·have:=a1 k ((hb k).2 (.inr h));omega
   ·exact a6 k h h7
end Go.Proofs.YtadlacffdemoiaaGreatEv
