/- One operation: boxes made, boxes written. -/
import Derived.Test.YtaelpfghkndliaaGreatE0
import Derived.Deep.MidRow
import Derived.Great.FillDense
set_option linter.unusedVariables false
set_option linter.unusedSimpArgs false
open Array renaming toArray_toList->Bu,length_toList->By,getElem?_toList->Co,toList_append->Cv,size_append->C5,toList_map->DE,ext'->DS
open Bool renaming and_eq_true->BC,not_eq_true'->BY,or_eq_false_iff->Ct,or_eq_true->DN
open Go.Addr.mk renaming injEq->Ca
open Go.Builtin renaming append_->Bz,firstCells->CX,lenOf->Cb,zeroCells->DA
open Go.Instr renaming sliceBounds->C8,storeAt->DU
open Go.Result renaming andThen_ok->CY
open Go.Sem renaming run_bind->C4
open Go.Value renaming ownBlock->Bt
open Go.Value.slice renaming injEq->Bx
open Go.World renaming setCells->Cp,alloc_eq->Cs,drew_eq->Cw,freeze->C6,alloc->DI,drew->DQ
open Iff renaming rfl->Cg
open Int renaming toNat_natCast->C3
open List renaming getElem?_eq_some_iff->BD,mem_append_right->BE,count_append->BF,getElem?_append_right->BG,getElem?_append_left->BH,mem_append_left->BJ,count_pos_iff->BK,mem_append->BL,range->BO,mem_cons_of_mem->BP,append_assoc->BQ,length_append->BR,getElem?_eq_getElem->BS,eq_nil_of_length_eq_zero->BV,mem_cons_self->BW,flatten_cons->BX,count_eq_zero->BZ,append_nil->Br,length_take->Bs,any_eq_false->Bw,getElem?_take->B5,getD_eq_getElem?_getD->B6,nodup_append->B8,replicate->CA,nodup_cons->CC,length_set->CD,flatMap_cons->CF,getElem?_set_ne->CG,mem_cons->CJ,getElem?_drop->CK,getElem?_cons_zero->CL,getElem?_replicate->CM,size_toArray->CN,getElem?_set_self->CO,any_cons->CR,length_nil->CS,length_map->CT,length_drop->Cc,length_cons->Cd,mem_map->Cj,count_cons->Ck,singleton_append->Cm,length_replicate->Cn,mem_range->Cq,all_cons->Cx,map_nil->C0,map_map->C7,isEmpty_iff->DB,flatMap_map->DC,cons_append->DF,length->DJ,map_append->DK,nil_append->DO,nodup_nil->DP,take_left->DR,map_cons->DV
open List.cons renaming injEq->CU
open Nat renaming eq_of_beq_eq_true->BI,lt_succ_self->BM,mul_le_mul_right->BN,beq->BT,le_refl->BU,succ_mul->B3,add_zero->B7,le_trans->B9,lt_of_lt_of_le->CB,le_of_ble_eq_true->CE,zero_add->CI,ble_eq_true_of_le->CP,le_add_right->CQ,mul_le_mul_left->CV,blt_eq->CW,add_mul->CZ,le_of_eq->Ce,ble->Cf,mul_comm->Ch,sub_zero->Ci,mul_one->Cr,blt->Cu,eq_zero_or_pos->Cz,zero_mul->C9,mod_eq_of_lt->DD,le_succ->DG,zero_le->DH,mul_add_mod->DL,add_assoc->DT
open Ne renaming symm->CH
open Option renaming map_eq_some_iff->BB,bind_eq_some_iff->Bv,map_none->Cl,toList_some->Cy,map_some->DM
open Option.some renaming injEq->BA
open Prod renaming ext->DW
open Prod.mk renaming injEq->B4
namespace Go.Proofs.YtaelpfghkndliaaGreatEv
open Go Go.RowKit
section
variable {P:Program} {V:Env} {Γ:List Ctr} {T:TypeId->TI} {st:St} {o:Oper} {R:Type} {κ:Upd->Option R} {r:R}
theorem mX {q u:Nat}(h:q≠u)(c y:bT)(st:St):ae [(q,c)] (ae [(u,y)] st)=ae [(u,y)] (ae [(q,c)] st):=by
 funext k;rcases an q k c (ae [(u,y)] st) with ⟨rfl,e⟩|⟨I,e⟩
 ·rw[e,aJ h,bh]
 ·rw[e];rcases an u k y st with ⟨rfl,z⟩|⟨H,z⟩
  ·rw[z,bh]
  ·rw[z,aJ H,aJ I]
theorem aq.boxed (hV:ay V){W:Wit}{a:Act}{w:World}(h:aq P V W st a w)(d:Nat)(hd:d<V.nt)(J:∀ x∈V.fixt,x.1≠d)(M:(st (B0+d)).sh=.off)(ls:List Leaf)
  (y:List Value) (z:Nat->List Nat) (E:TypeId)
  (hl:ls.length=y.length) (h1:∀ u∈y,u.oneCell'=true)
  (H:∀ (j:Nat) (l:Leaf) (u:Value),ls[j]?=some l->y[j]?=some u->aK P V W st w (z j) l u)
  (X:∀ (j:Nat) (l:Leaf),ls[j]?=some l->ap l->∀ k∈z j,¬ W.nw k/\¬ V.prot k/\k<w.heap.size/\(∀ b,live st b->W.β b≠k) /\
   ∀ (Y j1:Nat) (Z:Leaf),(st Y).ls[j1]?=some Z->ap Z->k∉W.bs Y j1)
  (I:∀ (j j':Nat) (l l':Leaf),ls[j]?=some l->ap l->ls[j']?=some l'->ap l'->∀ k,k∈z j->k∈z j'->j=j') :
  Rel P V (ae ((B0+d,⟨(st (B0+d)).ver+1,.agg,ls⟩)::[(d,⟨(st d).ver+1,.one,[.bp (B0+d) 0]⟩)]) st) (a.put (some d) (.pointer (some ⟨w.heap.size,0,none⟩))) (w.alloc (.cells y.toArray E)):=by
 have O:B0+d≠d:=by simp[B0]
 have a0:¬ live st (B0+d):=by simp[live,M]
 have h2:=h.setBox hV (B0+d) (CQ _ _) ((st (B0+d)).ver+1) ls y z w.heap.size E (w':=w.alloc (.cells y.toArray E)) (BM _) (.inr ⟨a0,BU _⟩)
  (heap_alloc_new w _) (λk hk _=>Go.heap_alloc_old w _ hk) (by simp) rfl rfl rfl hl h1 H (λj l hj ho k hk=>by
   obtain⟨h3,h4,h5,h6,h7⟩:=X j l hj ho k hk;exact⟨h3,h4,h5,h6,λY j1 Z _=>h7 Y j1 Z⟩) I
 rw[aP,mX O];refine h2.putLs hV d hd J _ .one [.bp (B0+d) 0] _ [.pointer (some ⟨w.heap.size,0,none⟩)] ?_ rfl ⟨⟨⟨CQ _ _,by rw[bh],by simp⟩,id,rfl⟩,trivial⟩;rw[aJ (CH O)];omega
theorem ut {t:TypeId}(I:TOk P T)(y:(T t).cells≠0)(w:World):∃ z H,(zeroValue t).run P w=.ok z w/\z.cells=H.toArray/\∀ (V:Env) (W:Wit) (st:St),aD P V W st w (T t).zero H:=by
 have h:=I t;cases u:T t with
 |none=>rw[u]at y;exact absurd rfl y
 |int k=>rw[u]at h;exact⟨_,[.int k 0],gm h.2.2 w,rfl,λV W st=>⟨⟨rfl,id,rfl⟩,trivial⟩⟩
 |bool=>rw[u]at h;exact⟨_,[.bool false],gm h.2.2 w,rfl,λV W st=>⟨⟨rfl,id,rfl⟩,trivial⟩⟩
 |str=>rw[u]at h;exact⟨_,[.string ByteArray.empty],gm h.2.2 w,rfl,λV W st=>⟨⟨rfl,id,rfl⟩,trivial⟩⟩
 |slice E e b=>rw[u]at h;exact⟨_,[.slice none 0 0],gm h.2.2.1 w,rfl,λV W st=>⟨⟨rfl,id,rfl⟩,trivial⟩⟩
 |struct a J=>rw[u]at h;exact⟨_,zeroCells a,gm h.2.2.1 w,rfl,λV W st=>lr a⟩
 |arr e n=>rw[u]at h;exact⟨_,(CA n (zeroCells e)).flatten,gm h.2.2.2 w,rfl,λV W st=>oM e n⟩
 |ptr=>rw[u]at h;exact⟨_,[.pointer none],gm h.2.2 w,rfl,λV W st=>⟨⟨trivial,id,rfl⟩,trivial⟩⟩
 |fn=>rw[u]at h;exact⟨_,[.nilFunc],gm h.2.2 w,rfl,λV W st=>⟨⟨trivial,id,rfl⟩,trivial⟩⟩
theorem xG (hV:ay V)(Y:TOk P T)(J:bN V o){t:TypeId}(y:o.op=.alloc t)(h:act Γ T o st κ=some r):bW P V o st κ r:=by
 simp only[act,y]at h;split at h
 ·rename_i d O;cases H:decide ((st (B0+d)).sh=.off)&&!decide ((T t).cells=0) with
  |false=>simp[H]at h
  |true =>
   simp only[H]at h;simp at H;refine⟨_,h,λW a w hr next Q hn=>?_⟩;obtain⟨z,X,hz,Z,I⟩:=ut Y H.2 w;have I:=I V W st;refine dW (v:=.pointer (some ⟨w.heap.size,0,none⟩)) (w':=w.alloc (.cells X.toArray t)) ?_ ?_
   ·simp[execOp,y,Instr.alloc,hz,newVar,newRow,Z]
   ·rw[O];refine hn _ _ ?_;exact hr.boxed hV d (J d O).1 (J d O).2 H.1 _ X (λ_=>[]) t I.length I.one' (λj l u h1 h2=>(I.at_ j l u h1 h2).1) (λ_ _ _ _ k M=>by simp at M) (λ_ _ _ _ _ _ _ _ k M=>by simp at M)
 ·grind
theorem Ah (hV:ay V)(I:bN V o){t:TypeId}{x:Operand}(Y:o.op=.box t x)(h:act Γ T o st κ=some r):bW P V o st κ r:=by
 simp only[act,Y]at h;split at h
 ·rename_i d O;cases hb:decide ((st (B0+d)).sh=.off)&&decide ((av st x).2.length=(T t).cells)&&decide ((av st x).1=bg (T t).agg)&&hZ st (av st x).2 with
  |false=>simp[hb]at h
  |true =>
   simp only[hb]at h;simp at hb;obtain⟨⟨⟨a0,a2⟩,a1⟩,Z⟩:=hb;have J:∀ (W:Wit) (a:Act) (w:World) (H:List Value),ee (av st x).1 (a.eval x) H->aD P V W st w (av st x).2 H ->
     (execOp a.eval o).run P w=.ok (.value (.pointer (some ⟨w.heap.size,0,none⟩))) (w.alloc (.cells H.toArray t)):=by
    intro W a w H X z;rw[a1]at X;have hc:=gU X z.one';simp[execOp,Y,Instr.box,newVar,newRow,hc]
   cases y:sg st x with
   |true =>
    rw[y]at h;refine⟨_,h,λW a w M next Q hn=>?_⟩;obtain⟨H,X,z⟩:=cU M x;refine dW (J W a w H X z) ?_;rw[O];refine hn _ _ ?_;exact M.boxed hV d (I d O).1 (I d O).2 a0 _ H (λ_=>[]) t z.length z.one' (λj l u h1 h2=>(z.at_ j l u h1 h2).1) (λ_ _ _ _ k hk=>by simp at hk) (λ_ _ _ _ _ _ _ _ k hk=>by simp at hk)
   |false =>
    rw[y]at h;refine⟨_,h,λW a w M next Q hn=>?_⟩;obtain⟨H,X,z⟩:=cU M x;obtain⟨h1,h2,h3,h4,h5⟩:=oK hV M z Z;have h6:=zj hV M z Z;refine dW (J W a w H X z) ?_;rw[O];refine hn _ _ ?_;have:=h1.boxed hV d (I d O).1 (I d O).2 (by rw[(h6 _).1];exact a0) _ H (dq W (av st x).2) t h2 z.one' h3 h4 h5;exact this
 ·grind
theorem jH (b:Nat)(E:TypeId):∀ (u:List Value) (k o:Nat) (w:World) (cur:Array Value) {mk:Nat×Nat},w.heap[b]?=some (.cells cur E mk) ->
  (w.setCells b (o+k) u).heap[b]?=some (.cells ((u.zipIdx k).foldl (λy (x:Value×Nat)=>y.setIfInBounds (o+x.2) x.1) cur) E mk)
 |[],_,_,_,_,_,h=>h
 |v::u,k,o,w,cur,mk,h=>by
  have:=jH b E u (k+1) o (w.setCell ⟨b,o+k,none⟩ v) _ (by rw[setCell_eq_setRow w b (o+k) cur E mk v h];exact setRow_heap w b cur _ E mk h);simpa[Cp,DT]using this
theorem eH (b:Nat):∀ (u:List Value) (o:Nat) (w:World) (k:Nat),k≠b->(w.setCells b o u).heap[k]?=w.heap[k]?
 |[],_,_,_,_=>rfl
 |v::u,o,w,k,h=>by
  rw[Cp,eH b u (o+1) _ k h];exact heap_setCell_other w ⟨b,o,none⟩ k v h
theorem jI (b:Nat):∀ (u:List Value) (o:Nat) (w:World),(w.setCells b o u).os=w.os/\(w.setCells b o u).tape=w.tape/\(w.setCells b o u).output=w.output/\(w.setCells b o u).heap.size=w.heap.size
 |[],_,_=>⟨rfl,rfl,rfl,rfl⟩
 |v::u,o,w=>by
  obtain⟨z,y,H,I⟩:=jI b u (o+1) (w.setCell ⟨b,o,none⟩ v);exact⟨z,y,H,by rw[Cp,I];simp⟩
theorem mY {t:TypeId}{n:Nat}(z:bQ P t n){w:World}{b off:Nat}{cur:List Value}{E:TypeId}{mk:Nat×Nat}(J:w.heap[b]?=some (.cells cur.toArray E mk))(I:mk.2=0\/cur.length<=mk.1){v:Value}{cs:List Value}
  (Z:v.cells=cs.toArray) (O:cs.length=n) (X:∀ u∈cs,u.oneCell'=true) (M:off+cs.length<=cur.length) :
  (DU t (.pointer (some ⟨b,off,none⟩)) v).run P w=.ok () (w.setCells b off cs):=by
 have y:∀ j,j<cs.length->(w.cell? ⟨b,off+j,none⟩).isSome=true:=by
  intro j H;rw[cell_of_row w b _ _ E mk J]
  grind
 have h3:=run_storeCells_cells (P:=P) b off cs 0 w (λj H=>y j H) (λj H=>qQ J (by simpa using I) (by simp;omega)) X;have Y:=du z w;simp[DU,Instr.sureAddr,storeVar,Y,Z,O,h3]
theorem tq (hV:ay V)(hT:TOk P T){t:TypeId}{x y:Operand}{b off:Nat}(b2:o.op=.store t x y)(hd:o.dst=none)(hx:one st x=.bp b off)
  (c0:(av st y).2.length=(T t).cells) (b3:(av st y).1=bg (T t).agg) (ad:(T t).cells≠0) (ab:(st b).sh=.agg) (c1:off+(av st y).2.length<=(st b).ls.length) (a3:hZ st (av st y).2=true)
  {W:Wit} {a:Act} {w:World} (hr:aq P V W st a w) :
  mF P V o st ((b,⟨(ae (mvU st (av st y).2) st b).ver+1,.agg,jr (ae (mvU st (av st y).2) st b).ls (dH st (av st y).2) off⟩)::mvU st (av st y).2) a w:=by
 intro next Q hn;obtain⟨I,hs,hl⟩:=cU hr y;rw[b3]at hs;have hc:=gU hs hl.one';obtain⟨h1,h2,h3,h4,h5⟩:=oK hV hr hl a3;have h6:=zj hV hr hl a3;obtain⟨hp,_,_,_⟩:=bq hr x (by rw[hx];simp);rw[hx]at hp;obtain⟨hB,_,hv⟩:=hp;have bl:T t≠.none:=by intro e;rw[e]at ad;exact ad rfl
 rcases hr.boxes b hB with ⟨h8,_⟩|⟨_,E,h8⟩
 ·rw[ab]at h8;cases h8
 ·have b1:=hl.length;have c2:=hr.len b;have bx:(ae (mvU st (av st y).2) st b).ls.length=(W.cs b).length:=h1.len b;have a9:off+I.length<=(W.cs b).length:=by omega
  have b0:=mY (oL (hT t) bl) h8 (.inl rfl) hc (by omega) hl.one' a9;refine pw (w':=w.setCells (W.β b) off I) (by simp[execOp,b2,hv,b0]) ?_;rw[hd];refine hn _ _ ?_;rw[aP];obtain⟨e1,e2,e3,e4⟩:=jI (W.β b) I off w;have a0:=jH (W.β b) E I 0 off w _ h8;rw[kR (W.cs b) I off a9]at a0;simp only[B7]at a0;have b5:live (ae (mvU st (av st y).2) st) b:=⟨hB,by rw[(h6 b).1];exact ab⟩;have b9:(dH st (av st y).2).length=I.length:=h2;have M:∀ (j:Nat) (l:Leaf),(jr (ae (mvU st (av st y).2) st b).ls (dH st (av st y).2) off)[j]?=some l ->
    (off<=j/\j<off+I.length/\(dH st (av st y).2)[j-off]?=some l)\/((j<off\/off+I.length<=j)/\(ae (mvU st (av st y).2) st b).ls[j]?=some l):=by
   intro j l hj;unfold jr at hj;rw[b9]at hj;by_cases Z:j<off
   ·rw[BQ,BH (by simp;omega),B5,if_pos Z]at hj;exact .inr ⟨.inl Z,hj⟩
   ·by_cases J:j<off+I.length
    ·rw[BQ,BG (by simp;omega),BH (by simp;omega)]at hj;refine .inl ⟨by omega,J,?_⟩;rw[<- hj];congr 1;simp;omega
    ·rw[BG (by simp;omega),CK]at hj;refine .inr ⟨.inr (by omega),?_⟩;rw[<- hj];congr 1;simp;omega
  have a2:∀ (j:Nat),((W.cs b).take off++I++(W.cs b).drop (off+I.length))[j]?=if off<=j/\j<off+I.length then I[j-off]? else (W.cs b)[j]?:=by
   intro j;by_cases Z:j<off
   ·rw[BQ,BH (by simp;omega),B5,if_pos Z,if_neg (by omega)]
   ·by_cases J:j<off+I.length
    ·rw[BQ,BG (by simp;omega),BH (by simp;omega),if_pos ⟨by omega,J⟩];congr 1;simp;omega
    ·rw[BG (by simp;omega),CK,if_neg (by omega)];congr 1;simp;omega
  refine⟨_,h1.setBox hV b hB _ _ ((W.cs b).take off++I++(W.cs b).drop (off+I.length)) (λj=>if off<=j/\j<off+I.length then dq W (av st y).2 (j-off) else W.bs b j) (W.β b) E
   (BM _) (.inl ⟨b5,rfl⟩) a0 (λk _ Y=>eH (W.β b) I off w k Y) (Ce e4.symm) e1 e2 e3 ?_ ?_ ?_ ?_ ?_⟩
  ·simp only[jr,BR,Bs,Cc];omega
  ·intro u hu;simp only[BL]at hu;rcases hu with (hu|hu)|hu
   ·exact hr.one b u (List.mem_of_mem_take hu)
   ·exact hl.one' u hu
   ·exact hr.one b u (List.mem_of_mem_drop hu)
  ·intro j l u hj hu;rw[a2]at hu;rcases M j l hj with ⟨Z,J,H⟩|⟨Z,H⟩
   ·rw[if_pos ⟨Z,J⟩]at hu;simp only[if_pos (⟨Z,J⟩:off<=j/\j<off+I.length)];exact h3 _ l u H hu
   ·have z:¬ (off<=j/\j<off+I.length):=by omega
    rw[if_neg z]at hu;simp only[if_neg z];exact h1.leaf b j l u H hu
  ·intro j l hj ho k Y;rcases M j l hj with ⟨Z,J,H⟩|⟨Z,H⟩
   ·simp only[if_pos (⟨Z,J⟩:off<=j/\j<off+I.length)]at Y;obtain⟨q1,q2,q3,q4,q5⟩:=h4 _ l H ho k Y;exact⟨q1,q2,q3,q4,λr1 j1 l1 _=>q5 r1 j1 l1⟩
   ·have z:¬ (off<=j/\j<off+I.length):=by omega
    simp only[if_neg z]at Y;obtain⟨q1,q2,q3⟩:=h1.ownb b j l H ho k Y;exact⟨q1,q2,h1.own_lt H ho k Y,q3,λr1 j1 l1 ba b4 bn bb=>ba (h1.sep b j l r1 j1 l1 H ho b4 bn k Y bb).1.symm⟩
  ·intro j j' l l' hj ho b6 a1 k Y O;rcases M j l hj with ⟨Z,J,H⟩|⟨Z,H⟩ <;> rcases M j' l' b6 with ⟨a5,a4,X⟩|⟨a5,X⟩
   ·simp only[if_pos (⟨Z,J⟩:off<=j/\j<off+I.length)]at Y;simp only[if_pos (⟨a5,a4⟩:off<=j'/\j'<off+I.length)]at O;have:=h5 _ _ l l' H ho X a1 k Y O;omega
   ·have z:¬ (off<=j'/\j'<off+I.length):=by omega
    simp only[if_pos (⟨Z,J⟩:off<=j/\j<off+I.length)]at Y;simp only[if_neg z]at O;exact absurd O ((h4 _ l H ho k Y).2.2.2.2 b j' l' X a1)
   ·have z:¬ (off<=j/\j<off+I.length):=by omega
    simp only[if_neg z]at Y;simp only[if_pos (⟨a5,a4⟩:off<=j'/\j'<off+I.length)]at O;exact absurd Y ((h4 _ l' X a1 k O).2.2.2.2 b j l H ho)
   ·have z:¬ (off<=j/\j<off+I.length):=by omega
    have a6:¬ (off<=j'/\j'<off+I.length):=by omega
    simp only[if_neg z]at Y;simp only[if_neg a6]at O;exact (h1.sep b j l b j' l' H ho X a1 k Y O).2
end
theorem br {l:List Nat}:l.Nodup<->∀ k,l.count k<=1:=by
 induction l with
 |nil=>simp
 |cons a l z =>
  rw[CC,z];constructor
  ·rintro⟨r,y⟩ k;rw[Ck];by_cases u:a=k
   ·subst u;have:l.count a=0:=BZ.2 r;simp[this]
   ·have:=y k;simp[u,this]
  ·intro h;refine⟨λH=>?_,λk=>?_⟩
   ·have r:=h a;have y:0<l.count a:=BK.2 H;rw[Ck]at r;simp at r;omega
   ·have:=h k;rw[Ck]at this;omega
theorem pX {n:Nat}(r:Nat->List Nat)(k:Nat):((BO n).flatMap r).count k=((BO n).map λj=>(r j).count k).sum:=by
 generalize BO n=l;induction l with
 |nil=>rfl
 |cons a l u=>simp[BF,u]
theorem ko {n i:Nat}(H:i<n)(r:Nat->List Nat)(b:List Nat)(k:Nat) :
  ((BO n).flatMap λj=>if j=i then b else r j).count k+(r i).count k=((BO n).flatMap r).count k+b.count k:=by
 rw[pX,pX];induction n with
 |zero=>omega
 |succ n y =>
  rw[List.range_succ];simp only[DK,DV,C0,List.sum_append,List.sum_cons,List.sum_nil];by_cases u:i=n
  ·subst u;have:(BO i).map (λj=>List.count k (if j=i then b else r j))=(BO i).map λj=>(r j).count k:=by
    refine List.map_congr_left λj z=>?_
    rw[if_neg (by have:=Cq.1 z;omega)]
   rw[this,if_pos rfl];omega
  ·have:=y (by omega);rw[if_neg (λe=>u e.symm)];omega
theorem mZ {bs bs' K:List Nat}(y:bs.Nodup)(z:K.Nodup)(H:∀ k∈K,k∉bs)(h:∀ k,bs'.count k<=bs.count k+K.count k):bs'.Nodup/\∀ k∈bs',k∈bs\/k∈K:=by
 rw[br]at y z;refine⟨br.2 λk=>?_,λk r=>?_⟩
 ·have J:=h k;have I:=y k;have u:=z k;by_cases r:k∈K
  ·have:bs.count k=0:=BZ.2 (H k r);omega
  ·have:K.count k=0:=BZ.2 r;omega
 ·have J:=h k;have I:0<bs'.count k:=BK.2 r;by_cases u:k∈bs
  ·exact .inl u
  ·have:bs.count k=0:=BZ.2 u;exact .inr (BK.1 (by omega))
theorem Mx.pos {w:World}{G:Nat->Prop}:∀ {a:Ty} {pos r:Nat} {x:a.den} {cs:List Value} {bs:List Nat},Mx w G a none pos x cs bs->Mx w G a none r x cs bs
 |.int _,_,_,_,_,_,h=>h
 |.bool,_,_,_,_,_,h=>h
 |.str,_,_,_,_,_,h=>h
 |.unit,_,_,_,_,_,h=>h
 |.hdr,_,_,_,_,_,h=>h
 |.pair _ _,_,_,_,_,_,⟨J,I,M,R,O,u,z,y⟩=>⟨J,I,M,R,O,u,Mx.pos z,Mx.pos y⟩
 |.list m E e,_,_,_,_,_,H=>by
  cases m with
  |false=>rw[cq]at H ⊢;exact H
  |true=>rw[bH (by simp)]at H ⊢;exact H
section
variable {P:Program} {V:Env} {W:Wit} {st:St} {w w':World} {a:Act}
theorem Mx.scalar {G:Nat->Prop}{b:Ty}{hol:Option Nat}{pos:Nat}{x:b.den}{cs:List Value}{S:Nat->Prop}(r:b.flat=true)(h:Rd w S b x cs):Mx w G b hol pos x cs []:=Mx.flat r h
theorem lA (h:aq P V W st a w):∀ (b:Ty) (pos:Nat) (ls:List Leaf) (cs:List Value) (t:cL b.den),aD P V W st w ls cs->take st b ls=some t ->
  ∃ J O M,cs=J++O/\ls=M++t.rest/\aD P V W st w M J/\aD P V W st w t.rest O/\Mx w (bj V W t.p t.frz) b none pos t.val J (aX W t.kill) /\
   (∀ x∈t.frz,aC st x)/\(∀ x∈t.kill,aC st x)
 |.pair b c,pos,ls,cs,t,H,z=>by
  simp only[take]at z;split at z
  ·rename_i u hb;split at z
   ·rename_i v hc;simp only[BA]at z;subst z;obtain⟨J,O,M,e1,e2,h1,Y,X,h4,h5⟩:=lA h b pos ls cs u H hb;obtain⟨c3,c4,l2,e3,e4,h6,h7,h8,h9,a0⟩:=lA h c (pos+b.cells) u.rest O v Y hc;refine⟨J++c3,c4,M++l2,by rw[e1,e3,BQ],by rw[e2,e4,BQ],h1.append h6,h7,⟨J,c3,_,_,rfl,dI W _ _,?_,?_⟩,?_,?_⟩
    ·refine X.mono λk I=>?_
     rcases I with I|⟨y,hy,I⟩
     ·exact .inl (bU (by intro h;simp[h]) (λ_ h=>h) k I)
     ·exact .inr ⟨y,BJ _ hy,I⟩
    ·refine h8.mono λk I=>?_
     rcases I with I|⟨y,hy,I⟩
     ·exact .inl (bU (by intro h;simp[h]) (λ_ h=>h) k I)
     ·exact .inr ⟨y,BE _ hy,I⟩
    ·intro x R;exact (BL.1 R).elim (h4 x) (h9 x)
    ·intro x R;exact (BL.1 R).elim (h5 x) (a0 x)
   ·cases z
  ·cases z
 |.unit,pos,ls,cs,t,H,z=>by
  simp only[take,BA]at z;subst z;exact⟨[],cs,[],rfl,rfl,trivial,H,⟨rfl,rfl⟩,by simp,by simp⟩
 |.list m E e,pos,ls,cs,t,H,z=>by
  cases ls with
  |nil=>simp[take]at z
  |cons l ls =>
   cases cs with
   |nil=>exact H.elim
   |cons v cs =>
    cases m with
    |false =>
     simp only[take,cond_false]at z;split at z
     ·rename_i p xs ha;simp only[BA]at z;subst z;refine⟨[v],cs,[l],rfl,rfl,⟨H.1,trivial⟩,H.2,cq.2 ⟨rfl,ky h H.1.1 H.1.2.1 ha⟩,λx R=>ek (cs:=[v]) (ls:=[l]) ⟨H.1,trivial⟩ R,by simp⟩
     ·cases z
    |true =>
     simp only[take,cond_true]at z;split at z
     ·rename_i r j n;split at z
      ·rename_i p E' e' xs hd;simp only[BB]at z;obtain⟨ys,hc,rfl⟩:=z;obtain⟨rfl,rfl,rfl⟩:=jE hc;obtain⟨h1,Y,X,h4⟩:=ke h hd H.1.1;refine⟨[v],cs,[_],rfl,rfl,⟨H.1,trivial⟩,H.2,(bH (by simp)).2 ⟨v,rfl,?_⟩,by simp,?_⟩
       ·have:aX W [(r,j)]=W.bs r j:=by simp[aX]
        show OwB w _ none E' e' xs v (aX W [(r,j)]);rw[this];exact Y.2.carry (λk I=>.inl I) (λ_ _=>rfl) (λ_ _=>rfl)
       ·intro x R;simp only[List.mem_singleton]at R;subst R;exact⟨_,X,trivial⟩
      ·cases z
     ·simp only[BA]at z;subst z;have X:v=.slice none 0 0:=H.1.1;refine⟨[v],cs,[_],rfl,rfl,⟨H.1,trivial⟩,H.2,(bH (by simp)).2 ⟨v,rfl,?_⟩,by simp,by simp⟩;rw[X];exact (OwH.nil w _ E e).2
     ·cases z
 |.int k,pos,ls,cs,t,H,z=>take_scalar h (b:=.int k) rfl H z
 |.bool,pos,ls,cs,t,H,z=>take_scalar h (b:=.bool) rfl H z
 |.str,pos,ls,cs,t,H,z=>take_scalar h (b:=.str) rfl H z
 |.hdr,pos,ls,cs,t,H,z=>take_scalar h (b:=.hdr) rfl H z
where
 take_scalar (h:aq P V W st a w) {b:Ty} {pos:Nat} {ls:List Leaf} {cs:List Value} {t:cL b.den} (hf:b.flat=true) (H:aD P V W st w ls cs) (z:(a7 st b ls).map (λx=>(⟨false,x.2.1,[],[],x.2.2⟩:cL b.den))=some t) :
   ∃ J O M,cs=J++O/\ls=M++t.rest/\aD P V W st w M J/\aD P V W st w t.rest O/\Mx w (bj V W t.p t.frz) b none pos t.val J (aX W t.kill) /\
    (∀ x∈t.frz,aC st x)/\(∀ x∈t.kill,aC st x):=by
  simp only[BB]at z;obtain⟨⟨p,x,Z⟩,h1,rfl⟩:=z;obtain⟨J,O,M,e1,e2,Y,X,h4⟩:=kz h b ls cs p x Z H h1;exact⟨J,O,M,e1,e2,Y,X,Mx.flat hf h4,by simp,by simp⟩
theorem dO (h:aq P V W st a w){b:Ty}{pos:Nat}{ls:List Leaf}{cs:List Value}{t:cL b.den}(H:aD P V W st w ls cs)(r:ci st b ls=some t) :
  Mx w (bj V W t.p t.frz) b none pos t.val cs (aX W t.kill)/\(∀ x∈t.frz,aC st x)/\(∀ x∈t.kill,aC st x):=by
 unfold ci at r;split at r
 ·rename_i p x f k z;simp only[BA]at r;subst r;obtain⟨Z,u,Y,y,R,X,I,M,J,O⟩:=lA h b pos ls cs _ H z;have:u=[]:=by
   cases u with
   |nil=>rfl
   |cons=>exact I.elim
  subst this;simp only[Br]at y;subst y;exact⟨M,J,O⟩
 ·cases r
theorem gP (h:aq P V W st a w):∀ {ks:List (Nat×Nat)},aY ks=true->(∀ x∈ks,aC st x)->(aX W ks).Nodup
 |[],_,_=>DP
 |x::ks,O,J=>by
  simp only[aY,BC,BY,Bw]at O;have R:=gP h O.2 (λy H=>J y (BP _ H));show (W.bs x.1 x.2++aX W ks).Nodup;rw[B8];obtain⟨l,M,z⟩:=J x (BW ..);refine⟨?_,R,λk X k' r e=>?_⟩
  ·have hj:x.2<(W.cs x.1).length:=by rw[<- h.len];exact (BD.1 M).1
   have:=h.leaf x.1 x.2 l _ M (BS hj);cases l <;> simp only[ap]at z;exact OwH.nodup this
  ·subst e;obtain⟨y,H,r⟩:=gj.1 r;obtain⟨Y,I,u⟩:=J y (BP _ H);obtain⟨e1,Z⟩:=h.sep x.1 x.2 l y.1 y.2 Y M z I u k X r;have:=O.1 y H;rw[e1,Z]at this;simp at this
theorem jW:∀ {b:Ty} {S u:Nat->Prop} {z:Option Nat} {pos:Nat} {y:b.den} {c:List Value} {q:List Nat},b.flat=true->Mx w S b z pos y c q->Rd w u b y c
 |.int _,_,_,_,_,_,_,_,_,h=>h.1
 |.bool,_,_,_,_,_,_,_,_,h=>h.1
 |.str,_,_,_,_,_,_,_,_,h=>h.1
 |.unit,_,_,_,_,_,_,_,_,h=>h.1
 |.hdr,_,_,_,_,_,_,_,_,h=>h.1
 |.pair _ _,_,_,_,_,_,_,_,r,⟨M,J,X,Y,O,R,I,H⟩=>by
  simp only[Ty.flat,BC]at r;exact⟨M,J,O,jW r.1 I,jW r.2 H⟩
 |.list _ _ _,_,_,_,_,_,_,_,r,_=>by simp[Ty.flat]at r
theorem mi (h:aq P V W st a w){G:Nat->Prop}{off n:Nat}{hol I:Option Nat}(a3:∀ k,off<=k->k<off+n->I≠some k)(R:∀ k,¬ (off<=k/\k<off+n)->(I=some k<->hol=some k)) :
  ∀ (b:Ty) (pos:Nat) (x:b.den) (ls:List Leaf) (cs:List Value) (t:cL b.den) (X:List Value) (z:List Nat),aD P V W st w ls cs->c9 st off n b pos x ls=some t->Mx w G b hol pos x X z ->
  ∃ O c2 c' J,cs=O++c2/\aD P V W st w t.rest c2/\O.length=min (off+n) (pos+b.cells)-max off pos /\
   Mx w (λk=>G k\/bj V W t.p t.frz k) b I pos t.val c' J /\
   (∀ i,i<b.cells->c'[i]?=if off<=pos+i/\pos+i<off+n then O[pos+i-max off pos]? else X[i]?) /\
   (∀ k,J.count k<=z.count k+(aX W t.kill).count k)/\(∀ x∈t.frz,aC st x)/\(∀ x∈t.kill,aC st x)
 |.pair b c,pos,x,ls,cs,t,X,z,M,r,⟨d1,d2,b1,b2,e1,e2,ad,b4⟩=>by
  simp only[c9]at r;split at r
  ·rename_i u Y;split at r
   ·rename_i v hc;simp only[BA]at r;subst r;obtain⟨O,c2,c',J,f1,f2,f3,f4,f5,f6,f7,f8⟩:=mi h a3 R b pos x.1 ls cs u d1 b1 M Y ad;obtain⟨c3,c4,a9,a1,g1,g2,g3,g4,g5,g6,g7,g8⟩:=mi h a3 R c (pos+b.cells) x.2 u.rest c2 v d2 b2 f2 hc b4;have b0:=f4.len;have b9:=g4.len;have b5:=ad.len;refine⟨O++c3,c4,c'++a9,J++a1,by rw[f1,g1,BQ],g2,?_,⟨c',a9,J,a1,rfl,rfl,?_,?_⟩,?_,?_,?_,?_⟩
    ·rw[BR,f3,g3];simp only[Ty.cells];omega
    ·refine f4.mono λk H=>?_
     rcases H with H|H|⟨y,hy,H⟩
     ·exact .inl H
     ·exact .inr (.inl (bU (by intro h;simp[h]) (λ_ h=>h) k H))
     ·exact .inr (.inr ⟨y,BJ _ hy,H⟩)
    ·refine g4.mono λk H=>?_
     rcases H with H|H|⟨y,hy,H⟩
     ·exact .inl H
     ·exact .inr (.inl (bU (by intro h;simp[h]) (λ_ h=>h) k H))
     ·exact .inr (.inr ⟨y,BE _ hy,H⟩)
    ·intro i hi;simp only[Ty.cells]at hi;rw[e1];by_cases b3:i<b.cells
     ·rw[BH (by omega),f5 i b3];by_cases hr:off<=pos+i/\pos+i<off+n
      ·rw[if_pos hr,if_pos hr,BH (by omega)]
      ·rw[if_neg hr,if_neg hr,BH (by omega)]
     ·rw[BG (by omega),b0,g5 (i-b.cells) (by omega)];have e3:pos+b.cells+(i-b.cells)=pos+i:=by omega
      rw[e3];by_cases hr:off<=pos+i/\pos+i<off+n
      ·rw[if_pos hr,if_pos hr,BG (by omega)];congr 1;omega
      ·rw[if_neg hr,if_neg hr,BG (by omega),b5]
    ·intro k;rw[e2,BF,BF,dI,BF];have:=f6 k;have:=g6 k;omega
    ·intro y hy;exact (BL.1 hy).elim (f7 y) (g7 y)
    ·intro y hy;exact (BL.1 hy).elim (f8 y) (g8 y)
   ·cases r
  ·cases r
 |.unit,pos,x,ls,cs,t,X,z,M,r,hm=>by
  simp only[c9,BA]at r;subst r;refine⟨[],cs,[],[],rfl,M,by simp only[Ty.cells,CS];omega,⟨rfl,rfl⟩,λi hi=>by simp[Ty.cells]at hi,λk=>by simp,by simp,by simp⟩
 |.hdr,pos,x,ls,cs,t,X,z,M,r,hm=>by simp[c9]at r
 |.int k,pos,x,ls,cs,t,X,z,M,r,hm=>put_scalar h (b:=.int k) rfl rfl M r hm
 |.bool,pos,x,ls,cs,t,X,z,M,r,hm=>put_scalar h (b:=.bool) rfl rfl M r hm
 |.str,pos,x,ls,cs,t,X,z,M,r,hm=>put_scalar h (b:=.str) rfl rfl M r hm
 |.list m E e,pos,x,ls,cs,t,X,z,M,r,hm=>by
  simp only[c9]at r;have b6:=hm.len;have e0:(Ty.list m E e).cells=1:=rfl;cases Y:Cf off pos&&Cu pos (off+n) with
  |true =>
   rw[Y]at r;simp only[cond_true]at r;simp only[BC,CW]at Y;have a6:=CE Y.1;obtain⟨O,c2,l1,e1,e2,h1,h2,h3,h4,h5⟩:=lA h (.list m E e) pos ls cs t M r;have a4:=h3.len;refine⟨O,c2,O,aX W t.kill,e1,h2,by rw[a4];omega,?_,λi hi=>?_,λk=>by omega,h4,h5⟩
   ·have Z:=h3.mono (G':=λk=>G k\/bj V W t.p t.frz k) (λk H=>.inr H);cases m with
    |false=>rw[cq]at Z ⊢;exact Z
    |true =>
     rw[bH (by simp)]at Z;rw[bH (a3 pos a6 Y.2)];exact Z
   ·rw[if_pos (by omega)];congr 1;omega
  |false =>
   rw[Y]at r;simp only[cond_false,BA]at r;subst r;have a2:¬ (off<=pos/\pos<off+n):=by
    rintro⟨h1,h2⟩;have:(Cf off pos&&Cu pos (off+n))=true:=by
     simp only[BC,CW];exact⟨CP h1,h2⟩
    rw[Y]at this;cases this
   refine⟨[],cs,X,z,rfl,M,by simp only[CS];omega,?_,λi hi=>?_,λk=>by omega,by simp,by simp⟩
   ·have Z:=hm.mono (G':=λk=>G k\/bj V W false [] k) (λk H=>.inl H);cases m with
    |false=>rw[cq]at Z ⊢;exact Z
    |true =>
     by_cases hp:hol=some pos
     ·have a5:=(R pos a2).2 hp;subst hp;subst a5;rw[iZ]at Z ⊢;exact Z
     ·have a5:I≠some pos:=λe=>hp ((R pos a2).1 e)
      rw[bH hp]at Z;rw[bH a5];exact Z
   ·rw[if_neg (by omega)]
where
 put_scalar (h:aq P V W st a w) {b:Ty} {pos:Nat} {x:b.den} {ls:List Leaf} {cs:List Value} {t:cL b.den} {X:List Value} {z:List Nat} (hf:b.flat=true) (h1:b.cells=1) (M:aD P V W st w ls cs)
   (r:(bif Cf off pos&&Cu pos (off+n) then take st b ls else some ⟨false,x,[],[],ls⟩)=some t) (hm:Mx w G b hol pos x X z) :
   ∃ O c2 c' J,cs=O++c2/\aD P V W st w t.rest c2/\O.length=min (off+n) (pos+b.cells)-max off pos /\
    Mx w (λk=>G k\/bj V W t.p t.frz k) b I pos t.val c' J /\
    (∀ i,i<b.cells->c'[i]?=if off<=pos+i/\pos+i<off+n then O[pos+i-max off pos]? else X[i]?) /\
    (∀ k,J.count k<=z.count k+(aX W t.kill).count k)/\(∀ x∈t.frz,aC st x)/\(∀ x∈t.kill,aC st x):=by
  have a0:∀ {S S':Nat->Prop} {hh ab:Option Nat} {y:b.den} {c:List Value} {q:List Nat},Mx w S b hh pos y c q->Mx w S' b ab pos y c []:=by
   intro S S' hh ab y c q hq;exact Mx.flat (w:=w) (G:=λ_=>True) hf (jW hf hq)
  cases Y:Cf off pos&&Cu pos (off+n) with
  |true =>
   rw[Y]at r;simp only[cond_true]at r;simp only[BC,CW]at Y;have a6:=CE Y.1;obtain⟨O,c2,l1,e1,e2,h2,h3,h4,h5,Z⟩:=lA h b pos ls cs t M r;have a4:=h4.len;refine⟨O,c2,O,[],e1,h3,by rw[a4];omega,a0 h4,λi hi=>?_,λk=>by simp,h5,Z⟩;rw[if_pos (by omega)];congr 1;omega
  |false =>
   rw[Y]at r;simp only[cond_false,BA]at r;subst r;have a2:¬ (off<=pos/\pos<off+n):=by
    rintro⟨h1,h2⟩;have:(Cf off pos&&Cu pos (off+n))=true:=by
     simp only[BC,CW];exact⟨CP h1,h2⟩
    rw[Y]at this;cases this
   refine⟨[],cs,X,[],rfl,M,by simp only[CS];omega,a0 hm,λi hi=>?_,λk=>by simp,by simp,by simp⟩;rw[if_neg (by omega)]
end
section
variable {P:Program} {V:Env} {Γ:List Ctr} {T:TypeId->TI} {st st2:St} {o:Oper} {R:Type} {κ:Upd->Option R} {r:R}
def uW (V:Env)(W:Wit)(st:St)(q j k:Nat):Prop :=
 ¬ W.nw k/\¬ V.prot k/\(∀ b,live st b->W.β b≠k)/\∀ (u i:Nat) (l:Leaf),(st u).ls[i]?=some l->ap l->(u,i)≠(q,j)->k∉W.bs u i
structure xH (st st2:St) (q j:Nat) (l':Leaf):Prop where
 sh:∀ r,(st2 r).sh=(st r).sh
 ver:∀ r,(st r).ver<=(st2 r).ver
 epo:(st EPO).ver<(st2 EPO).ver
 len:∀ r,(st2 r).ls.length=(st r).ls.length
 at_:∀ l,(st2 q).ls[j]?=some l->l=l'
 old:∀ r i l,(r,i)≠(q,j)->(st2 r).ls[i]?=some l->(st r).ls[i]?=some l
def Wit.tell (W:Wit)(q j:Nat)(bs:List Nat):Wit:={ W with bs:=λr i=>if (r,i)=(q,j) then bs else W.bs r i }
theorem aq.retell (hV:ay V){W:Wit}{a:Act}{w w':World}(h:aq P V W st a w){q j:Nat}{l l':Leaf}(O:xH st st2 q j l'){v:Value}{bs':List Nat}
  (hl:(st q).ls[j]?=some l) (ab:ap l) (hv:(W.cs q)[j]?=some v) (b3:ap l') (a9:aK P V W st w' bs' l' v)
  (a4:∀ k∈bs',uW V W st q j k)
  (H:∀ k,cf V W st k->k∉W.bs q j->w'.heap[k]?=w.heap[k]?) (a6:w.heap.size<=w'.heap.size) (b0:w'.os=w.os) (ht:w'.tape=w.tape) (ho:w'.output=w.output) :
  aq P V (W.tell q j bs') st2 a w':=by
 have a0:=h.ownb q j _ hl ab;have Z:∀ b,live st2 b<->live st b:=iC O.sh;have a2:∀ {y i:Nat},(y,i)≠(q,j)->(W.tell q j bs').bs y i=W.bs y i:=λh=>if_neg h
 have a3:(W.tell q j bs').bs q j=bs':=if_pos rfl;have ad:∀ (y i:Nat) (l:Leaf),(st2 y).ls[i]?=some l->ap l->(y,i)≠(q,j)->(st y).ls[i]?=some l:=λy i l X _ M=>O.old y i l M X
 have I:cF V W (W.tell q j bs') st st2 w w':=by
  refine⟨λy=>⟨O.ver y,λ_=>rfl⟩,λb hb=>⟨(Z b).2 hb,rfl⟩,λ_ h=>h,λk z=>H k (z.elim .inl (λh=>.inr (.inl h))) (λhm=>?_),λhe=>?_⟩
  ·rcases z with z|z
   ·exact (a0 k hm).1 z
   ·exact (a0 k hm).2.1 z
  ·have:=O.epo;omega
 exact {
  nt:=h.nt,df:=h.df
  slots:=λt b1=>by rw[O.sh];exact h.slots t b1
  boxes:=λb hb=>by
   rw[O.sh];rcases h.boxes b hb with ⟨X,M⟩|⟨X,E0,M⟩
   ·refine .inl ⟨X,BV ?_⟩;rw[O.len,M];rfl
   ·refine .inr ⟨X,E0,?_⟩;show w'.heap[W.β b]?=_;rw[H _ (.inr (.inr (.inl ⟨b,⟨hb,X⟩,rfl⟩))) (λhm=>(a0 _ hm).2.2 b ⟨hb,X⟩ rfl)];exact M
  len:=λy=>by rw[O.len];exact h.len y
  one:=h.one
  leaf:=λy i l1 u X M=>by
   by_cases J:(y,i)=(q,j)
   ·cases J;obtain rfl:=O.at_ l1 X;have M:(W.cs q)[j]?=some u:=M;rw[hv]at M;simp only[BA]at M;subst M;rw[a3];have a5:cF V W (W.tell q j bs') st st2 w' w':=⟨I.ver,I.box,I.nw,λ_ _=>rfl,λhe=>by have:=O.epo;omega⟩;exact a9.carry hV.ro a5 (λ_=>⟨rfl,λ_ _=>rfl⟩)
   ·have h3:=O.old y i l1 J X;rw[a2 J];refine (h.leaf y i l1 u h3 M).carry hV.ro I (λho=>⟨rfl,λk z=>H k (.inr (.inr (.inr ⟨y,i,l1,h3,ho,z⟩))) (λhm=>J ?_)⟩);obtain⟨rfl,rfl⟩:=h.sep y i l1 q j _ h3 ho hl ab k z hm;rfl
  ownb:=λy i l1 X M k z=>by
   by_cases J:(y,i)=(q,j)
   ·cases J;rw[a3]at z;obtain⟨q1,q2,q3,_⟩:=a4 k z;exact⟨q1,q2,λb hb=>q3 b ((Z b).1 hb)⟩
   ·rw[a2 J]at z;obtain⟨q1,q2,q3⟩:=h.ownb y i l1 (O.old y i l1 J X) M k z;exact⟨q1,q2,λb hb=>q3 b ((Z b).1 hb)⟩
  sep:=λy i l1 r2 i2 l2 X M h3 h4 k z a1=>by
   by_cases J:(y,i)=(q,j) <;> by_cases Y:(r2,i2)=(q,j)
   ·rw[<- Y]at J;cases J;exact⟨rfl,rfl⟩
   ·cases J;rw[a3]at z;rw[a2 Y]at a1;exact absurd a1 ((a4 k z).2.2.2 r2 i2 l2 (O.old r2 i2 l2 Y h3) h4 Y)
   ·cases Y;rw[a3]at a1;rw[a2 J]at z;exact absurd z ((a4 k a1).2.2.2 y i l1 (O.old y i l1 J X) M J)
   ·rw[a2 J]at z;rw[a2 Y]at a1;exact h.sep y i l1 r2 i2 l2 (O.old y i l1 J X) M (O.old r2 i2 l2 Y h3) h4 k z a1
  box:=λb hb=>h.box b ((Z b).1 hb)
  inj:=λb b' hb b2=>h.inj b b' ((Z b).1 hb) ((Z b').1 b2)
  nwlt:=λk z=>⟨CB (h.nwlt k z).1 a6,(h.nwlt k z).2⟩
  os:=b0.trans h.os,tape:=ht.trans h.tape,output:=ho.trans h.output,size:=B9 h.size a6
  keep:=λk hp=>by
   rw[H k (.inr (.inl hp)) (λhm=>(a0 k hm).2.1 hp)];exact h.keep k hp
  fixb:=λx hx=>⟨(Z _).2 (h.fixb x hx).1,(h.fixb x hx).2⟩
  fixt:=h.fixt }
theorem kJ {q:Nat}(st:St):∀ (ks:List (Nat×Nat)),(∀ x∈ks,x.1≠q)->ae (aF st ks) st q=st q
 |[],_=>rfl
 |(r,j)::ks,h=>by
  have e:ae (aF st ((r,j)::ks)) st=ae [(r,fV (ae (aF st ks) st r) j)] (ae (aF st ks) st):=aP _ _ _ _;rw[e,aJ (CH (h (r,j) (BW ..))),kJ st ks (λx u=>h x (BP _ u))]
theorem kp {q:Nat}(st:St):∀ (ks:List (Nat×Nat)),(∀ x∈ks,x.1≠q)->ae (aN st ks) st q=st q
 |[],_=>rfl
 |(r,j)::ks,h=>by
  have e:ae (aN st ((r,j)::ks)) st=ae [(r,f9 (ae (aN st ks) st r) j)] (ae (aN st ks) st):=aP _ _ _ _;rw[e,aJ (CH (h (r,j) (BW ..))),kp st ks (λx u=>h x (BP _ u))]
theorem OwH.store {w:World}{G G':Nat->Prop}{h h':Option (Nat×Nat)}{E:TypeId}{e:Ty}{xs:List e.den}{g len a4:Nat}{bs K:List Nat}(H:OwH w G h E e xs (.slice (some ⟨g,0,none⟩) len a4) bs)
  (hG:∀ k,G k->G' k) (bx:¬ G' g) (hK:K.Nodup) (cw:∀ k∈K,k∉bs) {i:Nat} {a6 z:e.den} (hi:xs[i]?=some a6) (hh:∀ j,j≠i->cQ h' j=cQ h j) {off:Nat} {cs:List Value} (dd:off+cs.length<=e.cells)
  (M:∀ c0 c1,Mx w G e (cQ h i) 0 a6 c0 c1->∃ c J,Mx w G' e (cQ h' i) 0 z c J/\(∀ k,k<e.cells->c[k]?=if off<=k/\k<off+cs.length then cs[k-off]? else c0[k]?)/\∀ k,J.count k<=c1.count k+K.count k) :
  ∃ b3,OwH (w.setCells g (i*e.cells+off) cs) G' h' E e (xs.set i z) (.slice (some ⟨g,0,none⟩) len a4) b3/\∀ k∈b3,k∈bs\/k∈K:=by
 obtain⟨c5,a1,Y,h1,h2,h3⟩:=H;have a5:i<xs.length:=(BD.1 hi).1;obtain⟨c0,bn,cp⟩:=h3 i a6 hi;obtain⟨c,J,hm,cb,b6⟩:=M c0 (Y i) bn;have c2:=h1.1;rcases h1.2 with ⟨h4,_⟩|⟨g',d1,y,mk,h4,hg,ad,c4,cy,ab⟩
 ·simp at h4
 ·simp only[Bx,BA,Ca,and_true,true_and]at h4;obtain⟨rfl,rfl,rfl⟩:=h4;have d2:g∈bs:=by rw[h2];simp[Bt]
  have dc:=bn.len;have cx:=hm.len;have ba:(i+1)*e.cells<=xs.length*e.cells:=BN _ a5;rw[B3]at ba;have d3:xs.length*e.cells<=a4*e.cells:=BN _ ad;have cc:y.toList.length=y.size:=by rw[By]
  have bb:a1=y.toList.take (xs.length*e.cells):=ab.symm;have M:=jH g E cs 0 (i*e.cells+off) w y hg;have b2:=kR y.toList cs (i*e.cells+off) (by omega);rw[Bu]at b2;rw[b2]at M;simp only[B7]at M;have a0:∀ k,k<xs.length*e.cells->(y.toList.take (i*e.cells+off)++cs++y.toList.drop (i*e.cells+off+cs.length))[k]? =
    if i*e.cells+off<=k/\k<i*e.cells+off+cs.length then cs[k-(i*e.cells+off)]? else a1[k]?:=by
   intro k X;have b9:a1[k]?=y.toList[k]?:=by rw[bb,B5,if_pos X]
   by_cases h9:k<i*e.cells+off
   ·rw[BQ,BH (by simp only[Bs];omega),B5,if_pos h9,if_neg (by omega),b9]
   ·by_cases cu:k<i*e.cells+off+cs.length
    ·rw[BQ,BG (by simp only[Bs];omega),BH (by simp only[Bs];omega),if_pos ⟨by omega,cu⟩];congr 1;simp only[Bs];omega
    ·rw[BG (by simp only[Bs,BR];omega),CK,if_neg (by omega),b9];congr 1;simp only[Bs,BR];omega
  have O:(y.toList.take (i*e.cells+off)++cs++y.toList.drop (i*e.cells+off+cs.length)).length=y.size:=by
   simp only[BR,Bs,Cc];omega
  have a2:∀ k,([g]++(BO xs.length).flatMap λj=>if j=i then J else Y j).count k<=bs.count k+K.count k:=by
   intro k;have h5:=ko a5 Y J k;have h6:=b6 k;rw[h2];simp only[Bt,Cy,BF];omega
  have Z:=mZ c5 hK cw a2;have b5:∀ j,j<xs.length->∀ k∈(if j=i then J else Y j),k≠g:=by
   intro j hj k X e0;subst e0;have h7:=Z.1;rw[Cm,CC]at h7;exact h7.1 (dV.2 ⟨j,hj,X⟩)
  have I:∀ k,k≠g->(w.setCells g (i*e.cells+off) cs).heap[k]?=w.heap[k]?:=λk X=>eH g cs _ w k X
  refine⟨[g]++(BO xs.length).flatMap λj=>if j=i then J else Y j,⟨Z.1,(y.toList.take (i*e.cells+off)++cs++y.toList.drop (i*e.cells+off+cs.length)).take (xs.length*e.cells),
   λj=>if j=i then J else Y j,⟨?_,.inr ⟨g,a4,_,_,?_,M,?_,by rw[CN,O];exact c4,?_,?_⟩⟩,?_,?_⟩,Z.2⟩
  ·rw[Bs,O,CD];omega
  ·rw[CD]
  ·rw[CD];exact ad
  ·rw[CN,O];exact cy
  ·rw[CD]
  ·simp[Bt]
  ·intro j x hj;rcases aR _ _ _ _ _ hj with ⟨rfl,rfl,_⟩|⟨a3,hj⟩
   ·refine⟨c,?_,λk u hu=>?_⟩
    ·simp only[if_true];exact hm.carry (λ_ h=>h) (λk X=>I k (λe0=>bx (e0 ▸ X))) (λk X=>I k (b5 j a5 k (by simpa using X)))
    ·have b0:k<e.cells:=by rw[<- cx];exact (BD.1 hu).1
     rw[B5,if_pos (by omega),a0 _ (by omega)];rw[cb k b0]at hu;by_cases b4:off<=k/\k<off+cs.length
     ·rw[if_pos b4]at hu;rw[if_pos (by omega),<- hu];congr 1;omega
     ·rw[if_neg b4]at hu;rw[if_neg (by omega)];exact cp k u hu
   ·obtain⟨c',bl,c6⟩:=h3 j x hj;have b1:j<xs.length:=(BD.1 hj).1;refine⟨c',?_,λk u hu=>?_⟩
    ·rw[hh j a3];simp only[if_neg a3];exact bl.carry hG (λk X=>I k (λe0=>bx (e0 ▸ hG k X))) (λk X=>I k (b5 j b1 k (by rw[if_neg a3];exact X)))
    ·have b0:k<e.cells:=by rw[<- bl.len];exact (BD.1 hu).1
     have c3:(j+1)*e.cells<=xs.length*e.cells:=BN _ b1;rw[B3]at c3;rw[B5,if_pos (by omega),a0 _ (by omega),if_neg ?_]
     ·exact c6 k u hu
     ·rintro⟨h14,h15⟩;rcases Nat.lt_or_gt_of_ne (λe=>a3 e.symm:i≠j) with a9|a9
      ·have:(i+1)*e.cells<=j*e.cells:=BN _ a9;rw[B3]at this;omega
      ·have:(j+1)*e.cells<=i*e.cells:=BN _ a9;rw[B3]at this;omega
theorem xI (hV:ay V)(hT:TOk P T){t:TypeId}{x y:Operand}(b2:o.op=.store t x y)(h:act Γ T o st κ=some r):bW P V o st κ r:=by
  simp only[act,wrU,b2]at h;split at h
  · cases h
  · rename_i hd
    cases hb:BT (av st y).2.length (T t).cells&&decide ((av st y).1=bg (T t).agg)&&!decide ((T t).cells=0) with
    |false=>simp[hb]at h
    |true =>
      simp only[hb,cond_true]at h;simp only[BC,decide_eq_true_eq,BY,decide_eq_false_iff_not]at hb;obtain⟨⟨b0,bl⟩,ad⟩:=hb;have b0:=BI b0;split at h
      · rename_i b off hx
        cases Y:decide ((st b).sh=.agg)&&decide (off+(av st y).2.length<=(st b).ls.length)&&hZ st (av st y).2 with
        |false=>simp[Y]at h
        |true =>
          simp only[Y,cond_true]at h;simp only[BC,decide_eq_true_eq]at Y;exact⟨_,h,λW a w hr=>tq hV hT b2 hd hx b0 bl ad Y.1.1 Y.1.2 Y.2 hr⟩
      · rename_i z j fl i sz off hx
        split at h
        · rename_i p hh E e xs eb
          cases Y:BT sz e.cells&&decide (off+(av st y).2.length<=e.cells)&&rW z with
          |false=>simp[Y]at h
          |true =>
            simp only[Y,cond_true]at h;simp only[BC,decide_eq_true_eq,rW,BY]at Y;obtain⟨⟨b1,fr⟩,fi,dd⟩:=Y;have b1:=BI b1;subst b1;have e6:z≠EPO:=λe0=>by subst e0;simp at dd
            unfold gH at h;obtain⟨a3,cy,h⟩:=Bv.1 h;obtain⟨_,_,h4⟩:=gl cy;simp only[C3]at h4;split at h
            · rename_i u hu
              cases hq:u.rest.isEmpty&&aY u.kill&&dD u.frz u.kill&&!((u.kill++u.frz).any λk=>BT k.1 z) with
              |false=>rw[hq]at h;cases h
              |true =>
                simp only[hq,cond_true]at h;simp only[BC,BY,Bw]at hq;obtain⟨⟨⟨d3,em⟩,ed⟩,a2⟩:=hq;have a2:∀ k∈u.kill++u.frz,k.1≠z:=λk H e0=>a2 k H (by simp[e0])
                obtain ⟨I, hκ, bx, a5, c5⟩ : ∃ I : Option (Nat × Nat), κ ((z, ⟨(st z).ver, (st z).sh, aT (st z).ls j (.own (p || u.p) I E e (xs.set i u.val))⟩) :: (EPO, bV (ae (aN (ae (aF st u.frz) st) u.kill ++ aF st u.frz) st EPO)) ::
                      (aN (ae (aF st u.frz) st) u.kill++aF st u.frz))=some r /\
                    (∀ k,off<=k->k<off+(av st y).2.length->cQ I i≠some k)/\(∀ k,¬ (off<=k/\k<off+(av st y).2.length)->(cQ I i=some k<->cQ hh i=some k))/\(∀ j',j'≠i->cQ I j'=cQ hh j'):=by
                  cases hh with
                  |none=>exact⟨none,h,λ_ _ _=>by simp[cQ],λ_ _=>Cg,λ_ _=>rfl⟩
                  |some hp =>
                    obtain⟨hi,ho⟩:=hp;simp only at h;cases J:Cf off ho&&Cu ho (off+(av st y).2.length) with
                    |true =>
                      rw[J]at h;simp only[cond_true]at h;simp only[BC,CW]at J;have ef:=CE J.1;cases ba:BT i hi with
                      |true =>
                        rw[ba]at h;have h9:=h;have:=BI ba;subst this;refine⟨none,h9,λ_ _ _=>by simp[cQ],λk H=>?_,λj' eg=>?_⟩
                        · simp only[cQ,Nat.beq_refl,cond_true,reduceCtorEq,BA,false_iff]
                          rintro rfl;exact H ⟨ef,J.2⟩
                        · have:BT i j'=false:=by
                            cases e7:BT i j' with
                            |false=>rfl
                            |true=>exact absurd (BI e7).symm eg
                          simp[cQ,this]
                      |false=>rw[ba]at h;cases h
                    |false =>
                      rw[J]at h;refine⟨some (hi,ho),h,λk b5 ec=>?_,λ_ _=>Cg,λ_ _=>rfl⟩;simp only[cQ];cases BT hi i with
                      |false=>simp
                      |true =>
                        simp only[cond_true,ne_eq,BA];rintro rfl;have:(Cf off ho&&Cu ho (off+(av st y).2.length))=true:=by
                          simp only[BC,CW];exact⟨CP b5,ec⟩
                        rw[J]at this;cases this
                refine⟨_,hκ,λW a w hr next Q hn=>?_⟩;obtain⟨cs,hs,M⟩:=cU hr y;rw[bl]at hs;have dc:=gU hs M.one';have cp:=M.length;obtain⟨h5,h6⟩:=eY eb (by simp);obtain⟨hp,_,_,_⟩:=bq hr x (by rw[hx];simp);rw[hx]at hp;obtain⟨g,ex,es,a4,fo,hv⟩:=hp.2 h5;have et:T t≠.none:=by intro e;rw[e]at ad;exact ad rfl
                have a0:=hr.leaf z j _ _ h6 a4;have ev:∀ c0 X,Mx w (gd V W p) e (cQ hh i) 0 a3 c0 X->∃ c a1,Mx w (λk=>gd V W p k\/bj V W u.p u.frz k) e (cQ I i) 0 u.val c a1 /\
                    (∀ k,k<e.cells->c[k]?=if off<=k/\k<off+cs.length then cs[k-off]? else c0[k]?)/\∀ k,a1.count k<=X.count k+(aX W u.kill).count k:=by
                  intro c0 X hm;obtain⟨c1,c2,c',bs',f1,f2,f3,f4,f5,f6,f7,f8⟩:=mi hr bx a5 e 0 a3 (av st y).2 cs u c0 X M hu hm;have c6:c2=[]:=by
                    have:=f2.length;rw[DB.1 d3]at this;exact BV this.symm
                  subst c6;rw[Br]at f1;subst f1;refine⟨c',bs',f4,λk H=>?_,f6⟩;rw[f5 k H,cp];simp only[CI];by_cases J:off<=k/\k<off+cs.length
                  · rw[if_pos J,if_pos J]
                    congr 1;omega
                  · rw[if_neg J,if_neg J]
                have b9:(∀ x∈u.frz,aC st x)/\(∀ x∈u.kill,aC st x):=by
                  obtain⟨_,a6,cb,_,_,cc⟩:=a0;obtain⟨c0,f0,_⟩:=cc i a3 h4;obtain⟨_,_,_,_,_,_,_,_,_,_,f7,f8⟩:=mi hr bx a5 e 0 a3 (av st y).2 cs u c0 _ M hu f0;exact⟨f7,f8⟩
                obtain⟨k1,k2,k3,k4⟩:=fE hV hr ed b9.2;have O:ae (aN (ae (aF st u.frz) st) u.kill++aF st u.frz) st z=st z:=by
                  rw[bA,kp _ _ (λx hx=>a2 x (BJ _ hx)),kJ _ _ (λx hx=>a2 x (BE _ hx))]
                have h7:(ae (aN (ae (aF st u.frz) st) u.kill++aF st u.frz) st z).ls[j]?=some (.own p hh E e xs):=by rw[O];exact h6
                have a9:=k1.ownb z j _ h7 trivial;have c3:∀ k,gd V W p k\/bj V W u.p u.frz k->gd V (W.frz st u.frz) (p||u.p) k:=by
                  rintro k (H|H)
                  · exact bU (W':=W.frz st u.frz) (by intro h;simp[h]) (λ_ h=>Or.inl h) k H
                  · exact bU (W':=W.frz st u.frz) (by intro h;simp[h]) (λ_ h=>h) k (kg b9.1 k H)
                have b3:g∈W.bs z j:=by obtain⟨_,a6,cb,_,cu,_⟩:=a0;rw[cu];simp[Bt]
                have fc:¬ gd V (W.frz st u.frz) (p||u.p) g:=by
                  rintro (H|⟨_,H⟩)
                  · exact (a9 g b3).1 H
                  · exact (a9 g b3).2.1 (hV.ro g H)
                have ej:∀ k∈aX W u.kill,k∉W.bs z j:=λk H d2=>(k4 k H).2.2.2.2 z j _ h7 trivial d2
                obtain⟨bs',bb,c4⟩:=OwH.store (G':=gd V (W.frz st u.frz) (p||u.p)) (h':=I) a0 (λk H=>c3 k (.inl H)) fc (gP hr em b9.2) ej h4 c5 (off:=off) (cs:=cs) (by omega)
                  (λc0 X hm=>by
                    obtain⟨c,a1,q1,q2,q3⟩:=ev c0 X hm;exact⟨c,a1,q1.mono c3,q2,q3⟩)
                obtain⟨_,a6,cb,ho,cu,_⟩:=a0;have en:ex=xs.length:=by
                  obtain⟨A,bn,e0,_⟩:=ho.slice;simp only[Bx]at e0;exact e0.2.1
                subst en;rcases ho.2 with ⟨h8,_⟩|⟨g',bn,cur,mk,h8,hg,d1,e5,fv,_⟩
                · simp at h8
                · simp only[Bx,BA,Ca,and_true,true_and]at h8
                  obtain⟨rfl,rfl⟩:=h8;have cw:(i+1)*e.cells<=xs.length*e.cells:=BN _ (BD.1 h4).1;rw[B3]at cw;have fd:xs.length*e.cells<=es*e.cells:=BN _ d1;have b4:cur.toList.length=cur.size:=by rw[By]
                  have cx:=mY (P:=P) (oL (hT t) et) (w:=w) (b:=g) (off:=i*e.cells+off) (cur:=cur.toList) (E:=E) (by rw[Bu];exact hg) (by rw[b4];exact zi e5) dc (by omega) M.one' (by omega);refine pw (w':=w.setCells g (i*e.cells+off) cs) (by simp[execOp,b2,hv,cx]) ?_;rw[hd];refine hn _ _ ?_;obtain⟨e1,e2,e3,e4⟩:=jI g cs (i*e.cells+off) w;refine⟨_,k1.retell hV (l':=.own (p||u.p) I E e (xs.set i u.val)) (w':=w.setCells g (i*e.cells+off) cs) (bs':=bs') ?_ h7 trivial a4 trivial bb (λk H=>?_) (λk _ H=>eH g cs _ w k (λe=>H (e ▸ b3))) (Ce e4.symm) e1 e2 e3⟩
                  · rw[aP z,aP EPO]
                    have Z:EPO≠z:=CH e6;generalize aN (ae (aF st u.frz) st) u.kill++aF st u.frz=U at O ⊢;refine⟨λq=>?_,λq=>?_,?_,λq=>?_,λl M=>?_,λq i' l hq M=>?_⟩
                    · rcases an z q ⟨(st z).ver,(st z).sh,aT (st z).ls j (.own (p||u.p) I E e (xs.set i u.val))⟩ (ae [(EPO,bV (ae U st EPO))] (ae U st)) with ⟨rfl,e⟩ | ⟨_,e⟩
                      · rw[e,O]
                      · rw[e]
                        rcases an EPO q (bV (ae U st EPO)) (ae U st) with ⟨rfl,e⟩|⟨_,e⟩ <;> rw[e];rfl
                    · rcases an z q ⟨(st z).ver,(st z).sh,aT (st z).ls j (.own (p||u.p) I E e (xs.set i u.val))⟩ (ae [(EPO,bV (ae U st EPO))] (ae U st)) with ⟨rfl,e⟩ | ⟨_,e⟩
                      · rw[e,O];exact BU _
                      · rw[e]
                        rcases an EPO q (bV (ae U st EPO)) (ae U st) with ⟨rfl,e⟩|⟨_,e⟩ <;> rw[e]
                        · exact DG _
                        · exact BU _
                    · rw[aJ Z,bh];exact BM _
                    · rcases an z q ⟨(st z).ver,(st z).sh,aT (st z).ls j (.own (p||u.p) I E e (xs.set i u.val))⟩ (ae [(EPO,bV (ae U st EPO))] (ae U st)) with ⟨rfl,e⟩ | ⟨_,e⟩
                      · rw[e,O];simp[aT]
                      · rw[e]
                        rcases an EPO q (bV (ae U st EPO)) (ae U st) with ⟨rfl,e⟩|⟨_,e⟩ <;> rw[e];rfl
                    · rw[bh]at M
                      rcases aR _ _ _ _ _ M with ⟨_,rfl,_⟩|⟨Z,_⟩
                      · rfl
                      · exact absurd rfl Z
                    · rcases an z q ⟨(st z).ver,(st z).sh,aT (st z).ls j (.own (p||u.p) I E e (xs.set i u.val))⟩ (ae [(EPO,bV (ae U st EPO))] (ae U st)) with ⟨rfl,e⟩ | ⟨_,e⟩
                      · rw[e]at M
                        rw[O];rcases aR _ _ _ _ _ M with ⟨rfl,_,_⟩|⟨_,M⟩
                        · exact absurd rfl hq
                        · exact M
                      · rw[e]at M
                        rcases an EPO q (bV (ae U st EPO)) (ae U st) with ⟨rfl,e⟩|⟨_,e⟩ <;> rw[e]at M <;> exact M
                  · rcases c4 k H with H|H
                    · have h9:=k1.ownb z j _ h7 trivial k H
                      exact⟨h9.1,h9.2.1,h9.2.2,λr1 i1 l1 ab b6 Z b5=>Z (by obtain⟨e1,e2⟩:=k1.sep r1 i1 l1 z j _ ab b6 h7 trivial k b5 H;rw[e1,e2])⟩
                    · have h9:=k4 k H
                      exact⟨h9.1,h9.2.1,h9.2.2.2.1,λr1 i1 l1 ab b6 _=>h9.2.2.2.2 r1 i1 l1 ab b6⟩
            · cases h
        · cases h
      · cases h
end
section
variable {P:Program} {V:Env} {Γ:List Ctr} {T:TypeId->TI} {st:St} {o:Oper} {R:Type} {κ:Upd->Option R} {r:R}
theorem aq.putOwn (Y:ay V){W:Wit}{a:Act}{w w':World}(h:aq P V W st a w)(I:w.heap.size<=w'.heap.size)(J:w'.os=w.os)(ht:w'.tape=w.tape)(ho:w'.output=w.output)
  (hk:∀ k,cf V W st k->w'.heap[k]?=w.heap[k]?) (d:Nat) (hd:d<V.nt) (z:∀ x∈V.fixt,x.1≠d) (n:Nat) (hn:(st d).ver<n) {p:Bool} {E:TypeId} {e:Ty} {xs:List e.den} {v:Value} {bs:List Nat}
  (X:Ow w' (gd V W p) E e xs v bs) (hb:∀ k∈bs,¬ cf V W st k):Rel P V (ae [(d,⟨n,.one,[.own p none E e xs]⟩)] st) (a.put (some d) v) w':=by
 refine⟨_,(h.world Y I J ht ho hk).put Y d hd z n .one [.own p none E e xs] v [v] (λ_=>bs) hn rfl rfl (λu hu=>by simp at hu;subst hu;exact X.one) ?_ ?_ ?_⟩
 ·intro j l u y H;cases j with
  |zero=>simp at y H;subst y;subst H;exact X
  |succ j=>simp at y
 ·intro j l y H k O;have:=hb k O;simp only[cf,not_or,not_exists,not_and]at this;exact⟨this.1,this.2.1,this.2.2.1,λr1 j1 l1 _ M Z=>this.2.2.2 r1 j1 l1 M Z⟩
 ·intro j j' l l' y H M Z k h5 h6;have h7:j<1:=(BD.1 y).1;have h8:j'<1:=(BD.1 M).1;omega
theorem dQ {W:Wit}{p q:Bool}{y z:List (Nat×Nat)}:(∀ k,bj V W p y k->bj V W (p||q) (y++z) k)/\(∀ k,bj V W q z k->bj V W (p||q) (y++z) k):=by
 constructor
 ·rintro k (u|⟨x,H,u⟩)
  ·exact .inl (bU (W':=W) (by intro h;simp[h]) (λ_ h=>h) k u)
  ·exact .inr ⟨x,BJ _ H,u⟩
 ·rintro k (u|⟨x,H,u⟩)
  ·exact .inl (bU (W':=W) (by intro h;simp[h]) (λ_ h=>h) k u)
  ·exact .inr ⟨x,BE _ H,u⟩
theorem xJ (n:Nat)(u:Nat->List Nat):(BO (n+1)).flatMap u=u 0++(BO n).flatMap λj=>u (j+1):=by
 rw[List.range_succ_eq_map,CF,DC]
theorem oo {W:Wit}{a:Act}{w:World}(M:aq P V W st a w){e:Ty}:∀ (ps:List (Nat×Operand)) (k:Nat) (u:cL (List e.den)),ey st e k ps=some u ->
  ps.map (λx=>(x.1,a.eval x.2))=((ps.map λx=>a.eval x.2).zipIdx k).map (λx=>(x.2,x.1))/\u.val.length=ps.length/\(∀ x∈u.frz,aC st x)/\(∀ x∈u.kill,aC st x) /\
  ∃ z:Nat->List Nat,aX W u.kill=(BO u.val.length).flatMap z /\
   ∀ (j:Nat) (x:e.den),u.val[j]?=some x->∃ v c,(ps.map λx=>a.eval x.2)[j]?=some v/\v.cells=c.toArray/\Mx w (bj V W u.p u.frz) e none 0 x c (z j)
 |[],k,u,h=>by
  simp only[ey,BA]at h;subst h;exact⟨rfl,rfl,by simp,by simp,λ_=>[],rfl,λj x I=>by simp at I⟩
 |(i,y)::ps,k,u,h=>by
  simp only[ey]at h;cases H:BT i k&&decide ((av st y).1=bg e.isAgg) with
  |false=>simp[H]at h
  |true =>
   simp only[H,cond_true]at h;simp only[BC,decide_eq_true_eq]at H;have J:=BI H.1;subst J;split at h
   ·rename_i t1 u1 hg O;simp only[BA]at h;subst h;obtain⟨h1,h2,h3,h4,z,h5,h6⟩:=oo M ps (i+1) u1 O;obtain⟨cs,Z,Y⟩:=cU M y;rw[H.2]at Z;have hc:=gU Z Y.one';obtain⟨g1,g2,g3⟩:=dO (pos:=0) M Y hg;refine⟨by simp[h1],by simp[h2],λx X=>(BL.1 X).elim (g2 x) (h3 x),λx X=>(BL.1 X).elim (g3 x) (h4 x),λj=>match j with|0=>aX W t1.kill|j+1=>z j,?_,?_⟩
    ·rw[dI,h5,Cd,xJ]
    ·intro j x I;cases j with
     |zero =>
      simp at I;subst I;exact⟨a.eval y,cs,by simp,hc,g1.mono dQ.1⟩
     |succ j =>
      obtain⟨v,c,h7,h8,h9⟩:=h6 j x (by simpa using I);exact⟨v,c,by simpa using h7,h8,h9.mono dQ.2⟩
   ·cases h
theorem lB (w:World)(G:Nat->Prop):∀ (b:Ty),Rd w G b b.zero (zeroCells b)
 |.int _=>rfl
 |.bool=>rfl
 |.str=>rfl
 |.unit=>rfl
 |.hdr=>⟨none,0,rfl⟩
 |.pair a b=>⟨_,_,rfl,lB w G a,lB w G b⟩
 |.list m E e=>Rd.nil w G m E e
theorem qA (w:World)(G:Nat->Prop):∀ (b:Ty) (pos:Nat),Mx w G b none pos b.zero (zeroCells b) []
 |.int _,_=>⟨rfl,rfl⟩
 |.bool,_=>⟨rfl,rfl⟩
 |.str,_=>⟨rfl,rfl⟩
 |.unit,_=>⟨rfl,rfl⟩
 |.hdr,_=>⟨⟨none,0,rfl⟩,rfl⟩
 |.pair a b,_=>⟨_,_,[],[],rfl,rfl,qA w G a _,qA w G b _⟩
 |.list m E e,_=>by
  cases m with
  |false=>exact cq.2 ⟨rfl,Rd.nil w G false E e⟩
  |true=>exact (bH (by simp)).2 ⟨_,rfl,(OwH.nil w G E e).2⟩
theorem mj {W:Wit}{k:Nat}(h:¬ W.nw k/\¬ V.prot k/\(∀ b,live st b->W.β b≠k)/\∀ (u i:Nat) (l:Leaf),(st u).ls[i]?=some l->ap l->k∉W.bs u i):¬ cf V W st k:=by
 rintro (y|y|⟨b,J,e⟩|⟨u,i,l,H,z,I⟩)
 ·exact h.1 y
 ·exact h.2.1 y
 ·exact h.2.2.1 b J e
 ·exact h.2.2.2 u i l H z I
theorem ml:(9223372036854775807:Nat)<=maxLen:=by decide
theorem qB (hV:ay V)(hT:TOk P T)(a9:bN V o){t:TypeId}{n:Nat}{y:Array (Nat×Operand)}(a2:o.op=.buildSlice t n y)(h:act Γ T o st κ=some r):bW P V o st κ r:=by
 simp only[act,wrU,a2]at h;cases ht:T t with
 |slice E e c4 =>
  simp only[ht]at h;split at h
  ·rename_i u bl;cases hb:BT u.val.length n&&decide (n*e.cells<=16777216)&&aY u.kill&&dD u.frz u.kill with
   |false=>simp[hb]at h
   |true =>
    simp only[hb,cond_true]at h;simp only[BC,decide_eq_true_eq]at hb;obtain⟨⟨⟨ba,cb⟩,b9⟩,bx⟩:=hb;have bn:=BI ba;subst bn;split at h
    ·rename_i d hd;refine⟨_,h,λW a w hr next Q hn=>?_⟩;have h1:=hT t;rw[ht]at h1;obtain⟨hu,_,_,Y,_,ti,z,a1,O,_,hz,c5⟩:=h1;obtain⟨h2,h3,b2,b4,ad,c1,h5⟩:=oo hr y.toList 0 u bl;generalize c6:u.val=I at *;have a4:∀ v∈(y.toList.map λx=>a.eval x.2),v.cells.size=e.cells:=by
      intro v hv;obtain⟨j,hj,e1⟩:=List.getElem_of_mem hv;have c0:j<I.length:=by rw[h3];simpa using hj
      obtain⟨v',c,X,Z,h8⟩:=h5 j I[j] (BS c0);rw[BS hj]at X;simp only[BA]at X;rw[<- e1,X,Z];simpa using h8.len
     have a6:(y.toList.map λx=>a.eval x.2).length=I.length:=by rw[CT,h3]
     have a0:∀ (j:Nat) (x:e.den),I[j]?=some x->∃ c,Mx w (bj V W u.p u.frz) e none 0 x c (ad j)/\∀ i u,c[i]?=some u ->
       ((y.toList.map λx=>a.eval x.2).flatMap λv=>v.cells.toList)[j*e.cells+i]?=some u:=by
      intro j x hj;obtain⟨v,c,X,Z,h8⟩:=h5 j x hj;refine⟨c,h8,λi u hi=>?_⟩;have b0:i<e.cells:=by rw[<- h8.len];exact (BD.1 hi).1
      rw[Great.flat_get Y _ a4];have e1:(j*e.cells+i) / e.cells=j:=by
       rw[Ch,Nat.mul_add_div Y,Nat.div_eq_of_lt b0,B7]
      have e2:(j*e.cells+i) % e.cells=i:=by
       rw[Ch,DL,DD b0]
      rw[e1,e2,X];simpa[Z]using hi
     have a3:((y.toList.map λx=>a.eval x.2).flatMap λv=>v.cells.toList).length=I.length*e.cells:=by
      have:∀ (vs:List Value),(∀ v∈vs,v.cells.size=e.cells)->(vs.flatMap λv=>v.cells.toList).length=vs.length*e.cells:=by
       intro vs;induction vs with
       |nil=>intro _;simp
       |cons v vs ih =>
        intro hv;rw[CF,BR,ih (λu hu=>hv u (BP _ hu)),By,hv v (BW ..),Cd,B3];omega
      rw[this _ a4,a6]
     have H:=Great.fill_whole Y (y.toList.map λx=>a.eval x.2) ((Array.range (I.length*e.cells)).map ((if I.length*e.cells=0 then (#[]:Array Value) else z.cells)[· % (if I.length*e.cells=0 then (#[]:Array Value) else z.cells).size]!)) a4 (by rw[a6];simp);rw[<- h2]at H;have a5:(y.map λ (i,x)=>(i,a.eval x)).toList=y.toList.map λx=>(x.1,a.eval x.2):=by rw[DE]
     have b1:(execOp a.eval o).run P w=.ok (.value (.slice (some ⟨w.heap.size,0,none⟩) I.length I.length)) (w.alloc (.cells ((y.toList.map λx=>a.eval x.2).flatMap λv=>v.cells.toList).toArray E)):=by
      have M:¬ (I.length*e.cells>2 ^ 24):=by omega
      by_cases h0:I.length*e.cells=0
      ·rw[if_pos h0]at H;simp only[execOp,a2,Instr.buildSlice,C4,run_underlying hu,CY,sizeOf,typeInfo,a1,O,a5];simp[M,h0,newRow,a1,O,a5]at H ⊢;simp[H]
      ·rw[if_neg h0]at H;have:=run_buildSlice (P:=P) w t E I.length (y.map λ (i,x)=>(i,a.eval x)) _ ti z hu a1 hz (by rw[O];exact M) (by rw[O];exact h0) (by rw[O,a5];exact H);simp[execOp,a2,this]
     refine dW b1 ?_;rw[hd];refine hn _ _ ?_;rw[cl,aP];obtain⟨X,_,_,b3⟩:=fE hV hr bx b4;have b6:=X.used_lt;have b5:I.length<=maxLen:=by
      have:=ml;have:I.length*1<=I.length*e.cells:=CV _ Y;omega
     have bb:=World.ownsRow_lit (e:=E) (size:=e.cells) (base:=0) w ((y.toList.map λx=>a.eval x.2).flatMap λv=>v.cells.toList).toArray I.length (DH _) b5 (by simpa using a3);refine X.putOwn hV (w':=w.alloc (.cells ((y.toList.map λx=>a.eval x.2).flatMap λv=>v.cells.toList).toArray E)) (by simp) rfl rfl rfl (λk J=>Go.heap_alloc_old w _ (b6 k J)) d (a9 d hd).1 (a9 d hd).2 _ (BM _) (bs:=w.heap.size::aX W u.kill) ?_ (λk J hu=>?_)
     ·refine⟨CC.2 ⟨λhm=>?_,gP hr b9 b4⟩,_,ad,Row.of bb,by rw[c1];rfl,λj x hj=>?_⟩
      ·have:=(b3 _ hm).2.2.1;omega
      ·obtain⟨c,ab,c2⟩:=a0 j x hj;have c3:∀ k,bj V W u.p u.frz k->k<w.heap.size:=λk J=>by
        rcases kg b2 k J with J|⟨_,J⟩
        ·exact (X.nwlt k J).1
        ·exact CB (hV.ro k J).1 X.size
       exact⟨c,ab.carry (kg b2) (λk J=>Go.heap_alloc_old w _ (c3 k J)) (λk J=>Go.heap_alloc_old w _ (ab.lt k J)),λi u hi=>by simpa using c2 i u hi⟩
     ·rcases CJ.1 J with rfl|J
      ·have:=b6 _ hu;omega
      ·have Z:=b3 k J;exact mj ⟨Z.1,Z.2.1,Z.2.2.2.1,Z.2.2.2.2⟩ hu
    ·cases h
  ·cases h
 |_=>simp[ht]at h
theorem xK {w:World}{G:Nat->Prop}{E':TypeId}{u y e:TypeId}(Z:P.underlying u=some (.slice e))(X:P.underlying e=some (.int .u8))(Y:P.underlying y=some .string){xs:List Int}{v:Value}
  (h:Rd w G (.list false E' (.int .u8)) xs [v]):(convert u y v).run P w=.ok (.string (gI xs)) w:=by
 obtain⟨A,z,hv,hc,J⟩:=h;simp only[CU,and_true]at hv;subst hv;cases A with
 |none =>
  have hx:xs=[]:=by
   cases xs with
   |nil=>rfl
   |cons x xs=>obtain⟨g,o,M,_⟩:=J (by simp);cases M
  subst hx;show (convert u y (.slice none 0 z)).run P w=_;rw[run_convert_bytes_nil w u e Z X 0 z y Y];rfl
 |some ad =>
  cases H:xs with
  |nil =>
   subst H;show (convert u y (.slice (some ad) 0 z)).run P w=_;rw[run_convert_bytes_string w u y e ad 0 z Z X Y];simp[Conv.bytesToString,loadCells,loadCellsFrom];rfl
  |cons x0 a0 =>
   rw[<- H];obtain⟨g,o,M,_,hr⟩:=J (by rw[H];simp);simp only[BA]at M;subst M;have:=run_convert_bytes_arg (P:=P) w u e Z X g o xs.length z xs rfl (λi hi=>by
    obtain⟨c,I,O⟩:=hr i xs[i] (BS hi);have I:c=[.int .u8 xs[i]]:=I;subst I;have:=O 0 _ rfl;simp only[Ty.cells,Cr,B7]at this;rw[this];simp[List.getD,BS hi]) y Y
   rw[this];rfl
theorem uu (hV:ay V)(hT:TOk P T)(M:bN V o){s t:TypeId}{x:Operand}(J:o.op=.convert s t x)(h:act Γ T o st κ=some r):bW P V o st κ r:=by
 simp only[act,wrU,J]at h;have y:=hT t;have z:=hT s;split at h
 ·rename_i k' k a5 n Z Y hx;split at h
  ·rename_i d O;refine⟨_,h,λW a w I=>aO hV I O M (v:=.int k (k.wrap n)) ?_ rfl id rfl⟩;rw[Y]at y;rw[Z]at z;simp[execOp,J,bD I hx,Go.convert,run_underlying y.1,run_underlying z.1,Conv.intToInt]
  ·cases h
 ·rename_i E b Z Y;split at h
  ·rename_i p xs ha;split at h
   ·rename_i d O;refine⟨_,h,λW a w I=>?_⟩;have a2:one st x≠.dead:=by intro e0;rw[e0]at ha;simp[aE,dh]at ha
    obtain⟨h1,h2,_⟩:=bq I x a2;have a1:=ky (m:=false) (E:=E) I h1 h2 ha;rw[Y]at y;rw[Z]at z;refine aO hV I O M (v:=.string (gI xs)) ?_ rfl id rfl;have:=xK (P:=P) z.1 (z.2.2.2.2.1.2 rfl) y.1 a1;simp[execOp,J,this]
   ·cases h
  ·cases h
 ·rename_i E b H Z Y hx;cases hE:BT E 5 with
  |false=>simp[hE]at h
  |true =>
  simp only[hE,cond_true]at h;have a4:E=5:=BI hE;split at h
  ·rename_i d O;refine⟨_,h,λW a w I next Q hn=>?_⟩;rw[Y]at y;rw[Z]at z;have hc:(er H).length=H.size:=by simp only[er,CT,By];rfl
   have X:=Lib.run_convert_string_bytes (P:=P) w s t E H z.1 y.1 (y.2.2.2.2.1.2 rfl);refine dW (v:=.slice (some ⟨w.heap.size,0,none⟩) H.size (grownCap w H.size 0 E)) (w':=Lib.bytesWorld w E H) (by simp[execOp,J,iB I hx,X]) ?_;rw[O];refine hn _ _ ?_;have a0:=grownCap_ge w H.size 0 E;have a3:(Lib.bytesCells w E H).size=grownCap w H.size 0 E:=by
    simp only[Lib.bytesCells,C5,Array.size_map,Array.size_replicate];show H.size+_=_;omega
   refine I.putOwn hV (by rw[Lib.bytesWorld_size];omega) (by simp[Lib.bytesWorld,C6,DI,DQ,-Cs,-Cw]) (by simp[Lib.bytesWorld,C6,DI,DQ,-Cs,-Cw]) (by simp[Lib.bytesWorld,C6,DI,DQ,-Cs,-Cw])
    (λk hk=>Lib.bytesWorld_at_old w E H k (I.used_lt k hk)) d (M d O).1 (M d O).2 _ (BM _) (bs:=[w.heap.size])
    ⟨by simp,(er H).map (Value.int .u8),λ_=>[],⟨by rw[CT];exact (Cr _).symm,.inr ⟨w.heap.size,_,_,_,by rw[hc],Lib.bytesWorld_at_new w E H,by rw[hc];exact a0,.inr ⟨a4,BU _⟩,by rw[a3];exact Ce (Cr _),?_⟩⟩,by simp[Bt],λj x hj=>?_⟩ (λk hk hu=>?_)
   ·simp only[Lib.bytesCells,Cv,DE,Ty.cells,Cr,er,C7];exact List.take_left' (by simp)
   ·refine⟨[.int .u8 x],⟨rfl,rfl⟩,λi u hi=>?_⟩
    match i,hi with
    |0,hi =>
     simp only[CL,BA]at hi;subst hi;simp[Ty.cells,hj]
   ·simp at hk;have:=I.used_lt k hu;omega
  ·cases h
 ·cases h
theorem rT (hV:ay V)(hT:TOk P T)(Z:bN V o){t:TypeId}{n c:Operand}(J:o.op=.makeSlice t n c)(h:act Γ T o st κ=some r):bW P V o st κ r:=by
 simp only[act,wrU,J]at h;split at h
 ·rename_i E e H k1 m k2 m' ht b3 ad;cases hb:decide (0<=m)&&decide (m=m')&&decide (m*H<=(ao:Int)) with
  |false=>simp[hb]at h
  |true =>
   simp only[hb,cond_true]at h;simp only[BC,decide_eq_true_eq]at hb;obtain⟨⟨h0,rfl⟩,a4⟩:=hb;split at h
   ·rename_i d hd;refine⟨_,h,λW a w M next Q hn=>?_⟩;have h1:=hT t;rw[ht]at h1;obtain⟨hu,_,_,b6,a9,ti,z,ab,a2,a5,hz,O⟩:=h1;have hm:(m.toNat:Int)=m:=by omega
    have Y:m.toNat*H<=ao:=by
     have:((m.toNat*H:Nat):Int)<=(ao:Int):=by rw[Int.natCast_mul,hm];exact a4
     omega
    have ba:m.toNat*1<=m.toNat*H:=CV _ a9.1;simp only[ao]at Y;have b5:=ml;obtain⟨w',I,b0,y⟩:=run_make_full (P:=P) w 0 t E ti z e.cells hu ab hz a2 k1 k2 m.toNat (by rw[a5,Ch];omega) (by omega) (DH _);rw[hm]at I;refine dW (v:=.slice (some ⟨w.heap.size,0,none⟩) m.toNat m.toNat) (w':=w') (by simp[execOp,J,bD M b3,bD M ad,I]) ?_;rw[hd];refine hn _ _ ?_;have a6:z.cells.size=e.cells:=by
     have h2:=(lB w (λ_=>False) e).len;rw[<- By,O,h2]
    refine M.putOwn hV y.size y.os y.tape y.output (λk hk=>y.block k (M.used_lt k hk) (by simp)) d (Z d hd).1 (Z d hd).2 _ (BM _) (bs:=[w.heap.size])
     ⟨by simp,_,λ_=>[],by rw[Cn];exact Row.of b0,by simp[Bt],λj x X=>?_⟩ (λk hk hu=>?_)
    ·rw[CM]at X;split at X
     ·rename_i a1;simp at X;subst X;refine⟨_,qA w' _ e 0,λi u hi=>?_⟩;have b1:i<e.cells:=by rw[<- (lB w' (λ_=>False) e).len];exact (BD.1 hi).1
      have a0:(j+1)*e.cells<=m.toNat*e.cells:=BN _ a1;rw[B3]at a0;have b2:j*e.cells+i<m.toNat*e.cells:=by omega
      have e2:(j*e.cells+i) % e.cells=i:=by rw[Ch,DL,DD b1]
      have b4:z.cells[i]?=some u:=by rw[<- Co,O];exact hi
      obtain⟨b9,a3⟩:=Array.getElem?_eq_some_iff.1 b4;simp only[madeCells,Co,Array.getElem?_map,Array.getElem?_range,b2,if_true,DM,a6,e2];rw[getElem!_pos z.cells i (by omega),a3]
     ·cases X
    ·simp at hk;have:=M.used_lt k hu;omega
   ·cases h
 ·cases h
theorem uv (n u:Nat)(y:n<=u)(k z:IntKind)(w:World):(C8 true n u none (some (.int k n)) (some (.int z n))).run P w=.ok (0,n,n) w:=by
 simp[C8,Instr.sliceBound,asIntOf,y]
theorem vW (hV:ay V)(hT:TOk P T)(Z:bN V o){t:TypeId}{x m:Operand}{lo hi:Option Operand}(a2:o.op=.slice t x lo hi (some m))(h:act Γ T o st κ=some r):bW P V o st κ r:=by
 simp only[act,wrU,a2]at h;cases hd:o.dst with
 |none=>simp[hd]at h
 |some d =>
  simp only[hd]at h;split at h
  ·rename_i E' e' c3 Y j v ht hx;split at h
   ·rename_i p E e J hdr;split at h
    ·rename_i hh k bx b2;cases hb:hi.isSome&&decide (hh=(J.length:Int))&&decide (k=(J.length:Int))&&BT e'.cells e.cells with
     |false=>rw[hb]at h;cases h
     |true =>
      rw[hb]at h;simp only[cond_true]at h;simp only[BC,decide_eq_true_eq]at hb;obtain⟨⟨⟨a4,rfl⟩,rfl⟩,O⟩:=hb;have O:=BI O;refine⟨_,h,λW a w hr next Q hn=>?_⟩;have h1:=hT t;rw[ht]at h1;obtain⟨hu,_,_,_,_,ti,z,ab,b3,_⟩:=h1;obtain⟨a3,_,_,_,_⟩:=bq hr x (by rw[hx];simp);rw[hx]at a3;obtain⟨h8,a0,c4,c6⟩:=ke hr hdr a3;obtain⟨y,hy,k1,bb⟩:∃ y,hi=some y/\∃ k1,a.eval y=.int k1 J.length:=by
       rcases mI hr bx with ⟨I,_⟩|⟨y,k1,I,u⟩
       ·rw[I]at a4;cases a4
       ·exact⟨y,I,k1,u⟩
      obtain⟨k2,b6⟩:∃ k2,a.eval m=.int k2 J.length:=by
       rcases mI hr b2 with ⟨I,_⟩|⟨y,k2,I,u⟩
       ·cases I
       ·cases I;exact⟨k2,u⟩
      obtain⟨A,bn,hv,a6⟩:=a0.slice;have hE:=du (P:=P) (t:=E') (n:=e.cells) (by simp[bQ,ab,b3,O]) w;have a1:(if J.length=0 then A else A.map λx=>x.add (0*e.cells))=A:=by
       cases A with
       |none=>simp
       |some ad =>
        have e0:ad.add 0=ad:=by simp[Addr.add]
        show (if J.length=0 then some ad else some (ad.add (0*e.cells)))=some ad;rw[C9,e0];split <;> rfl
      refine dW (v:=.slice A J.length J.length) (w':=w) ?_ ?_
      ·simp only[execOp,a2,hv,hy,DM,Cl,bb,b6,Instr.sliceAt,Instr.slice,C4,run_underlying hu,CY,uv J.length bn a6 k1 k2 w,hE,Sem.run_pure,Ci,a1]
      ·rw[hd];refine hn _ _ ?_;rw[cl,aP];have b9:∀ z∈[(Y,j)],aC st z:=λz hz=>by simp at hz;subst hz;exact⟨_,c4,trivial⟩
       obtain⟨h6,_,_,H⟩:=fE (frz:=[]) (kill:=[(Y,j)]) hV hr rfl b9;have e1:aN (ae (aF st []) st) [(Y,j)]++aF st []=aN st [(Y,j)]:=Br _;rw[e1]at h6 H;have bl:aX W [(Y,j)]=W.bs Y j:=by simp[aX]
       rw[bl]at H;obtain⟨b1,a9,ba,M,a5,c0⟩:=a0;refine h6.putOwn hV (w':=w) (BU _) rfl rfl rfl (λ_ _=>rfl) d (Z d hd).1 (Z d hd).2 _ (BM _) (bs:=W.bs Y j) ?_ (λk hk=>mj ⟨(H k hk).1,(H k hk).2.1,(H k hk).2.2.2.1,(H k hk).2.2.2.2⟩);have c1:∀ k,gd V W p k->gd V (W.frz st []) p k:=bU (W':=W.frz st []) (λh=>h) (λ_ h=>Or.inl h);refine OwH.carry (G:=gd V W p) ⟨b1,a9,ba,⟨M.1,?_⟩,?_,c0⟩ c1 (λ_ _=>rfl) (λ_ _=>rfl)
       ·rcases M.2 with ⟨X,I⟩|⟨g,c5,b0,mk,X,I,u,b5,b4,c2⟩
        ·rw[hv]at X;simp only[Bx]at X;exact .inl ⟨by rw[X.1,I],I⟩
        ·rw[hv]at X;simp only[Bx,true_and]at X;exact .inr ⟨g,J.length,b0,mk,by rw[X.1],I,BU _,b5.imp (λh=>⟨h.1,B9 u h.2⟩) id,B9 (BN _ u) b4,c2⟩
       ·rw[a5,hv];cases A <;> rfl
    ·cases h
   ·cases h
  ·cases h
theorem xL (I:ay V)(H:TOk P T)(y:bN V o){t:TypeId}{x:Operand}{J M z:Option Operand}(u:o.op=.slice t x J M z)(h:act Γ T o st κ=some r):bW P V o st κ r:=by
 cases z with
 |none=>exact vq I H y u h
 |some m=>exact vW I H y u h
theorem Ai (X:ay V)(J:bN V o){c:Call}(z:o.op=.call c)(M:c.callee=.builtin .min)(h:act Γ T o st κ=some r):bW P V o st κ r:=by
 simp only[act,wrU,z,M]at h;split at h
 ·cases h
 ·rename_i d O;simp only[O]at h;split at h
  ·rename_i x y hx;split at h
   ·rename_i Y m k2 n hm Z;have u:c.args=#[x,y]:=by rw[<- Bu (xs:=c.args),hx]
    refine⟨_,h,λW a w I=>aO X I O J (v:=.int Y (bif decide (n<m) then n else m)) ?_ rfl id rfl⟩;cases H:decide (n<m) <;> simp[execOp,z,M,resolve,invoke,builtin,u,bD I hm,bD I Z,Builtin.min_,Builtin.min2] <;> simp at H <;> omega
   ·cases h
  ·cases h
theorem Aj (X:ay V)(J:bN V o){c:Call}(z:o.op=.call c)(M:c.callee=.builtin .max)(h:act Γ T o st κ=some r):bW P V o st κ r:=by
 simp only[act,wrU,z,M]at h;split at h
 ·cases h
 ·rename_i d O;simp only[O]at h;split at h
  ·rename_i x y hx;split at h
   ·rename_i Y m k2 n hm Z;have u:c.args=#[x,y]:=by rw[<- Bu (xs:=c.args),hx]
    refine⟨_,h,λW a w I=>aO X I O J (v:=.int Y (bif decide (m<n) then n else m)) ?_ rfl id rfl⟩;cases H:decide (m<n) <;> simp[execOp,z,M,resolve,invoke,builtin,u,bD I hm,bD I Z,Builtin.max_,Builtin.max2] <;> simp at H <;> omega
   ·cases h
  ·cases h
end
section
variable {P:Program} {V:Env} {W:Wit} {st st':St} {w w':World} {a:Act}
theorem aq.putGhost (hV:ay V)(h:aq P V W st a w)(d:Nat)(hd:GH<=d)(a4:d<B0)(n:Nat)(sh:aI)(ls:List Leaf)
  (Y:List Value) (J:Nat->List Nat) (hn:(st d).ver<n) (hl:ls.length=Y.length) (h1:∀ u∈Y,u.oneCell'=true)
  (a1:∀ (j:Nat) (l:Leaf) (u:Value),ls[j]?=some l->Y[j]?=some u->aK P V W st w (J j) l u)
  (a0:∀ (j:Nat) (l:Leaf),ls[j]?=some l->ap l->∀ k∈J j,¬ W.nw k/\¬ V.prot k/\(∀ b,live st b->W.β b≠k) /\
   ∀ (r1 j1:Nat) (l1:Leaf),r1≠d->(st r1).ls[j1]?=some l1->ap l1->k∉W.bs r1 j1)
  (a2:∀ (j j':Nat) (l l':Leaf),ls[j]?=some l->ap l->ls[j']?=some l'->ap l'->∀ k,k∈J j->k∈J j'->j=j') :
  aq P V { W with cs:=λr=>if r=d then Y else W.cs r,bs:=λr j=>if r=d then J j else W.bs r j } (ae [(d,⟨n,sh,ls⟩)] st) a w /\
   cF V W { W with cs:=λr=>if r=d then Y else W.cs r,bs:=λr j=>if r=d then J j else W.bs r j } st (ae [(d,⟨n,sh,ls⟩)] st) w w:=by
 have I:∀ b,live (ae [(d,⟨n,sh,ls⟩)] st) b<->live st b:=by
  intro b;by_cases X:B0<=b
  ·rw[live,live,aJ (by omega)]
  ·simp[live,X]
 have O:cF V W { W with cs:=λr=>if r=d then Y else W.cs r,bs:=λr j=>if r=d then J j else W.bs r j } st (ae [(d,⟨n,sh,ls⟩)] st) w w:=by
  refine⟨λq=>?_,λb X=>⟨(I b).2 X,rfl⟩,λ_ h=>h,λ_ _=>rfl,λ_ q j' l' M h4 h5=>?_⟩
  ·rcases an d q ⟨n,sh,ls⟩ st with ⟨rfl,e⟩|⟨y,e⟩
   ·rw[e];exact⟨Nat.le_of_lt hn,λe=>absurd e (by show n≠_;omega)⟩
   ·rw[e];exact⟨BU _,λ_=>by simp[y]⟩
  ·rcases an d q ⟨n,sh,ls⟩ st with ⟨rfl,e⟩|⟨y,e⟩
   ·rw[e]at h5;exact absurd h5 (by show n≠_;omega)
   ·rw[e]at M;exact⟨⟨l',M,h4⟩,by simp[y],λ_ _=>rfl⟩
 refine⟨?_,O⟩
 exact {
  nt:=h.nt,df:=h.df
  slots:=λt ht=>by
   have:t≠d:=by omega
   rw[aJ this];simpa[this]using h.slots t ht
  boxes:=λb X=>by
   have:b≠d:=by omega
   rw[aJ this];simpa[this]using h.boxes b X
  len:=λq=>by
   rcases an d q ⟨n,sh,ls⟩ st with ⟨rfl,e⟩|⟨y,e⟩
   ·rw[e];simpa using hl
   ·rw[e];simpa[y]using h.len q
  one:=λq u hu=>by
   by_cases hq:q=d
   ·simp only[hq,if_true]at hu;exact h1 u hu
   ·simp only[hq,if_false]at hu;exact h.one q u hu
  leaf:=λq j l u z M=>by
   rcases an d q ⟨n,sh,ls⟩ st with ⟨rfl,e⟩|⟨y,e⟩
   ·rw[e]at z;simp only[if_true]at M;exact (a1 j l u z M).carry hV.ro O (λ_=>⟨by simp,λ_ _=>rfl⟩)
   ·rw[e]at z;simp only[y,if_false]at M;exact (h.leaf q j l u z M).carry hV.ro O (λ_=>⟨by simp[y],λ_ _=>rfl⟩)
  ownb:=λq j l z M k R=>by
   rcases an d q ⟨n,sh,ls⟩ st with ⟨rfl,e⟩|⟨y,e⟩
   ·rw[e]at z;simp only[if_true]at R;have:=a0 j l z M k R;exact⟨this.1,this.2.1,λb X=>this.2.2.1 b ((I b).1 X)⟩
   ·rw[e]at z;simp only[y,if_false]at R;have:=h.ownb q j l z M k R;exact⟨this.1,this.2.1,λb X=>this.2.2 b ((I b).1 X)⟩
  sep:=λq j l q' j' l' z M h4 h5 k R H=>by
   rcases an d q ⟨n,sh,ls⟩ st with ⟨e0,e⟩|⟨y,e⟩ <;> rcases an d q' ⟨n,sh,ls⟩ st with ⟨e1,e'⟩|⟨Z,e'⟩
   ·rw[e]at z;rw[e']at h4;simp only[e0,if_true]at R;simp only[e1,if_true]at H;exact⟨e0.trans e1.symm,a2 j j' l l' z M h4 h5 k R H⟩
   ·rw[e]at z;rw[e']at h4;simp only[e0,if_true]at R;simp only[Z,if_false]at H;exact absurd H ((a0 j l z M k R).2.2.2 q' j' l' Z h4 h5)
   ·rw[e]at z;rw[e']at h4;simp only[y,if_false]at R;simp only[e1,if_true]at H;exact absurd R ((a0 j' l' h4 h5 k H).2.2.2 q j l y z M)
   ·rw[e]at z;rw[e']at h4;simp only[y,if_false]at R;simp only[Z,if_false]at H;exact h.sep q j l q' j' l' z M h4 h5 k R H
  box:=λb X=>h.box b ((I b).1 X)
  inj:=λb b' X a3=>h.inj b b' ((I b).1 X) ((I b').1 a3)
  nwlt:=h.nwlt
  os:=h.os,tape:=h.tape,output:=h.output,size:=h.size,keep:=h.keep
  fixb:=λx hx=>⟨(I _).2 (h.fixb x hx).1,(h.fixb x hx).2⟩
  fixt:=h.fixt }
theorem gy {off:Nat}:∀ {a:Ty} {pos:Nat} {x:a.den} {u:(E:TypeId)×(e:Ty)×List e.den},bd off a pos x=some u->pos<=off/\off<pos+a.cells
 |.pair a b,pos,x,u,h=>by
  simp only[bd]at h;split at h
  ·rename_i v y;have:=gy y;simp only[Ty.cells];omega
  ·have:=gy h;simp only[Ty.cells];omega
 |.list m E e,pos,z,u,h=>by
  simp only[bd]at h;cases r:m&&BT pos off with
  |false=>simp[r]at h
  |true =>
   simp only[BC]at r;have:=BI r.2;simp only[Ty.cells];omega
 |.int _,_,_,_,h=>by simp[bd]at h
 |.bool,_,_,_,h=>by simp[bd]at h
 |.str,_,_,_,h=>by simp[bd]at h
 |.unit,_,_,_,h=>by simp[bd]at h
 |.hdr,_,_,_,h=>by simp[bd]at h
theorem m7 {off:Nat}:∀ {a:Ty} {pos:Nat} {x:a.den} {E:TypeId} {e:Ty} {u:List e.den},bd off a pos x=some ⟨E,e,u⟩->e.shy=true->a.shy=true
 |.pair a b,pos,x,E,e,u,h,r=>by
  simp only[bd]at h;simp only[Ty.shy,DN];split at h
  ·rename_i v z;simp only[BA]at h;subst h;exact .inl (m7 z r)
  ·exact .inr (m7 h r)
 |.list m H I,pos,J,E,e,u,h,r=>by
  simp only[bd]at h;cases y:m&&BT pos off with
  |false=>simp[y]at h
  |true =>
   rw[y]at h;simp only[cond_true,BA,Sigma.mk.injEq]at h;obtain⟨rfl,h⟩:=h;rw[heq_eq_eq,Sigma.mk.injEq]at h;obtain⟨rfl,_⟩:=h;simp[Ty.shy,r]
 |.int _,_,_,_,_,_,h,_=>by simp[bd]at h
 |.bool,_,_,_,_,_,h,_=>by simp[bd]at h
 |.str,_,_,_,_,_,h,_=>by simp[bd]at h
 |.unit,_,_,_,_,_,h,_=>by simp[bd]at h
 |.hdr,_,_,_,_,_,h,_=>by simp[bd]at h
theorem Mx.hol_out {G:Nat->Prop}{o:Nat}:∀ {a:Ty} {pos:Nat} {x:a.den} {cs:List Value} {bs:List Nat},(o<pos\/pos+a.cells<=o)->(Mx w G a none pos x cs bs<->Mx w G a (some o) pos x cs bs)
 |.int _,_,_,_,_,_=>Cg
 |.bool,_,_,_,_,_=>Cg
 |.str,_,_,_,_,_=>Cg
 |.unit,_,_,_,_,_=>Cg
 |.hdr,_,_,_,_,_=>Cg
 |.pair a b,pos,x,cs,bs,r=>by
  simp only[Ty.cells]at r;constructor
  ·rintro⟨c1,c2,b1,b2,e1,e2,h1,h2⟩;exact⟨c1,c2,b1,b2,e1,e2,(Mx.hol_out (by omega)).1 h1,(Mx.hol_out (by omega)).1 h2⟩
  ·rintro⟨c1,c2,b1,b2,e1,e2,h1,h2⟩;exact⟨c1,c2,b1,b2,e1,e2,(Mx.hol_out (by omega)).2 h1,(Mx.hol_out (by omega)).2 h2⟩
 |.list m E e,pos,u,cs,bs,r=>by
  simp only[Ty.cells]at r;cases m with
  |false=>rw[cq,cq]
  |true=>rw[bH (by simp),bH (by simp only[ne_eq,BA];omega)]
theorem Mx.out {G:Nat->Prop}{off:Nat}{E:TypeId}{e:Ty}{ys:List e.den}:∀ {a:Ty} {pos:Nat} {x:a.den} {cs:List Value} {bs:List Nat},Mx w G a none pos x cs bs->bd off a pos x=some ⟨E,e,ys⟩ ->
  ∃ v z r,OwB w G none E e ys v z/\cs[off-pos]?=some v/\Mx w G a (some off) pos x cs r/\∀ k,bs.count k=r.count k+z.count k
 |.pair a b,pos,x,cs,bs,⟨c1,c2,b1,b2,J,e2,R,h2⟩,h=>by
  have hl:=R.len;simp only[bd]at h;split at h
  ·rename_i u hu;simp only[BA]at h;subst h;have M:=gy hu;obtain⟨v,z,r,Z,Y,O,X⟩:=Mx.out R hu;refine⟨v,z,r++b2,Z,?_,⟨c1,c2,r,b2,J,rfl,O,(Mx.hol_out (by omega)).1 h2⟩,λk=>?_⟩
   ·rw[J,BH (by omega)];exact Y
   ·rw[e2,BF,BF,X k];omega
  ·rename_i hu;have M:=gy h;obtain⟨v,z,r,Z,Y,O,X⟩:=Mx.out h2 h;refine⟨v,z,b1++r,Z,?_,⟨c1,c2,b1,r,J,rfl,(Mx.hol_out (by omega)).1 R,O⟩,λk=>?_⟩
   ·rw[J,BG (by omega),hl,show off-pos-a.cells=off-(pos+a.cells) by omega];exact Y
   ·rw[e2,BF,BF,X k];omega
 |.list m E' e',pos,xs,cs,bs,H,h=>by
  simp only[bd]at h;cases y:m&&BT pos off with
  |false=>simp[y]at h
  |true =>
   rw[y]at h;simp only[cond_true,BA,Sigma.mk.injEq]at h;obtain⟨rfl,h⟩:=h;simp only[BC]at y;obtain⟨rfl,y⟩:=y;have y:=BI y;subst y;rw[heq_eq_eq,Sigma.mk.injEq]at h;obtain⟨rfl,h⟩:=h;rw[heq_eq_eq]at h;subst h;have I:=H.one;rw[bH (by simp)]at H;obtain⟨v,rfl,hO⟩:=H;exact⟨v,bs,[],hO,by simp,iZ.2 ⟨v,rfl,I v (by simp),rfl⟩,λk=>by simp⟩
 |.int _,_,_,_,_,_,h=>by simp[bd]at h
 |.bool,_,_,_,_,_,h=>by simp[bd]at h
 |.str,_,_,_,_,_,h=>by simp[bd]at h
 |.unit,_,_,_,_,_,h=>by simp[bd]at h
 |.hdr,_,_,_,_,_,h=>by simp[bd]at h
theorem Mx.back {G:Nat->Prop}{off:Nat}{E:TypeId}{e:Ty}{O:List e.den}{v:Value}{Z:List Nat}(hO:OwB w G none E e O v Z):∀ {a:Ty} {pos:Nat} {x z:a.den} {cs:List Value} {I:List Nat},Mx w G a (some off) pos x cs I->bM off E e O a pos x=some z ->
  cs[off-pos]?=some v->∃ R,Mx w G a none pos z cs R/\∀ k,R.count k=I.count k+Z.count k
 |.pair a b,pos,x,z,cs,R,⟨c1,c2,b1,b2,X,e2,M,h2⟩,h,J=>by
  have hl:=M.len;simp only[bM]at h;split at h
  ·rename_i u y;simp only[BA]at h;subst h;have Y:=set_in y;obtain⟨I,g1,g2⟩:=Mx.back hO M y (by rw[X,BH (by omega)]at J;exact J);refine⟨I++b2,⟨c1,c2,I,b2,X,rfl,g1,(Mx.hol_out (by omega)).2 h2⟩,λk=>?_⟩;rw[e2,BF,BF,g2 k];omega
  ·rename_i y;simp only[BB]at h;obtain⟨u,y,rfl⟩:=h;have Y:=set_in y;obtain⟨I,g1,g2⟩:=Mx.back hO h2 y (by
    rw[X,BG (by omega),hl]at J;rw[show off-(pos+a.cells)=off-pos-a.cells by omega];exact J)
   refine⟨b1++I,⟨c1,c2,b1,I,X,rfl,(Mx.hol_out (by omega)).2 M,g1⟩,λk=>?_⟩;rw[e2,BF,BF,g2 k];omega
 |.list m E' e',pos,xs,z,cs,R,H,h,J=>by
  simp only[bM]at h;cases r:m&&BT pos off with
  |false=>simp[r]at h
  |true =>
   rw[r]at h;simp only[cond_true]at h;obtain⟨rfl,rfl,rfl⟩:=jE h;simp only[BC]at r;obtain⟨rfl,r⟩:=r;have r:=BI r;subst r;rw[iZ]at H;obtain⟨v',rfl,M,rfl⟩:=H;simp only[Nat.sub_self,CL,BA]at J;subst J;exact⟨Z,(bH (by simp)).2 ⟨v',rfl,hO⟩,λk=>by simp⟩
 |.int _,_,_,_,_,_,_,h,_=>by simp[bM]at h
 |.bool,_,_,_,_,_,_,h,_=>by simp[bM]at h
 |.str,_,_,_,_,_,_,h,_=>by simp[bM]at h
 |.unit,_,_,_,_,_,_,h,_=>by simp[bM]at h
 |.hdr,_,_,_,_,_,_,h,_=>by simp[bM]at h
where
 set_in {off:Nat} {E:TypeId} {e:Ty} {O:List e.den}:∀ {a:Ty} {pos:Nat} {x z:a.den},bM off E e O a pos x=some z->pos<=off/\off<pos+a.cells
  |.pair a b,pos,x,z,h=>by
   simp only[bM]at h;split at h
   ·rename_i u y;have:=set_in y;simp only[Ty.cells];omega
   ·simp only[BB]at h;obtain⟨u,y,_⟩:=h;have:=set_in y;simp only[Ty.cells];omega
  |.list m E' e',pos,xs,z,h=>by
   simp only[bM]at h;cases r:m&&BT pos off with
   |false=>simp[r]at h
   |true =>
    simp only[BC]at r;have:=BI r.2;simp only[Ty.cells];omega
  |.int _,_,_,_,h=>by simp[bM]at h
  |.bool,_,_,_,h=>by simp[bM]at h
  |.str,_,_,_,h=>by simp[bM]at h
  |.unit,_,_,_,h=>by simp[bM]at h
  |.hdr,_,_,_,h=>by simp[bM]at h
end
section
variable {P:Program} {V:Env} {W W' W2:Wit} {st st' st2:St} {w w' w2:World} {a:Act}
theorem cF.trans (h:cF V W W' st st' w w')(u:cF V W' W2 st' st2 w' w2):cF V W W2 st st2 w w2:=by
 refine⟨λr=>⟨B9 (h.ver r).1 (u.ver r).1,λe=>?_⟩,λb O=>?_,λk y=>u.nw k (h.nw k y),λk y=>?_,λhe r j l H z J=>?_⟩
 ·have H:=(h.ver r).1;have z:=(u.ver r).1;rw[(u.ver r).2 (by omega),(h.ver r).2 (by omega)]
 ·obtain⟨H,z⟩:=h.box b O;obtain⟨J,h6⟩:=u.box b H;exact⟨J,h6.trans z⟩
 ·rw[u.heap k (y.imp (h.nw k) id),h.heap k y]
 ·have e1:=(h.ver EPO).1;have e2:=(u.ver EPO).1;have e3:=(h.ver r).1;have e4:=(u.ver r).1;obtain⟨⟨X,g1,Z⟩,g6,M⟩:=u.epo (by omega) r j l H z (by omega);obtain⟨R,I,Y⟩:=h.epo (by omega) r j X g1 Z (by omega);exact⟨R,g6.trans I,λk y=>(M k (by rw[I];exact y)).trans (Y k y)⟩
theorem qC {n i:Nat}(z:i<n)(r:Nat->List Nat)(b u:List Nat)(H:∀ k,(r i).count k=b.count k+u.count k)(y:List Nat)(k:Nat) :
  (y++(BO n).flatMap r).count k=(y++(BO n).flatMap λj=>if j=i then b else r j).count k+u.count k:=by
 have:=ko z r b k;have:=H k;rw[BF,BF];omega
theorem OwH.out {G:Nat->Prop}{E E1:TypeId}{e e1:Ty}{xs:List e.den}{v:Value}{bs:List Nat}{i off:Nat}{y:e.den}{ys:List e1.den}(H:Ow w G E e xs v bs)(hy:xs[i]?=some y)(hg:bd off e 0 y=some ⟨E1,e1,ys⟩) :
  ∃ u X O,OwH w G (some (i,off)) E e xs v O/\Ow w G E1 e1 ys u X/\(∀ g M,v=.slice (some ⟨g,0,none⟩) xs.length M->w.cell? ⟨g,i*e.cells+off,none⟩=some u)/\∀ k,bs.count k=O.count k+X.count k:=by
 obtain⟨a0,R,J,h1,h2,h3⟩:=H;have Y:i<xs.length:=(BD.1 hy).1;obtain⟨c,hm,hc⟩:=h3 i y hy;have hm:Mx w G e none 0 y c (J i):=hm;obtain⟨u,X,b',g1,g2,g3,g4⟩:=hm.out hg;have r:=qC Y J b' X g4 v.ownBlock.toList;rw[<- h2]at r;have z:=br.1 a0;refine⟨u,X,v.ownBlock.toList++(BO xs.length).flatMap λj=>if j=i then b' else J j,⟨br.2 λk=>by have:=z k;have:=r k;omega,R,_,h1,rfl,λj x Z=>?_⟩,
  ⟨br.2 λk=>by have:=z k;have:=r k;omega,g1⟩,λg M hv=>?_,r⟩
 ·by_cases I:j=i
  ·subst I;rw[hy]at Z;simp only[BA]at Z;subst Z;refine⟨c,?_,hc⟩;simp only[cQ,Nat.beq_refl,cond_true,if_true];exact g3
  ·obtain⟨c',h4,h5⟩:=h3 j x Z;refine⟨c',?_,h5⟩;have:BT i j=false:=by
    cases hb:BT i j with
    |false=>rfl
    |true=>exact absurd (BI hb).symm I
   simp only[cQ,this,cond_false,if_neg I];exact h4
 ·subst hv;have a2:=gy hg;have a1:i*e.cells+off<xs.length*e.cells:=by
   have:=BN e.cells (show i+1<=xs.length from Y);rw[CZ,Nat.one_mul]at this;omega
  rw[h1.cellAt _ a1];exact hc off u (by simpa using g2)
theorem OwH.back {G:Nat->Prop}{E E1:TypeId}{e e1:Ty}{xs:List e.den}{v u:Value}{bs bn:List Nat}{i off:Nat}{y z:e.den}{ys:List e1.den}(H:OwH w G (some (i,off)) E e xs v bs)(hn:Ow w G E1 e1 ys u bn)
  (hd:∀ k∈bn,k∉bs) (hy:xs[i]?=some y) (hs:bM off E1 e1 ys e 0 y=some z) (J:∀ g I,v=.slice (some ⟨g,0,none⟩) xs.length I->w.cell? ⟨g,i*e.cells+off,none⟩=some u) :
  ∃ R,Ow w G E e (xs.set i z) v R/\∀ k,R.count k=bs.count k+bn.count k:=by
 obtain⟨a2,Y,Z,h1,h2,h3⟩:=H;have a0:i<xs.length:=(BD.1 hy).1;obtain⟨c,hm,hc⟩:=h3 i y hy;have X:cQ (some (i,off)) i=some off:=by simp[cQ]
 rw[X]at hm;have a4:=Mx.back.set_in hs;have a5:=hm.len;have M:c[off-0]?=some u:=by
  rcases h1.2 with ⟨rfl,h0⟩|⟨g,I,a6,_,rfl,_⟩
  ·omega
  ·have O:=J g I rfl;have a3:i*e.cells+off<xs.length*e.cells:=by
    have:=BN e.cells (show i+1<=xs.length from a0);rw[CZ,Nat.one_mul]at this;omega
   rw[h1.cellAt _ a3]at O;have h5:off<c.length:=by omega
   have h6:=hc off _ (BS h5);rw[O]at h6;rw[Ci,BS h5,h6]
 obtain⟨b1,g1,g2⟩:=Mx.back hn.2 hm hs M;have r:∀ k,(v.ownBlock.toList++(BO xs.length).flatMap λj=>if j=i then b1 else Z j).count k=bs.count k+bn.count k:=by
  intro k;have O:=ko a0 Z b1 k;have h5:=g2 k;rw[h2,BF,BF];omega
 refine⟨_,⟨(mZ a2 hn.1 hd (λk=>Ce (r k))).1,Y,_,by rw[CD];exact h1,by rw[CD],λj x hj=>?_⟩,r⟩;rcases aR _ _ _ _ _ hj with ⟨rfl,rfl,_⟩|⟨a1,hj⟩
 ·refine⟨c,?_,hc⟩;simp only[if_true];exact g1
 ·obtain⟨c',O,h5⟩:=h3 j x hj;refine⟨c',?_,h5⟩;have:BT i j=false:=by
   cases hb:BT i j with
   |false=>rfl
   |true=>exact absurd (BI hb).symm a1
  have e0:cQ (some (i,off)) j=none:=by simp[cQ,this]
  rw[e0]at O;simp only[if_neg a1];exact O
theorem iU:GH<=TMP/\TMP<B0/\TMP≠EPO:=by decide
def tr (W:Wit)(S:St)(w:World)(r j:Nat)(v:Value):Prop :=
 r≠TMP/\r≠EPO/\∃ (i off:Nat) (p:Bool) (E:TypeId) (e:Ty) (y:List e.den) (g u:Nat),(S r).ls[j]?=some (.own p (some (i,off)) E e y)/\(W.cs r)[j]?=some (.slice (some ⟨g,0,none⟩) y.length u) /\
  g∈W.bs r j/\w.cell? ⟨g,i*e.cells+off,none⟩=some v
theorem uX (hV:ay V)(h:aq P V W st a w){l l':Leaf}{U:Upd}{v:Value}(Z:aK P V W st w [] l v)(I:cm st l=some (U,l')) :
  ∃ W0 n p0 E0 e0 c4,aq P V W0 (ae U st) a w/\cF V W W0 st (ae U st) w w/\l'=.al TMP 0 n/\aK P V W0 (ae U st) w [] l' v/\(ae U st TMP).ver=n/\(ae U st TMP).ls=[.own p0 none E0 e0 c4] /\
   W0.nw=W.nw/\W0.β=W.β/\(∀ q,q≠TMP->W0.cs q=W.cs q)/\W0.cs TMP=[v]/\(∀ q,(ae U st q).sh=(st q).sh\/q=TMP)/\tr W0 (ae U st) w (j0 l).1 (j0 l).2 v:=by
 cases l with
 |nal p ks ep cb E e xs =>
  simp only[cm]at I;cases a9:bk st ks ep with
  |false=>simp[a9]at I
  |true =>
   rw[a9]at I;simp only[cond_true]at I;split at I
   ·rename_i r j n0 i sz off;split at I
    ·rename_i M R J z hg;cases hb:!BT r TMP&&!BT r EPO&&BT sz J.cells with
     |false=>simp[hb]at I
     |true =>
      rw[hb]at I;simp only[cond_true]at I;simp only[BC,BY]at hb;obtain⟨⟨bb,ba⟩,a5⟩:=hb;have a5:=BI a5;subst a5;have X:r≠TMP:=λe=>by subst e;simp at bb
      have b4:r≠EPO:=λe=>by subst e;simp at ba
      split at I
      ·rename_i y hy;split at I
       ·rename_i E1 e1 ys b3;simp only[BA,B4]at I;obtain⟨rfl,rfl⟩:=I;have b1:=pv a9 Z;obtain⟨r',j',n',b2,g,c1,b9,ad,cu,cc,O⟩:=b1.at_ i _ off rfl;simp only[CU,B4,and_true]at b2;obtain⟨rfl,rfl,rfl⟩:=b2;have a3:(st r).ls[j]?=some (.own M none R J z):=by
         rw[B6]at hg;cases H:(st r).ls[j]? with
         |none=>rw[H]at hg;simp at hg
         |some l0=>rw[H]at hg;simp at hg;rw[hg]
        have a2:=h.leaf r j _ _ a3 ad;have a2:Ow w (gd V W M) R J z _ (W.bs r j):=a2;have b6:c1=z.length:=by
         obtain⟨A,c5,e0,_⟩:=a2.slice;simp only[Bx]at e0;exact e0.2.1
        subst b6;obtain⟨u,bn,bs',g1,g2,g3,g4⟩:=a2.out hy b3;have hu:u=v:=by
         have:=g3 g b9 rfl;rw[this]at O;exact Option.some.inj O
        subst hu;have bl:=br.1 a2.1;have b5:∀ k∈bs',k∈W.bs r j:=λk hk=>BK.1 (by have:=g4 k;have:=BK.2 hk;omega)
        have a1:∀ k∈bn,k∈W.bs r j/\k∉bs':=λk hk=>by
         have h5:=g4 k;have h6:=BK.2 hk;have h7:=bl k;refine⟨BK.1 (by omega),λbx=>?_⟩;have:=BK.2 bx;omega
        have a0:∀ k∈W.bs r j,uW V W st r j k:=λk hk=>by
         have h9:=h.ownb r j _ a3 trivial k hk;exact⟨h9.1,h9.2.1,h9.2.2,λr1 i1 l1 a4 b0 ab Y=>ab (by obtain⟨e1,e2⟩:=h.sep r1 i1 l1 r j _ a4 b0 a3 trivial k Y hk;rw[e1,e2])⟩
        have hR:xH st (ae [(r,⟨(st r).ver,(st r).sh,aT (st r).ls j (.own M (some (i,off)) R J z)⟩)] (ae [(EPO,bV (st EPO))] st)) r j (.own M (some (i,off)) R J z):=by
         refine⟨λq=>?_,λq=>?_,?_,λq=>?_,λl Z=>?_,λq i' l H Z=>?_⟩
         ·rcases an r q ⟨(st r).ver,(st r).sh,aT (st r).ls j (.own M (some (i,off)) R J z)⟩ (ae [(EPO,bV (st EPO))] st) with ⟨rfl,e⟩|⟨_,e⟩
          ·rw[e]
          ·rw[e];rcases an EPO q (bV (st EPO)) st with ⟨rfl,e⟩|⟨_,e⟩ <;> rw[e];rfl
         ·rcases an r q ⟨(st r).ver,(st r).sh,aT (st r).ls j (.own M (some (i,off)) R J z)⟩ (ae [(EPO,bV (st EPO))] st) with ⟨rfl,e⟩|⟨_,e⟩
          ·rw[e];exact BU _
          ·rw[e];rcases an EPO q (bV (st EPO)) st with ⟨rfl,e⟩|⟨_,e⟩ <;> rw[e]
           ·exact DG _
           ·exact BU _
         ·rw[aJ (CH b4),bh];exact BM _
         ·rcases an r q ⟨(st r).ver,(st r).sh,aT (st r).ls j (.own M (some (i,off)) R J z)⟩ (ae [(EPO,bV (st EPO))] st) with ⟨rfl,e⟩|⟨_,e⟩
          ·rw[e];simp[aT]
          ·rw[e];rcases an EPO q (bV (st EPO)) st with ⟨rfl,e⟩|⟨_,e⟩ <;> rw[e];rfl
         ·rw[bh]at Z;rcases aR _ _ _ _ _ Z with ⟨_,rfl,_⟩|⟨ab,_⟩
          ·rfl
          ·exact absurd rfl ab
         ·rcases an r q ⟨(st r).ver,(st r).sh,aT (st r).ls j (.own M (some (i,off)) R J z)⟩ (ae [(EPO,bV (st EPO))] st) with ⟨rfl,e⟩|⟨_,e⟩
          ·rw[e]at Z;rcases aR _ _ _ _ _ Z with ⟨rfl,_,_⟩|⟨_,Z⟩
           ·exact absurd rfl H
           ·exact Z
          ·rw[e]at Z;rcases an EPO q (bV (st EPO)) st with ⟨rfl,e⟩|⟨_,e⟩ <;> rw[e]at Z <;> exact Z
        have h1:=h.retell hV hR a3 trivial ad trivial (bs':=bs') g1 (λk hk=>a0 k (b5 k hk)) (λ_ _ _=>rfl) (BU _) rfl rfl rfl;have c2:cF V W (W.tell r j bs') st (ae [(r,⟨(st r).ver,(st r).sh,aT (st r).ls j (.own M (some (i,off)) R J z)⟩)] (ae [(EPO,bV (st EPO))] st)) w w :=
         ⟨λq=>⟨hR.ver q,λ_=>rfl⟩,λb hb=>⟨(iC hR.sh b).2 hb,rfl⟩,λ_ h=>h,λ_ _=>rfl,λhe=>by have:=hR.epo;omega⟩
        have c0:(ae [(r,⟨(st r).ver,(st r).sh,aT (st r).ls j (.own M (some (i,off)) R J z)⟩)] (ae [(EPO,bV (st EPO))] st) TMP).ver=(st TMP).ver:=by
         rw[aJ (CH X),aJ iU.2.2]
        obtain⟨h2,c3⟩:=h1.putGhost hV TMP iU.1 iU.2.1 ((st TMP).ver+1) .one [.own (M&&J.shy) none E1 e1 ys] [u] (λ_=>bn) (by rw[c0];exact BM _) rfl (λx hx=>by simp at hx;subst hx;exact g2.one)
         (λq l x H hx=>by
          cases q with
          |zero=>simp at H hx;subst H;subst hx;exact⟨g2.1,(OwB.shy g2.2).carry (bU (W':=W) (by intro hh;simp only[BC]at hh ⊢;exact⟨hh.1,m7 b3 hh.2⟩) (λ_ h=>h)) (λ_ _=>rfl) (λ_ _=>rfl)⟩
          |succ q=>simp at H)
         (λq l H _ k hk=>by
          obtain⟨q1,q2,q3,q4⟩:=a0 k (a1 k hk).1;refine⟨q1,q2,λb hb=>q3 b ((iC hR.sh b).1 hb),λr1 i1 l1 _ a4 b0 Y=>?_⟩;by_cases H:(r1,i1)=(r,j)
          ·cases H;rw[show (W.tell r j bs').bs r j=bs' from if_pos rfl]at Y;exact (a1 k hk).2 Y
          ·rw[show (W.tell r j bs').bs r1 i1=W.bs r1 i1 from if_neg H]at Y;exact q4 r1 i1 l1 (hR.old r1 i1 l1 H a4) b0 H Y)
         (λq q' l l2 h1 h2 h3 h4 k h5 h6=>by
          have h7:q<1:=(BD.1 h1).1;have h8:q'<1:=(BD.1 h3).1;omega)
        have a6:ae [(r,⟨(st r).ver,(st r).sh,aT (st r).ls j (.own M (some (i,off)) R J z)⟩),(TMP,⟨(st TMP).ver+1,.one,[.own (M&&J.shy) none E1 e1 ys]⟩),(EPO,bV (st EPO))] st =
          ae [(TMP,⟨(st TMP).ver+1,.one,[.own (M&&J.shy) none E1 e1 ys]⟩)] (ae [(r,⟨(st r).ver,(st r).sh,aT (st r).ls j (.own M (some (i,off)) R J z)⟩)] (ae [(EPO,bV (st EPO))] st)):=by
         rw[aP r,aP TMP,mX X]
        rw[a6];refine⟨_,_,_,_,_,_,h2,c2.trans c3,rfl,⟨by rw[bh];exact BU _,λ_=>by simp⟩,by rw[bh],by rw[bh],rfl,rfl,λq H=>by simp[H,Wit.tell],by simp,λq=>?_,X,b4,i,off,M,R,J,z,g,b9,?_,?_,?_,O⟩
        ·by_cases H:q=TMP
         ·exact .inr H
         ·rw[aJ H];exact .inl (hR.sh q)
        ·show (ae [(TMP,_)] _ r).ls[j]?=_;rw[aJ X,bh];simp only[aT];rw[CO (BD.1 a3).1]
        ·show (if r=TMP then _ else W.cs r)[j]?=_;rw[if_neg X];exact ad
        ·show g∈(if r=TMP then _ else (W.tell r j bs').bs r j);rw[if_neg X,show (W.tell r j bs').bs r j=bs' from if_pos rfl];obtain⟨_,c6,cp,_,q2,_⟩:=g1;rw[q2];simp[Bt]
       ·cases I
      ·cases I
    ·cases I
   ·cases I
 |_=>simp[cm]at I
theorem hH {R:Type}(l:Leaf)(J:Upd->Leaf->Option R):lI st l J=(cm st l).bind λu=>J u.1 u.2:=by
 cases l with
 |nal p X ep M E e xs =>
  simp only[lI,cm];cases bk st X ep with
  |false=>rfl
  |true =>
   simp only[cond_true];split
   ·rename_i r j n i O off;split
    ·rename_i Z Y I z _;cases !BT r TMP&&!BT r EPO&&BT O I.cells with
     |false=>rfl
     |true =>
      simp only[cond_true];have H:idx z (i:Int)=z[i]?:=by
       unfold idx;rw[if_neg (by omega)];simp
      rw[H];cases z[i]? with
      |none=>rfl
      |some y =>
       simp only[Option.bind_some];cases bd off I 0 y with
       |none=>rfl
       |some u=>rfl
    ·rfl
   ·rfl
 |_=>rfl
end
theorem rm {w:World}{α:Type}{s g:Nat}:∀ (J:List α) (o:Nat) (Q:Nat->α->List Value->Prop),(∀ j x c,Q j x c->c.length=s/\∀ u∈c,u.oneCell'=true)->(∀ (j:Nat) (x:α),J[j]?=some x->∃ c,Q j x c/\cV w g (o+j*s) c) ->
  ∃ r:List Value,r.length=J.length*s/\(∀ j u,r[j]?=some u->w.cell? ⟨g,o+j,none⟩=some u)/\(∀ u∈r,u.oneCell'=true) /\
   ∀ (j:Nat) (x:α),J[j]?=some x->∃ c,Q j x c/\∀ i u,c[i]?=some u->r[j*s+i]?=some u
 |[],o,_,_,_=>⟨[],by simp,by simp,by simp,by simp⟩
 |y::J,o,Q,hQ,h=>by
  obtain⟨c,hr,hc⟩:=h 0 y rfl;obtain⟨r,h1,h2,h3,h4⟩:=rm J (o+s) (λj=>Q (j+1)) (λj=>hQ (j+1)) (λj x z=>by
   obtain⟨Y,I,H⟩:=h (j+1) x (by simpa using z);refine⟨Y,I,?_⟩;rw[B3]at H;have:o+s+j*s=o+(j*s+s):=by omega
   rw[this];exact H)
  obtain⟨X,R⟩:=hQ 0 y c hr;refine⟨c++r,by rw[BR,h1,X,Cd,B3];omega,?_,?_,?_⟩
  ·intro j u z;by_cases a0:j<c.length
   ·rw[BH a0]at z;have:=hc j u z
    rwa [C9,B7]at this
   ·rw[BG (by omega)]at z;have:=h2 (j-c.length) u z;have e1:o+s+(j-c.length)=o+j:=by omega
    rwa [e1]at this
  ·intro u M;rcases BL.1 M with M|M
   ·exact R u M
   ·exact h3 u M
  ·intro j x z;cases j with
   |zero =>
    simp at z;subst z;refine⟨c,hr,λi u O=>?_⟩;have Z:=(BD.1 O).1;rw[C9,CI,BH Z];exact O
   |succ j =>
    obtain⟨Y,I,H⟩:=h4 j x (by simpa using z);refine⟨Y,I,λi u O=>?_⟩;rw[B3,BG (by omega)];rw[<- H i u O];congr 1;omega
theorem jM {P:Program}(g o:Nat)(t:TypeId)(mk:Nat×Nat):∀ (y:List Value) (i:Nat) (cur:Array Value) (w:World),w.heap[g]?=some (.cells cur t mk)->(mk.2=0\/cur.size<=mk.1)->o+i+y.length<=cur.size->(∀ v∈y,v.oneCell'=true) ->
  (storeCells ⟨g,o,none⟩ y i).run P w=.ok () (w.setRow g (cur.toList.take (o+i)++y++cur.toList.drop (o+i+y.length)).toArray)
 |[],i,cur,w,u,_,_,_=>by
  simp only[storeCells,Br,CS,B7,List.take_append_drop,Bu];rw[setRow_self w g cur t mk u];rfl
 |v::r,i,cur,w,u,O,H,M=>by
  have J:o+i<cur.size:=by simp at H;omega
  have z:(⟨g,o,none⟩:Addr).add i=⟨g,o+i,none⟩:=by unfold Addr.add;split <;> simp_all
  have I:(store ((⟨g,o,none⟩:Addr).add i) v).run P w=.ok () (w.setRow g (cur.setIfInBounds (o+i) v)):=by
   rw[z,run_store P w _ v _ (M v (by simp)),cell_of_row w g _ cur t mk u,Array.getElem?_eq_getElem J];simp[qQ u O J,setCell_eq_setRow w g (o+i) cur t mk v u]
  have R:=jM (P:=P) g o t mk r (i+1) (cur.setIfInBounds (o+i) v) (w.setRow g (cur.setIfInBounds (o+i) v)) (setRow_heap w g cur _ t _ u) (by simpa using O) (by simp at H ⊢;omega) (λx X=>M x (by simp[X]));simp only[storeCells,C4,I,CY,R,setRow_setRow];congr 3;have e:=list_seg_step cur.toList (o+i) v r (by simp at H ⊢;omega);simpa[Array.toList_setIfInBounds,DT]using e
theorem m8 {P:Program}(w:World)(t ty e:TypeId)(i:TypeInfo)(Y:P.underlying t=some (.slice e))(O:P.info? e=some i)
  (g y z:Nat) (cur:Array Value) (mk:Nat×Nat) (Z:w.heap[g]?=some (.cells cur e mk)) (hm:mk.2=0\/cur.size<=mk.1)
  (a:Addr) (m c:Nat) (r:List Value) (R:r.length=m*i.size) (I:∀ j u,r[j]?=some u->w.cell? (a.add j)=some u) (X:∀ u∈r,u.oneCell'=true)
  (H:y+m<=z) (J:y*i.size+r.length<=cur.size) :
  (Bz #[t,t] ty #[.slice (some ⟨g,0,none⟩) y z,.slice (some a) m c]).run P w =
   .ok (.slice (some ⟨g,0,none⟩) (y+m) z) (w.setRow g (cur.toList.take (y*i.size)++r++cur.toList.drop (y*i.size+r.length)).toArray):=by
 have hf:=run_firstCells_some (P:=P) w i.size m a m c r R I;have M:=jM (P:=P) g (y*i.size) e mk r 0 cur w Z hm (by simpa using J) X;simp only[B7]at M;simp[Bz,run_underlying Y,sizeOf,typeInfo,O,Cb,H,hf,Addr.add_lit,M]
theorem cg {P:Program}(w:World)(t ty e:TypeId)(i:TypeInfo)(z:Value)(size Z:Nat)(ht:P.underlying t=some (.slice e))(hi:P.info? e=some i)(hz:i.zero=some z)
  (a3:i.size=size) (b2:i.bytes=Z) (b3:z.cells.size=size)
  (v:Value) (n:Nat) (xs:List Value) (y:Row w e size v n xs)
  (a:Addr) (m c:Nat) (r:List Value) (hl:r.length=m*size) (J:∀ j u,r[j]?=some u->w.cell? (a.add j)=some u) (h1:∀ u∈r,u.oneCell'=true)
  (ab:n+m<=maxLen) (M:(n+m)*Z<=140737488355328) :
  ∃ v' w',(Bz #[t,t] ty #[v,.slice (some a) m c]).run P w=.ok v' w'/\Row w' e size v' (n+m) (xs++r)/\w.grownBy w' v.ownBlock/\(v'.ownBlock=v.ownBlock\/v'.ownBlock=some w.heap.size):=by
 subst a3;subst b2;have b0:n+m<=9223372036854775807:=by simp only[maxLen]at ab;omega
 have O:(xs++r).length=(n+m)*i.size:=by rw[BR,y.1,hl,CZ]
 have a0:∀ (H:Nat),H<n+m->∀ (a9:Option Nat),
   Row (w.drew.alloc (.cells (xs.toArray++r.toArray++DA z.cells (grownCap w (n+m) H e-(n+m))) e)) e i.size
    (.slice (some ⟨w.heap.size,0,none⟩) (n+m) (grownCap w (n+m) H e)) (n+m) (xs++r) /\
   w.grownBy (w.drew.alloc (.cells (xs.toArray++r.toArray++DA z.cells (grownCap w (n+m) H e-(n+m))) e)) a9:=by
  intro H ho a9;have b1:=grownCap_ge w (n+m) H e;have a1:grownCap w (n+m) H e<=maxLen:=grownCap_le_maxLen w (n+m) H e ab;refine⟨⟨O,.inr ⟨w.heap.size,_,_,_,rfl,heap_alloc_new w.drew _,b1,.inl ⟨rfl,a1⟩,?_,?_⟩⟩,⟨rfl,rfl,rfl,by simp,λk hk _=>Go.heap_alloc_old w.drew _ hk⟩⟩
  ·simp only[C5,CN,size_zeroCells,b3,y.1,hl,<- CZ];exact BN _ (by omega)
  ·simp only[Cv,BQ];rw[<- BQ,<- O];exact DR
 rcases y.2 with ⟨rfl,rfl⟩|⟨g,R,Y,mk,rfl,hg,b4,a1,ad,a5⟩
 ·have hx:xs=[]:=BV (by simpa using y.1);subst hx;by_cases hm:m=0
  ·subst hm;have hn:r=[]:=BV (by simpa using hl);subst hn;refine⟨.slice none 0 0,w,?_,Row.nil w e i.size,⟨rfl,rfl,rfl,BU _,λ_ _ _=>rfl⟩,.inl rfl⟩;simp[Bz,run_underlying ht,sizeOf,typeInfo,hi,Cb,CX,loadCells,loadCellsFrom]
  ·have hr:=run_append_nil (P:=P) w t ty e i z ht hi hz a m c r hl J (by omega) (by omega) (by have hb:=M;simp only[CI]at hb;omega);have X:=a0 0 (by omega) (Bt (.slice none 0 0));simp only[CI,DO,Array.empty_append]at X ⊢;exact⟨_,_,hr,X.1,X.2,.inr rfl⟩
 ·by_cases I:n+m<=R
  ·have a6:n*i.size+r.length<=Y.size:=by rw[hl,<- CZ];exact B9 (BN _ I) ad
   have hr:=m8 (P:=P) w t ty e i ht hi g n R Y mk hg (zi a1) a m c r hl J h1 I a6;have a2:(Y.toList.take (n*i.size)++r++Y.toList.drop (n*i.size+r.length)).toArray.size=Y.size:=by
    simp only[CN,BR,Bs,Cc,By];omega
   refine⟨_,_,hr,⟨O,.inr ⟨g,R,_,mk,rfl,setRow_heap w g Y _ e _ hg,I,a1.imp id (λh=>⟨h.1,?_⟩),?_,?_⟩⟩,⟨rfl,rfl,rfl,by simp,λk _ hk=>setRow_other w g k _ (λe=>hk (by simp[Bt,e]))⟩,.inl rfl⟩
   ·rw[a2];exact h.2
   ·rw[a2];exact ad
   ·rw[a5,<- O];exact DR
  ·have a4:∀ j u,xs[j]?=some u->w.cell? ((⟨g,0,none⟩:Addr).add j)=some u:=λj u hj=>by
    rw[eU,CI,y.cellAt _ (by rw[<- y.1];exact (BD.1 hj).1)];exact hj
   have hr:=run_append_grow (P:=P) w t ty e i z ht hi hz ⟨g,0,none⟩ n R xs y.1 a4 a m c r hl J (by omega) (by omega) (growslice_fits (by omega) M);have X:=a0 R (by omega) (Bt (.slice (some ⟨g,0,none⟩) n R));exact⟨_,_,hr,X.1,X.2,.inr rfl⟩
theorem m9 {P:Program}(w:World)(t ty e:TypeId)(i:TypeInfo)(size c:Nat)(z:P.underlying t=some (.slice e))(y:P.info? e=some i)
  (v:Value) (n:Nat) (xs:List Value) (r:Row w e size v n xs) :
  (Bz #[t,t] ty #[v,.slice none 0 c]).run P w=.ok v w:=by
 rcases r.2 with ⟨rfl,rfl⟩|⟨g,H,I,_,rfl,_,u,_⟩
 ·simp[Bz,run_underlying z,sizeOf,typeInfo,y,Cb,CX]
 ·simp[Bz,run_underlying z,sizeOf,typeInfo,y,Cb,CX,u,storeCells]
theorem jc {α:Type}{f g:α->List Nat}:∀ {l:List α},(∀ x∈l,f x=g x)->l.flatMap f=l.flatMap g
 |[],_=>rfl
 |x::l,h=>by rw[CF,CF,h x (BW ..),jc (λy r=>h y (BP _ r))]
theorem yQ (n m:Nat)(f g:Nat->List Nat):(BO (n+m)).flatMap (λj=>if j<n then f j else g (j-n))=(BO n).flatMap f++(BO m).flatMap g:=by
 rw[List.range_add,List.flatMap_append,DC];congr 1
 ·refine jc λj r=>?_
  rw[if_pos (Cq.1 r)]
 ·refine jc λj _=>?_
  rw[if_neg (by omega),show n+j-n=j by omega]
def vX (w:World)(G:Nat->Prop)(e:Ty)(z:List e.den)(u:Value)(r:Nat->List Nat):Prop :=
 ∃ A y,u=.slice A z.length y/\(0<z.length->∃ g o,A=some ⟨g,o,none⟩/\∀ j (x:e.den),z[j]?=some x->∃ c,Mx w G e none 0 x c (r j)/\cV w g (o+j*e.cells) c)
section
variable {P:Program} {V:Env} {Γ:List Ctr} {T:TypeId->TI} {st:St} {o:Oper} {R:Type} {κ:Upd->Option R} {r:R}
theorem vY {w:World}{t ty E:TypeId}{e e':Ty}{J:Nat}(bb:oJ P t (.slice E e J))(b0:e'.cells=e.cells){G G2 G':Nat->Prop}{xs H:List e'.den}{v u:Value}{bs:List Nat}{O:Nat->List Nat}(hx:Ow w G E e' xs v bs)
  (hy:vX w G2 e' H u O) (ab:(xs.length+H.length)*J<=ao) (hG:∀ k,G k->G' k) (b2:∀ k,G2 k->G' k) (a9:∀ k,G' k->k<w.heap.size/\v.ownBlock≠some k) (c1:∀ j,j<H.length->∀ k∈O j,v.ownBlock≠some k) :
  ∃ v' M I,(Bz #[t,t] ty #[v,u]).run P w=.ok v' M/\w.grownBy M v.ownBlock/\OwB M G' none E e' (xs++H) v' I /\
   ∀ k,I.count k<=bs.count k+(((BO H.length).flatMap O)++[w.heap.size]).count k:=by
 obtain⟨hu,_,_,c6,c3,ti,z,hi,hs,hb,hz,b9⟩:=bb;obtain⟨bl,X,a6,ho,b3,c4⟩:=hx;obtain⟨A,b4,c0,b6⟩:=hy;subst c0;have bx:ti.size=e'.cells:=by rw[b0];exact hs
 have a3:∀ (M:World),w.grownBy M v.ownBlock->∀ k,G' k->M.heap[k]?=w.heap[k]?:=λM Y k Z=>Y.block k (a9 k Z).1 (CH (a9 k Z).2)
 have c5:xs.length+H.length<=maxLen:=by
  have h1:(xs.length+H.length)*1<=(xs.length+H.length)*J:=CV _ c3.1;have:=ml;simp only[ao]at ab;omega
 have b1:∀ (y:List Value),(∀ (j:Nat) (x:e'.den),H[j]?=some x->∃ c,Mx w G2 e' none 0 x c (O j)/\∀ i u,c[i]?=some u->y[j*e'.cells+i]?=some u) ->
   ∀ v' M,Row M E e'.cells v' (xs.length+H.length) (X++y)->w.grownBy M v.ownBlock->(v'.ownBlock=v.ownBlock\/v'.ownBlock=some w.heap.size) ->
    ∃ I,OwB M G' none E e' (xs++H) v' I/\∀ k,I.count k<=bs.count k+(((BO H.length).flatMap O)++[w.heap.size]).count k:=by
  intro y hn v' M a4 Y a5;refine⟨v'.ownBlock.toList++(BO (xs.length+H.length)).flatMap (λj=>if j<xs.length then a6 j else O (j-xs.length)),⟨X++y,_,by rw[BR];exact a4,by rw[BR],λj x hj=>?_⟩,λk=>?_⟩
  ·by_cases a1:j<xs.length
   ·rw[BH a1]at hj;obtain⟨c,hr,hc⟩:=c4 j x hj;have hr:Mx w G e' none 0 x c (a6 j):=hr;refine⟨c,?_,λi u hi=>?_⟩
    ·rw[if_pos a1];refine hr.carry hG (λk Z=>a3 M Y k (hG k Z)) λk Z=>Y.block k (hr.lt k Z) (λe0=>?_)
     have h5:=br.1 bl k;rw[b3,<- e0,BF]at h5;have h6:0<((BO xs.length).flatMap a6).count k:=BK.2 (dV.2 ⟨j,a1,Z⟩);simp at h5;omega
    ·have:=hc i u hi;rw[BH (BD.1 this).1];exact this
   ·rw[BG (by omega)]at hj;obtain⟨c,hr,hc⟩:=hn _ x hj;have bn:=(BD.1 hj).1;refine⟨c,?_,λi u hi=>?_⟩
    ·rw[if_neg a1];exact hr.carry b2 (λk Z=>a3 M Y k (b2 k Z)) λk Z=>Y.block k (hr.lt k Z) (CH (c1 _ bn k Z))
    ·have:=hc i u hi;have b5:=ho.1;have cb:xs.length*e'.cells<=j*e'.cells:=BN _ (Nat.le_of_not_lt a1);rw[BG (by omega),<- this,b5,Nat.sub_mul];congr 1;omega
  ·rw[yQ,b3];simp only[BF];rcases a5 with h5|h5
   ·rw[h5];omega
   ·rw[h5];simp only[Cy];omega
 cases A with
 |none =>
  have a0:H.length=0:=by
   rcases Cz H.length with h|h
   ·exact h
   ·obtain⟨g,o,hA,_⟩:=b6 h;cases hA
  have a0:=BV a0;subst a0;have a2:=m9 (P:=P) w t ty E ti e'.cells b4 hu hi v xs.length X ho;have Y:w.grownBy w v.ownBlock:=⟨rfl,rfl,rfl,BU _,λ_ _ _=>rfl⟩;obtain⟨I,h1,h2⟩:=b1 [] (by simp) v w (by simpa using ho) Y (.inl rfl);exact⟨v,w,I,a2,Y,h1,h2⟩
 |some ad =>
  have ba:∃ y:List Value,y.length=H.length*e'.cells/\(∀ j u,y[j]?=some u->w.cell? (ad.add j)=some u)/\(∀ u∈y,u.oneCell'=true) /\
    ∀ (j:Nat) (x:e'.den),H[j]?=some x->∃ c,Mx w G2 e' none 0 x c (O j)/\∀ i u,c[i]?=some u->y[j*e'.cells+i]?=some u:=by
   rcases Cz H.length with h|h
   ·have a0:=BV h;subst a0;exact⟨[],by simp,by simp,by simp,by simp⟩
   ·obtain⟨g,o,hA,he⟩:=b6 h;simp at hA;subst hA;obtain⟨y,h1,h2,h3,h4⟩:=rm H o (λj x c=>Mx w G2 e' none 0 x c (O j)) (λj x c hq=>⟨hq.len,hq.one⟩) he;exact⟨y,h1,λj u hj=>by rw[eU];exact h2 j u hj,h3,h4⟩
  obtain⟨y,h1,h2,h3,h4⟩:=ba;have c2:z.cells.size=e'.cells:=by
   have h2:=(lB w (λ_=>False) e).len;rw[<- By,b9,h2,b0]
  obtain⟨v',M,a2,a4,Y,a5⟩:=cg (P:=P) w t ty E ti z e'.cells J hu hi hz bx hb c2 v xs.length X ho ad H.length b4 y h1 h2 h3 c5 (by simpa[ao]using ab);obtain⟨I,h5,h6⟩:=b1 y h4 v' M a4 Y a5;exact⟨v',M,I,a2,Y,h5,h6⟩
theorem vZ {W:Wit}{a:Act}{w:World}(h:aq P V W st a w){E:TypeId}{e:Ty}{y:Leaf}{u:Value}{t:cL (List e.den)}(hl:aD P V W st w [y] [u])(H:fO st E e y=some t) :
  (∃ I,vX w (bj V W t.p t.frz) e t.val u I/\∀ k,((BO t.val.length).flatMap I).count k<=(aX W t.kill).count k)/\(∀ x∈t.frz,aC st x)/\(∀ x∈t.kill,aC st x):=by
 have z:∀ {p q:Bool} {O:List e.den} {ks:List (Nat×Nat)},dh e (aE st y)=some (p,O)->(∀ (S:Nat->Prop) (x:e.den) (c:List Value),Rd w (bj V W p (bu st [y])) e x c->Mx w (bj V W q ks) e none 0 x c []) ->
   ∃ I,vX w (bj V W q ks) e O u I/\∀ k,((BO O.length).flatMap I).count k<=(aX W []).count k:=by
  intro p q O ks X hm;obtain⟨A,M,hu,_,hx⟩:=ky (m:=false) (E:=E) h hl.1.1 hl.1.2.1 X;have hu:u=.slice A O.length M:=by simpa using hu
  refine⟨(λ_=>[]:Nat->List Nat),⟨A,M,hu,λZ=>?_⟩,λk=>by rw[show ((BO O.length).flatMap λ_=>([]:List Nat))=[] from by simp];exact DH _⟩;obtain⟨g,o',hA,_,a0⟩:=hx Z;exact⟨g,o',hA,λj x hj=>by
   obtain⟨c,hr,hc⟩:=a0 j x hj;exact⟨c,hm (λ_=>True) x c hr,hc⟩⟩
 unfold fO at H;cases hf:e.flat with
 |true =>
  rw[hf]at H;simp only[cond_true,BB]at H;obtain⟨⟨p,O⟩,X,rfl⟩:=H;exact⟨z X (λ_ x c hr=>Mx.flat hf hr),by simp,by simp⟩
 |false =>
  rw[hf]at H;simp only[cond_false]at H;cases hs:decide (e.sh=e) with
  |true =>
   rw[hs]at H;simp only[cond_true,BB]at H;obtain⟨⟨p,O⟩,X,rfl⟩:=H;exact⟨z X (λ_ x c hr=>Mx.shared (of_decide_eq_true hs) hr),λx hx=>ek hl hx,by simp⟩
  |false =>
   rw[hs]at H;simp only[cond_false,BB]at H;obtain⟨J,X,rfl⟩:=H;obtain⟨h1,h2,h3⟩:=dO (pos:=0) h hl X;have h1:Mx w (bj V W J.p J.frz) (.list true E e) none 0 J.val [u] (aX W J.kill):=h1;rw[bH (by simp)]at h1;obtain⟨v,hv,a1,Y,h4,h5,h6⟩:=h1;simp only[CU,and_true]at hv;subst hv;refine⟨⟨Y,?_,λk=>?_⟩,h2,h3⟩
   ·rcases h4.2 with ⟨hn,h0⟩|⟨g,M,a3,_,hv,hg,a2,_⟩
    ·exact⟨none,0,by rw[hn];show _=Value.slice none (DJ J.val) 0;rw[h0],λZ=>by have Z:0<DJ J.val:=Z;omega⟩
    ·refine⟨some ⟨g,0,none⟩,M,hv,λZ=>⟨g,0,rfl,λj x hj=>?_⟩⟩;obtain⟨c,h7,h8⟩:=h6 j x hj;have h7:Mx w (bj V W J.p J.frz) e none 0 x c (Y j):=h7;refine⟨c,h7,λi u hi=>?_⟩;have h9:=h8 i u hi;rw[CI];rw[hv]at h4;rw[h4.cellAt _ (by rw[<- h4.1];exact (BD.1 h9).1)];exact h9
   ·show ((BO (DJ J.val)).flatMap Y).count k<=(aX W J.kill).count k;rw[h5,BF];omega
theorem Ak {l l':Leaf}{U:Upd}(u:cm st l=some (U,l')):∃ n,l'=.al TMP 0 n:=by
 cases l with
 |nal p O ep I E e xs =>
  simp only[cm]at u;cases y:bk st O ep with
  |false=>simp[y]at u
  |true =>
   rw[y]at u;simp only[cond_true]at u;split at u
   ·rename_i r j Y i M off;split at u
    ·rename_i p' X H J Z;cases z:!BT r TMP&&!BT r EPO&&BT M H.cells with
     |false=>simp[z]at u
     |true =>
      rw[z]at u;simp only[cond_true]at u;split at u
      ·split at u
       ·simp only[BA,B4]at u;exact⟨_,u.2.symm⟩
       ·cases u
      ·cases u
    ·cases u
   ·cases u
 |_=>simp[cm]at u
theorem wa (hV:ay V)(hT:TOk P T)(bx:bN V o){c:Call}(c2:o.op=.call c)(hc:c.callee=.builtin .append)(h:act Γ T o st κ=some r):bW P V o st κ r:=by
  simp only[act,wrU,c2,hc]at h;split at h
  · cases h
  · rename_i d hd
    split at h
    · rename_i x y t u a3 a9
      split at h
      · rename_i E e a4 ht
        cases ab:BT t u with
        |false=>simp[ab]at h
        |true =>
          simp only[ab,cond_true]at h;have ab:=BI ab;subst ab;have bn:=hT t;rw[ht]at bn;have a3:c.args=#[x,y]:=by rw[<- Bu (xs:=c.args),a3]
          have a9:c.argTypes=#[t,t]:=by rw[<- Bu (xs:=c.argTypes),a9]
          have bb:∀ (a:Act) (w w':World) (v:Value),(Bz #[t,t] o.type #[a.eval x,a.eval y]).run P w=.ok v w'->(execOp a.eval o).run P w=.ok (.value v) w':=by
            intro a w w' v Z;simp[execOp,c2,hc,resolve,invoke,builtin,a3,a9,Z]
          have ba:∀ (I:Upd) (E':TypeId) (e':Ty) (p:Bool) (xs:List e'.den) (ks:List (Nat×Nat)),E'=E->e'.sh=e.sh->dU st (ae I st) I d E' e' a4 p xs ks (one st y) κ=some r ->
              ∃ U,κ U=some r/\∀ (X:Wit) (a:Act) (w:World),aq P V X (ae I st) a w->aD P V X (ae I st) w [one st y] [a.eval y]->(∀ x∈ks,aC (ae I st) x)->Ow w (gd V X p) E' e' xs (a.eval x) (aX X ks)->mF P V o st U a w:=by
            intro I E' e' p xs ks hE he M;subst hE;unfold dU at M;split at M
            · rename_i t1 cy
              cases Y:aY (t1.kill++ks)&&dD t1.frz (t1.kill++ks)&&decide ((xs.length+t1.val.length)*a4<=ao) with
              |false=>simp[Y]at M
              |true =>
                simp only[Y,cond_true]at M;simp only[BC,decide_eq_true_eq]at Y;obtain⟨⟨cw,cu⟩,b5⟩:=Y;refine⟨_,M,λX a w Z a0 cx c0 next Q hn=>?_⟩;obtain⟨⟨cb,d2,b4⟩,hf,cp⟩:=vZ Z a0 cy;have c1:∀ x∈t1.kill++ks,aC (ae I st) x:=λx hx=>(BL.1 hx).elim (cp x) (cx x)
                obtain⟨h1,_,_,h4⟩:=fE hV Z cu c1;have b6:=gP Z cw c1;rw[dI]at b6 h4;have O:∀ k∈aX X t1.kill++aX X ks,¬ cf V (X.frz (ae I st) t1.frz) _ k:=λk H=>mj ⟨(h4 k H).1,(h4 k H).2.1,(h4 k H).2.2.2.1,(h4 k H).2.2.2.2⟩
                rw[B8]at b6;obtain⟨c4,c6,b2⟩:=b6;have bl:∀ k,(a.eval x).ownBlock=some k->k∈aX X ks:=by
                  intro k H;obtain⟨_,d3,dd,_,b5,_⟩:=c0;rw[b5,H];simp
                have cc:∀ k,gd V (X.frz (ae I st) t1.frz) (p||t1.p) k->cf V (X.frz (ae I st) t1.frz) (ae (aN (ae (aF (ae I st) t1.frz) (ae I st)) (t1.kill++ks)++aF (ae I st) t1.frz) (ae I st)) k:=by
                  rintro k (H|⟨_,H⟩)
                  · exact .inl H
                  · exact .inr (.inl (hV.ro k H))
                have ad:∀ k∈(BO t1.val.length).flatMap cb,k∈aX X t1.kill:=λk H=>BK.1 (by have:=b4 k;have:=BK.2 H;omega)
                obtain⟨v',w',dc,c5,hg,c3,b9⟩:=vY (P:=P) (t:=t) (ty:=o.type) bn (ib he) c0 d2 b5 (G':=gd V (X.frz (ae I st) t1.frz) (p||t1.p))
                  (bU (W':=X.frz (ae I st) t1.frz) (by intro h;simp[h]) (λ_ h=>Or.inl h))
                  (λk H=>bU (W':=X.frz (ae I st) t1.frz) (by intro h;simp[h]) (λ_ h=>h) k (kg hf k H))
                  (λk H=>⟨h1.used_lt k (cc k H),λe1=>O k (BE _ (bl k e1)) (cc k H)⟩)
                  (λj hj k H e1=>b2 k (ad k (dV.2 ⟨j,hj,H⟩)) k (bl k e1) rfl)
                have b3:=mZ (bs:=aX X ks) (K:=(BO t1.val.length).flatMap cb++[w.heap.size]) c6
                  (br.2 λk=>by
                    rw[BF];have h5:=b4 k;have h6:=br.1 c4 k;by_cases H:k=w.heap.size
                    · subst H
                      have:(aX X t1.kill).count w.heap.size=0:=BZ.2 (λhm=>by have:=(h4 _ (BJ _ hm)).2.2.1;omega);simp;omega
                    · have:List.count k [w.heap.size]=0:=BZ.2 (by simp[H])
                      omega)
                  (λk H hm=>by
                    rcases BL.1 H with H|H
                    · exact b2 k (ad k H) k hm rfl
                    · simp at H
                      subst H;have:=(h4 _ (BE _ hm)).2.2.1;omega) b9
                refine dW (bb a w w' v' c5) ?_;rw[hd];refine hn _ _ ?_;rw[cl,aP,bA];refine h1.putOwn hV hg.size hg.os hg.tape hg.output (λk H=>hg.block k (h1.used_lt k H) (λe1=>O k (BE _ (bl k e1.symm)) H)) d (bx d hd).1 (bx d hd).2 _ (BM _) ⟨b3.1,c3⟩ (λk H hu=>?_);rcases b3.2 k H with H|H
                · exact O k (BE _ H) hu
                · rcases BL.1 H with H|H
                  · exact O k (BJ _ (ad k H)) hu
                  · simp at H
                    have:=h1.used_lt k hu;omega
            · cases M
          have a2:∀ (I:Upd) (x':Leaf),eq st I d E e a4 x' (one st y) κ=some r->one st y≠.dead:=by
            intro I x' h e1;rw[e1]at h;unfold eq at h;split at h
            · split at h
              · rename_i p E' e' b0 b1
                cases Y:BT E' E&&decide (e'.sh=e.sh) with
                |false=>simp[Y]at h
                |true =>
                  simp only[Y,cond_true,dU,fO,aE,dh,Cl,ci,take]at h;cases e'.flat <;> cases decide (e'.sh=e') <;> simp at h
              · cases h
            · simp only[dU,fO,aE,dh,Cl,ci,take]at h
              cases e.flat <;> cases decide (e.sh=e) <;> simp at h
            · cases h
          simp only[iy]at h;cases hn:jj (one st x) with
          |true =>
            rw[hn]at h;simp only[cond_true]at h;rw[hH]at h;obtain⟨⟨I,x'⟩,a6,h⟩:=Bv.1 h;have a2:=a2 _ _ h;simp only[eq]at h;split at h
            · rename_i r' j n
              split at h
              · rename_i p' E' e' b0 b1
                cases Y:BT E' E&&decide (e'.sh=e.sh) with
                |false=>simp[Y]at h
                |true =>
                  simp only[Y,cond_true]at h;simp only[BC,decide_eq_true_eq]at Y;obtain⟨U,hU,hg⟩:=ba I E' e' p' b0 [(r',j)] (BI Y.1) Y.2 h;refine⟨U,hU,λW a w Z=>?_⟩;obtain⟨a1,_,_,_,_⟩:=bq Z x (by intro e1;rw[e1]at hn;simp[jj]at hn);obtain⟨X,n0,p0,E0,e0,e2,g1,g2,g3,g4,_⟩:=uX hV Z a1 a6;obtain⟨a0,J,a5,_,_⟩:=bq Z y a2;obtain⟨h5,h6,h7,h8⟩:=ke g1 b1 g4;exact hg X a w g1 ⟨⟨a0.carry hV.ro g2 (λho=>absurd ho J),J,a5⟩,trivial⟩ (λz hz=>by simp at hz;subst hz;exact⟨_,h7,trivial⟩) (by simpa[aX]using h6)
              · cases h
            · exfalso
              obtain⟨n,d1⟩:=Ak a6;cases d1
            · cases h
          |false =>
            rw[hn]at h;simp only[cond_false]at h;have a2:=a2 _ _ h;simp only[eq]at h;split at h
            · rename_i r' j n hx
              split at h
              · rename_i p' E' e' b0 b1
                cases Y:BT E' E&&decide (e'.sh=e.sh) with
                |false=>simp[Y]at h
                |true =>
                  simp only[Y,cond_true]at h;simp only[BC,decide_eq_true_eq]at Y;obtain⟨U,hU,hg⟩:=ba [] E' e' p' b0 [(r',j)] (BI Y.1) Y.2 h;refine⟨U,hU,λW a w Z=>?_⟩;obtain⟨a1,_,_,_,_⟩:=bq Z x (by rw[hx];simp);rw[hx]at a1;obtain⟨a0,J,a5,_,_⟩:=bq Z y a2;obtain⟨h5,h6,h7,h8⟩:=ke Z b1 a1;exact hg W a w Z ⟨⟨a0,J,a5⟩,trivial⟩ (λz hz=>by simp at hz;subst hz;exact⟨_,h7,trivial⟩) (by simpa[aX]using h6)
              · cases h
            · rename_i hx
              obtain⟨U,hU,hg⟩:=ba [] E e false [] [] rfl rfl h;refine⟨U,hU,λW a w Z=>?_⟩;obtain⟨a1,_,_,_,_⟩:=bq Z x (by rw[hx];simp);rw[hx]at a1;obtain⟨a0,J,a5,_,_⟩:=bq Z y a2;exact hg W a w Z ⟨⟨a0,J,a5⟩,trivial⟩ (by simp) (by rw[show a.eval x=_ from a1];exact OwH.nil w _ E e)
            · cases h
      · cases h
    · cases h
end
def gQ (w:World)(ro pr:Nat->Prop)(r:Bool)(a:Ty)(x:a.den)(v:Value):Prop :=
 if r=true then ∃ b u g o c,v=.pointer (some ⟨b,u,none⟩)/\pr b/\w.cell? ⟨b,u,none⟩=some (.pointer (some ⟨g,o,none⟩))/\pr g/\Rd w ro a x c/\cV w g o c
 else ∃ g o c,v=.pointer (some ⟨g,o,none⟩)/\pr g/\Rd w ro a x c/\cV w g o c
def jA (w:World)(ro pr:Nat->Prop):(cs:List (Bool×Ty))->lG cs->List Value->Prop
 |[],_,y=>y=[]
 |c::cs,x,y=>∃ u r,y=u::r/\gQ w ro pr c.1 c.2 x.1 u/\jA w ro pr cs x.2 r
def nR (P:Program)(w:World)(ro pr:Nat->Prop):(pk:PK)->pk.den->Value->List Nat->Prop
 |.rd a,x,v,r=>r=[]/\∃ y,da a.isAgg v y/\Rd w ro a x y
 |.own a,x,v,r=>∃ y,da a.isAgg v y/\Mx w ro a none 0 x y r
 |.io a,x,v,r=>∃ y,da a.isAgg v y/\Mx w ro a none 0 x y r
 |.rref a,x,v,r=>r=[]/\gQ w ro pr false a x v
 |.rref2 a,x,v,r=>r=[]/\gQ w ro pr true a x v
 |.iop a,x,v,r=>∃ g c E z,v=.pointer (some ⟨g,0,none⟩)/\w.heap[g]?=some (.cells c.toArray E (0,0))/\Mx w ro a none 0 x c z/\r=g::z
 |.fn O B,M,v,r=>r=[]/\ic P w pr O B M v
 |.clo f y,x,v,r=>r=[]/\∃ H:List Value,v=.func (.func f) #[] H.toArray/\jA w ro pr y x H
 |.hol a c off,x,v,r=>∃ y u z I E e J,da a.isAgg v y/\Mx w ro a (some c) 0 x.1 y z/\y[c]?=some u/\bd c a 0 x.1=some ⟨E,e,J⟩/\OwB w ro (some (x.2,off)) E e J u I/\∀ k,r.count k=z.count k+I.count k
def c8 (P:Program)(w:World)(ro pr:Nat->Prop):(ps:List PK)->ac ps->List Value->List (List Nat)->Prop
 |[],_,z,u=>z=[]/\u=[]
 |p::ps,x,z,u=>∃ v y b r,z=v::y/\u=b::r/\nR P w ro pr p x.1 v b/\c8 P w ro pr ps x.2 y r
def jn (w:World)(G:Nat->Prop)(a:Ty)(x:a.den)(ptr:Bool)(v:Value)(bs:List Nat):Prop :=
 if ptr=true then ∃ g c E r,v=.pointer (some ⟨g,0,none⟩)/\w.heap[g]?=some (.cells c.toArray E (0,0))/\Mx w G a none 0 x c r/\bs=g::r
 else ∃ u,da a.isAgg v u/\Mx w G a none 0 x u bs
def bL (w:World)(G:Nat->Prop):(ps:List PK)->ai ps->List Value->List (List Nat)->Prop
 |.io a::ps,o,v::u,b::r=>jn w G a o.1 false v b/\bL w G ps o.2 u r
 |.iop a::ps,o,v::u,b::r=>jn w G a o.1 true v b/\bL w G ps o.2 u r
 |.rd _::ps,o,_::u,b::r=>b=[]/\bL w G ps o u r
 |.own _::ps,o,_::u,b::r=>b=[]/\bL w G ps o u r
 |.rref _::ps,o,_::u,b::r=>b=[]/\bL w G ps o u r
 |.rref2 _::ps,o,_::u,b::r=>b=[]/\bL w G ps o u r
 |.fn _ _::ps,o,_::u,b::r=>b=[]/\bL w G ps o u r
 |.clo _ _::ps,o,_::u,b::r=>b=[]/\bL w G ps o u r
 |.hol _ _ _::ps,o,_::u,b::r=>b=[]/\bL w G ps o u r
 |[],_,[],[]=>True
 |_,_,_,_=>False
def pY (w:World)(G ro:Nat->Prop):(r:RK)->r.den->Value->List Nat->Prop
 |.v a,y,v,u=>∃ z,da a.isAgg v z/\Mx w G a none 0 y z u
 |.bv a,y,v,u=>u=[]/\∃ z,da a.isAgg v z/\Rd w (λk=>G k\/ro k) a y z
 |.box a,y,v,u=>∃ g c E H,v=.pointer (some ⟨g,0,none⟩)/\w.heap[g]?=some (.cells c.toArray E (0,0))/\Mx w G a none 0 y c H/\u=g::H
def gz (w:World)(G ro:Nat->Prop):(J:List RK)->aj J->List Value->List (List Nat)->Prop
 |[],_,M,H=>M=[]/\H=[]
 |r::J,y,M,H=>∃ u I b z,M=u::I/\H=b::z/\pY w G ro r y.1 u b/\gz w G ro J y.2 I z
def sd:List Value->Value->Prop
 |[u],v=>v=u
 |r,v=>v=.tuple r.toArray
def pZ (w w':World)(r:List Nat)(k:Nat):Prop:=k<w'.heap.size/\(w.heap.size<=k\/k∈r)
def tt (c:Ctr)(w:World)(ro:Nat->Prop)(I:List Value)(r:List (List Nat))(y:aj c.rs×ai c.ps)(e:Ending)(w':World):Prop :=
 ∃ (v:Value) (H:List Value) (N:Nat->Prop) (z u:List (List Nat)),e=.returned v/\sd H v/\w.heap.size<=w'.heap.size/\w'.os=w.os/\w'.tape=w.tape/\w'.output=w.output /\
  (∀ k,k<w.heap.size->k∉r.flatten->w'.heap[k]?=w.heap[k]?)/\(∀ k,N k->pZ w w' r.flatten k) /\
  bL w' (λk=>N k\/(c.fresh=false/\ro k)) c.ps y.2 I z/\gz w' (λk=>N k\/(c.fresh=false/\ro k)) ro c.rs y.1 H u /\
  (z.flatten++u.flatten).Nodup/\∀ k∈z.flatten++u.flatten,pZ w w' r.flatten k/\¬ N k
def bP (P:Program)(c:Ctr):Prop :=
 fQ P c.f/\∀ (w:World) (ro:Nat->Prop) (x:ac c.ps) (u:List Value) (r:List (List Nat)) (y:aj c.rs×ai c.ps),
  c8 P w ro (λk=>k<w.heap.size/\k∉r.flatten) c.ps x u r->(∀ k,ro k->k<w.heap.size/\k∉r.flatten)->r.flatten.Nodup->c.den x=some y ->
  Calls P c.f u.toArray w (tt c w ro u r y)
section
variable {P:Program} {V:Env} {Γ:List Ctr} {T:TypeId->TI} {st:St} {o:Oper} {R:Type} {κ:Upd->Option R} {r:R}
theorem ic.mono {w0:World}{S H:Nat->Prop}(X:∀ k,S k->H k){z:List Ty}{B:Ty}{I:Tup z->Option B.den}{v:Value}(h:ic P w0 S z B I v):ic P w0 H z B I v:=by
 obtain⟨f,u,e,O,J⟩:=h;exact⟨f,u,e,O,λw1 Y M=>J w1 Y (λk y=>M k (X k y))⟩
theorem ic.move {w0 w:World}{S I:Nat->Prop}(z:w0.heap.size<=w.heap.size)(M:∀ k,S k->I k/\w.heap[k]?=w0.heap[k]?){H:List Ty}{B:Ty}{J:Tup H->Option B.den}{v:Value}
  (h:ic P w0 S H B J v):ic P w I H B J v:=by
 obtain⟨f,u,e,Y,O⟩:=h;exact⟨f,u,e,Y,λw1 Z X=>O w1 (B9 z Z) (λk y=>(X k (M k y).1).trans (M k y).2)⟩
theorem gQ.carry {w w1:World}{ro ro' pr H:Nat->Prop}(y:∀ k,ro k->ro' k/\w1.heap[k]?=w.heap[k]?)(u:∀ k,pr k->H k/\w1.heap[k]?=w.heap[k]?){J:Bool}{a:Ty}{x:a.den}{v:Value}(h:gQ w ro pr J a x v):gQ w1 ro' H J a x v:=by
 unfold gQ at h ⊢;split at h
 ·rename_i O;rw[if_pos O];obtain⟨b,ob,g,o,c,X,I,Y,M,Z,h8⟩:=h;exact⟨b,ob,g,o,c,X,(u b I).1,by rw[kx (u b I).2];exact Y,(u g M).1,Z.carry (λk z=>(y k z).1) (λk z=>(y k z).2),h8.same (u g M).2⟩
 ·rename_i O;rw[if_neg O];obtain⟨g,o,c,X,I,Y,M⟩:=h;exact⟨g,o,c,X,(u g I).1,Y.carry (λk z=>(y k z).1) (λk z=>(y k z).2),M.same (u g I).2⟩
theorem jA.carry {w w1:World}{ro ro' pr y:Nat->Prop}(H:∀ k,ro k->ro' k/\w1.heap[k]?=w.heap[k]?)(z:∀ k,pr k->y k/\w1.heap[k]?=w.heap[k]?):∀ {cs:List (Bool×Ty)} {x:lG cs} {us:List Value},jA w ro pr cs x us->jA w1 ro' y cs x us
 |[],_,_,h=>h
 |_::_,_,_,⟨u,I,e,M,J⟩=>⟨u,I,e,M.carry H z,jA.carry H z J⟩
theorem nR.mono {w:World}{ro ro' pr O:Nat->Prop}(y:∀ k,ro k->ro' k)(J:∀ k,pr k->O k):∀ {pk:PK} {x:pk.den} {v:Value} {bs:List Nat},nR P w ro pr pk x v bs->nR P w ro' O pk x v bs
 |.rd _,_,_,_,⟨e,M,I,H⟩=>⟨e,M,I,H.mono y⟩
 |.own _,_,_,_,⟨M,I,H⟩=>⟨M,I,H.mono y⟩
 |.io _,_,_,_,⟨M,I,H⟩=>⟨M,I,H.mono y⟩
 |.rref _,_,_,_,⟨e,h⟩=>⟨e,h.carry (λk z=>⟨y k z,rfl⟩) (λk z=>⟨J k z,rfl⟩)⟩
 |.rref2 _,_,_,_,⟨e,h⟩=>⟨e,h.carry (λk z=>⟨y k z,rfl⟩) (λk z=>⟨J k z,rfl⟩)⟩
 |.iop _,_,_,_,⟨g,c,E,Z,I,H,Y,X⟩=>⟨g,c,E,Z,I,H,Y.mono y,X⟩
 |.fn _ _,_,_,_,⟨e,h⟩=>⟨e,ic.mono J h⟩
 |.clo _ _,_,_,_,⟨e,us,I,H⟩=>⟨e,us,I,H.carry (λk z=>⟨y k z,rfl⟩) (λk z=>⟨J k z,rfl⟩)⟩
 |.hol _ _ _,_,_,_,⟨M,u,Z,b1,E,e,xs,I,H,Y,X,h5,h6⟩=>⟨M,u,Z,b1,E,e,xs,I,H.mono y,Y,X,h5.carry y (λ_ _=>rfl) (λ_ _=>rfl),h6⟩
theorem c8.mono {w:World}{ro ro' pr u:Nat->Prop}(H:∀ k,ro k->ro' k)(z:∀ k,pr k->u k):∀ {ps:List PK} {x:ac ps} {M:List Value} {y:List (List Nat)},c8 P w ro pr ps x M y->c8 P w ro' u ps x M y
 |[],_,_,_,h=>h
 |_::_,_,_,_,⟨v,J,b,I,Z,O,Y,X⟩=>⟨v,J,b,I,Z,O,Y.mono H z,c8.mono H z X⟩
def jJ (V:Env)(W:Wit)(st:St)(ks:List (Nat×Nat))(u:List Nat)(k:Nat):Prop:=W.nw k\/V.prot k\/(∃ b∈u,live st b/\W.β b=k)\/∃ x∈ks,k∈W.bs x.1 x.2
theorem kK {W:Wit}{y z:List (Nat×Nat)}{I H:List Nat}(h:∀ x∈y,x∈z)(M:∀ b∈I,b∈H):∀ k,jJ V W st y I k->jJ V W st z H k:=by
 rintro k (u|u|⟨b,J,u⟩|⟨x,O,u⟩)
 ·exact .inl u
 ·exact .inr (.inl u)
 ·exact .inr (.inr (.inl ⟨b,M b J,u⟩))
 ·exact .inr (.inr (.inr ⟨x,h x O,u⟩))
theorem iV {W:Wit}{p q:Bool}{y z:List (Nat×Nat)}(H:p=true->q=true)(h:∀ x∈y,x∈z):∀ k,bj V W p y k->bj V W q z k:=by
 rintro k (u|⟨x,I,u⟩)
 ·exact .inl (bU (W':=W) H (λ_ h=>h) k u)
 ·exact .inr ⟨x,h x I,u⟩
theorem gA {agg:Bool}{v:Value}{cs:List Value}(h:ee (bg agg) v cs):da agg v cs:=by
 cases agg <;> exact h
theorem na {W:Wit}{a:Act}{w:World}(h:aq P V W st a w){l:Leaf}{ls:List Leaf}{v:Value}(hl:aK P V W st w [] l v)(y:target st l=some ls)(ks:List (Nat×Nat))(O:List Nat)(M:∀ b∈fe [l],b∈O) :
  ∃ g o cs,v=.pointer (some ⟨g,o,none⟩)/\jJ V W st ks O g/\aD P V W st w ls cs/\cV w g o cs:=by
 unfold target at y;split at y
 ·rename_i b;cases X:decide ((st b).sh=.agg) with
  |false=>simp[X]at y
  |true =>
   simp only[X,cond_true,BA]at y;subst y;obtain⟨hB,J,z⟩:=hl;rcases h.boxes b hB with ⟨Y,_⟩|⟨_,E,Y⟩
   ·rw[J]at Y;cases Y
   ·exact⟨W.β b,0,W.cs b,z,.inr (.inr (.inl ⟨b,M b (by simp[fe]),⟨hB,J⟩,rfl⟩)),iA h b,λi v z=>by
     rw[CI,cell_of_row w (W.β b) i _ E (0,0) Y];simpa using z⟩
 ·rename_i p a x;simp only[BA]at y;subst y;obtain⟨g,Z,c,z,hg,I,hc⟩:=hl;rw[B7]at z;exact⟨g,Z,c,z,hg.elim .inl (λh=>.inr (.inl h)),eT (λ_ h=>h) I,hc⟩
 ·rename_i p a x;simp only[BA]at y;subst y;obtain⟨b,ob,g,Z,c,z,X,H,hg,I,hc⟩:=hl;refine⟨b,ob,[.pointer (some ⟨g,Z,none⟩)],z,X.elim .inl (λh=>.inr (.inl h)),⟨⟨⟨g,Z,c,rfl,hg,I,hc⟩,id,rfl⟩,trivial⟩,λi u hi=>?_⟩;cases i with
  |zero=>simp at hi;subst hi;exact H
  |succ i=>simp at hi
 ·cases y
theorem gR {W:Wit}{w:World}{x:aI×List Leaf}{l:Leaf}{v:Value}{cs:List Value}(y:ee x.1 v cs)(z:aD P V W st w x.2 cs)(u:cn x=l)(H:l≠.dead) :
  aK P V W st w [] l v/\v.oneCell'=true:=by
 unfold cn at u;split at u
 ·rename_i I;subst u;have y:cs=[v]:=y;subst y;exact⟨z.1.1,z.1.2.2⟩
 ·exact absurd u.symm H
theorem nc {W:Wit}{a:Act}{w:World}(h:aq P V W st a w){c:Bool×Ty}{l:Leaf}{v:Value}(hl:aK P V W st w [] l v){g:Got c.2.den}(H:ff st c l=some g) :
  gQ w (bj V W g.p g.frz) (jJ V W st g.frz g.see) c.1 c.2 g.val v/\(∀ z∈g.frz,aC st z)/\g.kill=[]/\g.lend=[]:=by
 unfold ff at H;cases hc:c.1 with
 |true =>
  rw[hc]at H;simp only[cond_true]at H;split at H
  ·rename_i l' ht;split at H
   ·rename_i Z a2;simp only[BB]at H;obtain⟨⟨p,y⟩,hy,rfl⟩:=H;obtain⟨g,o',cs,hv,Y,I,X⟩:=na h hl ht (bu st Z) (fe [l,l']) (λb M=>by
     cases l <;> simp[fe]at M ⊢ <;> exact .inl M)
    match cs,I with
    |[u],I =>
     obtain⟨g2,o2,a3,a0,a4,O,a1⟩:=na h I.1.1 a2 (bu st Z) (fe [l,l']) (λb M=>by
      cases l <;> cases l' <;> simp[fe]at M ⊢ <;> first|exact M|exact .inr M)
     have J:=X 0 u rfl;rw[B7,a0]at J;refine⟨?_,λz hz=>ek O hz,rfl,rfl⟩;unfold gQ;rw[if_pos rfl];exact⟨g,o',g2,o2,a3,hv,Y,J,a4,ez h O hy,a1⟩
   ·cases H
  ·cases H
 |false =>
  rw[hc]at H;simp only[cond_false]at H;split at H
  ·rename_i Z ht;simp only[BB]at H;obtain⟨⟨p,y⟩,hy,rfl⟩:=H;obtain⟨g,o',cs,hv,Y,I,X⟩:=na h hl ht (bu st Z) (fe [l]) (λb M=>M);refine⟨?_,λz hz=>ek I hz,rfl,rfl⟩;unfold gQ;rw[if_neg (by simp)];exact⟨g,o',cs,hv,Y,ez h I hy,X⟩
  ·cases H
theorem mm {W:Wit}{a:Act}{w:World}(h:aq P V W st a w):∀ {cs:List (Bool×Ty)} {ls:List Leaf} {us:List Value} {g:Got (lG cs)},aD P V W st w ls us->cB st cs ls=some g ->
  jA w (bj V W g.p g.frz) (jJ V W st g.frz g.see) cs g.val us/\(∀ z∈g.frz,aC st z)/\g.kill=[]/\g.lend=[]
 |[],[],us,g,J,y=>by
  simp only[cB,BA]at y;subst y;cases us with
  |nil=>exact⟨rfl,by simp,rfl,rfl⟩
  |cons=>exact J.elim
 |[],_::_,_,_,_,y=>by simp[cB]at y
 |_::_,[],_,_,_,y=>by simp[cB]at y
 |c::cs,l::ls,us,g,J,y=>by
  cases us with
  |nil=>exact J.elim
  |cons u us =>
   simp only[cB]at y;split at y
   ·rename_i g1 M;split at y
    ·rename_i g2 O;simp only[BA]at y;subst y;obtain⟨Z,Y,h3,h4⟩:=nc h J.1.1 M;obtain⟨h5,h6,h7,h8⟩:=mm h J.2 O;refine⟨⟨u,us,rfl,Z.carry (λk I=>⟨iV (by intro h;simp[h]) (λx H=>BJ _ H) k I,rfl⟩) (λk I=>⟨kK (λx H=>BJ _ H) (λx H=>BJ _ H) k I,rfl⟩),
      h5.carry (λk I=>⟨iV (by intro h;simp[h]) (λx H=>BE _ H) k I,rfl⟩) (λk I=>⟨kK (λx H=>BE _ H) (λx H=>BE _ H) k I,rfl⟩)⟩,?_,rfl,rfl⟩
     intro z X;exact (BL.1 X).elim (Y z) (h6 z)
    ·cases y
   ·cases y
theorem wb {W:Wit}{w:World}{c:Bool×Bool×(a:Ty)×a.den}{v:Value}(h:iM V W w c v):aK P V W st w [] (eM c) v/\¬ ap (eM c)/\v.oneCell'=true:=by
 unfold iM at h;unfold eM;split at h
 ·rename_i u;rw[u];refine⟨h,id,?_⟩;obtain⟨b,I,g,z,H,y,_⟩:=h;rw[y];rfl
 ·rename_i u;have u:c.2.1=false:=by simpa using u
  rw[u];refine⟨h,id,?_⟩;obtain⟨g,z,H,y,_⟩:=h;rw[y];rfl
theorem qD {W:Wit}{w:World}{caps:List (Bool×Bool×(a:Ty)×a.den)}{us:List Value}(z:us.length=caps.length)(h:∀ (i:Nat) (c:Bool×Bool×(a:Ty)×a.den) (u:Value),caps[i]?=some c->us[i]?=some u->iM V W w c u) :
  aD P V W st w (caps.map eM) us :=
 aD.mk (by simp[z]) λj l v y H=>by
  rw[List.getElem?_map,BB]at y;obtain⟨c,I,rfl⟩:=y;exact wb (h j c v I H)
theorem p6 {W:Wit}{w:World}:∀ (caps:List Nat),(∀ b∈caps,B0<=b/\(st b).sh=.agg)->aD P V W st w (caps.map λb=>Leaf.bp b 0) (caps.map λb=>Value.pointer (some ⟨W.β b,0,none⟩))
 |[],_=>trivial
 |b::caps,h=>⟨⟨⟨(h b (BW ..)).1,(h b (BW ..)).2,rfl⟩,id,rfl⟩,p6 caps (λq u=>h q (BP _ u))⟩
theorem nd {off:Nat}{E:TypeId}{e:Ty}{X:List e.den}:∀ {a:Ty} {pos:Nat} {x z:a.den},bM off E e X a pos x=some z->(∃ y,bd off a pos x=some ⟨E,e,y⟩)/\bd off a pos z=some ⟨E,e,X⟩
 |.pair a b,pos,x,z,h=>by
  simp only[bM]at h;split at h
  ·rename_i u J;simp only[BA]at h;subst h;obtain⟨⟨y,O⟩,M⟩:=nd J;exact⟨⟨y,by simp only[bd,O]⟩,by simp only[bd,M]⟩
  ·rename_i hn;simp only[BB]at h;obtain⟨u,J,rfl⟩:=h;have Y:=Mx.back.set_in J;obtain⟨⟨y,O⟩,M⟩:=nd J;have H:bd off a pos x.1=none:=by
    cases Z:bd off a pos x.1 with
    |none=>rfl
    |some u=>have:=gy Z;omega
   exact⟨⟨y,by simp only[bd,H,O]⟩,by simp only[bd,H,M]⟩
 |.list m E' e',pos,xs,z,h=>by
  simp only[bM]at h;cases I:m&&BT pos off with
  |false=>simp[I]at h
  |true =>
   rw[I]at h;simp only[cond_true]at h;obtain⟨rfl,rfl,rfl⟩:=jE h;exact⟨⟨xs,by simp[bd,I]⟩,by simp[bd,I]⟩
 |.int _,_,_,_,h=>by simp[bM]at h
 |.bool,_,_,_,h=>by simp[bM]at h
 |.str,_,_,_,h=>by simp[bM]at h
 |.unit,_,_,_,h=>by simp[bM]at h
 |.hdr,_,_,_,h=>by simp[bM]at h
theorem Mx.refill {w:World}{G:Nat->Prop}{off:Nat}{E:TypeId}{e:Ty}{ys:List e.den}{u:Value}(Y:u.oneCell'=true):∀ {a:Ty} {pos:Nat} {x z:a.den} {cs:List Value} {bs:List Nat},Mx w G a (some off) pos x cs bs->bM off E e ys a pos x=some z ->
  Mx w G a (some off) pos z (cs.set (off-pos) u) bs
 |.pair a b,pos,x,z,cs,bs,⟨c1,c2,b1,b2,e1,Z,O,M⟩,h=>by
  have hl:=O.len;simp only[bM]at h;split at h
  ·rename_i y J;simp only[BA]at h;subst h;have X:=Mx.back.set_in J;refine⟨c1.set (off-pos) u,c2,b1,b2,?_,Z,Mx.refill Y O J,M⟩;rw[e1,List.set_append_left _ _ (by omega)]
  ·simp only[BB]at h;obtain⟨y,J,rfl⟩:=h;have X:=Mx.back.set_in J;refine⟨c1,c2.set (off-(pos+a.cells)) u,b1,b2,?_,Z,O,Mx.refill Y M J⟩;rw[e1,List.set_append_right _ _ (by omega),hl,show off-pos-a.cells=off-(pos+a.cells) by omega]
 |.list m E' e',pos,xs,z,cs,bs,H,h=>by
  simp only[bM]at h;cases I:m&&BT pos off with
  |false=>simp[I]at h
  |true =>
   simp only[BC]at I;obtain⟨rfl,I⟩:=I;have I:=BI I;subst I;rw[iZ]at H ⊢;obtain⟨v,rfl,O,M⟩:=H;exact⟨u,by simp,Y,M⟩
 |.int _,_,_,_,_,_,_,h=>by simp[bM]at h
 |.bool,_,_,_,_,_,_,h=>by simp[bM]at h
 |.str,_,_,_,_,_,_,h=>by simp[bM]at h
 |.unit,_,_,_,_,_,_,h=>by simp[bM]at h
 |.hdr,_,_,_,_,_,_,h=>by simp[bM]at h
theorem aD.setNil {W:Wit}{w:World}{ls:List Leaf}{cs:List Value}(I:aD P V W st w ls cs)(c:Nat):aD P V W st w (aT ls c .nil) (cs.set c (.slice none 0 0)):=by
 have y:=I.length;refine aD.mk (by simp[aT,y]) λj l v H u=>?_
 rcases aR _ _ _ _ _ H with ⟨rfl,rfl,J⟩|⟨z,H⟩
 ·rw[CO (by omega)]at u;simp only[BA]at u;subst u;exact⟨rfl,id,rfl⟩
 ·rw[CG (CH z)]at u;exact I.at_ j l v H u
def wc (P:Program)(V:Env)(W:Wit)(st:St)(w:World)(pk:PK)(v:Value)(g:Got pk.den):Prop :=
 (∃ u,nR P w (bj V W g.p g.frz) (jJ V W st g.frz g.see) pk g.val v u/\u=g.lend.map W.β++aX W g.kill)/\(∀ z∈g.frz,aC st z)/\(∀ z∈g.kill,aC st z)/\(∀ b∈g.lend,live st b)
theorem ne (hV:ay V){W:Wit}{a:Act}{w:World}(h:aq P V W st a w){pk:PK}{x:aI×List Leaf}{v:Value}{cs:List Value}(hs:ee x.1 v cs)(hl:aD P V W st w x.2 cs)
  {g:Got pk.den} (u:bf st pk x=some g):wc P V W st w pk v g:=by
 obtain⟨sh,ls⟩:=x;have Y:∀ {b:Ty} {g:Got b.den},(bif decide (sh=bg b.isAgg) then (ci st b ls).map (λt=>(⟨t.p,t.val,t.frz,t.kill,[],[]⟩:Got b.den)) else none)=some g ->
   (∃ cs,da b.isAgg v cs/\Mx w (bj V W g.p g.frz) b none 0 g.val cs (aX W g.kill))/\g.lend=[]/\g.see=[]/\(∀ z∈g.frz,aC st z)/\(∀ z∈g.kill,aC st z):=by
  intro b g hq;cases I:decide (sh=bg b.isAgg) with
  |false=>simp[I]at hq
  |true =>
   rw[I]at hq;simp only[cond_true,BB]at hq;have O:=of_decide_eq_true I;subst O;obtain⟨t,ht,rfl⟩:=hq;obtain⟨M,J,X⟩:=dO (pos:=0) h hl ht;exact⟨⟨cs,gA hs,M⟩,rfl,rfl,J,X⟩
 cases pk with
 |rd b =>
  simp only[bf]at u;cases I:decide (sh=bg b.isAgg) with
  |false=>simp[I]at u
  |true =>
   rw[I]at u;simp only[cond_true,BB]at u;have O:=of_decide_eq_true I;subst O;obtain⟨⟨p,y⟩,hy,rfl⟩:=u;exact⟨⟨[],⟨rfl,cs,gA hs,ez h hl hy⟩,rfl⟩,λz hz=>ek hl hz,by simp[Got.ofRd],by simp[Got.ofRd]⟩
 |own b =>
  obtain⟨M,J,X,Z,h5⟩:=Y u;exact⟨⟨_,M,by rw[J];rfl⟩,Z,h5,by rw[J];simp⟩
 |io b =>
  obtain⟨M,J,X,Z,h5⟩:=Y u;exact⟨⟨_,M,by rw[J];rfl⟩,Z,h5,by rw[J];simp⟩
 |iop b =>
  simp only[bf]at u;split at u
  ·rename_i q hx;cases I:decide ((st q).sh=.agg) with
   |false=>simp[I]at u
   |true =>
    simp only[I,cond_true,BB]at u;obtain⟨t,ht,rfl⟩:=u;obtain⟨H,hv⟩:=gR hs hl hx (by simp);obtain⟨hB,a5,ab⟩:=H;rcases h.boxes q hB with ⟨h8,_⟩|⟨_,E,h8⟩
    ·rw[a5]at h8;cases h8
    ·obtain⟨M,J,X⟩:=dO (pos:=0) h (iA h q) ht;exact⟨⟨_,⟨W.β q,W.cs q,E,_,ab,h8,M,rfl⟩,rfl⟩,J,X,λb' O=>by simp at O;subst O;exact⟨hB,a5⟩⟩
  ·cases u
 |rref b =>
  simp only[bf]at u;have hd:cn (sh,ls)≠.dead:=by
   intro e;rw[e]at u;simp[ff,target]at u
  obtain⟨H,hv⟩:=gR hs hl rfl hd;obtain⟨M,J,X,Z⟩:=nc (c:=(false,b)) h H u;exact⟨⟨[],⟨rfl,M⟩,by rw[X,Z];rfl⟩,J,by rw[X];simp,by rw[Z];simp⟩
 |rref2 b =>
  simp only[bf]at u;have hd:cn (sh,ls)≠.dead:=by
   intro e;rw[e]at u;simp[ff,target]at u
  obtain⟨H,hv⟩:=gR hs hl rfl hd;obtain⟨M,J,X,Z⟩:=nc (c:=(true,b)) h H u;exact⟨⟨[],⟨rfl,M⟩,by rw[X,Z];rfl⟩,J,by rw[X];simp,by rw[Z];simp⟩
 |fn As B =>
  simp only[bf]at u;split at u
  ·rename_i As' B' φ hx;obtain⟨H,hv⟩:=gR hs hl hx (by simp);split at u
   ·rename_i hh;obtain⟨rfl,rfl⟩:=hh;simp only[BA]at u;subst u;have hf:ic P V.w0 V.prot As' B' φ v:=H;exact⟨⟨[],⟨rfl,ic.move h.size (λk hk=>⟨.inr (.inl hk),h.keep k hk⟩) hf⟩,rfl⟩,by simp,by simp,by simp⟩
   ·cases u
  ·cases u
 |clo f b9 =>
  simp only[bf]at u;split at u
  ·rename_i f' a2 hx;cases I:BT f' f with
   |false=>simp[I]at u
   |true =>
    simp only[I,cond_true]at u;have I:=BI I;subst I;obtain⟨H,hv⟩:=gR hs hl hx (by simp);obtain⟨M,J⟩:=H;obtain⟨X,Z,h5,h6⟩:=mm h (p6 a2 J) u;exact⟨⟨[],⟨rfl,_,M,X⟩,by rw[h5,h6];rfl⟩,Z,by rw[h5];simp,by rw[h6];simp⟩
  ·rename_i f' a2 hx;cases I:BT f' f with
   |false=>simp[I]at u
   |true =>
    simp only[I,cond_true]at u;have I:=BI I;subst I;obtain⟨H,hv⟩:=gR hs hl hx (by simp);obtain⟨us,M,J,h7⟩:=H;obtain⟨X,Z,h5,h6⟩:=mm h (qD J h7) u;exact⟨⟨[],⟨rfl,us,M,X⟩,by rw[h5,h6];rfl⟩,Z,by rw[h5];simp,by rw[h6];simp⟩
  ·cases u
 |hol b c off =>
  simp only[bf]at u;cases I:decide (sh=bg b.isAgg) with
  |false=>simp[I]at u
  |true =>
   rw[I]at u;simp only[cond_true]at u;have O:=of_decide_eq_true I;subst O;split at u
   ·rename_i r' j n a0;split at u
    ·rename_i p i o' E e xs hd;cases a1:BT o' off with
     |false=>simp[a1]at u
     |true =>
      rw[a1]at u;simp only[cond_true]at u;have a1:=BI a1;subst a1;split at u
      ·rename_i t ht;split at u
       ·rename_i y hy;simp only[BA]at u;subst u;have a9:ls[c]?=some (.al r' j n):=by
         rw[B6]at a0;cases hq:ls[c]? with
         |none=>rw[hq]at a0;simp at a0
         |some l0=>rw[hq]at a0;simp at a0;rw[a0]
        have a4:c<cs.length:=by rw[<- hl.length];exact (BD.1 a9).1
        have a3:=BS a4;obtain⟨H,_,a6⟩:=hl.at_ c _ _ a9 a3;obtain⟨_,b1,b4,_⟩:=ke h hd H;obtain⟨M,J,X⟩:=dO (pos:=0) h (hl.setNil c) ht;obtain⟨⟨bb,ad⟩,b3⟩:=nd hy;obtain⟨v0,bn,b0,g1,g2,g3,g4⟩:=M.out ad;have b2:bn=[]:=by
         simp only[Ci,CO a4,BA]at g2;obtain⟨b5,b6,q1,q2,_⟩:=g1;obtain⟨A,ba,q4,_⟩:=q1.slice;rw[<- g2]at q2 q4;simp only[Bx]at q4;rw[q2,<- q4.2.1];rfl
        have g5:=Mx.refill a6 g3 hy;simp only[Ci,List.set_set,List.set_getElem_self]at g5;refine⟨⟨_,⟨cs,cs[c],b0,W.bs r' j,E,e,xs,gA hs,g5.mono (iV (by intro h;simp[h]) (λ_ h=>h)),a3,b3,
         b1.2.carry (λk hk=>.inl (bU (W':=W) (by intro h;simp[h]) (λ_ h=>h) k hk)) (λ_ _=>rfl) (λ_ _=>rfl),λk=>?_⟩,rfl⟩,J,?_,by simp⟩
        ·have:=g4 k;rw[b2]at this;simp only[C0,DO];rw[show aX W ((r',j)::t.kill)=W.bs r' j++aX W t.kill from rfl,BF,this];simp;omega
        ·intro z hz;rcases CJ.1 hz with rfl|hz
         ·exact⟨_,b4,trivial⟩
         ·exact X z hz
       ·cases u
      ·cases u
    ·cases u
   ·cases u
end
section
variable {P:Program} {V:Env} {Γ:List Ctr} {T:TypeId->TI} {st:St} {o:Oper} {R:Type} {κ:Upd->Option R} {r:R}
def gT (P:Program)(V:Env)(W:Wit)(st:St)(w:World):List (aI×List Leaf)->List Value->Prop
 |[],y=>y=[]
 |x::H,y=>∃ v u z,y=v::u/\ee x.1 v z/\aD P V W st w x.2 z/\gT P V W st w H u
theorem kq {W:Wit}{w:World}{ga:(pk:PK)->aI×List Leaf->Option (Got pk.den)}
  (H:∀ (pk:PK) (x:aI×List Leaf) (v:Value) (cs:List Value) (g:Got pk.den),ee x.1 v cs->aD P V W st w x.2 cs->ga pk x=some g->wc P V W st w pk v g) :
  ∀ (ps:List PK) (xs:List (aI×List Leaf)) (X:List Value) (g:Got (ac ps)),gT P V W st w xs X->a8 ga ps xs=some g ->
   (∃ I,c8 P w (bj V W g.p g.frz) (jJ V W st g.frz g.see) ps g.val X I/\∀ k,I.flatten.count k=(g.lend.map W.β).count k+(aX W g.kill).count k) /\
    (∀ z∈g.frz,aC st z)/\(∀ z∈g.kill,aC st z)/\(∀ b∈g.lend,live st b)
 |[],[],X,g,u,y=>by
  simp only[a8,BA]at y;subst y;exact⟨⟨[],⟨u,rfl⟩,λk=>by simp[aX]⟩,by simp,by simp,by simp⟩
 |[],_::_,_,_,_,y=>by simp[a8]at y
 |_::_,[],_,_,_,y=>by simp[a8]at y
 |p::ps,x::xs,X,g,u,y=>by
  obtain⟨v,O,cs,rfl,hs,hl,J⟩:=u;simp only[a8]at y;split at y
  ·rename_i g1 Y;split at y
   ·rename_i g2 a0;simp only[BA]at y;subst y;obtain⟨⟨b,h1,h2⟩,h3,h4,h5⟩:=H p x v cs g1 hs hl Y;obtain⟨⟨I,h6,h7⟩,h8,h9,Z⟩:=kq H ps xs O g2 J a0;refine⟨⟨b::I,⟨v,O,b,I,rfl,rfl,h1.mono (iV (by intro h;simp[h]) (λx u=>BJ _ u)) (kK (λx u=>BJ _ u) (λx u=>BJ _ u)),
     h6.mono (iV (by intro h;simp[h]) (λx u=>BE _ u)) (kK (λx u=>BE _ u) (λx u=>BE _ u))⟩,λk=>?_⟩,?_,?_,?_⟩
    ·rw[BX,BF,h7 k,h2,BF,DK,BF,dI,BF];omega
    ·intro z M;exact (BL.1 M).elim (h3 z) (h8 z)
    ·intro z M;exact (BL.1 M).elim (h4 z) (h9 z)
    ·intro z M;exact (BL.1 M).elim (h5 z) (Z z)
   ·cases y
  ·cases y
theorem nf:∀ {Γ:List Ctr} {f:FuncId} {c:Ctr},lH Γ f=some c->c∈Γ/\c.f=f
 |[],_,_,h=>by simp[lH]at h
 |y::Γ,f,c,h=>by
  simp only[lH]at h;cases u:BT y.f f with
  |true =>
   simp only[u,cond_true,BA]at h;subst h;exact⟨BW ..,BI u⟩
  |false =>
   simp only[u,cond_false]at h;obtain⟨H,z⟩:=nf h;exact⟨BP _ H,z⟩
theorem tu {w:World}{G pr:Nat->Prop}{q:List PK}{z:ac q}{cv:List Value}{H:List (List Nat)}(J:c8 P w G pr q z cv H):∀ (y:List Ty) (x:Tup y) (u:List Value),rY w G y x u ->
  c8 P w G pr (y.map .rd++q) (nE q z y x) (u++cv) (y.map (λ_=>[])++H)
 |[],_,_,h=>by rw[show _=_ from h];exact J
 |a::y,x,_,⟨v,c,I,rfl,O,M,X⟩=>⟨v,I++cv,[],_,rfl,rfl,⟨rfl,c,O,M⟩,tu J y x.2 I X⟩
theorem p7 {w:World}{ro pr:Nat->Prop}:∀ {ps:List PK} {x:ac ps} {z:List Value} {u:List (List Nat)},ps.all PK.reads=true->c8 P w ro pr ps x z u->u.flatten=[]
 |[],_,_,_,_,⟨_,e⟩=>by rw[e];rfl
 |p::ps,_,_,_,h,⟨v,J,b,y,_,e,I,H⟩=>by
  simp only[Cx,BC]at h;rw[e,BX,p7 h.2 H,Br];cases p <;> first|exact I.1|simp[PK.reads]at h
theorem p8 {w w1:World}{ro pr ro' z:Nat->Prop}(u:∀ k,ro k->ro' k/\w1.heap[k]?=w.heap[k]?)(y:∀ k,pr k->z k/\w1.heap[k]?=w.heap[k]?):∀ {ps:List PK} {x:ac ps} {Y:List Value} {I:List (List Nat)},
  ps.all PK.reads=true->c8 P w ro pr ps x Y I->c8 P w1 ro' z ps x Y I
 |[],_,_,_,_,h=>h
 |p::ps,x,_,_,O,⟨v,X,b,J,e,e2,H,h2⟩=>by
  simp only[Cx,BC]at O;refine⟨v,X,b,J,e,e2,?_,p8 u y O.2 h2⟩;cases p with
  |rd a =>
   obtain⟨Z,cs,h3,h4⟩:=H;exact⟨Z,cs,h3,h4.carry (λk M=>(u k M).1) (λk M=>(u k M).2)⟩
  |rref a=>exact⟨H.1,H.2.carry u y⟩
  |rref2 a=>exact⟨H.1,H.2.carry u y⟩
  |_=>simp[PK.reads]at O
theorem mn (z:ay V){W:Wit}{p:Bool}{ks:List (Nat×Nat)}{y:List Nat}:∀ k,bj V W p ks k->jJ V W st ks y k:=by
 rintro k ((u|⟨_,u⟩)|u)
 ·exact .inl u
 ·exact .inr (.inl (z.ro k u))
 ·exact .inr (.inr (.inr u))
theorem rq {W:Wit}{ks:List (Nat×Nat)}{y:List Nat}(H:∀ z∈ks,aC st z):∀ k,jJ V W st ks y k->cf V W st k:=by
 rintro k (u|u|⟨b,_,M,e⟩|⟨x,O,u⟩)
 ·exact .inl u
 ·exact .inr (.inl u)
 ·exact .inr (.inr (.inl ⟨b,M,e⟩))
 ·obtain⟨l,J,I⟩:=H x O;exact .inr (.inr (.inr ⟨x.1,x.2,l,J,I,u⟩))
theorem se {W:Wit}{w:World}:∀ {ls:List Leaf} {us:List Value},aD P V W st w ls us->gT P V W st w (ls.map λl=>(aI.one,[l])) us
 |[],[],_=>rfl
 |_::_,_::_,h=>⟨_,_,[_],rfl,rfl,⟨h.1,trivial⟩,se h.2⟩
theorem xM (hV:ay V)(hΓ:∀ c∈Γ,bP P c){W:Wit}{a:Act}{w:World}(h:aq P V W st a w){X:List Ty}{B:Ty}{f:FuncId}{ls:List Leaf}{us:List Value}{v:Value}(hv:v=.func (.func f) #[] us.toArray)(bx:aD P V W st w ls us)
  {g:Got (Tup X->Option B.den)} (H:ku Γ st X B f ls=some g):ic P w (jJ V W st g.frz g.see) X B g.val v/\(∀ z∈g.frz,aC st z)/\g.kill=[]/\g.lend=[]:=by
 unfold ku at H;split at H
 ·rename_i c hc;obtain⟨a9,rfl⟩:=nf hc;obtain⟨a1,I⟩:=hΓ c a9;obtain⟨f',ps,rs,a2,c6⟩:=c;simp only at H a1 I hv;generalize ps.drop X.length=q at H;unfold rV at H;split at H
  ·rename_i hh;obtain⟨rfl,rfl⟩:=hh;cases hb:q.all PK.reads&&B.flat&&a2 with
   |false=>simp[hb]at H
   |true =>
    simp only[hb,cond_true]at H;simp only[BC]at hb;obtain⟨⟨ab,b4⟩,b3⟩:=hb;subst b3;split at H
    ·rename_i g0 b5;simp only[BA]at H;subst H;obtain⟨⟨a4,h1,h2⟩,h3,h4,h5⟩:=kq (λpk x v cs g hs hl H=>ne hV h hs hl H) q _ _ g0 (se bx) b5;have bn:=p7 ab h1;refine⟨⟨f',us.toArray,hv,a1,λw1 bb Z x J y hx hy=>?_⟩,h3,rfl,rfl⟩;simp only[BB]at hy;obtain⟨y0,ad,rfl⟩:=hy;have M:(X.map (λ_=>([]:List Nat))++a4).flatten=[]:=by
      rw[List.flatten_append,bn,Br];clear hx ad;induction X with
      |nil=>rfl
      |cons a X ih=>simp
     have b1:∀ k,jJ V W st g0.frz g0.see k->k<w1.heap.size:=λk Y=>CB (h.used_lt k (rq h3 k Y)) bb
     have a6:=tu (P:=P) (pr:=λk=>k<w1.heap.size/\k∉(X.map (λ_=>([]:List Nat))++a4).flatten)
      (p8 (P:=P) (w1:=w1) (ro':=λk=>k<w1.heap.size) (λk Y=>⟨b1 k (mn hV k Y),Z k (mn hV k Y)⟩)
       (λk Y=>⟨⟨b1 k Y,by rw[M];simp⟩,Z k Y⟩) ab h1) X x J hx
     have a0:=I w1 (λk=>k<w1.heap.size) (nE q g0.val X x) (J++us) (X.map (λ_=>[])++a4) y0 a6
      (λk Y=>⟨Y,by rw[M];simp⟩) (by rw[M];exact DP) ad
     have a3:J.toArray++us.toArray=(J++us).toArray:=by simp
     rw[a3];refine a0.mono λe w2 a5=>?_
     obtain⟨u,c4,N,c3,c2,rfl,O,b0,bl,b6,ba,b9,_,_,b2,_,_⟩:=a5;obtain⟨u1,c5,b,c1,e1,e2,⟨cs,c0,hm⟩,e3,e4⟩:=b2;subst e3;subst e1;have O:u=u1:=O;subst O;exact⟨u,cs,rfl,c0,jW b4 hm,⟨bl,b6,ba,b0,λk Y=>b9 k Y (by rw[M];simp)⟩⟩
    ·cases H
  ·cases H
 ·cases H
theorem uw (X:ay V)(hΓ:∀ c∈Γ,bP P c){W:Wit}{a:Act}{w:World}(h:aq P V W st a w)(pk:PK)(x:aI×List Leaf)(v:Value)(cs:List Value)(g:Got pk.den)(Z:ee x.1 v cs)(Y:aD P V W st w x.2 cs)
  (H:ce Γ st pk x=some g):wc P V W st w pk v g:=by
 cases pk with
 |fn As B =>
  simp only[ce]at H;split at H
  ·rename_i O z;have M:(∃ u,cn x=.clo O.1 u/\O.2=u.map λb=>Leaf.bp b 0)\/∃ u,cn x=.clr O.1 u/\O.2=u.map eM:=by
    generalize cn x=l at z;cases l <;> simp only[vk,BA,reduceCtorEq]at z
    ·subst z;exact .inl ⟨_,rfl,rfl⟩
    ·subst z;exact .inr ⟨_,rfl,rfl⟩
   rcases M with ⟨u,M,he⟩|⟨u,M,he⟩
   ·obtain⟨y,_⟩:=gR Z Y M (by simp);rw[he]at H;obtain⟨h1,h2,J,I⟩:=xM X hΓ h y.1 (p6 u y.2) H;exact⟨⟨[],⟨rfl,h1⟩,by rw[J,I];rfl⟩,h2,by rw[J];simp,by rw[I];simp⟩
   ·obtain⟨y,_⟩:=gR Z Y M (by simp);rw[he]at H;obtain⟨us,e1,e2,e3⟩:=y;obtain⟨h1,h2,J,I⟩:=xM X hΓ h e1 (qD e2 e3) H;exact⟨⟨[],⟨rfl,h1⟩,by rw[J,I];rfl⟩,h2,by rw[J];simp,by rw[I];simp⟩
  ·exact ne X h Z Y H
 |_=>exact ne X h Z Y H
end
section
variable {P:Program} {V:Env} {W:Wit} {st st':St} {w w':World} {a:Act}
theorem iJ {G:Nat->Prop}{p:Bool}(hG:∀ k,G k->gd V W p k):∀ {b:Ty} {pos:Nat} {x:b.den} {cs:List Value} {bs:List Nat},Mx w G b none pos x cs bs->bs.Nodup ->
  ∃ a0:Nat->List Nat,(ar p b x).length=cs.length /\
   (∀ (j:Nat) (l:Leaf) (u:Value),(ar p b x)[j]?=some l->cs[j]?=some u->aK P V W st w (a0 j) l u) /\
   (∀ (j:Nat) (l:Leaf),(ar p b x)[j]?=some l->ap l->∀ k∈a0 j,k∈bs) /\
   (∀ (j J:Nat) (l l':Leaf),(ar p b x)[j]?=some l->ap l->(ar p b x)[J]?=some l'->ap l'->∀ k,k∈a0 j->k∈a0 J->j=J)
 |.int k,_,x,cs,bs,H,_=>by
  obtain⟨rfl,rfl⟩:=H;exact⟨λ_=>[],rfl,λj l u y R=>by cases j with|zero=>simp[ar]at y R;subst y;subst R;rfl|succ j=>simp[ar]at y,λj l y _ k r=>by simp at r,λj J l l' _ _ _ _ k r=>by simp at r⟩
 |.bool,_,x,cs,bs,H,_=>by
  obtain⟨rfl,rfl⟩:=H;exact⟨λ_=>[],rfl,λj l u y R=>by cases j with|zero=>simp[ar]at y R;subst y;subst R;rfl|succ j=>simp[ar]at y,λj l y _ k r=>by simp at r,λj J l l' _ _ _ _ k r=>by simp at r⟩
 |.str,_,x,cs,bs,H,_=>by
  obtain⟨rfl,rfl⟩:=H;exact⟨λ_=>[],rfl,λj l u y R=>by cases j with|zero=>simp[ar]at y R;subst y;subst R;rfl|succ j=>simp[ar]at y,λj l y _ k r=>by simp at r,λj J l l' _ _ _ _ k r=>by simp at r⟩
 |.unit,_,x,cs,bs,H,_=>by
  obtain⟨rfl,rfl⟩:=H;exact⟨λ_=>[],rfl,λj l u y R=>by simp[ar]at y,λj l y _ k r=>by simp at r,λj J l l' _ _ _ _ k r=>by simp at r⟩
 |.hdr,_,x,cs,bs,H,_=>by
  obtain⟨⟨A,a2,rfl⟩,rfl⟩:=H;exact⟨λ_=>[],rfl,λj l u y R=>by cases j with|zero=>simp[ar]at y R;subst y;subst R;exact⟨A,a2,rfl⟩|succ j=>simp[ar]at y,λj l y _ k r=>by simp at r,λj J l l' _ _ _ _ k r=>by simp at r⟩
 |.pair b c,pos,x,cs,bs,⟨c1,c2,b1,b2,e1,e2,y,R⟩,Y=>by
  subst e1;subst e2;rw[B8]at Y;obtain⟨d1,f1,f2,f3,f4⟩:=iJ hG y Y.1;obtain⟨d2,g1,g2,g3,g4⟩:=iJ hG R Y.2.1;have a4:=cJ p b x.1;have a5:=y.len;have z:∀ (j:Nat) (l:Leaf),(ar p b x.1++ar p c x.2)[j]?=some l->(j<b.cells/\(ar p b x.1)[j]?=some l)\/(b.cells<=j/\(ar p c x.2)[j-b.cells]?=some l):=by
   intro j l I;by_cases O:j<b.cells
   ·rw[BH (by omega)]at I;exact .inl ⟨O,I⟩
   ·rw[BG (by omega),a4]at I;exact .inr ⟨by omega,I⟩
  refine⟨λj=>if j<b.cells then d1 j else d2 (j-b.cells),by simp only[ar,BR];omega,λj l u I hu=>?_,λj l I ho k r=>?_,λj J l l' I ho X Z k r M=>?_⟩
  ·rcases z j l I with ⟨O,I⟩|⟨a3,I⟩
   ·rw[BH (by omega)]at hu;simp only[if_pos O];exact f2 j l u I hu
   ·rw[BG (by omega),a5]at hu;simp only[if_neg (show ¬ j<b.cells by omega)];exact g2 _ l u I hu
  ·rcases z j l I with ⟨O,I⟩|⟨a3,I⟩
   ·simp only[if_pos O]at r;exact BJ _ (f3 j l I ho k r)
   ·simp only[if_neg (show ¬ j<b.cells by omega)]at r;exact BE _ (g3 _ l I ho k r)
  ·rcases z j l I with ⟨O,I⟩|⟨a3,I⟩ <;> rcases z J l' X with ⟨a1,X⟩|⟨a6,X⟩
   ·simp only[if_pos O]at r;simp only[if_pos a1]at M;exact f4 j J l l' I ho X Z k r M
   ·simp only[if_pos O]at r;simp only[if_neg (show ¬ J<b.cells by omega)]at M;exact absurd rfl (Y.2.2 k (f3 j l I ho k r) k (g3 _ l' X Z k M))
   ·simp only[if_neg (show ¬ j<b.cells by omega)]at r;simp only[if_pos a1]at M;exact absurd rfl (Y.2.2 k (f3 J l' X Z k M) k (g3 _ l I ho k r))
   ·simp only[if_neg (show ¬ j<b.cells by omega)]at r;simp only[if_neg (show ¬ J<b.cells by omega)]at M;have:=g4 _ _ l l' I ho X Z k r M;omega
 |.list m E e,pos,xs,cs,bs,H,Y=>by
  cases m with
  |false =>
   rw[cq]at H;obtain⟨rfl,A,a2,rfl,R,h3⟩:=H;refine⟨λ_=>[],rfl,λj l u y h4=>?_,λj l y _ k r=>by simp at r,λj J l l' _ _ _ _ k r=>by simp at r⟩;cases j with
   |zero =>
    simp[ar]at y h4;subst y;subst h4;exact Rd.mono hG (⟨A,a2,rfl,R,h3⟩:Rd w G (.list false E e) xs _)
   |succ j=>simp[ar]at y
  |true =>
   rw[bH (by simp)]at H;obtain⟨v,rfl,hO⟩:=H;refine⟨λ_=>bs,rfl,λj l u y h4=>?_,λj l y _ k r=>r,λj J l l' y _ h3 _ k _ _=>?_⟩
   ·cases j with
    |zero =>
     simp[ar]at y h4;subst y;subst h4;exact⟨Y,OwB.shy (hO.carry hG (λ_ _=>rfl) (λ_ _=>rfl))⟩
    |succ j=>simp[ar]at y
   ·have h7:j<1:=by simpa[ar]using (BD.1 y).1
    have h8:J<1:=by simpa[ar]using (BD.1 h3).1
    omega
theorem aq.reown (hV:ay V)(h:aq P V W st a w)(r:Nat)(c:bT)(M:Nat->List Nat)(a4:(st r).ver<c.ver)(a1:c.sh=(st r).sh)(Y:c.ls.length=(st r).ls.length)
  (a2:∀ (j:Nat) (l:Leaf) (v:Value),c.ls[j]?=some l->(W.cs r)[j]?=some v->aK P V W st w (M j) l v)
  (Z:∀ (j:Nat) (l:Leaf),c.ls[j]?=some l->ap l->∀ k∈M j,¬ W.nw k/\¬ V.prot k/\(∀ b,live st b->W.β b≠k) /\
   ∀ (r1 j1:Nat) (l1:Leaf),r1≠r->(st r1).ls[j1]?=some l1->ap l1->k∉W.bs r1 j1)
  (a3:∀ (j j':Nat) (l l':Leaf),c.ls[j]?=some l->ap l->c.ls[j']?=some l'->ap l'->∀ k,k∈M j->k∈M j'->j=j') :
  aq P V { W with bs:=λr' j=>if r'=r then M j else W.bs r' j } (ae [(r,c)] st) a w:=by
 have I:∀ b,live (ae [(r,c)] st) b<->live st b:=by
  intro b;rcases an r b c st with ⟨rfl,e⟩|⟨_,e⟩
  ·simp[live,e,a1]
  ·simp[live,e]
 have a0:cF V W { W with bs:=λr' j=>if r'=r then M j else W.bs r' j } st (ae [(r,c)] st) w w:=by
  refine⟨λq=>?_,λb R=>⟨(I b).2 R,rfl⟩,λ_ h=>h,λ_ _=>rfl,λ_ q j' l' O h4 h5=>?_⟩
  ·rcases an r q c st with ⟨rfl,e⟩|⟨y,e⟩
   ·rw[e];exact⟨Nat.le_of_lt a4,λ_=>rfl⟩
   ·rw[e];exact⟨BU _,λ_=>rfl⟩
  ·rcases an r q c st with ⟨rfl,e⟩|⟨y,e⟩
   ·rw[e]at h5;omega
   ·rw[e]at O;exact⟨⟨l',O,h4⟩,by simp[y],λ_ _=>rfl⟩
 exact {
  nt:=h.nt,df:=h.df
  slots:=λt ht=>by
   rcases an r t c st with ⟨rfl,e⟩|⟨_,e⟩
   ·rw[e,a1];exact h.slots t ht
   ·rw[e];exact h.slots t ht
  boxes:=λb R=>by
   rcases an r b c st with ⟨rfl,e⟩|⟨_,e⟩
   ·rw[e,a1];rcases h.boxes b R with ⟨h1,z⟩|h1
    ·refine .inl ⟨h1,?_⟩;rw[z]at Y;exact BV Y
    ·exact .inr h1
   ·rw[e];exact h.boxes b R
  len:=λq=>by
   rcases an r q c st with ⟨rfl,e⟩|⟨_,e⟩
   ·rw[e,Y];exact h.len q
   ·rw[e];exact h.len q
  one:=h.one
  leaf:=λq j l u z O=>by
   rcases an r q c st with ⟨rfl,e⟩|⟨y,e⟩
   ·rw[e]at z;exact (a2 j l u z O).carry hV.ro a0 (λ_=>⟨by simp,λ_ _=>rfl⟩)
   ·rw[e]at z;exact (h.leaf q j l u z O).carry hV.ro a0 (λ_=>⟨by simp[y],λ_ _=>rfl⟩)
  ownb:=λq j l z O k J=>by
   rcases an r q c st with ⟨rfl,e⟩|⟨y,e⟩
   ·rw[e]at z;simp only[if_true]at J;have:=Z j l z O k J;exact⟨this.1,this.2.1,λb R=>this.2.2.1 b ((I b).1 R)⟩
   ·rw[e]at z;simp only[y,if_false]at J;have:=h.ownb q j l z O k J;exact⟨this.1,this.2.1,λb R=>this.2.2 b ((I b).1 R)⟩
  sep:=λq j l q' j' l' z O h4 h5 k J H=>by
   rcases an r q c st with ⟨e0,e⟩|⟨y,e⟩ <;> rcases an r q' c st with ⟨e1,e'⟩|⟨X,e'⟩
   ·rw[e]at z;rw[e']at h4;simp only[e0,if_true]at J;simp only[e1,if_true]at H;exact⟨e0.trans e1.symm,a3 j j' l l' z O h4 h5 k J H⟩
   ·rw[e]at z;rw[e']at h4;simp only[e0,if_true]at J;simp only[X,if_false]at H;exact absurd H ((Z j l z O k J).2.2.2 q' j' l' X h4 h5)
   ·rw[e]at z;rw[e']at h4;simp only[y,if_false]at J;simp only[e1,if_true]at H;exact absurd J ((Z j' l' h4 h5 k H).2.2.2 q j l y z O)
   ·rw[e]at z;rw[e']at h4;simp only[y,if_false]at J;simp only[X,if_false]at H;exact h.sep q j l q' j' l' z O h4 h5 k J H
  box:=λb R=>h.box b ((I b).1 R)
  inj:=λb b' R a5=>h.inj b b' ((I b).1 R) ((I b').1 a5)
  nwlt:=h.nwlt
  os:=h.os,tape:=h.tape,output:=h.output,size:=h.size,keep:=h.keep
  fixb:=λx hx=>⟨(I _).2 (h.fixb x hx).1,(h.fixb x hx).2⟩
  fixt:=h.fixt }
theorem aq.reownE (hV:ay V)(h:aq P V W st a w)(r:Nat)(c:bT)(M:Nat->List Nat)(a5:r≠EPO)(a3:(st r).ver<=c.ver)(a9:c.sh=(st r).sh)(a4:c.ls.length=(st r).ls.length)
  (a0:∀ (j:Nat) (l:Leaf) (v:Value),c.ls[j]?=some l->(W.cs r)[j]?=some v->aK P V W st w (M j) l v)
  (X:∀ (j:Nat) (l:Leaf),c.ls[j]?=some l->ap l->∀ k∈M j,¬ W.nw k/\¬ V.prot k/\(∀ b,live st b->W.β b≠k) /\
   ∀ (r1 j1:Nat) (l1:Leaf),r1≠r->(st r1).ls[j1]?=some l1->ap l1->k∉W.bs r1 j1)
  (a2:∀ (j j':Nat) (l l':Leaf),c.ls[j]?=some l->ap l->c.ls[j']?=some l'->ap l'->∀ k,k∈M j->k∈M j'->j=j') :
  aq P V { W with bs:=λr' j=>if r'=r then M j else W.bs r' j } (ae [(r,c),(EPO,bV (st EPO))] st) a w /\
   (∀ q,(ae [(r,c),(EPO,bV (st EPO))] st q).sh=(st q).sh/\(st q).ver<=(ae [(r,c),(EPO,bV (st EPO))] st q).ver/\(q≠r->(ae [(r,c),(EPO,bV (st EPO))] st q).ls=(st q).ls))/\ae [(r,c),(EPO,bV (st EPO))] st r=c:=by
 have e0:ae [(r,c),(EPO,bV (st EPO))] st=ae [(r,c)] (ae [(EPO,bV (st EPO))] st):=aP _ _ _ _;generalize hS:ae [(r,c),(EPO,bV (st EPO))] st=S;rw[e0]at hS;have hr:S r=c:=by rw[<- hS,bh]
 have O:∀ q,(S q).sh=(st q).sh/\(st q).ver<=(S q).ver/\(q≠r->(S q).ls=(st q).ls):=by
  intro q;rw[<- hS];rcases an r q c (ae [(EPO,bV (st EPO))] st) with ⟨rfl,e⟩|⟨ab,e⟩
  ·rw[e];exact⟨a9,a3,λh=>absurd rfl h⟩
  ·rw[e];rcases an EPO q (bV (st EPO)) st with ⟨rfl,e⟩|⟨_,e⟩ <;> rw[e]
   ·exact⟨rfl,DG _,λ_=>rfl⟩
   ·exact⟨rfl,BU _,λ_=>rfl⟩
 have hE:(st EPO).ver<(S EPO).ver:=by
  rw[<- hS,aJ (CH a5),bh];exact BM _
 refine⟨?_,O,hr⟩;have I:∀ b,live S b<->live st b:=λb=>by simp[live,(O b).1]
 have Y:cF V W { W with bs:=λr' j=>if r'=r then M j else W.bs r' j } st S w w :=
  ⟨λq=>⟨(O q).2.1,λ_=>rfl⟩,λb R=>⟨(I b).2 R,rfl⟩,λ_ h=>h,λ_ _=>rfl,λhe=>by omega⟩
 have a1:∀ q,(S q).ls.length=(st q).ls.length:=λq=>by
  by_cases y:q=r
  ·rw[y,hr,a4]
  ·rw[(O q).2.2 y]
 exact {
  nt:=h.nt,df:=h.df
  slots:=λt ht=>by rw[(O t).1];exact h.slots t ht
  boxes:=λb R=>by
   rw[(O b).1];rcases h.boxes b R with ⟨h1,z⟩|h1
   ·refine .inl ⟨h1,BV ?_⟩;rw[a1,z];rfl
   ·exact .inr h1
  len:=λq=>by rw[a1];exact h.len q
  one:=h.one
  leaf:=λq j l u z Z=>by
   by_cases y:q=r
   ·subst y;rw[hr]at z;exact (a0 j l u z Z).carry hV.ro Y (λ_=>⟨by simp,λ_ _=>rfl⟩)
   ·rw[(O q).2.2 y]at z;exact (h.leaf q j l u z Z).carry hV.ro Y (λ_=>⟨by simp[y],λ_ _=>rfl⟩)
  ownb:=λq j l z Z k J=>by
   by_cases y:q=r
   ·subst y;rw[hr]at z;simp only[if_true]at J;have:=X j l z Z k J;exact⟨this.1,this.2.1,λb R=>this.2.2.1 b ((I b).1 R)⟩
   ·rw[(O q).2.2 y]at z;simp only[y,if_false]at J;have:=h.ownb q j l z Z k J;exact⟨this.1,this.2.1,λb R=>this.2.2 b ((I b).1 R)⟩
  sep:=λq j l q' j' l' z Z h4 h5 k J H=>by
   by_cases e0:q=r <;> by_cases e1:q'=r
   ·subst e0;subst e1;rw[hr]at z h4;simp only[if_true]at J H;exact⟨rfl,a2 j j' l l' z Z h4 h5 k J H⟩
   ·subst e0;rw[hr]at z;rw[(O q').2.2 e1]at h4;simp only[if_true]at J;simp only[e1,if_false]at H;exact absurd H ((X j l z Z k J).2.2.2 q' j' l' e1 h4 h5)
   ·subst e1;rw[(O q).2.2 e0]at z;rw[hr]at h4;simp only[e0,if_false]at J;simp only[if_true]at H;exact absurd J ((X j' l' h4 h5 k H).2.2.2 q j l e0 z Z)
   ·rw[(O q).2.2 e0]at z;rw[(O q').2.2 e1]at h4;simp only[e0,if_false]at J;simp only[e1,if_false]at H;exact h.sep q j l q' j' l' z Z h4 h5 k J H
  box:=λb R=>h.box b ((I b).1 R)
  inj:=λb b' R a6=>h.inj b b' ((I b).1 R) ((I b').1 a6)
  nwlt:=h.nwlt
  os:=h.os,tape:=h.tape,output:=h.output,size:=h.size,keep:=h.keep
  fixb:=λx hx=>⟨(I _).2 (h.fixb x hx).1,(h.fixb x hx).2⟩
  fixt:=h.fixt }
theorem aq.nwGrow (O:ay V)(h:aq P V W st a w)(N:Nat->Prop)(M:∀ k,N k->k<w.heap.size/\¬ cf V W st k):aq P V { W with nw:=λk=>W.nw k\/N k } st a w:=by
 have I:cF V W { W with nw:=λk=>W.nw k\/N k } st st w w:=⟨λr=>⟨BU _,λ_=>rfl⟩,λb J=>⟨J,rfl⟩,λ_ h=>.inl h,λ_ _=>rfl,λ_ _ _ l H z _=>⟨⟨l,H,z⟩,rfl,λ_ _=>rfl⟩⟩
 exact {
  nt:=h.nt,df:=h.df,slots:=h.slots,boxes:=h.boxes,len:=h.len,one:=h.one
  leaf:=λr j l v H z=>(h.leaf r j l v H z).carry O.ro I (λ_=>⟨rfl,λ_ _=>rfl⟩)
  ownb:=λr j l H z k u=>⟨λy=>y.elim (h.ownb r j l H z k u).1 (λy=>(M k y).2 (.inr (.inr (.inr ⟨r,j,l,H,z,u⟩)))),(h.ownb r j l H z k u).2⟩
  sep:=h.sep
  box:=λb J=>⟨λy=>y.elim (h.box b J).1 (λy=>(M _ y).2 (.inr (.inr (.inl ⟨b,J,rfl⟩)))),(h.box b J).2⟩
  inj:=h.inj
  nwlt:=λk u=>u.elim (h.nwlt k) (λu=>⟨(M k u).1,λR=>(M k u).2 (.inr (.inl R))⟩)
  os:=h.os,tape:=h.tape,output:=h.output,size:=h.size,keep:=h.keep,fixb:=h.fixb,fixt:=h.fixt }
end
def eK:List Leaf->List Leaf->List (Nat×Nat)
 |.al r j _::u,l::y=>(match l with|.own _ _ _ _ _=>[(r,j)]|_=>[])++eK u y
 |_::u,_::y=>eK u y
 |_,_=>[]
section
variable {P:Program} {V:Env} {st st':St} {w w':World} {a:Act}
theorem ng {x l:Leaf}{xs ls:List Leaf}(h:¬ ap l):eK (x::xs) (l::ls)=eK xs ls:=by
 cases x <;> try rfl
 cases l <;> first|exact absurd trivial h|rfl
theorem uY {k:IntKind}{ls:List Leaf}{x:Bool×(Ty.int k).den×List Leaf}(h:a7 st (.int k) ls=some x):∃ l,ls=l::x.2.2:=by
 simp only[a7]at h;split at h
 ·split at h
  ·simp only[BA]at h;subst h;exact⟨_,rfl⟩
  ·cases h
 ·cases h
theorem tv {ls:List Leaf}{x:Bool×Ty.bool.den×List Leaf}(h:a7 st .bool ls=some x):∃ l,ls=l::x.2.2:=by
 simp only[a7]at h;split at h
 ·simp only[BA]at h;subst h;exact⟨_,rfl⟩
 ·cases h
theorem uZ {ls:List Leaf}{x:Bool×Ty.str.den×List Leaf}(h:a7 st .str ls=some x):∃ l,ls=l::x.2.2:=by
 simp only[a7]at h;split at h
 ·simp only[BA]at h;subst h;exact⟨_,rfl⟩
 ·cases h
theorem u3 {ls:List Leaf}{x:Bool×Ty.hdr.den×List Leaf}(h:a7 st .hdr ls=some x):∃ l,ls=l::x.2.2:=by
 simp only[a7]at h;split at h
 ·split at h
  ·simp only[BA]at h;subst h;exact⟨_,rfl⟩
  ·cases h
 ·cases h
theorem kY {p:Bool}:∀ (b:Ty) (ls:List Leaf) (t:cL b.den),take st b ls=some t->∀ (y:b.den) (r:List Leaf),eK ls (ar p b y++r)=t.kill++eK t.rest r
 |.pair b c,ls,t,h,y,r=>by
  simp only[take]at h;split at h
  ·rename_i u M;split at h
   ·rename_i v I;simp only[BA]at h;subst h;simp only[ar];rw[BQ,kY b ls u M y.1,kY c u.rest v I y.2,BQ]
   ·cases h
  ·cases h
 |.unit,ls,t,h,y,r=>by
  simp only[take,BA]at h;subst h;rfl
 |.list m E e,ls,t,h,y,r=>by
  cases ls with
  |nil=>simp[take]at h
  |cons l ls =>
   cases m with
   |false =>
    simp only[take,cond_false]at h;split at h
    ·simp only[BA]at h;subst h;exact ng id
    ·cases h
   |true =>
    simp only[take,cond_true]at h;split at h
    ·split at h
     ·simp only[BB]at h;obtain⟨O,_,rfl⟩:=h;rfl
     ·cases h
    ·simp only[BA]at h;subst h;rfl
    ·cases h
 |.int k,ls,t,h,y,r=>scal (b:=.int k) h uY (l':=.int k y) id
 |.bool,ls,t,h,y,r=>scal (b:=.bool) h tv (l':=.bool y) id
 |.str,ls,t,h,y,r=>scal (b:=.str) h uZ (l':=.str y) id
 |.hdr,ls,t,h,y,r=>scal (b:=.hdr) h u3 (l':=.hdr y) id
where
 scal {b:Ty} {ls:List Leaf} {t:cL b.den} {l':Leaf} {r:List Leaf} (h:(a7 st b ls).map (λx=>(⟨false,x.2.1,[],[],x.2.2⟩:cL b.den))=some t)
   (H:∀ {ls:List Leaf} {x:Bool×b.den×List Leaf},a7 st b ls=some x->∃ l,ls=l::x.2.2) (z:¬ ap l'):eK ls ([l']++r)=t.kill++eK t.rest r:=by
  simp only[BB]at h;obtain⟨x,J,rfl⟩:=h;obtain⟨l,rfl⟩:=H J;exact ng z
theorem yR {W W':Wit}{bs:List Nat}{l:Leaf}{v:Value}(y:ap l)(u:W'.nw=W.nw)(h:aK P V W st w bs l v):aK P V W' st' w bs l v:=by
 cases l <;> simp only[ap]at y;exact OwH.carry h (λk r=>by
  rcases r with r|r
  ·exact .inl (by rw[u];exact r)
  ·exact .inr r) (λ_ _=>rfl) (λ_ _=>rfl)
theorem wd {S:St}{x l:Leaf}{xs ls:List Leaf}(h:¬ ap l):ae (ca S (x::xs) (l::ls)) S=ae (ca S xs ls) S:=by
 cases x <;> try rfl
 cases l <;> first|exact absurd trivial h|rfl
theorem jK {x:Nat×Nat}{l:List (Nat×Nat)}(h:aY (x::l)=true):x∉l/\aY l=true:=by
 simp only[aY,BC,BY,Bw]at h;exact⟨λr=>by have:=h.1 x r;simp at this,h.2⟩
theorem zq (hV:ay V){W:Wit}{S:St}(h:aq P V W S a w):∀ (xl ls:List Leaf) (cs:List Value) (O:Nat->List Nat),aY (eK xl ls)=true->(∀ x∈eK xl ls,x.1≠EPO)->xl.length=cs.length->ls.length=cs.length ->
  (∀ (i r j n:Nat) (l:Leaf) (u:Value),xl[i]?=some (.al r j n)->ls[i]?=some l->ap l->cs[i]?=some u->(W.cs r)[j]?=some u) ->
  (∀ x∈eK xl ls,∀ l,(S x.1).ls[x.2]?=some l->¬ ap l) ->
  (∀ (i:Nat) (l:Leaf) (u:Value),ls[i]?=some l->cs[i]?=some u->aK P V W S w (O i) l u) ->
  (∀ (i:Nat) (l:Leaf),ls[i]?=some l->ap l->∀ k∈O i,¬ cf V W S k) ->
  (∀ (i i':Nat) (l l':Leaf),ls[i]?=some l->ap l->ls[i']?=some l'->ap l'->∀ k,k∈O i->k∈O i'->i=i') ->
  ∃ W',aq P V W' (ae (ca S xl ls) S) a w/\W'.cs=W.cs/\W'.β=W.β/\W'.nw=W.nw/\(∀ q,(ae (ca S xl ls) S q).sh=(S q).sh/\(S q).ver<=(ae (ca S xl ls) S q).ver) /\
   (∀ (q i:Nat),(q,i)∉eK xl ls->(ae (ca S xl ls) S q).ls[i]?=(S q).ls[i]?/\W'.bs q i=W.bs q i) /\
   (∀ k,cf V W' (ae (ca S xl ls) S) k->cf V W S k\/∃ i l,ls[i]?=some l/\ap l/\k∈O i)
 |[],ls,cs,O,_,_,hx,hl,_,_,_,_,_=>⟨W,h,rfl,rfl,rfl,λ_=>⟨rfl,BU _⟩,λ_ _ _=>⟨rfl,rfl⟩,λk R=>.inl R⟩
 |x::X,[],cs,O,_,_,hx,hl,_,_,_,_,_=>by simp at hx hl;omega
 |x::X,l::ls,[],O,_,_,hx,hl,_,_,_,_,_=>by simp at hx
 |x::X,l::ls,u::cs,O,hd,b3,hx,hl,b9,b4,a3,a2,ab=>by
  have b0:aY (eK X ls)=true:=by
   cases x with
   |al r j n =>
    cases l with
    |own p hh E e ys=>exact (jK hd).2
    |_=>exact hd
   |_=>exact hd
  have ad:∀ z∈eK X ls,z∈eK (x::X) (l::ls):=by
   intro z hz;cases x with
   |al r j n=>exact BE _ hz
   |_=>exact hz
  obtain⟨W1,h1,e1,e2,e3,e4,e5,e6⟩:=zq hV h X ls cs (λi=>O (i+1)) b0 (λz hz=>b3 z (ad z hz)) (by simpa using hx) (by simpa using hl)
   (λi r j n l' u' J I M g4=>b9 (i+1) r j n l' u' (by simpa using J) (by simpa using I) M (by simpa using g4))
   (λz hz=>b4 z (ad z hz)) (λi l' u' J I=>a3 (i+1) l' u' (by simpa using J) (by simpa using I))
   (λi l' J I=>a2 (i+1) l' (by simpa using J) I)
   (λi i' l1 l2 J I M g4 k g5 g6=>by have:=ab (i+1) (i'+1) l1 l2 (by simpa using J) I (by simpa using M) g4 k g5 g6;omega)
  by_cases hs:¬ ap l\/(∀ r j n,x≠.al r j n)
  ·have a9:ae (ca S (x::X) (l::ls)) S=ae (ca S X ls) S/\eK (x::X) (l::ls)=eK X ls:=by
    rcases hs with hs|hs
    ·exact⟨wd hs,ng hs⟩
    ·cases x with
     |al r j n=>exact absurd rfl (hs r j n)
     |_=>exact⟨rfl,rfl⟩
   rw[a9.1,a9.2];exact⟨W1,h1,e1,e2,e3,e4,e5,λk R=>(e6 k R).imp id λ⟨i,l',J,I,M⟩=>⟨i+1,l',by simpa using J,I,M⟩⟩
  ·simp only[not_or,Classical.not_not]at hs;obtain⟨bb,bl⟩:=hs;obtain⟨r,j,n,rfl⟩:∃ r j n,x=.al r j n:=by
    cases x with
    |al r j n=>exact⟨r,j,n,rfl⟩
    |_=>exact absurd (λ_ _ _ h=>by cases h) bl
   obtain⟨p,hh,E,e,ys,rfl⟩:∃ p hh E e ys,l=.own p hh E e ys:=by
    cases l <;> simp only[ap]at bb;exact⟨_,_,_,_,_,rfl⟩
   have b2:eK (.al r j n::X) (.own p hh E e ys::ls)=(r,j)::eK X ls:=rfl;rw[b2]at hd b4;obtain⟨bx,bn⟩:=jK hd;have hv:=b9 0 r j n _ u rfl rfl trivial rfl;have a9:ae (ca S (.al r j n::X) (.own p hh E e ys::ls)) S=ae [(r,⟨(ae (ca S X ls) S r).ver,(ae (ca S X ls) S r).sh,aT (ae (ca S X ls) S r).ls j (.own p hh E e ys)⟩),(EPO,bV (ae (ca S X ls) S EPO))] (ae (ca S X ls) S):=bA [_,_] _ _;have a6:aK P V W1 (ae (ca S X ls) S) w (O 0) (.own p hh E e ys) u:=yR trivial e3 (a3 0 _ u rfl rfl);have Y:∀ k∈O 0,¬ cf V W1 (ae (ca S X ls) S) k:=λk R hu=>by
    rcases e6 k hu with hu|⟨i,l',J,I,M⟩
    ·exact a2 0 _ rfl trivial k R hu
    ·have:=ab 0 (i+1) _ l' rfl trivial (by simpa using J) I k R M;omega
   have H:∀ (i:Nat) (l':Leaf),i≠j->(aT (ae (ca S X ls) S r).ls j (.own p hh E e ys))[i]?=some l'->(ae (ca S X ls) S r).ls[i]?=some l':=by
    intro i l' a5 a0;rcases aR _ _ _ _ _ a0 with ⟨rfl,_,_⟩|⟨_,a0⟩
    ·exact absurd rfl a5
    ·exact a0
   have b5:∀ (l':Leaf),(aT (ae (ca S X ls) S r).ls j (.own p hh E e ys))[j]?=some l'->l'=.own p hh E e ys:=by
    intro l' a0;rcases aR _ _ _ _ _ a0 with ⟨_,rfl,_⟩|⟨a5,_⟩
    ·rfl
    ·exact absurd rfl a5
   have ba:r≠EPO:=b3 (r,j) (by rw[b2];exact BW ..);obtain⟨h2,a4,b6⟩:=h1.reownE hV r ⟨(ae (ca S X ls) S r).ver,(ae (ca S X ls) S r).sh,aT (ae (ca S X ls) S r).ls j (.own p hh E e ys)⟩ (λi=>if i=j then O 0 else W1.bs r i) ba (BU _) rfl (by simp[aT])
    (λi l' v' J I=>by
     by_cases y:i=j
     ·subst y;obtain rfl:=b5 l' J;rw[e1,hv]at I;simp only[BA]at I;subst I;simp only[if_true];exact a6
     ·simp only[if_neg y];exact h1.leaf r i l' v' (H i l' y J) I)
    (λi l' J I k R=>by
     by_cases y:i=j
     ·subst y;simp only[if_true]at R;have hu:=Y k R;simp only[cf,not_or,not_exists,not_and]at hu;exact⟨hu.1,hu.2.1,hu.2.2.1,λr1 j1 l1 _ M g4 g5=>hu.2.2.2 r1 j1 l1 M g4 g5⟩
     ·simp only[if_neg y]at R;have a0:=H i l' y J;have h9:=h1.ownb r i l' a0 I k R;exact⟨h9.1,h9.2.1,h9.2.2,λr1 j1 l1 a5 M g4 g5=>a5 (h1.sep r i l' r1 j1 l1 a0 I M g4 k R g5).1.symm⟩)
    (λi i' l1 l2 J I M g4 k R a1=>by
     by_cases y:i=j <;> by_cases Z:i'=j
     ·omega
     ·subst y;simp only[if_true]at R;simp only[if_neg Z]at a1;exact absurd (.inr (.inr (.inr ⟨r,i',l2,H i' l2 Z M,g4,a1⟩))) (Y k R)
     ·subst Z;simp only[if_true]at a1;simp only[if_neg y]at R;exact absurd (.inr (.inr (.inr ⟨r,i,l1,H i l1 y J,I,R⟩))) (Y k a1)
     ·simp only[if_neg y]at R;simp only[if_neg Z]at a1;exact (h1.sep r i l1 r i' l2 (H i l1 y J) I (H i' l2 Z M) g4 k R a1).2)
   rw[a9];refine⟨_,h2,e1,e2,e3,λq=>?_,λq i hq=>?_,λk R=>?_⟩
   ·exact⟨(a4 q).1.trans (e4 q).1,B9 (e4 q).2 (a4 q).2.1⟩
   ·rw[b2]at hq;simp only[CJ,not_or]at hq;by_cases b1:q=r
    ·subst b1;rw[b6];have y:j≠i:=λe0=>hq.1 (by rw[e0])
     simp only[aT];rw[CG y];refine⟨(e5 q i hq.2).1,?_⟩;simp only[if_true,if_neg (CH y)];exact (e5 q i hq.2).2
    ·rw[(a4 q).2.2 b1];refine⟨(e5 q i hq.2).1,?_⟩;show (if q=r then _ else W1.bs q i)=_;rw[if_neg b1];exact (e5 q i hq.2).2
   ·rcases R with R|R|⟨b,hb,R⟩|⟨q,i,l',J,I,M⟩
    ·exact .inl (.inl (by rw[<- e3];exact R))
    ·exact .inl (.inr (.inl R))
    ·refine (e6 k (.inr (.inr (.inl ⟨b,?_,R⟩)))).imp id λ⟨i,l',J,I,M⟩=>⟨i+1,l',by simpa using J,I,M⟩
     exact (iC (λq=>(a4 q).1) b).1 hb
    ·by_cases hq:q=r
     ·subst hq;rw[b6]at J;simp only[if_true]at M;by_cases y:i=j
      ·subst y;simp only[if_true]at M;exact .inr ⟨0,_,rfl,trivial,M⟩
      ·simp only[if_neg y]at M;exact (e6 k (.inr (.inr (.inr ⟨q,i,l',H i l' y J,I,M⟩)))).imp id λ⟨i,l',J,I,M⟩=>⟨i+1,l',by simpa using J,I,M⟩
     ·rw[(a4 q).2.2 hq]at J;simp only[if_neg hq]at M;exact (e6 k (.inr (.inr (.inr ⟨q,i,l',J,I,M⟩)))).imp id λ⟨i,l',J,I,M⟩=>⟨i+1,l',by simpa using J,I,M⟩
end
def PK.isIop:PK->Bool
 |.iop _=>true
 |_=>false
section
variable {P:Program} {V:Env} {Γ:List Ctr} {st st':St} {w w':World} {a:Act}
theorem kL:∀ {a b:List (Nat×Nat)},aY (a++b)=true->aY a=true/\aY b=true/\∀ x∈a,x∉b
 |[],b,h=>⟨rfl,h,by simp⟩
 |x::a,b,h=>by
  obtain⟨u,M⟩:=jK h;obtain⟨R,X,O⟩:=kL M;refine⟨?_,X,λy r z=>?_⟩
  ·simp only[aY,BC,BY,Bw];refine⟨λy r J=>u (BJ _ ?_),R⟩;obtain⟨I,H⟩:x.1=y.1/\x.2=y.2:=by simpa using J
   rw[show x=y from DW I H];exact r
  ·rcases CJ.1 r with rfl|r
   ·exact u (BE _ z)
   ·exact O y r z
theorem ka {p:Bool}:∀ (b:Ty) (ls:List Leaf) (t:cL b.den),take st b ls=some t->∀ (y:b.den) (i r j n:Nat) (l:Leaf),ls[i]?=some (.al r j n)->(ar p b y)[i]?=some l->ap l->(st r).ver=n
 |.pair b c,ls,t,h,y,i,r,j,n,l,I,z,J=>by
  simp only[take]at h;split at h
  ·rename_i u M;split at h
   ·rename_i v O;simp only[ar]at z;have X:=cJ p b y.1;by_cases hi:i<b.cells
    ·rw[BH (by omega)]at z;exact ka b ls u M y.1 i r j n l I z J
    ·rw[BG (by omega),X]at z;have R:=take_rest b ls u M;refine ka c u.rest v O y.2 (i-b.cells) r j n l ?_ z J;rw[R,CK,show b.cells+(i-b.cells)=i by omega];exact I
   ·cases h
  ·cases h
 |.list m E e,ls,t,h,y,i,r,j,n,l,I,z,J=>by
  cases m with
  |false =>
   cases i with
   |zero=>simp[ar]at z;subst z;exact J.elim
   |succ i=>simp[ar]at z
  |true =>
   cases i with
   |succ i=>simp[ar]at z
   |zero =>
    cases ls with
    |nil=>simp at I
    |cons l' ls =>
     simp only[CL,BA]at I;subst I;simp only[take,cond_true]at h;split at h
     ·rename_i Y;exact (eY Y (by simp)).1
     ·cases h
 |.int k,ls,t,h,y,i,r,j,n,l,I,z,J=>by
  cases i with
  |zero=>simp[ar]at z;subst z;exact J.elim
  |succ i=>simp[ar]at z
 |.bool,ls,t,h,y,i,r,j,n,l,I,z,J=>by
  cases i with
  |zero=>simp[ar]at z;subst z;exact J.elim
  |succ i=>simp[ar]at z
 |.str,ls,t,h,y,i,r,j,n,l,I,z,J=>by
  cases i with
  |zero=>simp[ar]at z;subst z;exact J.elim
  |succ i=>simp[ar]at z
 |.hdr,ls,t,h,y,i,r,j,n,l,I,z,J=>by
  cases i with
  |zero=>simp[ar]at z;subst z;exact J.elim
  |succ i=>simp[ar]at z
 |.unit,ls,t,h,y,i,r,j,n,l,I,z,J=>by simp[ar]at z
where
 take_rest:∀ (b:Ty) (ls:List Leaf) (t:cL b.den),take st b ls=some t->t.rest=ls.drop b.cells
  |.pair b c,ls,t,h=>by
   simp only[take]at h;split at h
   ·rename_i u M;split at h
    ·rename_i v O;simp only[BA]at h;subst h;show v.rest=_;rw[take_rest c u.rest v O,take_rest b ls u M,List.drop_drop];rfl
    ·cases h
   ·cases h
  |.unit,ls,t,h=>by
   simp only[take,BA]at h;subst h;rfl
  |.list m E e,ls,t,h=>by
   cases ls with
   |nil=>simp[take]at h
   |cons l ls =>
    cases m with
    |false =>
     simp only[take,cond_false]at h;split at h
     ·simp only[BA]at h;subst h;rfl
     ·cases h
    |true =>
     simp only[take,cond_true]at h;split at h
     ·split at h
      ·simp only[BB]at h;obtain⟨xs,_,rfl⟩:=h;rfl
      ·cases h
     ·simp only[BA]at h;subst h;rfl
     ·cases h
  |.int k,ls,t,h=>sc (b:=.int k) h uY rfl
  |.bool,ls,t,h=>sc (b:=.bool) h tv rfl
  |.str,ls,t,h=>sc (b:=.str) h uZ rfl
  |.hdr,ls,t,h=>sc (b:=.hdr) h u3 rfl
 sc {b:Ty} {ls:List Leaf} {t:cL b.den} (h:(a7 st b ls).map (λx=>(⟨false,x.2.1,[],[],x.2.2⟩:cL b.den))=some t)
   (H:∀ {ls:List Leaf} {x:Bool×b.den×List Leaf},a7 st b ls=some x->∃ l,ls=l::x.2.2) (I:b.cells=1):t.rest=ls.drop b.cells:=by
  simp only[BB]at h;obtain⟨x,Z,rfl⟩:=h;obtain⟨l,rfl⟩:=H Z;rw[I];rfl
theorem we {agg:Bool}{v:Value}{z y:List Value}(u:da agg v z)(r:da agg v y):z=y:=by
 unfold da at u r;cases agg with
 |true =>
  simp only[if_true]at u r;rw[u]at r;simpa using r
 |false =>
  simp only[Bool.false_eq_true,if_false]at u r;rw[u,r]
theorem qE (hV:ay V){W0 W:Wit}{S0 S:St}{w0:World}{G:Nat->Prop}{p:Bool}(a6:W.cs=W0.cs)(hG:∀ k,G k->gd V W p k)(h:aq P V W S a w) :
  ∀ (ps:List PK) (xs:List (aI×List Leaf)) (vs:List Value) (g:Got (ac ps)) (o:ai ps) (y:List (List Nat)),gT P V W0 S0 w0 xs vs->a8 (ce Γ S0) ps xs=some g->ps.any PK.isIop=false ->
  bL w G ps o vs y->aY g.kill=true->(∀ x∈g.kill,x.1≠EPO)->(∀ x∈g.kill,∀ l,(S x.1).ls[x.2]?=some l->¬ ap l)->(∀ k∈y.flatten,¬ cf V W S k)->y.flatten.Nodup ->
  ∃ W',aq P V W' (ae (aG S p ps xs o) S) a w/\W'.cs=W.cs/\W'.β=W.β/\W'.nw=W.nw/\(∀ q,(ae (aG S p ps xs o) S q).sh=(S q).sh/\(S q).ver<=(ae (aG S p ps xs o) S q).ver) /\
   (∀ q i,(q,i)∉g.kill->(ae (aG S p ps xs o) S q).ls[i]?=(S q).ls[i]?/\W'.bs q i=W.bs q i)/\(∀ k,cf V W' (ae (aG S p ps xs o) S) k->cf V W S k\/k∈y.flatten)
 |[],xs,vs,g,o,y,_,_,_,_,_,_,_,_,_=>⟨W,h,rfl,rfl,rfl,λ_=>⟨rfl,BU _⟩,λ_ _ _=>⟨rfl,rfl⟩,λk R=>.inl R⟩
 |pk::ps,[],vs,g,o,y,_,hg,_,_,_,_,_,_,_=>by simp[a8]at hg
 |pk::ps,x::xs,vs,g,o,y,hx,hg,hp,ho,hd,a3,a4,O,a0=>by
  obtain⟨v,a5,cs,rfl,hs,hl,a2⟩:=hx;simp only[a8]at hg;split at hg
  ·rename_i g1 a1;split at hg
   ·rename_i g2 b1;simp only[BA]at hg;subst hg;simp only[CR,Ct]at hp;obtain⟨b9,ad,ba⟩:=kL hd;have J:∀ (o':ai ps) (b:List Nat) (M:List (List Nat)),y=b::M->b=[]->bL w G ps o' a5 M->aG S p (pk::ps) (x::xs) o=aG S p ps xs o' ->
      ∃ W',aq P V W' (ae (aG S p (pk::ps) (x::xs) o) S) a w/\W'.cs=W.cs/\W'.β=W.β/\W'.nw=W.nw/\(∀ q,(ae (aG S p (pk::ps) (x::xs) o) S q).sh=(S q).sh/\(S q).ver<=(ae (aG S p (pk::ps) (x::xs) o) S q).ver) /\
       (∀ q i,(q,i)∉g1.kill++g2.kill->(ae (aG S p (pk::ps) (x::xs) o) S q).ls[i]?=(S q).ls[i]?/\W'.bs q i=W.bs q i)/\(∀ k,cf V W' (ae (aG S p (pk::ps) (x::xs) o) S) k->cf V W S k\/k∈y.flatten):=by
     intro o' b M e1 e2 b6 e3;subst e1;subst e2;rw[e3];obtain⟨W1,f1,f2,f3,f4,f5,f6,f7⟩:=qE hV a6 hG h ps xs a5 g2 o' M a2 b1 hp.2 b6 ad (λz Z=>a3 z (BE _ Z)) (λz Z=>a4 z (BE _ Z)) (λk R=>O k (by simpa using R)) (by simpa using a0);exact⟨W1,f1,f2,f3,f4,f5,λq i hq=>f6 q i (λhm=>hq (BE _ hm)),λk R=>(f7 k R).imp id (λhm=>by simpa using hm)⟩
    cases pk with
    |io b =>
     match y,ho with
     |Y::M,⟨H,I⟩ =>
      simp only[BX]at a0 O;rw[B8]at a0;obtain⟨W1,f1,f2,f3,f4,f5,f6,f7⟩:=qE hV a6 hG h ps xs a5 g2 o.2 M a2 b1 hp.2 I ad (λz Z=>a3 z (BE _ Z)) (λz Z=>a4 z (BE _ Z)) (λk R=>O k (BE _ R)) a0.2.1;simp only[ce,bf]at a1;cases hb:decide (x.1=bg b.isAgg) with
      |false=>simp[hb]at a1
      |true =>
       rw[hb]at a1;simp only[cond_true,BB]at a1;obtain⟨t,ht,rfl⟩:=a1;rw[of_decide_eq_true hb]at hs;unfold jn at H;rw[if_neg (by simp)]at H;obtain⟨b0,b5,hm⟩:=H;have:=we b5 (gA hs);subst this;obtain⟨b3,m1,m2,m3,m4⟩:=iJ (P:=P) (V:=V) (W:=W1) (st:=ae (aG S p ps xs o.2) S) (p:=p) (λk R=>by
        rcases hG k R with R|R
        ·exact .inl (by rw[f4];exact R)
        ·exact .inr R) hm a0.1
       unfold ci at ht;split at ht
       ·rename_i p0 x0 f0 k0 a9;simp only[BA]at ht;subst ht;have X:=kY (p:=p) b x.2 _ a9 o.1 [];simp only[Br]at X;have X:eK x.2 (ar p b o.1)=k0:=by
         rw[X];show k0++eK [] []=k0;simp[eK]
        obtain⟨W2,q1,q2,q3,q4,q5,q6,q7⟩:=zq hV f1 x.2 (ar p b o.1) b0 b3 (by rw[X];exact b9) (λz Z=>a3 z (BJ _ (by rw[X]at Z;exact Z))) hl.length m1
         (λi r j n l u g3 g4 g5 g6=>by
          have h5:=(hl.at_ i _ u g3 g6).1;rw[f2,a6];exact h5.2 (ka b x.2 _ a9 o.1 i r j n l g3 g4 g5))
         (λz Z l b2=>by
          rw[X]at Z;rw[(f6 z.1 z.2 (ba z Z)).1]at b2;exact a4 z (BJ _ Z) l b2)
         m2
         (λi l g3 g4 k R hu=>by
          have ab:=m3 i l g3 g4 k R;rcases f7 k hu with hu|hu
          ·exact O k (BJ _ ab) hu
          ·exact a0.2.2 k ab k hu rfl) m4
        have b4:ae (aG S p (.io b::ps) (x::xs) o) S=ae (ca (ae (aG S p ps xs o.2) S) x.2 (ar p b o.1)) (ae (aG S p ps xs o.2) S):=bA _ _ _;rw[b4];rw[X]at q6;refine⟨W2,q1,q2.trans f2,q3.trans f3,q4.trans f4,λq=>⟨(q5 q).1.trans (f5 q).1,B9 (f5 q).2 (q5 q).2⟩,λq i hq=>?_,λk R=>?_⟩
        ·simp only[BL,not_or]at hq;exact⟨(q6 q i hq.1).1.trans (f6 q i hq.2).1,(q6 q i hq.1).2.trans (f6 q i hq.2).2⟩
        ·rcases q7 k R with R|⟨i,l,g3,g4,g5⟩
         ·exact (f7 k R).imp id (λhm=>BE _ hm)
         ·exact .inr (BJ _ (m3 i l g3 g4 k g5))
       ·cases ht
    |iop b=>simp[PK.isIop]at hp
    |rd b =>
     match y,ho with
     |Y::M,⟨H,I⟩=>exact J o Y M rfl H I rfl
    |own b =>
     match y,ho with
     |Y::M,⟨H,I⟩=>exact J o Y M rfl H I rfl
    |rref b =>
     match y,ho with
     |Y::M,⟨H,I⟩=>exact J o Y M rfl H I rfl
    |rref2 b =>
     match y,ho with
     |Y::M,⟨H,I⟩=>exact J o Y M rfl H I rfl
    |fn As B =>
     match y,ho with
     |Y::M,⟨H,I⟩=>exact J o Y M rfl H I rfl
    |clo f b0 =>
     match y,ho with
     |Y::M,⟨H,I⟩=>exact J o Y M rfl H I rfl
    |hol b cc off =>
     match y,ho with
     |Y::M,⟨H,I⟩=>exact J o Y M rfl H I rfl
   ·cases hg
  ·cases hg
end
section
variable {P:Program} {V:Env} {W:Wit} {st:St} {w:World} {a:Act}
theorem ot {G ro:Nat->Prop}{p q:Bool}{ks:List (Nat×Nat×Nat)}{ep:Nat}(hG:∀ k,G k->gd V W p k)(d n:Nat) :
  ∀ (O:List RK) (y:aj O) (us:List Value) (Z:List (List Nat)),
  (O.any RK.isBv=true->(∀ k,G k\/ro k->gd V W q k\/∃ x∈ks,k∈W.bs x.1 x.2.1)/\ep<=(st EPO).ver/\(∀ k∈ks,k.2.2<=(st k.1).ver))->gz w G ro O y us Z->O.all RK.isV=true->Z.flatten.Nodup ->
  (bC d n p q ks ep O y).2=[]/\∃ (cs:List Value) (a1:Nat->List Nat),pu ((bC d n p q ks ep O y).1.map λx=>(x.1,x.2.length)) us cs/\(((bC d n p q ks ep O y).1.map (·.2)).flatten).length=cs.length/\(∀ u∈cs,u.oneCell'=true) /\
   (∀ (j:Nat) (l:Leaf) (u:Value),(((bC d n p q ks ep O y).1.map (·.2)).flatten)[j]?=some l->cs[j]?=some u->aK P V W st w (a1 j) l u) /\
   (∀ (j:Nat) (l:Leaf),(((bC d n p q ks ep O y).1.map (·.2)).flatten)[j]?=some l->ap l->∀ k∈a1 j,k∈Z.flatten) /\
   (∀ (j X:Nat) (l l':Leaf),(((bC d n p q ks ep O y).1.map (·.2)).flatten)[j]?=some l->ap l->(((bC d n p q ks ep O y).1.map (·.2)).flatten)[X]?=some l'->ap l'->∀ k,k∈a1 j->k∈a1 X->j=X)
 |[],y,us,Z,_,⟨e1,e2⟩,_,_=>by
  subst e1;subst e2;exact⟨rfl,[],λ_=>[],⟨rfl,rfl⟩,rfl,by simp,λj l u h1 h2=>by simp at h2,λj l h1 h2 k J=>by simp at J,λj X l l' _ _ _ _ k J=>by simp at J⟩
 |r::O,y,us,Z,hB,⟨u0,a5,b,ab,e1,e2,hr,a4⟩,hv,a0=>by
  subst e1;subst e2;simp only[Cx,BC]at hv;rw[BX,B8]at a0;obtain⟨f0,a6,d2,f1,f2,b6,f3,f4,f5⟩:=ot (ks:=ks) (q:=q) (ep:=ep) hG d n O y.2 a5 ab (λhb=>hB (by simp[hb])) a4 hv.2 a0.2.1;obtain⟨agg,L,I,d1,g0,b4,g1,g2,ad,g3,g4,g5⟩:∃ (agg:Bool) (L:List Leaf) (I:List Value) (d1:Nat->List Nat),(pn d n p q ks ep r y.1).1=(agg,L)/\(pn d n p q ks ep r y.1).2=[]/\da agg u0 I/\L.length=I.length/\(∀ u∈I,u.oneCell'=true) /\
    (∀ (j:Nat) (l:Leaf) (u:Value),L[j]?=some l->I[j]?=some u->aK P V W st w (d1 j) l u)/\(∀ (j:Nat) (l:Leaf),L[j]?=some l->ap l->∀ k∈d1 j,k∈b) /\
    (∀ (j X:Nat) (l l':Leaf),L[j]?=some l->ap l->L[X]?=some l'->ap l'->∀ k,k∈d1 j->k∈d1 X->j=X):=by
   cases r with
   |v c =>
    obtain⟨I,h1,h2⟩:=hr;obtain⟨d1,m1,m2,m3,m4⟩:=iJ (P:=P) (V:=V) (W:=W) (st:=st) (p:=p) hG h2 a0.1;exact⟨c.isAgg,_,I,d1,rfl,rfl,h1,m1,h2.one,m2,m3,m4⟩
   |bv c =>
    obtain⟨_,I,h1,h2⟩:=hr;obtain⟨b2,b5,b3⟩:=hB (by simp[RK.isBv]);have h3:=jP (P:=P) (V:=V) (W:=W) (st:=st) (p:=q) b5 b3 (h2.mono b2);exact⟨c.isAgg,_,I,λ_=>[],rfl,rfl,h1,h3.length,h2.one,λj l u g1 g2=>(h3.at_ j l u g1 g2).1,λj l _ _ k J=>by simp at J,λj X l l' _ _ _ _ k J=>by simp at J⟩
   |box c=>simp[RK.isV]at hv
  have b0:(bC d n p q ks ep (r::O) y).1=(agg,L)::(bC d n p q ks ep O y.2).1:=by simp only[bC,g0]
  have b1:(bC d n p q ks ep (r::O) y).2=[]:=by simp only[bC,b4,f0,Br]
  rw[b0];simp only[DV,BX];have H:∀ (j:Nat) (l:Leaf),(L++((bC d n p q ks ep O y.2).1.map (·.2)).flatten)[j]?=some l->(j<L.length/\L[j]?=some l)\/(L.length<=j/\(((bC d n p q ks ep O y.2).1.map (·.2)).flatten)[j-L.length]?=some l):=by
   intro j l z;by_cases M:j<L.length
   ·rw[BH M]at z;exact .inl ⟨M,z⟩
   ·rw[BG (by omega)]at z;exact .inr ⟨by omega,z⟩
  refine⟨b1,I++a6,λj=>if j<L.length then d1 j else d2 (j-L.length),⟨u0,a5,I,a6,rfl,rfl,g2.symm,g1,f1⟩,by rw[BR,BR,g2,f2],λu hu=>(BL.1 hu).elim (ad u) (b6 u),λj l u z hu=>?_,λj l z ho k J=>?_,λj X l l' z ho Y a2 k J R=>?_⟩
  ·rcases H j l z with ⟨M,z⟩|⟨a9,z⟩
   ·rw[BH (by omega)]at hu;simp only[if_pos M];exact g3 j l u z hu
   ·rw[BG (by omega),<- g2]at hu;simp only[if_neg (show ¬ j<L.length by omega)];exact f3 _ l u z hu
  ·rcases H j l z with ⟨M,z⟩|⟨a9,z⟩
   ·simp only[if_pos M]at J;exact BJ _ (g4 j l z ho k J)
   ·simp only[if_neg (show ¬ j<L.length by omega)]at J;exact BE _ (f4 _ l z ho k J)
  ·rcases H j l z with ⟨M,z⟩|⟨a9,z⟩ <;> rcases H X l' Y with ⟨a3,Y⟩|⟨b9,Y⟩
   ·simp only[if_pos M]at J;simp only[if_pos a3]at R;exact g5 j X l l' z ho Y a2 k J R
   ·simp only[if_pos M]at J;simp only[if_neg (show ¬ X<L.length by omega)]at R;exact absurd rfl (a0.2.2 k (g4 j l z ho k J) k (f4 _ l' Y a2 k R))
   ·simp only[if_neg (show ¬ j<L.length by omega)]at J;simp only[if_pos a3]at R;exact absurd rfl (a0.2.2 k (g4 X l' Y a2 k R) k (f4 _ l z ho k J))
   ·simp only[if_neg (show ¬ j<L.length by omega)]at J;simp only[if_neg (show ¬ X<L.length by omega)]at R;have:=f5 _ _ l l' z ho Y a2 k J R;omega
theorem Bd {l:List (Bool×List Leaf)}{us cs:List Value}{v:Value}(n:Nat)(h:pu (l.map λx=>(x.1,x.2.length)) us cs)(y:sd us v) :
  ee (eN n l).sh v cs/\(eN n l).ls=(l.map (·.2)).flatten/\(eN n l).ver=n:=by
 match l,us,h with
 |[],_,⟨H,z⟩ =>
  subst H;subst z;exact⟨⟨[],y,rfl,rfl⟩,rfl,rfl⟩
 |[(agg,L)],_,⟨u,r,c,Z,H,z,h1,R,O,X⟩ =>
  subst H;subst z;subst O;subst X;have y:v=u:=y;subst y;refine⟨?_,by simp[eN],rfl⟩;simp only[eN,Br];exact j8 R
 |x::x'::l,us,h =>
  refine⟨?_,rfl,rfl⟩;have I:∃ u M r,us=u::M::r:=by
   obtain⟨u,r,_,_,H,_,_,_,Y,J,_,_,z,_⟩:=h;exact⟨u,Y,J,by rw[H,z]⟩
  obtain⟨u,M,r,rfl⟩:=I;exact⟨_,y,h⟩
end
section
variable {P:Program} {V:Env} {Γ:List Ctr} {st:St} {w:World} {a:Act}
theorem yS {pk:PK}{x:aI×List Leaf}{g:Got pk.den}(r:ce Γ st pk x=some g)(R:pk.isIop=false):g.lend=[]:=by
 cases pk with
 |iop b=>simp[PK.isIop]at R
 |rd b =>
  simp only[ce,bf]at r;cases u:decide (x.1=bg b.isAgg) with
  |false=>simp[u]at r
  |true=>rw[u]at r;simp only[cond_true,BB]at r;obtain⟨y,_,rfl⟩:=r;rfl
 |own b =>
  simp only[ce,bf]at r;cases u:decide (x.1=bg b.isAgg) with
  |false=>simp[u]at r
  |true=>rw[u]at r;simp only[cond_true,BB]at r;obtain⟨y,_,rfl⟩:=r;rfl
 |io b =>
  simp only[ce,bf]at r;cases u:decide (x.1=bg b.isAgg) with
  |false=>simp[u]at r
  |true=>rw[u]at r;simp only[cond_true,BB]at r;obtain⟨y,_,rfl⟩:=r;rfl
 |rref b=>exact cap (c:=(false,b)) r
 |rref2 b=>exact cap (c:=(true,b)) r
 |fn Y B =>
  simp only[ce]at r;split at r
  ·unfold ku at r;split at r
   ·unfold rV at r;split at r
    ·rename_i c _ Z;cases u:(c.ps.drop Y.length).all PK.reads&&B.flat&&c.fresh with
     |false=>rw[u]at r;cases r
     |true =>
      rw[u]at r;simp only[cond_true]at r;split at r
      ·simp only[BA]at r;subst r;rfl
      ·cases r
    ·cases r
   ·cases r
  ·simp only[bf]at r;split at r
   ·split at r
    ·simp only[BA]at r;subst r;rfl
    ·cases r
   ·cases r
 |hol b cc off =>
  simp only[ce,bf]at r;cases u:decide (x.1=bg b.isAgg) with
  |false=>simp[u]at r
  |true =>
   rw[u]at r;simp only[cond_true]at r;split at r
   ·split at r
    ·rename_i X _ _ _ _;cases z:BT X off with
     |false=>simp[z]at r
     |true =>
      rw[z]at r;simp only[cond_true]at r;split at r
      ·split at r
       ·simp only[BA]at r;subst r;rfl
       ·cases r
      ·cases r
    ·cases r
   ·cases r
 |clo f I =>
  simp only[ce,bf]at r;split at r
  ·rename_i J H _;cases u:BT J f with
   |false=>simp[u]at r
   |true=>rw[u]at r;exact caps_ r
  ·rename_i J H _;cases u:BT J f with
   |false=>simp[u]at r
   |true=>rw[u]at r;exact caps_ r
  ·cases r
where
 cap {c:Bool×Ty} {l:Leaf} {g:Got c.2.den} (r:ff st c l=some g):g.lend=[]:=by
  unfold ff at r;cases M:c.1 with
  |true =>
   rw[M]at r;simp only[cond_true]at r;split at r
   ·split at r
    ·simp only[BB]at r;obtain⟨y,_,rfl⟩:=r;rfl
    ·cases r
   ·cases r
  |false =>
   rw[M]at r;simp only[cond_false]at r;split at r
   ·simp only[BB]at r;obtain⟨y,_,rfl⟩:=r;rfl
   ·cases r
 caps_:∀ {I:List (Bool×Ty)} {O:List Leaf} {g:Got (lG I)},cB st I O=some g->g.lend=[]
  |[],[],g,r=>by simp only[cB,BA]at r;subst r;rfl
  |[],_::_,_,r=>by simp[cB]at r
  |_::_,[],_,r=>by simp[cB]at r
  |c::I,l::O,g,r=>by
   simp only[cB]at r;split at r
   ·split at r
    ·simp only[BA]at r;subst r;rfl
    ·cases r
   ·cases r
theorem tw:∀ (ps:List PK) (xs:List (aI×List Leaf)) (g:Got (ac ps)),a8 (ce Γ st) ps xs=some g->g.lend=[]->ps.any PK.isIop=false
 |[],_,_,_,_=>rfl
 |_::_,[],_,u,_=>by simp[a8]at u
 |I::ps,x::xs,g,u,z=>by
  simp only[a8]at u;split at u
  ·rename_i M r;split at u
   ·rename_i J y;simp only[BA]at u;subst u;simp only[List.append_eq_nil_iff]at z;rw[CR,tw ps xs J y z.2,Bool.or_false];cases I with
    |iop b =>
     simp only[ce,bf]at r;split at r
     ·rename_i q _;cases H:decide ((st q).sh=.agg) with
      |false=>simp[H]at r
      |true =>
       rw[H]at r;simp only[cond_true,BB]at r;obtain⟨t,_,rfl⟩:=r;simp at z
     ·cases r
    |_=>rfl
   ·cases u
  ·cases u
theorem o7 {W0:Wit}{S0 S:St}{w0:World}{a0:Act}(h0:aq P V W0 S0 a0 w0){G:Nat->Prop}{p:Bool} :
  ∀ (ps:List PK) (xs:List (aI×List Leaf)) (vs:List Value) (g:Got (ac ps)) (o:ai ps) (r:List (List Nat)),gT P V W0 S0 w0 xs vs->a8 (ce Γ S0) ps xs=some g->ps.any PK.isIo=false->bL w G ps o vs r ->
  (g.lend=[]->aG S p ps xs o=[]/\r.flatten=[]) /\
  (∀ b,g.lend=[b]->∃ (c:Ty) (y:c.den) (cs:List Value) (E:TypeId) (b0:List Nat),aG S p ps xs o=[(b,⟨(S b).ver+2,.agg,ar p c y⟩)]/\w.heap[W0.β b]?=some (.cells cs.toArray E (0,0))/\Mx w G c none 0 y cs b0/\r.flatten=W0.β b::b0/\(S0 b).ls.length=c.cells)
 |[],[],vs,g,o,r,hx,M,_,X=>by
  simp only[a8,BA]at M;subst M;refine⟨λ_=>⟨rfl,?_⟩,λb hb=>by simp at hb⟩
  match vs,r,X with
  |[],[],_=>rfl
 |[],_::_,_,_,_,_,_,M,_,_=>by simp[a8]at M
 |_::_,[],_,_,_,_,_,M,_,_=>by simp[a8]at M
 |pk::ps,x::xs,vs,g,o,r,hx,M,hn,X=>by
  obtain⟨v,a1,cs,rfl,hs,hl,R⟩:=hx;simp only[a8]at M;split at M
  ·rename_i g1 J;split at M
   ·rename_i g2 a2;simp only[BA]at M;subst M;simp only[CR,Ct]at hn;have H:∀ (o':ai ps) (b:List Nat) (I:List (List Nat)),pk.isIop=false->r=b::I->b=[]->bL w G ps o' a1 I->aG S p (pk::ps) (x::xs) o=aG S p ps xs o' ->
      (g1.lend++g2.lend=[]->aG S p (pk::ps) (x::xs) o=[]/\r.flatten=[]) /\
      (∀ b,g1.lend++g2.lend=[b]->∃ (c:Ty) (y:c.den) (cs:List Value) (E:TypeId) (b0:List Nat),aG S p (pk::ps) (x::xs) o=[(b,⟨(S b).ver+2,.agg,ar p c y⟩)]/\w.heap[W0.β b]?=some (.cells cs.toArray E (0,0))/\Mx w G c none 0 y cs b0/\r.flatten=W0.β b::b0/\(S0 b).ls.length=c.cells):=by
     intro o' b I hi e1 e2 a5 e3;subst e1;subst e2;rw[e3,yS J hi];simpa using o7 h0 (S:=S) (p:=p) ps xs a1 g2 o' I R a2 hn.2 a5
    cases pk with
    |iop b =>
     match r,X with
     |O::I,⟨u,z⟩ =>
      obtain⟨r1,r2⟩:=o7 h0 (S:=S) (p:=p) ps xs a1 g2 o.2 I R a2 hn.2 z;simp only[ce,bf]at J;split at J
      ·rename_i q hq;cases hb:decide ((S0 q).sh=.agg) with
       |false=>simp[hb]at J
       |true =>
        rw[hb]at J;simp only[cond_true,BB]at J;obtain⟨t,ht,rfl⟩:=J;refine⟨λhb=>by simp at hb,λb' Y=>?_⟩;simp only[Cm,CU]at Y;obtain⟨rfl,Y⟩:=Y;obtain⟨r3,r4⟩:=r1 Y;obtain⟨a4,_⟩:=gR hs hl hq (by simp);unfold jn at u;rw[if_pos rfl]at u;obtain⟨g',a3,E,b0,hv,Z,hm,rfl⟩:=u;have a6:g'=W0.β q:=by
         have h9:=a4.2.2;rw[hv]at h9;simp only[Value.pointer.injEq,BA,Ca,and_true]at h9;exact h9
        subst a6;refine⟨b,o.1,a3,E,b0,?_,Z,hm,by rw[BX,r4,Br],?_⟩
        rotate_left
        ·rw[h0.len];exact (dO (pos:=0) h0 (iA h0 q) ht).1.len
        simp only[aG,r3,hq,Br];rfl
      ·cases J
    |io b=>simp[PK.isIo]at hn
    |rd b =>
     match r,X with
     |O::I,⟨u,z⟩=>exact H o O I rfl rfl u z rfl
    |own b =>
     match r,X with
     |O::I,⟨u,z⟩=>exact H o O I rfl rfl u z rfl
    |rref b =>
     match r,X with
     |O::I,⟨u,z⟩=>exact H o O I rfl rfl u z rfl
    |rref2 b =>
     match r,X with
     |O::I,⟨u,z⟩=>exact H o O I rfl rfl u z rfl
    |fn As B =>
     match r,X with
     |O::I,⟨u,z⟩=>exact H o O I rfl rfl u z rfl
    |clo f a3 =>
     match r,X with
     |O::I,⟨u,z⟩=>exact H o O I rfl rfl u z rfl
    |hol b cc off =>
     match r,X with
     |O::I,⟨u,z⟩=>exact H o O I rfl rfl u z rfl
   ·cases M
  ·cases M
end
section
variable {P:Program} {V:Env}
theorem wg (hV:ay V){W:Wit}{S:St}{a:Act}{w:World}(h:aq P V W S a w){M:List RK}{y:aj M}{us:List Value}{X:List (List Nat)}{v:Value}{p q:Bool}{ks:List (Nat×Nat×Nat)}{ep:Nat}{G ro:Nat->Prop}
  (Z:gz w G ro M y us X) (hG:∀ k,G k->gd V W p k)
  (hB:M.any RK.isBv=true->(∀ k,G k\/ro k->gd V W q k\/∃ x∈ks,k∈W.bs x.1 x.2.1)/\ep<=(S EPO).ver/\(∀ k∈ks,k.2.2<=(S k.1).ver))
  (H:∀ k∈X.flatten,¬ cf V W S k) (a2:X.flatten.Nodup) (I:sd us v) {d:Nat} (hd:d<V.nt) (a0:∀ x∈V.fixt,x.1≠d) (r:gG S d M=true) :
  ∃ W1,aq P V W1 (ae ((d,eN ((ae (bC d (S (B0+d)).ver p q ks ep M y).2 S d).ver+1) (bC d (S (B0+d)).ver p q ks ep M y).1)::(bC d (S (B0+d)).ver p q ks ep M y).2) S) (a.put (some d) v) w /\
   ∀ z,z≠d->z≠B0+d->W1.cs z=W.cs z:=by
 cases hv:M.all RK.isV with
 |true =>
  obtain⟨m0,cs,a1,m1,m2,m3,m4,m5,m6⟩:=ot (P:=P) (W:=W) (st:=S) (p:=p) (q:=q) (ks:=ks) (ep:=ep) hG d (S (B0+d)).ver M y us X hB Z hv a2;rw[m0];obtain⟨s1,s2,s3⟩:=Bd ((S d).ver+1) m1 I;show ∃ W1,aq P V W1 (ae [(d,eN ((S d).ver+1) (bC d (S (B0+d)).ver p q ks ep M y).1)] S) (a.put (some d) v) w/\_;generalize eN ((S d).ver+1) (bC d (S (B0+d)).ver p q ks ep M y).1=rc at s1 s2 s3 ⊢;obtain⟨v0,b1,b9⟩:=rc;simp only at s1 s2 s3;subst s3;subst s2;have a4:=h.put hV d hd a0 ((S d).ver+1) b1 _ v cs a1 (BM _) s1 m2 m3 m4
   (λj l R ho k Y=>by
    have b2:=m5 j l R ho k Y;have J:=H k b2;simp only[cf,not_or,not_exists,not_and]at J;exact⟨J.1,J.2.1,J.2.2.1,λr1 j1 l1 _ h8 h9=>J.2.2.2 r1 j1 l1 h8 h9⟩) m6
  refine⟨_,a4,λz hz _=>?_⟩;show (if z=d then cs else W.cs z)=_;rw[if_neg hz]
 |false =>
  have hb:∃ b,M=[.box b]:=by
   unfold gG at r;split at r
   ·exact⟨_,rfl⟩
   ·rw[hv]at r;cases r
  obtain⟨b,rfl⟩:=hb;obtain⟨u0,ba,rb,b6,e1,e2,⟨g',cs,E,b0,ab,a6,hm,ad⟩,e3,e4⟩:=Z;subst e3;subst e4;subst e1;subst e2;subst ad;have I:v=u0:=I;subst I;subst ab;have a5:(S (B0+d)).sh=.off:=by simpa[gG]using r
  have O:(g'::b0).Nodup:=by simpa using a2
  rw[CC]at O;obtain⟨a1,m1,m2,m3,m4⟩:=iJ (P:=P) (V:=V) (W:=W) (st:=S) (p:=p) hG hm O.2;have a3:d≠B0+d:=by simp[B0]
  have b3:=H g' (by simp);have a9:=h.setBoxG hV (B0+d) (CQ _ _) ((S (B0+d)).ver+1) (ar p b y.1) cs a1 g' E (w':=w) (BM _)
   (.inr ⟨by simp[live,a5],b3,λj l R ho k Y e0=>O.1 (by rw[<- e0];exact m3 j l R ho k Y)⟩) a6 (λ_ _ _=>rfl) (λ_ _ _ _ _ _ _=>rfl) (BU _) rfl rfl rfl m1 hm.one m2
   (λj l R ho k Y=>by
    have J:=H k (by simp;exact .inr (m3 j l R ho k Y));simp only[cf,not_or,not_exists,not_and]at J;exact⟨J.1,J.2.1,J.2.2.1,λr1 j1 l1 _ h8 h9=>J.2.2.2 r1 j1 l1 h8 h9⟩) m4
  have b4:=a9.put hV d hd a0 ((S d).ver+1) .one [.bp (B0+d) 0] (.pointer (some ⟨g',0,none⟩)) [.pointer (some ⟨g',0,none⟩)] (λ_=>[]) (by rw[aJ a3];exact BM _) rfl rfl (λu J=>by simp at J;subst J;rfl)
   (λj l u R g9=>by
    cases j with
    |zero=>simp at R g9;subst R;subst g9;exact⟨CQ _ _,by rw[bh],by simp⟩
    |succ j=>simp at R)
   (λj l R ho k Y=>by simp at Y) (λj j' l l' _ _ _ _ k Y=>by simp at Y)
  have e1:ae (bC d (S (B0+d)).ver p q ks ep [.box b] y).2 S=ae [(B0+d,⟨(S (B0+d)).ver+1,.agg,ar p b y.1⟩)] S:=rfl;rw[aP,e1,aJ a3];refine⟨_,b4,λz hz b5=>?_⟩;show (if z=d then _ else (if z=B0+d then _ else W.cs z))=_;rw[if_neg hz,if_neg b5]
theorem ux (r:Nat)(c u:bT)(S:St):ae [(r,c)] (ae [(r,u)] S)=ae [(r,c)] S:=by
 funext q;rcases an r q c (ae [(r,u)] S) with ⟨rfl,e⟩|⟨h,e⟩
 ·rw[e,bh]
 ·rw[e,aJ h,aJ h]
theorem yT (hV:ay V){W:Wit}{S:St}{a:Act}{w w':World}(h:aq P V W S a w){b:Nat}(hb:live S b){N:Nat->Prop}{cs:List Value}{E:TypeId}{c:Ty}{y:c.den}{b0:List Nat}{G:Nat->Prop}{p:Bool}
  (a1:w'.heap[W.β b]?=some (.cells cs.toArray E (0,0))) (hm:Mx w' G c none 0 y cs b0) (a3:(W.β b::b0).Nodup) (a6:(S b).ls.length=c.cells)
  (a2:∀ k,cf V W S k->k≠W.β b->w'.heap[k]?=w.heap[k]?) (a9:w.heap.size<=w'.heap.size) (ab:w'.os=w.os) (ht:w'.tape=w.tape) (ho:w'.output=w.output)
  (hN:∀ k,N k->k<w'.heap.size/\¬ cf V W S k) (Z:∀ k∈b0,¬ cf V W S k/\¬ N k) (hG:∀ k,G k->gd V { W with nw:=λk=>W.nw k\/N k } p k) :
  ∃ W1,aq P V W1 (ae [(b,⟨(S b).ver+2,.agg,ar p c y⟩)] S) a w'/\W1.β=W.β/\(∀ k,W1.nw k<->W.nw k\/N k)/\(∀ q,q≠b->W1.cs q=W.cs q)/\(∀ q i,q≠b->W1.bs q i=W.bs q i) /\
   (∀ k,cf V W1 (ae [(b,⟨(S b).ver+2,.agg,ar p c y⟩)] S) k->cf V W S k\/N k\/k∈b0):=by
 have J:∀ (q:Nat),(if q=b then W.β b else W.β q)=W.β q:=λq=>by split <;> simp_all
 have h1:=h.setBoxG hV b hb.1 ((S b).ver+1) (CA cs.length .dead) cs (λ_=>[]) (W.β b) E (w':=w') (BM _) (.inl ⟨hb,rfl⟩) a1 a2 (λ_ _ _ _ k H=>by simp at H) a9 ab ht ho (by simp) hm.one
  (λj l u I R=>by
   rw[CM]at I;split at I
   ·simp at I;subst I;trivial
   ·cases I)
  (λj l I R k H=>by simp at H) (λj j' l l' _ _ _ _ k H=>by simp at H)
 have a0:∀ (j:Nat) (l:Leaf),(CA cs.length Leaf.dead)[j]?=some l->¬ ap l:=by
  intro j l I;rw[CM]at I;split at I
  ·simp at I;subst I;exact id
  ·cases I
 have a4:∀ z,live (ae [(b,⟨(S b).ver+1,.agg,CA cs.length .dead⟩)] S) z->live S z:=by
  intro z Y;rcases an b z ⟨(S b).ver+1,.agg,CA cs.length .dead⟩ S with ⟨rfl,e⟩|⟨_,e⟩
  ·exact hb
  ·exact⟨Y.1,by rw[<- e];exact Y.2⟩
 have b1:∀ k,cf V { W with β:=λr=>if r=b then W.β b else W.β r,cs:=λr=>if r=b then cs else W.cs r,bs:=λr j=>if r=b then [] else W.bs r j } (ae [(b,⟨(S b).ver+1,.agg,CA cs.length .dead⟩)] S) k->cf V W S k:=by
  rintro k (H|H|⟨z,Y,H⟩|⟨z,i,l,I,R,O⟩)
  ·exact .inl H
  ·exact .inr (.inl H)
  ·exact .inr (.inr (.inl ⟨z,a4 z Y,by rw[<- H];exact (J z).symm⟩))
  ·by_cases M:z=b
   ·subst M;rw[bh]at I;exact absurd R (a0 i l I)
   ·rw[aJ M]at I;simp only[if_neg M]at O;exact .inr (.inr (.inr ⟨z,i,l,I,R,O⟩))
 have h2:=h1.nwGrow hV N (λk H=>⟨(hN k H).1,λhu=>(hN k H).2 (b1 k hu)⟩);rw[CC]at a3;obtain⟨X,m1,m2,m3,m4⟩:=iJ (P:=P) (V:=V) (W:={ W with β:=λr=>if r=b then W.β b else W.β r,cs:=λr=>if r=b then cs else W.cs r,bs:=λr j=>if r=b then [] else W.bs r j,nw:=λk=>W.nw k\/N k })
  (st:=ae [(b,⟨(S b).ver+1,.agg,CA cs.length .dead⟩)] S) (p:=p) (λk H=>hG k H) hm a3.2
 have b3:=hm.len;have b2:=cJ p c y;have h3:=h2.reown hV b ⟨(S b).ver+2,.agg,ar p c y⟩ X (by rw[bh];exact BM _) (by rw[bh]) (by rw[bh,Cn];omega)
  (λj l v I R=>m2 j l v I (by simpa using R))
  (λj l I R k H=>by
   have ad:=m3 j l I R k H;obtain⟨q1,q2⟩:=Z k ad;refine⟨λhn=>hn.elim (λhn=>q1 (.inl hn)) q2,λhp=>q1 (.inr (.inl hp)),λz Y e0=>q1 (.inr (.inr (.inl ⟨z,a4 z Y,by rw[<- e0];exact (J z).symm⟩))),λr1 j1 l1 a5 O g4 g5=>?_⟩;rw[aJ a5]at O;have g5:k∈(if r1=b then [] else W.bs r1 j1):=g5;rw[if_neg a5]at g5;exact q1 (.inr (.inr (.inr ⟨r1,j1,l1,O,g4,g5⟩)))) m4
 rw[ux]at h3;refine⟨_,h3,funext λq=>J q,λk=>Cg,λq hq=>if_neg hq,λq i hq=>?_,?_⟩
 ·show (if q=b then X i else if q=b then [] else W.bs q i)=_;rw[if_neg hq,if_neg hq]
 ·rintro k ((H|H)|H|⟨z,Y,H⟩|⟨z,i,l,I,R,O⟩)
  ·exact .inl (.inl H)
  ·exact .inr (.inl H)
  ·exact .inl (.inr (.inl H))
  ·refine .inl (.inr (.inr (.inl ⟨z,?_,by rw[<- H];exact (J z).symm⟩)));rcases an b z ⟨(S b).ver+2,.agg,ar p c y⟩ S with ⟨rfl,e⟩|⟨_,e⟩
   ·exact hb
   ·exact⟨Y.1,by rw[<- e];exact Y.2⟩
  ·by_cases M:z=b
   ·subst M;rw[bh]at I;have O:k∈(if z=z then X i else _):=O;rw[if_pos rfl]at O;exact .inr (.inr (m3 i l I R k O))
   ·rw[aJ M]at I;have O:k∈(if z=b then X i else if z=b then [] else W.bs z i):=O;rw[if_neg M,if_neg M]at O;exact .inl (.inr (.inr (.inr ⟨z,i,l,I,R,O⟩)))
end
section
variable {P:Program} {V:Env} {Γ:List Ctr} {st:St} {R:Type}
theorem gB:∀ (ps:List PK) (xs:List (aI×List Leaf)) (r:Upd->List (aI×List Leaf)->Option (Bool×Nat×Nat)->Option R),kv st ps xs r=(cX st ps xs).bind λu=>r u.1 u.2.1 u.2.2
 |[],xs,r=>rfl
 |_::_,[],r=>rfl
 |p::ps,x::xs,r=>by
  simp only[kv,cX];split
  ·rw[hH];cases cm st (x.2.getD _ .dead) <;> rfl
  ·rw[gB ps xs];cases cX st ps xs <;> rfl
theorem kZ {a:Ty}:∀ {ls:List Leaf} {j k:Nat},ll a j ls=some k->j<=k/\∃ l,ls[k-j]?=some l/\jj l=true
 |[],_,_,h=>by simp[ll]at h
 |l::ls,j,k,h=>by
  simp only[ll]at h;cases r:jj l&&po a j with
  |true =>
   rw[r]at h;simp only[cond_true,BA]at h;subst h;simp only[BC]at r;exact⟨BU _,l,by simp,r.1⟩
  |false =>
   rw[r]at h;obtain⟨H,z,u,y⟩:=kZ h;exact⟨by omega,z,by rw[show k-j=(k-(j+1))+1 by omega];simpa using u,y⟩
theorem rr {p:PK}{ls:List Leaf}{k:Nat}(h:p.nest ls=some k):∃ l,ls[k]?=some l/\jj l=true:=by
 cases p with
 |own a=>obtain⟨_,l,u,r⟩:=kZ h;exact⟨l,by simpa using u,r⟩
 |io a=>obtain⟨_,l,u,r⟩:=kZ h;exact⟨l,by simpa using u,r⟩
 |_=>simp[PK.nest]at h
theorem tx (u:ay V){W W':Wit}{st':St}{w w':World}(z:cF V W W' st st' w w'):∀ {xs:List (aI×List Leaf)} {y:List Value},gT P V W st w xs y->gT P V W' st' w' xs y
 |[],_,h=>h
 |_::_,_,⟨v,r,M,e,H,I,J⟩=>⟨v,r,M,e,H,I.carry u.ro z,tx u z J⟩
theorem aD.setLeaf {W:Wit}{w:World}{ls:List Leaf}{cs:List Value}(u:aD P V W st w ls cs){k:Nat}{l:Leaf}(H:¬ ap l)(h:∀ v,cs[k]?=some v->aK P V W st w [] l v):aD P V W st w (aT ls k l) cs:=by
 have r:=u.length;refine aD.mk (by simp[aT,r]) λj J v z y=>?_
 rcases aR _ _ _ _ _ z with ⟨rfl,rfl,M⟩|⟨I,z⟩
 ·exact⟨h v y,H,u.one' v (List.mem_of_getElem? y)⟩
 ·exact u.at_ j J v z y
def Be (W:Wit)(S:St)(w:World):Option (Bool×Nat×Nat)->Prop
 |some (_,r,j)=>∃ v,W.cs TMP=[v]/\tr W S w r j v
 |none=>True
theorem ou (X:ay V){W:Wit}{a:Act}{w:World}(h:aq P V W st a w):∀ (ps:List PK) (xs:List (aI×List Leaf)) (Y:List Value) (U:Upd) (Z:List (aI×List Leaf)) (b:Option (Bool×Nat×Nat)),
  gT P V W st w xs Y->cX st ps xs=some (U,Z,b)->∃ H,aq P V H (ae U st) a w/\gT P V H (ae U st) w Z Y/\H.nw=W.nw/\H.β=W.β/\Be H (ae U st) w b/\cF V W H st (ae U st) w w/\(∀ q,(ae U st q).sh=(st q).sh\/q=TMP) /\
   (∀ f r j,b=some (f,r,j)->f=true->ps.any PK.isIo=true)
 |[],xs,Y,U,Z,b,hx,y=>by
  simp only[cX,BA,B4]at y;obtain⟨rfl,rfl,rfl⟩:=y;exact⟨W,h,hx,rfl,rfl,trivial,cF.refl V W st w,λ_=>.inl rfl,λ_ _ _ h=>by cases h⟩
 |_::_,[],Y,U,Z,b,hx,y=>by
  simp only[cX,BA,B4]at y;obtain⟨rfl,rfl,rfl⟩:=y;exact⟨W,h,hx,rfl,rfl,trivial,cF.refl V W st w,λ_=>.inl rfl,λ_ _ _ h=>by cases h⟩
 |p::ps,x::xs,Y,U,Z,b,⟨v,M,cs,e,hs,hl,z⟩,y=>by
  subst e;simp only[cX]at y;split at y
  ·rename_i k hk;simp only[BB]at y;obtain⟨u,I,y⟩:=y;simp only[B4]at y;obtain⟨rfl,rfl,rfl⟩:=y;obtain⟨l,J,a1⟩:=rr hk;have hg:x.2.getD k .dead=l:=by rw[B6,J];rfl
   rw[hg]at I ⊢;have a0:k<cs.length:=by rw[<- hl.length];exact (BD.1 J).1
   have O:=BS a0;obtain⟨U,l'⟩:=u;obtain⟨H,n,p0,E0,e0,a2,g1,g2,g3,g4,_,_,g5,g6,_,g7,g8,g9⟩:=uX X h (hl.at_ k l _ J O).1 I;subst g3;refine⟨H,g1,⟨v,M,cs,rfl,hs,(hl.carry X.ro g2).setLeaf id λu I=>?_,tx X g2 z⟩,g5,g6,⟨_,g7,g9⟩,g2,g8,λf r j hb hf=>?_⟩
   ·rw[O]at I;simp only[BA]at I;subst I;exact g4
   ·simp only[BA,B4]at hb;rw[CR,hb.1,hf];rfl
  ·simp only[BB]at y;obtain⟨u,I,y⟩:=y;simp only[B4]at y;obtain⟨rfl,rfl,rfl⟩:=y;obtain⟨H,g1,g2,g3,g4,g5,g6,g7,g8⟩:=ou X h ps xs M u.1 u.2.1 u.2.2 z I;exact⟨H,g1,⟨v,M,cs,rfl,hs,hl.carry X.ro g6,g2⟩,g3,g4,g5,g6,g7,λf r j hb hf=>by rw[CR,g8 f r j hb hf,Bool.or_true]⟩
end
section
variable {P:Program} {V:Env} {Γ:List Ctr} {st:St}
theorem iK {st:St}{q i:Nat}:∀ {ks:List (Nat×Nat)},(q,i)∉ks->(ae (aF st ks) st q).ls[i]?=(st q).ls[i]?
 |[],_=>rfl
 |(r,j)::ks,h=>by
  simp only[CJ,not_or]at h;have e:ae (aF st ((r,j)::ks)) st=ae [(r,fV (ae (aF st ks) st r) j)] (ae (aF st ks) st):=aP _ _ _ _;rw[e];rcases an r q (fV (ae (aF st ks) st r) j) (ae (aF st ks) st) with ⟨rfl,e⟩|⟨_,e⟩
  ·rw[e];simp only[fV,aT];rw[CG (λu=>h.1 (by rw[u]))];exact iK h.2
  ·rw[e];exact iK h.2
theorem k6 {st:St}{q i:Nat}:∀ {ks:List (Nat×Nat)},(q,i)∉ks->(ae (aN st ks) st q).ls[i]?=(st q).ls[i]?
 |[],_=>rfl
 |(r,j)::ks,h=>by
  simp only[CJ,not_or]at h;have e:ae (aN st ((r,j)::ks)) st=ae [(r,f9 (ae (aN st ks) st r) j)] (ae (aN st ks) st):=aP _ _ _ _;rw[e];rcases an r q (f9 (ae (aN st ks) st r) j) (ae (aN st ks) st) with ⟨rfl,e⟩|⟨_,e⟩
  ·rw[e];simp only[f9,aT];rw[CG (λu=>h.1 (by rw[u]))];exact k6 h.2
  ·rw[e];exact k6 h.2
theorem nh (d n:Nat)(p q:Bool)(ks:List (Nat×Nat×Nat))(ep:Nat):∀ (z:List RK) (y:aj z),∀ x∈(bC d n p q ks ep z y).2,x.1=B0+d
 |[],_,x,u=>by simp[bC]at u
 |r::z,y,x,u=>by
  simp only[bC,BL]at u;rcases u with u|u
  ·cases r <;> simp[pn]at u;rw[u]
  ·exact nh d n p q ks ep z y.2 x u
theorem ru {q:Nat}(st:St):∀ (U:Upd),(∀ x∈U,x.1≠q)->ae U st q=st q
 |[],_=>rfl
 |(r,c)::U,h=>by
  rw[aP,aJ (CH (h (r,c) (BW ..)))];exact ru st U (λx u=>h x (BP _ u))
def mo (u:St)(c:Ctr)(d:Nat)(xs:List (aI×List Leaf))(g:Got (ac c.ps))(y:aj c.rs×ai c.ps):Upd :=
 let H:=(let U:=(bif c.fresh then [] else aF u g.frz);aN (ae U u) g.kill++U);let z:=aG (ae H u) (g.p&&!c.fresh) c.ps xs y.2++H;let r:=bC d (ae z u (B0+d)).ver (g.p&&!c.fresh) g.p (g.frz.map λk=>(k.1,k.2,(ae z u k.1).ver)) (ae z u EPO).ver c.rs y.1
 (d,eN ((ae (r.2++z) u d).ver+1) r.1)::(r.2++z)
theorem yU (hV:ay V){W0:Wit}{u:St}{a:Act}{w:World}(h0:aq P V W0 u a w){c:Ctr}{xs:List (aI×List Leaf)}{vs:List Value}(cx:gT P V W0 u w xs vs){g:Got (ac c.ps)}(hg:a8 (ce Γ u) c.ps xs=some g)
  (hf:∀ z∈g.frz,aC u z) (H:∀ z∈g.kill,aC u z) (et:∀ b∈g.lend,live u b) (e0:aY g.kill=true) (e6:dD g.frz g.kill=true) (hE:∀ z∈g.kill,z.1≠EPO) (b4:g.lend.length<=1) (f0:g.lend=[]\/c.ps.any PK.isIo=false)
  {b9:List (List Nat)} (bn:∀ k,b9.flatten.count k=(g.lend.map W0.β).count k+(aX W0 g.kill).count k)
  {d:Nat} (hd:d<V.nt) (ec:∀ x∈V.fixt,x.1≠d) (a3:gG u d c.rs=true) (ef:((c.fresh&&g.lend.isEmpty)||!(c.rs.any RK.isBv))=true) {y:aj c.rs×ai c.ps} {e:Ending} {w':World} (cp:tt c w (bj V W0 g.p g.frz) vs b9 y e w') :
  ∃ v,e=.returned v/\∃ W1,aq P V W1 (ae (mo u c d xs g y) u) (a.put (some d) v) w'/\(∀ q,q≠d->q≠B0+d->q∉g.lend->W1.cs q=W0.cs q) /\
   (∀ q i,q≠d->q≠B0+d->q∉g.lend->(q,i)∉g.frz->(q,i)∉g.kill->(ae (mo u c d xs g y) u q).ls[i]?=(u q).ls[i]?)/\(∀ k,k<w.heap.size->k∉aX W0 g.kill->k∉g.lend.map W0.β->w'.heap[k]?=w.heap[k]?)/\w.heap.size<=w'.heap.size:=by
 obtain⟨v,us,N,c1,b6,rfl,cy,c2,dc,d1,d3,en,hN,bb,e7,R,Z⟩:=cp;have a4:∀ k,k∈b9.flatten<->k∈g.lend.map W0.β\/k∈aX W0 g.kill:=λk=>by
  rw[<- BK,<- BK,<- BK,bn k];omega
 have a0:∀ k,k<w.heap.size->k∉aX W0 g.kill->k∉g.lend.map W0.β->w'.heap[k]?=w.heap[k]?:=λk h1 h2 h3=>en k h1 (λh=>((a4 k).1 h).elim h3 h2)
 refine⟨v,rfl,?_⟩;unfold mo;generalize ba:(bif c.fresh then [] else g.frz)=O;have hU:(bif c.fresh then [] else aF u g.frz)=aF u O:=by rw[<- ba];cases c.fresh <;> rfl
 have e5:dD O g.kill=true:=by rw[<- ba];cases c.fresh with|true=>rfl|false=>exact e6
 have bx:∀ z∈O,z∈g.frz:=by rw[<- ba];cases c.fresh with|true=>simp|false=>exact λ_ h=>h
 have f1:∀ z∈O,aC u z:=λz hz=>hf z (bx z hz)
 rw[hU];obtain⟨h1,h2,h3,h4⟩:=fE hV h0 e5 H;have ad:∀ q i,(q,i)∉g.frz->(q,i)∉g.kill->(ae (aN (ae (aF u O) u) g.kill++aF u O) u q).ls[i]?=(u q).ls[i]?:=λq i q1 q2=>by
  rw[bA,k6 q2,iK (λh=>q1 (bx _ h))]
 generalize f2:aN (ae (aF u O) u) g.kill++aF u O=I at h1 h2 h3 h4 ad;have a1:∀ k∈aX W0 g.kill,¬ cf V (W0.frz u O) (ae I u) k:=λk H=>mj ⟨(h4 k H).1,(h4 k H).2.1,(h4 k H).2.2.2.1,(h4 k H).2.2.2.2⟩
 have a2:∀ k,pZ w w' b9.flatten k->k∉g.lend.map W0.β->k<w'.heap.size/\¬ cf V (W0.frz u O) (ae I u) k:=by
  rintro k ⟨ex,a6⟩ ej;refine⟨ex,λJ=>?_⟩;rcases a6 with a6|a6
  ·have:=h1.used_lt k J;omega
  ·exact ((a4 k).1 a6).elim ej (λa6=>a1 k a6 J)
 have hG:∀ k,(N k\/(c.fresh=false/\bj V W0 g.p g.frz k))->gd V { W0.frz u O with nw:=λk=>(W0.frz u O).nw k\/N k } (g.p&&!c.fresh) k:=by
  rintro k (H|⟨dd,H⟩)
  ·exact .inl (.inr H)
  ·have e1:O=g.frz:=by rw[<- ba,dd];rfl
   have:=kg (V:=V) (W:=W0) (p:=g.p) hf k H;rw[dd];rw[<- e1]at this;exact bU (W':={ W0.frz u O with nw:=λk=>(W0.frz u O).nw k\/N k }) (by intro h;simp[h]) (λ_ h=>Or.inl h) k this
 rw[B8]at R;have c5:∀ (W2:Wit),aq P V W2 (ae (aG (ae I u) (g.p&&!c.fresh) c.ps xs y.2++I) u) a w'->(∀ k,(N k\/(c.fresh=false/\bj V W0 g.p g.frz k))->gd V W2 (g.p&&!c.fresh) k) ->
   (∀ k∈b6.flatten,¬ cf V W2 (ae (aG (ae I u) (g.p&&!c.fresh) c.ps xs y.2++I) u) k) ->
   (c.rs.any RK.isBv=true->∀ x∈g.frz,∀ k,k∈W0.bs x.1 x.2->k∈W2.bs x.1 x.2)->(c.rs.any RK.isBv=true->∀ k,W0.nw k->W2.nw k) ->
   (∀ q,q∉g.lend->W2.cs q=W0.cs q)->(∀ q i,q∉g.lend->(q,i)∉g.frz->(q,i)∉g.kill->(ae (aG (ae I u) (g.p&&!c.fresh) c.ps xs y.2++I) u q).ls[i]?=(u q).ls[i]?) ->
   (∀ q,(ae (aG (ae I u) (g.p&&!c.fresh) c.ps xs y.2++I) u q).sh=(u q).sh) ->
   ∃ W1,aq P V W1 (ae (let Y:=aG (ae I u) (g.p&&!c.fresh) c.ps xs y.2++I
     let r:=bC d (ae Y u (B0+d)).ver (g.p&&!c.fresh) g.p (g.frz.map λk=>(k.1,k.2,(ae Y u k.1).ver)) (ae Y u EPO).ver c.rs y.1
     (d,eN ((ae (r.2++Y) u d).ver+1) r.1)::(r.2++Y)) u) (a.put (some d) v) w'/\(∀ q,q≠d->q≠B0+d->q∉g.lend->W1.cs q=W0.cs q) /\
    (∀ q i,q≠d->q≠B0+d->q∉g.lend->(q,i)∉g.frz->(q,i)∉g.kill->(ae (let Y:=aG (ae I u) (g.p&&!c.fresh) c.ps xs y.2++I
     let r:=bC d (ae Y u (B0+d)).ver (g.p&&!c.fresh) g.p (g.frz.map λk=>(k.1,k.2,(ae Y u k.1).ver)) (ae Y u EPO).ver c.rs y.1
     (d,eN ((ae (r.2++Y) u d).ver+1) r.1)::(r.2++Y)) u q).ls[i]?=(u q).ls[i]?):=by
  intro W2 g1 ed a5 eb eg e4 bl c0;generalize aG (ae I u) (g.p&&!c.fresh) c.ps xs y.2++I=Y at g1 a5 bl c0 ⊢;have c4:gG (ae Y u) d c.rs=true:=by
   unfold gG at a3 ⊢;split at a3
   ·rw[c0];exact a3
   ·exact a3
  obtain⟨W1,q1,q2⟩:=wg hV g1 (q:=g.p) (ks:=g.frz.map λk=>(k.1,k.2,(ae Y u k.1).ver)) (ep:=(ae Y u EPO).ver) e7 ed (λhb=>by
   refine⟨λk H=>?_,BU _,λk H=>?_⟩
   ·rcases H with H|(H|H)|⟨x,hx,H⟩
    ·exact .inl (bU (W':=W2) (by intro h;simp at h;exact h.1) (λ_ h=>h) k (ed k H))
    ·exact .inl (.inl (eg hb k H))
    ·exact .inl (.inr H)
    ·exact .inr ⟨(x.1,x.2,(ae Y u x.1).ver),Cj.2 ⟨x,hx,rfl⟩,eb hb x hx k H⟩
   ·obtain⟨x,hx,rfl⟩:=Cj.1 H;exact BU _) a5 R.2.1 cy hd ec c4
  have e1:∀ (X:Upd) (C:bT),ae ((d,C)::(X++Y)) u=ae ((d,C)::X) (ae Y u):=λX C=>by
   rw[aP d C (X++Y),aP d C X,bA]
  simp only[e1,bA];refine⟨W1,q1,λq hq cb c3=>(q2 q hq cb).trans (e4 q c3),λq i hq cb c3 ab a9=>?_⟩;rw[aP,aJ hq,ru _ _ (λx hx=>by rw[nh _ _ _ _ _ _ _ _ x hx];exact CH cb)];exact bl q i c3 ab a9
 refine (?_:∃ W1,_/\_/\_).imp λW1 hh=>⟨hh.1,hh.2.1,hh.2.2,a0,c2⟩
 cases M:g.lend with
 |nil =>
  rw[M]at a4 a0 a2 bn;simp only[C0,List.not_mem_nil,not_false_iff,true_implies,forall_const,false_or]at a4 a0 a2;rw[M]at c5;have h5:=h1.world hV c2 dc d1 d3 (λk H=>a0 k (h1.used_lt k H) (λhm=>a1 k hm H));have h6:=h5.nwGrow hV N (λk H=>a2 k (hN k H));have cu:∀ k,cf V { W0.frz u O with nw:=λk=>(W0.frz u O).nw k\/N k } (ae I u) k->cf V (W0.frz u O) (ae I u) k\/N k:=by
   rintro k ((H|H)|H|H|H)
   ·exact .inl (.inl H)
   ·exact .inr H
   ·exact .inl (.inr (.inl H))
   ·exact .inl (.inr (.inr (.inl H)))
   ·exact .inl (.inr (.inr (.inr H)))
  have b1:∀ k∈c1.flatten++b6.flatten,¬ cf V { W0.frz u O with nw:=λk=>(W0.frz u O).nw k\/N k } (ae I u) k:=λk H J=>by
   obtain⟨q1,q2⟩:=Z k H;rcases cu k J with J|J
   ·exact (a2 k q1).2 J
   ·exact q2 J
  obtain⟨W2,g1,g2,g3,g4,g5,g6,g7⟩:=qE (Γ:=Γ) hV (W0:=W0) (W:={ W0.frz u O with nw:=λk=>(W0.frz u O).nw k\/N k }) (p:=g.p&&!c.fresh) rfl hG h6 c.ps xs vs g y.2 c1 cx hg (tw c.ps xs g hg M) bb e0 hE
   (λx hx l hl ho=>(h2 x.1 x.2 l hl ho).2.2 hx) (λk H=>b1 k (BJ _ H)) R.1
  rw[<- bA]at g1 g5 g6 g7;refine c5 W2 g1 (λk H=>?_) (λk H J=>?_) (λhb x hx k H=>?_) (λhb k H=>?_) (λq _=>by rw[g2];rfl) (λq i _ ab a9=>(g6 q i a9).1.trans (ad q i ab a9)) (λq=>(g5 q).1.trans (h3 q).1)
  ·rcases hG k H with H|H
   ·exact .inl (by rw[g4];exact H)
   ·exact .inr H
  ·rcases g7 k J with J|J
   ·exact b1 k (BE _ H) J
   ·exact R.2.2 k J k H rfl
  ·rw[(g6 x.1 x.2 (nG e6 x hx)).2];exact H
  ·rw[g4];exact .inl (.inl H)
 |cons b cw =>
  have cc:cw=[]:=by
   rw[M]at b4;simp at b4;exact b4
  subst cc;have em:c.ps.any PK.isIo=false:=f0.resolve_left (by rw[M];simp);have d2:c.rs.any RK.isBv=false:=by
   rw[M]at ef;simpa using ef
  obtain⟨_,r2⟩:=o7 (Γ:=Γ) h0 (S:=ae I u) (p:=g.p&&!c.fresh) c.ps xs vs g y.2 c1 cx hg em bb;obtain⟨cT,yv,cs,E,b0,r3,r4,r5,r6,r7⟩:=r2 b M;rw[r6]at R Z;have hβ:(W0.frz u O).β=W0.β:=rfl;have b5:∀ k,k∈g.lend.map W0.β<->k=W0.β b:=λk=>by rw[M];simp
  have hb:live (ae I u) b:=(iC (λq=>(h3 q).1) b).2 (et b (by rw[M];simp));have c6:∀ k,k∈(W0.β b::b0)++b6.flatten->¬ N k:=λk H=>(Z k H).2
  obtain⟨W2,g1,g2,g3,g4,g5,g6⟩:=yT hV h1 hb (N:=N) (p:=g.p&&!c.fresh) r4 r5 R.1 (by rw[h1.len b];show (W0.cs b).length=_;rw[<- h0.len b];exact r7)
   (λk J ev=>a0 k (h1.used_lt k J) (λhm=>a1 k hm J) (λhm=>ev ((b5 k).1 hm))) c2 dc d1 d3
   (λk H=>a2 k (hN k H) (λhm=>c6 _ (BJ _ (BW ..)) (by rw[<- (b5 k).1 hm];exact H)))
   (λk H=>⟨(a2 k (Z k (BJ _ (BP _ H))).1 (λhm=>by
    have:=(b5 k).1 hm;subst this;exact (CC.1 R.1).1 H)).2,c6 k (BJ _ (BP _ H))⟩) hG
  have e2:ae (aG (ae I u) (g.p&&!c.fresh) c.ps xs y.2++I) u=ae [(b,⟨(ae I u b).ver+2,.agg,ar (g.p&&!c.fresh) cT yv⟩)] (ae I u):=by rw[bA,r3]
  have es:∀ k∈b6.flatten,k∉g.lend.map W0.β:=λk H hm=>R.2.2 _ (BW ..) k H ((b5 k).1 hm).symm
  rw[<- e2]at g1 g6;have b2:=c5 W2 g1 (λk H=>?_) (λk H J=>?_) (λb3=>by rw[d2]at b3;cases b3) (λb3=>by rw[d2]at b3;cases b3) (λq hq=>?_) (λq i hq ab a9=>?_) (λq=>?_)
  ·rw[M]at b2;exact b2
  ·rcases hG k H with H|H
   ·exact .inl ((g3 k).2 H)
   ·exact .inr H
  ·rcases g6 k J with J|J|J
   ·exact (a2 k (Z k (BE _ H)).1 (es k H)).2 J
   ·exact c6 k (BE _ H) J
   ·exact R.2.2 k (BP _ J) k H rfl
  ·rw[M]at hq;rw[g4 q (by simpa using hq)];rfl
  ·rw[M]at hq;rw[e2,aJ (by simpa using hq)];exact ad q i ab a9
  ·rw[e2];rcases an b q ⟨(ae I u b).ver+2,.agg,ar (g.p&&!c.fresh) cT yv⟩ (ae I u) with ⟨rfl,e3⟩|⟨_,e3⟩
   ·rw[e3];have:=hb.2;rw[(h3 q).1]at this;exact this.symm
   ·rw[e3];exact (h3 q).1
end
section
variable {P:Program} {V:Env} {Γ:List Ctr} {T:TypeId->TI} {st:St} {o:Oper} {R:Type} {κ:Upd->Option R} {r:R}
theorem yV {ls:List Leaf}{j:Nat}{p:Bool}{u:Option (Nat×Nat)}{E:TypeId}{e:Ty}{xs:List e.den}(h:ls.getD j .dead=.own p u E e xs):ls[j]?=some (.own p u E e xs):=by
 rw[B6]at h;cases y:ls[j]? with
 |none=>rw[y]at h;simp at h
 |some z=>rw[y]at h;simp at h;rw[h]
theorem Al (hV:ay V){b:Option (Bool×Nat×Nat)}{U:Upd}(h:jN st b U κ=some r) :
  ∃ U',κ U'=some r/\∀ I a w,aq P V I (ae U st) a w->(∀ q j,b=some (true,q,j)->∃ v,I.cs TMP=[v]/\tr I (ae U st) w q j v)->Rel P V (ae U' st) a w:=by
 unfold jN at h;split at h
 ·rename_i q j;split at h
  ·rename_i p i off E' e' xs q' E e ys hq b2;obtain⟨y,hy,h⟩:=Bv.1 h;obtain⟨_,_,hy⟩:=gl hy;simp only[C3]at hy;split at h
   ·rename_i z hz;refine⟨_,h,λI a w hr hb=>?_⟩;obtain⟨v,bn,a2,c0,i0,b6,p0,E0,e0,c2,g,c4,g1,g2,g3,g4⟩:=hb q j rfl;have hq:=yV hq;rw[hq]at g1;obtain⟨rfl,ba,rfl,h4⟩:p=p0/\some (i,off)=some (i0,b6)/\E'=E0/\(⟨e',xs⟩:(e:Ty)×List e.den)=⟨e0,c2⟩:=by
     simp only[BA,Leaf.own.injEq]at g1;obtain⟨q1,q2,q3,q4,q5⟩:=g1;subst q4;rw[heq_eq_eq]at q5;subst q5;exact⟨q1,by simpa using q2,q3,rfl⟩
    simp only[BA,B4]at ba;obtain⟨rfl,rfl⟩:=ba;simp only[Sigma.mk.injEq]at h4;obtain⟨rfl,h4⟩:=h4;rw[heq_eq_eq]at h4;subst h4;generalize hS:ae U st=S at hr hq g1 g2 g3 b2 ⊢;have a6:(S TMP).ls[0]?=some (.own q' none E e ys):=by rw[b2];rfl
    have b9:(I.cs TMP)[0]?=some v:=by rw[bn];rfl
    have ab:=hr.leaf q j _ _ hq g2;have b1:=hr.leaf TMP 0 _ _ a6 b9;have ab:OwH w (gd V I p) (some (i,off)) E' e' xs _ (I.bs q j):=ab;have b1:Ow w (gd V I q') E e ys v (I.bs TMP 0):=b1;have b3:=ab.carry (G':=gd V I (p||q')) (bU (W':=I) (by intro h;simp[h]) (λ_ h=>h)) (λ_ _=>rfl) (λ_ _=>rfl);have b5:=OwH.carry (G':=gd V I (p||q')) b1 (bU (W':=I) (by intro h;simp[h]) (λ_ h=>h)) (λ_ _=>rfl) (λ_ _=>rfl);have c1:∀ k∈I.bs TMP 0,k∉I.bs q j:=λk M Z=>a2 (hr.sep TMP 0 _ q j _ a6 trivial hq trivial k M Z).1.symm
    obtain⟨b0,bl,bb⟩:=b3.back b5 c1 hy hz (λg' c3 e1=>by
     simp only[Bx,BA,Ca,and_true]at e1;rw[<- e1.1];exact g4)
    have bx:∀ k∈b0,k∈I.bs q j\/k∈I.bs TMP 0:=λk M=>by
     have h5:=bb k;have h6:=BK.2 M;by_cases h7:k∈I.bs q j
     ·exact .inl h7
     ·have:=BZ.2 h7;exact .inr (BK.1 (by omega))
    obtain⟨h1,c5⟩:=hr.putGhost hV TMP iU.1 iU.2.1 ((S TMP).ver+1) .off [] [] (λ_=>[]) (BM _) rfl (by simp) (λj l u hj=>by simp at hj) (λj l hj=>by simp at hj) (λj j' l l' hj=>by simp at hj);have a4:∀ x,x≠TMP->ae [(TMP,⟨(S TMP).ver+1,.off,[]⟩)] S x=S x:=λx hx=>aJ hx _ _
    have a9:(ae [(TMP,⟨(S TMP).ver+1,.off,[]⟩)] S) q=S q:=a4 q a2;have H:∀ (Y:Nat) (l':Leaf),Y≠j->(aT (S q).ls j (.own (p||q') none E' e' (xs.set i z)))[Y]?=some l'->(S q).ls[Y]?=some l':=by
     intro Y l' a3 a1;rcases aR _ _ _ _ _ a1 with ⟨rfl,_,_⟩|⟨_,a1⟩
     ·exact absurd rfl a3
     ·exact a1
    have b4:∀ (l':Leaf),(aT (S q).ls j (.own (p||q') none E' e' (xs.set i z)))[j]?=some l'->l'=.own (p||q') none E' e' (xs.set i z):=by
     intro l' a1;rcases aR _ _ _ _ _ a1 with ⟨_,rfl,_⟩|⟨a3,_⟩
     ·rfl
     ·exact absurd rfl a3
    have a5:∀ b,live (ae [(TMP,⟨(S TMP).ver+1,.off,[]⟩)] S) b->live S b:=λb hb=>by
     have:b≠TMP:=by have:=hb.1;have:=iU.2.1;omega
     exact⟨hb.1,by rw[<- a4 b this];exact hb.2⟩
    have ad:∀ k∈b0,¬ I.nw k/\¬ V.prot k/\(∀ b,live S b->I.β b≠k)/\∀ (O i1:Nat) (l1:Leaf),(S O).ls[i1]?=some l1->ap l1->(O,i1)≠(q,j)->O≠TMP->k∉I.bs O i1:=λk M=>by
     rcases bx k M with M|M
     ·have h9:=hr.ownb q j _ hq trivial k M;exact⟨h9.1,h9.2.1,h9.2.2,λO i1 l1 g5 g6 g7 _ g8=>g7 (by obtain⟨e1,e2⟩:=hr.sep O i1 l1 q j _ g5 g6 hq trivial k g8 M;rw[e1,e2])⟩
     ·have h9:=hr.ownb TMP 0 _ a6 trivial k M;exact⟨h9.1,h9.2.1,h9.2.2,λO i1 l1 g5 g6 _ g7 g8=>g7 (hr.sep O i1 l1 TMP 0 _ g5 g6 a6 trivial k g8 M).1⟩
    have h2:=(h1.reownE hV q ⟨(S q).ver,(S q).sh,aT (S q).ls j (.own (p||q') none E' e' (xs.set i z))⟩ (λY=>if Y=j then b0 else I.bs q Y) c0 (by rw[a9];exact BU _) (by rw[a9]) (by rw[a9];simp[aT])
     (λY l' u g5 g6=>by
      have g6:(if q=TMP then [] else I.cs q)[Y]?=some u:=g6;rw[if_neg a2]at g6;by_cases J:Y=j
      ·subst J;obtain rfl:=b4 l' g5;rw[g2]at g6;simp only[BA]at g6;subst g6;simp only[if_true];exact bl
      ·simp only[if_neg J];have:=h1.leaf q Y l' u (by rw[a9];exact H Y l' J g5) (by show (if q=TMP then [] else I.cs q)[Y]?=_;rw[if_neg a2];exact g6);have e0:(if q=TMP then ([]:List Nat) else I.bs q Y)=I.bs q Y:=if_neg a2;simp only[e0]at this;exact this)
     (λY l' g5 g6 k M=>by
      by_cases J:Y=j
      ·subst J;simp only[if_true]at M;obtain⟨q1,q2,q3,q4⟩:=ad k M;refine⟨q1,q2,λb hb=>q3 b (a5 b hb),λO j1 l1 a3 g7 g8 g9=>?_⟩;by_cases a0:O=TMP
       ·subst a0;rw[bh]at g7;simp at g7
       ·rw[a4 O a0]at g7;have g9:k∈(if O=TMP then [] else I.bs O j1):=g9;rw[if_neg a0]at g9;exact q4 O j1 l1 g7 g8 (λe=>a3 (by cases e;rfl)) a0 g9
      ·simp only[if_neg J]at M;have a1:=H Y l' J g5;have h9:=hr.ownb q Y l' a1 g6 k M;refine⟨h9.1,h9.2.1,λb hb=>h9.2.2 b (a5 b hb),λO j1 l1 a3 g7 g8 g9=>?_⟩;by_cases a0:O=TMP
       ·subst a0;rw[bh]at g7;simp at g7
       ·rw[a4 O a0]at g7;have g9:k∈(if O=TMP then [] else I.bs O j1):=g9;rw[if_neg a0]at g9;exact a3 (hr.sep q Y l' O j1 l1 a1 g6 g7 g8 k M g9).1.symm)
     (λi1 i2 l1 l2 g5 g6 g7 g8 k M Z=>by
      by_cases J:i1=j <;> by_cases X:i2=j
      ·omega
      ·subst J;simp only[if_true]at M;simp only[if_neg X]at Z;exact absurd Z ((ad k M).2.2.2 q i2 l2 (H i2 l2 X g7) g8 (λe=>X (by cases e;rfl)) a2)
      ·subst X;simp only[if_true]at Z;simp only[if_neg J]at M;exact absurd M ((ad k Z).2.2.2 q i1 l1 (H i1 l1 J g5) g6 (λe=>J (by cases e;rfl)) a2)
      ·simp only[if_neg J]at M;simp only[if_neg X]at Z;exact (hr.sep q i1 l1 q i2 l2 (H i1 l1 J g5) g6 (H i2 l2 X g7) g8 k M Z).2)).1
    show ∃ W,aq P V W _ a w;have e1:ae ((q,⟨(S q).ver,(S q).sh,aT (S q).ls j (.own (p||q') none E' e' (xs.set i z))⟩)::(TMP,⟨(S TMP).ver+1,.off,[]⟩)::(EPO,bV (S EPO))::U) st =
      ae [(q,⟨(S q).ver,(S q).sh,aT (S q).ls j (.own (p||q') none E' e' (xs.set i z))⟩),(EPO,bV (ae [(TMP,⟨(S TMP).ver+1,.off,[]⟩)] S EPO))] (ae [(TMP,⟨(S TMP).ver+1,.off,[]⟩)] S):=by
     rw[a4 EPO (CH iU.2.2),aP q,aP TMP,aP EPO,hS,aP q _ [(EPO,bV (S EPO))],mX iU.2.2]
    rw[e1];exact⟨_,h2⟩
   ·cases h
  ·cases h
 ·exact⟨_,h,λI a w hr _=>⟨I,hr⟩⟩
theorem u5 (hV:ay V)(hΓ:∀ c∈Γ,bP P c){d:Nat}(hd:d<V.nt)(dc:∀ x∈V.fixt,x.1≠d){f:FuncId}{xs:List (aI×List Leaf)}(h:jk Γ st d f xs κ=some r) :
  fQ P f/\∃ U,κ U=some r/\∀ W a w,aq P V W st a w->∀ vs,gT P V W st w xs vs->Calls P f vs.toArray w (λe w'=>∃ v,e=.returned v/\Rel P V (ae U st) (a.put (some d) v) w'):=by
 unfold jk at h;split at h
 ·rename_i c hc;obtain⟨c6,rfl⟩:=nf hc;obtain⟨e4,a6⟩:=hΓ c c6;refine⟨e4,?_⟩;rw[gB]at h;obtain⟨⟨U0,ys,b⟩,c1,h⟩:=Bv.1 h;simp only at h;split at h
  ·rename_i g hg;cases M:aY g.kill&&dD g.frz g.kill&&gG st d c.rs&&!(g.see.any λq=>g.lend.any (BT q))&&Cf g.lend.length 1&&(g.lend.isEmpty||!(c.ps.any PK.isIo))&&((c.fresh&&g.lend.isEmpty)||!(c.rs.any RK.isBv))&&(g.kill.all λk=>!BT k.1 EPO)&&oI b g.frz g.kill d with
   |false=>rw[M]at h;cases h
   |true =>
    rw[M]at h;simp only[cond_true]at h;simp only[BC]at M;obtain⟨⟨⟨⟨⟨⟨⟨⟨b5,d1⟩,I⟩,b3⟩,J⟩,e5⟩,f1⟩,hE⟩,dd⟩:=M;obtain⟨y,hy,h⟩:=Bv.1 h;obtain⟨U',f6,bn⟩:=Al (P:=P) (V:=V) hV h;refine⟨U',f6,λW a w hr vs ed=>?_⟩;obtain⟨W0,O,c4,f7,hβ0,eb,e7,ba,cx⟩:=ou hV hr c.ps xs vs U0 ys b ed c1;generalize ab:ae U0 st=S0 at O c4 eb e7 ba hg;obtain⟨⟨b0,c5,a2⟩,hf,hk,a1⟩:=kq (uw hV hΓ O) c.ps ys vs g c4 hg;have hE:∀ z∈g.kill,z.1≠EPO:=λz hz e0=>by
     have:=List.all_eq_true.1 hE z hz;rw[e0]at this;simp at this
    have J:g.lend.length<=1:=CE J;have b9:g.lend=[]\/c.ps.any PK.isIo=false:=by
     simp only[DN,DB,BY]at e5;exact e5
    have c2:∀ k,k∈b0.flatten<->k∈g.lend.map W0.β\/k∈aX W0 g.kill:=λk=>by
     rw[<- BK,<- BK,<- BK,a2 k];omega
    have a3:∀ k,jJ V W0 S0 g.frz g.see k->k<w.heap.size/\k∉b0.flatten:=by
     intro k H;refine⟨O.used_lt k (rq hf k H),λZ=>?_⟩;rcases (c2 k).1 Z with Z|Z
     ·obtain⟨b',X,rfl⟩:=Cj.1 Z;have d3:=O.box b' (a1 b' X);rcases H with H|H|⟨b2,cc,a0,e2⟩|⟨z,hz,H⟩
      ·exact d3.1 H
      ·exact d3.2 H
      ·have:=O.inj b2 b' a0 (a1 b' X) e2;subst this;simp only[BY,Bw]at b3;have:=b3 b2 cc;rw[Bool.not_eq_true,Bw]at this;have:=this b2 X;simp at this
      ·obtain⟨l,hl,ho⟩:=hf z hz;exact (O.ownb z.1 z.2 l hl ho _ H).2.2 b' (a1 b' X) rfl
     ·obtain⟨z,hz,Y⟩:=gj.1 Z;obtain⟨l,hl,ho⟩:=hk z hz;have a5:=O.ownb z.1 z.2 l hl ho k Y;rcases H with H|H|⟨b2,cc,a0,e2⟩|⟨z',e6,H⟩
      ·exact a5.1 H
      ·exact a5.2.1 H
      ·exact a5.2.2 b2 a0 e2
      ·obtain⟨l',f3,ex⟩:=hf z' e6;obtain⟨e1,e2⟩:=O.sep z.1 z.2 l z'.1 z'.2 l' hl ho f3 ex k Y H;exact nG d1 z' e6 (by rw[show z'=z from DW e1.symm e2.symm];exact hz)
    have eg:b0.flatten.Nodup:=br.2 λk=>by
     rw[a2 k];have h5:=br.1 (gP O b5 hk) k;have h6:(g.lend.map W0.β).count k<=1:=by
      exact B9 List.count_le_length (by rw[CT];exact J)
     by_cases h7:k∈g.lend.map W0.β
     ·have:(aX W0 g.kill).count k=0:=BZ.2 λZ=>by
       obtain⟨b',X,e0⟩:=Cj.1 h7;obtain⟨z,hz,Y⟩:=gj.1 Z;obtain⟨l,hl,ho⟩:=hk z hz;exact (O.ownb z.1 z.2 l hl ho k Y).2.2 b' (a1 b' X) e0
      omega
     ·have:(g.lend.map W0.β).count k=0:=BZ.2 h7;omega
    have a9:=a6 w (bj V W0 g.p g.frz) g.val vs b0 y (c5.mono (λ_ h=>h) a3) (λk H=>a3 k (mn hV k H)) eg hy;have bl:gG S0 d c.rs=true:=by
     unfold gG at I ⊢;split at I
     ·rcases ba (B0+d) with e0|e0
      ·rw[e0];exact I
      ·exact absurd e0 (by have:=iU.2.1;omega)
     ·exact I
    refine a9.mono λe w' c3=>?_
    obtain⟨v,rfl,W1,a4,b6,cb,c0,_⟩:=yU (Γ:=Γ) hV O c4 hg hf hk a1 b5 d1 hE J b9 a2 hd dc bl f1 c3;refine⟨v,rfl,?_⟩;refine bn W1 _ w' ?_ ?_
    ·have e1:=bA (mo S0 c d ys g y) U0 st;rw[ab]at e1;rw[<- e1]at a4;subst ab;unfold mo at a4;simp only[bA,BQ,DF]at a4 ⊢;exact a4
    ·intro q j hb;subst hb;obtain⟨u,em,f0,et,i,off,p,E,e,ej,gg,f4,q1,q2,q3,q4⟩:=eb;have cw:=cx true q j rfl rfl;have ad:g.lend=[]:=b9.resolve_right (by rw[cw];simp);simp only[oI,BC,BY]at dd;obtain⟨⟨⟨cp,cu⟩,bb⟩,b4⟩:=dd;have d2:q≠d:=λe0=>by rw[e0]at bb;simp at bb
     have cy:q≠B0+d:=λe0=>by rw[e0]at b4;simp at b4
     have e3:(q,j)∉g.kill:=λZ=>by
      have:=Bw.1 cp _ Z;simp[iw]at this
     have ef:(q,j)∉g.frz:=λZ=>by
      have:=Bw.1 cu _ Z;simp[iw]at this
     have es:TMP≠d:=by have:=hV.nt;have:=iU.1;omega
     have ec:TMP≠B0+d:=by have:=iU.2.1;omega
     have hL:=cb q j d2 cy (by rw[ad];simp) ef e3;rw[q1]at hL;have hC:=b6 q d2 cy (by rw[ad];simp);have e1:=bA (mo S0 c d ys g y) U0 st;rw[ab]at e1;have f5:gg<w.heap.size:=O.own_lt q1 trivial gg q3;have en:gg∉aX W0 g.kill:=λZ=>by
      obtain⟨z,hz,Y⟩:=gj.1 Z;obtain⟨l,hl,ho⟩:=hk z hz;obtain⟨e1,e2⟩:=O.sep z.1 z.2 l q j _ hl ho q1 trivial gg Y q3;exact e3 (by rw[show (q,j)=z from DW e1.symm e2.symm];exact hz)
     have bx:w'.cell? ⟨gg,i*e.cells+off,none⟩=some u:=by
      rw[kx (c0 gg f5 en (by rw[ad];simp))];exact q4
     have f2:gg∈W1.bs q j:=by
      have h9:=a4.leaf q j _ _ hL (by rw[hC];exact q2);obtain⟨_,f8,fc,_,ev,_⟩:=h9;rw[ev];simp[Bt]
     refine⟨u,by rw[b6 TMP es ec (by rw[ad];simp)];exact em,f0,et,i,off,p,E,e,ej,gg,f4,?_,by rw[hC];exact q2,f2,bx⟩;have b1:=hL;rw[<- e1]at b1;subst ab;unfold mo at b1;simp only[bA,BQ,DF]at b1 ⊢;exact b1
  ·cases h
 ·cases h
end
section
variable {P:Program} {V:Env} {Γ:List Ctr} {T:TypeId->TI} {st:St} {o:Oper} {R:Type} {κ:Upd->Option R} {r:R}
theorem nS {W:Wit}{a:Act}{w:World}(h:aq P V W st a w):∀ (l:List Operand),gT P V W st w (l.map (av st)) (l.map a.eval)
 |[]=>rfl
 |x::l=>by
  obtain⟨z,y,u⟩:=cU h x;exact⟨a.eval x,l.map a.eval,z,rfl,y,u,nS h l⟩
theorem ni {W:Wit}{w:World}:∀ {xs z:List (aI×List Leaf)} {y us:List Value},gT P V W st w xs y->gT P V W st w z us->gT P V W st w (xs++z) (y++us)
 |[],_,_,_,I,u=>by rw[show _=_ from I];exact u
 |x::xs,_,_,_,⟨v,X,O,e,J,M,H⟩,u=>by
  subst e;exact⟨v,_,O,rfl,J,M,ni H u⟩
theorem qF {a:Act}{w:World}{c:Call}{x:Operand}{f:FuncId}{caps:Array Value}(z:o.op=.call c)(I:c.callee=.value x)(M:a.eval x=.func (.func f) #[] caps)(J:fQ P f){next:Act->World->Prop}{Q:Exit->Act->World->Prop}
  (u:Calls P f (c.args.map a.eval++caps) w (λe H=>∃ v,e=.returned v/\next (a.put o.dst v) H)):o.wp P a w next Q:=by
 unfold Oper.wp;have y:(execOp a.eval o).run P w=.ok (.enter f (c.args.map a.eval++caps)) w:=by
  have:=J (c.args.map a.eval++caps) w;simp[execOp,z,resolve,I,M,Deferred.ofValue,invoke,this]
 rw[y,Oper.upon_enter];refine u.mono λe H=>?_
 rintro⟨v,rfl,hn⟩;exact hn
theorem k7 {p:Bool}:∀ {b:Ty} {x:b.den},b.flat=true->ar p b x=cK p b x
 |.int _,_,_=>rfl
 |.bool,_,_=>rfl
 |.str,_,_=>rfl
 |.unit,_,_=>rfl
 |.hdr,_,_=>rfl
 |.pair a b,x,h=>by
  simp only[Ty.flat,BC]at h;simp only[ar,cK,k7 h.1,k7 h.2]
 |.list _ _ _,_,h=>by simp[Ty.flat]at h
theorem rv (Z:ay V){W:Wit}{a:Act}{w:World}(h:aq P V W st a w):∀ (O:List Ty) (xs:List (aI×List Leaf)) (X:List Value) (x:Tup O),gT P V W st w xs X->iL st O xs=some x ->
  rY w (λk=>k<w.heap.size) O x X
 |[],[],X,_,hx,_=>hx
 |[],_::_,_,_,_,u=>by simp[iL]at u
 |_::_,[],_,_,_,u=>by simp[iL]at u
 |b::O,x::xs,X,z,⟨v,M,cs,e,hs,hl,I⟩,u=>by
  subst e;simp only[iL]at u;cases J:decide (x.1=bg b.isAgg) with
  |false=>simp[J]at u
  |true =>
   simp only[J,cond_true]at u;have J:=of_decide_eq_true J;rw[J]at hs;split at u
   ·rename_i p y hy;simp only[BB]at u;obtain⟨t,ht,rfl⟩:=u;have Y:=ez h hl hy;refine⟨v,cs,M,rfl,gA hs,Y.mono (λk H=>?_),rv Z h O xs M t I ht⟩;rcases H with (H|⟨_,H⟩)|⟨z,hz,H⟩
    ·exact (h.nwlt k H).1
    ·exact CB (Z.ro k H).1 h.size
    ·obtain⟨l,h1,h2⟩:=ek hl hz;exact h.own_lt h1 h2 k H
   ·cases u
theorem xN (hV:ay V)(hΓ:∀ c∈Γ,bP P c)(M:bN V o){c:Call}{f:Operand}(Y:o.op=.call c)(hc:c.callee=.value f)
  (h:act Γ T o st κ=some r):bW P V o st κ r:=by
 simp only[act,wrU,Y,hc]at h;split at h
 ·cases h
 ·rename_i d X;split at h
  ·rename_i g H Z;obtain⟨he,U,hU,z⟩:=u5 hV hΓ (M d X).1 (M d X).2 h;refine⟨U,hU,λW a w I next Q hn=>?_⟩;obtain⟨J,_,_,_,_⟩:=bq I f (by rw[Z];simp);rw[Z]at J;have O:=ni (nS I c.args.toList) (se (p6 (P:=P) (V:=V) (W:=W) (w:=w) H J.2));rw[C7]at O;have:=z W a w I _ O;have e:(c.args.toList.map a.eval++H.map λb=>Value.pointer (some ⟨W.β b,0,none⟩)).toArray=c.args.map a.eval++(H.map λb=>Value.pointer (some ⟨W.β b,0,none⟩)).toArray:=by
    apply DS;simp
   rw[e]at this;refine qF Y hc J.1 he (this.mono λe w'=>?_);rintro⟨v,rfl,hrel⟩;refine⟨v,rfl,hn _ _ ?_⟩;rw[X];exact hrel
  ·rename_i g H Z;obtain⟨he,U,hU,z⟩:=u5 hV hΓ (M d X).1 (M d X).2 h;refine⟨U,hU,λW a w I next Q hn=>?_⟩;obtain⟨J,_,_,_,_⟩:=bq I f (by rw[Z];simp);rw[Z]at J;obtain⟨us,J,a3,a1⟩:=J;have O:=ni (nS I c.args.toList) (se (qD (st:=st) a3 a1));rw[C7]at O;have:=z W a w I _ O;have e:(c.args.toList.map a.eval++us).toArray=c.args.map a.eval++us.toArray:=by
    apply DS;simp
   rw[e]at this;refine qF Y hc J he (this.mono λe w'=>?_);rintro⟨v,rfl,hrel⟩;refine⟨v,rfl,hn _ _ ?_⟩;rw[X];exact hrel
  ·rename_i As B φ Z;cases hb:B.flat with
   |false=>simp[hb]at h
   |true =>
    simp only[hb,cond_true]at h;split at h
    ·rename_i x hx;obtain⟨y,hy,h⟩:=Bv.1 h;simp only[X]at h;refine⟨_,h,λW a w I next Q hn=>?_⟩;obtain⟨J,_,_,_,_⟩:=bq I f (by rw[Z];simp);rw[Z]at J;obtain⟨f',H,J,he,z⟩:=J;have a0:=rv hV I As _ _ x (nS I c.args.toList) hx;have:=z w I.size I.keep x _ y a0 hy;have e:(c.args.toList.map a.eval).toArray=c.args.map a.eval:=by apply DS;simp
     rw[e]at this;refine qF Y hc J he (this.mono λe w'=>?_);rintro⟨u,cs,rfl,hvo,hrd,hbelow⟩;refine⟨u,rfl,hn _ _ ?_⟩;rw[X];have a4:=I.below hV hbelow;have a2:=eT (P:=P) (V:=V) (W:=W) (st:=st) (G:=λ_=>False) (p:=false) (λ_ h=>h.elim) hrd;rw[<- k7 hb]at a2;exact a4.putLs hV d (M d X).1 (M d X).2 _ _ _ u cs (BM _) (j8 hvo) a2
    ·cases h
  ·cases h
theorem Bf (H:ay V)(I:TOk P T)(hΓ:∀ c∈Γ,bP P c)(z:bN V o)(h:act Γ T o st κ=some r):bW P V o st κ r:=by
 cases u:o.op with
 |move x=>exact x3 H z u h
 |assign x=>exact vp H z u h
 |pick c x y=>exact x4 H z u h
 |alloc t=>exact xG H I z u h
 |box t x=>exact Ah H z u h
 |build t M=>exact wM H I z u h
 |buildSlice t n M=>exact qB H I z u h
 |load t x=>exact x6 H I z u h
 |store t x y=>exact xI H I u h
 |nilCheck x=>exact sw H z u h
 |binOp X t x y t'=>exact wI H I z u h
 |unOp X t x=>exact x5 H z u h
 |convert s t x=>exact uu H I z u h
 |makeSlice t n c=>exact rT H I z u h
 |slice t x lo Z Y=>exact xL H I z u h
 |fieldAddr t x f=>exact rP H I z u h
 |field t x f=>exact wL H I z u h
 |indexAddr t x i=>exact rQ H I z u h
 |index t x i=>exact wK H I z u h
 |extract x i=>exact tV H z u h
 |makeFunc fn first O=>exact sx H z u h
 |call c =>
  cases J:c.callee with
  |value f=>exact xN H hΓ z u J h
  |builtin b =>
   cases b with
   |len=>exact zx H I z u J h
   |append=>exact wa H I z u J h
   |min=>exact Ai H z u J h
   |max=>exact Aj H z u J h
   |_ =>
    simp only[act,wrU,u,J]at h;split at h <;> cases h
  |_ =>
   simp only[act,wrU,u,J]at h;split at h <;> cases h
 |_=>simp[act,wrU,u]at h
end
def cE:Ty->Ty->Bool
 |.pair a b,z=>match z with
  |.pair c d=>cE a c&&cE b d
  |_=>false
 |.list m E e,z=>match z with
  |.list n u r=>decide (E=u)&&(bif n then m&&cE e r else decide (e.sh=r.sh))
  |_=>false
 |a,z=>decide (a=z)
theorem fT:∀ {a b:Ty},cE a b=true->a.sh=b.sh
 |.pair a b,z,h=>by
  cases z with
  |pair c d =>
   simp only[cE,BC]at h;simp only[Ty.sh,fT h.1,fT h.2]
  |_=>simp[cE]at h
 |.list m E e,z,h=>by
  cases z with
  |list n r u =>
   simp only[cE,BC,decide_eq_true_eq]at h;obtain⟨rfl,h⟩:=h;cases n with
   |true =>
    simp only[cond_true,BC]at h;simp only[Ty.sh,fT h.2]
   |false =>
    simp only[cond_false,decide_eq_true_eq]at h;simp only[Ty.sh,h]
  |_=>simp[cE]at h
 |.int _,z,h=>by simp only[cE,decide_eq_true_eq]at h;rw[h]
 |.bool,z,h=>by simp only[cE,decide_eq_true_eq]at h;rw[h]
 |.str,z,h=>by simp only[cE,decide_eq_true_eq]at h;rw[h]
 |.unit,z,h=>by simp only[cE,decide_eq_true_eq]at h;rw[h]
 |.hdr,z,h=>by simp only[cE,decide_eq_true_eq]at h;rw[h]
theorem yW {a b:Ty}(h:cE a b=true):a.isAgg=b.isAgg:=by
 cases a with
 |pair c d=>cases b <;> first|rfl|(simp[cE]at h)
 |list m E e=>cases b <;> first|rfl|(simp[cE]at h)
 |_=>simp only[cE,decide_eq_true_eq]at h;rw[h]
theorem ov {f g h:Nat->List Nat}{k:Nat}:∀ {l:List Nat},(∀ j∈l,(f j).count k=(g j).count k+(h j).count k)->(l.flatMap f).count k=(l.flatMap g).count k+(l.flatMap h).count k
 |[],_=>rfl
 |a::l,H=>by
  have y:=H a (BW ..);have u:=ov (l:=l) (λj r=>H j (BP _ r));simp only[CF,BF];omega
theorem Mx.thin {w:World}{G:Nat->Prop}:∀ {a b:Ty} {pos:Nat} {x:a.den} {y:b.den} {cs:List Value} {bs:List Nat},cE a b=true->HEq x y->Mx w G a none pos x cs bs ->
  ∃ b1 b2:List Nat,(∀ k,bs.count k=b1.count k+b2.count k)/\Mx w (λk=>G k\/k∈b2) b none pos y cs b1
 |.pair a b,z,pos,x,y,cs,bs,h,r,H=>by
  cases z with
  |pair c d =>
   simp only[cE,BC]at h;obtain⟨c1,c2,ba,bb,rfl,rfl,h1,h2⟩:=H;obtain⟨h3,h4⟩:=sl (jq (fT h.1)) (jq (fT h.2)) r;obtain⟨p1,p2,X,Z⟩:=Mx.thin h.1 h3 h1;obtain⟨r1,r2,s1,s2⟩:=Mx.thin h.2 h4 h2;refine⟨p1++r1,p2++r2,λk=>?_,c1,c2,p1,r1,rfl,rfl,Z.mono (λk J=>J.imp id (BJ _)),?_⟩
   ·have:=X k;have:=s1 k;simp only[BF];omega
   ·have:=s2.mono (G':=λk=>G k\/k∈p2++r2) (λk J=>J.imp id (BE _))
    rwa [ib (fT h.1)]at this
  |_=>simp[cE]at h
 |.list m E e,z,pos,xs,Y,cs,bs,h,r,H=>by
  have a1:=fT h;cases z with
  |list n E' e' =>
   simp only[cE,BC,decide_eq_true_eq]at h;obtain⟨rfl,h⟩:=h;cases n with
   |true =>
    simp only[cond_true,BC]at h;obtain⟨rfl,h⟩:=h;rw[bH (by simp)]at H;obtain⟨v,rfl,I,a2,h1,h2,h3⟩:=H;obtain⟨h4,h5⟩:=sm (jq (fT h)) r;have a0:∀ j,∃ q:List Nat×List Nat,j<Y.length->(∀ k,(a2 j).count k=q.1.count k+q.2.count k) /\
      ∀ y,Y[j]?=some y->∃ c,Mx w (λk=>G k\/k∈q.2) e' none 0 y c q.1/\∀ i u,c[i]?=some u->I[j*e'.cells+i]?=some u:=by
     intro j;by_cases M:j<Y.length
     ·have R:=BS M;obtain⟨x,hx,r⟩:=h5 j _ R;obtain⟨c,hm,hc⟩:=h3 j x hx;obtain⟨b1,b2,X,Z⟩:=Mx.thin h r hm;refine⟨(b1,b2),λ_=>⟨X,λy O=>⟨c,?_,λi u hi=>?_⟩⟩⟩
      ·rw[R]at O;simp only[BA]at O;subst O;exact Z
      ·rw[<- ib (fT h)];exact hc i u hi
     ·exact⟨([],[]),λh=>absurd h M⟩
    obtain⟨f,hf⟩:=Classical.skolem.1 a0;refine⟨v.ownBlock.toList++(BO Y.length).flatMap (λj=>(f j).1),(BO Y.length).flatMap (λj=>(f j).2),λk=>?_,?_⟩
    ·rw[h2,BF,BF,h4,ov (g:=λj=>(f j).1) (h:=λj=>(f j).2) (λj M=>(hf j (Cq.1 M)).1 k)];omega
    ·rw[bH (by simp)];refine⟨v,rfl,I,λj=>(f j).1,by rw[<- h4,<- ib (fT h)];exact h1,rfl,λj y O=>?_⟩;have M:=(BD.1 O).1;obtain⟨c,X,Z⟩:=(hf j M).2 y O;exact⟨c,X.mono (λk J=>J.imp id (λJ=>dV.2 ⟨j,M,J⟩)),Z⟩
   |false =>
    refine⟨[],bs,λk=>by simp,?_⟩;rw[cq];exact⟨rfl,Rd.flags a1 r (Mx.rd (S:=λk=>G k\/k∈bs) (λ_=>.inl) (λ_=>.inr) H)⟩
  |_=>simp[cE]at h
 |.int _,z,pos,x,y,cs,bs,h,r,H=>by
  simp only[cE,decide_eq_true_eq]at h;subst h;cases r;exact⟨bs,[],λk=>by simp,H.mono (λ_=>.inl)⟩
 |.bool,z,pos,x,y,cs,bs,h,r,H=>by
  simp only[cE,decide_eq_true_eq]at h;subst h;cases r;exact⟨bs,[],λk=>by simp,H.mono (λ_=>.inl)⟩
 |.str,z,pos,x,y,cs,bs,h,r,H=>by
  simp only[cE,decide_eq_true_eq]at h;subst h;cases r;exact⟨bs,[],λk=>by simp,H.mono (λ_=>.inl)⟩
 |.unit,z,pos,x,y,cs,bs,h,r,H=>by
  simp only[cE,decide_eq_true_eq]at h;subst h;cases r;exact⟨bs,[],λk=>by simp,H.mono (λ_=>.inl)⟩
 |.hdr,z,pos,x,y,cs,bs,h,r,H=>by
  simp only[cE,decide_eq_true_eq]at h;subst h;cases r;exact⟨bs,[],λk=>by simp,H.mono (λ_=>.inl)⟩
theorem jn.mono {w:World}{G G':Nat->Prop}(z:∀ k,G k->G' k){a:Ty}{x:a.den}{ptr:Bool}{v:Value}{bs:List Nat}(h:jn w G a x ptr v bs):jn w G' a x ptr v bs:=by
 unfold jn at h ⊢;split at h
 ·rename_i r;rw[if_pos r];obtain⟨g,c,E,M,y,u,J,H⟩:=h;exact⟨g,c,E,M,y,u,J.mono z,H⟩
 ·rename_i r;rw[if_neg r];obtain⟨I,y,u⟩:=h;exact⟨I,y,u.mono z⟩
theorem bL.mono {w:World}{G G':Nat->Prop}(y:∀ k,G k->G' k):∀ {ps:List PK} {o:ai ps} {z:List Value} {bs:List (List Nat)},bL w G ps o z bs->bL w G' ps o z bs
 |.io _::_,_,_::_,_::_,⟨r,u⟩=>⟨r.mono y,bL.mono y u⟩
 |.iop _::_,_,_::_,_::_,⟨r,u⟩=>⟨r.mono y,bL.mono y u⟩
 |.rd _::_,_,_::_,_::_,⟨r,u⟩=>⟨r,bL.mono y u⟩
 |.own _::_,_,_::_,_::_,⟨r,u⟩=>⟨r,bL.mono y u⟩
 |.rref _::_,_,_::_,_::_,⟨r,u⟩=>⟨r,bL.mono y u⟩
 |.rref2 _::_,_,_::_,_::_,⟨r,u⟩=>⟨r,bL.mono y u⟩
 |.fn _ _::_,_,_::_,_::_,⟨r,u⟩=>⟨r,bL.mono y u⟩
 |.clo _ _::_,_,_::_,_::_,⟨r,u⟩=>⟨r,bL.mono y u⟩
 |.hol _ _ _::_,_,_::_,_::_,⟨r,u⟩=>⟨r,bL.mono y u⟩
 |[],_,[],[],_=>trivial
 |[],_,_::_,_,h=>by simp[bL]at h
 |[],_,[],_::_,h=>by simp[bL]at h
 |p::_,_,[],_,h=>by cases p <;> exact h.elim
 |p::_,_,_::_,[],h=>by cases p <;> exact h.elim
theorem pY.mono {w:World}{G G' ro ro':Nat->Prop}(I:∀ k,G k->G' k)(J:∀ k,G k\/ro k->G' k\/ro' k):∀ {r:RK} {y:r.den} {v:Value} {bs:List Nat},pY w G ro r y v bs->pY w G' ro' r y v bs
 |.v _,_,_,_,⟨H,z,u⟩=>⟨H,z,u.mono I⟩
 |.bv _,_,_,_,⟨e,H,z,u⟩=>⟨e,H,z,u.mono J⟩
 |.box _,_,_,_,⟨g,c,E,R,z,u,O,M⟩=>⟨g,c,E,R,z,u,O.mono I,M⟩
theorem gz.mono {w:World}{G G' ro ro':Nat->Prop}(M:∀ k,G k->G' k)(J:∀ k,G k\/ro k->G' k\/ro' k):∀ {I:List RK} {y:aj I} {us:List Value} {r:List (List Nat)},gz w G ro I y us r->gz w G' ro' I y us r
 |[],_,_,_,h=>h
 |_::_,_,_,_,⟨u,H,b,z,Y,O,X,R⟩=>⟨u,H,b,z,Y,O,X.mono M J,gz.mono M J R⟩
theorem bP.thin {P:Program}{f:FuncId}{a a':Ty}{ps:List PK}{rs:List RK}{fr:Bool}{ad:ac (.own a::ps)->Option (aj rs×ai (.own a::ps))}{M:ac (.own a'::ps)->Option (aj rs×ai (.own a'::ps))}
  (h:bP P ⟨f,.own a::ps,rs,fr,ad⟩) (ht:cE a' a=true) (cv:a'.den->a.den) (bn:∀ x,HEq x (cv x)) (hd:∀ x,M x=ad (cv x.1,x.2)):bP P ⟨f,.own a'::ps,rs,fr,M⟩:=by
 refine⟨h.1,λw ro x vs c1 y a2 a6 a5 hy=>?_⟩;obtain⟨x1,xr⟩:=x;obtain⟨v,a9,b,u,rfl,rfl,⟨cs,bx,hm⟩,a1⟩:=a2;obtain⟨Y,X,O,c0⟩:=Mx.thin ht (bn x1) hm;have a0:=hm.lt;rw[br]at a5;have R:∀ k,Y.count k+X.count k+u.flatten.count k<=1:=λk=>by
  have:=a5 k;rw[BX,BF,O k]at this;exact this
 have hb:∀ k,k∈b<->k∈Y\/k∈X:=λk=>by
  rw[<- BK,<- BK,<- BK,O k];omega
 have z:∀ k,k∈(Y::u).flatten->k∈(b::u).flatten:=λk r=>by
  rw[BX,BL]at r ⊢;exact r.imp (λh=>(hb k).2 (.inl h)) id
 have a4:∀ k,k∈X->k∉(Y::u).flatten:=λk r H=>by
  have h1:=R k;have h2:=BK.2 r;have h3:=BK.2 H;rw[BX,BF]at h3;omega
 have b5:∀ k,k∈X->k∈(b::u).flatten:=λk r=>by
  rw[BX,BL];exact .inl ((hb k).2 (.inr r))
 have I:c8 P w (λk=>ro k\/k∈X) (λk=>k<w.heap.size/\k∉(Y::u).flatten) (.own a::ps) (cv x1,xr) (v::a9) (Y::u) :=
  ⟨v,a9,Y,u,rfl,rfl,⟨cs,by rw[<- yW ht];exact bx,c0⟩,a1.mono (λ_=>.inl) (λk r=>⟨r.1,λh=>r.2 (z k h)⟩)⟩
 refine (h.2 w _ _ _ _ y I (λk r=>?_) ?_ (by rw[<- hy];exact (hd (x1,xr)).symm)).mono λe w' hp=>?_
 ·rcases r with r|r
  ·exact⟨(a6 k r).1,λh=>(a6 k r).2 (z k h)⟩
  ·exact⟨a0 k ((hb k).2 (.inr r)),a4 k r⟩
 ·rw[br];intro k;have:=R k;show ((Y::u).flatten).count k<=1;rw[BX,BF];omega
 ·obtain⟨v',us,N,Z,b6,h1,a3,ab,bl,b9,bb,ba,hN,hO,b4,b0,J⟩:=hp;have hG:∀ k,(N k\/fr=false/\(ro k\/k∈X))->((N k\/k∈X)\/fr=false/\ro k):=λk r=>by
   rcases r with r|⟨r,H|H⟩
   ·exact .inl (.inl r)
   ·exact .inr ⟨r,H⟩
   ·exact .inl (.inr H)
  refine⟨v',us,λk=>N k\/k∈X,Z,b6,h1,a3,ab,bl,b9,bb,λk r hn=>ba k r (λh=>hn (z k h)),λk r=>?_,?_,?_,b0,λk r=>?_⟩
  ·rcases r with r|r
   ·exact⟨(hN k r).1,(hN k r).2.imp id (z k)⟩
   ·exact⟨CB (a0 k ((hb k).2 (.inr r))) ab,.inr (b5 k r)⟩
  ·match Z,hO with
   |b3::Z,hO=>exact⟨hO.1,bL.mono hG hO.2⟩
   |[],hO=>exact hO.elim
  ·refine gz.mono hG (λk r=>?_) b4;rcases r with r|r|r
   ·exact .inl (hG k r)
   ·exact .inr r
   ·exact .inl (.inl (.inr r))
  ·obtain⟨h5,h6⟩:=J k r;refine⟨⟨h5.1,h5.2.imp id (z k)⟩,λh=>h.elim h6 (λh=>?_)⟩;rcases h5.2 with h7|h7
   ·have:=a0 k ((hb k).2 (.inr h));omega
   ·exact a4 k h h7
end Go.Proofs.YtaelpfghkndliaaGreatEv
