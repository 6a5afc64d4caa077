/- One operation: boxes made, boxes written. -/
import Derived.Test.YtaegajachoklkaaGreatE0
import Derived.Deep.MidRow
import Derived.Great.FillDense
set_option linter.unusedVariables false
set_option linter.unusedSimpArgs false
open Array renaming toArray_toList->B9,length_toList->CD,getElem?_toList->C0,toList_append->C9,size_append->DH,toList_map->DQ,ext'->De
open Bool renaming and_eq_true->BF,not_eq_true'->B4,or_eq_false_iff->C7,or_eq_true->DZ
open Go.Addr.mk renaming injEq->Cn
open Go.Builtin renaming append_->CE,firstCells->Cj,lenOf->Co,zeroCells->DM
open Go.Instr renaming sliceBounds->DK,storeAt->Dg
open Go.Result renaming andThen_ok->Cl
open Go.Sem renaming run_bind->DG
open Go.Value renaming ownBlock->B8
open Go.Value.slice renaming injEq->CC
open Go.World renaming setCells->C3,alloc_eq->C6,drew_eq->DA,freeze->DI,alloc->DU,drew->Dc
open Iff renaming rfl->Ck
open Int renaming toNat_natCast->DF
open List renaming getElem?_eq_some_iff->BG,mem_append_right->BH,count_append->BI,getElem?_append_right->BJ,getElem?_append_left->BK,mem_append_left->BM,count_pos_iff->BN,mem_append->BO,range->BR,mem_cons_of_mem->BS,append_assoc->BT,length_append->BV,getElem?_eq_getElem->BW,eq_nil_of_length_eq_zero->BY,mem_cons_self->BZ,flatten_cons->B3,count_eq_zero->B5,append_nil->B6,length_take->B7,any_eq_false->CB,getElem?_take->CH,getD_eq_getElem?_getD->CI,nodup_append->CK,replicate->CM,nodup_cons->CO,length_set->CP,flatMap_cons->CR,getElem?_set_ne->CS,mem_cons->CV,getElem?_drop->CW,getElem?_cons_zero->CX,getElem?_replicate->CY,size_toArray->CZ,getElem?_set_self->Ca,any_cons->Cd,length_nil->Ce,length_map->Cf,length_drop->Cp,length_cons->Cq,mem_map->Cv,count_cons->Cw,singleton_append->Cy,length_replicate->Cz,mem_range->C4,all_cons->DB,map_nil->DE,map_map->DJ,isEmpty_iff->DN,flatMap_map->DO,cons_append->DR,length->DV,map_append->DW,nil_append->Da,nodup_nil->Db,take_left->Dd,map_cons->Dh
open List.cons renaming injEq->Cg
open Nat renaming eq_of_beq_eq_true->BL,lt_succ_self->BP,mul_le_mul_right->BQ,beq->BU,le_refl->BX,succ_mul->CF,add_zero->CJ,le_trans->CL,lt_of_lt_of_le->CN,le_of_ble_eq_true->CQ,zero_add->CU,ble_eq_true_of_le->Cb,le_add_right->Cc,mul_le_mul_left->Ch,blt_eq->Ci,add_mul->Cm,le_of_eq->Cr,ble->Cs,mul_comm->Ct,sub_zero->Cu,mul_one->C5,blt->C8,eq_zero_or_pos->DD,zero_mul->DL,mod_eq_of_lt->DP,le_succ->DS,zero_le->DT,mul_add_mod->DX,add_assoc->Df
open Ne renaming symm->CT
open Option renaming map_eq_some_iff->BE,bind_eq_some_iff->CA,map_none->Cx,toList_some->DC,map_some->DY
open Option.some renaming injEq->BD
open Prod renaming ext->Di
open Prod.mk renaming injEq->CG
namespace Go.Proofs.YtaegajachoklkaaGreatEv
open Go Go.RowKit
section
variable {P:Program} {V:Env} {Γ:List Ctr} {T:TypeId->TI} {st:St} {o:Oper} {R:Type} {κ:Upd->Option R} {r:R}
theorem na {q u:Nat}(h:q≠u)(c y:bR)(st:St):ac [(q,c)] (ac [(u,y)] st)=ac [(u,y)] (ac [(q,c)] st):=by
 funext k;rcases aj q k c (ac [(u,y)] st) with ⟨rfl,e⟩|⟨I,e⟩
 ·rw[e,aJ h,bk]
 ·rw[e];rcases aj u k y st with ⟨rfl,z⟩|⟨H,z⟩
  ·rw[z,bk]
  ·rw[z,aJ H,aJ I]
theorem an.boxed (hV:ax V){W:Wit}{a:Act}{w:World}(h:an P V W st a w)(d:Nat)(hd:d<V.nt)(O:∀ x∈V.fixt,x.1≠d)(X:(st (B0+d)).sh=.off)(ls:List Leaf)
  (y:List Value) (z:Nat->List Nat) (E:TypeId)
  (hl:ls.length=y.length) (h1:∀ u∈y,u.oneCell'=true)
  (H:∀ (j:Nat) (l:Leaf) (u:Value),ls[j]?=some l->y[j]?=some u->aK P V W st w (z j) l u)
  (I:∀ (j:Nat) (l:Leaf),ls[j]?=some l->am l->∀ k∈z j,¬ W.nw k/\¬ V.prot k/\k<w.heap.size/\(∀ b,live st b->W.β b≠k) /\
   ∀ (Y Z:Nat) (l1:Leaf),(st Y).ls[Z]?=some l1->am l1->k∉W.bs Y Z)
  (M:∀ (j j':Nat) (l l':Leaf),ls[j]?=some l->am l->ls[j']?=some l'->am l'->∀ k,k∈z j->k∈z j'->j=j') :
  Rel P V (ac ((B0+d,⟨(st (B0+d)).ver+1,.agg,ls⟩)::[(d,⟨(st d).ver+1,.one,[.bp (B0+d) 0]⟩)]) st) (a.put (some d) (.pointer (some ⟨w.heap.size,0,none⟩))) (w.alloc (.cells y.toArray E)):=by
 have J:B0+d≠d:=by simp[B0]
 have a0:¬ live st (B0+d):=by simp[live,X]
 have h2:=h.setBox hV (B0+d) (Cc _ _) ((st (B0+d)).ver+1) ls y z w.heap.size E (w':=w.alloc (.cells y.toArray E)) (BP _) (.inr ⟨a0,BX _⟩)
  (heap_alloc_new w _) (λk hk _=>Go.heap_alloc_old w _ hk) (by simp) rfl rfl rfl hl h1 H (λj l hj ho k hk=>by
   obtain⟨h3,h4,h5,h6,h7⟩:=I j l hj ho k hk;exact⟨h3,h4,h5,h6,λY Z l1 _=>h7 Y Z l1⟩) M
 rw[aP,na J];refine h2.putLs hV d hd O _ .one [.bp (B0+d) 0] _ [.pointer (some ⟨w.heap.size,0,none⟩)] ?_ rfl ⟨⟨⟨Cc _ _,by rw[bk],by simp⟩,id,rfl⟩,trivial⟩;rw[aJ (CT J)];omega
theorem uC {t:TypeId}(I:TOk P T)(H:(T t).cells≠0)(w:World):∃ z y,(zeroValue t).run P w=.ok z w/\z.cells=y.toArray/\∀ (V:Env) (W:Wit) (st:St),aB P V W st w (T t).zero y:=by
 have h:=I t;cases u:T t with
 |none=>rw[u]at H;exact absurd rfl H
 |int k=>rw[u]at h;exact⟨_,[.int k 0],gn h.2.2 w,rfl,λV W st=>⟨⟨rfl,id,rfl⟩,trivial⟩⟩
 |bool=>rw[u]at h;exact⟨_,[.bool false],gn h.2.2 w,rfl,λV W st=>⟨⟨rfl,id,rfl⟩,trivial⟩⟩
 |str=>rw[u]at h;exact⟨_,[.string ByteArray.empty],gn h.2.2 w,rfl,λV W st=>⟨⟨rfl,id,rfl⟩,trivial⟩⟩
 |slice E e b=>rw[u]at h;exact⟨_,[.slice none 0 0],gn h.2.2.1 w,rfl,λV W st=>⟨⟨rfl,id,rfl⟩,trivial⟩⟩
 |struct a J=>rw[u]at h;exact⟨_,zeroCells a,gn h.2.2.1 w,rfl,λV W st=>lF a⟩
 |arr e n=>rw[u]at h;exact⟨_,(CM n (zeroCells e)).flatten,gn h.2.2.2 w,rfl,λV W st=>oO e n⟩
 |ptr=>rw[u]at h;exact⟨_,[.pointer none],gn h.2.2 w,rfl,λV W st=>⟨⟨trivial,id,rfl⟩,trivial⟩⟩
 |fn=>rw[u]at h;exact⟨_,[.nilFunc],gn h.2.2 w,rfl,λV W st=>⟨⟨trivial,id,rfl⟩,trivial⟩⟩
theorem x3 (Y:ax V)(hT:TOk P T)(I:bN V o){t:TypeId}(y:o.op=.alloc t)(h:act Γ T o st κ=some r):bW P V o st κ r:=by
 simp only[act,y]at h;split at h
 ·rename_i d M;cases J:decide ((st (B0+d)).sh=.off)&&!decide ((T t).cells=0) with
  |false=>simp[J]at h
  |true =>
   simp only[J]at h;simp at J;refine⟨_,h,λW a w hr next Q hn=>?_⟩;obtain⟨z,X,hz,hc,H⟩:=uC hT J.2 w;have H:=H V W st;refine dZ (v:=.pointer (some ⟨w.heap.size,0,none⟩)) (w':=w.alloc (.cells X.toArray t)) ?_ ?_
   ·simp[execOp,y,Instr.alloc,hz,newVar,newRow,hc]
   ·rw[M];refine hn _ _ ?_;exact hr.boxed Y d (I d M).1 (I d M).2 J.1 _ X (λ_=>[]) t H.length H.one' (λj l u h1 Z=>(H.at_ j l u h1 Z).1) (λ_ _ _ _ k O=>by simp at O) (λ_ _ _ _ _ _ _ _ k O=>by simp at O)
 ·grind
theorem AC (hV:ax V)(I:bN V o){t:TypeId}{x:Operand}(Z:o.op=.box t x)(h:act Γ T o st κ=some r):bW P V o st κ r:=by
 simp only[act,Z]at h;split at h
 ·rename_i d M;cases hb:decide ((st (B0+d)).sh=.off)&&decide ((au st x).2.length=(T t).cells)&&decide ((au st x).1=bi (T t).agg)&&hY st (au st x).2 with
  |false=>simp[hb]at h
  |true =>
   simp only[hb]at h;simp at hb;obtain⟨⟨⟨a0,a2⟩,a1⟩,Y⟩:=hb;have J:∀ (W:Wit) (a:Act) (w:World) (H:List Value),ek (au st x).1 (a.eval x) H->aB P V W st w (au st x).2 H ->
     (execOp a.eval o).run P w=.ok (.value (.pointer (some ⟨w.heap.size,0,none⟩))) (w.alloc (.cells H.toArray t)):=by
    intro W a w H X z;rw[a1]at X;have hc:=gT X z.one';simp[execOp,Z,Instr.box,newVar,newRow,hc]
   cases y:sr st x with
   |true =>
    rw[y]at h;refine⟨_,h,λW a w O next Q hn=>?_⟩;obtain⟨H,X,z⟩:=cU O x;refine dZ (J W a w H X z) ?_;rw[M];refine hn _ _ ?_;exact O.boxed hV d (I d M).1 (I d M).2 a0 _ H (λ_=>[]) t z.length z.one' (λj l u h1 h2=>(z.at_ j l u h1 h2).1) (λ_ _ _ _ k hk=>by simp at hk) (λ_ _ _ _ _ _ _ _ k hk=>by simp at hk)
   |false =>
    rw[y]at h;refine⟨_,h,λW a w O next Q hn=>?_⟩;obtain⟨H,X,z⟩:=cU O x;obtain⟨h1,h2,h3,h4,h5⟩:=oM hV O z Y;have h6:=zH hV O z Y;refine dZ (J W a w H X z) ?_;rw[M];refine hn _ _ ?_;have:=h1.boxed hV d (I d M).1 (I d M).2 (by rw[(h6 _).1];exact a0) _ H (dr W (au st x).2) t h2 z.one' h3 h4 h5;exact this
 ·grind
theorem jU (b:Nat)(E:TypeId):∀ (u:List Value) (k o:Nat) (w:World) (cur:Array Value) {mk:Nat×Nat},w.heap[b]?=some (.cells cur E mk) ->
  (w.setCells b (o+k) u).heap[b]?=some (.cells ((u.zipIdx k).foldl (λy (x:Value×Nat)=>y.setIfInBounds (o+x.2) x.1) cur) E mk)
 |[],_,_,_,_,_,h=>h
 |v::u,k,o,w,cur,mk,h=>by
  have:=jU b E u (k+1) o (w.setCell ⟨b,o+k,none⟩ v) _ (by rw[setCell_eq_setRow w b (o+k) cur E mk v h];exact setRow_heap w b cur _ E mk h);simpa[C3,Df]using this
theorem eR (b:Nat):∀ (u:List Value) (o:Nat) (w:World) (k:Nat),k≠b->(w.setCells b o u).heap[k]?=w.heap[k]?
 |[],_,_,_,_=>rfl
 |v::u,o,w,k,h=>by
  rw[C3,eR b u (o+1) _ k h];exact heap_setCell_other w ⟨b,o,none⟩ k v h
theorem jV (b:Nat):∀ (u:List Value) (o:Nat) (w:World),(w.setCells b o u).os=w.os/\(w.setCells b o u).tape=w.tape/\(w.setCells b o u).output=w.output/\(w.setCells b o u).heap.size=w.heap.size
 |[],_,_=>⟨rfl,rfl,rfl,rfl⟩
 |v::u,o,w=>by
  obtain⟨I,z,y,H⟩:=jV b u (o+1) (w.setCell ⟨b,o,none⟩ v);exact⟨I,z,y,by rw[C3,H];simp⟩
theorem nc {t:TypeId}{n:Nat}(H:bQ P t n){w:World}{b off:Nat}{cur:List Value}{E:TypeId}{mk:Nat×Nat}(J:w.heap[b]?=some (.cells cur.toArray E mk))(z:mk.2=0\/cur.length<=mk.1){v:Value}{cs:List Value}
  (Z:v.cells=cs.toArray) (X:cs.length=n) (h1:∀ u∈cs,u.oneCell'=true) (Y:off+cs.length<=cur.length) :
  (Dg t (.pointer (some ⟨b,off,none⟩)) v).run P w=.ok () (w.setCells b off cs):=by
 have y:∀ j,j<cs.length->(w.cell? ⟨b,off+j,none⟩).isSome=true:=by
  intro j I;rw[cell_of_row w b _ _ E mk J]
  grind
 have M:=run_storeCells_cells (P:=P) b off cs 0 w (λj I=>y j I) (λj I=>qW J (by simpa using z) (by simp;omega)) h1;have O:=dw H w;simp[Dg,Instr.sureAddr,storeVar,O,Z,X,M]
theorem tB (hV:ax V)(hT:TOk P T){t:TypeId}{x y:Operand}{b off:Nat}(b3:o.op=.store t x y)(hd:o.dst=none)(hx:one st x=.bp b off)
  (c1:(au st y).2.length=(T t).cells) (ba:(au st y).1=bi (T t).agg) (b0:(T t).cells≠0) (ad:(st b).sh=.agg) (c3:off+(au st y).2.length<=(st b).ls.length) (a4:hY st (au st y).2=true)
  {W:Wit} {a:Act} {w:World} (hr:an P V W st a w) :
  mK P V o st ((b,⟨(ac (mvU st (au st y).2) st b).ver+1,.agg,jB (ac (mvU st (au st y).2) st b).ls (dK st (au st y).2) off⟩)::mvU st (au st y).2) a w:=by
 intro next Q hn;obtain⟨I,hs,hl⟩:=cU hr y;rw[ba]at hs;have hc:=gT hs hl.one';obtain⟨h1,h2,h3,h4,h5⟩:=oM hV hr hl a4;have h6:=zH hV hr hl a4;obtain⟨hp,_,_,_⟩:=bt hr x (by rw[hx];simp);rw[hx]at hp;obtain⟨hB,_,hv⟩:=hp;have b4:T t≠.none:=by intro e;rw[e]at b0;exact b0 rfl
 rcases hr.boxes b hB with ⟨h8,_⟩|⟨_,E,h8⟩
 ·rw[ad]at h8;cases h8
 ·have bn:=hl.length;have c4:=hr.len b;have c2:(ac (mvU st (au st y).2) st b).ls.length=(W.cs b).length:=h1.len b;have b1:off+I.length<=(W.cs b).length:=by omega
  have a9:=nc (oN (hT t) b4) h8 (.inl rfl) hc (by omega) hl.one' b1;refine pA (w':=w.setCells (W.β b) off I) (by simp[execOp,b3,hv,a9]) ?_;rw[hd];refine hn _ _ ?_;rw[aP];obtain⟨e1,e2,e3,e4⟩:=jV (W.β b) I off w;have a0:=jU (W.β b) E I 0 off w _ h8;rw[la (W.cs b) I off b1]at a0;simp only[CJ]at a0;have bx:live (ac (mvU st (au st y).2) st) b:=⟨hB,by rw[(h6 b).1];exact ad⟩;have c0:(dK st (au st y).2).length=I.length:=h2;have M:∀ (j:Nat) (l:Leaf),(jB (ac (mvU st (au st y).2) st b).ls (dK st (au st y).2) off)[j]?=some l ->
    (off<=j/\j<off+I.length/\(dK st (au st y).2)[j-off]?=some l)\/((j<off\/off+I.length<=j)/\(ac (mvU st (au st y).2) st b).ls[j]?=some l):=by
   intro j l hj;unfold jB at hj;rw[c0]at hj;by_cases Z:j<off
   ·rw[BT,BK (by simp;omega),CH,if_pos Z]at hj;exact .inr ⟨.inl Z,hj⟩
   ·by_cases J:j<off+I.length
    ·rw[BT,BJ (by simp;omega),BK (by simp;omega)]at hj;refine .inl ⟨by omega,J,?_⟩;rw[<- hj];congr 1;simp;omega
    ·rw[BJ (by simp;omega),CW]at hj;refine .inr ⟨.inr (by omega),?_⟩;rw[<- hj];congr 1;simp;omega
  have a1:∀ (j:Nat),((W.cs b).take off++I++(W.cs b).drop (off+I.length))[j]?=if off<=j/\j<off+I.length then I[j-off]? else (W.cs b)[j]?:=by
   intro j;by_cases Z:j<off
   ·rw[BT,BK (by simp;omega),CH,if_pos Z,if_neg (by omega)]
   ·by_cases J:j<off+I.length
    ·rw[BT,BJ (by simp;omega),BK (by simp;omega),if_pos ⟨by omega,J⟩];congr 1;simp;omega
    ·rw[BJ (by simp;omega),CW,if_neg (by omega)];congr 1;simp;omega
  refine⟨_,h1.setBox hV b hB _ _ ((W.cs b).take off++I++(W.cs b).drop (off+I.length)) (λj=>if off<=j/\j<off+I.length then dr W (au st y).2 (j-off) else W.bs b j) (W.β b) E
   (BP _) (.inl ⟨bx,rfl⟩) a0 (λk _ O=>eR (W.β b) I off w k O) (Cr e4.symm) e1 e2 e3 ?_ ?_ ?_ ?_ ?_⟩
  ·simp only[jB,BV,B7,Cp];omega
  ·intro u hu;simp only[BO]at hu;rcases hu with (hu|hu)|hu
   ·exact hr.one b u (List.mem_of_mem_take hu)
   ·exact hl.one' u hu
   ·exact hr.one b u (List.mem_of_mem_drop hu)
  ·intro j l u hj hu;rw[a1]at hu;rcases M j l hj with ⟨Z,J,H⟩|⟨Z,H⟩
   ·rw[if_pos ⟨Z,J⟩]at hu;simp only[if_pos (⟨Z,J⟩:off<=j/\j<off+I.length)];exact h3 _ l u H hu
   ·have z:¬ (off<=j/\j<off+I.length):=by omega
    rw[if_neg z]at hu;simp only[if_neg z];exact h1.leaf b j l u H hu
  ·intro j l hj ho k O;rcases M j l hj with ⟨Z,J,H⟩|⟨Z,H⟩
   ·simp only[if_pos (⟨Z,J⟩:off<=j/\j<off+I.length)]at O;obtain⟨q1,q2,q3,q4,q5⟩:=h4 _ l H ho k O;exact⟨q1,q2,q3,q4,λr1 j1 l1 _=>q5 r1 j1 l1⟩
   ·have z:¬ (off<=j/\j<off+I.length):=by omega
    simp only[if_neg z]at O;obtain⟨q1,q2,q3⟩:=h1.ownb b j l H ho k O;exact⟨q1,q2,h1.own_lt H ho k O,q3,λr1 j1 l1 b5 bb bl b2=>b5 (h1.sep b j l r1 j1 l1 H ho bb bl k O b2).1.symm⟩
  ·intro j j' l l' hj ho b9 a2 k O Y;rcases M j l hj with ⟨Z,J,H⟩|⟨Z,H⟩ <;> rcases M j' l' b9 with ⟨a6,a3,X⟩|⟨a6,X⟩
   ·simp only[if_pos (⟨Z,J⟩:off<=j/\j<off+I.length)]at O;simp only[if_pos (⟨a6,a3⟩:off<=j'/\j'<off+I.length)]at Y;have:=h5 _ _ l l' H ho X a2 k O Y;omega
   ·have z:¬ (off<=j'/\j'<off+I.length):=by omega
    simp only[if_pos (⟨Z,J⟩:off<=j/\j<off+I.length)]at O;simp only[if_neg z]at Y;exact absurd Y ((h4 _ l H ho k O).2.2.2.2 b j' l' X a2)
   ·have z:¬ (off<=j/\j<off+I.length):=by omega
    simp only[if_neg z]at O;simp only[if_pos (⟨a6,a3⟩:off<=j'/\j'<off+I.length)]at Y;exact absurd O ((h4 _ l' X a2 k Y).2.2.2.2 b j l H ho)
   ·have z:¬ (off<=j/\j<off+I.length):=by omega
    have a5:¬ (off<=j'/\j'<off+I.length):=by omega
    simp only[if_neg z]at O;simp only[if_neg a5]at Y;exact (h1.sep b j l b j' l' H ho X a2 k O Y).2
end
theorem bu {l:List Nat}:l.Nodup<->∀ k,l.count k<=1:=by
 induction l with
 |nil=>simp
 |cons a l H =>
  rw[CO,H];constructor
  ·rintro⟨r,y⟩ k;rw[Cw];by_cases u:a=k
   ·subst u;have:l.count a=0:=B5.2 r;simp[this]
   ·have:=y k;simp[u,this]
  ·intro h;refine⟨λz=>?_,λk=>?_⟩
   ·have r:=h a;have y:0<l.count a:=BN.2 z;rw[Cw]at r;simp at r;omega
   ·have:=h k;rw[Cw]at this;omega
theorem p6 {n:Nat}(r:Nat->List Nat)(k:Nat):((BR n).flatMap r).count k=((BR n).map λj=>(r j).count k).sum:=by
 generalize BR n=l;induction l with
 |nil=>rfl
 |cons a l u=>simp[BI,u]
theorem kF {n i:Nat}(H:i<n)(r:Nat->List Nat)(b:List Nat)(k:Nat) :
  ((BR n).flatMap λj=>if j=i then b else r j).count k+(r i).count k=((BR n).flatMap r).count k+b.count k:=by
 rw[p6,p6];induction n with
 |zero=>omega
 |succ n z =>
  rw[List.range_succ];simp only[DW,Dh,DE,List.sum_append,List.sum_cons,List.sum_nil];by_cases u:i=n
  ·subst u;have:(BR i).map (λj=>List.count k (if j=i then b else r j))=(BR i).map λj=>(r j).count k:=by
    refine List.map_congr_left λj y=>?_
    rw[if_neg (by have:=C4.1 y;omega)]
   rw[this,if_pos rfl];omega
  ·have:=z (by omega);rw[if_neg (λe=>u e.symm)];omega
theorem nd {bs bs' K:List Nat}(y:bs.Nodup)(z:K.Nodup)(H:∀ k∈K,k∉bs)(h:∀ k,bs'.count k<=bs.count k+K.count k):bs'.Nodup/\∀ k∈bs',k∈bs\/k∈K:=by
 rw[bu]at y z;refine⟨bu.2 λk=>?_,λk r=>?_⟩
 ·have J:=h k;have I:=y k;have u:=z k;by_cases r:k∈K
  ·have:bs.count k=0:=B5.2 (H k r);omega
  ·have:K.count k=0:=B5.2 r;omega
 ·have J:=h k;have I:0<bs'.count k:=BN.2 r;by_cases u:k∈bs
  ·exact .inl u
  ·have:bs.count k=0:=B5.2 u;exact .inr (BN.1 (by omega))
theorem Mx.pos {w:World}{G:Nat->Prop}:∀ {a:Ty} {pos r:Nat} {x:a.den} {cs:List Value} {bs:List Nat},Mx w G a none pos x cs bs->Mx w G a none r x cs bs
 |.int _,_,_,_,_,_,h=>h
 |.bool,_,_,_,_,_,h=>h
 |.str,_,_,_,_,_,h=>h
 |.unit,_,_,_,_,_,h=>h
 |.hdr,_,_,_,_,_,h=>h
 |.pair _ _,_,_,_,_,_,⟨u,M,y,I,O,J,R,z⟩=>⟨u,M,y,I,O,J,Mx.pos R,Mx.pos z⟩
 |.list m E e,_,_,_,_,_,H=>by
  cases m with
  |false=>rw[cn]at H ⊢;exact H
  |true=>rw[bJ (by simp)]at H ⊢;exact H
section
variable {P:Program} {V:Env} {W:Wit} {st:St} {w w':World} {a:Act}
theorem Mx.scalar {G:Nat->Prop}{b:Ty}{hol:Option Nat}{pos:Nat}{x:b.den}{cs:List Value}{S:Nat->Prop}(r:b.flat=true)(h:Rd w S b x cs):Mx w G b hol pos x cs []:=Mx.flat r h
theorem lL (h:an P V W st a w):∀ (b:Ty) (pos:Nat) (ls:List Leaf) (cs:List Value) (t:cI b.den),aB P V W st w ls cs->take st b ls=some t ->
  ∃ J M O,cs=J++M/\ls=O++t.rest/\aB P V W st w O J/\aB P V W st w t.rest M/\Mx w (bo V W t.p t.frz) b none pos t.val J (aY W t.kill) /\
   (∀ x∈t.frz,aA st x)/\(∀ x∈t.kill,aA st x)
 |.pair b c,pos,ls,cs,t,H,z=>by
  simp only[take]at z;split at z
  ·rename_i u hb;split at z
   ·rename_i v hc;simp only[BD]at z;subst z;obtain⟨J,M,O,e1,e2,h1,Y,X,h4,h5⟩:=lL h b pos ls cs u H hb;obtain⟨c3,c4,l2,e3,e4,h6,h7,h8,h9,a0⟩:=lL h c (pos+b.cells) u.rest M v Y hc;refine⟨J++c3,c4,O++l2,by rw[e1,e3,BT],by rw[e2,e4,BT],h1.append h6,h7,⟨J,c3,_,_,rfl,dL W _ _,?_,?_⟩,?_,?_⟩
    ·refine X.mono λk I=>?_
     rcases I with I|⟨y,hy,I⟩
     ·exact .inl (bU (by intro h;simp[h]) (λ_ h=>h) k I)
     ·exact .inr ⟨y,BM _ hy,I⟩
    ·refine h8.mono λk I=>?_
     rcases I with I|⟨y,hy,I⟩
     ·exact .inl (bU (by intro h;simp[h]) (λ_ h=>h) k I)
     ·exact .inr ⟨y,BH _ hy,I⟩
    ·intro x R;exact (BO.1 R).elim (h4 x) (h9 x)
    ·intro x R;exact (BO.1 R).elim (h5 x) (a0 x)
   ·cases z
  ·cases z
 |.unit,pos,ls,cs,t,H,z=>by
  simp only[take,BD]at z;subst z;exact⟨[],cs,[],rfl,rfl,trivial,H,⟨rfl,rfl⟩,by simp,by simp⟩
 |.list m E e,pos,ls,cs,t,H,z=>by
  cases ls with
  |nil=>simp[take]at z
  |cons l ls =>
   cases cs with
   |nil=>exact H.elim
   |cons v cs =>
    cases m with
    |false =>
     simp only[take,cond_false]at z;split at z
     ·rename_i p xs ha;simp only[BD]at z;subst z;refine⟨[v],cs,[l],rfl,rfl,⟨H.1,trivial⟩,H.2,cn.2 ⟨rfl,kP h H.1.1 H.1.2.1 ha⟩,λx R=>eq (cs:=[v]) (ls:=[l]) ⟨H.1,trivial⟩ R,by simp⟩
     ·cases z
    |true =>
     simp only[take,cond_true]at z;split at z
     ·rename_i r j n;split at z
      ·rename_i p E' e' xs hd;simp only[BE]at z;obtain⟨ys,hc,rfl⟩:=z;obtain⟨rfl,rfl,rfl⟩:=jR hc;obtain⟨h1,Y,X,h4⟩:=kr h hd H.1.1;refine⟨[v],cs,[_],rfl,rfl,⟨H.1,trivial⟩,H.2,(bJ (by simp)).2 ⟨v,rfl,?_⟩,by simp,?_⟩
       ·have:aY W [(r,j)]=W.bs r j:=by simp[aY]
        show OwB w _ none E' e' xs v (aY W [(r,j)]);rw[this];exact Y.2.carry (λk I=>.inl I) (λ_ _=>rfl) (λ_ _=>rfl)
       ·intro x R;simp only[List.mem_singleton]at R;subst R;exact⟨_,X,trivial⟩
      ·cases z
     ·simp only[BD]at z;subst z;have X:v=.slice none 0 0:=H.1.1;refine⟨[v],cs,[_],rfl,rfl,⟨H.1,trivial⟩,H.2,(bJ (by simp)).2 ⟨v,rfl,?_⟩,by simp,by simp⟩;rw[X];exact (OwH.nil w _ E e).2
     ·cases z
 |.int k,pos,ls,cs,t,H,z=>take_scalar h (b:=.int k) rfl H z
 |.bool,pos,ls,cs,t,H,z=>take_scalar h (b:=.bool) rfl H z
 |.str,pos,ls,cs,t,H,z=>take_scalar h (b:=.str) rfl H z
 |.hdr,pos,ls,cs,t,H,z=>take_scalar h (b:=.hdr) rfl H z
where
 take_scalar (h:an P V W st a w) {b:Ty} {pos:Nat} {ls:List Leaf} {cs:List Value} {t:cI b.den} (hf:b.flat=true) (H:aB P V W st w ls cs) (z:(bc st b ls).map (λx=>(⟨false,x.2.1,[],[],x.2.2⟩:cI b.den))=some t) :
   ∃ J M O,cs=J++M/\ls=O++t.rest/\aB P V W st w O J/\aB P V W st w t.rest M/\Mx w (bo V W t.p t.frz) b none pos t.val J (aY W t.kill) /\
    (∀ x∈t.frz,aA st x)/\(∀ x∈t.kill,aA st x):=by
  simp only[BE]at z;obtain⟨⟨p,x,Z⟩,h1,rfl⟩:=z;obtain⟨J,M,O,e1,e2,Y,X,h4⟩:=kQ h b ls cs p x Z H h1;exact⟨J,M,O,e1,e2,Y,X,Mx.flat hf h4,by simp,by simp⟩
theorem dR (h:an P V W st a w){b:Ty}{pos:Nat}{ls:List Leaf}{cs:List Value}{t:cI b.den}(O:aB P V W st w ls cs)(r:ch st b ls=some t) :
  Mx w (bo V W t.p t.frz) b none pos t.val cs (aY W t.kill)/\(∀ x∈t.frz,aA st x)/\(∀ x∈t.kill,aA st x):=by
 unfold ch at r;split at r
 ·rename_i p x f k H;simp only[BD]at r;subst r;obtain⟨R,u,Y,y,X,Z,I,z,J,M⟩:=lL h b pos ls cs _ O H;have:u=[]:=by
   cases u with
   |nil=>rfl
   |cons=>exact I.elim
  subst this;simp only[B6]at y;subst y;exact⟨z,J,M⟩
 ·cases r
theorem gN (h:an P V W st a w):∀ {ks:List (Nat×Nat)},a7 ks=true->(∀ x∈ks,aA st x)->(aY W ks).Nodup
 |[],_,_=>Db
 |x::ks,I,O=>by
  simp only[a7,BF,B4,CB]at I;have ih:=gN h I.2 (λy H=>O y (BS _ H));show (W.bs x.1 x.2++aY W ks).Nodup;rw[CK];obtain⟨l,M,z⟩:=O x (BZ ..);refine⟨?_,ih,λk R k' r e=>?_⟩
  ·have Z:x.2<(W.cs x.1).length:=by rw[<- h.len];exact (BG.1 M).1
   have:=h.leaf x.1 x.2 l _ M (BW Z);cases l <;> simp only[am]at z;exact OwH.nodup this
  ·subst e;obtain⟨y,H,r⟩:=gl.1 r;obtain⟨Y,J,u⟩:=O y (BS _ H);obtain⟨e1,X⟩:=h.sep x.1 x.2 l y.1 y.2 Y M z J u k R r;have:=I.1 y H;rw[e1,X]at this;simp at this
theorem kf:∀ {b:Ty} {S I:Nat->Prop} {u:Option Nat} {pos:Nat} {y:b.den} {c:List Value} {q:List Nat},b.flat=true->Mx w S b u pos y c q->Rd w I b y c
 |.int _,_,_,_,_,_,_,_,_,h=>h.1
 |.bool,_,_,_,_,_,_,_,_,h=>h.1
 |.str,_,_,_,_,_,_,_,_,h=>h.1
 |.unit,_,_,_,_,_,_,_,_,h=>h.1
 |.hdr,_,_,_,_,_,_,_,_,h=>h.1
 |.pair _ _,_,_,_,_,_,_,_,r,⟨z,J,R,X,M,Y,O,H⟩=>by
  simp only[Ty.flat,BF]at r;exact⟨z,J,M,kf r.1 O,kf r.2 H⟩
 |.list _ _ _,_,_,_,_,_,_,_,r,_=>by simp[Ty.flat]at r
theorem mo (h:an P V W st a w){G:Nat->Prop}{off n:Nat}{hol I:Option Nat}(a4:∀ k,off<=k->k<off+n->I≠some k)(R:∀ k,¬ (off<=k/\k<off+n)->(I=some k<->hol=some k)) :
  ∀ (b:Ty) (pos:Nat) (x:b.den) (ls:List Leaf) (cs:List Value) (t:cI b.den) (X:List Value) (z:List Nat),aB P V W st w ls cs->de st off n b pos x ls=some t->Mx w G b hol pos x X z ->
  ∃ O c2 c' J,cs=O++c2/\aB P V W st w t.rest c2/\O.length=min (off+n) (pos+b.cells)-max off pos /\
   Mx w (λk=>G k\/bo V W t.p t.frz k) b I pos t.val c' J /\
   (∀ i,i<b.cells->c'[i]?=if off<=pos+i/\pos+i<off+n then O[pos+i-max off pos]? else X[i]?) /\
   (∀ k,J.count k<=z.count k+(aY W t.kill).count k)/\(∀ x∈t.frz,aA st x)/\(∀ x∈t.kill,aA st x)
 |.pair b c,pos,x,ls,cs,t,X,z,M,r,⟨d1,d2,b1,b2,e1,e2,ad,b9⟩=>by
  simp only[de]at r;split at r
  ·rename_i u Y;split at r
   ·rename_i v hc;simp only[BD]at r;subst r;obtain⟨O,c2,c',J,f1,f2,f3,f4,f5,f6,f7,f8⟩:=mo h a4 R b pos x.1 ls cs u d1 b1 M Y ad;obtain⟨c3,c4,a6,a1,g1,g2,g3,g4,g5,g6,g7,g8⟩:=mo h a4 R c (pos+b.cells) x.2 u.rest c2 v d2 b2 f2 hc b9;have b5:=f4.len;have bb:=g4.len;have b3:=ad.len;refine⟨O++c3,c4,c'++a6,J++a1,by rw[f1,g1,BT],g2,?_,⟨c',a6,J,a1,rfl,rfl,?_,?_⟩,?_,?_,?_,?_⟩
    ·rw[BV,f3,g3];simp only[Ty.cells];omega
    ·refine f4.mono λk H=>?_
     rcases H with H|H|⟨y,hy,H⟩
     ·exact .inl H
     ·exact .inr (.inl (bU (by intro h;simp[h]) (λ_ h=>h) k H))
     ·exact .inr (.inr ⟨y,BM _ hy,H⟩)
    ·refine g4.mono λk H=>?_
     rcases H with H|H|⟨y,hy,H⟩
     ·exact .inl H
     ·exact .inr (.inl (bU (by intro h;simp[h]) (λ_ h=>h) k H))
     ·exact .inr (.inr ⟨y,BH _ hy,H⟩)
    ·intro i hi;simp only[Ty.cells]at hi;rw[e1];by_cases b4:i<b.cells
     ·rw[BK (by omega),f5 i b4];by_cases hr:off<=pos+i/\pos+i<off+n
      ·rw[if_pos hr,if_pos hr,BK (by omega)]
      ·rw[if_neg hr,if_neg hr,BK (by omega)]
     ·rw[BJ (by omega),b5,g5 (i-b.cells) (by omega)];have e3:pos+b.cells+(i-b.cells)=pos+i:=by omega
      rw[e3];by_cases hr:off<=pos+i/\pos+i<off+n
      ·rw[if_pos hr,if_pos hr,BJ (by omega)];congr 1;omega
      ·rw[if_neg hr,if_neg hr,BJ (by omega),b3]
    ·intro k;rw[e2,BI,BI,dL,BI];have:=f6 k;have:=g6 k;omega
    ·intro y hy;exact (BO.1 hy).elim (f7 y) (g7 y)
    ·intro y hy;exact (BO.1 hy).elim (f8 y) (g8 y)
   ·cases r
  ·cases r
 |.unit,pos,x,ls,cs,t,X,z,M,r,hm=>by
  simp only[de,BD]at r;subst r;refine⟨[],cs,[],[],rfl,M,by simp only[Ty.cells,Ce];omega,⟨rfl,rfl⟩,λi hi=>by simp[Ty.cells]at hi,λk=>by simp,by simp,by simp⟩
 |.hdr,pos,x,ls,cs,t,X,z,M,r,hm=>by simp[de]at r
 |.int k,pos,x,ls,cs,t,X,z,M,r,hm=>put_scalar h (b:=.int k) rfl rfl M r hm
 |.bool,pos,x,ls,cs,t,X,z,M,r,hm=>put_scalar h (b:=.bool) rfl rfl M r hm
 |.str,pos,x,ls,cs,t,X,z,M,r,hm=>put_scalar h (b:=.str) rfl rfl M r hm
 |.list m E e,pos,x,ls,cs,t,X,z,M,r,hm=>by
  simp only[de]at r;have ba:=hm.len;have e0:(Ty.list m E e).cells=1:=rfl;cases Y:Cs off pos&&C8 pos (off+n) with
  |true =>
   rw[Y]at r;simp only[cond_true]at r;simp only[BF,Ci]at Y;have b0:=CQ Y.1;obtain⟨O,c2,l1,e1,e2,h1,h2,h3,h4,h5⟩:=lL h (.list m E e) pos ls cs t M r;have a3:=h3.len;refine⟨O,c2,O,aY W t.kill,e1,h2,by rw[a3];omega,?_,λi hi=>?_,λk=>by omega,h4,h5⟩
   ·have Z:=h3.mono (G':=λk=>G k\/bo V W t.p t.frz k) (λk H=>.inr H);cases m with
    |false=>rw[cn]at Z ⊢;exact Z
    |true =>
     rw[bJ (by simp)]at Z;rw[bJ (a4 pos b0 Y.2)];exact Z
   ·rw[if_pos (by omega)];congr 1;omega
  |false =>
   rw[Y]at r;simp only[cond_false,BD]at r;subst r;have a2:¬ (off<=pos/\pos<off+n):=by
    rintro⟨h1,h2⟩;have:(Cs off pos&&C8 pos (off+n))=true:=by
     simp only[BF,Ci];exact⟨Cb h1,h2⟩
    rw[Y]at this;cases this
   refine⟨[],cs,X,z,rfl,M,by simp only[Ce];omega,?_,λi hi=>?_,λk=>by omega,by simp,by simp⟩
   ·have Z:=hm.mono (G':=λk=>G k\/bo V W false [] k) (λk H=>.inl H);cases m with
    |false=>rw[cn]at Z ⊢;exact Z
    |true =>
     by_cases hp:hol=some pos
     ·have a5:=(R pos a2).2 hp;subst hp;subst a5;rw[jd]at Z ⊢;exact Z
     ·have a5:I≠some pos:=λe=>hp ((R pos a2).1 e)
      rw[bJ hp]at Z;rw[bJ a5];exact Z
   ·rw[if_neg (by omega)]
where
 put_scalar (h:an P V W st a w) {b:Ty} {pos:Nat} {x:b.den} {ls:List Leaf} {cs:List Value} {t:cI b.den} {X:List Value} {z:List Nat} (hf:b.flat=true) (h1:b.cells=1) (M:aB P V W st w ls cs)
   (r:(bif Cs off pos&&C8 pos (off+n) then take st b ls else some ⟨false,x,[],[],ls⟩)=some t) (hm:Mx w G b hol pos x X z) :
   ∃ O c2 c' J,cs=O++c2/\aB P V W st w t.rest c2/\O.length=min (off+n) (pos+b.cells)-max off pos /\
    Mx w (λk=>G k\/bo V W t.p t.frz k) b I pos t.val c' J /\
    (∀ i,i<b.cells->c'[i]?=if off<=pos+i/\pos+i<off+n then O[pos+i-max off pos]? else X[i]?) /\
    (∀ k,J.count k<=z.count k+(aY W t.kill).count k)/\(∀ x∈t.frz,aA st x)/\(∀ x∈t.kill,aA st x):=by
  have a0:∀ {S S':Nat->Prop} {hh a9:Option Nat} {y:b.den} {c:List Value} {q:List Nat},Mx w S b hh pos y c q->Mx w S' b a9 pos y c []:=by
   intro S S' hh a9 y c q hq;exact Mx.flat (w:=w) (G:=λ_=>True) hf (kf hf hq)
  cases Y:Cs off pos&&C8 pos (off+n) with
  |true =>
   rw[Y]at r;simp only[cond_true]at r;simp only[BF,Ci]at Y;have b0:=CQ Y.1;obtain⟨O,c2,l1,e1,e2,h2,h3,h4,h5,Z⟩:=lL h b pos ls cs t M r;have a3:=h4.len;refine⟨O,c2,O,[],e1,h3,by rw[a3];omega,a0 h4,λi hi=>?_,λk=>by simp,h5,Z⟩;rw[if_pos (by omega)];congr 1;omega
  |false =>
   rw[Y]at r;simp only[cond_false,BD]at r;subst r;have a2:¬ (off<=pos/\pos<off+n):=by
    rintro⟨h1,h2⟩;have:(Cs off pos&&C8 pos (off+n))=true:=by
     simp only[BF,Ci];exact⟨Cb h1,h2⟩
    rw[Y]at this;cases this
   refine⟨[],cs,X,[],rfl,M,by simp only[Ce];omega,a0 hm,λi hi=>?_,λk=>by simp,by simp,by simp⟩;rw[if_neg (by omega)]
end
section
variable {P:Program} {V:Env} {Γ:List Ctr} {T:TypeId->TI} {st st2:St} {o:Oper} {R:Type} {κ:Upd->Option R} {r:R}
def vf (V:Env)(W:Wit)(st:St)(q j k:Nat):Prop :=
 ¬ W.nw k/\¬ V.prot k/\(∀ b,live st b->W.β b≠k)/\∀ (u i:Nat) (l:Leaf),(st u).ls[i]?=some l->am l->(u,i)≠(q,j)->k∉W.bs u i
structure x4 (st st2:St) (q j:Nat) (l':Leaf):Prop where
 sh:∀ r,(st2 r).sh=(st r).sh
 ver:∀ r,(st r).ver<=(st2 r).ver
 epo:(st EPO).ver<(st2 EPO).ver
 len:∀ r,(st2 r).ls.length=(st r).ls.length
 at_:∀ l,(st2 q).ls[j]?=some l->l=l'
 old:∀ r i l,(r,i)≠(q,j)->(st2 r).ls[i]?=some l->(st r).ls[i]?=some l
def Wit.tell (W:Wit)(q j:Nat)(bs:List Nat):Wit:={ W with bs:=λr i=>if (r,i)=(q,j) then bs else W.bs r i }
theorem an.retell (hV:ax V){W:Wit}{a:Act}{w w':World}(h:an P V W st a w){q j:Nat}{l l':Leaf}(O:x4 st st2 q j l'){v:Value}{bs':List Nat}
  (hl:(st q).ls[j]?=some l) (a5:am l) (hv:(W.cs q)[j]?=some v) (b4:am l') (ad:aK P V W st w' bs' l' v)
  (a4:∀ k∈bs',vf V W st q j k)
  (I:∀ k,cd V W st k->k∉W.bs q j->w'.heap[k]?=w.heap[k]?) (a9:w.heap.size<=w'.heap.size) (b2:w'.os=w.os) (ht:w'.tape=w.tape) (ho:w'.output=w.output) :
  an P V (W.tell q j bs') st2 a w':=by
 have a0:=h.ownb q j _ hl a5;have Y:∀ b,live st2 b<->live st b:=iA O.sh;have a1:∀ {y i:Nat},(y,i)≠(q,j)->(W.tell q j bs').bs y i=W.bs y i:=λh=>if_neg h
 have a3:(W.tell q j bs').bs q j=bs':=if_pos rfl;have b1:∀ (y i:Nat) (l:Leaf),(st2 y).ls[i]?=some l->am l->(y,i)≠(q,j)->(st y).ls[i]?=some l:=λy i l Z _ M=>O.old y i l M Z
 have H:cA V W (W.tell q j bs') st st2 w w':=by
  refine⟨λy=>⟨O.ver y,λ_=>rfl⟩,λb hb=>⟨(Y b).2 hb,rfl⟩,λ_ h=>h,λk z=>I k (z.elim .inl (λh=>.inr (.inl h))) (λhm=>?_),λhe=>?_⟩
  ·rcases z with z|z
   ·exact (a0 k hm).1 z
   ·exact (a0 k hm).2.1 z
  ·have:=O.epo;omega
 exact {
  nt:=h.nt,df:=h.df
  slots:=λt b3=>by rw[O.sh];exact h.slots t b3
  boxes:=λb hb=>by
   rw[O.sh];rcases h.boxes b hb with ⟨Z,M⟩|⟨Z,E0,M⟩
   ·refine .inl ⟨Z,BY ?_⟩;rw[O.len,M];rfl
   ·refine .inr ⟨Z,E0,?_⟩;show w'.heap[W.β b]?=_;rw[I _ (.inr (.inr (.inl ⟨b,⟨hb,Z⟩,rfl⟩))) (λhm=>(a0 _ hm).2.2 b ⟨hb,Z⟩ rfl)];exact M
  len:=λy=>by rw[O.len];exact h.len y
  one:=h.one
  leaf:=λy i l1 u Z M=>by
   by_cases J:(y,i)=(q,j)
   ·cases J;obtain rfl:=O.at_ l1 Z;have M:(W.cs q)[j]?=some u:=M;rw[hv]at M;simp only[BD]at M;subst M;rw[a3];have a6:cA V W (W.tell q j bs') st st2 w' w':=⟨H.ver,H.box,H.nw,λ_ _=>rfl,λhe=>by have:=O.epo;omega⟩;exact ad.carry hV.ro a6 (λ_=>⟨rfl,λ_ _=>rfl⟩)
   ·have h3:=O.old y i l1 J Z;rw[a1 J];refine (h.leaf y i l1 u h3 M).carry hV.ro H (λho=>⟨rfl,λk z=>I k (.inr (.inr (.inr ⟨y,i,l1,h3,ho,z⟩))) (λhm=>J ?_)⟩);obtain⟨rfl,rfl⟩:=h.sep y i l1 q j _ h3 ho hl a5 k z hm;rfl
  ownb:=λy i l1 Z M k z=>by
   by_cases J:(y,i)=(q,j)
   ·cases J;rw[a3]at z;obtain⟨q1,q2,q3,_⟩:=a4 k z;exact⟨q1,q2,λb hb=>q3 b ((Y b).1 hb)⟩
   ·rw[a1 J]at z;obtain⟨q1,q2,q3⟩:=h.ownb y i l1 (O.old y i l1 J Z) M k z;exact⟨q1,q2,λb hb=>q3 b ((Y b).1 hb)⟩
  sep:=λy i l1 r2 i2 l2 Z M h3 h4 k z a2=>by
   by_cases J:(y,i)=(q,j) <;> by_cases X:(r2,i2)=(q,j)
   ·rw[<- X]at J;cases J;exact⟨rfl,rfl⟩
   ·cases J;rw[a3]at z;rw[a1 X]at a2;exact absurd a2 ((a4 k z).2.2.2 r2 i2 l2 (O.old r2 i2 l2 X h3) h4 X)
   ·cases X;rw[a3]at a2;rw[a1 J]at z;exact absurd z ((a4 k a2).2.2.2 y i l1 (O.old y i l1 J Z) M J)
   ·rw[a1 J]at z;rw[a1 X]at a2;exact h.sep y i l1 r2 i2 l2 (O.old y i l1 J Z) M (O.old r2 i2 l2 X h3) h4 k z a2
  box:=λb hb=>h.box b ((Y b).1 hb)
  inj:=λb b' hb b0=>h.inj b b' ((Y b).1 hb) ((Y b').1 b0)
  nwlt:=λk z=>⟨CN (h.nwlt k z).1 a9,(h.nwlt k z).2⟩
  os:=b2.trans h.os,tape:=ht.trans h.tape,output:=ho.trans h.output,size:=CL h.size a9
  keep:=λk hp=>by
   rw[I k (.inr (.inl hp)) (λhm=>(a0 k hm).2.1 hp)];exact h.keep k hp
  fixb:=λx hx=>⟨(Y _).2 (h.fixb x hx).1,(h.fixb x hx).2⟩
  fixt:=h.fixt }
theorem kV {q:Nat}(st:St):∀ (ks:List (Nat×Nat)),(∀ x∈ks,x.1≠q)->ac (aE st ks) st q=st q
 |[],_=>rfl
 |(r,j)::ks,h=>by
  have e:ac (aE st ((r,j)::ks)) st=ac [(r,fX (ac (aE st ks) st r) j)] (ac (aE st ks) st):=aP _ _ _ _;rw[e,aJ (CT (h (r,j) (BZ ..))),kV st ks (λx u=>h x (BS _ u))]
theorem kG {q:Nat}(st:St):∀ (ks:List (Nat×Nat)),(∀ x∈ks,x.1≠q)->ac (aN st ks) st q=st q
 |[],_=>rfl
 |(r,j)::ks,h=>by
  have e:ac (aN st ((r,j)::ks)) st=ac [(r,gb (ac (aN st ks) st r) j)] (ac (aN st ks) st):=aP _ _ _ _;rw[e,aJ (CT (h (r,j) (BZ ..))),kG st ks (λx u=>h x (BS _ u))]
theorem OwH.store {w:World}{G G':Nat->Prop}{h h':Option (Nat×Nat)}{E:TypeId}{e:Ty}{xs:List e.den}{g len a4:Nat}{bs K:List Nat}(H:OwH w G h E e xs (.slice (some ⟨g,0,none⟩) len a4) bs)
  (hG:∀ k,G k->G' k) (c3:¬ G' g) (hK:K.Nodup) (d1:∀ k∈K,k∉bs) {i:Nat} {a9 z:e.den} (hi:xs[i]?=some a9) (hh:∀ j,j≠i->cJ h' j=cJ h j) {off:Nat} {cs:List Value} (e4:off+cs.length<=e.cells)
  (J:∀ c0 b3,Mx w G e (cJ h i) 0 a9 c0 b3->∃ c M,Mx w G' e (cJ h' i) 0 z c M/\(∀ k,k<e.cells->c[k]?=if off<=k/\k<off+cs.length then cs[k-off]? else c0[k]?)/\∀ k,M.count k<=b3.count k+K.count k) :
  ∃ bn,OwH (w.setCells g (i*e.cells+off) cs) G' h' E e (xs.set i z) (.slice (some ⟨g,0,none⟩) len a4) bn/\∀ k∈bn,k∈bs\/k∈K:=by
 obtain⟨cc,a1,Y,h1,h2,h3⟩:=H;have a6:i<xs.length:=(BG.1 hi).1;obtain⟨c0,b9,dc⟩:=h3 i a9 hi;obtain⟨c,M,hm,d2,ba⟩:=J c0 (Y i) b9;have d3:=h1.1;rcases h1.2 with ⟨h4,_⟩|⟨g',e2,y,mk,h4,hg,c1,cx,cp,ad⟩
 ·simp at h4
 ·simp only[CC,BD,Cn,and_true,true_and]at h4;obtain⟨rfl,rfl,rfl⟩:=h4;have dd:g∈bs:=by rw[h2];simp[B8]
  have e3:=b9.len;have cw:=hm.len;have b0:(i+1)*e.cells<=xs.length*e.cells:=BQ _ a6;rw[CF]at b0;have e1:xs.length*e.cells<=a4*e.cells:=BQ _ c1;have c4:y.toList.length=y.size:=by rw[CD]
  have b1:a1=y.toList.take (xs.length*e.cells):=ad.symm;have J:=jU g E cs 0 (i*e.cells+off) w y hg;have b4:=la y.toList cs (i*e.cells+off) (by omega);rw[B9]at b4;rw[b4]at J;simp only[CJ]at J;have Z:∀ k,k<xs.length*e.cells->(y.toList.take (i*e.cells+off)++cs++y.toList.drop (i*e.cells+off+cs.length))[k]? =
    if i*e.cells+off<=k/\k<i*e.cells+off+cs.length then cs[k-(i*e.cells+off)]? else a1[k]?:=by
   intro k X;have bl:a1[k]?=y.toList[k]?:=by rw[b1,CH,if_pos X]
   by_cases h9:k<i*e.cells+off
   ·rw[BT,BK (by simp only[B7];omega),CH,if_pos h9,if_neg (by omega),bl]
   ·by_cases cu:k<i*e.cells+off+cs.length
    ·rw[BT,BJ (by simp only[B7];omega),BK (by simp only[B7];omega),if_pos ⟨by omega,cu⟩];congr 1;simp only[B7];omega
    ·rw[BJ (by simp only[B7,BV];omega),CW,if_neg (by omega),bl];congr 1;simp only[B7,BV];omega
  have O:(y.toList.take (i*e.cells+off)++cs++y.toList.drop (i*e.cells+off+cs.length)).length=y.size:=by
   simp only[BV,B7,Cp];omega
  have a2:∀ k,([g]++(BR xs.length).flatMap λj=>if j=i then M else Y j).count k<=bs.count k+K.count k:=by
   intro k;have h5:=kF a6 Y M k;have h6:=ba k;rw[h2];simp only[B8,DC,BI];omega
  have a0:=nd cc hK d1 a2;have bx:∀ j,j<xs.length->∀ k∈(if j=i then M else Y j),k≠g:=by
   intro j hj k X e0;subst e0;have h7:=a0.1;rw[Cy,CO]at h7;exact h7.1 (dY.2 ⟨j,hj,X⟩)
  have I:∀ k,k≠g->(w.setCells g (i*e.cells+off) cs).heap[k]?=w.heap[k]?:=λk X=>eR g cs _ w k X
  refine⟨[g]++(BR xs.length).flatMap λj=>if j=i then M else Y j,⟨a0.1,(y.toList.take (i*e.cells+off)++cs++y.toList.drop (i*e.cells+off+cs.length)).take (xs.length*e.cells),
   λj=>if j=i then M else Y j,⟨?_,.inr ⟨g,a4,_,_,?_,J,?_,by rw[CZ,O];exact cx,?_,?_⟩⟩,?_,?_⟩,a0.2⟩
  ·rw[B7,O,CP];omega
  ·rw[CP]
  ·rw[CP];exact c1
  ·rw[CZ,O];exact cp
  ·rw[CP]
  ·simp[B8]
  ·intro j x hj;rcases aS _ _ _ _ _ hj with ⟨rfl,rfl,_⟩|⟨a3,hj⟩
   ·refine⟨c,?_,λk u hu=>?_⟩
    ·simp only[if_true];exact hm.carry (λ_ h=>h) (λk X=>I k (λe0=>c3 (e0 ▸ X))) (λk X=>I k (bx j a6 k (by simpa using X)))
    ·have b2:k<e.cells:=by rw[<- cw];exact (BG.1 hu).1
     rw[CH,if_pos (by omega),Z _ (by omega)];rw[d2 k b2]at hu;by_cases c2:off<=k/\k<off+cs.length
     ·rw[if_pos c2]at hu;rw[if_pos (by omega),<- hu];congr 1;omega
     ·rw[if_neg c2]at hu;rw[if_neg (by omega)];exact dc k u hu
   ·obtain⟨c',bb,cy⟩:=h3 j x hj;have b5:j<xs.length:=(BG.1 hj).1;refine⟨c',?_,λk u hu=>?_⟩
    ·rw[hh j a3];simp only[if_neg a3];exact bb.carry hG (λk X=>I k (λe0=>c3 (e0 ▸ hG k X))) (λk X=>I k (bx j b5 k (by rw[if_neg a3];exact X)))
    ·have b2:k<e.cells:=by rw[<- bb.len];exact (BG.1 hu).1
     have cb:(j+1)*e.cells<=xs.length*e.cells:=BQ _ b5;rw[CF]at cb;rw[CH,if_pos (by omega),Z _ (by omega),if_neg ?_]
     ·exact cy k u hu
     ·rintro⟨h14,h15⟩;rcases Nat.lt_or_gt_of_ne (λe=>a3 e.symm:i≠j) with a5|a5
      ·have:(i+1)*e.cells<=j*e.cells:=BQ _ a5;rw[CF]at this;omega
      ·have:(j+1)*e.cells<=i*e.cells:=BQ _ a5;rw[CF]at this;omega
theorem x5 (hV:ax V)(hT:TOk P T){t:TypeId}{x y:Operand}(b3:o.op=.store t x y)(h:act Γ T o st κ=some r):bW P V o st κ r:=by
  simp only[act,wrU,b3]at h;split at h
  · cases h
  · rename_i hd
    cases hb:BU (au st y).2.length (T t).cells&&decide ((au st y).1=bi (T t).agg)&&!decide ((T t).cells=0) with
    |false=>simp[hb]at h
    |true =>
      simp only[hb,cond_true]at h;simp only[BF,decide_eq_true_eq,B4,decide_eq_false_iff_not]at hb;obtain⟨⟨bn,cp⟩,b4⟩:=hb;have bn:=BL bn;split at h
      · rename_i b off hx
        cases Z:decide ((st b).sh=.agg)&&decide (off+(au st y).2.length<=(st b).ls.length)&&hY st (au st y).2 with
        |false=>simp[Z]at h
        |true =>
          simp only[Z,cond_true]at h;simp only[BF,decide_eq_true_eq]at Z;exact⟨_,h,λW a w hr=>tB hV hT b3 hd hx bn cp b4 Z.1.1 Z.1.2 Z.2 hr⟩
      · rename_i z j fx i sz off hx
        split at h
        · rename_i p hh E e xs em
          cases Z:BU sz e.cells&&decide (off+(au st y).2.length<=e.cells)&&sb z with
          |false=>simp[Z]at h
          |true =>
            simp only[Z,cond_true]at h;simp only[BF,decide_eq_true_eq,sb,B4]at Z;obtain⟨⟨bl,fz⟩,g3,ec⟩:=Z;have bl:=BL bl;subst bl;have ex:z≠EPO:=λe0=>by subst e0;simp at ec
            unfold gE at h;obtain⟨a2,d1,h⟩:=CA.1 h;obtain⟨_,_,h4⟩:=gm d1;simp only[DF]at h4;split at h
            · rename_i u hu
              cases hq:u.rest.isEmpty&&a7 u.kill&&dE u.frz u.kill&&!((u.kill++u.frz).any λk=>BU k.1 z) with
              |false=>rw[hq]at h;cases h
              |true =>
                simp only[hq,cond_true]at h;simp only[BF,B4,CB]at hq;obtain⟨⟨⟨ej,et⟩,ev⟩,a0⟩:=hq;have a0:∀ k∈u.kill++u.frz,k.1≠z:=λk H e0=>a0 k H (by simp[e0])
                obtain ⟨I, hκ, cw, a5, dd⟩ : ∃ I : Option (Nat × Nat), κ ((z, ⟨(st z).ver, (st z).sh, aU (st z).ls j (.own (p || u.p) I E e (xs.set i u.val))⟩) :: (EPO, bV (ac (aN (ac (aE st u.frz) st) u.kill ++ aE st u.frz) st EPO)) ::
                      (aN (ac (aE st u.frz) st) u.kill++aE st u.frz))=some r /\
                    (∀ k,off<=k->k<off+(au st y).2.length->cJ I i≠some k)/\(∀ k,¬ (off<=k/\k<off+(au st y).2.length)->(cJ I i=some k<->cJ hh i=some k))/\(∀ j',j'≠i->cJ I j'=cJ hh j'):=by
                  cases hh with
                  |none=>exact⟨none,h,λ_ _ _=>by simp[cJ],λ_ _=>Ck,λ_ _=>rfl⟩
                  |some hp =>
                    obtain⟨hi,ho⟩:=hp;simp only at h;cases J:Cs off ho&&C8 ho (off+(au st y).2.length) with
                    |true =>
                      rw[J]at h;simp only[cond_true]at h;simp only[BF,Ci]at J;have en:=CQ J.1;cases a3:BU i hi with
                      |true =>
                        rw[a3]at h;have:=BL a3;subst this;refine⟨none,h,λ_ _ _=>by simp[cJ],λk H=>?_,λj' ef=>?_⟩
                        · simp only[cJ,Nat.beq_refl,cond_true,reduceCtorEq,BD,false_iff]
                          rintro rfl;exact H ⟨en,J.2⟩
                        · have:BU i j'=false:=by
                            cases bb:BU i j' with
                            |false=>rfl
                            |true=>exact absurd (BL bb).symm ef
                          simp[cJ,this]
                      |false =>
                        rw[a3]at h;have es:BU hi i=false:=by
                          cases bb:BU hi i with
                          |false=>rfl
                          |true =>
                            have:=BL bb;subst this;simp at a3
                        exact⟨some (hi,ho),h,λ_ _ _=>by simp[cJ,es],λ_ _=>Ck,λ_ _=>rfl⟩
                    |false =>
                      rw[J]at h;refine⟨some (hi,ho),h,λk b2 f0=>?_,λ_ _=>Ck,λ_ _=>rfl⟩;simp only[cJ];cases BU hi i with
                      |false=>simp
                      |true =>
                        simp only[cond_true,ne_eq,BD];rintro rfl;have:(Cs off ho&&C8 ho (off+(au st y).2.length))=true:=by
                          simp only[BF,Ci];exact⟨Cb b2,f0⟩
                        rw[J]at this;cases this
                refine⟨_,hκ,λW a w hr next Q hn=>?_⟩;obtain⟨cs,hs,M⟩:=cU hr y;rw[cp]at hs;have fd:=gT hs M.one';have c3:=M.length;obtain⟨h5,h6⟩:=fj em (by simp);obtain⟨hp,_,_,_⟩:=bt hr x (by rw[hx];simp);rw[hx]at hp;obtain⟨g,e7,fr,ad,g1,hv⟩:=hp.2 h5;have eb:T t≠.none:=by intro e;rw[e]at b4;exact b4 rfl
                have a1:=hr.leaf z j _ _ h6 ad;have ed:∀ c0 O,Mx w (gd V W p) e (cJ hh i) 0 a2 c0 O->∃ c a4,Mx w (λk=>gd V W p k\/bo V W u.p u.frz k) e (cJ I i) 0 u.val c a4 /\
                    (∀ k,k<e.cells->c[k]?=if off<=k/\k<off+cs.length then cs[k-off]? else c0[k]?)/\∀ k,a4.count k<=O.count k+(aY W u.kill).count k:=by
                  intro c0 O hm;obtain⟨c1,c2,c',bs',f1,f2,f3,f4,f5,f6,f7,f8⟩:=mo hr cw a5 e 0 a2 (au st y).2 cs u c0 O M hu hm;have cc:c2=[]:=by
                    have:=f2.length;rw[DN.1 ej]at this;exact BY this.symm
                  subst cc;rw[B6]at f1;subst f1;refine⟨c',bs',f4,λk H=>?_,f6⟩;rw[f5 k H,c3];simp only[CU];by_cases J:off<=k/\k<off+cs.length
                  · rw[if_pos J,if_pos J]
                    congr 1;omega
                  · rw[if_neg J,if_neg J]
                have b5:(∀ x∈u.frz,aA st x)/\(∀ x∈u.kill,aA st x):=by
                  obtain⟨_,a9,cy,_,_,cu⟩:=a1;obtain⟨c0,eg,_⟩:=cu i a2 h4;obtain⟨_,_,_,_,_,_,_,_,_,_,f7,f8⟩:=mo hr cw a5 e 0 a2 (au st y).2 cs u c0 _ M hu eg;exact⟨f7,f8⟩
                obtain⟨k1,k2,k3,k4⟩:=fK hV hr ev b5.2;have X:ac (aN (ac (aE st u.frz) st) u.kill++aE st u.frz) st z=st z:=by
                  rw[bD,kG _ _ (λx hx=>a0 x (BM _ hx)),kV _ _ (λx hx=>a0 x (BH _ hx))]
                have h7:(ac (aN (ac (aE st u.frz) st) u.kill++aE st u.frz) st z).ls[j]?=some (.own p hh E e xs):=by rw[X];exact h6
                have a6:=k1.ownb z j _ h7 trivial;have c4:∀ k,gd V W p k\/bo V W u.p u.frz k->gd V (W.frz st u.frz) (p||u.p) k:=by
                  rintro k (H|H)
                  · exact bU (W':=W.frz st u.frz) (by intro h;simp[h]) (λ_ h=>Or.inl h) k H
                  · exact bU (W':=W.frz st u.frz) (by intro h;simp[h]) (λ_ h=>h) k (ku b5.1 k H)
                have b0:g∈W.bs z j:=by obtain⟨_,a9,cy,_,d2,_⟩:=a1;rw[d2];simp[B8]
                have fo:¬ gd V (W.frz st u.frz) (p||u.p) g:=by
                  rintro (H|⟨_,H⟩)
                  · exact (a6 g b0).1 H
                  · exact (a6 g b0).2.1 (hV.ro g H)
                have fc:∀ k∈aY W u.kill,k∉W.bs z j:=λk H fl=>(k4 k H).2.2.2.2 z j _ h7 trivial fl
                obtain⟨bs',dc,d3⟩:=OwH.store (G':=gd V (W.frz st u.frz) (p||u.p)) (h':=I) a1 (λk H=>c4 k (.inl H)) fo (gN hr et b5.2) fc h4 dd (off:=off) (cs:=cs) (by omega)
                  (λc0 O hm=>by
                    obtain⟨c,a4,q1,q2,q3⟩:=ed c0 O hm;exact⟨c,a4,q1.mono c4,q2,q3⟩)
                obtain⟨_,a9,cy,ho,d2,_⟩:=a1;have e6:e7=xs.length:=by
                  obtain⟨A,cx,e0,_⟩:=ho.slice;simp only[CC]at e0;exact e0.2.1
                subst e6;rcases ho.2 with ⟨h8,_⟩|⟨g',cx,cur,mk,h8,hg,fi,e5,g2,_⟩
                · simp at h8
                · simp only[CC,BD,Cn,and_true,true_and]at h8
                  obtain⟨rfl,rfl⟩:=h8;have bx:(i+1)*e.cells<=xs.length*e.cells:=BQ _ (BG.1 h4).1;rw[CF]at bx;have fv:xs.length*e.cells<=fr*e.cells:=BQ _ fi;have b1:cur.toList.length=cur.size:=by rw[CD]
                  have cb:=nc (P:=P) (oN (hT t) eb) (w:=w) (b:=g) (off:=i*e.cells+off) (cur:=cur.toList) (E:=E) (by rw[B9];exact hg) (by rw[b1];exact zG e5) fd (by omega) M.one' (by omega);refine pA (w':=w.setCells g (i*e.cells+off) cs) (by simp[execOp,b3,hv,cb]) ?_;rw[hd];refine hn _ _ ?_;obtain⟨e1,e2,e3,e4⟩:=jV g cs (i*e.cells+off) w;refine⟨_,k1.retell hV (l':=.own (p||u.p) I E e (xs.set i u.val)) (w':=w.setCells g (i*e.cells+off) cs) (bs':=bs') ?_ h7 trivial ad trivial dc (λk H=>?_) (λk _ H=>eR g cs _ w k (λe=>H (e ▸ b0))) (Cr e4.symm) e1 e2 e3⟩
                  · rw[aP z,aP EPO]
                    have Y:EPO≠z:=CT ex;generalize aN (ac (aE st u.frz) st) u.kill++aE st u.frz=U at X ⊢;refine⟨λq=>?_,λq=>?_,?_,λq=>?_,λl M=>?_,λq i' l hq M=>?_⟩
                    · rcases aj z q ⟨(st z).ver,(st z).sh,aU (st z).ls j (.own (p||u.p) I E e (xs.set i u.val))⟩ (ac [(EPO,bV (ac U st EPO))] (ac U st)) with ⟨rfl,e⟩ | ⟨_,e⟩
                      · rw[e,X]
                      · rw[e]
                        rcases aj EPO q (bV (ac U st EPO)) (ac U st) with ⟨rfl,e⟩|⟨_,e⟩ <;> rw[e];rfl
                    · rcases aj z q ⟨(st z).ver,(st z).sh,aU (st z).ls j (.own (p||u.p) I E e (xs.set i u.val))⟩ (ac [(EPO,bV (ac U st EPO))] (ac U st)) with ⟨rfl,e⟩ | ⟨_,e⟩
                      · rw[e,X];exact BX _
                      · rw[e]
                        rcases aj EPO q (bV (ac U st EPO)) (ac U st) with ⟨rfl,e⟩|⟨_,e⟩ <;> rw[e]
                        · exact DS _
                        · exact BX _
                    · rw[aJ Y,bk];exact BP _
                    · rcases aj z q ⟨(st z).ver,(st z).sh,aU (st z).ls j (.own (p||u.p) I E e (xs.set i u.val))⟩ (ac [(EPO,bV (ac U st EPO))] (ac U st)) with ⟨rfl,e⟩ | ⟨_,e⟩
                      · rw[e,X];simp[aU]
                      · rw[e]
                        rcases aj EPO q (bV (ac U st EPO)) (ac U st) with ⟨rfl,e⟩|⟨_,e⟩ <;> rw[e];rfl
                    · rw[bk]at M
                      rcases aS _ _ _ _ _ M with ⟨_,rfl,_⟩|⟨Y,_⟩
                      · rfl
                      · exact absurd rfl Y
                    · rcases aj z q ⟨(st z).ver,(st z).sh,aU (st z).ls j (.own (p||u.p) I E e (xs.set i u.val))⟩ (ac [(EPO,bV (ac U st EPO))] (ac U st)) with ⟨rfl,e⟩ | ⟨_,e⟩
                      · rw[e]at M
                        rw[X];rcases aS _ _ _ _ _ M with ⟨rfl,_,_⟩|⟨_,M⟩
                        · exact absurd rfl hq
                        · exact M
                      · rw[e]at M
                        rcases aj EPO q (bV (ac U st EPO)) (ac U st) with ⟨rfl,e⟩|⟨_,e⟩ <;> rw[e]at M <;> exact M
                  · rcases d3 k H with H|H
                    · have h9:=k1.ownb z j _ h7 trivial k H
                      exact⟨h9.1,h9.2.1,h9.2.2,λr1 i1 l1 b9 ba Y b2=>Y (by obtain⟨e1,e2⟩:=k1.sep r1 i1 l1 z j _ b9 ba h7 trivial k b2 H;rw[e1,e2])⟩
                    · have h9:=k4 k H
                      exact⟨h9.1,h9.2.1,h9.2.2.2.1,λr1 i1 l1 b9 ba _=>h9.2.2.2.2 r1 i1 l1 b9 ba⟩
            · cases h
        · cases h
      · cases h
end
section
variable {P:Program} {V:Env} {Γ:List Ctr} {T:TypeId->TI} {st:St} {o:Oper} {R:Type} {κ:Upd->Option R} {r:R}
theorem an.putOwn (X:ax V){W:Wit}{a:Act}{w w':World}(h:an P V W st a w)(J:w.heap.size<=w'.heap.size)(O:w'.os=w.os)(ht:w'.tape=w.tape)(ho:w'.output=w.output)
  (hk:∀ k,cd V W st k->w'.heap[k]?=w.heap[k]?) (d:Nat) (hd:d<V.nt) (z:∀ x∈V.fixt,x.1≠d) (n:Nat) (hn:(st d).ver<n) {p:Bool} {E:TypeId} {e:Ty} {xs:List e.den} {v:Value} {bs:List Nat}
  (Z:Ow w' (gd V W p) E e xs v bs) (hb:∀ k∈bs,¬ cd V W st k):Rel P V (ac [(d,⟨n,.one,[.own p none E e xs]⟩)] st) (a.put (some d) v) w':=by
 refine⟨_,(h.world X J O ht ho hk).put X d hd z n .one [.own p none E e xs] v [v] (λ_=>bs) hn rfl rfl (λu hu=>by simp at hu;subst hu;exact Z.one) ?_ ?_ ?_⟩
 ·intro j l u y H;cases j with
  |zero=>simp at y H;subst y;subst H;exact Z
  |succ j=>simp at y
 ·intro j l y H k M;have:=hb k M;simp only[cd,not_or,not_exists,not_and]at this;exact⟨this.1,this.2.1,this.2.2.1,λr1 j1 l1 _ I Y=>this.2.2.2 r1 j1 l1 I Y⟩
 ·intro j j' l l' y H I Y k h5 h6;have h7:j<1:=(BG.1 y).1;have h8:j'<1:=(BG.1 I).1;omega
theorem dU {W:Wit}{p q:Bool}{H z:List (Nat×Nat)}:(∀ k,bo V W p H k->bo V W (p||q) (H++z) k)/\(∀ k,bo V W q z k->bo V W (p||q) (H++z) k):=by
 constructor
 ·rintro k (u|⟨x,y,u⟩)
  ·exact .inl (bU (W':=W) (by intro h;simp[h]) (λ_ h=>h) k u)
  ·exact .inr ⟨x,BM _ y,u⟩
 ·rintro k (u|⟨x,y,u⟩)
  ·exact .inl (bU (W':=W) (by intro h;simp[h]) (λ_ h=>h) k u)
  ·exact .inr ⟨x,BH _ y,u⟩
theorem x6 (n:Nat)(u:Nat->List Nat):(BR (n+1)).flatMap u=u 0++(BR n).flatMap λj=>u (j+1):=by
 rw[List.range_succ_eq_map,CR,DO]
theorem ot {W:Wit}{a:Act}{w:World}(M:an P V W st a w){e:Ty}:∀ (ps:List (Nat×Operand)) (k:Nat) (u:cI (List e.den)),eG st e k ps=some u ->
  ps.map (λx=>(x.1,a.eval x.2))=((ps.map λx=>a.eval x.2).zipIdx k).map (λx=>(x.2,x.1))/\u.val.length=ps.length/\(∀ x∈u.frz,aA st x)/\(∀ x∈u.kill,aA st x) /\
  ∃ z:Nat->List Nat,aY W u.kill=(BR u.val.length).flatMap z /\
   ∀ (j:Nat) (x:e.den),u.val[j]?=some x->∃ v c,(ps.map λx=>a.eval x.2)[j]?=some v/\v.cells=c.toArray/\Mx w (bo V W u.p u.frz) e none 0 x c (z j)
 |[],k,u,h=>by
  simp only[eG,BD]at h;subst h;exact⟨rfl,rfl,by simp,by simp,λ_=>[],rfl,λj x H=>by simp at H⟩
 |(i,y)::ps,k,u,h=>by
  simp only[eG]at h;cases I:BU i k&&decide ((au st y).1=bi e.isAgg) with
  |false=>simp[I]at h
  |true =>
   simp only[I,cond_true]at h;simp only[BF,decide_eq_true_eq]at I;have J:=BL I.1;subst J;split at h
   ·rename_i t1 u1 hg O;simp only[BD]at h;subst h;obtain⟨h1,h2,h3,h4,z,h5,h6⟩:=ot M ps (i+1) u1 O;obtain⟨cs,Z,Y⟩:=cU M y;rw[I.2]at Z;have hc:=gT Z Y.one';obtain⟨g1,g2,g3⟩:=dR (pos:=0) M Y hg;refine⟨by simp[h1],by simp[h2],λx X=>(BO.1 X).elim (g2 x) (h3 x),λx X=>(BO.1 X).elim (g3 x) (h4 x),λj=>match j with|0=>aY W t1.kill|j+1=>z j,?_,?_⟩
    ·rw[dL,h5,Cq,x6]
    ·intro j x H;cases j with
     |zero =>
      simp at H;subst H;exact⟨a.eval y,cs,by simp,hc,g1.mono dU.1⟩
     |succ j =>
      obtain⟨v,c,h7,h8,h9⟩:=h6 j x (by simpa using H);exact⟨v,c,by simpa using h7,h8,h9.mono dU.2⟩
   ·cases h
theorem lM (w:World)(G:Nat->Prop):∀ (b:Ty),Rd w G b b.zero (zeroCells b)
 |.int _=>rfl
 |.bool=>rfl
 |.str=>rfl
 |.unit=>rfl
 |.hdr=>⟨none,0,rfl⟩
 |.pair a b=>⟨_,_,rfl,lM w G a,lM w G b⟩
 |.list m E e=>Rd.nil w G m E e
theorem qF (w:World)(G:Nat->Prop):∀ (b:Ty) (pos:Nat),Mx w G b none pos b.zero (zeroCells b) []
 |.int _,_=>⟨rfl,rfl⟩
 |.bool,_=>⟨rfl,rfl⟩
 |.str,_=>⟨rfl,rfl⟩
 |.unit,_=>⟨rfl,rfl⟩
 |.hdr,_=>⟨⟨none,0,rfl⟩,rfl⟩
 |.pair a b,_=>⟨_,_,[],[],rfl,rfl,qF w G a _,qF w G b _⟩
 |.list m E e,_=>by
  cases m with
  |false=>exact cn.2 ⟨rfl,Rd.nil w G false E e⟩
  |true=>exact (bJ (by simp)).2 ⟨_,rfl,(OwH.nil w G E e).2⟩
theorem mp {W:Wit}{k:Nat}(h:¬ W.nw k/\¬ V.prot k/\(∀ b,live st b->W.β b≠k)/\∀ (u i:Nat) (l:Leaf),(st u).ls[i]?=some l->am l->k∉W.bs u i):¬ cd V W st k:=by
 rintro (y|y|⟨b,H,e⟩|⟨u,i,l,J,I,z⟩)
 ·exact h.1 y
 ·exact h.2.1 y
 ·exact h.2.2.1 b H e
 ·exact h.2.2.2 u i l J I z
theorem mq:(9223372036854775807:Nat)<=maxLen:=by decide
theorem qG (hV:ax V)(hT:TOk P T)(b3:bN V o){t:TypeId}{n:Nat}{y:Array (Nat×Operand)}(a0:o.op=.buildSlice t n y)(h:act Γ T o st κ=some r):bW P V o st κ r:=by
 simp only[act,wrU,a0]at h;cases ht:T t with
 |slice E e c3 =>
  simp only[ht]at h;split at h
  ·rename_i u cb;cases hb:BU u.val.length n&&decide (n*e.cells<=16777216)&&a7 u.kill&&dE u.frz u.kill with
   |false=>simp[hb]at h
   |true =>
    simp only[hb,cond_true]at h;simp only[BF,decide_eq_true_eq]at hb;obtain⟨⟨⟨cc,cp⟩,c1⟩,bn⟩:=hb;have bb:=BL cc;subst bb;split at h
    ·rename_i d hd;refine⟨_,h,λW a w hr next Q hn=>?_⟩;have h1:=hT t;rw[ht]at h1;obtain⟨hu,_,_,Y,_,ti,z,a1,O,_,hz,cu⟩:=h1;obtain⟨h2,h3,a9,b9,b4,c2,h5⟩:=ot hr y.toList 0 u cb;generalize cw:u.val=I at *;have a2:∀ v∈(y.toList.map λx=>a.eval x.2),v.cells.size=e.cells:=by
      intro v hv;obtain⟨j,hj,e1⟩:=List.getElem_of_mem hv;have bx:j<I.length:=by rw[h3];simpa using hj
      obtain⟨v',c,X,Z,h8⟩:=h5 j I[j] (BW bx);rw[BW hj]at X;simp only[BD]at X;rw[<- e1,X,Z];simpa using h8.len
     have b5:(y.toList.map λx=>a.eval x.2).length=I.length:=by rw[Cf,h3]
     have a5:∀ (j:Nat) (x:e.den),I[j]?=some x->∃ c,Mx w (bo V W u.p u.frz) e none 0 x c (b4 j)/\∀ i u,c[i]?=some u ->
       ((y.toList.map λx=>a.eval x.2).flatMap λv=>v.cells.toList)[j*e.cells+i]?=some u:=by
      intro j x hj;obtain⟨v,c,X,Z,h8⟩:=h5 j x hj;refine⟨c,h8,λi u hi=>?_⟩;have ad:i<e.cells:=by rw[<- h8.len];exact (BG.1 hi).1
      rw[Great.flat_get Y _ a2];have e1:(j*e.cells+i) / e.cells=j:=by
       rw[Ct,Nat.mul_add_div Y,Nat.div_eq_of_lt ad,CJ]
      have e2:(j*e.cells+i) % e.cells=i:=by
       rw[Ct,DX,DP ad]
      rw[e1,e2,X];simpa[Z]using hi
     have a3:((y.toList.map λx=>a.eval x.2).flatMap λv=>v.cells.toList).length=I.length*e.cells:=by
      have:∀ (vs:List Value),(∀ v∈vs,v.cells.size=e.cells)->(vs.flatMap λv=>v.cells.toList).length=vs.length*e.cells:=by
       intro vs;induction vs with
       |nil=>intro _;simp
       |cons v vs ih =>
        intro hv;rw[CR,BV,ih (λu hu=>hv u (BS _ hu)),CD,hv v (BZ ..),Cq,CF];omega
      rw[this _ a2,b5]
     have H:=Great.fill_whole Y (y.toList.map λx=>a.eval x.2) ((Array.range (I.length*e.cells)).map ((if I.length*e.cells=0 then (#[]:Array Value) else z.cells)[· % (if I.length*e.cells=0 then (#[]:Array Value) else z.cells).size]!)) a2 (by rw[b5];simp);rw[<- h2]at H;have a4:(y.map λ (i,x)=>(i,a.eval x)).toList=y.toList.map λx=>(x.1,a.eval x.2):=by rw[DQ]
     have a6:(execOp a.eval o).run P w=.ok (.value (.slice (some ⟨w.heap.size,0,none⟩) I.length I.length)) (w.alloc (.cells ((y.toList.map λx=>a.eval x.2).flatMap λv=>v.cells.toList).toArray E)):=by
      have M:¬ (I.length*e.cells>2 ^ 24):=by omega
      by_cases h0:I.length*e.cells=0
      ·rw[if_pos h0]at H;simp only[execOp,a0,Instr.buildSlice,DG,run_underlying hu,Cl,sizeOf,typeInfo,a1,O,a4];simp[M,h0,newRow,a1,O,a4]at H ⊢;simp[H]
      ·rw[if_neg h0]at H;have:=run_buildSlice (P:=P) w t E I.length (y.map λ (i,x)=>(i,a.eval x)) _ ti z hu a1 hz (by rw[O];exact M) (by rw[O];exact h0) (by rw[O,a4];exact H);simp[execOp,a0,this]
     refine dZ a6 ?_;rw[hd];refine hn _ _ ?_;rw[cg,aP];obtain⟨X,_,_,b1⟩:=fK hV hr bn b9;have b0:=X.used_lt;have b2:I.length<=maxLen:=by
      have:=mq;have:I.length*1<=I.length*e.cells:=Ch _ Y;omega
     have c0:=World.ownsRow_lit (e:=E) (size:=e.cells) (base:=0) w ((y.toList.map λx=>a.eval x.2).flatMap λv=>v.cells.toList).toArray I.length (DT _) b2 (by simpa using a3);refine X.putOwn hV (w':=w.alloc (.cells ((y.toList.map λx=>a.eval x.2).flatMap λv=>v.cells.toList).toArray E)) (by simp) rfl rfl rfl (λk J=>Go.heap_alloc_old w _ (b0 k J)) d (b3 d hd).1 (b3 d hd).2 _ (BP _) (bs:=w.heap.size::aY W u.kill) ?_ (λk J hu=>?_)
     ·refine⟨CO.2 ⟨λhm=>?_,gN hr c1 b9⟩,_,b4,Row.of c0,by rw[c2];rfl,λj x hj=>?_⟩
      ·have:=(b1 _ hm).2.2.1;omega
      ·obtain⟨c,ba,bl⟩:=a5 j x hj;have c4:∀ k,bo V W u.p u.frz k->k<w.heap.size:=λk J=>by
        rcases ku a9 k J with J|⟨_,J⟩
        ·exact (X.nwlt k J).1
        ·exact CN (hV.ro k J).1 X.size
       exact⟨c,ba.carry (ku a9) (λk J=>Go.heap_alloc_old w _ (c4 k J)) (λk J=>Go.heap_alloc_old w _ (ba.lt k J)),λi u hi=>by simpa using bl i u hi⟩
     ·rcases CV.1 J with rfl|J
      ·have:=b0 _ hu;omega
      ·have Z:=b1 k J;exact mp ⟨Z.1,Z.2.1,Z.2.2.2.1,Z.2.2.2.2⟩ hu
    ·cases h
  ·cases h
 |_=>simp[ht]at h
theorem x7 {w:World}{G:Nat->Prop}{E':TypeId}{y u e:TypeId}(Z:P.underlying y=some (.slice e))(X:P.underlying e=some (.int .u8))(Y:P.underlying u=some .string){xs:List Int}{v:Value}
  (h:Rd w G (.list false E' (.int .u8)) xs [v]):(convert y u v).run P w=.ok (.string (gF xs)) w:=by
 obtain⟨A,z,hv,hc,J⟩:=h;simp only[Cg,and_true]at hv;subst hv;cases A with
 |none =>
  have hx:xs=[]:=by
   cases xs with
   |nil=>rfl
   |cons x xs=>obtain⟨g,o,M,_⟩:=J (by simp);cases M
  subst hx;show (convert y u (.slice none 0 z)).run P w=_;rw[run_convert_bytes_nil w y e Z X 0 z u Y];rfl
 |some ad =>
  cases I:xs with
  |nil =>
   subst I;show (convert y u (.slice (some ad) 0 z)).run P w=_;rw[run_convert_bytes_string w y u e ad 0 z Z X Y];simp[Conv.bytesToString,loadCells,loadCellsFrom];rfl
  |cons x0 a0 =>
   rw[<- I];obtain⟨g,o,M,_,hr⟩:=J (by rw[I];simp);simp only[BD]at M;subst M;have:=run_convert_bytes_arg (P:=P) w y e Z X g o xs.length z xs rfl (λi hi=>by
    obtain⟨c,H,O⟩:=hr i xs[i] (BW hi);have H:c=[.int .u8 xs[i]]:=H;subst H;have:=O 0 _ rfl;simp only[Ty.cells,C5,CJ]at this;rw[this];simp[List.getD,BW hi]) u Y
   rw[this];rfl
theorem uD (hV:ax V)(hT:TOk P T)(M:bN V o){s t:TypeId}{x:Operand}(J:o.op=.convert s t x)(h:act Γ T o st κ=some r):bW P V o st κ r:=by
 simp only[act,wrU,J]at h;have z:=hT t;have y:=hT s;split at h
 ·rename_i k' k a4 n Z Y hx;split at h
  ·rename_i d O;refine⟨_,h,λW a w I=>aO hV I O M (v:=.int k (k.wrap n)) ?_ rfl id rfl⟩;rw[Y]at z;rw[Z]at y;simp[execOp,J,bF I hx,Go.convert,run_underlying z.1,run_underlying y.1,Conv.intToInt]
  ·cases h
 ·rename_i E b Z Y;split at h
  ·rename_i p xs ha;split at h
   ·rename_i d O;refine⟨_,h,λW a w I=>?_⟩;have a1:one st x≠.dead:=by intro e0;rw[e0]at ha;simp[aC,dk]at ha
    obtain⟨h1,h2,_⟩:=bt I x a1;have a2:=kP (m:=false) (E:=E) I h1 h2 ha;rw[Y]at z;rw[Z]at y;refine aO hV I O M (v:=.string (gF xs)) ?_ rfl id rfl;have:=x7 (P:=P) y.1 (y.2.2.2.2.1.2 rfl) z.1 a2;simp[execOp,J,this]
   ·cases h
  ·cases h
 ·rename_i E b H Z Y hx;split at h
  ·rename_i d O;refine⟨_,h,λW a w I next Q hn=>?_⟩;rw[Y]at z;rw[Z]at y;have hc:(ey H).length=H.size:=by simp only[ey,Cf,CD];rfl
   have X:=Lib.run_convert_string_bytes (P:=P) w s t E H y.1 z.1 (z.2.2.2.2.1.2 rfl);refine dZ (v:=.slice (some ⟨w.heap.size,0,none⟩) H.size (grownCap w H.size 0 E)) (w':=Lib.bytesWorld w E H) (by simp[execOp,J,iz I hx,X]) ?_;rw[O];refine hn _ _ ?_;have a3:=grownCap_ge w H.size 0 E;have a0:(Lib.bytesCells w E H).size=grownCap w H.size 0 E:=by
    simp only[Lib.bytesCells,DH,Array.size_map,Array.size_replicate];show H.size+_=_;omega
   refine I.putOwn hV (by rw[Lib.bytesWorld_size];omega) (by simp[Lib.bytesWorld,DI,DU,Dc,-C6,-DA]) (by simp[Lib.bytesWorld,DI,DU,Dc,-C6,-DA]) (by simp[Lib.bytesWorld,DI,DU,Dc,-C6,-DA])
    (λk hk=>Lib.bytesWorld_at_old w E H k (I.used_lt k hk)) d (M d O).1 (M d O).2 _ (BP _) (bs:=[w.heap.size])
    ⟨by simp,(ey H).map (Value.int .u8),λ_=>[],⟨by rw[Cf];exact (C5 _).symm,.inr ⟨w.heap.size,_,_,_,by rw[hc],Lib.bytesWorld_at_new w E H,by rw[hc];exact a3,.inr ⟨rfl,BX _⟩,by rw[a0];exact Cr (C5 _),?_⟩⟩,by simp[B8],λj x hj=>?_⟩ (λk hk hu=>?_)
   ·simp only[Lib.bytesCells,C9,DQ,Ty.cells,C5,ey,DJ];exact List.take_left' (by simp)
   ·refine⟨[.int .u8 x],⟨rfl,rfl⟩,λi u hi=>?_⟩
    match i,hi with
    |0,hi =>
     simp only[CX,BD]at hi;subst hi;simp[Ty.cells,hj]
   ·simp at hk;have:=I.used_lt k hu;omega
  ·cases h
 ·cases h
theorem r8 (hV:ax V)(hT:TOk P T)(O:bN V o){t:TypeId}{n c:Operand}(M:o.op=.makeSlice t n c)(h:act Γ T o st κ=some r):bW P V o st κ r:=by
 simp only[act,wrU,M]at h;split at h
 ·rename_i E e H k1 m k2 m' ht a5 b3;cases hb:decide (0<=m)&&decide (m=m')&&decide (m*H<=(ak:Int)) with
  |false=>simp[hb]at h
  |true =>
   simp only[hb,cond_true]at h;simp only[BF,decide_eq_true_eq]at hb;obtain⟨⟨h0,rfl⟩,a3⟩:=hb;split at h
   ·rename_i d hd;refine⟨_,h,λW a w Y next Q hn=>?_⟩;have h1:=hT t;rw[ht]at h1;obtain⟨hu,_,_,ba,b2,ti,z,b0,a6,a9,hz,a0⟩:=h1;have hm:(m.toNat:Int)=m:=by omega
    have X:m.toNat*H<=ak:=by
     have:((m.toNat*H:Nat):Int)<=(ak:Int):=by rw[Int.natCast_mul,hm];exact a3
     omega
    have bb:m.toNat*1<=m.toNat*H:=Ch _ b2.1;simp only[ak]at X;have b9:=mq;obtain⟨w',I,b1,y⟩:=run_make_full (P:=P) w 0 t E ti z e.cells hu b0 hz a6 k1 k2 m.toNat (by rw[a9,Ct];omega) (by omega) (DT _);rw[hm]at I;refine dZ (v:=.slice (some ⟨w.heap.size,0,none⟩) m.toNat m.toNat) (w':=w') (by simp[execOp,M,bF Y a5,bF Y b3,I]) ?_;rw[hd];refine hn _ _ ?_;have a1:z.cells.size=e.cells:=by
     have h2:=(lM w (λ_=>False) e).len;rw[<- CD,a0,h2]
    refine Y.putOwn hV y.size y.os y.tape y.output (λk hk=>y.block k (Y.used_lt k hk) (by simp)) d (O d hd).1 (O d hd).2 _ (BP _) (bs:=[w.heap.size])
     ⟨by simp,_,λ_=>[],by rw[Cz];exact Row.of b1,by simp[B8],λj x Z=>?_⟩ (λk hk hu=>?_)
    ·rw[CY]at Z;split at Z
     ·rename_i ad;simp at Z;subst Z;refine⟨_,qF w' _ e 0,λi u hi=>?_⟩;have a2:i<e.cells:=by rw[<- (lM w' (λ_=>False) e).len];exact (BG.1 hi).1
      have J:(j+1)*e.cells<=m.toNat*e.cells:=BQ _ ad;rw[CF]at J;have a4:j*e.cells+i<m.toNat*e.cells:=by omega
      have e2:(j*e.cells+i) % e.cells=i:=by rw[Ct,DX,DP a2]
      have b4:z.cells[i]?=some u:=by rw[<- C0,a0];exact hi
      obtain⟨bl,b5⟩:=Array.getElem?_eq_some_iff.1 b4;simp only[madeCells,C0,Array.getElem?_map,Array.getElem?_range,a4,if_true,DY,a1,e2];rw[getElem!_pos z.cells i (by omega),b5]
     ·cases Z
    ·simp at hk;have:=Y.used_lt k hu;omega
   ·cases h
 ·cases h
theorem uE (n u:Nat)(z:n<=u)(k y:IntKind)(w:World):(DK true n u none (some (.int k n)) (some (.int y n))).run P w=.ok (0,n,n) w:=by
 simp[DK,Instr.sliceBound,asIntOf,z]
theorem wh (hV:ax V)(hT:TOk P T)(a5:bN V o){t:TypeId}{x m:Operand}{lo hi:Option Operand}(a0:o.op=.slice t x lo hi (some m))(h:act Γ T o st κ=some r):bW P V o st κ r:=by
 simp only[act,wrU,a0]at h;cases hd:o.dst with
 |none=>simp[hd]at h
 |some d =>
  simp only[hd]at h;split at h
  ·rename_i E' e' cb Y j v ht hx;split at h
   ·rename_i p E e J hdr;split at h
    ·rename_i hh k ba b4;cases hb:hi.isSome&&decide (hh=(J.length:Int))&&decide (k=(J.length:Int))&&BU e'.cells e.cells with
     |false=>rw[hb]at h;cases h
     |true =>
      rw[hb]at h;simp only[cond_true]at h;simp only[BF,decide_eq_true_eq]at hb;obtain⟨⟨⟨Z,rfl⟩,rfl⟩,X⟩:=hb;have X:=BL X;refine⟨_,h,λW a w hr next Q hn=>?_⟩;have h1:=hT t;rw[ht]at h1;obtain⟨hu,_,_,_,_,ti,z,b3,b2,_⟩:=h1;obtain⟨a1,_,_,_,_⟩:=bt hr x (by rw[hx];simp);rw[hx]at a1;obtain⟨h8,a2,bl,cu⟩:=kr hr hdr a1;obtain⟨y,hy,k1,b1⟩:∃ y,hi=some y/\∃ k1,a.eval y=.int k1 J.length:=by
       rcases mN hr ba with ⟨I,_⟩|⟨y,k1,I,H⟩
       ·rw[I]at Z;cases Z
       ·exact⟨y,I,k1,H⟩
      obtain⟨k2,bx⟩:∃ k2,a.eval m=.int k2 J.length:=by
       rcases mN hr b4 with ⟨I,_⟩|⟨y,k2,I,H⟩
       ·cases I
       ·cases I;exact⟨k2,H⟩
      obtain⟨A,cc,hv,a3⟩:=a2.slice;have hE:=dw (P:=P) (t:=E') (n:=e.cells) (by simp[bQ,b3,b2,X]) w;have a4:(if J.length=0 then A else A.map λx=>x.add (0*e.cells))=A:=by
       cases A with
       |none=>simp
       |some ad =>
        have e0:ad.add 0=ad:=by simp[Addr.add]
        show (if J.length=0 then some ad else some (ad.add (0*e.cells)))=some ad;rw[DL,e0];split <;> rfl
      refine dZ (v:=.slice A J.length J.length) (w':=w) ?_ ?_
      ·simp only[execOp,a0,hv,hy,DY,Cx,b1,bx,Instr.sliceAt,Instr.slice,DG,run_underlying hu,Cl,uE J.length cc a3 k1 k2 w,hE,Sem.run_pure,Cu,a4]
      ·rw[hd];refine hn _ _ ?_;rw[cg,aP];have c3:∀ z∈[(Y,j)],aA st z:=λz hz=>by simp at hz;subst hz;exact⟨_,bl,trivial⟩
       obtain⟨h6,_,_,u⟩:=fK (frz:=[]) (kill:=[(Y,j)]) hV hr rfl c3;have e1:aN (ac (aE st []) st) [(Y,j)]++aE st []=aN st [(Y,j)]:=B6 _;rw[e1]at h6 u;have c2:aY W [(Y,j)]=W.bs Y j:=by simp[aY]
       rw[c2]at u;obtain⟨b5,a6,c0,M,a9,b9⟩:=a2;refine h6.putOwn hV (w':=w) (BX _) rfl rfl rfl (λ_ _=>rfl) d (a5 d hd).1 (a5 d hd).2 _ (BP _) (bs:=W.bs Y j) ?_ (λk hk=>mp ⟨(u k hk).1,(u k hk).2.1,(u k hk).2.2.2.1,(u k hk).2.2.2.2⟩);have c1:∀ k,gd V W p k->gd V (W.frz st []) p k:=bU (W':=W.frz st []) (λh=>h) (λ_ h=>Or.inl h);refine OwH.carry (G:=gd V W p) ⟨b5,a6,c0,⟨M.1,?_⟩,?_,b9⟩ c1 (λ_ _=>rfl) (λ_ _=>rfl)
       ·rcases M.2 with ⟨O,I⟩|⟨g,cp,b0,mk,O,I,H,c4,bn,bb⟩
        ·rw[hv]at O;simp only[CC]at O;exact .inl ⟨by rw[O.1,I],I⟩
        ·rw[hv]at O;simp only[CC,true_and]at O;exact .inr ⟨g,J.length,b0,mk,by rw[O.1],I,BX _,c4.imp (λh=>⟨h.1,CL H h.2⟩) id,CL (BQ _ H) bn,bb⟩
       ·rw[a9,hv];cases A <;> rfl
    ·cases h
   ·cases h
  ·cases h
theorem x8 (z:ax V)(H:TOk P T)(u:bN V o){t:TypeId}{x:Operand}{J M I:Option Operand}(y:o.op=.slice t x J M I)(h:act Γ T o st κ=some r):bW P V o st κ r:=by
 cases I with
 |none=>exact vF z H u y h
 |some m=>exact wh z H u y h
theorem AD (X:ax V)(I:bN V o){c:Call}(z:o.op=.call c)(O:c.callee=.builtin .min)(h:act Γ T o st κ=some r):bW P V o st κ r:=by
 simp only[act,wrU,z,O]at h;split at h
 ·cases h
 ·rename_i d M;simp only[M]at h;split at h
  ·rename_i x y hx;split at h
   ·rename_i Y m k2 n Z hn;have u:c.args=#[x,y]:=by rw[<- B9 (xs:=c.args),hx]
    refine⟨_,h,λW a w J=>aO X J M I (v:=.int Y (bif decide (n<m) then n else m)) ?_ rfl id rfl⟩;cases H:decide (n<m) <;> simp[execOp,z,O,resolve,invoke,builtin,u,bF J Z,bF J hn,Builtin.min_,Builtin.min2] <;> simp at H <;> omega
   ·cases h
  ·cases h
theorem AE (X:ax V)(I:bN V o){c:Call}(z:o.op=.call c)(O:c.callee=.builtin .max)(h:act Γ T o st κ=some r):bW P V o st κ r:=by
 simp only[act,wrU,z,O]at h;split at h
 ·cases h
 ·rename_i d M;simp only[M]at h;split at h
  ·rename_i x y hx;split at h
   ·rename_i Y m k2 n Z hn;have u:c.args=#[x,y]:=by rw[<- B9 (xs:=c.args),hx]
    refine⟨_,h,λW a w J=>aO X J M I (v:=.int Y (bif decide (m<n) then n else m)) ?_ rfl id rfl⟩;cases H:decide (m<n) <;> simp[execOp,z,O,resolve,invoke,builtin,u,bF J Z,bF J hn,Builtin.max_,Builtin.max2] <;> simp at H <;> omega
   ·cases h
  ·cases h
end
section
variable {P:Program} {V:Env} {W:Wit} {st st':St} {w w':World} {a:Act}
theorem an.putGhost (hV:ax V)(h:an P V W st a w)(d:Nat)(hd:GH<=d)(a4:d<B0)(n:Nat)(sh:aI)(ls:List Leaf)
  (R:List Value) (J:Nat->List Nat) (hn:(st d).ver<n) (hl:ls.length=R.length) (h1:∀ u∈R,u.oneCell'=true)
  (a1:∀ (j:Nat) (l:Leaf) (u:Value),ls[j]?=some l->R[j]?=some u->aK P V W st w (J j) l u)
  (Z:∀ (j:Nat) (l:Leaf),ls[j]?=some l->am l->∀ k∈J j,¬ W.nw k/\¬ V.prot k/\(∀ b,live st b->W.β b≠k) /\
   ∀ (r1 j1:Nat) (l1:Leaf),r1≠d->(st r1).ls[j1]?=some l1->am l1->k∉W.bs r1 j1)
  (a2:∀ (j j':Nat) (l l':Leaf),ls[j]?=some l->am l->ls[j']?=some l'->am l'->∀ k,k∈J j->k∈J j'->j=j') :
  an P V { W with cs:=λr=>if r=d then R else W.cs r,bs:=λr j=>if r=d then J j else W.bs r j } (ac [(d,⟨n,sh,ls⟩)] st) a w /\
   cA V W { W with cs:=λr=>if r=d then R else W.cs r,bs:=λr j=>if r=d then J j else W.bs r j } st (ac [(d,⟨n,sh,ls⟩)] st) w w:=by
 have O:∀ b,live (ac [(d,⟨n,sh,ls⟩)] st) b<->live st b:=by
  intro b;by_cases Y:B0<=b
  ·rw[live,live,aJ (by omega)]
  ·simp[live,Y]
 have M:cA V W { W with cs:=λr=>if r=d then R else W.cs r,bs:=λr j=>if r=d then J j else W.bs r j } st (ac [(d,⟨n,sh,ls⟩)] st) w w:=by
  refine⟨λq=>?_,λb Y=>⟨(O b).2 Y,rfl⟩,λ_ h=>h,λ_ _=>rfl,λ_ q j' l' I h4 h5=>?_⟩
  ·rcases aj d q ⟨n,sh,ls⟩ st with ⟨rfl,e⟩|⟨y,e⟩
   ·rw[e];exact⟨Nat.le_of_lt hn,λe=>absurd e (by show n≠_;omega)⟩
   ·rw[e];exact⟨BX _,λ_=>by simp[y]⟩
  ·rcases aj d q ⟨n,sh,ls⟩ st with ⟨rfl,e⟩|⟨y,e⟩
   ·rw[e]at h5;exact absurd h5 (by show n≠_;omega)
   ·rw[e]at I;exact⟨⟨l',I,h4⟩,by simp[y],λ_ _=>rfl⟩
 refine⟨?_,M⟩
 exact {
  nt:=h.nt,df:=h.df
  slots:=λt ht=>by
   have:t≠d:=by omega
   rw[aJ this];simpa[this]using h.slots t ht
  boxes:=λb Y=>by
   have:b≠d:=by omega
   rw[aJ this];simpa[this]using h.boxes b Y
  len:=λq=>by
   rcases aj d q ⟨n,sh,ls⟩ st with ⟨rfl,e⟩|⟨y,e⟩
   ·rw[e];simpa using hl
   ·rw[e];simpa[y]using h.len q
  one:=λq u hu=>by
   by_cases hq:q=d
   ·simp only[hq,if_true]at hu;exact h1 u hu
   ·simp only[hq,if_false]at hu;exact h.one q u hu
  leaf:=λq j l u z I=>by
   rcases aj d q ⟨n,sh,ls⟩ st with ⟨rfl,e⟩|⟨y,e⟩
   ·rw[e]at z;simp only[if_true]at I;exact (a1 j l u z I).carry hV.ro M (λ_=>⟨by simp,λ_ _=>rfl⟩)
   ·rw[e]at z;simp only[y,if_false]at I;exact (h.leaf q j l u z I).carry hV.ro M (λ_=>⟨by simp[y],λ_ _=>rfl⟩)
  ownb:=λq j l z I k X=>by
   rcases aj d q ⟨n,sh,ls⟩ st with ⟨rfl,e⟩|⟨y,e⟩
   ·rw[e]at z;simp only[if_true]at X;have:=Z j l z I k X;exact⟨this.1,this.2.1,λb Y=>this.2.2.1 b ((O b).1 Y)⟩
   ·rw[e]at z;simp only[y,if_false]at X;have:=h.ownb q j l z I k X;exact⟨this.1,this.2.1,λb Y=>this.2.2 b ((O b).1 Y)⟩
  sep:=λq j l q' j' l' z I h4 h5 k X H=>by
   rcases aj d q ⟨n,sh,ls⟩ st with ⟨e0,e⟩|⟨y,e⟩ <;> rcases aj d q' ⟨n,sh,ls⟩ st with ⟨e1,e'⟩|⟨a0,e'⟩
   ·rw[e]at z;rw[e']at h4;simp only[e0,if_true]at X;simp only[e1,if_true]at H;exact⟨e0.trans e1.symm,a2 j j' l l' z I h4 h5 k X H⟩
   ·rw[e]at z;rw[e']at h4;simp only[e0,if_true]at X;simp only[a0,if_false]at H;exact absurd H ((Z j l z I k X).2.2.2 q' j' l' a0 h4 h5)
   ·rw[e]at z;rw[e']at h4;simp only[y,if_false]at X;simp only[e1,if_true]at H;exact absurd X ((Z j' l' h4 h5 k H).2.2.2 q j l y z I)
   ·rw[e]at z;rw[e']at h4;simp only[y,if_false]at X;simp only[a0,if_false]at H;exact h.sep q j l q' j' l' z I h4 h5 k X H
  box:=λb Y=>h.box b ((O b).1 Y)
  inj:=λb b' Y a3=>h.inj b b' ((O b).1 Y) ((O b').1 a3)
  nwlt:=h.nwlt
  os:=h.os,tape:=h.tape,output:=h.output,size:=h.size,keep:=h.keep
  fixb:=λx hx=>⟨(O _).2 (h.fixb x hx).1,(h.fixb x hx).2⟩
  fixt:=h.fixt }
theorem gv {off:Nat}:∀ {a:Ty} {pos:Nat} {x:a.den} {u:(E:TypeId)×(e:Ty)×List e.den},be off a pos x=some u->pos<=off/\off<pos+a.cells
 |.pair a b,pos,x,u,h=>by
  simp only[be]at h;split at h
  ·rename_i v y;have:=gv y;simp only[Ty.cells];omega
  ·have:=gv h;simp only[Ty.cells];omega
 |.list m E e,pos,z,u,h=>by
  simp only[be]at h;cases r:m&&BU pos off with
  |false=>simp[r]at h
  |true =>
   simp only[BF]at r;have:=BL r.2;simp only[Ty.cells];omega
 |.int _,_,_,_,h=>by simp[be]at h
 |.bool,_,_,_,h=>by simp[be]at h
 |.str,_,_,_,h=>by simp[be]at h
 |.unit,_,_,_,h=>by simp[be]at h
 |.hdr,_,_,_,h=>by simp[be]at h
theorem ne {off:Nat}:∀ {a:Ty} {pos:Nat} {x:a.den} {E:TypeId} {e:Ty} {u:List e.den},be off a pos x=some ⟨E,e,u⟩->e.shy=true->a.shy=true
 |.pair a b,pos,x,E,e,u,h,r=>by
  simp only[be]at h;simp only[Ty.shy,DZ];split at h
  ·rename_i v z;simp only[BD]at h;subst h;exact .inl (ne z r)
  ·exact .inr (ne h r)
 |.list m J I,pos,H,E,e,u,h,r=>by
  simp only[be]at h;cases y:m&&BU pos off with
  |false=>simp[y]at h
  |true =>
   rw[y]at h;simp only[cond_true,BD,Sigma.mk.injEq]at h;obtain⟨rfl,h⟩:=h;rw[heq_eq_eq,Sigma.mk.injEq]at h;obtain⟨rfl,_⟩:=h;simp[Ty.shy,r]
 |.int _,_,_,_,_,_,h,_=>by simp[be]at h
 |.bool,_,_,_,_,_,h,_=>by simp[be]at h
 |.str,_,_,_,_,_,h,_=>by simp[be]at h
 |.unit,_,_,_,_,_,h,_=>by simp[be]at h
 |.hdr,_,_,_,_,_,h,_=>by simp[be]at h
theorem Mx.hol_out {G:Nat->Prop}{o:Nat}:∀ {a:Ty} {pos:Nat} {x:a.den} {cs:List Value} {bs:List Nat},(o<pos\/pos+a.cells<=o)->(Mx w G a none pos x cs bs<->Mx w G a (some o) pos x cs bs)
 |.int _,_,_,_,_,_=>Ck
 |.bool,_,_,_,_,_=>Ck
 |.str,_,_,_,_,_=>Ck
 |.unit,_,_,_,_,_=>Ck
 |.hdr,_,_,_,_,_=>Ck
 |.pair a b,pos,x,cs,bs,r=>by
  simp only[Ty.cells]at r;constructor
  ·rintro⟨c1,c2,b1,b2,e1,e2,h1,h2⟩;exact⟨c1,c2,b1,b2,e1,e2,(Mx.hol_out (by omega)).1 h1,(Mx.hol_out (by omega)).1 h2⟩
  ·rintro⟨c1,c2,b1,b2,e1,e2,h1,h2⟩;exact⟨c1,c2,b1,b2,e1,e2,(Mx.hol_out (by omega)).2 h1,(Mx.hol_out (by omega)).2 h2⟩
 |.list m E e,pos,u,cs,bs,r=>by
  simp only[Ty.cells]at r;cases m with
  |false=>rw[cn,cn]
  |true=>rw[bJ (by simp),bJ (by simp only[ne_eq,BD];omega)]
theorem Mx.out {G:Nat->Prop}{off:Nat}{E:TypeId}{e:Ty}{ys:List e.den}:∀ {a:Ty} {pos:Nat} {x:a.den} {cs:List Value} {bs:List Nat},Mx w G a none pos x cs bs->be off a pos x=some ⟨E,e,ys⟩ ->
  ∃ v z r,OwB w G none E e ys v z/\cs[off-pos]?=some v/\Mx w G a (some off) pos x cs r/\∀ k,bs.count k=r.count k+z.count k
 |.pair a b,pos,x,cs,bs,⟨c1,c2,b1,b2,J,e2,h1,h2⟩,h=>by
  have hl:=h1.len;simp only[be]at h;split at h
  ·rename_i u O;simp only[BD]at h;subst h;have X:=gv O;obtain⟨v,z,r,R,Y,M,Z⟩:=Mx.out h1 O;refine⟨v,z,r++b2,R,?_,⟨c1,c2,r,b2,J,rfl,M,(Mx.hol_out (by omega)).1 h2⟩,λk=>?_⟩
   ·rw[J,BK (by omega)];exact Y
   ·rw[e2,BI,BI,Z k];omega
  ·rename_i O;have X:=gv h;obtain⟨v,z,r,R,Y,M,Z⟩:=Mx.out h2 h;refine⟨v,z,b1++r,R,?_,⟨c1,c2,b1,r,J,rfl,(Mx.hol_out (by omega)).1 h1,M⟩,λk=>?_⟩
   ·rw[J,BJ (by omega),hl,show off-pos-a.cells=off-(pos+a.cells) by omega];exact Y
   ·rw[e2,BI,BI,Z k];omega
 |.list m E' e',pos,xs,cs,bs,H,h=>by
  simp only[be]at h;cases y:m&&BU pos off with
  |false=>simp[y]at h
  |true =>
   rw[y]at h;simp only[cond_true,BD,Sigma.mk.injEq]at h;obtain⟨rfl,h⟩:=h;simp only[BF]at y;obtain⟨rfl,y⟩:=y;have y:=BL y;subst y;rw[heq_eq_eq,Sigma.mk.injEq]at h;obtain⟨rfl,h⟩:=h;rw[heq_eq_eq]at h;subst h;have I:=H.one;rw[bJ (by simp)]at H;obtain⟨v,rfl,hO⟩:=H;exact⟨v,bs,[],hO,by simp,jd.2 ⟨v,rfl,I v (by simp),rfl⟩,λk=>by simp⟩
 |.int _,_,_,_,_,_,h=>by simp[be]at h
 |.bool,_,_,_,_,_,h=>by simp[be]at h
 |.str,_,_,_,_,_,h=>by simp[be]at h
 |.unit,_,_,_,_,_,h=>by simp[be]at h
 |.hdr,_,_,_,_,_,h=>by simp[be]at h
theorem Mx.back {G:Nat->Prop}{off:Nat}{E:TypeId}{e:Ty}{M:List e.den}{v:Value}{Y:List Nat}(hO:OwB w G none E e M v Y):∀ {a:Ty} {pos:Nat} {x z:a.den} {cs:List Value} {I:List Nat},Mx w G a (some off) pos x cs I->bM off E e M a pos x=some z ->
  cs[off-pos]?=some v->∃ R,Mx w G a none pos z cs R/\∀ k,R.count k=I.count k+Y.count k
 |.pair a b,pos,x,z,cs,R,⟨c1,c2,b1,b2,O,e2,X,h2⟩,h,J=>by
  have hl:=X.len;simp only[bM]at h;split at h
  ·rename_i u y;simp only[BD]at h;subst h;have a0:=set_in y;obtain⟨I,Z,g2⟩:=Mx.back hO X y (by rw[O,BK (by omega)]at J;exact J);refine⟨I++b2,⟨c1,c2,I,b2,O,rfl,Z,(Mx.hol_out (by omega)).2 h2⟩,λk=>?_⟩;rw[e2,BI,BI,g2 k];omega
  ·rename_i y;simp only[BE]at h;obtain⟨u,y,rfl⟩:=h;have a0:=set_in y;obtain⟨I,Z,g2⟩:=Mx.back hO h2 y (by
    rw[O,BJ (by omega),hl]at J;rw[show off-(pos+a.cells)=off-pos-a.cells by omega];exact J)
   refine⟨b1++I,⟨c1,c2,b1,I,O,rfl,(Mx.hol_out (by omega)).2 X,Z⟩,λk=>?_⟩;rw[e2,BI,BI,g2 k];omega
 |.list m E' e',pos,xs,z,cs,R,H,h,J=>by
  simp only[bM]at h;cases r:m&&BU pos off with
  |false=>simp[r]at h
  |true =>
   rw[r]at h;simp only[cond_true]at h;obtain⟨rfl,rfl,rfl⟩:=jR h;simp only[BF]at r;obtain⟨rfl,r⟩:=r;have r:=BL r;subst r;rw[jd]at H;obtain⟨v',rfl,X,rfl⟩:=H;simp only[Nat.sub_self,CX,BD]at J;subst J;exact⟨Y,(bJ (by simp)).2 ⟨v',rfl,hO⟩,λk=>by simp⟩
 |.int _,_,_,_,_,_,_,h,_=>by simp[bM]at h
 |.bool,_,_,_,_,_,_,h,_=>by simp[bM]at h
 |.str,_,_,_,_,_,_,h,_=>by simp[bM]at h
 |.unit,_,_,_,_,_,_,h,_=>by simp[bM]at h
 |.hdr,_,_,_,_,_,_,h,_=>by simp[bM]at h
where
 set_in {off:Nat} {E:TypeId} {e:Ty} {M:List e.den}:∀ {a:Ty} {pos:Nat} {x z:a.den},bM off E e M a pos x=some z->pos<=off/\off<pos+a.cells
  |.pair a b,pos,x,z,h=>by
   simp only[bM]at h;split at h
   ·rename_i u y;have:=set_in y;simp only[Ty.cells];omega
   ·simp only[BE]at h;obtain⟨u,y,_⟩:=h;have:=set_in y;simp only[Ty.cells];omega
  |.list m E' e',pos,xs,z,h=>by
   simp only[bM]at h;cases r:m&&BU pos off with
   |false=>simp[r]at h
   |true =>
    simp only[BF]at r;have:=BL r.2;simp only[Ty.cells];omega
  |.int _,_,_,_,h=>by simp[bM]at h
  |.bool,_,_,_,h=>by simp[bM]at h
  |.str,_,_,_,h=>by simp[bM]at h
  |.unit,_,_,_,h=>by simp[bM]at h
  |.hdr,_,_,_,h=>by simp[bM]at h
end
section
variable {P:Program} {V:Env} {W W' W2:Wit} {st st' st2:St} {w w' w2:World} {a:Act}
theorem cA.trans (h:cA V W W' st st' w w')(u:cA V W' W2 st' st2 w' w2):cA V W W2 st st2 w w2:=by
 refine⟨λr=>⟨CL (h.ver r).1 (u.ver r).1,λe=>?_⟩,λb hb=>?_,λk y=>u.nw k (h.nw k y),λk y=>?_,λhe r j l z H I=>?_⟩
 ·have z:=(h.ver r).1;have H:=(u.ver r).1;rw[(u.ver r).2 (by omega),(h.ver r).2 (by omega)]
 ·obtain⟨z,H⟩:=h.box b hb;obtain⟨I,h6⟩:=u.box b z;exact⟨I,h6.trans H⟩
 ·rw[u.heap k (y.imp (h.nw k) id),h.heap k y]
 ·have e1:=(h.ver EPO).1;have e2:=(u.ver EPO).1;have e3:=(h.ver r).1;have e4:=(u.ver r).1;obtain⟨⟨Z,R,X⟩,M,g7⟩:=u.epo (by omega) r j l z H (by omega);obtain⟨O,J,Y⟩:=h.epo (by omega) r j Z R X (by omega);exact⟨O,M.trans J,λk y=>(g7 k (by rw[J];exact y)).trans (Y k y)⟩
theorem qH {n i:Nat}(z:i<n)(r:Nat->List Nat)(b y:List Nat)(H:∀ k,(r i).count k=b.count k+y.count k)(u:List Nat)(k:Nat) :
  (u++(BR n).flatMap r).count k=(u++(BR n).flatMap λj=>if j=i then b else r j).count k+y.count k:=by
 have:=kF z r b k;have:=H k;rw[BI,BI];omega
theorem OwH.out {G:Nat->Prop}{E E1:TypeId}{e e1:Ty}{xs:List e.den}{v:Value}{bs:List Nat}{i off:Nat}{y:e.den}{ys:List e1.den}(H:Ow w G E e xs v bs)(hy:xs[i]?=some y)(hg:be off e 0 y=some ⟨E1,e1,ys⟩) :
  ∃ u R M,OwH w G (some (i,off)) E e xs v M/\Ow w G E1 e1 ys u R/\(∀ g Y,v=.slice (some ⟨g,0,none⟩) xs.length Y->w.cell? ⟨g,i*e.cells+off,none⟩=some u)/\∀ k,bs.count k=M.count k+R.count k:=by
 obtain⟨a1,X,I,h1,h2,h3⟩:=H;have O:i<xs.length:=(BG.1 hy).1;obtain⟨c,hm,hc⟩:=h3 i y hy;have hm:Mx w G e none 0 y c (I i):=hm;obtain⟨u,R,b',g1,g2,g3,g4⟩:=hm.out hg;have r:=qH O I b' R g4 v.ownBlock.toList;rw[<- h2]at r;have z:=bu.1 a1;refine⟨u,R,v.ownBlock.toList++(BR xs.length).flatMap λj=>if j=i then b' else I j,⟨bu.2 λk=>by have:=z k;have:=r k;omega,X,_,h1,rfl,λj x Z=>?_⟩,
  ⟨bu.2 λk=>by have:=z k;have:=r k;omega,g1⟩,λg Y hv=>?_,r⟩
 ·by_cases J:j=i
  ·subst J;rw[hy]at Z;simp only[BD]at Z;subst Z;refine⟨c,?_,hc⟩;simp only[cJ,Nat.beq_refl,cond_true,if_true];exact g3
  ·obtain⟨c',h4,h5⟩:=h3 j x Z;refine⟨c',?_,h5⟩;have:BU i j=false:=by
    cases hb:BU i j with
    |false=>rfl
    |true=>exact absurd (BL hb).symm J
   simp only[cJ,this,cond_false,if_neg J];exact h4
 ·subst hv;have a2:=gv hg;have a0:i*e.cells+off<xs.length*e.cells:=by
   have:=BQ e.cells (show i+1<=xs.length from O);rw[Cm,Nat.one_mul]at this;omega
  rw[h1.cellAt _ a0];exact hc off u (by simpa using g2)
theorem OwH.back {G:Nat->Prop}{E E1:TypeId}{e e1:Ty}{xs:List e.den}{v u:Value}{bs bn:List Nat}{i off:Nat}{y z:e.den}{ys:List e1.den}(H:OwH w G (some (i,off)) E e xs v bs)(hn:Ow w G E1 e1 ys u bn)
  (hd:∀ k∈bn,k∉bs) (hy:xs[i]?=some y) (hs:bM off E1 e1 ys e 0 y=some z) (M:∀ g J,v=.slice (some ⟨g,0,none⟩) xs.length J->w.cell? ⟨g,i*e.cells+off,none⟩=some u) :
  ∃ R,Ow w G E e (xs.set i z) v R/\∀ k,R.count k=bs.count k+bn.count k:=by
 obtain⟨a3,a1,X,h1,h2,h3⟩:=H;have Y:i<xs.length:=(BG.1 hy).1;obtain⟨c,hm,hc⟩:=h3 i y hy;have a0:cJ (some (i,off)) i=some off:=by simp[cJ]
 rw[a0]at hm;have a6:=Mx.back.set_in hs;have a5:=hm.len;have I:c[off-0]?=some u:=by
  rcases h1.2 with ⟨rfl,h0⟩|⟨g,J,a4,_,rfl,_⟩
  ·omega
  ·have O:=M g J rfl;have a2:i*e.cells+off<xs.length*e.cells:=by
    have:=BQ e.cells (show i+1<=xs.length from Y);rw[Cm,Nat.one_mul]at this;omega
   rw[h1.cellAt _ a2]at O;have h5:off<c.length:=by omega
   have h6:=hc off _ (BW h5);rw[O]at h6;rw[Cu,BW h5,h6]
 obtain⟨b1,g1,g2⟩:=Mx.back hn.2 hm hs I;have r:∀ k,(v.ownBlock.toList++(BR xs.length).flatMap λj=>if j=i then b1 else X j).count k=bs.count k+bn.count k:=by
  intro k;have O:=kF Y X b1 k;have h5:=g2 k;rw[h2,BI,BI];omega
 refine⟨_,⟨(nd a3 hn.1 hd (λk=>Cr (r k))).1,a1,_,by rw[CP];exact h1,by rw[CP],λj x hj=>?_⟩,r⟩;rcases aS _ _ _ _ _ hj with ⟨rfl,rfl,_⟩|⟨Z,hj⟩
 ·refine⟨c,?_,hc⟩;simp only[if_true];exact g1
 ·obtain⟨c',O,h5⟩:=h3 j x hj;refine⟨c',?_,h5⟩;have:BU i j=false:=by
   cases hb:BU i j with
   |false=>rfl
   |true=>exact absurd (BL hb).symm Z
  have e0:cJ (some (i,off)) j=none:=by simp[cJ,this]
  rw[e0]at O;simp only[if_neg Z];exact O
theorem iZ:GH<=TMP/\TMP<B0/\TMP≠EPO:=by decide
def tC (W:Wit)(S:St)(w:World)(r j:Nat)(v:Value):Prop :=
 r≠TMP/\r≠EPO/\∃ (i off:Nat) (p:Bool) (E:TypeId) (e:Ty) (y:List e.den) (g u:Nat),(S r).ls[j]?=some (.own p (some (i,off)) E e y)/\(W.cs r)[j]?=some (.slice (some ⟨g,0,none⟩) y.length u) /\
  g∈W.bs r j/\w.cell? ⟨g,i*e.cells+off,none⟩=some v
theorem vg (hV:ax V)(h:an P V W st a w){l l':Leaf}{U:Upd}{v:Value}(Z:aK P V W st w [] l v)(I:ck st l=some (U,l')) :
  ∃ W0 n p0 E0 e0 bl,an P V W0 (ac U st) a w/\cA V W W0 st (ac U st) w w/\l'=.al TMP 0 n/\aK P V W0 (ac U st) w [] l' v/\(ac U st TMP).ver=n/\(ac U st TMP).ls=[.own p0 none E0 e0 bl] /\
   W0.nw=W.nw/\W0.β=W.β/\(∀ q,q≠TMP->W0.cs q=W.cs q)/\W0.cs TMP=[v]/\(∀ q,(ac U st q).sh=(st q).sh\/q=TMP)/\tC W0 (ac U st) w (kj l).1 (kj l).2 v:=by
 cases l with
 |nal p ks ep cy E e xs =>
  simp only[ck]at I;cases ad:br st ks ep with
  |false=>simp[ad]at I
  |true =>
   rw[ad]at I;simp only[cond_true]at I;split at I
   ·rename_i r j n0 i sz off;split at I
    ·rename_i M Y J z hg;cases hb:!BU r TMP&&!BU r EPO&&BU sz J.cells with
     |false=>simp[hb]at I
     |true =>
      rw[hb]at I;simp only[cond_true]at I;simp only[BF,B4]at hb;obtain⟨⟨cc,c3⟩,a9⟩:=hb;have a9:=BL a9;subst a9;have X:r≠TMP:=λe=>by subst e;simp at cc
      have ba:r≠EPO:=λe=>by subst e;simp at c3
      split at I
      ·rename_i y hy;split at I
       ·rename_i E1 e1 ys b4;simp only[BD,CG]at I;obtain⟨rfl,rfl⟩:=I;have b2:=pz ad Z;obtain⟨r',j',n',b5,g,bx,bb,a4,cx,cw,O⟩:=b2.at_ i _ off rfl;simp only[Cg,CG,and_true]at b5;obtain⟨rfl,rfl,rfl⟩:=b5;have a1:(st r).ls[j]?=some (.own M none Y J z):=by
         rw[CI]at hg;cases H:(st r).ls[j]? with
         |none=>rw[H]at hg;simp at hg
         |some l0=>rw[H]at hg;simp at hg;rw[hg]
        have a0:=h.leaf r j _ _ a1 a4;have a0:Ow w (gd V W M) Y J z _ (W.bs r j):=a0;have b3:bx=z.length:=by
         obtain⟨A,cp,e0,_⟩:=a0.slice;simp only[CC]at e0;exact e0.2.1
        subst b3;obtain⟨u,bn,bs',g1,g2,g3,g4⟩:=a0.out hy b4;have hu:u=v:=by
         have:=g3 g bb rfl;rw[this]at O;exact Option.some.inj O
        subst hu;have c0:=bu.1 a0.1;have b9:∀ k∈bs',k∈W.bs r j:=λk hk=>BN.1 (by have:=g4 k;have:=BN.2 hk;omega)
        have a3:∀ k∈bn,k∈W.bs r j/\k∉bs':=λk hk=>by
         have h5:=g4 k;have h6:=BN.2 hk;have h7:=c0 k;refine⟨BN.1 (by omega),λcb=>?_⟩;have:=BN.2 cb;omega
        have a2:∀ k∈W.bs r j,vf V W st r j k:=λk hk=>by
         have h9:=h.ownb r j _ a1 trivial k hk;exact⟨h9.1,h9.2.1,h9.2.2,λr1 i1 l1 b0 b1 a5 R=>a5 (by obtain⟨e1,e2⟩:=h.sep r1 i1 l1 r j _ b0 b1 a1 trivial k R hk;rw[e1,e2])⟩
        have hR:x4 st (ac [(r,⟨(st r).ver,(st r).sh,aU (st r).ls j (.own M (some (i,off)) Y J z)⟩)] (ac [(EPO,bV (st EPO))] st)) r j (.own M (some (i,off)) Y J z):=by
         refine⟨λq=>?_,λq=>?_,?_,λq=>?_,λl Z=>?_,λq i' l H Z=>?_⟩
         ·rcases aj r q ⟨(st r).ver,(st r).sh,aU (st r).ls j (.own M (some (i,off)) Y J z)⟩ (ac [(EPO,bV (st EPO))] st) with ⟨rfl,e⟩|⟨_,e⟩
          ·rw[e]
          ·rw[e];rcases aj EPO q (bV (st EPO)) st with ⟨rfl,e⟩|⟨_,e⟩ <;> rw[e];rfl
         ·rcases aj r q ⟨(st r).ver,(st r).sh,aU (st r).ls j (.own M (some (i,off)) Y J z)⟩ (ac [(EPO,bV (st EPO))] st) with ⟨rfl,e⟩|⟨_,e⟩
          ·rw[e];exact BX _
          ·rw[e];rcases aj EPO q (bV (st EPO)) st with ⟨rfl,e⟩|⟨_,e⟩ <;> rw[e]
           ·exact DS _
           ·exact BX _
         ·rw[aJ (CT ba),bk];exact BP _
         ·rcases aj r q ⟨(st r).ver,(st r).sh,aU (st r).ls j (.own M (some (i,off)) Y J z)⟩ (ac [(EPO,bV (st EPO))] st) with ⟨rfl,e⟩|⟨_,e⟩
          ·rw[e];simp[aU]
          ·rw[e];rcases aj EPO q (bV (st EPO)) st with ⟨rfl,e⟩|⟨_,e⟩ <;> rw[e];rfl
         ·rw[bk]at Z;rcases aS _ _ _ _ _ Z with ⟨_,rfl,_⟩|⟨a5,_⟩
          ·rfl
          ·exact absurd rfl a5
         ·rcases aj r q ⟨(st r).ver,(st r).sh,aU (st r).ls j (.own M (some (i,off)) Y J z)⟩ (ac [(EPO,bV (st EPO))] st) with ⟨rfl,e⟩|⟨_,e⟩
          ·rw[e]at Z;rcases aS _ _ _ _ _ Z with ⟨rfl,_,_⟩|⟨_,Z⟩
           ·exact absurd rfl H
           ·exact Z
          ·rw[e]at Z;rcases aj EPO q (bV (st EPO)) st with ⟨rfl,e⟩|⟨_,e⟩ <;> rw[e]at Z <;> exact Z
        have h1:=h.retell hV hR a1 trivial a4 trivial (bs':=bs') g1 (λk hk=>a2 k (b9 k hk)) (λ_ _ _=>rfl) (BX _) rfl rfl rfl;have c2:cA V W (W.tell r j bs') st (ac [(r,⟨(st r).ver,(st r).sh,aU (st r).ls j (.own M (some (i,off)) Y J z)⟩)] (ac [(EPO,bV (st EPO))] st)) w w :=
         ⟨λq=>⟨hR.ver q,λ_=>rfl⟩,λb hb=>⟨(iA hR.sh b).2 hb,rfl⟩,λ_ h=>h,λ_ _=>rfl,λhe=>by have:=hR.epo;omega⟩
        have c1:(ac [(r,⟨(st r).ver,(st r).sh,aU (st r).ls j (.own M (some (i,off)) Y J z)⟩)] (ac [(EPO,bV (st EPO))] st) TMP).ver=(st TMP).ver:=by
         rw[aJ (CT X),aJ iZ.2.2]
        obtain⟨h2,c4⟩:=h1.putGhost hV TMP iZ.1 iZ.2.1 ((st TMP).ver+1) .one [.own (M&&J.shy) none E1 e1 ys] [u] (λ_=>bn) (by rw[c1];exact BP _) rfl (λx hx=>by simp at hx;subst hx;exact g2.one)
         (λq l x H hx=>by
          cases q with
          |zero=>simp at H hx;subst H;subst hx;exact⟨g2.1,(OwB.shy g2.2).carry (bU (W':=W) (by intro hh;simp only[BF]at hh ⊢;exact⟨hh.1,ne b4 hh.2⟩) (λ_ h=>h)) (λ_ _=>rfl) (λ_ _=>rfl)⟩
          |succ q=>simp at H)
         (λq l H _ k hk=>by
          obtain⟨q1,q2,q3,q4⟩:=a2 k (a3 k hk).1;refine⟨q1,q2,λb hb=>q3 b ((iA hR.sh b).1 hb),λr1 i1 l1 _ b0 b1 R=>?_⟩;by_cases H:(r1,i1)=(r,j)
          ·cases H;rw[show (W.tell r j bs').bs r j=bs' from if_pos rfl]at R;exact (a3 k hk).2 R
          ·rw[show (W.tell r j bs').bs r1 i1=W.bs r1 i1 from if_neg H]at R;exact q4 r1 i1 l1 (hR.old r1 i1 l1 H b0) b1 H R)
         (λq q' l l2 h1 h2 h3 h4 k h5 h6=>by
          have h7:q<1:=(BG.1 h1).1;have h8:q'<1:=(BG.1 h3).1;omega)
        have a6:ac [(r,⟨(st r).ver,(st r).sh,aU (st r).ls j (.own M (some (i,off)) Y J z)⟩),(TMP,⟨(st TMP).ver+1,.one,[.own (M&&J.shy) none E1 e1 ys]⟩),(EPO,bV (st EPO))] st =
          ac [(TMP,⟨(st TMP).ver+1,.one,[.own (M&&J.shy) none E1 e1 ys]⟩)] (ac [(r,⟨(st r).ver,(st r).sh,aU (st r).ls j (.own M (some (i,off)) Y J z)⟩)] (ac [(EPO,bV (st EPO))] st)):=by
         rw[aP r,aP TMP,na X]
        rw[a6];refine⟨_,_,_,_,_,_,h2,c2.trans c4,rfl,⟨by rw[bk];exact BX _,λ_=>by simp⟩,by rw[bk],by rw[bk],rfl,rfl,λq H=>by simp[H,Wit.tell],by simp,λq=>?_,X,ba,i,off,M,Y,J,z,g,bb,?_,?_,?_,O⟩
        ·by_cases H:q=TMP
         ·exact .inr H
         ·rw[aJ H];exact .inl (hR.sh q)
        ·show (ac [(TMP,_)] _ r).ls[j]?=_;rw[aJ X,bk];simp only[aU];rw[Ca (BG.1 a1).1]
        ·show (if r=TMP then _ else W.cs r)[j]?=_;rw[if_neg X];exact a4
        ·show g∈(if r=TMP then _ else (W.tell r j bs').bs r j);rw[if_neg X,show (W.tell r j bs').bs r j=bs' from if_pos rfl];obtain⟨_,cu,d1,_,q2,_⟩:=g1;rw[q2];simp[B8]
       ·cases I
      ·cases I
    ·cases I
   ·cases I
 |_=>simp[ck]at I
theorem gY {R:Type}(l:Leaf)(I:Upd->Leaf->Option R):lU st l I=(ck st l).bind λu=>I u.1 u.2:=by
 cases l with
 |nal p X ep M E e Y =>
  simp only[lU,ck];cases br st X ep with
  |false=>rfl
  |true =>
   simp only[cond_true];split
   ·rename_i r j n i O off;split
    ·rename_i Z E' J z _;cases !BU r TMP&&!BU r EPO&&BU O J.cells with
     |false=>rfl
     |true =>
      simp only[cond_true];have H:idx z (i:Int)=z[i]?:=by
       unfold idx;rw[if_neg (by omega)];simp
      rw[H];cases z[i]? with
      |none=>rfl
      |some y =>
       simp only[Option.bind_some];cases be off J 0 y with
       |none=>rfl
       |some u=>rfl
    ·rfl
   ·rfl
 |_=>rfl
end
theorem rz {w:World}{α:Type}{s g:Nat}:∀ (M:List α) (o:Nat) (Q:Nat->α->List Value->Prop),(∀ j x c,Q j x c->c.length=s/\∀ u∈c,u.oneCell'=true)->(∀ (j:Nat) (x:α),M[j]?=some x->∃ c,Q j x c/\cX w g (o+j*s) c) ->
  ∃ r:List Value,r.length=M.length*s/\(∀ j u,r[j]?=some u->w.cell? ⟨g,o+j,none⟩=some u)/\(∀ u∈r,u.oneCell'=true) /\
   ∀ (j:Nat) (x:α),M[j]?=some x->∃ c,Q j x c/\∀ i u,c[i]?=some u->r[j*s+i]?=some u
 |[],o,_,_,_=>⟨[],by simp,by simp,by simp,by simp⟩
 |y::M,o,Q,hQ,h=>by
  obtain⟨c,hr,hc⟩:=h 0 y rfl;obtain⟨r,h1,h2,h3,h4⟩:=rz M (o+s) (λj=>Q (j+1)) (λj=>hQ (j+1)) (λj x z=>by
   obtain⟨c',I,H⟩:=h (j+1) x (by simpa using z);refine⟨c',I,?_⟩;rw[CF]at H;have:o+s+j*s=o+(j*s+s):=by omega
   rw[this];exact H)
  obtain⟨Z,X⟩:=hQ 0 y c hr;refine⟨c++r,by rw[BV,h1,Z,Cq,CF];omega,?_,?_,?_⟩
  ·intro j u z;by_cases Y:j<c.length
   ·rw[BK Y]at z;have:=hc j u z
    rwa [DL,CJ]at this
   ·rw[BJ (by omega)]at z;have:=h2 (j-c.length) u z;have e1:o+s+(j-c.length)=o+j:=by omega
    rwa [e1]at this
  ·intro u J;rcases BO.1 J with J|J
   ·exact X u J
   ·exact h3 u J
  ·intro j x z;cases j with
   |zero =>
    simp at z;subst z;refine⟨c,hr,λi u O=>?_⟩;have R:=(BG.1 O).1;rw[DL,CU,BK R];exact O
   |succ j =>
    obtain⟨c',I,H⟩:=h4 j x (by simpa using z);refine⟨c',I,λi u O=>?_⟩;rw[CF,BJ (by omega)];rw[<- H i u O];congr 1;omega
theorem jZ {P:Program}(g o:Nat)(t:TypeId)(mk:Nat×Nat):∀ (z:List Value) (i:Nat) (cur:Array Value) (w:World),w.heap[g]?=some (.cells cur t mk)->(mk.2=0\/cur.size<=mk.1)->o+i+z.length<=cur.size->(∀ v∈z,v.oneCell'=true) ->
  (storeCells ⟨g,o,none⟩ z i).run P w=.ok () (w.setRow g (cur.toList.take (o+i)++z++cur.toList.drop (o+i+z.length)).toArray)
 |[],i,cur,w,u,_,_,_=>by
  simp only[storeCells,B6,Ce,CJ,List.take_append_drop,B9];rw[setRow_self w g cur t mk u];rfl
 |v::r,i,cur,w,u,J,I,O=>by
  have M:o+i<cur.size:=by simp at I;omega
  have y:(⟨g,o,none⟩:Addr).add i=⟨g,o+i,none⟩:=by unfold Addr.add;split <;> simp_all
  have H:(store ((⟨g,o,none⟩:Addr).add i) v).run P w=.ok () (w.setRow g (cur.setIfInBounds (o+i) v)):=by
   rw[y,run_store P w _ v _ (O v (by simp)),cell_of_row w g _ cur t mk u,Array.getElem?_eq_getElem M];simp[qW u J M,setCell_eq_setRow w g (o+i) cur t mk v u]
  have R:=jZ (P:=P) g o t mk r (i+1) (cur.setIfInBounds (o+i) v) (w.setRow g (cur.setIfInBounds (o+i) v)) (setRow_heap w g cur _ t _ u) (by simpa using J) (by simp at I ⊢;omega) (λx X=>O x (by simp[X]));simp only[storeCells,DG,H,Cl,R,setRow_setRow];congr 3;have e:=list_seg_step cur.toList (o+i) v r (by simp at I ⊢;omega);simpa[Array.toList_setIfInBounds,Df]using e
theorem nf {P:Program}(w:World)(t ty e:TypeId)(i:TypeInfo)(X:P.underlying t=some (.slice e))(hi:P.info? e=some i)
  (g y z:Nat) (cur:Array Value) (mk:Nat×Nat) (Z:w.heap[g]?=some (.cells cur e mk)) (Y:mk.2=0\/cur.size<=mk.1)
  (a:Addr) (m c:Nat) (r:List Value) (R:r.length=m*i.size) (H:∀ j u,r[j]?=some u->w.cell? (a.add j)=some u) (h1:∀ u∈r,u.oneCell'=true)
  (I:y+m<=z) (M:y*i.size+r.length<=cur.size) :
  (CE #[t,t] ty #[.slice (some ⟨g,0,none⟩) y z,.slice (some a) m c]).run P w =
   .ok (.slice (some ⟨g,0,none⟩) (y+m) z) (w.setRow g (cur.toList.take (y*i.size)++r++cur.toList.drop (y*i.size+r.length)).toArray):=by
 have O:=run_firstCells_some (P:=P) w i.size m a m c r R H;have J:=jZ (P:=P) g (y*i.size) e mk r 0 cur w Z Y (by simpa using M) h1;simp only[CJ]at J;simp[CE,run_underlying X,sizeOf,typeInfo,hi,Co,I,O,Addr.add_lit,J]
theorem dJ {P:Program}(w:World)(t ty e:TypeId)(i:TypeInfo)(z:Value)(size a0:Nat)(ht:P.underlying t=some (.slice e))(hi:P.info? e=some i)(hz:i.zero=some z)
  (a5:i.size=size) (b2:i.bytes=a0) (b4:z.cells.size=size)
  (v:Value) (n:Nat) (xs:List Value) (y:Row w e size v n xs)
  (a:Addr) (m c:Nat) (r:List Value) (hl:r.length=m*size) (I:∀ j u,r[j]?=some u->w.cell? (a.add j)=some u) (h1:∀ u∈r,u.oneCell'=true)
  (ad:n+m<=maxLen) (O:(n+m)*a0<=140737488355328) :
  ∃ v' w',(CE #[t,t] ty #[v,.slice (some a) m c]).run P w=.ok v' w'/\Row w' e size v' (n+m) (xs++r)/\w.grownBy w' v.ownBlock/\(v'.ownBlock=v.ownBlock\/v'.ownBlock=some w.heap.size):=by
 subst a5;subst b2;have b1:n+m<=9223372036854775807:=by simp only[maxLen]at ad;omega
 have M:(xs++r).length=(n+m)*i.size:=by rw[BV,y.1,hl,Cm]
 have Z:∀ (H:Nat),H<n+m->∀ (b0:Option Nat),
   Row (w.drew.alloc (.cells (xs.toArray++r.toArray++DM z.cells (grownCap w (n+m) H e-(n+m))) e)) e i.size
    (.slice (some ⟨w.heap.size,0,none⟩) (n+m) (grownCap w (n+m) H e)) (n+m) (xs++r) /\
   w.grownBy (w.drew.alloc (.cells (xs.toArray++r.toArray++DM z.cells (grownCap w (n+m) H e-(n+m))) e)) b0:=by
  intro H ho b0;have b3:=grownCap_ge w (n+m) H e;have a1:grownCap w (n+m) H e<=maxLen:=grownCap_le_maxLen w (n+m) H e ad;refine⟨⟨M,.inr ⟨w.heap.size,_,_,_,rfl,heap_alloc_new w.drew _,b3,.inl ⟨rfl,a1⟩,?_,?_⟩⟩,⟨rfl,rfl,rfl,by simp,λk hk _=>Go.heap_alloc_old w.drew _ hk⟩⟩
  ·simp only[DH,CZ,size_zeroCells,b4,y.1,hl,<- Cm];exact BQ _ (by omega)
  ·simp only[C9,BT];rw[<- BT,<- M];exact Dd
 rcases y.2 with ⟨rfl,rfl⟩|⟨g,X,R,mk,rfl,hg,b5,a1,a6,a4⟩
 ·have hx:xs=[]:=BY (by simpa using y.1);subst hx;by_cases hm:m=0
  ·subst hm;have hn:r=[]:=BY (by simpa using hl);subst hn;refine⟨.slice none 0 0,w,?_,Row.nil w e i.size,⟨rfl,rfl,rfl,BX _,λ_ _ _=>rfl⟩,.inl rfl⟩;simp[CE,run_underlying ht,sizeOf,typeInfo,hi,Co,Cj,loadCells,loadCellsFrom]
  ·have hr:=run_append_nil (P:=P) w t ty e i z ht hi hz a m c r hl I (by omega) (by omega) (by have hb:=O;simp only[CU]at hb;omega);have Y:=Z 0 (by omega) (B8 (.slice none 0 0));simp only[CU,Da,Array.empty_append]at Y ⊢;exact⟨_,_,hr,Y.1,Y.2,.inr rfl⟩
 ·by_cases J:n+m<=X
  ·have a9:n*i.size+r.length<=R.size:=by rw[hl,<- Cm];exact CL (BQ _ J) a6
   have hr:=nf (P:=P) w t ty e i ht hi g n X R mk hg (zG a1) a m c r hl I h1 J a9;have a2:(R.toList.take (n*i.size)++r++R.toList.drop (n*i.size+r.length)).toArray.size=R.size:=by
    simp only[CZ,BV,B7,Cp,CD];omega
   refine⟨_,_,hr,⟨M,.inr ⟨g,X,_,mk,rfl,setRow_heap w g R _ e _ hg,J,a1.imp id (λh=>⟨h.1,?_⟩),?_,?_⟩⟩,⟨rfl,rfl,rfl,by simp,λk _ hk=>setRow_other w g k _ (λe=>hk (by simp[B8,e]))⟩,.inl rfl⟩
   ·rw[a2];exact h.2
   ·rw[a2];exact a6
   ·rw[a4,<- M];exact Dd
  ·have a3:∀ j u,xs[j]?=some u->w.cell? ((⟨g,0,none⟩:Addr).add j)=some u:=λj u hj=>by
    rw[ff,CU,y.cellAt _ (by rw[<- y.1];exact (BG.1 hj).1)];exact hj
   have hr:=run_append_grow (P:=P) w t ty e i z ht hi hz ⟨g,0,none⟩ n X xs y.1 a3 a m c r hl I (by omega) (by omega) (growslice_fits (by omega) O);have Y:=Z X (by omega) (B8 (.slice (some ⟨g,0,none⟩) n X));exact⟨_,_,hr,Y.1,Y.2,.inr rfl⟩
theorem ng {P:Program}(w:World)(t ty e:TypeId)(i:TypeInfo)(size c:Nat)(y:P.underlying t=some (.slice e))(z:P.info? e=some i)
  (v:Value) (n:Nat) (xs:List Value) (r:Row w e size v n xs) :
  (CE #[t,t] ty #[v,.slice none 0 c]).run P w=.ok v w:=by
 rcases r.2 with ⟨rfl,rfl⟩|⟨g,I,H,_,rfl,_,u,_⟩
 ·simp[CE,run_underlying y,sizeOf,typeInfo,z,Co,Cj]
 ·simp[CE,run_underlying y,sizeOf,typeInfo,z,Co,Cj,u,storeCells]
theorem jk {α:Type}{f g:α->List Nat}:∀ {l:List α},(∀ x∈l,f x=g x)->l.flatMap f=l.flatMap g
 |[],_=>rfl
 |x::l,h=>by rw[CR,CR,h x (BZ ..),jk (λy r=>h y (BS _ r))]
theorem zm (n m:Nat)(f g:Nat->List Nat):(BR (n+m)).flatMap (λj=>if j<n then f j else g (j-n))=(BR n).flatMap f++(BR m).flatMap g:=by
 rw[List.range_add,List.flatMap_append,DO];congr 1
 ·refine jk λj r=>?_
  rw[if_pos (C4.1 r)]
 ·refine jk λj _=>?_
  rw[if_neg (by omega),show n+j-n=j by omega]
def wj (w:World)(G:Nat->Prop)(e:Ty)(z:List e.den)(u:Value)(r:Nat->List Nat):Prop :=
 ∃ A y,u=.slice A z.length y/\(0<z.length->∃ g o,A=some ⟨g,o,none⟩/\∀ j (x:e.den),z[j]?=some x->∃ c,Mx w G e none 0 x c (r j)/\cX w g (o+j*e.cells) c)
section
variable {P:Program} {V:Env} {Γ:List Ctr} {T:TypeId->TI} {st:St} {o:Oper} {R:Type} {κ:Upd->Option R} {r:R}
theorem wk {w:World}{t ty E:TypeId}{e e':Ty}{J:Nat}(bx:oL P t (.slice E e J))(b5:e'.cells=e.cells){G G2 G':Nat->Prop}{xs H:List e'.den}{v u:Value}{bs:List Nat}{M:Nat->List Nat}(hx:Ow w G E e' xs v bs)
  (hy:wj w G2 e' H u M) (b0:(xs.length+H.length)*J<=ak) (hG:∀ k,G k->G' k) (a9:∀ k,G2 k->G' k) (b1:∀ k,G' k->k<w.heap.size/\v.ownBlock≠some k) (bb:∀ j,j<H.length->∀ k∈M j,v.ownBlock≠some k) :
  ∃ Z O I,(CE #[t,t] ty #[v,u]).run P w=.ok Z O/\w.grownBy O v.ownBlock/\OwB O G' none E e' (xs++H) Z I /\
   ∀ k,I.count k<=bs.count k+(((BR H.length).flatMap M)++[w.heap.size]).count k:=by
 obtain⟨hu,_,_,cu,cp,ti,z,hi,hs,hb,hz,c4⟩:=bx;obtain⟨c0,X,a5,ho,b9,c1⟩:=hx;obtain⟨A,ba,c3,b2⟩:=hy;subst c3;have cb:ti.size=e'.cells:=by rw[b5];exact hs
 have a3:∀ (O:World),w.grownBy O v.ownBlock->∀ k,G' k->O.heap[k]?=w.heap[k]?:=λO hg k Y=>hg.block k (b1 k Y).1 (CT (b1 k Y).2)
 have bn:xs.length+H.length<=maxLen:=by
  have h1:(xs.length+H.length)*1<=(xs.length+H.length)*J:=Ch _ cp.1;have:=mq;simp only[ak]at b0;omega
 have b3:∀ (y:List Value),(∀ (j:Nat) (x:e'.den),H[j]?=some x->∃ c,Mx w G2 e' none 0 x c (M j)/\∀ i u,c[i]?=some u->y[j*e'.cells+i]?=some u) ->
   ∀ Z O,Row O E e'.cells Z (xs.length+H.length) (X++y)->w.grownBy O v.ownBlock->(Z.ownBlock=v.ownBlock\/Z.ownBlock=some w.heap.size) ->
    ∃ I,OwB O G' none E e' (xs++H) Z I/\∀ k,I.count k<=bs.count k+(((BR H.length).flatMap M)++[w.heap.size]).count k:=by
  intro y hn Z O a4 hg a6;refine⟨Z.ownBlock.toList++(BR (xs.length+H.length)).flatMap (λj=>if j<xs.length then a5 j else M (j-xs.length)),⟨X++y,_,by rw[BV];exact a4,by rw[BV],λj x hj=>?_⟩,λk=>?_⟩
  ·by_cases a2:j<xs.length
   ·rw[BK a2]at hj;obtain⟨c,hr,hc⟩:=c1 j x hj;have hr:Mx w G e' none 0 x c (a5 j):=hr;refine⟨c,?_,λi u hi=>?_⟩
    ·rw[if_pos a2];refine hr.carry hG (λk Y=>a3 O hg k (hG k Y)) λk Y=>hg.block k (hr.lt k Y) (λe0=>?_)
     have h5:=bu.1 c0 k;rw[b9,<- e0,BI]at h5;have h6:0<((BR xs.length).flatMap a5).count k:=BN.2 (dY.2 ⟨j,a2,Y⟩);simp at h5;omega
    ·have:=hc i u hi;rw[BK (BG.1 this).1];exact this
   ·rw[BJ (by omega)]at hj;obtain⟨c,hr,hc⟩:=hn _ x hj;have c2:=(BG.1 hj).1;refine⟨c,?_,λi u hi=>?_⟩
    ·rw[if_neg a2];exact hr.carry a9 (λk Y=>a3 O hg k (a9 k Y)) λk Y=>hg.block k (hr.lt k Y) (CT (bb _ c2 k Y))
    ·have:=hc i u hi;have b4:=ho.1;have cw:xs.length*e'.cells<=j*e'.cells:=BQ _ (Nat.le_of_not_lt a2);rw[BJ (by omega),<- this,b4,Nat.sub_mul];congr 1;omega
  ·rw[zm,b9];simp only[BI];rcases a6 with h5|h5
   ·rw[h5];omega
   ·rw[h5];simp only[DC];omega
 cases A with
 |none =>
  have a0:H.length=0:=by
   rcases DD H.length with h|h
   ·exact h
   ·obtain⟨g,o,hA,_⟩:=b2 h;cases hA
  have a0:=BY a0;subst a0;have a1:=ng (P:=P) w t ty E ti e'.cells ba hu hi v xs.length X ho;have hg:w.grownBy w v.ownBlock:=⟨rfl,rfl,rfl,BX _,λ_ _ _=>rfl⟩;obtain⟨I,h1,h2⟩:=b3 [] (by simp) v w (by simpa using ho) hg (.inl rfl);exact⟨v,w,I,a1,hg,h1,h2⟩
 |some ad =>
  have bl:∃ y:List Value,y.length=H.length*e'.cells/\(∀ j u,y[j]?=some u->w.cell? (ad.add j)=some u)/\(∀ u∈y,u.oneCell'=true) /\
    ∀ (j:Nat) (x:e'.den),H[j]?=some x->∃ c,Mx w G2 e' none 0 x c (M j)/\∀ i u,c[i]?=some u->y[j*e'.cells+i]?=some u:=by
   rcases DD H.length with h|h
   ·have a0:=BY h;subst a0;exact⟨[],by simp,by simp,by simp,by simp⟩
   ·obtain⟨g,o,hA,he⟩:=b2 h;simp at hA;subst hA;obtain⟨y,h1,h2,h3,h4⟩:=rz H o (λj x c=>Mx w G2 e' none 0 x c (M j)) (λj x c hq=>⟨hq.len,hq.one⟩) he;exact⟨y,h1,λj u hj=>by rw[ff];exact h2 j u hj,h3,h4⟩
  obtain⟨y,h1,h2,h3,h4⟩:=bl;have cc:z.cells.size=e'.cells:=by
   have h2:=(lM w (λ_=>False) e).len;rw[<- CD,c4,h2,b5]
  obtain⟨Z,O,a1,a4,hg,a6⟩:=dJ (P:=P) w t ty E ti z e'.cells J hu hi hz cb hb cc v xs.length X ho ad H.length ba y h1 h2 h3 bn (by simpa[ak]using b0);obtain⟨I,h5,h6⟩:=b3 y h4 Z O a4 hg a6;exact⟨Z,O,I,a1,hg,h5,h6⟩
theorem wm {W:Wit}{a:Act}{w:World}(h:an P V W st a w){E:TypeId}{e:Ty}{y:Leaf}{u:Value}{t:cI (List e.den)}(hl:aB P V W st w [y] [u])(H:fT st E e y=some t) :
  (∃ I,wj w (bo V W t.p t.frz) e t.val u I/\∀ k,((BR t.val.length).flatMap I).count k<=(aY W t.kill).count k)/\(∀ x∈t.frz,aA st x)/\(∀ x∈t.kill,aA st x):=by
 have z:∀ {p q:Bool} {O:List e.den} {ks:List (Nat×Nat)},dk e (aC st y)=some (p,O)->(∀ (S:Nat->Prop) (x:e.den) (c:List Value),Rd w (bo V W p (bz st [y])) e x c->Mx w (bo V W q ks) e none 0 x c []) ->
   ∃ I,wj w (bo V W q ks) e O u I/\∀ k,((BR O.length).flatMap I).count k<=(aY W []).count k:=by
  intro p q O ks Y hm;obtain⟨A,M,hu,_,hx⟩:=kP (m:=false) (E:=E) h hl.1.1 hl.1.2.1 Y;have hu:u=.slice A O.length M:=by simpa using hu
  refine⟨(λ_=>[]:Nat->List Nat),⟨A,M,hu,λZ=>?_⟩,λk=>by rw[show ((BR O.length).flatMap λ_=>([]:List Nat))=[] from by simp];exact DT _⟩;obtain⟨g,o',hA,_,a0⟩:=hx Z;exact⟨g,o',hA,λj x hj=>by
   obtain⟨c,hr,hc⟩:=a0 j x hj;exact⟨c,hm (λ_=>True) x c hr,hc⟩⟩
 unfold fT at H;cases hf:e.flat with
 |true =>
  rw[hf]at H;simp only[cond_true,BE]at H;obtain⟨⟨p,O⟩,Y,rfl⟩:=H;exact⟨z Y (λ_ x c hr=>Mx.flat hf hr),by simp,by simp⟩
 |false =>
  rw[hf]at H;simp only[cond_false]at H;cases hs:decide (e.sh=e) with
  |true =>
   rw[hs]at H;simp only[cond_true,BE]at H;obtain⟨⟨p,O⟩,Y,rfl⟩:=H;exact⟨z Y (λ_ x c hr=>Mx.shared (of_decide_eq_true hs) hr),λx hx=>eq hl hx,by simp⟩
  |false =>
   rw[hs]at H;simp only[cond_false,BE]at H;obtain⟨J,Y,rfl⟩:=H;obtain⟨h1,h2,h3⟩:=dR (pos:=0) h hl Y;have h1:Mx w (bo V W J.p J.frz) (.list true E e) none 0 J.val [u] (aY W J.kill):=h1;rw[bJ (by simp)]at h1;obtain⟨v,hv,a1,X,h4,h5,h6⟩:=h1;simp only[Cg,and_true]at hv;subst hv;refine⟨⟨X,?_,λk=>?_⟩,h2,h3⟩
   ·rcases h4.2 with ⟨hn,h0⟩|⟨g,M,a2,_,hv,hg,a3,_⟩
    ·exact⟨none,0,by rw[hn];show _=Value.slice none (DV J.val) 0;rw[h0],λZ=>by have Z:0<DV J.val:=Z;omega⟩
    ·refine⟨some ⟨g,0,none⟩,M,hv,λZ=>⟨g,0,rfl,λj x hj=>?_⟩⟩;obtain⟨c,h7,h8⟩:=h6 j x hj;have h7:Mx w (bo V W J.p J.frz) e none 0 x c (X j):=h7;refine⟨c,h7,λi u hi=>?_⟩;have h9:=h8 i u hi;rw[CU];rw[hv]at h4;rw[h4.cellAt _ (by rw[<- h4.1];exact (BG.1 h9).1)];exact h9
   ·show ((BR (DV J.val)).flatMap X).count k<=(aY W J.kill).count k;rw[h5,BI];omega
theorem AF {l l':Leaf}{U:Upd}(u:ck st l=some (U,l')):∃ n,l'=.al TMP 0 n:=by
 cases l with
 |nal p O ep H E e X =>
  simp only[ck]at u;cases y:br st O ep with
  |false=>simp[y]at u
  |true =>
   rw[y]at u;simp only[cond_true]at u;split at u
   ·rename_i r j n0 i M off;split at u
    ·rename_i Y E' J I Z;cases z:!BU r TMP&&!BU r EPO&&BU M J.cells with
     |false=>simp[z]at u
     |true =>
      rw[z]at u;simp only[cond_true]at u;split at u
      ·split at u
       ·simp only[BD,CG]at u;exact⟨_,u.2.symm⟩
       ·cases u
      ·cases u
    ·cases u
   ·cases u
 |_=>simp[ck]at u
theorem wn (hV:ax V)(hT:TOk P T)(cp:bN V o){c:Call}(c0:o.op=.call c)(hc:c.callee=.builtin .append)(h:act Γ T o st κ=some r):bW P V o st κ r:=by
  simp only[act,wrU,c0,hc]at h;split at h
  · cases h
  · rename_i d hd
    split at h
    · rename_i x y t u a3 a9
      split at h
      · rename_i E e a4 ht
        cases a5:BU t u with
        |false=>simp[a5]at h
        |true =>
          simp only[a5,cond_true]at h;have a5:=BL a5;subst a5;have c2:=hT t;rw[ht]at c2;have a3:c.args=#[x,y]:=by rw[<- B9 (xs:=c.args),a3]
          have a9:c.argTypes=#[t,t]:=by rw[<- B9 (xs:=c.argTypes),a9]
          have ba:∀ (a:Act) (w w':World) (v:Value),(CE #[t,t] o.type #[a.eval x,a.eval y]).run P w=.ok v w'->(execOp a.eval o).run P w=.ok (.value v) w':=by
            intro a w w' v Z;simp[execOp,c0,hc,resolve,invoke,builtin,a3,a9,Z]
          have bb:∀ (I:Upd) (E':TypeId) (e':Ty) (p:Bool) (xs:List e'.den) (ks:List (Nat×Nat)),E'=E->e'.sh=e.sh->dX st (ac I st) I d E' e' a4 p xs ks (one st y) κ=some r ->
              ∃ U,κ U=some r/\∀ (O:Wit) (a:Act) (w:World),an P V O (ac I st) a w->aB P V O (ac I st) w [one st y] [a.eval y]->(∀ x∈ks,aA (ac I st) x)->Ow w (gd V O p) E' e' xs (a.eval x) (aY O ks)->mK P V o st U a w:=by
            intro I E' e' p xs ks hE he M;subst hE;unfold dX at M;split at M
            · rename_i t1 d2
              cases Y:a7 (t1.kill++ks)&&dE t1.frz (t1.kill++ks)&&decide ((xs.length+t1.val.length)*a4<=ak) with
              |false=>simp[Y]at M
              |true =>
                simp only[Y,cond_true]at M;simp only[BF,decide_eq_true_eq]at Y;obtain⟨⟨e2,d3⟩,bl⟩:=Y;refine⟨_,M,λO a w Z a2 dd cb next Q hn=>?_⟩;obtain⟨⟨c3,d1,b3⟩,hf,cy⟩:=wm Z a2 d2;have cc:∀ x∈t1.kill++ks,aA (ac I st) x:=λx hx=>(BO.1 hx).elim (cy x) (dd x)
                obtain⟨h1,_,_,h4⟩:=fK hV Z d3 cc;have b9:=gN Z e2 cc;rw[dL]at b9 h4;have X:∀ k∈aY O t1.kill++aY O ks,¬ cd V (O.frz (ac I st) t1.frz) _ k:=λk H=>mp ⟨(h4 k H).1,(h4 k H).2.1,(h4 k H).2.2.2.1,(h4 k H).2.2.2.2⟩
                rw[CK]at b9;obtain⟨cx,c4,b5⟩:=b9;have bn:∀ k,(a.eval x).ownBlock=some k->k∈aY O ks:=by
                  intro k H;obtain⟨_,e3,e6,_,bl,_⟩:=cb;rw[bl,H];simp
                have cw:∀ k,gd V (O.frz (ac I st) t1.frz) (p||t1.p) k->cd V (O.frz (ac I st) t1.frz) (ac (aN (ac (aE (ac I st) t1.frz) (ac I st)) (t1.kill++ks)++aE (ac I st) t1.frz) (ac I st)) k:=by
                  rintro k (H|⟨_,H⟩)
                  · exact .inl H
                  · exact .inr (.inl (hV.ro k H))
                have a6:∀ k∈(BR t1.val.length).flatMap c3,k∈aY O t1.kill:=λk H=>BN.1 (by have:=b3 k;have:=BN.2 H;omega)
                obtain⟨v',w',e5,c1,hg,cu,bx⟩:=wk (P:=P) (t:=t) (ty:=o.type) c2 (ia he) cb d1 bl (G':=gd V (O.frz (ac I st) t1.frz) (p||t1.p))
                  (bU (W':=O.frz (ac I st) t1.frz) (by intro h;simp[h]) (λ_ h=>Or.inl h))
                  (λk H=>bU (W':=O.frz (ac I st) t1.frz) (by intro h;simp[h]) (λ_ h=>h) k (ku hf k H))
                  (λk H=>⟨h1.used_lt k (cw k H),λe1=>X k (BH _ (bn k e1)) (cw k H)⟩)
                  (λj hj k H e1=>b5 k (a6 k (dY.2 ⟨j,hj,H⟩)) k (bn k e1) rfl)
                have b4:=nd (bs:=aY O ks) (K:=(BR t1.val.length).flatMap c3++[w.heap.size]) c4
                  (bu.2 λk=>by
                    rw[BI];have h5:=b3 k;have h6:=bu.1 cx k;by_cases H:k=w.heap.size
                    · subst H
                      have:(aY O t1.kill).count w.heap.size=0:=B5.2 (λhm=>by have:=(h4 _ (BM _ hm)).2.2.1;omega);simp;omega
                    · have:List.count k [w.heap.size]=0:=B5.2 (by simp[H])
                      omega)
                  (λk H hm=>by
                    rcases BO.1 H with H|H
                    · exact b5 k (a6 k H) k hm rfl
                    · simp at H
                      subst H;have:=(h4 _ (BH _ hm)).2.2.1;omega) bx
                refine dZ (ba a w w' v' c1) ?_;rw[hd];refine hn _ _ ?_;rw[cg,aP,bD];refine h1.putOwn hV hg.size hg.os hg.tape hg.output (λk H=>hg.block k (h1.used_lt k H) (λe1=>X k (BH _ (bn k e1.symm)) H)) d (cp d hd).1 (cp d hd).2 _ (BP _) ⟨b4.1,cu⟩ (λk H hu=>?_);rcases b4.2 k H with H|H
                · exact X k (BH _ H) hu
                · rcases BO.1 H with H|H
                  · exact X k (BM _ (a6 k H)) hu
                  · simp at H
                    have:=h1.used_lt k hu;omega
            · cases M
          have a1:∀ (I:Upd) (x':Leaf),ew st I d E e a4 x' (one st y) κ=some r->one st y≠.dead:=by
            intro I x' h e1;rw[e1]at h;unfold ew at h;split at h
            · split at h
              · rename_i p E' e' b1 b2
                cases Y:BU E' E&&decide (e'.sh=e.sh) with
                |false=>simp[Y]at h
                |true =>
                  simp only[Y,cond_true,dX,fT,aC,dk,Cx,ch,take]at h;cases e'.flat <;> cases decide (e'.sh=e') <;> simp at h
              · cases h
            · simp only[dX,fT,aC,dk,Cx,ch,take]at h
              cases e.flat <;> cases decide (e.sh=e) <;> simp at h
            · cases h
          simp only[iu]at h;cases hn:jq (one st x) with
          |true =>
            rw[hn]at h;simp only[cond_true]at h;rw[gY]at h;obtain⟨⟨I,x'⟩,ad,h⟩:=CA.1 h;have a1:=a1 _ _ h;simp only[ew]at h;split at h
            · rename_i r' j n
              split at h
              · rename_i p' E' e' b1 b2
                cases Y:BU E' E&&decide (e'.sh=e.sh) with
                |false=>simp[Y]at h
                |true =>
                  simp only[Y,cond_true]at h;simp only[BF,decide_eq_true_eq]at Y;obtain⟨U,hU,hg⟩:=bb I E' e' p' b1 [(r',j)] (BL Y.1) Y.2 h;refine⟨U,hU,λW a w Z=>?_⟩;obtain⟨a0,_,_,_,_⟩:=bt Z x (by intro e1;rw[e1]at hn;simp[jq]at hn);obtain⟨O,n0,p0,E0,e0,e4,g1,g2,g3,g4,_⟩:=vg hV Z a0 ad;obtain⟨a2,J,b0,_,_⟩:=bt Z y a1;obtain⟨h5,h6,h7,h8⟩:=kr g1 b2 g4;exact hg O a w g1 ⟨⟨a2.carry hV.ro g2 (λho=>absurd ho J),J,b0⟩,trivial⟩ (λz hz=>by simp at hz;subst hz;exact⟨_,h7,trivial⟩) (by simpa[aY]using h6)
              · cases h
            · exfalso
              obtain⟨n,dc⟩:=AF ad;cases dc
            · cases h
          |false =>
            rw[hn]at h;simp only[cond_false]at h;have a1:=a1 _ _ h;simp only[ew]at h;split at h
            · rename_i r' j n hx
              split at h
              · rename_i p' E' e' b1 b2
                cases Y:BU E' E&&decide (e'.sh=e.sh) with
                |false=>simp[Y]at h
                |true =>
                  simp only[Y,cond_true]at h;simp only[BF,decide_eq_true_eq]at Y;obtain⟨U,hU,hg⟩:=bb [] E' e' p' b1 [(r',j)] (BL Y.1) Y.2 h;refine⟨U,hU,λW a w Z=>?_⟩;obtain⟨a0,_,_,_,_⟩:=bt Z x (by rw[hx];simp);rw[hx]at a0;obtain⟨a2,J,b0,_,_⟩:=bt Z y a1;obtain⟨h5,h6,h7,h8⟩:=kr Z b2 a0;exact hg W a w Z ⟨⟨a2,J,b0⟩,trivial⟩ (λz hz=>by simp at hz;subst hz;exact⟨_,h7,trivial⟩) (by simpa[aY]using h6)
              · cases h
            · rename_i hx
              obtain⟨U,hU,hg⟩:=bb [] E e false [] [] rfl rfl h;refine⟨U,hU,λW a w Z=>?_⟩;obtain⟨a0,_,_,_,_⟩:=bt Z x (by rw[hx];simp);rw[hx]at a0;obtain⟨a2,J,b0,_,_⟩:=bt Z y a1;exact hg W a w Z ⟨⟨a2,J,b0⟩,trivial⟩ (by simp) (by rw[show a.eval x=_ from a0];exact OwH.nil w _ E e)
            · cases h
      · cases h
    · cases h
end
def gO (w:World)(ro pr:Nat->Prop)(r:Bool)(a:Ty)(x:a.den)(v:Value):Prop :=
 if r=true then ∃ b u g o c,v=.pointer (some ⟨b,u,none⟩)/\pr b/\w.cell? ⟨b,u,none⟩=some (.pointer (some ⟨g,o,none⟩))/\pr g/\Rd w ro a x c/\cX w g o c
 else ∃ g o c,v=.pointer (some ⟨g,o,none⟩)/\pr g/\Rd w ro a x c/\cX w g o c
def jM (w:World)(ro pr:Nat->Prop):(cs:List (Bool×Ty))->lS cs->List Value->Prop
 |[],_,y=>y=[]
 |c::cs,x,y=>∃ u r,y=u::r/\gO w ro pr c.1 c.2 x.1 u/\jM w ro pr cs x.2 r
def nS (P:Program)(w:World)(ro pr:Nat->Prop):(pk:PK)->pk.den->Value->List Nat->Prop
 |.rd a,x,v,r=>r=[]/\∃ y,dg a.isAgg v y/\Rd w ro a x y
 |.own a,x,v,r=>∃ y,dg a.isAgg v y/\Mx w ro a none 0 x y r
 |.io a,x,v,r=>∃ y,dg a.isAgg v y/\Mx w ro a none 0 x y r
 |.rref a,x,v,r=>r=[]/\gO w ro pr false a x v
 |.rref2 a,x,v,r=>r=[]/\gO w ro pr true a x v
 |.iop a,x,v,r=>∃ g c E z,v=.pointer (some ⟨g,0,none⟩)/\w.heap[g]?=some (.cells c.toArray E (0,0))/\Mx w ro a none 0 x c z/\r=g::z
 |.fn M B,O,v,r=>r=[]/\ib P w pr M B O v
 |.clo f y,x,v,r=>r=[]/\∃ I:List Value,v=.func (.func f) #[] I.toArray/\jM w ro pr y x I
 |.hol a c off,x,v,r=>∃ y u z H E e J,dg a.isAgg v y/\Mx w ro a (some c) 0 x.1 y z/\y[c]?=some u/\be c a 0 x.1=some ⟨E,e,J⟩/\OwB w ro (some (x.2,off)) E e J u H/\∀ k,r.count k=z.count k+H.count k
def db (P:Program)(w:World)(ro pr:Nat->Prop):(ps:List PK)->ab ps->List Value->List (List Nat)->Prop
 |[],_,z,u=>z=[]/\u=[]
 |p::ps,x,z,u=>∃ v y b r,z=v::y/\u=b::r/\nS P w ro pr p x.1 v b/\db P w ro pr ps x.2 y r
def jx (w:World)(G:Nat->Prop)(a:Ty)(x:a.den)(ptr:Bool)(v:Value)(bs:List Nat):Prop :=
 if ptr=true then ∃ g c E r,v=.pointer (some ⟨g,0,none⟩)/\w.heap[g]?=some (.cells c.toArray E (0,0))/\Mx w G a none 0 x c r/\bs=g::r
 else ∃ u,dg a.isAgg v u/\Mx w G a none 0 x u bs
def bL (w:World)(G:Nat->Prop):(ps:List PK)->ah ps->List Value->List (List Nat)->Prop
 |.io a::ps,o,v::r,b::u=>jx w G a o.1 false v b/\bL w G ps o.2 r u
 |.iop a::ps,o,v::r,b::u=>jx w G a o.1 true v b/\bL w G ps o.2 r u
 |.rd _::ps,o,_::r,b::u=>b=[]/\bL w G ps o r u
 |.own _::ps,o,_::r,b::u=>b=[]/\bL w G ps o r u
 |.rref _::ps,o,_::r,b::u=>b=[]/\bL w G ps o r u
 |.rref2 _::ps,o,_::r,b::u=>b=[]/\bL w G ps o r u
 |.fn _ _::ps,o,_::r,b::u=>b=[]/\bL w G ps o r u
 |.clo _ _::ps,o,_::r,b::u=>b=[]/\bL w G ps o r u
 |.hol _ _ _::ps,o,_::r,b::u=>b=[]/\bL w G ps o r u
 |[],_,[],[]=>True
 |_,_,_,_=>False
def p7 (w:World)(G ro:Nat->Prop):(r:RK)->r.den->Value->List Nat->Prop
 |.v a,y,v,z=>∃ u,dg a.isAgg v u/\Mx w G a none 0 y u z
 |.bv a,y,v,z=>z=[]/\∃ u,dg a.isAgg v u/\Rd w (λk=>G k\/ro k) a y u
 |.box a,y,v,z=>∃ g c E H,v=.pointer (some ⟨g,0,none⟩)/\w.heap[g]?=some (.cells c.toArray E (0,0))/\Mx w G a none 0 y c H/\z=g::H
def gw (w:World)(G ro:Nat->Prop):(J:List RK)->ai J->List Value->List (List Nat)->Prop
 |[],_,M,H=>M=[]/\H=[]
 |r::J,y,M,H=>∃ u I b z,M=u::I/\H=b::z/\p7 w G ro r y.1 u b/\gw w G ro J y.2 I z
def sn:List Value->Value->Prop
 |[u],v=>v=u
 |r,v=>v=.tuple r.toArray
def p8 (w w':World)(r:List Nat)(k:Nat):Prop:=k<w'.heap.size/\(w.heap.size<=k\/k∈r)
def tD (c:Ctr)(w:World)(ro:Nat->Prop)(I:List Value)(r:List (List Nat))(y:ai c.rs×ah c.ps)(e:Ending)(w':World):Prop :=
 ∃ (v:Value) (H:List Value) (N:Nat->Prop) (z u:List (List Nat)),e=.returned v/\sn H v/\w.heap.size<=w'.heap.size/\w'.os=w.os/\w'.tape=w.tape/\w'.output=w.output /\
  (∀ k,k<w.heap.size->k∉r.flatten->w'.heap[k]?=w.heap[k]?)/\(∀ k,N k->p8 w w' r.flatten k) /\
  bL w' (λk=>N k\/(c.fresh=false/\ro k)) c.ps y.2 I z/\gw w' (λk=>N k\/(c.fresh=false/\ro k)) ro c.rs y.1 H u /\
  (z.flatten++u.flatten).Nodup/\∀ k∈z.flatten++u.flatten,p8 w w' r.flatten k/\¬ N k
def bP (P:Program)(c:Ctr):Prop :=
 fU P c.f/\∀ (w:World) (ro:Nat->Prop) (x:ab c.ps) (u:List Value) (r:List (List Nat)) (y:ai c.rs×ah c.ps),
  db P w ro (λk=>k<w.heap.size/\k∉r.flatten) c.ps x u r->(∀ k,ro k->k<w.heap.size/\k∉r.flatten)->r.flatten.Nodup->c.den x=some y ->
  Calls P c.f u.toArray w (tD c w ro u r y)
section
variable {P:Program} {V:Env} {Γ:List Ctr} {T:TypeId->TI} {st:St} {o:Oper} {R:Type} {κ:Upd->Option R} {r:R}
theorem ib.mono {w0:World}{S I:Nat->Prop}(Y:∀ k,S k->I k){y:List Ty}{B:Ty}{H:Tup y->Option B.den}{v:Value}(h:ib P w0 S y B H v):ib P w0 I y B H v:=by
 obtain⟨f,u,e,J,O⟩:=h;exact⟨f,u,e,J,λw1 X M=>O w1 X (λk z=>M k (Y k z))⟩
theorem ib.move {w0 w:World}{S J:Nat->Prop}(H:w0.heap.size<=w.heap.size)(M:∀ k,S k->J k/\w.heap[k]?=w0.heap[k]?){z:List Ty}{B:Ty}{I:Tup z->Option B.den}{v:Value}
  (h:ib P w0 S z B I v):ib P w J z B I v:=by
 obtain⟨f,u,e,O,Y⟩:=h;exact⟨f,u,e,O,λw1 Z X=>Y w1 (CL H Z) (λk y=>(X k (M k y).1).trans (M k y).2)⟩
theorem gO.carry {w w1:World}{ro ro' pr I:Nat->Prop}(y:∀ k,ro k->ro' k/\w1.heap[k]?=w.heap[k]?)(u:∀ k,pr k->I k/\w1.heap[k]?=w.heap[k]?){J:Bool}{a:Ty}{x:a.den}{v:Value}(h:gO w ro pr J a x v):gO w1 ro' I J a x v:=by
 unfold gO at h ⊢;split at h
 ·rename_i Y;rw[if_pos Y];obtain⟨b,ob,g,o,c,O,H,X,M,h7,Z⟩:=h;exact⟨b,ob,g,o,c,O,(u b H).1,by rw[kO (u b H).2];exact X,(u g M).1,h7.carry (λk z=>(y k z).1) (λk z=>(y k z).2),Z.same (u g M).2⟩
 ·rename_i Y;rw[if_neg Y];obtain⟨g,o,c,O,H,X,M⟩:=h;exact⟨g,o,c,O,(u g H).1,X.carry (λk z=>(y k z).1) (λk z=>(y k z).2),M.same (u g H).2⟩
theorem jM.carry {w w1:World}{ro ro' pr z:Nat->Prop}(y:∀ k,ro k->ro' k/\w1.heap[k]?=w.heap[k]?)(H:∀ k,pr k->z k/\w1.heap[k]?=w.heap[k]?):∀ {cs:List (Bool×Ty)} {x:lS cs} {us:List Value},jM w ro pr cs x us->jM w1 ro' z cs x us
 |[],_,_,h=>h
 |_::_,_,_,⟨u,I,e,M,J⟩=>⟨u,I,e,M.carry y H,jM.carry y H J⟩
theorem nS.mono {w:World}{ro ro' pr O:Nat->Prop}(y:∀ k,ro k->ro' k)(J:∀ k,pr k->O k):∀ {pk:PK} {x:pk.den} {v:Value} {bs:List Nat},nS P w ro pr pk x v bs->nS P w ro' O pk x v bs
 |.rd _,_,_,_,⟨e,M,I,z⟩=>⟨e,M,I,z.mono y⟩
 |.own _,_,_,_,⟨M,I,z⟩=>⟨M,I,z.mono y⟩
 |.io _,_,_,_,⟨M,I,z⟩=>⟨M,I,z.mono y⟩
 |.rref _,_,_,_,⟨e,h⟩=>⟨e,h.carry (λk H=>⟨y k H,rfl⟩) (λk H=>⟨J k H,rfl⟩)⟩
 |.rref2 _,_,_,_,⟨e,h⟩=>⟨e,h.carry (λk H=>⟨y k H,rfl⟩) (λk H=>⟨J k H,rfl⟩)⟩
 |.iop _,_,_,_,⟨g,c,E,X,I,z,Y,Z⟩=>⟨g,c,E,X,I,z,Y.mono y,Z⟩
 |.fn _ _,_,_,_,⟨e,h⟩=>⟨e,ib.mono J h⟩
 |.clo _ _,_,_,_,⟨e,us,I,z⟩=>⟨e,us,I,z.carry (λk H=>⟨y k H,rfl⟩) (λk H=>⟨J k H,rfl⟩)⟩
 |.hol _ _ _,_,_,_,⟨M,u,X,b1,E,e,xs,I,z,Y,Z,h5,h6⟩=>⟨M,u,X,b1,E,e,xs,I,z.mono y,Y,Z,h5.carry y (λ_ _=>rfl) (λ_ _=>rfl),h6⟩
theorem db.mono {w:World}{ro ro' pr H:Nat->Prop}(z:∀ k,ro k->ro' k)(I:∀ k,pr k->H k):∀ {ps:List PK} {x:ab ps} {M:List Value} {u:List (List Nat)},db P w ro pr ps x M u->db P w ro' H ps x M u
 |[],_,_,_,h=>h
 |_::_,_,_,_,⟨v,J,b,y,Y,X,Z,O⟩=>⟨v,J,b,y,Y,X,Z.mono z I,db.mono z I O⟩
def jW (V:Env)(W:Wit)(st:St)(ks:List (Nat×Nat))(u:List Nat)(k:Nat):Prop:=W.nw k\/V.prot k\/(∃ b∈u,live st b/\W.β b=k)\/∃ x∈ks,k∈W.bs x.1 x.2
theorem kW {W:Wit}{I z:List (Nat×Nat)}{H y:List Nat}(h:∀ x∈I,x∈z)(M:∀ b∈H,b∈y):∀ k,jW V W st I H k->jW V W st z y k:=by
 rintro k (u|u|⟨b,O,u⟩|⟨x,J,u⟩)
 ·exact .inl u
 ·exact .inr (.inl u)
 ·exact .inr (.inr (.inl ⟨b,M b O,u⟩))
 ·exact .inr (.inr (.inr ⟨x,h x J,u⟩))
theorem i8 {W:Wit}{p q:Bool}{z y:List (Nat×Nat)}(I:p=true->q=true)(h:∀ x∈z,x∈y):∀ k,bo V W p z k->bo V W q y k:=by
 rintro k (u|⟨x,H,u⟩)
 ·exact .inl (bU (W':=W) I (λ_ h=>h) k u)
 ·exact .inr ⟨x,h x H,u⟩
theorem gx {agg:Bool}{v:Value}{cs:List Value}(h:ek (bi agg) v cs):dg agg v cs:=by
 cases agg <;> exact h
theorem nh {W:Wit}{a:Act}{w:World}(h:an P V W st a w){l:Leaf}{ls:List Leaf}{v:Value}(hl:aK P V W st w [] l v)(y:target st l=some ls)(ks:List (Nat×Nat))(M:List Nat)(J:∀ b∈ft [l],b∈M) :
  ∃ g o cs,v=.pointer (some ⟨g,o,none⟩)/\jW V W st ks M g/\aB P V W st w ls cs/\cX w g o cs:=by
 unfold target at y;split at y
 ·rename_i b;cases Z:decide ((st b).sh=.agg) with
  |false=>simp[Z]at y
  |true =>
   simp only[Z,cond_true,BD]at y;subst y;obtain⟨hB,O,z⟩:=hl;rcases h.boxes b hB with ⟨X,_⟩|⟨_,E,X⟩
   ·rw[O]at X;cases X
   ·exact⟨W.β b,0,W.cs b,z,.inr (.inr (.inl ⟨b,J b (by simp[ft]),⟨hB,O⟩,rfl⟩)),iy h b,λi v z=>by
     rw[CU,cell_of_row w (W.β b) i _ E (0,0) X];simpa using z⟩
 ·rename_i p a x;simp only[BD]at y;subst y;obtain⟨g,Y,c,z,hg,H,hc⟩:=hl;rw[CJ]at z;exact⟨g,Y,c,z,hg.elim .inl (λh=>.inr (.inl h)),fe (λ_ h=>h) H,hc⟩
 ·rename_i p a x;simp only[BD]at y;subst y;obtain⟨b,ob,g,Y,c,z,Z,I,hg,H,hc⟩:=hl;refine⟨b,ob,[.pointer (some ⟨g,Y,none⟩)],z,Z.elim .inl (λh=>.inr (.inl h)),⟨⟨⟨g,Y,c,rfl,hg,H,hc⟩,id,rfl⟩,trivial⟩,λi u hi=>?_⟩;cases i with
  |zero=>simp at hi;subst hi;exact I
  |succ i=>simp at hi
 ·cases y
theorem gP {W:Wit}{w:World}{x:aI×List Leaf}{l:Leaf}{v:Value}{cs:List Value}(y:ek x.1 v cs)(z:aB P V W st w x.2 cs)(u:cl x=l)(H:l≠.dead) :
  aK P V W st w [] l v/\v.oneCell'=true:=by
 unfold cl at u;split at u
 ·rename_i I;subst u;have y:cs=[v]:=y;subst y;exact⟨z.1.1,z.1.2.2⟩
 ·exact absurd u.symm H
theorem ni {W:Wit}{a:Act}{w:World}(h:an P V W st a w){c:Bool×Ty}{l:Leaf}{v:Value}(hl:aK P V W st w [] l v){g:Got c.2.den}(H:fu st c l=some g) :
  gO w (bo V W g.p g.frz) (jW V W st g.frz g.see) c.1 c.2 g.val v/\(∀ z∈g.frz,aA st z)/\g.kill=[]/\g.lend=[]:=by
 unfold fu at H;cases hc:c.1 with
 |true =>
  rw[hc]at H;simp only[cond_true]at H;split at H
  ·rename_i l' ht;split at H
   ·rename_i Z a4;simp only[BE]at H;obtain⟨⟨p,y⟩,hy,rfl⟩:=H;obtain⟨g,o',cs,hv,X,I,Y⟩:=nh h hl ht (bz st Z) (ft [l,l']) (λb M=>by
     cases l <;> simp[ft]at M ⊢ <;> exact .inl M)
    match cs,I with
    |[u],I =>
     obtain⟨g2,o2,a3,a1,a2,O,a0⟩:=nh h I.1.1 a4 (bz st Z) (ft [l,l']) (λb M=>by
      cases l <;> cases l' <;> simp[ft]at M ⊢ <;> first|exact M|exact .inr M)
     have J:=Y 0 u rfl;rw[CJ,a1]at J;refine⟨?_,λz hz=>eq O hz,rfl,rfl⟩;unfold gO;rw[if_pos rfl];exact⟨g,o',g2,o2,a3,hv,X,J,a2,eH h O hy,a0⟩
   ·cases H
  ·cases H
 |false =>
  rw[hc]at H;simp only[cond_false]at H;split at H
  ·rename_i Z ht;simp only[BE]at H;obtain⟨⟨p,y⟩,hy,rfl⟩:=H;obtain⟨g,o',cs,hv,X,I,Y⟩:=nh h hl ht (bz st Z) (ft [l]) (λb M=>M);refine⟨?_,λz hz=>eq I hz,rfl,rfl⟩;unfold gO;rw[if_neg (by simp)];exact⟨g,o',cs,hv,X,eH h I hy,Y⟩
  ·cases H
theorem mr {W:Wit}{a:Act}{w:World}(h:an P V W st a w):∀ {cs:List (Bool×Ty)} {ls:List Leaf} {us:List Value} {g:Got (lS cs)},aB P V W st w ls us->cr st cs ls=some g ->
  jM w (bo V W g.p g.frz) (jW V W st g.frz g.see) cs g.val us/\(∀ z∈g.frz,aA st z)/\g.kill=[]/\g.lend=[]
 |[],[],us,g,J,y=>by
  simp only[cr,BD]at y;subst y;cases us with
  |nil=>exact⟨rfl,by simp,rfl,rfl⟩
  |cons=>exact J.elim
 |[],_::_,_,_,_,y=>by simp[cr]at y
 |_::_,[],_,_,_,y=>by simp[cr]at y
 |c::cs,l::ls,us,g,J,y=>by
  cases us with
  |nil=>exact J.elim
  |cons u us =>
   simp only[cr]at y;split at y
   ·rename_i g1 M;split at y
    ·rename_i g2 O;simp only[BD]at y;subst y;obtain⟨h1,X,h3,h4⟩:=ni h J.1.1 M;obtain⟨Y,h6,h7,h8⟩:=mr h J.2 O;refine⟨⟨u,us,rfl,h1.carry (λk I=>⟨i8 (by intro h;simp[h]) (λx H=>BM _ H) k I,rfl⟩) (λk I=>⟨kW (λx H=>BM _ H) (λx H=>BM _ H) k I,rfl⟩),
      Y.carry (λk I=>⟨i8 (by intro h;simp[h]) (λx H=>BH _ H) k I,rfl⟩) (λk I=>⟨kW (λx H=>BH _ H) (λx H=>BH _ H) k I,rfl⟩)⟩,?_,rfl,rfl⟩
     intro z Z;exact (BO.1 Z).elim (X z) (h6 z)
    ·cases y
   ·cases y
theorem wo {W:Wit}{w:World}{c:Bool×Bool×(a:Ty)×a.den}{v:Value}(h:iM V W w c v):aK P V W st w [] (eU c) v/\¬ am (eU c)/\v.oneCell'=true:=by
 unfold iM at h;unfold eU;split at h
 ·rename_i u;rw[u];refine⟨h,id,?_⟩;obtain⟨b,I,g,H,z,y,_⟩:=h;rw[y];rfl
 ·rename_i u;have u:c.2.1=false:=by simpa using u
  rw[u];refine⟨h,id,?_⟩;obtain⟨g,H,z,y,_⟩:=h;rw[y];rfl
theorem qI {W:Wit}{w:World}{caps:List (Bool×Bool×(a:Ty)×a.den)}{us:List Value}(z:us.length=caps.length)(h:∀ (i:Nat) (c:Bool×Bool×(a:Ty)×a.den) (u:Value),caps[i]?=some c->us[i]?=some u->iM V W w c u) :
  aB P V W st w (caps.map eU) us :=
 aB.mk (by simp[z]) λj l v y I=>by
  rw[List.getElem?_map,BE]at y;obtain⟨c,H,rfl⟩:=y;exact wo (h j c v H I)
theorem p9 {W:Wit}{w:World}:∀ (caps:List Nat),(∀ b∈caps,B0<=b/\(st b).sh=.agg)->aB P V W st w (caps.map λb=>Leaf.bp b 0) (caps.map λb=>Value.pointer (some ⟨W.β b,0,none⟩))
 |[],_=>trivial
 |b::caps,h=>⟨⟨⟨(h b (BZ ..)).1,(h b (BZ ..)).2,rfl⟩,id,rfl⟩,p9 caps (λq u=>h q (BS _ u))⟩
theorem nj {off:Nat}{E:TypeId}{e:Ty}{X:List e.den}:∀ {a:Ty} {pos:Nat} {x z:a.den},bM off E e X a pos x=some z->(∃ y,be off a pos x=some ⟨E,e,y⟩)/\be off a pos z=some ⟨E,e,X⟩
 |.pair a b,pos,x,z,h=>by
  simp only[bM]at h;split at h
  ·rename_i u I;simp only[BD]at h;subst h;obtain⟨⟨y,O⟩,M⟩:=nj I;exact⟨⟨y,by simp only[be,O]⟩,by simp only[be,M]⟩
  ·rename_i hn;simp only[BE]at h;obtain⟨u,I,rfl⟩:=h;have Z:=Mx.back.set_in I;obtain⟨⟨y,O⟩,M⟩:=nj I;have H:be off a pos x.1=none:=by
    cases hg:be off a pos x.1 with
    |none=>rfl
    |some u=>have:=gv hg;omega
   exact⟨⟨y,by simp only[be,H,O]⟩,by simp only[be,H,M]⟩
 |.list m E' e',pos,Y,z,h=>by
  simp only[bM]at h;cases J:m&&BU pos off with
  |false=>simp[J]at h
  |true =>
   rw[J]at h;simp only[cond_true]at h;obtain⟨rfl,rfl,rfl⟩:=jR h;exact⟨⟨Y,by simp[be,J]⟩,by simp[be,J]⟩
 |.int _,_,_,_,h=>by simp[bM]at h
 |.bool,_,_,_,h=>by simp[bM]at h
 |.str,_,_,_,h=>by simp[bM]at h
 |.unit,_,_,_,h=>by simp[bM]at h
 |.hdr,_,_,_,h=>by simp[bM]at h
theorem Mx.refill {w:World}{G:Nat->Prop}{off:Nat}{E:TypeId}{e:Ty}{ys:List e.den}{u:Value}(X:u.oneCell'=true):∀ {a:Ty} {pos:Nat} {x z:a.den} {cs:List Value} {bs:List Nat},Mx w G a (some off) pos x cs bs->bM off E e ys a pos x=some z ->
  Mx w G a (some off) pos z (cs.set (off-pos) u) bs
 |.pair a b,pos,x,z,cs,bs,⟨Z,c2,b1,b2,e1,e2,O,M⟩,h=>by
  have hl:=O.len;simp only[bM]at h;split at h
  ·rename_i y J;simp only[BD]at h;subst h;have Y:=Mx.back.set_in J;refine⟨Z.set (off-pos) u,c2,b1,b2,?_,e2,Mx.refill X O J,M⟩;rw[e1,List.set_append_left _ _ (by omega)]
  ·simp only[BE]at h;obtain⟨y,J,rfl⟩:=h;have Y:=Mx.back.set_in J;refine⟨Z,c2.set (off-(pos+a.cells)) u,b1,b2,?_,e2,O,Mx.refill X M J⟩;rw[e1,List.set_append_right _ _ (by omega),hl,show off-pos-a.cells=off-(pos+a.cells) by omega]
 |.list m E' e',pos,xs,z,cs,bs,H,h=>by
  simp only[bM]at h;cases I:m&&BU pos off with
  |false=>simp[I]at h
  |true =>
   simp only[BF]at I;obtain⟨rfl,I⟩:=I;have I:=BL I;subst I;rw[jd]at H ⊢;obtain⟨v,rfl,O,M⟩:=H;exact⟨u,by simp,X,M⟩
 |.int _,_,_,_,_,_,_,h=>by simp[bM]at h
 |.bool,_,_,_,_,_,_,h=>by simp[bM]at h
 |.str,_,_,_,_,_,_,h=>by simp[bM]at h
 |.unit,_,_,_,_,_,_,h=>by simp[bM]at h
 |.hdr,_,_,_,_,_,_,h=>by simp[bM]at h
theorem aB.setNil {W:Wit}{w:World}{ls:List Leaf}{cs:List Value}(I:aB P V W st w ls cs)(c:Nat):aB P V W st w (aU ls c .nil) (cs.set c (.slice none 0 0)):=by
 have u:=I.length;refine aB.mk (by simp[aU,u]) λj l v H y=>?_
 rcases aS _ _ _ _ _ H with ⟨rfl,rfl,J⟩|⟨z,H⟩
 ·rw[Ca (by omega)]at y;simp only[BD]at y;subst y;exact⟨rfl,id,rfl⟩
 ·rw[CS (CT z)]at y;exact I.at_ j l v H y
def wq (P:Program)(V:Env)(W:Wit)(st:St)(w:World)(pk:PK)(v:Value)(g:Got pk.den):Prop :=
 (∃ u,nS P w (bo V W g.p g.frz) (jW V W st g.frz g.see) pk g.val v u/\u=g.lend.map W.β++aY W g.kill)/\(∀ z∈g.frz,aA st z)/\(∀ z∈g.kill,aA st z)/\(∀ b∈g.lend,live st b)
theorem nk (hV:ax V){W:Wit}{a:Act}{w:World}(h:an P V W st a w){pk:PK}{x:aI×List Leaf}{v:Value}{cs:List Value}(hs:ek x.1 v cs)(hl:aB P V W st w x.2 cs)
  {g:Got pk.den} (u:bg st pk x=some g):wq P V W st w pk v g:=by
 obtain⟨sh,ls⟩:=x;have Y:∀ {b:Ty} {g:Got b.den},(bif decide (sh=bi b.isAgg) then (ch st b ls).map (λt=>(⟨t.p,t.val,t.frz,t.kill,[],[]⟩:Got b.den)) else none)=some g ->
   (∃ cs,dg b.isAgg v cs/\Mx w (bo V W g.p g.frz) b none 0 g.val cs (aY W g.kill))/\g.lend=[]/\g.see=[]/\(∀ z∈g.frz,aA st z)/\(∀ z∈g.kill,aA st z):=by
  intro b g hq;cases I:decide (sh=bi b.isAgg) with
  |false=>simp[I]at hq
  |true =>
   rw[I]at hq;simp only[cond_true,BE]at hq;have O:=of_decide_eq_true I;subst O;obtain⟨t,ht,rfl⟩:=hq;obtain⟨X,J,M⟩:=dR (pos:=0) h hl ht;exact⟨⟨cs,gx hs,X⟩,rfl,rfl,J,M⟩
 cases pk with
 |rd b =>
  simp only[bg]at u;cases I:decide (sh=bi b.isAgg) with
  |false=>simp[I]at u
  |true =>
   rw[I]at u;simp only[cond_true,BE]at u;have O:=of_decide_eq_true I;subst O;obtain⟨⟨p,y⟩,hy,rfl⟩:=u;exact⟨⟨[],⟨rfl,cs,gx hs,eH h hl hy⟩,rfl⟩,λz hz=>eq hl hz,by simp[Got.ofRd],by simp[Got.ofRd]⟩
 |own b =>
  obtain⟨X,J,M,h4,h5⟩:=Y u;exact⟨⟨_,X,by rw[J];rfl⟩,h4,h5,by rw[J];simp⟩
 |io b =>
  obtain⟨X,J,M,h4,h5⟩:=Y u;exact⟨⟨_,X,by rw[J];rfl⟩,h4,h5,by rw[J];simp⟩
 |iop b =>
  simp only[bg]at u;split at u
  ·rename_i q hx;cases I:decide ((st q).sh=.agg) with
   |false=>simp[I]at u
   |true =>
    simp only[I,cond_true,BE]at u;obtain⟨t,ht,rfl⟩:=u;obtain⟨H,hv⟩:=gP hs hl hx (by simp);obtain⟨hB,a3,b2⟩:=H;rcases h.boxes q hB with ⟨h8,_⟩|⟨_,E,h8⟩
    ·rw[a3]at h8;cases h8
    ·obtain⟨X,J,M⟩:=dR (pos:=0) h (iy h q) ht;exact⟨⟨_,⟨W.β q,W.cs q,E,_,b2,h8,X,rfl⟩,rfl⟩,J,M,λb' O=>by simp at O;subst O;exact⟨hB,a3⟩⟩
  ·cases u
 |rref b =>
  simp only[bg]at u;have hd:cl (sh,ls)≠.dead:=by
   intro e;rw[e]at u;simp[fu,target]at u
  obtain⟨H,hv⟩:=gP hs hl rfl hd;obtain⟨X,J,M,h4⟩:=ni (c:=(false,b)) h H u;exact⟨⟨[],⟨rfl,X⟩,by rw[M,h4];rfl⟩,J,by rw[M];simp,by rw[h4];simp⟩
 |rref2 b =>
  simp only[bg]at u;have hd:cl (sh,ls)≠.dead:=by
   intro e;rw[e]at u;simp[fu,target]at u
  obtain⟨H,hv⟩:=gP hs hl rfl hd;obtain⟨X,J,M,h4⟩:=ni (c:=(true,b)) h H u;exact⟨⟨[],⟨rfl,X⟩,by rw[M,h4];rfl⟩,J,by rw[M];simp,by rw[h4];simp⟩
 |fn As B =>
  simp only[bg]at u;split at u
  ·rename_i As' B' φ hx;obtain⟨H,hv⟩:=gP hs hl hx (by simp);split at u
   ·rename_i hh;obtain⟨rfl,rfl⟩:=hh;simp only[BD]at u;subst u;have hf:ib P V.w0 V.prot As' B' φ v:=H;exact⟨⟨[],⟨rfl,ib.move h.size (λk hk=>⟨.inr (.inl hk),h.keep k hk⟩) hf⟩,rfl⟩,by simp,by simp,by simp⟩
   ·cases u
  ·cases u
 |clo f b9 =>
  simp only[bg]at u;split at u
  ·rename_i f' a1 hx;cases I:BU f' f with
   |false=>simp[I]at u
   |true =>
    simp only[I,cond_true]at u;have I:=BL I;subst I;obtain⟨H,hv⟩:=gP hs hl hx (by simp);obtain⟨X,J⟩:=H;obtain⟨M,h4,h5,h6⟩:=mr h (p9 a1 J) u;exact⟨⟨[],⟨rfl,_,X,M⟩,by rw[h5,h6];rfl⟩,h4,by rw[h5];simp,by rw[h6];simp⟩
  ·rename_i f' a1 hx;cases I:BU f' f with
   |false=>simp[I]at u
   |true =>
    simp only[I,cond_true]at u;have I:=BL I;subst I;obtain⟨H,hv⟩:=gP hs hl hx (by simp);obtain⟨us,X,J,h7⟩:=H;obtain⟨M,h4,h5,h6⟩:=mr h (qI J h7) u;exact⟨⟨[],⟨rfl,us,X,M⟩,by rw[h5,h6];rfl⟩,h4,by rw[h5];simp,by rw[h6];simp⟩
  ·cases u
 |hol b c off =>
  simp only[bg]at u;cases I:decide (sh=bi b.isAgg) with
  |false=>simp[I]at u
  |true =>
   rw[I]at u;simp only[cond_true]at u;have O:=of_decide_eq_true I;subst O;split at u
   ·rename_i r' j n Z;split at u
    ·rename_i p i o' E e xs hd;cases a0:BU o' off with
     |false=>simp[a0]at u
     |true =>
      rw[a0]at u;simp only[cond_true]at u;have a0:=BL a0;subst a0;split at u
      ·rename_i t ht;split at u
       ·rename_i y hy;simp only[BD]at u;subst u;have a2:ls[c]?=some (.al r' j n):=by
         rw[CI]at Z;cases hq:ls[c]? with
         |none=>rw[hq]at Z;simp at Z
         |some l0=>rw[hq]at Z;simp at Z;rw[Z]
        have a5:c<cs.length:=by rw[<- hl.length];exact (BG.1 a2).1
        have a4:=BW a5;obtain⟨H,_,a6⟩:=hl.at_ c _ _ a2 a4;obtain⟨_,ad,b3,_⟩:=kr h hd H;obtain⟨X,J,M⟩:=dR (pos:=0) h (hl.setNil c) ht;obtain⟨⟨ba,b4⟩,b1⟩:=nj hy;obtain⟨v0,bn,b0,g1,g2,g3,g4⟩:=X.out b4;have a9:bn=[]:=by
         simp only[Cu,Ca a5,BD]at g2;obtain⟨b5,bb,q1,q2,_⟩:=g1;obtain⟨A,bl,q4,_⟩:=q1.slice;rw[<- g2]at q2 q4;simp only[CC]at q4;rw[q2,<- q4.2.1];rfl
        have g5:=Mx.refill a6 g3 hy;simp only[Cu,List.set_set,List.set_getElem_self]at g5;refine⟨⟨_,⟨cs,cs[c],b0,W.bs r' j,E,e,xs,gx hs,g5.mono (i8 (by intro h;simp[h]) (λ_ h=>h)),a4,b1,
         ad.2.carry (λk hk=>.inl (bU (W':=W) (by intro h;simp[h]) (λ_ h=>h) k hk)) (λ_ _=>rfl) (λ_ _=>rfl),λk=>?_⟩,rfl⟩,J,?_,by simp⟩
        ·have:=g4 k;rw[a9]at this;simp only[DE,Da];rw[show aY W ((r',j)::t.kill)=W.bs r' j++aY W t.kill from rfl,BI,this];simp;omega
        ·intro z hz;rcases CV.1 hz with rfl|hz
         ·exact⟨_,b3,trivial⟩
         ·exact M z hz
       ·cases u
      ·cases u
    ·cases u
   ·cases u
end
section
variable {P:Program} {V:Env} {Γ:List Ctr} {T:TypeId->TI} {st:St} {o:Oper} {R:Type} {κ:Upd->Option R} {r:R}
def gS (P:Program)(V:Env)(W:Wit)(st:St)(w:World):List (aI×List Leaf)->List Value->Prop
 |[],y=>y=[]
 |x::H,y=>∃ v u z,y=v::u/\ek x.1 v z/\aB P V W st w x.2 z/\gS P V W st w H u
theorem kH {W:Wit}{w:World}{ga:(pk:PK)->aI×List Leaf->Option (Got pk.den)}
  (H:∀ (pk:PK) (x:aI×List Leaf) (v:Value) (cs:List Value) (g:Got pk.den),ek x.1 v cs->aB P V W st w x.2 cs->ga pk x=some g->wq P V W st w pk v g) :
  ∀ (ps:List PK) (xs:List (aI×List Leaf)) (X:List Value) (g:Got (ab ps)),gS P V W st w xs X->bd ga ps xs=some g ->
   (∃ I,db P w (bo V W g.p g.frz) (jW V W st g.frz g.see) ps g.val X I/\∀ k,I.flatten.count k=(g.lend.map W.β).count k+(aY W g.kill).count k) /\
    (∀ z∈g.frz,aA st z)/\(∀ z∈g.kill,aA st z)/\(∀ b∈g.lend,live st b)
 |[],[],X,g,u,y=>by
  simp only[bd,BD]at y;subst y;exact⟨⟨[],⟨u,rfl⟩,λk=>by simp[aY]⟩,by simp,by simp,by simp⟩
 |[],_::_,_,_,_,y=>by simp[bd]at y
 |_::_,[],_,_,_,y=>by simp[bd]at y
 |p::ps,x::xs,X,g,u,y=>by
  obtain⟨v,O,cs,rfl,hs,hl,J⟩:=u;simp only[bd]at y;split at y
  ·rename_i g1 Y;split at y
   ·rename_i g2 Z;simp only[BD]at y;subst y;obtain⟨⟨b,h1,h2⟩,h3,h4,h5⟩:=H p x v cs g1 hs hl Y;obtain⟨⟨I,h6,h7⟩,h8,h9,a0⟩:=kH H ps xs O g2 J Z;refine⟨⟨b::I,⟨v,O,b,I,rfl,rfl,h1.mono (i8 (by intro h;simp[h]) (λx u=>BM _ u)) (kW (λx u=>BM _ u) (λx u=>BM _ u)),
     h6.mono (i8 (by intro h;simp[h]) (λx u=>BH _ u)) (kW (λx u=>BH _ u) (λx u=>BH _ u))⟩,λk=>?_⟩,?_,?_,?_⟩
    ·rw[B3,BI,h7 k,h2,BI,DW,BI,dL,BI];omega
    ·intro z M;exact (BO.1 M).elim (h3 z) (h8 z)
    ·intro z M;exact (BO.1 M).elim (h4 z) (h9 z)
    ·intro z M;exact (BO.1 M).elim (h5 z) (a0 z)
   ·cases y
  ·cases y
theorem nl:∀ {Γ:List Ctr} {f:FuncId} {c:Ctr},lT Γ f=some c->c∈Γ/\c.f=f
 |[],_,_,h=>by simp[lT]at h
 |y::Γ,f,c,h=>by
  simp only[lT]at h;cases u:BU y.f f with
  |true =>
   simp only[u,cond_true,BD]at h;subst h;exact⟨BZ ..,BL u⟩
  |false =>
   simp only[u,cond_false]at h;obtain⟨H,z⟩:=nl h;exact⟨BS _ H,z⟩
theorem tE {w:World}{G pr:Nat->Prop}{q:List PK}{z:ab q}{cv:List Value}{H:List (List Nat)}(J:db P w G pr q z cv H):∀ (y:List Ty) (x:Tup y) (u:List Value),se w G y x u ->
  db P w G pr (y.map .rd++q) (nJ q z y x) (u++cv) (y.map (λ_=>[])++H)
 |[],_,_,h=>by rw[show _=_ from h];exact J
 |a::y,x,_,⟨v,c,I,rfl,X,O,M⟩=>⟨v,I++cv,[],_,rfl,rfl,⟨rfl,c,X,O⟩,tE J y x.2 I M⟩
theorem qa {w:World}{ro pr:Nat->Prop}:∀ {ps:List PK} {x:ab ps} {z:List Value} {u:List (List Nat)},ps.all PK.reads=true->db P w ro pr ps x z u->u.flatten=[]
 |[],_,_,_,_,⟨_,e⟩=>by rw[e];rfl
 |p::ps,_,_,_,h,⟨v,I,b,y,_,e,J,H⟩=>by
  simp only[DB,BF]at h;rw[e,B3,qa h.2 H,B6];cases p <;> first|exact J.1|simp[PK.reads]at h
theorem qb {w w1:World}{ro pr ro' I:Nat->Prop}(u:∀ k,ro k->ro' k/\w1.heap[k]?=w.heap[k]?)(y:∀ k,pr k->I k/\w1.heap[k]?=w.heap[k]?):∀ {ps:List PK} {x:ab ps} {Y:List Value} {z:List (List Nat)},
  ps.all PK.reads=true->db P w ro pr ps x Y z->db P w1 ro' I ps x Y z
 |[],_,_,_,_,h=>h
 |p::ps,x,_,_,O,⟨v,X,b,H,e,e2,J,h2⟩=>by
  simp only[DB,BF]at O;refine⟨v,X,b,H,e,e2,?_,qb u y O.2 h2⟩;cases p with
  |rd a =>
   obtain⟨h0,cs,Z,h4⟩:=J;exact⟨h0,cs,Z,h4.carry (λk M=>(u k M).1) (λk M=>(u k M).2)⟩
  |rref a=>exact⟨J.1,J.2.carry u y⟩
  |rref2 a=>exact⟨J.1,J.2.carry u y⟩
  |_=>simp[PK.reads]at O
theorem mt (z:ax V){W:Wit}{p:Bool}{ks:List (Nat×Nat)}{y:List Nat}:∀ k,bo V W p ks k->jW V W st ks y k:=by
 rintro k ((u|⟨_,u⟩)|u)
 ·exact .inl u
 ·exact .inr (.inl (z.ro k u))
 ·exact .inr (.inr (.inr u))
theorem rA {W:Wit}{ks:List (Nat×Nat)}{y:List Nat}(H:∀ z∈ks,aA st z):∀ k,jW V W st ks y k->cd V W st k:=by
 rintro k (u|u|⟨b,_,J,e⟩|⟨x,I,u⟩)
 ·exact .inl u
 ·exact .inr (.inl u)
 ·exact .inr (.inr (.inl ⟨b,J,e⟩))
 ·obtain⟨l,O,M⟩:=H x I;exact .inr (.inr (.inr ⟨x.1,x.2,l,O,M,u⟩))
theorem so {W:Wit}{w:World}:∀ {ls:List Leaf} {us:List Value},aB P V W st w ls us->gS P V W st w (ls.map λl=>(aI.one,[l])) us
 |[],[],_=>rfl
 |_::_,_::_,h=>⟨_,_,[_],rfl,rfl,⟨h.1,trivial⟩,so h.2⟩
theorem x9 (hV:ax V)(hΓ:∀ c∈Γ,bP P c){W:Wit}{a:Act}{w:World}(h:an P V W st a w){Z:List Ty}{B:Ty}{f:FuncId}{ls:List Leaf}{us:List Value}{v:Value}(hv:v=.func (.func f) #[] us.toArray)(bb:aB P V W st w ls us)
  {g:Got (Tup Z->Option B.den)} (H:kL Γ st Z B f ls=some g):ib P w (jW V W st g.frz g.see) Z B g.val v/\(∀ z∈g.frz,aA st z)/\g.kill=[]/\g.lend=[]:=by
 unfold kL at H;split at H
 ·rename_i c hc;obtain⟨b0,rfl⟩:=nl hc;obtain⟨a1,J⟩:=hΓ c b0;obtain⟨f',ps,rs,a3,cc⟩:=c;simp only at H a1 J hv;generalize ps.drop Z.length=q at H;unfold sa at H;split at H
  ·rename_i hh;obtain⟨rfl,rfl⟩:=hh;cases hb:q.all PK.reads&&B.flat&&a3 with
   |false=>simp[hb]at H
   |true =>
    simp only[hb,cond_true]at H;simp only[BF]at hb;obtain⟨⟨b3,b9⟩,bx⟩:=hb;subst bx;split at H
    ·rename_i g0 c1;simp only[BD]at H;subst H;obtain⟨⟨a6,h1,h2⟩,h3,h4,h5⟩:=kH (λpk x v cs g hs hl H=>nk hV h hs hl H) q _ _ g0 (so bb) c1;have b4:=qa b3 h1;refine⟨⟨f',us.toArray,hv,a1,λw1 b5 Y x I y hx hy=>?_⟩,h3,rfl,rfl⟩;simp only[BE]at hy;obtain⟨y0,a9,rfl⟩:=hy;have M:(Z.map (λ_=>([]:List Nat))++a6).flatten=[]:=by
      rw[List.flatten_append,b4,B6];clear hx a9;induction Z with
      |nil=>rfl
      |cons a Z ih=>simp
     have ad:∀ k,jW V W st g0.frz g0.see k->k<w1.heap.size:=λk X=>CN (h.used_lt k (rA h3 k X)) b5
     have a5:=tE (P:=P) (pr:=λk=>k<w1.heap.size/\k∉(Z.map (λ_=>([]:List Nat))++a6).flatten)
      (qb (P:=P) (w1:=w1) (ro':=λk=>k<w1.heap.size) (λk X=>⟨ad k (mt hV k X),Y k (mt hV k X)⟩)
       (λk X=>⟨⟨ad k X,by rw[M];simp⟩,Y k X⟩) b3 h1) Z x I hx
     have a0:=J w1 (λk=>k<w1.heap.size) (nJ q g0.val Z x) (I++us) (Z.map (λ_=>[])++a6) y0 a5
      (λk X=>⟨X,by rw[M];simp⟩) (by rw[M];exact Db) a9
     have a2:I.toArray++us.toArray=(I++us).toArray:=by simp
     rw[a2];refine a0.mono λe w2 a4=>?_
     obtain⟨u,cb,N,cp,cu,rfl,O,b2,c0,bn,ba,bl,_,_,b1,_,_⟩:=a4;obtain⟨u1,c4,b,c3,e1,e2,⟨cs,c2,hm⟩,e3,e4⟩:=b1;subst e3;subst e1;have O:u=u1:=O;subst O;exact⟨u,cs,rfl,c2,kf b9 hm,⟨c0,bn,ba,b2,λk X=>bl k X (by rw[M];simp)⟩⟩
    ·cases H
  ·cases H
 ·cases H
theorem uF (O:ax V)(hΓ:∀ c∈Γ,bP P c){W:Wit}{a:Act}{w:World}(h:an P V W st a w)(pk:PK)(x:aI×List Leaf)(v:Value)(cs:List Value)(g:Got pk.den)(Z:ek x.1 v cs)(Y:aB P V W st w x.2 cs)
  (H:ca Γ st pk x=some g):wq P V W st w pk v g:=by
 cases pk with
 |fn As B =>
  simp only[ca]at H;split at H
  ·rename_i X y;have M:(∃ u,cl x=.clo X.1 u/\X.2=u.map λb=>Leaf.bp b 0)\/∃ u,cl x=.clr X.1 u/\X.2=u.map eU:=by
    generalize cl x=l at y;cases l <;> simp only[vA,BD,reduceCtorEq]at y
    ·subst y;exact .inl ⟨_,rfl,rfl⟩
    ·subst y;exact .inr ⟨_,rfl,rfl⟩
   rcases M with ⟨u,M,he⟩|⟨u,M,he⟩
   ·obtain⟨z,_⟩:=gP Z Y M (by simp);rw[he]at H;obtain⟨h1,h2,I,J⟩:=x9 O hΓ h z.1 (p9 u z.2) H;exact⟨⟨[],⟨rfl,h1⟩,by rw[I,J];rfl⟩,h2,by rw[I];simp,by rw[J];simp⟩
   ·obtain⟨z,_⟩:=gP Z Y M (by simp);rw[he]at H;obtain⟨us,e1,e2,e3⟩:=z;obtain⟨h1,h2,I,J⟩:=x9 O hΓ h e1 (qI e2 e3) H;exact⟨⟨[],⟨rfl,h1⟩,by rw[I,J];rfl⟩,h2,by rw[I];simp,by rw[J];simp⟩
  ·exact nk O h Z Y H
 |_=>exact nk O h Z Y H
end
section
variable {P:Program} {V:Env} {W:Wit} {st st':St} {w w':World} {a:Act}
theorem iJ {G:Nat->Prop}{p:Bool}(hG:∀ k,G k->gd V W p k):∀ {b:Ty} {pos:Nat} {x:b.den} {cs:List Value} {bs:List Nat},Mx w G b none pos x cs bs->bs.Nodup ->
  ∃ Z:Nat->List Nat,(ap p b x).length=cs.length /\
   (∀ (j:Nat) (l:Leaf) (u:Value),(ap p b x)[j]?=some l->cs[j]?=some u->aK P V W st w (Z j) l u) /\
   (∀ (j:Nat) (l:Leaf),(ap p b x)[j]?=some l->am l->∀ k∈Z j,k∈bs) /\
   (∀ (j M:Nat) (l l':Leaf),(ap p b x)[j]?=some l->am l->(ap p b x)[M]?=some l'->am l'->∀ k,k∈Z j->k∈Z M->j=M)
 |.int k,_,x,cs,bs,H,_=>by
  obtain⟨rfl,rfl⟩:=H;exact⟨λ_=>[],rfl,λj l u y R=>by cases j with|zero=>simp[ap]at y R;subst y;subst R;rfl|succ j=>simp[ap]at y,λj l y _ k r=>by simp at r,λj M l l' _ _ _ _ k r=>by simp at r⟩
 |.bool,_,x,cs,bs,H,_=>by
  obtain⟨rfl,rfl⟩:=H;exact⟨λ_=>[],rfl,λj l u y R=>by cases j with|zero=>simp[ap]at y R;subst y;subst R;rfl|succ j=>simp[ap]at y,λj l y _ k r=>by simp at r,λj M l l' _ _ _ _ k r=>by simp at r⟩
 |.str,_,x,cs,bs,H,_=>by
  obtain⟨rfl,rfl⟩:=H;exact⟨λ_=>[],rfl,λj l u y R=>by cases j with|zero=>simp[ap]at y R;subst y;subst R;rfl|succ j=>simp[ap]at y,λj l y _ k r=>by simp at r,λj M l l' _ _ _ _ k r=>by simp at r⟩
 |.unit,_,x,cs,bs,H,_=>by
  obtain⟨rfl,rfl⟩:=H;exact⟨λ_=>[],rfl,λj l u y R=>by simp[ap]at y,λj l y _ k r=>by simp at r,λj M l l' _ _ _ _ k r=>by simp at r⟩
 |.hdr,_,x,cs,bs,H,_=>by
  obtain⟨⟨A,a2,rfl⟩,rfl⟩:=H;exact⟨λ_=>[],rfl,λj l u y R=>by cases j with|zero=>simp[ap]at y R;subst y;subst R;exact⟨A,a2,rfl⟩|succ j=>simp[ap]at y,λj l y _ k r=>by simp at r,λj M l l' _ _ _ _ k r=>by simp at r⟩
 |.pair b c,pos,x,cs,bs,⟨c1,c2,b1,b2,e1,e2,y,R⟩,Y=>by
  subst e1;subst e2;rw[CK]at Y;obtain⟨d1,f1,f2,f3,f4⟩:=iJ hG y Y.1;obtain⟨d2,g1,g2,g3,g4⟩:=iJ hG R Y.2.1;have a4:=cG p b x.1;have a5:=y.len;have z:∀ (j:Nat) (l:Leaf),(ap p b x.1++ap p c x.2)[j]?=some l->(j<b.cells/\(ap p b x.1)[j]?=some l)\/(b.cells<=j/\(ap p c x.2)[j-b.cells]?=some l):=by
   intro j l I;by_cases J:j<b.cells
   ·rw[BK (by omega)]at I;exact .inl ⟨J,I⟩
   ·rw[BJ (by omega),a4]at I;exact .inr ⟨by omega,I⟩
  refine⟨λj=>if j<b.cells then d1 j else d2 (j-b.cells),by simp only[ap,BV];omega,λj l u I hu=>?_,λj l I ho k r=>?_,λj M l l' I ho X a0 k r O=>?_⟩
  ·rcases z j l I with ⟨J,I⟩|⟨a3,I⟩
   ·rw[BK (by omega)]at hu;simp only[if_pos J];exact f2 j l u I hu
   ·rw[BJ (by omega),a5]at hu;simp only[if_neg (show ¬ j<b.cells by omega)];exact g2 _ l u I hu
  ·rcases z j l I with ⟨J,I⟩|⟨a3,I⟩
   ·simp only[if_pos J]at r;exact BM _ (f3 j l I ho k r)
   ·simp only[if_neg (show ¬ j<b.cells by omega)]at r;exact BH _ (g3 _ l I ho k r)
  ·rcases z j l I with ⟨J,I⟩|⟨a3,I⟩ <;> rcases z M l' X with ⟨a1,X⟩|⟨a6,X⟩
   ·simp only[if_pos J]at r;simp only[if_pos a1]at O;exact f4 j M l l' I ho X a0 k r O
   ·simp only[if_pos J]at r;simp only[if_neg (show ¬ M<b.cells by omega)]at O;exact absurd rfl (Y.2.2 k (f3 j l I ho k r) k (g3 _ l' X a0 k O))
   ·simp only[if_neg (show ¬ j<b.cells by omega)]at r;simp only[if_pos a1]at O;exact absurd rfl (Y.2.2 k (f3 M l' X a0 k O) k (g3 _ l I ho k r))
   ·simp only[if_neg (show ¬ j<b.cells by omega)]at r;simp only[if_neg (show ¬ M<b.cells by omega)]at O;have:=g4 _ _ l l' I ho X a0 k r O;omega
 |.list m E e,pos,xs,cs,bs,H,Y=>by
  cases m with
  |false =>
   rw[cn]at H;obtain⟨rfl,A,a2,rfl,R,h3⟩:=H;refine⟨λ_=>[],rfl,λj l u y h4=>?_,λj l y _ k r=>by simp at r,λj M l l' _ _ _ _ k r=>by simp at r⟩;cases j with
   |zero =>
    simp[ap]at y h4;subst y;subst h4;exact Rd.mono hG (⟨A,a2,rfl,R,h3⟩:Rd w G (.list false E e) xs _)
   |succ j=>simp[ap]at y
  |true =>
   rw[bJ (by simp)]at H;obtain⟨v,rfl,hO⟩:=H;refine⟨λ_=>bs,rfl,λj l u y h4=>?_,λj l y _ k r=>r,λj M l l' y _ h3 _ k _ _=>?_⟩
   ·cases j with
    |zero =>
     simp[ap]at y h4;subst y;subst h4;exact⟨Y,OwB.shy (hO.carry hG (λ_ _=>rfl) (λ_ _=>rfl))⟩
    |succ j=>simp[ap]at y
   ·have h7:j<1:=by simpa[ap]using (BG.1 y).1
    have h8:M<1:=by simpa[ap]using (BG.1 h3).1
    omega
theorem an.reown (hV:ax V)(h:an P V W st a w)(r:Nat)(c:bR)(M:Nat->List Nat)(a3:(st r).ver<c.ver)(a1:c.sh=(st r).sh)(Y:c.ls.length=(st r).ls.length)
  (a2:∀ (j:Nat) (l:Leaf) (v:Value),c.ls[j]?=some l->(W.cs r)[j]?=some v->aK P V W st w (M j) l v)
  (X:∀ (j:Nat) (l:Leaf),c.ls[j]?=some l->am l->∀ k∈M j,¬ W.nw k/\¬ V.prot k/\(∀ b,live st b->W.β b≠k) /\
   ∀ (r1 j1:Nat) (l1:Leaf),r1≠r->(st r1).ls[j1]?=some l1->am l1->k∉W.bs r1 j1)
  (a4:∀ (j j':Nat) (l l':Leaf),c.ls[j]?=some l->am l->c.ls[j']?=some l'->am l'->∀ k,k∈M j->k∈M j'->j=j') :
  an P V { W with bs:=λr' j=>if r'=r then M j else W.bs r' j } (ac [(r,c)] st) a w:=by
 have I:∀ b,live (ac [(r,c)] st) b<->live st b:=by
  intro b;rcases aj r b c st with ⟨rfl,e⟩|⟨_,e⟩
  ·simp[live,e,a1]
  ·simp[live,e]
 have Z:cA V W { W with bs:=λr' j=>if r'=r then M j else W.bs r' j } st (ac [(r,c)] st) w w:=by
  refine⟨λq=>?_,λb R=>⟨(I b).2 R,rfl⟩,λ_ h=>h,λ_ _=>rfl,λ_ q j' l' J h4 h5=>?_⟩
  ·rcases aj r q c st with ⟨rfl,e⟩|⟨y,e⟩
   ·rw[e];exact⟨Nat.le_of_lt a3,λ_=>rfl⟩
   ·rw[e];exact⟨BX _,λ_=>rfl⟩
  ·rcases aj r q c st with ⟨rfl,e⟩|⟨y,e⟩
   ·rw[e]at h5;omega
   ·rw[e]at J;exact⟨⟨l',J,h4⟩,by simp[y],λ_ _=>rfl⟩
 exact {
  nt:=h.nt,df:=h.df
  slots:=λt ht=>by
   rcases aj r t c st with ⟨rfl,e⟩|⟨_,e⟩
   ·rw[e,a1];exact h.slots t ht
   ·rw[e];exact h.slots t ht
  boxes:=λb R=>by
   rcases aj r b c st with ⟨rfl,e⟩|⟨_,e⟩
   ·rw[e,a1];rcases h.boxes b R with ⟨h1,z⟩|h1
    ·refine .inl ⟨h1,?_⟩;rw[z]at Y;exact BY Y
    ·exact .inr h1
   ·rw[e];exact h.boxes b R
  len:=λq=>by
   rcases aj r q c st with ⟨rfl,e⟩|⟨_,e⟩
   ·rw[e,Y];exact h.len q
   ·rw[e];exact h.len q
  one:=h.one
  leaf:=λq j l u z J=>by
   rcases aj r q c st with ⟨rfl,e⟩|⟨y,e⟩
   ·rw[e]at z;exact (a2 j l u z J).carry hV.ro Z (λ_=>⟨by simp,λ_ _=>rfl⟩)
   ·rw[e]at z;exact (h.leaf q j l u z J).carry hV.ro Z (λ_=>⟨by simp[y],λ_ _=>rfl⟩)
  ownb:=λq j l z J k O=>by
   rcases aj r q c st with ⟨rfl,e⟩|⟨y,e⟩
   ·rw[e]at z;simp only[if_true]at O;have:=X j l z J k O;exact⟨this.1,this.2.1,λb R=>this.2.2.1 b ((I b).1 R)⟩
   ·rw[e]at z;simp only[y,if_false]at O;have:=h.ownb q j l z J k O;exact⟨this.1,this.2.1,λb R=>this.2.2 b ((I b).1 R)⟩
  sep:=λq j l q' j' l' z J h4 h5 k O H=>by
   rcases aj r q c st with ⟨e0,e⟩|⟨y,e⟩ <;> rcases aj r q' c st with ⟨e1,e'⟩|⟨a0,e'⟩
   ·rw[e]at z;rw[e']at h4;simp only[e0,if_true]at O;simp only[e1,if_true]at H;exact⟨e0.trans e1.symm,a4 j j' l l' z J h4 h5 k O H⟩
   ·rw[e]at z;rw[e']at h4;simp only[e0,if_true]at O;simp only[a0,if_false]at H;exact absurd H ((X j l z J k O).2.2.2 q' j' l' a0 h4 h5)
   ·rw[e]at z;rw[e']at h4;simp only[y,if_false]at O;simp only[e1,if_true]at H;exact absurd O ((X j' l' h4 h5 k H).2.2.2 q j l y z J)
   ·rw[e]at z;rw[e']at h4;simp only[y,if_false]at O;simp only[a0,if_false]at H;exact h.sep q j l q' j' l' z J h4 h5 k O H
  box:=λb R=>h.box b ((I b).1 R)
  inj:=λb b' R a5=>h.inj b b' ((I b).1 R) ((I b').1 a5)
  nwlt:=h.nwlt
  os:=h.os,tape:=h.tape,output:=h.output,size:=h.size,keep:=h.keep
  fixb:=λx hx=>⟨(I _).2 (h.fixb x hx).1,(h.fixb x hx).2⟩
  fixt:=h.fixt }
theorem an.reownE (hV:ax V)(h:an P V W st a w)(r:Nat)(c:bR)(J:Nat->List Nat)(a9:r≠EPO)(a2:(st r).ver<=c.ver)(a6:c.sh=(st r).sh)(a1:c.ls.length=(st r).ls.length)
  (a0:∀ (j:Nat) (l:Leaf) (v:Value),c.ls[j]?=some l->(W.cs r)[j]?=some v->aK P V W st w (J j) l v)
  (R:∀ (j:Nat) (l:Leaf),c.ls[j]?=some l->am l->∀ k∈J j,¬ W.nw k/\¬ V.prot k/\(∀ b,live st b->W.β b≠k) /\
   ∀ (r1 j1:Nat) (l1:Leaf),r1≠r->(st r1).ls[j1]?=some l1->am l1->k∉W.bs r1 j1)
  (a3:∀ (j j':Nat) (l l':Leaf),c.ls[j]?=some l->am l->c.ls[j']?=some l'->am l'->∀ k,k∈J j->k∈J j'->j=j') :
  an P V { W with bs:=λr' j=>if r'=r then J j else W.bs r' j } (ac [(r,c),(EPO,bV (st EPO))] st) a w /\
   (∀ q,(ac [(r,c),(EPO,bV (st EPO))] st q).sh=(st q).sh/\(st q).ver<=(ac [(r,c),(EPO,bV (st EPO))] st q).ver/\(q≠r->(ac [(r,c),(EPO,bV (st EPO))] st q).ls=(st q).ls))/\ac [(r,c),(EPO,bV (st EPO))] st r=c:=by
 have e0:ac [(r,c),(EPO,bV (st EPO))] st=ac [(r,c)] (ac [(EPO,bV (st EPO))] st):=aP _ _ _ _;generalize hS:ac [(r,c),(EPO,bV (st EPO))] st=S;rw[e0]at hS;have hr:S r=c:=by rw[<- hS,bk]
 have O:∀ q,(S q).sh=(st q).sh/\(st q).ver<=(S q).ver/\(q≠r->(S q).ls=(st q).ls):=by
  intro q;rw[<- hS];rcases aj r q c (ac [(EPO,bV (st EPO))] st) with ⟨rfl,e⟩|⟨ad,e⟩
  ·rw[e];exact⟨a6,a2,λh=>absurd rfl h⟩
  ·rw[e];rcases aj EPO q (bV (st EPO)) st with ⟨rfl,e⟩|⟨_,e⟩ <;> rw[e]
   ·exact⟨rfl,DS _,λ_=>rfl⟩
   ·exact⟨rfl,BX _,λ_=>rfl⟩
 have hE:(st EPO).ver<(S EPO).ver:=by
  rw[<- hS,aJ (CT a9),bk];exact BP _
 refine⟨?_,O,hr⟩;have I:∀ b,live S b<->live st b:=λb=>by simp[live,(O b).1]
 have X:cA V W { W with bs:=λr' j=>if r'=r then J j else W.bs r' j } st S w w :=
  ⟨λq=>⟨(O q).2.1,λ_=>rfl⟩,λb Y=>⟨(I b).2 Y,rfl⟩,λ_ h=>h,λ_ _=>rfl,λhe=>by omega⟩
 have a4:∀ q,(S q).ls.length=(st q).ls.length:=λq=>by
  by_cases y:q=r
  ·rw[y,hr,a1]
  ·rw[(O q).2.2 y]
 exact {
  nt:=h.nt,df:=h.df
  slots:=λt ht=>by rw[(O t).1];exact h.slots t ht
  boxes:=λb Y=>by
   rw[(O b).1];rcases h.boxes b Y with ⟨h1,z⟩|h1
   ·refine .inl ⟨h1,BY ?_⟩;rw[a4,z];rfl
   ·exact .inr h1
  len:=λq=>by rw[a4];exact h.len q
  one:=h.one
  leaf:=λq j l u z Z=>by
   by_cases y:q=r
   ·subst y;rw[hr]at z;exact (a0 j l u z Z).carry hV.ro X (λ_=>⟨by simp,λ_ _=>rfl⟩)
   ·rw[(O q).2.2 y]at z;exact (h.leaf q j l u z Z).carry hV.ro X (λ_=>⟨by simp[y],λ_ _=>rfl⟩)
  ownb:=λq j l z Z k M=>by
   by_cases y:q=r
   ·subst y;rw[hr]at z;simp only[if_true]at M;have:=R j l z Z k M;exact⟨this.1,this.2.1,λb Y=>this.2.2.1 b ((I b).1 Y)⟩
   ·rw[(O q).2.2 y]at z;simp only[y,if_false]at M;have:=h.ownb q j l z Z k M;exact⟨this.1,this.2.1,λb Y=>this.2.2 b ((I b).1 Y)⟩
  sep:=λq j l q' j' l' z Z h4 h5 k M H=>by
   by_cases e0:q=r <;> by_cases e1:q'=r
   ·subst e0;subst e1;rw[hr]at z h4;simp only[if_true]at M H;exact⟨rfl,a3 j j' l l' z Z h4 h5 k M H⟩
   ·subst e0;rw[hr]at z;rw[(O q').2.2 e1]at h4;simp only[if_true]at M;simp only[e1,if_false]at H;exact absurd H ((R j l z Z k M).2.2.2 q' j' l' e1 h4 h5)
   ·subst e1;rw[(O q).2.2 e0]at z;rw[hr]at h4;simp only[e0,if_false]at M;simp only[if_true]at H;exact absurd M ((R j' l' h4 h5 k H).2.2.2 q j l e0 z Z)
   ·rw[(O q).2.2 e0]at z;rw[(O q').2.2 e1]at h4;simp only[e0,if_false]at M;simp only[e1,if_false]at H;exact h.sep q j l q' j' l' z Z h4 h5 k M H
  box:=λb Y=>h.box b ((I b).1 Y)
  inj:=λb b' Y a5=>h.inj b b' ((I b).1 Y) ((I b').1 a5)
  nwlt:=h.nwlt
  os:=h.os,tape:=h.tape,output:=h.output,size:=h.size,keep:=h.keep
  fixb:=λx hx=>⟨(I _).2 (h.fixb x hx).1,(h.fixb x hx).2⟩
  fixt:=h.fixt }
theorem an.nwGrow (O:ax V)(h:an P V W st a w)(N:Nat->Prop)(M:∀ k,N k->k<w.heap.size/\¬ cd V W st k):an P V { W with nw:=λk=>W.nw k\/N k } st a w:=by
 have H:cA V W { W with nw:=λk=>W.nw k\/N k } st st w w:=⟨λr=>⟨BX _,λ_=>rfl⟩,λb J=>⟨J,rfl⟩,λ_ h=>.inl h,λ_ _=>rfl,λ_ _ _ l I z _=>⟨⟨l,I,z⟩,rfl,λ_ _=>rfl⟩⟩
 exact {
  nt:=h.nt,df:=h.df,slots:=h.slots,boxes:=h.boxes,len:=h.len,one:=h.one
  leaf:=λr j l v I z=>(h.leaf r j l v I z).carry O.ro H (λ_=>⟨rfl,λ_ _=>rfl⟩)
  ownb:=λr j l I z k u=>⟨λy=>y.elim (h.ownb r j l I z k u).1 (λy=>(M k y).2 (.inr (.inr (.inr ⟨r,j,l,I,z,u⟩)))),(h.ownb r j l I z k u).2⟩
  sep:=h.sep
  box:=λb J=>⟨λy=>y.elim (h.box b J).1 (λy=>(M _ y).2 (.inr (.inr (.inl ⟨b,J,rfl⟩)))),(h.box b J).2⟩
  inj:=h.inj
  nwlt:=λk u=>u.elim (h.nwlt k) (λu=>⟨(M k u).1,λR=>(M k u).2 (.inr (.inl R))⟩)
  os:=h.os,tape:=h.tape,output:=h.output,size:=h.size,keep:=h.keep,fixb:=h.fixb,fixt:=h.fixt }
end
def eS:List Leaf->List Leaf->List (Nat×Nat)
 |.al r j _::u,l::y=>(match l with|.own _ _ _ _ _=>[(r,j)]|_=>[])++eS u y
 |_::u,_::y=>eS u y
 |_,_=>[]
section
variable {P:Program} {V:Env} {st st':St} {w w':World} {a:Act}
theorem nm {x l:Leaf}{xs ls:List Leaf}(h:¬ am l):eS (x::xs) (l::ls)=eS xs ls:=by
 cases x <;> try rfl
 cases l <;> first|exact absurd trivial h|rfl
theorem vh {k:IntKind}{ls:List Leaf}{x:Bool×(Ty.int k).den×List Leaf}(h:bc st (.int k) ls=some x):∃ l,ls=l::x.2.2:=by
 simp only[bc]at h;split at h
 ·split at h
  ·simp only[BD]at h;subst h;exact⟨_,rfl⟩
  ·cases h
 ·cases h
theorem tF {ls:List Leaf}{x:Bool×Ty.bool.den×List Leaf}(h:bc st .bool ls=some x):∃ l,ls=l::x.2.2:=by
 simp only[bc]at h;split at h
 ·simp only[BD]at h;subst h;exact⟨_,rfl⟩
 ·cases h
theorem vi {ls:List Leaf}{x:Bool×Ty.str.den×List Leaf}(h:bc st .str ls=some x):∃ l,ls=l::x.2.2:=by
 simp only[bc]at h;split at h
 ·simp only[BD]at h;subst h;exact⟨_,rfl⟩
 ·cases h
theorem vj {ls:List Leaf}{x:Bool×Ty.hdr.den×List Leaf}(h:bc st .hdr ls=some x):∃ l,ls=l::x.2.2:=by
 simp only[bc]at h;split at h
 ·split at h
  ·simp only[BD]at h;subst h;exact⟨_,rfl⟩
  ·cases h
 ·cases h
theorem lk {p:Bool}:∀ (b:Ty) (ls:List Leaf) (t:cI b.den),take st b ls=some t->∀ (y:b.den) (r:List Leaf),eS ls (ap p b y++r)=t.kill++eS t.rest r
 |.pair b c,ls,t,h,y,r=>by
  simp only[take]at h;split at h
  ·rename_i u z;split at h
   ·rename_i v J;simp only[BD]at h;subst h;simp only[ap];rw[BT,lk b ls u z y.1,lk c u.rest v J y.2,BT]
   ·cases h
  ·cases h
 |.unit,ls,t,h,y,r=>by
  simp only[take,BD]at h;subst h;rfl
 |.list m E e,ls,t,h,y,r=>by
  cases ls with
  |nil=>simp[take]at h
  |cons l ls =>
   cases m with
   |false =>
    simp only[take,cond_false]at h;split at h
    ·simp only[BD]at h;subst h;exact nm id
    ·cases h
   |true =>
    simp only[take,cond_true]at h;split at h
    ·split at h
     ·simp only[BE]at h;obtain⟨O,_,rfl⟩:=h;rfl
     ·cases h
    ·simp only[BD]at h;subst h;rfl
    ·cases h
 |.int k,ls,t,h,y,r=>scal (b:=.int k) h vh (l':=.int k y) id
 |.bool,ls,t,h,y,r=>scal (b:=.bool) h tF (l':=.bool y) id
 |.str,ls,t,h,y,r=>scal (b:=.str) h vi (l':=.str y) id
 |.hdr,ls,t,h,y,r=>scal (b:=.hdr) h vj (l':=.hdr y) id
where
 scal {b:Ty} {ls:List Leaf} {t:cI b.den} {l':Leaf} {r:List Leaf} (h:(bc st b ls).map (λx=>(⟨false,x.2.1,[],[],x.2.2⟩:cI b.den))=some t)
   (H:∀ {ls:List Leaf} {x:Bool×b.den×List Leaf},bc st b ls=some x->∃ l,ls=l::x.2.2) (I:¬ am l'):eS ls ([l']++r)=t.kill++eS t.rest r:=by
  simp only[BE]at h;obtain⟨x,M,rfl⟩:=h;obtain⟨l,rfl⟩:=H M;exact nm I
theorem zn {W W':Wit}{bs:List Nat}{l:Leaf}{v:Value}(u:am l)(y:W'.nw=W.nw)(h:aK P V W st w bs l v):aK P V W' st' w bs l v:=by
 cases l <;> simp only[am]at u;exact OwH.carry h (λk r=>by
  rcases r with r|r
  ·exact .inl (by rw[y];exact r)
  ·exact .inr r) (λ_ _=>rfl) (λ_ _=>rfl)
theorem wt {S:St}{x l:Leaf}{xs ls:List Leaf}(h:¬ am l):ac (b7 S (x::xs) (l::ls)) S=ac (b7 S xs ls) S:=by
 cases x <;> try rfl
 cases l <;> first|exact absurd trivial h|rfl
theorem jX {x:Nat×Nat}{l:List (Nat×Nat)}(h:a7 (x::l)=true):x∉l/\a7 l=true:=by
 simp only[a7,BF,B4,CB]at h;exact⟨λr=>by have:=h.1 x r;simp at this,h.2⟩
theorem zP (hV:ax V){W:Wit}{S:St}(h:an P V W S a w):∀ (xl ls:List Leaf) (cs:List Value) (R:Nat->List Nat),a7 (eS xl ls)=true->(∀ x∈eS xl ls,x.1≠EPO)->xl.length=cs.length->ls.length=cs.length ->
  (∀ (i r j n:Nat) (l:Leaf) (u:Value),xl[i]?=some (.al r j n)->ls[i]?=some l->am l->cs[i]?=some u->(W.cs r)[j]?=some u) ->
  (∀ x∈eS xl ls,∀ l,(S x.1).ls[x.2]?=some l->¬ am l) ->
  (∀ (i:Nat) (l:Leaf) (u:Value),ls[i]?=some l->cs[i]?=some u->aK P V W S w (R i) l u) ->
  (∀ (i:Nat) (l:Leaf),ls[i]?=some l->am l->∀ k∈R i,¬ cd V W S k) ->
  (∀ (i i':Nat) (l l':Leaf),ls[i]?=some l->am l->ls[i']?=some l'->am l'->∀ k,k∈R i->k∈R i'->i=i') ->
  ∃ W',an P V W' (ac (b7 S xl ls) S) a w/\W'.cs=W.cs/\W'.β=W.β/\W'.nw=W.nw/\(∀ q,(ac (b7 S xl ls) S q).sh=(S q).sh/\(S q).ver<=(ac (b7 S xl ls) S q).ver) /\
   (∀ (q i:Nat),(q,i)∉eS xl ls->(ac (b7 S xl ls) S q).ls[i]?=(S q).ls[i]?/\W'.bs q i=W.bs q i) /\
   (∀ k,cd V W' (ac (b7 S xl ls) S) k->cd V W S k\/∃ i l,ls[i]?=some l/\am l/\k∈R i)
 |[],ls,cs,R,_,_,hx,hl,_,_,_,_,_=>⟨W,h,rfl,rfl,rfl,λ_=>⟨rfl,BX _⟩,λ_ _ _=>⟨rfl,rfl⟩,λk O=>.inl O⟩
 |x::X,[],cs,R,_,_,hx,hl,_,_,_,_,_=>by simp at hx hl;omega
 |x::X,l::ls,[],R,_,_,hx,hl,_,_,_,_,_=>by simp at hx
 |x::X,l::ls,u::cs,R,hd,b9,hx,hl,b5,bb,a3,a4,ad=>by
  have b1:a7 (eS X ls)=true:=by
   cases x with
   |al r j n =>
    cases l with
    |own p hh E e ys=>exact (jX hd).2
    |_=>exact hd
   |_=>exact hd
  have b0:∀ z∈eS X ls,z∈eS (x::X) (l::ls):=by
   intro z hz;cases x with
   |al r j n=>exact BH _ hz
   |_=>exact hz
  obtain⟨W1,h1,e1,e2,e3,e4,e5,e6⟩:=zP hV h X ls cs (λi=>R (i+1)) b1 (λz hz=>b9 z (b0 z hz)) (by simpa using hx) (by simpa using hl)
   (λi r j n l' u' J I M g4=>b5 (i+1) r j n l' u' (by simpa using J) (by simpa using I) M (by simpa using g4))
   (λz hz=>bb z (b0 z hz)) (λi l' u' J I=>a3 (i+1) l' u' (by simpa using J) (by simpa using I))
   (λi l' J I=>a4 (i+1) l' (by simpa using J) I)
   (λi i' l1 l2 J I M g4 k g5 g6=>by have:=ad (i+1) (i'+1) l1 l2 (by simpa using J) I (by simpa using M) g4 k g5 g6;omega)
  by_cases hs:¬ am l\/(∀ r j n,x≠.al r j n)
  ·have a6:ac (b7 S (x::X) (l::ls)) S=ac (b7 S X ls) S/\eS (x::X) (l::ls)=eS X ls:=by
    rcases hs with hs|hs
    ·exact⟨wt hs,nm hs⟩
    ·cases x with
     |al r j n=>exact absurd rfl (hs r j n)
     |_=>exact⟨rfl,rfl⟩
   rw[a6.1,a6.2];exact⟨W1,h1,e1,e2,e3,e4,e5,λk O=>(e6 k O).imp id λ⟨i,l',J,I,M⟩=>⟨i+1,l',by simpa using J,I,M⟩⟩
  ·simp only[not_or,Classical.not_not]at hs;obtain⟨bl,bx⟩:=hs;obtain⟨r,j,n,rfl⟩:∃ r j n,x=.al r j n:=by
    cases x with
    |al r j n=>exact⟨r,j,n,rfl⟩
    |_=>exact absurd (λ_ _ _ h=>by cases h) bx
   obtain⟨p,hh,E,e,ys,rfl⟩:∃ p hh E e ys,l=.own p hh E e ys:=by
    cases l <;> simp only[am]at bl;exact⟨_,_,_,_,_,rfl⟩
   have b2:eS (.al r j n::X) (.own p hh E e ys::ls)=(r,j)::eS X ls:=rfl;rw[b2]at hd bb;obtain⟨c1,c0⟩:=jX hd;have hv:=b5 0 r j n _ u rfl rfl trivial rfl;have a6:ac (b7 S (.al r j n::X) (.own p hh E e ys::ls)) S=ac [(r,⟨(ac (b7 S X ls) S r).ver,(ac (b7 S X ls) S r).sh,aU (ac (b7 S X ls) S r).ls j (.own p hh E e ys)⟩),(EPO,bV (ac (b7 S X ls) S EPO))] (ac (b7 S X ls) S):=bD [_,_] _ _;have a9:aK P V W1 (ac (b7 S X ls) S) w (R 0) (.own p hh E e ys) u:=zn trivial e3 (a3 0 _ u rfl rfl);have Y:∀ k∈R 0,¬ cd V W1 (ac (b7 S X ls) S) k:=λk O hu=>by
    rcases e6 k hu with hu|⟨i,l',J,I,M⟩
    ·exact a4 0 _ rfl trivial k O hu
    ·have:=ad 0 (i+1) _ l' rfl trivial (by simpa using J) I k O M;omega
   have H:∀ (i:Nat) (l':Leaf),i≠j->(aU (ac (b7 S X ls) S r).ls j (.own p hh E e ys))[i]?=some l'->(ac (b7 S X ls) S r).ls[i]?=some l':=by
    intro i l' a2 a0;rcases aS _ _ _ _ _ a0 with ⟨rfl,_,_⟩|⟨_,a0⟩
    ·exact absurd rfl a2
    ·exact a0
   have b4:∀ (l':Leaf),(aU (ac (b7 S X ls) S r).ls j (.own p hh E e ys))[j]?=some l'->l'=.own p hh E e ys:=by
    intro l' a0;rcases aS _ _ _ _ _ a0 with ⟨_,rfl,_⟩|⟨a2,_⟩
    ·rfl
    ·exact absurd rfl a2
   have bn:r≠EPO:=b9 (r,j) (by rw[b2];exact BZ ..);obtain⟨h2,a5,ba⟩:=h1.reownE hV r ⟨(ac (b7 S X ls) S r).ver,(ac (b7 S X ls) S r).sh,aU (ac (b7 S X ls) S r).ls j (.own p hh E e ys)⟩ (λi=>if i=j then R 0 else W1.bs r i) bn (BX _) rfl (by simp[aU])
    (λi l' v' J I=>by
     by_cases y:i=j
     ·subst y;obtain rfl:=b4 l' J;rw[e1,hv]at I;simp only[BD]at I;subst I;simp only[if_true];exact a9
     ·simp only[if_neg y];exact h1.leaf r i l' v' (H i l' y J) I)
    (λi l' J I k O=>by
     by_cases y:i=j
     ·subst y;simp only[if_true]at O;have hu:=Y k O;simp only[cd,not_or,not_exists,not_and]at hu;exact⟨hu.1,hu.2.1,hu.2.2.1,λr1 j1 l1 _ M g4 g5=>hu.2.2.2 r1 j1 l1 M g4 g5⟩
     ·simp only[if_neg y]at O;have a0:=H i l' y J;have h9:=h1.ownb r i l' a0 I k O;exact⟨h9.1,h9.2.1,h9.2.2,λr1 j1 l1 a2 M g4 g5=>a2 (h1.sep r i l' r1 j1 l1 a0 I M g4 k O g5).1.symm⟩)
    (λi i' l1 l2 J I M g4 k O a1=>by
     by_cases y:i=j <;> by_cases Z:i'=j
     ·omega
     ·subst y;simp only[if_true]at O;simp only[if_neg Z]at a1;exact absurd (.inr (.inr (.inr ⟨r,i',l2,H i' l2 Z M,g4,a1⟩))) (Y k O)
     ·subst Z;simp only[if_true]at a1;simp only[if_neg y]at O;exact absurd (.inr (.inr (.inr ⟨r,i,l1,H i l1 y J,I,O⟩))) (Y k a1)
     ·simp only[if_neg y]at O;simp only[if_neg Z]at a1;exact (h1.sep r i l1 r i' l2 (H i l1 y J) I (H i' l2 Z M) g4 k O a1).2)
   rw[a6];refine⟨_,h2,e1,e2,e3,λq=>?_,λq i hq=>?_,λk O=>?_⟩
   ·exact⟨(a5 q).1.trans (e4 q).1,CL (e4 q).2 (a5 q).2.1⟩
   ·rw[b2]at hq;simp only[CV,not_or]at hq;by_cases b3:q=r
    ·subst b3;rw[ba];have y:j≠i:=λe0=>hq.1 (by rw[e0])
     simp only[aU];rw[CS y];refine⟨(e5 q i hq.2).1,?_⟩;simp only[if_true,if_neg (CT y)];exact (e5 q i hq.2).2
    ·rw[(a5 q).2.2 b3];refine⟨(e5 q i hq.2).1,?_⟩;show (if q=r then _ else W1.bs q i)=_;rw[if_neg b3];exact (e5 q i hq.2).2
   ·rcases O with O|O|⟨b,hb,O⟩|⟨q,i,l',J,I,M⟩
    ·exact .inl (.inl (by rw[<- e3];exact O))
    ·exact .inl (.inr (.inl O))
    ·refine (e6 k (.inr (.inr (.inl ⟨b,?_,O⟩)))).imp id λ⟨i,l',J,I,M⟩=>⟨i+1,l',by simpa using J,I,M⟩
     exact (iA (λq=>(a5 q).1) b).1 hb
    ·by_cases hq:q=r
     ·subst hq;rw[ba]at J;simp only[if_true]at M;by_cases y:i=j
      ·subst y;simp only[if_true]at M;exact .inr ⟨0,_,rfl,trivial,M⟩
      ·simp only[if_neg y]at M;exact (e6 k (.inr (.inr (.inr ⟨q,i,l',H i l' y J,I,M⟩)))).imp id λ⟨i,l',J,I,M⟩=>⟨i+1,l',by simpa using J,I,M⟩
     ·rw[(a5 q).2.2 hq]at J;simp only[if_neg hq]at M;exact (e6 k (.inr (.inr (.inr ⟨q,i,l',J,I,M⟩)))).imp id λ⟨i,l',J,I,M⟩=>⟨i+1,l',by simpa using J,I,M⟩
end
def PK.isIop:PK->Bool
 |.iop _=>true
 |_=>false
section
variable {P:Program} {V:Env} {Γ:List Ctr} {st st':St} {w w':World} {a:Act}
theorem kX:∀ {a b:List (Nat×Nat)},a7 (a++b)=true->a7 a=true/\a7 b=true/\∀ x∈a,x∉b
 |[],b,h=>⟨rfl,h,by simp⟩
 |x::a,b,h=>by
  obtain⟨z,R⟩:=jX h;obtain⟨H,X,M⟩:=kX R;refine⟨?_,X,λy r u=>?_⟩
  ·simp only[a7,BF,B4,CB];refine⟨λy r I=>z (BM _ ?_),H⟩;obtain⟨J,O⟩:x.1=y.1/\x.2=y.2:=by simpa using I
   rw[show x=y from Di J O];exact r
  ·rcases CV.1 r with rfl|r
   ·exact z (BH _ u)
   ·exact M y r u
theorem kn {p:Bool}:∀ (b:Ty) (ls:List Leaf) (t:cI b.den),take st b ls=some t->∀ (y:b.den) (i r j n:Nat) (l:Leaf),ls[i]?=some (.al r j n)->(ap p b y)[i]?=some l->am l->(st r).ver=n
 |.pair b c,ls,t,h,y,i,r,j,n,l,J,z,I=>by
  simp only[take]at h;split at h
  ·rename_i u M;split at h
   ·rename_i v O;simp only[ap]at z;have X:=cG p b y.1;by_cases hi:i<b.cells
    ·rw[BK (by omega)]at z;exact kn b ls u M y.1 i r j n l J z I
    ·rw[BJ (by omega),X]at z;have Y:=take_rest b ls u M;refine kn c u.rest v O y.2 (i-b.cells) r j n l ?_ z I;rw[Y,CW,show b.cells+(i-b.cells)=i by omega];exact J
   ·cases h
  ·cases h
 |.list m E e,ls,t,h,y,i,r,j,n,l,J,z,I=>by
  cases m with
  |false =>
   cases i with
   |zero=>simp[ap]at z;subst z;exact I.elim
   |succ i=>simp[ap]at z
  |true =>
   cases i with
   |succ i=>simp[ap]at z
   |zero =>
    cases ls with
    |nil=>simp at J
    |cons l' ls =>
     simp only[CX,BD]at J;subst J;simp only[take,cond_true]at h;split at h
     ·rename_i R;exact (fj R (by simp)).1
     ·cases h
 |.int k,ls,t,h,y,i,r,j,n,l,J,z,I=>by
  cases i with
  |zero=>simp[ap]at z;subst z;exact I.elim
  |succ i=>simp[ap]at z
 |.bool,ls,t,h,y,i,r,j,n,l,J,z,I=>by
  cases i with
  |zero=>simp[ap]at z;subst z;exact I.elim
  |succ i=>simp[ap]at z
 |.str,ls,t,h,y,i,r,j,n,l,J,z,I=>by
  cases i with
  |zero=>simp[ap]at z;subst z;exact I.elim
  |succ i=>simp[ap]at z
 |.hdr,ls,t,h,y,i,r,j,n,l,J,z,I=>by
  cases i with
  |zero=>simp[ap]at z;subst z;exact I.elim
  |succ i=>simp[ap]at z
 |.unit,ls,t,h,y,i,r,j,n,l,J,z,I=>by simp[ap]at z
where
 take_rest:∀ (b:Ty) (ls:List Leaf) (t:cI b.den),take st b ls=some t->t.rest=ls.drop b.cells
  |.pair b c,ls,t,h=>by
   simp only[take]at h;split at h
   ·rename_i u M;split at h
    ·rename_i v O;simp only[BD]at h;subst h;show v.rest=_;rw[take_rest c u.rest v O,take_rest b ls u M,List.drop_drop];rfl
    ·cases h
   ·cases h
  |.unit,ls,t,h=>by
   simp only[take,BD]at h;subst h;rfl
  |.list m E e,ls,t,h=>by
   cases ls with
   |nil=>simp[take]at h
   |cons l ls =>
    cases m with
    |false =>
     simp only[take,cond_false]at h;split at h
     ·simp only[BD]at h;subst h;rfl
     ·cases h
    |true =>
     simp only[take,cond_true]at h;split at h
     ·split at h
      ·simp only[BE]at h;obtain⟨xs,_,rfl⟩:=h;rfl
      ·cases h
     ·simp only[BD]at h;subst h;rfl
     ·cases h
  |.int k,ls,t,h=>sc (b:=.int k) h vh rfl
  |.bool,ls,t,h=>sc (b:=.bool) h tF rfl
  |.str,ls,t,h=>sc (b:=.str) h vi rfl
  |.hdr,ls,t,h=>sc (b:=.hdr) h vj rfl
 sc {b:Ty} {ls:List Leaf} {t:cI b.den} (h:(bc st b ls).map (λx=>(⟨false,x.2.1,[],[],x.2.2⟩:cI b.den))=some t)
   (H:∀ {ls:List Leaf} {x:Bool×b.den×List Leaf},bc st b ls=some x->∃ l,ls=l::x.2.2) (J:b.cells=1):t.rest=ls.drop b.cells:=by
  simp only[BE]at h;obtain⟨x,Z,rfl⟩:=h;obtain⟨l,rfl⟩:=H Z;rw[J];rfl
theorem wu {agg:Bool}{v:Value}{y z:List Value}(u:dg agg v y)(r:dg agg v z):y=z:=by
 unfold dg at u r;cases agg with
 |true =>
  simp only[if_true]at u r;rw[u]at r;simpa using r
 |false =>
  simp only[Bool.false_eq_true,if_false]at u r;rw[u,r]
theorem qJ (hV:ax V){W0 W:Wit}{S0 S:St}{w0:World}{G:Nat->Prop}{p:Bool}(a3:W.cs=W0.cs)(hG:∀ k,G k->gd V W p k)(h:an P V W S a w) :
  ∀ (ps:List PK) (xs:List (aI×List Leaf)) (vs:List Value) (g:Got (ab ps)) (o:ah ps) (y:List (List Nat)),gS P V W0 S0 w0 xs vs->bd (ca Γ S0) ps xs=some g->ps.any PK.isIop=false ->
  bL w G ps o vs y->a7 g.kill=true->(∀ x∈g.kill,x.1≠EPO)->(∀ x∈g.kill,∀ l,(S x.1).ls[x.2]?=some l->¬ am l)->(∀ k∈y.flatten,¬ cd V W S k)->y.flatten.Nodup ->
  ∃ W',an P V W' (ac (aF S p ps xs o) S) a w/\W'.cs=W.cs/\W'.β=W.β/\W'.nw=W.nw/\(∀ q,(ac (aF S p ps xs o) S q).sh=(S q).sh/\(S q).ver<=(ac (aF S p ps xs o) S q).ver) /\
   (∀ q i,(q,i)∉g.kill->(ac (aF S p ps xs o) S q).ls[i]?=(S q).ls[i]?/\W'.bs q i=W.bs q i)/\(∀ k,cd V W' (ac (aF S p ps xs o) S) k->cd V W S k\/k∈y.flatten)
 |[],xs,vs,g,o,y,_,_,_,_,_,_,_,_,_=>⟨W,h,rfl,rfl,rfl,λ_=>⟨rfl,BX _⟩,λ_ _ _=>⟨rfl,rfl⟩,λk O=>.inl O⟩
 |pk::ps,[],vs,g,o,y,_,hg,_,_,_,_,_,_,_=>by simp[bd]at hg
 |pk::ps,x::xs,vs,g,o,y,hx,hg,hp,ho,hd,a5,a6,R,a0=>by
  obtain⟨v,a4,cs,rfl,hs,hl,a1⟩:=hx;simp only[bd]at hg;split at hg
  ·rename_i g1 a2;split at hg
   ·rename_i g2 b3;simp only[BD]at hg;subst hg;simp only[Cd,C7]at hp;obtain⟨b9,ad,bl⟩:=kX hd;have J:∀ (o':ah ps) (b:List Nat) (M:List (List Nat)),y=b::M->b=[]->bL w G ps o' a4 M->aF S p (pk::ps) (x::xs) o=aF S p ps xs o' ->
      ∃ W',an P V W' (ac (aF S p (pk::ps) (x::xs) o) S) a w/\W'.cs=W.cs/\W'.β=W.β/\W'.nw=W.nw/\(∀ q,(ac (aF S p (pk::ps) (x::xs) o) S q).sh=(S q).sh/\(S q).ver<=(ac (aF S p (pk::ps) (x::xs) o) S q).ver) /\
       (∀ q i,(q,i)∉g1.kill++g2.kill->(ac (aF S p (pk::ps) (x::xs) o) S q).ls[i]?=(S q).ls[i]?/\W'.bs q i=W.bs q i)/\(∀ k,cd V W' (ac (aF S p (pk::ps) (x::xs) o) S) k->cd V W S k\/k∈y.flatten):=by
     intro o' b M e1 e2 b5 e3;subst e1;subst e2;rw[e3];obtain⟨W1,f1,f2,f3,f4,f5,f6,f7⟩:=qJ hV a3 hG h ps xs a4 g2 o' M a1 b3 hp.2 b5 ad (λz Y=>a5 z (BH _ Y)) (λz Y=>a6 z (BH _ Y)) (λk O=>R k (by simpa using O)) (by simpa using a0);exact⟨W1,f1,f2,f3,f4,f5,λq i hq=>f6 q i (λhm=>hq (BH _ hm)),λk O=>(f7 k O).imp id (λhm=>by simpa using hm)⟩
    cases pk with
    |io b =>
     match y,ho with
     |Z::M,⟨H,I⟩ =>
      simp only[B3]at a0 R;rw[CK]at a0;obtain⟨W1,f1,f2,f3,f4,f5,f6,f7⟩:=qJ hV a3 hG h ps xs a4 g2 o.2 M a1 b3 hp.2 I ad (λz Y=>a5 z (BH _ Y)) (λz Y=>a6 z (BH _ Y)) (λk O=>R k (BH _ O)) a0.2.1;simp only[ca,bg]at a2;cases hb:decide (x.1=bi b.isAgg) with
      |false=>simp[hb]at a2
      |true =>
       rw[hb]at a2;simp only[cond_true,BE]at a2;obtain⟨t,ht,rfl⟩:=a2;rw[of_decide_eq_true hb]at hs;unfold jx at H;rw[if_neg (by simp)]at H;obtain⟨b0,ba,hm⟩:=H;have:=wu ba (gx hs);subst this;obtain⟨bb,m1,m2,m3,m4⟩:=iJ (P:=P) (V:=V) (W:=W1) (st:=ac (aF S p ps xs o.2) S) (p:=p) (λk O=>by
        rcases hG k O with O|O
        ·exact .inl (by rw[f4];exact O)
        ·exact .inr O) hm a0.1
       unfold ch at ht;split at ht
       ·rename_i p0 x0 f0 k0 a9;simp only[BD]at ht;subst ht;have X:=lk (p:=p) b x.2 _ a9 o.1 [];simp only[B6]at X;have X:eS x.2 (ap p b o.1)=k0:=by
         rw[X];show k0++eS [] []=k0;simp[eS]
        obtain⟨W2,q1,q2,q3,q4,q5,q6,q7⟩:=zP hV f1 x.2 (ap p b o.1) b0 bb (by rw[X];exact b9) (λz Y=>a5 z (BM _ (by rw[X]at Y;exact Y))) hl.length m1
         (λi r j n l u g3 g4 g5 g6=>by
          have h5:=(hl.at_ i _ u g3 g6).1;rw[f2,a3];exact h5.2 (kn b x.2 _ a9 o.1 i r j n l g3 g4 g5))
         (λz Y l b2=>by
          rw[X]at Y;rw[(f6 z.1 z.2 (bl z Y)).1]at b2;exact a6 z (BM _ Y) l b2)
         m2
         (λi l g3 g4 k O hu=>by
          have b1:=m3 i l g3 g4 k O;rcases f7 k hu with hu|hu
          ·exact R k (BM _ b1) hu
          ·exact a0.2.2 k b1 k hu rfl) m4
        have b4:ac (aF S p (.io b::ps) (x::xs) o) S=ac (b7 (ac (aF S p ps xs o.2) S) x.2 (ap p b o.1)) (ac (aF S p ps xs o.2) S):=bD _ _ _;rw[b4];rw[X]at q6;refine⟨W2,q1,q2.trans f2,q3.trans f3,q4.trans f4,λq=>⟨(q5 q).1.trans (f5 q).1,CL (f5 q).2 (q5 q).2⟩,λq i hq=>?_,λk O=>?_⟩
        ·simp only[BO,not_or]at hq;exact⟨(q6 q i hq.1).1.trans (f6 q i hq.2).1,(q6 q i hq.1).2.trans (f6 q i hq.2).2⟩
        ·rcases q7 k O with O|⟨i,l,g3,g4,g5⟩
         ·exact (f7 k O).imp id (λhm=>BH _ hm)
         ·exact .inr (BM _ (m3 i l g3 g4 k g5))
       ·cases ht
    |iop b=>simp[PK.isIop]at hp
    |rd b =>
     match y,ho with
     |Z::M,⟨H,I⟩=>exact J o Z M rfl H I rfl
    |own b =>
     match y,ho with
     |Z::M,⟨H,I⟩=>exact J o Z M rfl H I rfl
    |rref b =>
     match y,ho with
     |Z::M,⟨H,I⟩=>exact J o Z M rfl H I rfl
    |rref2 b =>
     match y,ho with
     |Z::M,⟨H,I⟩=>exact J o Z M rfl H I rfl
    |fn As B =>
     match y,ho with
     |Z::M,⟨H,I⟩=>exact J o Z M rfl H I rfl
    |clo f b0 =>
     match y,ho with
     |Z::M,⟨H,I⟩=>exact J o Z M rfl H I rfl
    |hol b cc off =>
     match y,ho with
     |Z::M,⟨H,I⟩=>exact J o Z M rfl H I rfl
   ·cases hg
  ·cases hg
end
section
variable {P:Program} {V:Env} {W:Wit} {st:St} {w:World} {a:Act}
theorem ou {G ro:Nat->Prop}{p q:Bool}{ks:List (Nat×Nat×Nat)}{ep:Nat}(hG:∀ k,G k->gd V W p k)(d n:Nat) :
  ∀ (O:List RK) (y:ai O) (us:List Value) (a0:List (List Nat)),
  (O.any RK.isBv=true->(∀ k,G k\/ro k->gd V W q k\/∃ x∈ks,k∈W.bs x.1 x.2.1)/\ep<=(st EPO).ver/\(∀ k∈ks,k.2.2<=(st k.1).ver))->gw w G ro O y us a0->O.all RK.isV=true->a0.flatten.Nodup ->
  (bE d n p q ks ep O y).2=[]/\∃ (cs:List Value) (a2:Nat->List Nat),pw ((bE d n p q ks ep O y).1.map λx=>(x.1,x.2.length)) us cs/\(((bE d n p q ks ep O y).1.map (·.2)).flatten).length=cs.length/\(∀ u∈cs,u.oneCell'=true) /\
   (∀ (j:Nat) (l:Leaf) (u:Value),(((bE d n p q ks ep O y).1.map (·.2)).flatten)[j]?=some l->cs[j]?=some u->aK P V W st w (a2 j) l u) /\
   (∀ (j:Nat) (l:Leaf),(((bE d n p q ks ep O y).1.map (·.2)).flatten)[j]?=some l->am l->∀ k∈a2 j,k∈a0.flatten) /\
   (∀ (j Y:Nat) (l l':Leaf),(((bE d n p q ks ep O y).1.map (·.2)).flatten)[j]?=some l->am l->(((bE d n p q ks ep O y).1.map (·.2)).flatten)[Y]?=some l'->am l'->∀ k,k∈a2 j->k∈a2 Y->j=Y)
 |[],y,us,a0,_,⟨e1,e2⟩,_,_=>by
  subst e1;subst e2;exact⟨rfl,[],λ_=>[],⟨rfl,rfl⟩,rfl,by simp,λj l u h1 h2=>by simp at h2,λj l h1 h2 k J=>by simp at J,λj Y l l' _ _ _ _ k J=>by simp at J⟩
 |r::O,y,us,a0,hB,⟨u0,a6,b,a5,e1,e2,hr,a4⟩,hv,Z=>by
  subst e1;subst e2;simp only[DB,BF]at hv;rw[B3,CK]at Z;obtain⟨f0,a9,d2,f1,f2,b0,f3,f4,f5⟩:=ou (ks:=ks) (q:=q) (ep:=ep) hG d n O y.2 a6 a5 (λhb=>hB (by simp[hb])) a4 hv.2 Z.2.1;obtain⟨agg,L,I,d1,g0,b5,g1,g2,b4,g3,g4,g5⟩:∃ (agg:Bool) (L:List Leaf) (I:List Value) (d1:Nat->List Nat),(pq d n p q ks ep r y.1).1=(agg,L)/\(pq d n p q ks ep r y.1).2=[]/\dg agg u0 I/\L.length=I.length/\(∀ u∈I,u.oneCell'=true) /\
    (∀ (j:Nat) (l:Leaf) (u:Value),L[j]?=some l->I[j]?=some u->aK P V W st w (d1 j) l u)/\(∀ (j:Nat) (l:Leaf),L[j]?=some l->am l->∀ k∈d1 j,k∈b) /\
    (∀ (j Y:Nat) (l l':Leaf),L[j]?=some l->am l->L[Y]?=some l'->am l'->∀ k,k∈d1 j->k∈d1 Y->j=Y):=by
   cases r with
   |v c =>
    obtain⟨I,h1,h2⟩:=hr;obtain⟨d1,m1,m2,m3,m4⟩:=iJ (P:=P) (V:=V) (W:=W) (st:=st) (p:=p) hG h2 Z.1;exact⟨c.isAgg,_,I,d1,rfl,rfl,h1,m1,h2.one,m2,m3,m4⟩
   |bv c =>
    obtain⟨_,I,h1,h2⟩:=hr;obtain⟨b9,b3,b2⟩:=hB (by simp[RK.isBv]);have h3:=ka (P:=P) (V:=V) (W:=W) (st:=st) (p:=q) b3 b2 (h2.mono b9);exact⟨c.isAgg,_,I,λ_=>[],rfl,rfl,h1,h3.length,h2.one,λj l u g1 g2=>(h3.at_ j l u g1 g2).1,λj l _ _ k J=>by simp at J,λj Y l l' _ _ _ _ k J=>by simp at J⟩
   |box c=>simp[RK.isV]at hv
  have b1:(bE d n p q ks ep (r::O) y).1=(agg,L)::(bE d n p q ks ep O y.2).1:=by simp only[bE,g0]
  have ba:(bE d n p q ks ep (r::O) y).2=[]:=by simp only[bE,b5,f0,B6]
  rw[b1];simp only[Dh,B3];have H:∀ (j:Nat) (l:Leaf),(L++((bE d n p q ks ep O y.2).1.map (·.2)).flatten)[j]?=some l->(j<L.length/\L[j]?=some l)\/(L.length<=j/\(((bE d n p q ks ep O y.2).1.map (·.2)).flatten)[j-L.length]?=some l):=by
   intro j l z;by_cases M:j<L.length
   ·rw[BK M]at z;exact .inl ⟨M,z⟩
   ·rw[BJ (by omega)]at z;exact .inr ⟨by omega,z⟩
  refine⟨ba,I++a9,λj=>if j<L.length then d1 j else d2 (j-L.length),⟨u0,a6,I,a9,rfl,rfl,g2.symm,g1,f1⟩,by rw[BV,BV,g2,f2],λu hu=>(BO.1 hu).elim (b4 u) (b0 u),λj l u z hu=>?_,λj l z ho k J=>?_,λj Y l l' z ho X a1 k J R=>?_⟩
  ·rcases H j l z with ⟨M,z⟩|⟨ad,z⟩
   ·rw[BK (by omega)]at hu;simp only[if_pos M];exact g3 j l u z hu
   ·rw[BJ (by omega),<- g2]at hu;simp only[if_neg (show ¬ j<L.length by omega)];exact f3 _ l u z hu
  ·rcases H j l z with ⟨M,z⟩|⟨ad,z⟩
   ·simp only[if_pos M]at J;exact BM _ (g4 j l z ho k J)
   ·simp only[if_neg (show ¬ j<L.length by omega)]at J;exact BH _ (f4 _ l z ho k J)
  ·rcases H j l z with ⟨M,z⟩|⟨ad,z⟩ <;> rcases H Y l' X with ⟨a3,X⟩|⟨bb,X⟩
   ·simp only[if_pos M]at J;simp only[if_pos a3]at R;exact g5 j Y l l' z ho X a1 k J R
   ·simp only[if_pos M]at J;simp only[if_neg (show ¬ Y<L.length by omega)]at R;exact absurd rfl (Z.2.2 k (g4 j l z ho k J) k (f4 _ l' X a1 k R))
   ·simp only[if_neg (show ¬ j<L.length by omega)]at J;simp only[if_pos a3]at R;exact absurd rfl (Z.2.2 k (g4 Y l' X a1 k R) k (f4 _ l z ho k J))
   ·simp only[if_neg (show ¬ j<L.length by omega)]at J;simp only[if_neg (show ¬ Y<L.length by omega)]at R;have:=f5 _ _ l l' z ho X a1 k J R;omega
theorem Bq {l:List (Bool×List Leaf)}{us cs:List Value}{v:Value}(n:Nat)(h:pw (l.map λx=>(x.1,x.2.length)) us cs)(y:sn us v) :
  ek (eV n l).sh v cs/\(eV n l).ls=(l.map (·.2)).flatten/\(eV n l).ver=n:=by
 match l,us,h with
 |[],_,⟨H,z⟩ =>
  subst H;subst z;exact⟨⟨[],y,rfl,rfl⟩,rfl,rfl⟩
 |[(agg,L)],_,⟨u,r,c,X,H,z,h1,R,Y,Z⟩ =>
  subst H;subst z;subst Y;subst Z;have y:v=u:=y;subst y;refine⟨?_,by simp[eV],rfl⟩;simp only[eV,B6];exact kk R
 |x::x'::l,us,h =>
  refine⟨?_,rfl,rfl⟩;have I:∃ u M r,us=u::M::r:=by
   obtain⟨u,r,_,_,H,_,_,_,O,J,_,_,z,_⟩:=h;exact⟨u,O,J,by rw[H,z]⟩
  obtain⟨u,M,r,rfl⟩:=I;exact⟨_,y,h⟩
end
section
variable {P:Program} {V:Env} {Γ:List Ctr} {st:St} {w:World} {a:Act}
theorem zo {pk:PK}{x:aI×List Leaf}{g:Got pk.den}(r:ca Γ st pk x=some g)(Y:pk.isIop=false):g.lend=[]:=by
 cases pk with
 |iop b=>simp[PK.isIop]at Y
 |rd b =>
  simp only[ca,bg]at r;cases u:decide (x.1=bi b.isAgg) with
  |false=>simp[u]at r
  |true=>rw[u]at r;simp only[cond_true,BE]at r;obtain⟨y,_,rfl⟩:=r;rfl
 |own b =>
  simp only[ca,bg]at r;cases u:decide (x.1=bi b.isAgg) with
  |false=>simp[u]at r
  |true=>rw[u]at r;simp only[cond_true,BE]at r;obtain⟨y,_,rfl⟩:=r;rfl
 |io b =>
  simp only[ca,bg]at r;cases u:decide (x.1=bi b.isAgg) with
  |false=>simp[u]at r
  |true=>rw[u]at r;simp only[cond_true,BE]at r;obtain⟨y,_,rfl⟩:=r;rfl
 |rref b=>exact cap (c:=(false,b)) r
 |rref2 b=>exact cap (c:=(true,b)) r
 |fn R B =>
  simp only[ca]at r;split at r
  ·unfold kL at r;split at r
   ·unfold sa at r;split at r
    ·rename_i c _ Z;cases u:(c.ps.drop R.length).all PK.reads&&B.flat&&c.fresh with
     |false=>rw[u]at r;cases r
     |true =>
      rw[u]at r;simp only[cond_true]at r;split at r
      ·simp only[BD]at r;subst r;rfl
      ·cases r
    ·cases r
   ·cases r
  ·simp only[bg]at r;split at r
   ·split at r
    ·simp only[BD]at r;subst r;rfl
    ·cases r
   ·cases r
 |hol b cc off =>
  simp only[ca,bg]at r;cases u:decide (x.1=bi b.isAgg) with
  |false=>simp[u]at r
  |true =>
   rw[u]at r;simp only[cond_true]at r;split at r
   ·split at r
    ·rename_i X _ _ _ _;cases H:BU X off with
     |false=>simp[H]at r
     |true =>
      rw[H]at r;simp only[cond_true]at r;split at r
      ·split at r
       ·simp only[BD]at r;subst r;rfl
       ·cases r
      ·cases r
    ·cases r
   ·cases r
 |clo f I =>
  simp only[ca,bg]at r;split at r
  ·rename_i J z _;cases u:BU J f with
   |false=>simp[u]at r
   |true=>rw[u]at r;exact caps_ r
  ·rename_i J z _;cases u:BU J f with
   |false=>simp[u]at r
   |true=>rw[u]at r;exact caps_ r
  ·cases r
where
 cap {c:Bool×Ty} {l:Leaf} {g:Got c.2.den} (r:fu st c l=some g):g.lend=[]:=by
  unfold fu at r;cases M:c.1 with
  |true =>
   rw[M]at r;simp only[cond_true]at r;split at r
   ·split at r
    ·simp only[BE]at r;obtain⟨y,_,rfl⟩:=r;rfl
    ·cases r
   ·cases r
  |false =>
   rw[M]at r;simp only[cond_false]at r;split at r
   ·simp only[BE]at r;obtain⟨y,_,rfl⟩:=r;rfl
   ·cases r
 caps_:∀ {I:List (Bool×Ty)} {O:List Leaf} {g:Got (lS I)},cr st I O=some g->g.lend=[]
  |[],[],g,r=>by simp only[cr,BD]at r;subst r;rfl
  |[],_::_,_,r=>by simp[cr]at r
  |_::_,[],_,r=>by simp[cr]at r
  |c::I,l::O,g,r=>by
   simp only[cr]at r;split at r
   ·split at r
    ·simp only[BD]at r;subst r;rfl
    ·cases r
   ·cases r
theorem tG:∀ (ps:List PK) (xs:List (aI×List Leaf)) (g:Got (ab ps)),bd (ca Γ st) ps xs=some g->g.lend=[]->ps.any PK.isIop=false
 |[],_,_,_,_=>rfl
 |_::_,[],_,u,_=>by simp[bd]at u
 |I::ps,x::xs,g,u,z=>by
  simp only[bd]at u;split at u
  ·rename_i M r;split at u
   ·rename_i J y;simp only[BD]at u;subst u;simp only[List.append_eq_nil_iff]at z;rw[Cd,tG ps xs J y z.2,Bool.or_false];cases I with
    |iop b =>
     simp only[ca,bg]at r;split at r
     ·rename_i q _;cases H:decide ((st q).sh=.agg) with
      |false=>simp[H]at r
      |true =>
       rw[H]at r;simp only[cond_true,BE]at r;obtain⟨t,_,rfl⟩:=r;simp at z
     ·cases r
    |_=>rfl
   ·cases u
  ·cases u
theorem o9 {W0:Wit}{S0 S:St}{w0:World}{a0:Act}(h0:an P V W0 S0 a0 w0){G:Nat->Prop}{p:Bool} :
  ∀ (ps:List PK) (xs:List (aI×List Leaf)) (vs:List Value) (g:Got (ab ps)) (o:ah ps) (r:List (List Nat)),gS P V W0 S0 w0 xs vs->bd (ca Γ S0) ps xs=some g->ps.any PK.isIo=false->bL w G ps o vs r ->
  (g.lend=[]->aF S p ps xs o=[]/\r.flatten=[]) /\
  (∀ b,g.lend=[b]->∃ (c:Ty) (y:c.den) (cs:List Value) (E:TypeId) (Z:List Nat),aF S p ps xs o=[(b,⟨(S b).ver+2,.agg,ap p c y⟩)]/\w.heap[W0.β b]?=some (.cells cs.toArray E (0,0))/\Mx w G c none 0 y cs Z/\r.flatten=W0.β b::Z/\(S0 b).ls.length=c.cells)
 |[],[],vs,g,o,r,hx,O,_,X=>by
  simp only[bd,BD]at O;subst O;refine⟨λ_=>⟨rfl,?_⟩,λb hb=>by simp at hb⟩
  match vs,r,X with
  |[],[],_=>rfl
 |[],_::_,_,_,_,_,_,O,_,_=>by simp[bd]at O
 |_::_,[],_,_,_,_,_,O,_,_=>by simp[bd]at O
 |pk::ps,x::xs,vs,g,o,r,hx,O,hn,X=>by
  obtain⟨v,a2,cs,rfl,hs,hl,R⟩:=hx;simp only[bd]at O;split at O
  ·rename_i g1 J;split at O
   ·rename_i g2 a4;simp only[BD]at O;subst O;simp only[Cd,C7]at hn;have H:∀ (o':ah ps) (b:List Nat) (I:List (List Nat)),pk.isIop=false->r=b::I->b=[]->bL w G ps o' a2 I->aF S p (pk::ps) (x::xs) o=aF S p ps xs o' ->
      (g1.lend++g2.lend=[]->aF S p (pk::ps) (x::xs) o=[]/\r.flatten=[]) /\
      (∀ b,g1.lend++g2.lend=[b]->∃ (c:Ty) (y:c.den) (cs:List Value) (E:TypeId) (Z:List Nat),aF S p (pk::ps) (x::xs) o=[(b,⟨(S b).ver+2,.agg,ap p c y⟩)]/\w.heap[W0.β b]?=some (.cells cs.toArray E (0,0))/\Mx w G c none 0 y cs Z/\r.flatten=W0.β b::Z/\(S0 b).ls.length=c.cells):=by
     intro o' b I hi e1 e2 a6 e3;subst e1;subst e2;rw[e3,zo J hi];simpa using o9 h0 (S:=S) (p:=p) ps xs a2 g2 o' I R a4 hn.2 a6
    cases pk with
    |iop b =>
     match r,X with
     |M::I,⟨u,z⟩ =>
      obtain⟨r1,r2⟩:=o9 h0 (S:=S) (p:=p) ps xs a2 g2 o.2 I R a4 hn.2 z;simp only[ca,bg]at J;split at J
      ·rename_i q hq;cases hb:decide ((S0 q).sh=.agg) with
       |false=>simp[hb]at J
       |true =>
        rw[hb]at J;simp only[cond_true,BE]at J;obtain⟨t,ht,rfl⟩:=J;refine⟨λhb=>by simp at hb,λb' Y=>?_⟩;simp only[Cy,Cg]at Y;obtain⟨rfl,Y⟩:=Y;obtain⟨r3,r4⟩:=r1 Y;obtain⟨a9,_⟩:=gP hs hl hq (by simp);unfold jx at u;rw[if_pos rfl]at u;obtain⟨g',a3,E,Z,hv,a1,hm,rfl⟩:=u;have a5:g'=W0.β q:=by
         have h9:=a9.2.2;rw[hv]at h9;simp only[Value.pointer.injEq,BD,Cn,and_true]at h9;exact h9
        subst a5;refine⟨b,o.1,a3,E,Z,?_,a1,hm,by rw[B3,r4,B6],?_⟩
        rotate_left
        ·rw[h0.len];exact (dR (pos:=0) h0 (iy h0 q) ht).1.len
        simp only[aF,r3,hq,B6];rfl
      ·cases J
    |io b=>simp[PK.isIo]at hn
    |rd b =>
     match r,X with
     |M::I,⟨u,z⟩=>exact H o M I rfl rfl u z rfl
    |own b =>
     match r,X with
     |M::I,⟨u,z⟩=>exact H o M I rfl rfl u z rfl
    |rref b =>
     match r,X with
     |M::I,⟨u,z⟩=>exact H o M I rfl rfl u z rfl
    |rref2 b =>
     match r,X with
     |M::I,⟨u,z⟩=>exact H o M I rfl rfl u z rfl
    |fn As B =>
     match r,X with
     |M::I,⟨u,z⟩=>exact H o M I rfl rfl u z rfl
    |clo f a3 =>
     match r,X with
     |M::I,⟨u,z⟩=>exact H o M I rfl rfl u z rfl
    |hol b cc off =>
     match r,X with
     |M::I,⟨u,z⟩=>exact H o M I rfl rfl u z rfl
   ·cases O
  ·cases O
end
section
variable {P:Program} {V:Env}
theorem wv (hV:ax V){W:Wit}{S:St}{a:Act}{w:World}(h:an P V W S a w){M:List RK}{y:ai M}{us:List Value}{Y:List (List Nat)}{v:Value}{p q:Bool}{ks:List (Nat×Nat×Nat)}{ep:Nat}{G ro:Nat->Prop}
  (a0:gw w G ro M y us Y) (hG:∀ k,G k->gd V W p k)
  (hB:M.any RK.isBv=true->(∀ k,G k\/ro k->gd V W q k\/∃ x∈ks,k∈W.bs x.1 x.2.1)/\ep<=(S EPO).ver/\(∀ k∈ks,k.2.2<=(S k.1).ver))
  (H:∀ k∈Y.flatten,¬ cd V W S k) (a2:Y.flatten.Nodup) (I:sn us v) {d:Nat} (hd:d<V.nt) (Z:∀ x∈V.fixt,x.1≠d) (r:gD S d M=true) :
  ∃ W1,an P V W1 (ac ((d,eV ((ac (bE d (S (B0+d)).ver p q ks ep M y).2 S d).ver+1) (bE d (S (B0+d)).ver p q ks ep M y).1)::(bE d (S (B0+d)).ver p q ks ep M y).2) S) (a.put (some d) v) w /\
   ∀ z,z≠d->z≠B0+d->W1.cs z=W.cs z:=by
 cases hv:M.all RK.isV with
 |true =>
  obtain⟨m0,cs,a1,m1,m2,m3,m4,m5,m6⟩:=ou (P:=P) (W:=W) (st:=S) (p:=p) (q:=q) (ks:=ks) (ep:=ep) hG d (S (B0+d)).ver M y us Y hB a0 hv a2;rw[m0];obtain⟨s1,s2,s3⟩:=Bq ((S d).ver+1) m1 I;show ∃ W1,an P V W1 (ac [(d,eV ((S d).ver+1) (bE d (S (B0+d)).ver p q ks ep M y).1)] S) (a.put (some d) v) w/\_;generalize eV ((S d).ver+1) (bE d (S (B0+d)).ver p q ks ep M y).1=rc at s1 s2 s3 ⊢;obtain⟨v0,b4,bl⟩:=rc;simp only at s1 s2 s3;subst s3;subst s2;have a4:=h.put hV d hd Z ((S d).ver+1) b4 _ v cs a1 (BP _) s1 m2 m3 m4
   (λj l R ho k X=>by
    have b2:=m5 j l R ho k X;have J:=H k b2;simp only[cd,not_or,not_exists,not_and]at J;exact⟨J.1,J.2.1,J.2.2.1,λr1 j1 l1 _ h8 h9=>J.2.2.2 r1 j1 l1 h8 h9⟩) m6
  refine⟨_,a4,λz hz _=>?_⟩;show (if z=d then cs else W.cs z)=_;rw[if_neg hz]
 |false =>
  have hb:∃ b,M=[.box b]:=by
   unfold gD at r;split at r
   ·exact⟨_,rfl⟩
   ·rw[hv]at r;cases r
  obtain⟨b,rfl⟩:=hb;obtain⟨u0,bb,rb,ba,e1,e2,⟨g',cs,E,b0,ad,b5,hm,a6⟩,e3,e4⟩:=a0;subst e3;subst e4;subst e1;subst e2;subst a6;have I:v=u0:=I;subst I;subst ad;have a5:(S (B0+d)).sh=.off:=by simpa[gD]using r
  have O:(g'::b0).Nodup:=by simpa using a2
  rw[CO]at O;obtain⟨a1,m1,m2,m3,m4⟩:=iJ (P:=P) (V:=V) (W:=W) (st:=S) (p:=p) hG hm O.2;have a3:d≠B0+d:=by simp[B0]
  have b1:=H g' (by simp);have a9:=h.setBoxG hV (B0+d) (Cc _ _) ((S (B0+d)).ver+1) (ap p b y.1) cs a1 g' E (w':=w) (BP _)
   (.inr ⟨by simp[live,a5],b1,λj l R ho k X e0=>O.1 (by rw[<- e0];exact m3 j l R ho k X)⟩) b5 (λ_ _ _=>rfl) (λ_ _ _ _ _ _ _=>rfl) (BX _) rfl rfl rfl m1 hm.one m2
   (λj l R ho k X=>by
    have J:=H k (by simp;exact .inr (m3 j l R ho k X));simp only[cd,not_or,not_exists,not_and]at J;exact⟨J.1,J.2.1,J.2.2.1,λr1 j1 l1 _ h8 h9=>J.2.2.2 r1 j1 l1 h8 h9⟩) m4
  have b3:=a9.put hV d hd Z ((S d).ver+1) .one [.bp (B0+d) 0] (.pointer (some ⟨g',0,none⟩)) [.pointer (some ⟨g',0,none⟩)] (λ_=>[]) (by rw[aJ a3];exact BP _) rfl rfl (λu J=>by simp at J;subst J;rfl)
   (λj l u R g9=>by
    cases j with
    |zero=>simp at R g9;subst R;subst g9;exact⟨Cc _ _,by rw[bk],by simp⟩
    |succ j=>simp at R)
   (λj l R ho k X=>by simp at X) (λj j' l l' _ _ _ _ k X=>by simp at X)
  have e1:ac (bE d (S (B0+d)).ver p q ks ep [.box b] y).2 S=ac [(B0+d,⟨(S (B0+d)).ver+1,.agg,ap p b y.1⟩)] S:=rfl;rw[aP,e1,aJ a3];refine⟨_,b3,λz hz b9=>?_⟩;show (if z=d then _ else (if z=B0+d then _ else W.cs z))=_;rw[if_neg hz,if_neg b9]
theorem uG (r:Nat)(c u:bR)(S:St):ac [(r,c)] (ac [(r,u)] S)=ac [(r,c)] S:=by
 funext q;rcases aj r q c (ac [(r,u)] S) with ⟨rfl,e⟩|⟨h,e⟩
 ·rw[e,bk]
 ·rw[e,aJ h,aJ h]
theorem zp (hV:ax V){W:Wit}{S:St}{a:Act}{w w':World}(h:an P V W S a w){b:Nat}(hb:live S b){N:Nat->Prop}{cs:List Value}{E:TypeId}{c:Ty}{y:c.den}{b0:List Nat}{G:Nat->Prop}{p:Bool}
  (a1:w'.heap[W.β b]?=some (.cells cs.toArray E (0,0))) (hm:Mx w' G c none 0 y cs b0) (a4:(W.β b::b0).Nodup) (a6:(S b).ls.length=c.cells)
  (a0:∀ k,cd V W S k->k≠W.β b->w'.heap[k]?=w.heap[k]?) (a9:w.heap.size<=w'.heap.size) (b1:w'.os=w.os) (ht:w'.tape=w.tape) (ho:w'.output=w.output)
  (hN:∀ k,N k->k<w'.heap.size/\¬ cd V W S k) (a2:∀ k∈b0,¬ cd V W S k/\¬ N k) (hG:∀ k,G k->gd V { W with nw:=λk=>W.nw k\/N k } p k) :
  ∃ W1,an P V W1 (ac [(b,⟨(S b).ver+2,.agg,ap p c y⟩)] S) a w'/\W1.β=W.β/\(∀ k,W1.nw k<->W.nw k\/N k)/\(∀ q,q≠b->W1.cs q=W.cs q)/\(∀ q i,q≠b->W1.bs q i=W.bs q i) /\
   (∀ k,cd V W1 (ac [(b,⟨(S b).ver+2,.agg,ap p c y⟩)] S) k->cd V W S k\/N k\/k∈b0):=by
 have J:∀ (q:Nat),(if q=b then W.β b else W.β q)=W.β q:=λq=>by split <;> simp_all
 have h1:=h.setBoxG hV b hb.1 ((S b).ver+1) (CM cs.length .dead) cs (λ_=>[]) (W.β b) E (w':=w') (BP _) (.inl ⟨hb,rfl⟩) a1 a0 (λ_ _ _ _ k H=>by simp at H) a9 b1 ht ho (by simp) hm.one
  (λj l u I R=>by
   rw[CY]at I;split at I
   ·simp at I;subst I;trivial
   ·cases I)
  (λj l I R k H=>by simp at H) (λj j' l l' _ _ _ _ k H=>by simp at H)
 have Z:∀ (j:Nat) (l:Leaf),(CM cs.length Leaf.dead)[j]?=some l->¬ am l:=by
  intro j l I;rw[CY]at I;split at I
  ·simp at I;subst I;exact id
  ·cases I
 have a5:∀ z,live (ac [(b,⟨(S b).ver+1,.agg,CM cs.length .dead⟩)] S) z->live S z:=by
  intro z X;rcases aj b z ⟨(S b).ver+1,.agg,CM cs.length .dead⟩ S with ⟨rfl,e⟩|⟨_,e⟩
  ·exact hb
  ·exact⟨X.1,by rw[<- e];exact X.2⟩
 have b2:∀ k,cd V { W with β:=λr=>if r=b then W.β b else W.β r,cs:=λr=>if r=b then cs else W.cs r,bs:=λr j=>if r=b then [] else W.bs r j } (ac [(b,⟨(S b).ver+1,.agg,CM cs.length .dead⟩)] S) k->cd V W S k:=by
  rintro k (H|H|⟨z,X,H⟩|⟨z,i,l,I,R,O⟩)
  ·exact .inl H
  ·exact .inr (.inl H)
  ·exact .inr (.inr (.inl ⟨z,a5 z X,by rw[<- H];exact (J z).symm⟩))
  ·by_cases M:z=b
   ·subst M;rw[bk]at I;exact absurd R (Z i l I)
   ·rw[aJ M]at I;simp only[if_neg M]at O;exact .inr (.inr (.inr ⟨z,i,l,I,R,O⟩))
 have h2:=h1.nwGrow hV N (λk H=>⟨(hN k H).1,λhu=>(hN k H).2 (b2 k hu)⟩);rw[CO]at a4;obtain⟨Y,m1,m2,m3,m4⟩:=iJ (P:=P) (V:=V) (W:={ W with β:=λr=>if r=b then W.β b else W.β r,cs:=λr=>if r=b then cs else W.cs r,bs:=λr j=>if r=b then [] else W.bs r j,nw:=λk=>W.nw k\/N k })
  (st:=ac [(b,⟨(S b).ver+1,.agg,CM cs.length .dead⟩)] S) (p:=p) (λk H=>hG k H) hm a4.2
 have b4:=hm.len;have b3:=cG p c y;have h3:=h2.reown hV b ⟨(S b).ver+2,.agg,ap p c y⟩ Y (by rw[bk];exact BP _) (by rw[bk]) (by rw[bk,Cz];omega)
  (λj l v I R=>m2 j l v I (by simpa using R))
  (λj l I R k H=>by
   have ad:=m3 j l I R k H;obtain⟨q1,q2⟩:=a2 k ad;refine⟨λhn=>hn.elim (λhn=>q1 (.inl hn)) q2,λhp=>q1 (.inr (.inl hp)),λz X e0=>q1 (.inr (.inr (.inl ⟨z,a5 z X,by rw[<- e0];exact (J z).symm⟩))),λr1 j1 l1 a3 O g4 g5=>?_⟩;rw[aJ a3]at O;have g5:k∈(if r1=b then [] else W.bs r1 j1):=g5;rw[if_neg a3]at g5;exact q1 (.inr (.inr (.inr ⟨r1,j1,l1,O,g4,g5⟩)))) m4
 rw[uG]at h3;refine⟨_,h3,funext λq=>J q,λk=>Ck,λq hq=>if_neg hq,λq i hq=>?_,?_⟩
 ·show (if q=b then Y i else if q=b then [] else W.bs q i)=_;rw[if_neg hq,if_neg hq]
 ·rintro k ((H|H)|H|⟨z,X,H⟩|⟨z,i,l,I,R,O⟩)
  ·exact .inl (.inl H)
  ·exact .inr (.inl H)
  ·exact .inl (.inr (.inl H))
  ·refine .inl (.inr (.inr (.inl ⟨z,?_,by rw[<- H];exact (J z).symm⟩)));rcases aj b z ⟨(S b).ver+2,.agg,ap p c y⟩ S with ⟨rfl,e⟩|⟨_,e⟩
   ·exact hb
   ·exact⟨X.1,by rw[<- e];exact X.2⟩
  ·by_cases M:z=b
   ·subst M;rw[bk]at I;have O:k∈(if z=z then Y i else _):=O;rw[if_pos rfl]at O;exact .inr (.inr (m3 i l I R k O))
   ·rw[aJ M]at I;have O:k∈(if z=b then Y i else if z=b then [] else W.bs z i):=O;rw[if_neg M,if_neg M]at O;exact .inl (.inr (.inr (.inr ⟨z,i,l,I,R,O⟩)))
end
section
variable {P:Program} {V:Env} {Γ:List Ctr} {st:St} {R:Type}
theorem gy:∀ (ps:List PK) (xs:List (aI×List Leaf)) (r:Upd->List (aI×List Leaf)->Option (Bool×Nat×Nat)->Option R),kM st ps xs r=(cZ st ps xs).bind λu=>r u.1 u.2.1 u.2.2
 |[],xs,r=>rfl
 |_::_,[],r=>rfl
 |p::ps,x::xs,r=>by
  simp only[kM,cZ];split
  ·rw[gY];cases ck st (x.2.getD _ .dead) <;> rfl
  ·rw[gy ps xs];cases cZ st ps xs <;> rfl
theorem ll {a:Ty}:∀ {ls:List Leaf} {j k:Nat},lA a j ls=some k->j<=k/\∃ l,ls[k-j]?=some l/\jq l=true
 |[],_,_,h=>by simp[lA]at h
 |l::ls,j,k,h=>by
  simp only[lA]at h;cases r:jq l&&pt a j with
  |true =>
   rw[r]at h;simp only[cond_true,BD]at h;subst h;simp only[BF]at r;exact⟨BX _,l,by simp,r.1⟩
  |false =>
   rw[r]at h;obtain⟨H,z,y,u⟩:=ll h;exact⟨by omega,z,by rw[show k-j=(k-(j+1))+1 by omega];simpa using y,u⟩
theorem rB {p:PK}{ls:List Leaf}{k:Nat}(h:p.nest ls=some k):∃ l,ls[k]?=some l/\jq l=true:=by
 cases p with
 |own a=>obtain⟨_,l,u,r⟩:=ll h;exact⟨l,by simpa using u,r⟩
 |io a=>obtain⟨_,l,u,r⟩:=ll h;exact⟨l,by simpa using u,r⟩
 |_=>simp[PK.nest]at h
theorem tH (y:ax V){W W':Wit}{st':St}{w w':World}(z:cA V W W' st st' w w'):∀ {xs:List (aI×List Leaf)} {u:List Value},gS P V W st w xs u->gS P V W' st' w' xs u
 |[],_,h=>h
 |_::_,_,⟨v,r,J,e,M,I,H⟩=>⟨v,r,J,e,M,I.carry y.ro z,tH y z H⟩
theorem aB.setLeaf {W:Wit}{w:World}{ls:List Leaf}{cs:List Value}(u:aB P V W st w ls cs){k:Nat}{l:Leaf}(y:¬ am l)(h:∀ v,cs[k]?=some v->aK P V W st w [] l v):aB P V W st w (aU ls k l) cs:=by
 have r:=u.length;refine aB.mk (by simp[aU,r]) λj I v H z=>?_
 rcases aS _ _ _ _ _ H with ⟨rfl,rfl,M⟩|⟨J,H⟩
 ·exact⟨h v z,y,u.one' v (List.mem_of_getElem? z)⟩
 ·exact u.at_ j I v H z
def Br (W:Wit)(S:St)(w:World):Option (Bool×Nat×Nat)->Prop
 |some (_,r,j)=>∃ v,W.cs TMP=[v]/\tC W S w r j v
 |none=>True
theorem ov (O:ax V){W:Wit}{a:Act}{w:World}(h:an P V W st a w):∀ (ps:List PK) (xs:List (aI×List Leaf)) (Y:List Value) (U:Upd) (Z:List (aI×List Leaf)) (b:Option (Bool×Nat×Nat)),
  gS P V W st w xs Y->cZ st ps xs=some (U,Z,b)->∃ H,an P V H (ac U st) a w/\gS P V H (ac U st) w Z Y/\H.nw=W.nw/\H.β=W.β/\Br H (ac U st) w b/\cA V W H st (ac U st) w w/\(∀ q,(ac U st q).sh=(st q).sh\/q=TMP) /\
   (∀ f r j,b=some (f,r,j)->f=true->ps.any PK.isIo=true)
 |[],xs,Y,U,Z,b,hx,y=>by
  simp only[cZ,BD,CG]at y;obtain⟨rfl,rfl,rfl⟩:=y;exact⟨W,h,hx,rfl,rfl,trivial,cA.refl V W st w,λ_=>.inl rfl,λ_ _ _ h=>by cases h⟩
 |_::_,[],Y,U,Z,b,hx,y=>by
  simp only[cZ,BD,CG]at y;obtain⟨rfl,rfl,rfl⟩:=y;exact⟨W,h,hx,rfl,rfl,trivial,cA.refl V W st w,λ_=>.inl rfl,λ_ _ _ h=>by cases h⟩
 |p::ps,x::xs,Y,U,Z,b,⟨v,M,cs,e,hs,hl,z⟩,y=>by
  subst e;simp only[cZ]at y;split at y
  ·rename_i k hk;simp only[BE]at y;obtain⟨u,I,y⟩:=y;simp only[CG]at y;obtain⟨rfl,rfl,rfl⟩:=y;obtain⟨l,J,a1⟩:=rB hk;have hg:x.2.getD k .dead=l:=by rw[CI,J];rfl
   rw[hg]at I ⊢;have a0:k<cs.length:=by rw[<- hl.length];exact (BG.1 J).1
   have X:=BW a0;obtain⟨U,l'⟩:=u;obtain⟨H,n,p0,E0,e0,a2,g1,g2,g3,g4,_,_,g5,g6,_,g7,g8,g9⟩:=vg O h (hl.at_ k l _ J X).1 I;subst g3;refine⟨H,g1,⟨v,M,cs,rfl,hs,(hl.carry O.ro g2).setLeaf id λu I=>?_,tH O g2 z⟩,g5,g6,⟨_,g7,g9⟩,g2,g8,λf r j hb hf=>?_⟩
   ·rw[X]at I;simp only[BD]at I;subst I;exact g4
   ·simp only[BD,CG]at hb;rw[Cd,hb.1,hf];rfl
  ·simp only[BE]at y;obtain⟨u,I,y⟩:=y;simp only[CG]at y;obtain⟨rfl,rfl,rfl⟩:=y;obtain⟨H,g1,g2,g3,g4,g5,g6,g7,g8⟩:=ov O h ps xs M u.1 u.2.1 u.2.2 z I;exact⟨H,g1,⟨v,M,cs,rfl,hs,hl.carry O.ro g6,g2⟩,g3,g4,g5,g6,g7,λf r j hb hf=>by rw[Cd,g8 f r j hb hf,Bool.or_true]⟩
end
section
variable {P:Program} {V:Env} {Γ:List Ctr} {st:St}
theorem iK {st:St}{q i:Nat}:∀ {ks:List (Nat×Nat)},(q,i)∉ks->(ac (aE st ks) st q).ls[i]?=(st q).ls[i]?
 |[],_=>rfl
 |(r,j)::ks,h=>by
  simp only[CV,not_or]at h;have e:ac (aE st ((r,j)::ks)) st=ac [(r,fX (ac (aE st ks) st r) j)] (ac (aE st ks) st):=aP _ _ _ _;rw[e];rcases aj r q (fX (ac (aE st ks) st r) j) (ac (aE st ks) st) with ⟨rfl,e⟩|⟨_,e⟩
  ·rw[e];simp only[fX,aU];rw[CS (λu=>h.1 (by rw[u]))];exact iK h.2
  ·rw[e];exact iK h.2
theorem lm {st:St}{q i:Nat}:∀ {ks:List (Nat×Nat)},(q,i)∉ks->(ac (aN st ks) st q).ls[i]?=(st q).ls[i]?
 |[],_=>rfl
 |(r,j)::ks,h=>by
  simp only[CV,not_or]at h;have e:ac (aN st ((r,j)::ks)) st=ac [(r,gb (ac (aN st ks) st r) j)] (ac (aN st ks) st):=aP _ _ _ _;rw[e];rcases aj r q (gb (ac (aN st ks) st r) j) (ac (aN st ks) st) with ⟨rfl,e⟩|⟨_,e⟩
  ·rw[e];simp only[gb,aU];rw[CS (λu=>h.1 (by rw[u]))];exact lm h.2
  ·rw[e];exact lm h.2
theorem nn (d n:Nat)(p q:Bool)(ks:List (Nat×Nat×Nat))(ep:Nat):∀ (z:List RK) (y:ai z),∀ x∈(bE d n p q ks ep z y).2,x.1=B0+d
 |[],_,x,u=>by simp[bE]at u
 |r::z,y,x,u=>by
  simp only[bE,BO]at u;rcases u with u|u
  ·cases r <;> simp[pq]at u;rw[u]
  ·exact nn d n p q ks ep z y.2 x u
theorem rD {q:Nat}(st:St):∀ (U:Upd),(∀ x∈U,x.1≠q)->ac U st q=st q
 |[],_=>rfl
 |(r,c)::U,h=>by
  rw[aP,aJ (CT (h (r,c) (BZ ..)))];exact rD st U (λx u=>h x (BS _ u))
def mu (u:St)(c:Ctr)(d:Nat)(xs:List (aI×List Leaf))(g:Got (ab c.ps))(y:ai c.rs×ah c.ps):Upd :=
 let H:=(let U:=(bif c.fresh then [] else aE u g.frz);aN (ac U u) g.kill++U);let z:=aF (ac H u) (g.p&&!c.fresh) c.ps xs y.2++H;let r:=bE d (ac z u (B0+d)).ver (g.p&&!c.fresh) g.p (g.frz.map λk=>(k.1,k.2,(ac z u k.1).ver)) (ac z u EPO).ver c.rs y.1
 (d,eV ((ac (r.2++z) u d).ver+1) r.1)::(r.2++z)
theorem zq (hV:ax V){W0:Wit}{u:St}{a:Act}{w:World}(h0:an P V W0 u a w){c:Ctr}{xs:List (aI×List Leaf)}{vs:List Value}(ed:gS P V W0 u w xs vs){g:Got (ab c.ps)}(hg:bd (ca Γ u) c.ps xs=some g)
  (hf:∀ z∈g.frz,aA u z) (H:∀ z∈g.kill,aA u z) (f3:∀ b∈g.lend,live u b) (ej:a7 g.kill=true) (e6:dE g.frz g.kill=true) (hE:∀ z∈g.kill,z.1≠EPO) (ad:g.lend.length<=1) (f4:g.lend=[]\/c.ps.any PK.isIo=false)
  {bb:List (List Nat)} (c1:∀ k,bb.flatten.count k=(g.lend.map W0.β).count k+(aY W0 g.kill).count k)
  {d:Nat} (hd:d<V.nt) (e4:∀ x∈V.fixt,x.1≠d) (a4:gD u d c.rs=true) (en:((c.fresh&&g.lend.isEmpty)||!(c.rs.any RK.isBv))=true) {y:ai c.rs×ah c.ps} {e:Ending} {w':World} (cp:tD c w (bo V W0 g.p g.frz) vs bb y e w') :
  ∃ v,e=.returned v/\∃ W1,an P V W1 (ac (mu u c d xs g y) u) (a.put (some d) v) w'/\(∀ q,q≠d->q≠B0+d->q∉g.lend->W1.cs q=W0.cs q) /\
   (∀ q i,q≠d->q≠B0+d->q∉g.lend->(q,i)∉g.frz->(q,i)∉g.kill->(ac (mu u c d xs g y) u q).ls[i]?=(u q).ls[i]?)/\(∀ k,k<w.heap.size->k∉aY W0 g.kill->k∉g.lend.map W0.β->w'.heap[k]?=w.heap[k]?)/\w.heap.size<=w'.heap.size:=by
 obtain⟨v,us,N,cc,b9,rfl,d2,c4,ef,eb,e5,f1,hN,bn,ec,Y,Z⟩:=cp;have a5:∀ k,k∈bb.flatten<->k∈g.lend.map W0.β\/k∈aY W0 g.kill:=λk=>by
  rw[<- BN,<- BN,<- BN,c1 k];omega
 have a0:∀ k,k<w.heap.size->k∉aY W0 g.kill->k∉g.lend.map W0.β->w'.heap[k]?=w.heap[k]?:=λk h1 h2 h3=>f1 k h1 (λh=>((a5 k).1 h).elim h3 h2)
 refine⟨v,rfl,?_⟩;unfold mu;generalize ba:(bif c.fresh then [] else g.frz)=O;have hU:(bif c.fresh then [] else aE u g.frz)=aE u O:=by rw[<- ba];cases c.fresh <;> rfl
 have dd:dE O g.kill=true:=by rw[<- ba];cases c.fresh with|true=>rfl|false=>exact e6
 have c2:∀ z∈O,z∈g.frz:=by rw[<- ba];cases c.fresh with|true=>simp|false=>exact λ_ h=>h
 have f6:∀ z∈O,aA u z:=λz hz=>hf z (c2 z hz)
 rw[hU];obtain⟨h1,h2,h3,h4⟩:=fK hV h0 dd H;have b1:∀ q i,(q,i)∉g.frz->(q,i)∉g.kill->(ac (aN (ac (aE u O) u) g.kill++aE u O) u q).ls[i]?=(u q).ls[i]?:=λq i q1 q2=>by
  rw[bD,lm q2,iK (λh=>q1 (c2 _ h))]
 generalize f5:aN (ac (aE u O) u) g.kill++aE u O=I at h1 h2 h3 h4 b1;have a2:∀ k∈aY W0 g.kill,¬ cd V (W0.frz u O) (ac I u) k:=λk H=>mp ⟨(h4 k H).1,(h4 k H).2.1,(h4 k H).2.2.2.1,(h4 k H).2.2.2.2⟩
 have a1:∀ k,p8 w w' bb.flatten k->k∉g.lend.map W0.β->k<w'.heap.size/\¬ cd V (W0.frz u O) (ac I u) k:=by
  rintro k ⟨et,a9⟩ ex;refine⟨et,λJ=>?_⟩;rcases a9 with a9|a9
  ·have:=h1.used_lt k J;omega
  ·exact ((a5 k).1 a9).elim ex (λa9=>a2 k a9 J)
 have hG:∀ k,(N k\/(c.fresh=false/\bo V W0 g.p g.frz k))->gd V { W0.frz u O with nw:=λk=>(W0.frz u O).nw k\/N k } (g.p&&!c.fresh) k:=by
  rintro k (H|⟨e7,H⟩)
  ·exact .inl (.inr H)
  ·have e1:O=g.frz:=by rw[<- ba,e7];rfl
   have:=ku (V:=V) (W:=W0) (p:=g.p) hf k H;rw[e7];rw[<- e1]at this;exact bU (W':={ W0.frz u O with nw:=λk=>(W0.frz u O).nw k\/N k }) (by intro h;simp[h]) (λ_ h=>Or.inl h) k this
 rw[CK]at Y;have cw:∀ (W2:Wit),an P V W2 (ac (aF (ac I u) (g.p&&!c.fresh) c.ps xs y.2++I) u) a w'->(∀ k,(N k\/(c.fresh=false/\bo V W0 g.p g.frz k))->gd V W2 (g.p&&!c.fresh) k) ->
   (∀ k∈b9.flatten,¬ cd V W2 (ac (aF (ac I u) (g.p&&!c.fresh) c.ps xs y.2++I) u) k) ->
   (c.rs.any RK.isBv=true->∀ x∈g.frz,∀ k,k∈W0.bs x.1 x.2->k∈W2.bs x.1 x.2)->(c.rs.any RK.isBv=true->∀ k,W0.nw k->W2.nw k) ->
   (∀ q,q∉g.lend->W2.cs q=W0.cs q)->(∀ q i,q∉g.lend->(q,i)∉g.frz->(q,i)∉g.kill->(ac (aF (ac I u) (g.p&&!c.fresh) c.ps xs y.2++I) u q).ls[i]?=(u q).ls[i]?) ->
   (∀ q,(ac (aF (ac I u) (g.p&&!c.fresh) c.ps xs y.2++I) u q).sh=(u q).sh) ->
   ∃ W1,an P V W1 (ac (let R:=aF (ac I u) (g.p&&!c.fresh) c.ps xs y.2++I
     let r:=bE d (ac R u (B0+d)).ver (g.p&&!c.fresh) g.p (g.frz.map λk=>(k.1,k.2,(ac R u k.1).ver)) (ac R u EPO).ver c.rs y.1
     (d,eV ((ac (r.2++R) u d).ver+1) r.1)::(r.2++R)) u) (a.put (some d) v) w'/\(∀ q,q≠d->q≠B0+d->q∉g.lend->W1.cs q=W0.cs q) /\
    (∀ q i,q≠d->q≠B0+d->q∉g.lend->(q,i)∉g.frz->(q,i)∉g.kill->(ac (let R:=aF (ac I u) (g.p&&!c.fresh) c.ps xs y.2++I
     let r:=bE d (ac R u (B0+d)).ver (g.p&&!c.fresh) g.p (g.frz.map λk=>(k.1,k.2,(ac R u k.1).ver)) (ac R u EPO).ver c.rs y.1
     (d,eV ((ac (r.2++R) u d).ver+1) r.1)::(r.2++R)) u q).ls[i]?=(u q).ls[i]?):=by
  intro W2 g1 d3 a3 eg em dc c0 bx;generalize aF (ac I u) (g.p&&!c.fresh) c.ps xs y.2++I=R at g1 a3 c0 bx ⊢;have d1:gD (ac R u) d c.rs=true:=by
   unfold gD at a4 ⊢;split at a4
   ·rw[bx];exact a4
   ·exact a4
  obtain⟨W1,q1,q2⟩:=wv hV g1 (q:=g.p) (ks:=g.frz.map λk=>(k.1,k.2,(ac R u k.1).ver)) (ep:=(ac R u EPO).ver) ec d3 (λhb=>by
   refine⟨λk H=>?_,BX _,λk H=>?_⟩
   ·rcases H with H|(H|H)|⟨x,hx,H⟩
    ·exact .inl (bU (W':=W2) (by intro h;simp at h;exact h.1) (λ_ h=>h) k (d3 k H))
    ·exact .inl (.inl (em hb k H))
    ·exact .inl (.inr H)
    ·exact .inr ⟨(x.1,x.2,(ac R u x.1).ver),Cv.2 ⟨x,hx,rfl⟩,eg hb x hx k H⟩
   ·obtain⟨x,hx,rfl⟩:=Cv.1 H;exact BX _) a3 Y.2.1 d2 hd e4 d1
  have e1:∀ (X:Upd) (C:bR),ac ((d,C)::(X++R)) u=ac ((d,C)::X) (ac R u):=λX C=>by
   rw[aP d C (X++R),aP d C X,bD]
  simp only[e1,bD];refine⟨W1,q1,λq hq cy cb=>(q2 q hq cy).trans (dc q cb),λq i hq cy cb b2 a6=>?_⟩;rw[aP,aJ hq,rD _ _ (λx hx=>by rw[nn _ _ _ _ _ _ _ _ x hx];exact CT cy)];exact c0 q i cb b2 a6
 refine (?_:∃ W1,_/\_/\_).imp λW1 hh=>⟨hh.1,hh.2.1,hh.2.2,a0,c4⟩
 cases M:g.lend with
 |nil =>
  rw[M]at a5 a0 a1 c1;simp only[DE,List.not_mem_nil,not_false_iff,true_implies,forall_const,false_or]at a5 a0 a1;rw[M]at cw;have h5:=h1.world hV c4 ef eb e5 (λk H=>a0 k (h1.used_lt k H) (λhm=>a2 k hm H));have h6:=h5.nwGrow hV N (λk H=>a1 k (hN k H));have cu:∀ k,cd V { W0.frz u O with nw:=λk=>(W0.frz u O).nw k\/N k } (ac I u) k->cd V (W0.frz u O) (ac I u) k\/N k:=by
   rintro k ((H|H)|H|H|H)
   ·exact .inl (.inl H)
   ·exact .inr H
   ·exact .inl (.inr (.inl H))
   ·exact .inl (.inr (.inr (.inl H)))
   ·exact .inl (.inr (.inr (.inr H)))
  have b3:∀ k∈cc.flatten++b9.flatten,¬ cd V { W0.frz u O with nw:=λk=>(W0.frz u O).nw k\/N k } (ac I u) k:=λk H J=>by
   obtain⟨q1,q2⟩:=Z k H;rcases cu k J with J|J
   ·exact (a1 k q1).2 J
   ·exact q2 J
  obtain⟨W2,g1,g2,g3,g4,g5,g6,g7⟩:=qJ (Γ:=Γ) hV (W0:=W0) (W:={ W0.frz u O with nw:=λk=>(W0.frz u O).nw k\/N k }) (p:=g.p&&!c.fresh) rfl hG h6 c.ps xs vs g y.2 cc ed hg (tG c.ps xs g hg M) bn ej hE
   (λx hx l hl ho=>(h2 x.1 x.2 l hl ho).2.2 hx) (λk H=>b3 k (BM _ H)) Y.1
  rw[<- bD]at g1 g5 g6 g7;refine cw W2 g1 (λk H=>?_) (λk H J=>?_) (λhb x hx k H=>?_) (λhb k H=>?_) (λq _=>by rw[g2];rfl) (λq i _ b2 a6=>(g6 q i a6).1.trans (b1 q i b2 a6)) (λq=>(g5 q).1.trans (h3 q).1)
  ·rcases hG k H with H|H
   ·exact .inl (by rw[g4];exact H)
   ·exact .inr H
  ·rcases g7 k J with J|J
   ·exact b3 k (BH _ H) J
   ·exact Y.2.2 k J k H rfl
  ·rw[(g6 x.1 x.2 (nL e6 x hx)).2];exact H
  ·rw[g4];exact .inl (.inl H)
 |cons b e0 =>
  have c3:e0=[]:=by
   rw[M]at ad;simp at ad;exact ad
  subst c3;have f2:c.ps.any PK.isIo=false:=f4.resolve_left (by rw[M];simp);have es:c.rs.any RK.isBv=false:=by
   rw[M]at en;simpa using en
  obtain⟨_,r2⟩:=o9 (Γ:=Γ) h0 (S:=ac I u) (p:=g.p&&!c.fresh) c.ps xs vs g y.2 cc ed hg f2 bn;obtain⟨cT,yv,cs,E,b0,r3,r4,r5,r6,r7⟩:=r2 b M;rw[r6]at Y Z;have hβ:(W0.frz u O).β=W0.β:=rfl;have bl:∀ k,k∈g.lend.map W0.β<->k=W0.β b:=λk=>by rw[M];simp
  have hb:live (ac I u) b:=(iA (λq=>(h3 q).1) b).2 (f3 b (by rw[M];simp));have cx:∀ k,k∈(W0.β b::b0)++b9.flatten->¬ N k:=λk H=>(Z k H).2
  obtain⟨W2,g1,g2,g3,g4,g5,g6⟩:=zp hV h1 hb (N:=N) (p:=g.p&&!c.fresh) r4 r5 Y.1 (by rw[h1.len b];show (W0.cs b).length=_;rw[<- h0.len b];exact r7)
   (λk J f0=>a0 k (h1.used_lt k J) (λhm=>a2 k hm J) (λhm=>f0 ((bl k).1 hm))) c4 ef eb e5
   (λk H=>a1 k (hN k H) (λhm=>cx _ (BM _ (BZ ..)) (by rw[<- (bl k).1 hm];exact H)))
   (λk H=>⟨(a1 k (Z k (BM _ (BS _ H))).1 (λhm=>by
    have:=(bl k).1 hm;subst this;exact (CO.1 Y.1).1 H)).2,cx k (BM _ (BS _ H))⟩) hG
  have e2:ac (aF (ac I u) (g.p&&!c.fresh) c.ps xs y.2++I) u=ac [(b,⟨(ac I u b).ver+2,.agg,ap (g.p&&!c.fresh) cT yv⟩)] (ac I u):=by rw[bD,r3]
  have ev:∀ k∈b9.flatten,k∉g.lend.map W0.β:=λk H hm=>Y.2.2 _ (BZ ..) k H ((bl k).1 hm).symm
  rw[<- e2]at g1 g6;have b4:=cw W2 g1 (λk H=>?_) (λk H J=>?_) (λb5=>by rw[es]at b5;cases b5) (λb5=>by rw[es]at b5;cases b5) (λq hq=>?_) (λq i hq b2 a6=>?_) (λq=>?_)
  ·rw[M]at b4;exact b4
  ·rcases hG k H with H|H
   ·exact .inl ((g3 k).2 H)
   ·exact .inr H
  ·rcases g6 k J with J|J|J
   ·exact (a1 k (Z k (BH _ H)).1 (ev k H)).2 J
   ·exact cx k (BH _ H) J
   ·exact Y.2.2 k (BS _ J) k H rfl
  ·rw[M]at hq;rw[g4 q (by simpa using hq)];rfl
  ·rw[M]at hq;rw[e2,aJ (by simpa using hq)];exact b1 q i b2 a6
  ·rw[e2];rcases aj b q ⟨(ac I u b).ver+2,.agg,ap (g.p&&!c.fresh) cT yv⟩ (ac I u) with ⟨rfl,e3⟩|⟨_,e3⟩
   ·rw[e3];have:=hb.2;rw[(h3 q).1]at this;exact this.symm
   ·rw[e3];exact (h3 q).1
end
section
variable {P:Program} {V:Env} {Γ:List Ctr} {T:TypeId->TI} {st:St} {o:Oper} {R:Type} {κ:Upd->Option R} {r:R}
theorem zr {ls:List Leaf}{j:Nat}{p:Bool}{u:Option (Nat×Nat)}{E:TypeId}{e:Ty}{xs:List e.den}(h:ls.getD j .dead=.own p u E e xs):ls[j]?=some (.own p u E e xs):=by
 rw[CI]at h;cases y:ls[j]? with
 |none=>rw[y]at h;simp at h
 |some z=>rw[y]at h;simp at h;rw[h]
theorem AG (hV:ax V){b:Option (Bool×Nat×Nat)}{U:Upd}(h:j0 st b U κ=some r) :
  ∃ U',κ U'=some r/\∀ I a w,an P V I (ac U st) a w->(∀ q j,b=some (true,q,j)->∃ v,I.cs TMP=[v]/\tC I (ac U st) w q j v)->Rel P V (ac U' st) a w:=by
 unfold j0 at h;split at h
 ·rename_i q j;split at h
  ·rename_i p i off E' e' xs q' E e ys hq b4;obtain⟨y,hy,h⟩:=CA.1 h;obtain⟨_,_,hy⟩:=gm hy;simp only[DF]at hy;split at h
   ·rename_i z hz;refine⟨_,h,λI a w hr hb=>?_⟩;obtain⟨v,c1,a3,c3,i0,b5,p0,E0,e0,bn,g,cp,g1,g2,g3,g4⟩:=hb q j rfl;have hq:=zr hq;rw[hq]at g1;obtain⟨rfl,bl,rfl,h4⟩:p=p0/\some (i,off)=some (i0,b5)/\E'=E0/\(⟨e',xs⟩:(e:Ty)×List e.den)=⟨e0,bn⟩:=by
     simp only[BD,Leaf.own.injEq]at g1;obtain⟨q1,q2,q3,q4,q5⟩:=g1;subst q4;rw[heq_eq_eq]at q5;subst q5;exact⟨q1,by simpa using q2,q3,rfl⟩
    simp only[BD,CG]at bl;obtain⟨rfl,rfl⟩:=bl;simp only[Sigma.mk.injEq]at h4;obtain⟨rfl,h4⟩:=h4;rw[heq_eq_eq]at h4;subst h4;generalize hS:ac U st=S at hr hq g1 g2 g3 b4 ⊢;have a9:(S TMP).ls[0]?=some (.own q' none E e ys):=by rw[b4];rfl
    have b9:(I.cs TMP)[0]?=some v:=by rw[c1];rfl
    have b0:=hr.leaf q j _ _ hq g2;have ad:=hr.leaf TMP 0 _ _ a9 b9;have b0:OwH w (gd V I p) (some (i,off)) E' e' xs _ (I.bs q j):=b0;have ad:Ow w (gd V I q') E e ys v (I.bs TMP 0):=ad;have bb:=b0.carry (G':=gd V I (p||q')) (bU (W':=I) (by intro h;simp[h]) (λ_ h=>h)) (λ_ _=>rfl) (λ_ _=>rfl);have ba:=OwH.carry (G':=gd V I (p||q')) ad (bU (W':=I) (by intro h;simp[h]) (λ_ h=>h)) (λ_ _=>rfl) (λ_ _=>rfl);have c0:∀ k∈I.bs TMP 0,k∉I.bs q j:=λk M a1=>a3 (hr.sep TMP 0 _ q j _ a9 trivial hq trivial k M a1).1.symm
    obtain⟨b2,c4,bx⟩:=bb.back ba c0 hy hz (λg' cb e1=>by
     simp only[CC,BD,Cn,and_true]at e1;rw[<- e1.1];exact g4)
    have c2:∀ k∈b2,k∈I.bs q j\/k∈I.bs TMP 0:=λk M=>by
     have h5:=bx k;have h6:=BN.2 M;by_cases h7:k∈I.bs q j
     ·exact .inl h7
     ·have:=B5.2 h7;exact .inr (BN.1 (by omega))
    obtain⟨h1,cc⟩:=hr.putGhost hV TMP iZ.1 iZ.2.1 ((S TMP).ver+1) .off [] [] (λ_=>[]) (BP _) rfl (by simp) (λj l u hj=>by simp at hj) (λj l hj=>by simp at hj) (λj j' l l' hj=>by simp at hj);have a5:∀ x,x≠TMP->ac [(TMP,⟨(S TMP).ver+1,.off,[]⟩)] S x=S x:=λx hx=>aJ hx _ _
    have a6:(ac [(TMP,⟨(S TMP).ver+1,.off,[]⟩)] S) q=S q:=a5 q a3;have H:∀ (X:Nat) (l':Leaf),X≠j->(aU (S q).ls j (.own (p||q') none E' e' (xs.set i z)))[X]?=some l'->(S q).ls[X]?=some l':=by
     intro X l' a2 a0;rcases aS _ _ _ _ _ a0 with ⟨rfl,_,_⟩|⟨_,a0⟩
     ·exact absurd rfl a2
     ·exact a0
    have b3:∀ (l':Leaf),(aU (S q).ls j (.own (p||q') none E' e' (xs.set i z)))[j]?=some l'->l'=.own (p||q') none E' e' (xs.set i z):=by
     intro l' a0;rcases aS _ _ _ _ _ a0 with ⟨_,rfl,_⟩|⟨a2,_⟩
     ·rfl
     ·exact absurd rfl a2
    have a4:∀ b,live (ac [(TMP,⟨(S TMP).ver+1,.off,[]⟩)] S) b->live S b:=λb hb=>by
     have:b≠TMP:=by have:=hb.1;have:=iZ.2.1;omega
     exact⟨hb.1,by rw[<- a5 b this];exact hb.2⟩
    have b1:∀ k∈b2,¬ I.nw k/\¬ V.prot k/\(∀ b,live S b->I.β b≠k)/\∀ (Y i1:Nat) (l1:Leaf),(S Y).ls[i1]?=some l1->am l1->(Y,i1)≠(q,j)->Y≠TMP->k∉I.bs Y i1:=λk M=>by
     rcases c2 k M with M|M
     ·have h9:=hr.ownb q j _ hq trivial k M;exact⟨h9.1,h9.2.1,h9.2.2,λY i1 l1 g5 g6 g7 _ g8=>g7 (by obtain⟨e1,e2⟩:=hr.sep Y i1 l1 q j _ g5 g6 hq trivial k g8 M;rw[e1,e2])⟩
     ·have h9:=hr.ownb TMP 0 _ a9 trivial k M;exact⟨h9.1,h9.2.1,h9.2.2,λY i1 l1 g5 g6 _ g7 g8=>g7 (hr.sep Y i1 l1 TMP 0 _ g5 g6 a9 trivial k g8 M).1⟩
    have h2:=(h1.reownE hV q ⟨(S q).ver,(S q).sh,aU (S q).ls j (.own (p||q') none E' e' (xs.set i z))⟩ (λX=>if X=j then b2 else I.bs q X) c3 (by rw[a6];exact BX _) (by rw[a6]) (by rw[a6];simp[aU])
     (λX l' u g5 g6=>by
      have g6:(if q=TMP then [] else I.cs q)[X]?=some u:=g6;rw[if_neg a3]at g6;by_cases J:X=j
      ·subst J;obtain rfl:=b3 l' g5;rw[g2]at g6;simp only[BD]at g6;subst g6;simp only[if_true];exact c4
      ·simp only[if_neg J];have:=h1.leaf q X l' u (by rw[a6];exact H X l' J g5) (by show (if q=TMP then [] else I.cs q)[X]?=_;rw[if_neg a3];exact g6);have e0:(if q=TMP then ([]:List Nat) else I.bs q X)=I.bs q X:=if_neg a3;simp only[e0]at this;exact this)
     (λX l' g5 g6 k M=>by
      by_cases J:X=j
      ·subst J;simp only[if_true]at M;obtain⟨q1,q2,q3,q4⟩:=b1 k M;refine⟨q1,q2,λb hb=>q3 b (a4 b hb),λY j1 l1 a2 g7 g8 g9=>?_⟩;by_cases Z:Y=TMP
       ·subst Z;rw[bk]at g7;simp at g7
       ·rw[a5 Y Z]at g7;have g9:k∈(if Y=TMP then [] else I.bs Y j1):=g9;rw[if_neg Z]at g9;exact q4 Y j1 l1 g7 g8 (λe=>a2 (by cases e;rfl)) Z g9
      ·simp only[if_neg J]at M;have a0:=H X l' J g5;have h9:=hr.ownb q X l' a0 g6 k M;refine⟨h9.1,h9.2.1,λb hb=>h9.2.2 b (a4 b hb),λY j1 l1 a2 g7 g8 g9=>?_⟩;by_cases Z:Y=TMP
       ·subst Z;rw[bk]at g7;simp at g7
       ·rw[a5 Y Z]at g7;have g9:k∈(if Y=TMP then [] else I.bs Y j1):=g9;rw[if_neg Z]at g9;exact a2 (hr.sep q X l' Y j1 l1 a0 g6 g7 g8 k M g9).1.symm)
     (λi1 i2 l1 l2 g5 g6 g7 g8 k M a1=>by
      by_cases J:i1=j <;> by_cases O:i2=j
      ·omega
      ·subst J;simp only[if_true]at M;simp only[if_neg O]at a1;exact absurd a1 ((b1 k M).2.2.2 q i2 l2 (H i2 l2 O g7) g8 (λe=>O (by cases e;rfl)) a3)
      ·subst O;simp only[if_true]at a1;simp only[if_neg J]at M;exact absurd M ((b1 k a1).2.2.2 q i1 l1 (H i1 l1 J g5) g6 (λe=>J (by cases e;rfl)) a3)
      ·simp only[if_neg J]at M;simp only[if_neg O]at a1;exact (hr.sep q i1 l1 q i2 l2 (H i1 l1 J g5) g6 (H i2 l2 O g7) g8 k M a1).2)).1
    show ∃ W,an P V W _ a w;have e1:ac ((q,⟨(S q).ver,(S q).sh,aU (S q).ls j (.own (p||q') none E' e' (xs.set i z))⟩)::(TMP,⟨(S TMP).ver+1,.off,[]⟩)::(EPO,bV (S EPO))::U) st =
      ac [(q,⟨(S q).ver,(S q).sh,aU (S q).ls j (.own (p||q') none E' e' (xs.set i z))⟩),(EPO,bV (ac [(TMP,⟨(S TMP).ver+1,.off,[]⟩)] S EPO))] (ac [(TMP,⟨(S TMP).ver+1,.off,[]⟩)] S):=by
     rw[a5 EPO (CT iZ.2.2),aP q,aP TMP,aP EPO,hS,aP q _ [(EPO,bV (S EPO))],na iZ.2.2]
    rw[e1];exact⟨_,h2⟩
   ·cases h
  ·cases h
 ·exact⟨_,h,λI a w hr _=>⟨I,hr⟩⟩
theorem vk (hV:ax V)(hΓ:∀ c∈Γ,bP P c){d:Nat}(hd:d<V.nt)(dd:∀ x∈V.fixt,x.1≠d){f:FuncId}{xs:List (aI×List Leaf)}(h:jr Γ st d f xs κ=some r) :
  fU P f/\∃ U,κ U=some r/\∀ W a w,an P V W st a w->∀ vs,gS P V W st w xs vs->Calls P f vs.toArray w (λe w'=>∃ v,e=.returned v/\Rel P V (ac U st) (a.put (some d) v) w'):=by
 unfold jr at h;split at h
 ·rename_i c hc;obtain⟨e7,rfl⟩:=nl hc;obtain⟨d1,b0⟩:=hΓ c e7;refine⟨d1,?_⟩;rw[gy]at h;obtain⟨⟨U0,ys,b⟩,cb,h⟩:=CA.1 h;simp only at h;split at h
  ·rename_i g hg;cases J:a7 g.kill&&dE g.frz g.kill&&gD st d c.rs&&!(g.see.any λq=>g.lend.any (BU q))&&Cs g.lend.length 1&&(g.lend.isEmpty||!(c.ps.any PK.isIo))&&((c.fresh&&g.lend.isEmpty)||!(c.rs.any RK.isBv))&&(g.kill.all λk=>!BU k.1 EPO)&&oJ b g.frz g.kill d with
   |false=>rw[J]at h;cases h
   |true =>
    rw[J]at h;simp only[cond_true]at h;simp only[BF]at J;obtain⟨⟨⟨⟨⟨⟨⟨⟨bl,e3⟩,M⟩,ba⟩,I⟩,eg⟩,fc⟩,hE⟩,e5⟩:=J;obtain⟨y,hy,h⟩:=CA.1 h;obtain⟨U',en,bx⟩:=AG (P:=P) (V:=V) hV h;refine⟨U',en,λW a w hr vs f5=>?_⟩;obtain⟨W0,X,c0,fl,hβ0,cx,ed,bb,e6⟩:=ov hV hr c.ps xs vs U0 ys b f5 cb;generalize a6:ac U0 st=S0 at X c0 cx ed bb hg;obtain⟨⟨b1,cc,a2⟩,hf,hk,a5⟩:=kH (uF hV hΓ X) c.ps ys vs g c0 hg;have hE:∀ z∈g.kill,z.1≠EPO:=λz hz e0=>by
     have:=List.all_eq_true.1 hE z hz;rw[e0]at this;simp at this
    have I:g.lend.length<=1:=CQ I;have b9:g.lend=[]\/c.ps.any PK.isIo=false:=by
     simp only[DZ,DN,B4]at eg;exact eg
    have c1:∀ k,k∈b1.flatten<->k∈g.lend.map W0.β\/k∈aY W0 g.kill:=λk=>by
     rw[<- BN,<- BN,<- BN,a2 k];omega
    have a4:∀ k,jW V W0 S0 g.frz g.see k->k<w.heap.size/\k∉b1.flatten:=by
     intro k H;refine⟨X.used_lt k (rA hf k H),λY=>?_⟩;rcases (c1 k).1 Y with Y|Y
     ·obtain⟨b',O,rfl⟩:=Cv.1 Y;have dc:=X.box b' (a5 b' O);rcases H with H|H|⟨b2,d2,a3,e2⟩|⟨z,hz,H⟩
      ·exact dc.1 H
      ·exact dc.2 H
      ·have:=X.inj b2 b' a3 (a5 b' O) e2;subst this;simp only[B4,CB]at ba;have:=ba b2 d2;rw[Bool.not_eq_true,CB]at this;have:=this b2 O;simp at this
      ·obtain⟨l,hl,ho⟩:=hf z hz;exact (X.ownb z.1 z.2 l hl ho _ H).2.2 b' (a5 b' O) rfl
     ·obtain⟨z,hz,Z⟩:=gl.1 Y;obtain⟨l,hl,ho⟩:=hk z hz;have a1:=X.ownb z.1 z.2 l hl ho k Z;rcases H with H|H|⟨b2,d2,a3,e2⟩|⟨z',cy,H⟩
      ·exact a1.1 H
      ·exact a1.2.1 H
      ·exact a1.2.2 b2 a3 e2
      ·obtain⟨l',f4,em⟩:=hf z' cy;obtain⟨e1,e2⟩:=X.sep z.1 z.2 l z'.1 z'.2 l' hl ho f4 em k Z H;exact nL e3 z' cy (by rw[show z'=z from Di e1.symm e2.symm];exact hz)
    have es:b1.flatten.Nodup:=bu.2 λk=>by
     rw[a2 k];have h5:=bu.1 (gN X bl hk) k;have h6:(g.lend.map W0.β).count k<=1:=by
      exact CL List.count_le_length (by rw[Cf];exact I)
     by_cases h7:k∈g.lend.map W0.β
     ·have:(aY W0 g.kill).count k=0:=B5.2 λY=>by
       obtain⟨b',O,e0⟩:=Cv.1 h7;obtain⟨z,hz,Z⟩:=gl.1 Y;obtain⟨l,hl,ho⟩:=hk z hz;exact (X.ownb z.1 z.2 l hl ho k Z).2.2 b' (a5 b' O) e0
      omega
     ·have:(g.lend.map W0.β).count k=0:=B5.2 h7;omega
    have b3:=b0 w (bo V W0 g.p g.frz) g.val vs b1 y (cc.mono (λ_ h=>h) a4) (λk H=>a4 k (mt hV k H)) es hy;have cp:gD S0 d c.rs=true:=by
     unfold gD at M ⊢;split at M
     ·rcases bb (B0+d) with e0|e0
      ·rw[e0];exact M
      ·exact absurd e0 (by have:=iZ.2.1;omega)
     ·exact M
    refine b3.mono λe w' c2=>?_
    obtain⟨v,rfl,W1,a0,b4,cw,c4,_⟩:=zq (Γ:=Γ) hV X c0 hg hf hk a5 bl e3 hE I b9 a2 hd dd cp fc c2;refine⟨v,rfl,?_⟩;refine bx W1 _ w' ?_ ?_
    ·have e1:=bD (mu S0 c d ys g y) U0 st;rw[a6]at e1;rw[<- e1]at a0;subst a6;unfold mu at a0;simp only[bD,BT,DR]at a0 ⊢;exact a0
    ·intro q j hb;subst hb;obtain⟨u,f3,et,f6,i,off,p,E,e,ev,gg,fd,q1,q2,q3,q4⟩:=cx;have e4:=e6 true q j rfl rfl;have ad:g.lend=[]:=b9.resolve_right (by rw[e4];simp);simp only[oJ,BF,B4]at e5;obtain⟨⟨⟨cu,ef⟩,b5⟩,bn⟩:=e5;have ec:q≠d:=λe0=>by rw[e0]at b5;simp at b5
     have d3:q≠B0+d:=λe0=>by rw[e0]at bn;simp at bn
     have eb:(q,j)∉g.kill:=λY=>by
      have:=CB.1 cu _ Y;simp[it]at this
     have ex:(q,j)∉g.frz:=λY=>by
      have:=CB.1 ef _ Y;simp[it]at this
     have ej:TMP≠d:=by have:=hV.nt;have:=iZ.1;omega
     have f0:TMP≠B0+d:=by have:=iZ.2.1;omega
     have hL:=cw q j ec d3 (by rw[ad];simp) ex eb;rw[q1]at hL;have hC:=b4 q ec d3 (by rw[ad];simp);have e1:=bD (mu S0 c d ys g y) U0 st;rw[a6]at e1;have f8:gg<w.heap.size:=X.own_lt q1 trivial gg q3;have f2:gg∉aY W0 g.kill:=λY=>by
      obtain⟨z,hz,Z⟩:=gl.1 Y;obtain⟨l,hl,ho⟩:=hk z hz;obtain⟨e1,e2⟩:=X.sep z.1 z.2 l q j _ hl ho q1 trivial gg Z q3;exact eb (by rw[show (q,j)=z from Di e1.symm e2.symm];exact hz)
     have c3:w'.cell? ⟨gg,i*e.cells+off,none⟩=some u:=by
      rw[kO (c4 gg f8 f2 (by rw[ad];simp))];exact q4
     have f7:gg∈W1.bs q j:=by
      have h9:=a0.leaf q j _ _ hL (by rw[hC];exact q2);obtain⟨_,fo,fi,_,f1,_⟩:=h9;rw[f1];simp[B8]
     refine⟨u,by rw[b4 TMP ej f0 (by rw[ad];simp)];exact f3,et,f6,i,off,p,E,e,ev,gg,fd,?_,by rw[hC];exact q2,f7,c3⟩;have a9:=hL;rw[<- e1]at a9;subst a6;unfold mu at a9;simp only[bD,BT,DR]at a9 ⊢;exact a9
  ·cases h
 ·cases h
end
section
variable {P:Program} {V:Env} {Γ:List Ctr} {T:TypeId->TI} {st:St} {o:Oper} {R:Type} {κ:Upd->Option R} {r:R}
theorem nT {W:Wit}{a:Act}{w:World}(h:an P V W st a w):∀ (l:List Operand),gS P V W st w (l.map (au st)) (l.map a.eval)
 |[]=>rfl
 |x::l=>by
  obtain⟨y,z,u⟩:=cU h x;exact⟨a.eval x,l.map a.eval,y,rfl,z,u,nT h l⟩
theorem nq {W:Wit}{w:World}:∀ {xs z:List (aI×List Leaf)} {y us:List Value},gS P V W st w xs y->gS P V W st w z us->gS P V W st w (xs++z) (y++us)
 |[],_,_,_,O,u=>by rw[show _=_ from O];exact u
 |x::xs,_,_,_,⟨v,I,M,e,H,X,J⟩,u=>by
  subst e;exact⟨v,_,M,rfl,H,X,nq J u⟩
theorem qK {a:Act}{w:World}{c:Call}{x:Operand}{f:FuncId}{caps:Array Value}(z:o.op=.call c)(M:c.callee=.value x)(J:a.eval x=.func (.func f) #[] caps)(I:fU P f){next:Act->World->Prop}{Q:Exit->Act->World->Prop}
  (u:Calls P f (c.args.map a.eval++caps) w (λe H=>∃ v,e=.returned v/\next (a.put o.dst v) H)):o.wp P a w next Q:=by
 unfold Oper.wp;have y:(execOp a.eval o).run P w=.ok (.enter f (c.args.map a.eval++caps)) w:=by
  have:=I (c.args.map a.eval++caps) w;simp[execOp,z,resolve,M,J,Deferred.ofValue,invoke,this]
 rw[y,Oper.upon_enter];refine u.mono λe H=>?_
 rintro⟨v,rfl,hn⟩;exact hn
theorem ln {p:Bool}:∀ {b:Ty} {x:b.den},b.flat=true->ap p b x=cH p b x
 |.int _,_,_=>rfl
 |.bool,_,_=>rfl
 |.str,_,_=>rfl
 |.unit,_,_=>rfl
 |.hdr,_,_=>rfl
 |.pair a b,x,h=>by
  simp only[Ty.flat,BF]at h;simp only[ap,cH,ln h.1,ln h.2]
 |.list _ _ _,_,h=>by simp[Ty.flat]at h
theorem rE (Z:ax V){W:Wit}{a:Act}{w:World}(h:an P V W st a w):∀ (J:List Ty) (xs:List (aI×List Leaf)) (X:List Value) (x:Tup J),gS P V W st w xs X->iL st J xs=some x ->
  se w (λk=>k<w.heap.size) J x X
 |[],[],X,_,hx,_=>hx
 |[],_::_,_,_,_,u=>by simp[iL]at u
 |_::_,[],_,_,_,u=>by simp[iL]at u
 |b::J,x::xs,X,z,⟨v,M,cs,e,hs,hl,H⟩,u=>by
  subst e;simp only[iL]at u;cases O:decide (x.1=bi b.isAgg) with
  |false=>simp[O]at u
  |true =>
   simp only[O,cond_true]at u;have O:=of_decide_eq_true O;rw[O]at hs;split at u
   ·rename_i p y hy;simp only[BE]at u;obtain⟨t,ht,rfl⟩:=u;have Y:=eH h hl hy;refine⟨v,cs,M,rfl,gx hs,Y.mono (λk I=>?_),rE Z h J xs M t H ht⟩;rcases I with (I|⟨_,I⟩)|⟨z,hz,I⟩
    ·exact (h.nwlt k I).1
    ·exact CN (Z.ro k I).1 h.size
    ·obtain⟨l,h1,h2⟩:=eq hl hz;exact h.own_lt h1 h2 k I
   ·cases u
theorem ya (hV:ax V)(hΓ:∀ c∈Γ,bP P c)(J:bN V o){c:Call}{f:Operand}(Y:o.op=.call c)(hc:c.callee=.value f)
  (h:act Γ T o st κ=some r):bW P V o st κ r:=by
 simp only[act,wrU,Y,hc]at h;split at h
 ·cases h
 ·rename_i d X;split at h
  ·rename_i g H Z;obtain⟨he,U,hU,z⟩:=vk hV hΓ (J d X).1 (J d X).2 h;refine⟨U,hU,λW a w I next Q hn=>?_⟩;obtain⟨M,_,_,_,_⟩:=bt I f (by rw[Z];simp);rw[Z]at M;have O:=nq (nT I c.args.toList) (so (p9 (P:=P) (V:=V) (W:=W) (w:=w) H M.2));rw[DJ]at O;have:=z W a w I _ O;have e:(c.args.toList.map a.eval++H.map λb=>Value.pointer (some ⟨W.β b,0,none⟩)).toArray=c.args.map a.eval++(H.map λb=>Value.pointer (some ⟨W.β b,0,none⟩)).toArray:=by
    apply De;simp
   rw[e]at this;refine qK Y hc M.1 he (this.mono λe w'=>?_);rintro⟨v,rfl,hrel⟩;refine⟨v,rfl,hn _ _ ?_⟩;rw[X];exact hrel
  ·rename_i g H Z;obtain⟨he,U,hU,z⟩:=vk hV hΓ (J d X).1 (J d X).2 h;refine⟨U,hU,λW a w I next Q hn=>?_⟩;obtain⟨M,_,_,_,_⟩:=bt I f (by rw[Z];simp);rw[Z]at M;obtain⟨us,M,a0,a2⟩:=M;have O:=nq (nT I c.args.toList) (so (qI (st:=st) a0 a2));rw[DJ]at O;have:=z W a w I _ O;have e:(c.args.toList.map a.eval++us).toArray=c.args.map a.eval++us.toArray:=by
    apply De;simp
   rw[e]at this;refine qK Y hc M he (this.mono λe w'=>?_);rintro⟨v,rfl,hrel⟩;refine⟨v,rfl,hn _ _ ?_⟩;rw[X];exact hrel
  ·rename_i As B φ Z;cases hb:B.flat with
   |false=>simp[hb]at h
   |true =>
    simp only[hb,cond_true]at h;split at h
    ·rename_i x hx;obtain⟨y,hy,h⟩:=CA.1 h;simp only[X]at h;refine⟨_,h,λW a w I next Q hn=>?_⟩;obtain⟨M,_,_,_,_⟩:=bt I f (by rw[Z];simp);rw[Z]at M;obtain⟨f',H,M,he,z⟩:=M;have a1:=rE hV I As _ _ x (nT I c.args.toList) hx;have:=z w I.size I.keep x _ y a1 hy;have e:(c.args.toList.map a.eval).toArray=c.args.map a.eval:=by apply De;simp
     rw[e]at this;refine qK Y hc M he (this.mono λe w'=>?_);rintro⟨u,cs,rfl,hvo,hrd,hbelow⟩;refine⟨u,rfl,hn _ _ ?_⟩;rw[X];have a4:=I.below hV hbelow;have a3:=fe (P:=P) (V:=V) (W:=W) (st:=st) (G:=λ_=>False) (p:=false) (λ_ h=>h.elim) hrd;rw[<- ln hb]at a3;exact a4.putLs hV d (J d X).1 (J d X).2 _ _ _ u cs (BP _) (kk hvo) a3
    ·cases h
  ·cases h
theorem Bs (H:ax V)(I:TOk P T)(hΓ:∀ c∈Γ,bP P c)(z:bN V o)(h:act Γ T o st κ=some r):bW P V o st κ r:=by
 cases u:o.op with
 |move x=>exact yn H z u h
 |assign x=>exact vE H z u h
 |pick c x y=>exact yp H z u h
 |alloc t=>exact x3 H I z u h
 |box t x=>exact AC H z u h
 |build t M=>exact wW H I z u h
 |buildSlice t n M=>exact qG H I z u h
 |load t x=>exact yt H I z u h
 |store t x y=>exact x5 H I u h
 |nilCheck x=>exact sI H z u h
 |binOp X t x y Z=>exact wS H I z u h
 |unOp X t x=>exact yq H z u h
 |convert s t x=>exact uD H I z u h
 |makeSlice t n c=>exact r8 H I z u h
 |slice t x lo hi Y=>exact x8 H I z u h
 |fieldAddr t x f=>exact rV H I z u h
 |field t x f=>exact wV H I z u h
 |indexAddr t x i=>exact rW H I z u h
 |index t x i=>exact wU H I z u h
 |extract x i=>exact uf H z u h
 |makeFunc fn first O=>exact sJ H z u h
 |call c =>
  cases J:c.callee with
  |value f=>exact ya H hΓ z u J h
  |builtin b =>
   cases b with
   |len=>exact zU H I z u J h
   |append=>exact wn H I z u J h
   |min=>exact AD H z u J h
   |max=>exact AE H z u J h
   |_ =>
    simp only[act,wrU,u,J]at h;split at h <;> cases h
  |_ =>
   simp only[act,wrU,u,J]at h;split at h <;> cases h
 |_=>simp[act,wrU,u]at h
end
def cz:Ty->Ty->Bool
 |.pair a b,z=>match z with
  |.pair c d=>cz a c&&cz b d
  |_=>false
 |.list m E e,z=>match z with
  |.list n u r=>decide (E=u)&&(bif n then m&&cz e r else decide (e.sh=r.sh))
  |_=>false
 |a,z=>decide (a=z)
theorem fV:∀ {a b:Ty},cz a b=true->a.sh=b.sh
 |.pair a b,z,h=>by
  cases z with
  |pair c d =>
   simp only[cz,BF]at h;simp only[Ty.sh,fV h.1,fV h.2]
  |_=>simp[cz]at h
 |.list m E e,z,h=>by
  cases z with
  |list n u r =>
   simp only[cz,BF,decide_eq_true_eq]at h;obtain⟨rfl,h⟩:=h;cases n with
   |true =>
    simp only[cond_true,BF]at h;simp only[Ty.sh,fV h.2]
   |false =>
    simp only[cond_false,decide_eq_true_eq]at h;simp only[Ty.sh,h]
  |_=>simp[cz]at h
 |.int _,z,h=>by simp only[cz,decide_eq_true_eq]at h;rw[h]
 |.bool,z,h=>by simp only[cz,decide_eq_true_eq]at h;rw[h]
 |.str,z,h=>by simp only[cz,decide_eq_true_eq]at h;rw[h]
 |.unit,z,h=>by simp only[cz,decide_eq_true_eq]at h;rw[h]
 |.hdr,z,h=>by simp only[cz,decide_eq_true_eq]at h;rw[h]
theorem zt {a b:Ty}(h:cz a b=true):a.isAgg=b.isAgg:=by
 cases a with
 |pair c d=>cases b <;> first|rfl|(simp[cz]at h)
 |list m E e=>cases b <;> first|rfl|(simp[cz]at h)
 |_=>simp only[cz,decide_eq_true_eq]at h;rw[h]
theorem ox {f g h:Nat->List Nat}{k:Nat}:∀ {l:List Nat},(∀ j∈l,(f j).count k=(g j).count k+(h j).count k)->(l.flatMap f).count k=(l.flatMap g).count k+(l.flatMap h).count k
 |[],_=>rfl
 |a::l,H=>by
  have y:=H a (BZ ..);have u:=ox (l:=l) (λj r=>H j (BS _ r));simp only[CR,BI];omega
theorem Mx.thin {w:World}{G:Nat->Prop}:∀ {a b:Ty} {pos:Nat} {x:a.den} {y:b.den} {cs:List Value} {bs:List Nat},cz a b=true->HEq x y->Mx w G a none pos x cs bs ->
  ∃ b1 b2:List Nat,(∀ k,bs.count k=b1.count k+b2.count k)/\Mx w (λk=>G k\/k∈b2) b none pos y cs b1
 |.pair a b,z,pos,x,y,cs,bs,h,r,H=>by
  cases z with
  |pair c d =>
   simp only[cz,BF]at h;obtain⟨c1,c2,ba,bb,rfl,rfl,h1,h2⟩:=H;obtain⟨h3,h4⟩:=sx (jA (fV h.1)) (jA (fV h.2)) r;obtain⟨p1,p2,Y,R⟩:=Mx.thin h.1 h3 h1;obtain⟨r1,r2,s1,s2⟩:=Mx.thin h.2 h4 h2;refine⟨p1++r1,p2++r2,λk=>?_,c1,c2,p1,r1,rfl,rfl,R.mono (λk J=>J.imp id (BM _)),?_⟩
   ·have:=Y k;have:=s1 k;simp only[BI];omega
   ·have:=s2.mono (G':=λk=>G k\/k∈p2++r2) (λk J=>J.imp id (BH _))
    rwa [ia (fV h.1)]at this
  |_=>simp[cz]at h
 |.list m E e,z,pos,xs,X,cs,bs,h,r,H=>by
  have a2:=fV h;cases z with
  |list n E' e' =>
   simp only[cz,BF,decide_eq_true_eq]at h;obtain⟨rfl,h⟩:=h;cases n with
   |true =>
    simp only[cond_true,BF]at h;obtain⟨rfl,h⟩:=h;rw[bJ (by simp)]at H;obtain⟨v,rfl,I,a0,h1,h2,h3⟩:=H;obtain⟨h4,h5⟩:=sy (jA (fV h)) r;have a1:∀ j,∃ q:List Nat×List Nat,j<X.length->(∀ k,(a0 j).count k=q.1.count k+q.2.count k) /\
      ∀ y,X[j]?=some y->∃ c,Mx w (λk=>G k\/k∈q.2) e' none 0 y c q.1/\∀ i u,c[i]?=some u->I[j*e'.cells+i]?=some u:=by
     intro j;by_cases M:j<X.length
     ·have Z:=BW M;obtain⟨x,hx,r⟩:=h5 j _ Z;obtain⟨c,hm,hc⟩:=h3 j x hx;obtain⟨b1,b2,Y,R⟩:=Mx.thin h r hm;refine⟨(b1,b2),λ_=>⟨Y,λy O=>⟨c,?_,λi u hi=>?_⟩⟩⟩
      ·rw[Z]at O;simp only[BD]at O;subst O;exact R
      ·rw[<- ia (fV h)];exact hc i u hi
     ·exact⟨([],[]),λh=>absurd h M⟩
    obtain⟨f,hf⟩:=Classical.skolem.1 a1;refine⟨v.ownBlock.toList++(BR X.length).flatMap (λj=>(f j).1),(BR X.length).flatMap (λj=>(f j).2),λk=>?_,?_⟩
    ·rw[h2,BI,BI,h4,ox (g:=λj=>(f j).1) (h:=λj=>(f j).2) (λj M=>(hf j (C4.1 M)).1 k)];omega
    ·rw[bJ (by simp)];refine⟨v,rfl,I,λj=>(f j).1,by rw[<- h4,<- ia (fV h)];exact h1,rfl,λj y O=>?_⟩;have M:=(BG.1 O).1;obtain⟨c,Y,R⟩:=(hf j M).2 y O;exact⟨c,Y.mono (λk J=>J.imp id (λJ=>dY.2 ⟨j,M,J⟩)),R⟩
   |false =>
    refine⟨[],bs,λk=>by simp,?_⟩;rw[cn];exact⟨rfl,Rd.flags a2 r (Mx.rd (S:=λk=>G k\/k∈bs) (λ_=>.inl) (λ_=>.inr) H)⟩
  |_=>simp[cz]at h
 |.int _,z,pos,x,y,cs,bs,h,r,H=>by
  simp only[cz,decide_eq_true_eq]at h;subst h;cases r;exact⟨bs,[],λk=>by simp,H.mono (λ_=>.inl)⟩
 |.bool,z,pos,x,y,cs,bs,h,r,H=>by
  simp only[cz,decide_eq_true_eq]at h;subst h;cases r;exact⟨bs,[],λk=>by simp,H.mono (λ_=>.inl)⟩
 |.str,z,pos,x,y,cs,bs,h,r,H=>by
  simp only[cz,decide_eq_true_eq]at h;subst h;cases r;exact⟨bs,[],λk=>by simp,H.mono (λ_=>.inl)⟩
 |.unit,z,pos,x,y,cs,bs,h,r,H=>by
  simp only[cz,decide_eq_true_eq]at h;subst h;cases r;exact⟨bs,[],λk=>by simp,H.mono (λ_=>.inl)⟩
 |.hdr,z,pos,x,y,cs,bs,h,r,H=>by
  simp only[cz,decide_eq_true_eq]at h;subst h;cases r;exact⟨bs,[],λk=>by simp,H.mono (λ_=>.inl)⟩
theorem jx.mono {w:World}{G G':Nat->Prop}(z:∀ k,G k->G' k){a:Ty}{x:a.den}{ptr:Bool}{v:Value}{bs:List Nat}(h:jx w G a x ptr v bs):jx w G' a x ptr v bs:=by
 unfold jx at h ⊢;split at h
 ·rename_i r;rw[if_pos r];obtain⟨g,c,E,H,y,u,I,M⟩:=h;exact⟨g,c,E,H,y,u,I.mono z,M⟩
 ·rename_i r;rw[if_neg r];obtain⟨J,y,u⟩:=h;exact⟨J,y,u.mono z⟩
theorem bL.mono {w:World}{G G':Nat->Prop}(y:∀ k,G k->G' k):∀ {ps:List PK} {o:ah ps} {z:List Value} {bs:List (List Nat)},bL w G ps o z bs->bL w G' ps o z bs
 |.io _::_,_,_::_,_::_,⟨u,r⟩=>⟨u.mono y,bL.mono y r⟩
 |.iop _::_,_,_::_,_::_,⟨u,r⟩=>⟨u.mono y,bL.mono y r⟩
 |.rd _::_,_,_::_,_::_,⟨u,r⟩=>⟨u,bL.mono y r⟩
 |.own _::_,_,_::_,_::_,⟨u,r⟩=>⟨u,bL.mono y r⟩
 |.rref _::_,_,_::_,_::_,⟨u,r⟩=>⟨u,bL.mono y r⟩
 |.rref2 _::_,_,_::_,_::_,⟨u,r⟩=>⟨u,bL.mono y r⟩
 |.fn _ _::_,_,_::_,_::_,⟨u,r⟩=>⟨u,bL.mono y r⟩
 |.clo _ _::_,_,_::_,_::_,⟨u,r⟩=>⟨u,bL.mono y r⟩
 |.hol _ _ _::_,_,_::_,_::_,⟨u,r⟩=>⟨u,bL.mono y r⟩
 |[],_,[],[],_=>trivial
 |[],_,_::_,_,h=>by simp[bL]at h
 |[],_,[],_::_,h=>by simp[bL]at h
 |p::_,_,[],_,h=>by cases p <;> exact h.elim
 |p::_,_,_::_,[],h=>by cases p <;> exact h.elim
theorem p7.mono {w:World}{G G' ro ro':Nat->Prop}(I:∀ k,G k->G' k)(R:∀ k,G k\/ro k->G' k\/ro' k):∀ {r:RK} {y:r.den} {v:Value} {bs:List Nat},p7 w G ro r y v bs->p7 w G' ro' r y v bs
 |.v _,_,_,_,⟨H,z,u⟩=>⟨H,z,u.mono I⟩
 |.bv _,_,_,_,⟨e,H,z,u⟩=>⟨e,H,z,u.mono R⟩
 |.box _,_,_,_,⟨g,c,E,J,z,u,M,O⟩=>⟨g,c,E,J,z,u,M.mono I,O⟩
theorem gw.mono {w:World}{G G' ro ro':Nat->Prop}(M:∀ k,G k->G' k)(J:∀ k,G k\/ro k->G' k\/ro' k):∀ {H:List RK} {y:ai H} {us:List Value} {r:List (List Nat)},gw w G ro H y us r->gw w G' ro' H y us r
 |[],_,_,_,h=>h
 |_::_,_,_,_,⟨u,I,b,z,X,R,Y,O⟩=>⟨u,I,b,z,X,R,Y.mono M J,gw.mono M J O⟩
theorem bP.thin {P:Program}{f:FuncId}{a a':Ty}{ps:List PK}{rs:List RK}{fr:Bool}{a9:ab (.own a::ps)->Option (ai rs×ah (.own a::ps))}{X:ab (.own a'::ps)->Option (ai rs×ah (.own a'::ps))}
  (h:bP P ⟨f,.own a::ps,rs,fr,a9⟩) (ht:cz a' a=true) (cv:a'.den->a.den) (c1:∀ x,HEq x (cv x)) (hd:∀ x,X x=a9 (cv x.1,x.2)):bP P ⟨f,.own a'::ps,rs,fr,X⟩:=by
 refine⟨h.1,λw ro x vs c3 y a2 b9 a6 hy=>?_⟩;obtain⟨x1,xr⟩:=x;obtain⟨v,b4,b,u,rfl,rfl,⟨cs,c2,hm⟩,Z⟩:=a2;obtain⟨M,O,R,bn⟩:=Mx.thin ht (c1 x1) hm;have a1:=hm.lt;rw[bu]at a6;have Y:∀ k,M.count k+O.count k+u.flatten.count k<=1:=λk=>by
  have:=a6 k;rw[B3,BI,R k]at this;exact this
 have hb:∀ k,k∈b<->k∈M\/k∈O:=λk=>by
  rw[<- BN,<- BN,<- BN,R k];omega
 have z:∀ k,k∈(M::u).flatten->k∈(b::u).flatten:=λk r=>by
  rw[B3,BO]at r ⊢;exact r.imp (λh=>(hb k).2 (.inl h)) id
 have ad:∀ k,k∈O->k∉(M::u).flatten:=λk r H=>by
  have h1:=Y k;have h2:=BN.2 r;have h3:=BN.2 H;rw[B3,BI]at h3;omega
 have b0:∀ k,k∈O->k∈(b::u).flatten:=λk r=>by
  rw[B3,BO];exact .inl ((hb k).2 (.inr r))
 have I:db P w (λk=>ro k\/k∈O) (λk=>k<w.heap.size/\k∉(M::u).flatten) (.own a::ps) (cv x1,xr) (v::b4) (M::u) :=
  ⟨v,b4,M,u,rfl,rfl,⟨cs,by rw[<- zt ht];exact c2,bn⟩,Z.mono (λ_=>.inl) (λk r=>⟨r.1,λh=>r.2 (z k h)⟩)⟩
 refine (h.2 w _ _ _ _ y I (λk r=>?_) ?_ (by rw[<- hy];exact (hd (x1,xr)).symm)).mono λe w' hp=>?_
 ·rcases r with r|r
  ·exact⟨(b9 k r).1,λh=>(b9 k r).2 (z k h)⟩
  ·exact⟨a1 k ((hb k).2 (.inr r)),ad k r⟩
 ·rw[bu];intro k;have:=Y k;show ((M::u).flatten).count k<=1;rw[B3,BI];omega
 ·obtain⟨v',us,N,a0,ba,h1,a3,a5,c0,bx,bb,bl,hN,hO,b5,a4,J⟩:=hp;have hG:∀ k,(N k\/fr=false/\(ro k\/k∈O))->((N k\/k∈O)\/fr=false/\ro k):=λk r=>by
   rcases r with r|⟨r,H|H⟩
   ·exact .inl (.inl r)
   ·exact .inr ⟨r,H⟩
   ·exact .inl (.inr H)
  refine⟨v',us,λk=>N k\/k∈O,a0,ba,h1,a3,a5,c0,bx,bb,λk r hn=>bl k r (λh=>hn (z k h)),λk r=>?_,?_,?_,a4,λk r=>?_⟩
  ·rcases r with r|r
   ·exact⟨(hN k r).1,(hN k r).2.imp id (z k)⟩
   ·exact⟨CN (a1 k ((hb k).2 (.inr r))) a5,.inr (b0 k r)⟩
  ·match a0,hO with
   |b3::a0,hO=>exact⟨hO.1,bL.mono hG hO.2⟩
   |[],hO=>exact hO.elim
  ·refine gw.mono hG (λk r=>?_) b5;rcases r with r|r|r
   ·exact .inl (hG k r)
   ·exact .inr r
   ·exact .inl (.inl (.inr r))
  ·obtain⟨h5,h6⟩:=J k r;refine⟨⟨h5.1,h5.2.imp id (z k)⟩,λh=>h.elim h6 (λh=>?_)⟩;rcases h5.2 with h7|h7
   ·have:=a1 k ((hb k).2 (.inr h));omega
   ·exact ad k h h7
end Go.Proofs.YtaegajachoklkaaGreatEv
