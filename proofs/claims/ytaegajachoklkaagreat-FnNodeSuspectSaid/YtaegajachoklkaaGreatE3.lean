/- One operation: boxes made, boxes written. -/
import Derived.Test.YtaegajachoklkaaGreatE0
import Derived.Deep.MidRow
import Derived.Great.FillDense
set_option linter.unusedVariables false
set_option linter.unusedSimpArgs false
open Array renaming toArray_toList->B9,length_toList->CD,getElem?_toList->C0,toList_append->C9,size_append->DH,toList_map->DQ,ext'->De
open Bool renaming and_eq_true->BF,not_eq_true'->B4,or_eq_false_iff->C7,or_eq_true->DZ
open Go.Addr.mk renaming injEq->Cn
open Go.Builtin renaming append_->CE,firstCells->Cj,lenOf->Co,zeroCells->DM
open Go.Instr renaming sliceBounds->DK,storeAt->Dg
open Go.Result renaming andThen_ok->Cl
open Go.Sem renaming run_bind->DG
open Go.Value renaming ownBlock->B8
open Go.Value.slice renaming injEq->CC
open Go.World renaming setCells->C3,alloc_eq->C6,drew_eq->DA,freeze->DI,alloc->DU,drew->Dc
open Iff renaming rfl->Ck
open Int renaming toNat_natCast->DF
open List renaming getElem?_eq_some_iff->BG,mem_append_right->BH,count_append->BI,getElem?_append_right->BJ,getElem?_append_left->BK,mem_append_left->BM,count_pos_iff->BN,mem_append->BO,range->BR,mem_cons_of_mem->BS,append_assoc->BT,length_append->BV,getElem?_eq_getElem->BW,eq_nil_of_length_eq_zero->BY,mem_cons_self->BZ,flatten_cons->B3,count_eq_zero->B5,append_nil->B6,length_take->B7,any_eq_false->CB,getElem?_take->CH,getD_eq_getElem?_getD->CI,nodup_append->CK,replicate->CM,nodup_cons->CO,length_set->CP,flatMap_cons->CR,getElem?_set_ne->CS,mem_cons->CV,getElem?_drop->CW,getElem?_cons_zero->CX,getElem?_replicate->CY,size_toArray->CZ,getElem?_set_self->Ca,any_cons->Cd,length_nil->Ce,length_map->Cf,length_drop->Cp,length_cons->Cq,mem_map->Cv,count_cons->Cw,singleton_append->Cy,length_replicate->Cz,mem_range->C4,all_cons->DB,map_nil->DE,map_map->DJ,isEmpty_iff->DN,flatMap_map->DO,cons_append->DR,length->DV,map_append->DW,nil_append->Da,nodup_nil->Db,take_left->Dd,map_cons->Dh
open List.cons renaming injEq->Cg
open Nat renaming eq_of_beq_eq_true->BL,lt_succ_self->BP,mul_le_mul_right->BQ,beq->BU,le_refl->BX,succ_mul->CF,add_zero->CJ,le_trans->CL,lt_of_lt_of_le->CN,le_of_ble_eq_true->CQ,zero_add->CU,ble_eq_true_of_le->Cb,le_add_right->Cc,mul_le_mul_left->Ch,blt_eq->Ci,add_mul->Cm,le_of_eq->Cr,ble->Cs,mul_comm->Ct,sub_zero->Cu,mul_one->C5,blt->C8,eq_zero_or_pos->DD,zero_mul->DL,mod_eq_of_lt->DP,le_succ->DS,zero_le->DT,mul_add_mod->DX,add_assoc->Df
open Ne renaming symm->CT
open Option renaming map_eq_some_iff->BE,bind_eq_some_iff->CA,map_none->Cx,toList_some->DC,map_some->DY
open Option.some renaming injEq->BD
open Prod renaming ext->Di
open Prod.mk renaming injEq->CG
namespace Go.Proofs.YtaegajachoklkaaGreatEv
open Go Go.RowKit
section
variable {P:Program} {V:Env} {Γ:List Ctr} {T:TypeId->TI} {st:St} {o:Oper} {R:Type} {κ:Upd->Option R} {r:R}
theorem ne {q u:Nat}(h:q≠u)(c y:bQ)(st:St):ac [(q,c)] (ac [(u,y)] st)=ac [(u,y)] (ac [(q,c)] st):=by
 funext k;rcases aj q k c (ac [(u,y)] st) with ⟨rfl,e⟩|⟨I,e⟩
 ·rw[e,aJ h,bk]
 ·rw[e];rcases aj u k y st with ⟨rfl,z⟩|⟨H,z⟩
  ·rw[z,bk]
  ·rw[z,aJ H,aJ I]
theorem an.boxed (hV:ay V){W:Wit}{a:Act}{w:World}(h:an P V W st a w)(d:Nat)(hd:d<V.nt)(O:∀ x∈V.fixt,x.1≠d)(X:(st (B0+d)).sh=.off)(ls:List Leaf)
  (y:List Value) (z:Nat->List Nat) (E:TypeId)
  (hl:ls.length=y.length) (h1:∀ u∈y,u.oneCell'=true)
  (H:∀ (j:Nat) (l:Leaf) (u:Value),ls[j]?=some l->y[j]?=some u->aK P V W st w (z j) l u)
  (I:∀ (j:Nat) (l:Leaf),ls[j]?=some l->am l->∀ k∈z j,¬ W.nw k/\¬ V.prot k/\k<w.heap.size/\(∀ b,live st b->W.β b≠k) /\
   ∀ (r1 Y:Nat) (Z:Leaf),(st r1).ls[Y]?=some Z->am Z->k∉W.bs r1 Y)
  (J:∀ (j j':Nat) (l l':Leaf),ls[j]?=some l->am l->ls[j']?=some l'->am l'->∀ k,k∈z j->k∈z j'->j=j') :
  Rel P V (ac ((B0+d,⟨(st (B0+d)).ver+1,.agg,ls⟩)::[(d,⟨(st d).ver+1,.one,[.bp (B0+d) 0]⟩)]) st) (a.put (some d) (.pointer (some ⟨w.heap.size,0,none⟩))) (w.alloc (.cells y.toArray E)):=by
 have M:B0+d≠d:=by simp[B0]
 have a0:¬ live st (B0+d):=by simp[live,X]
 have h2:=h.setBox hV (B0+d) (Cc _ _) ((st (B0+d)).ver+1) ls y z w.heap.size E (w':=w.alloc (.cells y.toArray E)) (BP _) (.inr ⟨a0,BX _⟩)
  (heap_alloc_new w _) (λk hk _=>Go.heap_alloc_old w _ hk) (by simp) rfl rfl rfl hl h1 H (λj l hj ho k hk=>by
   obtain⟨h3,h4,h5,h6,h7⟩:=I j l hj ho k hk;exact⟨h3,h4,h5,h6,λr1 Y Z _=>h7 r1 Y Z⟩) J
 rw[aP,ne M];refine h2.putLs hV d hd O _ .one [.bp (B0+d) 0] _ [.pointer (some ⟨w.heap.size,0,none⟩)] ?_ rfl ⟨⟨⟨Cc _ _,by rw[bk],by simp⟩,id,rfl⟩,trivial⟩;rw[aJ (CT M)];omega
theorem uD {t:TypeId}(I:TOk P T)(H:(T t).cells≠0)(w:World):∃ z y,(zeroValue t).run P w=.ok z w/\z.cells=y.toArray/\∀ (V:Env) (W:Wit) (st:St),aC P V W st w (T t).zero y:=by
 have h:=I t;cases u:T t with
 |none=>rw[u]at H;exact absurd rfl H
 |int k=>rw[u]at h;exact⟨_,[.int k 0],gm h.2.2 w,rfl,λV W st=>⟨⟨rfl,id,rfl⟩,trivial⟩⟩
 |bool=>rw[u]at h;exact⟨_,[.bool false],gm h.2.2 w,rfl,λV W st=>⟨⟨rfl,id,rfl⟩,trivial⟩⟩
 |str=>rw[u]at h;exact⟨_,[.string ByteArray.empty],gm h.2.2 w,rfl,λV W st=>⟨⟨rfl,id,rfl⟩,trivial⟩⟩
 |slice E e b=>rw[u]at h;exact⟨_,[.slice none 0 0],gm h.2.2.1 w,rfl,λV W st=>⟨⟨rfl,id,rfl⟩,trivial⟩⟩
 |struct a J=>rw[u]at h;exact⟨_,zeroCells a,gm h.2.2.1 w,rfl,λV W st=>lF a⟩
 |arr e n=>rw[u]at h;exact⟨_,(CM n (zeroCells e)).flatten,gm h.2.2.2 w,rfl,λV W st=>oP e n⟩
 |ptr=>rw[u]at h;exact⟨_,[.pointer none],gm h.2.2 w,rfl,λV W st=>⟨⟨trivial,id,rfl⟩,trivial⟩⟩
 |fn=>rw[u]at h;exact⟨_,[.nilFunc],gm h.2.2 w,rfl,λV W st=>⟨⟨trivial,id,rfl⟩,trivial⟩⟩
theorem x5 (hV:ay V)(hT:TOk P T)(J:bM V o){t:TypeId}(H:o.op=.alloc t)(h:act Γ T o st κ=some r):bV P V o st κ r:=by
 simp only[act,H]at h;split at h
 ·rename_i d M;cases I:decide ((st (B0+d)).sh=.off)&&!decide ((T t).cells=0) with
  |false=>simp[I]at h
  |true =>
   simp only[I]at h;simp at I;refine⟨_,h,λW a w Y next Q hn=>?_⟩;obtain⟨z,X,hz,hc,y⟩:=uD hT I.2 w;have y:=y V W st;refine dW (v:=.pointer (some ⟨w.heap.size,0,none⟩)) (w':=w.alloc (.cells X.toArray t)) ?_ ?_
   ·simp[execOp,H,Instr.alloc,hz,newVar,newRow,hc]
   ·rw[M];refine hn _ _ ?_;exact Y.boxed hV d (J d M).1 (J d M).2 I.1 _ X (λ_=>[]) t y.length y.one' (λj l u h1 Z=>(y.at_ j l u h1 Z).1) (λ_ _ _ _ k O=>by simp at O) (λ_ _ _ _ _ _ _ _ k O=>by simp at O)
 ·grind
theorem AC (hV:ay V)(I:bM V o){t:TypeId}{x:Operand}(Z:o.op=.box t x)(h:act Γ T o st κ=some r):bV P V o st κ r:=by
 simp only[act,Z]at h;split at h
 ·rename_i d O;cases hb:decide ((st (B0+d)).sh=.off)&&decide ((au st x).2.length=(T t).cells)&&decide ((au st x).1=bi (T t).agg)&&ib st (au st x).2 with
  |false=>simp[hb]at h
  |true =>
   simp only[hb]at h;simp at hb;obtain⟨⟨⟨Y,a2⟩,a1⟩,a0⟩:=hb;have J:∀ (W:Wit) (a:Act) (w:World) (H:List Value),ee (au st x).1 (a.eval x) H->aC P V W st w (au st x).2 H ->
     (execOp a.eval o).run P w=.ok (.value (.pointer (some ⟨w.heap.size,0,none⟩))) (w.alloc (.cells H.toArray t)):=by
    intro W a w H X y;rw[a1]at X;have hc:=gU X y.one';simp[execOp,Z,Instr.box,newVar,newRow,hc]
   cases z:sn st x with
   |true =>
    rw[z]at h;refine⟨_,h,λW a w M next Q hn=>?_⟩;obtain⟨H,X,y⟩:=cU M x;refine dW (J W a w H X y) ?_;rw[O];refine hn _ _ ?_;exact M.boxed hV d (I d O).1 (I d O).2 Y _ H (λ_=>[]) t y.length y.one' (λj l u h1 h2=>(y.at_ j l u h1 h2).1) (λ_ _ _ _ k hk=>by simp at hk) (λ_ _ _ _ _ _ _ _ k hk=>by simp at hk)
   |false =>
    rw[z]at h;refine⟨_,h,λW a w M next Q hn=>?_⟩;obtain⟨H,X,y⟩:=cU M x;obtain⟨h1,h2,h3,h4,h5⟩:=oN hV M y a0;have h6:=zH hV M y a0;refine dW (J W a w H X y) ?_;rw[O];refine hn _ _ ?_;have:=h1.boxed hV d (I d O).1 (I d O).2 (by rw[(h6 _).1];exact Y) _ H (dm W (au st x).2) t h2 y.one' h3 h4 h5;exact this
 ·grind
theorem jU (b:Nat)(E:TypeId):∀ (u:List Value) (k o:Nat) (w:World) (cur:Array Value) {mk:Nat×Nat},w.heap[b]?=some (.cells cur E mk) ->
  (w.setCells b (o+k) u).heap[b]?=some (.cells ((u.zipIdx k).foldl (λy (x:Value×Nat)=>y.setIfInBounds (o+x.2) x.1) cur) E mk)
 |[],_,_,_,_,_,h=>h
 |v::u,k,o,w,cur,mk,h=>by
  have:=jU b E u (k+1) o (w.setCell ⟨b,o+k,none⟩ v) _ (by rw[setCell_eq_setRow w b (o+k) cur E mk v h];exact setRow_heap w b cur _ E mk h);simpa[C3,Df]using this
theorem eO (b:Nat):∀ (u:List Value) (o:Nat) (w:World) (k:Nat),k≠b->(w.setCells b o u).heap[k]?=w.heap[k]?
 |[],_,_,_,_=>rfl
 |v::u,o,w,k,h=>by
  rw[C3,eO b u (o+1) _ k h];exact heap_setCell_other w ⟨b,o,none⟩ k v h
theorem jV (b:Nat):∀ (u:List Value) (o:Nat) (w:World),(w.setCells b o u).os=w.os/\(w.setCells b o u).tape=w.tape/\(w.setCells b o u).output=w.output/\(w.setCells b o u).heap.size=w.heap.size
 |[],_,_=>⟨rfl,rfl,rfl,rfl⟩
 |v::u,o,w=>by
  obtain⟨H,z,I,y⟩:=jV b u (o+1) (w.setCell ⟨b,o,none⟩ v);exact⟨H,z,I,by rw[C3,y];simp⟩
theorem nf {t:TypeId}{n:Nat}(z:bP P t n){w:World}{b off:Nat}{cur:List Value}{E:TypeId}{mk:Nat×Nat}(J:w.heap[b]?=some (.cells cur.toArray E mk))(H:mk.2=0\/cur.length<=mk.1){v:Value}{cs:List Value}
  (O:v.cells=cs.toArray) (M:cs.length=n) (Z:∀ u∈cs,u.oneCell'=true) (X:off+cs.length<=cur.length) :
  (Dg t (.pointer (some ⟨b,off,none⟩)) v).run P w=.ok () (w.setCells b off cs):=by
 have y:∀ j,j<cs.length->(w.cell? ⟨b,off+j,none⟩).isSome=true:=by
  intro j I;rw[cell_of_row w b _ _ E mk J]
  grind
 have Y:=run_storeCells_cells (P:=P) b off cs 0 w (λj I=>y j I) (λj I=>qW J (by simpa using H) (by simp;omega)) Z;have h4:=dq z w;simp[Dg,Instr.sureAddr,storeVar,h4,O,M,Y]
theorem tA (hV:ay V)(hT:TOk P T){t:TypeId}{x y:Operand}{b off:Nat}(b5:o.op=.store t x y)(hd:o.dst=none)(hx:one st x=.bp b off)
  (c2:(au st y).2.length=(T t).cells) (ba:(au st y).1=bi (T t).agg) (a9:(T t).cells≠0) (b0:(st b).sh=.agg) (c3:off+(au st y).2.length<=(st b).ls.length) (a3:ib st (au st y).2=true)
  {W:Wit} {a:Act} {w:World} (hr:an P V W st a w) :
  mN P V o st ((b,⟨(ac (mvU st (au st y).2) st b).ver+1,.agg,jE (ac (mvU st (au st y).2) st b).ls (dF st (au st y).2) off⟩)::mvU st (au st y).2) a w:=by
 intro next Q hn;obtain⟨I,hs,hl⟩:=cU hr y;rw[ba]at hs;have hc:=gU hs hl.one';obtain⟨h1,h2,h3,h4,h5⟩:=oN hV hr hl a3;have h6:=zH hV hr hl a3;obtain⟨hp,_,_,_⟩:=bt hr x (by rw[hx];simp);rw[hx]at hp;obtain⟨hB,_,hv⟩:=hp;have bb:T t≠.none:=by intro e;rw[e]at a9;exact a9 rfl
 rcases hr.boxes b hB with ⟨h8,_⟩|⟨_,E,h8⟩
 ·rw[b0]at h8;cases h8
 ·have c0:=hl.length;have c4:=hr.len b;have c1:(ac (mvU st (au st y).2) st b).ls.length=(W.cs b).length:=h1.len b;have ad:off+I.length<=(W.cs b).length:=by omega
  have b1:=nf (oO (hT t) bb) h8 (.inl rfl) hc (by omega) hl.one' ad;refine pA (w':=w.setCells (W.β b) off I) (by simp[execOp,b5,hv,b1]) ?_;rw[hd];refine hn _ _ ?_;rw[aP];obtain⟨e1,e2,e3,e4⟩:=jV (W.β b) I off w;have a0:=jU (W.β b) E I 0 off w _ h8;rw[k9 (W.cs b) I off ad]at a0;simp only[CJ]at a0;have b2:live (ac (mvU st (au st y).2) st) b:=⟨hB,by rw[(h6 b).1];exact b0⟩;have b4:(dF st (au st y).2).length=I.length:=h2;have M:∀ (j:Nat) (l:Leaf),(jE (ac (mvU st (au st y).2) st b).ls (dF st (au st y).2) off)[j]?=some l ->
    (off<=j/\j<off+I.length/\(dF st (au st y).2)[j-off]?=some l)\/((j<off\/off+I.length<=j)/\(ac (mvU st (au st y).2) st b).ls[j]?=some l):=by
   intro j l hj;unfold jE at hj;rw[b4]at hj;by_cases Z:j<off
   ·rw[BT,BK (by simp;omega),CH,if_pos Z]at hj;exact .inr ⟨.inl Z,hj⟩
   ·by_cases J:j<off+I.length
    ·rw[BT,BJ (by simp;omega),BK (by simp;omega)]at hj;refine .inl ⟨by omega,J,?_⟩;rw[<- hj];congr 1;simp;omega
    ·rw[BJ (by simp;omega),CW]at hj;refine .inr ⟨.inr (by omega),?_⟩;rw[<- hj];congr 1;simp;omega
  have a2:∀ (j:Nat),((W.cs b).take off++I++(W.cs b).drop (off+I.length))[j]?=if off<=j/\j<off+I.length then I[j-off]? else (W.cs b)[j]?:=by
   intro j;by_cases Z:j<off
   ·rw[BT,BK (by simp;omega),CH,if_pos Z,if_neg (by omega)]
   ·by_cases J:j<off+I.length
    ·rw[BT,BJ (by simp;omega),BK (by simp;omega),if_pos ⟨by omega,J⟩];congr 1;simp;omega
    ·rw[BJ (by simp;omega),CW,if_neg (by omega)];congr 1;simp;omega
  refine⟨_,h1.setBox hV b hB _ _ ((W.cs b).take off++I++(W.cs b).drop (off+I.length)) (λj=>if off<=j/\j<off+I.length then dm W (au st y).2 (j-off) else W.bs b j) (W.β b) E
   (BP _) (.inl ⟨b2,rfl⟩) a0 (λk _ O=>eO (W.β b) I off w k O) (Cr e4.symm) e1 e2 e3 ?_ ?_ ?_ ?_ ?_⟩
  ·simp only[jE,BV,B7,Cp];omega
  ·intro u hu;simp only[BO]at hu;rcases hu with (hu|hu)|hu
   ·exact hr.one b u (List.mem_of_mem_take hu)
   ·exact hl.one' u hu
   ·exact hr.one b u (List.mem_of_mem_drop hu)
  ·intro j l u hj hu;rw[a2]at hu;rcases M j l hj with ⟨Z,J,H⟩|⟨Z,H⟩
   ·rw[if_pos ⟨Z,J⟩]at hu;simp only[if_pos (⟨Z,J⟩:off<=j/\j<off+I.length)];exact h3 _ l u H hu
   ·have z:¬ (off<=j/\j<off+I.length):=by omega
    rw[if_neg z]at hu;simp only[if_neg z];exact h1.leaf b j l u H hu
  ·intro j l hj ho k O;rcases M j l hj with ⟨Z,J,H⟩|⟨Z,H⟩
   ·simp only[if_pos (⟨Z,J⟩:off<=j/\j<off+I.length)]at O;obtain⟨q1,q2,q3,q4,q5⟩:=h4 _ l H ho k O;exact⟨q1,q2,q3,q4,λr1 j1 l1 _=>q5 r1 j1 l1⟩
   ·have z:¬ (off<=j/\j<off+I.length):=by omega
    simp only[if_neg z]at O;obtain⟨q1,q2,q3⟩:=h1.ownb b j l H ho k O;exact⟨q1,q2,h1.own_lt H ho k O,q3,λr1 j1 l1 bx b3 bn bl=>bx (h1.sep b j l r1 j1 l1 H ho b3 bn k O bl).1.symm⟩
  ·intro j j' l l' hj ho b9 a1 k O X;rcases M j l hj with ⟨Z,J,H⟩|⟨Z,H⟩ <;> rcases M j' l' b9 with ⟨a6,a4,Y⟩|⟨a6,Y⟩
   ·simp only[if_pos (⟨Z,J⟩:off<=j/\j<off+I.length)]at O;simp only[if_pos (⟨a6,a4⟩:off<=j'/\j'<off+I.length)]at X;have:=h5 _ _ l l' H ho Y a1 k O X;omega
   ·have z:¬ (off<=j'/\j'<off+I.length):=by omega
    simp only[if_pos (⟨Z,J⟩:off<=j/\j<off+I.length)]at O;simp only[if_neg z]at X;exact absurd X ((h4 _ l H ho k O).2.2.2.2 b j' l' Y a1)
   ·have z:¬ (off<=j/\j<off+I.length):=by omega
    simp only[if_neg z]at O;simp only[if_pos (⟨a6,a4⟩:off<=j'/\j'<off+I.length)]at X;exact absurd O ((h4 _ l' Y a1 k X).2.2.2.2 b j l H ho)
   ·have z:¬ (off<=j/\j<off+I.length):=by omega
    have a5:¬ (off<=j'/\j'<off+I.length):=by omega
    simp only[if_neg z]at O;simp only[if_neg a5]at X;exact (h1.sep b j l b j' l' H ho Y a1 k O X).2
end
theorem bu {l:List Nat}:l.Nodup<->∀ k,l.count k<=1:=by
 induction l with
 |nil=>simp
 |cons a l H =>
  rw[CO,H];constructor
  ·rintro⟨r,y⟩ k;rw[Cw];by_cases u:a=k
   ·subst u;have:l.count a=0:=B5.2 r;simp[this]
   ·have:=y k;simp[u,this]
  ·intro h;refine⟨λz=>?_,λk=>?_⟩
   ·have r:=h a;have y:0<l.count a:=BN.2 z;rw[Cw]at r;simp at r;omega
   ·have:=h k;rw[Cw]at this;omega
theorem p6 {n:Nat}(r:Nat->List Nat)(k:Nat):((BR n).flatMap r).count k=((BR n).map λj=>(r j).count k).sum:=by
 generalize BR n=l;induction l with
 |nil=>rfl
 |cons a l u=>simp[BI,u]
theorem kD {n i:Nat}(H:i<n)(r:Nat->List Nat)(b:List Nat)(k:Nat) :
  ((BR n).flatMap λj=>if j=i then b else r j).count k+(r i).count k=((BR n).flatMap r).count k+b.count k:=by
 rw[p6,p6];induction n with
 |zero=>omega
 |succ n z =>
  rw[List.range_succ];simp only[DW,Dh,DE,List.sum_append,List.sum_cons,List.sum_nil];by_cases u:i=n
  ·subst u;have:(BR i).map (λj=>List.count k (if j=i then b else r j))=(BR i).map λj=>(r j).count k:=by
    refine List.map_congr_left λj y=>?_
    rw[if_neg (by have:=C4.1 y;omega)]
   rw[this,if_pos rfl];omega
  ·have:=z (by omega);rw[if_neg (λe=>u e.symm)];omega
theorem ng {bs bs' K:List Nat}(z:bs.Nodup)(y:K.Nodup)(H:∀ k∈K,k∉bs)(h:∀ k,bs'.count k<=bs.count k+K.count k):bs'.Nodup/\∀ k∈bs',k∈bs\/k∈K:=by
 rw[bu]at z y;refine⟨bu.2 λk=>?_,λk r=>?_⟩
 ·have J:=h k;have I:=z k;have u:=y k;by_cases r:k∈K
  ·have:bs.count k=0:=B5.2 (H k r);omega
  ·have:K.count k=0:=B5.2 r;omega
 ·have J:=h k;have I:0<bs'.count k:=BN.2 r;by_cases u:k∈bs
  ·exact .inl u
  ·have:bs.count k=0:=B5.2 u;exact .inr (BN.1 (by omega))
theorem Mx.pos {w:World}{G:Nat->Prop}:∀ {a:Ty} {pos r:Nat} {x:a.den} {cs:List Value} {bs:List Nat},Mx w G a none pos x cs bs->Mx w G a none r x cs bs
 |.int _,_,_,_,_,_,h=>h
 |.bool,_,_,_,_,_,h=>h
 |.str,_,_,_,_,_,h=>h
 |.unit,_,_,_,_,_,h=>h
 |.hdr,_,_,_,_,_,h=>h
 |.pair _ _,_,_,_,_,_,⟨O,M,u,R,I,y,J,z⟩=>⟨O,M,u,R,I,y,Mx.pos J,Mx.pos z⟩
 |.list m E e,_,_,_,_,_,H=>by
  cases m with
  |false=>rw[cm]at H ⊢;exact H
  |true=>rw[bI (by simp)]at H ⊢;exact H
section
variable {P:Program} {V:Env} {W:Wit} {st:St} {w w':World} {a:Act}
theorem Mx.scalar {G:Nat->Prop}{b:Ty}{hol:Option Nat}{pos:Nat}{x:b.den}{cs:List Value}{S:Nat->Prop}(r:b.flat=true)(h:Rd w S b x cs):Mx w G b hol pos x cs []:=Mx.flat r h
theorem lN (h:an P V W st a w):∀ (b:Ty) (pos:Nat) (ls:List Leaf) (cs:List Value) (t:cI b.den),aC P V W st w ls cs->take st b ls=some t ->
  ∃ J O M,cs=J++O/\ls=M++t.rest/\aC P V W st w M J/\aC P V W st w t.rest O/\Mx w (bo V W t.p t.frz) b none pos t.val J (aW W t.kill) /\
   (∀ x∈t.frz,aA st x)/\(∀ x∈t.kill,aA st x)
 |.pair b c,pos,ls,cs,t,H,z=>by
  simp only[take]at z;split at z
  ·rename_i u hb;split at z
   ·rename_i v hc;simp only[BD]at z;subst z;obtain⟨J,O,M,e1,e2,h1,Y,X,h4,h5⟩:=lN h b pos ls cs u H hb;obtain⟨c3,c4,l2,e3,e4,h6,h7,h8,h9,a0⟩:=lN h c (pos+b.cells) u.rest O v Y hc;refine⟨J++c3,c4,M++l2,by rw[e1,e3,BT],by rw[e2,e4,BT],h1.append h6,h7,⟨J,c3,_,_,rfl,dG W _ _,?_,?_⟩,?_,?_⟩
    ·refine X.mono λk I=>?_
     rcases I with I|⟨y,hy,I⟩
     ·exact .inl (bT (by intro h;simp[h]) (λ_ h=>h) k I)
     ·exact .inr ⟨y,BM _ hy,I⟩
    ·refine h8.mono λk I=>?_
     rcases I with I|⟨y,hy,I⟩
     ·exact .inl (bT (by intro h;simp[h]) (λ_ h=>h) k I)
     ·exact .inr ⟨y,BH _ hy,I⟩
    ·intro x R;exact (BO.1 R).elim (h4 x) (h9 x)
    ·intro x R;exact (BO.1 R).elim (h5 x) (a0 x)
   ·cases z
  ·cases z
 |.unit,pos,ls,cs,t,H,z=>by
  simp only[take,BD]at z;subst z;exact⟨[],cs,[],rfl,rfl,trivial,H,⟨rfl,rfl⟩,by simp,by simp⟩
 |.list m E e,pos,ls,cs,t,H,z=>by
  cases ls with
  |nil=>simp[take]at z
  |cons l ls =>
   cases cs with
   |nil=>exact H.elim
   |cons v cs =>
    cases m with
    |false =>
     simp only[take,cond_false]at z;split at z
     ·rename_i p xs ha;simp only[BD]at z;subst z;refine⟨[v],cs,[l],rfl,rfl,⟨H.1,trivial⟩,H.2,cm.2 ⟨rfl,kN h H.1.1 H.1.2.1 ha⟩,λx R=>ek (cs:=[v]) (ls:=[l]) ⟨H.1,trivial⟩ R,by simp⟩
     ·cases z
    |true =>
     simp only[take,cond_true]at z;split at z
     ·rename_i r j n;split at z
      ·rename_i p E' e' xs hd;simp only[BE]at z;obtain⟨ys,hc,rfl⟩:=z;obtain⟨rfl,rfl,rfl⟩:=jR hc;obtain⟨h1,Y,X,h4⟩:=kq h hd H.1.1;refine⟨[v],cs,[_],rfl,rfl,⟨H.1,trivial⟩,H.2,(bI (by simp)).2 ⟨v,rfl,?_⟩,by simp,?_⟩
       ·have:aW W [(r,j)]=W.bs r j:=by simp[aW]
        show OwB w _ none E' e' xs v (aW W [(r,j)]);rw[this];exact Y.2.carry (λk I=>.inl I) (λ_ _=>rfl) (λ_ _=>rfl)
       ·intro x R;simp only[List.mem_singleton]at R;subst R;exact⟨_,X,trivial⟩
      ·cases z
     ·simp only[BD]at z;subst z;have X:v=.slice none 0 0:=H.1.1;refine⟨[v],cs,[_],rfl,rfl,⟨H.1,trivial⟩,H.2,(bI (by simp)).2 ⟨v,rfl,?_⟩,by simp,by simp⟩;rw[X];exact (OwH.nil w _ E e).2
     ·cases z
 |.int k,pos,ls,cs,t,H,z=>take_scalar h (b:=.int k) rfl H z
 |.bool,pos,ls,cs,t,H,z=>take_scalar h (b:=.bool) rfl H z
 |.str,pos,ls,cs,t,H,z=>take_scalar h (b:=.str) rfl H z
 |.hdr,pos,ls,cs,t,H,z=>take_scalar h (b:=.hdr) rfl H z
where
 take_scalar (h:an P V W st a w) {b:Ty} {pos:Nat} {ls:List Leaf} {cs:List Value} {t:cI b.den} (hf:b.flat=true) (H:aC P V W st w ls cs) (z:(a8 st b ls).map (λx=>(⟨false,x.2.1,[],[],x.2.2⟩:cI b.den))=some t) :
   ∃ J O M,cs=J++O/\ls=M++t.rest/\aC P V W st w M J/\aC P V W st w t.rest O/\Mx w (bo V W t.p t.frz) b none pos t.val J (aW W t.kill) /\
    (∀ x∈t.frz,aA st x)/\(∀ x∈t.kill,aA st x):=by
  simp only[BE]at z;obtain⟨⟨p,x,Z⟩,h1,rfl⟩:=z;obtain⟨J,O,M,e1,e2,Y,X,h4⟩:=kO h b ls cs p x Z H h1;exact⟨J,O,M,e1,e2,Y,X,Mx.flat hf h4,by simp,by simp⟩
theorem dM (h:an P V W st a w){b:Ty}{pos:Nat}{ls:List Leaf}{cs:List Value}{t:cI b.den}(z:aC P V W st w ls cs)(r:cg st b ls=some t) :
  Mx w (bo V W t.p t.frz) b none pos t.val cs (aW W t.kill)/\(∀ x∈t.frz,aA st x)/\(∀ x∈t.kill,aA st x):=by
 unfold cg at r;split at r
 ·rename_i p x f k H;simp only[BD]at r;subst r;obtain⟨Z,y,X,u,R,Y,I,J,O,M⟩:=lN h b pos ls cs _ z H;have:y=[]:=by
   cases y with
   |nil=>rfl
   |cons=>exact I.elim
  subst this;simp only[B6]at u;subst u;exact⟨J,O,M⟩
 ·cases r
theorem gN (h:an P V W st a w):∀ {ks:List (Nat×Nat)},aZ ks=true->(∀ x∈ks,aA st x)->(aW W ks).Nodup
 |[],_,_=>Db
 |x::ks,J,M=>by
  simp only[aZ,BF,B4,CB]at J;have ih:=gN h J.2 (λy H=>M y (BS _ H));show (W.bs x.1 x.2++aW W ks).Nodup;rw[CK];obtain⟨l,I,z⟩:=M x (BZ ..);refine⟨?_,ih,λk X k' r e=>?_⟩
  ·have Z:x.2<(W.cs x.1).length:=by rw[<- h.len];exact (BG.1 I).1
   have:=h.leaf x.1 x.2 l _ I (BW Z);cases l <;> simp only[am]at z;exact OwH.nodup this
  ·subst e;obtain⟨y,H,r⟩:=gj.1 r;obtain⟨l',O,u⟩:=M y (BS _ H);obtain⟨Y,R⟩:=h.sep x.1 x.2 l y.1 y.2 l' I z O u k X r;have:=J.1 y H;rw[Y,R]at this;simp at this
theorem kf:∀ {b:Ty} {S z:Nat->Prop} {O:Option Nat} {pos:Nat} {y:b.den} {c:List Value} {q:List Nat},b.flat=true->Mx w S b O pos y c q->Rd w z b y c
 |.int _,_,_,_,_,_,_,_,_,h=>h.1
 |.bool,_,_,_,_,_,_,_,_,h=>h.1
 |.str,_,_,_,_,_,_,_,_,h=>h.1
 |.unit,_,_,_,_,_,_,_,_,h=>h.1
 |.hdr,_,_,_,_,_,_,_,_,h=>h.1
 |.pair _ _,_,_,_,_,_,_,_,r,⟨M,J,R,Y,H,X,I,u⟩=>by
  simp only[Ty.flat,BF]at r;exact⟨M,J,H,kf r.1 I,kf r.2 u⟩
 |.list _ _ _,_,_,_,_,_,_,_,r,_=>by simp[Ty.flat]at r
theorem mr (h:an P V W st a w){G:Nat->Prop}{off n:Nat}{hol I:Option Nat}(a3:∀ k,off<=k->k<off+n->I≠some k)(X:∀ k,¬ (off<=k/\k<off+n)->(I=some k<->hol=some k)) :
  ∀ (b:Ty) (pos:Nat) (x:b.den) (ls:List Leaf) (cs:List Value) (t:cI b.den) (R:List Value) (z:List Nat),aC P V W st w ls cs->db st off n b pos x ls=some t->Mx w G b hol pos x R z ->
  ∃ O c2 c' J,cs=O++c2/\aC P V W st w t.rest c2/\O.length=min (off+n) (pos+b.cells)-max off pos /\
   Mx w (λk=>G k\/bo V W t.p t.frz k) b I pos t.val c' J /\
   (∀ i,i<b.cells->c'[i]?=if off<=pos+i/\pos+i<off+n then O[pos+i-max off pos]? else R[i]?) /\
   (∀ k,J.count k<=z.count k+(aW W t.kill).count k)/\(∀ x∈t.frz,aA st x)/\(∀ x∈t.kill,aA st x)
 |.pair b c,pos,x,ls,cs,t,R,z,M,r,⟨d1,d2,b1,b2,e1,e2,a6,b5⟩=>by
  simp only[db]at r;split at r
  ·rename_i u Y;split at r
   ·rename_i v hc;simp only[BD]at r;subst r;obtain⟨O,c2,c',J,f1,f2,f3,f4,f5,f6,f7,f8⟩:=mr h a3 X b pos x.1 ls cs u d1 b1 M Y a6;obtain⟨c3,c4,b0,a1,g1,g2,g3,g4,g5,g6,g7,g8⟩:=mr h a3 X c (pos+b.cells) x.2 u.rest c2 v d2 b2 f2 hc b5;have b3:=f4.len;have bb:=g4.len;have b4:=a6.len;refine⟨O++c3,c4,c'++b0,J++a1,by rw[f1,g1,BT],g2,?_,⟨c',b0,J,a1,rfl,rfl,?_,?_⟩,?_,?_,?_,?_⟩
    ·rw[BV,f3,g3];simp only[Ty.cells];omega
    ·refine f4.mono λk H=>?_
     rcases H with H|H|⟨y,hy,H⟩
     ·exact .inl H
     ·exact .inr (.inl (bT (by intro h;simp[h]) (λ_ h=>h) k H))
     ·exact .inr (.inr ⟨y,BM _ hy,H⟩)
    ·refine g4.mono λk H=>?_
     rcases H with H|H|⟨y,hy,H⟩
     ·exact .inl H
     ·exact .inr (.inl (bT (by intro h;simp[h]) (λ_ h=>h) k H))
     ·exact .inr (.inr ⟨y,BH _ hy,H⟩)
    ·intro i hi;simp only[Ty.cells]at hi;rw[e1];by_cases b9:i<b.cells
     ·rw[BK (by omega),f5 i b9];by_cases hr:off<=pos+i/\pos+i<off+n
      ·rw[if_pos hr,if_pos hr,BK (by omega)]
      ·rw[if_neg hr,if_neg hr,BK (by omega)]
     ·rw[BJ (by omega),b3,g5 (i-b.cells) (by omega)];have e3:pos+b.cells+(i-b.cells)=pos+i:=by omega
      rw[e3];by_cases hr:off<=pos+i/\pos+i<off+n
      ·rw[if_pos hr,if_pos hr,BJ (by omega)];congr 1;omega
      ·rw[if_neg hr,if_neg hr,BJ (by omega),b4]
    ·intro k;rw[e2,BI,BI,dG,BI];have:=f6 k;have:=g6 k;omega
    ·intro y hy;exact (BO.1 hy).elim (f7 y) (g7 y)
    ·intro y hy;exact (BO.1 hy).elim (f8 y) (g8 y)
   ·cases r
  ·cases r
 |.unit,pos,x,ls,cs,t,R,z,M,r,hm=>by
  simp only[db,BD]at r;subst r;refine⟨[],cs,[],[],rfl,M,by simp only[Ty.cells,Ce];omega,⟨rfl,rfl⟩,λi hi=>by simp[Ty.cells]at hi,λk=>by simp,by simp,by simp⟩
 |.hdr,pos,x,ls,cs,t,R,z,M,r,hm=>by simp[db]at r
 |.int k,pos,x,ls,cs,t,R,z,M,r,hm=>put_scalar h (b:=.int k) rfl rfl M r hm
 |.bool,pos,x,ls,cs,t,R,z,M,r,hm=>put_scalar h (b:=.bool) rfl rfl M r hm
 |.str,pos,x,ls,cs,t,R,z,M,r,hm=>put_scalar h (b:=.str) rfl rfl M r hm
 |.list m E e,pos,x,ls,cs,t,R,z,M,r,hm=>by
  simp only[db]at r;have ba:=hm.len;have e0:(Ty.list m E e).cells=1:=rfl;cases Y:Cs off pos&&C8 pos (off+n) with
  |true =>
   rw[Y]at r;simp only[cond_true]at r;simp only[BF,Ci]at Y;have ad:=CQ Y.1;obtain⟨O,c2,l1,e1,e2,h1,h2,h3,h4,h5⟩:=lN h (.list m E e) pos ls cs t M r;have a4:=h3.len;refine⟨O,c2,O,aW W t.kill,e1,h2,by rw[a4];omega,?_,λi hi=>?_,λk=>by omega,h4,h5⟩
   ·have Z:=h3.mono (G':=λk=>G k\/bo V W t.p t.frz k) (λk H=>.inr H);cases m with
    |false=>rw[cm]at Z ⊢;exact Z
    |true =>
     rw[bI (by simp)]at Z;rw[bI (a3 pos ad Y.2)];exact Z
   ·rw[if_pos (by omega)];congr 1;omega
  |false =>
   rw[Y]at r;simp only[cond_false,BD]at r;subst r;have a2:¬ (off<=pos/\pos<off+n):=by
    rintro⟨h1,h2⟩;have:(Cs off pos&&C8 pos (off+n))=true:=by
     simp only[BF,Ci];exact⟨Cb h1,h2⟩
    rw[Y]at this;cases this
   refine⟨[],cs,R,z,rfl,M,by simp only[Ce];omega,?_,λi hi=>?_,λk=>by omega,by simp,by simp⟩
   ·have Z:=hm.mono (G':=λk=>G k\/bo V W false [] k) (λk H=>.inl H);cases m with
    |false=>rw[cm]at Z ⊢;exact Z
    |true =>
     by_cases hp:hol=some pos
     ·have a5:=(X pos a2).2 hp;subst hp;subst a5;rw[je]at Z ⊢;exact Z
     ·have a5:I≠some pos:=λe=>hp ((X pos a2).1 e)
      rw[bI hp]at Z;rw[bI a5];exact Z
   ·rw[if_neg (by omega)]
where
 put_scalar (h:an P V W st a w) {b:Ty} {pos:Nat} {x:b.den} {ls:List Leaf} {cs:List Value} {t:cI b.den} {R:List Value} {z:List Nat} (hf:b.flat=true) (h1:b.cells=1) (M:aC P V W st w ls cs)
   (r:(bif Cs off pos&&C8 pos (off+n) then take st b ls else some ⟨false,x,[],[],ls⟩)=some t) (hm:Mx w G b hol pos x R z) :
   ∃ O c2 c' J,cs=O++c2/\aC P V W st w t.rest c2/\O.length=min (off+n) (pos+b.cells)-max off pos /\
    Mx w (λk=>G k\/bo V W t.p t.frz k) b I pos t.val c' J /\
    (∀ i,i<b.cells->c'[i]?=if off<=pos+i/\pos+i<off+n then O[pos+i-max off pos]? else R[i]?) /\
    (∀ k,J.count k<=z.count k+(aW W t.kill).count k)/\(∀ x∈t.frz,aA st x)/\(∀ x∈t.kill,aA st x):=by
  have a0:∀ {S S':Nat->Prop} {hh a9:Option Nat} {y:b.den} {c:List Value} {q:List Nat},Mx w S b hh pos y c q->Mx w S' b a9 pos y c []:=by
   intro S S' hh a9 y c q hq;exact Mx.flat (w:=w) (G:=λ_=>True) hf (kf hf hq)
  cases Y:Cs off pos&&C8 pos (off+n) with
  |true =>
   rw[Y]at r;simp only[cond_true]at r;simp only[BF,Ci]at Y;have ad:=CQ Y.1;obtain⟨O,c2,l1,e1,e2,h2,h3,h4,h5,Z⟩:=lN h b pos ls cs t M r;have a4:=h4.len;refine⟨O,c2,O,[],e1,h3,by rw[a4];omega,a0 h4,λi hi=>?_,λk=>by simp,h5,Z⟩;rw[if_pos (by omega)];congr 1;omega
  |false =>
   rw[Y]at r;simp only[cond_false,BD]at r;subst r;have a2:¬ (off<=pos/\pos<off+n):=by
    rintro⟨h1,h2⟩;have:(Cs off pos&&C8 pos (off+n))=true:=by
     simp only[BF,Ci];exact⟨Cb h1,h2⟩
    rw[Y]at this;cases this
   refine⟨[],cs,R,[],rfl,M,by simp only[Ce];omega,a0 hm,λi hi=>?_,λk=>by simp,by simp,by simp⟩;rw[if_neg (by omega)]
end
section
variable {P:Program} {V:Env} {Γ:List Ctr} {T:TypeId->TI} {st st2:St} {o:Oper} {R:Type} {κ:Upd->Option R} {r:R}
def vg (V:Env)(W:Wit)(st:St)(q j k:Nat):Prop :=
 ¬ W.nw k/\¬ V.prot k/\(∀ b,live st b->W.β b≠k)/\∀ (u i:Nat) (l:Leaf),(st u).ls[i]?=some l->am l->(u,i)≠(q,j)->k∉W.bs u i
structure x6 (st st2:St) (q j:Nat) (l':Leaf):Prop where
 sh:∀ r,(st2 r).sh=(st r).sh
 ver:∀ r,(st r).ver<=(st2 r).ver
 epo:(st EPO).ver<(st2 EPO).ver
 len:∀ r,(st2 r).ls.length=(st r).ls.length
 at_:∀ l,(st2 q).ls[j]?=some l->l=l'
 old:∀ r i l,(r,i)≠(q,j)->(st2 r).ls[i]?=some l->(st r).ls[i]?=some l
def Wit.tell (W:Wit)(q j:Nat)(bs:List Nat):Wit:={ W with bs:=λr i=>if (r,i)=(q,j) then bs else W.bs r i }
theorem an.retell (hV:ay V){W:Wit}{a:Act}{w w':World}(h:an P V W st a w){q j:Nat}{l l':Leaf}(O:x6 st st2 q j l'){v:Value}{bs':List Nat}
  (hl:(st q).ls[j]?=some l) (ad:am l) (hv:(W.cs q)[j]?=some v) (b4:am l') (a5:aK P V W st w' bs' l' v)
  (a4:∀ k∈bs',vg V W st q j k)
  (I:∀ k,ca V W st k->k∉W.bs q j->w'.heap[k]?=w.heap[k]?) (a9:w.heap.size<=w'.heap.size) (b3:w'.os=w.os) (ht:w'.tape=w.tape) (ho:w'.output=w.output) :
  an P V (W.tell q j bs') st2 a w':=by
 have a0:=h.ownb q j _ hl ad;have X:∀ b,live st2 b<->live st b:=iC O.sh;have a2:∀ {y i:Nat},(y,i)≠(q,j)->(W.tell q j bs').bs y i=W.bs y i:=λh=>if_neg h
 have a3:(W.tell q j bs').bs q j=bs':=if_pos rfl;have b2:∀ (y i:Nat) (l:Leaf),(st2 y).ls[i]?=some l->am l->(y,i)≠(q,j)->(st y).ls[i]?=some l:=λy i l Y _ M=>O.old y i l M Y
 have H:cA V W (W.tell q j bs') st st2 w w':=by
  refine⟨λy=>⟨O.ver y,λ_=>rfl⟩,λb hb=>⟨(X b).2 hb,rfl⟩,λ_ h=>h,λk z=>I k (z.elim .inl (λh=>.inr (.inl h))) (λhm=>?_),λhe=>?_⟩
  ·rcases z with z|z
   ·exact (a0 k hm).1 z
   ·exact (a0 k hm).2.1 z
  ·have:=O.epo;omega
 exact {
  nt:=h.nt,df:=h.df
  slots:=λt b1=>by rw[O.sh];exact h.slots t b1
  boxes:=λb hb=>by
   rw[O.sh];rcases h.boxes b hb with ⟨Y,M⟩|⟨Y,E0,M⟩
   ·refine .inl ⟨Y,BY ?_⟩;rw[O.len,M];rfl
   ·refine .inr ⟨Y,E0,?_⟩;show w'.heap[W.β b]?=_;rw[I _ (.inr (.inr (.inl ⟨b,⟨hb,Y⟩,rfl⟩))) (λhm=>(a0 _ hm).2.2 b ⟨hb,Y⟩ rfl)];exact M
  len:=λy=>by rw[O.len];exact h.len y
  one:=h.one
  leaf:=λy i l1 u Y M=>by
   by_cases J:(y,i)=(q,j)
   ·cases J;obtain rfl:=O.at_ l1 Y;have M:(W.cs q)[j]?=some u:=M;rw[hv]at M;simp only[BD]at M;subst M;rw[a3];have a6:cA V W (W.tell q j bs') st st2 w' w':=⟨H.ver,H.box,H.nw,λ_ _=>rfl,λhe=>by have:=O.epo;omega⟩;exact a5.carry hV.ro a6 (λ_=>⟨rfl,λ_ _=>rfl⟩)
   ·have h3:=O.old y i l1 J Y;rw[a2 J];refine (h.leaf y i l1 u h3 M).carry hV.ro H (λho=>⟨rfl,λk z=>I k (.inr (.inr (.inr ⟨y,i,l1,h3,ho,z⟩))) (λhm=>J ?_)⟩);obtain⟨rfl,rfl⟩:=h.sep y i l1 q j _ h3 ho hl ad k z hm;rfl
  ownb:=λy i l1 Y M k z=>by
   by_cases J:(y,i)=(q,j)
   ·cases J;rw[a3]at z;obtain⟨q1,q2,q3,_⟩:=a4 k z;exact⟨q1,q2,λb hb=>q3 b ((X b).1 hb)⟩
   ·rw[a2 J]at z;obtain⟨q1,q2,q3⟩:=h.ownb y i l1 (O.old y i l1 J Y) M k z;exact⟨q1,q2,λb hb=>q3 b ((X b).1 hb)⟩
  sep:=λy i l1 r2 i2 l2 Y M h3 h4 k z a1=>by
   by_cases J:(y,i)=(q,j) <;> by_cases Z:(r2,i2)=(q,j)
   ·rw[<- Z]at J;cases J;exact⟨rfl,rfl⟩
   ·cases J;rw[a3]at z;rw[a2 Z]at a1;exact absurd a1 ((a4 k z).2.2.2 r2 i2 l2 (O.old r2 i2 l2 Z h3) h4 Z)
   ·cases Z;rw[a3]at a1;rw[a2 J]at z;exact absurd z ((a4 k a1).2.2.2 y i l1 (O.old y i l1 J Y) M J)
   ·rw[a2 J]at z;rw[a2 Z]at a1;exact h.sep y i l1 r2 i2 l2 (O.old y i l1 J Y) M (O.old r2 i2 l2 Z h3) h4 k z a1
  box:=λb hb=>h.box b ((X b).1 hb)
  inj:=λb b' hb b0=>h.inj b b' ((X b).1 hb) ((X b').1 b0)
  nwlt:=λk z=>⟨CN (h.nwlt k z).1 a9,(h.nwlt k z).2⟩
  os:=b3.trans h.os,tape:=ht.trans h.tape,output:=ho.trans h.output,size:=CL h.size a9
  keep:=λk hp=>by
   rw[I k (.inr (.inl hp)) (λhm=>(a0 k hm).2.1 hp)];exact h.keep k hp
  fixb:=λx hx=>⟨(X _).2 (h.fixb x hx).1,(h.fixb x hx).2⟩
  fixt:=h.fixt }
theorem kU {q:Nat}(st:St):∀ (ks:List (Nat×Nat)),(∀ x∈ks,x.1≠q)->ac (aF st ks) st q=st q
 |[],_=>rfl
 |(r,j)::ks,h=>by
  have e:ac (aF st ((r,j)::ks)) st=ac [(r,fU (ac (aF st ks) st r) j)] (ac (aF st ks) st):=aP _ _ _ _;rw[e,aJ (CT (h (r,j) (BZ ..))),kU st ks (λx u=>h x (BS _ u))]
theorem kE {q:Nat}(st:St):∀ (ks:List (Nat×Nat)),(∀ x∈ks,x.1≠q)->ac (aN st ks) st q=st q
 |[],_=>rfl
 |(r,j)::ks,h=>by
  have e:ac (aN st ((r,j)::ks)) st=ac [(r,fY (ac (aN st ks) st r) j)] (ac (aN st ks) st):=aP _ _ _ _;rw[e,aJ (CT (h (r,j) (BZ ..))),kE st ks (λx u=>h x (BS _ u))]
theorem OwH.store {w:World}{G G':Nat->Prop}{h h':Option (Nat×Nat)}{E:TypeId}{e:Ty}{xs:List e.den}{g len a4:Nat}{bs K:List Nat}(H:OwH w G h E e xs (.slice (some ⟨g,0,none⟩) len a4) bs)
  (hG:∀ k,G k->G' k) (c3:¬ G' g) (hK:K.Nodup) (c4:∀ k∈K,k∉bs) {i:Nat} {a5 z:e.den} (hi:xs[i]?=some a5) (hh:∀ j,j≠i->cJ h' j=cJ h j) {off:Nat} {cs:List Value} (e4:off+cs.length<=e.cells)
  (J:∀ c0 b0,Mx w G e (cJ h i) 0 a5 c0 b0->∃ c M,Mx w G' e (cJ h' i) 0 z c M/\(∀ k,k<e.cells->c[k]?=if off<=k/\k<off+cs.length then cs[k-off]? else c0[k]?)/\∀ k,M.count k<=b0.count k+K.count k) :
  ∃ bb,OwH (w.setCells g (i*e.cells+off) cs) G' h' E e (xs.set i z) (.slice (some ⟨g,0,none⟩) len a4) bb/\∀ k∈bb,k∈bs\/k∈K:=by
 obtain⟨dc,a0,Y,h1,h2,h3⟩:=H;have a6:i<xs.length:=(BG.1 hi).1;obtain⟨c0,b1,d2⟩:=h3 i a5 hi;obtain⟨c,M,hm,cw,bn⟩:=J c0 (Y i) b1;have cb:=h1.1;rcases h1.2 with ⟨h4,_⟩|⟨g',e3,y,mk,h4,hg,b3,cp,cc,ad⟩
 ·simp at h4
 ·simp only[CC,BD,Cn,and_true,true_and]at h4;obtain⟨rfl,rfl,rfl⟩:=h4;have dd:g∈bs:=by rw[h2];simp[B8]
  have e2:=b1.len;have cu:=hm.len;have ba:(i+1)*e.cells<=xs.length*e.cells:=BQ _ a6;rw[CF]at ba;have e1:xs.length*e.cells<=a4*e.cells:=BQ _ b3;have d1:y.toList.length=y.size:=by rw[CD]
  have b5:a0=y.toList.take (xs.length*e.cells):=ad.symm;have J:=jU g E cs 0 (i*e.cells+off) w y hg;have c2:=k9 y.toList cs (i*e.cells+off) (by omega);rw[B9]at c2;rw[c2]at J;simp only[CJ]at J;have a1:∀ k,k<xs.length*e.cells->(y.toList.take (i*e.cells+off)++cs++y.toList.drop (i*e.cells+off+cs.length))[k]? =
    if i*e.cells+off<=k/\k<i*e.cells+off+cs.length then cs[k-(i*e.cells+off)]? else a0[k]?:=by
   intro k X;have b2:a0[k]?=y.toList[k]?:=by rw[b5,CH,if_pos X]
   by_cases h9:k<i*e.cells+off
   ·rw[BT,BK (by simp only[B7];omega),CH,if_pos h9,if_neg (by omega),b2]
   ·by_cases cy:k<i*e.cells+off+cs.length
    ·rw[BT,BJ (by simp only[B7];omega),BK (by simp only[B7];omega),if_pos ⟨by omega,cy⟩];congr 1;simp only[B7];omega
    ·rw[BJ (by simp only[B7,BV];omega),CW,if_neg (by omega),b2];congr 1;simp only[B7,BV];omega
  have O:(y.toList.take (i*e.cells+off)++cs++y.toList.drop (i*e.cells+off+cs.length)).length=y.size:=by
   simp only[BV,B7,Cp];omega
  have a3:∀ k,([g]++(BR xs.length).flatMap λj=>if j=i then M else Y j).count k<=bs.count k+K.count k:=by
   intro k;have h5:=kD a6 Y M k;have h6:=bn k;rw[h2];simp only[B8,DC,BI];omega
  have Z:=ng dc hK c4 a3;have bx:∀ j,j<xs.length->∀ k∈(if j=i then M else Y j),k≠g:=by
   intro j hj k X e0;subst e0;have h7:=Z.1;rw[Cy,CO]at h7;exact h7.1 (dV.2 ⟨j,hj,X⟩)
  have I:∀ k,k≠g->(w.setCells g (i*e.cells+off) cs).heap[k]?=w.heap[k]?:=λk X=>eO g cs _ w k X
  refine⟨[g]++(BR xs.length).flatMap λj=>if j=i then M else Y j,⟨Z.1,(y.toList.take (i*e.cells+off)++cs++y.toList.drop (i*e.cells+off+cs.length)).take (xs.length*e.cells),
   λj=>if j=i then M else Y j,⟨?_,.inr ⟨g,a4,_,_,?_,J,?_,by rw[CZ,O];exact cp,?_,?_⟩⟩,?_,?_⟩,Z.2⟩
  ·rw[B7,O,CP];omega
  ·rw[CP]
  ·rw[CP];exact b3
  ·rw[CZ,O];exact cc
  ·rw[CP]
  ·simp[B8]
  ·intro j x hj;rcases aS _ _ _ _ _ hj with ⟨rfl,rfl,_⟩|⟨a2,hj⟩
   ·refine⟨c,?_,λk u hu=>?_⟩
    ·simp only[if_true];exact hm.carry (λ_ h=>h) (λk X=>I k (λe0=>c3 (e0 ▸ X))) (λk X=>I k (bx j a6 k (by simpa using X)))
    ·have b4:k<e.cells:=by rw[<- cu];exact (BG.1 hu).1
     rw[CH,if_pos (by omega),a1 _ (by omega)];rw[cw k b4]at hu;by_cases b9:off<=k/\k<off+cs.length
     ·rw[if_pos b9]at hu;rw[if_pos (by omega),<- hu];congr 1;omega
     ·rw[if_neg b9]at hu;rw[if_neg (by omega)];exact d2 k u hu
   ·obtain⟨c',bl,cx⟩:=h3 j x hj;have c1:j<xs.length:=(BG.1 hj).1;refine⟨c',?_,λk u hu=>?_⟩
    ·rw[hh j a2];simp only[if_neg a2];exact bl.carry hG (λk X=>I k (λe0=>c3 (e0 ▸ hG k X))) (λk X=>I k (bx j c1 k (by rw[if_neg a2];exact X)))
    ·have b4:k<e.cells:=by rw[<- bl.len];exact (BG.1 hu).1
     have d3:(j+1)*e.cells<=xs.length*e.cells:=BQ _ c1;rw[CF]at d3;rw[CH,if_pos (by omega),a1 _ (by omega),if_neg ?_]
     ·exact cx k u hu
     ·rintro⟨h14,h15⟩;rcases Nat.lt_or_gt_of_ne (λe=>a2 e.symm:i≠j) with a9|a9
      ·have:(i+1)*e.cells<=j*e.cells:=BQ _ a9;rw[CF]at this;omega
      ·have:(j+1)*e.cells<=i*e.cells:=BQ _ a9;rw[CF]at this;omega
theorem x7 (hV:ay V)(hT:TOk P T){t:TypeId}{x y:Operand}(b2:o.op=.store t x y)(h:act Γ T o st κ=some r):bV P V o st κ r:=by
  simp only[act,wrU,b2]at h;split at h
  · cases h
  · rename_i hd
    cases hb:BU (au st y).2.length (T t).cells&&decide ((au st y).1=bi (T t).agg)&&!decide ((T t).cells=0) with
    |false=>simp[hb]at h
    |true =>
      simp only[hb,cond_true]at h;simp only[BF,decide_eq_true_eq,B4,decide_eq_false_iff_not]at hb;obtain⟨⟨bb,bx⟩,b9⟩:=hb;have bb:=BL bb;split at h
      · rename_i b off hx
        cases Z:decide ((st b).sh=.agg)&&decide (off+(au st y).2.length<=(st b).ls.length)&&ib st (au st y).2 with
        |false=>simp[Z]at h
        |true =>
          simp only[Z,cond_true]at h;simp only[BF,decide_eq_true_eq]at Z;exact⟨_,h,λW a w hr=>tA hV hT b2 hd hx bb bx b9 Z.1.1 Z.1.2 Z.2 hr⟩
      · rename_i z j g2 i sz off hx
        split at h
        · rename_i p hh E e xs ec
          cases Z:BU sz e.cells&&decide (off+(au st y).2.length<=e.cells)&&r8 z with
          |false=>simp[Z]at h
          |true =>
            simp only[Z,cond_true]at h;simp only[BF,decide_eq_true_eq,r8,B4]at Z;obtain⟨⟨ba,g1⟩,g3,eg⟩:=Z;have ba:=BL ba;subst ba;have fc:z≠EPO:=λe0=>by subst e0;simp at eg
            unfold gE at h;obtain⟨a0,cx,h⟩:=CA.1 h;obtain⟨_,_,h4⟩:=gl cx;simp only[DF]at h4;split at h
            · rename_i u hu
              cases hq:u.rest.isEmpty&&aZ u.kill&&dz u.frz u.kill&&!((u.kill++u.frz).any λk=>BU k.1 z) with
              |false=>rw[hq]at h;cases h
              |true =>
                simp only[hq,cond_true]at h;simp only[BF,B4,CB]at hq;obtain⟨⟨⟨eb,fd⟩,et⟩,a3⟩:=hq;have a3:∀ k∈u.kill++u.frz,k.1≠z:=λk H e0=>a3 k H (by simp[e0])
                obtain ⟨I, hκ, cy, ad, cu⟩ : ∃ I : Option (Nat × Nat), κ ((z, ⟨(st z).ver, (st z).sh, aT (st z).ls j (.own (p || u.p) I E e (xs.set i u.val))⟩) :: (EPO, bU (ac (aN (ac (aF st u.frz) st) u.kill ++ aF st u.frz) st EPO)) ::
                      (aN (ac (aF st u.frz) st) u.kill++aF st u.frz))=some r /\
                    (∀ k,off<=k->k<off+(au st y).2.length->cJ I i≠some k)/\(∀ k,¬ (off<=k/\k<off+(au st y).2.length)->(cJ I i=some k<->cJ hh i=some k))/\(∀ j',j'≠i->cJ I j'=cJ hh j'):=by
                  cases hh with
                  |none=>exact⟨none,h,λ_ _ _=>by simp[cJ],λ_ _=>Ck,λ_ _=>rfl⟩
                  |some hp =>
                    obtain⟨hi,ho⟩:=hp;simp only at h;cases J:Cs off ho&&C8 ho (off+(au st y).2.length) with
                    |true =>
                      rw[J]at h;simp only[cond_true]at h;simp only[BF,Ci]at J;have ef:=CQ J.1;cases a1:BU i hi with
                      |true =>
                        rw[a1]at h;have:=BL a1;subst this;refine⟨none,h,λ_ _ _=>by simp[cJ],λk H=>?_,λj' em=>?_⟩
                        · simp only[cJ,Nat.beq_refl,cond_true,reduceCtorEq,BD,false_iff]
                          rintro rfl;exact H ⟨ef,J.2⟩
                        · have:BU i j'=false:=by
                            cases b4:BU i j' with
                            |false=>rfl
                            |true=>exact absurd (BL b4).symm em
                          simp[cJ,this]
                      |false =>
                        rw[a1]at h;have f0:BU hi i=false:=by
                          cases b4:BU hi i with
                          |false=>rfl
                          |true =>
                            have:=BL b4;subst this;simp at a1
                        exact⟨some (hi,ho),h,λ_ _ _=>by simp[cJ,f0],λ_ _=>Ck,λ_ _=>rfl⟩
                    |false =>
                      rw[J]at h;refine⟨some (hi,ho),h,λk bl e7=>?_,λ_ _=>Ck,λ_ _=>rfl⟩;simp only[cJ];cases BU hi i with
                      |false=>simp
                      |true =>
                        simp only[cond_true,ne_eq,BD];rintro rfl;have:(Cs off ho&&C8 ho (off+(au st y).2.length))=true:=by
                          simp only[BF,Ci];exact⟨Cb bl,e7⟩
                        rw[J]at this;cases this
                refine⟨_,hκ,λW a w hr next Q hn=>?_⟩;obtain⟨cs,hs,M⟩:=cU hr y;rw[bx]at hs;have es:=gU hs M.one';have cw:=M.length;obtain⟨h5,h6⟩:=fg ec (by simp);obtain⟨hp,_,_,_⟩:=bt hr x (by rw[hx];simp);rw[hx]at hp;obtain⟨g,fl,fo,a6,fz,hv⟩:=hp.2 h5;have ev:T t≠.none:=by intro e;rw[e]at b9;exact b9 rfl
                have a2:=hr.leaf z j _ _ h6 a6;have ed:∀ c0 O,Mx w (gd V W p) e (cJ hh i) 0 a0 c0 O->∃ c a4,Mx w (λk=>gd V W p k\/bo V W u.p u.frz k) e (cJ I i) 0 u.val c a4 /\
                    (∀ k,k<e.cells->c[k]?=if off<=k/\k<off+cs.length then cs[k-off]? else c0[k]?)/\∀ k,a4.count k<=O.count k+(aW W u.kill).count k:=by
                  intro c0 O hm;obtain⟨c1,c2,c',bs',f1,f2,f3,f4,f5,f6,f7,f8⟩:=mr hr cy ad e 0 a0 (au st y).2 cs u c0 O M hu hm;have d2:c2=[]:=by
                    have:=f2.length;rw[DN.1 eb]at this;exact BY this.symm
                  subst d2;rw[B6]at f1;subst f1;refine⟨c',bs',f4,λk H=>?_,f6⟩;rw[f5 k H,cw];simp only[CU];by_cases J:off<=k/\k<off+cs.length
                  · rw[if_pos J,if_pos J]
                    congr 1;omega
                  · rw[if_neg J,if_neg J]
                have b0:(∀ x∈u.frz,aA st x)/\(∀ x∈u.kill,aA st x):=by
                  obtain⟨_,a5,cc,_,_,cp⟩:=a2;obtain⟨c0,e5,_⟩:=cp i a0 h4;obtain⟨_,_,_,_,_,_,_,_,_,_,f7,f8⟩:=mr hr cy ad e 0 a0 (au st y).2 cs u c0 _ M hu e5;exact⟨f7,f8⟩
                obtain⟨k1,k2,k3,k4⟩:=fH hV hr et b0.2;have X:ac (aN (ac (aF st u.frz) st) u.kill++aF st u.frz) st z=st z:=by
                  rw[bC,kE _ _ (λx hx=>a3 x (BM _ hx)),kU _ _ (λx hx=>a3 x (BH _ hx))]
                have h7:(ac (aN (ac (aF st u.frz) st) u.kill++aF st u.frz) st z).ls[j]?=some (.own p hh E e xs):=by rw[X];exact h6
                have a9:=k1.ownb z j _ h7 trivial;have d3:∀ k,gd V W p k\/bo V W u.p u.frz k->gd V (W.frz st u.frz) (p||u.p) k:=by
                  rintro k (H|H)
                  · exact bT (W':=W.frz st u.frz) (by intro h;simp[h]) (λ_ h=>Or.inl h) k H
                  · exact bT (W':=W.frz st u.frz) (by intro h;simp[h]) (λ_ h=>h) k (kt b0.1 k H)
                have b1:g∈W.bs z j:=by obtain⟨_,a5,cc,_,c3,_⟩:=a2;rw[c3];simp[B8]
                have fr:¬ gd V (W.frz st u.frz) (p||u.p) g:=by
                  rintro (H|⟨_,H⟩)
                  · exact (a9 g b1).1 H
                  · exact (a9 g b1).2.1 (hV.ro g H)
                have e6:∀ k∈aW W u.kill,k∉W.bs z j:=λk H ex=>(k4 k H).2.2.2.2 z j _ h7 trivial ex
                obtain⟨bs',c4,cb⟩:=OwH.store (G':=gd V (W.frz st u.frz) (p||u.p)) (h':=I) a2 (λk H=>d3 k (.inl H)) fr (gN hr fd b0.2) e6 h4 cu (off:=off) (cs:=cs) (by omega)
                  (λc0 O hm=>by
                    obtain⟨c,a4,q1,q2,q3⟩:=ed c0 O hm;exact⟨c,a4,q1.mono d3,q2,q3⟩)
                obtain⟨_,a5,cc,ho,c3,_⟩:=a2;have en:fl=xs.length:=by
                  obtain⟨A,d1,e0,_⟩:=ho.slice;simp only[CC]at e0;exact e0.2.1
                subst en;rcases ho.2 with ⟨h8,_⟩|⟨g',d1,cur,mk,h8,hg,ej,fi,fx,_⟩
                · simp at h8
                · simp only[CC,BD,Cn,and_true,true_and]at h8
                  obtain⟨rfl,rfl⟩:=h8;have dc:(i+1)*e.cells<=xs.length*e.cells:=BQ _ (BG.1 h4).1;rw[CF]at dc;have fv:xs.length*e.cells<=fo*e.cells:=BQ _ ej;have b5:cur.toList.length=cur.size:=by rw[CD]
                  have dd:=nf (P:=P) (oO (hT t) ev) (w:=w) (b:=g) (off:=i*e.cells+off) (cur:=cur.toList) (E:=E) (by rw[B9];exact hg) (by rw[b5];exact zG fi) es (by omega) M.one' (by omega);refine pA (w':=w.setCells g (i*e.cells+off) cs) (by simp[execOp,b2,hv,dd]) ?_;rw[hd];refine hn _ _ ?_;obtain⟨e1,e2,e3,e4⟩:=jV g cs (i*e.cells+off) w;refine⟨_,k1.retell hV (l':=.own (p||u.p) I E e (xs.set i u.val)) (w':=w.setCells g (i*e.cells+off) cs) (bs':=bs') ?_ h7 trivial a6 trivial c4 (λk H=>?_) (λk _ H=>eO g cs _ w k (λe=>H (e ▸ b1))) (Cr e4.symm) e1 e2 e3⟩
                  · rw[aP z,aP EPO]
                    have Y:EPO≠z:=CT fc;generalize aN (ac (aF st u.frz) st) u.kill++aF st u.frz=U at X ⊢;refine⟨λq=>?_,λq=>?_,?_,λq=>?_,λl M=>?_,λq i' l hq M=>?_⟩
                    · rcases aj z q ⟨(st z).ver,(st z).sh,aT (st z).ls j (.own (p||u.p) I E e (xs.set i u.val))⟩ (ac [(EPO,bU (ac U st EPO))] (ac U st)) with ⟨rfl,e⟩ | ⟨_,e⟩
                      · rw[e,X]
                      · rw[e]
                        rcases aj EPO q (bU (ac U st EPO)) (ac U st) with ⟨rfl,e⟩|⟨_,e⟩ <;> rw[e];rfl
                    · rcases aj z q ⟨(st z).ver,(st z).sh,aT (st z).ls j (.own (p||u.p) I E e (xs.set i u.val))⟩ (ac [(EPO,bU (ac U st EPO))] (ac U st)) with ⟨rfl,e⟩ | ⟨_,e⟩
                      · rw[e,X];exact BX _
                      · rw[e]
                        rcases aj EPO q (bU (ac U st EPO)) (ac U st) with ⟨rfl,e⟩|⟨_,e⟩ <;> rw[e]
                        · exact DS _
                        · exact BX _
                    · rw[aJ Y,bk];exact BP _
                    · rcases aj z q ⟨(st z).ver,(st z).sh,aT (st z).ls j (.own (p||u.p) I E e (xs.set i u.val))⟩ (ac [(EPO,bU (ac U st EPO))] (ac U st)) with ⟨rfl,e⟩ | ⟨_,e⟩
                      · rw[e,X];simp[aT]
                      · rw[e]
                        rcases aj EPO q (bU (ac U st EPO)) (ac U st) with ⟨rfl,e⟩|⟨_,e⟩ <;> rw[e];rfl
                    · rw[bk]at M
                      rcases aS _ _ _ _ _ M with ⟨_,rfl,_⟩|⟨Y,_⟩
                      · rfl
                      · exact absurd rfl Y
                    · rcases aj z q ⟨(st z).ver,(st z).sh,aT (st z).ls j (.own (p||u.p) I E e (xs.set i u.val))⟩ (ac [(EPO,bU (ac U st EPO))] (ac U st)) with ⟨rfl,e⟩ | ⟨_,e⟩
                      · rw[e]at M
                        rw[X];rcases aS _ _ _ _ _ M with ⟨rfl,_,_⟩|⟨_,M⟩
                        · exact absurd rfl hq
                        · exact M
                      · rw[e]at M
                        rcases aj EPO q (bU (ac U st EPO)) (ac U st) with ⟨rfl,e⟩|⟨_,e⟩ <;> rw[e]at M <;> exact M
                  · rcases cb k H with H|H
                    · have h9:=k1.ownb z j _ h7 trivial k H
                      exact⟨h9.1,h9.2.1,h9.2.2,λr1 i1 l1 b3 bn Y bl=>Y (by obtain⟨e1,e2⟩:=k1.sep r1 i1 l1 z j _ b3 bn h7 trivial k bl H;rw[e1,e2])⟩
                    · have h9:=k4 k H
                      exact⟨h9.1,h9.2.1,h9.2.2.2.1,λr1 i1 l1 b3 bn _=>h9.2.2.2.2 r1 i1 l1 b3 bn⟩
            · cases h
        · cases h
      · cases h
end
section
variable {P:Program} {V:Env} {Γ:List Ctr} {T:TypeId->TI} {st:St} {o:Oper} {R:Type} {κ:Upd->Option R} {r:R}
theorem an.putOwn (hV:ay V){W:Wit}{a:Act}{w w':World}(h:an P V W st a w)(J:w.heap.size<=w'.heap.size)(O:w'.os=w.os)(ht:w'.tape=w.tape)(ho:w'.output=w.output)
  (hk:∀ k,ca V W st k->w'.heap[k]?=w.heap[k]?) (d:Nat) (hd:d<V.nt) (z:∀ x∈V.fixt,x.1≠d) (n:Nat) (hn:(st d).ver<n) {p:Bool} {E:TypeId} {e:Ty} {xs:List e.den} {v:Value} {bs:List Nat}
  (Y:Ow w' (gd V W p) E e xs v bs) (hb:∀ k∈bs,¬ ca V W st k):Rel P V (ac [(d,⟨n,.one,[.own p none E e xs]⟩)] st) (a.put (some d) v) w':=by
 refine⟨_,(h.world hV J O ht ho hk).put hV d hd z n .one [.own p none E e xs] v [v] (λ_=>bs) hn rfl rfl (λu X=>by simp at X;subst X;exact Y.one) ?_ ?_ ?_⟩
 ·intro j l u y H;cases j with
  |zero=>simp at y H;subst y;subst H;exact Y
  |succ j=>simp at y
 ·intro j l y H k I;have:=hb k I;simp only[ca,not_or,not_exists,not_and]at this;exact⟨this.1,this.2.1,this.2.2.1,λr1 j1 l1 _ M Z=>this.2.2.2 r1 j1 l1 M Z⟩
 ·intro j j' l l' y H M Z k h5 h6;have h7:j<1:=(BG.1 y).1;have h8:j'<1:=(BG.1 M).1;omega
theorem dP {W:Wit}{p q:Bool}{z H:List (Nat×Nat)}:(∀ k,bo V W p z k->bo V W (p||q) (z++H) k)/\(∀ k,bo V W q H k->bo V W (p||q) (z++H) k):=by
 constructor
 ·rintro k (u|⟨x,y,u⟩)
  ·exact .inl (bT (W':=W) (by intro h;simp[h]) (λ_ h=>h) k u)
  ·exact .inr ⟨x,BM _ y,u⟩
 ·rintro k (u|⟨x,y,u⟩)
  ·exact .inl (bT (W':=W) (by intro h;simp[h]) (λ_ h=>h) k u)
  ·exact .inr ⟨x,BH _ y,u⟩
theorem x8 (n:Nat)(u:Nat->List Nat):(BR (n+1)).flatMap u=u 0++(BR n).flatMap λj=>u (j+1):=by
 rw[List.range_succ_eq_map,CR,DO]
theorem ou {W:Wit}{a:Act}{w:World}(O:an P V W st a w){e:Ty}:∀ (ps:List (Nat×Operand)) (k:Nat) (u:cI (List e.den)),eC st e k ps=some u ->
  ps.map (λx=>(x.1,a.eval x.2))=((ps.map λx=>a.eval x.2).zipIdx k).map (λx=>(x.2,x.1))/\u.val.length=ps.length/\(∀ x∈u.frz,aA st x)/\(∀ x∈u.kill,aA st x) /\
  ∃ z:Nat->List Nat,aW W u.kill=(BR u.val.length).flatMap z /\
   ∀ (j:Nat) (x:e.den),u.val[j]?=some x->∃ v c,(ps.map λx=>a.eval x.2)[j]?=some v/\v.cells=c.toArray/\Mx w (bo V W u.p u.frz) e none 0 x c (z j)
 |[],k,u,h=>by
  simp only[eC,BD]at h;subst h;exact⟨rfl,rfl,by simp,by simp,λ_=>[],rfl,λj x H=>by simp at H⟩
 |(i,y)::ps,k,u,h=>by
  simp only[eC]at h;cases I:BU i k&&decide ((au st y).1=bi e.isAgg) with
  |false=>simp[I]at h
  |true =>
   simp only[I,cond_true]at h;simp only[BF,decide_eq_true_eq]at I;have J:=BL I.1;subst J;split at h
   ·rename_i t1 u1 hg M;simp only[BD]at h;subst h;obtain⟨h1,h2,h3,h4,z,h5,h6⟩:=ou O ps (i+1) u1 M;obtain⟨cs,Z,Y⟩:=cU O y;rw[I.2]at Z;have hc:=gU Z Y.one';obtain⟨g1,g2,g3⟩:=dM (pos:=0) O Y hg;refine⟨by simp[h1],by simp[h2],λx X=>(BO.1 X).elim (g2 x) (h3 x),λx X=>(BO.1 X).elim (g3 x) (h4 x),λj=>match j with|0=>aW W t1.kill|j+1=>z j,?_,?_⟩
    ·rw[dG,h5,Cq,x8]
    ·intro j x H;cases j with
     |zero =>
      simp at H;subst H;exact⟨a.eval y,cs,by simp,hc,g1.mono dP.1⟩
     |succ j =>
      obtain⟨v,c,h7,h8,h9⟩:=h6 j x (by simpa using H);exact⟨v,c,by simpa using h7,h8,h9.mono dP.2⟩
   ·cases h
theorem lO (w:World)(G:Nat->Prop):∀ (b:Ty),Rd w G b b.zero (zeroCells b)
 |.int _=>rfl
 |.bool=>rfl
 |.str=>rfl
 |.unit=>rfl
 |.hdr=>⟨none,0,rfl⟩
 |.pair a b=>⟨_,_,rfl,lO w G a,lO w G b⟩
 |.list m E e=>Rd.nil w G m E e
theorem qF (w:World)(G:Nat->Prop):∀ (b:Ty) (pos:Nat),Mx w G b none pos b.zero (zeroCells b) []
 |.int _,_=>⟨rfl,rfl⟩
 |.bool,_=>⟨rfl,rfl⟩
 |.str,_=>⟨rfl,rfl⟩
 |.unit,_=>⟨rfl,rfl⟩
 |.hdr,_=>⟨⟨none,0,rfl⟩,rfl⟩
 |.pair a b,_=>⟨_,_,[],[],rfl,rfl,qF w G a _,qF w G b _⟩
 |.list m E e,_=>by
  cases m with
  |false=>exact cm.2 ⟨rfl,Rd.nil w G false E e⟩
  |true=>exact (bI (by simp)).2 ⟨_,rfl,(OwH.nil w G E e).2⟩
theorem mt {W:Wit}{k:Nat}(h:¬ W.nw k/\¬ V.prot k/\(∀ b,live st b->W.β b≠k)/\∀ (u i:Nat) (l:Leaf),(st u).ls[i]?=some l->am l->k∉W.bs u i):¬ ca V W st k:=by
 rintro (y|y|⟨b,J,e⟩|⟨u,i,l,H,z,I⟩)
 ·exact h.1 y
 ·exact h.2.1 y
 ·exact h.2.2.1 b J e
 ·exact h.2.2.2 u i l H z I
theorem mu:(9223372036854775807:Nat)<=maxLen:=by decide
theorem qG (hV:ay V)(hT:TOk P T)(b2:bM V o){t:TypeId}{n:Nat}{y:Array (Nat×Operand)}(a1:o.op=.buildSlice t n y)(h:act Γ T o st κ=some r):bV P V o st κ r:=by
 simp only[act,wrU,a1]at h;cases ht:T t with
 |slice E e bn =>
  simp only[ht]at h;split at h
  ·rename_i u c1;cases hb:BU u.val.length n&&decide (n*e.cells<=16777216)&&aZ u.kill&&dz u.frz u.kill with
   |false=>simp[hb]at h
   |true =>
    simp only[hb,cond_true]at h;simp only[BF,decide_eq_true_eq]at hb;obtain⟨⟨⟨cc,cp⟩,c2⟩,bb⟩:=hb;have c3:=BL cc;subst c3;split at h
    ·rename_i d hd;refine⟨_,h,λW a w hr next Q hn=>?_⟩;have h1:=hT t;rw[ht]at h1;obtain⟨hu,_,_,Y,_,ti,z,a5,O,_,hz,cu⟩:=h1;obtain⟨h2,h3,b4,b5,b0,bl,h5⟩:=ou hr y.toList 0 u c1;generalize cw:u.val=I at *;have a4:∀ v∈(y.toList.map λx=>a.eval x.2),v.cells.size=e.cells:=by
      intro v hv;obtain⟨j,hj,e1⟩:=List.getElem_of_mem hv;have bx:j<I.length:=by rw[h3];simpa using hj
      obtain⟨v',c,X,Z,h8⟩:=h5 j I[j] (BW bx);rw[BW hj]at X;simp only[BD]at X;rw[<- e1,X,Z];simpa using h8.len
     have ba:(y.toList.map λx=>a.eval x.2).length=I.length:=by rw[Cf,h3]
     have a3:∀ (j:Nat) (x:e.den),I[j]?=some x->∃ c,Mx w (bo V W u.p u.frz) e none 0 x c (b0 j)/\∀ i u,c[i]?=some u ->
       ((y.toList.map λx=>a.eval x.2).flatMap λv=>v.cells.toList)[j*e.cells+i]?=some u:=by
      intro j x hj;obtain⟨v,c,X,Z,h8⟩:=h5 j x hj;refine⟨c,h8,λi u hi=>?_⟩;have ad:i<e.cells:=by rw[<- h8.len];exact (BG.1 hi).1
      rw[Great.flat_get Y _ a4];have e1:(j*e.cells+i) / e.cells=j:=by
       rw[Ct,Nat.mul_add_div Y,Nat.div_eq_of_lt ad,CJ]
      have e2:(j*e.cells+i) % e.cells=i:=by
       rw[Ct,DX,DP ad]
      rw[e1,e2,X];simpa[Z]using hi
     have a2:((y.toList.map λx=>a.eval x.2).flatMap λv=>v.cells.toList).length=I.length*e.cells:=by
      have:∀ (vs:List Value),(∀ v∈vs,v.cells.size=e.cells)->(vs.flatMap λv=>v.cells.toList).length=vs.length*e.cells:=by
       intro vs;induction vs with
       |nil=>intro _;simp
       |cons v vs ih =>
        intro hv;rw[CR,BV,ih (λu hu=>hv u (BS _ hu)),CD,hv v (BZ ..),Cq,CF];omega
      rw[this _ a4,ba]
     have H:=Great.fill_whole Y (y.toList.map λx=>a.eval x.2) ((Array.range (I.length*e.cells)).map ((if I.length*e.cells=0 then (#[]:Array Value) else z.cells)[· % (if I.length*e.cells=0 then (#[]:Array Value) else z.cells).size]!)) a4 (by rw[ba];simp);rw[<- h2]at H;have a0:(y.map λ (i,x)=>(i,a.eval x)).toList=y.toList.map λx=>(x.1,a.eval x.2):=by rw[DQ]
     have b9:(execOp a.eval o).run P w=.ok (.value (.slice (some ⟨w.heap.size,0,none⟩) I.length I.length)) (w.alloc (.cells ((y.toList.map λx=>a.eval x.2).flatMap λv=>v.cells.toList).toArray E)):=by
      have M:¬ (I.length*e.cells>2 ^ 24):=by omega
      by_cases h0:I.length*e.cells=0
      ·rw[if_pos h0]at H;simp only[execOp,a1,Instr.buildSlice,DG,run_underlying hu,Cl,sizeOf,typeInfo,a5,O,a0];simp[M,h0,newRow,a5,O,a0]at H ⊢;simp[H]
      ·rw[if_neg h0]at H;have:=run_buildSlice (P:=P) w t E I.length (y.map λ (i,x)=>(i,a.eval x)) _ ti z hu a5 hz (by rw[O];exact M) (by rw[O];exact h0) (by rw[O,a0];exact H);simp[execOp,a1,this]
     refine dW b9 ?_;rw[hd];refine hn _ _ ?_;rw[cf,aP];obtain⟨X,_,_,a6⟩:=fH hV hr bb b5;have b1:=X.used_lt;have a9:I.length<=maxLen:=by
      have:=mu;have:I.length*1<=I.length*e.cells:=Ch _ Y;omega
     have cb:=World.ownsRow_lit (e:=E) (size:=e.cells) (base:=0) w ((y.toList.map λx=>a.eval x.2).flatMap λv=>v.cells.toList).toArray I.length (DT _) a9 (by simpa using a2);refine X.putOwn hV (w':=w.alloc (.cells ((y.toList.map λx=>a.eval x.2).flatMap λv=>v.cells.toList).toArray E)) (by simp) rfl rfl rfl (λk J=>Go.heap_alloc_old w _ (b1 k J)) d (b2 d hd).1 (b2 d hd).2 _ (BP _) (bs:=w.heap.size::aW W u.kill) ?_ (λk J hu=>?_)
     ·refine⟨CO.2 ⟨λhm=>?_,gN hr c2 b5⟩,_,b0,Row.of cb,by rw[bl];rfl,λj x hj=>?_⟩
      ·have:=(a6 _ hm).2.2.1;omega
      ·obtain⟨c,b3,c0⟩:=a3 j x hj;have c4:∀ k,bo V W u.p u.frz k->k<w.heap.size:=λk J=>by
        rcases kt b4 k J with J|⟨_,J⟩
        ·exact (X.nwlt k J).1
        ·exact CN (hV.ro k J).1 X.size
       exact⟨c,b3.carry (kt b4) (λk J=>Go.heap_alloc_old w _ (c4 k J)) (λk J=>Go.heap_alloc_old w _ (b3.lt k J)),λi u hi=>by simpa using c0 i u hi⟩
     ·rcases CV.1 J with rfl|J
      ·have:=b1 _ hu;omega
      ·have Z:=a6 k J;exact mt ⟨Z.1,Z.2.1,Z.2.2.2.1,Z.2.2.2.2⟩ hu
    ·cases h
  ·cases h
 |_=>simp[ht]at h
theorem x9 {w:World}{G:Nat->Prop}{E':TypeId}{y u e:TypeId}(Z:P.underlying y=some (.slice e))(Y:P.underlying e=some (.int .u8))(X:P.underlying u=some .string){xs:List Int}{v:Value}
  (h:Rd w G (.list false E' (.int .u8)) xs [v]):(convert y u v).run P w=.ok (.string (gF xs)) w:=by
 obtain⟨A,z,hv,hc,J⟩:=h;simp only[Cg,and_true]at hv;subst hv;cases A with
 |none =>
  have hx:xs=[]:=by
   cases xs with
   |nil=>rfl
   |cons x xs=>obtain⟨g,o,M,_⟩:=J (by simp);cases M
  subst hx;show (convert y u (.slice none 0 z)).run P w=_;rw[run_convert_bytes_nil w y e Z Y 0 z u X];rfl
 |some ad =>
  cases I:xs with
  |nil =>
   subst I;show (convert y u (.slice (some ad) 0 z)).run P w=_;rw[run_convert_bytes_string w y u e ad 0 z Z Y X];simp[Conv.bytesToString,loadCells,loadCellsFrom];rfl
  |cons x0 a0 =>
   rw[<- I];obtain⟨g,o,M,_,hr⟩:=J (by rw[I];simp);simp only[BD]at M;subst M;have:=run_convert_bytes_arg (P:=P) w y e Z Y g o xs.length z xs rfl (λi hi=>by
    obtain⟨c,H,O⟩:=hr i xs[i] (BW hi);have H:c=[.int .u8 xs[i]]:=H;subst H;have:=O 0 _ rfl;simp only[Ty.cells,C5,CJ]at this;rw[this];simp[List.getD,BW hi]) u X
   rw[this];rfl
theorem uE (hV:ay V)(hT:TOk P T)(M:bM V o){s t:TypeId}{x:Operand}(J:o.op=.convert s t x)(h:act Γ T o st κ=some r):bV P V o st κ r:=by
 simp only[act,wrU,J]at h;have y:=hT t;have z:=hT s;split at h
 ·rename_i k' k a4 n Z Y hx;split at h
  ·rename_i d O;refine⟨_,h,λW a w I=>aO hV I O M (v:=.int k (k.wrap n)) ?_ rfl id rfl⟩;rw[Y]at y;rw[Z]at z;simp[execOp,J,bF I hx,Go.convert,run_underlying y.1,run_underlying z.1,Conv.intToInt]
  ·cases h
 ·rename_i E b Z Y;split at h
  ·rename_i p xs ha;split at h
   ·rename_i d O;refine⟨_,h,λW a w I=>?_⟩;have a2:one st x≠.dead:=by intro e0;rw[e0]at ha;simp[aD,dh]at ha
    obtain⟨h1,h2,_⟩:=bt I x a2;have a0:=kN (m:=false) (E:=E) I h1 h2 ha;rw[Y]at y;rw[Z]at z;refine aO hV I O M (v:=.string (gF xs)) ?_ rfl id rfl;have:=x9 (P:=P) z.1 (z.2.2.2.2.1.2 rfl) y.1 a0;simp[execOp,J,this]
   ·cases h
  ·cases h
 ·rename_i E b H Z Y hx;split at h
  ·rename_i d O;refine⟨_,h,λW a w I next Q hn=>?_⟩;rw[Y]at y;rw[Z]at z;have hc:(eu H).length=H.size:=by simp only[eu,Cf,CD];rfl
   have X:=Lib.run_convert_string_bytes (P:=P) w s t E H z.1 y.1 (y.2.2.2.2.1.2 rfl);refine dW (v:=.slice (some ⟨w.heap.size,0,none⟩) H.size (grownCap w H.size 0 E)) (w':=Lib.bytesWorld w E H) (by simp[execOp,J,iB I hx,X]) ?_;rw[O];refine hn _ _ ?_;have a1:=grownCap_ge w H.size 0 E;have a3:(Lib.bytesCells w E H).size=grownCap w H.size 0 E:=by
    simp only[Lib.bytesCells,DH,Array.size_map,Array.size_replicate];show H.size+_=_;omega
   refine I.putOwn hV (by rw[Lib.bytesWorld_size];omega) (by simp[Lib.bytesWorld,DI,DU,Dc,-C6,-DA]) (by simp[Lib.bytesWorld,DI,DU,Dc,-C6,-DA]) (by simp[Lib.bytesWorld,DI,DU,Dc,-C6,-DA])
    (λk hk=>Lib.bytesWorld_at_old w E H k (I.used_lt k hk)) d (M d O).1 (M d O).2 _ (BP _) (bs:=[w.heap.size])
    ⟨by simp,(eu H).map (Value.int .u8),λ_=>[],⟨by rw[Cf];exact (C5 _).symm,.inr ⟨w.heap.size,_,_,_,by rw[hc],Lib.bytesWorld_at_new w E H,by rw[hc];exact a1,.inr ⟨rfl,BX _⟩,by rw[a3];exact Cr (C5 _),?_⟩⟩,by simp[B8],λj x hj=>?_⟩ (λk hk hu=>?_)
   ·simp only[Lib.bytesCells,C9,DQ,Ty.cells,C5,eu,DJ];exact List.take_left' (by simp)
   ·refine⟨[.int .u8 x],⟨rfl,rfl⟩,λi u hi=>?_⟩
    match i,hi with
    |0,hi =>
     simp only[CX,BD]at hi;subst hi;simp[Ty.cells,hj]
   ·simp at hk;have:=I.used_lt k hu;omega
  ·cases h
 ·cases h
theorem rX (hV:ay V)(hT:TOk P T)(a0:bM V o){t:TypeId}{n c:Operand}(O:o.op=.makeSlice t n c)(h:act Γ T o st κ=some r):bV P V o st κ r:=by
 simp only[act,wrU,O]at h;split at h
 ·rename_i E e H k1 m k2 m' ht b3 a6;cases hb:decide (0<=m)&&decide (m=m')&&decide (m*H<=(ak:Int)) with
  |false=>simp[hb]at h
  |true =>
   simp only[hb,cond_true]at h;simp only[BF,decide_eq_true_eq]at hb;obtain⟨⟨h0,rfl⟩,b5⟩:=hb;split at h
   ·rename_i d hd;refine⟨_,h,λW a w M next Q hn=>?_⟩;have h1:=hT t;rw[ht]at h1;obtain⟨hu,_,_,bl,b0,ti,z,a3,a9,a2,hz,X⟩:=h1;have hm:(m.toNat:Int)=m:=by omega
    have Z:m.toNat*H<=ak:=by
     have:((m.toNat*H:Nat):Int)<=(ak:Int):=by rw[Int.natCast_mul,hm];exact b5
     omega
    have ba:m.toNat*1<=m.toNat*H:=Ch _ b0.1;simp only[ak]at Z;have b9:=mu;obtain⟨w',I,a1,y⟩:=run_make_full (P:=P) w 0 t E ti z e.cells hu a3 hz a9 k1 k2 m.toNat (by rw[a2,Ct];omega) (by omega) (DT _);rw[hm]at I;refine dW (v:=.slice (some ⟨w.heap.size,0,none⟩) m.toNat m.toNat) (w':=w') (by simp[execOp,O,bF M b3,bF M a6,I]) ?_;rw[hd];refine hn _ _ ?_;have a5:z.cells.size=e.cells:=by
     have h2:=(lO w (λ_=>False) e).len;rw[<- CD,X,h2]
    refine M.putOwn hV y.size y.os y.tape y.output (λk hk=>y.block k (M.used_lt k hk) (by simp)) d (a0 d hd).1 (a0 d hd).2 _ (BP _) (bs:=[w.heap.size])
     ⟨by simp,_,λ_=>[],by rw[Cz];exact Row.of a1,by simp[B8],λj x Y=>?_⟩ (λk hk hu=>?_)
    ·rw[CY]at Y;split at Y
     ·rename_i b2;simp at Y;subst Y;refine⟨_,qF w' _ e 0,λi u hi=>?_⟩;have b1:i<e.cells:=by rw[<- (lO w' (λ_=>False) e).len];exact (BG.1 hi).1
      have J:(j+1)*e.cells<=m.toNat*e.cells:=BQ _ b2;rw[CF]at J;have a4:j*e.cells+i<m.toNat*e.cells:=by omega
      have e2:(j*e.cells+i) % e.cells=i:=by rw[Ct,DX,DP b1]
      have b4:z.cells[i]?=some u:=by rw[<- C0,X];exact hi
      obtain⟨bb,ad⟩:=Array.getElem?_eq_some_iff.1 b4;simp only[madeCells,C0,Array.getElem?_map,Array.getElem?_range,a4,if_true,DY,a5,e2];rw[getElem!_pos z.cells i (by omega),ad]
     ·cases Y
    ·simp at hk;have:=M.used_lt k hu;omega
   ·cases h
 ·cases h
theorem uF (n u:Nat)(y:n<=u)(k z:IntKind)(w:World):(DK true n u none (some (.int k n)) (some (.int z n))).run P w=.ok (0,n,n) w:=by
 simp[DK,Instr.sliceBound,asIntOf,y]
theorem wk (hV:ay V)(hT:TOk P T)(a4:bM V o){t:TypeId}{x m:Operand}{lo hi:Option Operand}(Z:o.op=.slice t x lo hi (some m))(h:act Γ T o st κ=some r):bV P V o st κ r:=by
 simp only[act,wrU,Z]at h;cases hd:o.dst with
 |none=>simp[hd]at h
 |some d =>
  simp only[hd]at h;split at h
  ·rename_i E' e' b4 X j v ht hx;split at h
   ·rename_i p E e J hdr;split at h
    ·rename_i hh k bb cc;cases hb:hi.isSome&&decide (hh=(J.length:Int))&&decide (k=(J.length:Int))&&BU e'.cells e.cells with
     |false=>rw[hb]at h;cases h
     |true =>
      rw[hb]at h;simp only[cond_true]at h;simp only[BF,decide_eq_true_eq]at hb;obtain⟨⟨⟨a5,rfl⟩,rfl⟩,O⟩:=hb;have O:=BL O;refine⟨_,h,λW a w hr next Q hn=>?_⟩;have h1:=hT t;rw[ht]at h1;obtain⟨hu,_,_,_,_,ti,z,bn,ba,_⟩:=h1;obtain⟨a2,_,_,_,_⟩:=bt hr x (by rw[hx];simp);rw[hx]at a2;obtain⟨h8,a6,b0,cu⟩:=kq hr hdr a2;obtain⟨y,hy,k1,c1⟩:∃ y,hi=some y/\∃ k1,a.eval y=.int k1 J.length:=by
       rcases mQ hr bb with ⟨I,_⟩|⟨y,k1,I,H⟩
       ·rw[I]at a5;cases a5
       ·exact⟨y,I,k1,H⟩
      obtain⟨k2,b1⟩:∃ k2,a.eval m=.int k2 J.length:=by
       rcases mQ hr cc with ⟨I,_⟩|⟨y,k2,I,H⟩
       ·cases I
       ·cases I;exact⟨k2,H⟩
      obtain⟨A,c4,hv,a3⟩:=a6.slice;have hE:=dq (P:=P) (t:=E') (n:=e.cells) (by simp[bP,bn,ba,O]) w;have a9:(if J.length=0 then A else A.map λx=>x.add (0*e.cells))=A:=by
       cases A with
       |none=>simp
       |some ad =>
        have e0:ad.add 0=ad:=by simp[Addr.add]
        show (if J.length=0 then some ad else some (ad.add (0*e.cells)))=some ad;rw[DL,e0];split <;> rfl
      refine dW (v:=.slice A J.length J.length) (w':=w) ?_ ?_
      ·simp only[execOp,Z,hv,hy,DY,Cx,c1,b1,Instr.sliceAt,Instr.slice,DG,run_underlying hu,Cl,uF J.length c4 a3 k1 k2 w,hE,Sem.run_pure,Cu,a9]
      ·rw[hd];refine hn _ _ ?_;rw[cf,aP];have cb:∀ z∈[(X,j)],aA st z:=λz hz=>by simp at hz;subst hz;exact⟨_,b0,trivial⟩
       obtain⟨h6,_,_,u⟩:=fH (frz:=[]) (kill:=[(X,j)]) hV hr rfl cb;have e1:aN (ac (aF st []) st) [(X,j)]++aF st []=aN st [(X,j)]:=B6 _;rw[e1]at h6 u;have b3:aW W [(X,j)]=W.bs X j:=by simp[aW]
       rw[b3]at u;obtain⟨c3,a0,bl,M,a1,b2⟩:=a6;refine h6.putOwn hV (w':=w) (BX _) rfl rfl rfl (λ_ _=>rfl) d (a4 d hd).1 (a4 d hd).2 _ (BP _) (bs:=W.bs X j) ?_ (λk hk=>mt ⟨(u k hk).1,(u k hk).2.1,(u k hk).2.2.2.1,(u k hk).2.2.2.2⟩);have c2:∀ k,gd V W p k->gd V (W.frz st []) p k:=bT (W':=W.frz st []) (λh=>h) (λ_ h=>Or.inl h);refine OwH.carry (G:=gd V W p) ⟨c3,a0,bl,⟨M.1,?_⟩,?_,b2⟩ c2 (λ_ _=>rfl) (λ_ _=>rfl)
       ·rcases M.2 with ⟨Y,I⟩|⟨g,cp,b9,mk,Y,I,H,c0,bx,b5⟩
        ·rw[hv]at Y;simp only[CC]at Y;exact .inl ⟨by rw[Y.1,I],I⟩
        ·rw[hv]at Y;simp only[CC,true_and]at Y;exact .inr ⟨g,J.length,b9,mk,by rw[Y.1],I,BX _,c0.imp (λh=>⟨h.1,CL H h.2⟩) id,CL (BQ _ H) bx,b5⟩
       ·rw[a1,hv];cases A <;> rfl
    ·cases h
   ·cases h
  ·cases h
theorem ya (z:ay V)(I:TOk P T)(y:bM V o){t:TypeId}{x:Operand}{J M H:Option Operand}(u:o.op=.slice t x J M H)(h:act Γ T o st κ=some r):bV P V o st κ r:=by
 cases H with
 |none=>exact vG z I y u h
 |some m=>exact wk z I y u h
theorem AD (hV:ay V)(J:bM V o){c:Call}(z:o.op=.call c)(O:c.callee=.builtin .min)(h:act Γ T o st κ=some r):bV P V o st κ r:=by
 simp only[act,wrU,z,O]at h;split at h
 ·cases h
 ·rename_i d M;simp only[M]at h;split at h
  ·rename_i x y X;split at h
   ·rename_i k1 m k2 n Z Y;have u:c.args=#[x,y]:=by rw[<- B9 (xs:=c.args),X]
    refine⟨_,h,λW a w I=>aO hV I M J (v:=.int k1 (bif decide (n<m) then n else m)) ?_ rfl id rfl⟩;cases H:decide (n<m) <;> simp[execOp,z,O,resolve,invoke,builtin,u,bF I Z,bF I Y,Builtin.min_,Builtin.min2] <;> simp at H <;> omega
   ·cases h
  ·cases h
theorem AE (hV:ay V)(J:bM V o){c:Call}(z:o.op=.call c)(O:c.callee=.builtin .max)(h:act Γ T o st κ=some r):bV P V o st κ r:=by
 simp only[act,wrU,z,O]at h;split at h
 ·cases h
 ·rename_i d M;simp only[M]at h;split at h
  ·rename_i x y X;split at h
   ·rename_i k1 m k2 n Z Y;have u:c.args=#[x,y]:=by rw[<- B9 (xs:=c.args),X]
    refine⟨_,h,λW a w I=>aO hV I M J (v:=.int k1 (bif decide (m<n) then n else m)) ?_ rfl id rfl⟩;cases H:decide (m<n) <;> simp[execOp,z,O,resolve,invoke,builtin,u,bF I Z,bF I Y,Builtin.max_,Builtin.max2] <;> simp at H <;> omega
   ·cases h
  ·cases h
end
section
variable {P:Program} {V:Env} {W:Wit} {st st':St} {w w':World} {a:Act}
theorem an.putGhost (hV:ay V)(h:an P V W st a w)(d:Nat)(hd:GH<=d)(a4:d<B0)(n:Nat)(sh:aI)(ls:List Leaf)
  (R:List Value) (I:Nat->List Nat) (hn:(st d).ver<n) (hl:ls.length=R.length) (h1:∀ u∈R,u.oneCell'=true)
  (a1:∀ (j:Nat) (l:Leaf) (u:Value),ls[j]?=some l->R[j]?=some u->aK P V W st w (I j) l u)
  (Z:∀ (j:Nat) (l:Leaf),ls[j]?=some l->am l->∀ k∈I j,¬ W.nw k/\¬ V.prot k/\(∀ b,live st b->W.β b≠k) /\
   ∀ (r1 j1:Nat) (l1:Leaf),r1≠d->(st r1).ls[j1]?=some l1->am l1->k∉W.bs r1 j1)
  (a2:∀ (j j':Nat) (l l':Leaf),ls[j]?=some l->am l->ls[j']?=some l'->am l'->∀ k,k∈I j->k∈I j'->j=j') :
  an P V { W with cs:=λr=>if r=d then R else W.cs r,bs:=λr j=>if r=d then I j else W.bs r j } (ac [(d,⟨n,sh,ls⟩)] st) a w /\
   cA V W { W with cs:=λr=>if r=d then R else W.cs r,bs:=λr j=>if r=d then I j else W.bs r j } st (ac [(d,⟨n,sh,ls⟩)] st) w w:=by
 have O:∀ b,live (ac [(d,⟨n,sh,ls⟩)] st) b<->live st b:=by
  intro b;by_cases Y:B0<=b
  ·rw[live,live,aJ (by omega)]
  ·simp[live,Y]
 have J:cA V W { W with cs:=λr=>if r=d then R else W.cs r,bs:=λr j=>if r=d then I j else W.bs r j } st (ac [(d,⟨n,sh,ls⟩)] st) w w:=by
  refine⟨λq=>?_,λb Y=>⟨(O b).2 Y,rfl⟩,λ_ h=>h,λ_ _=>rfl,λ_ q j' l' M h4 h5=>?_⟩
  ·rcases aj d q ⟨n,sh,ls⟩ st with ⟨rfl,e⟩|⟨y,e⟩
   ·rw[e];exact⟨Nat.le_of_lt hn,λe=>absurd e (by show n≠_;omega)⟩
   ·rw[e];exact⟨BX _,λ_=>by simp[y]⟩
  ·rcases aj d q ⟨n,sh,ls⟩ st with ⟨rfl,e⟩|⟨y,e⟩
   ·rw[e]at h5;exact absurd h5 (by show n≠_;omega)
   ·rw[e]at M;exact⟨⟨l',M,h4⟩,by simp[y],λ_ _=>rfl⟩
 refine⟨?_,J⟩
 exact {
  nt:=h.nt,df:=h.df
  slots:=λt ht=>by
   have:t≠d:=by omega
   rw[aJ this];simpa[this]using h.slots t ht
  boxes:=λb Y=>by
   have:b≠d:=by omega
   rw[aJ this];simpa[this]using h.boxes b Y
  len:=λq=>by
   rcases aj d q ⟨n,sh,ls⟩ st with ⟨rfl,e⟩|⟨y,e⟩
   ·rw[e];simpa using hl
   ·rw[e];simpa[y]using h.len q
  one:=λq u hu=>by
   by_cases hq:q=d
   ·simp only[hq,if_true]at hu;exact h1 u hu
   ·simp only[hq,if_false]at hu;exact h.one q u hu
  leaf:=λq j l u z M=>by
   rcases aj d q ⟨n,sh,ls⟩ st with ⟨rfl,e⟩|⟨y,e⟩
   ·rw[e]at z;simp only[if_true]at M;exact (a1 j l u z M).carry hV.ro J (λ_=>⟨by simp,λ_ _=>rfl⟩)
   ·rw[e]at z;simp only[y,if_false]at M;exact (h.leaf q j l u z M).carry hV.ro J (λ_=>⟨by simp[y],λ_ _=>rfl⟩)
  ownb:=λq j l z M k X=>by
   rcases aj d q ⟨n,sh,ls⟩ st with ⟨rfl,e⟩|⟨y,e⟩
   ·rw[e]at z;simp only[if_true]at X;have:=Z j l z M k X;exact⟨this.1,this.2.1,λb Y=>this.2.2.1 b ((O b).1 Y)⟩
   ·rw[e]at z;simp only[y,if_false]at X;have:=h.ownb q j l z M k X;exact⟨this.1,this.2.1,λb Y=>this.2.2 b ((O b).1 Y)⟩
  sep:=λq j l q' j' l' z M h4 h5 k X H=>by
   rcases aj d q ⟨n,sh,ls⟩ st with ⟨e0,e⟩|⟨y,e⟩ <;> rcases aj d q' ⟨n,sh,ls⟩ st with ⟨e1,e'⟩|⟨a0,e'⟩
   ·rw[e]at z;rw[e']at h4;simp only[e0,if_true]at X;simp only[e1,if_true]at H;exact⟨e0.trans e1.symm,a2 j j' l l' z M h4 h5 k X H⟩
   ·rw[e]at z;rw[e']at h4;simp only[e0,if_true]at X;simp only[a0,if_false]at H;exact absurd H ((Z j l z M k X).2.2.2 q' j' l' a0 h4 h5)
   ·rw[e]at z;rw[e']at h4;simp only[y,if_false]at X;simp only[e1,if_true]at H;exact absurd X ((Z j' l' h4 h5 k H).2.2.2 q j l y z M)
   ·rw[e]at z;rw[e']at h4;simp only[y,if_false]at X;simp only[a0,if_false]at H;exact h.sep q j l q' j' l' z M h4 h5 k X H
  box:=λb Y=>h.box b ((O b).1 Y)
  inj:=λb b' Y a3=>h.inj b b' ((O b).1 Y) ((O b').1 a3)
  nwlt:=h.nwlt
  os:=h.os,tape:=h.tape,output:=h.output,size:=h.size,keep:=h.keep
  fixb:=λx hx=>⟨(O _).2 (h.fixb x hx).1,(h.fixb x hx).2⟩
  fixt:=h.fixt }
theorem gv {off:Nat}:∀ {a:Ty} {pos:Nat} {x:a.den} {u:(E:TypeId)×(e:Ty)×List e.den},be off a pos x=some u->pos<=off/\off<pos+a.cells
 |.pair a b,pos,x,u,h=>by
  simp only[be]at h;split at h
  ·rename_i v y;have:=gv y;simp only[Ty.cells];omega
  ·have:=gv h;simp only[Ty.cells];omega
 |.list m E e,pos,z,u,h=>by
  simp only[be]at h;cases r:m&&BU pos off with
  |false=>simp[r]at h
  |true =>
   simp only[BF]at r;have:=BL r.2;simp only[Ty.cells];omega
 |.int _,_,_,_,h=>by simp[be]at h
 |.bool,_,_,_,h=>by simp[be]at h
 |.str,_,_,_,h=>by simp[be]at h
 |.unit,_,_,_,h=>by simp[be]at h
 |.hdr,_,_,_,h=>by simp[be]at h
theorem nh {off:Nat}:∀ {a:Ty} {pos:Nat} {x:a.den} {E:TypeId} {e:Ty} {u:List e.den},be off a pos x=some ⟨E,e,u⟩->e.shy=true->a.shy=true
 |.pair a b,pos,x,E,e,u,h,r=>by
  simp only[be]at h;simp only[Ty.shy,DZ];split at h
  ·rename_i v z;simp only[BD]at h;subst h;exact .inl (nh z r)
  ·exact .inr (nh h r)
 |.list m H I,pos,J,E,e,u,h,r=>by
  simp only[be]at h;cases y:m&&BU pos off with
  |false=>simp[y]at h
  |true =>
   rw[y]at h;simp only[cond_true,BD,Sigma.mk.injEq]at h;obtain⟨rfl,h⟩:=h;rw[heq_eq_eq,Sigma.mk.injEq]at h;obtain⟨rfl,_⟩:=h;simp[Ty.shy,r]
 |.int _,_,_,_,_,_,h,_=>by simp[be]at h
 |.bool,_,_,_,_,_,h,_=>by simp[be]at h
 |.str,_,_,_,_,_,h,_=>by simp[be]at h
 |.unit,_,_,_,_,_,h,_=>by simp[be]at h
 |.hdr,_,_,_,_,_,h,_=>by simp[be]at h
theorem Mx.hol_out {G:Nat->Prop}{o:Nat}:∀ {a:Ty} {pos:Nat} {x:a.den} {cs:List Value} {bs:List Nat},(o<pos\/pos+a.cells<=o)->(Mx w G a none pos x cs bs<->Mx w G a (some o) pos x cs bs)
 |.int _,_,_,_,_,_=>Ck
 |.bool,_,_,_,_,_=>Ck
 |.str,_,_,_,_,_=>Ck
 |.unit,_,_,_,_,_=>Ck
 |.hdr,_,_,_,_,_=>Ck
 |.pair a b,pos,x,cs,bs,r=>by
  simp only[Ty.cells]at r;constructor
  ·rintro⟨c1,c2,b1,b2,e1,e2,h1,h2⟩;exact⟨c1,c2,b1,b2,e1,e2,(Mx.hol_out (by omega)).1 h1,(Mx.hol_out (by omega)).1 h2⟩
  ·rintro⟨c1,c2,b1,b2,e1,e2,h1,h2⟩;exact⟨c1,c2,b1,b2,e1,e2,(Mx.hol_out (by omega)).2 h1,(Mx.hol_out (by omega)).2 h2⟩
 |.list m E e,pos,u,cs,bs,r=>by
  simp only[Ty.cells]at r;cases m with
  |false=>rw[cm,cm]
  |true=>rw[bI (by simp),bI (by simp only[ne_eq,BD];omega)]
theorem Mx.out {G:Nat->Prop}{off:Nat}{E:TypeId}{e:Ty}{ys:List e.den}:∀ {a:Ty} {pos:Nat} {x:a.den} {cs:List Value} {bs:List Nat},Mx w G a none pos x cs bs->be off a pos x=some ⟨E,e,ys⟩ ->
  ∃ v z y,OwB w G none E e ys v z/\cs[off-pos]?=some v/\Mx w G a (some off) pos x cs y/\∀ k,bs.count k=y.count k+z.count k
 |.pair a b,pos,x,cs,bs,⟨c1,c2,b1,b2,J,e2,Y,h2⟩,h=>by
  have hl:=Y.len;simp only[be]at h;split at h
  ·rename_i u M;simp only[BD]at h;subst h;have R:=gv M;obtain⟨v,z,y,O,g2,X,Z⟩:=Mx.out Y M;refine⟨v,z,y++b2,O,?_,⟨c1,c2,y,b2,J,rfl,X,(Mx.hol_out (by omega)).1 h2⟩,λk=>?_⟩
   ·rw[J,BK (by omega)];exact g2
   ·rw[e2,BI,BI,Z k];omega
  ·rename_i M;have R:=gv h;obtain⟨v,z,y,O,g2,X,Z⟩:=Mx.out h2 h;refine⟨v,z,b1++y,O,?_,⟨c1,c2,b1,y,J,rfl,(Mx.hol_out (by omega)).1 Y,X⟩,λk=>?_⟩
   ·rw[J,BJ (by omega),hl,show off-pos-a.cells=off-(pos+a.cells) by omega];exact g2
   ·rw[e2,BI,BI,Z k];omega
 |.list m E' e',pos,xs,cs,bs,H,h=>by
  simp only[be]at h;cases r:m&&BU pos off with
  |false=>simp[r]at h
  |true =>
   rw[r]at h;simp only[cond_true,BD,Sigma.mk.injEq]at h;obtain⟨rfl,h⟩:=h;simp only[BF]at r;obtain⟨rfl,r⟩:=r;have r:=BL r;subst r;rw[heq_eq_eq,Sigma.mk.injEq]at h;obtain⟨rfl,h⟩:=h;rw[heq_eq_eq]at h;subst h;have I:=H.one;rw[bI (by simp)]at H;obtain⟨v,rfl,hO⟩:=H;exact⟨v,bs,[],hO,by simp,je.2 ⟨v,rfl,I v (by simp),rfl⟩,λk=>by simp⟩
 |.int _,_,_,_,_,_,h=>by simp[be]at h
 |.bool,_,_,_,_,_,h=>by simp[be]at h
 |.str,_,_,_,_,_,h=>by simp[be]at h
 |.unit,_,_,_,_,_,h=>by simp[be]at h
 |.hdr,_,_,_,_,_,h=>by simp[be]at h
theorem Mx.back {G:Nat->Prop}{off:Nat}{E:TypeId}{e:Ty}{X:List e.den}{v:Value}{Z:List Nat}(hO:OwB w G none E e X v Z):∀ {a:Ty} {pos:Nat} {x z:a.den} {cs:List Value} {I:List Nat},Mx w G a (some off) pos x cs I->bL off E e X a pos x=some z ->
  cs[off-pos]?=some v->∃ R,Mx w G a none pos z cs R/\∀ k,R.count k=I.count k+Z.count k
 |.pair a b,pos,x,z,cs,R,⟨c1,c2,b1,b2,M,e2,O,h2⟩,h,J=>by
  have hl:=O.len;simp only[bL]at h;split at h
  ·rename_i u y;simp only[BD]at h;subst h;have a0:=set_in y;obtain⟨I,Y,g2⟩:=Mx.back hO O y (by rw[M,BK (by omega)]at J;exact J);refine⟨I++b2,⟨c1,c2,I,b2,M,rfl,Y,(Mx.hol_out (by omega)).2 h2⟩,λk=>?_⟩;rw[e2,BI,BI,g2 k];omega
  ·rename_i y;simp only[BE]at h;obtain⟨u,y,rfl⟩:=h;have a0:=set_in y;obtain⟨I,Y,g2⟩:=Mx.back hO h2 y (by
    rw[M,BJ (by omega),hl]at J;rw[show off-(pos+a.cells)=off-pos-a.cells by omega];exact J)
   refine⟨b1++I,⟨c1,c2,b1,I,M,rfl,(Mx.hol_out (by omega)).2 O,Y⟩,λk=>?_⟩;rw[e2,BI,BI,g2 k];omega
 |.list m E' e',pos,xs,z,cs,R,H,h,J=>by
  simp only[bL]at h;cases r:m&&BU pos off with
  |false=>simp[r]at h
  |true =>
   rw[r]at h;simp only[cond_true]at h;obtain⟨rfl,rfl,rfl⟩:=jR h;simp only[BF]at r;obtain⟨rfl,r⟩:=r;have r:=BL r;subst r;rw[je]at H;obtain⟨v',rfl,O,rfl⟩:=H;simp only[Nat.sub_self,CX,BD]at J;subst J;exact⟨Z,(bI (by simp)).2 ⟨v',rfl,hO⟩,λk=>by simp⟩
 |.int _,_,_,_,_,_,_,h,_=>by simp[bL]at h
 |.bool,_,_,_,_,_,_,h,_=>by simp[bL]at h
 |.str,_,_,_,_,_,_,h,_=>by simp[bL]at h
 |.unit,_,_,_,_,_,_,h,_=>by simp[bL]at h
 |.hdr,_,_,_,_,_,_,h,_=>by simp[bL]at h
where
 set_in {off:Nat} {E:TypeId} {e:Ty} {X:List e.den}:∀ {a:Ty} {pos:Nat} {x z:a.den},bL off E e X a pos x=some z->pos<=off/\off<pos+a.cells
  |.pair a b,pos,x,z,h=>by
   simp only[bL]at h;split at h
   ·rename_i u y;have:=set_in y;simp only[Ty.cells];omega
   ·simp only[BE]at h;obtain⟨u,y,_⟩:=h;have:=set_in y;simp only[Ty.cells];omega
  |.list m E' e',pos,xs,z,h=>by
   simp only[bL]at h;cases r:m&&BU pos off with
   |false=>simp[r]at h
   |true =>
    simp only[BF]at r;have:=BL r.2;simp only[Ty.cells];omega
  |.int _,_,_,_,h=>by simp[bL]at h
  |.bool,_,_,_,h=>by simp[bL]at h
  |.str,_,_,_,h=>by simp[bL]at h
  |.unit,_,_,_,h=>by simp[bL]at h
  |.hdr,_,_,_,h=>by simp[bL]at h
end
section
variable {P:Program} {V:Env} {W W' W2:Wit} {st st' st2:St} {w w' w2:World} {a:Act}
theorem cA.trans (h:cA V W W' st st' w w')(u:cA V W' W2 st' st2 w' w2):cA V W W2 st st2 w w2:=by
 refine⟨λr=>⟨CL (h.ver r).1 (u.ver r).1,λe=>?_⟩,λb Z=>?_,λk y=>u.nw k (h.nw k y),λk y=>?_,λhe r j l z H I=>?_⟩
 ·have z:=(h.ver r).1;have H:=(u.ver r).1;rw[(u.ver r).2 (by omega),(h.ver r).2 (by omega)]
 ·obtain⟨z,H⟩:=h.box b Z;obtain⟨I,O⟩:=u.box b z;exact⟨I,O.trans H⟩
 ·rw[u.heap k (y.imp (h.nw k) id),h.heap k y]
 ·have e1:=(h.ver EPO).1;have e2:=(u.ver EPO).1;have e3:=(h.ver r).1;have e4:=(u.ver r).1;obtain⟨⟨l',M,g2⟩,R,X⟩:=u.epo (by omega) r j l z H (by omega);obtain⟨g5,J,Y⟩:=h.epo (by omega) r j l' M g2 (by omega);exact⟨g5,R.trans J,λk y=>(X k (by rw[J];exact y)).trans (Y k y)⟩
theorem qH {n i:Nat}(z:i<n)(r:Nat->List Nat)(b y:List Nat)(H:∀ k,(r i).count k=b.count k+y.count k)(u:List Nat)(k:Nat) :
  (u++(BR n).flatMap r).count k=(u++(BR n).flatMap λj=>if j=i then b else r j).count k+y.count k:=by
 have:=kD z r b k;have:=H k;rw[BI,BI];omega
theorem OwH.out {G:Nat->Prop}{E E1:TypeId}{e e1:Ty}{xs:List e.den}{v:Value}{bs:List Nat}{i off:Nat}{y:e.den}{ys:List e1.den}(H:Ow w G E e xs v bs)(hy:xs[i]?=some y)(hg:be off e 0 y=some ⟨E1,e1,ys⟩) :
  ∃ u O M,OwH w G (some (i,off)) E e xs v M/\Ow w G E1 e1 ys u O/\(∀ g Y,v=.slice (some ⟨g,0,none⟩) xs.length Y->w.cell? ⟨g,i*e.cells+off,none⟩=some u)/\∀ k,bs.count k=M.count k+O.count k:=by
 obtain⟨a1,R,I,h1,h2,h3⟩:=H;have X:i<xs.length:=(BG.1 hy).1;obtain⟨c,hm,hc⟩:=h3 i y hy;have hm:Mx w G e none 0 y c (I i):=hm;obtain⟨u,O,b',g1,g2,g3,g4⟩:=hm.out hg;have r:=qH X I b' O g4 v.ownBlock.toList;rw[<- h2]at r;have z:=bu.1 a1;refine⟨u,O,v.ownBlock.toList++(BR xs.length).flatMap λj=>if j=i then b' else I j,⟨bu.2 λk=>by have:=z k;have:=r k;omega,R,_,h1,rfl,λj x Z=>?_⟩,
  ⟨bu.2 λk=>by have:=z k;have:=r k;omega,g1⟩,λg Y hv=>?_,r⟩
 ·by_cases J:j=i
  ·subst J;rw[hy]at Z;simp only[BD]at Z;subst Z;refine⟨c,?_,hc⟩;simp only[cJ,Nat.beq_refl,cond_true,if_true];exact g3
  ·obtain⟨c',h4,h5⟩:=h3 j x Z;refine⟨c',?_,h5⟩;have:BU i j=false:=by
    cases hb:BU i j with
    |false=>rfl
    |true=>exact absurd (BL hb).symm J
   simp only[cJ,this,cond_false,if_neg J];exact h4
 ·subst hv;have a2:=gv hg;have a0:i*e.cells+off<xs.length*e.cells:=by
   have:=BQ e.cells (show i+1<=xs.length from X);rw[Cm,Nat.one_mul]at this;omega
  rw[h1.cellAt _ a0];exact hc off u (by simpa using g2)
theorem OwH.back {G:Nat->Prop}{E E1:TypeId}{e e1:Ty}{xs:List e.den}{v u:Value}{bs bn:List Nat}{i off:Nat}{y z:e.den}{ys:List e1.den}(H:OwH w G (some (i,off)) E e xs v bs)(hn:Ow w G E1 e1 ys u bn)
  (hd:∀ k∈bn,k∉bs) (hy:xs[i]?=some y) (hs:bL off E1 e1 ys e 0 y=some z) (I:∀ g M,v=.slice (some ⟨g,0,none⟩) xs.length M->w.cell? ⟨g,i*e.cells+off,none⟩=some u) :
  ∃ R,Ow w G E e (xs.set i z) v R/\∀ k,R.count k=bs.count k+bn.count k:=by
 obtain⟨a4,Y,a2,h1,h2,h3⟩:=H;have a0:i<xs.length:=(BG.1 hy).1;obtain⟨c,hm,hc⟩:=h3 i y hy;have X:cJ (some (i,off)) i=some off:=by simp[cJ]
 rw[X]at hm;have a6:=Mx.back.set_in hs;have a9:=hm.len;have J:c[off-0]?=some u:=by
  rcases h1.2 with ⟨rfl,h0⟩|⟨g,M,a5,_,rfl,_⟩
  ·omega
  ·have O:=I g M rfl;have a3:i*e.cells+off<xs.length*e.cells:=by
    have:=BQ e.cells (show i+1<=xs.length from a0);rw[Cm,Nat.one_mul]at this;omega
   rw[h1.cellAt _ a3]at O;have Z:off<c.length:=by omega
   have h6:=hc off _ (BW Z);rw[O]at h6;rw[Cu,BW Z,h6]
 obtain⟨b1,g1,g2⟩:=Mx.back hn.2 hm hs J;have r:∀ k,(v.ownBlock.toList++(BR xs.length).flatMap λj=>if j=i then b1 else a2 j).count k=bs.count k+bn.count k:=by
  intro k;have O:=kD a0 a2 b1 k;have Z:=g2 k;rw[h2,BI,BI];omega
 refine⟨_,⟨(ng a4 hn.1 hd (λk=>Cr (r k))).1,Y,_,by rw[CP];exact h1,by rw[CP],λj x hj=>?_⟩,r⟩;rcases aS _ _ _ _ _ hj with ⟨rfl,rfl,_⟩|⟨a1,hj⟩
 ·refine⟨c,?_,hc⟩;simp only[if_true];exact g1
 ·obtain⟨c',O,Z⟩:=h3 j x hj;refine⟨c',?_,Z⟩;have:BU i j=false:=by
   cases hb:BU i j with
   |false=>rfl
   |true=>exact absurd (BL hb).symm a1
  have e0:cJ (some (i,off)) j=none:=by simp[cJ,this]
  rw[e0]at O;simp only[if_neg a1];exact O
theorem i8:GH<=TMP/\TMP<B0/\TMP≠EPO:=by decide
def tB (W:Wit)(S:St)(w:World)(r j:Nat)(v:Value):Prop :=
 r≠TMP/\r≠EPO/\∃ (i off:Nat) (p:Bool) (E:TypeId) (e:Ty) (y:List e.den) (g u:Nat),(S r).ls[j]?=some (.own p (some (i,off)) E e y)/\(W.cs r)[j]?=some (.slice (some ⟨g,0,none⟩) y.length u) /\
  g∈W.bs r j/\w.cell? ⟨g,i*e.cells+off,none⟩=some v
theorem vh (hV:ay V)(h:an P V W st a w){l l':Leaf}{U:Upd}{v:Value}(Z:aK P V W st w [] l v)(I:cj st l=some (U,l')) :
  ∃ W0 n p0 E0 e0 c2,an P V W0 (ac U st) a w/\cA V W W0 st (ac U st) w w/\l'=.al TMP 0 n/\aK P V W0 (ac U st) w [] l' v/\(ac U st TMP).ver=n/\(ac U st TMP).ls=[.own p0 none E0 e0 c2] /\
   W0.nw=W.nw/\W0.β=W.β/\(∀ q,q≠TMP->W0.cs q=W.cs q)/\W0.cs TMP=[v]/\(∀ q,(ac U st q).sh=(st q).sh\/q=TMP)/\tB W0 (ac U st) w (kj l).1 (kj l).2 v:=by
 cases l with
 |nal p ks ep cx E e xs =>
  simp only[cj]at I;cases a6:br st ks ep with
  |false=>simp[a6]at I
  |true =>
   rw[a6]at I;simp only[cond_true]at I;split at I
   ·rename_i r j n0 i sz off;split at I
    ·rename_i M R J z hg;cases hb:!BU r TMP&&!BU r EPO&&BU sz J.cells with
     |false=>simp[hb]at I
     |true =>
      rw[hb]at I;simp only[cond_true]at I;simp only[BF,B4]at hb;obtain⟨⟨c4,bl⟩,a9⟩:=hb;have a9:=BL a9;subst a9;have X:r≠TMP:=λe=>by subst e;simp at c4
      have b9:r≠EPO:=λe=>by subst e;simp at bl
      split at I
      ·rename_i y hy;split at I
       ·rename_i E1 e1 ys ba;simp only[BD,CG]at I;obtain⟨rfl,rfl⟩:=I;have b5:=pz a6 Z;obtain⟨r',j',n',b3,g,cc,bb,a5,cy,cw,O⟩:=b5.at_ i _ off rfl;simp only[Cg,CG,and_true]at b3;obtain⟨rfl,rfl,rfl⟩:=b3;have a2:(st r).ls[j]?=some (.own M none R J z):=by
         rw[CI]at hg;cases H:(st r).ls[j]? with
         |none=>rw[H]at hg;simp at hg
         |some l0=>rw[H]at hg;simp at hg;rw[hg]
        have a3:=h.leaf r j _ _ a2 a5;have a3:Ow w (gd V W M) R J z _ (W.bs r j):=a3;have b4:cc=z.length:=by
         obtain⟨A,cu,e0,_⟩:=a3.slice;simp only[CC]at e0;exact e0.2.1
        subst b4;obtain⟨u,bn,bs',g1,g2,g3,g4⟩:=a3.out hy ba;have hu:u=v:=by
         have:=g3 g bb rfl;rw[this]at O;exact Option.some.inj O
        subst hu;have cb:=bu.1 a3.1;have b2:∀ k∈bs',k∈W.bs r j:=λk hk=>BN.1 (by have:=g4 k;have:=BN.2 hk;omega)
        have a1:∀ k∈bn,k∈W.bs r j/\k∉bs':=λk hk=>by
         have h5:=g4 k;have h6:=BN.2 hk;have h7:=cb k;refine⟨BN.1 (by omega),λc3=>?_⟩;have:=BN.2 c3;omega
        have a0:∀ k∈W.bs r j,vg V W st r j k:=λk hk=>by
         have h9:=h.ownb r j _ a2 trivial k hk;exact⟨h9.1,h9.2.1,h9.2.2,λr1 i1 l1 a4 b0 b1 Y=>b1 (by obtain⟨e1,e2⟩:=h.sep r1 i1 l1 r j _ a4 b0 a2 trivial k Y hk;rw[e1,e2])⟩
        have hR:x6 st (ac [(r,⟨(st r).ver,(st r).sh,aT (st r).ls j (.own M (some (i,off)) R J z)⟩)] (ac [(EPO,bU (st EPO))] st)) r j (.own M (some (i,off)) R J z):=by
         refine⟨λq=>?_,λq=>?_,?_,λq=>?_,λl Z=>?_,λq i' l H Z=>?_⟩
         ·rcases aj r q ⟨(st r).ver,(st r).sh,aT (st r).ls j (.own M (some (i,off)) R J z)⟩ (ac [(EPO,bU (st EPO))] st) with ⟨rfl,e⟩|⟨_,e⟩
          ·rw[e]
          ·rw[e];rcases aj EPO q (bU (st EPO)) st with ⟨rfl,e⟩|⟨_,e⟩ <;> rw[e];rfl
         ·rcases aj r q ⟨(st r).ver,(st r).sh,aT (st r).ls j (.own M (some (i,off)) R J z)⟩ (ac [(EPO,bU (st EPO))] st) with ⟨rfl,e⟩|⟨_,e⟩
          ·rw[e];exact BX _
          ·rw[e];rcases aj EPO q (bU (st EPO)) st with ⟨rfl,e⟩|⟨_,e⟩ <;> rw[e]
           ·exact DS _
           ·exact BX _
         ·rw[aJ (CT b9),bk];exact BP _
         ·rcases aj r q ⟨(st r).ver,(st r).sh,aT (st r).ls j (.own M (some (i,off)) R J z)⟩ (ac [(EPO,bU (st EPO))] st) with ⟨rfl,e⟩|⟨_,e⟩
          ·rw[e];simp[aT]
          ·rw[e];rcases aj EPO q (bU (st EPO)) st with ⟨rfl,e⟩|⟨_,e⟩ <;> rw[e];rfl
         ·rw[bk]at Z;rcases aS _ _ _ _ _ Z with ⟨_,rfl,_⟩|⟨b1,_⟩
          ·rfl
          ·exact absurd rfl b1
         ·rcases aj r q ⟨(st r).ver,(st r).sh,aT (st r).ls j (.own M (some (i,off)) R J z)⟩ (ac [(EPO,bU (st EPO))] st) with ⟨rfl,e⟩|⟨_,e⟩
          ·rw[e]at Z;rcases aS _ _ _ _ _ Z with ⟨rfl,_,_⟩|⟨_,Z⟩
           ·exact absurd rfl H
           ·exact Z
          ·rw[e]at Z;rcases aj EPO q (bU (st EPO)) st with ⟨rfl,e⟩|⟨_,e⟩ <;> rw[e]at Z <;> exact Z
        have h1:=h.retell hV hR a2 trivial a5 trivial (bs':=bs') g1 (λk hk=>a0 k (b2 k hk)) (λ_ _ _=>rfl) (BX _) rfl rfl rfl;have c0:cA V W (W.tell r j bs') st (ac [(r,⟨(st r).ver,(st r).sh,aT (st r).ls j (.own M (some (i,off)) R J z)⟩)] (ac [(EPO,bU (st EPO))] st)) w w :=
         ⟨λq=>⟨hR.ver q,λ_=>rfl⟩,λb hb=>⟨(iC hR.sh b).2 hb,rfl⟩,λ_ h=>h,λ_ _=>rfl,λhe=>by have:=hR.epo;omega⟩
        have bx:(ac [(r,⟨(st r).ver,(st r).sh,aT (st r).ls j (.own M (some (i,off)) R J z)⟩)] (ac [(EPO,bU (st EPO))] st) TMP).ver=(st TMP).ver:=by
         rw[aJ (CT X),aJ i8.2.2]
        obtain⟨h2,c1⟩:=h1.putGhost hV TMP i8.1 i8.2.1 ((st TMP).ver+1) .one [.own (M&&J.shy) none E1 e1 ys] [u] (λ_=>bn) (by rw[bx];exact BP _) rfl (λx hx=>by simp at hx;subst hx;exact g2.one)
         (λq l x H hx=>by
          cases q with
          |zero=>simp at H hx;subst H;subst hx;exact⟨g2.1,(OwB.shy g2.2).carry (bT (W':=W) (by intro hh;simp only[BF]at hh ⊢;exact⟨hh.1,nh ba hh.2⟩) (λ_ h=>h)) (λ_ _=>rfl) (λ_ _=>rfl)⟩
          |succ q=>simp at H)
         (λq l H _ k hk=>by
          obtain⟨q1,q2,q3,q4⟩:=a0 k (a1 k hk).1;refine⟨q1,q2,λb hb=>q3 b ((iC hR.sh b).1 hb),λr1 i1 l1 _ a4 b0 Y=>?_⟩;by_cases H:(r1,i1)=(r,j)
          ·cases H;rw[show (W.tell r j bs').bs r j=bs' from if_pos rfl]at Y;exact (a1 k hk).2 Y
          ·rw[show (W.tell r j bs').bs r1 i1=W.bs r1 i1 from if_neg H]at Y;exact q4 r1 i1 l1 (hR.old r1 i1 l1 H a4) b0 H Y)
         (λq q' l l2 h1 h2 h3 h4 k h5 h6=>by
          have h7:q<1:=(BG.1 h1).1;have h8:q'<1:=(BG.1 h3).1;omega)
        have ad:ac [(r,⟨(st r).ver,(st r).sh,aT (st r).ls j (.own M (some (i,off)) R J z)⟩),(TMP,⟨(st TMP).ver+1,.one,[.own (M&&J.shy) none E1 e1 ys]⟩),(EPO,bU (st EPO))] st =
          ac [(TMP,⟨(st TMP).ver+1,.one,[.own (M&&J.shy) none E1 e1 ys]⟩)] (ac [(r,⟨(st r).ver,(st r).sh,aT (st r).ls j (.own M (some (i,off)) R J z)⟩)] (ac [(EPO,bU (st EPO))] st)):=by
         rw[aP r,aP TMP,ne X]
        rw[ad];refine⟨_,_,_,_,_,_,h2,c0.trans c1,rfl,⟨by rw[bk];exact BX _,λ_=>by simp⟩,by rw[bk],by rw[bk],rfl,rfl,λq H=>by simp[H,Wit.tell],by simp,λq=>?_,X,b9,i,off,M,R,J,z,g,bb,?_,?_,?_,O⟩
        ·by_cases H:q=TMP
         ·exact .inr H
         ·rw[aJ H];exact .inl (hR.sh q)
        ·show (ac [(TMP,_)] _ r).ls[j]?=_;rw[aJ X,bk];simp only[aT];rw[Ca (BG.1 a2).1]
        ·show (if r=TMP then _ else W.cs r)[j]?=_;rw[if_neg X];exact a5
        ·show g∈(if r=TMP then _ else (W.tell r j bs').bs r j);rw[if_neg X,show (W.tell r j bs').bs r j=bs' from if_pos rfl];obtain⟨_,cp,d1,_,q2,_⟩:=g1;rw[q2];simp[B8]
       ·cases I
      ·cases I
    ·cases I
   ·cases I
 |_=>simp[cj]at I
theorem hH {R:Type}(l:Leaf)(J:Upd->Leaf->Option R):lW st l J=(cj st l).bind λu=>J u.1 u.2:=by
 cases l with
 |nal p M ep O E e xs =>
  simp only[lW,cj];cases br st M ep with
  |false=>rfl
  |true =>
   simp only[cond_true];split
   ·rename_i r j n i X off;split
    ·rename_i Y Z I z _;cases !BU r TMP&&!BU r EPO&&BU X I.cells with
     |false=>rfl
     |true =>
      simp only[cond_true];have H:idx z (i:Int)=z[i]?:=by
       unfold idx;rw[if_neg (by omega)];simp
      rw[H];cases z[i]? with
      |none=>rfl
      |some y =>
       simp only[Option.bind_some];cases be off I 0 y with
       |none=>rfl
       |some u=>rfl
    ·rfl
   ·rfl
 |_=>rfl
end
theorem rv {w:World}{α:Type}{s g:Nat}:∀ (M:List α) (o:Nat) (Q:Nat->α->List Value->Prop),(∀ j x c,Q j x c->c.length=s/\∀ u∈c,u.oneCell'=true)->(∀ (j:Nat) (x:α),M[j]?=some x->∃ c,Q j x c/\cX w g (o+j*s) c) ->
  ∃ r:List Value,r.length=M.length*s/\(∀ j u,r[j]?=some u->w.cell? ⟨g,o+j,none⟩=some u)/\(∀ u∈r,u.oneCell'=true) /\
   ∀ (j:Nat) (x:α),M[j]?=some x->∃ c,Q j x c/\∀ i u,c[i]?=some u->r[j*s+i]?=some u
 |[],o,_,_,_=>⟨[],by simp,by simp,by simp,by simp⟩
 |y::M,o,Q,hQ,h=>by
  obtain⟨c,hr,hc⟩:=h 0 y rfl;obtain⟨r,h1,h2,h3,h4⟩:=rv M (o+s) (λj=>Q (j+1)) (λj=>hQ (j+1)) (λj x z=>by
   obtain⟨Y,I,H⟩:=h (j+1) x (by simpa using z);refine⟨Y,I,?_⟩;rw[CF]at H;have:o+s+j*s=o+(j*s+s):=by omega
   rw[this];exact H)
  obtain⟨X,Z⟩:=hQ 0 y c hr;refine⟨c++r,by rw[BV,h1,X,Cq,CF];omega,?_,?_,?_⟩
  ·intro j u z;by_cases R:j<c.length
   ·rw[BK R]at z;have:=hc j u z
    rwa [DL,CJ]at this
   ·rw[BJ (by omega)]at z;have:=h2 (j-c.length) u z;have e1:o+s+(j-c.length)=o+j:=by omega
    rwa [e1]at this
  ·intro u J;rcases BO.1 J with J|J
   ·exact Z u J
   ·exact h3 u J
  ·intro j x z;cases j with
   |zero =>
    simp at z;subst z;refine⟨c,hr,λi u O=>?_⟩;have a0:=(BG.1 O).1;rw[DL,CU,BK a0];exact O
   |succ j =>
    obtain⟨Y,I,H⟩:=h4 j x (by simpa using z);refine⟨Y,I,λi u O=>?_⟩;rw[CF,BJ (by omega)];rw[<- H i u O];congr 1;omega
theorem jZ {P:Program}(g o:Nat)(t:TypeId)(mk:Nat×Nat):∀ (y:List Value) (i:Nat) (cur:Array Value) (w:World),w.heap[g]?=some (.cells cur t mk)->(mk.2=0\/cur.size<=mk.1)->o+i+y.length<=cur.size->(∀ v∈y,v.oneCell'=true) ->
  (storeCells ⟨g,o,none⟩ y i).run P w=.ok () (w.setRow g (cur.toList.take (o+i)++y++cur.toList.drop (o+i+y.length)).toArray)
 |[],i,cur,w,u,_,_,_=>by
  simp only[storeCells,B6,Ce,CJ,List.take_append_drop,B9];rw[setRow_self w g cur t mk u];rfl
 |v::r,i,cur,w,u,O,H,M=>by
  have J:o+i<cur.size:=by simp at H;omega
  have z:(⟨g,o,none⟩:Addr).add i=⟨g,o+i,none⟩:=by unfold Addr.add;split <;> simp_all
  have I:(store ((⟨g,o,none⟩:Addr).add i) v).run P w=.ok () (w.setRow g (cur.setIfInBounds (o+i) v)):=by
   rw[z,run_store P w _ v _ (M v (by simp)),cell_of_row w g _ cur t mk u,Array.getElem?_eq_getElem J];simp[qW u O J,setCell_eq_setRow w g (o+i) cur t mk v u]
  have X:=jZ (P:=P) g o t mk r (i+1) (cur.setIfInBounds (o+i) v) (w.setRow g (cur.setIfInBounds (o+i) v)) (setRow_heap w g cur _ t _ u) (by simpa using O) (by simp at H ⊢;omega) (λx R=>M x (by simp[R]));simp only[storeCells,DG,I,Cl,X,setRow_setRow];congr 3;have e:=list_seg_step cur.toList (o+i) v r (by simp at H ⊢;omega);simpa[Array.toList_setIfInBounds,Df]using e
theorem ni {P:Program}(w:World)(t ty e:TypeId)(i:TypeInfo)(Y:P.underlying t=some (.slice e))(R:P.info? e=some i)
  (g y z:Nat) (cur:Array Value) (mk:Nat×Nat) (hg:w.heap[g]?=some (.cells cur e mk)) (hm:mk.2=0\/cur.size<=mk.1)
  (a:Addr) (m c:Nat) (r:List Value) (O:r.length=m*i.size) (I:∀ j u,r[j]?=some u->w.cell? (a.add j)=some u) (Z:∀ u∈r,u.oneCell'=true)
  (H:y+m<=z) (J:y*i.size+r.length<=cur.size) :
  (CE #[t,t] ty #[.slice (some ⟨g,0,none⟩) y z,.slice (some a) m c]).run P w =
   .ok (.slice (some ⟨g,0,none⟩) (y+m) z) (w.setRow g (cur.toList.take (y*i.size)++r++cur.toList.drop (y*i.size+r.length)).toArray):=by
 have X:=run_firstCells_some (P:=P) w i.size m a m c r O I;have M:=jZ (P:=P) g (y*i.size) e mk r 0 cur w hg hm (by simpa using J) Z;simp only[CJ]at M;simp[CE,run_underlying Y,sizeOf,typeInfo,R,Co,H,X,Addr.add_lit,M]
theorem dE {P:Program}(w:World)(t ty e:TypeId)(i:TypeInfo)(z:Value)(size Z:Nat)(ht:P.underlying t=some (.slice e))(hi:P.info? e=some i)(hz:i.zero=some z)
  (a3:i.size=size) (b4:i.bytes=Z) (b2:z.cells.size=size)
  (v:Value) (n:Nat) (xs:List Value) (y:Row w e size v n xs)
  (a:Addr) (m c:Nat) (r:List Value) (hl:r.length=m*size) (J:∀ j u,r[j]?=some u->w.cell? (a.add j)=some u) (h1:∀ u∈r,u.oneCell'=true)
  (ad:n+m<=maxLen) (O:(n+m)*Z<=140737488355328) :
  ∃ v' w',(CE #[t,t] ty #[v,.slice (some a) m c]).run P w=.ok v' w'/\Row w' e size v' (n+m) (xs++r)/\w.grownBy w' v.ownBlock/\(v'.ownBlock=v.ownBlock\/v'.ownBlock=some w.heap.size):=by
 subst a3;subst b4;have b1:n+m<=9223372036854775807:=by simp only[maxLen]at ad;omega
 have M:(xs++r).length=(n+m)*i.size:=by rw[BV,y.1,hl,Cm]
 have a0:∀ (H:Nat),H<n+m->∀ (a9:Option Nat),
   Row (w.drew.alloc (.cells (xs.toArray++r.toArray++DM z.cells (grownCap w (n+m) H e-(n+m))) e)) e i.size
    (.slice (some ⟨w.heap.size,0,none⟩) (n+m) (grownCap w (n+m) H e)) (n+m) (xs++r) /\
   w.grownBy (w.drew.alloc (.cells (xs.toArray++r.toArray++DM z.cells (grownCap w (n+m) H e-(n+m))) e)) a9:=by
  intro H ho a9;have b3:=grownCap_ge w (n+m) H e;have a1:grownCap w (n+m) H e<=maxLen:=grownCap_le_maxLen w (n+m) H e ad;refine⟨⟨M,.inr ⟨w.heap.size,_,_,_,rfl,heap_alloc_new w.drew _,b3,.inl ⟨rfl,a1⟩,?_,?_⟩⟩,⟨rfl,rfl,rfl,by simp,λk hk _=>Go.heap_alloc_old w.drew _ hk⟩⟩
  ·simp only[DH,CZ,size_zeroCells,b2,y.1,hl,<- Cm];exact BQ _ (by omega)
  ·simp only[C9,BT];rw[<- BT,<- M];exact Dd
 rcases y.2 with ⟨rfl,rfl⟩|⟨g,Y,R,mk,rfl,hg,b5,a1,b0,a5⟩
 ·have hx:xs=[]:=BY (by simpa using y.1);subst hx;by_cases hm:m=0
  ·subst hm;have hn:r=[]:=BY (by simpa using hl);subst hn;refine⟨.slice none 0 0,w,?_,Row.nil w e i.size,⟨rfl,rfl,rfl,BX _,λ_ _ _=>rfl⟩,.inl rfl⟩;simp[CE,run_underlying ht,sizeOf,typeInfo,hi,Co,Cj,loadCells,loadCellsFrom]
  ·have hr:=run_append_nil (P:=P) w t ty e i z ht hi hz a m c r hl J (by omega) (by omega) (by have hb:=O;simp only[CU]at hb;omega);have X:=a0 0 (by omega) (B8 (.slice none 0 0));simp only[CU,Da,Array.empty_append]at X ⊢;exact⟨_,_,hr,X.1,X.2,.inr rfl⟩
 ·by_cases I:n+m<=Y
  ·have a6:n*i.size+r.length<=R.size:=by rw[hl,<- Cm];exact CL (BQ _ I) b0
   have hr:=ni (P:=P) w t ty e i ht hi g n Y R mk hg (zG a1) a m c r hl J h1 I a6;have a2:(R.toList.take (n*i.size)++r++R.toList.drop (n*i.size+r.length)).toArray.size=R.size:=by
    simp only[CZ,BV,B7,Cp,CD];omega
   refine⟨_,_,hr,⟨M,.inr ⟨g,Y,_,mk,rfl,setRow_heap w g R _ e _ hg,I,a1.imp id (λh=>⟨h.1,?_⟩),?_,?_⟩⟩,⟨rfl,rfl,rfl,by simp,λk _ hk=>setRow_other w g k _ (λe=>hk (by simp[B8,e]))⟩,.inl rfl⟩
   ·rw[a2];exact h.2
   ·rw[a2];exact b0
   ·rw[a5,<- M];exact Dd
  ·have a4:∀ j u,xs[j]?=some u->w.cell? ((⟨g,0,none⟩:Addr).add j)=some u:=λj u hj=>by
    rw[fa,CU,y.cellAt _ (by rw[<- y.1];exact (BG.1 hj).1)];exact hj
   have hr:=run_append_grow (P:=P) w t ty e i z ht hi hz ⟨g,0,none⟩ n Y xs y.1 a4 a m c r hl J (by omega) (by omega) (growslice_fits (by omega) O);have X:=a0 Y (by omega) (B8 (.slice (some ⟨g,0,none⟩) n Y));exact⟨_,_,hr,X.1,X.2,.inr rfl⟩
theorem nj {P:Program}(w:World)(t ty e:TypeId)(i:TypeInfo)(size c:Nat)(z:P.underlying t=some (.slice e))(y:P.info? e=some i)
  (v:Value) (n:Nat) (xs:List Value) (r:Row w e size v n xs) :
  (CE #[t,t] ty #[v,.slice none 0 c]).run P w=.ok v w:=by
 rcases r.2 with ⟨rfl,rfl⟩|⟨g,I,H,_,rfl,_,u,_⟩
 ·simp[CE,run_underlying z,sizeOf,typeInfo,y,Co,Cj]
 ·simp[CE,run_underlying z,sizeOf,typeInfo,y,Co,Cj,u,storeCells]
theorem jn {α:Type}{f g:α->List Nat}:∀ {l:List α},(∀ x∈l,f x=g x)->l.flatMap f=l.flatMap g
 |[],_=>rfl
 |x::l,h=>by rw[CR,CR,h x (BZ ..),jn (λy r=>h y (BS _ r))]
theorem zm (n m:Nat)(f g:Nat->List Nat):(BR (n+m)).flatMap (λj=>if j<n then f j else g (j-n))=(BR n).flatMap f++(BR m).flatMap g:=by
 rw[List.range_add,List.flatMap_append,DO];congr 1
 ·refine jn λj r=>?_
  rw[if_pos (C4.1 r)]
 ·refine jn λj _=>?_
  rw[if_neg (by omega),show n+j-n=j by omega]
def wm (w:World)(G:Nat->Prop)(e:Ty)(y:List e.den)(u:Value)(z:Nat->List Nat):Prop :=
 ∃ A r,u=.slice A y.length r/\(0<y.length->∃ g o,A=some ⟨g,o,none⟩/\∀ j (x:e.den),y[j]?=some x->∃ c,Mx w G e none 0 x c (z j)/\cX w g (o+j*e.cells) c)
section
variable {P:Program} {V:Env} {Γ:List Ctr} {T:TypeId->TI} {st:St} {o:Oper} {R:Type} {κ:Upd->Option R} {r:R}
theorem wn {w:World}{t ty E:TypeId}{e e':Ty}{I:Nat}(c0:oM P t (.slice E e I))(b2:e'.cells=e.cells){G G2 G':Nat->Prop}{xs H:List e'.den}{v u:Value}{bs:List Nat}{O:Nat->List Nat}(hx:Ow w G E e' xs v bs)
  (hy:wm w G2 e' H u O) (b3:(xs.length+H.length)*I<=ak) (hG:∀ k,G k->G' k) (b9:∀ k,G2 k->G' k) (b1:∀ k,G' k->k<w.heap.size/\v.ownBlock≠some k) (bn:∀ j,j<H.length->∀ k∈O j,v.ownBlock≠some k) :
  ∃ Z M J,(CE #[t,t] ty #[v,u]).run P w=.ok Z M/\w.grownBy M v.ownBlock/\OwB M G' none E e' (xs++H) Z J /\
   ∀ k,J.count k<=bs.count k+(((BR H.length).flatMap O)++[w.heap.size]).count k:=by
 obtain⟨hu,_,_,cw,cb,ti,z,hi,hs,hb,hz,bl⟩:=c0;obtain⟨cc,X,a5,ho,b0,bx⟩:=hx;obtain⟨A,ba,c2,a9⟩:=hy;subst c2;have cp:ti.size=e'.cells:=by rw[b2];exact hs
 have a3:∀ (M:World),w.grownBy M v.ownBlock->∀ k,G' k->M.heap[k]?=w.heap[k]?:=λM hg k Y=>hg.block k (b1 k Y).1 (CT (b1 k Y).2)
 have c1:xs.length+H.length<=maxLen:=by
  have h1:(xs.length+H.length)*1<=(xs.length+H.length)*I:=Ch _ cb.1;have:=mu;simp only[ak]at b3;omega
 have b4:∀ (y:List Value),(∀ (j:Nat) (x:e'.den),H[j]?=some x->∃ c,Mx w G2 e' none 0 x c (O j)/\∀ i u,c[i]?=some u->y[j*e'.cells+i]?=some u) ->
   ∀ Z M,Row M E e'.cells Z (xs.length+H.length) (X++y)->w.grownBy M v.ownBlock->(Z.ownBlock=v.ownBlock\/Z.ownBlock=some w.heap.size) ->
    ∃ J,OwB M G' none E e' (xs++H) Z J/\∀ k,J.count k<=bs.count k+(((BR H.length).flatMap O)++[w.heap.size]).count k:=by
  intro y hn Z M a6 hg a4;refine⟨Z.ownBlock.toList++(BR (xs.length+H.length)).flatMap (λj=>if j<xs.length then a5 j else O (j-xs.length)),⟨X++y,_,by rw[BV];exact a6,by rw[BV],λj x hj=>?_⟩,λk=>?_⟩
  ·by_cases a1:j<xs.length
   ·rw[BK a1]at hj;obtain⟨c,hr,hc⟩:=bx j x hj;have hr:Mx w G e' none 0 x c (a5 j):=hr;refine⟨c,?_,λi u hi=>?_⟩
    ·rw[if_pos a1];refine hr.carry hG (λk Y=>a3 M hg k (hG k Y)) λk Y=>hg.block k (hr.lt k Y) (λe0=>?_)
     have h5:=bu.1 cc k;rw[b0,<- e0,BI]at h5;have h6:0<((BR xs.length).flatMap a5).count k:=BN.2 (dV.2 ⟨j,a1,Y⟩);simp at h5;omega
    ·have:=hc i u hi;rw[BK (BG.1 this).1];exact this
   ·rw[BJ (by omega)]at hj;obtain⟨c,hr,hc⟩:=hn _ x hj;have c4:=(BG.1 hj).1;refine⟨c,?_,λi u hi=>?_⟩
    ·rw[if_neg a1];exact hr.carry b9 (λk Y=>a3 M hg k (b9 k Y)) λk Y=>hg.block k (hr.lt k Y) (CT (bn _ c4 k Y))
    ·have:=hc i u hi;have b5:=ho.1;have cu:xs.length*e'.cells<=j*e'.cells:=BQ _ (Nat.le_of_not_lt a1);rw[BJ (by omega),<- this,b5,Nat.sub_mul];congr 1;omega
  ·rw[zm,b0];simp only[BI];rcases a4 with h5|h5
   ·rw[h5];omega
   ·rw[h5];simp only[DC];omega
 cases A with
 |none =>
  have a0:H.length=0:=by
   rcases DD H.length with h|h
   ·exact h
   ·obtain⟨g,o,hA,_⟩:=a9 h;cases hA
  have a0:=BY a0;subst a0;have a2:=nj (P:=P) w t ty E ti e'.cells ba hu hi v xs.length X ho;have hg:w.grownBy w v.ownBlock:=⟨rfl,rfl,rfl,BX _,λ_ _ _=>rfl⟩;obtain⟨J,h1,h2⟩:=b4 [] (by simp) v w (by simpa using ho) hg (.inl rfl);exact⟨v,w,J,a2,hg,h1,h2⟩
 |some ad =>
  have bb:∃ y:List Value,y.length=H.length*e'.cells/\(∀ j u,y[j]?=some u->w.cell? (ad.add j)=some u)/\(∀ u∈y,u.oneCell'=true) /\
    ∀ (j:Nat) (x:e'.den),H[j]?=some x->∃ c,Mx w G2 e' none 0 x c (O j)/\∀ i u,c[i]?=some u->y[j*e'.cells+i]?=some u:=by
   rcases DD H.length with h|h
   ·have a0:=BY h;subst a0;exact⟨[],by simp,by simp,by simp,by simp⟩
   ·obtain⟨g,o,hA,he⟩:=a9 h;simp at hA;subst hA;obtain⟨y,h1,h2,h3,h4⟩:=rv H o (λj x c=>Mx w G2 e' none 0 x c (O j)) (λj x c hq=>⟨hq.len,hq.one⟩) he;exact⟨y,h1,λj u hj=>by rw[fa];exact h2 j u hj,h3,h4⟩
  obtain⟨y,h1,h2,h3,h4⟩:=bb;have c3:z.cells.size=e'.cells:=by
   have h2:=(lO w (λ_=>False) e).len;rw[<- CD,bl,h2,b2]
  obtain⟨Z,M,a2,a6,hg,a4⟩:=dE (P:=P) w t ty E ti z e'.cells I hu hi hz cp hb c3 v xs.length X ho ad H.length ba y h1 h2 h3 c1 (by simpa[ak]using b3);obtain⟨J,h5,h6⟩:=b4 y h4 Z M a6 hg a4;exact⟨Z,M,J,a2,hg,h5,h6⟩
theorem wo {W:Wit}{a:Act}{w:World}(h:an P V W st a w){E:TypeId}{e:Ty}{y:Leaf}{u:Value}{t:cI (List e.den)}(hl:aC P V W st w [y] [u])(H:fP st E e y=some t) :
  (∃ I,wm w (bo V W t.p t.frz) e t.val u I/\∀ k,((BR t.val.length).flatMap I).count k<=(aW W t.kill).count k)/\(∀ x∈t.frz,aA st x)/\(∀ x∈t.kill,aA st x):=by
 have z:∀ {p q:Bool} {O:List e.den} {ks:List (Nat×Nat)},dh e (aD st y)=some (p,O)->(∀ (S:Nat->Prop) (x:e.den) (c:List Value),Rd w (bo V W p (bz st [y])) e x c->Mx w (bo V W q ks) e none 0 x c []) ->
   ∃ I,wm w (bo V W q ks) e O u I/\∀ k,((BR O.length).flatMap I).count k<=(aW W []).count k:=by
  intro p q O ks X hm;obtain⟨A,M,hu,_,hx⟩:=kN (m:=false) (E:=E) h hl.1.1 hl.1.2.1 X;have hu:u=.slice A O.length M:=by simpa using hu
  refine⟨(λ_=>[]:Nat->List Nat),⟨A,M,hu,λhp=>?_⟩,λk=>by rw[show ((BR O.length).flatMap λ_=>([]:List Nat))=[] from by simp];exact DT _⟩;obtain⟨g,o',hA,_,a0⟩:=hx hp;exact⟨g,o',hA,λj x hj=>by
   obtain⟨c,hr,hc⟩:=a0 j x hj;exact⟨c,hm (λ_=>True) x c hr,hc⟩⟩
 unfold fP at H;cases hf:e.flat with
 |true =>
  rw[hf]at H;simp only[cond_true,BE]at H;obtain⟨⟨p,O⟩,X,rfl⟩:=H;exact⟨z X (λ_ x c hr=>Mx.flat hf hr),by simp,by simp⟩
 |false =>
  rw[hf]at H;simp only[cond_false]at H;cases hs:decide (e.sh=e) with
  |true =>
   rw[hs]at H;simp only[cond_true,BE]at H;obtain⟨⟨p,O⟩,X,rfl⟩:=H;exact⟨z X (λ_ x c hr=>Mx.shared (of_decide_eq_true hs) hr),λx hx=>ek hl hx,by simp⟩
  |false =>
   rw[hs]at H;simp only[cond_false,BE]at H;obtain⟨J,X,rfl⟩:=H;obtain⟨h1,h2,h3⟩:=dM (pos:=0) h hl X;have h1:Mx w (bo V W J.p J.frz) (.list true E e) none 0 J.val [u] (aW W J.kill):=h1;rw[bI (by simp)]at h1;obtain⟨v,Z,a1,Y,h4,h5,h6⟩:=h1;simp only[Cg,and_true]at Z;subst Z;refine⟨⟨Y,?_,λk=>?_⟩,h2,h3⟩
   ·rcases h4.2 with ⟨hn,h0⟩|⟨g,M,a2,_,Z,hg,a3,_⟩
    ·exact⟨none,0,by rw[hn];show _=Value.slice none (DV J.val) 0;rw[h0],λhp=>by have hp:0<DV J.val:=hp;omega⟩
    ·refine⟨some ⟨g,0,none⟩,M,Z,λhp=>⟨g,0,rfl,λj x hj=>?_⟩⟩;obtain⟨c,h7,h8⟩:=h6 j x hj;have h7:Mx w (bo V W J.p J.frz) e none 0 x c (Y j):=h7;refine⟨c,h7,λi u hi=>?_⟩;have h9:=h8 i u hi;rw[CU];rw[Z]at h4;rw[h4.cellAt _ (by rw[<- h4.1];exact (BG.1 h9).1)];exact h9
   ·show ((BR (DV J.val)).flatMap Y).count k<=(aW W J.kill).count k;rw[h5,BI];omega
theorem AF {l l':Leaf}{U:Upd}(u:cj st l=some (U,l')):∃ n,l'=.al TMP 0 n:=by
 cases l with
 |nal p I ep J E e xs =>
  simp only[cj]at u;cases y:br st I ep with
  |false=>simp[y]at u
  |true =>
   rw[y]at u;simp only[cond_true]at u;split at u
   ·rename_i r j Z i M off;split at u
    ·rename_i X Y H O hg;cases z:!BU r TMP&&!BU r EPO&&BU M H.cells with
     |false=>simp[z]at u
     |true =>
      rw[z]at u;simp only[cond_true]at u;split at u
      ·split at u
       ·simp only[BD,CG]at u;exact⟨_,u.2.symm⟩
       ·cases u
      ·cases u
    ·cases u
   ·cases u
 |_=>simp[cj]at u
theorem wq (hV:ay V)(hT:TOk P T)(c3:bM V o){c:Call}(c1:o.op=.call c)(hc:c.callee=.builtin .append)(h:act Γ T o st κ=some r):bV P V o st κ r:=by
  simp only[act,wrU,c1,hc]at h;split at h
  · cases h
  · rename_i d hd
    split at h
    · rename_i x y t u a4 a6
      split at h
      · rename_i E e a2 ht
        cases a5:BU t u with
        |false=>simp[a5]at h
        |true =>
          simp only[a5,cond_true]at h;have a5:=BL a5;subst a5;have c4:=hT t;rw[ht]at c4;have a4:c.args=#[x,y]:=by rw[<- B9 (xs:=c.args),a4]
          have a6:c.argTypes=#[t,t]:=by rw[<- B9 (xs:=c.argTypes),a6]
          have bn:∀ (a:Act) (w w':World) (v:Value),(CE #[t,t] o.type #[a.eval x,a.eval y]).run P w=.ok v w'->(execOp a.eval o).run P w=.ok (.value v) w':=by
            intro a w w' v Z;simp[execOp,c1,hc,resolve,invoke,builtin,a4,a6,Z]
          have bb:∀ (I:Upd) (E':TypeId) (e':Ty) (p:Bool) (xs:List e'.den) (ks:List (Nat×Nat)),E'=E->e'.sh=e.sh->dU st (ac I st) I d E' e' a2 p xs ks (one st y) κ=some r ->
              ∃ U,κ U=some r/\∀ (Y:Wit) (a:Act) (w:World),an P V Y (ac I st) a w->aC P V Y (ac I st) w [one st y] [a.eval y]->(∀ x∈ks,aA (ac I st) x)->Ow w (gd V Y p) E' e' xs (a.eval x) (aW Y ks)->mN P V o st U a w:=by
            intro I E' e' p xs ks hE he J;subst hE;unfold dU at J;split at J
            · rename_i t1 d2
              cases X:aZ (t1.kill++ks)&&dz t1.frz (t1.kill++ks)&&decide ((xs.length+t1.val.length)*a2<=ak) with
              |false=>simp[X]at J
              |true =>
                simp only[X,cond_true]at J;simp only[BF,decide_eq_true_eq]at X;obtain⟨⟨dd,cy⟩,bl⟩:=X;refine⟨_,J,λY a w Z a0 d3 cw next Q hn=>?_⟩;obtain⟨⟨cp,d1,b4⟩,hf,dc⟩:=wo Z a0 d2;have c2:∀ x∈t1.kill++ks,aA (ac I st) x:=λx hx=>(BO.1 hx).elim (dc x) (d3 x)
                obtain⟨h1,_,_,h4⟩:=fH hV Z cy c2;have bx:=gN Z dd c2;rw[dG]at bx h4;have O:∀ k∈aW Y t1.kill++aW Y ks,¬ ca V (Y.frz (ac I st) t1.frz) _ k:=λk H=>mt ⟨(h4 k H).1,(h4 k H).2.1,(h4 k H).2.2.2.1,(h4 k H).2.2.2.2⟩
                rw[CK]at bx;obtain⟨cb,cu,b5⟩:=bx;have ba:∀ k,(a.eval x).ownBlock=some k->k∈aW Y ks:=by
                  intro k H;obtain⟨_,e3,e4,_,bl,_⟩:=cw;rw[bl,H];simp
                have c0:∀ k,gd V (Y.frz (ac I st) t1.frz) (p||t1.p) k->ca V (Y.frz (ac I st) t1.frz) (ac (aN (ac (aF (ac I st) t1.frz) (ac I st)) (t1.kill++ks)++aF (ac I st) t1.frz) (ac I st)) k:=by
                  rintro k (H|⟨_,H⟩)
                  · exact .inl H
                  · exact .inr (.inl (hV.ro k H))
                have a9:∀ k∈(BR t1.val.length).flatMap cp,k∈aW Y t1.kill:=λk H=>BN.1 (by have:=b4 k;have:=BN.2 H;omega)
                obtain⟨v',w',e6,cx,hg,cc,b9⟩:=wn (P:=P) (t:=t) (ty:=o.type) c4 (ig he) cw d1 bl (G':=gd V (Y.frz (ac I st) t1.frz) (p||t1.p))
                  (bT (W':=Y.frz (ac I st) t1.frz) (by intro h;simp[h]) (λ_ h=>Or.inl h))
                  (λk H=>bT (W':=Y.frz (ac I st) t1.frz) (by intro h;simp[h]) (λ_ h=>h) k (kt hf k H))
                  (λk H=>⟨h1.used_lt k (c0 k H),λe1=>O k (BH _ (ba k e1)) (c0 k H)⟩)
                  (λj hj k H e1=>b5 k (a9 k (dV.2 ⟨j,hj,H⟩)) k (ba k e1) rfl)
                have b3:=ng (bs:=aW Y ks) (K:=(BR t1.val.length).flatMap cp++[w.heap.size]) cu
                  (bu.2 λk=>by
                    rw[BI];have h5:=b4 k;have h6:=bu.1 cb k;by_cases H:k=w.heap.size
                    · subst H
                      have:(aW Y t1.kill).count w.heap.size=0:=B5.2 (λhm=>by have:=(h4 _ (BM _ hm)).2.2.1;omega);simp;omega
                    · have:List.count k [w.heap.size]=0:=B5.2 (by simp[H])
                      omega)
                  (λk H hm=>by
                    rcases BO.1 H with H|H
                    · exact b5 k (a9 k H) k hm rfl
                    · simp at H
                      subst H;have:=(h4 _ (BH _ hm)).2.2.1;omega) b9
                refine dW (bn a w w' v' cx) ?_;rw[hd];refine hn _ _ ?_;rw[cf,aP,bC];refine h1.putOwn hV hg.size hg.os hg.tape hg.output (λk H=>hg.block k (h1.used_lt k H) (λe1=>O k (BH _ (ba k e1.symm)) H)) d (c3 d hd).1 (c3 d hd).2 _ (BP _) ⟨b3.1,cc⟩ (λk H hu=>?_);rcases b3.2 k H with H|H
                · exact O k (BH _ H) hu
                · rcases BO.1 H with H|H
                  · exact O k (BM _ (a9 k H)) hu
                  · simp at H
                    have:=h1.used_lt k hu;omega
            · cases J
          have a1:∀ (I:Upd) (x':Leaf),er st I d E e a2 x' (one st y) κ=some r->one st y≠.dead:=by
            intro I x' h e1;rw[e1]at h;unfold er at h;split at h
            · split at h
              · rename_i p E' e' b2 b1
                cases X:BU E' E&&decide (e'.sh=e.sh) with
                |false=>simp[X]at h
                |true =>
                  simp only[X,cond_true,dU,fP,aD,dh,Cx,cg,take]at h;cases e'.flat <;> cases decide (e'.sh=e') <;> simp at h
              · cases h
            · simp only[dU,fP,aD,dh,Cx,cg,take]at h
              cases e.flat <;> cases decide (e.sh=e) <;> simp at h
            · cases h
          simp only[iw]at h;cases hn:jt (one st x) with
          |true =>
            rw[hn]at h;simp only[cond_true]at h;rw[hH]at h;obtain⟨⟨I,x'⟩,b0,h⟩:=CA.1 h;have a1:=a1 _ _ h;simp only[er]at h;split at h
            · rename_i r' j n
              split at h
              · rename_i p' E' e' b2 b1
                cases X:BU E' E&&decide (e'.sh=e.sh) with
                |false=>simp[X]at h
                |true =>
                  simp only[X,cond_true]at h;simp only[BF,decide_eq_true_eq]at X;obtain⟨U,hU,hg⟩:=bb I E' e' p' b2 [(r',j)] (BL X.1) X.2 h;refine⟨U,hU,λW a w Z=>?_⟩;obtain⟨a3,_,_,_,_⟩:=bt Z x (by intro e1;rw[e1]at hn;simp[jt]at hn);obtain⟨Y,n0,p0,E0,e0,e5,g1,g2,g3,g4,_⟩:=vh hV Z a3 b0;obtain⟨a0,M,ad,_,_⟩:=bt Z y a1;obtain⟨h5,h6,h7,h8⟩:=kq g1 b1 g4;exact hg Y a w g1 ⟨⟨a0.carry hV.ro g2 (λho=>absurd ho M),M,ad⟩,trivial⟩ (λz hz=>by simp at hz;subst hz;exact⟨_,h7,trivial⟩) (by simpa[aW]using h6)
              · cases h
            · exfalso
              obtain⟨n,e2⟩:=AF b0;cases e2
            · cases h
          |false =>
            rw[hn]at h;simp only[cond_false]at h;have a1:=a1 _ _ h;simp only[er]at h;split at h
            · rename_i r' j n hx
              split at h
              · rename_i p' E' e' b2 b1
                cases X:BU E' E&&decide (e'.sh=e.sh) with
                |false=>simp[X]at h
                |true =>
                  simp only[X,cond_true]at h;simp only[BF,decide_eq_true_eq]at X;obtain⟨U,hU,hg⟩:=bb [] E' e' p' b2 [(r',j)] (BL X.1) X.2 h;refine⟨U,hU,λW a w Z=>?_⟩;obtain⟨a3,_,_,_,_⟩:=bt Z x (by rw[hx];simp);rw[hx]at a3;obtain⟨a0,M,ad,_,_⟩:=bt Z y a1;obtain⟨h5,h6,h7,h8⟩:=kq Z b1 a3;exact hg W a w Z ⟨⟨a0,M,ad⟩,trivial⟩ (λz hz=>by simp at hz;subst hz;exact⟨_,h7,trivial⟩) (by simpa[aW]using h6)
              · cases h
            · rename_i hx
              obtain⟨U,hU,hg⟩:=bb [] E e false [] [] rfl rfl h;refine⟨U,hU,λW a w Z=>?_⟩;obtain⟨a3,_,_,_,_⟩:=bt Z x (by rw[hx];simp);rw[hx]at a3;obtain⟨a0,M,ad,_,_⟩:=bt Z y a1;exact hg W a w Z ⟨⟨a0,M,ad⟩,trivial⟩ (by simp) (by rw[show a.eval x=_ from a3];exact OwH.nil w _ E e)
            · cases h
      · cases h
    · cases h
end
def gO (w:World)(ro pr:Nat->Prop)(r:Bool)(a:Ty)(x:a.den)(v:Value):Prop :=
 if r=true then ∃ b u g o c,v=.pointer (some ⟨b,u,none⟩)/\pr b/\w.cell? ⟨b,u,none⟩=some (.pointer (some ⟨g,o,none⟩))/\pr g/\Rd w ro a x c/\cX w g o c
 else ∃ g o c,v=.pointer (some ⟨g,o,none⟩)/\pr g/\Rd w ro a x c/\cX w g o c
def jM (w:World)(ro pr:Nat->Prop):(cs:List (Bool×Ty))->lU cs->List Value->Prop
 |[],_,y=>y=[]
 |c::cs,x,y=>∃ u r,y=u::r/\gO w ro pr c.1 c.2 x.1 u/\jM w ro pr cs x.2 r
def nU (P:Program)(w:World)(ro pr:Nat->Prop):(pk:PK)->pk.den->Value->List Nat->Prop
 |.rd a,x,v,r=>r=[]/\∃ y,de a.isAgg v y/\Rd w ro a x y
 |.own a,x,v,r=>∃ y,de a.isAgg v y/\Mx w ro a none 0 x y r
 |.io a,x,v,r=>∃ y,de a.isAgg v y/\Mx w ro a none 0 x y r
 |.rref a,x,v,r=>r=[]/\gO w ro pr false a x v
 |.rref2 a,x,v,r=>r=[]/\gO w ro pr true a x v
 |.iop a,x,v,r=>∃ g c E z,v=.pointer (some ⟨g,0,none⟩)/\w.heap[g]?=some (.cells c.toArray E (0,0))/\Mx w ro a none 0 x c z/\r=g::z
 |.fn M B,O,v,r=>r=[]/\ii P w pr M B O v
 |.clo f y,x,v,r=>r=[]/\∃ H:List Value,v=.func (.func f) #[] H.toArray/\jM w ro pr y x H
 |.hol a c off,x,v,r=>∃ y u z I E e J,de a.isAgg v y/\Mx w ro a (some c) 0 x.1 y z/\y[c]?=some u/\be c a 0 x.1=some ⟨E,e,J⟩/\OwB w ro (some (x.2,off)) E e J u I/\∀ k,r.count k=z.count k+I.count k
def da (P:Program)(w:World)(ro pr:Nat->Prop):(ps:List PK)->ab ps->List Value->List (List Nat)->Prop
 |[],_,z,u=>z=[]/\u=[]
 |p::ps,x,z,u=>∃ v y b r,z=v::y/\u=b::r/\nU P w ro pr p x.1 v b/\da P w ro pr ps x.2 y r
def jA (w:World)(G:Nat->Prop)(a:Ty)(x:a.den)(ptr:Bool)(v:Value)(bs:List Nat):Prop :=
 if ptr=true then ∃ g c E r,v=.pointer (some ⟨g,0,none⟩)/\w.heap[g]?=some (.cells c.toArray E (0,0))/\Mx w G a none 0 x c r/\bs=g::r
 else ∃ u,de a.isAgg v u/\Mx w G a none 0 x u bs
def bK (w:World)(G:Nat->Prop):(ps:List PK)->ah ps->List Value->List (List Nat)->Prop
 |.io a::ps,o,v::r,b::u=>jA w G a o.1 false v b/\bK w G ps o.2 r u
 |.iop a::ps,o,v::r,b::u=>jA w G a o.1 true v b/\bK w G ps o.2 r u
 |.rd _::ps,o,_::r,b::u=>b=[]/\bK w G ps o r u
 |.own _::ps,o,_::r,b::u=>b=[]/\bK w G ps o r u
 |.rref _::ps,o,_::r,b::u=>b=[]/\bK w G ps o r u
 |.rref2 _::ps,o,_::r,b::u=>b=[]/\bK w G ps o r u
 |.fn _ _::ps,o,_::r,b::u=>b=[]/\bK w G ps o r u
 |.clo _ _::ps,o,_::r,b::u=>b=[]/\bK w G ps o r u
 |.hol _ _ _::ps,o,_::r,b::u=>b=[]/\bK w G ps o r u
 |[],_,[],[]=>True
 |_,_,_,_=>False
def p7 (w:World)(G ro:Nat->Prop):(r:RK)->r.den->Value->List Nat->Prop
 |.v a,y,v,z=>∃ u,de a.isAgg v u/\Mx w G a none 0 y u z
 |.bv a,y,v,z=>z=[]/\∃ u,de a.isAgg v u/\Rd w (λk=>G k\/ro k) a y u
 |.box a,y,v,z=>∃ g c E H,v=.pointer (some ⟨g,0,none⟩)/\w.heap[g]?=some (.cells c.toArray E (0,0))/\Mx w G a none 0 y c H/\z=g::H
def gw (w:World)(G ro:Nat->Prop):(J:List RK)->ai J->List Value->List (List Nat)->Prop
 |[],_,M,H=>M=[]/\H=[]
 |r::J,y,M,H=>∃ u I b z,M=u::I/\H=b::z/\p7 w G ro r y.1 u b/\gw w G ro J y.2 I z
def sk:List Value->Value->Prop
 |[u],v=>v=u
 |r,v=>v=.tuple r.toArray
def p8 (w w':World)(r:List Nat)(k:Nat):Prop:=k<w'.heap.size/\(w.heap.size<=k\/k∈r)
def tC (c:Ctr)(w:World)(ro:Nat->Prop)(I:List Value)(z:List (List Nat))(y:ai c.rs×ah c.ps)(e:Ending)(w':World):Prop :=
 ∃ (v:Value) (H:List Value) (N:Nat->Prop) (r u:List (List Nat)),e=.returned v/\sk H v/\w.heap.size<=w'.heap.size/\w'.os=w.os/\w'.tape=w.tape/\w'.output=w.output /\
  (∀ k,k<w.heap.size->k∉z.flatten->w'.heap[k]?=w.heap[k]?)/\(∀ k,N k->p8 w w' z.flatten k) /\
  bK w' (λk=>N k\/(c.fresh=false/\ro k)) c.ps y.2 I r/\gw w' (λk=>N k\/(c.fresh=false/\ro k)) ro c.rs y.1 H u /\
  (r.flatten++u.flatten).Nodup/\∀ k∈r.flatten++u.flatten,p8 w w' z.flatten k/\¬ N k
def bO (P:Program)(c:Ctr):Prop :=
 fQ P c.f/\∀ (w:World) (ro:Nat->Prop) (x:ab c.ps) (u:List Value) (r:List (List Nat)) (y:ai c.rs×ah c.ps),
  da P w ro (λk=>k<w.heap.size/\k∉r.flatten) c.ps x u r->(∀ k,ro k->k<w.heap.size/\k∉r.flatten)->r.flatten.Nodup->c.den x=some y ->
  Calls P c.f u.toArray w (tC c w ro u r y)
section
variable {P:Program} {V:Env} {Γ:List Ctr} {T:TypeId->TI} {st:St} {o:Oper} {R:Type} {κ:Upd->Option R} {r:R}
theorem ii.mono {w0:World}{S H:Nat->Prop}(Y:∀ k,S k->H k){z:List Ty}{B:Ty}{I:Tup z->Option B.den}{v:Value}(h:ii P w0 S z B I v):ii P w0 H z B I v:=by
 obtain⟨f,u,e,M,X⟩:=h;exact⟨f,u,e,M,λw1 O J=>X w1 O (λk y=>J k (Y k y))⟩
theorem ii.move {w0 w:World}{S I:Nat->Prop}(H:w0.heap.size<=w.heap.size)(M:∀ k,S k->I k/\w.heap[k]?=w0.heap[k]?){z:List Ty}{B:Ty}{J:Tup z->Option B.den}{v:Value}
  (h:ii P w0 S z B J v):ii P w I z B J v:=by
 obtain⟨f,u,e,X,Z⟩:=h;exact⟨f,u,e,X,λw1 Y O=>Z w1 (CL H Y) (λk y=>(O k (M k y).1).trans (M k y).2)⟩
theorem gO.carry {w w1:World}{ro ro' pr H:Nat->Prop}(y:∀ k,ro k->ro' k/\w1.heap[k]?=w.heap[k]?)(u:∀ k,pr k->H k/\w1.heap[k]?=w.heap[k]?){I:Bool}{a:Ty}{x:a.den}{v:Value}(h:gO w ro pr I a x v):gO w1 ro' H I a x v:=by
 unfold gO at h ⊢;split at h
 ·rename_i Y;rw[if_pos Y];obtain⟨b,ob,g,o,c,O,J,X,M,Z,h8⟩:=h;exact⟨b,ob,g,o,c,O,(u b J).1,by rw[kM (u b J).2];exact X,(u g M).1,Z.carry (λk z=>(y k z).1) (λk z=>(y k z).2),h8.same (u g M).2⟩
 ·rename_i Y;rw[if_neg Y];obtain⟨g,o,c,O,J,X,M⟩:=h;exact⟨g,o,c,O,(u g J).1,X.carry (λk z=>(y k z).1) (λk z=>(y k z).2),M.same (u g J).2⟩
theorem jM.carry {w w1:World}{ro ro' pr y:Nat->Prop}(H:∀ k,ro k->ro' k/\w1.heap[k]?=w.heap[k]?)(z:∀ k,pr k->y k/\w1.heap[k]?=w.heap[k]?):∀ {cs:List (Bool×Ty)} {x:lU cs} {us:List Value},jM w ro pr cs x us->jM w1 ro' y cs x us
 |[],_,_,h=>h
 |_::_,_,_,⟨u,I,e,M,J⟩=>⟨u,I,e,M.carry H z,jM.carry H z J⟩
theorem nU.mono {w:World}{ro ro' pr O:Nat->Prop}(y:∀ k,ro k->ro' k)(J:∀ k,pr k->O k):∀ {pk:PK} {x:pk.den} {v:Value} {bs:List Nat},nU P w ro pr pk x v bs->nU P w ro' O pk x v bs
 |.rd _,_,_,_,⟨e,M,I,z⟩=>⟨e,M,I,z.mono y⟩
 |.own _,_,_,_,⟨M,I,z⟩=>⟨M,I,z.mono y⟩
 |.io _,_,_,_,⟨M,I,z⟩=>⟨M,I,z.mono y⟩
 |.rref _,_,_,_,⟨e,h⟩=>⟨e,h.carry (λk H=>⟨y k H,rfl⟩) (λk H=>⟨J k H,rfl⟩)⟩
 |.rref2 _,_,_,_,⟨e,h⟩=>⟨e,h.carry (λk H=>⟨y k H,rfl⟩) (λk H=>⟨J k H,rfl⟩)⟩
 |.iop _,_,_,_,⟨g,c,E,Y,I,z,X,Z⟩=>⟨g,c,E,Y,I,z,X.mono y,Z⟩
 |.fn _ _,_,_,_,⟨e,h⟩=>⟨e,ii.mono J h⟩
 |.clo _ _,_,_,_,⟨e,us,I,z⟩=>⟨e,us,I,z.carry (λk H=>⟨y k H,rfl⟩) (λk H=>⟨J k H,rfl⟩)⟩
 |.hol _ _ _,_,_,_,⟨M,u,Y,b1,E,e,xs,I,z,X,Z,h5,h6⟩=>⟨M,u,Y,b1,E,e,xs,I,z.mono y,X,Z,h5.carry y (λ_ _=>rfl) (λ_ _=>rfl),h6⟩
theorem da.mono {w:World}{ro ro' pr u:Nat->Prop}(I:∀ k,ro k->ro' k)(y:∀ k,pr k->u k):∀ {ps:List PK} {x:ab ps} {M:List Value} {H:List (List Nat)},da P w ro pr ps x M H->da P w ro' u ps x M H
 |[],_,_,_,h=>h
 |_::_,_,_,_,⟨v,J,b,z,Y,O,Z,X⟩=>⟨v,J,b,z,Y,O,Z.mono I y,da.mono I y X⟩
def jW (V:Env)(W:Wit)(st:St)(ks:List (Nat×Nat))(u:List Nat)(k:Nat):Prop:=W.nw k\/V.prot k\/(∃ b∈u,live st b/\W.β b=k)\/∃ x∈ks,k∈W.bs x.1 x.2
theorem kV {W:Wit}{z H:List (Nat×Nat)}{y I:List Nat}(h:∀ x∈z,x∈H)(M:∀ b∈y,b∈I):∀ k,jW V W st z y k->jW V W st H I k:=by
 rintro k (u|u|⟨b,O,u⟩|⟨x,J,u⟩)
 ·exact .inl u
 ·exact .inr (.inl u)
 ·exact .inr (.inr (.inl ⟨b,M b O,u⟩))
 ·exact .inr (.inr (.inr ⟨x,h x J,u⟩))
theorem i9 {W:Wit}{p q:Bool}{y z:List (Nat×Nat)}(I:p=true->q=true)(h:∀ x∈y,x∈z):∀ k,bo V W p y k->bo V W q z k:=by
 rintro k (u|⟨x,H,u⟩)
 ·exact .inl (bT (W':=W) I (λ_ h=>h) k u)
 ·exact .inr ⟨x,h x H,u⟩
theorem gx {agg:Bool}{v:Value}{cs:List Value}(h:ee (bi agg) v cs):de agg v cs:=by
 cases agg <;> exact h
theorem nk {W:Wit}{a:Act}{w:World}(h:an P V W st a w){l:Leaf}{ls:List Leaf}{v:Value}(hl:aK P V W st w [] l v)(y:target st l=some ls)(ks:List (Nat×Nat))(J:List Nat)(M:∀ b∈fp [l],b∈J) :
  ∃ g o cs,v=.pointer (some ⟨g,o,none⟩)/\jW V W st ks J g/\aC P V W st w ls cs/\cX w g o cs:=by
 unfold target at y;split at y
 ·rename_i b;cases Y:decide ((st b).sh=.agg) with
  |false=>simp[Y]at y
  |true =>
   simp only[Y,cond_true,BD]at y;subst y;obtain⟨hB,O,z⟩:=hl;rcases h.boxes b hB with ⟨Z,_⟩|⟨_,E,Z⟩
   ·rw[O]at Z;cases Z
   ·exact⟨W.β b,0,W.cs b,z,.inr (.inr (.inl ⟨b,M b (by simp[fp]),⟨hB,O⟩,rfl⟩)),iA h b,λi v z=>by
     rw[CU,cell_of_row w (W.β b) i _ E (0,0) Z];simpa using z⟩
 ·rename_i p a x;simp only[BD]at y;subst y;obtain⟨g,X,c,z,hg,H,hc⟩:=hl;rw[CJ]at z;exact⟨g,X,c,z,hg.elim .inl (λh=>.inr (.inl h)),e9 (λ_ h=>h) H,hc⟩
 ·rename_i p a x;simp only[BD]at y;subst y;obtain⟨b,ob,g,X,c,z,Y,I,hg,H,hc⟩:=hl;refine⟨b,ob,[.pointer (some ⟨g,X,none⟩)],z,Y.elim .inl (λh=>.inr (.inl h)),⟨⟨⟨g,X,c,rfl,hg,H,hc⟩,id,rfl⟩,trivial⟩,λi u hi=>?_⟩;cases i with
  |zero=>simp at hi;subst hi;exact I
  |succ i=>simp at hi
 ·cases y
theorem gP {W:Wit}{w:World}{x:aI×List Leaf}{l:Leaf}{v:Value}{cs:List Value}(y:ee x.1 v cs)(z:aC P V W st w x.2 cs)(u:ck x=l)(H:l≠.dead) :
  aK P V W st w [] l v/\v.oneCell'=true:=by
 unfold ck at u;split at u
 ·rename_i I;subst u;have y:cs=[v]:=y;subst y;exact⟨z.1.1,z.1.2.2⟩
 ·exact absurd u.symm H
theorem nl {W:Wit}{a:Act}{w:World}(h:an P V W st a w){c:Bool×Ty}{l:Leaf}{v:Value}(hl:aK P V W st w [] l v){g:Got c.2.den}(H:fq st c l=some g) :
  gO w (bo V W g.p g.frz) (jW V W st g.frz g.see) c.1 c.2 g.val v/\(∀ z∈g.frz,aA st z)/\g.kill=[]/\g.lend=[]:=by
 unfold fq at H;cases hc:c.1 with
 |true =>
  rw[hc]at H;simp only[cond_true]at H;split at H
  ·rename_i l' ht;split at H
   ·rename_i Z a3;simp only[BE]at H;obtain⟨⟨p,y⟩,hy,rfl⟩:=H;obtain⟨g,o',cs,hv,Y,I,X⟩:=nk h hl ht (bz st Z) (fp [l,l']) (λb O=>by
     cases l <;> simp[fp]at O ⊢ <;> exact .inl O)
    match cs,I with
    |[u],I =>
     obtain⟨g2,o2,a2,a4,a1,M,a0⟩:=nk h I.1.1 a3 (bz st Z) (fp [l,l']) (λb O=>by
      cases l <;> cases l' <;> simp[fp]at O ⊢ <;> first|exact O|exact .inr O)
     have J:=X 0 u rfl;rw[CJ,a4]at J;refine⟨?_,λz hz=>ek M hz,rfl,rfl⟩;unfold gO;rw[if_pos rfl];exact⟨g,o',g2,o2,a2,hv,Y,J,a1,eE h M hy,a0⟩
   ·cases H
  ·cases H
 |false =>
  rw[hc]at H;simp only[cond_false]at H;split at H
  ·rename_i Z ht;simp only[BE]at H;obtain⟨⟨p,y⟩,hy,rfl⟩:=H;obtain⟨g,o',cs,hv,Y,I,X⟩:=nk h hl ht (bz st Z) (fp [l]) (λb O=>O);refine⟨?_,λz hz=>ek I hz,rfl,rfl⟩;unfold gO;rw[if_neg (by simp)];exact⟨g,o',cs,hv,Y,eE h I hy,X⟩
  ·cases H
theorem mv {W:Wit}{a:Act}{w:World}(h:an P V W st a w):∀ {cs:List (Bool×Ty)} {ls:List Leaf} {us:List Value} {g:Got (lU cs)},aC P V W st w ls us->cr st cs ls=some g ->
  jM w (bo V W g.p g.frz) (jW V W st g.frz g.see) cs g.val us/\(∀ z∈g.frz,aA st z)/\g.kill=[]/\g.lend=[]
 |[],[],us,g,J,y=>by
  simp only[cr,BD]at y;subst y;cases us with
  |nil=>exact⟨rfl,by simp,rfl,rfl⟩
  |cons=>exact J.elim
 |[],_::_,_,_,_,y=>by simp[cr]at y
 |_::_,[],_,_,_,y=>by simp[cr]at y
 |c::cs,l::ls,us,g,J,y=>by
  cases us with
  |nil=>exact J.elim
  |cons u us =>
   simp only[cr]at y;split at y
   ·rename_i g1 O;split at y
    ·rename_i g2 M;simp only[BD]at y;subst y;obtain⟨h1,Y,h3,h4⟩:=nl h J.1.1 O;obtain⟨Z,X,h7,h8⟩:=mv h J.2 M;refine⟨⟨u,us,rfl,h1.carry (λk I=>⟨i9 (by intro h;simp[h]) (λx H=>BM _ H) k I,rfl⟩) (λk I=>⟨kV (λx H=>BM _ H) (λx H=>BM _ H) k I,rfl⟩),
      Z.carry (λk I=>⟨i9 (by intro h;simp[h]) (λx H=>BH _ H) k I,rfl⟩) (λk I=>⟨kV (λx H=>BH _ H) (λx H=>BH _ H) k I,rfl⟩)⟩,?_,rfl,rfl⟩
     intro z hz;exact (BO.1 hz).elim (Y z) (X z)
    ·cases y
   ·cases y
theorem wt {W:Wit}{w:World}{c:Bool×Bool×(a:Ty)×a.den}{v:Value}(h:iP V W w c v):aK P V W st w [] (eR c) v/\¬ am (eR c)/\v.oneCell'=true:=by
 unfold iP at h;unfold eR;split at h
 ·rename_i u;rw[u];refine⟨h,id,?_⟩;obtain⟨b,I,g,z,H,y,_⟩:=h;rw[y];rfl
 ·rename_i u;have u:c.2.1=false:=by simpa using u
  rw[u];refine⟨h,id,?_⟩;obtain⟨g,z,H,y,_⟩:=h;rw[y];rfl
theorem qI {W:Wit}{w:World}{caps:List (Bool×Bool×(a:Ty)×a.den)}{us:List Value}(z:us.length=caps.length)(h:∀ (i:Nat) (c:Bool×Bool×(a:Ty)×a.den) (u:Value),caps[i]?=some c->us[i]?=some u->iP V W w c u) :
  aC P V W st w (caps.map eR) us :=
 aC.mk (by simp[z]) λj l v y H=>by
  rw[List.getElem?_map,BE]at y;obtain⟨c,I,rfl⟩:=y;exact wt (h j c v I H)
theorem p9 {W:Wit}{w:World}:∀ (caps:List Nat),(∀ b∈caps,B0<=b/\(st b).sh=.agg)->aC P V W st w (caps.map λb=>Leaf.bp b 0) (caps.map λb=>Value.pointer (some ⟨W.β b,0,none⟩))
 |[],_=>trivial
 |b::caps,h=>⟨⟨⟨(h b (BZ ..)).1,(h b (BZ ..)).2,rfl⟩,id,rfl⟩,p9 caps (λq u=>h q (BS _ u))⟩
theorem nm {off:Nat}{E:TypeId}{e:Ty}{X:List e.den}:∀ {a:Ty} {pos:Nat} {x z:a.den},bL off E e X a pos x=some z->(∃ y,be off a pos x=some ⟨E,e,y⟩)/\be off a pos z=some ⟨E,e,X⟩
 |.pair a b,pos,x,z,h=>by
  simp only[bL]at h;split at h
  ·rename_i u I;simp only[BD]at h;subst h;obtain⟨⟨y,O⟩,M⟩:=nm I;exact⟨⟨y,by simp only[be,O]⟩,by simp only[be,M]⟩
  ·rename_i hn;simp only[BE]at h;obtain⟨u,I,rfl⟩:=h;have Y:=Mx.back.set_in I;obtain⟨⟨y,O⟩,M⟩:=nm I;have H:be off a pos x.1=none:=by
    cases Z:be off a pos x.1 with
    |none=>rfl
    |some u=>have:=gv Z;omega
   exact⟨⟨y,by simp only[be,H,O]⟩,by simp only[be,H,M]⟩
 |.list m E' e',pos,xs,z,h=>by
  simp only[bL]at h;cases J:m&&BU pos off with
  |false=>simp[J]at h
  |true =>
   rw[J]at h;simp only[cond_true]at h;obtain⟨rfl,rfl,rfl⟩:=jR h;exact⟨⟨xs,by simp[be,J]⟩,by simp[be,J]⟩
 |.int _,_,_,_,h=>by simp[bL]at h
 |.bool,_,_,_,h=>by simp[bL]at h
 |.str,_,_,_,h=>by simp[bL]at h
 |.unit,_,_,_,h=>by simp[bL]at h
 |.hdr,_,_,_,h=>by simp[bL]at h
theorem Mx.refill {w:World}{G:Nat->Prop}{off:Nat}{E:TypeId}{e:Ty}{ys:List e.den}{u:Value}(X:u.oneCell'=true):∀ {a:Ty} {pos:Nat} {x z:a.den} {cs:List Value} {bs:List Nat},Mx w G a (some off) pos x cs bs->bL off E e ys a pos x=some z ->
  Mx w G a (some off) pos z (cs.set (off-pos) u) bs
 |.pair a b,pos,x,z,cs,bs,⟨c1,c2,Z,b2,e1,e2,O,M⟩,h=>by
  have hl:=O.len;simp only[bL]at h;split at h
  ·rename_i y J;simp only[BD]at h;subst h;have Y:=Mx.back.set_in J;refine⟨c1.set (off-pos) u,c2,Z,b2,?_,e2,Mx.refill X O J,M⟩;rw[e1,List.set_append_left _ _ (by omega)]
  ·simp only[BE]at h;obtain⟨y,J,rfl⟩:=h;have Y:=Mx.back.set_in J;refine⟨c1,c2.set (off-(pos+a.cells)) u,Z,b2,?_,e2,O,Mx.refill X M J⟩;rw[e1,List.set_append_right _ _ (by omega),hl,show off-pos-a.cells=off-(pos+a.cells) by omega]
 |.list m E' e',pos,xs,z,cs,bs,H,h=>by
  simp only[bL]at h;cases I:m&&BU pos off with
  |false=>simp[I]at h
  |true =>
   simp only[BF]at I;obtain⟨rfl,I⟩:=I;have I:=BL I;subst I;rw[je]at H ⊢;obtain⟨v,rfl,O,M⟩:=H;exact⟨u,by simp,X,M⟩
 |.int _,_,_,_,_,_,_,h=>by simp[bL]at h
 |.bool,_,_,_,_,_,_,h=>by simp[bL]at h
 |.str,_,_,_,_,_,_,h=>by simp[bL]at h
 |.unit,_,_,_,_,_,_,h=>by simp[bL]at h
 |.hdr,_,_,_,_,_,_,h=>by simp[bL]at h
theorem aC.setNil {W:Wit}{w:World}{ls:List Leaf}{cs:List Value}(I:aC P V W st w ls cs)(c:Nat):aC P V W st w (aT ls c .nil) (cs.set c (.slice none 0 0)):=by
 have u:=I.length;refine aC.mk (by simp[aT,u]) λj l v H y=>?_
 rcases aS _ _ _ _ _ H with ⟨rfl,rfl,J⟩|⟨z,H⟩
 ·rw[Ca (by omega)]at y;simp only[BD]at y;subst y;exact⟨rfl,id,rfl⟩
 ·rw[CS (CT z)]at y;exact I.at_ j l v H y
def wu (P:Program)(V:Env)(W:Wit)(st:St)(w:World)(pk:PK)(v:Value)(g:Got pk.den):Prop :=
 (∃ u,nU P w (bo V W g.p g.frz) (jW V W st g.frz g.see) pk g.val v u/\u=g.lend.map W.β++aW W g.kill)/\(∀ z∈g.frz,aA st z)/\(∀ z∈g.kill,aA st z)/\(∀ b∈g.lend,live st b)
theorem nn (hV:ay V){W:Wit}{a:Act}{w:World}(h:an P V W st a w){pk:PK}{x:aI×List Leaf}{v:Value}{cs:List Value}(hs:ee x.1 v cs)(hl:aC P V W st w x.2 cs)
  {g:Got pk.den} (u:bg st pk x=some g):wu P V W st w pk v g:=by
 obtain⟨sh,ls⟩:=x;have Y:∀ {b:Ty} {g:Got b.den},(bif decide (sh=bi b.isAgg) then (cg st b ls).map (λt=>(⟨t.p,t.val,t.frz,t.kill,[],[]⟩:Got b.den)) else none)=some g ->
   (∃ cs,de b.isAgg v cs/\Mx w (bo V W g.p g.frz) b none 0 g.val cs (aW W g.kill))/\g.lend=[]/\g.see=[]/\(∀ z∈g.frz,aA st z)/\(∀ z∈g.kill,aA st z):=by
  intro b g hq;cases I:decide (sh=bi b.isAgg) with
  |false=>simp[I]at hq
  |true =>
   rw[I]at hq;simp only[cond_true,BE]at hq;have O:=of_decide_eq_true I;subst O;obtain⟨t,ht,rfl⟩:=hq;obtain⟨X,J,M⟩:=dM (pos:=0) h hl ht;exact⟨⟨cs,gx hs,X⟩,rfl,rfl,J,M⟩
 cases pk with
 |rd b =>
  simp only[bg]at u;cases I:decide (sh=bi b.isAgg) with
  |false=>simp[I]at u
  |true =>
   rw[I]at u;simp only[cond_true,BE]at u;have O:=of_decide_eq_true I;subst O;obtain⟨⟨p,y⟩,hy,rfl⟩:=u;exact⟨⟨[],⟨rfl,cs,gx hs,eE h hl hy⟩,rfl⟩,λz hz=>ek hl hz,by simp[Got.ofRd],by simp[Got.ofRd]⟩
 |own b =>
  obtain⟨X,J,M,h4,h5⟩:=Y u;exact⟨⟨_,X,by rw[J];rfl⟩,h4,h5,by rw[J];simp⟩
 |io b =>
  obtain⟨X,J,M,h4,h5⟩:=Y u;exact⟨⟨_,X,by rw[J];rfl⟩,h4,h5,by rw[J];simp⟩
 |iop b =>
  simp only[bg]at u;split at u
  ·rename_i q hx;cases I:decide ((st q).sh=.agg) with
   |false=>simp[I]at u
   |true =>
    simp only[I,cond_true,BE]at u;obtain⟨t,ht,rfl⟩:=u;obtain⟨H,hv⟩:=gP hs hl hx (by simp);obtain⟨hB,a5,b4⟩:=H;rcases h.boxes q hB with ⟨h8,_⟩|⟨_,E,h8⟩
    ·rw[a5]at h8;cases h8
    ·obtain⟨X,J,M⟩:=dM (pos:=0) h (iA h q) ht;exact⟨⟨_,⟨W.β q,W.cs q,E,_,b4,h8,X,rfl⟩,rfl⟩,J,M,λb' O=>by simp at O;subst O;exact⟨hB,a5⟩⟩
  ·cases u
 |rref b =>
  simp only[bg]at u;have hd:ck (sh,ls)≠.dead:=by
   intro e;rw[e]at u;simp[fq,target]at u
  obtain⟨H,hv⟩:=gP hs hl rfl hd;obtain⟨X,J,M,h4⟩:=nl (c:=(false,b)) h H u;exact⟨⟨[],⟨rfl,X⟩,by rw[M,h4];rfl⟩,J,by rw[M];simp,by rw[h4];simp⟩
 |rref2 b =>
  simp only[bg]at u;have hd:ck (sh,ls)≠.dead:=by
   intro e;rw[e]at u;simp[fq,target]at u
  obtain⟨H,hv⟩:=gP hs hl rfl hd;obtain⟨X,J,M,h4⟩:=nl (c:=(true,b)) h H u;exact⟨⟨[],⟨rfl,X⟩,by rw[M,h4];rfl⟩,J,by rw[M];simp,by rw[h4];simp⟩
 |fn As B =>
  simp only[bg]at u;split at u
  ·rename_i As' B' φ hx;obtain⟨H,hv⟩:=gP hs hl hx (by simp);split at u
   ·rename_i hh;obtain⟨rfl,rfl⟩:=hh;simp only[BD]at u;subst u;have hf:ii P V.w0 V.prot As' B' φ v:=H;exact⟨⟨[],⟨rfl,ii.move h.size (λk hk=>⟨.inr (.inl hk),h.keep k hk⟩) hf⟩,rfl⟩,by simp,by simp,by simp⟩
   ·cases u
  ·cases u
 |clo f bb =>
  simp only[bg]at u;split at u
  ·rename_i f' a1 hx;cases I:BU f' f with
   |false=>simp[I]at u
   |true =>
    simp only[I,cond_true]at u;have I:=BL I;subst I;obtain⟨H,hv⟩:=gP hs hl hx (by simp);obtain⟨X,J⟩:=H;obtain⟨M,h4,h5,h6⟩:=mv h (p9 a1 J) u;exact⟨⟨[],⟨rfl,_,X,M⟩,by rw[h5,h6];rfl⟩,h4,by rw[h5];simp,by rw[h6];simp⟩
  ·rename_i f' a1 hx;cases I:BU f' f with
   |false=>simp[I]at u
   |true =>
    simp only[I,cond_true]at u;have I:=BL I;subst I;obtain⟨H,hv⟩:=gP hs hl hx (by simp);obtain⟨us,X,J,h7⟩:=H;obtain⟨M,h4,h5,h6⟩:=mv h (qI J h7) u;exact⟨⟨[],⟨rfl,us,X,M⟩,by rw[h5,h6];rfl⟩,h4,by rw[h5];simp,by rw[h6];simp⟩
  ·cases u
 |hol b c off =>
  simp only[bg]at u;cases I:decide (sh=bi b.isAgg) with
  |false=>simp[I]at u
  |true =>
   rw[I]at u;simp only[cond_true]at u;have O:=of_decide_eq_true I;subst O;split at u
   ·rename_i r' j n Z;split at u
    ·rename_i p i o' E e xs hd;cases a0:BU o' off with
     |false=>simp[a0]at u
     |true =>
      rw[a0]at u;simp only[cond_true]at u;have a0:=BL a0;subst a0;split at u
      ·rename_i t ht;split at u
       ·rename_i y hy;simp only[BD]at u;subst u;have a2:ls[c]?=some (.al r' j n):=by
         rw[CI]at Z;cases hq:ls[c]? with
         |none=>rw[hq]at Z;simp at Z
         |some l0=>rw[hq]at Z;simp at Z;rw[Z]
        have a6:c<cs.length:=by rw[<- hl.length];exact (BG.1 a2).1
        have a4:=BW a6;obtain⟨H,_,a3⟩:=hl.at_ c _ _ a2 a4;obtain⟨_,b2,a9,_⟩:=kq h hd H;obtain⟨X,J,M⟩:=dM (pos:=0) h (hl.setNil c) ht;obtain⟨⟨b9,b3⟩,ad⟩:=nm hy;obtain⟨v0,bn,b0,g1,g2,g3,g4⟩:=X.out b3;have b1:bn=[]:=by
         simp only[Cu,Ca a6,BD]at g2;obtain⟨b5,ba,q1,q2,_⟩:=g1;obtain⟨A,bl,q4,_⟩:=q1.slice;rw[<- g2]at q2 q4;simp only[CC]at q4;rw[q2,<- q4.2.1];rfl
        have g5:=Mx.refill a3 g3 hy;simp only[Cu,List.set_set,List.set_getElem_self]at g5;refine⟨⟨_,⟨cs,cs[c],b0,W.bs r' j,E,e,xs,gx hs,g5.mono (i9 (by intro h;simp[h]) (λ_ h=>h)),a4,ad,
         b2.2.carry (λk hk=>.inl (bT (W':=W) (by intro h;simp[h]) (λ_ h=>h) k hk)) (λ_ _=>rfl) (λ_ _=>rfl),λk=>?_⟩,rfl⟩,J,?_,by simp⟩
        ·have:=g4 k;rw[b1]at this;simp only[DE,Da];rw[show aW W ((r',j)::t.kill)=W.bs r' j++aW W t.kill from rfl,BI,this];simp;omega
        ·intro z hz;rcases CV.1 hz with rfl|hz
         ·exact⟨_,a9,trivial⟩
         ·exact M z hz
       ·cases u
      ·cases u
    ·cases u
   ·cases u
end
section
variable {P:Program} {V:Env} {Γ:List Ctr} {T:TypeId->TI} {st:St} {o:Oper} {R:Type} {κ:Upd->Option R} {r:R}
def gT (P:Program)(V:Env)(W:Wit)(st:St)(w:World):List (aI×List Leaf)->List Value->Prop
 |[],y=>y=[]
 |x::H,y=>∃ v u z,y=v::u/\ee x.1 v z/\aC P V W st w x.2 z/\gT P V W st w H u
theorem kF {W:Wit}{w:World}{ga:(pk:PK)->aI×List Leaf->Option (Got pk.den)}
  (H:∀ (pk:PK) (x:aI×List Leaf) (v:Value) (cs:List Value) (g:Got pk.den),ee x.1 v cs->aC P V W st w x.2 cs->ga pk x=some g->wu P V W st w pk v g) :
  ∀ (ps:List PK) (xs:List (aI×List Leaf)) (X:List Value) (g:Got (ab ps)),gT P V W st w xs X->bc ga ps xs=some g ->
   (∃ I,da P w (bo V W g.p g.frz) (jW V W st g.frz g.see) ps g.val X I/\∀ k,I.flatten.count k=(g.lend.map W.β).count k+(aW W g.kill).count k) /\
    (∀ z∈g.frz,aA st z)/\(∀ z∈g.kill,aA st z)/\(∀ b∈g.lend,live st b)
 |[],[],X,g,u,y=>by
  simp only[bc,BD]at y;subst y;exact⟨⟨[],⟨u,rfl⟩,λk=>by simp[aW]⟩,by simp,by simp,by simp⟩
 |[],_::_,_,_,_,y=>by simp[bc]at y
 |_::_,[],_,_,_,y=>by simp[bc]at y
 |p::ps,x::xs,X,g,u,y=>by
  obtain⟨v,O,cs,rfl,hs,hl,J⟩:=u;simp only[bc]at y;split at y
  ·rename_i g1 Y;split at y
   ·rename_i g2 Z;simp only[BD]at y;subst y;obtain⟨⟨b,h1,h2⟩,h3,h4,h5⟩:=H p x v cs g1 hs hl Y;obtain⟨⟨I,h6,h7⟩,h8,h9,a0⟩:=kF H ps xs O g2 J Z;refine⟨⟨b::I,⟨v,O,b,I,rfl,rfl,h1.mono (i9 (by intro h;simp[h]) (λx u=>BM _ u)) (kV (λx u=>BM _ u) (λx u=>BM _ u)),
     h6.mono (i9 (by intro h;simp[h]) (λx u=>BH _ u)) (kV (λx u=>BH _ u) (λx u=>BH _ u))⟩,λk=>?_⟩,?_,?_,?_⟩
    ·rw[B3,BI,h7 k,h2,BI,DW,BI,dG,BI];omega
    ·intro z M;exact (BO.1 M).elim (h3 z) (h8 z)
    ·intro z M;exact (BO.1 M).elim (h4 z) (h9 z)
    ·intro z M;exact (BO.1 M).elim (h5 z) (a0 z)
   ·cases y
  ·cases y
theorem nq:∀ {Γ:List Ctr} {f:FuncId} {c:Ctr},lV Γ f=some c->c∈Γ/\c.f=f
 |[],_,_,h=>by simp[lV]at h
 |H::Γ,f,c,h=>by
  simp only[lV]at h;cases u:BU H.f f with
  |true =>
   simp only[u,cond_true,BD]at h;subst h;exact⟨BZ ..,BL u⟩
  |false =>
   simp only[u,cond_false]at h;obtain⟨z,y⟩:=nq h;exact⟨BS _ z,y⟩
theorem tD {w:World}{G pr:Nat->Prop}{q:List PK}{z:ab q}{cv:List Value}{H:List (List Nat)}(J:da P w G pr q z cv H):∀ (y:List Ty) (x:Tup y) (u:List Value),sa w G y x u ->
  da P w G pr (y.map .rd++q) (nM q z y x) (u++cv) (y.map (λ_=>[])++H)
 |[],_,_,h=>by rw[show _=_ from h];exact J
 |a::y,x,_,⟨v,c,I,rfl,X,M,O⟩=>⟨v,I++cv,[],_,rfl,rfl,⟨rfl,c,X,M⟩,tD J y x.2 I O⟩
theorem qa {w:World}{ro pr:Nat->Prop}:∀ {ps:List PK} {x:ab ps} {z:List Value} {u:List (List Nat)},ps.all PK.reads=true->da P w ro pr ps x z u->u.flatten=[]
 |[],_,_,_,_,⟨_,e⟩=>by rw[e];rfl
 |p::ps,_,_,_,h,⟨v,I,b,y,_,e,J,H⟩=>by
  simp only[DB,BF]at h;rw[e,B3,qa h.2 H,B6];cases p <;> first|exact J.1|simp[PK.reads]at h
theorem qb {w w1:World}{ro pr ro' z:Nat->Prop}(u:∀ k,ro k->ro' k/\w1.heap[k]?=w.heap[k]?)(y:∀ k,pr k->z k/\w1.heap[k]?=w.heap[k]?):∀ {ps:List PK} {x:ab ps} {Y:List Value} {J:List (List Nat)},
  ps.all PK.reads=true->da P w ro pr ps x Y J->da P w1 ro' z ps x Y J
 |[],_,_,_,_,h=>h
 |p::ps,x,_,_,M,⟨v,X,b,H,e,Z,I,h2⟩=>by
  simp only[DB,BF]at M;refine⟨v,X,b,H,e,Z,?_,qb u y M.2 h2⟩;cases p with
  |rd a =>
   obtain⟨h0,cs,h3,h4⟩:=I;exact⟨h0,cs,h3,h4.carry (λk O=>(u k O).1) (λk O=>(u k O).2)⟩
  |rref a=>exact⟨I.1,I.2.carry u y⟩
  |rref2 a=>exact⟨I.1,I.2.carry u y⟩
  |_=>simp[PK.reads]at M
theorem mw (z:ay V){W:Wit}{p:Bool}{ks:List (Nat×Nat)}{y:List Nat}:∀ k,bo V W p ks k->jW V W st ks y k:=by
 rintro k ((u|⟨_,u⟩)|u)
 ·exact .inl u
 ·exact .inr (.inl (z.ro k u))
 ·exact .inr (.inr (.inr u))
theorem rx {W:Wit}{ks:List (Nat×Nat)}{y:List Nat}(H:∀ z∈ks,aA st z):∀ k,jW V W st ks y k->ca V W st k:=by
 rintro k (u|u|⟨b,_,O,e⟩|⟨x,I,u⟩)
 ·exact .inl u
 ·exact .inr (.inl u)
 ·exact .inr (.inr (.inl ⟨b,O,e⟩))
 ·obtain⟨l,M,J⟩:=H x I;exact .inr (.inr (.inr ⟨x.1,x.2,l,M,J,u⟩))
theorem sl {W:Wit}{w:World}:∀ {ls:List Leaf} {us:List Value},aC P V W st w ls us->gT P V W st w (ls.map λl=>(aI.one,[l])) us
 |[],[],_=>rfl
 |_::_,_::_,h=>⟨_,_,[_],rfl,rfl,⟨h.1,trivial⟩,sl h.2⟩
theorem yb (hV:ay V)(hΓ:∀ c∈Γ,bO P c){W:Wit}{a:Act}{w:World}(h:an P V W st a w){X:List Ty}{B:Ty}{f:FuncId}{ls:List Leaf}{us:List Value}{v:Value}(hv:v=.func (.func f) #[] us.toArray)(c1:aC P V W st w ls us)
  {g:Got (Tup X->Option B.den)} (H:kJ Γ st X B f ls=some g):ii P w (jW V W st g.frz g.see) X B g.val v/\(∀ z∈g.frz,aA st z)/\g.kill=[]/\g.lend=[]:=by
 unfold kJ at H;split at H
 ·rename_i c hc;obtain⟨a9,rfl⟩:=nq hc;obtain⟨a1,M⟩:=hΓ c a9;obtain⟨f',ps,rs,a2,cb⟩:=c;simp only at H a1 M hv;generalize ps.drop X.length=q at H;unfold rZ at H;split at H
  ·rename_i hh;obtain⟨rfl,rfl⟩:=hh;cases hb:q.all PK.reads&&B.flat&&a2 with
   |false=>simp[hb]at H
   |true =>
    simp only[hb,cond_true]at H;simp only[BF]at hb;obtain⟨⟨b1,b4⟩,bl⟩:=hb;subst bl;split at H
    ·rename_i g0 c2;simp only[BD]at H;subst H;obtain⟨⟨a4,h1,h2⟩,h3,h4,h5⟩:=kF (λpk x v cs g hs hl H=>nn hV h hs hl H) q _ _ g0 (sl c1) c2;have bx:=qa b1 h1;refine⟨⟨f',us.toArray,hv,a1,λw1 bb Y x I y hx hy=>?_⟩,h3,rfl,rfl⟩;simp only[BE]at hy;obtain⟨y0,ad,rfl⟩:=hy;have J:(X.map (λ_=>([]:List Nat))++a4).flatten=[]:=by
      rw[List.flatten_append,bx,B6];clear hx ad;induction X with
      |nil=>rfl
      |cons a X ih=>simp
     have b2:∀ k,jW V W st g0.frz g0.see k->k<w1.heap.size:=λk O=>CN (h.used_lt k (rx h3 k O)) bb
     have a5:=tD (P:=P) (pr:=λk=>k<w1.heap.size/\k∉(X.map (λ_=>([]:List Nat))++a4).flatten)
      (qb (P:=P) (w1:=w1) (ro':=λk=>k<w1.heap.size) (λk O=>⟨b2 k (mw hV k O),Y k (mw hV k O)⟩)
       (λk O=>⟨⟨b2 k O,by rw[J];simp⟩,Y k O⟩) b1 h1) X x I hx
     have a0:=M w1 (λk=>k<w1.heap.size) (nM q g0.val X x) (I++us) (X.map (λ_=>[])++a4) y0 a5
      (λk O=>⟨O,by rw[J];simp⟩) (by rw[J];exact Db) ad
     have a6:I.toArray++us.toArray=(I++us).toArray:=by simp
     rw[a6];refine a0.mono λe w2 a3=>?_
     obtain⟨u,cu,N,cc,c4,rfl,Z,b3,ba,b5,b9,c0,_,_,b0,_,_⟩:=a3;obtain⟨u1,cp,b,c3,e1,e2,⟨cs,bn,hm⟩,e3,e4⟩:=b0;subst e3;subst e1;have Z:u=u1:=Z;subst Z;exact⟨u,cs,rfl,bn,kf b4 hm,⟨ba,b5,b9,b3,λk O=>c0 k O (by rw[J];simp)⟩⟩
    ·cases H
  ·cases H
 ·cases H
theorem uG (Z:ay V)(hΓ:∀ c∈Γ,bO P c){W:Wit}{a:Act}{w:World}(h:an P V W st a w)(pk:PK)(x:aI×List Leaf)(v:Value)(cs:List Value)(g:Got pk.den)(Y:ee x.1 v cs)(O:aC P V W st w x.2 cs)
  (H:b8 Γ st pk x=some g):wu P V W st w pk v g:=by
 cases pk with
 |fn As B =>
  simp only[b8]at H;split at H
  ·rename_i X y;have J:(∃ u,ck x=.clo X.1 u/\X.2=u.map λb=>Leaf.bp b 0)\/∃ u,ck x=.clr X.1 u/\X.2=u.map eR:=by
    generalize ck x=l at y;cases l <;> simp only[vB,BD,reduceCtorEq]at y
    ·subst y;exact .inl ⟨_,rfl,rfl⟩
    ·subst y;exact .inr ⟨_,rfl,rfl⟩
   rcases J with ⟨u,J,he⟩|⟨u,J,he⟩
   ·obtain⟨z,_⟩:=gP Y O J (by simp);rw[he]at H;obtain⟨h1,h2,I,M⟩:=yb Z hΓ h z.1 (p9 u z.2) H;exact⟨⟨[],⟨rfl,h1⟩,by rw[I,M];rfl⟩,h2,by rw[I];simp,by rw[M];simp⟩
   ·obtain⟨z,_⟩:=gP Y O J (by simp);rw[he]at H;obtain⟨us,e1,e2,e3⟩:=z;obtain⟨h1,h2,I,M⟩:=yb Z hΓ h e1 (qI e2 e3) H;exact⟨⟨[],⟨rfl,h1⟩,by rw[I,M];rfl⟩,h2,by rw[I];simp,by rw[M];simp⟩
  ·exact nn Z h Y O H
 |_=>exact nn Z h Y O H
end
section
variable {P:Program} {V:Env} {W:Wit} {st st':St} {w w':World} {a:Act}
theorem iM {G:Nat->Prop}{p:Bool}(hG:∀ k,G k->gd V W p k):∀ {b:Ty} {pos:Nat} {x:b.den} {cs:List Value} {bs:List Nat},Mx w G b none pos x cs bs->bs.Nodup ->
  ∃ Z:Nat->List Nat,(ap p b x).length=cs.length /\
   (∀ (j:Nat) (l:Leaf) (u:Value),(ap p b x)[j]?=some l->cs[j]?=some u->aK P V W st w (Z j) l u) /\
   (∀ (j:Nat) (l:Leaf),(ap p b x)[j]?=some l->am l->∀ k∈Z j,k∈bs) /\
   (∀ (j O:Nat) (l l':Leaf),(ap p b x)[j]?=some l->am l->(ap p b x)[O]?=some l'->am l'->∀ k,k∈Z j->k∈Z O->j=O)
 |.int k,_,x,cs,bs,H,_=>by
  obtain⟨rfl,rfl⟩:=H;exact⟨λ_=>[],rfl,λj l u y R=>by cases j with|zero=>simp[ap]at y R;subst y;subst R;rfl|succ j=>simp[ap]at y,λj l y _ k r=>by simp at r,λj O l l' _ _ _ _ k r=>by simp at r⟩
 |.bool,_,x,cs,bs,H,_=>by
  obtain⟨rfl,rfl⟩:=H;exact⟨λ_=>[],rfl,λj l u y R=>by cases j with|zero=>simp[ap]at y R;subst y;subst R;rfl|succ j=>simp[ap]at y,λj l y _ k r=>by simp at r,λj O l l' _ _ _ _ k r=>by simp at r⟩
 |.str,_,x,cs,bs,H,_=>by
  obtain⟨rfl,rfl⟩:=H;exact⟨λ_=>[],rfl,λj l u y R=>by cases j with|zero=>simp[ap]at y R;subst y;subst R;rfl|succ j=>simp[ap]at y,λj l y _ k r=>by simp at r,λj O l l' _ _ _ _ k r=>by simp at r⟩
 |.unit,_,x,cs,bs,H,_=>by
  obtain⟨rfl,rfl⟩:=H;exact⟨λ_=>[],rfl,λj l u y R=>by simp[ap]at y,λj l y _ k r=>by simp at r,λj O l l' _ _ _ _ k r=>by simp at r⟩
 |.hdr,_,x,cs,bs,H,_=>by
  obtain⟨⟨A,a2,rfl⟩,rfl⟩:=H;exact⟨λ_=>[],rfl,λj l u y R=>by cases j with|zero=>simp[ap]at y R;subst y;subst R;exact⟨A,a2,rfl⟩|succ j=>simp[ap]at y,λj l y _ k r=>by simp at r,λj O l l' _ _ _ _ k r=>by simp at r⟩
 |.pair b c,pos,x,cs,bs,⟨c1,c2,b1,b2,e1,e2,y,R⟩,X=>by
  subst e1;subst e2;rw[CK]at X;obtain⟨d1,f1,f2,f3,f4⟩:=iM hG y X.1;obtain⟨d2,g1,g2,g3,g4⟩:=iM hG R X.2.1;have a5:=cG p b x.1;have a4:=y.len;have I:∀ (j:Nat) (l:Leaf),(ap p b x.1++ap p c x.2)[j]?=some l->(j<b.cells/\(ap p b x.1)[j]?=some l)\/(b.cells<=j/\(ap p c x.2)[j-b.cells]?=some l):=by
   intro j l z;by_cases M:j<b.cells
   ·rw[BK (by omega)]at z;exact .inl ⟨M,z⟩
   ·rw[BJ (by omega),a5]at z;exact .inr ⟨by omega,z⟩
  refine⟨λj=>if j<b.cells then d1 j else d2 (j-b.cells),by simp only[ap,BV];omega,λj l u z hu=>?_,λj l z ho k r=>?_,λj O l l' z ho Y a0 k r J=>?_⟩
  ·rcases I j l z with ⟨M,z⟩|⟨a3,z⟩
   ·rw[BK (by omega)]at hu;simp only[if_pos M];exact f2 j l u z hu
   ·rw[BJ (by omega),a4]at hu;simp only[if_neg (show ¬ j<b.cells by omega)];exact g2 _ l u z hu
  ·rcases I j l z with ⟨M,z⟩|⟨a3,z⟩
   ·simp only[if_pos M]at r;exact BM _ (f3 j l z ho k r)
   ·simp only[if_neg (show ¬ j<b.cells by omega)]at r;exact BH _ (g3 _ l z ho k r)
  ·rcases I j l z with ⟨M,z⟩|⟨a3,z⟩ <;> rcases I O l' Y with ⟨a1,Y⟩|⟨a6,Y⟩
   ·simp only[if_pos M]at r;simp only[if_pos a1]at J;exact f4 j O l l' z ho Y a0 k r J
   ·simp only[if_pos M]at r;simp only[if_neg (show ¬ O<b.cells by omega)]at J;exact absurd rfl (X.2.2 k (f3 j l z ho k r) k (g3 _ l' Y a0 k J))
   ·simp only[if_neg (show ¬ j<b.cells by omega)]at r;simp only[if_pos a1]at J;exact absurd rfl (X.2.2 k (f3 O l' Y a0 k J) k (g3 _ l z ho k r))
   ·simp only[if_neg (show ¬ j<b.cells by omega)]at r;simp only[if_neg (show ¬ O<b.cells by omega)]at J;have:=g4 _ _ l l' z ho Y a0 k r J;omega
 |.list m E e,pos,xs,cs,bs,H,X=>by
  cases m with
  |false =>
   rw[cm]at H;obtain⟨rfl,A,a2,rfl,R,h3⟩:=H;refine⟨λ_=>[],rfl,λj l u y h4=>?_,λj l y _ k r=>by simp at r,λj O l l' _ _ _ _ k r=>by simp at r⟩;cases j with
   |zero =>
    simp[ap]at y h4;subst y;subst h4;exact Rd.mono hG (⟨A,a2,rfl,R,h3⟩:Rd w G (.list false E e) xs _)
   |succ j=>simp[ap]at y
  |true =>
   rw[bI (by simp)]at H;obtain⟨v,rfl,hO⟩:=H;refine⟨λ_=>bs,rfl,λj l u y h4=>?_,λj l y _ k r=>r,λj O l l' y _ h3 _ k _ _=>?_⟩
   ·cases j with
    |zero =>
     simp[ap]at y h4;subst y;subst h4;exact⟨X,OwB.shy (hO.carry hG (λ_ _=>rfl) (λ_ _=>rfl))⟩
    |succ j=>simp[ap]at y
   ·have h7:j<1:=by simpa[ap]using (BG.1 y).1
    have h8:O<1:=by simpa[ap]using (BG.1 h3).1
    omega
theorem an.reown (hV:ay V)(h:an P V W st a w)(r:Nat)(c:bQ)(O:Nat->List Nat)(a3:(st r).ver<c.ver)(a1:c.sh=(st r).sh)(X:c.ls.length=(st r).ls.length)
  (a2:∀ (j:Nat) (l:Leaf) (v:Value),c.ls[j]?=some l->(W.cs r)[j]?=some v->aK P V W st w (O j) l v)
  (Z:∀ (j:Nat) (l:Leaf),c.ls[j]?=some l->am l->∀ k∈O j,¬ W.nw k/\¬ V.prot k/\(∀ b,live st b->W.β b≠k) /\
   ∀ (r1 j1:Nat) (l1:Leaf),r1≠r->(st r1).ls[j1]?=some l1->am l1->k∉W.bs r1 j1)
  (a4:∀ (j j':Nat) (l l':Leaf),c.ls[j]?=some l->am l->c.ls[j']?=some l'->am l'->∀ k,k∈O j->k∈O j'->j=j') :
  an P V { W with bs:=λr' j=>if r'=r then O j else W.bs r' j } (ac [(r,c)] st) a w:=by
 have I:∀ b,live (ac [(r,c)] st) b<->live st b:=by
  intro b;rcases aj r b c st with ⟨rfl,e⟩|⟨_,e⟩
  ·simp[live,e,a1]
  ·simp[live,e]
 have Y:cA V W { W with bs:=λr' j=>if r'=r then O j else W.bs r' j } st (ac [(r,c)] st) w w:=by
  refine⟨λq=>?_,λb R=>⟨(I b).2 R,rfl⟩,λ_ h=>h,λ_ _=>rfl,λ_ q j' l' J h4 h5=>?_⟩
  ·rcases aj r q c st with ⟨rfl,e⟩|⟨y,e⟩
   ·rw[e];exact⟨Nat.le_of_lt a3,λ_=>rfl⟩
   ·rw[e];exact⟨BX _,λ_=>rfl⟩
  ·rcases aj r q c st with ⟨rfl,e⟩|⟨y,e⟩
   ·rw[e]at h5;omega
   ·rw[e]at J;exact⟨⟨l',J,h4⟩,by simp[y],λ_ _=>rfl⟩
 exact {
  nt:=h.nt,df:=h.df
  slots:=λt ht=>by
   rcases aj r t c st with ⟨rfl,e⟩|⟨_,e⟩
   ·rw[e,a1];exact h.slots t ht
   ·rw[e];exact h.slots t ht
  boxes:=λb R=>by
   rcases aj r b c st with ⟨rfl,e⟩|⟨_,e⟩
   ·rw[e,a1];rcases h.boxes b R with ⟨h1,z⟩|h1
    ·refine .inl ⟨h1,?_⟩;rw[z]at X;exact BY X
    ·exact .inr h1
   ·rw[e];exact h.boxes b R
  len:=λq=>by
   rcases aj r q c st with ⟨rfl,e⟩|⟨_,e⟩
   ·rw[e,X];exact h.len q
   ·rw[e];exact h.len q
  one:=h.one
  leaf:=λq j l u z J=>by
   rcases aj r q c st with ⟨rfl,e⟩|⟨y,e⟩
   ·rw[e]at z;exact (a2 j l u z J).carry hV.ro Y (λ_=>⟨by simp,λ_ _=>rfl⟩)
   ·rw[e]at z;exact (h.leaf q j l u z J).carry hV.ro Y (λ_=>⟨by simp[y],λ_ _=>rfl⟩)
  ownb:=λq j l z J k M=>by
   rcases aj r q c st with ⟨rfl,e⟩|⟨y,e⟩
   ·rw[e]at z;simp only[if_true]at M;have:=Z j l z J k M;exact⟨this.1,this.2.1,λb R=>this.2.2.1 b ((I b).1 R)⟩
   ·rw[e]at z;simp only[y,if_false]at M;have:=h.ownb q j l z J k M;exact⟨this.1,this.2.1,λb R=>this.2.2 b ((I b).1 R)⟩
  sep:=λq j l q' j' l' z J h4 h5 k M H=>by
   rcases aj r q c st with ⟨e0,e⟩|⟨y,e⟩ <;> rcases aj r q' c st with ⟨e1,e'⟩|⟨a0,e'⟩
   ·rw[e]at z;rw[e']at h4;simp only[e0,if_true]at M;simp only[e1,if_true]at H;exact⟨e0.trans e1.symm,a4 j j' l l' z J h4 h5 k M H⟩
   ·rw[e]at z;rw[e']at h4;simp only[e0,if_true]at M;simp only[a0,if_false]at H;exact absurd H ((Z j l z J k M).2.2.2 q' j' l' a0 h4 h5)
   ·rw[e]at z;rw[e']at h4;simp only[y,if_false]at M;simp only[e1,if_true]at H;exact absurd M ((Z j' l' h4 h5 k H).2.2.2 q j l y z J)
   ·rw[e]at z;rw[e']at h4;simp only[y,if_false]at M;simp only[a0,if_false]at H;exact h.sep q j l q' j' l' z J h4 h5 k M H
  box:=λb R=>h.box b ((I b).1 R)
  inj:=λb b' R a5=>h.inj b b' ((I b).1 R) ((I b').1 a5)
  nwlt:=h.nwlt
  os:=h.os,tape:=h.tape,output:=h.output,size:=h.size,keep:=h.keep
  fixb:=λx hx=>⟨(I _).2 (h.fixb x hx).1,(h.fixb x hx).2⟩
  fixt:=h.fixt }
theorem an.reownE (hV:ay V)(h:an P V W st a w)(r:Nat)(c:bQ)(M:Nat->List Nat)(a6:r≠EPO)(a3:(st r).ver<=c.ver)(a5:c.sh=(st r).sh)(a1:c.ls.length=(st r).ls.length)
  (a0:∀ (j:Nat) (l:Leaf) (v:Value),c.ls[j]?=some l->(W.cs r)[j]?=some v->aK P V W st w (M j) l v)
  (X:∀ (j:Nat) (l:Leaf),c.ls[j]?=some l->am l->∀ k∈M j,¬ W.nw k/\¬ V.prot k/\(∀ b,live st b->W.β b≠k) /\
   ∀ (r1 j1:Nat) (l1:Leaf),r1≠r->(st r1).ls[j1]?=some l1->am l1->k∉W.bs r1 j1)
  (a4:∀ (j j':Nat) (l l':Leaf),c.ls[j]?=some l->am l->c.ls[j']?=some l'->am l'->∀ k,k∈M j->k∈M j'->j=j') :
  an P V { W with bs:=λr' j=>if r'=r then M j else W.bs r' j } (ac [(r,c),(EPO,bU (st EPO))] st) a w /\
   (∀ q,(ac [(r,c),(EPO,bU (st EPO))] st q).sh=(st q).sh/\(st q).ver<=(ac [(r,c),(EPO,bU (st EPO))] st q).ver/\(q≠r->(ac [(r,c),(EPO,bU (st EPO))] st q).ls=(st q).ls))/\ac [(r,c),(EPO,bU (st EPO))] st r=c:=by
 have e0:ac [(r,c),(EPO,bU (st EPO))] st=ac [(r,c)] (ac [(EPO,bU (st EPO))] st):=aP _ _ _ _;generalize hS:ac [(r,c),(EPO,bU (st EPO))] st=S;rw[e0]at hS;have hr:S r=c:=by rw[<- hS,bk]
 have O:∀ q,(S q).sh=(st q).sh/\(st q).ver<=(S q).ver/\(q≠r->(S q).ls=(st q).ls):=by
  intro q;rw[<- hS];rcases aj r q c (ac [(EPO,bU (st EPO))] st) with ⟨rfl,e⟩|⟨ad,e⟩
  ·rw[e];exact⟨a5,a3,λh=>absurd rfl h⟩
  ·rw[e];rcases aj EPO q (bU (st EPO)) st with ⟨rfl,e⟩|⟨_,e⟩ <;> rw[e]
   ·exact⟨rfl,DS _,λ_=>rfl⟩
   ·exact⟨rfl,BX _,λ_=>rfl⟩
 have hE:(st EPO).ver<(S EPO).ver:=by
  rw[<- hS,aJ (CT a6),bk];exact BP _
 refine⟨?_,O,hr⟩;have I:∀ b,live S b<->live st b:=λb=>by simp[live,(O b).1]
 have R:cA V W { W with bs:=λr' j=>if r'=r then M j else W.bs r' j } st S w w :=
  ⟨λq=>⟨(O q).2.1,λ_=>rfl⟩,λb Y=>⟨(I b).2 Y,rfl⟩,λ_ h=>h,λ_ _=>rfl,λhe=>by omega⟩
 have a2:∀ q,(S q).ls.length=(st q).ls.length:=λq=>by
  by_cases y:q=r
  ·rw[y,hr,a1]
  ·rw[(O q).2.2 y]
 exact {
  nt:=h.nt,df:=h.df
  slots:=λt ht=>by rw[(O t).1];exact h.slots t ht
  boxes:=λb Y=>by
   rw[(O b).1];rcases h.boxes b Y with ⟨h1,z⟩|h1
   ·refine .inl ⟨h1,BY ?_⟩;rw[a2,z];rfl
   ·exact .inr h1
  len:=λq=>by rw[a2];exact h.len q
  one:=h.one
  leaf:=λq j l u z Z=>by
   by_cases y:q=r
   ·subst y;rw[hr]at z;exact (a0 j l u z Z).carry hV.ro R (λ_=>⟨by simp,λ_ _=>rfl⟩)
   ·rw[(O q).2.2 y]at z;exact (h.leaf q j l u z Z).carry hV.ro R (λ_=>⟨by simp[y],λ_ _=>rfl⟩)
  ownb:=λq j l z Z k J=>by
   by_cases y:q=r
   ·subst y;rw[hr]at z;simp only[if_true]at J;have:=X j l z Z k J;exact⟨this.1,this.2.1,λb Y=>this.2.2.1 b ((I b).1 Y)⟩
   ·rw[(O q).2.2 y]at z;simp only[y,if_false]at J;have:=h.ownb q j l z Z k J;exact⟨this.1,this.2.1,λb Y=>this.2.2 b ((I b).1 Y)⟩
  sep:=λq j l q' j' l' z Z h4 h5 k J H=>by
   by_cases e0:q=r <;> by_cases e1:q'=r
   ·subst e0;subst e1;rw[hr]at z h4;simp only[if_true]at J H;exact⟨rfl,a4 j j' l l' z Z h4 h5 k J H⟩
   ·subst e0;rw[hr]at z;rw[(O q').2.2 e1]at h4;simp only[if_true]at J;simp only[e1,if_false]at H;exact absurd H ((X j l z Z k J).2.2.2 q' j' l' e1 h4 h5)
   ·subst e1;rw[(O q).2.2 e0]at z;rw[hr]at h4;simp only[e0,if_false]at J;simp only[if_true]at H;exact absurd J ((X j' l' h4 h5 k H).2.2.2 q j l e0 z Z)
   ·rw[(O q).2.2 e0]at z;rw[(O q').2.2 e1]at h4;simp only[e0,if_false]at J;simp only[e1,if_false]at H;exact h.sep q j l q' j' l' z Z h4 h5 k J H
  box:=λb Y=>h.box b ((I b).1 Y)
  inj:=λb b' Y a9=>h.inj b b' ((I b).1 Y) ((I b').1 a9)
  nwlt:=h.nwlt
  os:=h.os,tape:=h.tape,output:=h.output,size:=h.size,keep:=h.keep
  fixb:=λx hx=>⟨(I _).2 (h.fixb x hx).1,(h.fixb x hx).2⟩
  fixt:=h.fixt }
theorem an.nwGrow (R:ay V)(h:an P V W st a w)(N:Nat->Prop)(M:∀ k,N k->k<w.heap.size/\¬ ca V W st k):an P V { W with nw:=λk=>W.nw k\/N k } st a w:=by
 have y:cA V W { W with nw:=λk=>W.nw k\/N k } st st w w:=⟨λr=>⟨BX _,λ_=>rfl⟩,λb J=>⟨J,rfl⟩,λ_ h=>.inl h,λ_ _=>rfl,λ_ _ _ l I H _=>⟨⟨l,I,H⟩,rfl,λ_ _=>rfl⟩⟩
 exact {
  nt:=h.nt,df:=h.df,slots:=h.slots,boxes:=h.boxes,len:=h.len,one:=h.one
  leaf:=λr j l v I H=>(h.leaf r j l v I H).carry R.ro y (λ_=>⟨rfl,λ_ _=>rfl⟩)
  ownb:=λr j l I H k u=>⟨λz=>z.elim (h.ownb r j l I H k u).1 (λz=>(M k z).2 (.inr (.inr (.inr ⟨r,j,l,I,H,u⟩)))),(h.ownb r j l I H k u).2⟩
  sep:=h.sep
  box:=λb J=>⟨λz=>z.elim (h.box b J).1 (λz=>(M _ z).2 (.inr (.inr (.inl ⟨b,J,rfl⟩)))),(h.box b J).2⟩
  inj:=h.inj
  nwlt:=λk u=>u.elim (h.nwlt k) (λu=>⟨(M k u).1,λO=>(M k u).2 (.inr (.inl O))⟩)
  os:=h.os,tape:=h.tape,output:=h.output,size:=h.size,keep:=h.keep,fixb:=h.fixb,fixt:=h.fixt }
end
def eP:List Leaf->List Leaf->List (Nat×Nat)
 |.al r j _::u,l::y=>(match l with|.own _ _ _ _ _=>[(r,j)]|_=>[])++eP u y
 |_::u,_::y=>eP u y
 |_,_=>[]
section
variable {P:Program} {V:Env} {st st':St} {w w':World} {a:Act}
theorem nr {x l:Leaf}{xs ls:List Leaf}(h:¬ am l):eP (x::xs) (l::ls)=eP xs ls:=by
 cases x <;> try rfl
 cases l <;> first|exact absurd trivial h|rfl
theorem vi {k:IntKind}{ls:List Leaf}{x:Bool×(Ty.int k).den×List Leaf}(h:a8 st (.int k) ls=some x):∃ l,ls=l::x.2.2:=by
 simp only[a8]at h;split at h
 ·split at h
  ·simp only[BD]at h;subst h;exact⟨_,rfl⟩
  ·cases h
 ·cases h
theorem tE {ls:List Leaf}{x:Bool×Ty.bool.den×List Leaf}(h:a8 st .bool ls=some x):∃ l,ls=l::x.2.2:=by
 simp only[a8]at h;split at h
 ·simp only[BD]at h;subst h;exact⟨_,rfl⟩
 ·cases h
theorem vj {ls:List Leaf}{x:Bool×Ty.str.den×List Leaf}(h:a8 st .str ls=some x):∃ l,ls=l::x.2.2:=by
 simp only[a8]at h;split at h
 ·simp only[BD]at h;subst h;exact⟨_,rfl⟩
 ·cases h
theorem vk {ls:List Leaf}{x:Bool×Ty.hdr.den×List Leaf}(h:a8 st .hdr ls=some x):∃ l,ls=l::x.2.2:=by
 simp only[a8]at h;split at h
 ·split at h
  ·simp only[BD]at h;subst h;exact⟨_,rfl⟩
  ·cases h
 ·cases h
theorem lk {p:Bool}:∀ (b:Ty) (ls:List Leaf) (t:cI b.den),take st b ls=some t->∀ (y:b.den) (r:List Leaf),eP ls (ap p b y++r)=t.kill++eP t.rest r
 |.pair b c,ls,t,h,y,r=>by
  simp only[take]at h;split at h
  ·rename_i u J;split at h
   ·rename_i v I;simp only[BD]at h;subst h;simp only[ap];rw[BT,lk b ls u J y.1,lk c u.rest v I y.2,BT]
   ·cases h
  ·cases h
 |.unit,ls,t,h,y,r=>by
  simp only[take,BD]at h;subst h;rfl
 |.list m E e,ls,t,h,y,r=>by
  cases ls with
  |nil=>simp[take]at h
  |cons l ls =>
   cases m with
   |false =>
    simp only[take,cond_false]at h;split at h
    ·simp only[BD]at h;subst h;exact nr id
    ·cases h
   |true =>
    simp only[take,cond_true]at h;split at h
    ·split at h
     ·simp only[BE]at h;obtain⟨O,_,rfl⟩:=h;rfl
     ·cases h
    ·simp only[BD]at h;subst h;rfl
    ·cases h
 |.int k,ls,t,h,y,r=>scal (b:=.int k) h vi (l':=.int k y) id
 |.bool,ls,t,h,y,r=>scal (b:=.bool) h tE (l':=.bool y) id
 |.str,ls,t,h,y,r=>scal (b:=.str) h vj (l':=.str y) id
 |.hdr,ls,t,h,y,r=>scal (b:=.hdr) h vk (l':=.hdr y) id
where
 scal {b:Ty} {ls:List Leaf} {t:cI b.den} {l':Leaf} {r:List Leaf} (h:(a8 st b ls).map (λx=>(⟨false,x.2.1,[],[],x.2.2⟩:cI b.den))=some t)
   (H:∀ {ls:List Leaf} {x:Bool×b.den×List Leaf},a8 st b ls=some x->∃ l,ls=l::x.2.2) (z:¬ am l'):eP ls ([l']++r)=t.kill++eP t.rest r:=by
  simp only[BE]at h;obtain⟨x,M,rfl⟩:=h;obtain⟨l,rfl⟩:=H M;exact nr z
theorem zn {W W':Wit}{bs:List Nat}{l:Leaf}{v:Value}(y:am l)(u:W'.nw=W.nw)(h:aK P V W st w bs l v):aK P V W' st' w bs l v:=by
 cases l <;> simp only[am]at y;exact OwH.carry h (λk r=>by
  rcases r with r|r
  ·exact .inl (by rw[u];exact r)
  ·exact .inr r) (λ_ _=>rfl) (λ_ _=>rfl)
theorem wv {S:St}{x l:Leaf}{xs ls:List Leaf}(h:¬ am l):ac (b6 S (x::xs) (l::ls)) S=ac (b6 S xs ls) S:=by
 cases x <;> try rfl
 cases l <;> first|exact absurd trivial h|rfl
theorem jX {x:Nat×Nat}{l:List (Nat×Nat)}(h:aZ (x::l)=true):x∉l/\aZ l=true:=by
 simp only[aZ,BF,B4,CB]at h;exact⟨λr=>by have:=h.1 x r;simp at this,h.2⟩
theorem zP (hV:ay V){W:Wit}{S:St}(h:an P V W S a w):∀ (xl ls:List Leaf) (cs:List Value) (O:Nat->List Nat),aZ (eP xl ls)=true->(∀ x∈eP xl ls,x.1≠EPO)->xl.length=cs.length->ls.length=cs.length ->
  (∀ (i r j n:Nat) (l:Leaf) (u:Value),xl[i]?=some (.al r j n)->ls[i]?=some l->am l->cs[i]?=some u->(W.cs r)[j]?=some u) ->
  (∀ x∈eP xl ls,∀ l,(S x.1).ls[x.2]?=some l->¬ am l) ->
  (∀ (i:Nat) (l:Leaf) (u:Value),ls[i]?=some l->cs[i]?=some u->aK P V W S w (O i) l u) ->
  (∀ (i:Nat) (l:Leaf),ls[i]?=some l->am l->∀ k∈O i,¬ ca V W S k) ->
  (∀ (i i':Nat) (l l':Leaf),ls[i]?=some l->am l->ls[i']?=some l'->am l'->∀ k,k∈O i->k∈O i'->i=i') ->
  ∃ W',an P V W' (ac (b6 S xl ls) S) a w/\W'.cs=W.cs/\W'.β=W.β/\W'.nw=W.nw/\(∀ q,(ac (b6 S xl ls) S q).sh=(S q).sh/\(S q).ver<=(ac (b6 S xl ls) S q).ver) /\
   (∀ (q i:Nat),(q,i)∉eP xl ls->(ac (b6 S xl ls) S q).ls[i]?=(S q).ls[i]?/\W'.bs q i=W.bs q i) /\
   (∀ k,ca V W' (ac (b6 S xl ls) S) k->ca V W S k\/∃ i l,ls[i]?=some l/\am l/\k∈O i)
 |[],ls,cs,O,_,_,hx,hl,_,_,_,_,_=>⟨W,h,rfl,rfl,rfl,λ_=>⟨rfl,BX _⟩,λ_ _ _=>⟨rfl,rfl⟩,λk R=>.inl R⟩
 |x::X,[],cs,O,_,_,hx,hl,_,_,_,_,_=>by simp at hx hl;omega
 |x::X,l::ls,[],O,_,_,hx,hl,_,_,_,_,_=>by simp at hx
 |x::X,l::ls,u::cs,O,hd,b9,hx,hl,b5,ba,a4,a2,b0=>by
  have b3:aZ (eP X ls)=true:=by
   cases x with
   |al r j n =>
    cases l with
    |own p hh E e ys=>exact (jX hd).2
    |_=>exact hd
   |_=>exact hd
  have ad:∀ z∈eP X ls,z∈eP (x::X) (l::ls):=by
   intro z hz;cases x with
   |al r j n=>exact BH _ hz
   |_=>exact hz
  obtain⟨W1,h1,e1,e2,e3,e4,e5,e6⟩:=zP hV h X ls cs (λi=>O (i+1)) b3 (λz hz=>b9 z (ad z hz)) (by simpa using hx) (by simpa using hl)
   (λi r j n l' u' J I M g4=>b5 (i+1) r j n l' u' (by simpa using J) (by simpa using I) M (by simpa using g4))
   (λz hz=>ba z (ad z hz)) (λi l' u' J I=>a4 (i+1) l' u' (by simpa using J) (by simpa using I))
   (λi l' J I=>a2 (i+1) l' (by simpa using J) I)
   (λi i' l1 l2 J I M g4 k g5 g6=>by have:=b0 (i+1) (i'+1) l1 l2 (by simpa using J) I (by simpa using M) g4 k g5 g6;omega)
  by_cases hs:¬ am l\/(∀ r j n,x≠.al r j n)
  ·have a9:ac (b6 S (x::X) (l::ls)) S=ac (b6 S X ls) S/\eP (x::X) (l::ls)=eP X ls:=by
    rcases hs with hs|hs
    ·exact⟨wv hs,nr hs⟩
    ·cases x with
     |al r j n=>exact absurd rfl (hs r j n)
     |_=>exact⟨rfl,rfl⟩
   rw[a9.1,a9.2];exact⟨W1,h1,e1,e2,e3,e4,e5,λk R=>(e6 k R).imp id λ⟨i,l',J,I,M⟩=>⟨i+1,l',by simpa using J,I,M⟩⟩
  ·simp only[not_or,Classical.not_not]at hs;obtain⟨bx,bl⟩:=hs;obtain⟨r,j,n,rfl⟩:∃ r j n,x=.al r j n:=by
    cases x with
    |al r j n=>exact⟨r,j,n,rfl⟩
    |_=>exact absurd (λ_ _ _ h=>by cases h) bl
   obtain⟨p,hh,E,e,ys,rfl⟩:∃ p hh E e ys,l=.own p hh E e ys:=by
    cases l <;> simp only[am]at bx;exact⟨_,_,_,_,_,rfl⟩
   have b1:eP (.al r j n::X) (.own p hh E e ys::ls)=(r,j)::eP X ls:=rfl;rw[b1]at hd ba;obtain⟨c0,c1⟩:=jX hd;have hv:=b5 0 r j n _ u rfl rfl trivial rfl;have a9:ac (b6 S (.al r j n::X) (.own p hh E e ys::ls)) S=ac [(r,⟨(ac (b6 S X ls) S r).ver,(ac (b6 S X ls) S r).sh,aT (ac (b6 S X ls) S r).ls j (.own p hh E e ys)⟩),(EPO,bU (ac (b6 S X ls) S EPO))] (ac (b6 S X ls) S):=bC [_,_] _ _;have a6:aK P V W1 (ac (b6 S X ls) S) w (O 0) (.own p hh E e ys) u:=zn trivial e3 (a4 0 _ u rfl rfl);have Y:∀ k∈O 0,¬ ca V W1 (ac (b6 S X ls) S) k:=λk R hu=>by
    rcases e6 k hu with hu|⟨i,l',J,I,M⟩
    ·exact a2 0 _ rfl trivial k R hu
    ·have:=b0 0 (i+1) _ l' rfl trivial (by simpa using J) I k R M;omega
   have H:∀ (i:Nat) (l':Leaf),i≠j->(aT (ac (b6 S X ls) S r).ls j (.own p hh E e ys))[i]?=some l'->(ac (b6 S X ls) S r).ls[i]?=some l':=by
    intro i l' a5 a0;rcases aS _ _ _ _ _ a0 with ⟨rfl,_,_⟩|⟨_,a0⟩
    ·exact absurd rfl a5
    ·exact a0
   have bb:∀ (l':Leaf),(aT (ac (b6 S X ls) S r).ls j (.own p hh E e ys))[j]?=some l'->l'=.own p hh E e ys:=by
    intro l' a0;rcases aS _ _ _ _ _ a0 with ⟨_,rfl,_⟩|⟨a5,_⟩
    ·rfl
    ·exact absurd rfl a5
   have bn:r≠EPO:=b9 (r,j) (by rw[b1];exact BZ ..);obtain⟨h2,a3,b4⟩:=h1.reownE hV r ⟨(ac (b6 S X ls) S r).ver,(ac (b6 S X ls) S r).sh,aT (ac (b6 S X ls) S r).ls j (.own p hh E e ys)⟩ (λi=>if i=j then O 0 else W1.bs r i) bn (BX _) rfl (by simp[aT])
    (λi l' v' J I=>by
     by_cases y:i=j
     ·subst y;obtain rfl:=bb l' J;rw[e1,hv]at I;simp only[BD]at I;subst I;simp only[if_true];exact a6
     ·simp only[if_neg y];exact h1.leaf r i l' v' (H i l' y J) I)
    (λi l' J I k R=>by
     by_cases y:i=j
     ·subst y;simp only[if_true]at R;have hu:=Y k R;simp only[ca,not_or,not_exists,not_and]at hu;exact⟨hu.1,hu.2.1,hu.2.2.1,λr1 j1 l1 _ M g4 g5=>hu.2.2.2 r1 j1 l1 M g4 g5⟩
     ·simp only[if_neg y]at R;have a0:=H i l' y J;have h9:=h1.ownb r i l' a0 I k R;exact⟨h9.1,h9.2.1,h9.2.2,λr1 j1 l1 a5 M g4 g5=>a5 (h1.sep r i l' r1 j1 l1 a0 I M g4 k R g5).1.symm⟩)
    (λi i' l1 l2 J I M g4 k R a1=>by
     by_cases y:i=j <;> by_cases Z:i'=j
     ·omega
     ·subst y;simp only[if_true]at R;simp only[if_neg Z]at a1;exact absurd (.inr (.inr (.inr ⟨r,i',l2,H i' l2 Z M,g4,a1⟩))) (Y k R)
     ·subst Z;simp only[if_true]at a1;simp only[if_neg y]at R;exact absurd (.inr (.inr (.inr ⟨r,i,l1,H i l1 y J,I,R⟩))) (Y k a1)
     ·simp only[if_neg y]at R;simp only[if_neg Z]at a1;exact (h1.sep r i l1 r i' l2 (H i l1 y J) I (H i' l2 Z M) g4 k R a1).2)
   rw[a9];refine⟨_,h2,e1,e2,e3,λq=>?_,λq i hq=>?_,λk R=>?_⟩
   ·exact⟨(a3 q).1.trans (e4 q).1,CL (e4 q).2 (a3 q).2.1⟩
   ·rw[b1]at hq;simp only[CV,not_or]at hq;by_cases b2:q=r
    ·subst b2;rw[b4];have y:j≠i:=λe0=>hq.1 (by rw[e0])
     simp only[aT];rw[CS y];refine⟨(e5 q i hq.2).1,?_⟩;simp only[if_true,if_neg (CT y)];exact (e5 q i hq.2).2
    ·rw[(a3 q).2.2 b2];refine⟨(e5 q i hq.2).1,?_⟩;show (if q=r then _ else W1.bs q i)=_;rw[if_neg b2];exact (e5 q i hq.2).2
   ·rcases R with R|R|⟨b,hb,R⟩|⟨q,i,l',J,I,M⟩
    ·exact .inl (.inl (by rw[<- e3];exact R))
    ·exact .inl (.inr (.inl R))
    ·refine (e6 k (.inr (.inr (.inl ⟨b,?_,R⟩)))).imp id λ⟨i,l',J,I,M⟩=>⟨i+1,l',by simpa using J,I,M⟩
     exact (iC (λq=>(a3 q).1) b).1 hb
    ·by_cases hq:q=r
     ·subst hq;rw[b4]at J;simp only[if_true]at M;by_cases y:i=j
      ·subst y;simp only[if_true]at M;exact .inr ⟨0,_,rfl,trivial,M⟩
      ·simp only[if_neg y]at M;exact (e6 k (.inr (.inr (.inr ⟨q,i,l',H i l' y J,I,M⟩)))).imp id λ⟨i,l',J,I,M⟩=>⟨i+1,l',by simpa using J,I,M⟩
     ·rw[(a3 q).2.2 hq]at J;simp only[if_neg hq]at M;exact (e6 k (.inr (.inr (.inr ⟨q,i,l',J,I,M⟩)))).imp id λ⟨i,l',J,I,M⟩=>⟨i+1,l',by simpa using J,I,M⟩
end
def PK.isIop:PK->Bool
 |.iop _=>true
 |_=>false
section
variable {P:Program} {V:Env} {Γ:List Ctr} {st st':St} {w w':World} {a:Act}
theorem kW:∀ {a b:List (Nat×Nat)},aZ (a++b)=true->aZ a=true/\aZ b=true/\∀ x∈a,x∉b
 |[],b,h=>⟨rfl,h,by simp⟩
 |x::a,b,h=>by
  obtain⟨u,O⟩:=jX h;obtain⟨R,I,X⟩:=kW O;refine⟨?_,I,λy r z=>?_⟩
  ·simp only[aZ,BF,B4,CB];refine⟨λy r J=>u (BM _ ?_),R⟩;obtain⟨M,H⟩:x.1=y.1/\x.2=y.2:=by simpa using J
   rw[show x=y from Di M H];exact r
  ·rcases CV.1 r with rfl|r
   ·exact u (BH _ z)
   ·exact X y r z
theorem km {p:Bool}:∀ (b:Ty) (ls:List Leaf) (t:cI b.den),take st b ls=some t->∀ (y:b.den) (i r j n:Nat) (l:Leaf),ls[i]?=some (.al r j n)->(ap p b y)[i]?=some l->am l->(st r).ver=n
 |.pair b c,ls,t,h,y,i,r,j,n,l,J,z,I=>by
  simp only[take]at h;split at h
  ·rename_i u M;split at h
   ·rename_i v O;simp only[ap]at z;have R:=cG p b y.1;by_cases hi:i<b.cells
    ·rw[BK (by omega)]at z;exact km b ls u M y.1 i r j n l J z I
    ·rw[BJ (by omega),R]at z;have X:=take_rest b ls u M;refine km c u.rest v O y.2 (i-b.cells) r j n l ?_ z I;rw[X,CW,show b.cells+(i-b.cells)=i by omega];exact J
   ·cases h
  ·cases h
 |.list m E e,ls,t,h,y,i,r,j,n,l,J,z,I=>by
  cases m with
  |false =>
   cases i with
   |zero=>simp[ap]at z;subst z;exact I.elim
   |succ i=>simp[ap]at z
  |true =>
   cases i with
   |succ i=>simp[ap]at z
   |zero =>
    cases ls with
    |nil=>simp at J
    |cons l' ls =>
     simp only[CX,BD]at J;subst J;simp only[take,cond_true]at h;split at h
     ·rename_i Y;exact (fg Y (by simp)).1
     ·cases h
 |.int k,ls,t,h,y,i,r,j,n,l,J,z,I=>by
  cases i with
  |zero=>simp[ap]at z;subst z;exact I.elim
  |succ i=>simp[ap]at z
 |.bool,ls,t,h,y,i,r,j,n,l,J,z,I=>by
  cases i with
  |zero=>simp[ap]at z;subst z;exact I.elim
  |succ i=>simp[ap]at z
 |.str,ls,t,h,y,i,r,j,n,l,J,z,I=>by
  cases i with
  |zero=>simp[ap]at z;subst z;exact I.elim
  |succ i=>simp[ap]at z
 |.hdr,ls,t,h,y,i,r,j,n,l,J,z,I=>by
  cases i with
  |zero=>simp[ap]at z;subst z;exact I.elim
  |succ i=>simp[ap]at z
 |.unit,ls,t,h,y,i,r,j,n,l,J,z,I=>by simp[ap]at z
where
 take_rest:∀ (b:Ty) (ls:List Leaf) (t:cI b.den),take st b ls=some t->t.rest=ls.drop b.cells
  |.pair b c,ls,t,h=>by
   simp only[take]at h;split at h
   ·rename_i u M;split at h
    ·rename_i v O;simp only[BD]at h;subst h;show v.rest=_;rw[take_rest c u.rest v O,take_rest b ls u M,List.drop_drop];rfl
    ·cases h
   ·cases h
  |.unit,ls,t,h=>by
   simp only[take,BD]at h;subst h;rfl
  |.list m E e,ls,t,h=>by
   cases ls with
   |nil=>simp[take]at h
   |cons l ls =>
    cases m with
    |false =>
     simp only[take,cond_false]at h;split at h
     ·simp only[BD]at h;subst h;rfl
     ·cases h
    |true =>
     simp only[take,cond_true]at h;split at h
     ·split at h
      ·simp only[BE]at h;obtain⟨xs,_,rfl⟩:=h;rfl
      ·cases h
     ·simp only[BD]at h;subst h;rfl
     ·cases h
  |.int k,ls,t,h=>sc (b:=.int k) h vi rfl
  |.bool,ls,t,h=>sc (b:=.bool) h tE rfl
  |.str,ls,t,h=>sc (b:=.str) h vj rfl
  |.hdr,ls,t,h=>sc (b:=.hdr) h vk rfl
 sc {b:Ty} {ls:List Leaf} {t:cI b.den} (h:(a8 st b ls).map (λx=>(⟨false,x.2.1,[],[],x.2.2⟩:cI b.den))=some t)
   (H:∀ {ls:List Leaf} {x:Bool×b.den×List Leaf},a8 st b ls=some x->∃ l,ls=l::x.2.2) (J:b.cells=1):t.rest=ls.drop b.cells:=by
  simp only[BE]at h;obtain⟨x,Z,rfl⟩:=h;obtain⟨l,rfl⟩:=H Z;rw[J];rfl
theorem ww {agg:Bool}{v:Value}{y z:List Value}(u:de agg v y)(r:de agg v z):y=z:=by
 unfold de at u r;cases agg with
 |true =>
  simp only[if_true]at u r;rw[u]at r;simpa using r
 |false =>
  simp only[Bool.false_eq_true,if_false]at u r;rw[u,r]
theorem qJ (hV:ay V){W0 W:Wit}{S0 S:St}{w0:World}{G:Nat->Prop}{p:Bool}(a3:W.cs=W0.cs)(hG:∀ k,G k->gd V W p k)(h:an P V W S a w) :
  ∀ (ps:List PK) (xs:List (aI×List Leaf)) (vs:List Value) (g:Got (ab ps)) (o:ah ps) (y:List (List Nat)),gT P V W0 S0 w0 xs vs->bc (b8 Γ S0) ps xs=some g->ps.any PK.isIop=false ->
  bK w G ps o vs y->aZ g.kill=true->(∀ x∈g.kill,x.1≠EPO)->(∀ x∈g.kill,∀ l,(S x.1).ls[x.2]?=some l->¬ am l)->(∀ k∈y.flatten,¬ ca V W S k)->y.flatten.Nodup ->
  ∃ W',an P V W' (ac (aG S p ps xs o) S) a w/\W'.cs=W.cs/\W'.β=W.β/\W'.nw=W.nw/\(∀ q,(ac (aG S p ps xs o) S q).sh=(S q).sh/\(S q).ver<=(ac (aG S p ps xs o) S q).ver) /\
   (∀ q i,(q,i)∉g.kill->(ac (aG S p ps xs o) S q).ls[i]?=(S q).ls[i]?/\W'.bs q i=W.bs q i)/\(∀ k,ca V W' (ac (aG S p ps xs o) S) k->ca V W S k\/k∈y.flatten)
 |[],xs,vs,g,o,y,_,_,_,_,_,_,_,_,_=>⟨W,h,rfl,rfl,rfl,λ_=>⟨rfl,BX _⟩,λ_ _ _=>⟨rfl,rfl⟩,λk R=>.inl R⟩
 |pk::ps,[],vs,g,o,y,_,hg,_,_,_,_,_,_,_=>by simp[bc]at hg
 |pk::ps,x::xs,vs,g,o,y,hx,hg,hp,ho,hd,a5,a6,O,a0=>by
  obtain⟨v,a4,cs,rfl,hs,hl,a1⟩:=hx;simp only[bc]at hg;split at hg
  ·rename_i g1 a2;split at hg
   ·rename_i g2 b1;simp only[BD]at hg;subst hg;simp only[Cd,C7]at hp;obtain⟨b9,b2,b5⟩:=kW hd;have I:∀ (o':ah ps) (b:List Nat) (M:List (List Nat)),y=b::M->b=[]->bK w G ps o' a4 M->aG S p (pk::ps) (x::xs) o=aG S p ps xs o' ->
      ∃ W',an P V W' (ac (aG S p (pk::ps) (x::xs) o) S) a w/\W'.cs=W.cs/\W'.β=W.β/\W'.nw=W.nw/\(∀ q,(ac (aG S p (pk::ps) (x::xs) o) S q).sh=(S q).sh/\(S q).ver<=(ac (aG S p (pk::ps) (x::xs) o) S q).ver) /\
       (∀ q i,(q,i)∉g1.kill++g2.kill->(ac (aG S p (pk::ps) (x::xs) o) S q).ls[i]?=(S q).ls[i]?/\W'.bs q i=W.bs q i)/\(∀ k,ca V W' (ac (aG S p (pk::ps) (x::xs) o) S) k->ca V W S k\/k∈y.flatten):=by
     intro o' b M e1 e2 bb e3;subst e1;subst e2;rw[e3];obtain⟨W1,f1,f2,f3,f4,f5,f6,f7⟩:=qJ hV a3 hG h ps xs a4 g2 o' M a1 b1 hp.2 bb b2 (λz Z=>a5 z (BH _ Z)) (λz Z=>a6 z (BH _ Z)) (λk R=>O k (by simpa using R)) (by simpa using a0);exact⟨W1,f1,f2,f3,f4,f5,λq i hq=>f6 q i (λhm=>hq (BH _ hm)),λk R=>(f7 k R).imp id (λhm=>by simpa using hm)⟩
    cases pk with
    |io b =>
     match y,ho with
     |Y::M,⟨H,J⟩ =>
      simp only[B3]at a0 O;rw[CK]at a0;obtain⟨W1,f1,f2,f3,f4,f5,f6,f7⟩:=qJ hV a3 hG h ps xs a4 g2 o.2 M a1 b1 hp.2 J b2 (λz Z=>a5 z (BH _ Z)) (λz Z=>a6 z (BH _ Z)) (λk R=>O k (BH _ R)) a0.2.1;simp only[b8,bg]at a2;cases hb:decide (x.1=bi b.isAgg) with
      |false=>simp[hb]at a2
      |true =>
       rw[hb]at a2;simp only[cond_true,BE]at a2;obtain⟨t,ht,rfl⟩:=a2;rw[of_decide_eq_true hb]at hs;unfold jA at H;rw[if_neg (by simp)]at H;obtain⟨b0,ba,hm⟩:=H;have:=ww ba (gx hs);subst this;obtain⟨b4,m1,m2,m3,m4⟩:=iM (P:=P) (V:=V) (W:=W1) (st:=ac (aG S p ps xs o.2) S) (p:=p) (λk R=>by
        rcases hG k R with R|R
        ·exact .inl (by rw[f4];exact R)
        ·exact .inr R) hm a0.1
       unfold cg at ht;split at ht
       ·rename_i p0 x0 f0 k0 b3;simp only[BD]at ht;subst ht;have X:=lk (p:=p) b x.2 _ b3 o.1 [];simp only[B6]at X;have X:eP x.2 (ap p b o.1)=k0:=by
         rw[X];show k0++eP [] []=k0;simp[eP]
        obtain⟨W2,q1,q2,q3,q4,q5,q6,q7⟩:=zP hV f1 x.2 (ap p b o.1) b0 b4 (by rw[X];exact b9) (λz Z=>a5 z (BM _ (by rw[X]at Z;exact Z))) hl.length m1
         (λi r j n l u g3 g4 g5 g6=>by
          have h5:=(hl.at_ i _ u g3 g6).1;rw[f2,a3];exact h5.2 (km b x.2 _ b3 o.1 i r j n l g3 g4 g5))
         (λz Z l ad=>by
          rw[X]at Z;rw[(f6 z.1 z.2 (b5 z Z)).1]at ad;exact a6 z (BM _ Z) l ad)
         m2
         (λi l g3 g4 k R hu=>by
          have a9:=m3 i l g3 g4 k R;rcases f7 k hu with hu|hu
          ·exact O k (BM _ a9) hu
          ·exact a0.2.2 k a9 k hu rfl) m4
        have bl:ac (aG S p (.io b::ps) (x::xs) o) S=ac (b6 (ac (aG S p ps xs o.2) S) x.2 (ap p b o.1)) (ac (aG S p ps xs o.2) S):=bC _ _ _;rw[bl];rw[X]at q6;refine⟨W2,q1,q2.trans f2,q3.trans f3,q4.trans f4,λq=>⟨(q5 q).1.trans (f5 q).1,CL (f5 q).2 (q5 q).2⟩,λq i hq=>?_,λk R=>?_⟩
        ·simp only[BO,not_or]at hq;exact⟨(q6 q i hq.1).1.trans (f6 q i hq.2).1,(q6 q i hq.1).2.trans (f6 q i hq.2).2⟩
        ·rcases q7 k R with R|⟨i,l,g3,g4,g5⟩
         ·exact (f7 k R).imp id (λhm=>BH _ hm)
         ·exact .inr (BM _ (m3 i l g3 g4 k g5))
       ·cases ht
    |iop b=>simp[PK.isIop]at hp
    |rd b =>
     match y,ho with
     |Y::M,⟨H,J⟩=>exact I o Y M rfl H J rfl
    |own b =>
     match y,ho with
     |Y::M,⟨H,J⟩=>exact I o Y M rfl H J rfl
    |rref b =>
     match y,ho with
     |Y::M,⟨H,J⟩=>exact I o Y M rfl H J rfl
    |rref2 b =>
     match y,ho with
     |Y::M,⟨H,J⟩=>exact I o Y M rfl H J rfl
    |fn As B =>
     match y,ho with
     |Y::M,⟨H,J⟩=>exact I o Y M rfl H J rfl
    |clo f b0 =>
     match y,ho with
     |Y::M,⟨H,J⟩=>exact I o Y M rfl H J rfl
    |hol b cc off =>
     match y,ho with
     |Y::M,⟨H,J⟩=>exact I o Y M rfl H J rfl
   ·cases hg
  ·cases hg
end
section
variable {P:Program} {V:Env} {W:Wit} {st:St} {w:World} {a:Act}
theorem ov {G ro:Nat->Prop}{p q:Bool}{ks:List (Nat×Nat×Nat)}{ep:Nat}(hG:∀ k,G k->gd V W p k)(d n:Nat) :
  ∀ (O:List RK) (y:ai O) (us:List Value) (Z:List (List Nat)),
  (O.any RK.isBv=true->(∀ k,G k\/ro k->gd V W q k\/∃ x∈ks,k∈W.bs x.1 x.2.1)/\ep<=(st EPO).ver/\(∀ k∈ks,k.2.2<=(st k.1).ver))->gw w G ro O y us Z->O.all RK.isV=true->Z.flatten.Nodup ->
  (bE d n p q ks ep O y).2=[]/\∃ (cs:List Value) (a1:Nat->List Nat),pw ((bE d n p q ks ep O y).1.map λx=>(x.1,x.2.length)) us cs/\(((bE d n p q ks ep O y).1.map (·.2)).flatten).length=cs.length/\(∀ u∈cs,u.oneCell'=true) /\
   (∀ (j:Nat) (l:Leaf) (u:Value),(((bE d n p q ks ep O y).1.map (·.2)).flatten)[j]?=some l->cs[j]?=some u->aK P V W st w (a1 j) l u) /\
   (∀ (j:Nat) (l:Leaf),(((bE d n p q ks ep O y).1.map (·.2)).flatten)[j]?=some l->am l->∀ k∈a1 j,k∈Z.flatten) /\
   (∀ (j Y:Nat) (l l':Leaf),(((bE d n p q ks ep O y).1.map (·.2)).flatten)[j]?=some l->am l->(((bE d n p q ks ep O y).1.map (·.2)).flatten)[Y]?=some l'->am l'->∀ k,k∈a1 j->k∈a1 Y->j=Y)
 |[],y,us,Z,_,⟨e1,e2⟩,_,_=>by
  subst e1;subst e2;exact⟨rfl,[],λ_=>[],⟨rfl,rfl⟩,rfl,by simp,λj l u h1 h2=>by simp at h2,λj l h1 h2 k J=>by simp at J,λj Y l l' _ _ _ _ k J=>by simp at J⟩
 |r::O,y,us,Z,hB,⟨u0,ad,b,a5,e1,e2,hr,a4⟩,hv,a0=>by
  subst e1;subst e2;simp only[DB,BF]at hv;rw[B3,CK]at a0;obtain⟨f0,a6,d2,f1,f2,b5,f3,f4,f5⟩:=ov (ks:=ks) (q:=q) (ep:=ep) hG d n O y.2 ad a5 (λhb=>hB (by simp[hb])) a4 hv.2 a0.2.1;obtain⟨agg,L,I,d1,g0,ba,g1,g2,b9,g3,g4,g5⟩:∃ (agg:Bool) (L:List Leaf) (I:List Value) (d1:Nat->List Nat),(pq d n p q ks ep r y.1).1=(agg,L)/\(pq d n p q ks ep r y.1).2=[]/\de agg u0 I/\L.length=I.length/\(∀ u∈I,u.oneCell'=true) /\
    (∀ (j:Nat) (l:Leaf) (u:Value),L[j]?=some l->I[j]?=some u->aK P V W st w (d1 j) l u)/\(∀ (j:Nat) (l:Leaf),L[j]?=some l->am l->∀ k∈d1 j,k∈b) /\
    (∀ (j Y:Nat) (l l':Leaf),L[j]?=some l->am l->L[Y]?=some l'->am l'->∀ k,k∈d1 j->k∈d1 Y->j=Y):=by
   cases r with
   |v c =>
    obtain⟨I,h1,h2⟩:=hr;obtain⟨d1,m1,m2,m3,m4⟩:=iM (P:=P) (V:=V) (W:=W) (st:=st) (p:=p) hG h2 a0.1;exact⟨c.isAgg,_,I,d1,rfl,rfl,h1,m1,h2.one,m2,m3,m4⟩
   |bv c =>
    obtain⟨_,I,h1,h2⟩:=hr;obtain⟨b0,b3,b2⟩:=hB (by simp[RK.isBv]);have h3:=ka (P:=P) (V:=V) (W:=W) (st:=st) (p:=q) b3 b2 (h2.mono b0);exact⟨c.isAgg,_,I,λ_=>[],rfl,rfl,h1,h3.length,h2.one,λj l u g1 g2=>(h3.at_ j l u g1 g2).1,λj l _ _ k J=>by simp at J,λj Y l l' _ _ _ _ k J=>by simp at J⟩
   |box c=>simp[RK.isV]at hv
  have b1:(bE d n p q ks ep (r::O) y).1=(agg,L)::(bE d n p q ks ep O y.2).1:=by simp only[bE,g0]
  have b4:(bE d n p q ks ep (r::O) y).2=[]:=by simp only[bE,ba,f0,B6]
  rw[b1];simp only[Dh,B3];have H:∀ (j:Nat) (l:Leaf),(L++((bE d n p q ks ep O y.2).1.map (·.2)).flatten)[j]?=some l->(j<L.length/\L[j]?=some l)\/(L.length<=j/\(((bE d n p q ks ep O y.2).1.map (·.2)).flatten)[j-L.length]?=some l):=by
   intro j l z;by_cases M:j<L.length
   ·rw[BK M]at z;exact .inl ⟨M,z⟩
   ·rw[BJ (by omega)]at z;exact .inr ⟨by omega,z⟩
  refine⟨b4,I++a6,λj=>if j<L.length then d1 j else d2 (j-L.length),⟨u0,ad,I,a6,rfl,rfl,g2.symm,g1,f1⟩,by rw[BV,BV,g2,f2],λu hu=>(BO.1 hu).elim (b9 u) (b5 u),λj l u z hu=>?_,λj l z ho k J=>?_,λj Y l l' z ho X a2 k J R=>?_⟩
  ·rcases H j l z with ⟨M,z⟩|⟨a9,z⟩
   ·rw[BK (by omega)]at hu;simp only[if_pos M];exact g3 j l u z hu
   ·rw[BJ (by omega),<- g2]at hu;simp only[if_neg (show ¬ j<L.length by omega)];exact f3 _ l u z hu
  ·rcases H j l z with ⟨M,z⟩|⟨a9,z⟩
   ·simp only[if_pos M]at J;exact BM _ (g4 j l z ho k J)
   ·simp only[if_neg (show ¬ j<L.length by omega)]at J;exact BH _ (f4 _ l z ho k J)
  ·rcases H j l z with ⟨M,z⟩|⟨a9,z⟩ <;> rcases H Y l' X with ⟨a3,X⟩|⟨bb,X⟩
   ·simp only[if_pos M]at J;simp only[if_pos a3]at R;exact g5 j Y l l' z ho X a2 k J R
   ·simp only[if_pos M]at J;simp only[if_neg (show ¬ Y<L.length by omega)]at R;exact absurd rfl (a0.2.2 k (g4 j l z ho k J) k (f4 _ l' X a2 k R))
   ·simp only[if_neg (show ¬ j<L.length by omega)]at J;simp only[if_pos a3]at R;exact absurd rfl (a0.2.2 k (g4 Y l' X a2 k R) k (f4 _ l z ho k J))
   ·simp only[if_neg (show ¬ j<L.length by omega)]at J;simp only[if_neg (show ¬ Y<L.length by omega)]at R;have:=f5 _ _ l l' z ho X a2 k J R;omega
theorem Bq {l:List (Bool×List Leaf)}{us cs:List Value}{v:Value}(n:Nat)(h:pw (l.map λx=>(x.1,x.2.length)) us cs)(y:sk us v) :
  ee (eS n l).sh v cs/\(eS n l).ls=(l.map (·.2)).flatten/\(eS n l).ver=n:=by
 match l,us,h with
 |[],_,⟨H,z⟩ =>
  subst H;subst z;exact⟨⟨[],y,rfl,rfl⟩,rfl,rfl⟩
 |[(agg,L)],_,⟨u,r,c,Z,H,z,h1,X,Y,R⟩ =>
  subst H;subst z;subst Y;subst R;have y:v=u:=y;subst y;refine⟨?_,by simp[eS],rfl⟩;simp only[eS,B6];exact kk X
 |x::x'::l,us,h =>
  refine⟨?_,rfl,rfl⟩;have I:∃ u M r,us=u::M::r:=by
   obtain⟨u,r,_,_,H,_,_,_,O,J,_,_,z,_⟩:=h;exact⟨u,O,J,by rw[H,z]⟩
  obtain⟨u,M,r,rfl⟩:=I;exact⟨_,y,h⟩
end
section
variable {P:Program} {V:Env} {Γ:List Ctr} {st:St} {w:World} {a:Act}
theorem zo {pk:PK}{x:aI×List Leaf}{g:Got pk.den}(r:b8 Γ st pk x=some g)(Y:pk.isIop=false):g.lend=[]:=by
 cases pk with
 |iop b=>simp[PK.isIop]at Y
 |rd b =>
  simp only[b8,bg]at r;cases u:decide (x.1=bi b.isAgg) with
  |false=>simp[u]at r
  |true=>rw[u]at r;simp only[cond_true,BE]at r;obtain⟨y,_,rfl⟩:=r;rfl
 |own b =>
  simp only[b8,bg]at r;cases u:decide (x.1=bi b.isAgg) with
  |false=>simp[u]at r
  |true=>rw[u]at r;simp only[cond_true,BE]at r;obtain⟨y,_,rfl⟩:=r;rfl
 |io b =>
  simp only[b8,bg]at r;cases u:decide (x.1=bi b.isAgg) with
  |false=>simp[u]at r
  |true=>rw[u]at r;simp only[cond_true,BE]at r;obtain⟨y,_,rfl⟩:=r;rfl
 |rref b=>exact cap (c:=(false,b)) r
 |rref2 b=>exact cap (c:=(true,b)) r
 |fn R B =>
  simp only[b8]at r;split at r
  ·unfold kJ at r;split at r
   ·unfold rZ at r;split at r
    ·rename_i c _ hh;cases u:(c.ps.drop R.length).all PK.reads&&B.flat&&c.fresh with
     |false=>rw[u]at r;cases r
     |true =>
      rw[u]at r;simp only[cond_true]at r;split at r
      ·simp only[BD]at r;subst r;rfl
      ·cases r
    ·cases r
   ·cases r
  ·simp only[bg]at r;split at r
   ·split at r
    ·simp only[BD]at r;subst r;rfl
    ·cases r
   ·cases r
 |hol b Z off =>
  simp only[b8,bg]at r;cases u:decide (x.1=bi b.isAgg) with
  |false=>simp[u]at r
  |true =>
   rw[u]at r;simp only[cond_true]at r;split at r
   ·split at r
    ·rename_i X _ _ _ _;cases H:BU X off with
     |false=>simp[H]at r
     |true =>
      rw[H]at r;simp only[cond_true]at r;split at r
      ·split at r
       ·simp only[BD]at r;subst r;rfl
       ·cases r
      ·cases r
    ·cases r
   ·cases r
 |clo f I =>
  simp only[b8,bg]at r;split at r
  ·rename_i J z _;cases u:BU J f with
   |false=>simp[u]at r
   |true=>rw[u]at r;exact caps_ r
  ·rename_i J z _;cases u:BU J f with
   |false=>simp[u]at r
   |true=>rw[u]at r;exact caps_ r
  ·cases r
where
 cap {c:Bool×Ty} {l:Leaf} {g:Got c.2.den} (r:fq st c l=some g):g.lend=[]:=by
  unfold fq at r;cases O:c.1 with
  |true =>
   rw[O]at r;simp only[cond_true]at r;split at r
   ·split at r
    ·simp only[BE]at r;obtain⟨y,_,rfl⟩:=r;rfl
    ·cases r
   ·cases r
  |false =>
   rw[O]at r;simp only[cond_false]at r;split at r
   ·simp only[BE]at r;obtain⟨y,_,rfl⟩:=r;rfl
   ·cases r
 caps_:∀ {I:List (Bool×Ty)} {M:List Leaf} {g:Got (lU I)},cr st I M=some g->g.lend=[]
  |[],[],g,r=>by simp only[cr,BD]at r;subst r;rfl
  |[],_::_,_,r=>by simp[cr]at r
  |_::_,[],_,r=>by simp[cr]at r
  |c::I,l::M,g,r=>by
   simp only[cr]at r;split at r
   ·split at r
    ·simp only[BD]at r;subst r;rfl
    ·cases r
   ·cases r
theorem tF:∀ (ps:List PK) (xs:List (aI×List Leaf)) (g:Got (ab ps)),bc (b8 Γ st) ps xs=some g->g.lend=[]->ps.any PK.isIop=false
 |[],_,_,_,_=>rfl
 |_::_,[],_,u,_=>by simp[bc]at u
 |I::ps,x::xs,g,u,y=>by
  simp only[bc]at u;split at u
  ·rename_i M r;split at u
   ·rename_i J z;simp only[BD]at u;subst u;simp only[List.append_eq_nil_iff]at y;rw[Cd,tF ps xs J z y.2,Bool.or_false];cases I with
    |iop b =>
     simp only[b8,bg]at r;split at r
     ·rename_i q _;cases H:decide ((st q).sh=.agg) with
      |false=>simp[H]at r
      |true =>
       rw[H]at r;simp only[cond_true,BE]at r;obtain⟨t,_,rfl⟩:=r;simp at y
     ·cases r
    |_=>rfl
   ·cases u
  ·cases u
theorem o9 {W0:Wit}{S0 S:St}{w0:World}{a0:Act}(h0:an P V W0 S0 a0 w0){G:Nat->Prop}{p:Bool} :
  ∀ (ps:List PK) (xs:List (aI×List Leaf)) (vs:List Value) (g:Got (ab ps)) (o:ah ps) (r:List (List Nat)),gT P V W0 S0 w0 xs vs->bc (b8 Γ S0) ps xs=some g->ps.any PK.isIo=false->bK w G ps o vs r ->
  (g.lend=[]->aG S p ps xs o=[]/\r.flatten=[]) /\
  (∀ b,g.lend=[b]->∃ (c:Ty) (y:c.den) (cs:List Value) (E:TypeId) (b0:List Nat),aG S p ps xs o=[(b,⟨(S b).ver+2,.agg,ap p c y⟩)]/\w.heap[W0.β b]?=some (.cells cs.toArray E (0,0))/\Mx w G c none 0 y cs b0/\r.flatten=W0.β b::b0/\(S0 b).ls.length=c.cells)
 |[],[],vs,g,o,r,hx,O,_,X=>by
  simp only[bc,BD]at O;subst O;refine⟨λ_=>⟨rfl,?_⟩,λb hb=>by simp at hb⟩
  match vs,r,X with
  |[],[],_=>rfl
 |[],_::_,_,_,_,_,_,O,_,_=>by simp[bc]at O
 |_::_,[],_,_,_,_,_,O,_,_=>by simp[bc]at O
 |pk::ps,x::xs,vs,g,o,r,hx,O,hn,X=>by
  obtain⟨v,a1,cs,rfl,hs,hl,R⟩:=hx;simp only[bc]at O;split at O
  ·rename_i g1 J;split at O
   ·rename_i g2 a2;simp only[BD]at O;subst O;simp only[Cd,C7]at hn;have z:∀ (o':ah ps) (b:List Nat) (I:List (List Nat)),pk.isIop=false->r=b::I->b=[]->bK w G ps o' a1 I->aG S p (pk::ps) (x::xs) o=aG S p ps xs o' ->
      (g1.lend++g2.lend=[]->aG S p (pk::ps) (x::xs) o=[]/\r.flatten=[]) /\
      (∀ b,g1.lend++g2.lend=[b]->∃ (c:Ty) (y:c.den) (cs:List Value) (E:TypeId) (b0:List Nat),aG S p (pk::ps) (x::xs) o=[(b,⟨(S b).ver+2,.agg,ap p c y⟩)]/\w.heap[W0.β b]?=some (.cells cs.toArray E (0,0))/\Mx w G c none 0 y cs b0/\r.flatten=W0.β b::b0/\(S0 b).ls.length=c.cells):=by
     intro o' b I hi e1 e2 a6 e3;subst e1;subst e2;rw[e3,zo J hi];simpa using o9 h0 (S:=S) (p:=p) ps xs a1 g2 o' I R a2 hn.2 a6
    cases pk with
    |iop b =>
     match r,X with
     |M::I,⟨u,H⟩ =>
      obtain⟨r1,r2⟩:=o9 h0 (S:=S) (p:=p) ps xs a1 g2 o.2 I R a2 hn.2 H;simp only[b8,bg]at J;split at J
      ·rename_i q hq;cases hb:decide ((S0 q).sh=.agg) with
       |false=>simp[hb]at J
       |true =>
        rw[hb]at J;simp only[cond_true,BE]at J;obtain⟨t,ht,rfl⟩:=J;refine⟨λhb=>by simp at hb,λb' Y=>?_⟩;simp only[Cy,Cg]at Y;obtain⟨rfl,Y⟩:=Y;obtain⟨r3,r4⟩:=r1 Y;obtain⟨a5,_⟩:=gP hs hl hq (by simp);unfold jA at u;rw[if_pos rfl]at u;obtain⟨g',a3,E,b0,hv,Z,hm,rfl⟩:=u;have a4:g'=W0.β q:=by
         have h9:=a5.2.2;rw[hv]at h9;simp only[Value.pointer.injEq,BD,Cn,and_true]at h9;exact h9
        subst a4;refine⟨b,o.1,a3,E,b0,?_,Z,hm,by rw[B3,r4,B6],?_⟩
        rotate_left
        ·rw[h0.len];exact (dM (pos:=0) h0 (iA h0 q) ht).1.len
        simp only[aG,r3,hq,B6];rfl
      ·cases J
    |io b=>simp[PK.isIo]at hn
    |rd b =>
     match r,X with
     |M::I,⟨u,H⟩=>exact z o M I rfl rfl u H rfl
    |own b =>
     match r,X with
     |M::I,⟨u,H⟩=>exact z o M I rfl rfl u H rfl
    |rref b =>
     match r,X with
     |M::I,⟨u,H⟩=>exact z o M I rfl rfl u H rfl
    |rref2 b =>
     match r,X with
     |M::I,⟨u,H⟩=>exact z o M I rfl rfl u H rfl
    |fn As B =>
     match r,X with
     |M::I,⟨u,H⟩=>exact z o M I rfl rfl u H rfl
    |clo f a3 =>
     match r,X with
     |M::I,⟨u,H⟩=>exact z o M I rfl rfl u H rfl
    |hol b cc off =>
     match r,X with
     |M::I,⟨u,H⟩=>exact z o M I rfl rfl u H rfl
   ·cases O
  ·cases O
end
section
variable {P:Program} {V:Env}
theorem wz (hV:ay V){W:Wit}{S:St}{a:Act}{w:World}(h:an P V W S a w){M:List RK}{y:ai M}{us:List Value}{Y:List (List Nat)}{v:Value}{p q:Bool}{ks:List (Nat×Nat×Nat)}{ep:Nat}{G ro:Nat->Prop}
  (Z:gw w G ro M y us Y) (hG:∀ k,G k->gd V W p k)
  (hB:M.any RK.isBv=true->(∀ k,G k\/ro k->gd V W q k\/∃ x∈ks,k∈W.bs x.1 x.2.1)/\ep<=(S EPO).ver/\(∀ k∈ks,k.2.2<=(S k.1).ver))
  (H:∀ k∈Y.flatten,¬ ca V W S k) (a4:Y.flatten.Nodup) (J:sk us v) {d:Nat} (hd:d<V.nt) (a0:∀ x∈V.fixt,x.1≠d) (r:gD S d M=true) :
  ∃ W1,an P V W1 (ac ((d,eS ((ac (bE d (S (B0+d)).ver p q ks ep M y).2 S d).ver+1) (bE d (S (B0+d)).ver p q ks ep M y).1)::(bE d (S (B0+d)).ver p q ks ep M y).2) S) (a.put (some d) v) w /\
   ∀ z,z≠d->z≠B0+d->W1.cs z=W.cs z:=by
 cases hv:M.all RK.isV with
 |true =>
  obtain⟨m0,cs,a1,m1,m2,m3,m4,m5,m6⟩:=ov (P:=P) (W:=W) (st:=S) (p:=p) (q:=q) (ks:=ks) (ep:=ep) hG d (S (B0+d)).ver M y us Y hB Z hv a4;rw[m0];obtain⟨s1,s2,s3⟩:=Bq ((S d).ver+1) m1 J;show ∃ W1,an P V W1 (ac [(d,eS ((S d).ver+1) (bE d (S (B0+d)).ver p q ks ep M y).1)] S) (a.put (some d) v) w/\_;generalize eS ((S d).ver+1) (bE d (S (B0+d)).ver p q ks ep M y).1=rc at s1 s2 s3 ⊢;obtain⟨v0,a9,bb⟩:=rc;simp only at s1 s2 s3;subst s3;subst s2;have a5:=h.put hV d hd a0 ((S d).ver+1) a9 _ v cs a1 (BP _) s1 m2 m3 m4
   (λj l R ho k X=>by
    have a6:=m5 j l R ho k X;have I:=H k a6;simp only[ca,not_or,not_exists,not_and]at I;exact⟨I.1,I.2.1,I.2.2.1,λr1 j1 l1 _ h8 h9=>I.2.2.2 r1 j1 l1 h8 h9⟩) m6
  refine⟨_,a5,λz hz _=>?_⟩;show (if z=d then cs else W.cs z)=_;rw[if_neg hz]
 |false =>
  have hb:∃ b,M=[.box b]:=by
   unfold gD at r;split at r
   ·exact⟨_,rfl⟩
   ·rw[hv]at r;cases r
  obtain⟨b,rfl⟩:=hb;obtain⟨u0,bl,rb,ba,e1,e2,⟨g',cs,E,b0,ad,b5,hm,b4⟩,e3,e4⟩:=Z;subst e3;subst e4;subst e1;subst e2;subst b4;have J:v=u0:=J;subst J;subst ad;have a2:(S (B0+d)).sh=.off:=by simpa[gD]using r
  have O:(g'::b0).Nodup:=by simpa using a4
  rw[CO]at O;obtain⟨a1,m1,m2,m3,m4⟩:=iM (P:=P) (V:=V) (W:=W) (st:=S) (p:=p) hG hm O.2;have a3:d≠B0+d:=by simp[B0]
  have b1:=H g' (by simp);have b2:=h.setBoxG hV (B0+d) (Cc _ _) ((S (B0+d)).ver+1) (ap p b y.1) cs a1 g' E (w':=w) (BP _)
   (.inr ⟨by simp[live,a2],b1,λj l R ho k X e0=>O.1 (by rw[<- e0];exact m3 j l R ho k X)⟩) b5 (λ_ _ _=>rfl) (λ_ _ _ _ _ _ _=>rfl) (BX _) rfl rfl rfl m1 hm.one m2
   (λj l R ho k X=>by
    have I:=H k (by simp;exact .inr (m3 j l R ho k X));simp only[ca,not_or,not_exists,not_and]at I;exact⟨I.1,I.2.1,I.2.2.1,λr1 j1 l1 _ h8 h9=>I.2.2.2 r1 j1 l1 h8 h9⟩) m4
  have b3:=b2.put hV d hd a0 ((S d).ver+1) .one [.bp (B0+d) 0] (.pointer (some ⟨g',0,none⟩)) [.pointer (some ⟨g',0,none⟩)] (λ_=>[]) (by rw[aJ a3];exact BP _) rfl rfl (λu I=>by simp at I;subst I;rfl)
   (λj l u R g9=>by
    cases j with
    |zero=>simp at R g9;subst R;subst g9;exact⟨Cc _ _,by rw[bk],by simp⟩
    |succ j=>simp at R)
   (λj l R ho k X=>by simp at X) (λj j' l l' _ _ _ _ k X=>by simp at X)
  have e1:ac (bE d (S (B0+d)).ver p q ks ep [.box b] y).2 S=ac [(B0+d,⟨(S (B0+d)).ver+1,.agg,ap p b y.1⟩)] S:=rfl;rw[aP,e1,aJ a3];refine⟨_,b3,λz hz b9=>?_⟩;show (if z=d then _ else (if z=B0+d then _ else W.cs z))=_;rw[if_neg hz,if_neg b9]
theorem uH (r:Nat)(c u:bQ)(S:St):ac [(r,c)] (ac [(r,u)] S)=ac [(r,c)] S:=by
 funext q;rcases aj r q c (ac [(r,u)] S) with ⟨rfl,e⟩|⟨h,e⟩
 ·rw[e,bk]
 ·rw[e,aJ h,aJ h]
theorem zp (hV:ay V){W:Wit}{S:St}{a:Act}{w w':World}(h:an P V W S a w){b:Nat}(hb:live S b){N:Nat->Prop}{cs:List Value}{E:TypeId}{c:Ty}{y:c.den}{b0:List Nat}{G:Nat->Prop}{p:Bool}
  (a1:w'.heap[W.β b]?=some (.cells cs.toArray E (0,0))) (hm:Mx w' G c none 0 y cs b0) (a5:(W.β b::b0).Nodup) (a6:(S b).ls.length=c.cells)
  (a2:∀ k,ca V W S k->k≠W.β b->w'.heap[k]?=w.heap[k]?) (b1:w.heap.size<=w'.heap.size) (ad:w'.os=w.os) (ht:w'.tape=w.tape) (ho:w'.output=w.output)
  (hN:∀ k,N k->k<w'.heap.size/\¬ ca V W S k) (Z:∀ k∈b0,¬ ca V W S k/\¬ N k) (hG:∀ k,G k->gd V { W with nw:=λk=>W.nw k\/N k } p k) :
  ∃ W1,an P V W1 (ac [(b,⟨(S b).ver+2,.agg,ap p c y⟩)] S) a w'/\W1.β=W.β/\(∀ k,W1.nw k<->W.nw k\/N k)/\(∀ q,q≠b->W1.cs q=W.cs q)/\(∀ q i,q≠b->W1.bs q i=W.bs q i) /\
   (∀ k,ca V W1 (ac [(b,⟨(S b).ver+2,.agg,ap p c y⟩)] S) k->ca V W S k\/N k\/k∈b0):=by
 have J:∀ (q:Nat),(if q=b then W.β b else W.β q)=W.β q:=λq=>by split <;> simp_all
 have h1:=h.setBoxG hV b hb.1 ((S b).ver+1) (CM cs.length .dead) cs (λ_=>[]) (W.β b) E (w':=w') (BP _) (.inl ⟨hb,rfl⟩) a1 a2 (λ_ _ _ _ k H=>by simp at H) b1 ad ht ho (by simp) hm.one
  (λj l u I R=>by
   rw[CY]at I;split at I
   ·simp at I;subst I;trivial
   ·cases I)
  (λj l I R k H=>by simp at H) (λj j' l l' _ _ _ _ k H=>by simp at H)
 have a0:∀ (j:Nat) (l:Leaf),(CM cs.length Leaf.dead)[j]?=some l->¬ am l:=by
  intro j l I;rw[CY]at I;split at I
  ·simp at I;subst I;exact id
  ·cases I
 have a3:∀ z,live (ac [(b,⟨(S b).ver+1,.agg,CM cs.length .dead⟩)] S) z->live S z:=by
  intro z Y;rcases aj b z ⟨(S b).ver+1,.agg,CM cs.length .dead⟩ S with ⟨rfl,e⟩|⟨_,e⟩
  ·exact hb
  ·exact⟨Y.1,by rw[<- e];exact Y.2⟩
 have b2:∀ k,ca V { W with β:=λr=>if r=b then W.β b else W.β r,cs:=λr=>if r=b then cs else W.cs r,bs:=λr j=>if r=b then [] else W.bs r j } (ac [(b,⟨(S b).ver+1,.agg,CM cs.length .dead⟩)] S) k->ca V W S k:=by
  rintro k (H|H|⟨z,Y,H⟩|⟨z,i,l,I,R,O⟩)
  ·exact .inl H
  ·exact .inr (.inl H)
  ·exact .inr (.inr (.inl ⟨z,a3 z Y,by rw[<- H];exact (J z).symm⟩))
  ·by_cases M:z=b
   ·subst M;rw[bk]at I;exact absurd R (a0 i l I)
   ·rw[aJ M]at I;simp only[if_neg M]at O;exact .inr (.inr (.inr ⟨z,i,l,I,R,O⟩))
 have h2:=h1.nwGrow hV N (λk H=>⟨(hN k H).1,λhu=>(hN k H).2 (b2 k hu)⟩);rw[CO]at a5;obtain⟨X,m1,m2,m3,m4⟩:=iM (P:=P) (V:=V) (W:={ W with β:=λr=>if r=b then W.β b else W.β r,cs:=λr=>if r=b then cs else W.cs r,bs:=λr j=>if r=b then [] else W.bs r j,nw:=λk=>W.nw k\/N k })
  (st:=ac [(b,⟨(S b).ver+1,.agg,CM cs.length .dead⟩)] S) (p:=p) (λk H=>hG k H) hm a5.2
 have b4:=hm.len;have b3:=cG p c y;have h3:=h2.reown hV b ⟨(S b).ver+2,.agg,ap p c y⟩ X (by rw[bk];exact BP _) (by rw[bk]) (by rw[bk,Cz];omega)
  (λj l v I R=>m2 j l v I (by simpa using R))
  (λj l I R k H=>by
   have a9:=m3 j l I R k H;obtain⟨q1,q2⟩:=Z k a9;refine⟨λhn=>hn.elim (λhn=>q1 (.inl hn)) q2,λhp=>q1 (.inr (.inl hp)),λz Y e0=>q1 (.inr (.inr (.inl ⟨z,a3 z Y,by rw[<- e0];exact (J z).symm⟩))),λr1 j1 l1 a4 O g4 g5=>?_⟩;rw[aJ a4]at O;have g5:k∈(if r1=b then [] else W.bs r1 j1):=g5;rw[if_neg a4]at g5;exact q1 (.inr (.inr (.inr ⟨r1,j1,l1,O,g4,g5⟩)))) m4
 rw[uH]at h3;refine⟨_,h3,funext λq=>J q,λk=>Ck,λq hq=>if_neg hq,λq i hq=>?_,?_⟩
 ·show (if q=b then X i else if q=b then [] else W.bs q i)=_;rw[if_neg hq,if_neg hq]
 ·rintro k ((H|H)|H|⟨z,Y,H⟩|⟨z,i,l,I,R,O⟩)
  ·exact .inl (.inl H)
  ·exact .inr (.inl H)
  ·exact .inl (.inr (.inl H))
  ·refine .inl (.inr (.inr (.inl ⟨z,?_,by rw[<- H];exact (J z).symm⟩)));rcases aj b z ⟨(S b).ver+2,.agg,ap p c y⟩ S with ⟨rfl,e⟩|⟨_,e⟩
   ·exact hb
   ·exact⟨Y.1,by rw[<- e];exact Y.2⟩
  ·by_cases M:z=b
   ·subst M;rw[bk]at I;have O:k∈(if z=z then X i else _):=O;rw[if_pos rfl]at O;exact .inr (.inr (m3 i l I R k O))
   ·rw[aJ M]at I;have O:k∈(if z=b then X i else if z=b then [] else W.bs z i):=O;rw[if_neg M,if_neg M]at O;exact .inl (.inr (.inr (.inr ⟨z,i,l,I,R,O⟩)))
end
section
variable {P:Program} {V:Env} {Γ:List Ctr} {st:St} {R:Type}
theorem gy:∀ (ps:List PK) (xs:List (aI×List Leaf)) (r:Upd->List (aI×List Leaf)->Option (Bool×Nat×Nat)->Option R),kK st ps xs r=(cZ st ps xs).bind λu=>r u.1 u.2.1 u.2.2
 |[],xs,r=>rfl
 |_::_,[],r=>rfl
 |p::ps,x::xs,r=>by
  simp only[kK,cZ];split
  ·rw[hH];cases cj st (x.2.getD _ .dead) <;> rfl
  ·rw[gy ps xs];cases cZ st ps xs <;> rfl
theorem ll {a:Ty}:∀ {ls:List Leaf} {j k:Nat},lA a j ls=some k->j<=k/\∃ l,ls[k-j]?=some l/\jt l=true
 |[],_,_,h=>by simp[lA]at h
 |l::ls,j,k,h=>by
  simp only[lA]at h;cases r:jt l&&pt a j with
  |true =>
   rw[r]at h;simp only[cond_true,BD]at h;subst h;simp only[BF]at r;exact⟨BX _,l,by simp,r.1⟩
  |false =>
   rw[r]at h;obtain⟨H,u,y,z⟩:=ll h;exact⟨by omega,u,by rw[show k-j=(k-(j+1))+1 by omega];simpa using y,z⟩
theorem rz {p:PK}{ls:List Leaf}{k:Nat}(h:p.nest ls=some k):∃ l,ls[k]?=some l/\jt l=true:=by
 cases p with
 |own a=>obtain⟨_,l,u,r⟩:=ll h;exact⟨l,by simpa using u,r⟩
 |io a=>obtain⟨_,l,u,r⟩:=ll h;exact⟨l,by simpa using u,r⟩
 |_=>simp[PK.nest]at h
theorem tG (z:ay V){W W':Wit}{st':St}{w w':World}(u:cA V W W' st st' w w'):∀ {xs:List (aI×List Leaf)} {y:List Value},gT P V W st w xs y->gT P V W' st' w' xs y
 |[],_,h=>h
 |_::_,_,⟨v,r,H,e,J,I,M⟩=>⟨v,r,H,e,J,I.carry z.ro u,tG z u M⟩
theorem aC.setLeaf {W:Wit}{w:World}{ls:List Leaf}{cs:List Value}(u:aC P V W st w ls cs){k:Nat}{l:Leaf}(H:¬ am l)(h:∀ v,cs[k]?=some v->aK P V W st w [] l v):aC P V W st w (aT ls k l) cs:=by
 have r:=u.length;refine aC.mk (by simp[aT,r]) λj I v z y=>?_
 rcases aS _ _ _ _ _ z with ⟨rfl,rfl,M⟩|⟨J,z⟩
 ·exact⟨h v y,H,u.one' v (List.mem_of_getElem? y)⟩
 ·exact u.at_ j I v z y
def Br (W:Wit)(S:St)(w:World):Option (Bool×Nat×Nat)->Prop
 |some (_,r,j)=>∃ v,W.cs TMP=[v]/\tB W S w r j v
 |none=>True
theorem ox (Y:ay V){W:Wit}{a:Act}{w:World}(h:an P V W st a w):∀ (ps:List PK) (xs:List (aI×List Leaf)) (O:List Value) (U:Upd) (Z:List (aI×List Leaf)) (b:Option (Bool×Nat×Nat)),
  gT P V W st w xs O->cZ st ps xs=some (U,Z,b)->∃ H,an P V H (ac U st) a w/\gT P V H (ac U st) w Z O/\H.nw=W.nw/\H.β=W.β/\Br H (ac U st) w b/\cA V W H st (ac U st) w w/\(∀ q,(ac U st q).sh=(st q).sh\/q=TMP) /\
   (∀ f r j,b=some (f,r,j)->f=true->ps.any PK.isIo=true)
 |[],xs,O,U,Z,b,hx,y=>by
  simp only[cZ,BD,CG]at y;obtain⟨rfl,rfl,rfl⟩:=y;exact⟨W,h,hx,rfl,rfl,trivial,cA.refl V W st w,λ_=>.inl rfl,λ_ _ _ h=>by cases h⟩
 |_::_,[],O,U,Z,b,hx,y=>by
  simp only[cZ,BD,CG]at y;obtain⟨rfl,rfl,rfl⟩:=y;exact⟨W,h,hx,rfl,rfl,trivial,cA.refl V W st w,λ_=>.inl rfl,λ_ _ _ h=>by cases h⟩
 |p::ps,x::xs,O,U,Z,b,⟨v,M,cs,e,hs,hl,z⟩,y=>by
  subst e;simp only[cZ]at y;split at y
  ·rename_i k hk;simp only[BE]at y;obtain⟨u,I,y⟩:=y;simp only[CG]at y;obtain⟨rfl,rfl,rfl⟩:=y;obtain⟨l,J,a2⟩:=rz hk;have hg:x.2.getD k .dead=l:=by rw[CI,J];rfl
   rw[hg]at I ⊢;have a1:k<cs.length:=by rw[<- hl.length];exact (BG.1 J).1
   have a0:=BW a1;obtain⟨U,l'⟩:=u;obtain⟨H,n,p0,E0,e0,a3,g1,X,g3,g4,_,_,g5,g6,_,g7,g8,g9⟩:=vh Y h (hl.at_ k l _ J a0).1 I;subst g3;refine⟨H,g1,⟨v,M,cs,rfl,hs,(hl.carry Y.ro X).setLeaf id λu I=>?_,tG Y X z⟩,g5,g6,⟨_,g7,g9⟩,X,g8,λf r j hb hf=>?_⟩
   ·rw[a0]at I;simp only[BD]at I;subst I;exact g4
   ·simp only[BD,CG]at hb;rw[Cd,hb.1,hf];rfl
  ·simp only[BE]at y;obtain⟨u,I,y⟩:=y;simp only[CG]at y;obtain⟨rfl,rfl,rfl⟩:=y;obtain⟨H,g1,X,g3,g4,g5,g6,g7,g8⟩:=ox Y h ps xs M u.1 u.2.1 u.2.2 z I;exact⟨H,g1,⟨v,M,cs,rfl,hs,hl.carry Y.ro g6,X⟩,g3,g4,g5,g6,g7,λf r j hb hf=>by rw[Cd,g8 f r j hb hf,Bool.or_true]⟩
end
section
variable {P:Program} {V:Env} {Γ:List Ctr} {st:St}
theorem iN {st:St}{q i:Nat}:∀ {ks:List (Nat×Nat)},(q,i)∉ks->(ac (aF st ks) st q).ls[i]?=(st q).ls[i]?
 |[],_=>rfl
 |(r,j)::ks,h=>by
  simp only[CV,not_or]at h;have e:ac (aF st ((r,j)::ks)) st=ac [(r,fU (ac (aF st ks) st r) j)] (ac (aF st ks) st):=aP _ _ _ _;rw[e];rcases aj r q (fU (ac (aF st ks) st r) j) (ac (aF st ks) st) with ⟨rfl,e⟩|⟨_,e⟩
  ·rw[e];simp only[fU,aT];rw[CS (λu=>h.1 (by rw[u]))];exact iN h.2
  ·rw[e];exact iN h.2
theorem lm {st:St}{q i:Nat}:∀ {ks:List (Nat×Nat)},(q,i)∉ks->(ac (aN st ks) st q).ls[i]?=(st q).ls[i]?
 |[],_=>rfl
 |(r,j)::ks,h=>by
  simp only[CV,not_or]at h;have e:ac (aN st ((r,j)::ks)) st=ac [(r,fY (ac (aN st ks) st r) j)] (ac (aN st ks) st):=aP _ _ _ _;rw[e];rcases aj r q (fY (ac (aN st ks) st r) j) (ac (aN st ks) st) with ⟨rfl,e⟩|⟨_,e⟩
  ·rw[e];simp only[fY,aT];rw[CS (λu=>h.1 (by rw[u]))];exact lm h.2
  ·rw[e];exact lm h.2
theorem nu (d n:Nat)(p q:Bool)(ks:List (Nat×Nat×Nat))(ep:Nat):∀ (z:List RK) (y:ai z),∀ x∈(bE d n p q ks ep z y).2,x.1=B0+d
 |[],_,x,u=>by simp[bE]at u
 |r::z,y,x,u=>by
  simp only[bE,BO]at u;rcases u with u|u
  ·cases r <;> simp[pq]at u;rw[u]
  ·exact nu d n p q ks ep z y.2 x u
theorem rA {q:Nat}(st:St):∀ (U:Upd),(∀ x∈U,x.1≠q)->ac U st q=st q
 |[],_=>rfl
 |(r,c)::U,h=>by
  rw[aP,aJ (CT (h (r,c) (BZ ..)))];exact rA st U (λx u=>h x (BS _ u))
def my (u:St)(c:Ctr)(d:Nat)(xs:List (aI×List Leaf))(g:Got (ab c.ps))(y:ai c.rs×ah c.ps):Upd :=
 let H:=(let U:=(bif c.fresh then [] else aF u g.frz);aN (ac U u) g.kill++U);let z:=aG (ac H u) (g.p&&!c.fresh) c.ps xs y.2++H;let r:=bE d (ac z u (B0+d)).ver (g.p&&!c.fresh) g.p (g.frz.map λk=>(k.1,k.2,(ac z u k.1).ver)) (ac z u EPO).ver c.rs y.1
 (d,eS ((ac (r.2++z) u d).ver+1) r.1)::(r.2++z)
theorem zq (hV:ay V){W0:Wit}{u:St}{a:Act}{w:World}(h0:an P V W0 u a w){c:Ctr}{xs:List (aI×List Leaf)}{vs:List Value}(em:gT P V W0 u w xs vs){g:Got (ab c.ps)}(hg:bc (b8 Γ u) c.ps xs=some g)
  (hf:∀ z∈g.frz,aA u z) (H:∀ z∈g.kill,aA u z) (et:∀ b∈g.lend,live u b) (en:aZ g.kill=true) (dd:dz g.frz g.kill=true) (hE:∀ z∈g.kill,z.1≠EPO) (b2:g.lend.length<=1) (f3:g.lend=[]\/c.ps.any PK.isIo=false)
  {bb:List (List Nat)} (c1:∀ k,bb.flatten.count k=(g.lend.map W0.β).count k+(aW W0 g.kill).count k)
  {d:Nat} (hd:d<V.nt) (es:∀ x∈V.fixt,x.1≠d) (a3:gD u d c.rs=true) (e0:((c.fresh&&g.lend.isEmpty)||!(c.rs.any RK.isBv))=true) {y:ai c.rs×ah c.ps} {e:Ending} {w':World} (cu:tC c w (bo V W0 g.p g.frz) vs bb y e w') :
  ∃ v,e=.returned v/\∃ W1,an P V W1 (ac (my u c d xs g y) u) (a.put (some d) v) w'/\(∀ q,q≠d->q≠B0+d->q∉g.lend->W1.cs q=W0.cs q) /\
   (∀ q i,q≠d->q≠B0+d->q∉g.lend->(q,i)∉g.frz->(q,i)∉g.kill->(ac (my u c d xs g y) u q).ls[i]?=(u q).ls[i]?)/\(∀ k,k<w.heap.size->k∉aW W0 g.kill->k∉g.lend.map W0.β->w'.heap[k]?=w.heap[k]?)/\w.heap.size<=w'.heap.size:=by
 obtain⟨v,us,N,cc,ba,rfl,eg,cp,eb,dc,e5,f1,hN,c0,ed,Y,a0⟩:=cu;have a4:∀ k,k∈bb.flatten<->k∈g.lend.map W0.β\/k∈aW W0 g.kill:=λk=>by
  rw[<- BN,<- BN,<- BN,c1 k];omega
 have Z:∀ k,k<w.heap.size->k∉aW W0 g.kill->k∉g.lend.map W0.β->w'.heap[k]?=w.heap[k]?:=λk h1 h2 h3=>f1 k h1 (λh=>((a4 k).1 h).elim h3 h2)
 refine⟨v,rfl,?_⟩;unfold my;generalize bl:(bif c.fresh then [] else g.frz)=O;have hU:(bif c.fresh then [] else aF u g.frz)=aF u O:=by rw[<- bl];cases c.fresh <;> rfl
 have d2:dz O g.kill=true:=by rw[<- bl];cases c.fresh with|true=>rfl|false=>exact dd
 have c2:∀ z∈O,z∈g.frz:=by rw[<- bl];cases c.fresh with|true=>simp|false=>exact λ_ h=>h
 have f6:∀ z∈O,aA u z:=λz hz=>hf z (c2 z hz)
 rw[hU];obtain⟨h1,h2,h3,h4⟩:=fH hV h0 d2 H;have b5:∀ q i,(q,i)∉g.frz->(q,i)∉g.kill->(ac (aN (ac (aF u O) u) g.kill++aF u O) u q).ls[i]?=(u q).ls[i]?:=λq i q1 q2=>by
  rw[bC,lm q2,iN (λh=>q1 (c2 _ h))]
 generalize f5:aN (ac (aF u O) u) g.kill++aF u O=I at h1 h2 h3 h4 b5;have a1:∀ k∈aW W0 g.kill,¬ ca V (W0.frz u O) (ac I u) k:=λk H=>mt ⟨(h4 k H).1,(h4 k H).2.1,(h4 k H).2.2.2.1,(h4 k H).2.2.2.2⟩
 have a2:∀ k,p8 w w' bb.flatten k->k∉g.lend.map W0.β->k<w'.heap.size/\¬ ca V (W0.frz u O) (ac I u) k:=by
  rintro k ⟨f2,a6⟩ ev;refine⟨f2,λJ=>?_⟩;rcases a6 with a6|a6
  ·have:=h1.used_lt k J;omega
  ·exact ((a4 k).1 a6).elim ev (λa6=>a1 k a6 J)
 have hG:∀ k,(N k\/(c.fresh=false/\bo V W0 g.p g.frz k))->gd V { W0.frz u O with nw:=λk=>(W0.frz u O).nw k\/N k } (g.p&&!c.fresh) k:=by
  rintro k (H|⟨e6,H⟩)
  ·exact .inl (.inr H)
  ·have e1:O=g.frz:=by rw[<- bl,e6];rfl
   have:=kt (V:=V) (W:=W0) (p:=g.p) hf k H;rw[e6];rw[<- e1]at this;exact bT (W':={ W0.frz u O with nw:=λk=>(W0.frz u O).nw k\/N k }) (by intro h;simp[h]) (λ_ h=>Or.inl h) k this
 rw[CK]at Y;have cw:∀ (W2:Wit),an P V W2 (ac (aG (ac I u) (g.p&&!c.fresh) c.ps xs y.2++I) u) a w'->(∀ k,(N k\/(c.fresh=false/\bo V W0 g.p g.frz k))->gd V W2 (g.p&&!c.fresh) k) ->
   (∀ k∈ba.flatten,¬ ca V W2 (ac (aG (ac I u) (g.p&&!c.fresh) c.ps xs y.2++I) u) k) ->
   (c.rs.any RK.isBv=true->∀ x∈g.frz,∀ k,k∈W0.bs x.1 x.2->k∈W2.bs x.1 x.2)->(c.rs.any RK.isBv=true->∀ k,W0.nw k->W2.nw k) ->
   (∀ q,q∉g.lend->W2.cs q=W0.cs q)->(∀ q i,q∉g.lend->(q,i)∉g.frz->(q,i)∉g.kill->(ac (aG (ac I u) (g.p&&!c.fresh) c.ps xs y.2++I) u q).ls[i]?=(u q).ls[i]?) ->
   (∀ q,(ac (aG (ac I u) (g.p&&!c.fresh) c.ps xs y.2++I) u q).sh=(u q).sh) ->
   ∃ W1,an P V W1 (ac (let R:=aG (ac I u) (g.p&&!c.fresh) c.ps xs y.2++I
     let r:=bE d (ac R u (B0+d)).ver (g.p&&!c.fresh) g.p (g.frz.map λk=>(k.1,k.2,(ac R u k.1).ver)) (ac R u EPO).ver c.rs y.1
     (d,eS ((ac (r.2++R) u d).ver+1) r.1)::(r.2++R)) u) (a.put (some d) v) w'/\(∀ q,q≠d->q≠B0+d->q∉g.lend->W1.cs q=W0.cs q) /\
    (∀ q i,q≠d->q≠B0+d->q∉g.lend->(q,i)∉g.frz->(q,i)∉g.kill->(ac (let R:=aG (ac I u) (g.p&&!c.fresh) c.ps xs y.2++I
     let r:=bE d (ac R u (B0+d)).ver (g.p&&!c.fresh) g.p (g.frz.map λk=>(k.1,k.2,(ac R u k.1).ver)) (ac R u EPO).ver c.rs y.1
     (d,eS ((ac (r.2++R) u d).ver+1) r.1)::(r.2++R)) u q).ls[i]?=(u q).ls[i]?):=by
  intro W2 g1 ef a5 e7 d3 e4 bn bx;generalize aG (ac I u) (g.p&&!c.fresh) c.ps xs y.2++I=R at g1 a5 bn bx ⊢;have cy:gD (ac R u) d c.rs=true:=by
   unfold gD at a3 ⊢;split at a3
   ·rw[bx];exact a3
   ·exact a3
  obtain⟨W1,q1,q2⟩:=wz hV g1 (q:=g.p) (ks:=g.frz.map λk=>(k.1,k.2,(ac R u k.1).ver)) (ep:=(ac R u EPO).ver) ed ef (λhb=>by
   refine⟨λk H=>?_,BX _,λk H=>?_⟩
   ·rcases H with H|(H|H)|⟨x,hx,H⟩
    ·exact .inl (bT (W':=W2) (by intro h;simp at h;exact h.1) (λ_ h=>h) k (ef k H))
    ·exact .inl (.inl (d3 hb k H))
    ·exact .inl (.inr H)
    ·exact .inr ⟨(x.1,x.2,(ac R u x.1).ver),Cv.2 ⟨x,hx,rfl⟩,e7 hb x hx k H⟩
   ·obtain⟨x,hx,rfl⟩:=Cv.1 H;exact BX _) a5 Y.2.1 eg hd es cy
  have e1:∀ (X:Upd) (C:bQ),ac ((d,C)::(X++R)) u=ac ((d,C)::X) (ac R u):=λX C=>by
   rw[aP d C (X++R),aP d C X,bC]
  simp only[e1,bC];refine⟨W1,q1,λq hq d1 c4=>(q2 q hq d1).trans (e4 q c4),λq i hq d1 c4 ad a9=>?_⟩;rw[aP,aJ hq,rA _ _ (λx hx=>by rw[nu _ _ _ _ _ _ _ _ x hx];exact CT d1)];exact bn q i c4 ad a9
 refine (?_:∃ W1,_/\_/\_).imp λW1 hh=>⟨hh.1,hh.2.1,hh.2.2,Z,cp⟩
 cases M:g.lend with
 |nil =>
  rw[M]at a4 Z a2 c1;simp only[DE,List.not_mem_nil,not_false_iff,true_implies,forall_const,false_or]at a4 Z a2;rw[M]at cw;have h5:=h1.world hV cp eb dc e5 (λk H=>Z k (h1.used_lt k H) (λhm=>a1 k hm H));have h6:=h5.nwGrow hV N (λk H=>a2 k (hN k H));have c3:∀ k,ca V { W0.frz u O with nw:=λk=>(W0.frz u O).nw k\/N k } (ac I u) k->ca V (W0.frz u O) (ac I u) k\/N k:=by
   rintro k ((H|H)|H|H|H)
   ·exact .inl (.inl H)
   ·exact .inr H
   ·exact .inl (.inr (.inl H))
   ·exact .inl (.inr (.inr (.inl H)))
   ·exact .inl (.inr (.inr (.inr H)))
  have b4:∀ k∈cc.flatten++ba.flatten,¬ ca V { W0.frz u O with nw:=λk=>(W0.frz u O).nw k\/N k } (ac I u) k:=λk H J=>by
   obtain⟨q1,q2⟩:=a0 k H;rcases c3 k J with J|J
   ·exact (a2 k q1).2 J
   ·exact q2 J
  obtain⟨W2,g1,g2,g3,g4,g5,g6,g7⟩:=qJ (Γ:=Γ) hV (W0:=W0) (W:={ W0.frz u O with nw:=λk=>(W0.frz u O).nw k\/N k }) (p:=g.p&&!c.fresh) rfl hG h6 c.ps xs vs g y.2 cc em hg (tF c.ps xs g hg M) c0 en hE
   (λx hx l hl ho=>(h2 x.1 x.2 l hl ho).2.2 hx) (λk H=>b4 k (BM _ H)) Y.1
  rw[<- bC]at g1 g5 g6 g7;refine cw W2 g1 (λk H=>?_) (λk H J=>?_) (λhb x hx k H=>?_) (λhb k H=>?_) (λq _=>by rw[g2];rfl) (λq i _ ad a9=>(g6 q i a9).1.trans (b5 q i ad a9)) (λq=>(g5 q).1.trans (h3 q).1)
  ·rcases hG k H with H|H
   ·exact .inl (by rw[g4];exact H)
   ·exact .inr H
  ·rcases g7 k J with J|J
   ·exact b4 k (BH _ H) J
   ·exact Y.2.2 k J k H rfl
  ·rw[(g6 x.1 x.2 (nO dd x hx)).2];exact H
  ·rw[g4];exact .inl (.inl H)
 |cons b ec =>
  have cb:ec=[]:=by
   rw[M]at b2;simp at b2;exact b2
  subst cb;have f0:c.ps.any PK.isIo=false:=f3.resolve_left (by rw[M];simp);have ej:c.rs.any RK.isBv=false:=by
   rw[M]at e0;simpa using e0
  obtain⟨_,r2⟩:=o9 (Γ:=Γ) h0 (S:=ac I u) (p:=g.p&&!c.fresh) c.ps xs vs g y.2 cc em hg f0 c0;obtain⟨cT,yv,cs,E,b0,r3,r4,r5,r6,r7⟩:=r2 b M;rw[r6]at Y a0;have hβ:(W0.frz u O).β=W0.β:=rfl;have b9:∀ k,k∈g.lend.map W0.β<->k=W0.β b:=λk=>by rw[M];simp
  have hb:live (ac I u) b:=(iC (λq=>(h3 q).1) b).2 (et b (by rw[M];simp));have cx:∀ k,k∈(W0.β b::b0)++ba.flatten->¬ N k:=λk H=>(a0 k H).2
  obtain⟨W2,g1,g2,g3,g4,g5,g6⟩:=zp hV h1 hb (N:=N) (p:=g.p&&!c.fresh) r4 r5 Y.1 (by rw[h1.len b];show (W0.cs b).length=_;rw[<- h0.len b];exact r7)
   (λk J f4=>Z k (h1.used_lt k J) (λhm=>a1 k hm J) (λhm=>f4 ((b9 k).1 hm))) cp eb dc e5
   (λk H=>a2 k (hN k H) (λhm=>cx _ (BM _ (BZ ..)) (by rw[<- (b9 k).1 hm];exact H)))
   (λk H=>⟨(a2 k (a0 k (BM _ (BS _ H))).1 (λhm=>by
    have:=(b9 k).1 hm;subst this;exact (CO.1 Y.1).1 H)).2,cx k (BM _ (BS _ H))⟩) hG
  have e2:ac (aG (ac I u) (g.p&&!c.fresh) c.ps xs y.2++I) u=ac [(b,⟨(ac I u b).ver+2,.agg,ap (g.p&&!c.fresh) cT yv⟩)] (ac I u):=by rw[bC,r3]
  have ex:∀ k∈ba.flatten,k∉g.lend.map W0.β:=λk H hm=>Y.2.2 _ (BZ ..) k H ((b9 k).1 hm).symm
  rw[<- e2]at g1 g6;have b3:=cw W2 g1 (λk H=>?_) (λk H J=>?_) (λb1=>by rw[ej]at b1;cases b1) (λb1=>by rw[ej]at b1;cases b1) (λq hq=>?_) (λq i hq ad a9=>?_) (λq=>?_)
  ·rw[M]at b3;exact b3
  ·rcases hG k H with H|H
   ·exact .inl ((g3 k).2 H)
   ·exact .inr H
  ·rcases g6 k J with J|J|J
   ·exact (a2 k (a0 k (BH _ H)).1 (ex k H)).2 J
   ·exact cx k (BH _ H) J
   ·exact Y.2.2 k (BS _ J) k H rfl
  ·rw[M]at hq;rw[g4 q (by simpa using hq)];rfl
  ·rw[M]at hq;rw[e2,aJ (by simpa using hq)];exact b5 q i ad a9
  ·rw[e2];rcases aj b q ⟨(ac I u b).ver+2,.agg,ap (g.p&&!c.fresh) cT yv⟩ (ac I u) with ⟨rfl,e3⟩|⟨_,e3⟩
   ·rw[e3];have:=hb.2;rw[(h3 q).1]at this;exact this.symm
   ·rw[e3];exact (h3 q).1
end
section
variable {P:Program} {V:Env} {Γ:List Ctr} {T:TypeId->TI} {st:St} {o:Oper} {R:Type} {κ:Upd->Option R} {r:R}
theorem zr {ls:List Leaf}{j:Nat}{p:Bool}{u:Option (Nat×Nat)}{E:TypeId}{e:Ty}{xs:List e.den}(h:ls.getD j .dead=.own p u E e xs):ls[j]?=some (.own p u E e xs):=by
 rw[CI]at h;cases y:ls[j]? with
 |none=>rw[y]at h;simp at h
 |some z=>rw[y]at h;simp at h;rw[h]
theorem AG (hV:ay V){b:Option (Bool×Nat×Nat)}{U:Upd}(h:j0 st b U κ=some r) :
  ∃ U',κ U'=some r/\∀ I a w,an P V I (ac U st) a w->(∀ q j,b=some (true,q,j)->∃ v,I.cs TMP=[v]/\tB I (ac U st) w q j v)->Rel P V (ac U' st) a w:=by
 unfold j0 at h;split at h
 ·rename_i q j;split at h
  ·rename_i p i off E' e' xs q' E e ys hq bl;obtain⟨y,hy,h⟩:=CA.1 h;obtain⟨_,_,hy⟩:=gl hy;simp only[DF]at hy;split at h
   ·rename_i z hz;refine⟨_,h,λI a w hr hb=>?_⟩;obtain⟨v,c1,a3,c0,i0,b4,p0,E0,e0,c2,g,cu,g1,g2,g3,g4⟩:=hb q j rfl;have hq:=zr hq;rw[hq]at g1;obtain⟨rfl,bn,rfl,h4⟩:p=p0/\some (i,off)=some (i0,b4)/\E'=E0/\(⟨e',xs⟩:(e:Ty)×List e.den)=⟨e0,c2⟩:=by
     simp only[BD,Leaf.own.injEq]at g1;obtain⟨q1,q2,q3,q4,q5⟩:=g1;subst q4;rw[heq_eq_eq]at q5;subst q5;exact⟨q1,by simpa using q2,q3,rfl⟩
    simp only[BD,CG]at bn;obtain⟨rfl,rfl⟩:=bn;simp only[Sigma.mk.injEq]at h4;obtain⟨rfl,h4⟩:=h4;rw[heq_eq_eq]at h4;subst h4;generalize hS:ac U st=S at hr hq g1 g2 g3 bl ⊢;have ad:(S TMP).ls[0]?=some (.own q' none E e ys):=by rw[bl];rfl
    have ba:(I.cs TMP)[0]?=some v:=by rw[c1];rfl
    have b2:=hr.leaf q j _ _ hq g2;have b1:=hr.leaf TMP 0 _ _ ad ba;have b2:OwH w (gd V I p) (some (i,off)) E' e' xs _ (I.bs q j):=b2;have b1:Ow w (gd V I q') E e ys v (I.bs TMP 0):=b1;have bb:=b2.carry (G':=gd V I (p||q')) (bT (W':=I) (by intro h;simp[h]) (λ_ h=>h)) (λ_ _=>rfl) (λ_ _=>rfl);have b5:=OwH.carry (G':=gd V I (p||q')) b1 (bT (W':=I) (by intro h;simp[h]) (λ_ h=>h)) (λ_ _=>rfl) (λ_ _=>rfl);have cb:∀ k∈I.bs TMP 0,k∉I.bs q j:=λk M a2=>a3 (hr.sep TMP 0 _ q j _ ad trivial hq trivial k M a2).1.symm
    obtain⟨b3,c4,bx⟩:=bb.back b5 cb hy hz (λg' cc e1=>by
     simp only[CC,BD,Cn,and_true]at e1;rw[<- e1.1];exact g4)
    have c3:∀ k∈b3,k∈I.bs q j\/k∈I.bs TMP 0:=λk M=>by
     have h5:=bx k;have h6:=BN.2 M;by_cases h7:k∈I.bs q j
     ·exact .inl h7
     ·have:=B5.2 h7;exact .inr (BN.1 (by omega))
    obtain⟨h1,cp⟩:=hr.putGhost hV TMP i8.1 i8.2.1 ((S TMP).ver+1) .off [] [] (λ_=>[]) (BP _) rfl (by simp) (λj l u hj=>by simp at hj) (λj l hj=>by simp at hj) (λj j' l l' hj=>by simp at hj);have a5:∀ x,x≠TMP->ac [(TMP,⟨(S TMP).ver+1,.off,[]⟩)] S x=S x:=λx hx=>aJ hx _ _
    have a9:(ac [(TMP,⟨(S TMP).ver+1,.off,[]⟩)] S) q=S q:=a5 q a3;have H:∀ (X:Nat) (l':Leaf),X≠j->(aT (S q).ls j (.own (p||q') none E' e' (xs.set i z)))[X]?=some l'->(S q).ls[X]?=some l':=by
     intro X l' a4 a0;rcases aS _ _ _ _ _ a0 with ⟨rfl,_,_⟩|⟨_,a0⟩
     ·exact absurd rfl a4
     ·exact a0
    have b9:∀ (l':Leaf),(aT (S q).ls j (.own (p||q') none E' e' (xs.set i z)))[j]?=some l'->l'=.own (p||q') none E' e' (xs.set i z):=by
     intro l' a0;rcases aS _ _ _ _ _ a0 with ⟨_,rfl,_⟩|⟨a4,_⟩
     ·rfl
     ·exact absurd rfl a4
    have a6:∀ b,live (ac [(TMP,⟨(S TMP).ver+1,.off,[]⟩)] S) b->live S b:=λb hb=>by
     have:b≠TMP:=by have:=hb.1;have:=i8.2.1;omega
     exact⟨hb.1,by rw[<- a5 b this];exact hb.2⟩
    have b0:∀ k∈b3,¬ I.nw k/\¬ V.prot k/\(∀ b,live S b->I.β b≠k)/\∀ (Y i1:Nat) (l1:Leaf),(S Y).ls[i1]?=some l1->am l1->(Y,i1)≠(q,j)->Y≠TMP->k∉I.bs Y i1:=λk M=>by
     rcases c3 k M with M|M
     ·have h9:=hr.ownb q j _ hq trivial k M;exact⟨h9.1,h9.2.1,h9.2.2,λY i1 l1 g5 Z g7 _ g8=>g7 (by obtain⟨e1,e2⟩:=hr.sep Y i1 l1 q j _ g5 Z hq trivial k g8 M;rw[e1,e2])⟩
     ·have h9:=hr.ownb TMP 0 _ ad trivial k M;exact⟨h9.1,h9.2.1,h9.2.2,λY i1 l1 g5 Z _ g7 g8=>g7 (hr.sep Y i1 l1 TMP 0 _ g5 Z ad trivial k g8 M).1⟩
    have h2:=(h1.reownE hV q ⟨(S q).ver,(S q).sh,aT (S q).ls j (.own (p||q') none E' e' (xs.set i z))⟩ (λX=>if X=j then b3 else I.bs q X) c0 (by rw[a9];exact BX _) (by rw[a9]) (by rw[a9];simp[aT])
     (λX l' u g5 Z=>by
      have Z:(if q=TMP then [] else I.cs q)[X]?=some u:=Z;rw[if_neg a3]at Z;by_cases J:X=j
      ·subst J;obtain rfl:=b9 l' g5;rw[g2]at Z;simp only[BD]at Z;subst Z;simp only[if_true];exact c4
      ·simp only[if_neg J];have:=h1.leaf q X l' u (by rw[a9];exact H X l' J g5) (by show (if q=TMP then [] else I.cs q)[X]?=_;rw[if_neg a3];exact Z);have e0:(if q=TMP then ([]:List Nat) else I.bs q X)=I.bs q X:=if_neg a3;simp only[e0]at this;exact this)
     (λX l' g5 Z k M=>by
      by_cases J:X=j
      ·subst J;simp only[if_true]at M;obtain⟨q1,q2,q3,q4⟩:=b0 k M;refine⟨q1,q2,λb hb=>q3 b (a6 b hb),λY j1 l1 a4 g7 g8 g9=>?_⟩;by_cases a1:Y=TMP
       ·subst a1;rw[bk]at g7;simp at g7
       ·rw[a5 Y a1]at g7;have g9:k∈(if Y=TMP then [] else I.bs Y j1):=g9;rw[if_neg a1]at g9;exact q4 Y j1 l1 g7 g8 (λe=>a4 (by cases e;rfl)) a1 g9
      ·simp only[if_neg J]at M;have a0:=H X l' J g5;have h9:=hr.ownb q X l' a0 Z k M;refine⟨h9.1,h9.2.1,λb hb=>h9.2.2 b (a6 b hb),λY j1 l1 a4 g7 g8 g9=>?_⟩;by_cases a1:Y=TMP
       ·subst a1;rw[bk]at g7;simp at g7
       ·rw[a5 Y a1]at g7;have g9:k∈(if Y=TMP then [] else I.bs Y j1):=g9;rw[if_neg a1]at g9;exact a4 (hr.sep q X l' Y j1 l1 a0 Z g7 g8 k M g9).1.symm)
     (λi1 i2 l1 l2 g5 Z g7 g8 k M a2=>by
      by_cases J:i1=j <;> by_cases O:i2=j
      ·omega
      ·subst J;simp only[if_true]at M;simp only[if_neg O]at a2;exact absurd a2 ((b0 k M).2.2.2 q i2 l2 (H i2 l2 O g7) g8 (λe=>O (by cases e;rfl)) a3)
      ·subst O;simp only[if_true]at a2;simp only[if_neg J]at M;exact absurd M ((b0 k a2).2.2.2 q i1 l1 (H i1 l1 J g5) Z (λe=>J (by cases e;rfl)) a3)
      ·simp only[if_neg J]at M;simp only[if_neg O]at a2;exact (hr.sep q i1 l1 q i2 l2 (H i1 l1 J g5) Z (H i2 l2 O g7) g8 k M a2).2)).1
    show ∃ W,an P V W _ a w;have e1:ac ((q,⟨(S q).ver,(S q).sh,aT (S q).ls j (.own (p||q') none E' e' (xs.set i z))⟩)::(TMP,⟨(S TMP).ver+1,.off,[]⟩)::(EPO,bU (S EPO))::U) st =
      ac [(q,⟨(S q).ver,(S q).sh,aT (S q).ls j (.own (p||q') none E' e' (xs.set i z))⟩),(EPO,bU (ac [(TMP,⟨(S TMP).ver+1,.off,[]⟩)] S EPO))] (ac [(TMP,⟨(S TMP).ver+1,.off,[]⟩)] S):=by
     rw[a5 EPO (CT i8.2.2),aP q,aP TMP,aP EPO,hS,aP q _ [(EPO,bU (S EPO))],ne i8.2.2]
    rw[e1];exact⟨_,h2⟩
   ·cases h
  ·cases h
 ·exact⟨_,h,λI a w hr _=>⟨I,hr⟩⟩
theorem vm (hV:ay V)(hΓ:∀ c∈Γ,bO P c){d:Nat}(hd:d<V.nt)(ed:∀ x∈V.fixt,x.1≠d){f:FuncId}{xs:List (aI×List Leaf)}(h:ju Γ st d f xs κ=some r) :
  fQ P f/\∃ U,κ U=some r/\∀ W a w,an P V W st a w->∀ vs,gT P V W st w xs vs->Calls P f vs.toArray w (λe w'=>∃ v,e=.returned v/\Rel P V (ac U st) (a.put (some d) v) w'):=by
 unfold ju at h;split at h
 ·rename_i c hc;obtain⟨cy,rfl⟩:=nq hc;obtain⟨ec,ad⟩:=hΓ c cy;refine⟨ec,?_⟩;rw[gy]at h;obtain⟨⟨U0,ys,b⟩,cp,h⟩:=CA.1 h;simp only at h;split at h
  ·rename_i g hg;cases J:aZ g.kill&&dz g.frz g.kill&&gD st d c.rs&&!(g.see.any λq=>g.lend.any (BU q))&&Cs g.lend.length 1&&(g.lend.isEmpty||!(c.ps.any PK.isIo))&&((c.fresh&&g.lend.isEmpty)||!(c.rs.any RK.isBv))&&(g.kill.all λk=>!BU k.1 EPO)&&oK b g.frz g.kill d with
   |false=>rw[J]at h;cases h
   |true =>
    rw[J]at h;simp only[cond_true]at h;simp only[BF]at J;obtain⟨⟨⟨⟨⟨⟨⟨⟨bn,cw⟩,I⟩,b9⟩,M⟩,eb⟩,ej⟩,hE⟩,e5⟩:=J;obtain⟨y,hy,h⟩:=CA.1 h;obtain⟨U',em,cc⟩:=AG (P:=P) (V:=V) hV h;refine⟨U',em,λW a w hr vs f8=>?_⟩;obtain⟨W0,Y,c1,fo,hβ0,e4,ef,b4,cx⟩:=ox hV hr c.ps xs vs U0 ys b f8 cp;generalize a9:ac U0 st=S0 at Y c1 e4 ef b4 hg;obtain⟨⟨b0,c4,a5⟩,hf,hk,a0⟩:=kF (uG hV hΓ Y) c.ps ys vs g c1 hg;have hE:∀ z∈g.kill,z.1≠EPO:=λz hz e0=>by
     have:=List.all_eq_true.1 hE z hz;rw[e0]at this;simp at this
    have M:g.lend.length<=1:=CQ M;have b5:g.lend=[]\/c.ps.any PK.isIo=false:=by
     simp only[DZ,DN,B4]at eb;exact eb
    have c2:∀ k,k∈b0.flatten<->k∈g.lend.map W0.β\/k∈aW W0 g.kill:=λk=>by
     rw[<- BN,<- BN,<- BN,a5 k];omega
    have a4:∀ k,jW V W0 S0 g.frz g.see k->k<w.heap.size/\k∉b0.flatten:=by
     intro k H;refine⟨Y.used_lt k (rx hf k H),λZ=>?_⟩;rcases (c2 k).1 Z with Z|Z
     ·obtain⟨b',O,rfl⟩:=Cv.1 Z;have dd:=Y.box b' (a0 b' O);rcases H with H|H|⟨b2,cu,a3,e2⟩|⟨z,hz,H⟩
      ·exact dd.1 H
      ·exact dd.2 H
      ·have:=Y.inj b2 b' a3 (a0 b' O) e2;subst this;simp only[B4,CB]at b9;have:=b9 b2 cu;rw[Bool.not_eq_true,CB]at this;have:=this b2 O;simp at this
      ·obtain⟨l,hl,ho⟩:=hf z hz;exact (Y.ownb z.1 z.2 l hl ho _ H).2.2 b' (a0 b' O) rfl
     ·obtain⟨z,hz,X⟩:=gj.1 Z;obtain⟨l,hl,ho⟩:=hk z hz;have a1:=Y.ownb z.1 z.2 l hl ho k X;rcases H with H|H|⟨b2,cu,a3,e2⟩|⟨z',d3,H⟩
      ·exact a1.1 H
      ·exact a1.2.1 H
      ·exact a1.2.2 b2 a3 e2
      ·obtain⟨l',f2,f3⟩:=hf z' d3;obtain⟨e1,e2⟩:=Y.sep z.1 z.2 l z'.1 z'.2 l' hl ho f2 f3 k X H;exact nO cw z' d3 (by rw[show z'=z from Di e1.symm e2.symm];exact hz)
    have fc:b0.flatten.Nodup:=bu.2 λk=>by
     rw[a5 k];have h5:=bu.1 (gN Y bn hk) k;have h6:(g.lend.map W0.β).count k<=1:=by
      exact CL List.count_le_length (by rw[Cf];exact M)
     by_cases h7:k∈g.lend.map W0.β
     ·have:(aW W0 g.kill).count k=0:=B5.2 λZ=>by
       obtain⟨b',O,e0⟩:=Cv.1 h7;obtain⟨z,hz,X⟩:=gj.1 Z;obtain⟨l,hl,ho⟩:=hk z hz;exact (Y.ownb z.1 z.2 l hl ho k X).2.2 b' (a0 b' O) e0
      omega
     ·have:(g.lend.map W0.β).count k=0:=B5.2 h7;omega
    have a6:=ad w (bo V W0 g.p g.frz) g.val vs b0 y (c4.mono (λ_ h=>h) a4) (λk H=>a4 k (mw hV k H)) fc hy;have cb:gD S0 d c.rs=true:=by
     unfold gD at I ⊢;split at I
     ·rcases b4 (B0+d) with e0|e0
      ·rw[e0];exact I
      ·exact absurd e0 (by have:=i8.2.1;omega)
     ·exact I
    refine a6.mono λe w' c3=>?_
    obtain⟨v,rfl,W1,a2,bl,e7,c0,_⟩:=zq (Γ:=Γ) hV Y c1 hg hf hk a0 bn cw hE M b5 a5 hd ed cb ej c3;refine⟨v,rfl,?_⟩;refine cc W1 _ w' ?_ ?_
    ·have e1:=bC (my S0 c d ys g y) U0 st;rw[a9]at e1;rw[<- e1]at a2;subst a9;unfold my at a2;simp only[bC,BT,DR]at a2 ⊢;exact a2
    ·intro q j hb;subst hb;obtain⟨u,f0,f1,es,i,off,p,E,e,et,gg,fd,q1,q2,q3,q4⟩:=e4;have e6:=cx true q j rfl rfl;have b3:g.lend=[]:=b5.resolve_right (by rw[e6];simp);simp only[oK,BF,B4]at e5;obtain⟨⟨⟨e3,d1⟩,bb⟩,ba⟩:=e5;have d2:q≠d:=λe0=>by rw[e0]at bb;simp at bb
     have eg:q≠B0+d:=λe0=>by rw[e0]at ba;simp at ba
     have dc:(q,j)∉g.kill:=λZ=>by
      have:=CB.1 e3 _ Z;simp[iv]at this
     have ev:(q,j)∉g.frz:=λZ=>by
      have:=CB.1 d1 _ Z;simp[iv]at this
     have f6:TMP≠d:=by have:=hV.nt;have:=i8.1;omega
     have f4:TMP≠B0+d:=by have:=i8.2.1;omega
     have hL:=e7 q j d2 eg (by rw[b3];simp) ev dc;rw[q1]at hL;have hC:=bl q d2 eg (by rw[b3];simp);have e1:=bC (my S0 c d ys g y) U0 st;rw[a9]at e1;have f7:gg<w.heap.size:=Y.own_lt q1 trivial gg q3;have f5:gg∉aW W0 g.kill:=λZ=>by
      obtain⟨z,hz,X⟩:=gj.1 Z;obtain⟨l,hl,ho⟩:=hk z hz;obtain⟨e1,e2⟩:=Y.sep z.1 z.2 l q j _ hl ho q1 trivial gg X q3;exact dc (by rw[show (q,j)=z from Di e1.symm e2.symm];exact hz)
     have bx:w'.cell? ⟨gg,i*e.cells+off,none⟩=some u:=by
      rw[kM (c0 gg f7 f5 (by rw[b3];simp))];exact q4
     have en:gg∈W1.bs q j:=by
      have h9:=a2.leaf q j _ _ hL (by rw[hC];exact q2);obtain⟨_,fi,fl,_,ex,_⟩:=h9;rw[ex];simp[B8]
     refine⟨u,by rw[bl TMP f6 f4 (by rw[b3];simp)];exact f0,f1,es,i,off,p,E,e,et,gg,fd,?_,by rw[hC];exact q2,en,bx⟩;have b1:=hL;rw[<- e1]at b1;subst a9;unfold my at b1;simp only[bC,BT,DR]at b1 ⊢;exact b1
  ·cases h
 ·cases h
end
section
variable {P:Program} {V:Env} {Γ:List Ctr} {T:TypeId->TI} {st:St} {o:Oper} {R:Type} {κ:Upd->Option R} {r:R}
theorem nV {W:Wit}{a:Act}{w:World}(h:an P V W st a w):∀ (l:List Operand),gT P V W st w (l.map (au st)) (l.map a.eval)
 |[]=>rfl
 |x::l=>by
  obtain⟨u,z,y⟩:=cU h x;exact⟨a.eval x,l.map a.eval,u,rfl,z,y,nV h l⟩
theorem nv {W:Wit}{w:World}:∀ {xs z:List (aI×List Leaf)} {y us:List Value},gT P V W st w xs y->gT P V W st w z us->gT P V W st w (xs++z) (y++us)
 |[],_,_,_,J,u=>by rw[show _=_ from J];exact u
 |x::xs,_,_,_,⟨v,M,I,e,O,H,X⟩,u=>by
  subst e;exact⟨v,_,I,rfl,O,H,nv X u⟩
theorem qK {a:Act}{w:World}{c:Call}{x:Operand}{f:FuncId}{caps:Array Value}(z:o.op=.call c)(M:c.callee=.value x)(I:a.eval x=.func (.func f) #[] caps)(J:fQ P f){next:Act->World->Prop}{Q:Exit->Act->World->Prop}
  (u:Calls P f (c.args.map a.eval++caps) w (λe H=>∃ v,e=.returned v/\next (a.put o.dst v) H)):o.wp P a w next Q:=by
 unfold Oper.wp;have y:(execOp a.eval o).run P w=.ok (.enter f (c.args.map a.eval++caps)) w:=by
  have:=J (c.args.map a.eval++caps) w;simp[execOp,z,resolve,M,I,Deferred.ofValue,invoke,this]
 rw[y,Oper.upon_enter];refine u.mono λe H=>?_
 rintro⟨v,rfl,hn⟩;exact hn
theorem ln {p:Bool}:∀ {b:Ty} {x:b.den},b.flat=true->ap p b x=cH p b x
 |.int _,_,_=>rfl
 |.bool,_,_=>rfl
 |.str,_,_=>rfl
 |.unit,_,_=>rfl
 |.hdr,_,_=>rfl
 |.pair a b,x,h=>by
  simp only[Ty.flat,BF]at h;simp only[ap,cH,ln h.1,ln h.2]
 |.list _ _ _,_,h=>by simp[Ty.flat]at h
theorem rB (hV:ay V){W:Wit}{a:Act}{w:World}(h:an P V W st a w):∀ (J:List Ty) (xs:List (aI×List Leaf)) (X:List Value) (x:Tup J),gT P V W st w xs X->iO st J xs=some x ->
  sa w (λk=>k<w.heap.size) J x X
 |[],[],X,_,hx,_=>hx
 |[],_::_,_,_,_,u=>by simp[iO]at u
 |_::_,[],_,_,_,u=>by simp[iO]at u
 |b::J,x::xs,X,z,⟨v,O,cs,e,hs,Z,H⟩,u=>by
  subst e;simp only[iO]at u;cases M:decide (x.1=bi b.isAgg) with
  |false=>simp[M]at u
  |true =>
   simp only[M,cond_true]at u;have M:=of_decide_eq_true M;rw[M]at hs;split at u
   ·rename_i p y hy;simp only[BE]at u;obtain⟨t,ht,rfl⟩:=u;have Y:=eE h Z hy;refine⟨v,cs,O,rfl,gx hs,Y.mono (λk I=>?_),rB hV h J xs O t H ht⟩;rcases I with (I|⟨_,I⟩)|⟨z,hz,I⟩
    ·exact (h.nwlt k I).1
    ·exact CN (hV.ro k I).1 h.size
    ·obtain⟨l,h1,h2⟩:=ek Z hz;exact h.own_lt h1 h2 k I
   ·cases u
theorem yc (hV:ay V)(hΓ:∀ c∈Γ,bO P c)(M:bM V o){c:Call}{f:Operand}(Y:o.op=.call c)(hc:c.callee=.value f)
  (h:act Γ T o st κ=some r):bV P V o st κ r:=by
 simp only[act,wrU,Y,hc]at h;split at h
 ·cases h
 ·rename_i d X;split at h
  ·rename_i g H Z;obtain⟨he,U,hU,z⟩:=vm hV hΓ (M d X).1 (M d X).2 h;refine⟨U,hU,λW a w I next Q hn=>?_⟩;obtain⟨J,_,_,_,_⟩:=bt I f (by rw[Z];simp);rw[Z]at J;have O:=nv (nV I c.args.toList) (sl (p9 (P:=P) (V:=V) (W:=W) (w:=w) H J.2));rw[DJ]at O;have:=z W a w I _ O;have e:(c.args.toList.map a.eval++H.map λb=>Value.pointer (some ⟨W.β b,0,none⟩)).toArray=c.args.map a.eval++(H.map λb=>Value.pointer (some ⟨W.β b,0,none⟩)).toArray:=by
    apply De;simp
   rw[e]at this;refine qK Y hc J.1 he (this.mono λe w'=>?_);rintro⟨v,rfl,hrel⟩;refine⟨v,rfl,hn _ _ ?_⟩;rw[X];exact hrel
  ·rename_i g H Z;obtain⟨he,U,hU,z⟩:=vm hV hΓ (M d X).1 (M d X).2 h;refine⟨U,hU,λW a w I next Q hn=>?_⟩;obtain⟨J,_,_,_,_⟩:=bt I f (by rw[Z];simp);rw[Z]at J;obtain⟨us,J,a0,a3⟩:=J;have O:=nv (nV I c.args.toList) (sl (qI (st:=st) a0 a3));rw[DJ]at O;have:=z W a w I _ O;have e:(c.args.toList.map a.eval++us).toArray=c.args.map a.eval++us.toArray:=by
    apply De;simp
   rw[e]at this;refine qK Y hc J he (this.mono λe w'=>?_);rintro⟨v,rfl,hrel⟩;refine⟨v,rfl,hn _ _ ?_⟩;rw[X];exact hrel
  ·rename_i As B φ Z;cases hb:B.flat with
   |false=>simp[hb]at h
   |true =>
    simp only[hb,cond_true]at h;split at h
    ·rename_i x hx;obtain⟨y,hy,h⟩:=CA.1 h;simp only[X]at h;refine⟨_,h,λW a w I next Q hn=>?_⟩;obtain⟨J,_,_,_,_⟩:=bt I f (by rw[Z];simp);rw[Z]at J;obtain⟨f',H,J,he,z⟩:=J;have a2:=rB hV I As _ _ x (nV I c.args.toList) hx;have:=z w I.size I.keep x _ y a2 hy;have e:(c.args.toList.map a.eval).toArray=c.args.map a.eval:=by apply De;simp
     rw[e]at this;refine qK Y hc J he (this.mono λe w'=>?_);rintro⟨u,cs,rfl,hvo,hrd,hbelow⟩;refine⟨u,rfl,hn _ _ ?_⟩;rw[X];have a4:=I.below hV hbelow;have a1:=e9 (P:=P) (V:=V) (W:=W) (st:=st) (G:=λ_=>False) (p:=false) (λ_ h=>h.elim) hrd;rw[<- ln hb]at a1;exact a4.putLs hV d (M d X).1 (M d X).2 _ _ _ u cs (BP _) (kk hvo) a1
    ·cases h
  ·cases h
theorem Bs (H:ay V)(I:TOk P T)(hΓ:∀ c∈Γ,bO P c)(z:bM V o)(h:act Γ T o st κ=some r):bV P V o st κ r:=by
 cases u:o.op with
 |move x=>exact yq H z u h
 |assign x=>exact vF H z u h
 |pick c x y=>exact yt H z u h
 |alloc t=>exact x5 H I z u h
 |box t x=>exact AC H z u h
 |build t J=>exact wY H I z u h
 |buildSlice t n J=>exact qG H I z u h
 |load t x=>exact yw H I z u h
 |store t x y=>exact x7 H I u h
 |nilCheck x=>exact sE H z u h
 |binOp X t x y t'=>exact wU H I z u h
 |unOp X t x=>exact yu H z u h
 |convert s t x=>exact uE H I z u h
 |makeSlice t n c=>exact rX H I z u h
 |slice t x Y hi Z=>exact ya H I z u h
 |fieldAddr t x f=>exact rT H I z u h
 |field t x f=>exact wX H I z u h
 |indexAddr t x i=>exact rU H I z u h
 |index t x i=>exact wW H I z u h
 |extract x i=>exact ue H z u h
 |makeFunc fn first O=>exact sG H z u h
 |call c =>
  cases M:c.callee with
  |value f=>exact yc H hΓ z u M h
  |builtin b =>
   cases b with
   |len=>exact zU H I z u M h
   |append=>exact wq H I z u M h
   |min=>exact AD H z u M h
   |max=>exact AE H z u M h
   |_ =>
    simp only[act,wrU,u,M]at h;split at h <;> cases h
  |_ =>
   simp only[act,wrU,u,M]at h;split at h <;> cases h
 |_=>simp[act,wrU,u]at h
end
def cz:Ty->Ty->Bool
 |.pair a b,z=>match z with
  |.pair c d=>cz a c&&cz b d
  |_=>false
 |.list m E e,z=>match z with
  |.list n u r=>decide (E=u)&&(bif n then m&&cz e r else decide (e.sh=r.sh))
  |_=>false
 |a,z=>decide (a=z)
theorem fR:∀ {a b:Ty},cz a b=true->a.sh=b.sh
 |.pair a b,z,h=>by
  cases z with
  |pair c d =>
   simp only[cz,BF]at h;simp only[Ty.sh,fR h.1,fR h.2]
  |_=>simp[cz]at h
 |.list m E e,z,h=>by
  cases z with
  |list n u r =>
   simp only[cz,BF,decide_eq_true_eq]at h;obtain⟨rfl,h⟩:=h;cases n with
   |true =>
    simp only[cond_true,BF]at h;simp only[Ty.sh,fR h.2]
   |false =>
    simp only[cond_false,decide_eq_true_eq]at h;simp only[Ty.sh,h]
  |_=>simp[cz]at h
 |.int _,z,h=>by simp only[cz,decide_eq_true_eq]at h;rw[h]
 |.bool,z,h=>by simp only[cz,decide_eq_true_eq]at h;rw[h]
 |.str,z,h=>by simp only[cz,decide_eq_true_eq]at h;rw[h]
 |.unit,z,h=>by simp only[cz,decide_eq_true_eq]at h;rw[h]
 |.hdr,z,h=>by simp only[cz,decide_eq_true_eq]at h;rw[h]
theorem zt {a b:Ty}(h:cz a b=true):a.isAgg=b.isAgg:=by
 cases a with
 |pair c d=>cases b <;> first|rfl|(simp[cz]at h)
 |list m E e=>cases b <;> first|rfl|(simp[cz]at h)
 |_=>simp only[cz,decide_eq_true_eq]at h;rw[h]
theorem oy {f g h:Nat->List Nat}{k:Nat}:∀ {l:List Nat},(∀ j∈l,(f j).count k=(g j).count k+(h j).count k)->(l.flatMap f).count k=(l.flatMap g).count k+(l.flatMap h).count k
 |[],_=>rfl
 |a::l,H=>by
  have y:=H a (BZ ..);have u:=oy (l:=l) (λj r=>H j (BS _ r));simp only[CR,BI];omega
theorem Mx.thin {w:World}{G:Nat->Prop}:∀ {a b:Ty} {pos:Nat} {x:a.den} {y:b.den} {cs:List Value} {bs:List Nat},cz a b=true->HEq x y->Mx w G a none pos x cs bs ->
  ∃ b1 b2:List Nat,(∀ k,bs.count k=b1.count k+b2.count k)/\Mx w (λk=>G k\/k∈b2) b none pos y cs b1
 |.pair a b,z,pos,x,y,cs,bs,h,r,H=>by
  cases z with
  |pair c d =>
   simp only[cz,BF]at h;obtain⟨c1,c2,ba,bb,rfl,rfl,h1,h2⟩:=H;obtain⟨h3,h4⟩:=su (jD (fR h.1)) (jD (fR h.2)) r;obtain⟨p1,p2,R,Y⟩:=Mx.thin h.1 h3 h1;obtain⟨r1,r2,s1,s2⟩:=Mx.thin h.2 h4 h2;refine⟨p1++r1,p2++r2,λk=>?_,c1,c2,p1,r1,rfl,rfl,Y.mono (λk J=>J.imp id (BM _)),?_⟩
   ·have:=R k;have:=s1 k;simp only[BI];omega
   ·have:=s2.mono (G':=λk=>G k\/k∈p2++r2) (λk J=>J.imp id (BH _))
    rwa [ig (fR h.1)]at this
  |_=>simp[cz]at h
 |.list m E e,z,pos,xs,Z,cs,bs,h,r,H=>by
  have a0:=fR h;cases z with
  |list n E' e' =>
   simp only[cz,BF,decide_eq_true_eq]at h;obtain⟨rfl,h⟩:=h;cases n with
   |true =>
    simp only[cond_true,BF]at h;obtain⟨rfl,h⟩:=h;rw[bI (by simp)]at H;obtain⟨v,rfl,I,a2,h1,h2,h3⟩:=H;obtain⟨h4,h5⟩:=sv (jD (fR h)) r;have a1:∀ j,∃ q:List Nat×List Nat,j<Z.length->(∀ k,(a2 j).count k=q.1.count k+q.2.count k) /\
      ∀ y,Z[j]?=some y->∃ c,Mx w (λk=>G k\/k∈q.2) e' none 0 y c q.1/\∀ i u,c[i]?=some u->I[j*e'.cells+i]?=some u:=by
     intro j;by_cases M:j<Z.length
     ·have X:=BW M;obtain⟨x,hx,r⟩:=h5 j _ X;obtain⟨c,hm,hc⟩:=h3 j x hx;obtain⟨b1,b2,R,Y⟩:=Mx.thin h r hm;refine⟨(b1,b2),λ_=>⟨R,λy O=>⟨c,?_,λi u hi=>?_⟩⟩⟩
      ·rw[X]at O;simp only[BD]at O;subst O;exact Y
      ·rw[<- ig (fR h)];exact hc i u hi
     ·exact⟨([],[]),λh=>absurd h M⟩
    obtain⟨f,hf⟩:=Classical.skolem.1 a1;refine⟨v.ownBlock.toList++(BR Z.length).flatMap (λj=>(f j).1),(BR Z.length).flatMap (λj=>(f j).2),λk=>?_,?_⟩
    ·rw[h2,BI,BI,h4,oy (g:=λj=>(f j).1) (h:=λj=>(f j).2) (λj M=>(hf j (C4.1 M)).1 k)];omega
    ·rw[bI (by simp)];refine⟨v,rfl,I,λj=>(f j).1,by rw[<- h4,<- ig (fR h)];exact h1,rfl,λj y O=>?_⟩;have M:=(BG.1 O).1;obtain⟨c,R,Y⟩:=(hf j M).2 y O;exact⟨c,R.mono (λk J=>J.imp id (λJ=>dV.2 ⟨j,M,J⟩)),Y⟩
   |false =>
    refine⟨[],bs,λk=>by simp,?_⟩;rw[cm];exact⟨rfl,Rd.flags a0 r (Mx.rd (S:=λk=>G k\/k∈bs) (λ_=>.inl) (λ_=>.inr) H)⟩
  |_=>simp[cz]at h
 |.int _,z,pos,x,y,cs,bs,h,r,H=>by
  simp only[cz,decide_eq_true_eq]at h;subst h;cases r;exact⟨bs,[],λk=>by simp,H.mono (λ_=>.inl)⟩
 |.bool,z,pos,x,y,cs,bs,h,r,H=>by
  simp only[cz,decide_eq_true_eq]at h;subst h;cases r;exact⟨bs,[],λk=>by simp,H.mono (λ_=>.inl)⟩
 |.str,z,pos,x,y,cs,bs,h,r,H=>by
  simp only[cz,decide_eq_true_eq]at h;subst h;cases r;exact⟨bs,[],λk=>by simp,H.mono (λ_=>.inl)⟩
 |.unit,z,pos,x,y,cs,bs,h,r,H=>by
  simp only[cz,decide_eq_true_eq]at h;subst h;cases r;exact⟨bs,[],λk=>by simp,H.mono (λ_=>.inl)⟩
 |.hdr,z,pos,x,y,cs,bs,h,r,H=>by
  simp only[cz,decide_eq_true_eq]at h;subst h;cases r;exact⟨bs,[],λk=>by simp,H.mono (λ_=>.inl)⟩
theorem jA.mono {w:World}{G G':Nat->Prop}(z:∀ k,G k->G' k){a:Ty}{x:a.den}{ptr:Bool}{v:Value}{bs:List Nat}(h:jA w G a x ptr v bs):jA w G' a x ptr v bs:=by
 unfold jA at h ⊢;split at h
 ·rename_i y;rw[if_pos y];obtain⟨g,c,E,I,u,r,H,M⟩:=h;exact⟨g,c,E,I,u,r,H.mono z,M⟩
 ·rename_i y;rw[if_neg y];obtain⟨J,u,r⟩:=h;exact⟨J,u,r.mono z⟩
theorem bK.mono {w:World}{G G':Nat->Prop}(y:∀ k,G k->G' k):∀ {ps:List PK} {o:ah ps} {z:List Value} {bs:List (List Nat)},bK w G ps o z bs->bK w G' ps o z bs
 |.io _::_,_,_::_,_::_,⟨u,r⟩=>⟨u.mono y,bK.mono y r⟩
 |.iop _::_,_,_::_,_::_,⟨u,r⟩=>⟨u.mono y,bK.mono y r⟩
 |.rd _::_,_,_::_,_::_,⟨u,r⟩=>⟨u,bK.mono y r⟩
 |.own _::_,_,_::_,_::_,⟨u,r⟩=>⟨u,bK.mono y r⟩
 |.rref _::_,_,_::_,_::_,⟨u,r⟩=>⟨u,bK.mono y r⟩
 |.rref2 _::_,_,_::_,_::_,⟨u,r⟩=>⟨u,bK.mono y r⟩
 |.fn _ _::_,_,_::_,_::_,⟨u,r⟩=>⟨u,bK.mono y r⟩
 |.clo _ _::_,_,_::_,_::_,⟨u,r⟩=>⟨u,bK.mono y r⟩
 |.hol _ _ _::_,_,_::_,_::_,⟨u,r⟩=>⟨u,bK.mono y r⟩
 |[],_,[],[],_=>trivial
 |[],_,_::_,_,h=>by simp[bK]at h
 |[],_,[],_::_,h=>by simp[bK]at h
 |p::_,_,[],_,h=>by cases p <;> exact h.elim
 |p::_,_,_::_,[],h=>by cases p <;> exact h.elim
theorem p7.mono {w:World}{G G' ro ro':Nat->Prop}(I:∀ k,G k->G' k)(J:∀ k,G k\/ro k->G' k\/ro' k):∀ {r:RK} {y:r.den} {v:Value} {bs:List Nat},p7 w G ro r y v bs->p7 w G' ro' r y v bs
 |.v _,_,_,_,⟨H,z,u⟩=>⟨H,z,u.mono I⟩
 |.bv _,_,_,_,⟨e,H,z,u⟩=>⟨e,H,z,u.mono J⟩
 |.box _,_,_,_,⟨g,c,E,O,z,u,M,R⟩=>⟨g,c,E,O,z,u,M.mono I,R⟩
theorem gw.mono {w:World}{G G' ro ro':Nat->Prop}(M:∀ k,G k->G' k)(J:∀ k,G k\/ro k->G' k\/ro' k):∀ {I:List RK} {y:ai I} {us:List Value} {z:List (List Nat)},gw w G ro I y us z->gw w G' ro' I y us z
 |[],_,_,_,h=>h
 |_::_,_,_,_,⟨u,H,b,r,X,O,Y,R⟩=>⟨u,H,b,r,X,O,Y.mono M J,gw.mono M J R⟩
theorem bO.thin {P:Program}{f:FuncId}{a a':Ty}{ps:List PK}{rs:List RK}{fr:Bool}{ad:ab (.own a::ps)->Option (ai rs×ah (.own a::ps))}{Y:ab (.own a'::ps)->Option (ai rs×ah (.own a'::ps))}
  (h:bO P ⟨f,.own a::ps,rs,fr,ad⟩) (ht:cz a' a=true) (cv:a'.den->a.den) (c2:∀ x,HEq x (cv x)) (hd:∀ x,Y x=ad (cv x.1,x.2)):bO P ⟨f,.own a'::ps,rs,fr,Y⟩:=by
 refine⟨h.1,λw ro x vs c3 y a1 a9 b9 hy=>?_⟩;obtain⟨x1,xr⟩:=x;obtain⟨v,a5,b,u,rfl,rfl,⟨cs,c0,hm⟩,Z⟩:=a1;obtain⟨O,M,R,bx⟩:=Mx.thin ht (c2 x1) hm;have a2:=hm.lt;rw[bu]at b9;have X:∀ k,O.count k+M.count k+u.flatten.count k<=1:=λk=>by
  have:=b9 k;rw[B3,BI,R k]at this;exact this
 have hb:∀ k,k∈b<->k∈O\/k∈M:=λk=>by
  rw[<- BN,<- BN,<- BN,R k];omega
 have H:∀ k,k∈(O::u).flatten->k∈(b::u).flatten:=λk r=>by
  rw[B3,BO]at r ⊢;exact r.imp (λh=>(hb k).2 (.inl h)) id
 have a3:∀ k,k∈M->k∉(O::u).flatten:=λk r z=>by
  have h1:=X k;have h2:=BN.2 r;have h3:=BN.2 z;rw[B3,BI]at h3;omega
 have a6:∀ k,k∈M->k∈(b::u).flatten:=λk r=>by
  rw[B3,BO];exact .inl ((hb k).2 (.inr r))
 have J:da P w (λk=>ro k\/k∈M) (λk=>k<w.heap.size/\k∉(O::u).flatten) (.own a::ps) (cv x1,xr) (v::a5) (O::u) :=
  ⟨v,a5,O,u,rfl,rfl,⟨cs,by rw[<- zt ht];exact c0,bx⟩,Z.mono (λ_=>.inl) (λk r=>⟨r.1,λh=>r.2 (H k h)⟩)⟩
 refine (h.2 w _ _ _ _ y J (λk r=>?_) ?_ (by rw[<- hy];exact (hd (x1,xr)).symm)).mono λe w' hp=>?_
 ·rcases r with r|r
  ·exact⟨(a9 k r).1,λh=>(a9 k r).2 (H k h)⟩
  ·exact⟨a2 k ((hb k).2 (.inr r)),a3 k r⟩
 ·rw[bu];intro k;have:=X k;show ((O::u).flatten).count k<=1;rw[B3,BI];omega
 ·obtain⟨v',us,N,a0,bb,h1,b5,b0,bn,ba,bl,c1,hN,hO,b4,a4,I⟩:=hp;have hG:∀ k,(N k\/fr=false/\(ro k\/k∈M))->((N k\/k∈M)\/fr=false/\ro k):=λk r=>by
   rcases r with r|⟨r,z|z⟩
   ·exact .inl (.inl r)
   ·exact .inr ⟨r,z⟩
   ·exact .inl (.inr z)
  refine⟨v',us,λk=>N k\/k∈M,a0,bb,h1,b5,b0,bn,ba,bl,λk r hn=>c1 k r (λh=>hn (H k h)),λk r=>?_,?_,?_,a4,λk r=>?_⟩
  ·rcases r with r|r
   ·exact⟨(hN k r).1,(hN k r).2.imp id (H k)⟩
   ·exact⟨CN (a2 k ((hb k).2 (.inr r))) b0,.inr (a6 k r)⟩
  ·match a0,hO with
   |b3::a0,hO=>exact⟨hO.1,bK.mono hG hO.2⟩
   |[],hO=>exact hO.elim
  ·refine gw.mono hG (λk r=>?_) b4;rcases r with r|r|r
   ·exact .inl (hG k r)
   ·exact .inr r
   ·exact .inl (.inl (.inr r))
  ·obtain⟨h5,h6⟩:=I k r;refine⟨⟨h5.1,h5.2.imp id (H k)⟩,λh=>h.elim h6 (λh=>?_)⟩;rcases h5.2 with h7|h7
   ·have:=a2 k ((hb k).2 (.inr h));omega
   ·exact a3 k h h7
end Go.Proofs.YtaegajachoklkaaGreatEv
