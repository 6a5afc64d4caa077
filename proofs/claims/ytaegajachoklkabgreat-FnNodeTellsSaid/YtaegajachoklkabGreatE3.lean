/- One operation: boxes made, boxes written. -/
import Derived.Test.YtaegajachoklkabGreatE0
import Derived.Deep.MidRow
import Derived.Great.FillDense
set_option linter.unusedVariables false
set_option linter.unusedSimpArgs false
open Array renaming toArray_toList->CC,length_toList->CG,getElem?_toList->C5,toList_append->DC,size_append->DK,toList_map->DT,ext'->Dh
open Bool renaming and_eq_true->BI,not_eq_true'->B7,or_eq_false_iff->DA,or_eq_true->Dc
open Go.Addr.mk renaming injEq->Cq
open Go.Builtin renaming append_->CH,firstCells->Cm,lenOf->Cr,zeroCells->DP
open Go.Instr renaming sliceBounds->DN,storeAt->Dj
open Go.Result renaming andThen_ok->Co
open Go.Sem renaming run_bind->DJ
open Go.Value renaming ownBlock->CB
open Go.Value.slice renaming injEq->CF
open Go.World renaming setCells->C6,alloc_eq->C9,drew_eq->DD,freeze->DL,alloc->DX,drew->Df
open Iff renaming rfl->Cn
open Int renaming toNat_natCast->DI
open List renaming getElem?_eq_some_iff->BJ,mem_append_right->BK,count_append->BL,getElem?_append_right->BM,getElem?_append_left->BN,mem_append_left->BP,count_pos_iff->BQ,mem_append->BR,range->BU,mem_cons_of_mem->BV,append_assoc->BW,length_append->BY,getElem?_eq_getElem->BZ,eq_nil_of_length_eq_zero->B4,mem_cons_self->B5,flatten_cons->B6,count_eq_zero->B8,append_nil->B9,length_take->CA,any_eq_false->CE,getElem?_take->CK,getD_eq_getElem?_getD->CL,nodup_append->CN,replicate->CP,nodup_cons->CR,length_set->CS,flatMap_cons->CU,getElem?_set_ne->CV,mem_cons->CY,getElem?_drop->CZ,getElem?_cons_zero->Ca,getElem?_replicate->Cb,size_toArray->Cc,getElem?_set_self->Cd,any_cons->Cg,length_nil->Ch,length_map->Ci,length_drop->Cs,length_cons->Ct,mem_map->Cy,count_cons->Cz,singleton_append->C3,length_replicate->C4,mem_range->C7,all_cons->DE,map_nil->DH,map_map->DM,isEmpty_iff->DQ,flatMap_map->DR,cons_append->DU,length->DY,map_append->DZ,nil_append->Dd,nodup_nil->De,take_left->Dg,map_cons->Dk
open List.cons renaming injEq->Cj
open Nat renaming eq_of_beq_eq_true->BO,lt_succ_self->BS,mul_le_mul_right->BT,beq->BX,le_refl->B3,succ_mul->CI,add_zero->CM,le_trans->CO,lt_of_lt_of_le->CQ,le_of_ble_eq_true->CT,zero_add->CX,ble_eq_true_of_le->Ce,le_add_right->Cf,mul_le_mul_left->Ck,blt_eq->Cl,add_mul->Cp,le_of_eq->Cu,ble->Cv,mul_comm->Cw,sub_zero->Cx,mul_one->C8,blt->DB,eq_zero_or_pos->DG,zero_mul->DO,mod_eq_of_lt->DS,le_succ->DV,zero_le->DW,mul_add_mod->Da,add_assoc->Di
open Ne renaming symm->CW
open Option renaming map_eq_some_iff->BH,bind_eq_some_iff->CD,map_none->C0,toList_some->DF,map_some->Db
open Option.some renaming injEq->BG
open Prod renaming ext->Dl
open Prod.mk renaming injEq->CJ
namespace Go.Proofs.YtaegajachoklkabGreatEv
open Go Go.RowKit
section
variable {P:Program} {V:Env} {Γ:List Ctr} {T:TypeId->TI} {st:St} {o:Oper} {R:Type} {κ:Upd->Option R} {r:R}
theorem na {q u:Nat}(h:q≠u)(c y:bP)(st:St):ac [(q,c)] (ac [(u,y)] st)=ac [(u,y)] (ac [(q,c)] st):=by
 funext k;rcases aj q k c (ac [(u,y)] st) with ⟨rfl,e⟩|⟨H,e⟩
 ·rw[e,aJ h,bj]
 ·rw[e];rcases aj u k y st with ⟨rfl,z⟩|⟨I,z⟩
  ·rw[z,bj]
  ·rw[z,aJ I,aJ H]
theorem an.boxed (hV:ax V){W:Wit}{a:Act}{w:World}(h:an P V W st a w)(d:Nat)(hd:d<V.nt)(X:∀ x∈V.fixt,x.1≠d)(I:(st (B0+d)).sh=.off)(ls:List Leaf)
  (y:List Value) (z:Nat->List Nat) (E:TypeId)
  (hl:ls.length=y.length) (h1:∀ u∈y,u.oneCell'=true)
  (H:∀ (j:Nat) (l:Leaf) (u:Value),ls[j]?=some l->y[j]?=some u->aK P V W st w (z j) l u)
  (J:∀ (j:Nat) (l:Leaf),ls[j]?=some l->am l->∀ k∈z j,¬ W.nw k/\¬ V.prot k/\k<w.heap.size/\(∀ b,live st b->W.β b≠k) /\
   ∀ (r1 Z:Nat) (Y:Leaf),(st r1).ls[Z]?=some Y->am Y->k∉W.bs r1 Z)
  (M:∀ (j j':Nat) (l l':Leaf),ls[j]?=some l->am l->ls[j']?=some l'->am l'->∀ k,k∈z j->k∈z j'->j=j') :
  Rel P V (ac ((B0+d,⟨(st (B0+d)).ver+1,.agg,ls⟩)::[(d,⟨(st d).ver+1,.one,[.bp (B0+d) 0]⟩)]) st) (a.put (some d) (.pointer (some ⟨w.heap.size,0,none⟩))) (w.alloc (.cells y.toArray E)):=by
 have O:B0+d≠d:=by simp[B0]
 have a0:¬ live st (B0+d):=by simp[live,I]
 have h2:=h.setBox hV (B0+d) (Cf _ _) ((st (B0+d)).ver+1) ls y z w.heap.size E (w':=w.alloc (.cells y.toArray E)) (BS _) (.inr ⟨a0,B3 _⟩)
  (heap_alloc_new w _) (λk hk _=>Go.heap_alloc_old w _ hk) (by simp) rfl rfl rfl hl h1 H (λj l hj ho k hk=>by
   obtain⟨h3,h4,h5,h6,h7⟩:=J j l hj ho k hk;exact⟨h3,h4,h5,h6,λr1 Z Y _=>h7 r1 Z Y⟩) M
 rw[aQ,na O];refine h2.putLs hV d hd X _ .one [.bp (B0+d) 0] _ [.pointer (some ⟨w.heap.size,0,none⟩)] ?_ rfl ⟨⟨⟨Cf _ _,by rw[bj],by simp⟩,id,rfl⟩,trivial⟩;rw[aJ (CW O)];omega
theorem uF {t:TypeId}(I:TOk P T)(y:(T t).cells≠0)(w:World):∃ z H,(zeroValue t).run P w=.ok z w/\z.cells=H.toArray/\∀ (V:Env) (W:Wit) (st:St),aB P V W st w (T t).zero H:=by
 have h:=I t;cases u:T t with
 |none=>rw[u]at y;exact absurd rfl y
 |int k=>rw[u]at h;exact⟨_,[.int k 0],gn h.2.2 w,rfl,λV W st=>⟨⟨rfl,id,rfl⟩,trivial⟩⟩
 |bool=>rw[u]at h;exact⟨_,[.bool false],gn h.2.2 w,rfl,λV W st=>⟨⟨rfl,id,rfl⟩,trivial⟩⟩
 |str=>rw[u]at h;exact⟨_,[.string ByteArray.empty],gn h.2.2 w,rfl,λV W st=>⟨⟨rfl,id,rfl⟩,trivial⟩⟩
 |slice E e b=>rw[u]at h;exact⟨_,[.slice none 0 0],gn h.2.2.1 w,rfl,λV W st=>⟨⟨rfl,id,rfl⟩,trivial⟩⟩
 |struct a J=>rw[u]at h;exact⟨_,zeroCells a,gn h.2.2.1 w,rfl,λV W st=>lF a⟩
 |arr e n=>rw[u]at h;exact⟨_,(CP n (zeroCells e)).flatten,gn h.2.2.2 w,rfl,λV W st=>oP e n⟩
 |ptr=>rw[u]at h;exact⟨_,[.pointer none],gn h.2.2 w,rfl,λV W st=>⟨⟨trivial,id,rfl⟩,trivial⟩⟩
 |fn=>rw[u]at h;exact⟨_,[.nilFunc],gn h.2.2 w,rfl,λV W st=>⟨⟨trivial,id,rfl⟩,trivial⟩⟩
theorem x6 (hV:ax V)(hT:TOk P T)(J:bL V o){t:TypeId}(y:o.op=.alloc t)(h:act Γ T o st κ=some r):bV P V o st κ r:=by
 simp only[act,y]at h;split at h
 ·rename_i d O;cases H:decide ((st (B0+d)).sh=.off)&&!decide ((T t).cells=0) with
  |false=>simp[H]at h
  |true =>
   simp only[H]at h;simp at H;refine⟨_,h,λW a w hr next Q hn=>?_⟩;obtain⟨z,X,Y,hc,I⟩:=uF hT H.2 w;have I:=I V W st;refine dR (v:=.pointer (some ⟨w.heap.size,0,none⟩)) (w':=w.alloc (.cells X.toArray t)) ?_ ?_
   ·simp[execOp,y,Instr.alloc,Y,newVar,newRow,hc]
   ·rw[O];refine hn _ _ ?_;exact hr.boxed hV d (J d O).1 (J d O).2 H.1 _ X (λ_=>[]) t I.length I.one' (λj l u Z h2=>(I.at_ j l u Z h2).1) (λ_ _ _ _ k M=>by simp at M) (λ_ _ _ _ _ _ _ _ k M=>by simp at M)
 ·grind
theorem AF (hV:ax V)(I:bL V o){t:TypeId}{x:Operand}(Y:o.op=.box t x)(h:act Γ T o st κ=some r):bV P V o st κ r:=by
 simp only[act,Y]at h;split at h
 ·rename_i d M;cases hb:decide ((st (B0+d)).sh=.off)&&decide ((au st x).2.length=(T t).cells)&&decide ((au st x).1=bg (T t).agg)&&ib st (au st x).2 with
  |false=>simp[hb]at h
  |true =>
   simp only[hb]at h;simp at hb;obtain⟨⟨⟨a0,a2⟩,a1⟩,Z⟩:=hb;have J:∀ (W:Wit) (a:Act) (w:World) (H:List Value),d9 (au st x).1 (a.eval x) H->aB P V W st w (au st x).2 H ->
     (execOp a.eval o).run P w=.ok (.value (.pointer (some ⟨w.heap.size,0,none⟩))) (w.alloc (.cells H.toArray t)):=by
    intro W a w H O y;rw[a1]at O;have hc:=gV O y.one';simp[execOp,Y,Instr.box,newVar,newRow,hc]
   cases z:sq st x with
   |true =>
    rw[z]at h;refine⟨_,h,λW a w X next Q hn=>?_⟩;obtain⟨H,O,y⟩:=cQ X x;refine dR (J W a w H O y) ?_;rw[M];refine hn _ _ ?_;exact X.boxed hV d (I d M).1 (I d M).2 a0 _ H (λ_=>[]) t y.length y.one' (λj l u h1 h2=>(y.at_ j l u h1 h2).1) (λ_ _ _ _ k hk=>by simp at hk) (λ_ _ _ _ _ _ _ _ k hk=>by simp at hk)
   |false =>
    rw[z]at h;refine⟨_,h,λW a w X next Q hn=>?_⟩;obtain⟨H,O,y⟩:=cQ X x;obtain⟨h1,h2,h3,h4,h5⟩:=oN hV X y Z;have h6:=zI hV X y Z;refine dR (J W a w H O y) ?_;rw[M];refine hn _ _ ?_;have:=h1.boxed hV d (I d M).1 (I d M).2 (by rw[(h6 _).1];exact a0) _ H (dk W (au st x).2) t h2 y.one' h3 h4 h5;exact this
 ·grind
theorem jT (b:Nat)(E:TypeId):∀ (u:List Value) (k o:Nat) (w:World) (cur:Array Value) {mk:Nat×Nat},w.heap[b]?=some (.cells cur E mk) ->
  (w.setCells b (o+k) u).heap[b]?=some (.cells ((u.zipIdx k).foldl (λy (x:Value×Nat)=>y.setIfInBounds (o+x.2) x.1) cur) E mk)
 |[],_,_,_,_,_,h=>h
 |v::u,k,o,w,cur,mk,h=>by
  have:=jT b E u (k+1) o (w.setCell ⟨b,o+k,none⟩ v) _ (by rw[setCell_eq_setRow w b (o+k) cur E mk v h];exact setRow_heap w b cur _ E mk h);simpa[C6,Di]using this
theorem eP (b:Nat):∀ (u:List Value) (o:Nat) (w:World) (k:Nat),k≠b->(w.setCells b o u).heap[k]?=w.heap[k]?
 |[],_,_,_,_=>rfl
 |v::u,o,w,k,h=>by
  rw[C6,eP b u (o+1) _ k h];exact heap_setCell_other w ⟨b,o,none⟩ k v h
theorem jU (b:Nat):∀ (u:List Value) (o:Nat) (w:World),(w.setCells b o u).os=w.os/\(w.setCells b o u).tape=w.tape/\(w.setCells b o u).output=w.output/\(w.setCells b o u).heap.size=w.heap.size
 |[],_,_=>⟨rfl,rfl,rfl,rfl⟩
 |v::u,o,w=>by
  obtain⟨z,I,y,H⟩:=jU b u (o+1) (w.setCell ⟨b,o,none⟩ v);exact⟨z,I,y,by rw[C6,H];simp⟩
theorem nc {t:TypeId}{n:Nat}(H:bO P t n){w:World}{b off:Nat}{cur:List Value}{E:TypeId}{mk:Nat×Nat}(J:w.heap[b]?=some (.cells cur.toArray E mk))(I:mk.2=0\/cur.length<=mk.1){v:Value}{cs:List Value}
  (Z:v.cells=cs.toArray) (X:cs.length=n) (M:∀ u∈cs,u.oneCell'=true) (O:off+cs.length<=cur.length) :
  (Dj t (.pointer (some ⟨b,off,none⟩)) v).run P w=.ok () (w.setCells b off cs):=by
 have y:∀ j,j<cs.length->(w.cell? ⟨b,off+j,none⟩).isSome=true:=by
  intro j z;rw[cell_of_row w b _ _ E mk J]
  grind
 have Y:=run_storeCells_cells (P:=P) b off cs 0 w (λj z=>y j z) (λj z=>qX J (by simpa using I) (by simp;omega)) M;have h4:=dn H w;simp[Dj,Instr.sureAddr,storeVar,h4,Z,X,Y]
theorem tB (hV:ax V)(hT:TOk P T){t:TypeId}{x y:Operand}{b off:Nat}(bn:o.op=.store t x y)(hd:o.dst=none)(hx:one st x=.bp b off)
  (c1:(au st y).2.length=(T t).cells) (b3:(au st y).1=bg (T t).agg) (ad:(T t).cells≠0) (b1:(st b).sh=.agg) (c3:off+(au st y).2.length<=(st b).ls.length) (a4:ib st (au st y).2=true)
  {W:Wit} {a:Act} {w:World} (hr:an P V W st a w) :
  mI P V o st ((b,⟨(ac (mvU st (au st y).2) st b).ver+1,.agg,jB (ac (mvU st (au st y).2) st b).ls (dD st (au st y).2) off⟩)::mvU st (au st y).2) a w:=by
 intro next Q hn;obtain⟨I,hs,hl⟩:=cQ hr y;rw[b3]at hs;have hc:=gV hs hl.one';obtain⟨h1,h2,h3,h4,h5⟩:=oN hV hr hl a4;have h6:=zI hV hr hl a4;obtain⟨hp,_,_,_⟩:=br hr x (by rw[hx];simp);rw[hx]at hp;obtain⟨hB,_,hv⟩:=hp;have bl:T t≠.none:=by intro e;rw[e]at ad;exact ad rfl
 rcases hr.boxes b hB with ⟨h8,_⟩|⟨_,E,h8⟩
 ·rw[b1]at h8;cases h8
 ·have bb:=hl.length;have c4:=hr.len b;have c2:(ac (mvU st (au st y).2) st b).ls.length=(W.cs b).length:=h1.len b;have b0:off+I.length<=(W.cs b).length:=by omega
  have a9:=nc (oO (hT t) bl) h8 (.inl rfl) hc (by omega) hl.one' b0;refine pB (w':=w.setCells (W.β b) off I) (by simp[execOp,bn,hv,a9]) ?_;rw[hd];refine hn _ _ ?_;rw[aQ];obtain⟨e1,e2,e3,e4⟩:=jU (W.β b) I off w;have a0:=jT (W.β b) E I 0 off w _ h8;rw[k8 (W.cs b) I off b0]at a0;simp only[CM]at a0;have b2:live (ac (mvU st (au st y).2) st) b:=⟨hB,by rw[(h6 b).1];exact b1⟩;have b5:(dD st (au st y).2).length=I.length:=h2;have M:∀ (j:Nat) (l:Leaf),(jB (ac (mvU st (au st y).2) st b).ls (dD st (au st y).2) off)[j]?=some l ->
    (off<=j/\j<off+I.length/\(dD st (au st y).2)[j-off]?=some l)\/((j<off\/off+I.length<=j)/\(ac (mvU st (au st y).2) st b).ls[j]?=some l):=by
   intro j l hj;unfold jB at hj;rw[b5]at hj;by_cases Z:j<off
   ·rw[BW,BN (by simp;omega),CK,if_pos Z]at hj;exact .inr ⟨.inl Z,hj⟩
   ·by_cases J:j<off+I.length
    ·rw[BW,BM (by simp;omega),BN (by simp;omega)]at hj;refine .inl ⟨by omega,J,?_⟩;rw[<- hj];congr 1;simp;omega
    ·rw[BM (by simp;omega),CZ]at hj;refine .inr ⟨.inr (by omega),?_⟩;rw[<- hj];congr 1;simp;omega
  have a1:∀ (j:Nat),((W.cs b).take off++I++(W.cs b).drop (off+I.length))[j]?=if off<=j/\j<off+I.length then I[j-off]? else (W.cs b)[j]?:=by
   intro j;by_cases Z:j<off
   ·rw[BW,BN (by simp;omega),CK,if_pos Z,if_neg (by omega)]
   ·by_cases J:j<off+I.length
    ·rw[BW,BM (by simp;omega),BN (by simp;omega),if_pos ⟨by omega,J⟩];congr 1;simp;omega
    ·rw[BM (by simp;omega),CZ,if_neg (by omega)];congr 1;simp;omega
  refine⟨_,h1.setBox hV b hB _ _ ((W.cs b).take off++I++(W.cs b).drop (off+I.length)) (λj=>if off<=j/\j<off+I.length then dk W (au st y).2 (j-off) else W.bs b j) (W.β b) E
   (BS _) (.inl ⟨b2,rfl⟩) a0 (λk _ X=>eP (W.β b) I off w k X) (Cu e4.symm) e1 e2 e3 ?_ ?_ ?_ ?_ ?_⟩
  ·simp only[jB,BY,CA,Cs];omega
  ·intro u hu;simp only[BR]at hu;rcases hu with (hu|hu)|hu
   ·exact hr.one b u (List.mem_of_mem_take hu)
   ·exact hl.one' u hu
   ·exact hr.one b u (List.mem_of_mem_drop hu)
  ·intro j l u hj hu;rw[a1]at hu;rcases M j l hj with ⟨Z,J,H⟩|⟨Z,H⟩
   ·rw[if_pos ⟨Z,J⟩]at hu;simp only[if_pos (⟨Z,J⟩:off<=j/\j<off+I.length)];exact h3 _ l u H hu
   ·have z:¬ (off<=j/\j<off+I.length):=by omega
    rw[if_neg z]at hu;simp only[if_neg z];exact h1.leaf b j l u H hu
  ·intro j l hj ho k X;rcases M j l hj with ⟨Z,J,H⟩|⟨Z,H⟩
   ·simp only[if_pos (⟨Z,J⟩:off<=j/\j<off+I.length)]at X;obtain⟨q1,q2,q3,q4,q5⟩:=h4 _ l H ho k X;exact⟨q1,q2,q3,q4,λr1 j1 l1 _=>q5 r1 j1 l1⟩
   ·have z:¬ (off<=j/\j<off+I.length):=by omega
    simp only[if_neg z]at X;obtain⟨q1,q2,q3⟩:=h1.ownb b j l H ho k X;exact⟨q1,q2,h1.own_lt H ho k X,q3,λr1 j1 l1 b4 b9 ba c0=>b4 (h1.sep b j l r1 j1 l1 H ho b9 ba k X c0).1.symm⟩
  ·intro j j' l l' hj ho bx a2 k X Y;rcases M j l hj with ⟨Z,J,H⟩|⟨Z,H⟩ <;> rcases M j' l' bx with ⟨a6,a3,O⟩|⟨a6,O⟩
   ·simp only[if_pos (⟨Z,J⟩:off<=j/\j<off+I.length)]at X;simp only[if_pos (⟨a6,a3⟩:off<=j'/\j'<off+I.length)]at Y;have:=h5 _ _ l l' H ho O a2 k X Y;omega
   ·have z:¬ (off<=j'/\j'<off+I.length):=by omega
    simp only[if_pos (⟨Z,J⟩:off<=j/\j<off+I.length)]at X;simp only[if_neg z]at Y;exact absurd Y ((h4 _ l H ho k X).2.2.2.2 b j' l' O a2)
   ·have z:¬ (off<=j/\j<off+I.length):=by omega
    simp only[if_neg z]at X;simp only[if_pos (⟨a6,a3⟩:off<=j'/\j'<off+I.length)]at Y;exact absurd X ((h4 _ l' O a2 k Y).2.2.2.2 b j l H ho)
   ·have z:¬ (off<=j/\j<off+I.length):=by omega
    have a5:¬ (off<=j'/\j'<off+I.length):=by omega
    simp only[if_neg z]at X;simp only[if_neg a5]at Y;exact (h1.sep b j l b j' l' H ho O a2 k X Y).2
end
theorem bt {l:List Nat}:l.Nodup<->∀ k,l.count k<=1:=by
 induction l with
 |nil=>simp
 |cons a l H =>
  rw[CR,H];constructor
  ·rintro⟨r,y⟩ k;rw[Cz];by_cases u:a=k
   ·subst u;have:l.count a=0:=B8.2 r;simp[this]
   ·have:=y k;simp[u,this]
  ·intro h;refine⟨λz=>?_,λk=>?_⟩
   ·have r:=h a;have y:0<l.count a:=BQ.2 z;rw[Cz]at r;simp at r;omega
   ·have:=h k;rw[Cz]at this;omega
theorem p7 {n:Nat}(r:Nat->List Nat)(k:Nat):((BU n).flatMap r).count k=((BU n).map λj=>(r j).count k).sum:=by
 generalize BU n=l;induction l with
 |nil=>rfl
 |cons a l u=>simp[BL,u]
theorem kD {n i:Nat}(H:i<n)(r:Nat->List Nat)(b:List Nat)(k:Nat) :
  ((BU n).flatMap λj=>if j=i then b else r j).count k+(r i).count k=((BU n).flatMap r).count k+b.count k:=by
 rw[p7,p7];induction n with
 |zero=>omega
 |succ n z =>
  rw[List.range_succ];simp only[DZ,Dk,DH,List.sum_append,List.sum_cons,List.sum_nil];by_cases u:i=n
  ·subst u;have:(BU i).map (λj=>List.count k (if j=i then b else r j))=(BU i).map λj=>(r j).count k:=by
    refine List.map_congr_left λj y=>?_
    rw[if_neg (by have:=C7.1 y;omega)]
   rw[this,if_pos rfl];omega
  ·have:=z (by omega);rw[if_neg (λe=>u e.symm)];omega
theorem nd {bs bs' K:List Nat}(y:bs.Nodup)(z:K.Nodup)(I:∀ k∈K,k∉bs)(h:∀ k,bs'.count k<=bs.count k+K.count k):bs'.Nodup/\∀ k∈bs',k∈bs\/k∈K:=by
 rw[bt]at y z;refine⟨bt.2 λk=>?_,λk r=>?_⟩
 ·have H:=h k;have J:=y k;have u:=z k;by_cases r:k∈K
  ·have:bs.count k=0:=B8.2 (I k r);omega
  ·have:K.count k=0:=B8.2 r;omega
 ·have H:=h k;have J:0<bs'.count k:=BQ.2 r;by_cases u:k∈bs
  ·exact .inl u
  ·have:bs.count k=0:=B8.2 u;exact .inr (BQ.1 (by omega))
theorem Mx.pos {w:World}{G:Nat->Prop}:∀ {a:Ty} {pos r:Nat} {x:a.den} {cs:List Value} {bs:List Nat},Mx w G a none pos x cs bs->Mx w G a none r x cs bs
 |.int _,_,_,_,_,_,h=>h
 |.bool,_,_,_,_,_,h=>h
 |.str,_,_,_,_,_,h=>h
 |.unit,_,_,_,_,_,h=>h
 |.hdr,_,_,_,_,_,h=>h
 |.pair _ _,_,_,_,_,_,⟨y,R,I,M,O,J,u,z⟩=>⟨y,R,I,M,O,J,Mx.pos u,Mx.pos z⟩
 |.list m E e,_,_,_,_,_,H=>by
  cases m with
  |false=>rw[cm]at H ⊢;exact H
  |true=>rw[bH (by simp)]at H ⊢;exact H
section
variable {P:Program} {V:Env} {W:Wit} {st:St} {w w':World} {a:Act}
theorem Mx.scalar {G:Nat->Prop}{b:Ty}{hol:Option Nat}{pos:Nat}{x:b.den}{cs:List Value}{S:Nat->Prop}(r:b.flat=true)(h:Rd w S b x cs):Mx w G b hol pos x cs []:=Mx.flat r h
theorem lL (h:an P V W st a w):∀ (b:Ty) (pos:Nat) (ls:List Leaf) (cs:List Value) (t:cH b.den),aB P V W st w ls cs->take st b ls=some t ->
  ∃ J O M,cs=J++O/\ls=M++t.rest/\aB P V W st w M J/\aB P V W st w t.rest O/\Mx w (bo V W t.p t.frz) b none pos t.val J (aX W t.kill) /\
   (∀ x∈t.frz,aA st x)/\(∀ x∈t.kill,aA st x)
 |.pair b c,pos,ls,cs,t,H,z=>by
  simp only[take]at z;split at z
  ·rename_i u hb;split at z
   ·rename_i v hc;simp only[BG]at z;subst z;obtain⟨J,O,M,e1,e2,h1,Y,X,h4,h5⟩:=lL h b pos ls cs u H hb;obtain⟨c3,c4,l2,e3,e4,h6,h7,h8,h9,a0⟩:=lL h c (pos+b.cells) u.rest O v Y hc;refine⟨J++c3,c4,M++l2,by rw[e1,e3,BW],by rw[e2,e4,BW],h1.append h6,h7,⟨J,c3,_,_,rfl,dE W _ _,?_,?_⟩,?_,?_⟩
    ·refine X.mono λk I=>?_
     rcases I with I|⟨y,hy,I⟩
     ·exact .inl (bT (by intro h;simp[h]) (λ_ h=>h) k I)
     ·exact .inr ⟨y,BP _ hy,I⟩
    ·refine h8.mono λk I=>?_
     rcases I with I|⟨y,hy,I⟩
     ·exact .inl (bT (by intro h;simp[h]) (λ_ h=>h) k I)
     ·exact .inr ⟨y,BK _ hy,I⟩
    ·intro x R;exact (BR.1 R).elim (h4 x) (h9 x)
    ·intro x R;exact (BR.1 R).elim (h5 x) (a0 x)
   ·cases z
  ·cases z
 |.unit,pos,ls,cs,t,H,z=>by
  simp only[take,BG]at z;subst z;exact⟨[],cs,[],rfl,rfl,trivial,H,⟨rfl,rfl⟩,by simp,by simp⟩
 |.list m E e,pos,ls,cs,t,H,z=>by
  cases ls with
  |nil=>simp[take]at z
  |cons l ls =>
   cases cs with
   |nil=>exact H.elim
   |cons v cs =>
    cases m with
    |false =>
     simp only[take,cond_false]at z;split at z
     ·rename_i p xs ha;simp only[BG]at z;subst z;refine⟨[v],cs,[l],rfl,rfl,⟨H.1,trivial⟩,H.2,cm.2 ⟨rfl,kN h H.1.1 H.1.2.1 ha⟩,λx R=>eh (cs:=[v]) (ls:=[l]) ⟨H.1,trivial⟩ R,by simp⟩
     ·cases z
    |true =>
     simp only[take,cond_true]at z;split at z
     ·rename_i r j n;split at z
      ·rename_i p E' e' xs hd;simp only[BH]at z;obtain⟨ys,hc,rfl⟩:=z;obtain⟨rfl,rfl,rfl⟩:=jR hc;obtain⟨h1,Y,X,h4⟩:=kq h hd H.1.1;refine⟨[v],cs,[_],rfl,rfl,⟨H.1,trivial⟩,H.2,(bH (by simp)).2 ⟨v,rfl,?_⟩,by simp,?_⟩
       ·have:aX W [(r,j)]=W.bs r j:=by simp[aX]
        show OwB w _ none E' e' xs v (aX W [(r,j)]);rw[this];exact Y.2.carry (λk I=>.inl I) (λ_ _=>rfl) (λ_ _=>rfl)
       ·intro x R;simp only[List.mem_singleton]at R;subst R;exact⟨_,X,trivial⟩
      ·cases z
     ·simp only[BG]at z;subst z;have X:v=.slice none 0 0:=H.1.1;refine⟨[v],cs,[_],rfl,rfl,⟨H.1,trivial⟩,H.2,(bH (by simp)).2 ⟨v,rfl,?_⟩,by simp,by simp⟩;rw[X];exact (OwH.nil w _ E e).2
     ·cases z
 |.int k,pos,ls,cs,t,H,z=>take_scalar h (b:=.int k) rfl H z
 |.bool,pos,ls,cs,t,H,z=>take_scalar h (b:=.bool) rfl H z
 |.str,pos,ls,cs,t,H,z=>take_scalar h (b:=.str) rfl H z
 |.hdr,pos,ls,cs,t,H,z=>take_scalar h (b:=.hdr) rfl H z
where
 take_scalar (h:an P V W st a w) {b:Ty} {pos:Nat} {ls:List Leaf} {cs:List Value} {t:cH b.den} (hf:b.flat=true) (H:aB P V W st w ls cs) (z:(a7 st b ls).map (λx=>(⟨false,x.2.1,[],[],x.2.2⟩:cH b.den))=some t) :
   ∃ J O M,cs=J++O/\ls=M++t.rest/\aB P V W st w M J/\aB P V W st w t.rest O/\Mx w (bo V W t.p t.frz) b none pos t.val J (aX W t.kill) /\
    (∀ x∈t.frz,aA st x)/\(∀ x∈t.kill,aA st x):=by
  simp only[BH]at z;obtain⟨⟨p,x,Z⟩,h1,rfl⟩:=z;obtain⟨J,O,M,e1,e2,Y,X,h4⟩:=kO h b ls cs p x Z H h1;exact⟨J,O,M,e1,e2,Y,X,Mx.flat hf h4,by simp,by simp⟩
theorem dJ (h:an P V W st a w){b:Ty}{pos:Nat}{ls:List Leaf}{cs:List Value}{t:cH b.den}(z:aB P V W st w ls cs)(r:cg st b ls=some t) :
  Mx w (bo V W t.p t.frz) b none pos t.val cs (aX W t.kill)/\(∀ x∈t.frz,aA st x)/\(∀ x∈t.kill,aA st x):=by
 unfold cg at r;split at r
 ·rename_i p x f k O;simp only[BG]at r;subst r;obtain⟨X,y,Y,u,Z,R,J,H,M,I⟩:=lL h b pos ls cs _ z O;have:y=[]:=by
   cases y with
   |nil=>rfl
   |cons=>exact J.elim
  subst this;simp only[B9]at u;subst u;exact⟨H,M,I⟩
 ·cases r
theorem gP (h:an P V W st a w):∀ {ks:List (Nat×Nat)},aY ks=true->(∀ x∈ks,aA st x)->(aX W ks).Nodup
 |[],_,_=>De
 |x::ks,I,O=>by
  simp only[aY,BI,B7,CE]at I;have ih:=gP h I.2 (λy H=>O y (BV _ H));show (W.bs x.1 x.2++aX W ks).Nodup;rw[CN];obtain⟨l,J,z⟩:=O x (B5 ..);refine⟨?_,ih,λk R k' r e=>?_⟩
  ·have Y:x.2<(W.cs x.1).length:=by rw[<- h.len];exact (BJ.1 J).1
   have:=h.leaf x.1 x.2 l _ J (BZ Y);cases l <;> simp only[am]at z;exact OwH.nodup this
  ·subst e;obtain⟨y,H,r⟩:=gl.1 r;obtain⟨X,M,u⟩:=O y (BV _ H);obtain⟨e1,Z⟩:=h.sep x.1 x.2 l y.1 y.2 X J z M u k R r;have:=I.1 y H;rw[e1,Z]at this;simp at this
theorem kf:∀ {b:Ty} {S O:Nat->Prop} {H:Option Nat} {pos:Nat} {y:b.den} {c:List Value} {q:List Nat},b.flat=true->Mx w S b H pos y c q->Rd w O b y c
 |.int _,_,_,_,_,_,_,_,_,h=>h.1
 |.bool,_,_,_,_,_,_,_,_,h=>h.1
 |.str,_,_,_,_,_,_,_,_,h=>h.1
 |.unit,_,_,_,_,_,_,_,_,h=>h.1
 |.hdr,_,_,_,_,_,_,_,_,h=>h.1
 |.pair _ _,_,_,_,_,_,_,_,r,⟨z,M,R,Y,J,X,u,I⟩=>by
  simp only[Ty.flat,BI]at r;exact⟨z,M,J,kf r.1 u,kf r.2 I⟩
 |.list _ _ _,_,_,_,_,_,_,_,r,_=>by simp[Ty.flat]at r
theorem mm (h:an P V W st a w){G:Nat->Prop}{off n:Nat}{hol J:Option Nat}(a3:∀ k,off<=k->k<off+n->J≠some k)(R:∀ k,¬ (off<=k/\k<off+n)->(J=some k<->hol=some k)) :
  ∀ (b:Ty) (pos:Nat) (x:b.den) (ls:List Leaf) (cs:List Value) (t:cH b.den) (Y:List Value) (z:List Nat),aB P V W st w ls cs->c9 st off n b pos x ls=some t->Mx w G b hol pos x Y z ->
  ∃ O c2 c' I,cs=O++c2/\aB P V W st w t.rest c2/\O.length=min (off+n) (pos+b.cells)-max off pos /\
   Mx w (λk=>G k\/bo V W t.p t.frz k) b J pos t.val c' I /\
   (∀ i,i<b.cells->c'[i]?=if off<=pos+i/\pos+i<off+n then O[pos+i-max off pos]? else Y[i]?) /\
   (∀ k,I.count k<=z.count k+(aX W t.kill).count k)/\(∀ x∈t.frz,aA st x)/\(∀ x∈t.kill,aA st x)
 |.pair b c,pos,x,ls,cs,t,Y,z,M,r,⟨d1,d2,b1,b2,e1,e2,a9,b4⟩=>by
  simp only[c9]at r;split at r
  ·rename_i u X;split at r
   ·rename_i v hc;simp only[BG]at r;subst r;obtain⟨O,c2,c',I,f1,f2,f3,f4,f5,f6,f7,f8⟩:=mm h a3 R b pos x.1 ls cs u d1 b1 M X a9;obtain⟨c3,c4,ad,a1,g1,g2,g3,g4,g5,g6,g7,g8⟩:=mm h a3 R c (pos+b.cells) x.2 u.rest c2 v d2 b2 f2 hc b4;have b9:=f4.len;have bb:=g4.len;have b3:=a9.len;refine⟨O++c3,c4,c'++ad,I++a1,by rw[f1,g1,BW],g2,?_,⟨c',ad,I,a1,rfl,rfl,?_,?_⟩,?_,?_,?_,?_⟩
    ·rw[BY,f3,g3];simp only[Ty.cells];omega
    ·refine f4.mono λk H=>?_
     rcases H with H|H|⟨y,hy,H⟩
     ·exact .inl H
     ·exact .inr (.inl (bT (by intro h;simp[h]) (λ_ h=>h) k H))
     ·exact .inr (.inr ⟨y,BP _ hy,H⟩)
    ·refine g4.mono λk H=>?_
     rcases H with H|H|⟨y,hy,H⟩
     ·exact .inl H
     ·exact .inr (.inl (bT (by intro h;simp[h]) (λ_ h=>h) k H))
     ·exact .inr (.inr ⟨y,BK _ hy,H⟩)
    ·intro i hi;simp only[Ty.cells]at hi;rw[e1];by_cases b5:i<b.cells
     ·rw[BN (by omega),f5 i b5];by_cases hr:off<=pos+i/\pos+i<off+n
      ·rw[if_pos hr,if_pos hr,BN (by omega)]
      ·rw[if_neg hr,if_neg hr,BN (by omega)]
     ·rw[BM (by omega),b9,g5 (i-b.cells) (by omega)];have e3:pos+b.cells+(i-b.cells)=pos+i:=by omega
      rw[e3];by_cases hr:off<=pos+i/\pos+i<off+n
      ·rw[if_pos hr,if_pos hr,BM (by omega)];congr 1;omega
      ·rw[if_neg hr,if_neg hr,BM (by omega),b3]
    ·intro k;rw[e2,BL,BL,dE,BL];have:=f6 k;have:=g6 k;omega
    ·intro y hy;exact (BR.1 hy).elim (f7 y) (g7 y)
    ·intro y hy;exact (BR.1 hy).elim (f8 y) (g8 y)
   ·cases r
  ·cases r
 |.unit,pos,x,ls,cs,t,Y,z,M,r,hm=>by
  simp only[c9,BG]at r;subst r;refine⟨[],cs,[],[],rfl,M,by simp only[Ty.cells,Ch];omega,⟨rfl,rfl⟩,λi hi=>by simp[Ty.cells]at hi,λk=>by simp,by simp,by simp⟩
 |.hdr,pos,x,ls,cs,t,Y,z,M,r,hm=>by simp[c9]at r
 |.int k,pos,x,ls,cs,t,Y,z,M,r,hm=>put_scalar h (b:=.int k) rfl rfl M r hm
 |.bool,pos,x,ls,cs,t,Y,z,M,r,hm=>put_scalar h (b:=.bool) rfl rfl M r hm
 |.str,pos,x,ls,cs,t,Y,z,M,r,hm=>put_scalar h (b:=.str) rfl rfl M r hm
 |.list m E e,pos,x,ls,cs,t,Y,z,M,r,hm=>by
  simp only[c9]at r;have ba:=hm.len;have e0:(Ty.list m E e).cells=1:=rfl;cases X:Cv off pos&&DB pos (off+n) with
  |true =>
   rw[X]at r;simp only[cond_true]at r;simp only[BI,Cl]at X;have b0:=CT X.1;obtain⟨O,c2,l1,e1,e2,h1,h2,h3,h4,h5⟩:=lL h (.list m E e) pos ls cs t M r;have a2:=h3.len;refine⟨O,c2,O,aX W t.kill,e1,h2,by rw[a2];omega,?_,λi hi=>?_,λk=>by omega,h4,h5⟩
   ·have Z:=h3.mono (G':=λk=>G k\/bo V W t.p t.frz k) (λk H=>.inr H);cases m with
    |false=>rw[cm]at Z ⊢;exact Z
    |true =>
     rw[bH (by simp)]at Z;rw[bH (a3 pos b0 X.2)];exact Z
   ·rw[if_pos (by omega)];congr 1;omega
  |false =>
   rw[X]at r;simp only[cond_false,BG]at r;subst r;have a5:¬ (off<=pos/\pos<off+n):=by
    rintro⟨h1,h2⟩;have:(Cv off pos&&DB pos (off+n))=true:=by
     simp only[BI,Cl];exact⟨Ce h1,h2⟩
    rw[X]at this;cases this
   refine⟨[],cs,Y,z,rfl,M,by simp only[Ch];omega,?_,λi hi=>?_,λk=>by omega,by simp,by simp⟩
   ·have Z:=hm.mono (G':=λk=>G k\/bo V W false [] k) (λk H=>.inl H);cases m with
    |false=>rw[cm]at Z ⊢;exact Z
    |true =>
     by_cases hp:hol=some pos
     ·have a4:=(R pos a5).2 hp;subst hp;subst a4;rw[jc]at Z ⊢;exact Z
     ·have a4:J≠some pos:=λe=>hp ((R pos a5).1 e)
      rw[bH hp]at Z;rw[bH a4];exact Z
   ·rw[if_neg (by omega)]
where
 put_scalar (h:an P V W st a w) {b:Ty} {pos:Nat} {x:b.den} {ls:List Leaf} {cs:List Value} {t:cH b.den} {Y:List Value} {z:List Nat} (hf:b.flat=true) (h1:b.cells=1) (M:aB P V W st w ls cs)
   (r:(bif Cv off pos&&DB pos (off+n) then take st b ls else some ⟨false,x,[],[],ls⟩)=some t) (hm:Mx w G b hol pos x Y z) :
   ∃ O c2 c' I,cs=O++c2/\aB P V W st w t.rest c2/\O.length=min (off+n) (pos+b.cells)-max off pos /\
    Mx w (λk=>G k\/bo V W t.p t.frz k) b J pos t.val c' I /\
    (∀ i,i<b.cells->c'[i]?=if off<=pos+i/\pos+i<off+n then O[pos+i-max off pos]? else Y[i]?) /\
    (∀ k,I.count k<=z.count k+(aX W t.kill).count k)/\(∀ x∈t.frz,aA st x)/\(∀ x∈t.kill,aA st x):=by
  have a0:∀ {S S':Nat->Prop} {hh a6:Option Nat} {y:b.den} {c:List Value} {q:List Nat},Mx w S b hh pos y c q->Mx w S' b a6 pos y c []:=by
   intro S S' hh a6 y c q hq;exact Mx.flat (w:=w) (G:=λ_=>True) hf (kf hf hq)
  cases X:Cv off pos&&DB pos (off+n) with
  |true =>
   rw[X]at r;simp only[cond_true]at r;simp only[BI,Cl]at X;have b0:=CT X.1;obtain⟨O,c2,l1,e1,e2,h2,h3,h4,h5,Z⟩:=lL h b pos ls cs t M r;have a2:=h4.len;refine⟨O,c2,O,[],e1,h3,by rw[a2];omega,a0 h4,λi hi=>?_,λk=>by simp,h5,Z⟩;rw[if_pos (by omega)];congr 1;omega
  |false =>
   rw[X]at r;simp only[cond_false,BG]at r;subst r;have a5:¬ (off<=pos/\pos<off+n):=by
    rintro⟨h1,h2⟩;have:(Cv off pos&&DB pos (off+n))=true:=by
     simp only[BI,Cl];exact⟨Ce h1,h2⟩
    rw[X]at this;cases this
   refine⟨[],cs,Y,[],rfl,M,by simp only[Ch];omega,a0 hm,λi hi=>?_,λk=>by simp,by simp,by simp⟩;rw[if_neg (by omega)]
end
section
variable {P:Program} {V:Env} {Γ:List Ctr} {T:TypeId->TI} {st st2:St} {o:Oper} {R:Type} {κ:Upd->Option R} {r:R}
def vh (V:Env)(W:Wit)(st:St)(q j k:Nat):Prop :=
 ¬ W.nw k/\¬ V.prot k/\(∀ b,live st b->W.β b≠k)/\∀ (u i:Nat) (l:Leaf),(st u).ls[i]?=some l->am l->(u,i)≠(q,j)->k∉W.bs u i
structure x7 (st st2:St) (q j:Nat) (l':Leaf):Prop where
 sh:∀ r,(st2 r).sh=(st r).sh
 ver:∀ r,(st r).ver<=(st2 r).ver
 epo:(st EPO).ver<(st2 EPO).ver
 len:∀ r,(st2 r).ls.length=(st r).ls.length
 at_:∀ l,(st2 q).ls[j]?=some l->l=l'
 old:∀ r i l,(r,i)≠(q,j)->(st2 r).ls[i]?=some l->(st r).ls[i]?=some l
def Wit.tell (W:Wit)(q j:Nat)(bs:List Nat):Wit:={ W with bs:=λr i=>if (r,i)=(q,j) then bs else W.bs r i }
theorem an.retell (hV:ax V){W:Wit}{a:Act}{w w':World}(h:an P V W st a w){q j:Nat}{l l':Leaf}(O:x7 st st2 q j l'){v:Value}{bs':List Nat}
  (hl:(st q).ls[j]?=some l) (a6:am l) (hv:(W.cs q)[j]?=some v) (b4:am l') (a5:aK P V W st w' bs' l' v)
  (a4:∀ k∈bs',vh V W st q j k)
  (H:∀ k,ca V W st k->k∉W.bs q j->w'.heap[k]?=w.heap[k]?) (ad:w.heap.size<=w'.heap.size) (b0:w'.os=w.os) (ht:w'.tape=w.tape) (ho:w'.output=w.output) :
  an P V (W.tell q j bs') st2 a w':=by
 have a0:=h.ownb q j _ hl a6;have Y:∀ b,live st2 b<->live st b:=iC O.sh;have a1:∀ {y i:Nat},(y,i)≠(q,j)->(W.tell q j bs').bs y i=W.bs y i:=λh=>if_neg h
 have a3:(W.tell q j bs').bs q j=bs':=if_pos rfl;have b2:∀ (y i:Nat) (l:Leaf),(st2 y).ls[i]?=some l->am l->(y,i)≠(q,j)->(st y).ls[i]?=some l:=λy i l X _ J=>O.old y i l J X
 have I:cB V W (W.tell q j bs') st st2 w w':=by
  refine⟨λy=>⟨O.ver y,λ_=>rfl⟩,λb hb=>⟨(Y b).2 hb,rfl⟩,λ_ h=>h,λk z=>H k (z.elim .inl (λh=>.inr (.inl h))) (λhm=>?_),λhe=>?_⟩
  ·rcases z with z|z
   ·exact (a0 k hm).1 z
   ·exact (a0 k hm).2.1 z
  ·have:=O.epo;omega
 exact {
  nt:=h.nt,df:=h.df
  slots:=λt b3=>by rw[O.sh];exact h.slots t b3
  boxes:=λb hb=>by
   rw[O.sh];rcases h.boxes b hb with ⟨X,J⟩|⟨X,E0,J⟩
   ·refine .inl ⟨X,B4 ?_⟩;rw[O.len,J];rfl
   ·refine .inr ⟨X,E0,?_⟩;show w'.heap[W.β b]?=_;rw[H _ (.inr (.inr (.inl ⟨b,⟨hb,X⟩,rfl⟩))) (λhm=>(a0 _ hm).2.2 b ⟨hb,X⟩ rfl)];exact J
  len:=λy=>by rw[O.len];exact h.len y
  one:=h.one
  leaf:=λy i l1 u X J=>by
   by_cases M:(y,i)=(q,j)
   ·cases M;obtain rfl:=O.at_ l1 X;have J:(W.cs q)[j]?=some u:=J;rw[hv]at J;simp only[BG]at J;subst J;rw[a3];have a9:cB V W (W.tell q j bs') st st2 w' w':=⟨I.ver,I.box,I.nw,λ_ _=>rfl,λhe=>by have:=O.epo;omega⟩;exact a5.carry hV.ro a9 (λ_=>⟨rfl,λ_ _=>rfl⟩)
   ·have h3:=O.old y i l1 M X;rw[a1 M];refine (h.leaf y i l1 u h3 J).carry hV.ro I (λho=>⟨rfl,λk z=>H k (.inr (.inr (.inr ⟨y,i,l1,h3,ho,z⟩))) (λhm=>M ?_)⟩);obtain⟨rfl,rfl⟩:=h.sep y i l1 q j _ h3 ho hl a6 k z hm;rfl
  ownb:=λy i l1 X J k z=>by
   by_cases M:(y,i)=(q,j)
   ·cases M;rw[a3]at z;obtain⟨q1,q2,q3,_⟩:=a4 k z;exact⟨q1,q2,λb hb=>q3 b ((Y b).1 hb)⟩
   ·rw[a1 M]at z;obtain⟨q1,q2,q3⟩:=h.ownb y i l1 (O.old y i l1 M X) J k z;exact⟨q1,q2,λb hb=>q3 b ((Y b).1 hb)⟩
  sep:=λy i l1 r2 i2 l2 X J h3 h4 k z a2=>by
   by_cases M:(y,i)=(q,j) <;> by_cases Z:(r2,i2)=(q,j)
   ·rw[<- Z]at M;cases M;exact⟨rfl,rfl⟩
   ·cases M;rw[a3]at z;rw[a1 Z]at a2;exact absurd a2 ((a4 k z).2.2.2 r2 i2 l2 (O.old r2 i2 l2 Z h3) h4 Z)
   ·cases Z;rw[a3]at a2;rw[a1 M]at z;exact absurd z ((a4 k a2).2.2.2 y i l1 (O.old y i l1 M X) J M)
   ·rw[a1 M]at z;rw[a1 Z]at a2;exact h.sep y i l1 r2 i2 l2 (O.old y i l1 M X) J (O.old r2 i2 l2 Z h3) h4 k z a2
  box:=λb hb=>h.box b ((Y b).1 hb)
  inj:=λb b' hb b1=>h.inj b b' ((Y b).1 hb) ((Y b').1 b1)
  nwlt:=λk z=>⟨CQ (h.nwlt k z).1 ad,(h.nwlt k z).2⟩
  os:=b0.trans h.os,tape:=ht.trans h.tape,output:=ho.trans h.output,size:=CO h.size ad
  keep:=λk hp=>by
   rw[H k (.inr (.inl hp)) (λhm=>(a0 k hm).2.1 hp)];exact h.keep k hp
  fixb:=λx hx=>⟨(Y _).2 (h.fixb x hx).1,(h.fixb x hx).2⟩
  fixt:=h.fixt }
theorem kT {q:Nat}(st:St):∀ (ks:List (Nat×Nat)),(∀ x∈ks,x.1≠q)->ac (aE st ks) st q=st q
 |[],_=>rfl
 |(r,j)::ks,h=>by
  have e:ac (aE st ((r,j)::ks)) st=ac [(r,fV (ac (aE st ks) st r) j)] (ac (aE st ks) st):=aQ _ _ _ _;rw[e,aJ (CW (h (r,j) (B5 ..))),kT st ks (λx u=>h x (BV _ u))]
theorem kE {q:Nat}(st:St):∀ (ks:List (Nat×Nat)),(∀ x∈ks,x.1≠q)->ac (aN st ks) st q=st q
 |[],_=>rfl
 |(r,j)::ks,h=>by
  have e:ac (aN st ((r,j)::ks)) st=ac [(r,fZ (ac (aN st ks) st r) j)] (ac (aN st ks) st):=aQ _ _ _ _;rw[e,aJ (CW (h (r,j) (B5 ..))),kE st ks (λx u=>h x (BV _ u))]
theorem OwH.store {w:World}{G G':Nat->Prop}{h h':Option (Nat×Nat)}{E:TypeId}{e:Ty}{xs:List e.den}{g len a4:Nat}{bs K:List Nat}(H:OwH w G h E e xs (.slice (some ⟨g,0,none⟩) len a4) bs)
  (hG:∀ k,G k->G' k) (c2:¬ G' g) (hK:K.Nodup) (cy:∀ k∈K,k∉bs) {i:Nat} {a5 z:e.den} (hi:xs[i]?=some a5) (hh:∀ j,j≠i->cI h' j=cI h j) {off:Nat} {cs:List Value} (e4:off+cs.length<=e.cells)
  (M:∀ c0 bx,Mx w G e (cI h i) 0 a5 c0 bx->∃ c J,Mx w G' e (cI h' i) 0 z c J/\(∀ k,k<e.cells->c[k]?=if off<=k/\k<off+cs.length then cs[k-off]? else c0[k]?)/\∀ k,J.count k<=bx.count k+K.count k) :
  ∃ b1,OwH (w.setCells g (i*e.cells+off) cs) G' h' E e (xs.set i z) (.slice (some ⟨g,0,none⟩) len a4) b1/\∀ k∈b1,k∈bs\/k∈K:=by
 obtain⟨cb,Z,Y,h1,h2,h3⟩:=H;have ad:i<xs.length:=(BJ.1 hi).1;obtain⟨c0,bb,cu⟩:=h3 i a5 hi;obtain⟨c,J,hm,c4,b3⟩:=M c0 (Y i) bb;have d1:=h1.1;rcases h1.2 with ⟨h4,_⟩|⟨g',e1,y,mk,h4,hg,bl,cx,cp,a9⟩
 ·simp at h4
 ·simp only[CF,BG,Cq,and_true,true_and]at h4;obtain⟨rfl,rfl,rfl⟩:=h4;have e3:g∈bs:=by rw[h2];simp[CB]
  have dd:=bb.len;have cw:=hm.len;have bn:(i+1)*e.cells<=xs.length*e.cells:=BT _ ad;rw[CI]at bn;have e2:xs.length*e.cells<=a4*e.cells:=BT _ bl;have cc:y.toList.length=y.size:=by rw[CG]
  have ba:Z=y.toList.take (xs.length*e.cells):=a9.symm;have M:=jT g E cs 0 (i*e.cells+off) w y hg;have c3:=k8 y.toList cs (i*e.cells+off) (by omega);rw[CC]at c3;rw[c3]at M;simp only[CM]at M;have a1:∀ k,k<xs.length*e.cells->(y.toList.take (i*e.cells+off)++cs++y.toList.drop (i*e.cells+off+cs.length))[k]? =
    if i*e.cells+off<=k/\k<i*e.cells+off+cs.length then cs[k-(i*e.cells+off)]? else Z[k]?:=by
   intro k X;have b0:Z[k]?=y.toList[k]?:=by rw[ba,CK,if_pos X]
   by_cases h9:k<i*e.cells+off
   ·rw[BW,BN (by simp only[CA];omega),CK,if_pos h9,if_neg (by omega),b0]
   ·by_cases d2:k<i*e.cells+off+cs.length
    ·rw[BW,BM (by simp only[CA];omega),BN (by simp only[CA];omega),if_pos ⟨by omega,d2⟩];congr 1;simp only[CA];omega
    ·rw[BM (by simp only[CA,BY];omega),CZ,if_neg (by omega),b0];congr 1;simp only[CA,BY];omega
  have O:(y.toList.take (i*e.cells+off)++cs++y.toList.drop (i*e.cells+off+cs.length)).length=y.size:=by
   simp only[BY,CA,Cs];omega
  have a2:∀ k,([g]++(BU xs.length).flatMap λj=>if j=i then J else Y j).count k<=bs.count k+K.count k:=by
   intro k;have h5:=kD ad Y J k;have h6:=b3 k;rw[h2];simp only[CB,DF,BL];omega
  have a0:=nd cb hK cy a2;have c1:∀ j,j<xs.length->∀ k∈(if j=i then J else Y j),k≠g:=by
   intro j hj k X e0;subst e0;have h7:=a0.1;rw[C3,CR]at h7;exact h7.1 (dQ.2 ⟨j,hj,X⟩)
  have I:∀ k,k≠g->(w.setCells g (i*e.cells+off) cs).heap[k]?=w.heap[k]?:=λk X=>eP g cs _ w k X
  refine⟨[g]++(BU xs.length).flatMap λj=>if j=i then J else Y j,⟨a0.1,(y.toList.take (i*e.cells+off)++cs++y.toList.drop (i*e.cells+off+cs.length)).take (xs.length*e.cells),
   λj=>if j=i then J else Y j,⟨?_,.inr ⟨g,a4,_,_,?_,M,?_,by rw[Cc,O];exact cx,?_,?_⟩⟩,?_,?_⟩,a0.2⟩
  ·rw[CA,O,CS];omega
  ·rw[CS]
  ·rw[CS];exact bl
  ·rw[Cc,O];exact cp
  ·rw[CS]
  ·simp[CB]
  ·intro j x hj;rcases aS _ _ _ _ _ hj with ⟨rfl,rfl,_⟩|⟨a3,hj⟩
   ·refine⟨c,?_,λk u hu=>?_⟩
    ·simp only[if_true];exact hm.carry (λ_ h=>h) (λk X=>I k (λe0=>c2 (e0 ▸ X))) (λk X=>I k (c1 j ad k (by simpa using X)))
    ·have b4:k<e.cells:=by rw[<- cw];exact (BJ.1 hu).1
     rw[CK,if_pos (by omega),a1 _ (by omega)];rw[c4 k b4]at hu;by_cases b9:off<=k/\k<off+cs.length
     ·rw[if_pos b9]at hu;rw[if_pos (by omega),<- hu];congr 1;omega
     ·rw[if_neg b9]at hu;rw[if_neg (by omega)];exact cu k u hu
   ·obtain⟨c',b5,dc⟩:=h3 j x hj;have b2:j<xs.length:=(BJ.1 hj).1;refine⟨c',?_,λk u hu=>?_⟩
    ·rw[hh j a3];simp only[if_neg a3];exact b5.carry hG (λk X=>I k (λe0=>c2 (e0 ▸ hG k X))) (λk X=>I k (c1 j b2 k (by rw[if_neg a3];exact X)))
    ·have b4:k<e.cells:=by rw[<- b5.len];exact (BJ.1 hu).1
     have d3:(j+1)*e.cells<=xs.length*e.cells:=BT _ b2;rw[CI]at d3;rw[CK,if_pos (by omega),a1 _ (by omega),if_neg ?_]
     ·exact dc k u hu
     ·rintro⟨h14,h15⟩;rcases Nat.lt_or_gt_of_ne (λe=>a3 e.symm:i≠j) with a6|a6
      ·have:(i+1)*e.cells<=j*e.cells:=BT _ a6;rw[CI]at this;omega
      ·have:(j+1)*e.cells<=i*e.cells:=BT _ a6;rw[CI]at this;omega
theorem x8 (hV:ax V)(hT:TOk P T){t:TypeId}{x y:Operand}(bl:o.op=.store t x y)(h:act Γ T o st κ=some r):bV P V o st κ r:=by
  simp only[act,wrU,bl]at h;split at h
  · cases h
  · rename_i hd
    cases hb:BX (au st y).2.length (T t).cells&&decide ((au st y).1=bg (T t).agg)&&!decide ((T t).cells=0) with
    |false=>simp[hb]at h
    |true =>
      simp only[hb,cond_true]at h;simp only[BI,decide_eq_true_eq,B7,decide_eq_false_iff_not]at hb;obtain⟨⟨bb,cy⟩,b3⟩:=hb;have bb:=BO bb;split at h
      · rename_i b off hx
        cases Y:decide ((st b).sh=.agg)&&decide (off+(au st y).2.length<=(st b).ls.length)&&ib st (au st y).2 with
        |false=>simp[Y]at h
        |true =>
          simp only[Y,cond_true]at h;simp only[BI,decide_eq_true_eq]at Y;exact⟨_,h,λW a w hr=>tB hV hT bl hd hx bb cy b3 Y.1.1 Y.1.2 Y.2 hr⟩
      · rename_i z j g3 i sz off hx
        split at h
        · rename_i p hh E e xs ec
          cases Y:BX sz e.cells&&decide (off+(au st y).2.length<=e.cells)&&sa z with
          |false=>simp[Y]at h
          |true =>
            simp only[Y,cond_true]at h;simp only[BI,decide_eq_true_eq,sa,B7]at Y;obtain⟨⟨b0,g1⟩,fx,f0⟩:=Y;have b0:=BO b0;subst b0;have et:z≠EPO:=λe0=>by subst e0;simp at f0
            unfold gG at h;obtain⟨a1,cx,h⟩:=CD.1 h;obtain⟨_,_,h4⟩:=gm cx;simp only[DI]at h4;split at h
            · rename_i u hu
              cases hq:u.rest.isEmpty&&aY u.kill&&dx u.frz u.kill&&!((u.kill++u.frz).any λk=>BX k.1 z) with
              |false=>rw[hq]at h;cases h
              |true =>
                simp only[hq,cond_true]at h;simp only[BI,B7,CE]at hq;obtain⟨⟨⟨ed,e7⟩,ej⟩,a2⟩:=hq;have a2:∀ k∈u.kill++u.frz,k.1≠z:=λk H e0=>a2 k H (by simp[e0])
                obtain ⟨I, hκ, cp, a6, d1⟩ : ∃ I : Option (Nat × Nat), κ ((z, ⟨(st z).ver, (st z).sh, aT (st z).ls j (.own (p || u.p) I E e (xs.set i u.val))⟩) :: (EPO, bU (ac (aN (ac (aE st u.frz) st) u.kill ++ aE st u.frz) st EPO)) ::
                      (aN (ac (aE st u.frz) st) u.kill++aE st u.frz))=some r /\
                    (∀ k,off<=k->k<off+(au st y).2.length->cI I i≠some k)/\(∀ k,¬ (off<=k/\k<off+(au st y).2.length)->(cI I i=some k<->cI hh i=some k))/\(∀ j',j'≠i->cI I j'=cI hh j'):=by
                  cases hh with
                  |none=>exact⟨none,h,λ_ _ _=>by simp[cI],λ_ _=>Cn,λ_ _=>rfl⟩
                  |some hp =>
                    obtain⟨hi,ho⟩:=hp;simp only at h;cases J:Cv off ho&&DB ho (off+(au st y).2.length) with
                    |true =>
                      rw[J]at h;simp only[cond_true]at h;simp only[BI,Cl]at J;have fl:=CT J.1;cases a4:BX i hi with
                      |true =>
                        rw[a4]at h;have:=BO a4;subst this;refine⟨none,h,λ_ _ _=>by simp[cI],λk H=>?_,λj' fo=>?_⟩
                        · simp only[cI,Nat.beq_refl,cond_true,reduceCtorEq,BG,false_iff]
                          rintro rfl;exact H ⟨fl,J.2⟩
                        · have:BX i j'=false:=by
                            cases b2:BX i j' with
                            |false=>rfl
                            |true=>exact absurd (BO b2).symm fo
                          simp[cI,this]
                      |false =>
                        rw[a4]at h;have ex:BX hi i=false:=by
                          cases b2:BX hi i with
                          |false=>rfl
                          |true =>
                            have:=BO b2;subst this;simp at a4
                        exact⟨some (hi,ho),h,λ_ _ _=>by simp[cI,ex],λ_ _=>Cn,λ_ _=>rfl⟩
                    |false =>
                      rw[J]at h;refine⟨some (hi,ho),h,λk bn e6=>?_,λ_ _=>Cn,λ_ _=>rfl⟩;simp only[cI];cases BX hi i with
                      |false=>simp
                      |true =>
                        simp only[cond_true,ne_eq,BG];rintro rfl;have:(Cv off ho&&DB ho (off+(au st y).2.length))=true:=by
                          simp only[BI,Cl];exact⟨Ce bn,e6⟩
                        rw[J]at this;cases this
                refine⟨_,hκ,λW a w hr next Q hn=>?_⟩;obtain⟨cs,hs,M⟩:=cQ hr y;rw[cy]at hs;have e5:=gV hs M.one';have cu:=M.length;obtain⟨h5,h6⟩:=ff ec (by simp);obtain⟨hp,_,_,_⟩:=br hr x (by rw[hx];simp);rw[hx]at hp;obtain⟨g,es,ef,ad,g2,hv⟩:=hp.2 h5;have fc:T t≠.none:=by intro e;rw[e]at b3;exact b3 rfl
                have a3:=hr.leaf z j _ _ h6 ad;have eb:∀ c0 X,Mx w (gd V W p) e (cI hh i) 0 a1 c0 X->∃ c a0,Mx w (λk=>gd V W p k\/bo V W u.p u.frz k) e (cI I i) 0 u.val c a0 /\
                    (∀ k,k<e.cells->c[k]?=if off<=k/\k<off+cs.length then cs[k-off]? else c0[k]?)/\∀ k,a0.count k<=X.count k+(aX W u.kill).count k:=by
                  intro c0 X hm;obtain⟨c1,c2,c',bs',f1,f2,f3,f4,f5,f6,f7,f8⟩:=mm hr cp a6 e 0 a1 (au st y).2 cs u c0 X M hu hm;have dc:c2=[]:=by
                    have:=f2.length;rw[DQ.1 ed]at this;exact B4 this.symm
                  subst dc;rw[B9]at f1;subst f1;refine⟨c',bs',f4,λk H=>?_,f6⟩;rw[f5 k H,cu];simp only[CX];by_cases J:off<=k/\k<off+cs.length
                  · rw[if_pos J,if_pos J]
                    congr 1;omega
                  · rw[if_neg J,if_neg J]
                have b9:(∀ x∈u.frz,aA st x)/\(∀ x∈u.kill,aA st x):=by
                  obtain⟨_,a5,d2,_,_,cw⟩:=a3;obtain⟨c0,en,_⟩:=cw i a1 h4;obtain⟨_,_,_,_,_,_,_,_,_,_,f7,f8⟩:=mm hr cp a6 e 0 a1 (au st y).2 cs u c0 _ M hu en;exact⟨f7,f8⟩
                obtain⟨k1,k2,k3,k4⟩:=fI hV hr ej b9.2;have O:ac (aN (ac (aE st u.frz) st) u.kill++aE st u.frz) st z=st z:=by
                  rw[bB,kE _ _ (λx hx=>a2 x (BP _ hx)),kT _ _ (λx hx=>a2 x (BK _ hx))]
                have h7:(ac (aN (ac (aE st u.frz) st) u.kill++aE st u.frz) st z).ls[j]?=some (.own p hh E e xs):=by rw[O];exact h6
                have a9:=k1.ownb z j _ h7 trivial;have cc:∀ k,gd V W p k\/bo V W u.p u.frz k->gd V (W.frz st u.frz) (p||u.p) k:=by
                  rintro k (H|H)
                  · exact bT (W':=W.frz st u.frz) (by intro h;simp[h]) (λ_ h=>Or.inl h) k H
                  · exact bT (W':=W.frz st u.frz) (by intro h;simp[h]) (λ_ h=>h) k (kt b9.1 k H)
                have b4:g∈W.bs z j:=by obtain⟨_,a5,d2,_,dd,_⟩:=a3;rw[dd];simp[CB]
                have fr:¬ gd V (W.frz st u.frz) (p||u.p) g:=by
                  rintro (H|⟨_,H⟩)
                  · exact (a9 g b4).1 H
                  · exact (a9 g b4).2.1 (hV.ro g H)
                have eg:∀ k∈aX W u.kill,k∉W.bs z j:=λk H ev=>(k4 k H).2.2.2.2 z j _ h7 trivial ev
                obtain⟨bs',cb,c3⟩:=OwH.store (G':=gd V (W.frz st u.frz) (p||u.p)) (h':=I) a3 (λk H=>cc k (.inl H)) fr (gP hr e7 b9.2) eg h4 d1 (off:=off) (cs:=cs) (by omega)
                  (λc0 X hm=>by
                    obtain⟨c,a0,q1,q2,q3⟩:=eb c0 X hm;exact⟨c,a0,q1.mono cc,q2,q3⟩)
                obtain⟨_,a5,d2,ho,dd,_⟩:=a3;have em:es=xs.length:=by
                  obtain⟨A,c4,e0,_⟩:=ho.slice;simp only[CF]at e0;exact e0.2.1
                subst em;rcases ho.2 with ⟨h8,_⟩|⟨g',c4,cur,mk,h8,hg,fd,fi,fz,_⟩
                · simp at h8
                · simp only[CF,BG,Cq,and_true,true_and]at h8
                  obtain⟨rfl,rfl⟩:=h8;have d3:(i+1)*e.cells<=xs.length*e.cells:=BT _ (BJ.1 h4).1;rw[CI]at d3;have fv:xs.length*e.cells<=ef*e.cells:=BT _ fd;have b1:cur.toList.length=cur.size:=by rw[CG]
                  have bx:=nc (P:=P) (oO (hT t) fc) (w:=w) (b:=g) (off:=i*e.cells+off) (cur:=cur.toList) (E:=E) (by rw[CC];exact hg) (by rw[b1];exact zH fi) e5 (by omega) M.one' (by omega);refine pB (w':=w.setCells g (i*e.cells+off) cs) (by simp[execOp,bl,hv,bx]) ?_;rw[hd];refine hn _ _ ?_;obtain⟨e1,e2,e3,e4⟩:=jU g cs (i*e.cells+off) w;refine⟨_,k1.retell hV (l':=.own (p||u.p) I E e (xs.set i u.val)) (w':=w.setCells g (i*e.cells+off) cs) (bs':=bs') ?_ h7 trivial ad trivial cb (λk H=>?_) (λk _ H=>eP g cs _ w k (λe=>H (e ▸ b4))) (Cu e4.symm) e1 e2 e3⟩
                  · rw[aQ z,aQ EPO]
                    have Z:EPO≠z:=CW et;generalize aN (ac (aE st u.frz) st) u.kill++aE st u.frz=U at O ⊢;refine⟨λq=>?_,λq=>?_,?_,λq=>?_,λl M=>?_,λq i' l hq M=>?_⟩
                    · rcases aj z q ⟨(st z).ver,(st z).sh,aT (st z).ls j (.own (p||u.p) I E e (xs.set i u.val))⟩ (ac [(EPO,bU (ac U st EPO))] (ac U st)) with ⟨rfl,e⟩ | ⟨_,e⟩
                      · rw[e,O]
                      · rw[e]
                        rcases aj EPO q (bU (ac U st EPO)) (ac U st) with ⟨rfl,e⟩|⟨_,e⟩ <;> rw[e];rfl
                    · rcases aj z q ⟨(st z).ver,(st z).sh,aT (st z).ls j (.own (p||u.p) I E e (xs.set i u.val))⟩ (ac [(EPO,bU (ac U st EPO))] (ac U st)) with ⟨rfl,e⟩ | ⟨_,e⟩
                      · rw[e,O];exact B3 _
                      · rw[e]
                        rcases aj EPO q (bU (ac U st EPO)) (ac U st) with ⟨rfl,e⟩|⟨_,e⟩ <;> rw[e]
                        · exact DV _
                        · exact B3 _
                    · rw[aJ Z,bj];exact BS _
                    · rcases aj z q ⟨(st z).ver,(st z).sh,aT (st z).ls j (.own (p||u.p) I E e (xs.set i u.val))⟩ (ac [(EPO,bU (ac U st EPO))] (ac U st)) with ⟨rfl,e⟩ | ⟨_,e⟩
                      · rw[e,O];simp[aT]
                      · rw[e]
                        rcases aj EPO q (bU (ac U st EPO)) (ac U st) with ⟨rfl,e⟩|⟨_,e⟩ <;> rw[e];rfl
                    · rw[bj]at M
                      rcases aS _ _ _ _ _ M with ⟨_,rfl,_⟩|⟨Z,_⟩
                      · rfl
                      · exact absurd rfl Z
                    · rcases aj z q ⟨(st z).ver,(st z).sh,aT (st z).ls j (.own (p||u.p) I E e (xs.set i u.val))⟩ (ac [(EPO,bU (ac U st EPO))] (ac U st)) with ⟨rfl,e⟩ | ⟨_,e⟩
                      · rw[e]at M
                        rw[O];rcases aS _ _ _ _ _ M with ⟨rfl,_,_⟩|⟨_,M⟩
                        · exact absurd rfl hq
                        · exact M
                      · rw[e]at M
                        rcases aj EPO q (bU (ac U st EPO)) (ac U st) with ⟨rfl,e⟩|⟨_,e⟩ <;> rw[e]at M <;> exact M
                  · rcases c3 k H with H|H
                    · have h9:=k1.ownb z j _ h7 trivial k H
                      exact⟨h9.1,h9.2.1,h9.2.2,λr1 i1 l1 b5 ba Z bn=>Z (by obtain⟨e1,e2⟩:=k1.sep r1 i1 l1 z j _ b5 ba h7 trivial k bn H;rw[e1,e2])⟩
                    · have h9:=k4 k H
                      exact⟨h9.1,h9.2.1,h9.2.2.2.1,λr1 i1 l1 b5 ba _=>h9.2.2.2.2 r1 i1 l1 b5 ba⟩
            · cases h
        · cases h
      · cases h
end
section
variable {P:Program} {V:Env} {Γ:List Ctr} {T:TypeId->TI} {st:St} {o:Oper} {R:Type} {κ:Upd->Option R} {r:R}
theorem an.putOwn (Z:ax V){W:Wit}{a:Act}{w w':World}(h:an P V W st a w)(O:w.heap.size<=w'.heap.size)(I:w'.os=w.os)(ht:w'.tape=w.tape)(ho:w'.output=w.output)
  (hk:∀ k,ca V W st k->w'.heap[k]?=w.heap[k]?) (d:Nat) (hd:d<V.nt) (z:∀ x∈V.fixt,x.1≠d) (n:Nat) (hn:(st d).ver<n) {p:Bool} {E:TypeId} {e:Ty} {xs:List e.den} {v:Value} {bs:List Nat}
  (X:Ow w' (gd V W p) E e xs v bs) (hb:∀ k∈bs,¬ ca V W st k):Rel P V (ac [(d,⟨n,.one,[.own p none E e xs]⟩)] st) (a.put (some d) v) w':=by
 refine⟨_,(h.world Z O I ht ho hk).put Z d hd z n .one [.own p none E e xs] v [v] (λ_=>bs) hn rfl rfl (λu hu=>by simp at hu;subst hu;exact X.one) ?_ ?_ ?_⟩
 ·intro j l u y H;cases j with
  |zero=>simp at y H;subst y;subst H;exact X
  |succ j=>simp at y
 ·intro j l y H k M;have:=hb k M;simp only[ca,not_or,not_exists,not_and]at this;exact⟨this.1,this.2.1,this.2.2.1,λr1 j1 l1 _ J Y=>this.2.2.2 r1 j1 l1 J Y⟩
 ·intro j j' l l' y H J Y k h5 h6;have h7:j<1:=(BJ.1 y).1;have h8:j'<1:=(BJ.1 J).1;omega
theorem dL {W:Wit}{p q:Bool}{y H:List (Nat×Nat)}:(∀ k,bo V W p y k->bo V W (p||q) (y++H) k)/\(∀ k,bo V W q H k->bo V W (p||q) (y++H) k):=by
 constructor
 ·rintro k (u|⟨x,z,u⟩)
  ·exact .inl (bT (W':=W) (by intro h;simp[h]) (λ_ h=>h) k u)
  ·exact .inr ⟨x,BP _ z,u⟩
 ·rintro k (u|⟨x,z,u⟩)
  ·exact .inl (bT (W':=W) (by intro h;simp[h]) (λ_ h=>h) k u)
  ·exact .inr ⟨x,BK _ z,u⟩
theorem x9 (n:Nat)(u:Nat->List Nat):(BU (n+1)).flatMap u=u 0++(BU n).flatMap λj=>u (j+1):=by
 rw[List.range_succ_eq_map,CU,DR]
theorem ou {W:Wit}{a:Act}{w:World}(X:an P V W st a w){e:Ty}:∀ (ps:List (Nat×Operand)) (k:Nat) (u:cH (List e.den)),eC st e k ps=some u ->
  ps.map (λx=>(x.1,a.eval x.2))=((ps.map λx=>a.eval x.2).zipIdx k).map (λx=>(x.2,x.1))/\u.val.length=ps.length/\(∀ x∈u.frz,aA st x)/\(∀ x∈u.kill,aA st x) /\
  ∃ z:Nat->List Nat,aX W u.kill=(BU u.val.length).flatMap z /\
   ∀ (j:Nat) (x:e.den),u.val[j]?=some x->∃ v c,(ps.map λx=>a.eval x.2)[j]?=some v/\v.cells=c.toArray/\Mx w (bo V W u.p u.frz) e none 0 x c (z j)
 |[],k,u,h=>by
  simp only[eC,BG]at h;subst h;exact⟨rfl,rfl,by simp,by simp,λ_=>[],rfl,λj x H=>by simp at H⟩
 |(i,y)::ps,k,u,h=>by
  simp only[eC]at h;cases I:BX i k&&decide ((au st y).1=bg e.isAgg) with
  |false=>simp[I]at h
  |true =>
   simp only[I,cond_true]at h;simp only[BI,decide_eq_true_eq]at I;have O:=BO I.1;subst O;split at h
   ·rename_i t1 u1 hg J;simp only[BG]at h;subst h;obtain⟨h1,h2,h3,h4,z,h5,h6⟩:=ou X ps (i+1) u1 J;obtain⟨cs,Z,Y⟩:=cQ X y;rw[I.2]at Z;have hc:=gV Z Y.one';obtain⟨g1,g2,g3⟩:=dJ (pos:=0) X Y hg;refine⟨by simp[h1],by simp[h2],λx M=>(BR.1 M).elim (g2 x) (h3 x),λx M=>(BR.1 M).elim (g3 x) (h4 x),λj=>match j with|0=>aX W t1.kill|j+1=>z j,?_,?_⟩
    ·rw[dE,h5,Ct,x9]
    ·intro j x H;cases j with
     |zero =>
      simp at H;subst H;exact⟨a.eval y,cs,by simp,hc,g1.mono dL.1⟩
     |succ j =>
      obtain⟨v,c,h7,h8,h9⟩:=h6 j x (by simpa using H);exact⟨v,c,by simpa using h7,h8,h9.mono dL.2⟩
   ·cases h
theorem lM (w:World)(G:Nat->Prop):∀ (b:Ty),Rd w G b b.zero (zeroCells b)
 |.int _=>rfl
 |.bool=>rfl
 |.str=>rfl
 |.unit=>rfl
 |.hdr=>⟨none,0,rfl⟩
 |.pair a b=>⟨_,_,rfl,lM w G a,lM w G b⟩
 |.list m E e=>Rd.nil w G m E e
theorem qG (w:World)(G:Nat->Prop):∀ (b:Ty) (pos:Nat),Mx w G b none pos b.zero (zeroCells b) []
 |.int _,_=>⟨rfl,rfl⟩
 |.bool,_=>⟨rfl,rfl⟩
 |.str,_=>⟨rfl,rfl⟩
 |.unit,_=>⟨rfl,rfl⟩
 |.hdr,_=>⟨⟨none,0,rfl⟩,rfl⟩
 |.pair a b,_=>⟨_,_,[],[],rfl,rfl,qG w G a _,qG w G b _⟩
 |.list m E e,_=>by
  cases m with
  |false=>exact cm.2 ⟨rfl,Rd.nil w G false E e⟩
  |true=>exact (bH (by simp)).2 ⟨_,rfl,(OwH.nil w G E e).2⟩
theorem mn {W:Wit}{k:Nat}(h:¬ W.nw k/\¬ V.prot k/\(∀ b,live st b->W.β b≠k)/\∀ (u i:Nat) (l:Leaf),(st u).ls[i]?=some l->am l->k∉W.bs u i):¬ ca V W st k:=by
 rintro (y|y|⟨b,z,e⟩|⟨u,i,l,I,J,H⟩)
 ·exact h.1 y
 ·exact h.2.1 y
 ·exact h.2.2.1 b z e
 ·exact h.2.2.2 u i l I J H
theorem mo:(9223372036854775807:Nat)<=maxLen:=by decide
theorem qH (hV:ax V)(hT:TOk P T)(ba:bL V o){t:TypeId}{n:Nat}{y:Array (Nat×Operand)}(a4:o.op=.buildSlice t n y)(h:act Γ T o st κ=some r):bV P V o st κ r:=by
 simp only[act,wrU,a4]at h;cases ht:T t with
 |slice E e bl =>
  simp only[ht]at h;split at h
  ·rename_i u c0;cases hb:BX u.val.length n&&decide (n*e.cells<=16777216)&&aY u.kill&&dx u.frz u.kill with
   |false=>simp[hb]at h
   |true =>
    simp only[hb,cond_true]at h;simp only[BI,decide_eq_true_eq]at hb;obtain⟨⟨⟨c3,cw⟩,bb⟩,c2⟩:=hb;have c4:=BO c3;subst c4;split at h
    ·rename_i d hd;refine⟨_,h,λW a w hr next Q hn=>?_⟩;have h1:=hT t;rw[ht]at h1;obtain⟨hu,_,_,Y,_,ti,z,a0,O,_,hz,cp⟩:=h1;obtain⟨h2,h3,ad,b9,b4,cc,h5⟩:=ou hr y.toList 0 u c0;generalize cu:u.val=I at *;have a3:∀ v∈(y.toList.map λx=>a.eval x.2),v.cells.size=e.cells:=by
      intro v hv;obtain⟨j,hj,e1⟩:=List.getElem_of_mem hv;have cb:j<I.length:=by rw[h3];simpa using hj
      obtain⟨v',c,X,Z,h8⟩:=h5 j I[j] (BZ cb);rw[BZ hj]at X;simp only[BG]at X;rw[<- e1,X,Z];simpa using h8.len
     have b0:(y.toList.map λx=>a.eval x.2).length=I.length:=by rw[Ci,h3]
     have a5:∀ (j:Nat) (x:e.den),I[j]?=some x->∃ c,Mx w (bo V W u.p u.frz) e none 0 x c (b4 j)/\∀ i u,c[i]?=some u ->
       ((y.toList.map λx=>a.eval x.2).flatMap λv=>v.cells.toList)[j*e.cells+i]?=some u:=by
      intro j x hj;obtain⟨v,c,X,Z,h8⟩:=h5 j x hj;refine⟨c,h8,λi u hi=>?_⟩;have b2:i<e.cells:=by rw[<- h8.len];exact (BJ.1 hi).1
      rw[Great.flat_get Y _ a3];have e1:(j*e.cells+i) / e.cells=j:=by
       rw[Cw,Nat.mul_add_div Y,Nat.div_eq_of_lt b2,CM]
      have e2:(j*e.cells+i) % e.cells=i:=by
       rw[Cw,Da,DS b2]
      rw[e1,e2,X];simpa[Z]using hi
     have a2:((y.toList.map λx=>a.eval x.2).flatMap λv=>v.cells.toList).length=I.length*e.cells:=by
      have:∀ (vs:List Value),(∀ v∈vs,v.cells.size=e.cells)->(vs.flatMap λv=>v.cells.toList).length=vs.length*e.cells:=by
       intro vs;induction vs with
       |nil=>intro _;simp
       |cons v vs ih =>
        intro hv;rw[CU,BY,ih (λu hu=>hv u (BV _ hu)),CG,hv v (B5 ..),Ct,CI];omega
      rw[this _ a3,b0]
     have H:=Great.fill_whole Y (y.toList.map λx=>a.eval x.2) ((Array.range (I.length*e.cells)).map ((if I.length*e.cells=0 then (#[]:Array Value) else z.cells)[· % (if I.length*e.cells=0 then (#[]:Array Value) else z.cells).size]!)) a3 (by rw[b0];simp);rw[<- h2]at H;have a1:(y.map λ (i,x)=>(i,a.eval x)).toList=y.toList.map λx=>(x.1,a.eval x.2):=by rw[DT]
     have a9:(execOp a.eval o).run P w=.ok (.value (.slice (some ⟨w.heap.size,0,none⟩) I.length I.length)) (w.alloc (.cells ((y.toList.map λx=>a.eval x.2).flatMap λv=>v.cells.toList).toArray E)):=by
      have M:¬ (I.length*e.cells>2 ^ 24):=by omega
      by_cases h0:I.length*e.cells=0
      ·rw[if_pos h0]at H;simp only[execOp,a4,Instr.buildSlice,DJ,run_underlying hu,Co,sizeOf,typeInfo,a0,O,a1];simp[M,h0,newRow,a0,O,a1]at H ⊢;simp[H]
      ·rw[if_neg h0]at H;have:=run_buildSlice (P:=P) w t E I.length (y.map λ (i,x)=>(i,a.eval x)) _ ti z hu a0 hz (by rw[O];exact M) (by rw[O];exact h0) (by rw[O,a1];exact H);simp[execOp,a4,this]
     refine dR a9 ?_;rw[hd];refine hn _ _ ?_;rw[cf,aQ];obtain⟨X,_,_,b5⟩:=fI hV hr c2 b9;have b1:=X.used_lt;have b3:I.length<=maxLen:=by
      have:=mo;have:I.length*1<=I.length*e.cells:=Ck _ Y;omega
     have bn:=World.ownsRow_lit (e:=E) (size:=e.cells) (base:=0) w ((y.toList.map λx=>a.eval x.2).flatMap λv=>v.cells.toList).toArray I.length (DW _) b3 (by simpa using a2);refine X.putOwn hV (w':=w.alloc (.cells ((y.toList.map λx=>a.eval x.2).flatMap λv=>v.cells.toList).toArray E)) (by simp) rfl rfl rfl (λk J=>Go.heap_alloc_old w _ (b1 k J)) d (ba d hd).1 (ba d hd).2 _ (BS _) (bs:=w.heap.size::aX W u.kill) ?_ (λk J hu=>?_)
     ·refine⟨CR.2 ⟨λhm=>?_,gP hr bb b9⟩,_,b4,Row.of bn,by rw[cc];rfl,λj x hj=>?_⟩
      ·have:=(b5 _ hm).2.2.1;omega
      ·obtain⟨c,a6,bx⟩:=a5 j x hj;have c1:∀ k,bo V W u.p u.frz k->k<w.heap.size:=λk J=>by
        rcases kt ad k J with J|⟨_,J⟩
        ·exact (X.nwlt k J).1
        ·exact CQ (hV.ro k J).1 X.size
       exact⟨c,a6.carry (kt ad) (λk J=>Go.heap_alloc_old w _ (c1 k J)) (λk J=>Go.heap_alloc_old w _ (a6.lt k J)),λi u hi=>by simpa using bx i u hi⟩
     ·rcases CY.1 J with rfl|J
      ·have:=b1 _ hu;omega
      ·have Z:=b5 k J;exact mn ⟨Z.1,Z.2.1,Z.2.2.2.1,Z.2.2.2.2⟩ hu
    ·cases h
  ·cases h
 |_=>simp[ht]at h
theorem ya {w:World}{G:Nat->Prop}{E':TypeId}{y u e:TypeId}(Y:P.underlying y=some (.slice e))(Z:P.underlying e=some (.int .u8))(O:P.underlying u=some .string){xs:List Int}{v:Value}
  (h:Rd w G (.list false E' (.int .u8)) xs [v]):(convert y u v).run P w=.ok (.string (gH xs)) w:=by
 obtain⟨A,z,hv,hc,J⟩:=h;simp only[Cj,and_true]at hv;subst hv;cases A with
 |none =>
  have hx:xs=[]:=by
   cases xs with
   |nil=>rfl
   |cons x xs=>obtain⟨g,o,M,_⟩:=J (by simp);cases M
  subst hx;show (convert y u (.slice none 0 z)).run P w=_;rw[run_convert_bytes_nil w y e Y Z 0 z u O];rfl
 |some ad =>
  cases I:xs with
  |nil =>
   subst I;show (convert y u (.slice (some ad) 0 z)).run P w=_;rw[run_convert_bytes_string w y u e ad 0 z Y Z O];simp[Conv.bytesToString,loadCells,loadCellsFrom];rfl
  |cons x0 a0 =>
   rw[<- I];obtain⟨g,o,M,_,hr⟩:=J (by rw[I];simp);simp only[BG]at M;subst M;have:=run_convert_bytes_arg (P:=P) w y e Y Z g o xs.length z xs rfl (λi hi=>by
    obtain⟨c,H,X⟩:=hr i xs[i] (BZ hi);have H:c=[.int .u8 xs[i]]:=H;subst H;have:=X 0 _ rfl;simp only[Ty.cells,C8,CM]at this;rw[this];simp[List.getD,BZ hi]) u O
   rw[this];rfl
theorem uG (hV:ax V)(hT:TOk P T)(M:bL V o){s t:TypeId}{x:Operand}(J:o.op=.convert s t x)(h:act Γ T o st κ=some r):bV P V o st κ r:=by
 simp only[act,wrU,J]at h;have y:=hT t;have z:=hT s;split at h
 ·rename_i k' k a4 n X Z hx;split at h
  ·rename_i d O;refine⟨_,h,λW a w I=>aP hV I O M (v:=.int k (k.wrap n)) ?_ rfl id rfl⟩;rw[Z]at y;rw[X]at z;simp[execOp,J,bD I hx,Go.convert,run_underlying y.1,run_underlying z.1,Conv.intToInt]
  ·cases h
 ·rename_i E b X Z;split at h
  ·rename_i p xs ha;split at h
   ·rename_i d O;refine⟨_,h,λW a w I=>?_⟩;have a2:one st x≠.dead:=by intro e0;rw[e0]at ha;simp[aC,dg]at ha
    obtain⟨h1,h2,_⟩:=br I x a2;have a0:=kN (m:=false) (E:=E) I h1 h2 ha;rw[Z]at y;rw[X]at z;refine aP hV I O M (v:=.string (gH xs)) ?_ rfl id rfl;have:=ya (P:=P) z.1 (z.2.2.2.2.1.2 rfl) y.1 a0;simp[execOp,J,this]
   ·cases h
  ·cases h
 ·rename_i E b H X Z hx;split at h
  ·rename_i d O;refine⟨_,h,λW a w I next Q hn=>?_⟩;rw[Z]at y;rw[X]at z;have hc:(eo H).length=H.size:=by simp only[eo,Ci,CG];rfl
   have Y:=Lib.run_convert_string_bytes (P:=P) w s t E H z.1 y.1 (y.2.2.2.2.1.2 rfl);refine dR (v:=.slice (some ⟨w.heap.size,0,none⟩) H.size (grownCap w H.size 0 E)) (w':=Lib.bytesWorld w E H) (by simp[execOp,J,iB I hx,Y]) ?_;rw[O];refine hn _ _ ?_;have a1:=grownCap_ge w H.size 0 E;have a3:(Lib.bytesCells w E H).size=grownCap w H.size 0 E:=by
    simp only[Lib.bytesCells,DK,Array.size_map,Array.size_replicate];show H.size+_=_;omega
   refine I.putOwn hV (by rw[Lib.bytesWorld_size];omega) (by simp[Lib.bytesWorld,DL,DX,Df,-C9,-DD]) (by simp[Lib.bytesWorld,DL,DX,Df,-C9,-DD]) (by simp[Lib.bytesWorld,DL,DX,Df,-C9,-DD])
    (λk hk=>Lib.bytesWorld_at_old w E H k (I.used_lt k hk)) d (M d O).1 (M d O).2 _ (BS _) (bs:=[w.heap.size])
    ⟨by simp,(eo H).map (Value.int .u8),λ_=>[],⟨by rw[Ci];exact (C8 _).symm,.inr ⟨w.heap.size,_,_,_,by rw[hc],Lib.bytesWorld_at_new w E H,by rw[hc];exact a1,.inr ⟨rfl,B3 _⟩,by rw[a3];exact Cu (C8 _),?_⟩⟩,by simp[CB],λj x hj=>?_⟩ (λk hk hu=>?_)
   ·simp only[Lib.bytesCells,DC,DT,Ty.cells,C8,eo,DM];exact List.take_left' (by simp)
   ·refine⟨[.int .u8 x],⟨rfl,rfl⟩,λi u hi=>?_⟩
    match i,hi with
    |0,hi =>
     simp only[Ca,BG]at hi;subst hi;simp[Ty.cells,hj]
   ·simp at hk;have:=I.used_lt k hu;omega
  ·cases h
 ·cases h
theorem rZ (hV:ax V)(hT:TOk P T)(O:bL V o){t:TypeId}{n c:Operand}(M:o.op=.makeSlice t n c)(h:act Γ T o st κ=some r):bV P V o st κ r:=by
 simp only[act,wrU,M]at h;split at h
 ·rename_i E e H k1 m k2 m' ht a9 a3;cases hb:decide (0<=m)&&decide (m=m')&&decide (m*H<=(ak:Int)) with
  |false=>simp[hb]at h
  |true =>
   simp only[hb,cond_true]at h;simp only[BI,decide_eq_true_eq]at hb;obtain⟨⟨h0,rfl⟩,b0⟩:=hb;split at h
   ·rename_i d hd;refine⟨_,h,λW a w Z next Q hn=>?_⟩;have h1:=hT t;rw[ht]at h1;obtain⟨hu,_,_,bl,b3,ti,z,a2,b5,a6,hz,X⟩:=h1;have hm:(m.toNat:Int)=m:=by omega
    have a0:m.toNat*H<=ak:=by
     have:((m.toNat*H:Nat):Int)<=(ak:Int):=by rw[Int.natCast_mul,hm];exact b0
     omega
    have bb:m.toNat*1<=m.toNat*H:=Ck _ b3.1;simp only[ak]at a0;have b9:=mo;obtain⟨w',I,a4,y⟩:=run_make_full (P:=P) w 0 t E ti z e.cells hu a2 hz b5 k1 k2 m.toNat (by rw[a6,Cw];omega) (by omega) (DW _);rw[hm]at I;refine dR (v:=.slice (some ⟨w.heap.size,0,none⟩) m.toNat m.toNat) (w':=w') (by simp[execOp,M,bD Z a9,bD Z a3,I]) ?_;rw[hd];refine hn _ _ ?_;have ad:z.cells.size=e.cells:=by
     have h2:=(lM w (λ_=>False) e).len;rw[<- CG,X,h2]
    refine Z.putOwn hV y.size y.os y.tape y.output (λk hk=>y.block k (Z.used_lt k hk) (by simp)) d (O d hd).1 (O d hd).2 _ (BS _) (bs:=[w.heap.size])
     ⟨by simp,_,λ_=>[],by rw[C4];exact Row.of a4,by simp[CB],λj x J=>?_⟩ (λk hk hu=>?_)
    ·rw[Cb]at J;split at J
     ·rename_i b4;simp at J;subst J;refine⟨_,qG w' _ e 0,λi u hi=>?_⟩;have b2:i<e.cells:=by rw[<- (lM w' (λ_=>False) e).len];exact (BJ.1 hi).1
      have Y:(j+1)*e.cells<=m.toNat*e.cells:=BT _ b4;rw[CI]at Y;have a5:j*e.cells+i<m.toNat*e.cells:=by omega
      have e2:(j*e.cells+i) % e.cells=i:=by rw[Cw,Da,DS b2]
      have a1:z.cells[i]?=some u:=by rw[<- C5,X];exact hi
      obtain⟨ba,b1⟩:=Array.getElem?_eq_some_iff.1 a1;simp only[madeCells,C5,Array.getElem?_map,Array.getElem?_range,a5,if_true,Db,ad,e2];rw[getElem!_pos z.cells i (by omega),b1]
     ·cases J
    ·simp at hk;have:=Z.used_lt k hu;omega
   ·cases h
 ·cases h
theorem uH (n u:Nat)(z:n<=u)(k y:IntKind)(w:World):(DN true n u none (some (.int k n)) (some (.int y n))).run P w=.ok (0,n,n) w:=by
 simp[DN,Instr.sliceBound,asIntOf,z]
theorem wj (hV:ax V)(hT:TOk P T)(a6:bL V o){t:TypeId}{x m:Operand}{lo hi:Option Operand}(a5:o.op=.slice t x lo hi (some m))(h:act Γ T o st κ=some r):bV P V o st κ r:=by
 simp only[act,wrU,a5]at h;cases hd:o.dst with
 |none=>simp[hd]at h
 |some d =>
  simp only[hd]at h;split at h
  ·rename_i E' e' bn O j v ht hx;split at h
   ·rename_i p E e J hdr;split at h
    ·rename_i hh k b4 bl;cases hb:hi.isSome&&decide (hh=(J.length:Int))&&decide (k=(J.length:Int))&&BX e'.cells e.cells with
     |false=>rw[hb]at h;cases h
     |true =>
      rw[hb]at h;simp only[cond_true]at h;simp only[BI,decide_eq_true_eq]at hb;obtain⟨⟨⟨a4,rfl⟩,rfl⟩,X⟩:=hb;have X:=BO X;refine⟨_,h,λW a w hr next Q hn=>?_⟩;have h1:=hT t;rw[ht]at h1;obtain⟨hu,_,_,_,_,ti,z,bx,c3,_⟩:=h1;obtain⟨a0,_,_,_,_⟩:=br hr x (by rw[hx];simp);rw[hx]at a0;obtain⟨h8,a3,c1,cu⟩:=kq hr hdr a0;obtain⟨y,hy,k1,cc⟩:∃ y,hi=some y/\∃ k1,a.eval y=.int k1 J.length:=by
       rcases mL hr b4 with ⟨I,_⟩|⟨y,k1,I,H⟩
       ·rw[I]at a4;cases a4
       ·exact⟨y,I,k1,H⟩
      obtain⟨k2,b0⟩:∃ k2,a.eval m=.int k2 J.length:=by
       rcases mL hr bl with ⟨I,_⟩|⟨y,k2,I,H⟩
       ·cases I
       ·cases I;exact⟨k2,H⟩
      obtain⟨A,ba,hv,a2⟩:=a3.slice;have hE:=dn (P:=P) (t:=E') (n:=e.cells) (by simp[bO,bx,c3,X]) w;have a9:(if J.length=0 then A else A.map λx=>x.add (0*e.cells))=A:=by
       cases A with
       |none=>simp
       |some ad =>
        have e0:ad.add 0=ad:=by simp[Addr.add]
        show (if J.length=0 then some ad else some (ad.add (0*e.cells)))=some ad;rw[DO,e0];split <;> rfl
      refine dR (v:=.slice A J.length J.length) (w':=w) ?_ ?_
      ·simp only[execOp,a5,hv,hy,Db,C0,cc,b0,Instr.sliceAt,Instr.slice,DJ,run_underlying hu,Co,uH J.length ba a2 k1 k2 w,hE,Sem.run_pure,Cx,a9]
      ·rw[hd];refine hn _ _ ?_;rw[cf,aQ];have b3:∀ z∈[(O,j)],aA st z:=λz hz=>by simp at hz;subst hz;exact⟨_,c1,trivial⟩
       obtain⟨h6,_,_,u⟩:=fI (frz:=[]) (kill:=[(O,j)]) hV hr rfl b3;have e1:aN (ac (aE st []) st) [(O,j)]++aE st []=aN st [(O,j)]:=B9 _;rw[e1]at h6 u;have cb:aX W [(O,j)]=W.bs O j:=by simp[aX]
       rw[cb]at u;obtain⟨b1,Z,c2,M,a1,b2⟩:=a3;refine h6.putOwn hV (w':=w) (B3 _) rfl rfl rfl (λ_ _=>rfl) d (a6 d hd).1 (a6 d hd).2 _ (BS _) (bs:=W.bs O j) ?_ (λk hk=>mn ⟨(u k hk).1,(u k hk).2.1,(u k hk).2.2.2.1,(u k hk).2.2.2.2⟩);have b9:∀ k,gd V W p k->gd V (W.frz st []) p k:=bT (W':=W.frz st []) (λh=>h) (λ_ h=>Or.inl h);refine OwH.carry (G:=gd V W p) ⟨b1,Z,c2,⟨M.1,?_⟩,?_,b2⟩ b9 (λ_ _=>rfl) (λ_ _=>rfl)
       ·rcases M.2 with ⟨Y,I⟩|⟨g,cp,b5,mk,Y,I,H,c0,bb,c4⟩
        ·rw[hv]at Y;simp only[CF]at Y;exact .inl ⟨by rw[Y.1,I],I⟩
        ·rw[hv]at Y;simp only[CF,true_and]at Y;exact .inr ⟨g,J.length,b5,mk,by rw[Y.1],I,B3 _,c0.imp (λh=>⟨h.1,CO H h.2⟩) id,CO (BT _ H) bb,c4⟩
       ·rw[a1,hv];cases A <;> rfl
    ·cases h
   ·cases h
  ·cases h
theorem yb (H:ax V)(z:TOk P T)(y:bL V o){t:TypeId}{x:Operand}{J M I:Option Operand}(u:o.op=.slice t x J M I)(h:act Γ T o st κ=some r):bV P V o st κ r:=by
 cases I with
 |none=>exact vH H z y u h
 |some m=>exact wj H z y u h
theorem AG (hV:ax V)(I:bL V o){c:Call}(z:o.op=.call c)(O:c.callee=.builtin .min)(h:act Γ T o st κ=some r):bV P V o st κ r:=by
 simp only[act,wrU,z,O]at h;split at h
 ·cases h
 ·rename_i d M;simp only[M]at h;split at h
  ·rename_i x y hx;split at h
   ·rename_i X m k2 n Z Y;have u:c.args=#[x,y]:=by rw[<- CC (xs:=c.args),hx]
    refine⟨_,h,λW a w J=>aP hV J M I (v:=.int X (bif decide (n<m) then n else m)) ?_ rfl id rfl⟩;cases H:decide (n<m) <;> simp[execOp,z,O,resolve,invoke,builtin,u,bD J Z,bD J Y,Builtin.min_,Builtin.min2] <;> simp at H <;> omega
   ·cases h
  ·cases h
theorem AH (hV:ax V)(I:bL V o){c:Call}(z:o.op=.call c)(O:c.callee=.builtin .max)(h:act Γ T o st κ=some r):bV P V o st κ r:=by
 simp only[act,wrU,z,O]at h;split at h
 ·cases h
 ·rename_i d M;simp only[M]at h;split at h
  ·rename_i x y hx;split at h
   ·rename_i X m k2 n Z Y;have u:c.args=#[x,y]:=by rw[<- CC (xs:=c.args),hx]
    refine⟨_,h,λW a w J=>aP hV J M I (v:=.int X (bif decide (m<n) then n else m)) ?_ rfl id rfl⟩;cases H:decide (m<n) <;> simp[execOp,z,O,resolve,invoke,builtin,u,bD J Z,bD J Y,Builtin.max_,Builtin.max2] <;> simp at H <;> omega
   ·cases h
  ·cases h
end
section
variable {P:Program} {V:Env} {W:Wit} {st st':St} {w w':World} {a:Act}
theorem an.putGhost (hV:ax V)(h:an P V W st a w)(d:Nat)(hd:GH<=d)(a4:d<B0)(n:Nat)(sh:aI)(ls:List Leaf)
  (X:List Value) (I:Nat->List Nat) (hn:(st d).ver<n) (hl:ls.length=X.length) (h1:∀ u∈X,u.oneCell'=true)
  (a1:∀ (j:Nat) (l:Leaf) (u:Value),ls[j]?=some l->X[j]?=some u->aK P V W st w (I j) l u)
  (a0:∀ (j:Nat) (l:Leaf),ls[j]?=some l->am l->∀ k∈I j,¬ W.nw k/\¬ V.prot k/\(∀ b,live st b->W.β b≠k) /\
   ∀ (r1 j1:Nat) (l1:Leaf),r1≠d->(st r1).ls[j1]?=some l1->am l1->k∉W.bs r1 j1)
  (a2:∀ (j j':Nat) (l l':Leaf),ls[j]?=some l->am l->ls[j']?=some l'->am l'->∀ k,k∈I j->k∈I j'->j=j') :
  an P V { W with cs:=λr=>if r=d then X else W.cs r,bs:=λr j=>if r=d then I j else W.bs r j } (ac [(d,⟨n,sh,ls⟩)] st) a w /\
   cB V W { W with cs:=λr=>if r=d then X else W.cs r,bs:=λr j=>if r=d then I j else W.bs r j } st (ac [(d,⟨n,sh,ls⟩)] st) w w:=by
 have M:∀ b,live (ac [(d,⟨n,sh,ls⟩)] st) b<->live st b:=by
  intro b;by_cases Y:B0<=b
  ·rw[live,live,aJ (by omega)]
  ·simp[live,Y]
 have O:cB V W { W with cs:=λr=>if r=d then X else W.cs r,bs:=λr j=>if r=d then I j else W.bs r j } st (ac [(d,⟨n,sh,ls⟩)] st) w w:=by
  refine⟨λq=>?_,λb Y=>⟨(M b).2 Y,rfl⟩,λ_ h=>h,λ_ _=>rfl,λ_ q j' l' J h4 h5=>?_⟩
  ·rcases aj d q ⟨n,sh,ls⟩ st with ⟨rfl,e⟩|⟨y,e⟩
   ·rw[e];exact⟨Nat.le_of_lt hn,λe=>absurd e (by show n≠_;omega)⟩
   ·rw[e];exact⟨B3 _,λ_=>by simp[y]⟩
  ·rcases aj d q ⟨n,sh,ls⟩ st with ⟨rfl,e⟩|⟨y,e⟩
   ·rw[e]at h5;exact absurd h5 (by show n≠_;omega)
   ·rw[e]at J;exact⟨⟨l',J,h4⟩,by simp[y],λ_ _=>rfl⟩
 refine⟨?_,O⟩
 exact {
  nt:=h.nt,df:=h.df
  slots:=λt ht=>by
   have:t≠d:=by omega
   rw[aJ this];simpa[this]using h.slots t ht
  boxes:=λb Y=>by
   have:b≠d:=by omega
   rw[aJ this];simpa[this]using h.boxes b Y
  len:=λq=>by
   rcases aj d q ⟨n,sh,ls⟩ st with ⟨rfl,e⟩|⟨y,e⟩
   ·rw[e];simpa using hl
   ·rw[e];simpa[y]using h.len q
  one:=λq u hu=>by
   by_cases hq:q=d
   ·simp only[hq,if_true]at hu;exact h1 u hu
   ·simp only[hq,if_false]at hu;exact h.one q u hu
  leaf:=λq j l u z J=>by
   rcases aj d q ⟨n,sh,ls⟩ st with ⟨rfl,e⟩|⟨y,e⟩
   ·rw[e]at z;simp only[if_true]at J;exact (a1 j l u z J).carry hV.ro O (λ_=>⟨by simp,λ_ _=>rfl⟩)
   ·rw[e]at z;simp only[y,if_false]at J;exact (h.leaf q j l u z J).carry hV.ro O (λ_=>⟨by simp[y],λ_ _=>rfl⟩)
  ownb:=λq j l z J k R=>by
   rcases aj d q ⟨n,sh,ls⟩ st with ⟨rfl,e⟩|⟨y,e⟩
   ·rw[e]at z;simp only[if_true]at R;have:=a0 j l z J k R;exact⟨this.1,this.2.1,λb Y=>this.2.2.1 b ((M b).1 Y)⟩
   ·rw[e]at z;simp only[y,if_false]at R;have:=h.ownb q j l z J k R;exact⟨this.1,this.2.1,λb Y=>this.2.2 b ((M b).1 Y)⟩
  sep:=λq j l q' j' l' z J h4 h5 k R H=>by
   rcases aj d q ⟨n,sh,ls⟩ st with ⟨e0,e⟩|⟨y,e⟩ <;> rcases aj d q' ⟨n,sh,ls⟩ st with ⟨e1,e'⟩|⟨Z,e'⟩
   ·rw[e]at z;rw[e']at h4;simp only[e0,if_true]at R;simp only[e1,if_true]at H;exact⟨e0.trans e1.symm,a2 j j' l l' z J h4 h5 k R H⟩
   ·rw[e]at z;rw[e']at h4;simp only[e0,if_true]at R;simp only[Z,if_false]at H;exact absurd H ((a0 j l z J k R).2.2.2 q' j' l' Z h4 h5)
   ·rw[e]at z;rw[e']at h4;simp only[y,if_false]at R;simp only[e1,if_true]at H;exact absurd R ((a0 j' l' h4 h5 k H).2.2.2 q j l y z J)
   ·rw[e]at z;rw[e']at h4;simp only[y,if_false]at R;simp only[Z,if_false]at H;exact h.sep q j l q' j' l' z J h4 h5 k R H
  box:=λb Y=>h.box b ((M b).1 Y)
  inj:=λb b' Y a3=>h.inj b b' ((M b).1 Y) ((M b').1 a3)
  nwlt:=h.nwlt
  os:=h.os,tape:=h.tape,output:=h.output,size:=h.size,keep:=h.keep
  fixb:=λx hx=>⟨(M _).2 (h.fixb x hx).1,(h.fixb x hx).2⟩
  fixt:=h.fixt }
theorem gx {off:Nat}:∀ {a:Ty} {pos:Nat} {x:a.den} {u:(E:TypeId)×(e:Ty)×List e.den},bc off a pos x=some u->pos<=off/\off<pos+a.cells
 |.pair a b,pos,x,u,h=>by
  simp only[bc]at h;split at h
  ·rename_i v y;have:=gx y;simp only[Ty.cells];omega
  ·have:=gx h;simp only[Ty.cells];omega
 |.list m E e,pos,z,u,h=>by
  simp only[bc]at h;cases r:m&&BX pos off with
  |false=>simp[r]at h
  |true =>
   simp only[BI]at r;have:=BO r.2;simp only[Ty.cells];omega
 |.int _,_,_,_,h=>by simp[bc]at h
 |.bool,_,_,_,h=>by simp[bc]at h
 |.str,_,_,_,h=>by simp[bc]at h
 |.unit,_,_,_,h=>by simp[bc]at h
 |.hdr,_,_,_,h=>by simp[bc]at h
theorem ne {off:Nat}:∀ {a:Ty} {pos:Nat} {x:a.den} {E:TypeId} {e:Ty} {u:List e.den},bc off a pos x=some ⟨E,e,u⟩->e.shy=true->a.shy=true
 |.pair a b,pos,x,E,e,u,h,r=>by
  simp only[bc]at h;simp only[Ty.shy,Dc];split at h
  ·rename_i v z;simp only[BG]at h;subst h;exact .inl (ne z r)
  ·exact .inr (ne h r)
 |.list m H J,pos,I,E,e,u,h,r=>by
  simp only[bc]at h;cases y:m&&BX pos off with
  |false=>simp[y]at h
  |true =>
   rw[y]at h;simp only[cond_true,BG,Sigma.mk.injEq]at h;obtain⟨rfl,h⟩:=h;rw[heq_eq_eq,Sigma.mk.injEq]at h;obtain⟨rfl,_⟩:=h;simp[Ty.shy,r]
 |.int _,_,_,_,_,_,h,_=>by simp[bc]at h
 |.bool,_,_,_,_,_,h,_=>by simp[bc]at h
 |.str,_,_,_,_,_,h,_=>by simp[bc]at h
 |.unit,_,_,_,_,_,h,_=>by simp[bc]at h
 |.hdr,_,_,_,_,_,h,_=>by simp[bc]at h
theorem Mx.hol_out {G:Nat->Prop}{o:Nat}:∀ {a:Ty} {pos:Nat} {x:a.den} {cs:List Value} {bs:List Nat},(o<pos\/pos+a.cells<=o)->(Mx w G a none pos x cs bs<->Mx w G a (some o) pos x cs bs)
 |.int _,_,_,_,_,_=>Cn
 |.bool,_,_,_,_,_=>Cn
 |.str,_,_,_,_,_=>Cn
 |.unit,_,_,_,_,_=>Cn
 |.hdr,_,_,_,_,_=>Cn
 |.pair a b,pos,x,cs,bs,r=>by
  simp only[Ty.cells]at r;constructor
  ·rintro⟨c1,c2,b1,b2,e1,e2,h1,h2⟩;exact⟨c1,c2,b1,b2,e1,e2,(Mx.hol_out (by omega)).1 h1,(Mx.hol_out (by omega)).1 h2⟩
  ·rintro⟨c1,c2,b1,b2,e1,e2,h1,h2⟩;exact⟨c1,c2,b1,b2,e1,e2,(Mx.hol_out (by omega)).2 h1,(Mx.hol_out (by omega)).2 h2⟩
 |.list m E e,pos,u,cs,bs,r=>by
  simp only[Ty.cells]at r;cases m with
  |false=>rw[cm,cm]
  |true=>rw[bH (by simp),bH (by simp only[ne_eq,BG];omega)]
theorem Mx.out {G:Nat->Prop}{off:Nat}{E:TypeId}{e:Ty}{ys:List e.den}:∀ {a:Ty} {pos:Nat} {x:a.den} {cs:List Value} {bs:List Nat},Mx w G a none pos x cs bs->bc off a pos x=some ⟨E,e,ys⟩ ->
  ∃ v z r,OwB w G none E e ys v z/\cs[off-pos]?=some v/\Mx w G a (some off) pos x cs r/\∀ k,bs.count k=r.count k+z.count k
 |.pair a b,pos,x,cs,bs,⟨c1,c2,b1,b2,J,e2,M,h2⟩,h=>by
  have hl:=M.len;simp only[bc]at h;split at h
  ·rename_i u hu;simp only[BG]at h;subst h;have X:=gx hu;obtain⟨v,z,r,Z,Y,O,R⟩:=Mx.out M hu;refine⟨v,z,r++b2,Z,?_,⟨c1,c2,r,b2,J,rfl,O,(Mx.hol_out (by omega)).1 h2⟩,λk=>?_⟩
   ·rw[J,BN (by omega)];exact Y
   ·rw[e2,BL,BL,R k];omega
  ·rename_i hu;have X:=gx h;obtain⟨v,z,r,Z,Y,O,R⟩:=Mx.out h2 h;refine⟨v,z,b1++r,Z,?_,⟨c1,c2,b1,r,J,rfl,(Mx.hol_out (by omega)).1 M,O⟩,λk=>?_⟩
   ·rw[J,BM (by omega),hl,show off-pos-a.cells=off-(pos+a.cells) by omega];exact Y
   ·rw[e2,BL,BL,R k];omega
 |.list m E' e',pos,xs,cs,bs,H,h=>by
  simp only[bc]at h;cases y:m&&BX pos off with
  |false=>simp[y]at h
  |true =>
   rw[y]at h;simp only[cond_true,BG,Sigma.mk.injEq]at h;obtain⟨rfl,h⟩:=h;simp only[BI]at y;obtain⟨rfl,y⟩:=y;have y:=BO y;subst y;rw[heq_eq_eq,Sigma.mk.injEq]at h;obtain⟨rfl,h⟩:=h;rw[heq_eq_eq]at h;subst h;have I:=H.one;rw[bH (by simp)]at H;obtain⟨v,rfl,hO⟩:=H;exact⟨v,bs,[],hO,by simp,jc.2 ⟨v,rfl,I v (by simp),rfl⟩,λk=>by simp⟩
 |.int _,_,_,_,_,_,h=>by simp[bc]at h
 |.bool,_,_,_,_,_,h=>by simp[bc]at h
 |.str,_,_,_,_,_,h=>by simp[bc]at h
 |.unit,_,_,_,_,_,h=>by simp[bc]at h
 |.hdr,_,_,_,_,_,h=>by simp[bc]at h
theorem Mx.back {G:Nat->Prop}{off:Nat}{E:TypeId}{e:Ty}{M:List e.den}{v:Value}{bn:List Nat}(Y:OwB w G none E e M v bn):∀ {a:Ty} {pos:Nat} {x z:a.den} {cs:List Value} {I:List Nat},Mx w G a (some off) pos x cs I->bK off E e M a pos x=some z ->
  cs[off-pos]?=some v->∃ R,Mx w G a none pos z cs R/\∀ k,R.count k=I.count k+bn.count k
 |.pair a b,pos,x,z,cs,R,⟨c1,c2,b1,b2,X,e2,O,h2⟩,h,J=>by
  have hl:=O.len;simp only[bK]at h;split at h
  ·rename_i u y;simp only[BG]at h;subst h;have Z:=set_in y;obtain⟨I,g1,g2⟩:=Mx.back Y O y (by rw[X,BN (by omega)]at J;exact J);refine⟨I++b2,⟨c1,c2,I,b2,X,rfl,g1,(Mx.hol_out (by omega)).2 h2⟩,λk=>?_⟩;rw[e2,BL,BL,g2 k];omega
  ·rename_i y;simp only[BH]at h;obtain⟨u,y,rfl⟩:=h;have Z:=set_in y;obtain⟨I,g1,g2⟩:=Mx.back Y h2 y (by
    rw[X,BM (by omega),hl]at J;rw[show off-(pos+a.cells)=off-pos-a.cells by omega];exact J)
   refine⟨b1++I,⟨c1,c2,b1,I,X,rfl,(Mx.hol_out (by omega)).2 O,g1⟩,λk=>?_⟩;rw[e2,BL,BL,g2 k];omega
 |.list m E' e',pos,xs,z,cs,R,H,h,J=>by
  simp only[bK]at h;cases r:m&&BX pos off with
  |false=>simp[r]at h
  |true =>
   rw[r]at h;simp only[cond_true]at h;obtain⟨rfl,rfl,rfl⟩:=jR h;simp only[BI]at r;obtain⟨rfl,r⟩:=r;have r:=BO r;subst r;rw[jc]at H;obtain⟨v',rfl,O,rfl⟩:=H;simp only[Nat.sub_self,Ca,BG]at J;subst J;exact⟨bn,(bH (by simp)).2 ⟨v',rfl,Y⟩,λk=>by simp⟩
 |.int _,_,_,_,_,_,_,h,_=>by simp[bK]at h
 |.bool,_,_,_,_,_,_,h,_=>by simp[bK]at h
 |.str,_,_,_,_,_,_,h,_=>by simp[bK]at h
 |.unit,_,_,_,_,_,_,h,_=>by simp[bK]at h
 |.hdr,_,_,_,_,_,_,h,_=>by simp[bK]at h
where
 set_in {off:Nat} {E:TypeId} {e:Ty} {M:List e.den}:∀ {a:Ty} {pos:Nat} {x z:a.den},bK off E e M a pos x=some z->pos<=off/\off<pos+a.cells
  |.pair a b,pos,x,z,h=>by
   simp only[bK]at h;split at h
   ·rename_i u y;have:=set_in y;simp only[Ty.cells];omega
   ·simp only[BH]at h;obtain⟨u,y,_⟩:=h;have:=set_in y;simp only[Ty.cells];omega
  |.list m E' e',pos,xs,z,h=>by
   simp only[bK]at h;cases r:m&&BX pos off with
   |false=>simp[r]at h
   |true =>
    simp only[BI]at r;have:=BO r.2;simp only[Ty.cells];omega
  |.int _,_,_,_,h=>by simp[bK]at h
  |.bool,_,_,_,h=>by simp[bK]at h
  |.str,_,_,_,h=>by simp[bK]at h
  |.unit,_,_,_,h=>by simp[bK]at h
  |.hdr,_,_,_,h=>by simp[bK]at h
end
section
variable {P:Program} {V:Env} {W W' W2:Wit} {st st' st2:St} {w w' w2:World} {a:Act}
theorem cB.trans (h:cB V W W' st st' w w')(u:cB V W' W2 st' st2 w' w2):cB V W W2 st st2 w w2:=by
 refine⟨λr=>⟨CO (h.ver r).1 (u.ver r).1,λe=>?_⟩,λb Y=>?_,λk y=>u.nw k (h.nw k y),λk y=>?_,λhe r j l z H J=>?_⟩
 ·have z:=(h.ver r).1;have H:=(u.ver r).1;rw[(u.ver r).2 (by omega),(h.ver r).2 (by omega)]
 ·obtain⟨z,H⟩:=h.box b Y;obtain⟨J,h6⟩:=u.box b z;exact⟨J,h6.trans H⟩
 ·rw[u.heap k (y.imp (h.nw k) id),h.heap k y]
 ·have e1:=(h.ver EPO).1;have e2:=(u.ver EPO).1;have e3:=(h.ver r).1;have e4:=(u.ver r).1;obtain⟨⟨R,g1,Z⟩,M,O⟩:=u.epo (by omega) r j l z H (by omega);obtain⟨g5,I,X⟩:=h.epo (by omega) r j R g1 Z (by omega);exact⟨g5,M.trans I,λk y=>(O k (by rw[I];exact y)).trans (X k y)⟩
theorem qI {n i:Nat}(H:i<n)(r:Nat->List Nat)(b y:List Nat)(z:∀ k,(r i).count k=b.count k+y.count k)(u:List Nat)(k:Nat) :
  (u++(BU n).flatMap r).count k=(u++(BU n).flatMap λj=>if j=i then b else r j).count k+y.count k:=by
 have:=kD H r b k;have:=z k;rw[BL,BL];omega
theorem OwH.out {G:Nat->Prop}{E E1:TypeId}{e e1:Ty}{xs:List e.den}{v:Value}{bs:List Nat}{i off:Nat}{y:e.den}{ys:List e1.den}(H:Ow w G E e xs v bs)(hy:xs[i]?=some y)(hg:bc off e 0 y=some ⟨E1,e1,ys⟩) :
  ∃ u O Y,OwH w G (some (i,off)) E e xs v Y/\Ow w G E1 e1 ys u O/\(∀ g X,v=.slice (some ⟨g,0,none⟩) xs.length X->w.cell? ⟨g,i*e.cells+off,none⟩=some u)/\∀ k,bs.count k=Y.count k+O.count k:=by
 obtain⟨a0,M,J,h1,h2,h3⟩:=H;have R:i<xs.length:=(BJ.1 hy).1;obtain⟨c,hm,hc⟩:=h3 i y hy;have hm:Mx w G e none 0 y c (J i):=hm;obtain⟨u,O,b',g1,g2,g3,g4⟩:=hm.out hg;have r:=qI R J b' O g4 v.ownBlock.toList;rw[<- h2]at r;have z:=bt.1 a0;refine⟨u,O,v.ownBlock.toList++(BU xs.length).flatMap λj=>if j=i then b' else J j,⟨bt.2 λk=>by have:=z k;have:=r k;omega,M,_,h1,rfl,λj x Z=>?_⟩,
  ⟨bt.2 λk=>by have:=z k;have:=r k;omega,g1⟩,λg X hv=>?_,r⟩
 ·by_cases I:j=i
  ·subst I;rw[hy]at Z;simp only[BG]at Z;subst Z;refine⟨c,?_,hc⟩;simp only[cI,Nat.beq_refl,cond_true,if_true];exact g3
  ·obtain⟨c',h4,h5⟩:=h3 j x Z;refine⟨c',?_,h5⟩;have:BX i j=false:=by
    cases hb:BX i j with
    |false=>rfl
    |true=>exact absurd (BO hb).symm I
   simp only[cI,this,cond_false,if_neg I];exact h4
 ·subst hv;have a2:=gx hg;have a1:i*e.cells+off<xs.length*e.cells:=by
   have:=BT e.cells (show i+1<=xs.length from R);rw[Cp,Nat.one_mul]at this;omega
  rw[h1.cellAt _ a1];exact hc off u (by simpa using g2)
theorem OwH.back {G:Nat->Prop}{E E1:TypeId}{e e1:Ty}{xs:List e.den}{v u:Value}{bs bn:List Nat}{i off:Nat}{y z:e.den}{ys:List e1.den}(H:OwH w G (some (i,off)) E e xs v bs)(hn:Ow w G E1 e1 ys u bn)
  (hd:∀ k∈bn,k∉bs) (hy:xs[i]?=some y) (hs:bK off E1 e1 ys e 0 y=some z) (M:∀ g J,v=.slice (some ⟨g,0,none⟩) xs.length J->w.cell? ⟨g,i*e.cells+off,none⟩=some u) :
  ∃ a1,Ow w G E e (xs.set i z) v a1/\∀ k,a1.count k=bs.count k+bn.count k:=by
 obtain⟨a3,X,a2,h1,h2,h3⟩:=H;have a0:i<xs.length:=(BJ.1 hy).1;obtain⟨c,hm,hc⟩:=h3 i y hy;have Y:cI (some (i,off)) i=some off:=by simp[cI]
 rw[Y]at hm;have a5:=Mx.back.set_in hs;have a9:=hm.len;have I:c[off-0]?=some u:=by
  rcases h1.2 with ⟨rfl,h0⟩|⟨g,J,a6,_,rfl,_⟩
  ·omega
  ·have O:=M g J rfl;have a4:i*e.cells+off<xs.length*e.cells:=by
    have:=BT e.cells (show i+1<=xs.length from a0);rw[Cp,Nat.one_mul]at this;omega
   rw[h1.cellAt _ a4]at O;have Z:off<c.length:=by omega
   have h6:=hc off _ (BZ Z);rw[O]at h6;rw[Cx,BZ Z,h6]
 obtain⟨b1,g1,g2⟩:=Mx.back hn.2 hm hs I;have r:∀ k,(v.ownBlock.toList++(BU xs.length).flatMap λj=>if j=i then b1 else a2 j).count k=bs.count k+bn.count k:=by
  intro k;have O:=kD a0 a2 b1 k;have Z:=g2 k;rw[h2,BL,BL];omega
 refine⟨_,⟨(nd a3 hn.1 hd (λk=>Cu (r k))).1,X,_,by rw[CS];exact h1,by rw[CS],λj x hj=>?_⟩,r⟩;rcases aS _ _ _ _ _ hj with ⟨rfl,rfl,_⟩|⟨R,hj⟩
 ·refine⟨c,?_,hc⟩;simp only[if_true];exact g1
 ·obtain⟨c',O,Z⟩:=h3 j x hj;refine⟨c',?_,Z⟩;have:BX i j=false:=by
   cases hb:BX i j with
   |false=>rfl
   |true=>exact absurd (BO hb).symm R
  have e0:cI (some (i,off)) j=none:=by simp[cI,this]
  rw[e0]at O;simp only[if_neg R];exact O
theorem iY:GH<=TMP/\TMP<B0/\TMP≠EPO:=by decide
def tC (W:Wit)(S:St)(w:World)(r j:Nat)(v:Value):Prop :=
 r≠TMP/\r≠EPO/\∃ (i off:Nat) (p:Bool) (E:TypeId) (e:Ty) (y:List e.den) (g u:Nat),(S r).ls[j]?=some (.own p (some (i,off)) E e y)/\(W.cs r)[j]?=some (.slice (some ⟨g,0,none⟩) y.length u) /\
  g∈W.bs r j/\w.cell? ⟨g,i*e.cells+off,none⟩=some v
theorem vi (hV:ax V)(h:an P V W st a w){l l':Leaf}{U:Upd}{v:Value}(Z:aK P V W st w [] l v)(I:cj st l=some (U,l')) :
  ∃ W0 n p0 E0 e0 c1,an P V W0 (ac U st) a w/\cB V W W0 st (ac U st) w w/\l'=.al TMP 0 n/\aK P V W0 (ac U st) w [] l' v/\(ac U st TMP).ver=n/\(ac U st TMP).ls=[.own p0 none E0 e0 c1] /\
   W0.nw=W.nw/\W0.β=W.β/\(∀ q,q≠TMP->W0.cs q=W.cs q)/\W0.cs TMP=[v]/\(∀ q,(ac U st q).sh=(st q).sh\/q=TMP)/\tC W0 (ac U st) w (kj l).1 (kj l).2 v:=by
 cases l with
 |nal p ks ep cx E e xs =>
  simp only[cj]at I;cases b1:bq st ks ep with
  |false=>simp[b1]at I
  |true =>
   rw[b1]at I;simp only[cond_true]at I;split at I
   ·rename_i r j n0 i sz off;split at I
    ·rename_i M X J z hg;cases hb:!BX r TMP&&!BX r EPO&&BX sz J.cells with
     |false=>simp[hb]at I
     |true =>
      rw[hb]at I;simp only[cond_true]at I;simp only[BI,B7]at hb;obtain⟨⟨cc,c3⟩,a5⟩:=hb;have a5:=BO a5;subst a5;have R:r≠TMP:=λe=>by subst e;simp at cc
      have b9:r≠EPO:=λe=>by subst e;simp at c3
      split at I
      ·rename_i y hy;split at I
       ·rename_i E1 e1 ys bb;simp only[BG,CJ]at I;obtain⟨rfl,rfl⟩:=I;have b2:=pA b1 Z;obtain⟨r',j',n',ba,g,c4,b5,a6,cy,cw,O⟩:=b2.at_ i _ off rfl;simp only[Cj,CJ,and_true]at ba;obtain⟨rfl,rfl,rfl⟩:=ba;have a2:(st r).ls[j]?=some (.own M none X J z):=by
         rw[CL]at hg;cases H:(st r).ls[j]? with
         |none=>rw[H]at hg;simp at hg
         |some l0=>rw[H]at hg;simp at hg;rw[hg]
        have a1:=h.leaf r j _ _ a2 a6;have a1:Ow w (gd V W M) X J z _ (W.bs r j):=a1;have b3:c4=z.length:=by
         obtain⟨A,cu,e0,_⟩:=a1.slice;simp only[CF]at e0;exact e0.2.1
        subst b3;obtain⟨u,bn,bs',g1,g2,g3,g4⟩:=a1.out hy bb;have hu:u=v:=by
         have:=g3 g b5 rfl;rw[this]at O;exact Option.some.inj O
        subst hu;have bl:=bt.1 a1.1;have b4:∀ k∈bs',k∈W.bs r j:=λk hk=>BQ.1 (by have:=g4 k;have:=BQ.2 hk;omega)
        have a0:∀ k∈bn,k∈W.bs r j/\k∉bs':=λk hk=>by
         have h5:=g4 k;have h6:=BQ.2 hk;have h7:=bl k;refine⟨BQ.1 (by omega),λcb=>?_⟩;have:=BQ.2 cb;omega
        have a3:∀ k∈W.bs r j,vh V W st r j k:=λk hk=>by
         have h9:=h.ownb r j _ a2 trivial k hk;exact⟨h9.1,h9.2.1,h9.2.2,λr1 i1 l1 a9 ad a4 Y=>a4 (by obtain⟨e1,e2⟩:=h.sep r1 i1 l1 r j _ a9 ad a2 trivial k Y hk;rw[e1,e2])⟩
        have hR:x7 st (ac [(r,⟨(st r).ver,(st r).sh,aT (st r).ls j (.own M (some (i,off)) X J z)⟩)] (ac [(EPO,bU (st EPO))] st)) r j (.own M (some (i,off)) X J z):=by
         refine⟨λq=>?_,λq=>?_,?_,λq=>?_,λl Z=>?_,λq i' l H Z=>?_⟩
         ·rcases aj r q ⟨(st r).ver,(st r).sh,aT (st r).ls j (.own M (some (i,off)) X J z)⟩ (ac [(EPO,bU (st EPO))] st) with ⟨rfl,e⟩|⟨_,e⟩
          ·rw[e]
          ·rw[e];rcases aj EPO q (bU (st EPO)) st with ⟨rfl,e⟩|⟨_,e⟩ <;> rw[e];rfl
         ·rcases aj r q ⟨(st r).ver,(st r).sh,aT (st r).ls j (.own M (some (i,off)) X J z)⟩ (ac [(EPO,bU (st EPO))] st) with ⟨rfl,e⟩|⟨_,e⟩
          ·rw[e];exact B3 _
          ·rw[e];rcases aj EPO q (bU (st EPO)) st with ⟨rfl,e⟩|⟨_,e⟩ <;> rw[e]
           ·exact DV _
           ·exact B3 _
         ·rw[aJ (CW b9),bj];exact BS _
         ·rcases aj r q ⟨(st r).ver,(st r).sh,aT (st r).ls j (.own M (some (i,off)) X J z)⟩ (ac [(EPO,bU (st EPO))] st) with ⟨rfl,e⟩|⟨_,e⟩
          ·rw[e];simp[aT]
          ·rw[e];rcases aj EPO q (bU (st EPO)) st with ⟨rfl,e⟩|⟨_,e⟩ <;> rw[e];rfl
         ·rw[bj]at Z;rcases aS _ _ _ _ _ Z with ⟨_,rfl,_⟩|⟨a4,_⟩
          ·rfl
          ·exact absurd rfl a4
         ·rcases aj r q ⟨(st r).ver,(st r).sh,aT (st r).ls j (.own M (some (i,off)) X J z)⟩ (ac [(EPO,bU (st EPO))] st) with ⟨rfl,e⟩|⟨_,e⟩
          ·rw[e]at Z;rcases aS _ _ _ _ _ Z with ⟨rfl,_,_⟩|⟨_,Z⟩
           ·exact absurd rfl H
           ·exact Z
          ·rw[e]at Z;rcases aj EPO q (bU (st EPO)) st with ⟨rfl,e⟩|⟨_,e⟩ <;> rw[e]at Z <;> exact Z
        have h1:=h.retell hV hR a2 trivial a6 trivial (bs':=bs') g1 (λk hk=>a3 k (b4 k hk)) (λ_ _ _=>rfl) (B3 _) rfl rfl rfl;have bx:cB V W (W.tell r j bs') st (ac [(r,⟨(st r).ver,(st r).sh,aT (st r).ls j (.own M (some (i,off)) X J z)⟩)] (ac [(EPO,bU (st EPO))] st)) w w :=
         ⟨λq=>⟨hR.ver q,λ_=>rfl⟩,λb hb=>⟨(iC hR.sh b).2 hb,rfl⟩,λ_ h=>h,λ_ _=>rfl,λhe=>by have:=hR.epo;omega⟩
        have c0:(ac [(r,⟨(st r).ver,(st r).sh,aT (st r).ls j (.own M (some (i,off)) X J z)⟩)] (ac [(EPO,bU (st EPO))] st) TMP).ver=(st TMP).ver:=by
         rw[aJ (CW R),aJ iY.2.2]
        obtain⟨h2,c2⟩:=h1.putGhost hV TMP iY.1 iY.2.1 ((st TMP).ver+1) .one [.own (M&&J.shy) none E1 e1 ys] [u] (λ_=>bn) (by rw[c0];exact BS _) rfl (λx hx=>by simp at hx;subst hx;exact g2.one)
         (λq l x H hx=>by
          cases q with
          |zero=>simp at H hx;subst H;subst hx;exact⟨g2.1,(OwB.shy g2.2).carry (bT (W':=W) (by intro hh;simp only[BI]at hh ⊢;exact⟨hh.1,ne bb hh.2⟩) (λ_ h=>h)) (λ_ _=>rfl) (λ_ _=>rfl)⟩
          |succ q=>simp at H)
         (λq l H _ k hk=>by
          obtain⟨q1,q2,q3,q4⟩:=a3 k (a0 k hk).1;refine⟨q1,q2,λb hb=>q3 b ((iC hR.sh b).1 hb),λr1 i1 l1 _ a9 ad Y=>?_⟩;by_cases H:(r1,i1)=(r,j)
          ·cases H;rw[show (W.tell r j bs').bs r j=bs' from if_pos rfl]at Y;exact (a0 k hk).2 Y
          ·rw[show (W.tell r j bs').bs r1 i1=W.bs r1 i1 from if_neg H]at Y;exact q4 r1 i1 l1 (hR.old r1 i1 l1 H a9) ad H Y)
         (λq q' l l2 h1 h2 h3 h4 k h5 h6=>by
          have h7:q<1:=(BJ.1 h1).1;have h8:q'<1:=(BJ.1 h3).1;omega)
        have b0:ac [(r,⟨(st r).ver,(st r).sh,aT (st r).ls j (.own M (some (i,off)) X J z)⟩),(TMP,⟨(st TMP).ver+1,.one,[.own (M&&J.shy) none E1 e1 ys]⟩),(EPO,bU (st EPO))] st =
          ac [(TMP,⟨(st TMP).ver+1,.one,[.own (M&&J.shy) none E1 e1 ys]⟩)] (ac [(r,⟨(st r).ver,(st r).sh,aT (st r).ls j (.own M (some (i,off)) X J z)⟩)] (ac [(EPO,bU (st EPO))] st)):=by
         rw[aQ r,aQ TMP,na R]
        rw[b0];refine⟨_,_,_,_,_,_,h2,bx.trans c2,rfl,⟨by rw[bj];exact B3 _,λ_=>by simp⟩,by rw[bj],by rw[bj],rfl,rfl,λq H=>by simp[H,Wit.tell],by simp,λq=>?_,R,b9,i,off,M,X,J,z,g,b5,?_,?_,?_,O⟩
        ·by_cases H:q=TMP
         ·exact .inr H
         ·rw[aJ H];exact .inl (hR.sh q)
        ·show (ac [(TMP,_)] _ r).ls[j]?=_;rw[aJ R,bj];simp only[aT];rw[Cd (BJ.1 a2).1]
        ·show (if r=TMP then _ else W.cs r)[j]?=_;rw[if_neg R];exact a6
        ·show g∈(if r=TMP then _ else (W.tell r j bs').bs r j);rw[if_neg R,show (W.tell r j bs').bs r j=bs' from if_pos rfl];obtain⟨_,cp,d1,_,q2,_⟩:=g1;rw[q2];simp[CB]
       ·cases I
      ·cases I
    ·cases I
   ·cases I
 |_=>simp[cj]at I
theorem hH {R:Type}(l:Leaf)(I:Upd->Leaf->Option R):lU st l I=(cj st l).bind λu=>I u.1 u.2:=by
 cases l with
 |nal p O ep M E e Z =>
  simp only[lU,cj];cases bq st O ep with
  |false=>rfl
  |true =>
   simp only[cond_true];split
   ·rename_i r j n i X off;split
    ·rename_i p' Y J z _;cases !BX r TMP&&!BX r EPO&&BX X J.cells with
     |false=>rfl
     |true =>
      simp only[cond_true];have H:idx z (i:Int)=z[i]?:=by
       unfold idx;rw[if_neg (by omega)];simp
      rw[H];cases z[i]? with
      |none=>rfl
      |some y =>
       simp only[Option.bind_some];cases bc off J 0 y with
       |none=>rfl
       |some u=>rfl
    ·rfl
   ·rfl
 |_=>rfl
end
theorem rz {w:World}{α:Type}{s g:Nat}:∀ (J:List α) (o:Nat) (Q:Nat->α->List Value->Prop),(∀ j x c,Q j x c->c.length=s/\∀ u∈c,u.oneCell'=true)->(∀ (j:Nat) (x:α),J[j]?=some x->∃ c,Q j x c/\cV w g (o+j*s) c) ->
  ∃ r:List Value,r.length=J.length*s/\(∀ j u,r[j]?=some u->w.cell? ⟨g,o+j,none⟩=some u)/\(∀ u∈r,u.oneCell'=true) /\
   ∀ (j:Nat) (x:α),J[j]?=some x->∃ c,Q j x c/\∀ i u,c[i]?=some u->r[j*s+i]?=some u
 |[],o,_,_,_=>⟨[],by simp,by simp,by simp,by simp⟩
 |y::J,o,Q,hQ,h=>by
  obtain⟨c,hr,hc⟩:=h 0 y rfl;obtain⟨r,h1,h2,h3,h4⟩:=rz J (o+s) (λj=>Q (j+1)) (λj=>hQ (j+1)) (λj x z=>by
   obtain⟨Z,I,H⟩:=h (j+1) x (by simpa using z);refine⟨Z,I,?_⟩;rw[CI]at H;have:o+s+j*s=o+(j*s+s):=by omega
   rw[this];exact H)
  obtain⟨a0,Y⟩:=hQ 0 y c hr;refine⟨c++r,by rw[BY,h1,a0,Ct,CI];omega,?_,?_,?_⟩
  ·intro j u z;by_cases R:j<c.length
   ·rw[BN R]at z;have:=hc j u z
    rwa [DO,CM]at this
   ·rw[BM (by omega)]at z;have:=h2 (j-c.length) u z;have e1:o+s+(j-c.length)=o+j:=by omega
    rwa [e1]at this
  ·intro u M;rcases BR.1 M with M|M
   ·exact Y u M
   ·exact h3 u M
  ·intro j x z;cases j with
   |zero =>
    simp at z;subst z;refine⟨c,hr,λi u O=>?_⟩;have X:=(BJ.1 O).1;rw[DO,CX,BN X];exact O
   |succ j =>
    obtain⟨Z,I,H⟩:=h4 j x (by simpa using z);refine⟨Z,I,λi u O=>?_⟩;rw[CI,BM (by omega)];rw[<- H i u O];congr 1;omega
theorem jY {P:Program}(g o:Nat)(t:TypeId)(mk:Nat×Nat):∀ (y:List Value) (i:Nat) (cur:Array Value) (w:World),w.heap[g]?=some (.cells cur t mk)->(mk.2=0\/cur.size<=mk.1)->o+i+y.length<=cur.size->(∀ v∈y,v.oneCell'=true) ->
  (storeCells ⟨g,o,none⟩ y i).run P w=.ok () (w.setRow g (cur.toList.take (o+i)++y++cur.toList.drop (o+i+y.length)).toArray)
 |[],i,cur,w,u,_,_,_=>by
  simp only[storeCells,B9,Ch,CM,List.take_append_drop,CC];rw[setRow_self w g cur t mk u];rfl
 |v::r,i,cur,w,u,M,H,J=>by
  have O:o+i<cur.size:=by simp at H;omega
  have z:(⟨g,o,none⟩:Addr).add i=⟨g,o+i,none⟩:=by unfold Addr.add;split <;> simp_all
  have I:(store ((⟨g,o,none⟩:Addr).add i) v).run P w=.ok () (w.setRow g (cur.setIfInBounds (o+i) v)):=by
   rw[z,run_store P w _ v _ (J v (by simp)),cell_of_row w g _ cur t mk u,Array.getElem?_eq_getElem O];simp[qX u M O,setCell_eq_setRow w g (o+i) cur t mk v u]
  have X:=jY (P:=P) g o t mk r (i+1) (cur.setIfInBounds (o+i) v) (w.setRow g (cur.setIfInBounds (o+i) v)) (setRow_heap w g cur _ t _ u) (by simpa using M) (by simp at H ⊢;omega) (λx R=>J x (by simp[R]));simp only[storeCells,DJ,I,Co,X,setRow_setRow];congr 3;have e:=list_seg_step cur.toList (o+i) v r (by simp at H ⊢;omega);simpa[Array.toList_setIfInBounds,Di]using e
theorem nf {P:Program}(w:World)(t ty e:TypeId)(i:TypeInfo)(ht:P.underlying t=some (.slice e))(Y:P.info? e=some i)
  (g y z:Nat) (cur:Array Value) (mk:Nat×Nat) (Z:w.heap[g]?=some (.cells cur e mk)) (X:mk.2=0\/cur.size<=mk.1)
  (a:Addr) (m c:Nat) (r:List Value) (R:r.length=m*i.size) (I:∀ j u,r[j]?=some u->w.cell? (a.add j)=some u) (O:∀ u∈r,u.oneCell'=true)
  (H:y+m<=z) (M:y*i.size+r.length<=cur.size) :
  (CH #[t,t] ty #[.slice (some ⟨g,0,none⟩) y z,.slice (some a) m c]).run P w =
   .ok (.slice (some ⟨g,0,none⟩) (y+m) z) (w.setRow g (cur.toList.take (y*i.size)++r++cur.toList.drop (y*i.size+r.length)).toArray):=by
 have hf:=run_firstCells_some (P:=P) w i.size m a m c r R I;have J:=jY (P:=P) g (y*i.size) e mk r 0 cur w Z X (by simpa using M) O;simp only[CM]at J;simp[CH,run_underlying ht,sizeOf,typeInfo,Y,Cr,H,hf,Addr.add_lit,J]
theorem dC {P:Program}(w:World)(t ty e:TypeId)(i:TypeInfo)(z:Value)(size Z:Nat)(ht:P.underlying t=some (.slice e))(hi:P.info? e=some i)(hz:i.zero=some z)
  (a3:i.size=size) (b3:i.bytes=Z) (b2:z.cells.size=size)
  (v:Value) (n:Nat) (xs:List Value) (y:Row w e size v n xs)
  (a:Addr) (m c:Nat) (r:List Value) (hl:r.length=m*size) (J:∀ j u,r[j]?=some u->w.cell? (a.add j)=some u) (h1:∀ u∈r,u.oneCell'=true)
  (a6:n+m<=maxLen) (M:(n+m)*Z<=140737488355328) :
  ∃ v' w',(CH #[t,t] ty #[v,.slice (some a) m c]).run P w=.ok v' w'/\Row w' e size v' (n+m) (xs++r)/\w.grownBy w' v.ownBlock/\(v'.ownBlock=v.ownBlock\/v'.ownBlock=some w.heap.size):=by
 subst a3;subst b3;have b1:n+m<=9223372036854775807:=by simp only[maxLen]at a6;omega
 have O:(xs++r).length=(n+m)*i.size:=by rw[BY,y.1,hl,Cp]
 have a0:∀ (H:Nat),H<n+m->∀ (a9:Option Nat),
   Row (w.drew.alloc (.cells (xs.toArray++r.toArray++DP z.cells (grownCap w (n+m) H e-(n+m))) e)) e i.size
    (.slice (some ⟨w.heap.size,0,none⟩) (n+m) (grownCap w (n+m) H e)) (n+m) (xs++r) /\
   w.grownBy (w.drew.alloc (.cells (xs.toArray++r.toArray++DP z.cells (grownCap w (n+m) H e-(n+m))) e)) a9:=by
  intro H ho a9;have b4:=grownCap_ge w (n+m) H e;have a1:grownCap w (n+m) H e<=maxLen:=grownCap_le_maxLen w (n+m) H e a6;refine⟨⟨O,.inr ⟨w.heap.size,_,_,_,rfl,heap_alloc_new w.drew _,b4,.inl ⟨rfl,a1⟩,?_,?_⟩⟩,⟨rfl,rfl,rfl,by simp,λk hk _=>Go.heap_alloc_old w.drew _ hk⟩⟩
  ·simp only[DK,Cc,size_zeroCells,b2,y.1,hl,<- Cp];exact BT _ (by omega)
  ·simp only[DC,BW];rw[<- BW,<- O];exact Dg
 rcases y.2 with ⟨rfl,rfl⟩|⟨g,Y,X,mk,rfl,hg,b5,a1,ad,a5⟩
 ·have hx:xs=[]:=B4 (by simpa using y.1);subst hx;by_cases hm:m=0
  ·subst hm;have hn:r=[]:=B4 (by simpa using hl);subst hn;refine⟨.slice none 0 0,w,?_,Row.nil w e i.size,⟨rfl,rfl,rfl,B3 _,λ_ _ _=>rfl⟩,.inl rfl⟩;simp[CH,run_underlying ht,sizeOf,typeInfo,hi,Cr,Cm,loadCells,loadCellsFrom]
  ·have hr:=run_append_nil (P:=P) w t ty e i z ht hi hz a m c r hl J (by omega) (by omega) (by have hb:=M;simp only[CX]at hb;omega);have R:=a0 0 (by omega) (CB (.slice none 0 0));simp only[CX,Dd,Array.empty_append]at R ⊢;exact⟨_,_,hr,R.1,R.2,.inr rfl⟩
 ·by_cases I:n+m<=Y
  ·have b0:n*i.size+r.length<=X.size:=by rw[hl,<- Cp];exact CO (BT _ I) ad
   have hr:=nf (P:=P) w t ty e i ht hi g n Y X mk hg (zH a1) a m c r hl J h1 I b0;have a2:(X.toList.take (n*i.size)++r++X.toList.drop (n*i.size+r.length)).toArray.size=X.size:=by
    simp only[Cc,BY,CA,Cs,CG];omega
   refine⟨_,_,hr,⟨O,.inr ⟨g,Y,_,mk,rfl,setRow_heap w g X _ e _ hg,I,a1.imp id (λh=>⟨h.1,?_⟩),?_,?_⟩⟩,⟨rfl,rfl,rfl,by simp,λk _ hk=>setRow_other w g k _ (λe=>hk (by simp[CB,e]))⟩,.inl rfl⟩
   ·rw[a2];exact h.2
   ·rw[a2];exact ad
   ·rw[a5,<- O];exact Dg
  ·have a4:∀ j u,xs[j]?=some u->w.cell? ((⟨g,0,none⟩:Addr).add j)=some u:=λj u hj=>by
    rw[fa,CX,y.cellAt _ (by rw[<- y.1];exact (BJ.1 hj).1)];exact hj
   have hr:=run_append_grow (P:=P) w t ty e i z ht hi hz ⟨g,0,none⟩ n Y xs y.1 a4 a m c r hl J (by omega) (by omega) (growslice_fits (by omega) M);have R:=a0 Y (by omega) (CB (.slice (some ⟨g,0,none⟩) n Y));exact⟨_,_,hr,R.1,R.2,.inr rfl⟩
theorem ng {P:Program}(w:World)(t ty e:TypeId)(i:TypeInfo)(size c:Nat)(z:P.underlying t=some (.slice e))(y:P.info? e=some i)
  (v:Value) (n:Nat) (xs:List Value) (r:Row w e size v n xs) :
  (CH #[t,t] ty #[v,.slice none 0 c]).run P w=.ok v w:=by
 rcases r.2 with ⟨rfl,rfl⟩|⟨g,I,H,_,rfl,_,u,_⟩
 ·simp[CH,run_underlying z,sizeOf,typeInfo,y,Cr,Cm]
 ·simp[CH,run_underlying z,sizeOf,typeInfo,y,Cr,Cm,u,storeCells]
theorem jl {α:Type}{f g:α->List Nat}:∀ {l:List α},(∀ x∈l,f x=g x)->l.flatMap f=l.flatMap g
 |[],_=>rfl
 |x::l,h=>by rw[CU,CU,h x (B5 ..),jl (λy r=>h y (BV _ r))]
theorem zn (n m:Nat)(f g:Nat->List Nat):(BU (n+m)).flatMap (λj=>if j<n then f j else g (j-n))=(BU n).flatMap f++(BU m).flatMap g:=by
 rw[List.range_add,List.flatMap_append,DR];congr 1
 ·refine jl λj r=>?_
  rw[if_pos (C7.1 r)]
 ·refine jl λj _=>?_
  rw[if_neg (by omega),show n+j-n=j by omega]
def wk (w:World)(G:Nat->Prop)(e:Ty)(r:List e.den)(u:Value)(y:Nat->List Nat):Prop :=
 ∃ A z,u=.slice A r.length z/\(0<r.length->∃ g o,A=some ⟨g,o,none⟩/\∀ j (x:e.den),r[j]?=some x->∃ c,Mx w G e none 0 x c (y j)/\cV w g (o+j*e.cells) c)
section
variable {P:Program} {V:Env} {Γ:List Ctr} {T:TypeId->TI} {st:St} {o:Oper} {R:Type} {κ:Upd->Option R} {r:R}
theorem wm {w:World}{t ty E:TypeId}{e e':Ty}{J:Nat}(c3:oM P t (.slice E e J))(b0:e'.cells=e.cells){G G2 G':Nat->Prop}{xs H:List e'.den}{v u:Value}{bs:List Nat}{M:Nat->List Nat}(hx:Ow w G E e' xs v bs)
  (hy:wk w G2 e' H u M) (b5:(xs.length+H.length)*J<=ak) (hG:∀ k,G k->G' k) (b4:∀ k,G2 k->G' k) (b1:∀ k,G' k->k<w.heap.size/\v.ownBlock≠some k) (bl:∀ j,j<H.length->∀ k∈M j,v.ownBlock≠some k) :
  ∃ v' O I,(CH #[t,t] ty #[v,u]).run P w=.ok v' O/\w.grownBy O v.ownBlock/\OwB O G' none E e' (xs++H) v' I /\
   ∀ k,I.count k<=bs.count k+(((BU H.length).flatMap M)++[w.heap.size]).count k:=by
 obtain⟨hu,_,_,cw,c2,ti,z,hi,hs,hb,hz,bn⟩:=c3;obtain⟨bb,X,a6,ho,b9,cb⟩:=hx;obtain⟨A,b3,cc,a9⟩:=hy;subst cc;have c4:ti.size=e'.cells:=by rw[b0];exact hs
 have a3:∀ (O:World),w.grownBy O v.ownBlock->∀ k,G' k->O.heap[k]?=w.heap[k]?:=λO Y k Z=>Y.block k (b1 k Z).1 (CW (b1 k Z).2)
 have cp:xs.length+H.length<=maxLen:=by
  have h1:(xs.length+H.length)*1<=(xs.length+H.length)*J:=Ck _ c2.1;have:=mo;simp only[ak]at b5;omega
 have ba:∀ (y:List Value),(∀ (j:Nat) (x:e'.den),H[j]?=some x->∃ c,Mx w G2 e' none 0 x c (M j)/\∀ i u,c[i]?=some u->y[j*e'.cells+i]?=some u) ->
   ∀ v' O,Row O E e'.cells v' (xs.length+H.length) (X++y)->w.grownBy O v.ownBlock->(v'.ownBlock=v.ownBlock\/v'.ownBlock=some w.heap.size) ->
    ∃ I,OwB O G' none E e' (xs++H) v' I/\∀ k,I.count k<=bs.count k+(((BU H.length).flatMap M)++[w.heap.size]).count k:=by
  intro y hn v' O a5 Y a4;refine⟨v'.ownBlock.toList++(BU (xs.length+H.length)).flatMap (λj=>if j<xs.length then a6 j else M (j-xs.length)),⟨X++y,_,by rw[BY];exact a5,by rw[BY],λj x hj=>?_⟩,λk=>?_⟩
  ·by_cases a0:j<xs.length
   ·rw[BN a0]at hj;obtain⟨c,hr,hc⟩:=cb j x hj;have hr:Mx w G e' none 0 x c (a6 j):=hr;refine⟨c,?_,λi u hi=>?_⟩
    ·rw[if_pos a0];refine hr.carry hG (λk Z=>a3 O Y k (hG k Z)) λk Z=>Y.block k (hr.lt k Z) (λe0=>?_)
     have h5:=bt.1 bb k;rw[b9,<- e0,BL]at h5;have h6:0<((BU xs.length).flatMap a6).count k:=BQ.2 (dQ.2 ⟨j,a0,Z⟩);simp at h5;omega
    ·have:=hc i u hi;rw[BN (BJ.1 this).1];exact this
   ·rw[BM (by omega)]at hj;obtain⟨c,hr,hc⟩:=hn _ x hj;have bx:=(BJ.1 hj).1;refine⟨c,?_,λi u hi=>?_⟩
    ·rw[if_neg a0];exact hr.carry b4 (λk Z=>a3 O Y k (b4 k Z)) λk Z=>Y.block k (hr.lt k Z) (CW (bl _ bx k Z))
    ·have:=hc i u hi;have b2:=ho.1;have cu:xs.length*e'.cells<=j*e'.cells:=BT _ (Nat.le_of_not_lt a0);rw[BM (by omega),<- this,b2,Nat.sub_mul];congr 1;omega
  ·rw[zn,b9];simp only[BL];rcases a4 with h5|h5
   ·rw[h5];omega
   ·rw[h5];simp only[DF];omega
 cases A with
 |none =>
  have a2:H.length=0:=by
   rcases DG H.length with h|h
   ·exact h
   ·obtain⟨g,o,hA,_⟩:=a9 h;cases hA
  have a2:=B4 a2;subst a2;have a1:=ng (P:=P) w t ty E ti e'.cells b3 hu hi v xs.length X ho;have Y:w.grownBy w v.ownBlock:=⟨rfl,rfl,rfl,B3 _,λ_ _ _=>rfl⟩;obtain⟨I,h1,h2⟩:=ba [] (by simp) v w (by simpa using ho) Y (.inl rfl);exact⟨v,w,I,a1,Y,h1,h2⟩
 |some ad =>
  have c0:∃ y:List Value,y.length=H.length*e'.cells/\(∀ j u,y[j]?=some u->w.cell? (ad.add j)=some u)/\(∀ u∈y,u.oneCell'=true) /\
    ∀ (j:Nat) (x:e'.den),H[j]?=some x->∃ c,Mx w G2 e' none 0 x c (M j)/\∀ i u,c[i]?=some u->y[j*e'.cells+i]?=some u:=by
   rcases DG H.length with h|h
   ·have a2:=B4 h;subst a2;exact⟨[],by simp,by simp,by simp,by simp⟩
   ·obtain⟨g,o,hA,he⟩:=a9 h;simp at hA;subst hA;obtain⟨y,h1,h2,h3,h4⟩:=rz H o (λj x c=>Mx w G2 e' none 0 x c (M j)) (λj x c hq=>⟨hq.len,hq.one⟩) he;exact⟨y,h1,λj u hj=>by rw[fa];exact h2 j u hj,h3,h4⟩
  obtain⟨y,h1,h2,h3,h4⟩:=c0;have c1:z.cells.size=e'.cells:=by
   have h2:=(lM w (λ_=>False) e).len;rw[<- CG,bn,h2,b0]
  obtain⟨v',O,a1,a5,Y,a4⟩:=dC (P:=P) w t ty E ti z e'.cells J hu hi hz c4 hb c1 v xs.length X ho ad H.length b3 y h1 h2 h3 cp (by simpa[ak]using b5);obtain⟨I,h5,h6⟩:=ba y h4 v' O a5 Y a4;exact⟨v',O,I,a1,Y,h5,h6⟩
theorem wn {W:Wit}{a:Act}{w:World}(h:an P V W st a w){E:TypeId}{e:Ty}{y:Leaf}{u:Value}{t:cH (List e.den)}(hl:aB P V W st w [y] [u])(H:fQ st E e y=some t) :
  (∃ I,wk w (bo V W t.p t.frz) e t.val u I/\∀ k,((BU t.val.length).flatMap I).count k<=(aX W t.kill).count k)/\(∀ x∈t.frz,aA st x)/\(∀ x∈t.kill,aA st x):=by
 have z:∀ {p q:Bool} {O:List e.den} {ks:List (Nat×Nat)},dg e (aC st y)=some (p,O)->(∀ (S:Nat->Prop) (x:e.den) (c:List Value),Rd w (bo V W p (bw st [y])) e x c->Mx w (bo V W q ks) e none 0 x c []) ->
   ∃ I,wk w (bo V W q ks) e O u I/\∀ k,((BU O.length).flatMap I).count k<=(aX W []).count k:=by
  intro p q O ks X hm;obtain⟨A,M,hu,_,hx⟩:=kN (m:=false) (E:=E) h hl.1.1 hl.1.2.1 X;have hu:u=.slice A O.length M:=by simpa using hu
  refine⟨(λ_=>[]:Nat->List Nat),⟨A,M,hu,λhp=>?_⟩,λk=>by rw[show ((BU O.length).flatMap λ_=>([]:List Nat))=[] from by simp];exact DW _⟩;obtain⟨g,o',hA,_,a0⟩:=hx hp;exact⟨g,o',hA,λj x hj=>by
   obtain⟨c,hr,hc⟩:=a0 j x hj;exact⟨c,hm (λ_=>True) x c hr,hc⟩⟩
 unfold fQ at H;cases hf:e.flat with
 |true =>
  rw[hf]at H;simp only[cond_true,BH]at H;obtain⟨⟨p,O⟩,X,rfl⟩:=H;exact⟨z X (λ_ x c hr=>Mx.flat hf hr),by simp,by simp⟩
 |false =>
  rw[hf]at H;simp only[cond_false]at H;cases hs:decide (e.sh=e) with
  |true =>
   rw[hs]at H;simp only[cond_true,BH]at H;obtain⟨⟨p,O⟩,X,rfl⟩:=H;exact⟨z X (λ_ x c hr=>Mx.shared (of_decide_eq_true hs) hr),λx hx=>eh hl hx,by simp⟩
  |false =>
   rw[hs]at H;simp only[cond_false,BH]at H;obtain⟨J,X,rfl⟩:=H;obtain⟨h1,h2,h3⟩:=dJ (pos:=0) h hl X;have h1:Mx w (bo V W J.p J.frz) (.list true E e) none 0 J.val [u] (aX W J.kill):=h1;rw[bH (by simp)]at h1;obtain⟨v,Z,a1,Y,h4,h5,h6⟩:=h1;simp only[Cj,and_true]at Z;subst Z;refine⟨⟨Y,?_,λk=>?_⟩,h2,h3⟩
   ·rcases h4.2 with ⟨hn,h0⟩|⟨g,M,a2,_,Z,hg,a3,_⟩
    ·exact⟨none,0,by rw[hn];show _=Value.slice none (DY J.val) 0;rw[h0],λhp=>by have hp:0<DY J.val:=hp;omega⟩
    ·refine⟨some ⟨g,0,none⟩,M,Z,λhp=>⟨g,0,rfl,λj x hj=>?_⟩⟩;obtain⟨c,h7,h8⟩:=h6 j x hj;have h7:Mx w (bo V W J.p J.frz) e none 0 x c (Y j):=h7;refine⟨c,h7,λi u hi=>?_⟩;have h9:=h8 i u hi;rw[CX];rw[Z]at h4;rw[h4.cellAt _ (by rw[<- h4.1];exact (BJ.1 h9).1)];exact h9
   ·show ((BU (DY J.val)).flatMap Y).count k<=(aX W J.kill).count k;rw[h5,BL];omega
theorem AI {l l':Leaf}{U:Upd}(u:cj st l=some (U,l')):∃ n,l'=.al TMP 0 n:=by
 cases l with
 |nal p J ep I E e Z =>
  simp only[cj]at u;cases y:bq st J ep with
  |false=>simp[y]at u
  |true =>
   rw[y]at u;simp only[cond_true]at u;split at u
   ·rename_i r j Y i M off;split at u
    ·rename_i p' X O H hg;cases z:!BX r TMP&&!BX r EPO&&BX M O.cells with
     |false=>simp[z]at u
     |true =>
      rw[z]at u;simp only[cond_true]at u;split at u
      ·split at u
       ·simp only[BG,CJ]at u;exact⟨_,u.2.symm⟩
       ·cases u
      ·cases u
    ·cases u
   ·cases u
 |_=>simp[cj]at u
theorem wo (hV:ax V)(hT:TOk P T)(cx:bL V o){c:Call}(cu:o.op=.call c)(hc:c.callee=.builtin .append)(h:act Γ T o st κ=some r):bV P V o st κ r:=by
  simp only[act,wrU,cu,hc]at h;split at h
  · cases h
  · rename_i d hd
    split at h
    · rename_i x y t u a1 ad
      split at h
      · rename_i E e a2 ht
        cases a9:BX t u with
        |false=>simp[a9]at h
        |true =>
          simp only[a9,cond_true]at h;have a9:=BO a9;subst a9;have cc:=hT t;rw[ht]at cc;have a1:c.args=#[x,y]:=by rw[<- CC (xs:=c.args),a1]
          have ad:c.argTypes=#[t,t]:=by rw[<- CC (xs:=c.argTypes),ad]
          have bl:∀ (a:Act) (w w':World) (v:Value),(CH #[t,t] o.type #[a.eval x,a.eval y]).run P w=.ok v w'->(execOp a.eval o).run P w=.ok (.value v) w':=by
            intro a w w' v Z;simp[execOp,cu,hc,resolve,invoke,builtin,a1,ad,Z]
          have bx:∀ (I:Upd) (E':TypeId) (e':Ty) (p:Bool) (xs:List e'.den) (ks:List (Nat×Nat)),E'=E->e'.sh=e.sh->dP st (ac I st) I d E' e' a2 p xs ks (one st y) κ=some r ->
              ∃ U,κ U=some r/\∀ (Y:Wit) (a:Act) (w:World),an P V Y (ac I st) a w->aB P V Y (ac I st) w [one st y] [a.eval y]->(∀ x∈ks,aA (ac I st) x)->Ow w (gd V Y p) E' e' xs (a.eval x) (aX Y ks)->mI P V o st U a w:=by
            intro I E' e' p xs ks hE he J;subst hE;unfold dP at J;split at J
            · rename_i t1 d1
              cases O:aY (t1.kill++ks)&&dx t1.frz (t1.kill++ks)&&decide ((xs.length+t1.val.length)*a2<=ak) with
              |false=>simp[O]at J
              |true =>
                simp only[O,cond_true]at J;simp only[BI,decide_eq_true_eq]at O;obtain⟨⟨dd,dc⟩,ba⟩:=O;refine⟨_,J,λY a w Z a3 e2 cp next Q hn=>?_⟩;obtain⟨⟨c1,cy,b4⟩,hf,d3⟩:=wn Z a3 d1;have c4:∀ x∈t1.kill++ks,aA (ac I st) x:=λx hx=>(BR.1 hx).elim (d3 x) (e2 x)
                obtain⟨h1,_,_,h4⟩:=fI hV Z dc c4;have b9:=gP Z dd c4;rw[dE]at b9 h4;have X:∀ k∈aX Y t1.kill++aX Y ks,¬ ca V (Y.frz (ac I st) t1.frz) _ k:=λk H=>mn ⟨(h4 k H).1,(h4 k H).2.1,(h4 k H).2.2.2.1,(h4 k H).2.2.2.2⟩
                rw[CN]at b9;obtain⟨cw,c3,b3⟩:=b9;have bb:∀ k,(a.eval x).ownBlock=some k->k∈aX Y ks:=by
                  intro k H;obtain⟨_,e3,e6,_,ba,_⟩:=cp;rw[ba,H];simp
                have c0:∀ k,gd V (Y.frz (ac I st) t1.frz) (p||t1.p) k->ca V (Y.frz (ac I st) t1.frz) (ac (aN (ac (aE (ac I st) t1.frz) (ac I st)) (t1.kill++ks)++aE (ac I st) t1.frz) (ac I st)) k:=by
                  rintro k (H|⟨_,H⟩)
                  · exact .inl H
                  · exact .inr (.inl (hV.ro k H))
                have a6:∀ k∈(BU t1.val.length).flatMap c1,k∈aX Y t1.kill:=λk H=>BQ.1 (by have:=b4 k;have:=BQ.2 H;omega)
                obtain⟨v',w',e4,c2,hg,cb,bn⟩:=wm (P:=P) (t:=t) (ty:=o.type) cc (ig he) cp cy ba (G':=gd V (Y.frz (ac I st) t1.frz) (p||t1.p))
                  (bT (W':=Y.frz (ac I st) t1.frz) (by intro h;simp[h]) (λ_ h=>Or.inl h))
                  (λk H=>bT (W':=Y.frz (ac I st) t1.frz) (by intro h;simp[h]) (λ_ h=>h) k (kt hf k H))
                  (λk H=>⟨h1.used_lt k (c0 k H),λe1=>X k (BK _ (bb k e1)) (c0 k H)⟩)
                  (λj hj k H e1=>b3 k (a6 k (dQ.2 ⟨j,hj,H⟩)) k (bb k e1) rfl)
                have b5:=nd (bs:=aX Y ks) (K:=(BU t1.val.length).flatMap c1++[w.heap.size]) c3
                  (bt.2 λk=>by
                    rw[BL];have h5:=b4 k;have h6:=bt.1 cw k;by_cases H:k=w.heap.size
                    · subst H
                      have:(aX Y t1.kill).count w.heap.size=0:=B8.2 (λhm=>by have:=(h4 _ (BP _ hm)).2.2.1;omega);simp;omega
                    · have:List.count k [w.heap.size]=0:=B8.2 (by simp[H])
                      omega)
                  (λk H hm=>by
                    rcases BR.1 H with H|H
                    · exact b3 k (a6 k H) k hm rfl
                    · simp at H
                      subst H;have:=(h4 _ (BK _ hm)).2.2.1;omega) bn
                refine dR (bl a w w' v' c2) ?_;rw[hd];refine hn _ _ ?_;rw[cf,aQ,bB];refine h1.putOwn hV hg.size hg.os hg.tape hg.output (λk H=>hg.block k (h1.used_lt k H) (λe1=>X k (BK _ (bb k e1.symm)) H)) d (cx d hd).1 (cx d hd).2 _ (BS _) ⟨b5.1,cb⟩ (λk H hu=>?_);rcases b5.2 k H with H|H
                · exact X k (BK _ H) hu
                · rcases BR.1 H with H|H
                  · exact X k (BP _ (a6 k H)) hu
                  · simp at H
                    have:=h1.used_lt k hu;omega
            · cases J
          have a4:∀ (I:Upd) (x':Leaf),el st I d E e a2 x' (one st y) κ=some r->one st y≠.dead:=by
            intro I x' h e1;rw[e1]at h;unfold el at h;split at h
            · split at h
              · rename_i p E' e' b2 b1
                cases O:BX E' E&&decide (e'.sh=e.sh) with
                |false=>simp[O]at h
                |true =>
                  simp only[O,cond_true,dP,fQ,aC,dg,C0,cg,take]at h;cases e'.flat <;> cases decide (e'.sh=e') <;> simp at h
              · cases h
            · simp only[dP,fQ,aC,dg,C0,cg,take]at h
              cases e.flat <;> cases decide (e.sh=e) <;> simp at h
            · cases h
          simp only[iw]at h;cases hn:jr (one st x) with
          |true =>
            rw[hn]at h;simp only[cond_true]at h;rw[hH]at h;obtain⟨⟨I,x'⟩,a5,h⟩:=CD.1 h;have a4:=a4 _ _ h;simp only[el]at h;split at h
            · rename_i r' j n
              split at h
              · rename_i p' E' e' b2 b1
                cases O:BX E' E&&decide (e'.sh=e.sh) with
                |false=>simp[O]at h
                |true =>
                  simp only[O,cond_true]at h;simp only[BI,decide_eq_true_eq]at O;obtain⟨U,hU,hg⟩:=bx I E' e' p' b2 [(r',j)] (BO O.1) O.2 h;refine⟨U,hU,λW a w Z=>?_⟩;obtain⟨a0,_,_,_,_⟩:=br Z x (by intro e1;rw[e1]at hn;simp[jr]at hn);obtain⟨Y,n0,p0,E0,e0,e5,g1,g2,g3,g4,_⟩:=vi hV Z a0 a5;obtain⟨a3,M,b0,_,_⟩:=br Z y a4;obtain⟨h5,h6,h7,h8⟩:=kq g1 b1 g4;exact hg Y a w g1 ⟨⟨a3.carry hV.ro g2 (λho=>absurd ho M),M,b0⟩,trivial⟩ (λz hz=>by simp at hz;subst hz;exact⟨_,h7,trivial⟩) (by simpa[aX]using h6)
              · cases h
            · exfalso
              obtain⟨n,d2⟩:=AI a5;cases d2
            · cases h
          |false =>
            rw[hn]at h;simp only[cond_false]at h;have a4:=a4 _ _ h;simp only[el]at h;split at h
            · rename_i r' j n hx
              split at h
              · rename_i p' E' e' b2 b1
                cases O:BX E' E&&decide (e'.sh=e.sh) with
                |false=>simp[O]at h
                |true =>
                  simp only[O,cond_true]at h;simp only[BI,decide_eq_true_eq]at O;obtain⟨U,hU,hg⟩:=bx [] E' e' p' b2 [(r',j)] (BO O.1) O.2 h;refine⟨U,hU,λW a w Z=>?_⟩;obtain⟨a0,_,_,_,_⟩:=br Z x (by rw[hx];simp);rw[hx]at a0;obtain⟨a3,M,b0,_,_⟩:=br Z y a4;obtain⟨h5,h6,h7,h8⟩:=kq Z b1 a0;exact hg W a w Z ⟨⟨a3,M,b0⟩,trivial⟩ (λz hz=>by simp at hz;subst hz;exact⟨_,h7,trivial⟩) (by simpa[aX]using h6)
              · cases h
            · rename_i hx
              obtain⟨U,hU,hg⟩:=bx [] E e false [] [] rfl rfl h;refine⟨U,hU,λW a w Z=>?_⟩;obtain⟨a0,_,_,_,_⟩:=br Z x (by rw[hx];simp);rw[hx]at a0;obtain⟨a3,M,b0,_,_⟩:=br Z y a4;exact hg W a w Z ⟨⟨a3,M,b0⟩,trivial⟩ (by simp) (by rw[show a.eval x=_ from a0];exact OwH.nil w _ E e)
            · cases h
      · cases h
    · cases h
end
def gQ (w:World)(ro pr:Nat->Prop)(r:Bool)(a:Ty)(x:a.den)(v:Value):Prop :=
 if r=true then ∃ b u g o c,v=.pointer (some ⟨b,u,none⟩)/\pr b/\w.cell? ⟨b,u,none⟩=some (.pointer (some ⟨g,o,none⟩))/\pr g/\Rd w ro a x c/\cV w g o c
 else ∃ g o c,v=.pointer (some ⟨g,o,none⟩)/\pr g/\Rd w ro a x c/\cV w g o c
def jM (w:World)(ro pr:Nat->Prop):(cs:List (Bool×Ty))->lS cs->List Value->Prop
 |[],_,y=>y=[]
 |c::cs,x,y=>∃ u r,y=u::r/\gQ w ro pr c.1 c.2 x.1 u/\jM w ro pr cs x.2 r
def nU (P:Program)(w:World)(ro pr:Nat->Prop):(pk:PK)->pk.den->Value->List Nat->Prop
 |.rd a,x,v,r=>r=[]/\∃ y,da a.isAgg v y/\Rd w ro a x y
 |.own a,x,v,r=>∃ y,da a.isAgg v y/\Mx w ro a none 0 x y r
 |.io a,x,v,r=>∃ y,da a.isAgg v y/\Mx w ro a none 0 x y r
 |.rref a,x,v,r=>r=[]/\gQ w ro pr false a x v
 |.rref2 a,x,v,r=>r=[]/\gQ w ro pr true a x v
 |.iop a,x,v,r=>∃ g c E z,v=.pointer (some ⟨g,0,none⟩)/\w.heap[g]?=some (.cells c.toArray E (0,0))/\Mx w ro a none 0 x c z/\r=g::z
 |.fn O B,M,v,r=>r=[]/\ii P w pr O B M v
 |.clo f y,x,v,r=>r=[]/\∃ H:List Value,v=.func (.func f) #[] H.toArray/\jM w ro pr y x H
 |.hol a c off,x,v,r=>∃ y u z J E e I,da a.isAgg v y/\Mx w ro a (some c) 0 x.1 y z/\y[c]?=some u/\bc c a 0 x.1=some ⟨E,e,I⟩/\OwB w ro (some (x.2,off)) E e I u J/\∀ k,r.count k=z.count k+J.count k
def c8 (P:Program)(w:World)(ro pr:Nat->Prop):(ps:List PK)->ab ps->List Value->List (List Nat)->Prop
 |[],_,z,u=>z=[]/\u=[]
 |p::ps,x,z,u=>∃ v y b r,z=v::y/\u=b::r/\nU P w ro pr p x.1 v b/\c8 P w ro pr ps x.2 y r
def jx (w:World)(G:Nat->Prop)(a:Ty)(x:a.den)(ptr:Bool)(v:Value)(bs:List Nat):Prop :=
 if ptr=true then ∃ g c E r,v=.pointer (some ⟨g,0,none⟩)/\w.heap[g]?=some (.cells c.toArray E (0,0))/\Mx w G a none 0 x c r/\bs=g::r
 else ∃ u,da a.isAgg v u/\Mx w G a none 0 x u bs
def bJ (w:World)(G:Nat->Prop):(ps:List PK)->ah ps->List Value->List (List Nat)->Prop
 |.io a::ps,o,v::u,b::r=>jx w G a o.1 false v b/\bJ w G ps o.2 u r
 |.iop a::ps,o,v::u,b::r=>jx w G a o.1 true v b/\bJ w G ps o.2 u r
 |.rd _::ps,o,_::u,b::r=>b=[]/\bJ w G ps o u r
 |.own _::ps,o,_::u,b::r=>b=[]/\bJ w G ps o u r
 |.rref _::ps,o,_::u,b::r=>b=[]/\bJ w G ps o u r
 |.rref2 _::ps,o,_::u,b::r=>b=[]/\bJ w G ps o u r
 |.fn _ _::ps,o,_::u,b::r=>b=[]/\bJ w G ps o u r
 |.clo _ _::ps,o,_::u,b::r=>b=[]/\bJ w G ps o u r
 |.hol _ _ _::ps,o,_::u,b::r=>b=[]/\bJ w G ps o u r
 |[],_,[],[]=>True
 |_,_,_,_=>False
def p8 (w:World)(G ro:Nat->Prop):(r:RK)->r.den->Value->List Nat->Prop
 |.v a,y,v,u=>∃ z,da a.isAgg v z/\Mx w G a none 0 y z u
 |.bv a,y,v,u=>u=[]/\∃ z,da a.isAgg v z/\Rd w (λk=>G k\/ro k) a y z
 |.box a,y,v,u=>∃ g c E H,v=.pointer (some ⟨g,0,none⟩)/\w.heap[g]?=some (.cells c.toArray E (0,0))/\Mx w G a none 0 y c H/\u=g::H
def gy (w:World)(G ro:Nat->Prop):(M:List RK)->ai M->List Value->List (List Nat)->Prop
 |[],_,J,H=>J=[]/\H=[]
 |r::M,y,J,H=>∃ u I b z,J=u::I/\H=b::z/\p8 w G ro r y.1 u b/\gy w G ro M y.2 I z
def sm:List Value->Value->Prop
 |[u],v=>v=u
 |r,v=>v=.tuple r.toArray
def p9 (w w':World)(r:List Nat)(k:Nat):Prop:=k<w'.heap.size/\(w.heap.size<=k\/k∈r)
def tD (c:Ctr)(w:World)(ro:Nat->Prop)(I:List Value)(r:List (List Nat))(y:ai c.rs×ah c.ps)(e:Ending)(w':World):Prop :=
 ∃ (v:Value) (H:List Value) (N:Nat->Prop) (u z:List (List Nat)),e=.returned v/\sm H v/\w.heap.size<=w'.heap.size/\w'.os=w.os/\w'.tape=w.tape/\w'.output=w.output /\
  (∀ k,k<w.heap.size->k∉r.flatten->w'.heap[k]?=w.heap[k]?)/\(∀ k,N k->p9 w w' r.flatten k) /\
  bJ w' (λk=>N k\/(c.fresh=false/\ro k)) c.ps y.2 I u/\gy w' (λk=>N k\/(c.fresh=false/\ro k)) ro c.rs y.1 H z /\
  (u.flatten++z.flatten).Nodup/\∀ k∈u.flatten++z.flatten,p9 w w' r.flatten k/\¬ N k
def bN (P:Program)(c:Ctr):Prop :=
 fR P c.f/\∀ (w:World) (ro:Nat->Prop) (x:ab c.ps) (u:List Value) (r:List (List Nat)) (y:ai c.rs×ah c.ps),
  c8 P w ro (λk=>k<w.heap.size/\k∉r.flatten) c.ps x u r->(∀ k,ro k->k<w.heap.size/\k∉r.flatten)->r.flatten.Nodup->c.den x=some y ->
  Calls P c.f u.toArray w (tD c w ro u r y)
section
variable {P:Program} {V:Env} {Γ:List Ctr} {T:TypeId->TI} {st:St} {o:Oper} {R:Type} {κ:Upd->Option R} {r:R}
theorem ii.mono {w0:World}{S I:Nat->Prop}(Y:∀ k,S k->I k){y:List Ty}{B:Ty}{H:Tup y->Option B.den}{v:Value}(h:ii P w0 S y B H v):ii P w0 I y B H v:=by
 obtain⟨f,u,e,O,X⟩:=h;exact⟨f,u,e,O,λw1 M J=>X w1 M (λk z=>J k (Y k z))⟩
theorem ii.move {w0 w:World}{S J:Nat->Prop}(H:w0.heap.size<=w.heap.size)(M:∀ k,S k->J k/\w.heap[k]?=w0.heap[k]?){z:List Ty}{B:Ty}{I:Tup z->Option B.den}{v:Value}
  (h:ii P w0 S z B I v):ii P w J z B I v:=by
 obtain⟨f,y,e,Y,Z⟩:=h;exact⟨f,y,e,Y,λw1 X O=>Z w1 (CO H X) (λk u=>(O k (M k u).1).trans (M k u).2)⟩
theorem gQ.carry {w w1:World}{ro ro' pr J:Nat->Prop}(y:∀ k,ro k->ro' k/\w1.heap[k]?=w.heap[k]?)(u:∀ k,pr k->J k/\w1.heap[k]?=w.heap[k]?){H:Bool}{a:Ty}{x:a.den}{v:Value}(h:gQ w ro pr H a x v):gQ w1 ro' J H a x v:=by
 unfold gQ at h ⊢;split at h
 ·rename_i O;rw[if_pos O];obtain⟨b,Z,g,o,c,X,I,Y,M,h7,h8⟩:=h;exact⟨b,Z,g,o,c,X,(u b I).1,by rw[kM (u b I).2];exact Y,(u g M).1,h7.carry (λk z=>(y k z).1) (λk z=>(y k z).2),h8.same (u g M).2⟩
 ·rename_i O;rw[if_neg O];obtain⟨g,o,c,X,I,Y,M⟩:=h;exact⟨g,o,c,X,(u g I).1,Y.carry (λk z=>(y k z).1) (λk z=>(y k z).2),M.same (u g I).2⟩
theorem jM.carry {w w1:World}{ro ro' pr z:Nat->Prop}(H:∀ k,ro k->ro' k/\w1.heap[k]?=w.heap[k]?)(y:∀ k,pr k->z k/\w1.heap[k]?=w.heap[k]?):∀ {cs:List (Bool×Ty)} {x:lS cs} {us:List Value},jM w ro pr cs x us->jM w1 ro' z cs x us
 |[],_,_,h=>h
 |_::_,_,_,⟨u,I,e,J,M⟩=>⟨u,I,e,J.carry H y,jM.carry H y M⟩
theorem nU.mono {w:World}{ro ro' pr O:Nat->Prop}(y:∀ k,ro k->ro' k)(J:∀ k,pr k->O k):∀ {pk:PK} {x:pk.den} {v:Value} {bs:List Nat},nU P w ro pr pk x v bs->nU P w ro' O pk x v bs
 |.rd _,_,_,_,⟨e,M,H,I⟩=>⟨e,M,H,I.mono y⟩
 |.own _,_,_,_,⟨M,H,I⟩=>⟨M,H,I.mono y⟩
 |.io _,_,_,_,⟨M,H,I⟩=>⟨M,H,I.mono y⟩
 |.rref _,_,_,_,⟨e,h⟩=>⟨e,h.carry (λk z=>⟨y k z,rfl⟩) (λk z=>⟨J k z,rfl⟩)⟩
 |.rref2 _,_,_,_,⟨e,h⟩=>⟨e,h.carry (λk z=>⟨y k z,rfl⟩) (λk z=>⟨J k z,rfl⟩)⟩
 |.iop _,_,_,_,⟨g,c,E,X,H,I,Y,Z⟩=>⟨g,c,E,X,H,I,Y.mono y,Z⟩
 |.fn _ _,_,_,_,⟨e,h⟩=>⟨e,ii.mono J h⟩
 |.clo _ _,_,_,_,⟨e,us,H,I⟩=>⟨e,us,H,I.carry (λk z=>⟨y k z,rfl⟩) (λk z=>⟨J k z,rfl⟩)⟩
 |.hol _ _ _,_,_,_,⟨M,u,X,b1,E,e,xs,H,I,Y,Z,h5,h6⟩=>⟨M,u,X,b1,E,e,xs,H,I.mono y,Y,Z,h5.carry y (λ_ _=>rfl) (λ_ _=>rfl),h6⟩
theorem c8.mono {w:World}{ro ro' pr z:Nat->Prop}(I:∀ k,ro k->ro' k)(u:∀ k,pr k->z k):∀ {ps:List PK} {x:ab ps} {M:List Value} {H:List (List Nat)},c8 P w ro pr ps x M H->c8 P w ro' z ps x M H
 |[],_,_,_,h=>h
 |_::_,_,_,_,⟨v,J,b,y,Z,Y,O,X⟩=>⟨v,J,b,y,Z,Y,O.mono I u,c8.mono I u X⟩
def jV (V:Env)(W:Wit)(st:St)(ks:List (Nat×Nat))(u:List Nat)(k:Nat):Prop:=W.nw k\/V.prot k\/(∃ b∈u,live st b/\W.β b=k)\/∃ x∈ks,k∈W.bs x.1 x.2
theorem kU {W:Wit}{y H:List (Nat×Nat)}{I z:List Nat}(h:∀ x∈y,x∈H)(M:∀ b∈I,b∈z):∀ k,jV V W st y I k->jV V W st H z k:=by
 rintro k (u|u|⟨b,J,u⟩|⟨x,O,u⟩)
 ·exact .inl u
 ·exact .inr (.inl u)
 ·exact .inr (.inr (.inl ⟨b,M b J,u⟩))
 ·exact .inr (.inr (.inr ⟨x,h x O,u⟩))
theorem iZ {W:Wit}{p q:Bool}{y z:List (Nat×Nat)}(H:p=true->q=true)(h:∀ x∈y,x∈z):∀ k,bo V W p y k->bo V W q z k:=by
 rintro k (u|⟨x,I,u⟩)
 ·exact .inl (bT (W':=W) H (λ_ h=>h) k u)
 ·exact .inr ⟨x,h x I,u⟩
theorem gz {agg:Bool}{v:Value}{cs:List Value}(h:d9 (bg agg) v cs):da agg v cs:=by
 cases agg <;> exact h
theorem nh {W:Wit}{a:Act}{w:World}(h:an P V W st a w){l:Leaf}{ls:List Leaf}{v:Value}(hl:aK P V W st w [] l v)(y:target st l=some ls)(ks:List (Nat×Nat))(O:List Nat)(J:∀ b∈fm [l],b∈O) :
  ∃ g o cs,v=.pointer (some ⟨g,o,none⟩)/\jV V W st ks O g/\aB P V W st w ls cs/\cV w g o cs:=by
 unfold target at y;split at y
 ·rename_i b;cases X:decide ((st b).sh=.agg) with
  |false=>simp[X]at y
  |true =>
   simp only[X,cond_true,BG]at y;subst y;obtain⟨hB,M,z⟩:=hl;rcases h.boxes b hB with ⟨Z,_⟩|⟨_,E,Z⟩
   ·rw[M]at Z;cases Z
   ·exact⟨W.β b,0,W.cs b,z,.inr (.inr (.inl ⟨b,J b (by simp[fm]),⟨hB,M⟩,rfl⟩)),iA h b,λi v z=>by
     rw[CX,cell_of_row w (W.β b) i _ E (0,0) Z];simpa using z⟩
 ·rename_i p a x;simp only[BG]at y;subst y;obtain⟨g,Y,c,z,hg,H,hc⟩:=hl;rw[CM]at z;exact⟨g,Y,c,z,hg.elim .inl (λh=>.inr (.inl h)),e9 (λ_ h=>h) H,hc⟩
 ·rename_i p a x;simp only[BG]at y;subst y;obtain⟨b,ob,g,Y,c,z,X,I,hg,H,hc⟩:=hl;refine⟨b,ob,[.pointer (some ⟨g,Y,none⟩)],z,X.elim .inl (λh=>.inr (.inl h)),⟨⟨⟨g,Y,c,rfl,hg,H,hc⟩,id,rfl⟩,trivial⟩,λi u hi=>?_⟩;cases i with
  |zero=>simp at hi;subst hi;exact I
  |succ i=>simp at hi
 ·cases y
theorem gR {W:Wit}{w:World}{x:aI×List Leaf}{l:Leaf}{v:Value}{cs:List Value}(y:d9 x.1 v cs)(z:aB P V W st w x.2 cs)(u:ck x=l)(H:l≠.dead) :
  aK P V W st w [] l v/\v.oneCell'=true:=by
 unfold ck at u;split at u
 ·rename_i I;subst u;have y:cs=[v]:=y;subst y;exact⟨z.1.1,z.1.2.2⟩
 ·exact absurd u.symm H
theorem ni {W:Wit}{a:Act}{w:World}(h:an P V W st a w){c:Bool×Ty}{l:Leaf}{v:Value}(hl:aK P V W st w [] l v){g:Got c.2.den}(H:fp st c l=some g) :
  gQ w (bo V W g.p g.frz) (jV V W st g.frz g.see) c.1 c.2 g.val v/\(∀ z∈g.frz,aA st z)/\g.kill=[]/\g.lend=[]:=by
 unfold fp at H;cases hc:c.1 with
 |true =>
  rw[hc]at H;simp only[cond_true]at H;split at H
  ·rename_i l' ht;split at H
   ·rename_i Z a3;simp only[BH]at H;obtain⟨⟨p,y⟩,hy,rfl⟩:=H;obtain⟨g,o',cs,hv,X,I,Y⟩:=nh h hl ht (bw st Z) (fm [l,l']) (λb M=>by
     cases l <;> simp[fm]at M ⊢ <;> exact .inl M)
    match cs,I with
    |[u],I =>
     obtain⟨g2,o2,a1,a2,a4,O,a0⟩:=nh h I.1.1 a3 (bw st Z) (fm [l,l']) (λb M=>by
      cases l <;> cases l' <;> simp[fm]at M ⊢ <;> first|exact M|exact .inr M)
     have J:=Y 0 u rfl;rw[CM,a2]at J;refine⟨?_,λz hz=>eh O hz,rfl,rfl⟩;unfold gQ;rw[if_pos rfl];exact⟨g,o',g2,o2,a1,hv,X,J,a4,eE h O hy,a0⟩
   ·cases H
  ·cases H
 |false =>
  rw[hc]at H;simp only[cond_false]at H;split at H
  ·rename_i Z ht;simp only[BH]at H;obtain⟨⟨p,y⟩,hy,rfl⟩:=H;obtain⟨g,o',cs,hv,X,I,Y⟩:=nh h hl ht (bw st Z) (fm [l]) (λb M=>M);refine⟨?_,λz hz=>eh I hz,rfl,rfl⟩;unfold gQ;rw[if_neg (by simp)];exact⟨g,o',cs,hv,X,eE h I hy,Y⟩
  ·cases H
theorem mp {W:Wit}{a:Act}{w:World}(h:an P V W st a w):∀ {cs:List (Bool×Ty)} {ls:List Leaf} {us:List Value} {g:Got (lS cs)},aB P V W st w ls us->cq st cs ls=some g ->
  jM w (bo V W g.p g.frz) (jV V W st g.frz g.see) cs g.val us/\(∀ z∈g.frz,aA st z)/\g.kill=[]/\g.lend=[]
 |[],[],us,g,J,y=>by
  simp only[cq,BG]at y;subst y;cases us with
  |nil=>exact⟨rfl,by simp,rfl,rfl⟩
  |cons=>exact J.elim
 |[],_::_,_,_,_,y=>by simp[cq]at y
 |_::_,[],_,_,_,y=>by simp[cq]at y
 |c::cs,l::ls,us,g,J,y=>by
  cases us with
  |nil=>exact J.elim
  |cons u us =>
   simp only[cq]at y;split at y
   ·rename_i g1 M;split at y
    ·rename_i g2 O;simp only[BG]at y;subst y;obtain⟨Y,h2,h3,h4⟩:=ni h J.1.1 M;obtain⟨Z,h6,h7,h8⟩:=mp h J.2 O;refine⟨⟨u,us,rfl,Y.carry (λk I=>⟨iZ (by intro h;simp[h]) (λx H=>BP _ H) k I,rfl⟩) (λk I=>⟨kU (λx H=>BP _ H) (λx H=>BP _ H) k I,rfl⟩),
      Z.carry (λk I=>⟨iZ (by intro h;simp[h]) (λx H=>BK _ H) k I,rfl⟩) (λk I=>⟨kU (λx H=>BK _ H) (λx H=>BK _ H) k I,rfl⟩)⟩,?_,rfl,rfl⟩
     intro z X;exact (BR.1 X).elim (h2 z) (h6 z)
    ·cases y
   ·cases y
theorem wq {W:Wit}{w:World}{c:Bool×Bool×(a:Ty)×a.den}{v:Value}(h:iM V W w c v):aK P V W st w [] (eT c) v/\¬ am (eT c)/\v.oneCell'=true:=by
 unfold iM at h;unfold eT;split at h
 ·rename_i u;rw[u];refine⟨h,id,?_⟩;obtain⟨b,I,g,z,H,y,_⟩:=h;rw[y];rfl
 ·rename_i u;have u:c.2.1=false:=by simpa using u
  rw[u];refine⟨h,id,?_⟩;obtain⟨g,z,H,y,_⟩:=h;rw[y];rfl
theorem qJ {W:Wit}{w:World}{caps:List (Bool×Bool×(a:Ty)×a.den)}{us:List Value}(z:us.length=caps.length)(h:∀ (i:Nat) (c:Bool×Bool×(a:Ty)×a.den) (u:Value),caps[i]?=some c->us[i]?=some u->iM V W w c u) :
  aB P V W st w (caps.map eT) us :=
 aB.mk (by simp[z]) λj l v y I=>by
  rw[List.getElem?_map,BH]at y;obtain⟨c,H,rfl⟩:=y;exact wq (h j c v H I)
theorem qa {W:Wit}{w:World}:∀ (caps:List Nat),(∀ b∈caps,B0<=b/\(st b).sh=.agg)->aB P V W st w (caps.map λb=>Leaf.bp b 0) (caps.map λb=>Value.pointer (some ⟨W.β b,0,none⟩))
 |[],_=>trivial
 |b::caps,h=>⟨⟨⟨(h b (B5 ..)).1,(h b (B5 ..)).2,rfl⟩,id,rfl⟩,qa caps (λq u=>h q (BV _ u))⟩
theorem nj {off:Nat}{E:TypeId}{e:Ty}{X:List e.den}:∀ {a:Ty} {pos:Nat} {x z:a.den},bK off E e X a pos x=some z->(∃ y,bc off a pos x=some ⟨E,e,y⟩)/\bc off a pos z=some ⟨E,e,X⟩
 |.pair a b,pos,x,z,h=>by
  simp only[bK]at h;split at h
  ·rename_i u J;simp only[BG]at h;subst h;obtain⟨⟨y,M⟩,O⟩:=nj J;exact⟨⟨y,by simp only[bc,M]⟩,by simp only[bc,O]⟩
  ·rename_i hn;simp only[BH]at h;obtain⟨u,J,rfl⟩:=h;have Y:=Mx.back.set_in J;obtain⟨⟨y,M⟩,O⟩:=nj J;have H:bc off a pos x.1=none:=by
    cases hg:bc off a pos x.1 with
    |none=>rfl
    |some u=>have:=gx hg;omega
   exact⟨⟨y,by simp only[bc,H,M]⟩,by simp only[bc,H,O]⟩
 |.list m E' e',pos,Z,z,h=>by
  simp only[bK]at h;cases I:m&&BX pos off with
  |false=>simp[I]at h
  |true =>
   rw[I]at h;simp only[cond_true]at h;obtain⟨rfl,rfl,rfl⟩:=jR h;exact⟨⟨Z,by simp[bc,I]⟩,by simp[bc,I]⟩
 |.int _,_,_,_,h=>by simp[bK]at h
 |.bool,_,_,_,h=>by simp[bK]at h
 |.str,_,_,_,h=>by simp[bK]at h
 |.unit,_,_,_,h=>by simp[bK]at h
 |.hdr,_,_,_,h=>by simp[bK]at h
theorem Mx.refill {w:World}{G:Nat->Prop}{off:Nat}{E:TypeId}{e:Ty}{ys:List e.den}{u:Value}(Y:u.oneCell'=true):∀ {a:Ty} {pos:Nat} {x z:a.den} {cs:List Value} {bs:List Nat},Mx w G a (some off) pos x cs bs->bK off E e ys a pos x=some z ->
  Mx w G a (some off) pos z (cs.set (off-pos) u) bs
 |.pair a b,pos,x,z,cs,bs,⟨Z,c2,b1,b2,e1,e2,M,O⟩,h=>by
  have hl:=M.len;simp only[bK]at h;split at h
  ·rename_i y J;simp only[BG]at h;subst h;have X:=Mx.back.set_in J;refine⟨Z.set (off-pos) u,c2,b1,b2,?_,e2,Mx.refill Y M J,O⟩;rw[e1,List.set_append_left _ _ (by omega)]
  ·simp only[BH]at h;obtain⟨y,J,rfl⟩:=h;have X:=Mx.back.set_in J;refine⟨Z,c2.set (off-(pos+a.cells)) u,b1,b2,?_,e2,M,Mx.refill Y O J⟩;rw[e1,List.set_append_right _ _ (by omega),hl,show off-pos-a.cells=off-(pos+a.cells) by omega]
 |.list m E' e',pos,xs,z,cs,bs,H,h=>by
  simp only[bK]at h;cases I:m&&BX pos off with
  |false=>simp[I]at h
  |true =>
   simp only[BI]at I;obtain⟨rfl,I⟩:=I;have I:=BO I;subst I;rw[jc]at H ⊢;obtain⟨v,rfl,M,O⟩:=H;exact⟨u,by simp,Y,O⟩
 |.int _,_,_,_,_,_,_,h=>by simp[bK]at h
 |.bool,_,_,_,_,_,_,h=>by simp[bK]at h
 |.str,_,_,_,_,_,_,h=>by simp[bK]at h
 |.unit,_,_,_,_,_,_,h=>by simp[bK]at h
 |.hdr,_,_,_,_,_,_,h=>by simp[bK]at h
theorem aB.setNil {W:Wit}{w:World}{ls:List Leaf}{cs:List Value}(I:aB P V W st w ls cs)(c:Nat):aB P V W st w (aT ls c .nil) (cs.set c (.slice none 0 0)):=by
 have u:=I.length;refine aB.mk (by simp[aT,u]) λj l v H y=>?_
 rcases aS _ _ _ _ _ H with ⟨rfl,rfl,J⟩|⟨z,H⟩
 ·rw[Cd (by omega)]at y;simp only[BG]at y;subst y;exact⟨rfl,id,rfl⟩
 ·rw[CV (CW z)]at y;exact I.at_ j l v H y
def wt (P:Program)(V:Env)(W:Wit)(st:St)(w:World)(pk:PK)(v:Value)(g:Got pk.den):Prop :=
 (∃ u,nU P w (bo V W g.p g.frz) (jV V W st g.frz g.see) pk g.val v u/\u=g.lend.map W.β++aX W g.kill)/\(∀ z∈g.frz,aA st z)/\(∀ z∈g.kill,aA st z)/\(∀ b∈g.lend,live st b)
theorem nk (hV:ax V){W:Wit}{a:Act}{w:World}(h:an P V W st a w){pk:PK}{x:aI×List Leaf}{v:Value}{cs:List Value}(hs:d9 x.1 v cs)(hl:aB P V W st w x.2 cs)
  {g:Got pk.den} (u:be st pk x=some g):wt P V W st w pk v g:=by
 obtain⟨sh,ls⟩:=x;have Y:∀ {b:Ty} {g:Got b.den},(bif decide (sh=bg b.isAgg) then (cg st b ls).map (λt=>(⟨t.p,t.val,t.frz,t.kill,[],[]⟩:Got b.den)) else none)=some g ->
   (∃ cs,da b.isAgg v cs/\Mx w (bo V W g.p g.frz) b none 0 g.val cs (aX W g.kill))/\g.lend=[]/\g.see=[]/\(∀ z∈g.frz,aA st z)/\(∀ z∈g.kill,aA st z):=by
  intro b g hq;cases I:decide (sh=bg b.isAgg) with
  |false=>simp[I]at hq
  |true =>
   rw[I]at hq;simp only[cond_true,BH]at hq;have X:=of_decide_eq_true I;subst X;obtain⟨t,ht,rfl⟩:=hq;obtain⟨O,J,M⟩:=dJ (pos:=0) h hl ht;exact⟨⟨cs,gz hs,O⟩,rfl,rfl,J,M⟩
 cases pk with
 |rd b =>
  simp only[be]at u;cases I:decide (sh=bg b.isAgg) with
  |false=>simp[I]at u
  |true =>
   rw[I]at u;simp only[cond_true,BH]at u;have X:=of_decide_eq_true I;subst X;obtain⟨⟨p,y⟩,hy,rfl⟩:=u;exact⟨⟨[],⟨rfl,cs,gz hs,eE h hl hy⟩,rfl⟩,λz hz=>eh hl hz,by simp[Got.ofRd],by simp[Got.ofRd]⟩
 |own b =>
  obtain⟨O,J,M,Z,h5⟩:=Y u;exact⟨⟨_,O,by rw[J];rfl⟩,Z,h5,by rw[J];simp⟩
 |io b =>
  obtain⟨O,J,M,Z,h5⟩:=Y u;exact⟨⟨_,O,by rw[J];rfl⟩,Z,h5,by rw[J];simp⟩
 |iop b =>
  simp only[be]at u;split at u
  ·rename_i q hx;cases I:decide ((st q).sh=.agg) with
   |false=>simp[I]at u
   |true =>
    simp only[I,cond_true,BH]at u;obtain⟨t,ht,rfl⟩:=u;obtain⟨H,hv⟩:=gR hs hl hx (by simp);obtain⟨hB,a5,ad⟩:=H;rcases h.boxes q hB with ⟨h8,_⟩|⟨_,E,h8⟩
    ·rw[a5]at h8;cases h8
    ·obtain⟨O,J,M⟩:=dJ (pos:=0) h (iA h q) ht;exact⟨⟨_,⟨W.β q,W.cs q,E,_,ad,h8,O,rfl⟩,rfl⟩,J,M,λb' X=>by simp at X;subst X;exact⟨hB,a5⟩⟩
  ·cases u
 |rref b =>
  simp only[be]at u;have hd:ck (sh,ls)≠.dead:=by
   intro e;rw[e]at u;simp[fp,target]at u
  obtain⟨H,hv⟩:=gR hs hl rfl hd;obtain⟨O,J,M,Z⟩:=ni (c:=(false,b)) h H u;exact⟨⟨[],⟨rfl,O⟩,by rw[M,Z];rfl⟩,J,by rw[M];simp,by rw[Z];simp⟩
 |rref2 b =>
  simp only[be]at u;have hd:ck (sh,ls)≠.dead:=by
   intro e;rw[e]at u;simp[fp,target]at u
  obtain⟨H,hv⟩:=gR hs hl rfl hd;obtain⟨O,J,M,Z⟩:=ni (c:=(true,b)) h H u;exact⟨⟨[],⟨rfl,O⟩,by rw[M,Z];rfl⟩,J,by rw[M];simp,by rw[Z];simp⟩
 |fn As B =>
  simp only[be]at u;split at u
  ·rename_i As' B' φ hx;obtain⟨H,hv⟩:=gR hs hl hx (by simp);split at u
   ·rename_i hh;obtain⟨rfl,rfl⟩:=hh;simp only[BG]at u;subst u;have hf:ii P V.w0 V.prot As' B' φ v:=H;exact⟨⟨[],⟨rfl,ii.move h.size (λk hk=>⟨.inr (.inl hk),h.keep k hk⟩) hf⟩,rfl⟩,by simp,by simp,by simp⟩
   ·cases u
  ·cases u
 |clo f bx =>
  simp only[be]at u;split at u
  ·rename_i f' a2 hx;cases I:BX f' f with
   |false=>simp[I]at u
   |true =>
    simp only[I,cond_true]at u;have I:=BO I;subst I;obtain⟨H,hv⟩:=gR hs hl hx (by simp);obtain⟨O,J⟩:=H;obtain⟨M,Z,h5,h6⟩:=mp h (qa a2 J) u;exact⟨⟨[],⟨rfl,_,O,M⟩,by rw[h5,h6];rfl⟩,Z,by rw[h5];simp,by rw[h6];simp⟩
  ·rename_i f' a2 hx;cases I:BX f' f with
   |false=>simp[I]at u
   |true =>
    simp only[I,cond_true]at u;have I:=BO I;subst I;obtain⟨H,hv⟩:=gR hs hl hx (by simp);obtain⟨us,O,J,h7⟩:=H;obtain⟨M,Z,h5,h6⟩:=mp h (qJ J h7) u;exact⟨⟨[],⟨rfl,us,O,M⟩,by rw[h5,h6];rfl⟩,Z,by rw[h5];simp,by rw[h6];simp⟩
  ·cases u
 |hol b c off =>
  simp only[be]at u;cases I:decide (sh=bg b.isAgg) with
  |false=>simp[I]at u
  |true =>
   rw[I]at u;simp only[cond_true]at u;have X:=of_decide_eq_true I;subst X;split at u
   ·rename_i r' j n a0;split at u
    ·rename_i p i o' E e xs hd;cases a1:BX o' off with
     |false=>simp[a1]at u
     |true =>
      rw[a1]at u;simp only[cond_true]at u;have a1:=BO a1;subst a1;split at u
      ·rename_i t ht;split at u
       ·rename_i y hy;simp only[BG]at u;subst u;have a6:ls[c]?=some (.al r' j n):=by
         rw[CL]at a0;cases hq:ls[c]? with
         |none=>rw[hq]at a0;simp at a0
         |some l0=>rw[hq]at a0;simp at a0;rw[a0]
        have a3:c<cs.length:=by rw[<- hl.length];exact (BJ.1 a6).1
        have a4:=BZ a3;obtain⟨H,_,a9⟩:=hl.at_ c _ _ a6 a4;obtain⟨_,b3,b4,_⟩:=kq h hd H;obtain⟨O,J,M⟩:=dJ (pos:=0) h (hl.setNil c) ht;obtain⟨⟨ba,b5⟩,b2⟩:=nj hy;obtain⟨v0,bn,b0,g1,g2,g3,g4⟩:=O.out b5;have b1:bn=[]:=by
         simp only[Cx,Cd a3,BG]at g2;obtain⟨b9,bl,q1,q2,_⟩:=g1;obtain⟨A,bb,q4,_⟩:=q1.slice;rw[<- g2]at q2 q4;simp only[CF]at q4;rw[q2,<- q4.2.1];rfl
        have g5:=Mx.refill a9 g3 hy;simp only[Cx,List.set_set,List.set_getElem_self]at g5;refine⟨⟨_,⟨cs,cs[c],b0,W.bs r' j,E,e,xs,gz hs,g5.mono (iZ (by intro h;simp[h]) (λ_ h=>h)),a4,b2,
         b3.2.carry (λk hk=>.inl (bT (W':=W) (by intro h;simp[h]) (λ_ h=>h) k hk)) (λ_ _=>rfl) (λ_ _=>rfl),λk=>?_⟩,rfl⟩,J,?_,by simp⟩
        ·have:=g4 k;rw[b1]at this;simp only[DH,Dd];rw[show aX W ((r',j)::t.kill)=W.bs r' j++aX W t.kill from rfl,BL,this];simp;omega
        ·intro z hz;rcases CY.1 hz with rfl|hz
         ·exact⟨_,b4,trivial⟩
         ·exact M z hz
       ·cases u
      ·cases u
    ·cases u
   ·cases u
end
section
variable {P:Program} {V:Env} {Γ:List Ctr} {T:TypeId->TI} {st:St} {o:Oper} {R:Type} {κ:Upd->Option R} {r:R}
def gU (P:Program)(V:Env)(W:Wit)(st:St)(w:World):List (aI×List Leaf)->List Value->Prop
 |[],y=>y=[]
 |x::H,y=>∃ v u z,y=v::u/\d9 x.1 v z/\aB P V W st w x.2 z/\gU P V W st w H u
theorem kF {W:Wit}{w:World}{ga:(pk:PK)->aI×List Leaf->Option (Got pk.den)}
  (H:∀ (pk:PK) (x:aI×List Leaf) (v:Value) (cs:List Value) (g:Got pk.den),d9 x.1 v cs->aB P V W st w x.2 cs->ga pk x=some g->wt P V W st w pk v g) :
  ∀ (ps:List PK) (xs:List (aI×List Leaf)) (X:List Value) (g:Got (ab ps)),gU P V W st w xs X->a8 ga ps xs=some g ->
   (∃ I,c8 P w (bo V W g.p g.frz) (jV V W st g.frz g.see) ps g.val X I/\∀ k,I.flatten.count k=(g.lend.map W.β).count k+(aX W g.kill).count k) /\
    (∀ z∈g.frz,aA st z)/\(∀ z∈g.kill,aA st z)/\(∀ b∈g.lend,live st b)
 |[],[],X,g,u,y=>by
  simp only[a8,BG]at y;subst y;exact⟨⟨[],⟨u,rfl⟩,λk=>by simp[aX]⟩,by simp,by simp,by simp⟩
 |[],_::_,_,_,_,y=>by simp[a8]at y
 |_::_,[],_,_,_,y=>by simp[a8]at y
 |p::ps,x::xs,X,g,u,y=>by
  obtain⟨v,O,cs,rfl,hs,hl,J⟩:=u;simp only[a8]at y;split at y
  ·rename_i g1 Y;split at y
   ·rename_i g2 a0;simp only[BG]at y;subst y;obtain⟨⟨b,h1,h2⟩,h3,h4,h5⟩:=H p x v cs g1 hs hl Y;obtain⟨⟨I,h6,h7⟩,h8,h9,Z⟩:=kF H ps xs O g2 J a0;refine⟨⟨b::I,⟨v,O,b,I,rfl,rfl,h1.mono (iZ (by intro h;simp[h]) (λx u=>BP _ u)) (kU (λx u=>BP _ u) (λx u=>BP _ u)),
     h6.mono (iZ (by intro h;simp[h]) (λx u=>BK _ u)) (kU (λx u=>BK _ u) (λx u=>BK _ u))⟩,λk=>?_⟩,?_,?_,?_⟩
    ·rw[B6,BL,h7 k,h2,BL,DZ,BL,dE,BL];omega
    ·intro z M;exact (BR.1 M).elim (h3 z) (h8 z)
    ·intro z M;exact (BR.1 M).elim (h4 z) (h9 z)
    ·intro z M;exact (BR.1 M).elim (h5 z) (Z z)
   ·cases y
  ·cases y
theorem nl:∀ {Γ:List Ctr} {f:FuncId} {c:Ctr},lT Γ f=some c->c∈Γ/\c.f=f
 |[],_,_,h=>by simp[lT]at h
 |y::Γ,f,c,h=>by
  simp only[lT]at h;cases u:BX y.f f with
  |true =>
   simp only[u,cond_true,BG]at h;subst h;exact⟨B5 ..,BO u⟩
  |false =>
   simp only[u,cond_false]at h;obtain⟨z,H⟩:=nl h;exact⟨BV _ z,H⟩
theorem tE {w:World}{G pr:Nat->Prop}{q:List PK}{z:ab q}{cv:List Value}{H:List (List Nat)}(J:c8 P w G pr q z cv H):∀ (y:List Ty) (x:Tup y) (u:List Value),sd w G y x u ->
  c8 P w G pr (y.map .rd++q) (nJ q z y x) (u++cv) (y.map (λ_=>[])++H)
 |[],_,_,h=>by rw[show _=_ from h];exact J
 |a::y,x,_,⟨v,c,I,rfl,M,X,O⟩=>⟨v,I++cv,[],_,rfl,rfl,⟨rfl,c,M,X⟩,tE J y x.2 I O⟩
theorem qb {w:World}{ro pr:Nat->Prop}:∀ {ps:List PK} {x:ab ps} {I:List Value} {u:List (List Nat)},ps.all PK.reads=true->c8 P w ro pr ps x I u->u.flatten=[]
 |[],_,_,_,_,⟨_,e⟩=>by rw[e];rfl
 |p::ps,_,_,_,h,⟨v,J,b,y,_,e,z,H⟩=>by
  simp only[DE,BI]at h;rw[e,B6,qb h.2 H,B9];cases p <;> first|exact z.1|simp[PK.reads]at h
theorem qc {w w1:World}{ro pr ro' I:Nat->Prop}(u:∀ k,ro k->ro' k/\w1.heap[k]?=w.heap[k]?)(y:∀ k,pr k->I k/\w1.heap[k]?=w.heap[k]?):∀ {ps:List PK} {x:ab ps} {Y:List Value} {J:List (List Nat)},
  ps.all PK.reads=true->c8 P w ro pr ps x Y J->c8 P w1 ro' I ps x Y J
 |[],_,_,_,_,h=>h
 |p::ps,x,_,_,O,⟨v,X,b,H,e,e2,z,h2⟩=>by
  simp only[DE,BI]at O;refine⟨v,X,b,H,e,e2,?_,qc u y O.2 h2⟩;cases p with
  |rd a =>
   obtain⟨h0,cs,Z,h4⟩:=z;exact⟨h0,cs,Z,h4.carry (λk M=>(u k M).1) (λk M=>(u k M).2)⟩
  |rref a=>exact⟨z.1,z.2.carry u y⟩
  |rref2 a=>exact⟨z.1,z.2.carry u y⟩
  |_=>simp[PK.reads]at O
theorem mq (z:ax V){W:Wit}{p:Bool}{ks:List (Nat×Nat)}{y:List Nat}:∀ k,bo V W p ks k->jV V W st ks y k:=by
 rintro k ((u|⟨_,u⟩)|u)
 ·exact .inl u
 ·exact .inr (.inl (z.ro k u))
 ·exact .inr (.inr (.inr u))
theorem rA {W:Wit}{ks:List (Nat×Nat)}{H:List Nat}(y:∀ z∈ks,aA st z):∀ k,jV V W st ks H k->ca V W st k:=by
 rintro k (u|u|⟨b,_,I,e⟩|⟨x,M,u⟩)
 ·exact .inl u
 ·exact .inr (.inl u)
 ·exact .inr (.inr (.inl ⟨b,I,e⟩))
 ·obtain⟨l,J,O⟩:=y x M;exact .inr (.inr (.inr ⟨x.1,x.2,l,J,O,u⟩))
theorem sn {W:Wit}{w:World}:∀ {ls:List Leaf} {us:List Value},aB P V W st w ls us->gU P V W st w (ls.map λl=>(aI.one,[l])) us
 |[],[],_=>rfl
 |_::_,_::_,h=>⟨_,_,[_],rfl,rfl,⟨h.1,trivial⟩,sn h.2⟩
theorem yc (hV:ax V)(hΓ:∀ c∈Γ,bN P c){W:Wit}{a:Act}{w:World}(h:an P V W st a w){O:List Ty}{B:Ty}{f:FuncId}{ls:List Leaf}{us:List Value}{v:Value}(hv:v=.func (.func f) #[] us.toArray)(c0:aB P V W st w ls us)
  {g:Got (Tup O->Option B.den)} (H:kJ Γ st O B f ls=some g):ii P w (jV V W st g.frz g.see) O B g.val v/\(∀ z∈g.frz,aA st z)/\g.kill=[]/\g.lend=[]:=by
 unfold kJ at H;split at H
 ·rename_i c hc;obtain⟨b0,rfl⟩:=nl hc;obtain⟨a1,I⟩:=hΓ c b0;obtain⟨f',ps,rs,a4,cu⟩:=c;simp only at H a1 I hv;generalize ps.drop O.length=q at H;unfold r9 at H;split at H
  ·rename_i hh;obtain⟨rfl,rfl⟩:=hh;cases hb:q.all PK.reads&&B.flat&&a4 with
   |false=>simp[hb]at H
   |true =>
    simp only[hb,cond_true]at H;simp only[BI]at hb;obtain⟨⟨b3,bb⟩,b4⟩:=hb;subst b4;split at H
    ·rename_i g0 bn;simp only[BG]at H;subst H;obtain⟨⟨a6,h1,h2⟩,h3,h4,h5⟩:=kF (λpk x v cs g hs hl H=>nk hV h hs hl H) q _ _ g0 (sn c0) bn;have b9:=qb b3 h1;refine⟨⟨f',us.toArray,hv,a1,λw1 c2 Z x J y hx hy=>?_⟩,h3,rfl,rfl⟩;simp only[BH]at hy;obtain⟨y0,b2,rfl⟩:=hy;have M:(O.map (λ_=>([]:List Nat))++a6).flatten=[]:=by
      rw[List.flatten_append,b9,B9];clear hx b2;induction O with
      |nil=>rfl
      |cons a O ih=>simp
     have a9:∀ k,jV V W st g0.frz g0.see k->k<w1.heap.size:=λk Y=>CQ (h.used_lt k (rA h3 k Y)) c2
     have a3:=tE (P:=P) (pr:=λk=>k<w1.heap.size/\k∉(O.map (λ_=>([]:List Nat))++a6).flatten)
      (qc (P:=P) (w1:=w1) (ro':=λk=>k<w1.heap.size) (λk Y=>⟨a9 k (mq hV k Y),Z k (mq hV k Y)⟩)
       (λk Y=>⟨⟨a9 k Y,by rw[M];simp⟩,Z k Y⟩) b3 h1) O x J hx
     have a0:=I w1 (λk=>k<w1.heap.size) (nJ q g0.val O x) (J++us) (O.map (λ_=>[])++a6) y0 a3
      (λk Y=>⟨Y,by rw[M];simp⟩) (by rw[M];exact De) b2
     have a2:J.toArray++us.toArray=(J++us).toArray:=by simp
     rw[a2];refine a0.mono λe w2 a5=>?_
     obtain⟨u,cc,N,cb,cp,rfl,X,b1,c1,ba,bx,b5,_,_,ad,_,_⟩:=a5;obtain⟨u1,c4,b,c3,e1,e2,⟨cs,bl,hm⟩,e3,e4⟩:=ad;subst e3;subst e1;have X:u=u1:=X;subst X;exact⟨u,cs,rfl,bl,kf bb hm,⟨c1,ba,bx,b1,λk Y=>b5 k Y (by rw[M];simp)⟩⟩
    ·cases H
  ·cases H
 ·cases H
theorem uI (Z:ax V)(hΓ:∀ c∈Γ,bN P c){W:Wit}{a:Act}{w:World}(h:an P V W st a w)(pk:PK)(x:aI×List Leaf)(v:Value)(cs:List Value)(g:Got pk.den)(Y:d9 x.1 v cs)(X:aB P V W st w x.2 cs)
  (H:b8 Γ st pk x=some g):wt P V W st w pk v g:=by
 cases pk with
 |fn As B =>
  simp only[b8]at H;split at H
  ·rename_i O z;have M:(∃ u,ck x=.clo O.1 u/\O.2=u.map λb=>Leaf.bp b 0)\/∃ u,ck x=.clr O.1 u/\O.2=u.map eT:=by
    generalize ck x=l at z;cases l <;> simp only[vC,BG,reduceCtorEq]at z
    ·subst z;exact .inl ⟨_,rfl,rfl⟩
    ·subst z;exact .inr ⟨_,rfl,rfl⟩
   rcases M with ⟨u,M,he⟩|⟨u,M,he⟩
   ·obtain⟨y,_⟩:=gR Y X M (by simp);rw[he]at H;obtain⟨h1,h2,I,J⟩:=yc Z hΓ h y.1 (qa u y.2) H;exact⟨⟨[],⟨rfl,h1⟩,by rw[I,J];rfl⟩,h2,by rw[I];simp,by rw[J];simp⟩
   ·obtain⟨y,_⟩:=gR Y X M (by simp);rw[he]at H;obtain⟨us,e1,e2,e3⟩:=y;obtain⟨h1,h2,I,J⟩:=yc Z hΓ h e1 (qJ e2 e3) H;exact⟨⟨[],⟨rfl,h1⟩,by rw[I,J];rfl⟩,h2,by rw[I];simp,by rw[J];simp⟩
  ·exact nk Z h Y X H
 |_=>exact nk Z h Y X H
end
section
variable {P:Program} {V:Env} {W:Wit} {st st':St} {w w':World} {a:Act}
theorem iJ {G:Nat->Prop}{p:Bool}(hG:∀ k,G k->gd V W p k):∀ {b:Ty} {pos:Nat} {x:b.den} {cs:List Value} {bs:List Nat},Mx w G b none pos x cs bs->bs.Nodup ->
  ∃ Z:Nat->List Nat,(aq p b x).length=cs.length /\
   (∀ (j:Nat) (l:Leaf) (u:Value),(aq p b x)[j]?=some l->cs[j]?=some u->aK P V W st w (Z j) l u) /\
   (∀ (j:Nat) (l:Leaf),(aq p b x)[j]?=some l->am l->∀ k∈Z j,k∈bs) /\
   (∀ (j M:Nat) (l l':Leaf),(aq p b x)[j]?=some l->am l->(aq p b x)[M]?=some l'->am l'->∀ k,k∈Z j->k∈Z M->j=M)
 |.int k,_,x,cs,bs,H,_=>by
  obtain⟨rfl,rfl⟩:=H;exact⟨λ_=>[],rfl,λj l u y R=>by cases j with|zero=>simp[aq]at y R;subst y;subst R;rfl|succ j=>simp[aq]at y,λj l y _ k r=>by simp at r,λj M l l' _ _ _ _ k r=>by simp at r⟩
 |.bool,_,x,cs,bs,H,_=>by
  obtain⟨rfl,rfl⟩:=H;exact⟨λ_=>[],rfl,λj l u y R=>by cases j with|zero=>simp[aq]at y R;subst y;subst R;rfl|succ j=>simp[aq]at y,λj l y _ k r=>by simp at r,λj M l l' _ _ _ _ k r=>by simp at r⟩
 |.str,_,x,cs,bs,H,_=>by
  obtain⟨rfl,rfl⟩:=H;exact⟨λ_=>[],rfl,λj l u y R=>by cases j with|zero=>simp[aq]at y R;subst y;subst R;rfl|succ j=>simp[aq]at y,λj l y _ k r=>by simp at r,λj M l l' _ _ _ _ k r=>by simp at r⟩
 |.unit,_,x,cs,bs,H,_=>by
  obtain⟨rfl,rfl⟩:=H;exact⟨λ_=>[],rfl,λj l u y R=>by simp[aq]at y,λj l y _ k r=>by simp at r,λj M l l' _ _ _ _ k r=>by simp at r⟩
 |.hdr,_,x,cs,bs,H,_=>by
  obtain⟨⟨A,a2,rfl⟩,rfl⟩:=H;exact⟨λ_=>[],rfl,λj l u y R=>by cases j with|zero=>simp[aq]at y R;subst y;subst R;exact⟨A,a2,rfl⟩|succ j=>simp[aq]at y,λj l y _ k r=>by simp at r,λj M l l' _ _ _ _ k r=>by simp at r⟩
 |.pair b c,pos,x,cs,bs,⟨c1,c2,b1,b2,e1,e2,y,R⟩,Y=>by
  subst e1;subst e2;rw[CN]at Y;obtain⟨d1,f1,f2,f3,f4⟩:=iJ hG y Y.1;obtain⟨d2,g1,g2,g3,g4⟩:=iJ hG R Y.2.1;have a5:=cF p b x.1;have a4:=y.len;have I:∀ (j:Nat) (l:Leaf),(aq p b x.1++aq p c x.2)[j]?=some l->(j<b.cells/\(aq p b x.1)[j]?=some l)\/(b.cells<=j/\(aq p c x.2)[j-b.cells]?=some l):=by
   intro j l z;by_cases J:j<b.cells
   ·rw[BN (by omega)]at z;exact .inl ⟨J,z⟩
   ·rw[BM (by omega),a5]at z;exact .inr ⟨by omega,z⟩
  refine⟨λj=>if j<b.cells then d1 j else d2 (j-b.cells),by simp only[aq,BY];omega,λj l u z hu=>?_,λj l z ho k r=>?_,λj M l l' z ho X a0 k r O=>?_⟩
  ·rcases I j l z with ⟨J,z⟩|⟨a3,z⟩
   ·rw[BN (by omega)]at hu;simp only[if_pos J];exact f2 j l u z hu
   ·rw[BM (by omega),a4]at hu;simp only[if_neg (show ¬ j<b.cells by omega)];exact g2 _ l u z hu
  ·rcases I j l z with ⟨J,z⟩|⟨a3,z⟩
   ·simp only[if_pos J]at r;exact BP _ (f3 j l z ho k r)
   ·simp only[if_neg (show ¬ j<b.cells by omega)]at r;exact BK _ (g3 _ l z ho k r)
  ·rcases I j l z with ⟨J,z⟩|⟨a3,z⟩ <;> rcases I M l' X with ⟨a1,X⟩|⟨a6,X⟩
   ·simp only[if_pos J]at r;simp only[if_pos a1]at O;exact f4 j M l l' z ho X a0 k r O
   ·simp only[if_pos J]at r;simp only[if_neg (show ¬ M<b.cells by omega)]at O;exact absurd rfl (Y.2.2 k (f3 j l z ho k r) k (g3 _ l' X a0 k O))
   ·simp only[if_neg (show ¬ j<b.cells by omega)]at r;simp only[if_pos a1]at O;exact absurd rfl (Y.2.2 k (f3 M l' X a0 k O) k (g3 _ l z ho k r))
   ·simp only[if_neg (show ¬ j<b.cells by omega)]at r;simp only[if_neg (show ¬ M<b.cells by omega)]at O;have:=g4 _ _ l l' z ho X a0 k r O;omega
 |.list m E e,pos,xs,cs,bs,H,Y=>by
  cases m with
  |false =>
   rw[cm]at H;obtain⟨rfl,A,a2,rfl,R,h3⟩:=H;refine⟨λ_=>[],rfl,λj l u y h4=>?_,λj l y _ k r=>by simp at r,λj M l l' _ _ _ _ k r=>by simp at r⟩;cases j with
   |zero =>
    simp[aq]at y h4;subst y;subst h4;exact Rd.mono hG (⟨A,a2,rfl,R,h3⟩:Rd w G (.list false E e) xs _)
   |succ j=>simp[aq]at y
  |true =>
   rw[bH (by simp)]at H;obtain⟨v,rfl,hO⟩:=H;refine⟨λ_=>bs,rfl,λj l u y h4=>?_,λj l y _ k r=>r,λj M l l' y _ h3 _ k _ _=>?_⟩
   ·cases j with
    |zero =>
     simp[aq]at y h4;subst y;subst h4;exact⟨Y,OwB.shy (hO.carry hG (λ_ _=>rfl) (λ_ _=>rfl))⟩
    |succ j=>simp[aq]at y
   ·have h7:j<1:=by simpa[aq]using (BJ.1 y).1
    have h8:M<1:=by simpa[aq]using (BJ.1 h3).1
    omega
theorem an.reown (hV:ax V)(h:an P V W st a w)(r:Nat)(c:bP)(J:Nat->List Nat)(a3:(st r).ver<c.ver)(a1:c.sh=(st r).sh)(Z:c.ls.length=(st r).ls.length)
  (a2:∀ (j:Nat) (l:Leaf) (v:Value),c.ls[j]?=some l->(W.cs r)[j]?=some v->aK P V W st w (J j) l v)
  (Y:∀ (j:Nat) (l:Leaf),c.ls[j]?=some l->am l->∀ k∈J j,¬ W.nw k/\¬ V.prot k/\(∀ b,live st b->W.β b≠k) /\
   ∀ (r1 j1:Nat) (l1:Leaf),r1≠r->(st r1).ls[j1]?=some l1->am l1->k∉W.bs r1 j1)
  (a4:∀ (j j':Nat) (l l':Leaf),c.ls[j]?=some l->am l->c.ls[j']?=some l'->am l'->∀ k,k∈J j->k∈J j'->j=j') :
  an P V { W with bs:=λr' j=>if r'=r then J j else W.bs r' j } (ac [(r,c)] st) a w:=by
 have I:∀ b,live (ac [(r,c)] st) b<->live st b:=by
  intro b;rcases aj r b c st with ⟨rfl,e⟩|⟨_,e⟩
  ·simp[live,e,a1]
  ·simp[live,e]
 have a0:cB V W { W with bs:=λr' j=>if r'=r then J j else W.bs r' j } st (ac [(r,c)] st) w w:=by
  refine⟨λq=>?_,λb R=>⟨(I b).2 R,rfl⟩,λ_ h=>h,λ_ _=>rfl,λ_ q j' l' O h4 h5=>?_⟩
  ·rcases aj r q c st with ⟨rfl,e⟩|⟨y,e⟩
   ·rw[e];exact⟨Nat.le_of_lt a3,λ_=>rfl⟩
   ·rw[e];exact⟨B3 _,λ_=>rfl⟩
  ·rcases aj r q c st with ⟨rfl,e⟩|⟨y,e⟩
   ·rw[e]at h5;omega
   ·rw[e]at O;exact⟨⟨l',O,h4⟩,by simp[y],λ_ _=>rfl⟩
 exact {
  nt:=h.nt,df:=h.df
  slots:=λt ht=>by
   rcases aj r t c st with ⟨rfl,e⟩|⟨_,e⟩
   ·rw[e,a1];exact h.slots t ht
   ·rw[e];exact h.slots t ht
  boxes:=λb R=>by
   rcases aj r b c st with ⟨rfl,e⟩|⟨_,e⟩
   ·rw[e,a1];rcases h.boxes b R with ⟨h1,z⟩|h1
    ·refine .inl ⟨h1,?_⟩;rw[z]at Z;exact B4 Z
    ·exact .inr h1
   ·rw[e];exact h.boxes b R
  len:=λq=>by
   rcases aj r q c st with ⟨rfl,e⟩|⟨_,e⟩
   ·rw[e,Z];exact h.len q
   ·rw[e];exact h.len q
  one:=h.one
  leaf:=λq j l u z O=>by
   rcases aj r q c st with ⟨rfl,e⟩|⟨y,e⟩
   ·rw[e]at z;exact (a2 j l u z O).carry hV.ro a0 (λ_=>⟨by simp,λ_ _=>rfl⟩)
   ·rw[e]at z;exact (h.leaf q j l u z O).carry hV.ro a0 (λ_=>⟨by simp[y],λ_ _=>rfl⟩)
  ownb:=λq j l z O k M=>by
   rcases aj r q c st with ⟨rfl,e⟩|⟨y,e⟩
   ·rw[e]at z;simp only[if_true]at M;have:=Y j l z O k M;exact⟨this.1,this.2.1,λb R=>this.2.2.1 b ((I b).1 R)⟩
   ·rw[e]at z;simp only[y,if_false]at M;have:=h.ownb q j l z O k M;exact⟨this.1,this.2.1,λb R=>this.2.2 b ((I b).1 R)⟩
  sep:=λq j l q' j' l' z O h4 h5 k M H=>by
   rcases aj r q c st with ⟨e0,e⟩|⟨y,e⟩ <;> rcases aj r q' c st with ⟨e1,e'⟩|⟨X,e'⟩
   ·rw[e]at z;rw[e']at h4;simp only[e0,if_true]at M;simp only[e1,if_true]at H;exact⟨e0.trans e1.symm,a4 j j' l l' z O h4 h5 k M H⟩
   ·rw[e]at z;rw[e']at h4;simp only[e0,if_true]at M;simp only[X,if_false]at H;exact absurd H ((Y j l z O k M).2.2.2 q' j' l' X h4 h5)
   ·rw[e]at z;rw[e']at h4;simp only[y,if_false]at M;simp only[e1,if_true]at H;exact absurd M ((Y j' l' h4 h5 k H).2.2.2 q j l y z O)
   ·rw[e]at z;rw[e']at h4;simp only[y,if_false]at M;simp only[X,if_false]at H;exact h.sep q j l q' j' l' z O h4 h5 k M H
  box:=λb R=>h.box b ((I b).1 R)
  inj:=λb b' R a5=>h.inj b b' ((I b).1 R) ((I b').1 a5)
  nwlt:=h.nwlt
  os:=h.os,tape:=h.tape,output:=h.output,size:=h.size,keep:=h.keep
  fixb:=λx hx=>⟨(I _).2 (h.fixb x hx).1,(h.fixb x hx).2⟩
  fixt:=h.fixt }
theorem an.reownE (hV:ax V)(h:an P V W st a w)(r:Nat)(c:bP)(J:Nat->List Nat)(a9:r≠EPO)(a1:(st r).ver<=c.ver)(a6:c.sh=(st r).sh)(a4:c.ls.length=(st r).ls.length)
  (a0:∀ (j:Nat) (l:Leaf) (v:Value),c.ls[j]?=some l->(W.cs r)[j]?=some v->aK P V W st w (J j) l v)
  (X:∀ (j:Nat) (l:Leaf),c.ls[j]?=some l->am l->∀ k∈J j,¬ W.nw k/\¬ V.prot k/\(∀ b,live st b->W.β b≠k) /\
   ∀ (r1 j1:Nat) (l1:Leaf),r1≠r->(st r1).ls[j1]?=some l1->am l1->k∉W.bs r1 j1)
  (a3:∀ (j j':Nat) (l l':Leaf),c.ls[j]?=some l->am l->c.ls[j']?=some l'->am l'->∀ k,k∈J j->k∈J j'->j=j') :
  an P V { W with bs:=λr' j=>if r'=r then J j else W.bs r' j } (ac [(r,c),(EPO,bU (st EPO))] st) a w /\
   (∀ q,(ac [(r,c),(EPO,bU (st EPO))] st q).sh=(st q).sh/\(st q).ver<=(ac [(r,c),(EPO,bU (st EPO))] st q).ver/\(q≠r->(ac [(r,c),(EPO,bU (st EPO))] st q).ls=(st q).ls))/\ac [(r,c),(EPO,bU (st EPO))] st r=c:=by
 have e0:ac [(r,c),(EPO,bU (st EPO))] st=ac [(r,c)] (ac [(EPO,bU (st EPO))] st):=aQ _ _ _ _;generalize hS:ac [(r,c),(EPO,bU (st EPO))] st=S;rw[e0]at hS;have hr:S r=c:=by rw[<- hS,bj]
 have O:∀ q,(S q).sh=(st q).sh/\(st q).ver<=(S q).ver/\(q≠r->(S q).ls=(st q).ls):=by
  intro q;rw[<- hS];rcases aj r q c (ac [(EPO,bU (st EPO))] st) with ⟨rfl,e⟩|⟨ad,e⟩
  ·rw[e];exact⟨a6,a1,λh=>absurd rfl h⟩
  ·rw[e];rcases aj EPO q (bU (st EPO)) st with ⟨rfl,e⟩|⟨_,e⟩ <;> rw[e]
   ·exact⟨rfl,DV _,λ_=>rfl⟩
   ·exact⟨rfl,B3 _,λ_=>rfl⟩
 have hE:(st EPO).ver<(S EPO).ver:=by
  rw[<- hS,aJ (CW a9),bj];exact BS _
 refine⟨?_,O,hr⟩;have I:∀ b,live S b<->live st b:=λb=>by simp[live,(O b).1]
 have Y:cB V W { W with bs:=λr' j=>if r'=r then J j else W.bs r' j } st S w w :=
  ⟨λq=>⟨(O q).2.1,λ_=>rfl⟩,λb R=>⟨(I b).2 R,rfl⟩,λ_ h=>h,λ_ _=>rfl,λhe=>by omega⟩
 have a2:∀ q,(S q).ls.length=(st q).ls.length:=λq=>by
  by_cases y:q=r
  ·rw[y,hr,a4]
  ·rw[(O q).2.2 y]
 exact {
  nt:=h.nt,df:=h.df
  slots:=λt ht=>by rw[(O t).1];exact h.slots t ht
  boxes:=λb R=>by
   rw[(O b).1];rcases h.boxes b R with ⟨h1,z⟩|h1
   ·refine .inl ⟨h1,B4 ?_⟩;rw[a2,z];rfl
   ·exact .inr h1
  len:=λq=>by rw[a2];exact h.len q
  one:=h.one
  leaf:=λq j l u z Z=>by
   by_cases y:q=r
   ·subst y;rw[hr]at z;exact (a0 j l u z Z).carry hV.ro Y (λ_=>⟨by simp,λ_ _=>rfl⟩)
   ·rw[(O q).2.2 y]at z;exact (h.leaf q j l u z Z).carry hV.ro Y (λ_=>⟨by simp[y],λ_ _=>rfl⟩)
  ownb:=λq j l z Z k M=>by
   by_cases y:q=r
   ·subst y;rw[hr]at z;simp only[if_true]at M;have:=X j l z Z k M;exact⟨this.1,this.2.1,λb R=>this.2.2.1 b ((I b).1 R)⟩
   ·rw[(O q).2.2 y]at z;simp only[y,if_false]at M;have:=h.ownb q j l z Z k M;exact⟨this.1,this.2.1,λb R=>this.2.2 b ((I b).1 R)⟩
  sep:=λq j l q' j' l' z Z h4 h5 k M H=>by
   by_cases e0:q=r <;> by_cases e1:q'=r
   ·subst e0;subst e1;rw[hr]at z h4;simp only[if_true]at M H;exact⟨rfl,a3 j j' l l' z Z h4 h5 k M H⟩
   ·subst e0;rw[hr]at z;rw[(O q').2.2 e1]at h4;simp only[if_true]at M;simp only[e1,if_false]at H;exact absurd H ((X j l z Z k M).2.2.2 q' j' l' e1 h4 h5)
   ·subst e1;rw[(O q).2.2 e0]at z;rw[hr]at h4;simp only[e0,if_false]at M;simp only[if_true]at H;exact absurd M ((X j' l' h4 h5 k H).2.2.2 q j l e0 z Z)
   ·rw[(O q).2.2 e0]at z;rw[(O q').2.2 e1]at h4;simp only[e0,if_false]at M;simp only[e1,if_false]at H;exact h.sep q j l q' j' l' z Z h4 h5 k M H
  box:=λb R=>h.box b ((I b).1 R)
  inj:=λb b' R a5=>h.inj b b' ((I b).1 R) ((I b').1 a5)
  nwlt:=h.nwlt
  os:=h.os,tape:=h.tape,output:=h.output,size:=h.size,keep:=h.keep
  fixb:=λx hx=>⟨(I _).2 (h.fixb x hx).1,(h.fixb x hx).2⟩
  fixt:=h.fixt }
theorem an.nwGrow (R:ax V)(h:an P V W st a w)(N:Nat->Prop)(M:∀ k,N k->k<w.heap.size/\¬ ca V W st k):an P V { W with nw:=λk=>W.nw k\/N k } st a w:=by
 have I:cB V W { W with nw:=λk=>W.nw k\/N k } st st w w:=⟨λr=>⟨B3 _,λ_=>rfl⟩,λb J=>⟨J,rfl⟩,λ_ h=>.inl h,λ_ _=>rfl,λ_ _ _ l y z _=>⟨⟨l,y,z⟩,rfl,λ_ _=>rfl⟩⟩
 exact {
  nt:=h.nt,df:=h.df,slots:=h.slots,boxes:=h.boxes,len:=h.len,one:=h.one
  leaf:=λr j l v y z=>(h.leaf r j l v y z).carry R.ro I (λ_=>⟨rfl,λ_ _=>rfl⟩)
  ownb:=λr j l y z k u=>⟨λH=>H.elim (h.ownb r j l y z k u).1 (λH=>(M k H).2 (.inr (.inr (.inr ⟨r,j,l,y,z,u⟩)))),(h.ownb r j l y z k u).2⟩
  sep:=h.sep
  box:=λb J=>⟨λH=>H.elim (h.box b J).1 (λH=>(M _ H).2 (.inr (.inr (.inl ⟨b,J,rfl⟩)))),(h.box b J).2⟩
  inj:=h.inj
  nwlt:=λk u=>u.elim (h.nwlt k) (λu=>⟨(M k u).1,λO=>(M k u).2 (.inr (.inl O))⟩)
  os:=h.os,tape:=h.tape,output:=h.output,size:=h.size,keep:=h.keep,fixb:=h.fixb,fixt:=h.fixt }
end
def eR:List Leaf->List Leaf->List (Nat×Nat)
 |.al r j _::y,l::u=>(match l with|.own _ _ _ _ _=>[(r,j)]|_=>[])++eR y u
 |_::y,_::u=>eR y u
 |_,_=>[]
section
variable {P:Program} {V:Env} {st st':St} {w w':World} {a:Act}
theorem nm {x l:Leaf}{xs ls:List Leaf}(h:¬ am l):eR (x::xs) (l::ls)=eR xs ls:=by
 cases x <;> try rfl
 cases l <;> first|exact absurd trivial h|rfl
theorem vj {k:IntKind}{ls:List Leaf}{x:Bool×(Ty.int k).den×List Leaf}(h:a7 st (.int k) ls=some x):∃ l,ls=l::x.2.2:=by
 simp only[a7]at h;split at h
 ·split at h
  ·simp only[BG]at h;subst h;exact⟨_,rfl⟩
  ·cases h
 ·cases h
theorem tF {ls:List Leaf}{x:Bool×Ty.bool.den×List Leaf}(h:a7 st .bool ls=some x):∃ l,ls=l::x.2.2:=by
 simp only[a7]at h;split at h
 ·simp only[BG]at h;subst h;exact⟨_,rfl⟩
 ·cases h
theorem vk {ls:List Leaf}{x:Bool×Ty.str.den×List Leaf}(h:a7 st .str ls=some x):∃ l,ls=l::x.2.2:=by
 simp only[a7]at h;split at h
 ·simp only[BG]at h;subst h;exact⟨_,rfl⟩
 ·cases h
theorem vm {ls:List Leaf}{x:Bool×Ty.hdr.den×List Leaf}(h:a7 st .hdr ls=some x):∃ l,ls=l::x.2.2:=by
 simp only[a7]at h;split at h
 ·split at h
  ·simp only[BG]at h;subst h;exact⟨_,rfl⟩
  ·cases h
 ·cases h
theorem lk {p:Bool}:∀ (b:Ty) (ls:List Leaf) (t:cH b.den),take st b ls=some t->∀ (y:b.den) (r:List Leaf),eR ls (aq p b y++r)=t.kill++eR t.rest r
 |.pair b c,ls,t,h,y,r=>by
  simp only[take]at h;split at h
  ·rename_i u M;split at h
   ·rename_i v I;simp only[BG]at h;subst h;simp only[aq];rw[BW,lk b ls u M y.1,lk c u.rest v I y.2,BW]
   ·cases h
  ·cases h
 |.unit,ls,t,h,y,r=>by
  simp only[take,BG]at h;subst h;rfl
 |.list m E e,ls,t,h,y,r=>by
  cases ls with
  |nil=>simp[take]at h
  |cons l ls =>
   cases m with
   |false =>
    simp only[take,cond_false]at h;split at h
    ·simp only[BG]at h;subst h;exact nm id
    ·cases h
   |true =>
    simp only[take,cond_true]at h;split at h
    ·split at h
     ·simp only[BH]at h;obtain⟨O,_,rfl⟩:=h;rfl
     ·cases h
    ·simp only[BG]at h;subst h;rfl
    ·cases h
 |.int k,ls,t,h,y,r=>scal (b:=.int k) h vj (l':=.int k y) id
 |.bool,ls,t,h,y,r=>scal (b:=.bool) h tF (l':=.bool y) id
 |.str,ls,t,h,y,r=>scal (b:=.str) h vk (l':=.str y) id
 |.hdr,ls,t,h,y,r=>scal (b:=.hdr) h vm (l':=.hdr y) id
where
 scal {b:Ty} {ls:List Leaf} {t:cH b.den} {l':Leaf} {r:List Leaf} (h:(a7 st b ls).map (λx=>(⟨false,x.2.1,[],[],x.2.2⟩:cH b.den))=some t)
   (H:∀ {ls:List Leaf} {x:Bool×b.den×List Leaf},a7 st b ls=some x->∃ l,ls=l::x.2.2) (z:¬ am l'):eR ls ([l']++r)=t.kill++eR t.rest r:=by
  simp only[BH]at h;obtain⟨x,J,rfl⟩:=h;obtain⟨l,rfl⟩:=H J;exact nm z
theorem zo {W W':Wit}{bs:List Nat}{l:Leaf}{v:Value}(u:am l)(y:W'.nw=W.nw)(h:aK P V W st w bs l v):aK P V W' st' w bs l v:=by
 cases l <;> simp only[am]at u;exact OwH.carry h (λk r=>by
  rcases r with r|r
  ·exact .inl (by rw[y];exact r)
  ·exact .inr r) (λ_ _=>rfl) (λ_ _=>rfl)
theorem wu {S:St}{x l:Leaf}{xs ls:List Leaf}(h:¬ am l):ac (b6 S (x::xs) (l::ls)) S=ac (b6 S xs ls) S:=by
 cases x <;> try rfl
 cases l <;> first|exact absurd trivial h|rfl
theorem jW {x:Nat×Nat}{l:List (Nat×Nat)}(h:aY (x::l)=true):x∉l/\aY l=true:=by
 simp only[aY,BI,B7,CE]at h;exact⟨λr=>by have:=h.1 x r;simp at this,h.2⟩
theorem zQ (hV:ax V){W:Wit}{S:St}(h:an P V W S a w):∀ (xl ls:List Leaf) (cs:List Value) (R:Nat->List Nat),aY (eR xl ls)=true->(∀ x∈eR xl ls,x.1≠EPO)->xl.length=cs.length->ls.length=cs.length ->
  (∀ (i r j n:Nat) (l:Leaf) (u:Value),xl[i]?=some (.al r j n)->ls[i]?=some l->am l->cs[i]?=some u->(W.cs r)[j]?=some u) ->
  (∀ x∈eR xl ls,∀ l,(S x.1).ls[x.2]?=some l->¬ am l) ->
  (∀ (i:Nat) (l:Leaf) (u:Value),ls[i]?=some l->cs[i]?=some u->aK P V W S w (R i) l u) ->
  (∀ (i:Nat) (l:Leaf),ls[i]?=some l->am l->∀ k∈R i,¬ ca V W S k) ->
  (∀ (i i':Nat) (l l':Leaf),ls[i]?=some l->am l->ls[i']?=some l'->am l'->∀ k,k∈R i->k∈R i'->i=i') ->
  ∃ W',an P V W' (ac (b6 S xl ls) S) a w/\W'.cs=W.cs/\W'.β=W.β/\W'.nw=W.nw/\(∀ q,(ac (b6 S xl ls) S q).sh=(S q).sh/\(S q).ver<=(ac (b6 S xl ls) S q).ver) /\
   (∀ (q i:Nat),(q,i)∉eR xl ls->(ac (b6 S xl ls) S q).ls[i]?=(S q).ls[i]?/\W'.bs q i=W.bs q i) /\
   (∀ k,ca V W' (ac (b6 S xl ls) S) k->ca V W S k\/∃ i l,ls[i]?=some l/\am l/\k∈R i)
 |[],ls,cs,R,_,_,hx,hl,_,_,_,_,_=>⟨W,h,rfl,rfl,rfl,λ_=>⟨rfl,B3 _⟩,λ_ _ _=>⟨rfl,rfl⟩,λk O=>.inl O⟩
 |x::X,[],cs,R,_,_,hx,hl,_,_,_,_,_=>by simp at hx hl;omega
 |x::X,l::ls,[],R,_,_,hx,hl,_,_,_,_,_=>by simp at hx
 |x::X,l::ls,u::cs,R,hd,bb,hx,hl,b9,b5,a4,a5,ad=>by
  have b2:aY (eR X ls)=true:=by
   cases x with
   |al r j n =>
    cases l with
    |own p hh E e ys=>exact (jW hd).2
    |_=>exact hd
   |_=>exact hd
  have b0:∀ z∈eR X ls,z∈eR (x::X) (l::ls):=by
   intro z hz;cases x with
   |al r j n=>exact BK _ hz
   |_=>exact hz
  obtain⟨W1,h1,e1,e2,e3,e4,e5,e6⟩:=zQ hV h X ls cs (λi=>R (i+1)) b2 (λz hz=>bb z (b0 z hz)) (by simpa using hx) (by simpa using hl)
   (λi r j n l' u' J I M g4=>b9 (i+1) r j n l' u' (by simpa using J) (by simpa using I) M (by simpa using g4))
   (λz hz=>b5 z (b0 z hz)) (λi l' u' J I=>a4 (i+1) l' u' (by simpa using J) (by simpa using I))
   (λi l' J I=>a5 (i+1) l' (by simpa using J) I)
   (λi i' l1 l2 J I M g4 k g5 g6=>by have:=ad (i+1) (i'+1) l1 l2 (by simpa using J) I (by simpa using M) g4 k g5 g6;omega)
  by_cases hs:¬ am l\/(∀ r j n,x≠.al r j n)
  ·have a6:ac (b6 S (x::X) (l::ls)) S=ac (b6 S X ls) S/\eR (x::X) (l::ls)=eR X ls:=by
    rcases hs with hs|hs
    ·exact⟨wu hs,nm hs⟩
    ·cases x with
     |al r j n=>exact absurd rfl (hs r j n)
     |_=>exact⟨rfl,rfl⟩
   rw[a6.1,a6.2];exact⟨W1,h1,e1,e2,e3,e4,e5,λk O=>(e6 k O).imp id λ⟨i,l',J,I,M⟩=>⟨i+1,l',by simpa using J,I,M⟩⟩
  ·simp only[not_or,Classical.not_not]at hs;obtain⟨bn,bx⟩:=hs;obtain⟨r,j,n,rfl⟩:∃ r j n,x=.al r j n:=by
    cases x with
    |al r j n=>exact⟨r,j,n,rfl⟩
    |_=>exact absurd (λ_ _ _ h=>by cases h) bx
   obtain⟨p,hh,E,e,ys,rfl⟩:∃ p hh E e ys,l=.own p hh E e ys:=by
    cases l <;> simp only[am]at bn;exact⟨_,_,_,_,_,rfl⟩
   have b3:eR (.al r j n::X) (.own p hh E e ys::ls)=(r,j)::eR X ls:=rfl;rw[b3]at hd b5;obtain⟨c0,c1⟩:=jW hd;have hv:=b9 0 r j n _ u rfl rfl trivial rfl;have a6:ac (b6 S (.al r j n::X) (.own p hh E e ys::ls)) S=ac [(r,⟨(ac (b6 S X ls) S r).ver,(ac (b6 S X ls) S r).sh,aT (ac (b6 S X ls) S r).ls j (.own p hh E e ys)⟩),(EPO,bU (ac (b6 S X ls) S EPO))] (ac (b6 S X ls) S):=bB [_,_] _ _;have a9:aK P V W1 (ac (b6 S X ls) S) w (R 0) (.own p hh E e ys) u:=zo trivial e3 (a4 0 _ u rfl rfl);have Y:∀ k∈R 0,¬ ca V W1 (ac (b6 S X ls) S) k:=λk O hu=>by
    rcases e6 k hu with hu|⟨i,l',J,I,M⟩
    ·exact a5 0 _ rfl trivial k O hu
    ·have:=ad 0 (i+1) _ l' rfl trivial (by simpa using J) I k O M;omega
   have H:∀ (i:Nat) (l':Leaf),i≠j->(aT (ac (b6 S X ls) S r).ls j (.own p hh E e ys))[i]?=some l'->(ac (b6 S X ls) S r).ls[i]?=some l':=by
    intro i l' a2 Z;rcases aS _ _ _ _ _ Z with ⟨rfl,_,_⟩|⟨_,Z⟩
    ·exact absurd rfl a2
    ·exact Z
   have b4:∀ (l':Leaf),(aT (ac (b6 S X ls) S r).ls j (.own p hh E e ys))[j]?=some l'->l'=.own p hh E e ys:=by
    intro l' Z;rcases aS _ _ _ _ _ Z with ⟨_,rfl,_⟩|⟨a2,_⟩
    ·rfl
    ·exact absurd rfl a2
   have bl:r≠EPO:=bb (r,j) (by rw[b3];exact B5 ..);obtain⟨h2,a3,ba⟩:=h1.reownE hV r ⟨(ac (b6 S X ls) S r).ver,(ac (b6 S X ls) S r).sh,aT (ac (b6 S X ls) S r).ls j (.own p hh E e ys)⟩ (λi=>if i=j then R 0 else W1.bs r i) bl (B3 _) rfl (by simp[aT])
    (λi l' v' J I=>by
     by_cases y:i=j
     ·subst y;obtain rfl:=b4 l' J;rw[e1,hv]at I;simp only[BG]at I;subst I;simp only[if_true];exact a9
     ·simp only[if_neg y];exact h1.leaf r i l' v' (H i l' y J) I)
    (λi l' J I k O=>by
     by_cases y:i=j
     ·subst y;simp only[if_true]at O;have hu:=Y k O;simp only[ca,not_or,not_exists,not_and]at hu;exact⟨hu.1,hu.2.1,hu.2.2.1,λr1 j1 l1 _ M g4 g5=>hu.2.2.2 r1 j1 l1 M g4 g5⟩
     ·simp only[if_neg y]at O;have Z:=H i l' y J;have h9:=h1.ownb r i l' Z I k O;exact⟨h9.1,h9.2.1,h9.2.2,λr1 j1 l1 a2 M g4 g5=>a2 (h1.sep r i l' r1 j1 l1 Z I M g4 k O g5).1.symm⟩)
    (λi i' l1 l2 J I M g4 k O a1=>by
     by_cases y:i=j <;> by_cases a0:i'=j
     ·omega
     ·subst y;simp only[if_true]at O;simp only[if_neg a0]at a1;exact absurd (.inr (.inr (.inr ⟨r,i',l2,H i' l2 a0 M,g4,a1⟩))) (Y k O)
     ·subst a0;simp only[if_true]at a1;simp only[if_neg y]at O;exact absurd (.inr (.inr (.inr ⟨r,i,l1,H i l1 y J,I,O⟩))) (Y k a1)
     ·simp only[if_neg y]at O;simp only[if_neg a0]at a1;exact (h1.sep r i l1 r i' l2 (H i l1 y J) I (H i' l2 a0 M) g4 k O a1).2)
   rw[a6];refine⟨_,h2,e1,e2,e3,λq=>?_,λq i hq=>?_,λk O=>?_⟩
   ·exact⟨(a3 q).1.trans (e4 q).1,CO (e4 q).2 (a3 q).2.1⟩
   ·rw[b3]at hq;simp only[CY,not_or]at hq;by_cases b1:q=r
    ·subst b1;rw[ba];have y:j≠i:=λe0=>hq.1 (by rw[e0])
     simp only[aT];rw[CV y];refine⟨(e5 q i hq.2).1,?_⟩;simp only[if_true,if_neg (CW y)];exact (e5 q i hq.2).2
    ·rw[(a3 q).2.2 b1];refine⟨(e5 q i hq.2).1,?_⟩;show (if q=r then _ else W1.bs q i)=_;rw[if_neg b1];exact (e5 q i hq.2).2
   ·rcases O with O|O|⟨b,hb,O⟩|⟨q,i,l',J,I,M⟩
    ·exact .inl (.inl (by rw[<- e3];exact O))
    ·exact .inl (.inr (.inl O))
    ·refine (e6 k (.inr (.inr (.inl ⟨b,?_,O⟩)))).imp id λ⟨i,l',J,I,M⟩=>⟨i+1,l',by simpa using J,I,M⟩
     exact (iC (λq=>(a3 q).1) b).1 hb
    ·by_cases hq:q=r
     ·subst hq;rw[ba]at J;simp only[if_true]at M;by_cases y:i=j
      ·subst y;simp only[if_true]at M;exact .inr ⟨0,_,rfl,trivial,M⟩
      ·simp only[if_neg y]at M;exact (e6 k (.inr (.inr (.inr ⟨q,i,l',H i l' y J,I,M⟩)))).imp id λ⟨i,l',J,I,M⟩=>⟨i+1,l',by simpa using J,I,M⟩
     ·rw[(a3 q).2.2 hq]at J;simp only[if_neg hq]at M;exact (e6 k (.inr (.inr (.inr ⟨q,i,l',J,I,M⟩)))).imp id λ⟨i,l',J,I,M⟩=>⟨i+1,l',by simpa using J,I,M⟩
end
def PK.isIop:PK->Bool
 |.iop _=>true
 |_=>false
section
variable {P:Program} {V:Env} {Γ:List Ctr} {st st':St} {w w':World} {a:Act}
theorem kV:∀ {a b:List (Nat×Nat)},aY (a++b)=true->aY a=true/\aY b=true/\∀ x∈a,x∉b
 |[],b,h=>⟨rfl,h,by simp⟩
 |x::a,b,h=>by
  obtain⟨z,X⟩:=jW h;obtain⟨H,J,O⟩:=kV X;refine⟨?_,J,λy r u=>?_⟩
  ·simp only[aY,BI,B7,CE];refine⟨λy r R=>z (BP _ ?_),H⟩;obtain⟨M,I⟩:x.1=y.1/\x.2=y.2:=by simpa using R
   rw[show x=y from Dl M I];exact r
  ·rcases CY.1 r with rfl|r
   ·exact z (BK _ u)
   ·exact O y r u
theorem km {p:Bool}:∀ (b:Ty) (ls:List Leaf) (t:cH b.den),take st b ls=some t->∀ (y:b.den) (i r j n:Nat) (l:Leaf),ls[i]?=some (.al r j n)->(aq p b y)[i]?=some l->am l->(st r).ver=n
 |.pair b c,ls,t,h,y,i,r,j,n,l,I,z,J=>by
  simp only[take]at h;split at h
  ·rename_i u M;split at h
   ·rename_i v O;simp only[aq]at z;have X:=cF p b y.1;by_cases hi:i<b.cells
    ·rw[BN (by omega)]at z;exact km b ls u M y.1 i r j n l I z J
    ·rw[BM (by omega),X]at z;have Z:=take_rest b ls u M;refine km c u.rest v O y.2 (i-b.cells) r j n l ?_ z J;rw[Z,CZ,show b.cells+(i-b.cells)=i by omega];exact I
   ·cases h
  ·cases h
 |.list m E e,ls,t,h,y,i,r,j,n,l,I,z,J=>by
  cases m with
  |false =>
   cases i with
   |zero=>simp[aq]at z;subst z;exact J.elim
   |succ i=>simp[aq]at z
  |true =>
   cases i with
   |succ i=>simp[aq]at z
   |zero =>
    cases ls with
    |nil=>simp at I
    |cons l' ls =>
     simp only[Ca,BG]at I;subst I;simp only[take,cond_true]at h;split at h
     ·rename_i R;exact (ff R (by simp)).1
     ·cases h
 |.int k,ls,t,h,y,i,r,j,n,l,I,z,J=>by
  cases i with
  |zero=>simp[aq]at z;subst z;exact J.elim
  |succ i=>simp[aq]at z
 |.bool,ls,t,h,y,i,r,j,n,l,I,z,J=>by
  cases i with
  |zero=>simp[aq]at z;subst z;exact J.elim
  |succ i=>simp[aq]at z
 |.str,ls,t,h,y,i,r,j,n,l,I,z,J=>by
  cases i with
  |zero=>simp[aq]at z;subst z;exact J.elim
  |succ i=>simp[aq]at z
 |.hdr,ls,t,h,y,i,r,j,n,l,I,z,J=>by
  cases i with
  |zero=>simp[aq]at z;subst z;exact J.elim
  |succ i=>simp[aq]at z
 |.unit,ls,t,h,y,i,r,j,n,l,I,z,J=>by simp[aq]at z
where
 take_rest:∀ (b:Ty) (ls:List Leaf) (t:cH b.den),take st b ls=some t->t.rest=ls.drop b.cells
  |.pair b c,ls,t,h=>by
   simp only[take]at h;split at h
   ·rename_i u M;split at h
    ·rename_i v O;simp only[BG]at h;subst h;show v.rest=_;rw[take_rest c u.rest v O,take_rest b ls u M,List.drop_drop];rfl
    ·cases h
   ·cases h
  |.unit,ls,t,h=>by
   simp only[take,BG]at h;subst h;rfl
  |.list m E e,ls,t,h=>by
   cases ls with
   |nil=>simp[take]at h
   |cons l ls =>
    cases m with
    |false =>
     simp only[take,cond_false]at h;split at h
     ·simp only[BG]at h;subst h;rfl
     ·cases h
    |true =>
     simp only[take,cond_true]at h;split at h
     ·split at h
      ·simp only[BH]at h;obtain⟨xs,_,rfl⟩:=h;rfl
      ·cases h
     ·simp only[BG]at h;subst h;rfl
     ·cases h
  |.int k,ls,t,h=>sc (b:=.int k) h vj rfl
  |.bool,ls,t,h=>sc (b:=.bool) h tF rfl
  |.str,ls,t,h=>sc (b:=.str) h vk rfl
  |.hdr,ls,t,h=>sc (b:=.hdr) h vm rfl
 sc {b:Ty} {ls:List Leaf} {t:cH b.den} (h:(a7 st b ls).map (λx=>(⟨false,x.2.1,[],[],x.2.2⟩:cH b.den))=some t)
   (H:∀ {ls:List Leaf} {x:Bool×b.den×List Leaf},a7 st b ls=some x->∃ l,ls=l::x.2.2) (I:b.cells=1):t.rest=ls.drop b.cells:=by
  simp only[BH]at h;obtain⟨x,Y,rfl⟩:=h;obtain⟨l,rfl⟩:=H Y;rw[I];rfl
theorem wv {agg:Bool}{v:Value}{y z:List Value}(u:da agg v y)(r:da agg v z):y=z:=by
 unfold da at u r;cases agg with
 |true =>
  simp only[if_true]at u r;rw[u]at r;simpa using r
 |false =>
  simp only[Bool.false_eq_true,if_false]at u r;rw[u,r]
theorem qK (hV:ax V){W0 W:Wit}{S0 S:St}{w0:World}{G:Nat->Prop}{p:Bool}(a4:W.cs=W0.cs)(hG:∀ k,G k->gd V W p k)(h:an P V W S a w) :
  ∀ (ps:List PK) (xs:List (aI×List Leaf)) (vs:List Value) (g:Got (ab ps)) (o:ah ps) (y:List (List Nat)),gU P V W0 S0 w0 xs vs->a8 (b8 Γ S0) ps xs=some g->ps.any PK.isIop=false ->
  bJ w G ps o vs y->aY g.kill=true->(∀ x∈g.kill,x.1≠EPO)->(∀ x∈g.kill,∀ l,(S x.1).ls[x.2]?=some l->¬ am l)->(∀ k∈y.flatten,¬ ca V W S k)->y.flatten.Nodup ->
  ∃ W',an P V W' (ac (aF S p ps xs o) S) a w/\W'.cs=W.cs/\W'.β=W.β/\W'.nw=W.nw/\(∀ q,(ac (aF S p ps xs o) S q).sh=(S q).sh/\(S q).ver<=(ac (aF S p ps xs o) S q).ver) /\
   (∀ q i,(q,i)∉g.kill->(ac (aF S p ps xs o) S q).ls[i]?=(S q).ls[i]?/\W'.bs q i=W.bs q i)/\(∀ k,ca V W' (ac (aF S p ps xs o) S) k->ca V W S k\/k∈y.flatten)
 |[],xs,vs,g,o,y,_,_,_,_,_,_,_,_,_=>⟨W,h,rfl,rfl,rfl,λ_=>⟨rfl,B3 _⟩,λ_ _ _=>⟨rfl,rfl⟩,λk O=>.inl O⟩
 |pk::ps,[],vs,g,o,y,_,hg,_,_,_,_,_,_,_=>by simp[a8]at hg
 |pk::ps,x::xs,vs,g,o,y,hx,hg,hp,ho,hd,a5,a3,R,a0=>by
  obtain⟨v,a6,cs,rfl,hs,hl,a1⟩:=hx;simp only[a8]at hg;split at hg
  ·rename_i g1 a2;split at hg
   ·rename_i g2 b1;simp only[BG]at hg;subst hg;simp only[Cg,DA]at hp;obtain⟨b4,b2,bl⟩:=kV hd;have J:∀ (o':ah ps) (b:List Nat) (M:List (List Nat)),y=b::M->b=[]->bJ w G ps o' a6 M->aF S p (pk::ps) (x::xs) o=aF S p ps xs o' ->
      ∃ W',an P V W' (ac (aF S p (pk::ps) (x::xs) o) S) a w/\W'.cs=W.cs/\W'.β=W.β/\W'.nw=W.nw/\(∀ q,(ac (aF S p (pk::ps) (x::xs) o) S q).sh=(S q).sh/\(S q).ver<=(ac (aF S p (pk::ps) (x::xs) o) S q).ver) /\
       (∀ q i,(q,i)∉g1.kill++g2.kill->(ac (aF S p (pk::ps) (x::xs) o) S q).ls[i]?=(S q).ls[i]?/\W'.bs q i=W.bs q i)/\(∀ k,ca V W' (ac (aF S p (pk::ps) (x::xs) o) S) k->ca V W S k\/k∈y.flatten):=by
     intro o' b M e1 e2 bb e3;subst e1;subst e2;rw[e3];obtain⟨W1,f1,f2,f3,f4,f5,f6,f7⟩:=qK hV a4 hG h ps xs a6 g2 o' M a1 b1 hp.2 bb b2 (λz Y=>a5 z (BK _ Y)) (λz Y=>a3 z (BK _ Y)) (λk O=>R k (by simpa using O)) (by simpa using a0);exact⟨W1,f1,f2,f3,f4,f5,λq i hq=>f6 q i (λhm=>hq (BK _ hm)),λk O=>(f7 k O).imp id (λhm=>by simpa using hm)⟩
    cases pk with
    |io b =>
     match y,ho with
     |Z::M,⟨H,I⟩ =>
      simp only[B6]at a0 R;rw[CN]at a0;obtain⟨W1,f1,f2,f3,f4,f5,f6,f7⟩:=qK hV a4 hG h ps xs a6 g2 o.2 M a1 b1 hp.2 I b2 (λz Y=>a5 z (BK _ Y)) (λz Y=>a3 z (BK _ Y)) (λk O=>R k (BK _ O)) a0.2.1;simp only[b8,be]at a2;cases hb:decide (x.1=bg b.isAgg) with
      |false=>simp[hb]at a2
      |true =>
       rw[hb]at a2;simp only[cond_true,BH]at a2;obtain⟨t,ht,rfl⟩:=a2;rw[of_decide_eq_true hb]at hs;unfold jx at H;rw[if_neg (by simp)]at H;obtain⟨b3,b5,hm⟩:=H;have:=wv b5 (gz hs);subst this;obtain⟨b9,m1,m2,m3,m4⟩:=iJ (P:=P) (V:=V) (W:=W1) (st:=ac (aF S p ps xs o.2) S) (p:=p) (λk O=>by
        rcases hG k O with O|O
        ·exact .inl (by rw[f4];exact O)
        ·exact .inr O) hm a0.1
       unfold cg at ht;split at ht
       ·rename_i p0 x0 f0 k0 b0;simp only[BG]at ht;subst ht;have X:=lk (p:=p) b x.2 _ b0 o.1 [];simp only[B9]at X;have X:eR x.2 (aq p b o.1)=k0:=by
         rw[X];show k0++eR [] []=k0;simp[eR]
        obtain⟨W2,q1,q2,q3,q4,q5,q6,q7⟩:=zQ hV f1 x.2 (aq p b o.1) b3 b9 (by rw[X];exact b4) (λz Y=>a5 z (BP _ (by rw[X]at Y;exact Y))) hl.length m1
         (λi r j n l u g3 g4 g5 g6=>by
          have h5:=(hl.at_ i _ u g3 g6).1;rw[f2,a4];exact h5.2 (km b x.2 _ b0 o.1 i r j n l g3 g4 g5))
         (λz Y l ad=>by
          rw[X]at Y;rw[(f6 z.1 z.2 (bl z Y)).1]at ad;exact a3 z (BP _ Y) l ad)
         m2
         (λi l g3 g4 k O hu=>by
          have a9:=m3 i l g3 g4 k O;rcases f7 k hu with hu|hu
          ·exact R k (BP _ a9) hu
          ·exact a0.2.2 k a9 k hu rfl) m4
        have ba:ac (aF S p (.io b::ps) (x::xs) o) S=ac (b6 (ac (aF S p ps xs o.2) S) x.2 (aq p b o.1)) (ac (aF S p ps xs o.2) S):=bB _ _ _;rw[ba];rw[X]at q6;refine⟨W2,q1,q2.trans f2,q3.trans f3,q4.trans f4,λq=>⟨(q5 q).1.trans (f5 q).1,CO (f5 q).2 (q5 q).2⟩,λq i hq=>?_,λk O=>?_⟩
        ·simp only[BR,not_or]at hq;exact⟨(q6 q i hq.1).1.trans (f6 q i hq.2).1,(q6 q i hq.1).2.trans (f6 q i hq.2).2⟩
        ·rcases q7 k O with O|⟨i,l,g3,g4,g5⟩
         ·exact (f7 k O).imp id (λhm=>BK _ hm)
         ·exact .inr (BP _ (m3 i l g3 g4 k g5))
       ·cases ht
    |iop b=>simp[PK.isIop]at hp
    |rd b =>
     match y,ho with
     |Z::M,⟨H,I⟩=>exact J o Z M rfl H I rfl
    |own b =>
     match y,ho with
     |Z::M,⟨H,I⟩=>exact J o Z M rfl H I rfl
    |rref b =>
     match y,ho with
     |Z::M,⟨H,I⟩=>exact J o Z M rfl H I rfl
    |rref2 b =>
     match y,ho with
     |Z::M,⟨H,I⟩=>exact J o Z M rfl H I rfl
    |fn As B =>
     match y,ho with
     |Z::M,⟨H,I⟩=>exact J o Z M rfl H I rfl
    |clo f b3 =>
     match y,ho with
     |Z::M,⟨H,I⟩=>exact J o Z M rfl H I rfl
    |hol b cc off =>
     match y,ho with
     |Z::M,⟨H,I⟩=>exact J o Z M rfl H I rfl
   ·cases hg
  ·cases hg
end
section
variable {P:Program} {V:Env} {W:Wit} {st:St} {w:World} {a:Act}
theorem ov {G ro:Nat->Prop}{p q:Bool}{ks:List (Nat×Nat×Nat)}{ep:Nat}(hG:∀ k,G k->gd V W p k)(d n:Nat) :
  ∀ (O:List RK) (y:ai O) (us:List Value) (a0:List (List Nat)),
  (O.any RK.isBv=true->(∀ k,G k\/ro k->gd V W q k\/∃ x∈ks,k∈W.bs x.1 x.2.1)/\ep<=(st EPO).ver/\(∀ k∈ks,k.2.2<=(st k.1).ver))->gy w G ro O y us a0->O.all RK.isV=true->a0.flatten.Nodup ->
  (bC d n p q ks ep O y).2=[]/\∃ (cs:List Value) (a1:Nat->List Nat),pz ((bC d n p q ks ep O y).1.map λx=>(x.1,x.2.length)) us cs/\(((bC d n p q ks ep O y).1.map (·.2)).flatten).length=cs.length/\(∀ u∈cs,u.oneCell'=true) /\
   (∀ (j:Nat) (l:Leaf) (u:Value),(((bC d n p q ks ep O y).1.map (·.2)).flatten)[j]?=some l->cs[j]?=some u->aK P V W st w (a1 j) l u) /\
   (∀ (j:Nat) (l:Leaf),(((bC d n p q ks ep O y).1.map (·.2)).flatten)[j]?=some l->am l->∀ k∈a1 j,k∈a0.flatten) /\
   (∀ (j X:Nat) (l l':Leaf),(((bC d n p q ks ep O y).1.map (·.2)).flatten)[j]?=some l->am l->(((bC d n p q ks ep O y).1.map (·.2)).flatten)[X]?=some l'->am l'->∀ k,k∈a1 j->k∈a1 X->j=X)
 |[],y,us,a0,_,⟨e1,e2⟩,_,_=>by
  subst e1;subst e2;exact⟨rfl,[],λ_=>[],⟨rfl,rfl⟩,rfl,by simp,λj l u h1 h2=>by simp at h2,λj l h1 h2 k J=>by simp at J,λj X l l' _ _ _ _ k J=>by simp at J⟩
 |r::O,y,us,a0,hB,⟨u0,a5,b,a6,e1,e2,hr,a4⟩,hv,Z=>by
  subst e1;subst e2;simp only[DE,BI]at hv;rw[B6,CN]at Z;obtain⟨f0,a9,d2,f1,f2,b2,f3,f4,f5⟩:=ov (ks:=ks) (q:=q) (ep:=ep) hG d n O y.2 a5 a6 (λhb=>hB (by simp[hb])) a4 hv.2 Z.2.1;obtain⟨agg,L,I,d1,g0,b0,g1,g2,b3,g3,g4,g5⟩:∃ (agg:Bool) (L:List Leaf) (I:List Value) (d1:Nat->List Nat),(pt d n p q ks ep r y.1).1=(agg,L)/\(pt d n p q ks ep r y.1).2=[]/\da agg u0 I/\L.length=I.length/\(∀ u∈I,u.oneCell'=true) /\
    (∀ (j:Nat) (l:Leaf) (u:Value),L[j]?=some l->I[j]?=some u->aK P V W st w (d1 j) l u)/\(∀ (j:Nat) (l:Leaf),L[j]?=some l->am l->∀ k∈d1 j,k∈b) /\
    (∀ (j X:Nat) (l l':Leaf),L[j]?=some l->am l->L[X]?=some l'->am l'->∀ k,k∈d1 j->k∈d1 X->j=X):=by
   cases r with
   |v c =>
    obtain⟨I,h1,h2⟩:=hr;obtain⟨d1,m1,m2,m3,m4⟩:=iJ (P:=P) (V:=V) (W:=W) (st:=st) (p:=p) hG h2 Z.1;exact⟨c.isAgg,_,I,d1,rfl,rfl,h1,m1,h2.one,m2,m3,m4⟩
   |bv c =>
    obtain⟨_,I,h1,h2⟩:=hr;obtain⟨ba,b9,b4⟩:=hB (by simp[RK.isBv]);have h3:=j9 (P:=P) (V:=V) (W:=W) (st:=st) (p:=q) b9 b4 (h2.mono ba);exact⟨c.isAgg,_,I,λ_=>[],rfl,rfl,h1,h3.length,h2.one,λj l u g1 g2=>(h3.at_ j l u g1 g2).1,λj l _ _ k J=>by simp at J,λj X l l' _ _ _ _ k J=>by simp at J⟩
   |box c=>simp[RK.isV]at hv
  have b5:(bC d n p q ks ep (r::O) y).1=(agg,L)::(bC d n p q ks ep O y.2).1:=by simp only[bC,g0]
  have b1:(bC d n p q ks ep (r::O) y).2=[]:=by simp only[bC,b0,f0,B9]
  rw[b5];simp only[Dk,B6];have H:∀ (j:Nat) (l:Leaf),(L++((bC d n p q ks ep O y.2).1.map (·.2)).flatten)[j]?=some l->(j<L.length/\L[j]?=some l)\/(L.length<=j/\(((bC d n p q ks ep O y.2).1.map (·.2)).flatten)[j-L.length]?=some l):=by
   intro j l z;by_cases M:j<L.length
   ·rw[BN M]at z;exact .inl ⟨M,z⟩
   ·rw[BM (by omega)]at z;exact .inr ⟨by omega,z⟩
  refine⟨b1,I++a9,λj=>if j<L.length then d1 j else d2 (j-L.length),⟨u0,a5,I,a9,rfl,rfl,g2.symm,g1,f1⟩,by rw[BY,BY,g2,f2],λu hu=>(BR.1 hu).elim (b3 u) (b2 u),λj l u z hu=>?_,λj l z ho k J=>?_,λj X l l' z ho Y a2 k J R=>?_⟩
  ·rcases H j l z with ⟨M,z⟩|⟨ad,z⟩
   ·rw[BN (by omega)]at hu;simp only[if_pos M];exact g3 j l u z hu
   ·rw[BM (by omega),<- g2]at hu;simp only[if_neg (show ¬ j<L.length by omega)];exact f3 _ l u z hu
  ·rcases H j l z with ⟨M,z⟩|⟨ad,z⟩
   ·simp only[if_pos M]at J;exact BP _ (g4 j l z ho k J)
   ·simp only[if_neg (show ¬ j<L.length by omega)]at J;exact BK _ (f4 _ l z ho k J)
  ·rcases H j l z with ⟨M,z⟩|⟨ad,z⟩ <;> rcases H X l' Y with ⟨a3,Y⟩|⟨bb,Y⟩
   ·simp only[if_pos M]at J;simp only[if_pos a3]at R;exact g5 j X l l' z ho Y a2 k J R
   ·simp only[if_pos M]at J;simp only[if_neg (show ¬ X<L.length by omega)]at R;exact absurd rfl (Z.2.2 k (g4 j l z ho k J) k (f4 _ l' Y a2 k R))
   ·simp only[if_neg (show ¬ j<L.length by omega)]at J;simp only[if_pos a3]at R;exact absurd rfl (Z.2.2 k (g4 X l' Y a2 k R) k (f4 _ l z ho k J))
   ·simp only[if_neg (show ¬ j<L.length by omega)]at J;simp only[if_neg (show ¬ X<L.length by omega)]at R;have:=f5 _ _ l l' z ho Y a2 k J R;omega
theorem Bt {l:List (Bool×List Leaf)}{us cs:List Value}{v:Value}(n:Nat)(h:pz (l.map λx=>(x.1,x.2.length)) us cs)(z:sm us v) :
  d9 (eU n l).sh v cs/\(eU n l).ls=(l.map (·.2)).flatten/\(eU n l).ver=n:=by
 match l,us,h with
 |[],_,⟨H,y⟩ =>
  subst H;subst y;exact⟨⟨[],z,rfl,rfl⟩,rfl,rfl⟩
 |[(agg,L)],_,⟨u,r,c,Z,H,y,h1,Y,X,R⟩ =>
  subst H;subst y;subst X;subst R;have z:v=u:=z;subst z;refine⟨?_,by simp[eU],rfl⟩;simp only[eU,B9];exact kk Y
 |x::x'::l,us,h =>
  refine⟨?_,rfl,rfl⟩;have I:∃ u M r,us=u::M::r:=by
   obtain⟨u,r,_,_,H,_,_,_,O,J,_,_,y,_⟩:=h;exact⟨u,O,J,by rw[H,y]⟩
  obtain⟨u,M,r,rfl⟩:=I;exact⟨_,z,h⟩
end
section
variable {P:Program} {V:Env} {Γ:List Ctr} {st:St} {w:World} {a:Act}
theorem zp {pk:PK}{x:aI×List Leaf}{g:Got pk.den}(r:b8 Γ st pk x=some g)(X:pk.isIop=false):g.lend=[]:=by
 cases pk with
 |iop b=>simp[PK.isIop]at X
 |rd b =>
  simp only[b8,be]at r;cases u:decide (x.1=bg b.isAgg) with
  |false=>simp[u]at r
  |true=>rw[u]at r;simp only[cond_true,BH]at r;obtain⟨y,_,rfl⟩:=r;rfl
 |own b =>
  simp only[b8,be]at r;cases u:decide (x.1=bg b.isAgg) with
  |false=>simp[u]at r
  |true=>rw[u]at r;simp only[cond_true,BH]at r;obtain⟨y,_,rfl⟩:=r;rfl
 |io b =>
  simp only[b8,be]at r;cases u:decide (x.1=bg b.isAgg) with
  |false=>simp[u]at r
  |true=>rw[u]at r;simp only[cond_true,BH]at r;obtain⟨y,_,rfl⟩:=r;rfl
 |rref b=>exact cap (c:=(false,b)) r
 |rref2 b=>exact cap (c:=(true,b)) r
 |fn R B =>
  simp only[b8]at r;split at r
  ·unfold kJ at r;split at r
   ·unfold r9 at r;split at r
    ·rename_i c _ Z;cases u:(c.ps.drop R.length).all PK.reads&&B.flat&&c.fresh with
     |false=>rw[u]at r;cases r
     |true =>
      rw[u]at r;simp only[cond_true]at r;split at r
      ·simp only[BG]at r;subst r;rfl
      ·cases r
    ·cases r
   ·cases r
  ·simp only[be]at r;split at r
   ·split at r
    ·simp only[BG]at r;subst r;rfl
    ·cases r
   ·cases r
 |hol b cc off =>
  simp only[b8,be]at r;cases u:decide (x.1=bg b.isAgg) with
  |false=>simp[u]at r
  |true =>
   rw[u]at r;simp only[cond_true]at r;split at r
   ·split at r
    ·rename_i Y _ _ _ _;cases z:BX Y off with
     |false=>simp[z]at r
     |true =>
      rw[z]at r;simp only[cond_true]at r;split at r
      ·split at r
       ·simp only[BG]at r;subst r;rfl
       ·cases r
      ·cases r
    ·cases r
   ·cases r
 |clo f I =>
  simp only[b8,be]at r;split at r
  ·rename_i J H _;cases u:BX J f with
   |false=>simp[u]at r
   |true=>rw[u]at r;exact caps_ r
  ·rename_i J H _;cases u:BX J f with
   |false=>simp[u]at r
   |true=>rw[u]at r;exact caps_ r
  ·cases r
where
 cap {c:Bool×Ty} {l:Leaf} {g:Got c.2.den} (r:fp st c l=some g):g.lend=[]:=by
  unfold fp at r;cases O:c.1 with
  |true =>
   rw[O]at r;simp only[cond_true]at r;split at r
   ·split at r
    ·simp only[BH]at r;obtain⟨y,_,rfl⟩:=r;rfl
    ·cases r
   ·cases r
  |false =>
   rw[O]at r;simp only[cond_false]at r;split at r
   ·simp only[BH]at r;obtain⟨y,_,rfl⟩:=r;rfl
   ·cases r
 caps_:∀ {I:List (Bool×Ty)} {M:List Leaf} {g:Got (lS I)},cq st I M=some g->g.lend=[]
  |[],[],g,r=>by simp only[cq,BG]at r;subst r;rfl
  |[],_::_,_,r=>by simp[cq]at r
  |_::_,[],_,r=>by simp[cq]at r
  |c::I,l::M,g,r=>by
   simp only[cq]at r;split at r
   ·split at r
    ·simp only[BG]at r;subst r;rfl
    ·cases r
   ·cases r
theorem tG:∀ (ps:List PK) (xs:List (aI×List Leaf)) (g:Got (ab ps)),a8 (b8 Γ st) ps xs=some g->g.lend=[]->ps.any PK.isIop=false
 |[],_,_,_,_=>rfl
 |_::_,[],_,u,_=>by simp[a8]at u
 |I::ps,x::xs,g,u,y=>by
  simp only[a8]at u;split at u
  ·rename_i M r;split at u
   ·rename_i J z;simp only[BG]at u;subst u;simp only[List.append_eq_nil_iff]at y;rw[Cg,tG ps xs J z y.2,Bool.or_false];cases I with
    |iop b =>
     simp only[b8,be]at r;split at r
     ·rename_i q _;cases H:decide ((st q).sh=.agg) with
      |false=>simp[H]at r
      |true =>
       rw[H]at r;simp only[cond_true,BH]at r;obtain⟨t,_,rfl⟩:=r;simp at y
     ·cases r
    |_=>rfl
   ·cases u
  ·cases u
theorem pa {W0:Wit}{S0 S:St}{w0:World}{a0:Act}(h0:an P V W0 S0 a0 w0){G:Nat->Prop}{p:Bool} :
  ∀ (ps:List PK) (xs:List (aI×List Leaf)) (vs:List Value) (g:Got (ab ps)) (o:ah ps) (r:List (List Nat)),gU P V W0 S0 w0 xs vs->a8 (b8 Γ S0) ps xs=some g->ps.any PK.isIo=false->bJ w G ps o vs r ->
  (g.lend=[]->aF S p ps xs o=[]/\r.flatten=[]) /\
  (∀ b,g.lend=[b]->∃ (c:Ty) (y:c.den) (cs:List Value) (E:TypeId) (Z:List Nat),aF S p ps xs o=[(b,⟨(S b).ver+2,.agg,aq p c y⟩)]/\w.heap[W0.β b]?=some (.cells cs.toArray E (0,0))/\Mx w G c none 0 y cs Z/\r.flatten=W0.β b::Z/\(S0 b).ls.length=c.cells)
 |[],[],vs,g,o,r,hx,O,_,X=>by
  simp only[a8,BG]at O;subst O;refine⟨λ_=>⟨rfl,?_⟩,λb hb=>by simp at hb⟩
  match vs,r,X with
  |[],[],_=>rfl
 |[],_::_,_,_,_,_,_,O,_,_=>by simp[a8]at O
 |_::_,[],_,_,_,_,_,O,_,_=>by simp[a8]at O
 |pk::ps,x::xs,vs,g,o,r,hx,O,hn,X=>by
  obtain⟨v,a2,cs,rfl,hs,hl,R⟩:=hx;simp only[a8]at O;split at O
  ·rename_i g1 J;split at O
   ·rename_i g2 a4;simp only[BG]at O;subst O;simp only[Cg,DA]at hn;have H:∀ (o':ah ps) (b:List Nat) (I:List (List Nat)),pk.isIop=false->r=b::I->b=[]->bJ w G ps o' a2 I->aF S p (pk::ps) (x::xs) o=aF S p ps xs o' ->
      (g1.lend++g2.lend=[]->aF S p (pk::ps) (x::xs) o=[]/\r.flatten=[]) /\
      (∀ b,g1.lend++g2.lend=[b]->∃ (c:Ty) (y:c.den) (cs:List Value) (E:TypeId) (Z:List Nat),aF S p (pk::ps) (x::xs) o=[(b,⟨(S b).ver+2,.agg,aq p c y⟩)]/\w.heap[W0.β b]?=some (.cells cs.toArray E (0,0))/\Mx w G c none 0 y cs Z/\r.flatten=W0.β b::Z/\(S0 b).ls.length=c.cells):=by
     intro o' b I hi e1 e2 a9 e3;subst e1;subst e2;rw[e3,zp J hi];simpa using pa h0 (S:=S) (p:=p) ps xs a2 g2 o' I R a4 hn.2 a9
    cases pk with
    |iop b =>
     match r,X with
     |M::I,⟨u,z⟩ =>
      obtain⟨r1,r2⟩:=pa h0 (S:=S) (p:=p) ps xs a2 g2 o.2 I R a4 hn.2 z;simp only[b8,be]at J;split at J
      ·rename_i q hq;cases hb:decide ((S0 q).sh=.agg) with
       |false=>simp[hb]at J
       |true =>
        rw[hb]at J;simp only[cond_true,BH]at J;obtain⟨t,ht,rfl⟩:=J;refine⟨λhb=>by simp at hb,λb' Y=>?_⟩;simp only[C3,Cj]at Y;obtain⟨rfl,Y⟩:=Y;obtain⟨r3,r4⟩:=r1 Y;obtain⟨a5,_⟩:=gR hs hl hq (by simp);unfold jx at u;rw[if_pos rfl]at u;obtain⟨g',a3,E,Z,hv,a1,hm,rfl⟩:=u;have a6:g'=W0.β q:=by
         have h9:=a5.2.2;rw[hv]at h9;simp only[Value.pointer.injEq,BG,Cq,and_true]at h9;exact h9
        subst a6;refine⟨b,o.1,a3,E,Z,?_,a1,hm,by rw[B6,r4,B9],?_⟩
        rotate_left
        ·rw[h0.len];exact (dJ (pos:=0) h0 (iA h0 q) ht).1.len
        simp only[aF,r3,hq,B9];rfl
      ·cases J
    |io b=>simp[PK.isIo]at hn
    |rd b =>
     match r,X with
     |M::I,⟨u,z⟩=>exact H o M I rfl rfl u z rfl
    |own b =>
     match r,X with
     |M::I,⟨u,z⟩=>exact H o M I rfl rfl u z rfl
    |rref b =>
     match r,X with
     |M::I,⟨u,z⟩=>exact H o M I rfl rfl u z rfl
    |rref2 b =>
     match r,X with
     |M::I,⟨u,z⟩=>exact H o M I rfl rfl u z rfl
    |fn As B =>
     match r,X with
     |M::I,⟨u,z⟩=>exact H o M I rfl rfl u z rfl
    |clo f a3 =>
     match r,X with
     |M::I,⟨u,z⟩=>exact H o M I rfl rfl u z rfl
    |hol b cc off =>
     match r,X with
     |M::I,⟨u,z⟩=>exact H o M I rfl rfl u z rfl
   ·cases O
  ·cases O
end
section
variable {P:Program} {V:Env}
theorem ww (hV:ax V){W:Wit}{S:St}{a:Act}{w:World}(h:an P V W S a w){M:List RK}{y:ai M}{us:List Value}{X:List (List Nat)}{v:Value}{p q:Bool}{ks:List (Nat×Nat×Nat)}{ep:Nat}{G ro:Nat->Prop}
  (Z:gy w G ro M y us X) (hG:∀ k,G k->gd V W p k)
  (hB:M.any RK.isBv=true->(∀ k,G k\/ro k->gd V W q k\/∃ x∈ks,k∈W.bs x.1 x.2.1)/\ep<=(S EPO).ver/\(∀ k∈ks,k.2.2<=(S k.1).ver))
  (H:∀ k∈X.flatten,¬ ca V W S k) (a2:X.flatten.Nodup) (I:sm us v) {d:Nat} (hd:d<V.nt) (a0:∀ x∈V.fixt,x.1≠d) (r:gF S d M=true) :
  ∃ W1,an P V W1 (ac ((d,eU ((ac (bC d (S (B0+d)).ver p q ks ep M y).2 S d).ver+1) (bC d (S (B0+d)).ver p q ks ep M y).1)::(bC d (S (B0+d)).ver p q ks ep M y).2) S) (a.put (some d) v) w /\
   ∀ z,z≠d->z≠B0+d->W1.cs z=W.cs z:=by
 cases hv:M.all RK.isV with
 |true =>
  obtain⟨m0,cs,a1,m1,m2,m3,m4,m5,m6⟩:=ov (P:=P) (W:=W) (st:=S) (p:=p) (q:=q) (ks:=ks) (ep:=ep) hG d (S (B0+d)).ver M y us X hB Z hv a2;rw[m0];obtain⟨s1,s2,s3⟩:=Bt ((S d).ver+1) m1 I;show ∃ W1,an P V W1 (ac [(d,eU ((S d).ver+1) (bC d (S (B0+d)).ver p q ks ep M y).1)] S) (a.put (some d) v) w/\_;generalize eU ((S d).ver+1) (bC d (S (B0+d)).ver p q ks ep M y).1=rc at s1 s2 s3 ⊢;obtain⟨v0,b2,bl⟩:=rc;simp only at s1 s2 s3;subst s3;subst s2;have a5:=h.put hV d hd a0 ((S d).ver+1) b2 _ v cs a1 (BS _) s1 m2 m3 m4
   (λj l R ho k Y=>by
    have a6:=m5 j l R ho k Y;have J:=H k a6;simp only[ca,not_or,not_exists,not_and]at J;exact⟨J.1,J.2.1,J.2.2.1,λr1 j1 l1 _ h8 h9=>J.2.2.2 r1 j1 l1 h8 h9⟩) m6
  refine⟨_,a5,λz hz _=>?_⟩;show (if z=d then cs else W.cs z)=_;rw[if_neg hz]
 |false =>
  have hb:∃ b,M=[.box b]:=by
   unfold gF at r;split at r
   ·exact⟨_,rfl⟩
   ·rw[hv]at r;cases r
  obtain⟨b,rfl⟩:=hb;obtain⟨u0,bb,rb,ba,e1,e2,⟨g',cs,E,b0,b1,b9,hm,b4⟩,e3,e4⟩:=Z;subst e3;subst e4;subst e1;subst e2;subst b4;have I:v=u0:=I;subst I;subst b1;have a4:(S (B0+d)).sh=.off:=by simpa[gF]using r
  have O:(g'::b0).Nodup:=by simpa using a2
  rw[CR]at O;obtain⟨a1,m1,m2,m3,m4⟩:=iJ (P:=P) (V:=V) (W:=W) (st:=S) (p:=p) hG hm O.2;have a3:d≠B0+d:=by simp[B0]
  have b5:=H g' (by simp);have a9:=h.setBoxG hV (B0+d) (Cf _ _) ((S (B0+d)).ver+1) (aq p b y.1) cs a1 g' E (w':=w) (BS _)
   (.inr ⟨by simp[live,a4],b5,λj l R ho k Y e0=>O.1 (by rw[<- e0];exact m3 j l R ho k Y)⟩) b9 (λ_ _ _=>rfl) (λ_ _ _ _ _ _ _=>rfl) (B3 _) rfl rfl rfl m1 hm.one m2
   (λj l R ho k Y=>by
    have J:=H k (by simp;exact .inr (m3 j l R ho k Y));simp only[ca,not_or,not_exists,not_and]at J;exact⟨J.1,J.2.1,J.2.2.1,λr1 j1 l1 _ h8 h9=>J.2.2.2 r1 j1 l1 h8 h9⟩) m4
  have b3:=a9.put hV d hd a0 ((S d).ver+1) .one [.bp (B0+d) 0] (.pointer (some ⟨g',0,none⟩)) [.pointer (some ⟨g',0,none⟩)] (λ_=>[]) (by rw[aJ a3];exact BS _) rfl rfl (λu J=>by simp at J;subst J;rfl)
   (λj l u R g9=>by
    cases j with
    |zero=>simp at R g9;subst R;subst g9;exact⟨Cf _ _,by rw[bj],by simp⟩
    |succ j=>simp at R)
   (λj l R ho k Y=>by simp at Y) (λj j' l l' _ _ _ _ k Y=>by simp at Y)
  have e1:ac (bC d (S (B0+d)).ver p q ks ep [.box b] y).2 S=ac [(B0+d,⟨(S (B0+d)).ver+1,.agg,aq p b y.1⟩)] S:=rfl;rw[aQ,e1,aJ a3];refine⟨_,b3,λz hz ad=>?_⟩;show (if z=d then _ else (if z=B0+d then _ else W.cs z))=_;rw[if_neg hz,if_neg ad]
theorem uJ (r:Nat)(c u:bP)(S:St):ac [(r,c)] (ac [(r,u)] S)=ac [(r,c)] S:=by
 funext q;rcases aj r q c (ac [(r,u)] S) with ⟨rfl,e⟩|⟨h,e⟩
 ·rw[e,bj]
 ·rw[e,aJ h,aJ h]
theorem zq (hV:ax V){W:Wit}{S:St}{a:Act}{w w':World}(h:an P V W S a w){b:Nat}(hb:live S b){N:Nat->Prop}{cs:List Value}{E:TypeId}{c:Ty}{y:c.den}{b0:List Nat}{G:Nat->Prop}{p:Bool}
  (Z:w'.heap[W.β b]?=some (.cells cs.toArray E (0,0))) (hm:Mx w' G c none 0 y cs b0) (a3:(W.β b::b0).Nodup) (a6:(S b).ls.length=c.cells)
  (a0:∀ k,ca V W S k->k≠W.β b->w'.heap[k]?=w.heap[k]?) (b2:w.heap.size<=w'.heap.size) (ad:w'.os=w.os) (ht:w'.tape=w.tape) (ho:w'.output=w.output)
  (hN:∀ k,N k->k<w'.heap.size/\¬ ca V W S k) (a2:∀ k∈b0,¬ ca V W S k/\¬ N k) (hG:∀ k,G k->gd V { W with nw:=λk=>W.nw k\/N k } p k) :
  ∃ W1,an P V W1 (ac [(b,⟨(S b).ver+2,.agg,aq p c y⟩)] S) a w'/\W1.β=W.β/\(∀ k,W1.nw k<->W.nw k\/N k)/\(∀ q,q≠b->W1.cs q=W.cs q)/\(∀ q i,q≠b->W1.bs q i=W.bs q i) /\
   (∀ k,ca V W1 (ac [(b,⟨(S b).ver+2,.agg,aq p c y⟩)] S) k->ca V W S k\/N k\/k∈b0):=by
 have J:∀ (q:Nat),(if q=b then W.β b else W.β q)=W.β q:=λq=>by split <;> simp_all
 have h1:=h.setBoxG hV b hb.1 ((S b).ver+1) (CP cs.length .dead) cs (λ_=>[]) (W.β b) E (w':=w') (BS _) (.inl ⟨hb,rfl⟩) Z a0 (λ_ _ _ _ k H=>by simp at H) b2 ad ht ho (by simp) hm.one
  (λj l u I R=>by
   rw[Cb]at I;split at I
   ·simp at I;subst I;trivial
   ·cases I)
  (λj l I R k H=>by simp at H) (λj j' l l' _ _ _ _ k H=>by simp at H)
 have a1:∀ (j:Nat) (l:Leaf),(CP cs.length Leaf.dead)[j]?=some l->¬ am l:=by
  intro j l I;rw[Cb]at I;split at I
  ·simp at I;subst I;exact id
  ·cases I
 have a4:∀ z,live (ac [(b,⟨(S b).ver+1,.agg,CP cs.length .dead⟩)] S) z->live S z:=by
  intro z X;rcases aj b z ⟨(S b).ver+1,.agg,CP cs.length .dead⟩ S with ⟨rfl,e⟩|⟨_,e⟩
  ·exact hb
  ·exact⟨X.1,by rw[<- e];exact X.2⟩
 have b1:∀ k,ca V { W with β:=λr=>if r=b then W.β b else W.β r,cs:=λr=>if r=b then cs else W.cs r,bs:=λr j=>if r=b then [] else W.bs r j } (ac [(b,⟨(S b).ver+1,.agg,CP cs.length .dead⟩)] S) k->ca V W S k:=by
  rintro k (H|H|⟨z,X,H⟩|⟨z,i,l,I,R,O⟩)
  ·exact .inl H
  ·exact .inr (.inl H)
  ·exact .inr (.inr (.inl ⟨z,a4 z X,by rw[<- H];exact (J z).symm⟩))
  ·by_cases M:z=b
   ·subst M;rw[bj]at I;exact absurd R (a1 i l I)
   ·rw[aJ M]at I;simp only[if_neg M]at O;exact .inr (.inr (.inr ⟨z,i,l,I,R,O⟩))
 have h2:=h1.nwGrow hV N (λk H=>⟨(hN k H).1,λhu=>(hN k H).2 (b1 k hu)⟩);rw[CR]at a3;obtain⟨Y,m1,m2,m3,m4⟩:=iJ (P:=P) (V:=V) (W:={ W with β:=λr=>if r=b then W.β b else W.β r,cs:=λr=>if r=b then cs else W.cs r,bs:=λr j=>if r=b then [] else W.bs r j,nw:=λk=>W.nw k\/N k })
  (st:=ac [(b,⟨(S b).ver+1,.agg,CP cs.length .dead⟩)] S) (p:=p) (λk H=>hG k H) hm a3.2
 have b3:=hm.len;have b4:=cF p c y;have h3:=h2.reown hV b ⟨(S b).ver+2,.agg,aq p c y⟩ Y (by rw[bj];exact BS _) (by rw[bj]) (by rw[bj,C4];omega)
  (λj l v I R=>m2 j l v I (by simpa using R))
  (λj l I R k H=>by
   have a9:=m3 j l I R k H;obtain⟨q1,q2⟩:=a2 k a9;refine⟨λhn=>hn.elim (λhn=>q1 (.inl hn)) q2,λhp=>q1 (.inr (.inl hp)),λz X e0=>q1 (.inr (.inr (.inl ⟨z,a4 z X,by rw[<- e0];exact (J z).symm⟩))),λr1 j1 l1 a5 O g4 g5=>?_⟩;rw[aJ a5]at O;have g5:k∈(if r1=b then [] else W.bs r1 j1):=g5;rw[if_neg a5]at g5;exact q1 (.inr (.inr (.inr ⟨r1,j1,l1,O,g4,g5⟩)))) m4
 rw[uJ]at h3;refine⟨_,h3,funext λq=>J q,λk=>Cn,λq hq=>if_neg hq,λq i hq=>?_,?_⟩
 ·show (if q=b then Y i else if q=b then [] else W.bs q i)=_;rw[if_neg hq,if_neg hq]
 ·rintro k ((H|H)|H|⟨z,X,H⟩|⟨z,i,l,I,R,O⟩)
  ·exact .inl (.inl H)
  ·exact .inr (.inl H)
  ·exact .inl (.inr (.inl H))
  ·refine .inl (.inr (.inr (.inl ⟨z,?_,by rw[<- H];exact (J z).symm⟩)));rcases aj b z ⟨(S b).ver+2,.agg,aq p c y⟩ S with ⟨rfl,e⟩|⟨_,e⟩
   ·exact hb
   ·exact⟨X.1,by rw[<- e];exact X.2⟩
  ·by_cases M:z=b
   ·subst M;rw[bj]at I;have O:k∈(if z=z then Y i else _):=O;rw[if_pos rfl]at O;exact .inr (.inr (m3 i l I R k O))
   ·rw[aJ M]at I;have O:k∈(if z=b then Y i else if z=b then [] else W.bs z i):=O;rw[if_neg M,if_neg M]at O;exact .inl (.inr (.inr (.inr ⟨z,i,l,I,R,O⟩)))
end
section
variable {P:Program} {V:Env} {Γ:List Ctr} {st:St} {R:Type}
theorem gA:∀ (ps:List PK) (xs:List (aI×List Leaf)) (r:Upd->List (aI×List Leaf)->Option (Bool×Nat×Nat)->Option R),kK st ps xs r=(cY st ps xs).bind λu=>r u.1 u.2.1 u.2.2
 |[],xs,r=>rfl
 |_::_,[],r=>rfl
 |p::ps,x::xs,r=>by
  simp only[kK,cY];split
  ·rw[hH];cases cj st (x.2.getD _ .dead) <;> rfl
  ·rw[gA ps xs];cases cY st ps xs <;> rfl
theorem ll {a:Ty}:∀ {ls:List Leaf} {j k:Nat},lA a j ls=some k->j<=k/\∃ l,ls[k-j]?=some l/\jr l=true
 |[],_,_,h=>by simp[lA]at h
 |l::ls,j,k,h=>by
  simp only[lA]at h;cases r:jr l&&pu a j with
  |true =>
   rw[r]at h;simp only[cond_true,BG]at h;subst h;simp only[BI]at r;exact⟨B3 _,l,by simp,r.1⟩
  |false =>
   rw[r]at h;obtain⟨H,y,z,u⟩:=ll h;exact⟨by omega,y,by rw[show k-j=(k-(j+1))+1 by omega];simpa using z,u⟩
theorem rB {p:PK}{ls:List Leaf}{k:Nat}(h:p.nest ls=some k):∃ l,ls[k]?=some l/\jr l=true:=by
 cases p with
 |own a=>obtain⟨_,l,r,u⟩:=ll h;exact⟨l,by simpa using r,u⟩
 |io a=>obtain⟨_,l,r,u⟩:=ll h;exact⟨l,by simpa using r,u⟩
 |_=>simp[PK.nest]at h
theorem tH (u:ax V){W W':Wit}{st':St}{w w':World}(y:cB V W W' st st' w w'):∀ {xs:List (aI×List Leaf)} {z:List Value},gU P V W st w xs z->gU P V W' st' w' xs z
 |[],_,h=>h
 |_::_,_,⟨v,r,M,e,I,J,H⟩=>⟨v,r,M,e,I,J.carry u.ro y,tH u y H⟩
theorem aB.setLeaf {W:Wit}{w:World}{ls:List Leaf}{cs:List Value}(u:aB P V W st w ls cs){k:Nat}{l:Leaf}(z:¬ am l)(h:∀ v,cs[k]?=some v->aK P V W st w [] l v):aB P V W st w (aT ls k l) cs:=by
 have r:=u.length;refine aB.mk (by simp[aT,r]) λj J v y H=>?_
 rcases aS _ _ _ _ _ y with ⟨rfl,rfl,M⟩|⟨I,y⟩
 ·exact⟨h v H,z,u.one' v (List.mem_of_getElem? H)⟩
 ·exact u.at_ j J v y H
def Bu (W:Wit)(S:St)(w:World):Option (Bool×Nat×Nat)->Prop
 |some (_,r,j)=>∃ v,W.cs TMP=[v]/\tC W S w r j v
 |none=>True
theorem ox (hV:ax V){W:Wit}{a:Act}{w:World}(h:an P V W st a w):∀ (ps:List PK) (xs:List (aI×List Leaf)) (X:List Value) (U:Upd) (O:List (aI×List Leaf)) (b:Option (Bool×Nat×Nat)),
  gU P V W st w xs X->cY st ps xs=some (U,O,b)->∃ H,an P V H (ac U st) a w/\gU P V H (ac U st) w O X/\H.nw=W.nw/\H.β=W.β/\Bu H (ac U st) w b/\cB V W H st (ac U st) w w/\(∀ q,(ac U st q).sh=(st q).sh\/q=TMP) /\
   (∀ f r j,b=some (f,r,j)->f=true->ps.any PK.isIo=true)
 |[],xs,X,U,O,b,hx,y=>by
  simp only[cY,BG,CJ]at y;obtain⟨rfl,rfl,rfl⟩:=y;exact⟨W,h,hx,rfl,rfl,trivial,cB.refl V W st w,λ_=>.inl rfl,λ_ _ _ h=>by cases h⟩
 |_::_,[],X,U,O,b,hx,y=>by
  simp only[cY,BG,CJ]at y;obtain⟨rfl,rfl,rfl⟩:=y;exact⟨W,h,hx,rfl,rfl,trivial,cB.refl V W st w,λ_=>.inl rfl,λ_ _ _ h=>by cases h⟩
 |p::ps,x::xs,X,U,O,b,⟨v,M,cs,e,hs,hl,z⟩,y=>by
  subst e;simp only[cY]at y;split at y
  ·rename_i k hk;simp only[BH]at y;obtain⟨u,I,y⟩:=y;simp only[CJ]at y;obtain⟨rfl,rfl,rfl⟩:=y;obtain⟨l,J,a1⟩:=rB hk;have hg:x.2.getD k .dead=l:=by rw[CL,J];rfl
   rw[hg]at I ⊢;have a0:k<cs.length:=by rw[<- hl.length];exact (BJ.1 J).1
   have Z:=BZ a0;obtain⟨U,l'⟩:=u;obtain⟨H,n,p0,E0,e0,a2,g1,Y,g3,g4,_,_,g5,g6,_,g7,g8,g9⟩:=vi hV h (hl.at_ k l _ J Z).1 I;subst g3;refine⟨H,g1,⟨v,M,cs,rfl,hs,(hl.carry hV.ro Y).setLeaf id λu I=>?_,tH hV Y z⟩,g5,g6,⟨_,g7,g9⟩,Y,g8,λf r j hb hf=>?_⟩
   ·rw[Z]at I;simp only[BG]at I;subst I;exact g4
   ·simp only[BG,CJ]at hb;rw[Cg,hb.1,hf];rfl
  ·simp only[BH]at y;obtain⟨u,I,y⟩:=y;simp only[CJ]at y;obtain⟨rfl,rfl,rfl⟩:=y;obtain⟨H,g1,Y,g3,g4,g5,g6,g7,g8⟩:=ox hV h ps xs M u.1 u.2.1 u.2.2 z I;exact⟨H,g1,⟨v,M,cs,rfl,hs,hl.carry hV.ro g6,Y⟩,g3,g4,g5,g6,g7,λf r j hb hf=>by rw[Cg,g8 f r j hb hf,Bool.or_true]⟩
end
section
variable {P:Program} {V:Env} {Γ:List Ctr} {st:St}
theorem iK {st:St}{q i:Nat}:∀ {ks:List (Nat×Nat)},(q,i)∉ks->(ac (aE st ks) st q).ls[i]?=(st q).ls[i]?
 |[],_=>rfl
 |(r,j)::ks,h=>by
  simp only[CY,not_or]at h;have e:ac (aE st ((r,j)::ks)) st=ac [(r,fV (ac (aE st ks) st r) j)] (ac (aE st ks) st):=aQ _ _ _ _;rw[e];rcases aj r q (fV (ac (aE st ks) st r) j) (ac (aE st ks) st) with ⟨rfl,e⟩|⟨_,e⟩
  ·rw[e];simp only[fV,aT];rw[CV (λu=>h.1 (by rw[u]))];exact iK h.2
  ·rw[e];exact iK h.2
theorem lm {st:St}{q i:Nat}:∀ {ks:List (Nat×Nat)},(q,i)∉ks->(ac (aN st ks) st q).ls[i]?=(st q).ls[i]?
 |[],_=>rfl
 |(r,j)::ks,h=>by
  simp only[CY,not_or]at h;have e:ac (aN st ((r,j)::ks)) st=ac [(r,fZ (ac (aN st ks) st r) j)] (ac (aN st ks) st):=aQ _ _ _ _;rw[e];rcases aj r q (fZ (ac (aN st ks) st r) j) (ac (aN st ks) st) with ⟨rfl,e⟩|⟨_,e⟩
  ·rw[e];simp only[fZ,aT];rw[CV (λu=>h.1 (by rw[u]))];exact lm h.2
  ·rw[e];exact lm h.2
theorem nn (d n:Nat)(p q:Bool)(ks:List (Nat×Nat×Nat))(ep:Nat):∀ (z:List RK) (y:ai z),∀ x∈(bC d n p q ks ep z y).2,x.1=B0+d
 |[],_,x,u=>by simp[bC]at u
 |r::z,y,x,u=>by
  simp only[bC,BR]at u;rcases u with u|u
  ·cases r <;> simp[pt]at u;rw[u]
  ·exact nn d n p q ks ep z y.2 x u
theorem rD {q:Nat}(st:St):∀ (U:Upd),(∀ x∈U,x.1≠q)->ac U st q=st q
 |[],_=>rfl
 |(r,c)::U,h=>by
  rw[aQ,aJ (CW (h (r,c) (B5 ..)))];exact rD st U (λx u=>h x (BV _ u))
def mr (u:St)(c:Ctr)(d:Nat)(xs:List (aI×List Leaf))(g:Got (ab c.ps))(y:ai c.rs×ah c.ps):Upd :=
 let H:=(let U:=(bif c.fresh then [] else aE u g.frz);aN (ac U u) g.kill++U);let z:=aF (ac H u) (g.p&&!c.fresh) c.ps xs y.2++H;let r:=bC d (ac z u (B0+d)).ver (g.p&&!c.fresh) g.p (g.frz.map λk=>(k.1,k.2,(ac z u k.1).ver)) (ac z u EPO).ver c.rs y.1
 (d,eU ((ac (r.2++z) u d).ver+1) r.1)::(r.2++z)
theorem zr (hV:ax V){W0:Wit}{u:St}{a:Act}{w:World}(h0:an P V W0 u a w){c:Ctr}{xs:List (aI×List Leaf)}{vs:List Value}(e6:gU P V W0 u w xs vs){g:Got (ab c.ps)}(hg:a8 (b8 Γ u) c.ps xs=some g)
  (hf:∀ z∈g.frz,aA u z) (H:∀ z∈g.kill,aA u z) (et:∀ b∈g.lend,live u b) (e4:aY g.kill=true) (en:dx g.frz g.kill=true) (hE:∀ z∈g.kill,z.1≠EPO) (b1:g.lend.length<=1) (f2:g.lend=[]\/c.ps.any PK.isIo=false)
  {bb:List (List Nat)} (bn:∀ k,bb.flatten.count k=(g.lend.map W0.β).count k+(aX W0 g.kill).count k)
  {d:Nat} (hd:d<V.nt) (e7:∀ x∈V.fixt,x.1≠d) (a3:gF u d c.rs=true) (dc:((c.fresh&&g.lend.isEmpty)||!(c.rs.any RK.isBv))=true) {y:ai c.rs×ah c.ps} {e:Ending} {w':World} (cw:tD c w (bo V W0 g.p g.frz) vs bb y e w') :
  ∃ v,e=.returned v/\∃ W1,an P V W1 (ac (mr u c d xs g y) u) (a.put (some d) v) w'/\(∀ q,q≠d->q≠B0+d->q∉g.lend->W1.cs q=W0.cs q) /\
   (∀ q i,q≠d->q≠B0+d->q∉g.lend->(q,i)∉g.frz->(q,i)∉g.kill->(ac (mr u c d xs g y) u q).ls[i]?=(u q).ls[i]?)/\(∀ k,k<w.heap.size->k∉aX W0 g.kill->k∉g.lend.map W0.β->w'.heap[k]?=w.heap[k]?)/\w.heap.size<=w'.heap.size:=by
 obtain⟨v,us,N,cb,b9,rfl,d3,cx,em,ed,eg,ex,hN,bx,e5,R,Z⟩:=cw;have a4:∀ k,k∈bb.flatten<->k∈g.lend.map W0.β\/k∈aX W0 g.kill:=λk=>by
  rw[<- BQ,<- BQ,<- BQ,bn k];omega
 have a0:∀ k,k<w.heap.size->k∉aX W0 g.kill->k∉g.lend.map W0.β->w'.heap[k]?=w.heap[k]?:=λk h1 h2 h3=>ex k h1 (λh=>((a4 k).1 h).elim h3 h2)
 refine⟨v,rfl,?_⟩;unfold mr;generalize ba:(bif c.fresh then [] else g.frz)=O;have hU:(bif c.fresh then [] else aE u g.frz)=aE u O:=by rw[<- ba];cases c.fresh <;> rfl
 have dd:dx O g.kill=true:=by rw[<- ba];cases c.fresh with|true=>rfl|false=>exact en
 have c2:∀ z∈O,z∈g.frz:=by rw[<- ba];cases c.fresh with|true=>simp|false=>exact λ_ h=>h
 have f5:∀ z∈O,aA u z:=λz hz=>hf z (c2 z hz)
 rw[hU];obtain⟨h1,h2,h3,h4⟩:=fI hV h0 dd H;have b2:∀ q i,(q,i)∉g.frz->(q,i)∉g.kill->(ac (aN (ac (aE u O) u) g.kill++aE u O) u q).ls[i]?=(u q).ls[i]?:=λq i q1 q2=>by
  rw[bB,lm q2,iK (λh=>q1 (c2 _ h))]
 generalize f6:aN (ac (aE u O) u) g.kill++aE u O=I at h1 h2 h3 h4 b2;have a2:∀ k∈aX W0 g.kill,¬ ca V (W0.frz u O) (ac I u) k:=λk H=>mn ⟨(h4 k H).1,(h4 k H).2.1,(h4 k H).2.2.2.1,(h4 k H).2.2.2.2⟩
 have a1:∀ k,p9 w w' bb.flatten k->k∉g.lend.map W0.β->k<w'.heap.size/\¬ ca V (W0.frz u O) (ac I u) k:=by
  rintro k ⟨f4,a6⟩ f1;refine⟨f4,λM=>?_⟩;rcases a6 with a6|a6
  ·have:=h1.used_lt k M;omega
  ·exact ((a4 k).1 a6).elim f1 (λa6=>a2 k a6 M)
 have hG:∀ k,(N k\/(c.fresh=false/\bo V W0 g.p g.frz k))->gd V { W0.frz u O with nw:=λk=>(W0.frz u O).nw k\/N k } (g.p&&!c.fresh) k:=by
  rintro k (H|⟨eb,H⟩)
  ·exact .inl (.inr H)
  ·have e1:O=g.frz:=by rw[<- ba,eb];rfl
   have:=kt (V:=V) (W:=W0) (p:=g.p) hf k H;rw[eb];rw[<- e1]at this;exact bT (W':={ W0.frz u O with nw:=λk=>(W0.frz u O).nw k\/N k }) (by intro h;simp[h]) (λ_ h=>Or.inl h) k this
 rw[CN]at R;have cy:∀ (W2:Wit),an P V W2 (ac (aF (ac I u) (g.p&&!c.fresh) c.ps xs y.2++I) u) a w'->(∀ k,(N k\/(c.fresh=false/\bo V W0 g.p g.frz k))->gd V W2 (g.p&&!c.fresh) k) ->
   (∀ k∈b9.flatten,¬ ca V W2 (ac (aF (ac I u) (g.p&&!c.fresh) c.ps xs y.2++I) u) k) ->
   (c.rs.any RK.isBv=true->∀ x∈g.frz,∀ k,k∈W0.bs x.1 x.2->k∈W2.bs x.1 x.2)->(c.rs.any RK.isBv=true->∀ k,W0.nw k->W2.nw k) ->
   (∀ q,q∉g.lend->W2.cs q=W0.cs q)->(∀ q i,q∉g.lend->(q,i)∉g.frz->(q,i)∉g.kill->(ac (aF (ac I u) (g.p&&!c.fresh) c.ps xs y.2++I) u q).ls[i]?=(u q).ls[i]?) ->
   (∀ q,(ac (aF (ac I u) (g.p&&!c.fresh) c.ps xs y.2++I) u q).sh=(u q).sh) ->
   ∃ W1,an P V W1 (ac (let Y:=aF (ac I u) (g.p&&!c.fresh) c.ps xs y.2++I
     let r:=bC d (ac Y u (B0+d)).ver (g.p&&!c.fresh) g.p (g.frz.map λk=>(k.1,k.2,(ac Y u k.1).ver)) (ac Y u EPO).ver c.rs y.1
     (d,eU ((ac (r.2++Y) u d).ver+1) r.1)::(r.2++Y)) u) (a.put (some d) v) w'/\(∀ q,q≠d->q≠B0+d->q∉g.lend->W1.cs q=W0.cs q) /\
    (∀ q i,q≠d->q≠B0+d->q∉g.lend->(q,i)∉g.frz->(q,i)∉g.kill->(ac (let Y:=aF (ac I u) (g.p&&!c.fresh) c.ps xs y.2++I
     let r:=bC d (ac Y u (B0+d)).ver (g.p&&!c.fresh) g.p (g.frz.map λk=>(k.1,k.2,(ac Y u k.1).ver)) (ac Y u EPO).ver c.rs y.1
     (d,eU ((ac (r.2++Y) u d).ver+1) r.1)::(r.2++Y)) u q).ls[i]?=(u q).ls[i]?):=by
  intro W2 g1 ec a5 e0 d2 es c1 c0;generalize aF (ac I u) (g.p&&!c.fresh) c.ps xs y.2++I=Y at g1 a5 c1 c0 ⊢;have cu:gF (ac Y u) d c.rs=true:=by
   unfold gF at a3 ⊢;split at a3
   ·rw[c0];exact a3
   ·exact a3
  obtain⟨W1,q1,q2⟩:=ww hV g1 (q:=g.p) (ks:=g.frz.map λk=>(k.1,k.2,(ac Y u k.1).ver)) (ep:=(ac Y u EPO).ver) e5 ec (λhb=>by
   refine⟨λk H=>?_,B3 _,λk H=>?_⟩
   ·rcases H with H|(H|H)|⟨x,hx,H⟩
    ·exact .inl (bT (W':=W2) (by intro h;simp at h;exact h.1) (λ_ h=>h) k (ec k H))
    ·exact .inl (.inl (d2 hb k H))
    ·exact .inl (.inr H)
    ·exact .inr ⟨(x.1,x.2,(ac Y u x.1).ver),Cy.2 ⟨x,hx,rfl⟩,e0 hb x hx k H⟩
   ·obtain⟨x,hx,rfl⟩:=Cy.1 H;exact B3 _) a5 R.2.1 d3 hd e7 cu
  have e1:∀ (X:Upd) (C:bP),ac ((d,C)::(X++Y)) u=ac ((d,C)::X) (ac Y u):=λX C=>by
   rw[aQ d C (X++Y),aQ d C X,bB]
  simp only[e1,bB];refine⟨W1,q1,λq hq c4 cp=>(q2 q hq c4).trans (es q cp),λq i hq c4 cp b3 a9=>?_⟩;rw[aQ,aJ hq,rD _ _ (λx hx=>by rw[nn _ _ _ _ _ _ _ _ x hx];exact CW c4)];exact c1 q i cp b3 a9
 refine (?_:∃ W1,_/\_/\_).imp λW1 hh=>⟨hh.1,hh.2.1,hh.2.2,a0,cx⟩
 cases J:g.lend with
 |nil =>
  rw[J]at a4 a0 a1 bn;simp only[DH,List.not_mem_nil,not_false_iff,true_implies,forall_const,false_or]at a4 a0 a1;rw[J]at cy;have h5:=h1.world hV cx em ed eg (λk H=>a0 k (h1.used_lt k H) (λhm=>a2 k hm H));have h6:=h5.nwGrow hV N (λk H=>a1 k (hN k H));have d1:∀ k,ca V { W0.frz u O with nw:=λk=>(W0.frz u O).nw k\/N k } (ac I u) k->ca V (W0.frz u O) (ac I u) k\/N k:=by
   rintro k ((H|H)|H|H|H)
   ·exact .inl (.inl H)
   ·exact .inr H
   ·exact .inl (.inr (.inl H))
   ·exact .inl (.inr (.inr (.inl H)))
   ·exact .inl (.inr (.inr (.inr H)))
  have b4:∀ k∈cb.flatten++b9.flatten,¬ ca V { W0.frz u O with nw:=λk=>(W0.frz u O).nw k\/N k } (ac I u) k:=λk H M=>by
   obtain⟨q1,q2⟩:=Z k H;rcases d1 k M with M|M
   ·exact (a1 k q1).2 M
   ·exact q2 M
  obtain⟨W2,g1,g2,g3,g4,g5,g6,g7⟩:=qK (Γ:=Γ) hV (W0:=W0) (W:={ W0.frz u O with nw:=λk=>(W0.frz u O).nw k\/N k }) (p:=g.p&&!c.fresh) rfl hG h6 c.ps xs vs g y.2 cb e6 hg (tG c.ps xs g hg J) bx e4 hE
   (λx hx l hl ho=>(h2 x.1 x.2 l hl ho).2.2 hx) (λk H=>b4 k (BP _ H)) R.1
  rw[<- bB]at g1 g5 g6 g7;refine cy W2 g1 (λk H=>?_) (λk H M=>?_) (λhb x hx k H=>?_) (λhb k H=>?_) (λq _=>by rw[g2];rfl) (λq i _ b3 a9=>(g6 q i a9).1.trans (b2 q i b3 a9)) (λq=>(g5 q).1.trans (h3 q).1)
  ·rcases hG k H with H|H
   ·exact .inl (by rw[g4];exact H)
   ·exact .inr H
  ·rcases g7 k M with M|M
   ·exact b4 k (BK _ H) M
   ·exact R.2.2 k M k H rfl
  ·rw[(g6 x.1 x.2 (nL en x hx)).2];exact H
  ·rw[g4];exact .inl (.inl H)
 |cons b ef =>
  have c3:ef=[]:=by
   rw[J]at b1;simp at b1;exact b1
  subst c3;have f0:c.ps.any PK.isIo=false:=f2.resolve_left (by rw[J];simp);have ej:c.rs.any RK.isBv=false:=by
   rw[J]at dc;simpa using dc
  obtain⟨_,r2⟩:=pa (Γ:=Γ) h0 (S:=ac I u) (p:=g.p&&!c.fresh) c.ps xs vs g y.2 cb e6 hg f0 bx;obtain⟨cT,yv,cs,E,b0,r3,r4,r5,r6,r7⟩:=r2 b J;rw[r6]at R Z;have hβ:(W0.frz u O).β=W0.β:=rfl;have bl:∀ k,k∈g.lend.map W0.β<->k=W0.β b:=λk=>by rw[J];simp
  have hb:live (ac I u) b:=(iC (λq=>(h3 q).1) b).2 (et b (by rw[J];simp));have cc:∀ k,k∈(W0.β b::b0)++b9.flatten->¬ N k:=λk H=>(Z k H).2
  obtain⟨W2,g1,g2,g3,g4,g5,g6⟩:=zq hV h1 hb (N:=N) (p:=g.p&&!c.fresh) r4 r5 R.1 (by rw[h1.len b];show (W0.cs b).length=_;rw[<- h0.len b];exact r7)
   (λk M ev=>a0 k (h1.used_lt k M) (λhm=>a2 k hm M) (λhm=>ev ((bl k).1 hm))) cx em ed eg
   (λk H=>a1 k (hN k H) (λhm=>cc _ (BP _ (B5 ..)) (by rw[<- (bl k).1 hm];exact H)))
   (λk H=>⟨(a1 k (Z k (BP _ (BV _ H))).1 (λhm=>by
    have:=(bl k).1 hm;subst this;exact (CR.1 R.1).1 H)).2,cc k (BP _ (BV _ H))⟩) hG
  have e2:ac (aF (ac I u) (g.p&&!c.fresh) c.ps xs y.2++I) u=ac [(b,⟨(ac I u b).ver+2,.agg,aq (g.p&&!c.fresh) cT yv⟩)] (ac I u):=by rw[bB,r3]
  have f3:∀ k∈b9.flatten,k∉g.lend.map W0.β:=λk H hm=>R.2.2 _ (B5 ..) k H ((bl k).1 hm).symm
  rw[<- e2]at g1 g6;have b5:=cy W2 g1 (λk H=>?_) (λk H M=>?_) (λad=>by rw[ej]at ad;cases ad) (λad=>by rw[ej]at ad;cases ad) (λq hq=>?_) (λq i hq b3 a9=>?_) (λq=>?_)
  ·rw[J]at b5;exact b5
  ·rcases hG k H with H|H
   ·exact .inl ((g3 k).2 H)
   ·exact .inr H
  ·rcases g6 k M with M|M|M
   ·exact (a1 k (Z k (BK _ H)).1 (f3 k H)).2 M
   ·exact cc k (BK _ H) M
   ·exact R.2.2 k (BV _ M) k H rfl
  ·rw[J]at hq;rw[g4 q (by simpa using hq)];rfl
  ·rw[J]at hq;rw[e2,aJ (by simpa using hq)];exact b2 q i b3 a9
  ·rw[e2];rcases aj b q ⟨(ac I u b).ver+2,.agg,aq (g.p&&!c.fresh) cT yv⟩ (ac I u) with ⟨rfl,e3⟩|⟨_,e3⟩
   ·rw[e3];have:=hb.2;rw[(h3 q).1]at this;exact this.symm
   ·rw[e3];exact (h3 q).1
end
section
variable {P:Program} {V:Env} {Γ:List Ctr} {T:TypeId->TI} {st:St} {o:Oper} {R:Type} {κ:Upd->Option R} {r:R}
theorem zt {ls:List Leaf}{j:Nat}{p:Bool}{u:Option (Nat×Nat)}{E:TypeId}{e:Ty}{xs:List e.den}(h:ls.getD j .dead=.own p u E e xs):ls[j]?=some (.own p u E e xs):=by
 rw[CL]at h;cases y:ls[j]? with
 |none=>rw[y]at h;simp at h
 |some z=>rw[y]at h;simp at h;rw[h]
theorem AJ (hV:ax V){b:Option (Bool×Nat×Nat)}{U:Upd}(h:jZ st b U κ=some r) :
  ∃ U',κ U'=some r/\∀ I a w,an P V I (ac U st) a w->(∀ q j,b=some (true,q,j)->∃ v,I.cs TMP=[v]/\tC I (ac U st) w q j v)->Rel P V (ac U' st) a w:=by
 unfold jZ at h;split at h
 ·rename_i q j;split at h
  ·rename_i p i off E' e' xs q' E e ys hq b3;obtain⟨y,hy,h⟩:=CD.1 h;obtain⟨_,_,hy⟩:=gm hy;simp only[DI]at hy;split at h
   ·rename_i z hz;refine⟨_,h,λI a w hr hb=>?_⟩;obtain⟨v,c3,a3,c0,i0,bl,p0,E0,e0,bx,g,cp,g1,g2,g3,g4⟩:=hb q j rfl;have hq:=zt hq;rw[hq]at g1;obtain⟨rfl,ba,rfl,h4⟩:p=p0/\some (i,off)=some (i0,bl)/\E'=E0/\(⟨e',xs⟩:(e:Ty)×List e.den)=⟨e0,bx⟩:=by
     simp only[BG,Leaf.own.injEq]at g1;obtain⟨q1,q2,q3,q4,q5⟩:=g1;subst q4;rw[heq_eq_eq]at q5;subst q5;exact⟨q1,by simpa using q2,q3,rfl⟩
    simp only[BG,CJ]at ba;obtain⟨rfl,rfl⟩:=ba;simp only[Sigma.mk.injEq]at h4;obtain⟨rfl,h4⟩:=h4;rw[heq_eq_eq]at h4;subst h4;generalize hS:ac U st=S at hr hq g1 g2 g3 b3 ⊢;have a9:(S TMP).ls[0]?=some (.own q' none E e ys):=by rw[b3];rfl
    have bb:(I.cs TMP)[0]?=some v:=by rw[c3];rfl
    have b2:=hr.leaf q j _ _ hq g2;have b0:=hr.leaf TMP 0 _ _ a9 bb;have b2:OwH w (gd V I p) (some (i,off)) E' e' xs _ (I.bs q j):=b2;have b0:Ow w (gd V I q') E e ys v (I.bs TMP 0):=b0;have b9:=b2.carry (G':=gd V I (p||q')) (bT (W':=I) (by intro h;simp[h]) (λ_ h=>h)) (λ_ _=>rfl) (λ_ _=>rfl);have b4:=OwH.carry (G':=gd V I (p||q')) b0 (bT (W':=I) (by intro h;simp[h]) (λ_ h=>h)) (λ_ _=>rfl) (λ_ _=>rfl);have c4:∀ k∈I.bs TMP 0,k∉I.bs q j:=λk M a1=>a3 (hr.sep TMP 0 _ q j _ a9 trivial hq trivial k M a1).1.symm
    obtain⟨ad,c2,c1⟩:=b9.back b4 c4 hy hz (λg' cb e1=>by
     simp only[CF,BG,Cq,and_true]at e1;rw[<- e1.1];exact g4)
    have bn:∀ k∈ad,k∈I.bs q j\/k∈I.bs TMP 0:=λk M=>by
     have h5:=c1 k;have h6:=BQ.2 M;by_cases h7:k∈I.bs q j
     ·exact .inl h7
     ·have:=B8.2 h7;exact .inr (BQ.1 (by omega))
    obtain⟨h1,cc⟩:=hr.putGhost hV TMP iY.1 iY.2.1 ((S TMP).ver+1) .off [] [] (λ_=>[]) (BS _) rfl (by simp) (λj l u hj=>by simp at hj) (λj l hj=>by simp at hj) (λj j' l l' hj=>by simp at hj);have a5:∀ x,x≠TMP->ac [(TMP,⟨(S TMP).ver+1,.off,[]⟩)] S x=S x:=λx hx=>aJ hx _ _
    have a6:(ac [(TMP,⟨(S TMP).ver+1,.off,[]⟩)] S) q=S q:=a5 q a3;have H:∀ (X:Nat) (l':Leaf),X≠j->(aT (S q).ls j (.own (p||q') none E' e' (xs.set i z)))[X]?=some l'->(S q).ls[X]?=some l':=by
     intro X l' a2 Z;rcases aS _ _ _ _ _ Z with ⟨rfl,_,_⟩|⟨_,Z⟩
     ·exact absurd rfl a2
     ·exact Z
    have b5:∀ (l':Leaf),(aT (S q).ls j (.own (p||q') none E' e' (xs.set i z)))[j]?=some l'->l'=.own (p||q') none E' e' (xs.set i z):=by
     intro l' Z;rcases aS _ _ _ _ _ Z with ⟨_,rfl,_⟩|⟨a2,_⟩
     ·rfl
     ·exact absurd rfl a2
    have a4:∀ b,live (ac [(TMP,⟨(S TMP).ver+1,.off,[]⟩)] S) b->live S b:=λb hb=>by
     have:b≠TMP:=by have:=hb.1;have:=iY.2.1;omega
     exact⟨hb.1,by rw[<- a5 b this];exact hb.2⟩
    have b1:∀ k∈ad,¬ I.nw k/\¬ V.prot k/\(∀ b,live S b->I.β b≠k)/\∀ (O i1:Nat) (l1:Leaf),(S O).ls[i1]?=some l1->am l1->(O,i1)≠(q,j)->O≠TMP->k∉I.bs O i1:=λk M=>by
     rcases bn k M with M|M
     ·have h9:=hr.ownb q j _ hq trivial k M;exact⟨h9.1,h9.2.1,h9.2.2,λO i1 l1 g5 g6 g7 _ g8=>g7 (by obtain⟨e1,e2⟩:=hr.sep O i1 l1 q j _ g5 g6 hq trivial k g8 M;rw[e1,e2])⟩
     ·have h9:=hr.ownb TMP 0 _ a9 trivial k M;exact⟨h9.1,h9.2.1,h9.2.2,λO i1 l1 g5 g6 _ g7 g8=>g7 (hr.sep O i1 l1 TMP 0 _ g5 g6 a9 trivial k g8 M).1⟩
    have h2:=(h1.reownE hV q ⟨(S q).ver,(S q).sh,aT (S q).ls j (.own (p||q') none E' e' (xs.set i z))⟩ (λX=>if X=j then ad else I.bs q X) c0 (by rw[a6];exact B3 _) (by rw[a6]) (by rw[a6];simp[aT])
     (λX l' u g5 g6=>by
      have g6:(if q=TMP then [] else I.cs q)[X]?=some u:=g6;rw[if_neg a3]at g6;by_cases J:X=j
      ·subst J;obtain rfl:=b5 l' g5;rw[g2]at g6;simp only[BG]at g6;subst g6;simp only[if_true];exact c2
      ·simp only[if_neg J];have:=h1.leaf q X l' u (by rw[a6];exact H X l' J g5) (by show (if q=TMP then [] else I.cs q)[X]?=_;rw[if_neg a3];exact g6);have e0:(if q=TMP then ([]:List Nat) else I.bs q X)=I.bs q X:=if_neg a3;simp only[e0]at this;exact this)
     (λX l' g5 g6 k M=>by
      by_cases J:X=j
      ·subst J;simp only[if_true]at M;obtain⟨q1,q2,q3,q4⟩:=b1 k M;refine⟨q1,q2,λb hb=>q3 b (a4 b hb),λO j1 l1 a2 g7 g8 g9=>?_⟩;by_cases a0:O=TMP
       ·subst a0;rw[bj]at g7;simp at g7
       ·rw[a5 O a0]at g7;have g9:k∈(if O=TMP then [] else I.bs O j1):=g9;rw[if_neg a0]at g9;exact q4 O j1 l1 g7 g8 (λe=>a2 (by cases e;rfl)) a0 g9
      ·simp only[if_neg J]at M;have Z:=H X l' J g5;have h9:=hr.ownb q X l' Z g6 k M;refine⟨h9.1,h9.2.1,λb hb=>h9.2.2 b (a4 b hb),λO j1 l1 a2 g7 g8 g9=>?_⟩;by_cases a0:O=TMP
       ·subst a0;rw[bj]at g7;simp at g7
       ·rw[a5 O a0]at g7;have g9:k∈(if O=TMP then [] else I.bs O j1):=g9;rw[if_neg a0]at g9;exact a2 (hr.sep q X l' O j1 l1 Z g6 g7 g8 k M g9).1.symm)
     (λi1 i2 l1 l2 g5 g6 g7 g8 k M a1=>by
      by_cases J:i1=j <;> by_cases Y:i2=j
      ·omega
      ·subst J;simp only[if_true]at M;simp only[if_neg Y]at a1;exact absurd a1 ((b1 k M).2.2.2 q i2 l2 (H i2 l2 Y g7) g8 (λe=>Y (by cases e;rfl)) a3)
      ·subst Y;simp only[if_true]at a1;simp only[if_neg J]at M;exact absurd M ((b1 k a1).2.2.2 q i1 l1 (H i1 l1 J g5) g6 (λe=>J (by cases e;rfl)) a3)
      ·simp only[if_neg J]at M;simp only[if_neg Y]at a1;exact (hr.sep q i1 l1 q i2 l2 (H i1 l1 J g5) g6 (H i2 l2 Y g7) g8 k M a1).2)).1
    show ∃ W,an P V W _ a w;have e1:ac ((q,⟨(S q).ver,(S q).sh,aT (S q).ls j (.own (p||q') none E' e' (xs.set i z))⟩)::(TMP,⟨(S TMP).ver+1,.off,[]⟩)::(EPO,bU (S EPO))::U) st =
      ac [(q,⟨(S q).ver,(S q).sh,aT (S q).ls j (.own (p||q') none E' e' (xs.set i z))⟩),(EPO,bU (ac [(TMP,⟨(S TMP).ver+1,.off,[]⟩)] S EPO))] (ac [(TMP,⟨(S TMP).ver+1,.off,[]⟩)] S):=by
     rw[a5 EPO (CW iY.2.2),aQ q,aQ TMP,aQ EPO,hS,aQ q _ [(EPO,bU (S EPO))],na iY.2.2]
    rw[e1];exact⟨_,h2⟩
   ·cases h
  ·cases h
 ·exact⟨_,h,λI a w hr _=>⟨I,hr⟩⟩
theorem vn (hV:ax V)(hΓ:∀ c∈Γ,bN P c){d:Nat}(hd:d<V.nt)(dc:∀ x∈V.fixt,x.1≠d){f:FuncId}{xs:List (aI×List Leaf)}(h:js Γ st d f xs κ=some r) :
  fR P f/\∃ U,κ U=some r/\∀ W a w,an P V W st a w->∀ vs,gU P V W st w xs vs->Calls P f vs.toArray w (λe w'=>∃ v,e=.returned v/\Rel P V (ac U st) (a.put (some d) v) w'):=by
 unfold js at h;split at h
 ·rename_i c hc;obtain⟨d3,rfl⟩:=nl hc;obtain⟨cu,a9⟩:=hΓ c d3;refine⟨cu,?_⟩;rw[gA]at h;obtain⟨⟨U0,ys,b⟩,cb,h⟩:=CD.1 h;simp only at h;split at h
  ·rename_i g hg;cases J:aY g.kill&&dx g.frz g.kill&&gF st d c.rs&&!(g.see.any λq=>g.lend.any (BX q))&&Cv g.lend.length 1&&(g.lend.isEmpty||!(c.ps.any PK.isIo))&&((c.fresh&&g.lend.isEmpty)||!(c.rs.any RK.isBv))&&(g.kill.all λk=>!BX k.1 EPO)&&oK b g.frz g.kill d with
   |false=>rw[J]at h;cases h
   |true =>
    rw[J]at h;simp only[cond_true]at h;simp only[BI]at J;obtain⟨⟨⟨⟨⟨⟨⟨⟨b5,ef⟩,I⟩,bl⟩,M⟩,e3⟩,en⟩,hE⟩,d2⟩:=J;obtain⟨y,hy,h⟩:=CD.1 h;obtain⟨U',f5,cc⟩:=AJ (P:=P) (V:=V) hV h;refine⟨U',f5,λW a w hr vs et=>?_⟩;obtain⟨W0,O,bx,fo,hβ0,e7,eb,b9,e5⟩:=ox hV hr c.ps xs vs U0 ys b et cb;generalize a6:ac U0 st=S0 at O bx e7 eb b9 hg;obtain⟨⟨b3,c1,a4⟩,hf,hk,a1⟩:=kF (uI hV hΓ O) c.ps ys vs g bx hg;have hE:∀ z∈g.kill,z.1≠EPO:=λz hz e0=>by
     have:=List.all_eq_true.1 hE z hz;rw[e0]at this;simp at this
    have M:g.lend.length<=1:=CT M;have bn:g.lend=[]\/c.ps.any PK.isIo=false:=by
     simp only[Dc,DQ,B7]at e3;exact e3
    have c4:∀ k,k∈b3.flatten<->k∈g.lend.map W0.β\/k∈aX W0 g.kill:=λk=>by
     rw[<- BQ,<- BQ,<- BQ,a4 k];omega
    have a0:∀ k,jV V W0 S0 g.frz g.see k->k<w.heap.size/\k∉b3.flatten:=by
     intro k H;refine⟨O.used_lt k (rA hf k H),λY=>?_⟩;rcases (c4 k).1 Y with Y|Y
     ·obtain⟨b',X,rfl⟩:=Cy.1 Y;have ed:=O.box b' (a1 b' X);rcases H with H|H|⟨b2,e4,a3,e2⟩|⟨z,hz,H⟩
      ·exact ed.1 H
      ·exact ed.2 H
      ·have:=O.inj b2 b' a3 (a1 b' X) e2;subst this;simp only[B7,CE]at bl;have:=bl b2 e4;rw[Bool.not_eq_true,CE]at this;have:=this b2 X;simp at this
      ·obtain⟨l,hl,ho⟩:=hf z hz;exact (O.ownb z.1 z.2 l hl ho _ H).2.2 b' (a1 b' X) rfl
     ·obtain⟨z,hz,Z⟩:=gl.1 Y;obtain⟨l,hl,ho⟩:=hk z hz;have a5:=O.ownb z.1 z.2 l hl ho k Z;rcases H with H|H|⟨b2,e4,a3,e2⟩|⟨z',ec,H⟩
      ·exact a5.1 H
      ·exact a5.2.1 H
      ·exact a5.2.2 b2 a3 e2
      ·obtain⟨l',es,f6⟩:=hf z' ec;obtain⟨e1,e2⟩:=O.sep z.1 z.2 l z'.1 z'.2 l' hl ho es f6 k Z H;exact nL ef z' ec (by rw[show z'=z from Dl e1.symm e2.symm];exact hz)
    have ej:b3.flatten.Nodup:=bt.2 λk=>by
     rw[a4 k];have h5:=bt.1 (gP O b5 hk) k;have h6:(g.lend.map W0.β).count k<=1:=by
      exact CO List.count_le_length (by rw[Ci];exact M)
     by_cases h7:k∈g.lend.map W0.β
     ·have:(aX W0 g.kill).count k=0:=B8.2 λY=>by
       obtain⟨b',X,e0⟩:=Cy.1 h7;obtain⟨z,hz,Z⟩:=gl.1 Y;obtain⟨l,hl,ho⟩:=hk z hz;exact (O.ownb z.1 z.2 l hl ho k Z).2.2 b' (a1 b' X) e0
      omega
     ·have:(g.lend.map W0.β).count k=0:=B8.2 h7;omega
    have ad:=a9 w (bo V W0 g.p g.frz) g.val vs b3 y (c1.mono (λ_ h=>h) a0) (λk H=>a0 k (mq hV k H)) ej hy;have c2:gF S0 d c.rs=true:=by
     unfold gF at I ⊢;split at I
     ·rcases b9 (B0+d) with e0|e0
      ·rw[e0];exact I
      ·exact absurd e0 (by have:=iY.2.1;omega)
     ·exact I
    refine ad.mono λe w' c3=>?_
    obtain⟨v,rfl,W1,a2,ba,dd,c0,_⟩:=zr (Γ:=Γ) hV O bx hg hf hk a1 b5 ef hE M bn a4 hd dc c2 en c3;refine⟨v,rfl,?_⟩;refine cc W1 _ w' ?_ ?_
    ·have e1:=bB (mr S0 c d ys g y) U0 st;rw[a6]at e1;rw[<- e1]at a2;subst a6;unfold mr at a2;simp only[bB,BW,DU]at a2 ⊢;exact a2
    ·intro q j hb;subst hb;obtain⟨u,f7,ev,f1,i,off,p,E,e,f3,gg,f0,q1,q2,q3,q4⟩:=e7;have cx:=e5 true q j rfl rfl;have b0:g.lend=[]:=bn.resolve_right (by rw[cx];simp);simp only[oK,BI,B7]at d2;obtain⟨⟨⟨cy,eg⟩,b4⟩,bb⟩:=d2;have d1:q≠d:=λe0=>by rw[e0]at b4;simp at b4
     have cw:q≠B0+d:=λe0=>by rw[e0]at bb;simp at bb
     have e6:(q,j)∉g.kill:=λY=>by
      have:=CE.1 cy _ Y;simp[iv]at this
     have f8:(q,j)∉g.frz:=λY=>by
      have:=CE.1 eg _ Y;simp[iv]at this
     have em:TMP≠d:=by have:=hV.nt;have:=iY.1;omega
     have ex:TMP≠B0+d:=by have:=iY.2.1;omega
     have hL:=dd q j d1 cw (by rw[b0];simp) f8 e6;rw[q1]at hL;have hC:=ba q d1 cw (by rw[b0];simp);have e1:=bB (mr S0 c d ys g y) U0 st;rw[a6]at e1;have f4:gg<w.heap.size:=O.own_lt q1 trivial gg q3;have f2:gg∉aX W0 g.kill:=λY=>by
      obtain⟨z,hz,Z⟩:=gl.1 Y;obtain⟨l,hl,ho⟩:=hk z hz;obtain⟨e1,e2⟩:=O.sep z.1 z.2 l q j _ hl ho q1 trivial gg Z q3;exact e6 (by rw[show (q,j)=z from Dl e1.symm e2.symm];exact hz)
     have cp:w'.cell? ⟨gg,i*e.cells+off,none⟩=some u:=by
      rw[kM (c0 gg f4 f2 (by rw[b0];simp))];exact q4
     have fd:gg∈W1.bs q j:=by
      have h9:=a2.leaf q j _ _ hL (by rw[hC];exact q2);obtain⟨_,fi,fl,_,fc,_⟩:=h9;rw[fc];simp[CB]
     refine⟨u,by rw[ba TMP em ex (by rw[b0];simp)];exact f7,ev,f1,i,off,p,E,e,f3,gg,f0,?_,by rw[hC];exact q2,fd,cp⟩;have b1:=hL;rw[<- e1]at b1;subst a6;unfold mr at b1;simp only[bB,BW,DU]at b1 ⊢;exact b1
  ·cases h
 ·cases h
end
section
variable {P:Program} {V:Env} {Γ:List Ctr} {T:TypeId->TI} {st:St} {o:Oper} {R:Type} {κ:Upd->Option R} {r:R}
theorem nV {W:Wit}{a:Act}{w:World}(h:an P V W st a w):∀ (l:List Operand),gU P V W st w (l.map (au st)) (l.map a.eval)
 |[]=>rfl
 |x::l=>by
  obtain⟨y,u,z⟩:=cQ h x;exact⟨a.eval x,l.map a.eval,y,rfl,u,z,nV h l⟩
theorem nq {W:Wit}{w:World}:∀ {xs y:List (aI×List Leaf)} {z us:List Value},gU P V W st w xs z->gU P V W st w y us->gU P V W st w (xs++y) (z++us)
 |[],_,_,_,I,u=>by rw[show _=_ from I];exact u
 |x::xs,_,_,_,⟨v,J,X,e,H,M,O⟩,u=>by
  subst e;exact⟨v,_,X,rfl,H,M,nq O u⟩
theorem qL {a:Act}{w:World}{c:Call}{x:Operand}{f:FuncId}{caps:Array Value}(z:o.op=.call c)(M:c.callee=.value x)(J:a.eval x=.func (.func f) #[] caps)(I:fR P f){next:Act->World->Prop}{Q:Exit->Act->World->Prop}
  (u:Calls P f (c.args.map a.eval++caps) w (λe H=>∃ v,e=.returned v/\next (a.put o.dst v) H)):o.wp P a w next Q:=by
 unfold Oper.wp;have y:(execOp a.eval o).run P w=.ok (.enter f (c.args.map a.eval++caps)) w:=by
  have:=I (c.args.map a.eval++caps) w;simp[execOp,z,resolve,M,J,Deferred.ofValue,invoke,this]
 rw[y,Oper.upon_enter];refine u.mono λe H=>?_
 rintro⟨v,rfl,hn⟩;exact hn
theorem ln {p:Bool}:∀ {b:Ty} {x:b.den},b.flat=true->aq p b x=cG p b x
 |.int _,_,_=>rfl
 |.bool,_,_=>rfl
 |.str,_,_=>rfl
 |.unit,_,_=>rfl
 |.hdr,_,_=>rfl
 |.pair a b,x,h=>by
  simp only[Ty.flat,BI]at h;simp only[aq,cG,ln h.1,ln h.2]
 |.list _ _ _,_,h=>by simp[Ty.flat]at h
theorem rE (hV:ax V){W:Wit}{a:Act}{w:World}(h:an P V W st a w):∀ (J:List Ty) (xs:List (aI×List Leaf)) (X:List Value) (x:Tup J),gU P V W st w xs X->iL st J xs=some x ->
  sd w (λk=>k<w.heap.size) J x X
 |[],[],X,_,hx,_=>hx
 |[],_::_,_,_,_,u=>by simp[iL]at u
 |_::_,[],_,_,_,u=>by simp[iL]at u
 |b::J,x::xs,X,z,⟨v,O,cs,e,hs,Z,I⟩,u=>by
  subst e;simp only[iL]at u;cases M:decide (x.1=bg b.isAgg) with
  |false=>simp[M]at u
  |true =>
   simp only[M,cond_true]at u;have M:=of_decide_eq_true M;rw[M]at hs;split at u
   ·rename_i p y hy;simp only[BH]at u;obtain⟨t,ht,rfl⟩:=u;have Y:=eE h Z hy;refine⟨v,cs,O,rfl,gz hs,Y.mono (λk H=>?_),rE hV h J xs O t I ht⟩;rcases H with (H|⟨_,H⟩)|⟨z,hz,H⟩
    ·exact (h.nwlt k H).1
    ·exact CQ (hV.ro k H).1 h.size
    ·obtain⟨l,h1,h2⟩:=eh Z hz;exact h.own_lt h1 h2 k H
   ·cases u
theorem yd (hV:ax V)(hΓ:∀ c∈Γ,bN P c)(M:bL V o){c:Call}{f:Operand}(Y:o.op=.call c)(hc:c.callee=.value f)
  (h:act Γ T o st κ=some r):bV P V o st κ r:=by
 simp only[act,wrU,Y,hc]at h;split at h
 ·cases h
 ·rename_i d X;split at h
  ·rename_i g H Z;obtain⟨he,U,hU,z⟩:=vn hV hΓ (M d X).1 (M d X).2 h;refine⟨U,hU,λW a w I next Q hn=>?_⟩;obtain⟨J,_,_,_,_⟩:=br I f (by rw[Z];simp);rw[Z]at J;have O:=nq (nV I c.args.toList) (sn (qa (P:=P) (V:=V) (W:=W) (w:=w) H J.2));rw[DM]at O;have:=z W a w I _ O;have e:(c.args.toList.map a.eval++H.map λb=>Value.pointer (some ⟨W.β b,0,none⟩)).toArray=c.args.map a.eval++(H.map λb=>Value.pointer (some ⟨W.β b,0,none⟩)).toArray:=by
    apply Dh;simp
   rw[e]at this;refine qL Y hc J.1 he (this.mono λe w'=>?_);rintro⟨v,rfl,hrel⟩;refine⟨v,rfl,hn _ _ ?_⟩;rw[X];exact hrel
  ·rename_i g H Z;obtain⟨he,U,hU,z⟩:=vn hV hΓ (M d X).1 (M d X).2 h;refine⟨U,hU,λW a w I next Q hn=>?_⟩;obtain⟨J,_,_,_,_⟩:=br I f (by rw[Z];simp);rw[Z]at J;obtain⟨us,J,a1,a2⟩:=J;have O:=nq (nV I c.args.toList) (sn (qJ (st:=st) a1 a2));rw[DM]at O;have:=z W a w I _ O;have e:(c.args.toList.map a.eval++us).toArray=c.args.map a.eval++us.toArray:=by
    apply Dh;simp
   rw[e]at this;refine qL Y hc J he (this.mono λe w'=>?_);rintro⟨v,rfl,hrel⟩;refine⟨v,rfl,hn _ _ ?_⟩;rw[X];exact hrel
  ·rename_i As B φ Z;cases hb:B.flat with
   |false=>simp[hb]at h
   |true =>
    simp only[hb,cond_true]at h;split at h
    ·rename_i x hx;obtain⟨y,hy,h⟩:=CD.1 h;simp only[X]at h;refine⟨_,h,λW a w I next Q hn=>?_⟩;obtain⟨J,_,_,_,_⟩:=br I f (by rw[Z];simp);rw[Z]at J;obtain⟨f',H,J,he,z⟩:=J;have a3:=rE hV I As _ _ x (nV I c.args.toList) hx;have:=z w I.size I.keep x _ y a3 hy;have e:(c.args.toList.map a.eval).toArray=c.args.map a.eval:=by apply Dh;simp
     rw[e]at this;refine qL Y hc J he (this.mono λe w'=>?_);rintro⟨u,cs,rfl,hvo,hrd,hbelow⟩;refine⟨u,rfl,hn _ _ ?_⟩;rw[X];have a4:=I.below hV hbelow;have a0:=e9 (P:=P) (V:=V) (W:=W) (st:=st) (G:=λ_=>False) (p:=false) (λ_ h=>h.elim) hrd;rw[<- ln hb]at a0;exact a4.putLs hV d (M d X).1 (M d X).2 _ _ _ u cs (BS _) (kk hvo) a0
    ·cases h
  ·cases h
theorem Bv (H:ax V)(I:TOk P T)(hΓ:∀ c∈Γ,bN P c)(z:bL V o)(h:act Γ T o st κ=some r):bV P V o st κ r:=by
 cases u:o.op with
 |move x=>exact yt H z u h
 |assign x=>exact vG H z u h
 |pick c x y=>exact yu H z u h
 |alloc t=>exact x6 H I z u h
 |box t x=>exact AF H z u h
 |build t M=>exact wX H I z u h
 |buildSlice t n M=>exact qH H I z u h
 |load t x=>exact yx H I z u h
 |store t x y=>exact x8 H I u h
 |nilCheck x=>exact sH H z u h
 |binOp X t x y Z=>exact wT H I z u h
 |unOp X t x=>exact yw H z u h
 |convert s t x=>exact uG H I z u h
 |makeSlice t n c=>exact rZ H I z u h
 |slice t x Y hi mx=>exact yb H I z u h
 |fieldAddr t x f=>exact rV H I z u h
 |field t x f=>exact wW H I z u h
 |indexAddr t x i=>exact rW H I z u h
 |index t x i=>exact wV H I z u h
 |extract x i=>exact uf H z u h
 |makeFunc fn first O=>exact sI H z u h
 |call c =>
  cases J:c.callee with
  |value f=>exact yd H hΓ z u J h
  |builtin b =>
   cases b with
   |len=>exact zV H I z u J h
   |append=>exact wo H I z u J h
   |min=>exact AG H z u J h
   |max=>exact AH H z u J h
   |_ =>
    simp only[act,wrU,u,J]at h;split at h <;> cases h
  |_ =>
   simp only[act,wrU,u,J]at h;split at h <;> cases h
 |_=>simp[act,wrU,u]at h
end
def cz:Ty->Ty->Bool
 |.pair a b,z=>match z with
  |.pair c d=>cz a c&&cz b d
  |_=>false
 |.list m E e,z=>match z with
  |.list n u r=>decide (E=u)&&(bif n then m&&cz e r else decide (e.sh=r.sh))
  |_=>false
 |a,z=>decide (a=z)
theorem fT:∀ {a b:Ty},cz a b=true->a.sh=b.sh
 |.pair a b,z,h=>by
  cases z with
  |pair c d =>
   simp only[cz,BI]at h;simp only[Ty.sh,fT h.1,fT h.2]
  |_=>simp[cz]at h
 |.list m E e,z,h=>by
  cases z with
  |list n r u =>
   simp only[cz,BI,decide_eq_true_eq]at h;obtain⟨rfl,h⟩:=h;cases n with
   |true =>
    simp only[cond_true,BI]at h;simp only[Ty.sh,fT h.2]
   |false =>
    simp only[cond_false,decide_eq_true_eq]at h;simp only[Ty.sh,h]
  |_=>simp[cz]at h
 |.int _,z,h=>by simp only[cz,decide_eq_true_eq]at h;rw[h]
 |.bool,z,h=>by simp only[cz,decide_eq_true_eq]at h;rw[h]
 |.str,z,h=>by simp only[cz,decide_eq_true_eq]at h;rw[h]
 |.unit,z,h=>by simp only[cz,decide_eq_true_eq]at h;rw[h]
 |.hdr,z,h=>by simp only[cz,decide_eq_true_eq]at h;rw[h]
theorem zu {a b:Ty}(h:cz a b=true):a.isAgg=b.isAgg:=by
 cases a with
 |pair c d=>cases b <;> first|rfl|(simp[cz]at h)
 |list m E e=>cases b <;> first|rfl|(simp[cz]at h)
 |_=>simp only[cz,decide_eq_true_eq]at h;rw[h]
theorem oy {f g h:Nat->List Nat}{k:Nat}:∀ {l:List Nat},(∀ j∈l,(f j).count k=(g j).count k+(h j).count k)->(l.flatMap f).count k=(l.flatMap g).count k+(l.flatMap h).count k
 |[],_=>rfl
 |a::l,H=>by
  have u:=H a (B5 ..);have y:=oy (l:=l) (λj r=>H j (BV _ r));simp only[CU,BL];omega
theorem Mx.thin {w:World}{G:Nat->Prop}:∀ {a b:Ty} {pos:Nat} {x:a.den} {y:b.den} {cs:List Value} {bs:List Nat},cz a b=true->HEq x y->Mx w G a none pos x cs bs ->
  ∃ b1 b2:List Nat,(∀ k,bs.count k=b1.count k+b2.count k)/\Mx w (λk=>G k\/k∈b2) b none pos y cs b1
 |.pair a b,z,pos,x,y,cs,bs,h,r,H=>by
  cases z with
  |pair c d =>
   simp only[cz,BI]at h;obtain⟨c1,c2,ba,bb,rfl,rfl,h1,h2⟩:=H;obtain⟨h3,h4⟩:=sw (jA (fT h.1)) (jA (fT h.2)) r;obtain⟨p1,p2,Y,X⟩:=Mx.thin h.1 h3 h1;obtain⟨r1,r2,s1,s2⟩:=Mx.thin h.2 h4 h2;refine⟨p1++r1,p2++r2,λk=>?_,c1,c2,p1,r1,rfl,rfl,X.mono (λk J=>J.imp id (BP _)),?_⟩
   ·have:=Y k;have:=s1 k;simp only[BL];omega
   ·have:=s2.mono (G':=λk=>G k\/k∈p2++r2) (λk J=>J.imp id (BK _))
    rwa [ig (fT h.1)]at this
  |_=>simp[cz]at h
 |.list m E e,z,pos,xs,R,cs,bs,h,r,H=>by
  have a0:=fT h;cases z with
  |list n E' e' =>
   simp only[cz,BI,decide_eq_true_eq]at h;obtain⟨rfl,h⟩:=h;cases n with
   |true =>
    simp only[cond_true,BI]at h;obtain⟨rfl,h⟩:=h;rw[bH (by simp)]at H;obtain⟨v,rfl,I,a2,h1,h2,h3⟩:=H;obtain⟨h4,h5⟩:=sx (jA (fT h)) r;have a1:∀ j,∃ q:List Nat×List Nat,j<R.length->(∀ k,(a2 j).count k=q.1.count k+q.2.count k) /\
      ∀ y,R[j]?=some y->∃ c,Mx w (λk=>G k\/k∈q.2) e' none 0 y c q.1/\∀ i u,c[i]?=some u->I[j*e'.cells+i]?=some u:=by
     intro j;by_cases M:j<R.length
     ·have Z:=BZ M;obtain⟨x,hx,r⟩:=h5 j _ Z;obtain⟨c,hm,hc⟩:=h3 j x hx;obtain⟨b1,b2,Y,X⟩:=Mx.thin h r hm;refine⟨(b1,b2),λ_=>⟨Y,λy O=>⟨c,?_,λi u hi=>?_⟩⟩⟩
      ·rw[Z]at O;simp only[BG]at O;subst O;exact X
      ·rw[<- ig (fT h)];exact hc i u hi
     ·exact⟨([],[]),λh=>absurd h M⟩
    obtain⟨f,hf⟩:=Classical.skolem.1 a1;refine⟨v.ownBlock.toList++(BU R.length).flatMap (λj=>(f j).1),(BU R.length).flatMap (λj=>(f j).2),λk=>?_,?_⟩
    ·rw[h2,BL,BL,h4,oy (g:=λj=>(f j).1) (h:=λj=>(f j).2) (λj M=>(hf j (C7.1 M)).1 k)];omega
    ·rw[bH (by simp)];refine⟨v,rfl,I,λj=>(f j).1,by rw[<- h4,<- ig (fT h)];exact h1,rfl,λj y O=>?_⟩;have M:=(BJ.1 O).1;obtain⟨c,Y,X⟩:=(hf j M).2 y O;exact⟨c,Y.mono (λk J=>J.imp id (λJ=>dQ.2 ⟨j,M,J⟩)),X⟩
   |false =>
    refine⟨[],bs,λk=>by simp,?_⟩;rw[cm];exact⟨rfl,Rd.flags a0 r (Mx.rd (S:=λk=>G k\/k∈bs) (λ_=>.inl) (λ_=>.inr) H)⟩
  |_=>simp[cz]at h
 |.int _,z,pos,x,y,cs,bs,h,r,H=>by
  simp only[cz,decide_eq_true_eq]at h;subst h;cases r;exact⟨bs,[],λk=>by simp,H.mono (λ_=>.inl)⟩
 |.bool,z,pos,x,y,cs,bs,h,r,H=>by
  simp only[cz,decide_eq_true_eq]at h;subst h;cases r;exact⟨bs,[],λk=>by simp,H.mono (λ_=>.inl)⟩
 |.str,z,pos,x,y,cs,bs,h,r,H=>by
  simp only[cz,decide_eq_true_eq]at h;subst h;cases r;exact⟨bs,[],λk=>by simp,H.mono (λ_=>.inl)⟩
 |.unit,z,pos,x,y,cs,bs,h,r,H=>by
  simp only[cz,decide_eq_true_eq]at h;subst h;cases r;exact⟨bs,[],λk=>by simp,H.mono (λ_=>.inl)⟩
 |.hdr,z,pos,x,y,cs,bs,h,r,H=>by
  simp only[cz,decide_eq_true_eq]at h;subst h;cases r;exact⟨bs,[],λk=>by simp,H.mono (λ_=>.inl)⟩
theorem jx.mono {w:World}{G G':Nat->Prop}(z:∀ k,G k->G' k){a:Ty}{x:a.den}{ptr:Bool}{v:Value}{bs:List Nat}(h:jx w G a x ptr v bs):jx w G' a x ptr v bs:=by
 unfold jx at h ⊢;split at h
 ·rename_i y;rw[if_pos y];obtain⟨g,c,E,H,r,u,I,M⟩:=h;exact⟨g,c,E,H,r,u,I.mono z,M⟩
 ·rename_i y;rw[if_neg y];obtain⟨J,r,u⟩:=h;exact⟨J,r,u.mono z⟩
theorem bJ.mono {w:World}{G G':Nat->Prop}(y:∀ k,G k->G' k):∀ {ps:List PK} {o:ah ps} {z:List Value} {bs:List (List Nat)},bJ w G ps o z bs->bJ w G' ps o z bs
 |.io _::_,_,_::_,_::_,⟨r,u⟩=>⟨r.mono y,bJ.mono y u⟩
 |.iop _::_,_,_::_,_::_,⟨r,u⟩=>⟨r.mono y,bJ.mono y u⟩
 |.rd _::_,_,_::_,_::_,⟨r,u⟩=>⟨r,bJ.mono y u⟩
 |.own _::_,_,_::_,_::_,⟨r,u⟩=>⟨r,bJ.mono y u⟩
 |.rref _::_,_,_::_,_::_,⟨r,u⟩=>⟨r,bJ.mono y u⟩
 |.rref2 _::_,_,_::_,_::_,⟨r,u⟩=>⟨r,bJ.mono y u⟩
 |.fn _ _::_,_,_::_,_::_,⟨r,u⟩=>⟨r,bJ.mono y u⟩
 |.clo _ _::_,_,_::_,_::_,⟨r,u⟩=>⟨r,bJ.mono y u⟩
 |.hol _ _ _::_,_,_::_,_::_,⟨r,u⟩=>⟨r,bJ.mono y u⟩
 |[],_,[],[],_=>trivial
 |[],_,_::_,_,h=>by simp[bJ]at h
 |[],_,[],_::_,h=>by simp[bJ]at h
 |p::_,_,[],_,h=>by cases p <;> exact h.elim
 |p::_,_,_::_,[],h=>by cases p <;> exact h.elim
theorem p8.mono {w:World}{G G' ro ro':Nat->Prop}(I:∀ k,G k->G' k)(R:∀ k,G k\/ro k->G' k\/ro' k):∀ {r:RK} {y:r.den} {v:Value} {bs:List Nat},p8 w G ro r y v bs->p8 w G' ro' r y v bs
 |.v _,_,_,_,⟨H,u,z⟩=>⟨H,u,z.mono I⟩
 |.bv _,_,_,_,⟨e,H,u,z⟩=>⟨e,H,u,z.mono R⟩
 |.box _,_,_,_,⟨g,c,E,J,u,z,M,O⟩=>⟨g,c,E,J,u,z,M.mono I,O⟩
theorem gy.mono {w:World}{G G' ro ro':Nat->Prop}(J:∀ k,G k->G' k)(M:∀ k,G k\/ro k->G' k\/ro' k):∀ {I:List RK} {y:ai I} {us:List Value} {z:List (List Nat)},gy w G ro I y us z->gy w G' ro' I y us z
 |[],_,_,_,h=>h
 |_::_,_,_,_,⟨u,H,b,r,Y,X,O,R⟩=>⟨u,H,b,r,Y,X,O.mono J M,gy.mono J M R⟩
theorem bN.thin {P:Program}{f:FuncId}{a a':Ty}{ps:List PK}{rs:List RK}{fr:Bool}{b4:ab (.own a::ps)->Option (ai rs×ah (.own a::ps))}{X:ab (.own a'::ps)->Option (ai rs×ah (.own a'::ps))}
  (h:bN P ⟨f,.own a::ps,rs,fr,b4⟩) (ht:cz a' a=true) (cv:a'.den->a.den) (bn:∀ x,HEq x (cv x)) (hd:∀ x,X x=b4 (cv x.1,x.2)):bN P ⟨f,.own a'::ps,rs,fr,X⟩:=by
 refine⟨h.1,λw ro x vs c3 y a2 b9 a3 hy=>?_⟩;obtain⟨x1,xr⟩:=x;obtain⟨v,a5,b,u,rfl,rfl,⟨cs,c0,hm⟩,a0⟩:=a2;obtain⟨M,Y,O,ba⟩:=Mx.thin ht (bn x1) hm;have Z:=hm.lt;rw[bt]at a3;have R:∀ k,M.count k+Y.count k+u.flatten.count k<=1:=λk=>by
  have:=a3 k;rw[B6,BL,O k]at this;exact this
 have hb:∀ k,k∈b<->k∈M\/k∈Y:=λk=>by
  rw[<- BQ,<- BQ,<- BQ,O k];omega
 have H:∀ k,k∈(M::u).flatten->k∈(b::u).flatten:=λk r=>by
  rw[B6,BR]at r ⊢;exact r.imp (λh=>(hb k).2 (.inl h)) id
 have ad:∀ k,k∈Y->k∉(M::u).flatten:=λk r z=>by
  have h1:=R k;have h2:=BQ.2 r;have h3:=BQ.2 z;rw[B6,BL]at h3;omega
 have a9:∀ k,k∈Y->k∈(b::u).flatten:=λk r=>by
  rw[B6,BR];exact .inl ((hb k).2 (.inr r))
 have J:c8 P w (λk=>ro k\/k∈Y) (λk=>k<w.heap.size/\k∉(M::u).flatten) (.own a::ps) (cv x1,xr) (v::a5) (M::u) :=
  ⟨v,a5,M,u,rfl,rfl,⟨cs,by rw[<- zu ht];exact c0,ba⟩,a0.mono (λ_=>.inl) (λk r=>⟨r.1,λh=>r.2 (H k h)⟩)⟩
 refine (h.2 w _ _ _ _ y J (λk r=>?_) ?_ (by rw[<- hy];exact (hd (x1,xr)).symm)).mono λe w' hp=>?_
 ·rcases r with r|r
  ·exact⟨(b9 k r).1,λh=>(b9 k r).2 (H k h)⟩
  ·exact⟨Z k ((hb k).2 (.inr r)),ad k r⟩
 ·rw[bt];intro k;have:=R k;show ((M::u).flatten).count k<=1;rw[B6,BL];omega
 ·obtain⟨v',us,N,a1,bb,h1,a4,b5,c2,bx,c1,bl,hN,hO,a6,b0,I⟩:=hp;have hG:∀ k,(N k\/fr=false/\(ro k\/k∈Y))->((N k\/k∈Y)\/fr=false/\ro k):=λk r=>by
   rcases r with r|⟨r,z|z⟩
   ·exact .inl (.inl r)
   ·exact .inr ⟨r,z⟩
   ·exact .inl (.inr z)
  refine⟨v',us,λk=>N k\/k∈Y,a1,bb,h1,a4,b5,c2,bx,c1,λk r hn=>bl k r (λh=>hn (H k h)),λk r=>?_,?_,?_,b0,λk r=>?_⟩
  ·rcases r with r|r
   ·exact⟨(hN k r).1,(hN k r).2.imp id (H k)⟩
   ·exact⟨CQ (Z k ((hb k).2 (.inr r))) b5,.inr (a9 k r)⟩
  ·match a1,hO with
   |b3::a1,hO=>exact⟨hO.1,bJ.mono hG hO.2⟩
   |[],hO=>exact hO.elim
  ·refine gy.mono hG (λk r=>?_) a6;rcases r with r|r|r
   ·exact .inl (hG k r)
   ·exact .inr r
   ·exact .inl (.inl (.inr r))
  ·obtain⟨h5,h6⟩:=I k r;refine⟨⟨h5.1,h5.2.imp id (H k)⟩,λh=>h.elim h6 (λh=>?_)⟩;rcases h5.2 with h7|h7
   ·have:=Z k ((hb k).2 (.inr h));omega
   ·exact ad k h h7
end Go.Proofs.YtaegajachoklkabGreatEv
