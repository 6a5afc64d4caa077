/- One operation: boxes made, boxes written. -/
import Derived.Test.YtaegajachoklkaaGreatE0
import Derived.Deep.MidRow
import Derived.Great.FillDense
set_option linter.unusedVariables false
set_option linter.unusedSimpArgs false
open Array renaming toArray_toList->CQ,length_toList->CU,getElem?_toList->DJ,toList_append->DQ,size_append->DY,toList_map->Dh,ext'->Dv
open Bool renaming and_eq_true->BW,not_eq_true'->CL,or_eq_false_iff->DO,or_eq_true->Dq
open Go.Addr.mk renaming injEq->C6
open Go.Builtin renaming append_->CV,firstCells->C0,lenOf->C7,zeroCells->Dd
open Go.Instr renaming sliceBounds->Db,storeAt->Dx
open Go.Result renaming andThen_ok->C4
open Go.Sem renaming run_bind->DX
open Go.Value renaming ownBlock->CP
open Go.Value.slice renaming injEq->CT
open Go.World renaming setCells->DK,alloc_eq->DN,drew_eq->DR,freeze->DZ,alloc->Dl,drew->Dt
open Iff renaming rfl->C3
open Int renaming toNat_natCast->DW
open List renaming getElem?_eq_some_iff->BX,mem_append_right->BY,count_append->BZ,getElem?_append_right->B3,getElem?_append_left->B4,mem_append_left->B6,count_pos_iff->B7,mem_append->B8,range->CB,mem_cons_of_mem->CC,append_assoc->CD,length_append->CF,getElem?_eq_getElem->CG,eq_nil_of_length_eq_zero->CI,mem_cons_self->CJ,flatten_cons->CK,count_eq_zero->CM,append_nil->CN,length_take->CO,any_eq_false->CS,getElem?_take->CY,getD_eq_getElem?_getD->CZ,nodup_append->Cb,replicate->Cd,nodup_cons->Cf,length_set->Cg,flatMap_cons->Ci,getElem?_set_ne->Cj,mem_cons->Cm,getElem?_drop->Cn,getElem?_cons_zero->Co,getElem?_replicate->Cp,size_toArray->Cq,getElem?_set_self->Cr,any_cons->Cu,length_nil->Cv,length_map->Cw,length_drop->C8,length_cons->C9,mem_map->DE,count_cons->DF,singleton_append->DH,length_replicate->DI,mem_range->DL,all_cons->DS,map_nil->DV,map_map->Da,isEmpty_iff->De,flatMap_map->Df,cons_append->Di,length->Dm,map_append->Dn,nil_append->Dr,nodup_nil->Ds,take_left->Du,map_cons->Dy
open List.cons renaming injEq->Cx
open Nat renaming eq_of_beq_eq_true->B5,lt_succ_self->B9,mul_le_mul_right->CA,beq->CE,le_refl->CH,succ_mul->CW,add_zero->Ca,le_trans->Cc,lt_of_lt_of_le->Ce,le_of_ble_eq_true->Ch,zero_add->Cl,ble_eq_true_of_le->Cs,le_add_right->Ct,mul_le_mul_left->Cy,blt_eq->Cz,add_mul->C5,le_of_eq->DA,ble->DB,mul_comm->DC,sub_zero->DD,mul_one->DM,blt->DP,eq_zero_or_pos->DU,zero_mul->Dc,mod_eq_of_lt->Dg,le_succ->Dj,zero_le->Dk,mul_add_mod->Do,add_assoc->Dw
open Ne renaming symm->Ck
open Option renaming map_eq_some_iff->BV,bind_eq_some_iff->CR,map_none->DG,toList_some->DT,map_some->Dp
open Option.some renaming injEq->BU
open Prod renaming ext->Dz
open Prod.mk renaming injEq->CX
namespace Go.Proofs.YtaegajachoklkaaGreatEv
open Go Go.RowKit
section
variable {P:Program} {V:Env} {Γ:List Ctr} {T:TypeId->TI} {st:St} {o:Oper} {R:Type} {κ:Upd->Option R} {r:R}
theorem nj {q u:Nat}(h:q≠u)(c y:bV)(st:St):ac [(q,c)] (ac [(u,y)] st)=ac [(u,y)] (ac [(q,c)] st):=by
 funext k;rcases aj q k c (ac [(u,y)] st) with ⟨rfl,e⟩|⟨H,e⟩
 ·rw[e,aJ h,br]
 ·rw[e];rcases aj u k y st with ⟨rfl,z⟩|⟨I,z⟩
  ·rw[z,br]
  ·rw[z,aJ I,aJ H]
theorem an.boxed (hV:ax V){W:Wit}{a:Act}{w:World}(h:an P V W st a w)(d:Nat)(hd:d<V.nt)(M:∀ x∈V.fixt,x.1≠d)(X:(st (B0+d)).sh=.off)(ls:List Leaf)
  (y:List Value) (z:Nat->List Nat) (E:TypeId)
  (hl:ls.length=y.length) (h1:∀ u∈y,u.oneCell'=true)
  (H:∀ (j:Nat) (l:Leaf) (u:Value),ls[j]?=some l->y[j]?=some u->aK P V W st w (z j) l u)
  (J:∀ (j:Nat) (l:Leaf),ls[j]?=some l->am l->∀ k∈z j,¬ W.nw k/\¬ V.prot k/\k<w.heap.size/\(∀ b,live st b->W.β b≠k) /\
   ∀ (Z j1:Nat) (Y:Leaf),(st Z).ls[j1]?=some Y->am Y->k∉W.bs Z j1)
  (O:∀ (j j':Nat) (l l':Leaf),ls[j]?=some l->am l->ls[j']?=some l'->am l'->∀ k,k∈z j->k∈z j'->j=j') :
  Rel P V (ac ((B0+d,⟨(st (B0+d)).ver+1,.agg,ls⟩)::[(d,⟨(st d).ver+1,.one,[.bp (B0+d) 0]⟩)]) st) (a.put (some d) (.pointer (some ⟨w.heap.size,0,none⟩))) (w.alloc (.cells y.toArray E)):=by
 have I:B0+d≠d:=by simp[B0]
 have a0:¬ live st (B0+d):=by simp[live,X]
 have h2:=h.setBox hV (B0+d) (Ct _ _) ((st (B0+d)).ver+1) ls y z w.heap.size E (w':=w.alloc (.cells y.toArray E)) (B9 _) (.inr ⟨a0,CH _⟩)
  (heap_alloc_new w _) (λk hk _=>Go.heap_alloc_old w _ hk) (by simp) rfl rfl rfl hl h1 H (λj l hj ho k hk=>by
   obtain⟨h3,h4,h5,h6,h7⟩:=J j l hj ho k hk;exact⟨h3,h4,h5,h6,λZ j1 Y _=>h7 Z j1 Y⟩) O
 rw[aR,nj I];refine h2.putLs hV d hd M _ .one [.bp (B0+d) 0] _ [.pointer (some ⟨w.heap.size,0,none⟩)] ?_ rfl ⟨⟨⟨Ct _ _,by rw[br],by simp⟩,id,rfl⟩,trivial⟩;rw[aJ (Ck I)];omega
theorem uF {t:TypeId}(I:TOk P T)(H:(T t).cells≠0)(w:World):∃ z y,(zeroValue t).run P w=.ok z w/\z.cells=y.toArray/\∀ (V:Env) (W:Wit) (st:St),aD P V W st w (T t).zero y:=by
 have h:=I t;cases u:T t with
 |none=>rw[u]at H;exact absurd rfl H
 |int k=>rw[u]at h;exact⟨_,[.int k 0],gz h.2.2 w,rfl,λV W st=>⟨⟨rfl,id,rfl⟩,trivial⟩⟩
 |bool=>rw[u]at h;exact⟨_,[.bool false],gz h.2.2 w,rfl,λV W st=>⟨⟨rfl,id,rfl⟩,trivial⟩⟩
 |str=>rw[u]at h;exact⟨_,[.string ByteArray.empty],gz h.2.2 w,rfl,λV W st=>⟨⟨rfl,id,rfl⟩,trivial⟩⟩
 |slice E e b=>rw[u]at h;exact⟨_,[.slice none 0 0],gz h.2.2.1 w,rfl,λV W st=>⟨⟨rfl,id,rfl⟩,trivial⟩⟩
 |struct a J=>rw[u]at h;exact⟨_,zeroCells a,gz h.2.2.1 w,rfl,λV W st=>lJ a⟩
 |arr e n=>rw[u]at h;exact⟨_,(Cd n (zeroCells e)).flatten,gz h.2.2.2 w,rfl,λV W st=>oV e n⟩
 |ptr=>rw[u]at h;exact⟨_,[.pointer none],gz h.2.2 w,rfl,λV W st=>⟨⟨trivial,id,rfl⟩,trivial⟩⟩
 |fn=>rw[u]at h;exact⟨_,[.nilFunc],gz h.2.2 w,rfl,λV W st=>⟨⟨trivial,id,rfl⟩,trivial⟩⟩
theorem yk (hV:ax V)(hT:TOk P T)(H:bR V o){t:TypeId}(y:o.op=.alloc t)(h:act Γ T o st κ=some r):bZ P V o st κ r:=by
 simp only[act,y]at h;split at h
 ·rename_i d O;cases I:decide ((st (B0+d)).sh=.off)&&!decide ((T t).cells=0) with
  |false=>simp[I]at h
  |true =>
   simp only[I]at h;simp at I;refine⟨_,h,λW a w hr next Q hn=>?_⟩;obtain⟨z,X,hz,Z,J⟩:=uF hT I.2 w;have J:=J V W st;refine d7 (v:=.pointer (some ⟨w.heap.size,0,none⟩)) (w':=w.alloc (.cells X.toArray t)) ?_ ?_
   ·simp[execOp,y,Instr.alloc,hz,newVar,newRow,Z]
   ·rw[O];refine hn _ _ ?_;exact hr.boxed hV d (H d O).1 (H d O).2 I.1 _ X (λ_=>[]) t J.length J.one' (λj l u Y h2=>(J.at_ j l u Y h2).1) (λ_ _ _ _ k M=>by simp at M) (λ_ _ _ _ _ _ _ _ k M=>by simp at M)
 ·grind
theorem AS (hV:ax V)(I:bR V o){t:TypeId}{x:Operand}(Y:o.op=.box t x)(h:act Γ T o st κ=some r):bZ P V o st κ r:=by
 simp only[act,Y]at h;split at h
 ·rename_i d O;cases hb:decide ((st (B0+d)).sh=.off)&&decide ((au st x).2.length=(T t).cells)&&decide ((au st x).1=bq (T t).agg)&&ik st (au st x).2 with
  |false=>simp[hb]at h
  |true =>
   simp only[hb]at h;simp at hb;obtain⟨⟨⟨Z,a2⟩,a1⟩,a0⟩:=hb;have J:∀ (W:Wit) (a:Act) (w:World) (H:List Value),er (au st x).1 (a.eval x) H->aD P V W st w (au st x).2 H ->
     (execOp a.eval o).run P w=.ok (.value (.pointer (some ⟨w.heap.size,0,none⟩))) (w.alloc (.cells H.toArray t)):=by
    intro W a w H M z;rw[a1]at M;have hc:=hY M z.one';simp[execOp,Y,Instr.box,newVar,newRow,hc]
   cases y:sA st x with
   |true =>
    rw[y]at h;refine⟨_,h,λW a w X next Q hn=>?_⟩;obtain⟨H,M,z⟩:=cX X x;refine d7 (J W a w H M z) ?_;rw[O];refine hn _ _ ?_;exact X.boxed hV d (I d O).1 (I d O).2 Z _ H (λ_=>[]) t z.length z.one' (λj l u h1 h2=>(z.at_ j l u h1 h2).1) (λ_ _ _ _ k hk=>by simp at hk) (λ_ _ _ _ _ _ _ _ k hk=>by simp at hk)
   |false =>
    rw[y]at h;refine⟨_,h,λW a w X next Q hn=>?_⟩;obtain⟨H,M,z⟩:=cX X x;obtain⟨h1,h2,h3,h4,h5⟩:=oT hV X z a0;have h6:=zW hV X z a0;refine d7 (J W a w H M z) ?_;rw[O];refine hn _ _ ?_;have:=h1.boxed hV d (I d O).1 (I d O).2 (by rw[(h6 _).1];exact Z) _ H (dv W (au st x).2) t h2 z.one' h3 h4 h5;exact this
 ·grind
theorem jX (b:Nat)(E:TypeId):∀ (u:List Value) (k o:Nat) (w:World) (cur:Array Value) {mk:Nat×Nat},w.heap[b]?=some (.cells cur E mk) ->
  (w.setCells b (o+k) u).heap[b]?=some (.cells ((u.zipIdx k).foldl (λy (x:Value×Nat)=>y.setIfInBounds (o+x.2) x.1) cur) E mk)
 |[],_,_,_,_,_,h=>h
 |v::u,k,o,w,cur,mk,h=>by
  have:=jX b E u (k+1) o (w.setCell ⟨b,o+k,none⟩ v) _ (by rw[setCell_eq_setRow w b (o+k) cur E mk v h];exact setRow_heap w b cur _ E mk h);simpa[DK,Dw]using this
theorem eY (b:Nat):∀ (u:List Value) (o:Nat) (w:World) (k:Nat),k≠b->(w.setCells b o u).heap[k]?=w.heap[k]?
 |[],_,_,_,_=>rfl
 |v::u,o,w,k,h=>by
  rw[DK,eY b u (o+1) _ k h];exact heap_setCell_other w ⟨b,o,none⟩ k v h
theorem jY (b:Nat):∀ (u:List Value) (o:Nat) (w:World),(w.setCells b o u).os=w.os/\(w.setCells b o u).tape=w.tape/\(w.setCells b o u).output=w.output/\(w.setCells b o u).heap.size=w.heap.size
 |[],_,_=>⟨rfl,rfl,rfl,rfl⟩
 |v::u,o,w=>by
  obtain⟨y,z,I,H⟩:=jY b u (o+1) (w.setCell ⟨b,o,none⟩ v);exact⟨y,z,I,by rw[DK,H];simp⟩
theorem nk {t:TypeId}{n:Nat}(H:bU P t n){w:World}{b off:Nat}{cur:List Value}{E:TypeId}{mk:Nat×Nat}(J:w.heap[b]?=some (.cells cur.toArray E mk))(I:mk.2=0\/cur.length<=mk.1){v:Value}{cs:List Value}
  (Z:v.cells=cs.toArray) (Y:cs.length=n) (M:∀ u∈cs,u.oneCell'=true) (a0:off+cs.length<=cur.length) :
  (Dx t (.pointer (some ⟨b,off,none⟩)) v).run P w=.ok () (w.setCells b off cs):=by
 have y:∀ j,j<cs.length->(w.cell? ⟨b,off+j,none⟩).isSome=true:=by
  intro j z;rw[cell_of_row w b _ _ E mk J]
  grind
 have O:=run_storeCells_cells (P:=P) b off cs 0 w (λj z=>y j z) (λj z=>rh J (by simpa using I) (by simp;omega)) M;have X:=dy H w;simp[Dx,Instr.sureAddr,storeVar,X,Z,Y,O]
theorem tG (hV:ax V)(hT:TOk P T){t:TypeId}{x y:Operand}{b off:Nat}(b0:o.op=.store t x y)(hd:o.dst=none)(hx:one st x=.bp b off)
  (c1:(au st y).2.length=(T t).cells) (b3:(au st y).1=bq (T t).agg) (a8:(T t).cells≠0) (a7:(st b).sh=.agg) (c0:off+(au st y).2.length<=(st b).ls.length) (a3:ik st (au st y).2=true)
  {W:Wit} {a:Act} {w:World} (hr:an P V W st a w) :
  mQ P V o st ((b,⟨(ac (mvU st (au st y).2) st b).ver+1,.agg,jI (ac (mvU st (au st y).2) st b).ls (dP st (au st y).2) off⟩)::mvU st (au st y).2) a w:=by
 intro next Q hn;obtain⟨I,hs,hl⟩:=cX hr y;rw[b3]at hs;have hc:=hY hs hl.one';obtain⟨h1,h2,h3,h4,h5⟩:=oT hV hr hl a3;have h6:=zW hV hr hl a3;obtain⟨hp,_,_,_⟩:=bz hr x (by rw[hx];simp);rw[hx]at hp;obtain⟨hB,_,hv⟩:=hp;have b9:T t≠.none:=by intro e;rw[e]at a8;exact a8 rfl
 rcases hr.boxes b hB with ⟨h8,_⟩|⟨_,E,h8⟩
 ·rw[a7]at h8;cases h8
 ·have bl:=hl.length;have c2:=hr.len b;have bx:(ac (mvU st (au st y).2) st b).ls.length=(W.cs b).length:=h1.len b;have ad:off+I.length<=(W.cs b).length:=by omega
  have a9:=nk (oU (hT t) b9) h8 (.inl rfl) hc (by omega) hl.one' ad;refine pI (w':=w.setCells (W.β b) off I) (by simp[execOp,b0,hv,a9]) ?_;rw[hd];refine hn _ _ ?_;rw[aR];obtain⟨e1,e2,e3,e4⟩:=jY (W.β b) I off w;have a0:=jX (W.β b) E I 0 off w _ h8;rw[lf (W.cs b) I off ad]at a0;simp only[Ca]at a0;have b4:live (ac (mvU st (au st y).2) st) b:=⟨hB,by rw[(h6 b).1];exact a7⟩;have b1:(dP st (au st y).2).length=I.length:=h2;have M:∀ (j:Nat) (l:Leaf),(jI (ac (mvU st (au st y).2) st b).ls (dP st (au st y).2) off)[j]?=some l ->
    (off<=j/\j<off+I.length/\(dP st (au st y).2)[j-off]?=some l)\/((j<off\/off+I.length<=j)/\(ac (mvU st (au st y).2) st b).ls[j]?=some l):=by
   intro j l hj;unfold jI at hj;rw[b1]at hj;by_cases Z:j<off
   ·rw[CD,B4 (by simp;omega),CY,if_pos Z]at hj;exact .inr ⟨.inl Z,hj⟩
   ·by_cases J:j<off+I.length
    ·rw[CD,B3 (by simp;omega),B4 (by simp;omega)]at hj;refine .inl ⟨by omega,J,?_⟩;rw[<- hj];congr 1;simp;omega
    ·rw[B3 (by simp;omega),Cn]at hj;refine .inr ⟨.inr (by omega),?_⟩;rw[<- hj];congr 1;simp;omega
  have a1:∀ (j:Nat),((W.cs b).take off++I++(W.cs b).drop (off+I.length))[j]?=if off<=j/\j<off+I.length then I[j-off]? else (W.cs b)[j]?:=by
   intro j;by_cases Z:j<off
   ·rw[CD,B4 (by simp;omega),CY,if_pos Z,if_neg (by omega)]
   ·by_cases J:j<off+I.length
    ·rw[CD,B3 (by simp;omega),B4 (by simp;omega),if_pos ⟨by omega,J⟩];congr 1;simp;omega
    ·rw[B3 (by simp;omega),Cn,if_neg (by omega)];congr 1;simp;omega
  refine⟨_,h1.setBox hV b hB _ _ ((W.cs b).take off++I++(W.cs b).drop (off+I.length)) (λj=>if off<=j/\j<off+I.length then dv W (au st y).2 (j-off) else W.bs b j) (W.β b) E
   (B9 _) (.inl ⟨b4,rfl⟩) a0 (λk _ X=>eY (W.β b) I off w k X) (DA e4.symm) e1 e2 e3 ?_ ?_ ?_ ?_ ?_⟩
  ·simp only[jI,CF,CO,C8];omega
  ·intro u hu;simp only[B8]at hu;rcases hu with (hu|hu)|hu
   ·exact hr.one b u (List.mem_of_mem_take hu)
   ·exact hl.one' u hu
   ·exact hr.one b u (List.mem_of_mem_drop hu)
  ·intro j l u hj hu;rw[a1]at hu;rcases M j l hj with ⟨Z,J,H⟩|⟨Z,H⟩
   ·rw[if_pos ⟨Z,J⟩]at hu;simp only[if_pos (⟨Z,J⟩:off<=j/\j<off+I.length)];exact h3 _ l u H hu
   ·have z:¬ (off<=j/\j<off+I.length):=by omega
    rw[if_neg z]at hu;simp only[if_neg z];exact h1.leaf b j l u H hu
  ·intro j l hj ho k X;rcases M j l hj with ⟨Z,J,H⟩|⟨Z,H⟩
   ·simp only[if_pos (⟨Z,J⟩:off<=j/\j<off+I.length)]at X;obtain⟨q1,q2,q3,q4,q5⟩:=h4 _ l H ho k X;exact⟨q1,q2,q3,q4,λr1 j1 l1 _=>q5 r1 j1 l1⟩
   ·have z:¬ (off<=j/\j<off+I.length):=by omega
    simp only[if_neg z]at X;obtain⟨q1,q2,q3⟩:=h1.ownb b j l H ho k X;exact⟨q1,q2,h1.own_lt H ho k X,q3,λr1 j1 l1 bb b2 b5 bn=>bb (h1.sep b j l r1 j1 l1 H ho b2 b5 k X bn).1.symm⟩
  ·intro j j' l l' hj ho ba a2 k X O;rcases M j l hj with ⟨Z,J,H⟩|⟨Z,H⟩ <;> rcases M j' l' ba with ⟨a5,a4,Y⟩|⟨a5,Y⟩
   ·simp only[if_pos (⟨Z,J⟩:off<=j/\j<off+I.length)]at X;simp only[if_pos (⟨a5,a4⟩:off<=j'/\j'<off+I.length)]at O;have:=h5 _ _ l l' H ho Y a2 k X O;omega
   ·have z:¬ (off<=j'/\j'<off+I.length):=by omega
    simp only[if_pos (⟨Z,J⟩:off<=j/\j<off+I.length)]at X;simp only[if_neg z]at O;exact absurd O ((h4 _ l H ho k X).2.2.2.2 b j' l' Y a2)
   ·have z:¬ (off<=j/\j<off+I.length):=by omega
    simp only[if_neg z]at X;simp only[if_pos (⟨a5,a4⟩:off<=j'/\j'<off+I.length)]at O;exact absurd X ((h4 _ l' Y a2 k O).2.2.2.2 b j l H ho)
   ·have z:¬ (off<=j/\j<off+I.length):=by omega
    have a6:¬ (off<=j'/\j'<off+I.length):=by omega
    simp only[if_neg z]at X;simp only[if_neg a6]at O;exact (h1.sep b j l b j' l' H ho Y a2 k X O).2
end
theorem bA {l:List Nat}:l.Nodup<->∀ k,l.count k<=1:=by
 induction l with
 |nil=>simp
 |cons a l z =>
  rw[Cf,z];constructor
  ·rintro⟨r,y⟩ k;rw[DF];by_cases u:a=k
   ·subst u;have:l.count a=0:=CM.2 r;simp[this]
   ·have:=y k;simp[u,this]
  ·intro h;refine⟨λH=>?_,λk=>?_⟩
   ·have r:=h a;have y:0<l.count a:=B7.2 H;rw[DF]at r;simp at r;omega
   ·have:=h k;rw[DF]at this;omega
theorem qe {n:Nat}(r:Nat->List Nat)(k:Nat):((CB n).flatMap r).count k=((CB n).map λj=>(r j).count k).sum:=by
 generalize CB n=l;induction l with
 |nil=>rfl
 |cons a l u=>simp[BZ,u]
theorem kG {n i:Nat}(H:i<n)(r:Nat->List Nat)(b:List Nat)(k:Nat) :
  ((CB n).flatMap λj=>if j=i then b else r j).count k+(r i).count k=((CB n).flatMap r).count k+b.count k:=by
 rw[qe,qe];induction n with
 |zero=>omega
 |succ n z =>
  rw[List.range_succ];simp only[Dn,Dy,DV,List.sum_append,List.sum_cons,List.sum_nil];by_cases u:i=n
  ·subst u;have:(CB i).map (λj=>List.count k (if j=i then b else r j))=(CB i).map λj=>(r j).count k:=by
    refine List.map_congr_left λj y=>?_
    rw[if_neg (by have:=DL.1 y;omega)]
   rw[this,if_pos rfl];omega
  ·have:=z (by omega);rw[if_neg (λe=>u e.symm)];omega
theorem nl {bs bs' K:List Nat}(z:bs.Nodup)(y:K.Nodup)(J:∀ k∈K,k∉bs)(h:∀ k,bs'.count k<=bs.count k+K.count k):bs'.Nodup/\∀ k∈bs',k∈bs\/k∈K:=by
 rw[bA]at z y;refine⟨bA.2 λk=>?_,λk r=>?_⟩
 ·have H:=h k;have I:=z k;have u:=y k;by_cases r:k∈K
  ·have:bs.count k=0:=CM.2 (J k r);omega
  ·have:K.count k=0:=CM.2 r;omega
 ·have H:=h k;have I:0<bs'.count k:=B7.2 r;by_cases u:k∈bs
  ·exact .inl u
  ·have:bs.count k=0:=CM.2 u;exact .inr (B7.1 (by omega))
theorem Mx.pos {w:World}{G:Nat->Prop}:∀ {a:Ty} {pos r:Nat} {x:a.den} {cs:List Value} {bs:List Nat},Mx w G a none pos x cs bs->Mx w G a none r x cs bs
 |.int _,_,_,_,_,_,h=>h
 |.bool,_,_,_,_,_,h=>h
 |.str,_,_,_,_,_,h=>h
 |.unit,_,_,_,_,_,h=>h
 |.hdr,_,_,_,_,_,h=>h
 |.pair _ _,_,_,_,_,_,⟨J,y,M,I,O,R,u,z⟩=>⟨J,y,M,I,O,R,Mx.pos u,Mx.pos z⟩
 |.list m E e,_,_,_,_,_,H=>by
  cases m with
  |false=>rw[cA]at H ⊢;exact H
  |true=>rw[bM (by simp)]at H ⊢;exact H
section
variable {P:Program} {V:Env} {W:Wit} {st:St} {w w':World} {a:Act}
theorem Mx.scalar {G:Nat->Prop}{b:Ty}{hol:Option Nat}{pos:Nat}{x:b.den}{cs:List Value}{S:Nat->Prop}(r:b.flat=true)(h:Rd w S b x cs):Mx w G b hol pos x cs []:=Mx.flat r h
theorem lR (h:an P V W st a w):∀ (b:Ty) (pos:Nat) (ls:List Leaf) (cs:List Value) (t:cP b.den),aD P V W st w ls cs->take st b ls=some t ->
  ∃ J M O,cs=J++M/\ls=O++t.rest/\aD P V W st w O J/\aD P V W st w t.rest M/\Mx w (bu V W t.p t.frz) b none pos t.val J (bc W t.kill) /\
   (∀ x∈t.frz,aC st x)/\(∀ x∈t.kill,aC st x)
 |.pair b c,pos,ls,cs,t,H,z=>by
  simp only[take]at z;split at z
  ·rename_i u hb;split at z
   ·rename_i v hc;simp only[BU]at z;subst z;obtain⟨J,M,O,e1,e2,h1,Y,X,h4,h5⟩:=lR h b pos ls cs u H hb;obtain⟨c3,c4,l2,e3,e4,h6,h7,h8,h9,a0⟩:=lR h c (pos+b.cells) u.rest M v Y hc;refine⟨J++c3,c4,O++l2,by rw[e1,e3,CD],by rw[e2,e4,CD],h1.append h6,h7,⟨J,c3,_,_,rfl,dQ W _ _,?_,?_⟩,?_,?_⟩
    ·refine X.mono λk I=>?_
     rcases I with I|⟨y,hy,I⟩
     ·exact .inl (bX (by intro h;simp[h]) (λ_ h=>h) k I)
     ·exact .inr ⟨y,B6 _ hy,I⟩
    ·refine h8.mono λk I=>?_
     rcases I with I|⟨y,hy,I⟩
     ·exact .inl (bX (by intro h;simp[h]) (λ_ h=>h) k I)
     ·exact .inr ⟨y,BY _ hy,I⟩
    ·intro x R;exact (B8.1 R).elim (h4 x) (h9 x)
    ·intro x R;exact (B8.1 R).elim (h5 x) (a0 x)
   ·cases z
  ·cases z
 |.unit,pos,ls,cs,t,H,z=>by
  simp only[take,BU]at z;subst z;exact⟨[],cs,[],rfl,rfl,trivial,H,⟨rfl,rfl⟩,by simp,by simp⟩
 |.list m E e,pos,ls,cs,t,H,z=>by
  cases ls with
  |nil=>simp[take]at z
  |cons l ls =>
   cases cs with
   |nil=>exact H.elim
   |cons v cs =>
    cases m with
    |false =>
     simp only[take,cond_false]at z;split at z
     ·rename_i p xs ha;simp only[BU]at z;subst z;refine⟨[v],cs,[l],rfl,rfl,⟨H.1,trivial⟩,H.2,cA.2 ⟨rfl,kQ h H.1.1 H.1.2.1 ha⟩,λx R=>ez (cs:=[v]) (ls:=[l]) ⟨H.1,trivial⟩ R,by simp⟩
     ·cases z
    |true =>
     simp only[take,cond_true]at z;split at z
     ·rename_i r j n;split at z
      ·rename_i p E' e' xs hd;simp only[BV]at z;obtain⟨ys,hc,rfl⟩:=z;obtain⟨rfl,rfl,rfl⟩:=jV hc;obtain⟨h1,Y,X,h4⟩:=ku h hd H.1.1;refine⟨[v],cs,[_],rfl,rfl,⟨H.1,trivial⟩,H.2,(bM (by simp)).2 ⟨v,rfl,?_⟩,by simp,?_⟩
       ·have:bc W [(r,j)]=W.bs r j:=by simp[bc]
        show OwB w _ none E' e' xs v (bc W [(r,j)]);rw[this];exact Y.2.carry (λk I=>.inl I) (λ_ _=>rfl) (λ_ _=>rfl)
       ·intro x R;simp only[List.mem_singleton]at R;subst R;exact⟨_,X,trivial⟩
      ·cases z
     ·simp only[BU]at z;subst z;have X:v=.slice none 0 0:=H.1.1;refine⟨[v],cs,[_],rfl,rfl,⟨H.1,trivial⟩,H.2,(bM (by simp)).2 ⟨v,rfl,?_⟩,by simp,by simp⟩;rw[X];exact (OwH.nil w _ E e).2
     ·cases z
 |.int k,pos,ls,cs,t,H,z=>take_scalar h (b:=.int k) rfl H z
 |.bool,pos,ls,cs,t,H,z=>take_scalar h (b:=.bool) rfl H z
 |.str,pos,ls,cs,t,H,z=>take_scalar h (b:=.str) rfl H z
 |.hdr,pos,ls,cs,t,H,z=>take_scalar h (b:=.hdr) rfl H z
where
 take_scalar (h:an P V W st a w) {b:Ty} {pos:Nat} {ls:List Leaf} {cs:List Value} {t:cP b.den} (hf:b.flat=true) (H:aD P V W st w ls cs) (z:(bf st b ls).map (λx=>(⟨false,x.2.1,[],[],x.2.2⟩:cP b.den))=some t) :
   ∃ J M O,cs=J++M/\ls=O++t.rest/\aD P V W st w O J/\aD P V W st w t.rest M/\Mx w (bu V W t.p t.frz) b none pos t.val J (bc W t.kill) /\
    (∀ x∈t.frz,aC st x)/\(∀ x∈t.kill,aC st x):=by
  simp only[BV]at z;obtain⟨⟨p,x,Z⟩,h1,rfl⟩:=z;obtain⟨J,M,O,e1,e2,Y,X,h4⟩:=kR h b ls cs p x Z H h1;exact⟨J,M,O,e1,e2,Y,X,Mx.flat hf h4,by simp,by simp⟩
theorem dW (h:an P V W st a w){b:Ty}{pos:Nat}{ls:List Leaf}{cs:List Value}{t:cP b.den}(O:aD P V W st w ls cs)(r:cn st b ls=some t) :
  Mx w (bu V W t.p t.frz) b none pos t.val cs (bc W t.kill)/\(∀ x∈t.frz,aC st x)/\(∀ x∈t.kill,aC st x):=by
 unfold cn at r;split at r
 ·rename_i p x f k H;simp only[BU]at r;subst r;obtain⟨X,u,Y,y,Z,R,I,z,M,J⟩:=lR h b pos ls cs _ O H;have:u=[]:=by
   cases u with
   |nil=>rfl
   |cons=>exact I.elim
  subst this;simp only[CN]at y;subst y;exact⟨z,M,J⟩
 ·cases r
theorem gY (h:an P V W st a w):∀ {ks:List (Nat×Nat)},be ks=true->(∀ x∈ks,aC st x)->(bc W ks).Nodup
 |[],_,_=>Ds
 |x::ks,M,J=>by
  simp only[be,BW,CL,CS]at M;have ih:=gY h M.2 (λy H=>J y (CC _ H));show (W.bs x.1 x.2++bc W ks).Nodup;rw[Cb];obtain⟨l,O,z⟩:=J x (CJ ..);refine⟨?_,ih,λk Y k' r e=>?_⟩
  ·have X:x.2<(W.cs x.1).length:=by rw[<- h.len];exact (BX.1 O).1
   have:=h.leaf x.1 x.2 l _ O (CG X);cases l <;> simp only[am]at z;exact OwH.nodup this
  ·subst e;obtain⟨y,H,r⟩:=gx.1 r;obtain⟨R,I,u⟩:=J y (CC _ H);obtain⟨Z,e2⟩:=h.sep x.1 x.2 l y.1 y.2 R O z I u k Y r;have:=M.1 y H;rw[Z,e2]at this;simp at this
theorem ki:∀ {b:Ty} {S z:Nat->Prop} {O:Option Nat} {pos:Nat} {y:b.den} {c:List Value} {q:List Nat},b.flat=true->Mx w S b O pos y c q->Rd w z b y c
 |.int _,_,_,_,_,_,_,_,_,h=>h.1
 |.bool,_,_,_,_,_,_,_,_,h=>h.1
 |.str,_,_,_,_,_,_,_,_,h=>h.1
 |.unit,_,_,_,_,_,_,_,_,h=>h.1
 |.hdr,_,_,_,_,_,_,_,_,h=>h.1
 |.pair _ _,_,_,_,_,_,_,_,r,⟨J,H,X,R,M,Y,u,I⟩=>by
  simp only[Ty.flat,BW]at r;exact⟨J,H,M,ki r.1 u,ki r.2 I⟩
 |.list _ _ _,_,_,_,_,_,_,_,r,_=>by simp[Ty.flat]at r
theorem mv (h:an P V W st a w){G:Nat->Prop}{off n:Nat}{hol I:Option Nat}(a5:∀ k,off<=k->k<off+n->I≠some k)(R:∀ k,¬ (off<=k/\k<off+n)->(I=some k<->hol=some k)) :
  ∀ (b:Ty) (pos:Nat) (x:b.den) (ls:List Leaf) (cs:List Value) (t:cP b.den) (Y:List Value) (z:List Nat),aD P V W st w ls cs->di st off n b pos x ls=some t->Mx w G b hol pos x Y z ->
  ∃ O c2 c' J,cs=O++c2/\aD P V W st w t.rest c2/\O.length=min (off+n) (pos+b.cells)-max off pos /\
   Mx w (λk=>G k\/bu V W t.p t.frz k) b I pos t.val c' J /\
   (∀ i,i<b.cells->c'[i]?=if off<=pos+i/\pos+i<off+n then O[pos+i-max off pos]? else Y[i]?) /\
   (∀ k,J.count k<=z.count k+(bc W t.kill).count k)/\(∀ x∈t.frz,aC st x)/\(∀ x∈t.kill,aC st x)
 |.pair b c,pos,x,ls,cs,t,Y,z,M,r,⟨d1,d2,b1,b2,e1,e2,a9,b0⟩=>by
  simp only[di]at r;split at r
  ·rename_i u X;split at r
   ·rename_i v hc;simp only[BU]at r;subst r;obtain⟨O,c2,c',J,f1,f2,f3,f4,f5,f6,f7,f8⟩:=mv h a5 R b pos x.1 ls cs u d1 b1 M X a9;obtain⟨c3,c4,a7,a1,g1,g2,g3,g4,g5,g6,g7,g8⟩:=mv h a5 R c (pos+b.cells) x.2 u.rest c2 v d2 b2 f2 hc b0;have b3:=f4.len;have b9:=g4.len;have ad:=a9.len;refine⟨O++c3,c4,c'++a7,J++a1,by rw[f1,g1,CD],g2,?_,⟨c',a7,J,a1,rfl,rfl,?_,?_⟩,?_,?_,?_,?_⟩
    ·rw[CF,f3,g3];simp only[Ty.cells];omega
    ·refine f4.mono λk H=>?_
     rcases H with H|H|⟨y,hy,H⟩
     ·exact .inl H
     ·exact .inr (.inl (bX (by intro h;simp[h]) (λ_ h=>h) k H))
     ·exact .inr (.inr ⟨y,B6 _ hy,H⟩)
    ·refine g4.mono λk H=>?_
     rcases H with H|H|⟨y,hy,H⟩
     ·exact .inl H
     ·exact .inr (.inl (bX (by intro h;simp[h]) (λ_ h=>h) k H))
     ·exact .inr (.inr ⟨y,BY _ hy,H⟩)
    ·intro i hi;simp only[Ty.cells]at hi;rw[e1];by_cases b4:i<b.cells
     ·rw[B4 (by omega),f5 i b4];by_cases hr:off<=pos+i/\pos+i<off+n
      ·rw[if_pos hr,if_pos hr,B4 (by omega)]
      ·rw[if_neg hr,if_neg hr,B4 (by omega)]
     ·rw[B3 (by omega),b3,g5 (i-b.cells) (by omega)];have e3:pos+b.cells+(i-b.cells)=pos+i:=by omega
      rw[e3];by_cases hr:off<=pos+i/\pos+i<off+n
      ·rw[if_pos hr,if_pos hr,B3 (by omega)];congr 1;omega
      ·rw[if_neg hr,if_neg hr,B3 (by omega),ad]
    ·intro k;rw[e2,BZ,BZ,dQ,BZ];have:=f6 k;have:=g6 k;omega
    ·intro y hy;exact (B8.1 hy).elim (f7 y) (g7 y)
    ·intro y hy;exact (B8.1 hy).elim (f8 y) (g8 y)
   ·cases r
  ·cases r
 |.unit,pos,x,ls,cs,t,Y,z,M,r,hm=>by
  simp only[di,BU]at r;subst r;refine⟨[],cs,[],[],rfl,M,by simp only[Ty.cells,Cv];omega,⟨rfl,rfl⟩,λi hi=>by simp[Ty.cells]at hi,λk=>by simp,by simp,by simp⟩
 |.hdr,pos,x,ls,cs,t,Y,z,M,r,hm=>by simp[di]at r
 |.int k,pos,x,ls,cs,t,Y,z,M,r,hm=>put_scalar h (b:=.int k) rfl rfl M r hm
 |.bool,pos,x,ls,cs,t,Y,z,M,r,hm=>put_scalar h (b:=.bool) rfl rfl M r hm
 |.str,pos,x,ls,cs,t,Y,z,M,r,hm=>put_scalar h (b:=.str) rfl rfl M r hm
 |.list m E e,pos,x,ls,cs,t,Y,z,M,r,hm=>by
  simp only[di]at r;have b5:=hm.len;have e0:(Ty.list m E e).cells=1:=rfl;cases X:DB off pos&&DP pos (off+n) with
  |true =>
   rw[X]at r;simp only[cond_true]at r;simp only[BW,Cz]at X;have a6:=Ch X.1;obtain⟨O,c2,l1,e1,e2,h1,h2,h3,h4,h5⟩:=lR h (.list m E e) pos ls cs t M r;have a4:=h3.len;refine⟨O,c2,O,bc W t.kill,e1,h2,by rw[a4];omega,?_,λi hi=>?_,λk=>by omega,h4,h5⟩
   ·have Z:=h3.mono (G':=λk=>G k\/bu V W t.p t.frz k) (λk H=>.inr H);cases m with
    |false=>rw[cA]at Z ⊢;exact Z
    |true =>
     rw[bM (by simp)]at Z;rw[bM (a5 pos a6 X.2)];exact Z
   ·rw[if_pos (by omega)];congr 1;omega
  |false =>
   rw[X]at r;simp only[cond_false,BU]at r;subst r;have a2:¬ (off<=pos/\pos<off+n):=by
    rintro⟨h1,h2⟩;have:(DB off pos&&DP pos (off+n))=true:=by
     simp only[BW,Cz];exact⟨Cs h1,h2⟩
    rw[X]at this;cases this
   refine⟨[],cs,Y,z,rfl,M,by simp only[Cv];omega,?_,λi hi=>?_,λk=>by omega,by simp,by simp⟩
   ·have Z:=hm.mono (G':=λk=>G k\/bu V W false [] k) (λk H=>.inl H);cases m with
    |false=>rw[cA]at Z ⊢;exact Z
    |true =>
     by_cases hp:hol=some pos
     ·have a3:=(R pos a2).2 hp;subst hp;subst a3;rw[jl]at Z ⊢;exact Z
     ·have a3:I≠some pos:=λe=>hp ((R pos a2).1 e)
      rw[bM hp]at Z;rw[bM a3];exact Z
   ·rw[if_neg (by omega)]
where
 put_scalar (h:an P V W st a w) {b:Ty} {pos:Nat} {x:b.den} {ls:List Leaf} {cs:List Value} {t:cP b.den} {Y:List Value} {z:List Nat} (hf:b.flat=true) (h1:b.cells=1) (M:aD P V W st w ls cs)
   (r:(bif DB off pos&&DP pos (off+n) then take st b ls else some ⟨false,x,[],[],ls⟩)=some t) (hm:Mx w G b hol pos x Y z) :
   ∃ O c2 c' J,cs=O++c2/\aD P V W st w t.rest c2/\O.length=min (off+n) (pos+b.cells)-max off pos /\
    Mx w (λk=>G k\/bu V W t.p t.frz k) b I pos t.val c' J /\
    (∀ i,i<b.cells->c'[i]?=if off<=pos+i/\pos+i<off+n then O[pos+i-max off pos]? else Y[i]?) /\
    (∀ k,J.count k<=z.count k+(bc W t.kill).count k)/\(∀ x∈t.frz,aC st x)/\(∀ x∈t.kill,aC st x):=by
  have a0:∀ {S S':Nat->Prop} {hh a8:Option Nat} {y:b.den} {c:List Value} {q:List Nat},Mx w S b hh pos y c q->Mx w S' b a8 pos y c []:=by
   intro S S' hh a8 y c q hq;exact Mx.flat (w:=w) (G:=λ_=>True) hf (ki hf hq)
  cases X:DB off pos&&DP pos (off+n) with
  |true =>
   rw[X]at r;simp only[cond_true]at r;simp only[BW,Cz]at X;have a6:=Ch X.1;obtain⟨O,c2,l1,e1,e2,h2,h3,h4,h5,Z⟩:=lR h b pos ls cs t M r;have a4:=h4.len;refine⟨O,c2,O,[],e1,h3,by rw[a4];omega,a0 h4,λi hi=>?_,λk=>by simp,h5,Z⟩;rw[if_pos (by omega)];congr 1;omega
  |false =>
   rw[X]at r;simp only[cond_false,BU]at r;subst r;have a2:¬ (off<=pos/\pos<off+n):=by
    rintro⟨h1,h2⟩;have:(DB off pos&&DP pos (off+n))=true:=by
     simp only[BW,Cz];exact⟨Cs h1,h2⟩
    rw[X]at this;cases this
   refine⟨[],cs,Y,[],rfl,M,by simp only[Cv];omega,a0 hm,λi hi=>?_,λk=>by simp,by simp,by simp⟩;rw[if_neg (by omega)]
end
section
variable {P:Program} {V:Env} {Γ:List Ctr} {T:TypeId->TI} {st st2:St} {o:Oper} {R:Type} {κ:Upd->Option R} {r:R}
def vk (V:Env)(W:Wit)(st:St)(q j k:Nat):Prop :=
 ¬ W.nw k/\¬ V.prot k/\(∀ b,live st b->W.β b≠k)/\∀ (u i:Nat) (l:Leaf),(st u).ls[i]?=some l->am l->(u,i)≠(q,j)->k∉W.bs u i
structure yl (st st2:St) (q j:Nat) (l':Leaf):Prop where
 sh:∀ r,(st2 r).sh=(st r).sh
 ver:∀ r,(st r).ver<=(st2 r).ver
 epo:(st EPO).ver<(st2 EPO).ver
 len:∀ r,(st2 r).ls.length=(st r).ls.length
 at_:∀ l,(st2 q).ls[j]?=some l->l=l'
 old:∀ r i l,(r,i)≠(q,j)->(st2 r).ls[i]?=some l->(st r).ls[i]?=some l
def Wit.tell (W:Wit)(q j:Nat)(bs:List Nat):Wit:={ W with bs:=λr i=>if (r,i)=(q,j) then bs else W.bs r i }
theorem an.retell (hV:ax V){W:Wit}{a:Act}{w w':World}(h:an P V W st a w){q j:Nat}{l l':Leaf}(O:yl st st2 q j l'){v:Value}{bs':List Nat}
  (hl:(st q).ls[j]?=some l) (a5:am l) (hv:(W.cs q)[j]?=some v) (b2:am l') (a6:aK P V W st w' bs' l' v)
  (a4:∀ k∈bs',vk V W st q j k)
  (H:∀ k,ch V W st k->k∉W.bs q j->w'.heap[k]?=w.heap[k]?) (a7:w.heap.size<=w'.heap.size) (b1:w'.os=w.os) (ht:w'.tape=w.tape) (ho:w'.output=w.output) :
  an P V (W.tell q j bs') st2 a w':=by
 have a0:=h.ownb q j _ hl a5;have Y:∀ b,live st2 b<->live st b:=iH O.sh;have a2:∀ {y i:Nat},(y,i)≠(q,j)->(W.tell q j bs').bs y i=W.bs y i:=λh=>if_neg h
 have a3:(W.tell q j bs').bs q j=bs':=if_pos rfl;have a9:∀ (y i:Nat) (l:Leaf),(st2 y).ls[i]?=some l->am l->(y,i)≠(q,j)->(st y).ls[i]?=some l:=λy i l X _ M=>O.old y i l M X
 have I:cH V W (W.tell q j bs') st st2 w w':=by
  refine⟨λy=>⟨O.ver y,λ_=>rfl⟩,λb hb=>⟨(Y b).2 hb,rfl⟩,λ_ h=>h,λk z=>H k (z.elim .inl (λh=>.inr (.inl h))) (λhm=>?_),λhe=>?_⟩
  ·rcases z with z|z
   ·exact (a0 k hm).1 z
   ·exact (a0 k hm).2.1 z
  ·have:=O.epo;omega
 exact {
  nt:=h.nt,df:=h.df
  slots:=λt b0=>by rw[O.sh];exact h.slots t b0
  boxes:=λb hb=>by
   rw[O.sh];rcases h.boxes b hb with ⟨X,M⟩|⟨X,E0,M⟩
   ·refine .inl ⟨X,CI ?_⟩;rw[O.len,M];rfl
   ·refine .inr ⟨X,E0,?_⟩;show w'.heap[W.β b]?=_;rw[H _ (.inr (.inr (.inl ⟨b,⟨hb,X⟩,rfl⟩))) (λhm=>(a0 _ hm).2.2 b ⟨hb,X⟩ rfl)];exact M
  len:=λy=>by rw[O.len];exact h.len y
  one:=h.one
  leaf:=λy i l1 u X M=>by
   by_cases J:(y,i)=(q,j)
   ·cases J;obtain rfl:=O.at_ l1 X;have M:(W.cs q)[j]?=some u:=M;rw[hv]at M;simp only[BU]at M;subst M;rw[a3];have a8:cH V W (W.tell q j bs') st st2 w' w':=⟨I.ver,I.box,I.nw,λ_ _=>rfl,λhe=>by have:=O.epo;omega⟩;exact a6.carry hV.ro a8 (λ_=>⟨rfl,λ_ _=>rfl⟩)
   ·have h3:=O.old y i l1 J X;rw[a2 J];refine (h.leaf y i l1 u h3 M).carry hV.ro I (λho=>⟨rfl,λk z=>H k (.inr (.inr (.inr ⟨y,i,l1,h3,ho,z⟩))) (λhm=>J ?_)⟩);obtain⟨rfl,rfl⟩:=h.sep y i l1 q j _ h3 ho hl a5 k z hm;rfl
  ownb:=λy i l1 X M k z=>by
   by_cases J:(y,i)=(q,j)
   ·cases J;rw[a3]at z;obtain⟨q1,q2,q3,_⟩:=a4 k z;exact⟨q1,q2,λb hb=>q3 b ((Y b).1 hb)⟩
   ·rw[a2 J]at z;obtain⟨q1,q2,q3⟩:=h.ownb y i l1 (O.old y i l1 J X) M k z;exact⟨q1,q2,λb hb=>q3 b ((Y b).1 hb)⟩
  sep:=λy i l1 r2 i2 l2 X M h3 h4 k z a1=>by
   by_cases J:(y,i)=(q,j) <;> by_cases Z:(r2,i2)=(q,j)
   ·rw[<- Z]at J;cases J;exact⟨rfl,rfl⟩
   ·cases J;rw[a3]at z;rw[a2 Z]at a1;exact absurd a1 ((a4 k z).2.2.2 r2 i2 l2 (O.old r2 i2 l2 Z h3) h4 Z)
   ·cases Z;rw[a3]at a1;rw[a2 J]at z;exact absurd z ((a4 k a1).2.2.2 y i l1 (O.old y i l1 J X) M J)
   ·rw[a2 J]at z;rw[a2 Z]at a1;exact h.sep y i l1 r2 i2 l2 (O.old y i l1 J X) M (O.old r2 i2 l2 Z h3) h4 k z a1
  box:=λb hb=>h.box b ((Y b).1 hb)
  inj:=λb b' hb ad=>h.inj b b' ((Y b).1 hb) ((Y b').1 ad)
  nwlt:=λk z=>⟨Ce (h.nwlt k z).1 a7,(h.nwlt k z).2⟩
  os:=b1.trans h.os,tape:=ht.trans h.tape,output:=ho.trans h.output,size:=Cc h.size a7
  keep:=λk hp=>by
   rw[H k (.inr (.inl hp)) (λhm=>(a0 k hm).2.1 hp)];exact h.keep k hp
  fixb:=λx hx=>⟨(Y _).2 (h.fixb x hx).1,(h.fixb x hx).2⟩
  fixt:=h.fixt }
theorem kW {q:Nat}(st:St):∀ (ks:List (Nat×Nat)),(∀ x∈ks,x.1≠q)->ac (aF st ks) st q=st q
 |[],_=>rfl
 |(r,j)::ks,h=>by
  have e:ac (aF st ((r,j)::ks)) st=ac [(r,gi (ac (aF st ks) st r) j)] (ac (aF st ks) st):=aR _ _ _ _;rw[e,aJ (Ck (h (r,j) (CJ ..))),kW st ks (λx u=>h x (CC _ u))]
theorem kH {q:Nat}(st:St):∀ (ks:List (Nat×Nat)),(∀ x∈ks,x.1≠q)->ac (aO st ks) st q=st q
 |[],_=>rfl
 |(r,j)::ks,h=>by
  have e:ac (aO st ((r,j)::ks)) st=ac [(r,gm (ac (aO st ks) st r) j)] (ac (aO st ks) st):=aR _ _ _ _;rw[e,aJ (Ck (h (r,j) (CJ ..))),kH st ks (λx u=>h x (CC _ u))]
theorem OwH.store {w:World}{G G':Nat->Prop}{h h':Option (Nat×Nat)}{E:TypeId}{e:Ty}{xs:List e.den}{g len a2:Nat}{bs K:List Nat}(H:OwH w G h E e xs (.slice (some ⟨g,0,none⟩) len a2) bs)
  (hG:∀ k,G k->G' k) (bn:¬ G' g) (hK:K.Nodup) (cw:∀ k∈K,k∉bs) {i:Nat} {a6 z:e.den} (hi:xs[i]?=some a6) (hh:∀ j,j≠i->cQ h' j=cQ h j) {off:Nat} {cs:List Value} (e2:off+cs.length<=e.cells)
  (J:∀ c0 b3,Mx w G e (cQ h i) 0 a6 c0 b3->∃ c M,Mx w G' e (cQ h' i) 0 z c M/\(∀ k,k<e.cells->c[k]?=if off<=k/\k<off+cs.length then cs[k-off]? else c0[k]?)/\∀ k,M.count k<=b3.count k+K.count k) :
  ∃ ad,OwH (w.setCells g (i*e.cells+off) cs) G' h' E e (xs.set i z) (.slice (some ⟨g,0,none⟩) len a2) ad/\∀ k∈ad,k∈bs\/k∈K:=by
 obtain⟨cc,Z,X,h1,h2,h3⟩:=H;have a8:i<xs.length:=(BX.1 hi).1;obtain⟨c0,b9,cy⟩:=h3 i a6 hi;obtain⟨c,M,hm,c2,ba⟩:=J c0 (X i) b9;have c3:=h1.1;rcases h1.2 with ⟨h4,_⟩|⟨g',e1,y,mk,h4,hg,a9,cu,d1,a7⟩
 ·simp at h4
 ·simp only[CT,BU,C6,and_true,true_and]at h4;obtain⟨rfl,rfl,rfl⟩:=h4;have dc:g∈bs:=by rw[h2];simp[CP]
  have d3:=b9.len;have d2:=hm.len;have bl:(i+1)*e.cells<=xs.length*e.cells:=CA _ a8;rw[CW]at bl;have dd:xs.length*e.cells<=a2*e.cells:=CA _ a9;have c4:y.toList.length=y.size:=by rw[CU]
  have bx:Z=y.toList.take (xs.length*e.cells):=a7.symm;have J:=jX g E cs 0 (i*e.cells+off) w y hg;have b2:=lf y.toList cs (i*e.cells+off) (by omega);rw[CQ]at b2;rw[b2]at J;simp only[Ca]at J;have a1:∀ k,k<xs.length*e.cells->(y.toList.take (i*e.cells+off)++cs++y.toList.drop (i*e.cells+off+cs.length))[k]? =
    if i*e.cells+off<=k/\k<i*e.cells+off+cs.length then cs[k-(i*e.cells+off)]? else Z[k]?:=by
   intro k Y;have b4:Z[k]?=y.toList[k]?:=by rw[bx,CY,if_pos Y]
   by_cases h9:k<i*e.cells+off
   ·rw[CD,B4 (by simp only[CO];omega),CY,if_pos h9,if_neg (by omega),b4]
   ·by_cases cx:k<i*e.cells+off+cs.length
    ·rw[CD,B3 (by simp only[CO];omega),B4 (by simp only[CO];omega),if_pos ⟨by omega,cx⟩];congr 1;simp only[CO];omega
    ·rw[B3 (by simp only[CO,CF];omega),Cn,if_neg (by omega),b4];congr 1;simp only[CO,CF];omega
  have O:(y.toList.take (i*e.cells+off)++cs++y.toList.drop (i*e.cells+off+cs.length)).length=y.size:=by
   simp only[CF,CO,C8];omega
  have a4:∀ k,([g]++(CB xs.length).flatMap λj=>if j=i then M else X j).count k<=bs.count k+K.count k:=by
   intro k;have h5:=kG a8 X M k;have h6:=ba k;rw[h2];simp only[CP,DT,BZ];omega
  have a0:=nl cc hK cw a4;have bb:∀ j,j<xs.length->∀ k∈(if j=i then M else X j),k≠g:=by
   intro j hj k Y e0;subst e0;have h7:=a0.1;rw[DH,Cf]at h7;exact h7.1 (d6.2 ⟨j,hj,Y⟩)
  have I:∀ k,k≠g->(w.setCells g (i*e.cells+off) cs).heap[k]?=w.heap[k]?:=λk Y=>eY g cs _ w k Y
  refine⟨[g]++(CB xs.length).flatMap λj=>if j=i then M else X j,⟨a0.1,(y.toList.take (i*e.cells+off)++cs++y.toList.drop (i*e.cells+off+cs.length)).take (xs.length*e.cells),
   λj=>if j=i then M else X j,⟨?_,.inr ⟨g,a2,_,_,?_,J,?_,by rw[Cq,O];exact cu,?_,?_⟩⟩,?_,?_⟩,a0.2⟩
  ·rw[CO,O,Cg];omega
  ·rw[Cg]
  ·rw[Cg];exact a9
  ·rw[Cq,O];exact d1
  ·rw[Cg]
  ·simp[CP]
  ·intro j x hj;rcases aU _ _ _ _ _ hj with ⟨rfl,rfl,_⟩|⟨a3,hj⟩
   ·refine⟨c,?_,λk u hu=>?_⟩
    ·simp only[if_true];exact hm.carry (λ_ h=>h) (λk Y=>I k (λe0=>bn (e0 ▸ Y))) (λk Y=>I k (bb j a8 k (by simpa using Y)))
    ·have b0:k<e.cells:=by rw[<- d2];exact (BX.1 hu).1
     rw[CY,if_pos (by omega),a1 _ (by omega)];rw[c2 k b0]at hu;by_cases b1:off<=k/\k<off+cs.length
     ·rw[if_pos b1]at hu;rw[if_pos (by omega),<- hu];congr 1;omega
     ·rw[if_neg b1]at hu;rw[if_neg (by omega)];exact cy k u hu
   ·obtain⟨c',c1,cb⟩:=h3 j x hj;have b5:j<xs.length:=(BX.1 hj).1;refine⟨c',?_,λk u hu=>?_⟩
    ·rw[hh j a3];simp only[if_neg a3];exact c1.carry hG (λk Y=>I k (λe0=>bn (e0 ▸ hG k Y))) (λk Y=>I k (bb j b5 k (by rw[if_neg a3];exact Y)))
    ·have b0:k<e.cells:=by rw[<- c1.len];exact (BX.1 hu).1
     have cp:(j+1)*e.cells<=xs.length*e.cells:=CA _ b5;rw[CW]at cp;rw[CY,if_pos (by omega),a1 _ (by omega),if_neg ?_]
     ·exact cb k u hu
     ·rintro⟨h14,h15⟩;rcases Nat.lt_or_gt_of_ne (λe=>a3 e.symm:i≠j) with a5|a5
      ·have:(i+1)*e.cells<=j*e.cells:=CA _ a5;rw[CW]at this;omega
      ·have:(j+1)*e.cells<=i*e.cells:=CA _ a5;rw[CW]at this;omega
theorem ym (hV:ax V)(hT:TOk P T){t:TypeId}{x y:Operand}(a9:o.op=.store t x y)(h:act Γ T o st κ=some r):bZ P V o st κ r:=by
  simp only[act,wrU,a9]at h;split at h
  · cases h
  · rename_i hd
    cases hb:CE (au st y).2.length (T t).cells&&decide ((au st y).1=bq (T t).agg)&&!decide ((T t).cells=0) with
    |false=>simp[hb]at h
    |true =>
      simp only[hb,cond_true]at h;simp only[BW,decide_eq_true_eq,CL,decide_eq_false_iff_not]at hb;obtain⟨⟨ad,bx⟩,b3⟩:=hb;have ad:=B5 ad;split at h
      · rename_i b off hx
        cases Y:decide ((st b).sh=.agg)&&decide (off+(au st y).2.length<=(st b).ls.length)&&ik st (au st y).2 with
        |false=>simp[Y]at h
        |true =>
          simp only[Y,cond_true]at h;simp only[BW,decide_eq_true_eq]at Y;exact⟨_,h,λW a w hr=>tG hV hT a9 hd hx ad bx b3 Y.1.1 Y.1.2 Y.2 hr⟩
      · rename_i z j g1 i sz off hx
        split at h
        · rename_i p hh E e xs fi
          cases Y:CE sz e.cells&&decide (off+(au st y).2.length<=e.cells)&&sk z with
          |false=>simp[Y]at h
          |true =>
            simp only[Y,cond_true]at h;simp only[BW,decide_eq_true_eq,sk,CL]at Y;obtain⟨⟨b9,fr⟩,fx,e7⟩:=Y;have b9:=B5 b9;subst b9;have et:z≠EPO:=λe0=>by subst e0;simp at e7
            unfold gO at h;obtain⟨a1,cu,h⟩:=CR.1 h;obtain⟨_,_,h4⟩:=gy cu;simp only[DW]at h4;split at h
            · rename_i u hu
              cases hq:u.rest.isEmpty&&be u.kill&&dJ u.frz u.kill&&!((u.kill++u.frz).any λk=>CE k.1 z) with
              |false=>rw[hq]at h;cases h
              |true =>
                simp only[hq,cond_true]at h;simp only[BW,CL,CS]at hq;obtain⟨⟨⟨fc,ev⟩,dc⟩,a3⟩:=hq;have a3:∀ k∈u.kill++u.frz,k.1≠z:=λk H e0=>a3 k H (by simp[e0])
                obtain ⟨I, hκ, d3, a5, cw⟩ : ∃ I : Option (Nat × Nat), κ ((z, ⟨(st z).ver, (st z).sh, aV (st z).ls j (.own (p || u.p) I E e (xs.set i u.val))⟩) :: (EPO, bY (ac (aO (ac (aF st u.frz) st) u.kill ++ aF st u.frz) st EPO)) ::
                      (aO (ac (aF st u.frz) st) u.kill++aF st u.frz))=some r /\
                    (∀ k,off<=k->k<off+(au st y).2.length->cQ I i≠some k)/\(∀ k,¬ (off<=k/\k<off+(au st y).2.length)->(cQ I i=some k<->cQ hh i=some k))/\(∀ j',j'≠i->cQ I j'=cQ hh j'):=by
                  cases hh with
                  |none=>exact⟨none,h,λ_ _ _=>by simp[cQ],λ_ _=>C3,λ_ _=>rfl⟩
                  |some hp =>
                    obtain⟨hi,ho⟩:=hp;simp only at h;cases J:DB off ho&&DP ho (off+(au st y).2.length) with
                    |true =>
                      rw[J]at h;simp only[cond_true]at h;simp only[BW,Cz]at J;have ec:=Ch J.1;cases a0:CE i hi with
                      |true =>
                        rw[a0]at h;have:=B5 a0;subst this;refine⟨none,h,λ_ _ _=>by simp[cQ],λk H=>?_,λj' es=>?_⟩
                        · simp only[cQ,Nat.beq_refl,cond_true,reduceCtorEq,BU,false_iff]
                          rintro rfl;exact H ⟨ec,J.2⟩
                        · have:CE i j'=false:=by
                            cases b4:CE i j' with
                            |false=>rfl
                            |true=>exact absurd (B5 b4).symm es
                          simp[cQ,this]
                      |false =>
                        rw[a0]at h;have eb:CE hi i=false:=by
                          cases b4:CE hi i with
                          |false=>rfl
                          |true =>
                            have:=B5 b4;subst this;simp at a0
                        exact⟨some (hi,ho),h,λ_ _ _=>by simp[cQ,eb],λ_ _=>C3,λ_ _=>rfl⟩
                    |false =>
                      rw[J]at h;refine⟨some (hi,ho),h,λk bb ef=>?_,λ_ _=>C3,λ_ _=>rfl⟩;simp only[cQ];cases CE hi i with
                      |false=>simp
                      |true =>
                        simp only[cond_true,ne_eq,BU];rintro rfl;have:(DB off ho&&DP ho (off+(au st y).2.length))=true:=by
                          simp only[BW,Cz];exact⟨Cs bb,ef⟩
                        rw[J]at this;cases this
                refine⟨_,hκ,λW a w hr next Q hn=>?_⟩;obtain⟨cs,hs,M⟩:=cX hr y;rw[bx]at hs;have e5:=hY hs M.one';have cx:=M.length;obtain⟨h5,h6⟩:=fw fi (by simp);obtain⟨hp,_,_,_⟩:=bz hr x (by rw[hx];simp);rw[hx]at hp;obtain⟨g,fd,eg,a6,fv,hv⟩:=hp.2 h5;have en:T t≠.none:=by intro e;rw[e]at b3;exact b3 rfl
                have a2:=hr.leaf z j _ _ h6 a6;have e6:∀ c0 O,Mx w (gd V W p) e (cQ hh i) 0 a1 c0 O->∃ c a4,Mx w (λk=>gd V W p k\/bu V W u.p u.frz k) e (cQ I i) 0 u.val c a4 /\
                    (∀ k,k<e.cells->c[k]?=if off<=k/\k<off+cs.length then cs[k-off]? else c0[k]?)/\∀ k,a4.count k<=O.count k+(bc W u.kill).count k:=by
                  intro c0 O hm;obtain⟨c1,c2,c',bs',f1,f2,f3,f4,f5,f6,f7,f8⟩:=mv hr d3 a5 e 0 a1 (au st y).2 cs u c0 O M hu hm;have cb:c2=[]:=by
                    have:=f2.length;rw[De.1 fc]at this;exact CI this.symm
                  subst cb;rw[CN]at f1;subst f1;refine⟨c',bs',f4,λk H=>?_,f6⟩;rw[f5 k H,cx];simp only[Cl];by_cases J:off<=k/\k<off+cs.length
                  · rw[if_pos J,if_pos J]
                    congr 1;omega
                  · rw[if_neg J,if_neg J]
                have b5:(∀ x∈u.frz,aC st x)/\(∀ x∈u.kill,aC st x):=by
                  obtain⟨_,a7,bl,_,_,d2⟩:=a2;obtain⟨c0,em,_⟩:=d2 i a1 h4;obtain⟨_,_,_,_,_,_,_,_,_,_,f7,f8⟩:=mv hr d3 a5 e 0 a1 (au st y).2 cs u c0 _ M hu em;exact⟨f7,f8⟩
                obtain⟨k1,k2,k3,k4⟩:=fT hV hr dc b5.2;have X:ac (aO (ac (aF st u.frz) st) u.kill++aF st u.frz) st z=st z:=by
                  rw[bF,kH _ _ (λx hx=>a3 x (B6 _ hx)),kW _ _ (λx hx=>a3 x (BY _ hx))]
                have h7:(ac (aO (ac (aF st u.frz) st) u.kill++aF st u.frz) st z).ls[j]?=some (.own p hh E e xs):=by rw[X];exact h6
                have a8:=k1.ownb z j _ h7 trivial;have c3:∀ k,gd V W p k\/bu V W u.p u.frz k->gd V (W.frz st u.frz) (p||u.p) k:=by
                  rintro k (H|H)
                  · exact bX (W':=W.frz st u.frz) (by intro h;simp[h]) (λ_ h=>Or.inl h) k H
                  · exact bX (W':=W.frz st u.frz) (by intro h;simp[h]) (λ_ h=>h) k (kw b5.1 k H)
                have b1:g∈W.bs z j:=by obtain⟨_,a7,bl,_,cp,_⟩:=a2;rw[cp];simp[CP]
                have fl:¬ gd V (W.frz st u.frz) (p||u.p) g:=by
                  rintro (H|⟨_,H⟩)
                  · exact (a8 g b1).1 H
                  · exact (a8 g b1).2.1 (hV.ro g H)
                have ex:∀ k∈bc W u.kill,k∉W.bs z j:=λk H ed=>(k4 k H).2.2.2.2 z j _ h7 trivial ed
                obtain⟨bs',cy,bn⟩:=OwH.store (G':=gd V (W.frz st u.frz) (p||u.p)) (h':=I) a2 (λk H=>c3 k (.inl H)) fl (gY hr ev b5.2) ex h4 cw (off:=off) (cs:=cs) (by omega)
                  (λc0 O hm=>by
                    obtain⟨c,a4,q1,q2,q3⟩:=e6 c0 O hm;exact⟨c,a4,q1.mono c3,q2,q3⟩)
                obtain⟨_,a7,bl,ho,cp,_⟩:=a2;have f0:fd=xs.length:=by
                  obtain⟨A,cc,e0,_⟩:=ho.slice;simp only[CT]at e0;exact e0.2.1
                subst f0;rcases ho.2 with ⟨h8,_⟩|⟨g',cc,cur,mk,h8,hg,dd,ej,fz,_⟩
                · simp at h8
                · simp only[CT,BU,C6,and_true,true_and]at h8
                  obtain⟨rfl,rfl⟩:=h8;have d1:(i+1)*e.cells<=xs.length*e.cells:=CA _ (BX.1 h4).1;rw[CW]at d1;have fo:xs.length*e.cells<=eg*e.cells:=CA _ dd;have b0:cur.toList.length=cur.size:=by rw[CU]
                  have c4:=nk (P:=P) (oU (hT t) en) (w:=w) (b:=g) (off:=i*e.cells+off) (cur:=cur.toList) (E:=E) (by rw[CQ];exact hg) (by rw[b0];exact zV ej) e5 (by omega) M.one' (by omega);refine pI (w':=w.setCells g (i*e.cells+off) cs) (by simp[execOp,a9,hv,c4]) ?_;rw[hd];refine hn _ _ ?_;obtain⟨e1,e2,e3,e4⟩:=jY g cs (i*e.cells+off) w;refine⟨_,k1.retell hV (l':=.own (p||u.p) I E e (xs.set i u.val)) (w':=w.setCells g (i*e.cells+off) cs) (bs':=bs') ?_ h7 trivial a6 trivial cy (λk H=>?_) (λk _ H=>eY g cs _ w k (λe=>H (e ▸ b1))) (DA e4.symm) e1 e2 e3⟩
                  · rw[aR z,aR EPO]
                    have Z:EPO≠z:=Ck et;generalize aO (ac (aF st u.frz) st) u.kill++aF st u.frz=U at X ⊢;refine⟨λq=>?_,λq=>?_,?_,λq=>?_,λl M=>?_,λq i' l hq M=>?_⟩
                    · rcases aj z q ⟨(st z).ver,(st z).sh,aV (st z).ls j (.own (p||u.p) I E e (xs.set i u.val))⟩ (ac [(EPO,bY (ac U st EPO))] (ac U st)) with ⟨rfl,e⟩ | ⟨_,e⟩
                      · rw[e,X]
                      · rw[e]
                        rcases aj EPO q (bY (ac U st EPO)) (ac U st) with ⟨rfl,e⟩|⟨_,e⟩ <;> rw[e];rfl
                    · rcases aj z q ⟨(st z).ver,(st z).sh,aV (st z).ls j (.own (p||u.p) I E e (xs.set i u.val))⟩ (ac [(EPO,bY (ac U st EPO))] (ac U st)) with ⟨rfl,e⟩ | ⟨_,e⟩
                      · rw[e,X];exact CH _
                      · rw[e]
                        rcases aj EPO q (bY (ac U st EPO)) (ac U st) with ⟨rfl,e⟩|⟨_,e⟩ <;> rw[e]
                        · exact Dj _
                        · exact CH _
                    · rw[aJ Z,br];exact B9 _
                    · rcases aj z q ⟨(st z).ver,(st z).sh,aV (st z).ls j (.own (p||u.p) I E e (xs.set i u.val))⟩ (ac [(EPO,bY (ac U st EPO))] (ac U st)) with ⟨rfl,e⟩ | ⟨_,e⟩
                      · rw[e,X];simp[aV]
                      · rw[e]
                        rcases aj EPO q (bY (ac U st EPO)) (ac U st) with ⟨rfl,e⟩|⟨_,e⟩ <;> rw[e];rfl
                    · rw[br]at M
                      rcases aU _ _ _ _ _ M with ⟨_,rfl,_⟩|⟨Z,_⟩
                      · rfl
                      · exact absurd rfl Z
                    · rcases aj z q ⟨(st z).ver,(st z).sh,aV (st z).ls j (.own (p||u.p) I E e (xs.set i u.val))⟩ (ac [(EPO,bY (ac U st EPO))] (ac U st)) with ⟨rfl,e⟩ | ⟨_,e⟩
                      · rw[e]at M
                        rw[X];rcases aU _ _ _ _ _ M with ⟨rfl,_,_⟩|⟨_,M⟩
                        · exact absurd rfl hq
                        · exact M
                      · rw[e]at M
                        rcases aj EPO q (bY (ac U st EPO)) (ac U st) with ⟨rfl,e⟩|⟨_,e⟩ <;> rw[e]at M <;> exact M
                  · rcases bn k H with H|H
                    · have h9:=k1.ownb z j _ h7 trivial k H
                      exact⟨h9.1,h9.2.1,h9.2.2,λr1 i1 l1 ba b2 Z bb=>Z (by obtain⟨e1,e2⟩:=k1.sep r1 i1 l1 z j _ ba b2 h7 trivial k bb H;rw[e1,e2])⟩
                    · have h9:=k4 k H
                      exact⟨h9.1,h9.2.1,h9.2.2.2.1,λr1 i1 l1 ba b2 _=>h9.2.2.2.2 r1 i1 l1 ba b2⟩
            · cases h
        · cases h
      · cases h
end
section
variable {P:Program} {V:Env} {Γ:List Ctr} {T:TypeId->TI} {st:St} {o:Oper} {R:Type} {κ:Upd->Option R} {r:R}
theorem an.putOwn (hV:ax V){W:Wit}{a:Act}{w w':World}(h:an P V W st a w)(M:w.heap.size<=w'.heap.size)(O:w'.os=w.os)(ht:w'.tape=w.tape)(ho:w'.output=w.output)
  (hk:∀ k,ch V W st k->w'.heap[k]?=w.heap[k]?) (d:Nat) (hd:d<V.nt) (z:∀ x∈V.fixt,x.1≠d) (n:Nat) (hn:(st d).ver<n) {p:Bool} {E:TypeId} {e:Ty} {xs:List e.den} {v:Value} {bs:List Nat}
  (Y:Ow w' (gd V W p) E e xs v bs) (hb:∀ k∈bs,¬ ch V W st k):Rel P V (ac [(d,⟨n,.one,[.own p none E e xs]⟩)] st) (a.put (some d) v) w':=by
 refine⟨_,(h.world hV M O ht ho hk).put hV d hd z n .one [.own p none E e xs] v [v] (λ_=>bs) hn rfl rfl (λu X=>by simp at X;subst X;exact Y.one) ?_ ?_ ?_⟩
 ·intro j l u y H;cases j with
  |zero=>simp at y H;subst y;subst H;exact Y
  |succ j=>simp at y
 ·intro j l y H k J;have:=hb k J;simp only[ch,not_or,not_exists,not_and]at this;exact⟨this.1,this.2.1,this.2.2.1,λr1 j1 l1 _ I Z=>this.2.2.2 r1 j1 l1 I Z⟩
 ·intro j j' l l' y H I Z k h5 h6;have h7:j<1:=(BX.1 y).1;have h8:j'<1:=(BX.1 I).1;omega
theorem dZ {W:Wit}{p q:Bool}{z y:List (Nat×Nat)}:(∀ k,bu V W p z k->bu V W (p||q) (z++y) k)/\(∀ k,bu V W q y k->bu V W (p||q) (z++y) k):=by
 constructor
 ·rintro k (u|⟨x,H,u⟩)
  ·exact .inl (bX (W':=W) (by intro h;simp[h]) (λ_ h=>h) k u)
  ·exact .inr ⟨x,B6 _ H,u⟩
 ·rintro k (u|⟨x,H,u⟩)
  ·exact .inl (bX (W':=W) (by intro h;simp[h]) (λ_ h=>h) k u)
  ·exact .inr ⟨x,BY _ H,u⟩
theorem yn (n:Nat)(u:Nat->List Nat):(CB (n+1)).flatMap u=u 0++(CB n).flatMap λj=>u (j+1):=by
 rw[List.range_succ_eq_map,Ci,Df]
theorem oC {W:Wit}{a:Act}{w:World}(X:an P V W st a w){e:Ty}:∀ (ps:List (Nat×Operand)) (k:Nat) (u:cP (List e.den)),eO st e k ps=some u ->
  ps.map (λx=>(x.1,a.eval x.2))=((ps.map λx=>a.eval x.2).zipIdx k).map (λx=>(x.2,x.1))/\u.val.length=ps.length/\(∀ x∈u.frz,aC st x)/\(∀ x∈u.kill,aC st x) /\
  ∃ z:Nat->List Nat,bc W u.kill=(CB u.val.length).flatMap z /\
   ∀ (j:Nat) (x:e.den),u.val[j]?=some x->∃ v c,(ps.map λx=>a.eval x.2)[j]?=some v/\v.cells=c.toArray/\Mx w (bu V W u.p u.frz) e none 0 x c (z j)
 |[],k,u,h=>by
  simp only[eO,BU]at h;subst h;exact⟨rfl,rfl,by simp,by simp,λ_=>[],rfl,λj x H=>by simp at H⟩
 |(i,y)::ps,k,u,h=>by
  simp only[eO]at h;cases I:CE i k&&decide ((au st y).1=bq e.isAgg) with
  |false=>simp[I]at h
  |true =>
   simp only[I,cond_true]at h;simp only[BW,decide_eq_true_eq]at I;have O:=B5 I.1;subst O;split at h
   ·rename_i t1 u1 hg M;simp only[BU]at h;subst h;obtain⟨h1,h2,h3,h4,z,h5,h6⟩:=oC X ps (i+1) u1 M;obtain⟨cs,Y,Z⟩:=cX X y;rw[I.2]at Y;have hc:=hY Y Z.one';obtain⟨g1,g2,g3⟩:=dW (pos:=0) X Z hg;refine⟨by simp[h1],by simp[h2],λx J=>(B8.1 J).elim (g2 x) (h3 x),λx J=>(B8.1 J).elim (g3 x) (h4 x),λj=>match j with|0=>bc W t1.kill|j+1=>z j,?_,?_⟩
    ·rw[dQ,h5,C9,yn]
    ·intro j x H;cases j with
     |zero =>
      simp at H;subst H;exact⟨a.eval y,cs,by simp,hc,g1.mono dZ.1⟩
     |succ j =>
      obtain⟨v,c,h7,h8,h9⟩:=h6 j x (by simpa using H);exact⟨v,c,by simpa using h7,h8,h9.mono dZ.2⟩
   ·cases h
theorem lS (w:World)(G:Nat->Prop):∀ (b:Ty),Rd w G b b.zero (zeroCells b)
 |.int _=>rfl
 |.bool=>rfl
 |.str=>rfl
 |.unit=>rfl
 |.hdr=>⟨none,0,rfl⟩
 |.pair a b=>⟨_,_,rfl,lS w G a,lS w G b⟩
 |.list m E e=>Rd.nil w G m E e
theorem qO (w:World)(G:Nat->Prop):∀ (b:Ty) (pos:Nat),Mx w G b none pos b.zero (zeroCells b) []
 |.int _,_=>⟨rfl,rfl⟩
 |.bool,_=>⟨rfl,rfl⟩
 |.str,_=>⟨rfl,rfl⟩
 |.unit,_=>⟨rfl,rfl⟩
 |.hdr,_=>⟨⟨none,0,rfl⟩,rfl⟩
 |.pair a b,_=>⟨_,_,[],[],rfl,rfl,qO w G a _,qO w G b _⟩
 |.list m E e,_=>by
  cases m with
  |false=>exact cA.2 ⟨rfl,Rd.nil w G false E e⟩
  |true=>exact (bM (by simp)).2 ⟨_,rfl,(OwH.nil w G E e).2⟩
theorem mw {W:Wit}{k:Nat}(h:¬ W.nw k/\¬ V.prot k/\(∀ b,live st b->W.β b≠k)/\∀ (u i:Nat) (l:Leaf),(st u).ls[i]?=some l->am l->k∉W.bs u i):¬ ch V W st k:=by
 rintro (y|y|⟨b,J,e⟩|⟨u,i,l,z,H,I⟩)
 ·exact h.1 y
 ·exact h.2.1 y
 ·exact h.2.2.1 b J e
 ·exact h.2.2.2 u i l z H I
theorem my:(9223372036854775807:Nat)<=maxLen:=by decide
theorem qP (hV:ax V)(hT:TOk P T)(b4:bR V o){t:TypeId}{n:Nat}{y:Array (Nat×Operand)}(a0:o.op=.buildSlice t n y)(h:act Γ T o st κ=some r):bZ P V o st κ r:=by
 simp only[act,wrU,a0]at h;cases ht:T t with
 |slice E e b9 =>
  simp only[ht]at h;split at h
  ·rename_i u c3;cases hb:CE u.val.length n&&decide (n*e.cells<=16777216)&&be u.kill&&dJ u.frz u.kill with
   |false=>simp[hb]at h
   |true =>
    simp only[hb,cond_true]at h;simp only[BW,decide_eq_true_eq]at hb;obtain⟨⟨⟨ba,cb⟩,c0⟩,bn⟩:=hb;have c2:=B5 ba;subst c2;split at h
    ·rename_i d hd;refine⟨_,h,λW a w hr next Q hn=>?_⟩;have h1:=hT t;rw[ht]at h1;obtain⟨hu,_,_,Y,_,ti,z,a3,O,_,hz,cp⟩:=h1;obtain⟨h2,h3,a8,a9,a6,bx,h5⟩:=oC hr y.toList 0 u c3;generalize cc:u.val=I at *;have a4:∀ v∈(y.toList.map λx=>a.eval x.2),v.cells.size=e.cells:=by
      intro v hv;obtain⟨j,hj,e1⟩:=List.getElem_of_mem hv;have c1:j<I.length:=by rw[h3];simpa using hj
      obtain⟨v',c,X,Z,h8⟩:=h5 j I[j] (CG c1);rw[CG hj]at X;simp only[BU]at X;rw[<- e1,X,Z];simpa using h8.len
     have b0:(y.toList.map λx=>a.eval x.2).length=I.length:=by rw[Cw,h3]
     have a1:∀ (j:Nat) (x:e.den),I[j]?=some x->∃ c,Mx w (bu V W u.p u.frz) e none 0 x c (a6 j)/\∀ i u,c[i]?=some u ->
       ((y.toList.map λx=>a.eval x.2).flatMap λv=>v.cells.toList)[j*e.cells+i]?=some u:=by
      intro j x hj;obtain⟨v,c,X,Z,h8⟩:=h5 j x hj;refine⟨c,h8,λi u hi=>?_⟩;have b1:i<e.cells:=by rw[<- h8.len];exact (BX.1 hi).1
      rw[Great.flat_get Y _ a4];have e1:(j*e.cells+i) / e.cells=j:=by
       rw[DC,Nat.mul_add_div Y,Nat.div_eq_of_lt b1,Ca]
      have e2:(j*e.cells+i) % e.cells=i:=by
       rw[DC,Do,Dg b1]
      rw[e1,e2,X];simpa[Z]using hi
     have a2:((y.toList.map λx=>a.eval x.2).flatMap λv=>v.cells.toList).length=I.length*e.cells:=by
      have:∀ (vs:List Value),(∀ v∈vs,v.cells.size=e.cells)->(vs.flatMap λv=>v.cells.toList).length=vs.length*e.cells:=by
       intro vs;induction vs with
       |nil=>intro _;simp
       |cons v vs ih =>
        intro hv;rw[Ci,CF,ih (λu hu=>hv u (CC _ hu)),CU,hv v (CJ ..),C9,CW];omega
      rw[this _ a4,b0]
     have H:=Great.fill_whole Y (y.toList.map λx=>a.eval x.2) ((Array.range (I.length*e.cells)).map ((if I.length*e.cells=0 then (#[]:Array Value) else z.cells)[· % (if I.length*e.cells=0 then (#[]:Array Value) else z.cells).size]!)) a4 (by rw[b0];simp);rw[<- h2]at H;have a5:(y.map λ (i,x)=>(i,a.eval x)).toList=y.toList.map λx=>(x.1,a.eval x.2):=by rw[Dh]
     have ad:(execOp a.eval o).run P w=.ok (.value (.slice (some ⟨w.heap.size,0,none⟩) I.length I.length)) (w.alloc (.cells ((y.toList.map λx=>a.eval x.2).flatMap λv=>v.cells.toList).toArray E)):=by
      have M:¬ (I.length*e.cells>2 ^ 24):=by omega
      by_cases h0:I.length*e.cells=0
      ·rw[if_pos h0]at H;simp only[execOp,a0,Instr.buildSlice,DX,run_underlying hu,C4,sizeOf,typeInfo,a3,O,a5];simp[M,h0,newRow,a3,O,a5]at H ⊢;simp[H]
      ·rw[if_neg h0]at H;have:=run_buildSlice (P:=P) w t E I.length (y.map λ (i,x)=>(i,a.eval x)) _ ti z hu a3 hz (by rw[O];exact M) (by rw[O];exact h0) (by rw[O,a5];exact H);simp[execOp,a0,this]
     refine d7 ad ?_;rw[hd];refine hn _ _ ?_;rw[ck,aR];obtain⟨X,_,_,b2⟩:=fT hV hr bn a9;have b3:=X.used_lt;have a7:I.length<=maxLen:=by
      have:=my;have:I.length*1<=I.length*e.cells:=Cy _ Y;omega
     have c4:=World.ownsRow_lit (e:=E) (size:=e.cells) (base:=0) w ((y.toList.map λx=>a.eval x.2).flatMap λv=>v.cells.toList).toArray I.length (Dk _) a7 (by simpa using a2);refine X.putOwn hV (w':=w.alloc (.cells ((y.toList.map λx=>a.eval x.2).flatMap λv=>v.cells.toList).toArray E)) (by simp) rfl rfl rfl (λk J=>Go.heap_alloc_old w _ (b3 k J)) d (b4 d hd).1 (b4 d hd).2 _ (B9 _) (bs:=w.heap.size::bc W u.kill) ?_ (λk J hu=>?_)
     ·refine⟨Cf.2 ⟨λhm=>?_,gY hr c0 a9⟩,_,a6,Row.of c4,by rw[bx];rfl,λj x hj=>?_⟩
      ·have:=(b2 _ hm).2.2.1;omega
      ·obtain⟨c,b5,bb⟩:=a1 j x hj;have bl:∀ k,bu V W u.p u.frz k->k<w.heap.size:=λk J=>by
        rcases kw a8 k J with J|⟨_,J⟩
        ·exact (X.nwlt k J).1
        ·exact Ce (hV.ro k J).1 X.size
       exact⟨c,b5.carry (kw a8) (λk J=>Go.heap_alloc_old w _ (bl k J)) (λk J=>Go.heap_alloc_old w _ (b5.lt k J)),λi u hi=>by simpa using bb i u hi⟩
     ·rcases Cm.1 J with rfl|J
      ·have:=b3 _ hu;omega
      ·have Z:=b2 k J;exact mw ⟨Z.1,Z.2.1,Z.2.2.2.1,Z.2.2.2.2⟩ hu
    ·cases h
  ·cases h
 |_=>simp[ht]at h
theorem yp {w:World}{G:Nat->Prop}{E':TypeId}{u y e:TypeId}(O:P.underlying u=some (.slice e))(Z:P.underlying e=some (.int .u8))(X:P.underlying y=some .string){xs:List Int}{v:Value}
  (h:Rd w G (.list false E' (.int .u8)) xs [v]):(convert u y v).run P w=.ok (.string (gP xs)) w:=by
 obtain⟨A,z,hv,hc,J⟩:=h;simp only[Cx,and_true]at hv;subst hv;cases A with
 |none =>
  have hx:xs=[]:=by
   cases xs with
   |nil=>rfl
   |cons x xs=>obtain⟨g,o,M,_⟩:=J (by simp);cases M
  subst hx;show (convert u y (.slice none 0 z)).run P w=_;rw[run_convert_bytes_nil w u e O Z 0 z y X];rfl
 |some ad =>
  cases H:xs with
  |nil =>
   subst H;show (convert u y (.slice (some ad) 0 z)).run P w=_;rw[run_convert_bytes_string w u y e ad 0 z O Z X];simp[Conv.bytesToString,loadCells,loadCellsFrom];rfl
  |cons x0 a0 =>
   rw[<- H];obtain⟨g,o,M,_,hr⟩:=J (by rw[H];simp);simp only[BU]at M;subst M;have:=run_convert_bytes_arg (P:=P) w u e O Z g o xs.length z xs rfl (λi hi=>by
    obtain⟨c,I,Y⟩:=hr i xs[i] (CG hi);have I:c=[.int .u8 xs[i]]:=I;subst I;have:=Y 0 _ rfl;simp only[Ty.cells,DM,Ca]at this;rw[this];simp[List.getD,CG hi]) y X
   rw[this];rfl
theorem uG (hV:ax V)(hT:TOk P T)(M:bR V o){s t:TypeId}{x:Operand}(J:o.op=.convert s t x)(h:act Γ T o st κ=some r):bZ P V o st κ r:=by
 simp only[act,wrU,J]at h;have z:=hT t;have y:=hT s;split at h
 ·rename_i k' k a4 n Y Z hx;split at h
  ·rename_i d O;refine⟨_,h,λW a w I=>aP hV I O M (v:=.int k (k.wrap n)) ?_ rfl id rfl⟩;rw[Z]at z;rw[Y]at y;simp[execOp,J,bI I hx,Go.convert,run_underlying z.1,run_underlying y.1,Conv.intToInt]
  ·cases h
 ·rename_i E b Y Z;split at h
  ·rename_i p xs ha;split at h
   ·rename_i d O;refine⟨_,h,λW a w I=>?_⟩;have a0:one st x≠.dead:=by intro e0;rw[e0]at ha;simp[aE,dp]at ha
    obtain⟨h1,h2,_⟩:=bz I x a0;have a3:=kQ (m:=false) (E:=E) I h1 h2 ha;rw[Z]at z;rw[Y]at y;refine aP hV I O M (v:=.string (gP xs)) ?_ rfl id rfl;have:=yp (P:=P) y.1 (y.2.2.2.2.1.2 rfl) z.1 a3;simp[execOp,J,this]
   ·cases h
  ·cases h
 ·rename_i E b H Y Z hx;split at h
  ·rename_i d O;refine⟨_,h,λW a w I next Q hn=>?_⟩;rw[Z]at z;rw[Y]at y;have hc:(eJ H).length=H.size:=by simp only[eJ,Cw,CU];rfl
   have X:=Lib.run_convert_string_bytes (P:=P) w s t E H y.1 z.1 (z.2.2.2.2.1.2 rfl);refine d7 (v:=.slice (some ⟨w.heap.size,0,none⟩) H.size (grownCap w H.size 0 E)) (w':=Lib.bytesWorld w E H) (by simp[execOp,J,iG I hx,X]) ?_;rw[O];refine hn _ _ ?_;have a1:=grownCap_ge w H.size 0 E;have a2:(Lib.bytesCells w E H).size=grownCap w H.size 0 E:=by
    simp only[Lib.bytesCells,DY,Array.size_map,Array.size_replicate];show H.size+_=_;omega
   refine I.putOwn hV (by rw[Lib.bytesWorld_size];omega) (by simp[Lib.bytesWorld,DZ,Dl,Dt,-DN,-DR]) (by simp[Lib.bytesWorld,DZ,Dl,Dt,-DN,-DR]) (by simp[Lib.bytesWorld,DZ,Dl,Dt,-DN,-DR])
    (λk hk=>Lib.bytesWorld_at_old w E H k (I.used_lt k hk)) d (M d O).1 (M d O).2 _ (B9 _) (bs:=[w.heap.size])
    ⟨by simp,(eJ H).map (Value.int .u8),λ_=>[],⟨by rw[Cw];exact (DM _).symm,.inr ⟨w.heap.size,_,_,_,by rw[hc],Lib.bytesWorld_at_new w E H,by rw[hc];exact a1,.inr ⟨rfl,CH _⟩,by rw[a2];exact DA (DM _),?_⟩⟩,by simp[CP],λj x hj=>?_⟩ (λk hk hu=>?_)
   ·simp only[Lib.bytesCells,DQ,Dh,Ty.cells,DM,eJ,Da];exact List.take_left' (by simp)
   ·refine⟨[.int .u8 x],⟨rfl,rfl⟩,λi u hi=>?_⟩
    match i,hi with
    |0,hi =>
     simp only[Co,BU]at hi;subst hi;simp[Ty.cells,hj]
   ·simp at hk;have:=I.used_lt k hu;omega
  ·cases h
 ·cases h
theorem sg (hV:ax V)(hT:TOk P T)(O:bR V o){t:TypeId}{n c:Operand}(J:o.op=.makeSlice t n c)(h:act Γ T o st κ=some r):bZ P V o st κ r:=by
 simp only[act,wrU,J]at h;split at h
 ·rename_i E e H k1 m k2 m' ht a3 a8;cases hb:decide (0<=m)&&decide (m=m')&&decide (m*H<=(ak:Int)) with
  |false=>simp[hb]at h
  |true =>
   simp only[hb,cond_true]at h;simp only[BW,decide_eq_true_eq]at hb;obtain⟨⟨h0,rfl⟩,a9⟩:=hb;split at h
   ·rename_i d hd;refine⟨_,h,λW a w Y next Q hn=>?_⟩;have h1:=hT t;rw[ht]at h1;obtain⟨hu,_,_,ba,a1,ti,z,a4,ad,a7,hz,Z⟩:=h1;have hm:(m.toNat:Int)=m:=by omega
    have X:m.toNat*H<=ak:=by
     have:((m.toNat*H:Nat):Int)<=(ak:Int):=by rw[Int.natCast_mul,hm];exact a9
     omega
    have b9:m.toNat*1<=m.toNat*H:=Cy _ a1.1;simp only[ak]at X;have b4:=my;obtain⟨w',I,b1,y⟩:=run_make_full (P:=P) w 0 t E ti z e.cells hu a4 hz ad k1 k2 m.toNat (by rw[a7,DC];omega) (by omega) (Dk _);rw[hm]at I;refine d7 (v:=.slice (some ⟨w.heap.size,0,none⟩) m.toNat m.toNat) (w':=w') (by simp[execOp,J,bI Y a3,bI Y a8,I]) ?_;rw[hd];refine hn _ _ ?_;have a2:z.cells.size=e.cells:=by
     have h2:=(lS w (λ_=>False) e).len;rw[<- CU,Z,h2]
    refine Y.putOwn hV y.size y.os y.tape y.output (λk hk=>y.block k (Y.used_lt k hk) (by simp)) d (O d hd).1 (O d hd).2 _ (B9 _) (bs:=[w.heap.size])
     ⟨by simp,_,λ_=>[],by rw[DI];exact Row.of b1,by simp[CP],λj x M=>?_⟩ (λk hk hu=>?_)
    ·rw[Cp]at M;split at M
     ·rename_i a6;simp at M;subst M;refine⟨_,qO w' _ e 0,λi u hi=>?_⟩;have b3:i<e.cells:=by rw[<- (lS w' (λ_=>False) e).len];exact (BX.1 hi).1
      have a0:(j+1)*e.cells<=m.toNat*e.cells:=CA _ a6;rw[CW]at a0;have b0:j*e.cells+i<m.toNat*e.cells:=by omega
      have e2:(j*e.cells+i) % e.cells=i:=by rw[DC,Do,Dg b3]
      have a5:z.cells[i]?=some u:=by rw[<- DJ,Z];exact hi
      obtain⟨b5,b2⟩:=Array.getElem?_eq_some_iff.1 a5;simp only[madeCells,DJ,Array.getElem?_map,Array.getElem?_range,b0,if_true,Dp,a2,e2];rw[getElem!_pos z.cells i (by omega),b2]
     ·cases M
    ·simp at hk;have:=Y.used_lt k hu;omega
   ·cases h
 ·cases h
theorem uH (n u:Nat)(y:n<=u)(k z:IntKind)(w:World):(Db true n u none (some (.int k n)) (some (.int z n))).run P w=.ok (0,n,n) w:=by
 simp[Db,Instr.sliceBound,asIntOf,y]
theorem wA (hV:ax V)(hT:TOk P T)(a6:bR V o){t:TypeId}{x m:Operand}{lo hi:Option Operand}(a0:o.op=.slice t x lo hi (some m))(h:act Γ T o st κ=some r):bZ P V o st κ r:=by
 simp only[act,wrU,a0]at h;cases hd:o.dst with
 |none=>simp[hd]at h
 |some d =>
  simp only[hd]at h;split at h
  ·rename_i E' e' a8 O j v ht hx;split at h
   ·rename_i p E e J hdr;split at h
    ·rename_i hh k c0 c1;cases hb:hi.isSome&&decide (hh=(J.length:Int))&&decide (k=(J.length:Int))&&CE e'.cells e.cells with
     |false=>rw[hb]at h;cases h
     |true =>
      rw[hb]at h;simp only[cond_true]at h;simp only[BW,decide_eq_true_eq]at hb;obtain⟨⟨⟨Z,rfl⟩,rfl⟩,X⟩:=hb;have X:=B5 X;refine⟨_,h,λW a w hr next Q hn=>?_⟩;have h1:=hT t;rw[ht]at h1;obtain⟨hu,_,_,_,_,ti,z,b9,bx,_⟩:=h1;obtain⟨a3,_,_,_,_⟩:=bz hr x (by rw[hx];simp);rw[hx]at a3;obtain⟨h8,a7,c3,cc⟩:=ku hr hdr a3;obtain⟨y,hy,k1,c4⟩:∃ y,hi=some y/\∃ k1,a.eval y=.int k1 J.length:=by
       rcases mT hr c0 with ⟨I,_⟩|⟨y,k1,I,H⟩
       ·rw[I]at Z;cases Z
       ·exact⟨y,I,k1,H⟩
      obtain⟨k2,b5⟩:∃ k2,a.eval m=.int k2 J.length:=by
       rcases mT hr c1 with ⟨I,_⟩|⟨y,k2,I,H⟩
       ·cases I
       ·cases I;exact⟨k2,H⟩
      obtain⟨A,ba,hv,a2⟩:=a7.slice;have hE:=dy (P:=P) (t:=E') (n:=e.cells) (by simp[bU,b9,bx,X]) w;have a5:(if J.length=0 then A else A.map λx=>x.add (0*e.cells))=A:=by
       cases A with
       |none=>simp
       |some ad =>
        have e0:ad.add 0=ad:=by simp[Addr.add]
        show (if J.length=0 then some ad else some (ad.add (0*e.cells)))=some ad;rw[Dc,e0];split <;> rfl
      refine d7 (v:=.slice A J.length J.length) (w':=w) ?_ ?_
      ·simp only[execOp,a0,hv,hy,Dp,DG,c4,b5,Instr.sliceAt,Instr.slice,DX,run_underlying hu,C4,uH J.length ba a2 k1 k2 w,hE,Sem.run_pure,DD,a5]
      ·rw[hd];refine hn _ _ ?_;rw[ck,aR];have bb:∀ z∈[(O,j)],aC st z:=λz hz=>by simp at hz;subst hz;exact⟨_,c3,trivial⟩
       obtain⟨h6,_,_,u⟩:=fT (frz:=[]) (kill:=[(O,j)]) hV hr rfl bb;have e1:aO (ac (aF st []) st) [(O,j)]++aF st []=aO st [(O,j)]:=CN _;rw[e1]at h6 u;have bl:bc W [(O,j)]=W.bs O j:=by simp[bc]
       rw[bl]at u;obtain⟨b3,a4,a9,M,a1,b0⟩:=a7;refine h6.putOwn hV (w':=w) (CH _) rfl rfl rfl (λ_ _=>rfl) d (a6 d hd).1 (a6 d hd).2 _ (B9 _) (bs:=W.bs O j) ?_ (λk hk=>mw ⟨(u k hk).1,(u k hk).2.1,(u k hk).2.2.2.1,(u k hk).2.2.2.2⟩);have b4:∀ k,gd V W p k->gd V (W.frz st []) p k:=bX (W':=W.frz st []) (λh=>h) (λ_ h=>Or.inl h);refine OwH.carry (G:=gd V W p) ⟨b3,a4,a9,⟨M.1,?_⟩,?_,b0⟩ b4 (λ_ _=>rfl) (λ_ _=>rfl)
       ·rcases M.2 with ⟨Y,I⟩|⟨g,cb,b1,mk,Y,I,H,b2,c2,bn⟩
        ·rw[hv]at Y;simp only[CT]at Y;exact .inl ⟨by rw[Y.1,I],I⟩
        ·rw[hv]at Y;simp only[CT,true_and]at Y;exact .inr ⟨g,J.length,b1,mk,by rw[Y.1],I,CH _,b2.imp (λh=>⟨h.1,Cc H h.2⟩) id,Cc (CA _ H) c2,bn⟩
       ·rw[a1,hv];cases A <;> rfl
    ·cases h
   ·cases h
  ·cases h
theorem yq (z:ax V)(I:TOk P T)(u:bR V o){t:TypeId}{x:Operand}{J M H:Option Operand}(y:o.op=.slice t x J M H)(h:act Γ T o st κ=some r):bZ P V o st κ r:=by
 cases H with
 |none=>exact vK z I u y h
 |some m=>exact wA z I u y h
theorem AT (hV:ax V)(I:bR V o){c:Call}(z:o.op=.call c)(M:c.callee=.builtin .min)(h:act Γ T o st κ=some r):bZ P V o st κ r:=by
 simp only[act,wrU,z,M]at h;split at h
 ·cases h
 ·rename_i d O;simp only[O]at h;split at h
  ·rename_i x y Z;split at h
   ·rename_i X m k2 n Y hn;have u:c.args=#[x,y]:=by rw[<- CQ (xs:=c.args),Z]
    refine⟨_,h,λW a w J=>aP hV J O I (v:=.int X (bif decide (n<m) then n else m)) ?_ rfl id rfl⟩;cases H:decide (n<m) <;> simp[execOp,z,M,resolve,invoke,builtin,u,bI J Y,bI J hn,Builtin.min_,Builtin.min2] <;> simp at H <;> omega
   ·cases h
  ·cases h
theorem AU (hV:ax V)(I:bR V o){c:Call}(z:o.op=.call c)(M:c.callee=.builtin .max)(h:act Γ T o st κ=some r):bZ P V o st κ r:=by
 simp only[act,wrU,z,M]at h;split at h
 ·cases h
 ·rename_i d O;simp only[O]at h;split at h
  ·rename_i x y Z;split at h
   ·rename_i X m k2 n Y hn;have u:c.args=#[x,y]:=by rw[<- CQ (xs:=c.args),Z]
    refine⟨_,h,λW a w J=>aP hV J O I (v:=.int X (bif decide (m<n) then n else m)) ?_ rfl id rfl⟩;cases H:decide (m<n) <;> simp[execOp,z,M,resolve,invoke,builtin,u,bI J Y,bI J hn,Builtin.max_,Builtin.max2] <;> simp at H <;> omega
   ·cases h
  ·cases h
end
section
variable {P:Program} {V:Env} {W:Wit} {st st':St} {w w':World} {a:Act}
theorem an.putGhost (hV:ax V)(h:an P V W st a w)(d:Nat)(hd:GH<=d)(a4:d<B0)(n:Nat)(sh:aI)(ls:List Leaf)
  (X:List Value) (O:Nat->List Nat) (hn:(st d).ver<n) (hl:ls.length=X.length) (h1:∀ u∈X,u.oneCell'=true)
  (a1:∀ (j:Nat) (l:Leaf) (u:Value),ls[j]?=some l->X[j]?=some u->aK P V W st w (O j) l u)
  (Z:∀ (j:Nat) (l:Leaf),ls[j]?=some l->am l->∀ k∈O j,¬ W.nw k/\¬ V.prot k/\(∀ b,live st b->W.β b≠k) /\
   ∀ (r1 j1:Nat) (l1:Leaf),r1≠d->(st r1).ls[j1]?=some l1->am l1->k∉W.bs r1 j1)
  (a2:∀ (j j':Nat) (l l':Leaf),ls[j]?=some l->am l->ls[j']?=some l'->am l'->∀ k,k∈O j->k∈O j'->j=j') :
  an P V { W with cs:=λr=>if r=d then X else W.cs r,bs:=λr j=>if r=d then O j else W.bs r j } (ac [(d,⟨n,sh,ls⟩)] st) a w /\
   cH V W { W with cs:=λr=>if r=d then X else W.cs r,bs:=λr j=>if r=d then O j else W.bs r j } st (ac [(d,⟨n,sh,ls⟩)] st) w w:=by
 have J:∀ b,live (ac [(d,⟨n,sh,ls⟩)] st) b<->live st b:=by
  intro b;by_cases Y:B0<=b
  ·rw[live,live,aJ (by omega)]
  ·simp[live,Y]
 have M:cH V W { W with cs:=λr=>if r=d then X else W.cs r,bs:=λr j=>if r=d then O j else W.bs r j } st (ac [(d,⟨n,sh,ls⟩)] st) w w:=by
  refine⟨λq=>?_,λb Y=>⟨(J b).2 Y,rfl⟩,λ_ h=>h,λ_ _=>rfl,λ_ q j' l' I h4 h5=>?_⟩
  ·rcases aj d q ⟨n,sh,ls⟩ st with ⟨rfl,e⟩|⟨y,e⟩
   ·rw[e];exact⟨Nat.le_of_lt hn,λe=>absurd e (by show n≠_;omega)⟩
   ·rw[e];exact⟨CH _,λ_=>by simp[y]⟩
  ·rcases aj d q ⟨n,sh,ls⟩ st with ⟨rfl,e⟩|⟨y,e⟩
   ·rw[e]at h5;exact absurd h5 (by show n≠_;omega)
   ·rw[e]at I;exact⟨⟨l',I,h4⟩,by simp[y],λ_ _=>rfl⟩
 refine⟨?_,M⟩
 exact {
  nt:=h.nt,df:=h.df
  slots:=λt ht=>by
   have:t≠d:=by omega
   rw[aJ this];simpa[this]using h.slots t ht
  boxes:=λb Y=>by
   have:b≠d:=by omega
   rw[aJ this];simpa[this]using h.boxes b Y
  len:=λq=>by
   rcases aj d q ⟨n,sh,ls⟩ st with ⟨rfl,e⟩|⟨y,e⟩
   ·rw[e];simpa using hl
   ·rw[e];simpa[y]using h.len q
  one:=λq u hu=>by
   by_cases hq:q=d
   ·simp only[hq,if_true]at hu;exact h1 u hu
   ·simp only[hq,if_false]at hu;exact h.one q u hu
  leaf:=λq j l u z I=>by
   rcases aj d q ⟨n,sh,ls⟩ st with ⟨rfl,e⟩|⟨y,e⟩
   ·rw[e]at z;simp only[if_true]at I;exact (a1 j l u z I).carry hV.ro M (λ_=>⟨by simp,λ_ _=>rfl⟩)
   ·rw[e]at z;simp only[y,if_false]at I;exact (h.leaf q j l u z I).carry hV.ro M (λ_=>⟨by simp[y],λ_ _=>rfl⟩)
  ownb:=λq j l z I k R=>by
   rcases aj d q ⟨n,sh,ls⟩ st with ⟨rfl,e⟩|⟨y,e⟩
   ·rw[e]at z;simp only[if_true]at R;have:=Z j l z I k R;exact⟨this.1,this.2.1,λb Y=>this.2.2.1 b ((J b).1 Y)⟩
   ·rw[e]at z;simp only[y,if_false]at R;have:=h.ownb q j l z I k R;exact⟨this.1,this.2.1,λb Y=>this.2.2 b ((J b).1 Y)⟩
  sep:=λq j l q' j' l' z I h4 h5 k R H=>by
   rcases aj d q ⟨n,sh,ls⟩ st with ⟨e0,e⟩|⟨y,e⟩ <;> rcases aj d q' ⟨n,sh,ls⟩ st with ⟨e1,e'⟩|⟨a0,e'⟩
   ·rw[e]at z;rw[e']at h4;simp only[e0,if_true]at R;simp only[e1,if_true]at H;exact⟨e0.trans e1.symm,a2 j j' l l' z I h4 h5 k R H⟩
   ·rw[e]at z;rw[e']at h4;simp only[e0,if_true]at R;simp only[a0,if_false]at H;exact absurd H ((Z j l z I k R).2.2.2 q' j' l' a0 h4 h5)
   ·rw[e]at z;rw[e']at h4;simp only[y,if_false]at R;simp only[e1,if_true]at H;exact absurd R ((Z j' l' h4 h5 k H).2.2.2 q j l y z I)
   ·rw[e]at z;rw[e']at h4;simp only[y,if_false]at R;simp only[a0,if_false]at H;exact h.sep q j l q' j' l' z I h4 h5 k R H
  box:=λb Y=>h.box b ((J b).1 Y)
  inj:=λb b' Y a3=>h.inj b b' ((J b).1 Y) ((J b').1 a3)
  nwlt:=h.nwlt
  os:=h.os,tape:=h.tape,output:=h.output,size:=h.size,keep:=h.keep
  fixb:=λx hx=>⟨(J _).2 (h.fixb x hx).1,(h.fixb x hx).2⟩
  fixt:=h.fixt }
theorem gF {off:Nat}:∀ {a:Ty} {pos:Nat} {x:a.den} {u:(E:TypeId)×(e:Ty)×List e.den},bi off a pos x=some u->pos<=off/\off<pos+a.cells
 |.pair a b,pos,x,u,h=>by
  simp only[bi]at h;split at h
  ·rename_i v y;have:=gF y;simp only[Ty.cells];omega
  ·have:=gF h;simp only[Ty.cells];omega
 |.list m E e,pos,z,u,h=>by
  simp only[bi]at h;cases r:m&&CE pos off with
  |false=>simp[r]at h
  |true =>
   simp only[BW]at r;have:=B5 r.2;simp only[Ty.cells];omega
 |.int _,_,_,_,h=>by simp[bi]at h
 |.bool,_,_,_,h=>by simp[bi]at h
 |.str,_,_,_,h=>by simp[bi]at h
 |.unit,_,_,_,h=>by simp[bi]at h
 |.hdr,_,_,_,h=>by simp[bi]at h
theorem nm {off:Nat}:∀ {a:Ty} {pos:Nat} {x:a.den} {E:TypeId} {e:Ty} {u:List e.den},bi off a pos x=some ⟨E,e,u⟩->e.shy=true->a.shy=true
 |.pair a b,pos,x,E,e,u,h,r=>by
  simp only[bi]at h;simp only[Ty.shy,Dq];split at h
  ·rename_i v z;simp only[BU]at h;subst h;exact .inl (nm z r)
  ·exact .inr (nm h r)
 |.list m H J,pos,I,E,e,u,h,r=>by
  simp only[bi]at h;cases y:m&&CE pos off with
  |false=>simp[y]at h
  |true =>
   rw[y]at h;simp only[cond_true,BU,Sigma.mk.injEq]at h;obtain⟨rfl,h⟩:=h;rw[heq_eq_eq,Sigma.mk.injEq]at h;obtain⟨rfl,_⟩:=h;simp[Ty.shy,r]
 |.int _,_,_,_,_,_,h,_=>by simp[bi]at h
 |.bool,_,_,_,_,_,h,_=>by simp[bi]at h
 |.str,_,_,_,_,_,h,_=>by simp[bi]at h
 |.unit,_,_,_,_,_,h,_=>by simp[bi]at h
 |.hdr,_,_,_,_,_,h,_=>by simp[bi]at h
theorem Mx.hol_out {G:Nat->Prop}{o:Nat}:∀ {a:Ty} {pos:Nat} {x:a.den} {cs:List Value} {bs:List Nat},(o<pos\/pos+a.cells<=o)->(Mx w G a none pos x cs bs<->Mx w G a (some o) pos x cs bs)
 |.int _,_,_,_,_,_=>C3
 |.bool,_,_,_,_,_=>C3
 |.str,_,_,_,_,_=>C3
 |.unit,_,_,_,_,_=>C3
 |.hdr,_,_,_,_,_=>C3
 |.pair a b,pos,x,cs,bs,r=>by
  simp only[Ty.cells]at r;constructor
  ·rintro⟨c1,c2,b1,b2,e1,e2,h1,h2⟩;exact⟨c1,c2,b1,b2,e1,e2,(Mx.hol_out (by omega)).1 h1,(Mx.hol_out (by omega)).1 h2⟩
  ·rintro⟨c1,c2,b1,b2,e1,e2,h1,h2⟩;exact⟨c1,c2,b1,b2,e1,e2,(Mx.hol_out (by omega)).2 h1,(Mx.hol_out (by omega)).2 h2⟩
 |.list m E e,pos,u,cs,bs,r=>by
  simp only[Ty.cells]at r;cases m with
  |false=>rw[cA,cA]
  |true=>rw[bM (by simp),bM (by simp only[ne_eq,BU];omega)]
theorem Mx.out {G:Nat->Prop}{off:Nat}{E:TypeId}{e:Ty}{ys:List e.den}:∀ {a:Ty} {pos:Nat} {x:a.den} {cs:List Value} {bs:List Nat},Mx w G a none pos x cs bs->bi off a pos x=some ⟨E,e,ys⟩ ->
  ∃ v z r,OwB w G none E e ys v z/\cs[off-pos]?=some v/\Mx w G a (some off) pos x cs r/\∀ k,bs.count k=r.count k+z.count k
 |.pair a b,pos,x,cs,bs,⟨c1,c2,b1,b2,J,e2,M,h2⟩,h=>by
  have hl:=M.len;simp only[bi]at h;split at h
  ·rename_i u O;simp only[BU]at h;subst h;have a0:=gF O;obtain⟨v,z,r,Y,R,Z,X⟩:=Mx.out M O;refine⟨v,z,r++b2,Y,?_,⟨c1,c2,r,b2,J,rfl,Z,(Mx.hol_out (by omega)).1 h2⟩,λk=>?_⟩
   ·rw[J,B4 (by omega)];exact R
   ·rw[e2,BZ,BZ,X k];omega
  ·rename_i O;have a0:=gF h;obtain⟨v,z,r,Y,R,Z,X⟩:=Mx.out h2 h;refine⟨v,z,b1++r,Y,?_,⟨c1,c2,b1,r,J,rfl,(Mx.hol_out (by omega)).1 M,Z⟩,λk=>?_⟩
   ·rw[J,B3 (by omega),hl,show off-pos-a.cells=off-(pos+a.cells) by omega];exact R
   ·rw[e2,BZ,BZ,X k];omega
 |.list m E' e',pos,xs,cs,bs,H,h=>by
  simp only[bi]at h;cases y:m&&CE pos off with
  |false=>simp[y]at h
  |true =>
   rw[y]at h;simp only[cond_true,BU,Sigma.mk.injEq]at h;obtain⟨rfl,h⟩:=h;simp only[BW]at y;obtain⟨rfl,y⟩:=y;have y:=B5 y;subst y;rw[heq_eq_eq,Sigma.mk.injEq]at h;obtain⟨rfl,h⟩:=h;rw[heq_eq_eq]at h;subst h;have I:=H.one;rw[bM (by simp)]at H;obtain⟨v,rfl,hO⟩:=H;exact⟨v,bs,[],hO,by simp,jl.2 ⟨v,rfl,I v (by simp),rfl⟩,λk=>by simp⟩
 |.int _,_,_,_,_,_,h=>by simp[bi]at h
 |.bool,_,_,_,_,_,h=>by simp[bi]at h
 |.str,_,_,_,_,_,h=>by simp[bi]at h
 |.unit,_,_,_,_,_,h=>by simp[bi]at h
 |.hdr,_,_,_,_,_,h=>by simp[bi]at h
theorem Mx.back {G:Nat->Prop}{off:Nat}{E:TypeId}{e:Ty}{R:List e.den}{v:Value}{Z:List Nat}(hO:OwB w G none E e R v Z):∀ {a:Ty} {pos:Nat} {x z:a.den} {cs:List Value} {I:List Nat},Mx w G a (some off) pos x cs I->bQ off E e R a pos x=some z ->
  cs[off-pos]?=some v->∃ O,Mx w G a none pos z cs O/\∀ k,O.count k=I.count k+Z.count k
 |.pair a b,pos,x,z,cs,O,⟨c1,c2,b1,b2,X,e2,M,h2⟩,h,J=>by
  have hl:=M.len;simp only[bQ]at h;split at h
  ·rename_i u y;simp only[BU]at h;subst h;have a0:=set_in y;obtain⟨I,g1,Y⟩:=Mx.back hO M y (by rw[X,B4 (by omega)]at J;exact J);refine⟨I++b2,⟨c1,c2,I,b2,X,rfl,g1,(Mx.hol_out (by omega)).2 h2⟩,λk=>?_⟩;rw[e2,BZ,BZ,Y k];omega
  ·rename_i y;simp only[BV]at h;obtain⟨u,y,rfl⟩:=h;have a0:=set_in y;obtain⟨I,g1,Y⟩:=Mx.back hO h2 y (by
    rw[X,B3 (by omega),hl]at J;rw[show off-(pos+a.cells)=off-pos-a.cells by omega];exact J)
   refine⟨b1++I,⟨c1,c2,b1,I,X,rfl,(Mx.hol_out (by omega)).2 M,g1⟩,λk=>?_⟩;rw[e2,BZ,BZ,Y k];omega
 |.list m E' e',pos,xs,z,cs,O,H,h,J=>by
  simp only[bQ]at h;cases r:m&&CE pos off with
  |false=>simp[r]at h
  |true =>
   rw[r]at h;simp only[cond_true]at h;obtain⟨rfl,rfl,rfl⟩:=jV h;simp only[BW]at r;obtain⟨rfl,r⟩:=r;have r:=B5 r;subst r;rw[jl]at H;obtain⟨v',rfl,M,rfl⟩:=H;simp only[Nat.sub_self,Co,BU]at J;subst J;exact⟨Z,(bM (by simp)).2 ⟨v',rfl,hO⟩,λk=>by simp⟩
 |.int _,_,_,_,_,_,_,h,_=>by simp[bQ]at h
 |.bool,_,_,_,_,_,_,h,_=>by simp[bQ]at h
 |.str,_,_,_,_,_,_,h,_=>by simp[bQ]at h
 |.unit,_,_,_,_,_,_,h,_=>by simp[bQ]at h
 |.hdr,_,_,_,_,_,_,h,_=>by simp[bQ]at h
where
 set_in {off:Nat} {E:TypeId} {e:Ty} {R:List e.den}:∀ {a:Ty} {pos:Nat} {x z:a.den},bQ off E e R a pos x=some z->pos<=off/\off<pos+a.cells
  |.pair a b,pos,x,z,h=>by
   simp only[bQ]at h;split at h
   ·rename_i u y;have:=set_in y;simp only[Ty.cells];omega
   ·simp only[BV]at h;obtain⟨u,y,_⟩:=h;have:=set_in y;simp only[Ty.cells];omega
  |.list m E' e',pos,xs,z,h=>by
   simp only[bQ]at h;cases r:m&&CE pos off with
   |false=>simp[r]at h
   |true =>
    simp only[BW]at r;have:=B5 r.2;simp only[Ty.cells];omega
  |.int _,_,_,_,h=>by simp[bQ]at h
  |.bool,_,_,_,h=>by simp[bQ]at h
  |.str,_,_,_,h=>by simp[bQ]at h
  |.unit,_,_,_,h=>by simp[bQ]at h
  |.hdr,_,_,_,h=>by simp[bQ]at h
end
section
variable {P:Program} {V:Env} {W W' W2:Wit} {st st' st2:St} {w w' w2:World} {a:Act}
theorem cH.trans (h:cH V W W' st st' w w')(u:cH V W' W2 st' st2 w' w2):cH V W W2 st st2 w w2:=by
 refine⟨λr=>⟨Cc (h.ver r).1 (u.ver r).1,λe=>?_⟩,λb Z=>?_,λk y=>u.nw k (h.nw k y),λk y=>?_,λhe r j l z H J=>?_⟩
 ·have z:=(h.ver r).1;have H:=(u.ver r).1;rw[(u.ver r).2 (by omega),(h.ver r).2 (by omega)]
 ·obtain⟨z,H⟩:=h.box b Z;obtain⟨J,X⟩:=u.box b z;exact⟨J,X.trans H⟩
 ·rw[u.heap k (y.imp (h.nw k) id),h.heap k y]
 ·have e1:=(h.ver EPO).1;have e2:=(u.ver EPO).1;have e3:=(h.ver r).1;have e4:=(u.ver r).1;obtain⟨⟨M,g1,R⟩,g6,O⟩:=u.epo (by omega) r j l z H (by omega);obtain⟨g5,I,Y⟩:=h.epo (by omega) r j M g1 R (by omega);exact⟨g5,g6.trans I,λk y=>(O k (by rw[I];exact y)).trans (Y k y)⟩
theorem qQ {n i:Nat}(H:i<n)(r:Nat->List Nat)(b u:List Nat)(z:∀ k,(r i).count k=b.count k+u.count k)(y:List Nat)(k:Nat) :
  (y++(CB n).flatMap r).count k=(y++(CB n).flatMap λj=>if j=i then b else r j).count k+u.count k:=by
 have:=kG H r b k;have:=z k;rw[BZ,BZ];omega
theorem OwH.out {G:Nat->Prop}{E E1:TypeId}{e e1:Ty}{xs:List e.den}{v:Value}{bs:List Nat}{i off:Nat}{y:e.den}{ys:List e1.den}(H:Ow w G E e xs v bs)(hy:xs[i]?=some y)(hg:bi off e 0 y=some ⟨E1,e1,ys⟩) :
  ∃ u Y M,OwH w G (some (i,off)) E e xs v M/\Ow w G E1 e1 ys u Y/\(∀ g O,v=.slice (some ⟨g,0,none⟩) xs.length O->w.cell? ⟨g,i*e.cells+off,none⟩=some u)/\∀ k,bs.count k=M.count k+Y.count k:=by
 obtain⟨a1,R,I,h1,h2,h3⟩:=H;have X:i<xs.length:=(BX.1 hy).1;obtain⟨c,hm,hc⟩:=h3 i y hy;have hm:Mx w G e none 0 y c (I i):=hm;obtain⟨u,Y,b',g1,g2,g3,g4⟩:=hm.out hg;have r:=qQ X I b' Y g4 v.ownBlock.toList;rw[<- h2]at r;have z:=bA.1 a1;refine⟨u,Y,v.ownBlock.toList++(CB xs.length).flatMap λj=>if j=i then b' else I j,⟨bA.2 λk=>by have:=z k;have:=r k;omega,R,_,h1,rfl,λj x Z=>?_⟩,
  ⟨bA.2 λk=>by have:=z k;have:=r k;omega,g1⟩,λg O hv=>?_,r⟩
 ·by_cases J:j=i
  ·subst J;rw[hy]at Z;simp only[BU]at Z;subst Z;refine⟨c,?_,hc⟩;simp only[cQ,Nat.beq_refl,cond_true,if_true];exact g3
  ·obtain⟨c',h4,h5⟩:=h3 j x Z;refine⟨c',?_,h5⟩;have:CE i j=false:=by
    cases hb:CE i j with
    |false=>rfl
    |true=>exact absurd (B5 hb).symm J
   simp only[cQ,this,cond_false,if_neg J];exact h4
 ·subst hv;have a2:=gF hg;have a0:i*e.cells+off<xs.length*e.cells:=by
   have:=CA e.cells (show i+1<=xs.length from X);rw[C5,Nat.one_mul]at this;omega
  rw[h1.cellAt _ a0];exact hc off u (by simpa using g2)
theorem OwH.back {G:Nat->Prop}{E E1:TypeId}{e e1:Ty}{xs:List e.den}{v u:Value}{bs bn:List Nat}{i off:Nat}{y z:e.den}{ys:List e1.den}(H:OwH w G (some (i,off)) E e xs v bs)(hn:Ow w G E1 e1 ys u bn)
  (hd:∀ k∈bn,k∉bs) (hy:xs[i]?=some y) (hs:bQ off E1 e1 ys e 0 y=some z) (I:∀ g M,v=.slice (some ⟨g,0,none⟩) xs.length M->w.cell? ⟨g,i*e.cells+off,none⟩=some u) :
  ∃ Y,Ow w G E e (xs.set i z) v Y/\∀ k,Y.count k=bs.count k+bn.count k:=by
 obtain⟨a4,a0,R,h1,h2,h3⟩:=H;have a2:i<xs.length:=(BX.1 hy).1;obtain⟨c,hm,hc⟩:=h3 i y hy;have X:cQ (some (i,off)) i=some off:=by simp[cQ]
 rw[X]at hm;have a7:=Mx.back.set_in hs;have a6:=hm.len;have J:c[off-0]?=some u:=by
  rcases h1.2 with ⟨rfl,h0⟩|⟨g,M,a5,_,rfl,_⟩
  ·omega
  ·have O:=I g M rfl;have a3:i*e.cells+off<xs.length*e.cells:=by
    have:=CA e.cells (show i+1<=xs.length from a2);rw[C5,Nat.one_mul]at this;omega
   rw[h1.cellAt _ a3]at O;have Z:off<c.length:=by omega
   have h6:=hc off _ (CG Z);rw[O]at h6;rw[DD,CG Z,h6]
 obtain⟨b1,g1,g2⟩:=Mx.back hn.2 hm hs J;have r:∀ k,(v.ownBlock.toList++(CB xs.length).flatMap λj=>if j=i then b1 else R j).count k=bs.count k+bn.count k:=by
  intro k;have O:=kG a2 R b1 k;have Z:=g2 k;rw[h2,BZ,BZ];omega
 refine⟨_,⟨(nl a4 hn.1 hd (λk=>DA (r k))).1,a0,_,by rw[Cg];exact h1,by rw[Cg],λj x hj=>?_⟩,r⟩;rcases aU _ _ _ _ _ hj with ⟨rfl,rfl,_⟩|⟨a1,hj⟩
 ·refine⟨c,?_,hc⟩;simp only[if_true];exact g1
 ·obtain⟨c',O,Z⟩:=h3 j x hj;refine⟨c',?_,Z⟩;have:CE i j=false:=by
   cases hb:CE i j with
   |false=>rfl
   |true=>exact absurd (B5 hb).symm a1
  have e0:cQ (some (i,off)) j=none:=by simp[cQ,this]
  rw[e0]at O;simp only[if_neg a1];exact O
theorem jf:GH<=TMP/\TMP<B0/\TMP≠EPO:=by decide
def tH (W:Wit)(S:St)(w:World)(r j:Nat)(v:Value):Prop :=
 r≠TMP/\r≠EPO/\∃ (i off:Nat) (p:Bool) (E:TypeId) (e:Ty) (y:List e.den) (g u:Nat),(S r).ls[j]?=some (.own p (some (i,off)) E e y)/\(W.cs r)[j]?=some (.slice (some ⟨g,0,none⟩) y.length u) /\
  g∈W.bs r j/\w.cell? ⟨g,i*e.cells+off,none⟩=some v
theorem vm (hV:ax V)(h:an P V W st a w){l l':Leaf}{U:Upd}{v:Value}(Z:aK P V W st w [] l v)(I:cr st l=some (U,l')) :
  ∃ W0 n p0 E0 e0 c2,an P V W0 (ac U st) a w/\cH V W W0 st (ac U st) w w/\l'=.al TMP 0 n/\aK P V W0 (ac U st) w [] l' v/\(ac U st TMP).ver=n/\(ac U st TMP).ls=[.own p0 none E0 e0 c2] /\
   W0.nw=W.nw/\W0.β=W.β/\(∀ q,q≠TMP->W0.cs q=W.cs q)/\W0.cs TMP=[v]/\(∀ q,(ac U st q).sh=(st q).sh\/q=TMP)/\tH W0 (ac U st) w (km l).1 (km l).2 v:=by
 cases l with
 |nal p ks ep cw E e xs =>
  simp only[cr]at I;cases a7:bw st ks ep with
  |false=>simp[a7]at I
  |true =>
   rw[a7]at I;simp only[cond_true]at I;split at I
   ·rename_i r j n0 i sz off;split at I
    ·rename_i M X J z hg;cases hb:!CE r TMP&&!CE r EPO&&CE sz J.cells with
     |false=>simp[hb]at I
     |true =>
      rw[hb]at I;simp only[cond_true]at I;simp only[BW,CL]at hb;obtain⟨⟨ba,c0⟩,a6⟩:=hb;have a6:=B5 a6;subst a6;have R:r≠TMP:=λe=>by subst e;simp at ba
      have b3:r≠EPO:=λe=>by subst e;simp at c0
      split at I
      ·rename_i y hy;split at I
       ·rename_i E1 e1 ys b1;simp only[BU,CX]at I;obtain⟨rfl,rfl⟩:=I;have b9:=pH a7 Z;obtain⟨r',j',n',b4,g,c3,b0,ad,cx,cu,O⟩:=b9.at_ i _ off rfl;simp only[Cx,CX,and_true]at b4;obtain⟨rfl,rfl,rfl⟩:=b4;have a0:(st r).ls[j]?=some (.own M none X J z):=by
         rw[CZ]at hg;cases H:(st r).ls[j]? with
         |none=>rw[H]at hg;simp at hg
         |some l0=>rw[H]at hg;simp at hg;rw[hg]
        have a3:=h.leaf r j _ _ a0 ad;have a3:Ow w (gd V W M) X J z _ (W.bs r j):=a3;have b5:c3=z.length:=by
         obtain⟨A,cc,e0,_⟩:=a3.slice;simp only[CT]at e0;exact e0.2.1
        subst b5;obtain⟨u,bn,bs',g1,g2,g3,g4⟩:=a3.out hy b1;have hu:u=v:=by
         have:=g3 g b0 rfl;rw[this]at O;exact Option.some.inj O
        subst hu;have bb:=bA.1 a3.1;have b2:∀ k∈bs',k∈W.bs r j:=λk hk=>B7.1 (by have:=g4 k;have:=B7.2 hk;omega)
        have a2:∀ k∈bn,k∈W.bs r j/\k∉bs':=λk hk=>by
         have h5:=g4 k;have h6:=B7.2 hk;have h7:=bb k;refine⟨B7.1 (by omega),λbx=>?_⟩;have:=B7.2 bx;omega
        have a1:∀ k∈W.bs r j,vk V W st r j k:=λk hk=>by
         have h9:=h.ownb r j _ a0 trivial k hk;exact⟨h9.1,h9.2.1,h9.2.2,λr1 i1 l1 a9 a5 a8 Y=>a8 (by obtain⟨e1,e2⟩:=h.sep r1 i1 l1 r j _ a9 a5 a0 trivial k Y hk;rw[e1,e2])⟩
        have hR:yl st (ac [(r,⟨(st r).ver,(st r).sh,aV (st r).ls j (.own M (some (i,off)) X J z)⟩)] (ac [(EPO,bY (st EPO))] st)) r j (.own M (some (i,off)) X J z):=by
         refine⟨λq=>?_,λq=>?_,?_,λq=>?_,λl Z=>?_,λq i' l H Z=>?_⟩
         ·rcases aj r q ⟨(st r).ver,(st r).sh,aV (st r).ls j (.own M (some (i,off)) X J z)⟩ (ac [(EPO,bY (st EPO))] st) with ⟨rfl,e⟩|⟨_,e⟩
          ·rw[e]
          ·rw[e];rcases aj EPO q (bY (st EPO)) st with ⟨rfl,e⟩|⟨_,e⟩ <;> rw[e];rfl
         ·rcases aj r q ⟨(st r).ver,(st r).sh,aV (st r).ls j (.own M (some (i,off)) X J z)⟩ (ac [(EPO,bY (st EPO))] st) with ⟨rfl,e⟩|⟨_,e⟩
          ·rw[e];exact CH _
          ·rw[e];rcases aj EPO q (bY (st EPO)) st with ⟨rfl,e⟩|⟨_,e⟩ <;> rw[e]
           ·exact Dj _
           ·exact CH _
         ·rw[aJ (Ck b3),br];exact B9 _
         ·rcases aj r q ⟨(st r).ver,(st r).sh,aV (st r).ls j (.own M (some (i,off)) X J z)⟩ (ac [(EPO,bY (st EPO))] st) with ⟨rfl,e⟩|⟨_,e⟩
          ·rw[e];simp[aV]
          ·rw[e];rcases aj EPO q (bY (st EPO)) st with ⟨rfl,e⟩|⟨_,e⟩ <;> rw[e];rfl
         ·rw[br]at Z;rcases aU _ _ _ _ _ Z with ⟨_,rfl,_⟩|⟨a8,_⟩
          ·rfl
          ·exact absurd rfl a8
         ·rcases aj r q ⟨(st r).ver,(st r).sh,aV (st r).ls j (.own M (some (i,off)) X J z)⟩ (ac [(EPO,bY (st EPO))] st) with ⟨rfl,e⟩|⟨_,e⟩
          ·rw[e]at Z;rcases aU _ _ _ _ _ Z with ⟨rfl,_,_⟩|⟨_,Z⟩
           ·exact absurd rfl H
           ·exact Z
          ·rw[e]at Z;rcases aj EPO q (bY (st EPO)) st with ⟨rfl,e⟩|⟨_,e⟩ <;> rw[e]at Z <;> exact Z
        have h1:=h.retell hV hR a0 trivial ad trivial (bs':=bs') g1 (λk hk=>a1 k (b2 k hk)) (λ_ _ _=>rfl) (CH _) rfl rfl rfl;have c4:cH V W (W.tell r j bs') st (ac [(r,⟨(st r).ver,(st r).sh,aV (st r).ls j (.own M (some (i,off)) X J z)⟩)] (ac [(EPO,bY (st EPO))] st)) w w :=
         ⟨λq=>⟨hR.ver q,λ_=>rfl⟩,λb hb=>⟨(iH hR.sh b).2 hb,rfl⟩,λ_ h=>h,λ_ _=>rfl,λhe=>by have:=hR.epo;omega⟩
        have bl:(ac [(r,⟨(st r).ver,(st r).sh,aV (st r).ls j (.own M (some (i,off)) X J z)⟩)] (ac [(EPO,bY (st EPO))] st) TMP).ver=(st TMP).ver:=by
         rw[aJ (Ck R),aJ jf.2.2]
        obtain⟨h2,c1⟩:=h1.putGhost hV TMP jf.1 jf.2.1 ((st TMP).ver+1) .one [.own (M&&J.shy) none E1 e1 ys] [u] (λ_=>bn) (by rw[bl];exact B9 _) rfl (λx hx=>by simp at hx;subst hx;exact g2.one)
         (λq l x H hx=>by
          cases q with
          |zero=>simp at H hx;subst H;subst hx;exact⟨g2.1,(OwB.shy g2.2).carry (bX (W':=W) (by intro hh;simp only[BW]at hh ⊢;exact⟨hh.1,nm b1 hh.2⟩) (λ_ h=>h)) (λ_ _=>rfl) (λ_ _=>rfl)⟩
          |succ q=>simp at H)
         (λq l H _ k hk=>by
          obtain⟨q1,q2,q3,q4⟩:=a1 k (a2 k hk).1;refine⟨q1,q2,λb hb=>q3 b ((iH hR.sh b).1 hb),λr1 i1 l1 _ a9 a5 Y=>?_⟩;by_cases H:(r1,i1)=(r,j)
          ·cases H;rw[show (W.tell r j bs').bs r j=bs' from if_pos rfl]at Y;exact (a2 k hk).2 Y
          ·rw[show (W.tell r j bs').bs r1 i1=W.bs r1 i1 from if_neg H]at Y;exact q4 r1 i1 l1 (hR.old r1 i1 l1 H a9) a5 H Y)
         (λq q' l l2 h1 h2 h3 h4 k h5 h6=>by
          have h7:q<1:=(BX.1 h1).1;have h8:q'<1:=(BX.1 h3).1;omega)
        have a4:ac [(r,⟨(st r).ver,(st r).sh,aV (st r).ls j (.own M (some (i,off)) X J z)⟩),(TMP,⟨(st TMP).ver+1,.one,[.own (M&&J.shy) none E1 e1 ys]⟩),(EPO,bY (st EPO))] st =
          ac [(TMP,⟨(st TMP).ver+1,.one,[.own (M&&J.shy) none E1 e1 ys]⟩)] (ac [(r,⟨(st r).ver,(st r).sh,aV (st r).ls j (.own M (some (i,off)) X J z)⟩)] (ac [(EPO,bY (st EPO))] st)):=by
         rw[aR r,aR TMP,nj R]
        rw[a4];refine⟨_,_,_,_,_,_,h2,c4.trans c1,rfl,⟨by rw[br];exact CH _,λ_=>by simp⟩,by rw[br],by rw[br],rfl,rfl,λq H=>by simp[H,Wit.tell],by simp,λq=>?_,R,b3,i,off,M,X,J,z,g,b0,?_,?_,?_,O⟩
        ·by_cases H:q=TMP
         ·exact .inr H
         ·rw[aJ H];exact .inl (hR.sh q)
        ·show (ac [(TMP,_)] _ r).ls[j]?=_;rw[aJ R,br];simp only[aV];rw[Cr (BX.1 a0).1]
        ·show (if r=TMP then _ else W.cs r)[j]?=_;rw[if_neg R];exact ad
        ·show g∈(if r=TMP then _ else (W.tell r j bs').bs r j);rw[if_neg R,show (W.tell r j bs').bs r j=bs' from if_pos rfl];obtain⟨_,cb,cp,_,q2,_⟩:=g1;rw[q2];simp[CP]
       ·cases I
      ·cases I
    ·cases I
   ·cases I
 |_=>simp[cr]at I
theorem ic {R:Type}(l:Leaf)(I:Upd->Leaf->Option R):l6 st l I=(cr st l).bind λu=>I u.1 u.2:=by
 cases l with
 |nal p X ep M E e Z =>
  simp only[l6,cr];cases bw st X ep with
  |false=>rfl
  |true =>
   simp only[cond_true];split
   ·rename_i r j n i O off;split
    ·rename_i p' Y J z _;cases !CE r TMP&&!CE r EPO&&CE O J.cells with
     |false=>rfl
     |true =>
      simp only[cond_true];have H:idx z (i:Int)=z[i]?:=by
       unfold idx;rw[if_neg (by omega)];simp
      rw[H];cases z[i]? with
      |none=>rfl
      |some y =>
       simp only[Option.bind_some];cases bi off J 0 y with
       |none=>rfl
       |some u=>rfl
    ·rfl
   ·rfl
 |_=>rfl
end
theorem rI {w:World}{α:Type}{s g:Nat}:∀ (M:List α) (o:Nat) (Q:Nat->α->List Value->Prop),(∀ j x c,Q j x c->c.length=s/\∀ u∈c,u.oneCell'=true)->(∀ (j:Nat) (x:α),M[j]?=some x->∃ c,Q j x c/\c7 w g (o+j*s) c) ->
  ∃ r:List Value,r.length=M.length*s/\(∀ j u,r[j]?=some u->w.cell? ⟨g,o+j,none⟩=some u)/\(∀ u∈r,u.oneCell'=true) /\
   ∀ (j:Nat) (x:α),M[j]?=some x->∃ c,Q j x c/\∀ i u,c[i]?=some u->r[j*s+i]?=some u
 |[],o,_,_,_=>⟨[],by simp,by simp,by simp,by simp⟩
 |y::M,o,Q,hQ,h=>by
  obtain⟨c,hr,hc⟩:=h 0 y rfl;obtain⟨r,h1,h2,h3,h4⟩:=rI M (o+s) (λj=>Q (j+1)) (λj=>hQ (j+1)) (λj x z=>by
   obtain⟨Y,I,H⟩:=h (j+1) x (by simpa using z);refine⟨Y,I,?_⟩;rw[CW]at H;have:o+s+j*s=o+(j*s+s):=by omega
   rw[this];exact H)
  obtain⟨a0,R⟩:=hQ 0 y c hr;refine⟨c++r,by rw[CF,h1,a0,C9,CW];omega,?_,?_,?_⟩
  ·intro j u z;by_cases X:j<c.length
   ·rw[B4 X]at z;have:=hc j u z
    rwa [Dc,Ca]at this
   ·rw[B3 (by omega)]at z;have:=h2 (j-c.length) u z;have e1:o+s+(j-c.length)=o+j:=by omega
    rwa [e1]at this
  ·intro u J;rcases B8.1 J with J|J
   ·exact R u J
   ·exact h3 u J
  ·intro j x z;cases j with
   |zero =>
    simp at z;subst z;refine⟨c,hr,λi u O=>?_⟩;have Z:=(BX.1 O).1;rw[Dc,Cl,B4 Z];exact O
   |succ j =>
    obtain⟨Y,I,H⟩:=h4 j x (by simpa using z);refine⟨Y,I,λi u O=>?_⟩;rw[CW,B3 (by omega)];rw[<- H i u O];congr 1;omega
theorem j9 {P:Program}(g o:Nat)(t:TypeId)(mk:Nat×Nat):∀ (y:List Value) (i:Nat) (cur:Array Value) (w:World),w.heap[g]?=some (.cells cur t mk)->(mk.2=0\/cur.size<=mk.1)->o+i+y.length<=cur.size->(∀ v∈y,v.oneCell'=true) ->
  (storeCells ⟨g,o,none⟩ y i).run P w=.ok () (w.setRow g (cur.toList.take (o+i)++y++cur.toList.drop (o+i+y.length)).toArray)
 |[],i,cur,w,u,_,_,_=>by
  simp only[storeCells,CN,Cv,Ca,List.take_append_drop,CQ];rw[setRow_self w g cur t mk u];rfl
 |v::r,i,cur,w,u,M,I,J=>by
  have O:o+i<cur.size:=by simp at I;omega
  have z:(⟨g,o,none⟩:Addr).add i=⟨g,o+i,none⟩:=by unfold Addr.add;split <;> simp_all
  have H:(store ((⟨g,o,none⟩:Addr).add i) v).run P w=.ok () (w.setRow g (cur.setIfInBounds (o+i) v)):=by
   rw[z,run_store P w _ v _ (J v (by simp)),cell_of_row w g _ cur t mk u,Array.getElem?_eq_getElem O];simp[rh u M O,setCell_eq_setRow w g (o+i) cur t mk v u]
  have X:=j9 (P:=P) g o t mk r (i+1) (cur.setIfInBounds (o+i) v) (w.setRow g (cur.setIfInBounds (o+i) v)) (setRow_heap w g cur _ t _ u) (by simpa using M) (by simp at I ⊢;omega) (λx R=>J x (by simp[R]));simp only[storeCells,DX,H,C4,X,setRow_setRow];congr 3;have e:=list_seg_step cur.toList (o+i) v r (by simp at I ⊢;omega);simpa[Array.toList_setIfInBounds,Dw]using e
theorem nn {P:Program}(w:World)(t ty e:TypeId)(i:TypeInfo)(ht:P.underlying t=some (.slice e))(hi:P.info? e=some i)
  (g y z:Nat) (cur:Array Value) (mk:Nat×Nat) (Y:w.heap[g]?=some (.cells cur e mk)) (R:mk.2=0\/cur.size<=mk.1)
  (a:Addr) (m c:Nat) (r:List Value) (Z:r.length=m*i.size) (H:∀ j u,r[j]?=some u->w.cell? (a.add j)=some u) (O:∀ u∈r,u.oneCell'=true)
  (I:y+m<=z) (J:y*i.size+r.length<=cur.size) :
  (CV #[t,t] ty #[.slice (some ⟨g,0,none⟩) y z,.slice (some a) m c]).run P w =
   .ok (.slice (some ⟨g,0,none⟩) (y+m) z) (w.setRow g (cur.toList.take (y*i.size)++r++cur.toList.drop (y*i.size+r.length)).toArray):=by
 have X:=run_firstCells_some (P:=P) w i.size m a m c r Z H;have M:=j9 (P:=P) g (y*i.size) e mk r 0 cur w Y R (by simpa using J) O;simp only[Ca]at M;simp[CV,run_underlying ht,sizeOf,typeInfo,hi,C7,I,X,Addr.add_lit,M]
theorem dO {P:Program}(w:World)(t ty e:TypeId)(i:TypeInfo)(z:Value)(size Z:Nat)(ht:P.underlying t=some (.slice e))(hi:P.info? e=some i)(hz:i.zero=some z)
  (a3:i.size=size) (b1:i.bytes=Z) (b0:z.cells.size=size)
  (v:Value) (n:Nat) (xs:List Value) (y:Row w e size v n xs)
  (a:Addr) (m c:Nat) (r:List Value) (hl:r.length=m*size) (I:∀ j u,r[j]?=some u->w.cell? (a.add j)=some u) (h1:∀ u∈r,u.oneCell'=true)
  (a7:n+m<=maxLen) (M:(n+m)*Z<=140737488355328) :
  ∃ v' w',(CV #[t,t] ty #[v,.slice (some a) m c]).run P w=.ok v' w'/\Row w' e size v' (n+m) (xs++r)/\w.grownBy w' v.ownBlock/\(v'.ownBlock=v.ownBlock\/v'.ownBlock=some w.heap.size):=by
 subst a3;subst b1;have ad:n+m<=9223372036854775807:=by simp only[maxLen]at a7;omega
 have O:(xs++r).length=(n+m)*i.size:=by rw[CF,y.1,hl,C5]
 have a0:∀ (H:Nat),H<n+m->∀ (a9:Option Nat),
   Row (w.drew.alloc (.cells (xs.toArray++r.toArray++Dd z.cells (grownCap w (n+m) H e-(n+m))) e)) e i.size
    (.slice (some ⟨w.heap.size,0,none⟩) (n+m) (grownCap w (n+m) H e)) (n+m) (xs++r) /\
   w.grownBy (w.drew.alloc (.cells (xs.toArray++r.toArray++Dd z.cells (grownCap w (n+m) H e-(n+m))) e)) a9:=by
  intro H ho a9;have b2:=grownCap_ge w (n+m) H e;have a1:grownCap w (n+m) H e<=maxLen:=grownCap_le_maxLen w (n+m) H e a7;refine⟨⟨O,.inr ⟨w.heap.size,_,_,_,rfl,heap_alloc_new w.drew _,b2,.inl ⟨rfl,a1⟩,?_,?_⟩⟩,⟨rfl,rfl,rfl,by simp,λk hk _=>Go.heap_alloc_old w.drew _ hk⟩⟩
  ·simp only[DY,Cq,size_zeroCells,b0,y.1,hl,<- C5];exact CA _ (by omega)
  ·simp only[DQ,CD];rw[<- CD,<- O];exact Du
 rcases y.2 with ⟨rfl,rfl⟩|⟨g,R,X,mk,rfl,hg,b3,a1,a8,a5⟩
 ·have hx:xs=[]:=CI (by simpa using y.1);subst hx;by_cases hm:m=0
  ·subst hm;have hn:r=[]:=CI (by simpa using hl);subst hn;refine⟨.slice none 0 0,w,?_,Row.nil w e i.size,⟨rfl,rfl,rfl,CH _,λ_ _ _=>rfl⟩,.inl rfl⟩;simp[CV,run_underlying ht,sizeOf,typeInfo,hi,C7,C0,loadCells,loadCellsFrom]
  ·have hr:=run_append_nil (P:=P) w t ty e i z ht hi hz a m c r hl I (by omega) (by omega) (by have hb:=M;simp only[Cl]at hb;omega);have Y:=a0 0 (by omega) (CP (.slice none 0 0));simp only[Cl,Dr,Array.empty_append]at Y ⊢;exact⟨_,_,hr,Y.1,Y.2,.inr rfl⟩
 ·by_cases J:n+m<=R
  ·have a6:n*i.size+r.length<=X.size:=by rw[hl,<- C5];exact Cc (CA _ J) a8
   have hr:=nn (P:=P) w t ty e i ht hi g n R X mk hg (zV a1) a m c r hl I h1 J a6;have a2:(X.toList.take (n*i.size)++r++X.toList.drop (n*i.size+r.length)).toArray.size=X.size:=by
    simp only[Cq,CF,CO,C8,CU];omega
   refine⟨_,_,hr,⟨O,.inr ⟨g,R,_,mk,rfl,setRow_heap w g X _ e _ hg,J,a1.imp id (λh=>⟨h.1,?_⟩),?_,?_⟩⟩,⟨rfl,rfl,rfl,by simp,λk _ hk=>setRow_other w g k _ (λe=>hk (by simp[CP,e]))⟩,.inl rfl⟩
   ·rw[a2];exact h.2
   ·rw[a2];exact a8
   ·rw[a5,<- O];exact Du
  ·have a4:∀ j u,xs[j]?=some u->w.cell? ((⟨g,0,none⟩:Addr).add j)=some u:=λj u hj=>by
    rw[fm,Cl,y.cellAt _ (by rw[<- y.1];exact (BX.1 hj).1)];exact hj
   have hr:=run_append_grow (P:=P) w t ty e i z ht hi hz ⟨g,0,none⟩ n R xs y.1 a4 a m c r hl I (by omega) (by omega) (growslice_fits (by omega) M);have Y:=a0 R (by omega) (CP (.slice (some ⟨g,0,none⟩) n R));exact⟨_,_,hr,Y.1,Y.2,.inr rfl⟩
theorem nq {P:Program}(w:World)(t ty e:TypeId)(i:TypeInfo)(size c:Nat)(y:P.underlying t=some (.slice e))(z:P.info? e=some i)
  (v:Value) (n:Nat) (xs:List Value) (r:Row w e size v n xs) :
  (CV #[t,t] ty #[v,.slice none 0 c]).run P w=.ok v w:=by
 rcases r.2 with ⟨rfl,rfl⟩|⟨g,H,I,_,rfl,_,u,_⟩
 ·simp[CV,run_underlying y,sizeOf,typeInfo,z,C7,C0]
 ·simp[CV,run_underlying y,sizeOf,typeInfo,z,C7,C0,u,storeCells]
theorem js {α:Type}{f g:α->List Nat}:∀ {l:List α},(∀ x∈l,f x=g x)->l.flatMap f=l.flatMap g
 |[],_=>rfl
 |x::l,h=>by rw[Ci,Ci,h x (CJ ..),js (λy r=>h y (CC _ r))]
theorem zD (n m:Nat)(f g:Nat->List Nat):(CB (n+m)).flatMap (λj=>if j<n then f j else g (j-n))=(CB n).flatMap f++(CB m).flatMap g:=by
 rw[List.range_add,List.flatMap_append,Df];congr 1
 ·refine js λj r=>?_
  rw[if_pos (DL.1 r)]
 ·refine js λj _=>?_
  rw[if_neg (by omega),show n+j-n=j by omega]
def wB (w:World)(G:Nat->Prop)(e:Ty)(z:List e.den)(u:Value)(y:Nat->List Nat):Prop :=
 ∃ A r,u=.slice A z.length r/\(0<z.length->∃ g o,A=some ⟨g,o,none⟩/\∀ j (x:e.den),z[j]?=some x->∃ c,Mx w G e none 0 x c (y j)/\c7 w g (o+j*e.cells) c)
section
variable {P:Program} {V:Env} {Γ:List Ctr} {T:TypeId->TI} {st:St} {o:Oper} {R:Type} {κ:Upd->Option R} {r:R}
theorem wC {w:World}{t ty E:TypeId}{e e':Ty}{I:Nat}(bl:oS P t (.slice E e I))(a7:e'.cells=e.cells){G G2 G':Nat->Prop}{xs H:List e'.den}{v u:Value}{bs:List Nat}{M:Nat->List Nat}(hx:Ow w G E e' xs v bs)
  (hy:wB w G2 e' H u M) (b4:(xs.length+H.length)*I<=ak) (hG:∀ k,G k->G' k) (a9:∀ k,G2 k->G' k) (b5:∀ k,G' k->k<w.heap.size/\v.ownBlock≠some k) (c4:∀ j,j<H.length->∀ k∈M j,v.ownBlock≠some k) :
  ∃ Y O J,(CV #[t,t] ty #[v,u]).run P w=.ok Y O/\w.grownBy O v.ownBlock/\OwB O G' none E e' (xs++H) Y J /\
   ∀ k,J.count k<=bs.count k+(((CB H.length).flatMap M)++[w.heap.size]).count k:=by
 obtain⟨hu,_,_,cc,c2,ti,z,hi,hs,hb,hz,cb⟩:=bl;obtain⟨b9,X,a4,ho,b3,bb⟩:=hx;obtain⟨A,b1,ba,a8⟩:=hy;subst ba;have c1:ti.size=e'.cells:=by rw[a7];exact hs
 have a3:∀ (O:World),w.grownBy O v.ownBlock->∀ k,G' k->O.heap[k]?=w.heap[k]?:=λO Z k hk=>Z.block k (b5 k hk).1 (Ck (b5 k hk).2)
 have c3:xs.length+H.length<=maxLen:=by
  have h1:(xs.length+H.length)*1<=(xs.length+H.length)*I:=Cy _ c2.1;have:=my;simp only[ak]at b4;omega
 have b2:∀ (y:List Value),(∀ (j:Nat) (x:e'.den),H[j]?=some x->∃ c,Mx w G2 e' none 0 x c (M j)/\∀ i u,c[i]?=some u->y[j*e'.cells+i]?=some u) ->
   ∀ Y O,Row O E e'.cells Y (xs.length+H.length) (X++y)->w.grownBy O v.ownBlock->(Y.ownBlock=v.ownBlock\/Y.ownBlock=some w.heap.size) ->
    ∃ J,OwB O G' none E e' (xs++H) Y J/\∀ k,J.count k<=bs.count k+(((CB H.length).flatMap M)++[w.heap.size]).count k:=by
  intro y hn Y O a6 Z a5;refine⟨Y.ownBlock.toList++(CB (xs.length+H.length)).flatMap (λj=>if j<xs.length then a4 j else M (j-xs.length)),⟨X++y,_,by rw[CF];exact a6,by rw[CF],λj x hj=>?_⟩,λk=>?_⟩
  ·by_cases a2:j<xs.length
   ·rw[B4 a2]at hj;obtain⟨c,hr,hc⟩:=bb j x hj;have hr:Mx w G e' none 0 x c (a4 j):=hr;refine⟨c,?_,λi u hi=>?_⟩
    ·rw[if_pos a2];refine hr.carry hG (λk hk=>a3 O Z k (hG k hk)) λk hk=>Z.block k (hr.lt k hk) (λe0=>?_)
     have h5:=bA.1 b9 k;rw[b3,<- e0,BZ]at h5;have h6:0<((CB xs.length).flatMap a4).count k:=B7.2 (d6.2 ⟨j,a2,hk⟩);simp at h5;omega
    ·have:=hc i u hi;rw[B4 (BX.1 this).1];exact this
   ·rw[B3 (by omega)]at hj;obtain⟨c,hr,hc⟩:=hn _ x hj;have bn:=(BX.1 hj).1;refine⟨c,?_,λi u hi=>?_⟩
    ·rw[if_neg a2];exact hr.carry a9 (λk hk=>a3 O Z k (a9 k hk)) λk hk=>Z.block k (hr.lt k hk) (Ck (c4 _ bn k hk))
    ·have:=hc i u hi;have b0:=ho.1;have cp:xs.length*e'.cells<=j*e'.cells:=CA _ (Nat.le_of_not_lt a2);rw[B3 (by omega),<- this,b0,Nat.sub_mul];congr 1;omega
  ·rw[zD,b3];simp only[BZ];rcases a5 with h5|h5
   ·rw[h5];omega
   ·rw[h5];simp only[DT];omega
 cases A with
 |none =>
  have a1:H.length=0:=by
   rcases DU H.length with h|h
   ·exact h
   ·obtain⟨g,o,hA,_⟩:=a8 h;cases hA
  have a1:=CI a1;subst a1;have a0:=nq (P:=P) w t ty E ti e'.cells b1 hu hi v xs.length X ho;have Z:w.grownBy w v.ownBlock:=⟨rfl,rfl,rfl,CH _,λ_ _ _=>rfl⟩;obtain⟨J,h1,h2⟩:=b2 [] (by simp) v w (by simpa using ho) Z (.inl rfl);exact⟨v,w,J,a0,Z,h1,h2⟩
 |some ad =>
  have bx:∃ y:List Value,y.length=H.length*e'.cells/\(∀ j u,y[j]?=some u->w.cell? (ad.add j)=some u)/\(∀ u∈y,u.oneCell'=true) /\
    ∀ (j:Nat) (x:e'.den),H[j]?=some x->∃ c,Mx w G2 e' none 0 x c (M j)/\∀ i u,c[i]?=some u->y[j*e'.cells+i]?=some u:=by
   rcases DU H.length with h|h
   ·have a1:=CI h;subst a1;exact⟨[],by simp,by simp,by simp,by simp⟩
   ·obtain⟨g,o,hA,he⟩:=a8 h;simp at hA;subst hA;obtain⟨y,h1,h2,h3,h4⟩:=rI H o (λj x c=>Mx w G2 e' none 0 x c (M j)) (λj x c hq=>⟨hq.len,hq.one⟩) he;exact⟨y,h1,λj u hj=>by rw[fm];exact h2 j u hj,h3,h4⟩
  obtain⟨y,h1,h2,h3,h4⟩:=bx;have c0:z.cells.size=e'.cells:=by
   have h2:=(lS w (λ_=>False) e).len;rw[<- CU,cb,h2,a7]
  obtain⟨Y,O,a0,a6,Z,a5⟩:=dO (P:=P) w t ty E ti z e'.cells I hu hi hz c1 hb c0 v xs.length X ho ad H.length b1 y h1 h2 h3 c3 (by simpa[ak]using b4);obtain⟨J,h5,h6⟩:=b2 y h4 Y O a6 Z a5;exact⟨Y,O,J,a0,Z,h5,h6⟩
theorem wD {W:Wit}{a:Act}{w:World}(h:an P V W st a w){E:TypeId}{e:Ty}{y:Leaf}{u:Value}{t:cP (List e.den)}(hl:aD P V W st w [y] [u])(H:gb st E e y=some t) :
  (∃ I,wB w (bu V W t.p t.frz) e t.val u I/\∀ k,((CB t.val.length).flatMap I).count k<=(bc W t.kill).count k)/\(∀ x∈t.frz,aC st x)/\(∀ x∈t.kill,aC st x):=by
 have z:∀ {p q:Bool} {O:List e.den} {ks:List (Nat×Nat)},dp e (aE st y)=some (p,O)->(∀ (S:Nat->Prop) (x:e.den) (c:List Value),Rd w (bu V W p (bC st [y])) e x c->Mx w (bu V W q ks) e none 0 x c []) ->
   ∃ I,wB w (bu V W q ks) e O u I/\∀ k,((CB O.length).flatMap I).count k<=(bc W []).count k:=by
  intro p q O ks Y hm;obtain⟨A,M,hu,_,hx⟩:=kQ (m:=false) (E:=E) h hl.1.1 hl.1.2.1 Y;have hu:u=.slice A O.length M:=by simpa using hu
  refine⟨(λ_=>[]:Nat->List Nat),⟨A,M,hu,λhp=>?_⟩,λk=>by rw[show ((CB O.length).flatMap λ_=>([]:List Nat))=[] from by simp];exact Dk _⟩;obtain⟨g,o',hA,_,a0⟩:=hx hp;exact⟨g,o',hA,λj x hj=>by
   obtain⟨c,hr,hc⟩:=a0 j x hj;exact⟨c,hm (λ_=>True) x c hr,hc⟩⟩
 unfold gb at H;cases hf:e.flat with
 |true =>
  rw[hf]at H;simp only[cond_true,BV]at H;obtain⟨⟨p,O⟩,Y,rfl⟩:=H;exact⟨z Y (λ_ x c hr=>Mx.flat hf hr),by simp,by simp⟩
 |false =>
  rw[hf]at H;simp only[cond_false]at H;cases hs:decide (e.sh=e) with
  |true =>
   rw[hs]at H;simp only[cond_true,BV]at H;obtain⟨⟨p,O⟩,Y,rfl⟩:=H;exact⟨z Y (λ_ x c hr=>Mx.shared (of_decide_eq_true hs) hr),λx hx=>ez hl hx,by simp⟩
  |false =>
   rw[hs]at H;simp only[cond_false,BV]at H;obtain⟨J,Y,rfl⟩:=H;obtain⟨h1,h2,h3⟩:=dW (pos:=0) h hl Y;have h1:Mx w (bu V W J.p J.frz) (.list true E e) none 0 J.val [u] (bc W J.kill):=h1;rw[bM (by simp)]at h1;obtain⟨v,Z,a1,X,h4,h5,h6⟩:=h1;simp only[Cx,and_true]at Z;subst Z;refine⟨⟨X,?_,λk=>?_⟩,h2,h3⟩
   ·rcases h4.2 with ⟨hn,h0⟩|⟨g,M,a3,_,Z,hg,a2,_⟩
    ·exact⟨none,0,by rw[hn];show _=Value.slice none (Dm J.val) 0;rw[h0],λhp=>by have hp:0<Dm J.val:=hp;omega⟩
    ·refine⟨some ⟨g,0,none⟩,M,Z,λhp=>⟨g,0,rfl,λj x hj=>?_⟩⟩;obtain⟨c,h7,h8⟩:=h6 j x hj;have h7:Mx w (bu V W J.p J.frz) e none 0 x c (X j):=h7;refine⟨c,h7,λi u hi=>?_⟩;have h9:=h8 i u hi;rw[Cl];rw[Z]at h4;rw[h4.cellAt _ (by rw[<- h4.1];exact (BX.1 h9).1)];exact h9
   ·show ((CB (Dm J.val)).flatMap X).count k<=(bc W J.kill).count k;rw[h5,BZ];omega
theorem AV {l l':Leaf}{U:Upd}(u:cr st l=some (U,l')):∃ n,l'=.al TMP 0 n:=by
 cases l with
 |nal p J ep H E e Z =>
  simp only[cr]at u;cases y:bw st J ep with
  |false=>simp[y]at u
  |true =>
   rw[y]at u;simp only[cond_true]at u;split at u
   ·rename_i r j n0 i I off;split at u
    ·rename_i p' X M O Y;cases z:!CE r TMP&&!CE r EPO&&CE I M.cells with
     |false=>simp[z]at u
     |true =>
      rw[z]at u;simp only[cond_true]at u;split at u
      ·split at u
       ·simp only[BU,CX]at u;exact⟨_,u.2.symm⟩
       ·cases u
      ·cases u
    ·cases u
   ·cases u
 |_=>simp[cr]at u
theorem wE (hV:ax V)(hT:TOk P T)(cc:bR V o){c:Call}(bn:o.op=.call c)(hc:c.callee=.builtin .append)(h:act Γ T o st κ=some r):bZ P V o st κ r:=by
  simp only[act,wrU,bn,hc]at h;split at h
  · cases h
  · rename_i d hd
    split at h
    · rename_i x y t u a2 a8
      split at h
      · rename_i E e a0 ht
        cases a5:CE t u with
        |false=>simp[a5]at h
        |true =>
          simp only[a5,cond_true]at h;have a5:=B5 a5;subst a5;have c0:=hT t;rw[ht]at c0;have a2:c.args=#[x,y]:=by rw[<- CQ (xs:=c.args),a2]
          have a8:c.argTypes=#[t,t]:=by rw[<- CQ (xs:=c.argTypes),a8]
          have ba:∀ (a:Act) (w w':World) (v:Value),(CV #[t,t] o.type #[a.eval x,a.eval y]).run P w=.ok v w'->(execOp a.eval o).run P w=.ok (.value v) w':=by
            intro a w w' v Z;simp[execOp,bn,hc,resolve,invoke,builtin,a2,a8,Z]
          have b5:∀ (I:Upd) (E':TypeId) (e':Ty) (p:Bool) (xs:List e'.den) (ks:List (Nat×Nat)),E'=E->e'.sh=e.sh->d5 st (ac I st) I d E' e' a0 p xs ks (one st y) κ=some r ->
              ∃ U,κ U=some r/\∀ (Y:Wit) (a:Act) (w:World),an P V Y (ac I st) a w->aD P V Y (ac I st) w [one st y] [a.eval y]->(∀ x∈ks,aC (ac I st) x)->Ow w (gd V Y p) E' e' xs (a.eval x) (bc Y ks)->mQ P V o st U a w:=by
            intro I E' e' p xs ks hE he J;subst hE;unfold d5 at J;split at J
            · rename_i t1 d2
              cases X:be (t1.kill++ks)&&dJ t1.frz (t1.kill++ks)&&decide ((xs.length+t1.val.length)*a0<=ak) with
              |false=>simp[X]at J
              |true =>
                simp only[X,cond_true]at J;simp only[BW,decide_eq_true_eq]at X;obtain⟨⟨cw,d1⟩,bb⟩:=X;refine⟨_,J,λY a w Z a3 d3 cp next Q hn=>?_⟩;obtain⟨⟨c3,cx,b3⟩,hf,cy⟩:=wD Z a3 d2;have bx:∀ x∈t1.kill++ks,aC (ac I st) x:=λx hx=>(B8.1 hx).elim (cy x) (d3 x)
                obtain⟨h1,_,_,h4⟩:=fT hV Z d1 bx;have b4:=gY Z cw bx;rw[dQ]at b4 h4;have O:∀ k∈bc Y t1.kill++bc Y ks,¬ ch V (Y.frz (ac I st) t1.frz) _ k:=λk H=>mw ⟨(h4 k H).1,(h4 k H).2.1,(h4 k H).2.2.2.1,(h4 k H).2.2.2.2⟩
                rw[Cb]at b4;obtain⟨c1,cu,b1⟩:=b4;have b9:∀ k,(a.eval x).ownBlock=some k->k∈bc Y ks:=by
                  intro k H;obtain⟨_,dd,e2,_,bb,_⟩:=cp;rw[bb,H];simp
                have c2:∀ k,gd V (Y.frz (ac I st) t1.frz) (p||t1.p) k->ch V (Y.frz (ac I st) t1.frz) (ac (aO (ac (aF (ac I st) t1.frz) (ac I st)) (t1.kill++ks)++aF (ac I st) t1.frz) (ac I st)) k:=by
                  rintro k (H|⟨_,H⟩)
                  · exact .inl H
                  · exact .inr (.inl (hV.ro k H))
                have a6:∀ k∈(CB t1.val.length).flatMap c3,k∈bc Y t1.kill:=λk H=>B7.1 (by have:=b3 k;have:=B7.2 H;omega)
                obtain⟨v',w',e3,c4,hg,cb,bl⟩:=wC (P:=P) (t:=t) (ty:=o.type) c0 (im he) cp cx bb (G':=gd V (Y.frz (ac I st) t1.frz) (p||t1.p))
                  (bX (W':=Y.frz (ac I st) t1.frz) (by intro h;simp[h]) (λ_ h=>Or.inl h))
                  (λk H=>bX (W':=Y.frz (ac I st) t1.frz) (by intro h;simp[h]) (λ_ h=>h) k (kw hf k H))
                  (λk H=>⟨h1.used_lt k (c2 k H),λe1=>O k (BY _ (b9 k e1)) (c2 k H)⟩)
                  (λj hj k H e1=>b1 k (a6 k (d6.2 ⟨j,hj,H⟩)) k (b9 k e1) rfl)
                have b2:=nl (bs:=bc Y ks) (K:=(CB t1.val.length).flatMap c3++[w.heap.size]) cu
                  (bA.2 λk=>by
                    rw[BZ];have h5:=b3 k;have h6:=bA.1 c1 k;by_cases H:k=w.heap.size
                    · subst H
                      have:(bc Y t1.kill).count w.heap.size=0:=CM.2 (λhm=>by have:=(h4 _ (B6 _ hm)).2.2.1;omega);simp;omega
                    · have:List.count k [w.heap.size]=0:=CM.2 (by simp[H])
                      omega)
                  (λk H hm=>by
                    rcases B8.1 H with H|H
                    · exact b1 k (a6 k H) k hm rfl
                    · simp at H
                      subst H;have:=(h4 _ (BY _ hm)).2.2.1;omega) bl
                refine d7 (ba a w w' v' c4) ?_;rw[hd];refine hn _ _ ?_;rw[ck,aR,bF];refine h1.putOwn hV hg.size hg.os hg.tape hg.output (λk H=>hg.block k (h1.used_lt k H) (λe1=>O k (BY _ (b9 k e1.symm)) H)) d (cc d hd).1 (cc d hd).2 _ (B9 _) ⟨b2.1,cb⟩ (λk H hu=>?_);rcases b2.2 k H with H|H
                · exact O k (BY _ H) hu
                · rcases B8.1 H with H|H
                  · exact O k (B6 _ (a6 k H)) hu
                  · simp at H
                    have:=h1.used_lt k hu;omega
            · cases J
          have a4:∀ (I:Upd) (x':Leaf),eH st I d E e a0 x' (one st y) κ=some r->one st y≠.dead:=by
            intro I x' h e1;rw[e1]at h;unfold eH at h;split at h
            · split at h
              · rename_i p E' e' ad b0
                cases X:CE E' E&&decide (e'.sh=e.sh) with
                |false=>simp[X]at h
                |true =>
                  simp only[X,cond_true,d5,gb,aE,dp,DG,cn,take]at h;cases e'.flat <;> cases decide (e'.sh=e') <;> simp at h
              · cases h
            · simp only[d5,gb,aE,dp,DG,cn,take]at h
              cases e.flat <;> cases decide (e.sh=e) <;> simp at h
            · cases h
          simp only[iC]at h;cases hn:jz (one st x) with
          |true =>
            rw[hn]at h;simp only[cond_true]at h;rw[ic]at h;obtain⟨⟨I,x'⟩,a9,h⟩:=CR.1 h;have a4:=a4 _ _ h;simp only[eH]at h;split at h
            · rename_i r' j n
              split at h
              · rename_i p' E' e' ad b0
                cases X:CE E' E&&decide (e'.sh=e.sh) with
                |false=>simp[X]at h
                |true =>
                  simp only[X,cond_true]at h;simp only[BW,decide_eq_true_eq]at X;obtain⟨U,hU,hg⟩:=b5 I E' e' p' ad [(r',j)] (B5 X.1) X.2 h;refine⟨U,hU,λW a w Z=>?_⟩;obtain⟨a1,_,_,_,_⟩:=bz Z x (by intro e1;rw[e1]at hn;simp[jz]at hn);obtain⟨Y,n0,p0,E0,e0,e4,g1,g2,g3,g4,_⟩:=vm hV Z a1 a9;obtain⟨a3,M,a7,_,_⟩:=bz Z y a4;obtain⟨h5,h6,h7,h8⟩:=ku g1 b0 g4;exact hg Y a w g1 ⟨⟨a3.carry hV.ro g2 (λho=>absurd ho M),M,a7⟩,trivial⟩ (λz hz=>by simp at hz;subst hz;exact⟨_,h7,trivial⟩) (by simpa[bc]using h6)
              · cases h
            · exfalso
              obtain⟨n,dc⟩:=AV a9;cases dc
            · cases h
          |false =>
            rw[hn]at h;simp only[cond_false]at h;have a4:=a4 _ _ h;simp only[eH]at h;split at h
            · rename_i r' j n hx
              split at h
              · rename_i p' E' e' ad b0
                cases X:CE E' E&&decide (e'.sh=e.sh) with
                |false=>simp[X]at h
                |true =>
                  simp only[X,cond_true]at h;simp only[BW,decide_eq_true_eq]at X;obtain⟨U,hU,hg⟩:=b5 [] E' e' p' ad [(r',j)] (B5 X.1) X.2 h;refine⟨U,hU,λW a w Z=>?_⟩;obtain⟨a1,_,_,_,_⟩:=bz Z x (by rw[hx];simp);rw[hx]at a1;obtain⟨a3,M,a7,_,_⟩:=bz Z y a4;obtain⟨h5,h6,h7,h8⟩:=ku Z b0 a1;exact hg W a w Z ⟨⟨a3,M,a7⟩,trivial⟩ (λz hz=>by simp at hz;subst hz;exact⟨_,h7,trivial⟩) (by simpa[bc]using h6)
              · cases h
            · rename_i hx
              obtain⟨U,hU,hg⟩:=b5 [] E e false [] [] rfl rfl h;refine⟨U,hU,λW a w Z=>?_⟩;obtain⟨a1,_,_,_,_⟩:=bz Z x (by rw[hx];simp);rw[hx]at a1;obtain⟨a3,M,a7,_,_⟩:=bz Z y a4;exact hg W a w Z ⟨⟨a3,M,a7⟩,trivial⟩ (by simp) (by rw[show a.eval x=_ from a1];exact OwH.nil w _ E e)
            · cases h
      · cases h
    · cases h
end
def gZ (w:World)(ro pr:Nat->Prop)(r:Bool)(a:Ty)(x:a.den)(v:Value):Prop :=
 if r=true then ∃ b u g o c,v=.pointer (some ⟨b,u,none⟩)/\pr b/\w.cell? ⟨b,u,none⟩=some (.pointer (some ⟨g,o,none⟩))/\pr g/\Rd w ro a x c/\c7 w g o c
 else ∃ g o c,v=.pointer (some ⟨g,o,none⟩)/\pr g/\Rd w ro a x c/\c7 w g o c
def jQ (w:World)(ro pr:Nat->Prop):(cs:List (Bool×Ty))->lY cs->List Value->Prop
 |[],_,y=>y=[]
 |c::cs,x,y=>∃ u r,y=u::r/\gZ w ro pr c.1 c.2 x.1 u/\jQ w ro pr cs x.2 r
def oa (P:Program)(w:World)(ro pr:Nat->Prop):(pk:PK)->pk.den->Value->List Nat->Prop
 |.rd a,x,v,r=>r=[]/\∃ y,dj a.isAgg v y/\Rd w ro a x y
 |.own a,x,v,r=>∃ y,dj a.isAgg v y/\Mx w ro a none 0 x y r
 |.io a,x,v,r=>∃ y,dj a.isAgg v y/\Mx w ro a none 0 x y r
 |.rref a,x,v,r=>r=[]/\gZ w ro pr false a x v
 |.rref2 a,x,v,r=>r=[]/\gZ w ro pr true a x v
 |.iop a,x,v,r=>∃ g c E z,v=.pointer (some ⟨g,0,none⟩)/\w.heap[g]?=some (.cells c.toArray E (0,0))/\Mx w ro a none 0 x c z/\r=g::z
 |.fn M B,O,v,r=>r=[]/\ip P w pr M B O v
 |.clo f y,x,v,r=>r=[]/\∃ H:List Value,v=.func (.func f) #[] H.toArray/\jQ w ro pr y x H
 |.hol a c off,x,v,r=>∃ y u z J E e I,dj a.isAgg v y/\Mx w ro a (some c) 0 x.1 y z/\y[c]?=some u/\bi c a 0 x.1=some ⟨E,e,I⟩/\OwB w ro (some (x.2,off)) E e I u J/\∀ k,r.count k=z.count k+J.count k
def dh (P:Program)(w:World)(ro pr:Nat->Prop):(ps:List PK)->ab ps->List Value->List (List Nat)->Prop
 |[],_,z,u=>z=[]/\u=[]
 |p::ps,x,z,u=>∃ v y b r,z=v::y/\u=b::r/\oa P w ro pr p x.1 v b/\dh P w ro pr ps x.2 y r
def jE (w:World)(G:Nat->Prop)(a:Ty)(x:a.den)(ptr:Bool)(v:Value)(bs:List Nat):Prop :=
 if ptr=true then ∃ g c E u,v=.pointer (some ⟨g,0,none⟩)/\w.heap[g]?=some (.cells c.toArray E (0,0))/\Mx w G a none 0 x c u/\bs=g::u
 else ∃ r,dj a.isAgg v r/\Mx w G a none 0 x r bs
def bP (w:World)(G:Nat->Prop):(ps:List PK)->ah ps->List Value->List (List Nat)->Prop
 |.io a::ps,o,v::u,b::r=>jE w G a o.1 false v b/\bP w G ps o.2 u r
 |.iop a::ps,o,v::u,b::r=>jE w G a o.1 true v b/\bP w G ps o.2 u r
 |.rd _::ps,o,_::u,b::r=>b=[]/\bP w G ps o u r
 |.own _::ps,o,_::u,b::r=>b=[]/\bP w G ps o u r
 |.rref _::ps,o,_::u,b::r=>b=[]/\bP w G ps o u r
 |.rref2 _::ps,o,_::u,b::r=>b=[]/\bP w G ps o u r
 |.fn _ _::ps,o,_::u,b::r=>b=[]/\bP w G ps o u r
 |.clo _ _::ps,o,_::u,b::r=>b=[]/\bP w G ps o u r
 |.hol _ _ _::ps,o,_::u,b::r=>b=[]/\bP w G ps o u r
 |[],_,[],[]=>True
 |_,_,_,_=>False
def qf (w:World)(G ro:Nat->Prop):(r:RK)->r.den->Value->List Nat->Prop
 |.v a,y,v,u=>∃ z,dj a.isAgg v z/\Mx w G a none 0 y z u
 |.bv a,y,v,u=>u=[]/\∃ z,dj a.isAgg v z/\Rd w (λk=>G k\/ro k) a y z
 |.box a,y,v,u=>∃ g c E H,v=.pointer (some ⟨g,0,none⟩)/\w.heap[g]?=some (.cells c.toArray E (0,0))/\Mx w G a none 0 y c H/\u=g::H
def gG (w:World)(G ro:Nat->Prop):(M:List RK)->ai M->List Value->List (List Nat)->Prop
 |[],_,J,H=>J=[]/\H=[]
 |r::M,y,J,H=>∃ u I b z,J=u::I/\H=b::z/\qf w G ro r y.1 u b/\gG w G ro M y.2 I z
def sw:List Value->Value->Prop
 |[u],v=>v=u
 |r,v=>v=.tuple r.toArray
def qg (w w':World)(r:List Nat)(k:Nat):Prop:=k<w'.heap.size/\(w.heap.size<=k\/k∈r)
def tI (c:Ctr)(w:World)(ro:Nat->Prop)(I:List Value)(z:List (List Nat))(y:ai c.rs×ah c.ps)(e:Ending)(w':World):Prop :=
 ∃ (v:Value) (H:List Value) (N:Nat->Prop) (u r:List (List Nat)),e=.returned v/\sw H v/\w.heap.size<=w'.heap.size/\w'.os=w.os/\w'.tape=w.tape/\w'.output=w.output /\
  (∀ k,k<w.heap.size->k∉z.flatten->w'.heap[k]?=w.heap[k]?)/\(∀ k,N k->qg w w' z.flatten k) /\
  bP w' (λk=>N k\/(c.fresh=false/\ro k)) c.ps y.2 I u/\gG w' (λk=>N k\/(c.fresh=false/\ro k)) ro c.rs y.1 H r /\
  (u.flatten++r.flatten).Nodup/\∀ k∈u.flatten++r.flatten,qg w w' z.flatten k/\¬ N k
def bT (P:Program)(c:Ctr):Prop :=
 ge P c.f/\∀ (w:World) (ro:Nat->Prop) (x:ab c.ps) (u:List Value) (r:List (List Nat)) (y:ai c.rs×ah c.ps),
  dh P w ro (λk=>k<w.heap.size/\k∉r.flatten) c.ps x u r->(∀ k,ro k->k<w.heap.size/\k∉r.flatten)->r.flatten.Nodup->c.den x=some y ->
  Calls P c.f u.toArray w (tI c w ro u r y)
section
variable {P:Program} {V:Env} {Γ:List Ctr} {T:TypeId->TI} {st:St} {o:Oper} {R:Type} {κ:Upd->Option R} {r:R}
theorem ip.mono {w0:World}{S H:Nat->Prop}(M:∀ k,S k->H k){z:List Ty}{B:Ty}{I:Tup z->Option B.den}{v:Value}(h:ip P w0 S z B I v):ip P w0 H z B I v:=by
 obtain⟨f,u,e,Y,J⟩:=h;exact⟨f,u,e,Y,λw1 X O=>J w1 X (λk y=>O k (M k y))⟩
theorem ip.move {w0 w:World}{S I:Nat->Prop}(z:w0.heap.size<=w.heap.size)(J:∀ k,S k->I k/\w.heap[k]?=w0.heap[k]?){H:List Ty}{B:Ty}{M:Tup H->Option B.den}{v:Value}
  (h:ip P w0 S H B M v):ip P w I H B M v:=by
 obtain⟨f,y,e,Z,O⟩:=h;exact⟨f,y,e,Z,λw1 Y X=>O w1 (Cc z Y) (λk u=>(X k (J k u).1).trans (J k u).2)⟩
theorem gZ.carry {w w1:World}{ro ro' pr H:Nat->Prop}(y:∀ k,ro k->ro' k/\w1.heap[k]?=w.heap[k]?)(u:∀ k,pr k->H k/\w1.heap[k]?=w.heap[k]?){I:Bool}{a:Ty}{x:a.den}{v:Value}(h:gZ w ro pr I a x v):gZ w1 ro' H I a x v:=by
 unfold gZ at h ⊢;split at h
 ·rename_i Y;rw[if_pos Y];obtain⟨b,ob,g,o,c,O,J,X,M,h7,Z⟩:=h;exact⟨b,ob,g,o,c,O,(u b J).1,by rw[kP (u b J).2];exact X,(u g M).1,h7.carry (λk z=>(y k z).1) (λk z=>(y k z).2),Z.same (u g M).2⟩
 ·rename_i Y;rw[if_neg Y];obtain⟨g,o,c,O,J,X,M⟩:=h;exact⟨g,o,c,O,(u g J).1,X.carry (λk z=>(y k z).1) (λk z=>(y k z).2),M.same (u g J).2⟩
theorem jQ.carry {w w1:World}{ro ro' pr y:Nat->Prop}(z:∀ k,ro k->ro' k/\w1.heap[k]?=w.heap[k]?)(H:∀ k,pr k->y k/\w1.heap[k]?=w.heap[k]?):∀ {cs:List (Bool×Ty)} {x:lY cs} {us:List Value},jQ w ro pr cs x us->jQ w1 ro' y cs x us
 |[],_,_,h=>h
 |_::_,_,_,⟨u,I,e,J,M⟩=>⟨u,I,e,J.carry z H,jQ.carry z H M⟩
theorem oa.mono {w:World}{ro ro' pr O:Nat->Prop}(y:∀ k,ro k->ro' k)(J:∀ k,pr k->O k):∀ {pk:PK} {x:pk.den} {v:Value} {bs:List Nat},oa P w ro pr pk x v bs->oa P w ro' O pk x v bs
 |.rd _,_,_,_,⟨e,M,z,H⟩=>⟨e,M,z,H.mono y⟩
 |.own _,_,_,_,⟨M,z,H⟩=>⟨M,z,H.mono y⟩
 |.io _,_,_,_,⟨M,z,H⟩=>⟨M,z,H.mono y⟩
 |.rref _,_,_,_,⟨e,h⟩=>⟨e,h.carry (λk I=>⟨y k I,rfl⟩) (λk I=>⟨J k I,rfl⟩)⟩
 |.rref2 _,_,_,_,⟨e,h⟩=>⟨e,h.carry (λk I=>⟨y k I,rfl⟩) (λk I=>⟨J k I,rfl⟩)⟩
 |.iop _,_,_,_,⟨g,c,E,Z,z,H,X,Y⟩=>⟨g,c,E,Z,z,H,X.mono y,Y⟩
 |.fn _ _,_,_,_,⟨e,h⟩=>⟨e,ip.mono J h⟩
 |.clo _ _,_,_,_,⟨e,us,z,H⟩=>⟨e,us,z,H.carry (λk I=>⟨y k I,rfl⟩) (λk I=>⟨J k I,rfl⟩)⟩
 |.hol _ _ _,_,_,_,⟨M,u,Z,b1,E,e,xs,z,H,X,Y,h5,h6⟩=>⟨M,u,Z,b1,E,e,xs,z,H.mono y,X,Y,h5.carry y (λ_ _=>rfl) (λ_ _=>rfl),h6⟩
theorem dh.mono {w:World}{ro ro' pr y:Nat->Prop}(H:∀ k,ro k->ro' k)(I:∀ k,pr k->y k):∀ {ps:List PK} {x:ab ps} {M:List Value} {u:List (List Nat)},dh P w ro pr ps x M u->dh P w ro' y ps x M u
 |[],_,_,_,h=>h
 |_::_,_,_,_,⟨v,J,b,z,Y,Z,O,X⟩=>⟨v,J,b,z,Y,Z,O.mono H I,dh.mono H I X⟩
def jZ (V:Env)(W:Wit)(st:St)(ks:List (Nat×Nat))(u:List Nat)(k:Nat):Prop:=W.nw k\/V.prot k\/(∃ b∈u,live st b/\W.β b=k)\/∃ x∈ks,k∈W.bs x.1 x.2
theorem kX {W:Wit}{z y:List (Nat×Nat)}{I H:List Nat}(h:∀ x∈z,x∈y)(J:∀ b∈I,b∈H):∀ k,jZ V W st z I k->jZ V W st y H k:=by
 rintro k (u|u|⟨b,M,u⟩|⟨x,O,u⟩)
 ·exact .inl u
 ·exact .inr (.inl u)
 ·exact .inr (.inr (.inl ⟨b,J b M,u⟩))
 ·exact .inr (.inr (.inr ⟨x,h x O,u⟩))
theorem jg {W:Wit}{p q:Bool}{z y:List (Nat×Nat)}(H:p=true->q=true)(h:∀ x∈z,x∈y):∀ k,bu V W p z k->bu V W q y k:=by
 rintro k (u|⟨x,I,u⟩)
 ·exact .inl (bX (W':=W) H (λ_ h=>h) k u)
 ·exact .inr ⟨x,h x I,u⟩
theorem gH {agg:Bool}{v:Value}{cs:List Value}(h:er (bq agg) v cs):dj agg v cs:=by
 cases agg <;> exact h
theorem nr {W:Wit}{a:Act}{w:World}(h:an P V W st a w){l:Leaf}{ls:List Leaf}{v:Value}(hl:aK P V W st w [] l v)(y:target st l=some ls)(ks:List (Nat×Nat))(J:List Nat)(O:∀ b∈fD [l],b∈J) :
  ∃ g o cs,v=.pointer (some ⟨g,o,none⟩)/\jZ V W st ks J g/\aD P V W st w ls cs/\c7 w g o cs:=by
 unfold target at y;split at y
 ·rename_i b;cases Z:decide ((st b).sh=.agg) with
  |false=>simp[Z]at y
  |true =>
   simp only[Z,cond_true,BU]at y;subst y;obtain⟨hB,M,z⟩:=hl;rcases h.boxes b hB with ⟨X,_⟩|⟨_,E,X⟩
   ·rw[M]at X;cases X
   ·exact⟨W.β b,0,W.cs b,z,.inr (.inr (.inl ⟨b,O b (by simp[fD]),⟨hB,M⟩,rfl⟩)),iF h b,λi v z=>by
     rw[Cl,cell_of_row w (W.β b) i _ E (0,0) X];simpa using z⟩
 ·rename_i p a x;simp only[BU]at y;subst y;obtain⟨g,Y,c,z,hg,I,hc⟩:=hl;rw[Ca]at z;exact⟨g,Y,c,z,hg.elim .inl (λh=>.inr (.inl h)),fk (λ_ h=>h) I,hc⟩
 ·rename_i p a x;simp only[BU]at y;subst y;obtain⟨b,ob,g,Y,c,z,Z,H,hg,I,hc⟩:=hl;refine⟨b,ob,[.pointer (some ⟨g,Y,none⟩)],z,Z.elim .inl (λh=>.inr (.inl h)),⟨⟨⟨g,Y,c,rfl,hg,I,hc⟩,id,rfl⟩,trivial⟩,λi u hi=>?_⟩;cases i with
  |zero=>simp at hi;subst hi;exact H
  |succ i=>simp at hi
 ·cases y
theorem hH {W:Wit}{w:World}{x:aI×List Leaf}{l:Leaf}{v:Value}{cs:List Value}(y:er x.1 v cs)(z:aD P V W st w x.2 cs)(u:ct x=l)(H:l≠.dead) :
  aK P V W st w [] l v/\v.oneCell'=true:=by
 unfold ct at u;split at u
 ·rename_i I;subst u;have y:cs=[v]:=y;subst y;exact⟨z.1.1,z.1.2.2⟩
 ·exact absurd u.symm H
theorem nu {W:Wit}{a:Act}{w:World}(h:an P V W st a w){c:Bool×Ty}{l:Leaf}{v:Value}(hl:aK P V W st w [] l v){g:Got c.2.den}(H:fE st c l=some g) :
  gZ w (bu V W g.p g.frz) (jZ V W st g.frz g.see) c.1 c.2 g.val v/\(∀ z∈g.frz,aC st z)/\g.kill=[]/\g.lend=[]:=by
 unfold fE at H;cases hc:c.1 with
 |true =>
  rw[hc]at H;simp only[cond_true]at H;split at H
  ·rename_i l' ht;split at H
   ·rename_i Z a2;simp only[BV]at H;obtain⟨⟨p,y⟩,hy,rfl⟩:=H;obtain⟨g,o',cs,hv,X,I,Y⟩:=nr h hl ht (bC st Z) (fD [l,l']) (λb O=>by
     cases l <;> simp[fD]at O ⊢ <;> exact .inl O)
    match cs,I with
    |[u],I =>
     obtain⟨g2,o2,a0,a4,a1,M,a3⟩:=nr h I.1.1 a2 (bC st Z) (fD [l,l']) (λb O=>by
      cases l <;> cases l' <;> simp[fD]at O ⊢ <;> first|exact O|exact .inr O)
     have J:=Y 0 u rfl;rw[Ca,a4]at J;refine⟨?_,λz hz=>ez M hz,rfl,rfl⟩;unfold gZ;rw[if_pos rfl];exact⟨g,o',g2,o2,a0,hv,X,J,a1,eP h M hy,a3⟩
   ·cases H
  ·cases H
 |false =>
  rw[hc]at H;simp only[cond_false]at H;split at H
  ·rename_i Z ht;simp only[BV]at H;obtain⟨⟨p,y⟩,hy,rfl⟩:=H;obtain⟨g,o',cs,hv,X,I,Y⟩:=nr h hl ht (bC st Z) (fD [l]) (λb O=>O);refine⟨?_,λz hz=>ez I hz,rfl,rfl⟩;unfold gZ;rw[if_neg (by simp)];exact⟨g,o',cs,hv,X,eP h I hy,Y⟩
  ·cases H
theorem mz {W:Wit}{a:Act}{w:World}(h:an P V W st a w):∀ {cs:List (Bool×Ty)} {ls:List Leaf} {us:List Value} {g:Got (lY cs)},aD P V W st w ls us->cE st cs ls=some g ->
  jQ w (bu V W g.p g.frz) (jZ V W st g.frz g.see) cs g.val us/\(∀ z∈g.frz,aC st z)/\g.kill=[]/\g.lend=[]
 |[],[],us,g,J,y=>by
  simp only[cE,BU]at y;subst y;cases us with
  |nil=>exact⟨rfl,by simp,rfl,rfl⟩
  |cons=>exact J.elim
 |[],_::_,_,_,_,y=>by simp[cE]at y
 |_::_,[],_,_,_,y=>by simp[cE]at y
 |c::cs,l::ls,us,g,J,y=>by
  cases us with
  |nil=>exact J.elim
  |cons u us =>
   simp only[cE]at y;split at y
   ·rename_i g1 O;split at y
    ·rename_i g2 M;simp only[BU]at y;subst y;obtain⟨X,Y,h3,h4⟩:=nu h J.1.1 O;obtain⟨h5,h6,h7,h8⟩:=mz h J.2 M;refine⟨⟨u,us,rfl,X.carry (λk I=>⟨jg (by intro h;simp[h]) (λx H=>B6 _ H) k I,rfl⟩) (λk I=>⟨kX (λx H=>B6 _ H) (λx H=>B6 _ H) k I,rfl⟩),
      h5.carry (λk I=>⟨jg (by intro h;simp[h]) (λx H=>BY _ H) k I,rfl⟩) (λk I=>⟨kX (λx H=>BY _ H) (λx H=>BY _ H) k I,rfl⟩)⟩,?_,rfl,rfl⟩
     intro z Z;exact (B8.1 Z).elim (Y z) (h6 z)
    ·cases y
   ·cases y
theorem wF {W:Wit}{w:World}{c:Bool×Bool×(a:Ty)×a.den}{v:Value}(h:iV V W w c v):aK P V W st w [] (e9 c) v/\¬ am (e9 c)/\v.oneCell'=true:=by
 unfold iV at h;unfold e9;split at h
 ·rename_i u;rw[u];refine⟨h,id,?_⟩;obtain⟨b,I,g,H,z,y,_⟩:=h;rw[y];rfl
 ·rename_i u;have u:c.2.1=false:=by simpa using u
  rw[u];refine⟨h,id,?_⟩;obtain⟨g,H,z,y,_⟩:=h;rw[y];rfl
theorem qR {W:Wit}{w:World}{caps:List (Bool×Bool×(a:Ty)×a.den)}{us:List Value}(I:us.length=caps.length)(h:∀ (i:Nat) (c:Bool×Bool×(a:Ty)×a.den) (u:Value),caps[i]?=some c->us[i]?=some u->iV V W w c u) :
  aD P V W st w (caps.map e9) us :=
 aD.mk (by simp[I]) λj l v y z=>by
  rw[List.getElem?_map,BV]at y;obtain⟨c,H,rfl⟩:=y;exact wF (h j c v H z)
theorem qh {W:Wit}{w:World}:∀ (caps:List Nat),(∀ b∈caps,B0<=b/\(st b).sh=.agg)->aD P V W st w (caps.map λb=>Leaf.bp b 0) (caps.map λb=>Value.pointer (some ⟨W.β b,0,none⟩))
 |[],_=>trivial
 |b::caps,h=>⟨⟨⟨(h b (CJ ..)).1,(h b (CJ ..)).2,rfl⟩,id,rfl⟩,qh caps (λq u=>h q (CC _ u))⟩
theorem nv {off:Nat}{E:TypeId}{e:Ty}{X:List e.den}:∀ {a:Ty} {pos:Nat} {x z:a.den},bQ off E e X a pos x=some z->(∃ y,bi off a pos x=some ⟨E,e,y⟩)/\bi off a pos z=some ⟨E,e,X⟩
 |.pair a b,pos,x,z,h=>by
  simp only[bQ]at h;split at h
  ·rename_i u I;simp only[BU]at h;subst h;obtain⟨⟨y,M⟩,O⟩:=nv I;exact⟨⟨y,by simp only[bi,M]⟩,by simp only[bi,O]⟩
  ·rename_i hn;simp only[BV]at h;obtain⟨u,I,rfl⟩:=h;have a0:=Mx.back.set_in I;obtain⟨⟨y,M⟩,O⟩:=nv I;have H:bi off a pos x.1=none:=by
    cases Y:bi off a pos x.1 with
    |none=>rfl
    |some u=>have:=gF Y;omega
   exact⟨⟨y,by simp only[bi,H,M]⟩,by simp only[bi,H,O]⟩
 |.list m E' e',pos,Z,z,h=>by
  simp only[bQ]at h;cases J:m&&CE pos off with
  |false=>simp[J]at h
  |true =>
   rw[J]at h;simp only[cond_true]at h;obtain⟨rfl,rfl,rfl⟩:=jV h;exact⟨⟨Z,by simp[bi,J]⟩,by simp[bi,J]⟩
 |.int _,_,_,_,h=>by simp[bQ]at h
 |.bool,_,_,_,h=>by simp[bQ]at h
 |.str,_,_,_,h=>by simp[bQ]at h
 |.unit,_,_,_,h=>by simp[bQ]at h
 |.hdr,_,_,_,h=>by simp[bQ]at h
theorem Mx.refill {w:World}{G:Nat->Prop}{off:Nat}{E:TypeId}{e:Ty}{ys:List e.den}{u:Value}(X:u.oneCell'=true):∀ {a:Ty} {pos:Nat} {x z:a.den} {cs:List Value} {bs:List Nat},Mx w G a (some off) pos x cs bs->bQ off E e ys a pos x=some z ->
  Mx w G a (some off) pos z (cs.set (off-pos) u) bs
 |.pair a b,pos,x,z,cs,bs,⟨c1,Z,b1,b2,e1,e2,M,O⟩,h=>by
  have hl:=M.len;simp only[bQ]at h;split at h
  ·rename_i y J;simp only[BU]at h;subst h;have Y:=Mx.back.set_in J;refine⟨c1.set (off-pos) u,Z,b1,b2,?_,e2,Mx.refill X M J,O⟩;rw[e1,List.set_append_left _ _ (by omega)]
  ·simp only[BV]at h;obtain⟨y,J,rfl⟩:=h;have Y:=Mx.back.set_in J;refine⟨c1,Z.set (off-(pos+a.cells)) u,b1,b2,?_,e2,M,Mx.refill X O J⟩;rw[e1,List.set_append_right _ _ (by omega),hl,show off-pos-a.cells=off-(pos+a.cells) by omega]
 |.list m E' e',pos,xs,z,cs,bs,H,h=>by
  simp only[bQ]at h;cases I:m&&CE pos off with
  |false=>simp[I]at h
  |true =>
   simp only[BW]at I;obtain⟨rfl,I⟩:=I;have I:=B5 I;subst I;rw[jl]at H ⊢;obtain⟨v,rfl,M,O⟩:=H;exact⟨u,by simp,X,O⟩
 |.int _,_,_,_,_,_,_,h=>by simp[bQ]at h
 |.bool,_,_,_,_,_,_,h=>by simp[bQ]at h
 |.str,_,_,_,_,_,_,h=>by simp[bQ]at h
 |.unit,_,_,_,_,_,_,h=>by simp[bQ]at h
 |.hdr,_,_,_,_,_,_,h=>by simp[bQ]at h
theorem aD.setNil {W:Wit}{w:World}{ls:List Leaf}{cs:List Value}(I:aD P V W st w ls cs)(c:Nat):aD P V W st w (aV ls c .nil) (cs.set c (.slice none 0 0)):=by
 have y:=I.length;refine aD.mk (by simp[aV,y]) λj l v z u=>?_
 rcases aU _ _ _ _ _ z with ⟨rfl,rfl,J⟩|⟨H,z⟩
 ·rw[Cr (by omega)]at u;simp only[BU]at u;subst u;exact⟨rfl,id,rfl⟩
 ·rw[Cj (Ck H)]at u;exact I.at_ j l v z u
def wG (P:Program)(V:Env)(W:Wit)(st:St)(w:World)(pk:PK)(v:Value)(g:Got pk.den):Prop :=
 (∃ u,oa P w (bu V W g.p g.frz) (jZ V W st g.frz g.see) pk g.val v u/\u=g.lend.map W.β++bc W g.kill)/\(∀ z∈g.frz,aC st z)/\(∀ z∈g.kill,aC st z)/\(∀ b∈g.lend,live st b)
theorem ny (hV:ax V){W:Wit}{a:Act}{w:World}(h:an P V W st a w){pk:PK}{x:aI×List Leaf}{v:Value}{cs:List Value}(hs:er x.1 v cs)(hl:aD P V W st w x.2 cs)
  {g:Got pk.den} (u:bm st pk x=some g):wG P V W st w pk v g:=by
 obtain⟨sh,ls⟩:=x;have Y:∀ {b:Ty} {g:Got b.den},(bif decide (sh=bq b.isAgg) then (cn st b ls).map (λt=>(⟨t.p,t.val,t.frz,t.kill,[],[]⟩:Got b.den)) else none)=some g ->
   (∃ cs,dj b.isAgg v cs/\Mx w (bu V W g.p g.frz) b none 0 g.val cs (bc W g.kill))/\g.lend=[]/\g.see=[]/\(∀ z∈g.frz,aC st z)/\(∀ z∈g.kill,aC st z):=by
  intro b g hq;cases I:decide (sh=bq b.isAgg) with
  |false=>simp[I]at hq
  |true =>
   rw[I]at hq;simp only[cond_true,BV]at hq;have M:=of_decide_eq_true I;subst M;obtain⟨t,ht,rfl⟩:=hq;obtain⟨O,J,X⟩:=dW (pos:=0) h hl ht;exact⟨⟨cs,gH hs,O⟩,rfl,rfl,J,X⟩
 cases pk with
 |rd b =>
  simp only[bm]at u;cases I:decide (sh=bq b.isAgg) with
  |false=>simp[I]at u
  |true =>
   rw[I]at u;simp only[cond_true,BV]at u;have M:=of_decide_eq_true I;subst M;obtain⟨⟨p,y⟩,hy,rfl⟩:=u;exact⟨⟨[],⟨rfl,cs,gH hs,eP h hl hy⟩,rfl⟩,λz hz=>ez hl hz,by simp[Got.ofRd],by simp[Got.ofRd]⟩
 |own b =>
  obtain⟨O,J,X,h4,h5⟩:=Y u;exact⟨⟨_,O,by rw[J];rfl⟩,h4,h5,by rw[J];simp⟩
 |io b =>
  obtain⟨O,J,X,h4,h5⟩:=Y u;exact⟨⟨_,O,by rw[J];rfl⟩,h4,h5,by rw[J];simp⟩
 |iop b =>
  simp only[bm]at u;split at u
  ·rename_i q hx;cases I:decide ((st q).sh=.agg) with
   |false=>simp[I]at u
   |true =>
    simp only[I,cond_true,BV]at u;obtain⟨t,ht,rfl⟩:=u;obtain⟨H,hv⟩:=hH hs hl hx (by simp);obtain⟨hB,a3,b2⟩:=H;rcases h.boxes q hB with ⟨h8,_⟩|⟨_,E,h8⟩
    ·rw[a3]at h8;cases h8
    ·obtain⟨O,J,X⟩:=dW (pos:=0) h (iF h q) ht;exact⟨⟨_,⟨W.β q,W.cs q,E,_,b2,h8,O,rfl⟩,rfl⟩,J,X,λb' M=>by simp at M;subst M;exact⟨hB,a3⟩⟩
  ·cases u
 |rref b =>
  simp only[bm]at u;have hd:ct (sh,ls)≠.dead:=by
   intro e;rw[e]at u;simp[fE,target]at u
  obtain⟨H,hv⟩:=hH hs hl rfl hd;obtain⟨O,J,X,h4⟩:=nu (c:=(false,b)) h H u;exact⟨⟨[],⟨rfl,O⟩,by rw[X,h4];rfl⟩,J,by rw[X];simp,by rw[h4];simp⟩
 |rref2 b =>
  simp only[bm]at u;have hd:ct (sh,ls)≠.dead:=by
   intro e;rw[e]at u;simp[fE,target]at u
  obtain⟨H,hv⟩:=hH hs hl rfl hd;obtain⟨O,J,X,h4⟩:=nu (c:=(true,b)) h H u;exact⟨⟨[],⟨rfl,O⟩,by rw[X,h4];rfl⟩,J,by rw[X];simp,by rw[h4];simp⟩
 |fn As B =>
  simp only[bm]at u;split at u
  ·rename_i As' B' φ hx;obtain⟨H,hv⟩:=hH hs hl hx (by simp);split at u
   ·rename_i hh;obtain⟨rfl,rfl⟩:=hh;simp only[BU]at u;subst u;have hf:ip P V.w0 V.prot As' B' φ v:=H;exact⟨⟨[],⟨rfl,ip.move h.size (λk hk=>⟨.inr (.inl hk),h.keep k hk⟩) hf⟩,rfl⟩,by simp,by simp,by simp⟩
   ·cases u
  ·cases u
 |clo f ba =>
  simp only[bm]at u;split at u
  ·rename_i f' a1 hx;cases I:CE f' f with
   |false=>simp[I]at u
   |true =>
    simp only[I,cond_true]at u;have I:=B5 I;subst I;obtain⟨H,hv⟩:=hH hs hl hx (by simp);obtain⟨O,J⟩:=H;obtain⟨X,h4,h5,h6⟩:=mz h (qh a1 J) u;exact⟨⟨[],⟨rfl,_,O,X⟩,by rw[h5,h6];rfl⟩,h4,by rw[h5];simp,by rw[h6];simp⟩
  ·rename_i f' a1 hx;cases I:CE f' f with
   |false=>simp[I]at u
   |true =>
    simp only[I,cond_true]at u;have I:=B5 I;subst I;obtain⟨H,hv⟩:=hH hs hl hx (by simp);obtain⟨us,O,J,h7⟩:=H;obtain⟨X,h4,h5,h6⟩:=mz h (qR J h7) u;exact⟨⟨[],⟨rfl,us,O,X⟩,by rw[h5,h6];rfl⟩,h4,by rw[h5];simp,by rw[h6];simp⟩
  ·cases u
 |hol b c off =>
  simp only[bm]at u;cases I:decide (sh=bq b.isAgg) with
  |false=>simp[I]at u
  |true =>
   rw[I]at u;simp only[cond_true]at u;have M:=of_decide_eq_true I;subst M;split at u
   ·rename_i r' j n Z;split at u
    ·rename_i p i o' E e xs hd;cases a0:CE o' off with
     |false=>simp[a0]at u
     |true =>
      rw[a0]at u;simp only[cond_true]at u;have a0:=B5 a0;subst a0;split at u
      ·rename_i t ht;split at u
       ·rename_i y hy;simp only[BU]at u;subst u;have a5:ls[c]?=some (.al r' j n):=by
         rw[CZ]at Z;cases hq:ls[c]? with
         |none=>rw[hq]at Z;simp at Z
         |some l0=>rw[hq]at Z;simp at Z;rw[Z]
        have a6:c<cs.length:=by rw[<- hl.length];exact (BX.1 a5).1
        have a2:=CG a6;obtain⟨H,_,a4⟩:=hl.at_ c _ _ a5 a2;obtain⟨_,b1,ad,_⟩:=ku h hd H;obtain⟨O,J,X⟩:=dW (pos:=0) h (hl.setNil c) ht;obtain⟨⟨b5,a7⟩,a9⟩:=nv hy;obtain⟨v0,bn,b0,g1,g2,g3,g4⟩:=O.out a7;have a8:bn=[]:=by
         simp only[DD,Cr a6,BU]at g2;obtain⟨b3,b4,q1,q2,_⟩:=g1;obtain⟨A,b9,q4,_⟩:=q1.slice;rw[<- g2]at q2 q4;simp only[CT]at q4;rw[q2,<- q4.2.1];rfl
        have g5:=Mx.refill a4 g3 hy;simp only[DD,List.set_set,List.set_getElem_self]at g5;refine⟨⟨_,⟨cs,cs[c],b0,W.bs r' j,E,e,xs,gH hs,g5.mono (jg (by intro h;simp[h]) (λ_ h=>h)),a2,a9,
         b1.2.carry (λk hk=>.inl (bX (W':=W) (by intro h;simp[h]) (λ_ h=>h) k hk)) (λ_ _=>rfl) (λ_ _=>rfl),λk=>?_⟩,rfl⟩,J,?_,by simp⟩
        ·have:=g4 k;rw[a8]at this;simp only[DV,Dr];rw[show bc W ((r',j)::t.kill)=W.bs r' j++bc W t.kill from rfl,BZ,this];simp;omega
        ·intro z hz;rcases Cm.1 hz with rfl|hz
         ·exact⟨_,ad,trivial⟩
         ·exact X z hz
       ·cases u
      ·cases u
    ·cases u
   ·cases u
end
section
variable {P:Program} {V:Env} {Γ:List Ctr} {T:TypeId->TI} {st:St} {o:Oper} {R:Type} {κ:Upd->Option R} {r:R}
def hX (P:Program)(V:Env)(W:Wit)(st:St)(w:World):List (aI×List Leaf)->List Value->Prop
 |[],y=>y=[]
 |x::H,y=>∃ v u z,y=v::u/\er x.1 v z/\aD P V W st w x.2 z/\hX P V W st w H u
theorem kI {W:Wit}{w:World}{ga:(pk:PK)->aI×List Leaf->Option (Got pk.den)}
  (H:∀ (pk:PK) (x:aI×List Leaf) (v:Value) (cs:List Value) (g:Got pk.den),er x.1 v cs->aD P V W st w x.2 cs->ga pk x=some g->wG P V W st w pk v g) :
  ∀ (ps:List PK) (xs:List (aI×List Leaf)) (X:List Value) (g:Got (ab ps)),hX P V W st w xs X->bg ga ps xs=some g ->
   (∃ I,dh P w (bu V W g.p g.frz) (jZ V W st g.frz g.see) ps g.val X I/\∀ k,I.flatten.count k=(g.lend.map W.β).count k+(bc W g.kill).count k) /\
    (∀ z∈g.frz,aC st z)/\(∀ z∈g.kill,aC st z)/\(∀ b∈g.lend,live st b)
 |[],[],X,g,u,y=>by
  simp only[bg,BU]at y;subst y;exact⟨⟨[],⟨u,rfl⟩,λk=>by simp[bc]⟩,by simp,by simp,by simp⟩
 |[],_::_,_,_,_,y=>by simp[bg]at y
 |_::_,[],_,_,_,y=>by simp[bg]at y
 |p::ps,x::xs,X,g,u,y=>by
  obtain⟨v,O,cs,rfl,hs,hl,J⟩:=u;simp only[bg]at y;split at y
  ·rename_i g1 a0;split at y
   ·rename_i g2 Y;simp only[BU]at y;subst y;obtain⟨⟨b,h1,h2⟩,h3,h4,h5⟩:=H p x v cs g1 hs hl a0;obtain⟨⟨I,h6,h7⟩,h8,h9,Z⟩:=kI H ps xs O g2 J Y;refine⟨⟨b::I,⟨v,O,b,I,rfl,rfl,h1.mono (jg (by intro h;simp[h]) (λx u=>B6 _ u)) (kX (λx u=>B6 _ u) (λx u=>B6 _ u)),
     h6.mono (jg (by intro h;simp[h]) (λx u=>BY _ u)) (kX (λx u=>BY _ u) (λx u=>BY _ u))⟩,λk=>?_⟩,?_,?_,?_⟩
    ·rw[CK,BZ,h7 k,h2,BZ,Dn,BZ,dQ,BZ];omega
    ·intro z M;exact (B8.1 M).elim (h3 z) (h8 z)
    ·intro z M;exact (B8.1 M).elim (h4 z) (h9 z)
    ·intro z M;exact (B8.1 M).elim (h5 z) (Z z)
   ·cases y
  ·cases y
theorem nz:∀ {Γ:List Ctr} {f:FuncId} {c:Ctr},lZ Γ f=some c->c∈Γ/\c.f=f
 |[],_,_,h=>by simp[lZ]at h
 |H::Γ,f,c,h=>by
  simp only[lZ]at h;cases u:CE H.f f with
  |true =>
   simp only[u,cond_true,BU]at h;subst h;exact⟨CJ ..,B5 u⟩
  |false =>
   simp only[u,cond_false]at h;obtain⟨y,z⟩:=nz h;exact⟨CC _ y,z⟩
theorem tJ {w:World}{G pr:Nat->Prop}{q:List PK}{z:ab q}{cv:List Value}{H:List (List Nat)}(J:dh P w G pr q z cv H):∀ (y:List Ty) (x:Tup y) (u:List Value),sm w G y x u ->
  dh P w G pr (y.map .rd++q) (nR q z y x) (u++cv) (y.map (λ_=>[])++H)
 |[],_,_,h=>by rw[show _=_ from h];exact J
 |a::y,x,_,⟨v,c,I,rfl,M,X,O⟩=>⟨v,I++cv,[],_,rfl,rfl,⟨rfl,c,M,X⟩,tJ J y x.2 I O⟩
theorem qi {w:World}{ro pr:Nat->Prop}:∀ {ps:List PK} {x:ab ps} {I:List Value} {u:List (List Nat)},ps.all PK.reads=true->dh P w ro pr ps x I u->u.flatten=[]
 |[],_,_,_,_,⟨_,e⟩=>by rw[e];rfl
 |p::ps,_,_,_,h,⟨v,J,b,y,_,e,z,H⟩=>by
  simp only[DS,BW]at h;rw[e,CK,qi h.2 H,CN];cases p <;> first|exact z.1|simp[PK.reads]at h
theorem qj {w w1:World}{ro pr ro' I:Nat->Prop}(u:∀ k,ro k->ro' k/\w1.heap[k]?=w.heap[k]?)(y:∀ k,pr k->I k/\w1.heap[k]?=w.heap[k]?):∀ {ps:List PK} {x:ab ps} {Y:List Value} {H:List (List Nat)},
  ps.all PK.reads=true->dh P w ro pr ps x Y H->dh P w1 ro' I ps x Y H
 |[],_,_,_,_,h=>h
 |p::ps,x,_,_,O,⟨v,X,b,J,e,e2,z,h2⟩=>by
  simp only[DS,BW]at O;refine⟨v,X,b,J,e,e2,?_,qj u y O.2 h2⟩;cases p with
  |rd a =>
   obtain⟨h0,cs,Z,h4⟩:=z;exact⟨h0,cs,Z,h4.carry (λk M=>(u k M).1) (λk M=>(u k M).2)⟩
  |rref a=>exact⟨z.1,z.2.carry u y⟩
  |rref2 a=>exact⟨z.1,z.2.carry u y⟩
  |_=>simp[PK.reads]at O
theorem mA (z:ax V){W:Wit}{p:Bool}{ks:List (Nat×Nat)}{y:List Nat}:∀ k,bu V W p ks k->jZ V W st ks y k:=by
 rintro k ((u|⟨_,u⟩)|u)
 ·exact .inl u
 ·exact .inr (.inl (z.ro k u))
 ·exact .inr (.inr (.inr u))
theorem rJ {W:Wit}{ks:List (Nat×Nat)}{H:List Nat}(y:∀ z∈ks,aC st z):∀ k,jZ V W st ks H k->ch V W st k:=by
 rintro k (u|u|⟨b,_,M,e⟩|⟨x,O,u⟩)
 ·exact .inl u
 ·exact .inr (.inl u)
 ·exact .inr (.inr (.inl ⟨b,M,e⟩))
 ·obtain⟨l,I,J⟩:=y x O;exact .inr (.inr (.inr ⟨x.1,x.2,l,I,J,u⟩))
theorem sx {W:Wit}{w:World}:∀ {ls:List Leaf} {us:List Value},aD P V W st w ls us->hX P V W st w (ls.map λl=>(aI.one,[l])) us
 |[],[],_=>rfl
 |_::_,_::_,h=>⟨_,_,[_],rfl,rfl,⟨h.1,trivial⟩,sx h.2⟩
theorem yt (hV:ax V)(hΓ:∀ c∈Γ,bT P c){W:Wit}{a:Act}{w:World}(h:an P V W st a w){O:List Ty}{B:Ty}{f:FuncId}{ls:List Leaf}{us:List Value}{v:Value}(hv:v=.func (.func f) #[] us.toArray)(bn:aD P V W st w ls us)
  {g:Got (Tup O->Option B.den)} (H:kM Γ st O B f ls=some g):ip P w (jZ V W st g.frz g.see) O B g.val v/\(∀ z∈g.frz,aC st z)/\g.kill=[]/\g.lend=[]:=by
 unfold kM at H;split at H
 ·rename_i c hc;obtain⟨a8,rfl⟩:=nz hc;obtain⟨a1,M⟩:=hΓ c a8;obtain⟨f',ps,rs,a6,cb⟩:=c;simp only at H a1 M hv;generalize ps.drop O.length=q at H;unfold sj at H;split at H
  ·rename_i hh;obtain⟨rfl,rfl⟩:=hh;cases hb:q.all PK.reads&&B.flat&&a6 with
   |false=>simp[hb]at H
   |true =>
    simp only[hb,cond_true]at H;simp only[BW]at hb;obtain⟨⟨a7,b9⟩,bb⟩:=hb;subst bb;split at H
    ·rename_i g0 b3;simp only[BU]at H;subst H;obtain⟨⟨a2,h1,h2⟩,h3,h4,h5⟩:=kI (λpk x v cs g hs hl H=>ny hV h hs hl H) q _ _ g0 (sx bn) b3;have b2:=qi a7 h1;refine⟨⟨f',us.toArray,hv,a1,λw1 bl Z x J y hx hy=>?_⟩,h3,rfl,rfl⟩;simp only[BV]at hy;obtain⟨y0,ad,rfl⟩:=hy;have I:(O.map (λ_=>([]:List Nat))++a2).flatten=[]:=by
      rw[List.flatten_append,b2,CN];clear hx ad;induction O with
      |nil=>rfl
      |cons a O ih=>simp
     have b0:∀ k,jZ V W st g0.frz g0.see k->k<w1.heap.size:=λk Y=>Ce (h.used_lt k (rJ h3 k Y)) bl
     have a3:=tJ (P:=P) (pr:=λk=>k<w1.heap.size/\k∉(O.map (λ_=>([]:List Nat))++a2).flatten)
      (qj (P:=P) (w1:=w1) (ro':=λk=>k<w1.heap.size) (λk Y=>⟨b0 k (mA hV k Y),Z k (mA hV k Y)⟩)
       (λk Y=>⟨⟨b0 k Y,by rw[I];simp⟩,Z k Y⟩) a7 h1) O x J hx
     have a0:=M w1 (λk=>k<w1.heap.size) (nR q g0.val O x) (J++us) (O.map (λ_=>[])++a2) y0 a3
      (λk Y=>⟨Y,by rw[I];simp⟩) (by rw[I];exact Ds) ad
     have a5:J.toArray++us.toArray=(J++us).toArray:=by simp
     rw[a5];refine a0.mono λe w2 a4=>?_
     obtain⟨u,c4,N,cc,c2,rfl,X,b1,c0,b4,bx,b5,_,_,a9,_,_⟩:=a4;obtain⟨u1,c3,b,c1,e1,e2,⟨cs,ba,hm⟩,e3,e4⟩:=a9;subst e3;subst e1;have X:u=u1:=X;subst X;exact⟨u,cs,rfl,ba,ki b9 hm,⟨c0,b4,bx,b1,λk Y=>b5 k Y (by rw[I];simp)⟩⟩
    ·cases H
  ·cases H
 ·cases H
theorem uI (Y:ax V)(hΓ:∀ c∈Γ,bT P c){W:Wit}{a:Act}{w:World}(h:an P V W st a w)(pk:PK)(x:aI×List Leaf)(v:Value)(cs:List Value)(g:Got pk.den)(O:er x.1 v cs)(X:aD P V W st w x.2 cs)
  (H:cg Γ st pk x=some g):wG P V W st w pk v g:=by
 cases pk with
 |fn As B =>
  simp only[cg]at H;split at H
  ·rename_i Z y;have J:(∃ u,ct x=.clo Z.1 u/\Z.2=u.map λb=>Leaf.bp b 0)\/∃ u,ct x=.clr Z.1 u/\Z.2=u.map e9:=by
    generalize ct x=l at y;cases l <;> simp only[vF,BU,reduceCtorEq]at y
    ·subst y;exact .inl ⟨_,rfl,rfl⟩
    ·subst y;exact .inr ⟨_,rfl,rfl⟩
   rcases J with ⟨u,J,he⟩|⟨u,J,he⟩
   ·obtain⟨z,_⟩:=hH O X J (by simp);rw[he]at H;obtain⟨h1,h2,I,M⟩:=yt Y hΓ h z.1 (qh u z.2) H;exact⟨⟨[],⟨rfl,h1⟩,by rw[I,M];rfl⟩,h2,by rw[I];simp,by rw[M];simp⟩
   ·obtain⟨z,_⟩:=hH O X J (by simp);rw[he]at H;obtain⟨us,e1,e2,e3⟩:=z;obtain⟨h1,h2,I,M⟩:=yt Y hΓ h e1 (qR e2 e3) H;exact⟨⟨[],⟨rfl,h1⟩,by rw[I,M];rfl⟩,h2,by rw[I];simp,by rw[M];simp⟩
  ·exact ny Y h O X H
 |_=>exact ny Y h O X H
end
section
variable {P:Program} {V:Env} {W:Wit} {st st':St} {w w':World} {a:Act}
theorem iS {G:Nat->Prop}{p:Bool}(hG:∀ k,G k->gd V W p k):∀ {b:Ty} {pos:Nat} {x:b.den} {cs:List Value} {bs:List Nat},Mx w G b none pos x cs bs->bs.Nodup ->
  ∃ a0:Nat->List Nat,(ap p b x).length=cs.length /\
   (∀ (j:Nat) (l:Leaf) (u:Value),(ap p b x)[j]?=some l->cs[j]?=some u->aK P V W st w (a0 j) l u) /\
   (∀ (j:Nat) (l:Leaf),(ap p b x)[j]?=some l->am l->∀ k∈a0 j,k∈bs) /\
   (∀ (j M:Nat) (l l':Leaf),(ap p b x)[j]?=some l->am l->(ap p b x)[M]?=some l'->am l'->∀ k,k∈a0 j->k∈a0 M->j=M)
 |.int k,_,x,cs,bs,H,_=>by
  obtain⟨rfl,rfl⟩:=H;exact⟨λ_=>[],rfl,λj l u y R=>by cases j with|zero=>simp[ap]at y R;subst y;subst R;rfl|succ j=>simp[ap]at y,λj l y _ k r=>by simp at r,λj M l l' _ _ _ _ k r=>by simp at r⟩
 |.bool,_,x,cs,bs,H,_=>by
  obtain⟨rfl,rfl⟩:=H;exact⟨λ_=>[],rfl,λj l u y R=>by cases j with|zero=>simp[ap]at y R;subst y;subst R;rfl|succ j=>simp[ap]at y,λj l y _ k r=>by simp at r,λj M l l' _ _ _ _ k r=>by simp at r⟩
 |.str,_,x,cs,bs,H,_=>by
  obtain⟨rfl,rfl⟩:=H;exact⟨λ_=>[],rfl,λj l u y R=>by cases j with|zero=>simp[ap]at y R;subst y;subst R;rfl|succ j=>simp[ap]at y,λj l y _ k r=>by simp at r,λj M l l' _ _ _ _ k r=>by simp at r⟩
 |.unit,_,x,cs,bs,H,_=>by
  obtain⟨rfl,rfl⟩:=H;exact⟨λ_=>[],rfl,λj l u y R=>by simp[ap]at y,λj l y _ k r=>by simp at r,λj M l l' _ _ _ _ k r=>by simp at r⟩
 |.hdr,_,x,cs,bs,H,_=>by
  obtain⟨⟨A,a2,rfl⟩,rfl⟩:=H;exact⟨λ_=>[],rfl,λj l u y R=>by cases j with|zero=>simp[ap]at y R;subst y;subst R;exact⟨A,a2,rfl⟩|succ j=>simp[ap]at y,λj l y _ k r=>by simp at r,λj M l l' _ _ _ _ k r=>by simp at r⟩
 |.pair b c,pos,x,cs,bs,⟨c1,c2,b1,b2,e1,e2,y,R⟩,Y=>by
  subst e1;subst e2;rw[Cb]at Y;obtain⟨d1,f1,f2,f3,f4⟩:=iS hG y Y.1;obtain⟨d2,g1,g2,g3,g4⟩:=iS hG R Y.2.1;have a5:=cN p b x.1;have a4:=y.len;have z:∀ (j:Nat) (l:Leaf),(ap p b x.1++ap p c x.2)[j]?=some l->(j<b.cells/\(ap p b x.1)[j]?=some l)\/(b.cells<=j/\(ap p c x.2)[j-b.cells]?=some l):=by
   intro j l I;by_cases O:j<b.cells
   ·rw[B4 (by omega)]at I;exact .inl ⟨O,I⟩
   ·rw[B3 (by omega),a5]at I;exact .inr ⟨by omega,I⟩
  refine⟨λj=>if j<b.cells then d1 j else d2 (j-b.cells),by simp only[ap,CF];omega,λj l u I hu=>?_,λj l I ho k r=>?_,λj M l l' I ho X Z k r J=>?_⟩
  ·rcases z j l I with ⟨O,I⟩|⟨a3,I⟩
   ·rw[B4 (by omega)]at hu;simp only[if_pos O];exact f2 j l u I hu
   ·rw[B3 (by omega),a4]at hu;simp only[if_neg (show ¬ j<b.cells by omega)];exact g2 _ l u I hu
  ·rcases z j l I with ⟨O,I⟩|⟨a3,I⟩
   ·simp only[if_pos O]at r;exact B6 _ (f3 j l I ho k r)
   ·simp only[if_neg (show ¬ j<b.cells by omega)]at r;exact BY _ (g3 _ l I ho k r)
  ·rcases z j l I with ⟨O,I⟩|⟨a3,I⟩ <;> rcases z M l' X with ⟨a1,X⟩|⟨a6,X⟩
   ·simp only[if_pos O]at r;simp only[if_pos a1]at J;exact f4 j M l l' I ho X Z k r J
   ·simp only[if_pos O]at r;simp only[if_neg (show ¬ M<b.cells by omega)]at J;exact absurd rfl (Y.2.2 k (f3 j l I ho k r) k (g3 _ l' X Z k J))
   ·simp only[if_neg (show ¬ j<b.cells by omega)]at r;simp only[if_pos a1]at J;exact absurd rfl (Y.2.2 k (f3 M l' X Z k J) k (g3 _ l I ho k r))
   ·simp only[if_neg (show ¬ j<b.cells by omega)]at r;simp only[if_neg (show ¬ M<b.cells by omega)]at J;have:=g4 _ _ l l' I ho X Z k r J;omega
 |.list m E e,pos,xs,cs,bs,H,Y=>by
  cases m with
  |false =>
   rw[cA]at H;obtain⟨rfl,A,a2,rfl,R,h3⟩:=H;refine⟨λ_=>[],rfl,λj l u y h4=>?_,λj l y _ k r=>by simp at r,λj M l l' _ _ _ _ k r=>by simp at r⟩;cases j with
   |zero =>
    simp[ap]at y h4;subst y;subst h4;exact Rd.mono hG (⟨A,a2,rfl,R,h3⟩:Rd w G (.list false E e) xs _)
   |succ j=>simp[ap]at y
  |true =>
   rw[bM (by simp)]at H;obtain⟨v,rfl,hO⟩:=H;refine⟨λ_=>bs,rfl,λj l u y h4=>?_,λj l y _ k r=>r,λj M l l' y _ h3 _ k _ _=>?_⟩
   ·cases j with
    |zero =>
     simp[ap]at y h4;subst y;subst h4;exact⟨Y,OwB.shy (hO.carry hG (λ_ _=>rfl) (λ_ _=>rfl))⟩
    |succ j=>simp[ap]at y
   ·have h7:j<1:=by simpa[ap]using (BX.1 y).1
    have h8:M<1:=by simpa[ap]using (BX.1 h3).1
    omega
theorem an.reown (hV:ax V)(h:an P V W st a w)(r:Nat)(c:bV)(M:Nat->List Nat)(a3:(st r).ver<c.ver)(a2:c.sh=(st r).sh)(a0:c.ls.length=(st r).ls.length)
  (a1:∀ (j:Nat) (l:Leaf) (v:Value),c.ls[j]?=some l->(W.cs r)[j]?=some v->aK P V W st w (M j) l v)
  (X:∀ (j:Nat) (l:Leaf),c.ls[j]?=some l->am l->∀ k∈M j,¬ W.nw k/\¬ V.prot k/\(∀ b,live st b->W.β b≠k) /\
   ∀ (r1 j1:Nat) (l1:Leaf),r1≠r->(st r1).ls[j1]?=some l1->am l1->k∉W.bs r1 j1)
  (a4:∀ (j j':Nat) (l l':Leaf),c.ls[j]?=some l->am l->c.ls[j']?=some l'->am l'->∀ k,k∈M j->k∈M j'->j=j') :
  an P V { W with bs:=λr' j=>if r'=r then M j else W.bs r' j } (ac [(r,c)] st) a w:=by
 have I:∀ b,live (ac [(r,c)] st) b<->live st b:=by
  intro b;rcases aj r b c st with ⟨rfl,e⟩|⟨_,e⟩
  ·simp[live,e,a2]
  ·simp[live,e]
 have Z:cH V W { W with bs:=λr' j=>if r'=r then M j else W.bs r' j } st (ac [(r,c)] st) w w:=by
  refine⟨λq=>?_,λb R=>⟨(I b).2 R,rfl⟩,λ_ h=>h,λ_ _=>rfl,λ_ q j' l' J h4 h5=>?_⟩
  ·rcases aj r q c st with ⟨rfl,e⟩|⟨y,e⟩
   ·rw[e];exact⟨Nat.le_of_lt a3,λ_=>rfl⟩
   ·rw[e];exact⟨CH _,λ_=>rfl⟩
  ·rcases aj r q c st with ⟨rfl,e⟩|⟨y,e⟩
   ·rw[e]at h5;omega
   ·rw[e]at J;exact⟨⟨l',J,h4⟩,by simp[y],λ_ _=>rfl⟩
 exact {
  nt:=h.nt,df:=h.df
  slots:=λt ht=>by
   rcases aj r t c st with ⟨rfl,e⟩|⟨_,e⟩
   ·rw[e,a2];exact h.slots t ht
   ·rw[e];exact h.slots t ht
  boxes:=λb R=>by
   rcases aj r b c st with ⟨rfl,e⟩|⟨_,e⟩
   ·rw[e,a2];rcases h.boxes b R with ⟨h1,z⟩|h1
    ·refine .inl ⟨h1,?_⟩;rw[z]at a0;exact CI a0
    ·exact .inr h1
   ·rw[e];exact h.boxes b R
  len:=λq=>by
   rcases aj r q c st with ⟨rfl,e⟩|⟨_,e⟩
   ·rw[e,a0];exact h.len q
   ·rw[e];exact h.len q
  one:=h.one
  leaf:=λq j l u z J=>by
   rcases aj r q c st with ⟨rfl,e⟩|⟨y,e⟩
   ·rw[e]at z;exact (a1 j l u z J).carry hV.ro Z (λ_=>⟨by simp,λ_ _=>rfl⟩)
   ·rw[e]at z;exact (h.leaf q j l u z J).carry hV.ro Z (λ_=>⟨by simp[y],λ_ _=>rfl⟩)
  ownb:=λq j l z J k O=>by
   rcases aj r q c st with ⟨rfl,e⟩|⟨y,e⟩
   ·rw[e]at z;simp only[if_true]at O;have:=X j l z J k O;exact⟨this.1,this.2.1,λb R=>this.2.2.1 b ((I b).1 R)⟩
   ·rw[e]at z;simp only[y,if_false]at O;have:=h.ownb q j l z J k O;exact⟨this.1,this.2.1,λb R=>this.2.2 b ((I b).1 R)⟩
  sep:=λq j l q' j' l' z J h4 h5 k O H=>by
   rcases aj r q c st with ⟨e0,e⟩|⟨y,e⟩ <;> rcases aj r q' c st with ⟨e1,e'⟩|⟨Y,e'⟩
   ·rw[e]at z;rw[e']at h4;simp only[e0,if_true]at O;simp only[e1,if_true]at H;exact⟨e0.trans e1.symm,a4 j j' l l' z J h4 h5 k O H⟩
   ·rw[e]at z;rw[e']at h4;simp only[e0,if_true]at O;simp only[Y,if_false]at H;exact absurd H ((X j l z J k O).2.2.2 q' j' l' Y h4 h5)
   ·rw[e]at z;rw[e']at h4;simp only[y,if_false]at O;simp only[e1,if_true]at H;exact absurd O ((X j' l' h4 h5 k H).2.2.2 q j l y z J)
   ·rw[e]at z;rw[e']at h4;simp only[y,if_false]at O;simp only[Y,if_false]at H;exact h.sep q j l q' j' l' z J h4 h5 k O H
  box:=λb R=>h.box b ((I b).1 R)
  inj:=λb b' R a5=>h.inj b b' ((I b).1 R) ((I b').1 a5)
  nwlt:=h.nwlt
  os:=h.os,tape:=h.tape,output:=h.output,size:=h.size,keep:=h.keep
  fixb:=λx hx=>⟨(I _).2 (h.fixb x hx).1,(h.fixb x hx).2⟩
  fixt:=h.fixt }
theorem an.reownE (hV:ax V)(h:an P V W st a w)(r:Nat)(c:bV)(J:Nat->List Nat)(a5:r≠EPO)(a1:(st r).ver<=c.ver)(a6:c.sh=(st r).sh)(a3:c.ls.length=(st r).ls.length)
  (a0:∀ (j:Nat) (l:Leaf) (v:Value),c.ls[j]?=some l->(W.cs r)[j]?=some v->aK P V W st w (J j) l v)
  (R:∀ (j:Nat) (l:Leaf),c.ls[j]?=some l->am l->∀ k∈J j,¬ W.nw k/\¬ V.prot k/\(∀ b,live st b->W.β b≠k) /\
   ∀ (r1 j1:Nat) (l1:Leaf),r1≠r->(st r1).ls[j1]?=some l1->am l1->k∉W.bs r1 j1)
  (a4:∀ (j j':Nat) (l l':Leaf),c.ls[j]?=some l->am l->c.ls[j']?=some l'->am l'->∀ k,k∈J j->k∈J j'->j=j') :
  an P V { W with bs:=λr' j=>if r'=r then J j else W.bs r' j } (ac [(r,c),(EPO,bY (st EPO))] st) a w /\
   (∀ q,(ac [(r,c),(EPO,bY (st EPO))] st q).sh=(st q).sh/\(st q).ver<=(ac [(r,c),(EPO,bY (st EPO))] st q).ver/\(q≠r->(ac [(r,c),(EPO,bY (st EPO))] st q).ls=(st q).ls))/\ac [(r,c),(EPO,bY (st EPO))] st r=c:=by
 have e0:ac [(r,c),(EPO,bY (st EPO))] st=ac [(r,c)] (ac [(EPO,bY (st EPO))] st):=aR _ _ _ _;generalize hS:ac [(r,c),(EPO,bY (st EPO))] st=S;rw[e0]at hS;have hr:S r=c:=by rw[<- hS,br]
 have O:∀ q,(S q).sh=(st q).sh/\(st q).ver<=(S q).ver/\(q≠r->(S q).ls=(st q).ls):=by
  intro q;rw[<- hS];rcases aj r q c (ac [(EPO,bY (st EPO))] st) with ⟨rfl,e⟩|⟨a8,e⟩
  ·rw[e];exact⟨a6,a1,λh=>absurd rfl h⟩
  ·rw[e];rcases aj EPO q (bY (st EPO)) st with ⟨rfl,e⟩|⟨_,e⟩ <;> rw[e]
   ·exact⟨rfl,Dj _,λ_=>rfl⟩
   ·exact⟨rfl,CH _,λ_=>rfl⟩
 have hE:(st EPO).ver<(S EPO).ver:=by
  rw[<- hS,aJ (Ck a5),br];exact B9 _
 refine⟨?_,O,hr⟩;have I:∀ b,live S b<->live st b:=λb=>by simp[live,(O b).1]
 have X:cH V W { W with bs:=λr' j=>if r'=r then J j else W.bs r' j } st S w w :=
  ⟨λq=>⟨(O q).2.1,λ_=>rfl⟩,λb Y=>⟨(I b).2 Y,rfl⟩,λ_ h=>h,λ_ _=>rfl,λhe=>by omega⟩
 have a2:∀ q,(S q).ls.length=(st q).ls.length:=λq=>by
  by_cases y:q=r
  ·rw[y,hr,a3]
  ·rw[(O q).2.2 y]
 exact {
  nt:=h.nt,df:=h.df
  slots:=λt ht=>by rw[(O t).1];exact h.slots t ht
  boxes:=λb Y=>by
   rw[(O b).1];rcases h.boxes b Y with ⟨h1,z⟩|h1
   ·refine .inl ⟨h1,CI ?_⟩;rw[a2,z];rfl
   ·exact .inr h1
  len:=λq=>by rw[a2];exact h.len q
  one:=h.one
  leaf:=λq j l u z Z=>by
   by_cases y:q=r
   ·subst y;rw[hr]at z;exact (a0 j l u z Z).carry hV.ro X (λ_=>⟨by simp,λ_ _=>rfl⟩)
   ·rw[(O q).2.2 y]at z;exact (h.leaf q j l u z Z).carry hV.ro X (λ_=>⟨by simp[y],λ_ _=>rfl⟩)
  ownb:=λq j l z Z k M=>by
   by_cases y:q=r
   ·subst y;rw[hr]at z;simp only[if_true]at M;have:=R j l z Z k M;exact⟨this.1,this.2.1,λb Y=>this.2.2.1 b ((I b).1 Y)⟩
   ·rw[(O q).2.2 y]at z;simp only[y,if_false]at M;have:=h.ownb q j l z Z k M;exact⟨this.1,this.2.1,λb Y=>this.2.2 b ((I b).1 Y)⟩
  sep:=λq j l q' j' l' z Z h4 h5 k M H=>by
   by_cases e0:q=r <;> by_cases e1:q'=r
   ·subst e0;subst e1;rw[hr]at z h4;simp only[if_true]at M H;exact⟨rfl,a4 j j' l l' z Z h4 h5 k M H⟩
   ·subst e0;rw[hr]at z;rw[(O q').2.2 e1]at h4;simp only[if_true]at M;simp only[e1,if_false]at H;exact absurd H ((R j l z Z k M).2.2.2 q' j' l' e1 h4 h5)
   ·subst e1;rw[(O q).2.2 e0]at z;rw[hr]at h4;simp only[e0,if_false]at M;simp only[if_true]at H;exact absurd M ((R j' l' h4 h5 k H).2.2.2 q j l e0 z Z)
   ·rw[(O q).2.2 e0]at z;rw[(O q').2.2 e1]at h4;simp only[e0,if_false]at M;simp only[e1,if_false]at H;exact h.sep q j l q' j' l' z Z h4 h5 k M H
  box:=λb Y=>h.box b ((I b).1 Y)
  inj:=λb b' Y a7=>h.inj b b' ((I b).1 Y) ((I b').1 a7)
  nwlt:=h.nwlt
  os:=h.os,tape:=h.tape,output:=h.output,size:=h.size,keep:=h.keep
  fixb:=λx hx=>⟨(I _).2 (h.fixb x hx).1,(h.fixb x hx).2⟩
  fixt:=h.fixt }
theorem an.nwGrow (O:ax V)(h:an P V W st a w)(N:Nat->Prop)(M:∀ k,N k->k<w.heap.size/\¬ ch V W st k):an P V { W with nw:=λk=>W.nw k\/N k } st a w:=by
 have z:cH V W { W with nw:=λk=>W.nw k\/N k } st st w w:=⟨λr=>⟨CH _,λ_=>rfl⟩,λb J=>⟨J,rfl⟩,λ_ h=>.inl h,λ_ _=>rfl,λ_ _ _ l y H _=>⟨⟨l,y,H⟩,rfl,λ_ _=>rfl⟩⟩
 exact {
  nt:=h.nt,df:=h.df,slots:=h.slots,boxes:=h.boxes,len:=h.len,one:=h.one
  leaf:=λr j l v y H=>(h.leaf r j l v y H).carry O.ro z (λ_=>⟨rfl,λ_ _=>rfl⟩)
  ownb:=λr j l y H k u=>⟨λI=>I.elim (h.ownb r j l y H k u).1 (λI=>(M k I).2 (.inr (.inr (.inr ⟨r,j,l,y,H,u⟩)))),(h.ownb r j l y H k u).2⟩
  sep:=h.sep
  box:=λb J=>⟨λI=>I.elim (h.box b J).1 (λI=>(M _ I).2 (.inr (.inr (.inl ⟨b,J,rfl⟩)))),(h.box b J).2⟩
  inj:=h.inj
  nwlt:=λk u=>u.elim (h.nwlt k) (λu=>⟨(M k u).1,λR=>(M k u).2 (.inr (.inl R))⟩)
  os:=h.os,tape:=h.tape,output:=h.output,size:=h.size,keep:=h.keep,fixb:=h.fixb,fixt:=h.fixt }
end
def eZ:List Leaf->List Leaf->List (Nat×Nat)
 |.al r j _::y,l::u=>(match l with|.own _ _ _ _ _=>[(r,j)]|_=>[])++eZ y u
 |_::y,_::u=>eZ y u
 |_,_=>[]
section
variable {P:Program} {V:Env} {st st':St} {w w':World} {a:Act}
theorem nA {x l:Leaf}{xs ls:List Leaf}(h:¬ am l):eZ (x::xs) (l::ls)=eZ xs ls:=by
 cases x <;> try rfl
 cases l <;> first|exact absurd trivial h|rfl
theorem vn {k:IntKind}{ls:List Leaf}{x:Bool×(Ty.int k).den×List Leaf}(h:bf st (.int k) ls=some x):∃ l,ls=l::x.2.2:=by
 simp only[bf]at h;split at h
 ·split at h
  ·simp only[BU]at h;subst h;exact⟨_,rfl⟩
  ·cases h
 ·cases h
theorem tK {ls:List Leaf}{x:Bool×Ty.bool.den×List Leaf}(h:bf st .bool ls=some x):∃ l,ls=l::x.2.2:=by
 simp only[bf]at h;split at h
 ·simp only[BU]at h;subst h;exact⟨_,rfl⟩
 ·cases h
theorem vo {ls:List Leaf}{x:Bool×Ty.str.den×List Leaf}(h:bf st .str ls=some x):∃ l,ls=l::x.2.2:=by
 simp only[bf]at h;split at h
 ·simp only[BU]at h;subst h;exact⟨_,rfl⟩
 ·cases h
theorem vp {ls:List Leaf}{x:Bool×Ty.hdr.den×List Leaf}(h:bf st .hdr ls=some x):∃ l,ls=l::x.2.2:=by
 simp only[bf]at h;split at h
 ·split at h
  ·simp only[BU]at h;subst h;exact⟨_,rfl⟩
  ·cases h
 ·cases h
theorem lp {p:Bool}:∀ (b:Ty) (ls:List Leaf) (t:cP b.den),take st b ls=some t->∀ (y:b.den) (r:List Leaf),eZ ls (ap p b y++r)=t.kill++eZ t.rest r
 |.pair b c,ls,t,h,y,r=>by
  simp only[take]at h;split at h
  ·rename_i u z;split at h
   ·rename_i v M;simp only[BU]at h;subst h;simp only[ap];rw[CD,lp b ls u z y.1,lp c u.rest v M y.2,CD]
   ·cases h
  ·cases h
 |.unit,ls,t,h,y,r=>by
  simp only[take,BU]at h;subst h;rfl
 |.list m E e,ls,t,h,y,r=>by
  cases ls with
  |nil=>simp[take]at h
  |cons l ls =>
   cases m with
   |false =>
    simp only[take,cond_false]at h;split at h
    ·simp only[BU]at h;subst h;exact nA id
    ·cases h
   |true =>
    simp only[take,cond_true]at h;split at h
    ·split at h
     ·simp only[BV]at h;obtain⟨O,_,rfl⟩:=h;rfl
     ·cases h
    ·simp only[BU]at h;subst h;rfl
    ·cases h
 |.int k,ls,t,h,y,r=>scal (b:=.int k) h vn (l':=.int k y) id
 |.bool,ls,t,h,y,r=>scal (b:=.bool) h tK (l':=.bool y) id
 |.str,ls,t,h,y,r=>scal (b:=.str) h vo (l':=.str y) id
 |.hdr,ls,t,h,y,r=>scal (b:=.hdr) h vp (l':=.hdr y) id
where
 scal {b:Ty} {ls:List Leaf} {t:cP b.den} {l':Leaf} {r:List Leaf} (h:(bf st b ls).map (λx=>(⟨false,x.2.1,[],[],x.2.2⟩:cP b.den))=some t)
   (H:∀ {ls:List Leaf} {x:Bool×b.den×List Leaf},bf st b ls=some x->∃ l,ls=l::x.2.2) (J:¬ am l'):eZ ls ([l']++r)=t.kill++eZ t.rest r:=by
  simp only[BV]at h;obtain⟨x,I,rfl⟩:=h;obtain⟨l,rfl⟩:=H I;exact nA J
theorem zE {W W':Wit}{bs:List Nat}{l:Leaf}{v:Value}(u:am l)(y:W'.nw=W.nw)(h:aK P V W st w bs l v):aK P V W' st' w bs l v:=by
 cases l <;> simp only[am]at u;exact OwH.carry h (λk r=>by
  rcases r with r|r
  ·exact .inl (by rw[y];exact r)
  ·exact .inr r) (λ_ _=>rfl) (λ_ _=>rfl)
theorem wH {S:St}{x l:Leaf}{xs ls:List Leaf}(h:¬ am l):ac (ce S (x::xs) (l::ls)) S=ac (ce S xs ls) S:=by
 cases x <;> try rfl
 cases l <;> first|exact absurd trivial h|rfl
theorem j0 {x:Nat×Nat}{l:List (Nat×Nat)}(h:be (x::l)=true):x∉l/\be l=true:=by
 simp only[be,BW,CL,CS]at h;exact⟨λr=>by have:=h.1 x r;simp at this,h.2⟩
theorem Ab (hV:ax V){W:Wit}{S:St}(h:an P V W S a w):∀ (xl ls:List Leaf) (cs:List Value) (O:Nat->List Nat),be (eZ xl ls)=true->(∀ x∈eZ xl ls,x.1≠EPO)->xl.length=cs.length->ls.length=cs.length ->
  (∀ (i r j n:Nat) (l:Leaf) (u:Value),xl[i]?=some (.al r j n)->ls[i]?=some l->am l->cs[i]?=some u->(W.cs r)[j]?=some u) ->
  (∀ x∈eZ xl ls,∀ l,(S x.1).ls[x.2]?=some l->¬ am l) ->
  (∀ (i:Nat) (l:Leaf) (u:Value),ls[i]?=some l->cs[i]?=some u->aK P V W S w (O i) l u) ->
  (∀ (i:Nat) (l:Leaf),ls[i]?=some l->am l->∀ k∈O i,¬ ch V W S k) ->
  (∀ (i i':Nat) (l l':Leaf),ls[i]?=some l->am l->ls[i']?=some l'->am l'->∀ k,k∈O i->k∈O i'->i=i') ->
  ∃ W',an P V W' (ac (ce S xl ls) S) a w/\W'.cs=W.cs/\W'.β=W.β/\W'.nw=W.nw/\(∀ q,(ac (ce S xl ls) S q).sh=(S q).sh/\(S q).ver<=(ac (ce S xl ls) S q).ver) /\
   (∀ (q i:Nat),(q,i)∉eZ xl ls->(ac (ce S xl ls) S q).ls[i]?=(S q).ls[i]?/\W'.bs q i=W.bs q i) /\
   (∀ k,ch V W' (ac (ce S xl ls) S) k->ch V W S k\/∃ i l,ls[i]?=some l/\am l/\k∈O i)
 |[],ls,cs,O,_,_,hx,hl,_,_,_,_,_=>⟨W,h,rfl,rfl,rfl,λ_=>⟨rfl,CH _⟩,λ_ _ _=>⟨rfl,rfl⟩,λk R=>.inl R⟩
 |x::X,[],cs,O,_,_,hx,hl,_,_,_,_,_=>by simp at hx hl;omega
 |x::X,l::ls,[],O,_,_,hx,hl,_,_,_,_,_=>by simp at hx
 |x::X,l::ls,u::cs,O,hd,b2,hx,hl,b9,b4,a2,a3,a9=>by
  have ad:be (eZ X ls)=true:=by
   cases x with
   |al r j n =>
    cases l with
    |own p hh E e ys=>exact (j0 hd).2
    |_=>exact hd
   |_=>exact hd
  have a8:∀ z∈eZ X ls,z∈eZ (x::X) (l::ls):=by
   intro z hz;cases x with
   |al r j n=>exact BY _ hz
   |_=>exact hz
  obtain⟨W1,h1,e1,e2,e3,e4,e5,e6⟩:=Ab hV h X ls cs (λi=>O (i+1)) ad (λz hz=>b2 z (a8 z hz)) (by simpa using hx) (by simpa using hl)
   (λi r j n l' u' J I M g4=>b9 (i+1) r j n l' u' (by simpa using J) (by simpa using I) M (by simpa using g4))
   (λz hz=>b4 z (a8 z hz)) (λi l' u' J I=>a2 (i+1) l' u' (by simpa using J) (by simpa using I))
   (λi l' J I=>a3 (i+1) l' (by simpa using J) I)
   (λi i' l1 l2 J I M g4 k g5 g6=>by have:=a9 (i+1) (i'+1) l1 l2 (by simpa using J) I (by simpa using M) g4 k g5 g6;omega)
  by_cases hs:¬ am l\/(∀ r j n,x≠.al r j n)
  ·have a6:ac (ce S (x::X) (l::ls)) S=ac (ce S X ls) S/\eZ (x::X) (l::ls)=eZ X ls:=by
    rcases hs with hs|hs
    ·exact⟨wH hs,nA hs⟩
    ·cases x with
     |al r j n=>exact absurd rfl (hs r j n)
     |_=>exact⟨rfl,rfl⟩
   rw[a6.1,a6.2];exact⟨W1,h1,e1,e2,e3,e4,e5,λk R=>(e6 k R).imp id λ⟨i,l',J,I,M⟩=>⟨i+1,l',by simpa using J,I,M⟩⟩
  ·simp only[not_or,Classical.not_not]at hs;obtain⟨bb,bl⟩:=hs;obtain⟨r,j,n,rfl⟩:∃ r j n,x=.al r j n:=by
    cases x with
    |al r j n=>exact⟨r,j,n,rfl⟩
    |_=>exact absurd (λ_ _ _ h=>by cases h) bl
   obtain⟨p,hh,E,e,ys,rfl⟩:∃ p hh E e ys,l=.own p hh E e ys:=by
    cases l <;> simp only[am]at bb;exact⟨_,_,_,_,_,rfl⟩
   have b0:eZ (.al r j n::X) (.own p hh E e ys::ls)=(r,j)::eZ X ls:=rfl;rw[b0]at hd b4;obtain⟨bn,bx⟩:=j0 hd;have hv:=b9 0 r j n _ u rfl rfl trivial rfl;have a6:ac (ce S (.al r j n::X) (.own p hh E e ys::ls)) S=ac [(r,⟨(ac (ce S X ls) S r).ver,(ac (ce S X ls) S r).sh,aV (ac (ce S X ls) S r).ls j (.own p hh E e ys)⟩),(EPO,bY (ac (ce S X ls) S EPO))] (ac (ce S X ls) S):=bF [_,_] _ _;have a7:aK P V W1 (ac (ce S X ls) S) w (O 0) (.own p hh E e ys) u:=zE trivial e3 (a2 0 _ u rfl rfl);have Y:∀ k∈O 0,¬ ch V W1 (ac (ce S X ls) S) k:=λk R hu=>by
    rcases e6 k hu with hu|⟨i,l',J,I,M⟩
    ·exact a3 0 _ rfl trivial k R hu
    ·have:=a9 0 (i+1) _ l' rfl trivial (by simpa using J) I k R M;omega
   have H:∀ (i:Nat) (l':Leaf),i≠j->(aV (ac (ce S X ls) S r).ls j (.own p hh E e ys))[i]?=some l'->(ac (ce S X ls) S r).ls[i]?=some l':=by
    intro i l' a4 a0;rcases aU _ _ _ _ _ a0 with ⟨rfl,_,_⟩|⟨_,a0⟩
    ·exact absurd rfl a4
    ·exact a0
   have b3:∀ (l':Leaf),(aV (ac (ce S X ls) S r).ls j (.own p hh E e ys))[j]?=some l'->l'=.own p hh E e ys:=by
    intro l' a0;rcases aU _ _ _ _ _ a0 with ⟨_,rfl,_⟩|⟨a4,_⟩
    ·rfl
    ·exact absurd rfl a4
   have ba:r≠EPO:=b2 (r,j) (by rw[b0];exact CJ ..);obtain⟨h2,a5,b5⟩:=h1.reownE hV r ⟨(ac (ce S X ls) S r).ver,(ac (ce S X ls) S r).sh,aV (ac (ce S X ls) S r).ls j (.own p hh E e ys)⟩ (λi=>if i=j then O 0 else W1.bs r i) ba (CH _) rfl (by simp[aV])
    (λi l' v' J I=>by
     by_cases y:i=j
     ·subst y;obtain rfl:=b3 l' J;rw[e1,hv]at I;simp only[BU]at I;subst I;simp only[if_true];exact a7
     ·simp only[if_neg y];exact h1.leaf r i l' v' (H i l' y J) I)
    (λi l' J I k R=>by
     by_cases y:i=j
     ·subst y;simp only[if_true]at R;have hu:=Y k R;simp only[ch,not_or,not_exists,not_and]at hu;exact⟨hu.1,hu.2.1,hu.2.2.1,λr1 j1 l1 _ M g4 g5=>hu.2.2.2 r1 j1 l1 M g4 g5⟩
     ·simp only[if_neg y]at R;have a0:=H i l' y J;have h9:=h1.ownb r i l' a0 I k R;exact⟨h9.1,h9.2.1,h9.2.2,λr1 j1 l1 a4 M g4 g5=>a4 (h1.sep r i l' r1 j1 l1 a0 I M g4 k R g5).1.symm⟩)
    (λi i' l1 l2 J I M g4 k R a1=>by
     by_cases y:i=j <;> by_cases Z:i'=j
     ·omega
     ·subst y;simp only[if_true]at R;simp only[if_neg Z]at a1;exact absurd (.inr (.inr (.inr ⟨r,i',l2,H i' l2 Z M,g4,a1⟩))) (Y k R)
     ·subst Z;simp only[if_true]at a1;simp only[if_neg y]at R;exact absurd (.inr (.inr (.inr ⟨r,i,l1,H i l1 y J,I,R⟩))) (Y k a1)
     ·simp only[if_neg y]at R;simp only[if_neg Z]at a1;exact (h1.sep r i l1 r i' l2 (H i l1 y J) I (H i' l2 Z M) g4 k R a1).2)
   rw[a6];refine⟨_,h2,e1,e2,e3,λq=>?_,λq i hq=>?_,λk R=>?_⟩
   ·exact⟨(a5 q).1.trans (e4 q).1,Cc (e4 q).2 (a5 q).2.1⟩
   ·rw[b0]at hq;simp only[Cm,not_or]at hq;by_cases b1:q=r
    ·subst b1;rw[b5];have y:j≠i:=λe0=>hq.1 (by rw[e0])
     simp only[aV];rw[Cj y];refine⟨(e5 q i hq.2).1,?_⟩;simp only[if_true,if_neg (Ck y)];exact (e5 q i hq.2).2
    ·rw[(a5 q).2.2 b1];refine⟨(e5 q i hq.2).1,?_⟩;show (if q=r then _ else W1.bs q i)=_;rw[if_neg b1];exact (e5 q i hq.2).2
   ·rcases R with R|R|⟨b,hb,R⟩|⟨q,i,l',J,I,M⟩
    ·exact .inl (.inl (by rw[<- e3];exact R))
    ·exact .inl (.inr (.inl R))
    ·refine (e6 k (.inr (.inr (.inl ⟨b,?_,R⟩)))).imp id λ⟨i,l',J,I,M⟩=>⟨i+1,l',by simpa using J,I,M⟩
     exact (iH (λq=>(a5 q).1) b).1 hb
    ·by_cases hq:q=r
     ·subst hq;rw[b5]at J;simp only[if_true]at M;by_cases y:i=j
      ·subst y;simp only[if_true]at M;exact .inr ⟨0,_,rfl,trivial,M⟩
      ·simp only[if_neg y]at M;exact (e6 k (.inr (.inr (.inr ⟨q,i,l',H i l' y J,I,M⟩)))).imp id λ⟨i,l',J,I,M⟩=>⟨i+1,l',by simpa using J,I,M⟩
     ·rw[(a5 q).2.2 hq]at J;simp only[if_neg hq]at M;exact (e6 k (.inr (.inr (.inr ⟨q,i,l',J,I,M⟩)))).imp id λ⟨i,l',J,I,M⟩=>⟨i+1,l',by simpa using J,I,M⟩
end
def PK.isIop:PK->Bool
 |.iop _=>true
 |_=>false
section
variable {P:Program} {V:Env} {Γ:List Ctr} {st st':St} {w w':World} {a:Act}
theorem kY:∀ {a b:List (Nat×Nat)},be (a++b)=true->be a=true/\be b=true/\∀ x∈a,x∉b
 |[],b,h=>⟨rfl,h,by simp⟩
 |x::a,b,h=>by
  obtain⟨u,I⟩:=j0 h;obtain⟨O,M,H⟩:=kY I;refine⟨?_,M,λy r z=>?_⟩
  ·simp only[be,BW,CL,CS];refine⟨λy r X=>u (B6 _ ?_),O⟩;obtain⟨R,J⟩:x.1=y.1/\x.2=y.2:=by simpa using X
   rw[show x=y from Dz R J];exact r
  ·rcases Cm.1 r with rfl|r
   ·exact u (BY _ z)
   ·exact H y r z
theorem kp {p:Bool}:∀ (b:Ty) (ls:List Leaf) (t:cP b.den),take st b ls=some t->∀ (y:b.den) (i r j n:Nat) (l:Leaf),ls[i]?=some (.al r j n)->(ap p b y)[i]?=some l->am l->(st r).ver=n
 |.pair b c,ls,t,h,y,i,r,j,n,l,I,z,J=>by
  simp only[take]at h;split at h
  ·rename_i u M;split at h
   ·rename_i v O;simp only[ap]at z;have Y:=cN p b y.1;by_cases hi:i<b.cells
    ·rw[B4 (by omega)]at z;exact kp b ls u M y.1 i r j n l I z J
    ·rw[B3 (by omega),Y]at z;have Z:=take_rest b ls u M;refine kp c u.rest v O y.2 (i-b.cells) r j n l ?_ z J;rw[Z,Cn,show b.cells+(i-b.cells)=i by omega];exact I
   ·cases h
  ·cases h
 |.list m E e,ls,t,h,y,i,r,j,n,l,I,z,J=>by
  cases m with
  |false =>
   cases i with
   |zero=>simp[ap]at z;subst z;exact J.elim
   |succ i=>simp[ap]at z
  |true =>
   cases i with
   |succ i=>simp[ap]at z
   |zero =>
    cases ls with
    |nil=>simp at I
    |cons l' ls =>
     simp only[Co,BU]at I;subst I;simp only[take,cond_true]at h;split at h
     ·rename_i X;exact (fw X (by simp)).1
     ·cases h
 |.int k,ls,t,h,y,i,r,j,n,l,I,z,J=>by
  cases i with
  |zero=>simp[ap]at z;subst z;exact J.elim
  |succ i=>simp[ap]at z
 |.bool,ls,t,h,y,i,r,j,n,l,I,z,J=>by
  cases i with
  |zero=>simp[ap]at z;subst z;exact J.elim
  |succ i=>simp[ap]at z
 |.str,ls,t,h,y,i,r,j,n,l,I,z,J=>by
  cases i with
  |zero=>simp[ap]at z;subst z;exact J.elim
  |succ i=>simp[ap]at z
 |.hdr,ls,t,h,y,i,r,j,n,l,I,z,J=>by
  cases i with
  |zero=>simp[ap]at z;subst z;exact J.elim
  |succ i=>simp[ap]at z
 |.unit,ls,t,h,y,i,r,j,n,l,I,z,J=>by simp[ap]at z
where
 take_rest:∀ (b:Ty) (ls:List Leaf) (t:cP b.den),take st b ls=some t->t.rest=ls.drop b.cells
  |.pair b c,ls,t,h=>by
   simp only[take]at h;split at h
   ·rename_i u M;split at h
    ·rename_i v O;simp only[BU]at h;subst h;show v.rest=_;rw[take_rest c u.rest v O,take_rest b ls u M,List.drop_drop];rfl
    ·cases h
   ·cases h
  |.unit,ls,t,h=>by
   simp only[take,BU]at h;subst h;rfl
  |.list m E e,ls,t,h=>by
   cases ls with
   |nil=>simp[take]at h
   |cons l ls =>
    cases m with
    |false =>
     simp only[take,cond_false]at h;split at h
     ·simp only[BU]at h;subst h;rfl
     ·cases h
    |true =>
     simp only[take,cond_true]at h;split at h
     ·split at h
      ·simp only[BV]at h;obtain⟨xs,_,rfl⟩:=h;rfl
      ·cases h
     ·simp only[BU]at h;subst h;rfl
     ·cases h
  |.int k,ls,t,h=>sc (b:=.int k) h vn rfl
  |.bool,ls,t,h=>sc (b:=.bool) h tK rfl
  |.str,ls,t,h=>sc (b:=.str) h vo rfl
  |.hdr,ls,t,h=>sc (b:=.hdr) h vp rfl
 sc {b:Ty} {ls:List Leaf} {t:cP b.den} (h:(bf st b ls).map (λx=>(⟨false,x.2.1,[],[],x.2.2⟩:cP b.den))=some t)
   (H:∀ {ls:List Leaf} {x:Bool×b.den×List Leaf},bf st b ls=some x->∃ l,ls=l::x.2.2) (I:b.cells=1):t.rest=ls.drop b.cells:=by
  simp only[BV]at h;obtain⟨x,R,rfl⟩:=h;obtain⟨l,rfl⟩:=H R;rw[I];rfl
theorem wI {agg:Bool}{v:Value}{y z:List Value}(u:dj agg v y)(r:dj agg v z):y=z:=by
 unfold dj at u r;cases agg with
 |true =>
  simp only[if_true]at u r;rw[u]at r;simpa using r
 |false =>
  simp only[Bool.false_eq_true,if_false]at u r;rw[u,r]
theorem qS (hV:ax V){W0 W:Wit}{S0 S:St}{w0:World}{G:Nat->Prop}{p:Bool}(a6:W.cs=W0.cs)(hG:∀ k,G k->gd V W p k)(h:an P V W S a w) :
  ∀ (ps:List PK) (xs:List (aI×List Leaf)) (vs:List Value) (g:Got (ab ps)) (o:ah ps) (H:List (List Nat)),hX P V W0 S0 w0 xs vs->bg (cg Γ S0) ps xs=some g->ps.any PK.isIop=false ->
  bP w G ps o vs H->be g.kill=true->(∀ x∈g.kill,x.1≠EPO)->(∀ x∈g.kill,∀ l,(S x.1).ls[x.2]?=some l->¬ am l)->(∀ k∈H.flatten,¬ ch V W S k)->H.flatten.Nodup ->
  ∃ W',an P V W' (ac (aH S p ps xs o) S) a w/\W'.cs=W.cs/\W'.β=W.β/\W'.nw=W.nw/\(∀ q,(ac (aH S p ps xs o) S q).sh=(S q).sh/\(S q).ver<=(ac (aH S p ps xs o) S q).ver) /\
   (∀ q i,(q,i)∉g.kill->(ac (aH S p ps xs o) S q).ls[i]?=(S q).ls[i]?/\W'.bs q i=W.bs q i)/\(∀ k,ch V W' (ac (aH S p ps xs o) S) k->ch V W S k\/k∈H.flatten)
 |[],xs,vs,g,o,H,_,_,_,_,_,_,_,_,_=>⟨W,h,rfl,rfl,rfl,λ_=>⟨rfl,CH _⟩,λ_ _ _=>⟨rfl,rfl⟩,λk R=>.inl R⟩
 |pk::ps,[],vs,g,o,H,_,hg,_,_,_,_,_,_,_=>by simp[bg]at hg
 |pk::ps,x::xs,vs,g,o,H,hx,hg,hp,ho,hd,a3,a5,O,a0=>by
  obtain⟨v,a4,cs,rfl,hs,hl,a1⟩:=hx;simp only[bg]at hg;split at hg
  ·rename_i g1 a2;split at hg
   ·rename_i g2 b0;simp only[BU]at hg;subst hg;simp only[Cu,DO]at hp;obtain⟨b5,ad,b4⟩:=kY hd;have I:∀ (o':ah ps) (b:List Nat) (M:List (List Nat)),H=b::M->b=[]->bP w G ps o' a4 M->aH S p (pk::ps) (x::xs) o=aH S p ps xs o' ->
      ∃ W',an P V W' (ac (aH S p (pk::ps) (x::xs) o) S) a w/\W'.cs=W.cs/\W'.β=W.β/\W'.nw=W.nw/\(∀ q,(ac (aH S p (pk::ps) (x::xs) o) S q).sh=(S q).sh/\(S q).ver<=(ac (aH S p (pk::ps) (x::xs) o) S q).ver) /\
       (∀ q i,(q,i)∉g1.kill++g2.kill->(ac (aH S p (pk::ps) (x::xs) o) S q).ls[i]?=(S q).ls[i]?/\W'.bs q i=W.bs q i)/\(∀ k,ch V W' (ac (aH S p (pk::ps) (x::xs) o) S) k->ch V W S k\/k∈H.flatten):=by
     intro o' b M e1 e2 ba e3;subst e1;subst e2;rw[e3];obtain⟨W1,f1,f2,f3,f4,f5,f6,f7⟩:=qS hV a6 hG h ps xs a4 g2 o' M a1 b0 hp.2 ba ad (λz Z=>a3 z (BY _ Z)) (λz Z=>a5 z (BY _ Z)) (λk R=>O k (by simpa using R)) (by simpa using a0);exact⟨W1,f1,f2,f3,f4,f5,λq i hq=>f6 q i (λhm=>hq (BY _ hm)),λk R=>(f7 k R).imp id (λhm=>by simpa using hm)⟩
    cases pk with
    |io b =>
     match H,ho with
     |Y::M,⟨y,J⟩ =>
      simp only[CK]at a0 O;rw[Cb]at a0;obtain⟨W1,f1,f2,f3,f4,f5,f6,f7⟩:=qS hV a6 hG h ps xs a4 g2 o.2 M a1 b0 hp.2 J ad (λz Z=>a3 z (BY _ Z)) (λz Z=>a5 z (BY _ Z)) (λk R=>O k (BY _ R)) a0.2.1;simp only[cg,bm]at a2;cases hb:decide (x.1=bq b.isAgg) with
      |false=>simp[hb]at a2
      |true =>
       rw[hb]at a2;simp only[cond_true,BV]at a2;obtain⟨t,ht,rfl⟩:=a2;rw[of_decide_eq_true hb]at hs;unfold jE at y;rw[if_neg (by simp)]at y;obtain⟨a9,b3,hm⟩:=y;have:=wI b3 (gH hs);subst this;obtain⟨b2,m1,m2,m3,m4⟩:=iS (P:=P) (V:=V) (W:=W1) (st:=ac (aH S p ps xs o.2) S) (p:=p) (λk R=>by
        rcases hG k R with R|R
        ·exact .inl (by rw[f4];exact R)
        ·exact .inr R) hm a0.1
       unfold cn at ht;split at ht
       ·rename_i p0 x0 f0 k0 b1;simp only[BU]at ht;subst ht;have X:=lp (p:=p) b x.2 _ b1 o.1 [];simp only[CN]at X;have X:eZ x.2 (ap p b o.1)=k0:=by
         rw[X];show k0++eZ [] []=k0;simp[eZ]
        obtain⟨W2,q1,q2,q3,q4,q5,q6,q7⟩:=Ab hV f1 x.2 (ap p b o.1) a9 b2 (by rw[X];exact b5) (λz Z=>a3 z (B6 _ (by rw[X]at Z;exact Z))) hl.length m1
         (λi r j n l u g3 g4 g5 g6=>by
          have h5:=(hl.at_ i _ u g3 g6).1;rw[f2,a6];exact h5.2 (kp b x.2 _ b1 o.1 i r j n l g3 g4 g5))
         (λz Z l a7=>by
          rw[X]at Z;rw[(f6 z.1 z.2 (b4 z Z)).1]at a7;exact a5 z (B6 _ Z) l a7)
         m2
         (λi l g3 g4 k R hu=>by
          have a8:=m3 i l g3 g4 k R;rcases f7 k hu with hu|hu
          ·exact O k (B6 _ a8) hu
          ·exact a0.2.2 k a8 k hu rfl) m4
        have b9:ac (aH S p (.io b::ps) (x::xs) o) S=ac (ce (ac (aH S p ps xs o.2) S) x.2 (ap p b o.1)) (ac (aH S p ps xs o.2) S):=bF _ _ _;rw[b9];rw[X]at q6;refine⟨W2,q1,q2.trans f2,q3.trans f3,q4.trans f4,λq=>⟨(q5 q).1.trans (f5 q).1,Cc (f5 q).2 (q5 q).2⟩,λq i hq=>?_,λk R=>?_⟩
        ·simp only[B8,not_or]at hq;exact⟨(q6 q i hq.1).1.trans (f6 q i hq.2).1,(q6 q i hq.1).2.trans (f6 q i hq.2).2⟩
        ·rcases q7 k R with R|⟨i,l,g3,g4,g5⟩
         ·exact (f7 k R).imp id (λhm=>BY _ hm)
         ·exact .inr (B6 _ (m3 i l g3 g4 k g5))
       ·cases ht
    |iop b=>simp[PK.isIop]at hp
    |rd b =>
     match H,ho with
     |Y::M,⟨y,J⟩=>exact I o Y M rfl y J rfl
    |own b =>
     match H,ho with
     |Y::M,⟨y,J⟩=>exact I o Y M rfl y J rfl
    |rref b =>
     match H,ho with
     |Y::M,⟨y,J⟩=>exact I o Y M rfl y J rfl
    |rref2 b =>
     match H,ho with
     |Y::M,⟨y,J⟩=>exact I o Y M rfl y J rfl
    |fn As B =>
     match H,ho with
     |Y::M,⟨y,J⟩=>exact I o Y M rfl y J rfl
    |clo f a9 =>
     match H,ho with
     |Y::M,⟨y,J⟩=>exact I o Y M rfl y J rfl
    |hol b cc off =>
     match H,ho with
     |Y::M,⟨y,J⟩=>exact I o Y M rfl y J rfl
   ·cases hg
  ·cases hg
end
section
variable {P:Program} {V:Env} {W:Wit} {st:St} {w:World} {a:Act}
theorem oD {G ro:Nat->Prop}{p q:Bool}{ks:List (Nat×Nat×Nat)}{ep:Nat}(hG:∀ k,G k->gd V W p k)(d n:Nat) :
  ∀ (O:List RK) (y:ai O) (us:List Value) (Z:List (List Nat)),
  (O.any RK.isBv=true->(∀ k,G k\/ro k->gd V W q k\/∃ x∈ks,k∈W.bs x.1 x.2.1)/\ep<=(st EPO).ver/\(∀ k∈ks,k.2.2<=(st k.1).ver))->gG w G ro O y us Z->O.all RK.isV=true->Z.flatten.Nodup ->
  (bH d n p q ks ep O y).2=[]/\∃ (cs:List Value) (a1:Nat->List Nat),pG ((bH d n p q ks ep O y).1.map λx=>(x.1,x.2.length)) us cs/\(((bH d n p q ks ep O y).1.map (·.2)).flatten).length=cs.length/\(∀ u∈cs,u.oneCell'=true) /\
   (∀ (j:Nat) (l:Leaf) (u:Value),(((bH d n p q ks ep O y).1.map (·.2)).flatten)[j]?=some l->cs[j]?=some u->aK P V W st w (a1 j) l u) /\
   (∀ (j:Nat) (l:Leaf),(((bH d n p q ks ep O y).1.map (·.2)).flatten)[j]?=some l->am l->∀ k∈a1 j,k∈Z.flatten) /\
   (∀ (j X:Nat) (l l':Leaf),(((bH d n p q ks ep O y).1.map (·.2)).flatten)[j]?=some l->am l->(((bH d n p q ks ep O y).1.map (·.2)).flatten)[X]?=some l'->am l'->∀ k,k∈a1 j->k∈a1 X->j=X)
 |[],y,us,Z,_,⟨e1,e2⟩,_,_=>by
  subst e1;subst e2;exact⟨rfl,[],λ_=>[],⟨rfl,rfl⟩,rfl,by simp,λj l u h1 h2=>by simp at h2,λj l h1 h2 k J=>by simp at J,λj X l l' _ _ _ _ k J=>by simp at J⟩
 |r::O,y,us,Z,hB,⟨u0,a5,b,a8,e1,e2,hr,a4⟩,hv,a0=>by
  subst e1;subst e2;simp only[DS,BW]at hv;rw[CK,Cb]at a0;obtain⟨f0,a7,d2,f1,f2,ad,f3,f4,f5⟩:=oD (ks:=ks) (q:=q) (ep:=ep) hG d n O y.2 a5 a8 (λhb=>hB (by simp[hb])) a4 hv.2 a0.2.1;obtain⟨agg,L,I,d1,g0,b0,g1,g2,b5,g3,g4,g5⟩:∃ (agg:Bool) (L:List Leaf) (I:List Value) (d1:Nat->List Nat),(pC d n p q ks ep r y.1).1=(agg,L)/\(pC d n p q ks ep r y.1).2=[]/\dj agg u0 I/\L.length=I.length/\(∀ u∈I,u.oneCell'=true) /\
    (∀ (j:Nat) (l:Leaf) (u:Value),L[j]?=some l->I[j]?=some u->aK P V W st w (d1 j) l u)/\(∀ (j:Nat) (l:Leaf),L[j]?=some l->am l->∀ k∈d1 j,k∈b) /\
    (∀ (j X:Nat) (l l':Leaf),L[j]?=some l->am l->L[X]?=some l'->am l'->∀ k,k∈d1 j->k∈d1 X->j=X):=by
   cases r with
   |v c =>
    obtain⟨I,h1,h2⟩:=hr;obtain⟨d1,m1,m2,m3,m4⟩:=iS (P:=P) (V:=V) (W:=W) (st:=st) (p:=p) hG h2 a0.1;exact⟨c.isAgg,_,I,d1,rfl,rfl,h1,m1,h2.one,m2,m3,m4⟩
   |bv c =>
    obtain⟨_,I,h1,h2⟩:=hr;obtain⟨b1,a9,b3⟩:=hB (by simp[RK.isBv]);have h3:=kd (P:=P) (V:=V) (W:=W) (st:=st) (p:=q) a9 b3 (h2.mono b1);exact⟨c.isAgg,_,I,λ_=>[],rfl,rfl,h1,h3.length,h2.one,λj l u g1 g2=>(h3.at_ j l u g1 g2).1,λj l _ _ k J=>by simp at J,λj X l l' _ _ _ _ k J=>by simp at J⟩
   |box c=>simp[RK.isV]at hv
  have b4:(bH d n p q ks ep (r::O) y).1=(agg,L)::(bH d n p q ks ep O y.2).1:=by simp only[bH,g0]
  have b2:(bH d n p q ks ep (r::O) y).2=[]:=by simp only[bH,b0,f0,CN]
  rw[b4];simp only[Dy,CK];have z:∀ (j:Nat) (l:Leaf),(L++((bH d n p q ks ep O y.2).1.map (·.2)).flatten)[j]?=some l->(j<L.length/\L[j]?=some l)\/(L.length<=j/\(((bH d n p q ks ep O y.2).1.map (·.2)).flatten)[j-L.length]?=some l):=by
   intro j l H;by_cases M:j<L.length
   ·rw[B4 M]at H;exact .inl ⟨M,H⟩
   ·rw[B3 (by omega)]at H;exact .inr ⟨by omega,H⟩
  refine⟨b2,I++a7,λj=>if j<L.length then d1 j else d2 (j-L.length),⟨u0,a5,I,a7,rfl,rfl,g2.symm,g1,f1⟩,by rw[CF,CF,g2,f2],λu hu=>(B8.1 hu).elim (b5 u) (ad u),λj l u H hu=>?_,λj l H ho k J=>?_,λj X l l' H ho Y a2 k J R=>?_⟩
  ·rcases z j l H with ⟨M,H⟩|⟨a6,H⟩
   ·rw[B4 (by omega)]at hu;simp only[if_pos M];exact g3 j l u H hu
   ·rw[B3 (by omega),<- g2]at hu;simp only[if_neg (show ¬ j<L.length by omega)];exact f3 _ l u H hu
  ·rcases z j l H with ⟨M,H⟩|⟨a6,H⟩
   ·simp only[if_pos M]at J;exact B6 _ (g4 j l H ho k J)
   ·simp only[if_neg (show ¬ j<L.length by omega)]at J;exact BY _ (f4 _ l H ho k J)
  ·rcases z j l H with ⟨M,H⟩|⟨a6,H⟩ <;> rcases z X l' Y with ⟨a3,Y⟩|⟨b9,Y⟩
   ·simp only[if_pos M]at J;simp only[if_pos a3]at R;exact g5 j X l l' H ho Y a2 k J R
   ·simp only[if_pos M]at J;simp only[if_neg (show ¬ X<L.length by omega)]at R;exact absurd rfl (a0.2.2 k (g4 j l H ho k J) k (f4 _ l' Y a2 k R))
   ·simp only[if_neg (show ¬ j<L.length by omega)]at J;simp only[if_pos a3]at R;exact absurd rfl (a0.2.2 k (g4 X l' Y a2 k R) k (f4 _ l H ho k J))
   ·simp only[if_neg (show ¬ j<L.length by omega)]at J;simp only[if_neg (show ¬ X<L.length by omega)]at R;have:=f5 _ _ l l' H ho Y a2 k J R;omega
theorem BH {l:List (Bool×List Leaf)}{us cs:List Value}{v:Value}(n:Nat)(h:pG (l.map λx=>(x.1,x.2.length)) us cs)(H:sw us v) :
  er (fa n l).sh v cs/\(fa n l).ls=(l.map (·.2)).flatten/\(fa n l).ver=n:=by
 match l,us,h with
 |[],_,⟨y,z⟩ =>
  subst y;subst z;exact⟨⟨[],H,rfl,rfl⟩,rfl,rfl⟩
 |[(agg,L)],_,⟨u,r,c,Y,y,z,h1,X,R,O⟩ =>
  subst y;subst z;subst R;subst O;have H:v=u:=H;subst H;refine⟨?_,by simp[fa],rfl⟩;simp only[fa,CN];exact kn X
 |x::x'::l,us,h =>
  refine⟨?_,rfl,rfl⟩;have I:∃ u M r,us=u::M::r:=by
   obtain⟨u,r,_,_,y,_,_,_,Z,J,_,_,z,_⟩:=h;exact⟨u,Z,J,by rw[y,z]⟩
  obtain⟨u,M,r,rfl⟩:=I;exact⟨_,H,h⟩
end
section
variable {P:Program} {V:Env} {Γ:List Ctr} {st:St} {w:World} {a:Act}
theorem zF {pk:PK}{x:aI×List Leaf}{g:Got pk.den}(r:cg Γ st pk x=some g)(R:pk.isIop=false):g.lend=[]:=by
 cases pk with
 |iop b=>simp[PK.isIop]at R
 |rd b =>
  simp only[cg,bm]at r;cases u:decide (x.1=bq b.isAgg) with
  |false=>simp[u]at r
  |true=>rw[u]at r;simp only[cond_true,BV]at r;obtain⟨y,_,rfl⟩:=r;rfl
 |own b =>
  simp only[cg,bm]at r;cases u:decide (x.1=bq b.isAgg) with
  |false=>simp[u]at r
  |true=>rw[u]at r;simp only[cond_true,BV]at r;obtain⟨y,_,rfl⟩:=r;rfl
 |io b =>
  simp only[cg,bm]at r;cases u:decide (x.1=bq b.isAgg) with
  |false=>simp[u]at r
  |true=>rw[u]at r;simp only[cond_true,BV]at r;obtain⟨y,_,rfl⟩:=r;rfl
 |rref b=>exact cap (c:=(false,b)) r
 |rref2 b=>exact cap (c:=(true,b)) r
 |fn X B =>
  simp only[cg]at r;split at r
  ·unfold kM at r;split at r
   ·unfold sj at r;split at r
    ·rename_i c _ hh;cases u:(c.ps.drop X.length).all PK.reads&&B.flat&&c.fresh with
     |false=>rw[u]at r;cases r
     |true =>
      rw[u]at r;simp only[cond_true]at r;split at r
      ·simp only[BU]at r;subst r;rfl
      ·cases r
    ·cases r
   ·cases r
  ·simp only[bm]at r;split at r
   ·split at r
    ·simp only[BU]at r;subst r;rfl
    ·cases r
   ·cases r
 |hol b Z off =>
  simp only[cg,bm]at r;cases u:decide (x.1=bq b.isAgg) with
  |false=>simp[u]at r
  |true =>
   rw[u]at r;simp only[cond_true]at r;split at r
   ·split at r
    ·rename_i Y _ _ _ _;cases H:CE Y off with
     |false=>simp[H]at r
     |true =>
      rw[H]at r;simp only[cond_true]at r;split at r
      ·split at r
       ·simp only[BU]at r;subst r;rfl
       ·cases r
      ·cases r
    ·cases r
   ·cases r
 |clo f I =>
  simp only[cg,bm]at r;split at r
  ·rename_i J z _;cases u:CE J f with
   |false=>simp[u]at r
   |true=>rw[u]at r;exact caps_ r
  ·rename_i J z _;cases u:CE J f with
   |false=>simp[u]at r
   |true=>rw[u]at r;exact caps_ r
  ·cases r
where
 cap {c:Bool×Ty} {l:Leaf} {g:Got c.2.den} (r:fE st c l=some g):g.lend=[]:=by
  unfold fE at r;cases O:c.1 with
  |true =>
   rw[O]at r;simp only[cond_true]at r;split at r
   ·split at r
    ·simp only[BV]at r;obtain⟨y,_,rfl⟩:=r;rfl
    ·cases r
   ·cases r
  |false =>
   rw[O]at r;simp only[cond_false]at r;split at r
   ·simp only[BV]at r;obtain⟨y,_,rfl⟩:=r;rfl
   ·cases r
 caps_:∀ {I:List (Bool×Ty)} {M:List Leaf} {g:Got (lY I)},cE st I M=some g->g.lend=[]
  |[],[],g,r=>by simp only[cE,BU]at r;subst r;rfl
  |[],_::_,_,r=>by simp[cE]at r
  |_::_,[],_,r=>by simp[cE]at r
  |c::I,l::M,g,r=>by
   simp only[cE]at r;split at r
   ·split at r
    ·simp only[BU]at r;subst r;rfl
    ·cases r
   ·cases r
theorem tL:∀ (ps:List PK) (xs:List (aI×List Leaf)) (g:Got (ab ps)),bg (cg Γ st) ps xs=some g->g.lend=[]->ps.any PK.isIop=false
 |[],_,_,_,_=>rfl
 |_::_,[],_,u,_=>by simp[bg]at u
 |I::ps,x::xs,g,u,z=>by
  simp only[bg]at u;split at u
  ·rename_i M r;split at u
   ·rename_i J y;simp only[BU]at u;subst u;simp only[List.append_eq_nil_iff]at z;rw[Cu,tL ps xs J y z.2,Bool.or_false];cases I with
    |iop b =>
     simp only[cg,bm]at r;split at r
     ·rename_i q _;cases H:decide ((st q).sh=.agg) with
      |false=>simp[H]at r
      |true =>
       rw[H]at r;simp only[cond_true,BV]at r;obtain⟨t,_,rfl⟩:=r;simp at z
     ·cases r
    |_=>rfl
   ·cases u
  ·cases u
theorem ph {W0:Wit}{S0 S:St}{w0:World}{a0:Act}(h0:an P V W0 S0 a0 w0){G:Nat->Prop}{p:Bool} :
  ∀ (ps:List PK) (xs:List (aI×List Leaf)) (vs:List Value) (g:Got (ab ps)) (o:ah ps) (r:List (List Nat)),hX P V W0 S0 w0 xs vs->bg (cg Γ S0) ps xs=some g->ps.any PK.isIo=false->bP w G ps o vs r ->
  (g.lend=[]->aH S p ps xs o=[]/\r.flatten=[]) /\
  (∀ b,g.lend=[b]->∃ (c:Ty) (y:c.den) (cs:List Value) (E:TypeId) (b0:List Nat),aH S p ps xs o=[(b,⟨(S b).ver+2,.agg,ap p c y⟩)]/\w.heap[W0.β b]?=some (.cells cs.toArray E (0,0))/\Mx w G c none 0 y cs b0/\r.flatten=W0.β b::b0/\(S0 b).ls.length=c.cells)
 |[],[],vs,g,o,r,hx,O,_,X=>by
  simp only[bg,BU]at O;subst O;refine⟨λ_=>⟨rfl,?_⟩,λb hb=>by simp at hb⟩
  match vs,r,X with
  |[],[],_=>rfl
 |[],_::_,_,_,_,_,_,O,_,_=>by simp[bg]at O
 |_::_,[],_,_,_,_,_,O,_,_=>by simp[bg]at O
 |pk::ps,x::xs,vs,g,o,r,hx,O,hn,X=>by
  obtain⟨v,Z,cs,rfl,hs,hl,R⟩:=hx;simp only[bg]at O;split at O
  ·rename_i g1 J;split at O
   ·rename_i g2 a2;simp only[BU]at O;subst O;simp only[Cu,DO]at hn;have z:∀ (o':ah ps) (b:List Nat) (I:List (List Nat)),pk.isIop=false->r=b::I->b=[]->bP w G ps o' Z I->aH S p (pk::ps) (x::xs) o=aH S p ps xs o' ->
      (g1.lend++g2.lend=[]->aH S p (pk::ps) (x::xs) o=[]/\r.flatten=[]) /\
      (∀ b,g1.lend++g2.lend=[b]->∃ (c:Ty) (y:c.den) (cs:List Value) (E:TypeId) (b0:List Nat),aH S p (pk::ps) (x::xs) o=[(b,⟨(S b).ver+2,.agg,ap p c y⟩)]/\w.heap[W0.β b]?=some (.cells cs.toArray E (0,0))/\Mx w G c none 0 y cs b0/\r.flatten=W0.β b::b0/\(S0 b).ls.length=c.cells):=by
     intro o' b I hi e1 e2 a4 e3;subst e1;subst e2;rw[e3,zF J hi];simpa using ph h0 (S:=S) (p:=p) ps xs Z g2 o' I R a2 hn.2 a4
    cases pk with
    |iop b =>
     match r,X with
     |M::I,⟨u,H⟩ =>
      obtain⟨r1,r2⟩:=ph h0 (S:=S) (p:=p) ps xs Z g2 o.2 I R a2 hn.2 H;simp only[cg,bm]at J;split at J
      ·rename_i q hq;cases hb:decide ((S0 q).sh=.agg) with
       |false=>simp[hb]at J
       |true =>
        rw[hb]at J;simp only[cond_true,BV]at J;obtain⟨t,ht,rfl⟩:=J;refine⟨λhb=>by simp at hb,λb' Y=>?_⟩;simp only[DH,Cx]at Y;obtain⟨rfl,Y⟩:=Y;obtain⟨r3,r4⟩:=r1 Y;obtain⟨a5,_⟩:=hH hs hl hq (by simp);unfold jE at u;rw[if_pos rfl]at u;obtain⟨g',a3,E,b0,hv,a1,hm,rfl⟩:=u;have a6:g'=W0.β q:=by
         have h9:=a5.2.2;rw[hv]at h9;simp only[Value.pointer.injEq,BU,C6,and_true]at h9;exact h9
        subst a6;refine⟨b,o.1,a3,E,b0,?_,a1,hm,by rw[CK,r4,CN],?_⟩
        rotate_left
        ·rw[h0.len];exact (dW (pos:=0) h0 (iF h0 q) ht).1.len
        simp only[aH,r3,hq,CN];rfl
      ·cases J
    |io b=>simp[PK.isIo]at hn
    |rd b =>
     match r,X with
     |M::I,⟨u,H⟩=>exact z o M I rfl rfl u H rfl
    |own b =>
     match r,X with
     |M::I,⟨u,H⟩=>exact z o M I rfl rfl u H rfl
    |rref b =>
     match r,X with
     |M::I,⟨u,H⟩=>exact z o M I rfl rfl u H rfl
    |rref2 b =>
     match r,X with
     |M::I,⟨u,H⟩=>exact z o M I rfl rfl u H rfl
    |fn As B =>
     match r,X with
     |M::I,⟨u,H⟩=>exact z o M I rfl rfl u H rfl
    |clo f a3 =>
     match r,X with
     |M::I,⟨u,H⟩=>exact z o M I rfl rfl u H rfl
    |hol b cc off =>
     match r,X with
     |M::I,⟨u,H⟩=>exact z o M I rfl rfl u H rfl
   ·cases O
  ·cases O
end
section
variable {P:Program} {V:Env}
theorem wJ (hV:ax V){W:Wit}{S:St}{a:Act}{w:World}(h:an P V W S a w){M:List RK}{y:ai M}{us:List Value}{X:List (List Nat)}{v:Value}{p q:Bool}{ks:List (Nat×Nat×Nat)}{ep:Nat}{G ro:Nat->Prop}
  (Z:gG w G ro M y us X) (hG:∀ k,G k->gd V W p k)
  (hB:M.any RK.isBv=true->(∀ k,G k\/ro k->gd V W q k\/∃ x∈ks,k∈W.bs x.1 x.2.1)/\ep<=(S EPO).ver/\(∀ k∈ks,k.2.2<=(S k.1).ver))
  (H:∀ k∈X.flatten,¬ ch V W S k) (a2:X.flatten.Nodup) (I:sw us v) {d:Nat} (hd:d<V.nt) (a0:∀ x∈V.fixt,x.1≠d) (r:gN S d M=true) :
  ∃ W1,an P V W1 (ac ((d,fa ((ac (bH d (S (B0+d)).ver p q ks ep M y).2 S d).ver+1) (bH d (S (B0+d)).ver p q ks ep M y).1)::(bH d (S (B0+d)).ver p q ks ep M y).2) S) (a.put (some d) v) w /\
   ∀ z,z≠d->z≠B0+d->W1.cs z=W.cs z:=by
 cases hv:M.all RK.isV with
 |true =>
  obtain⟨m0,cs,a1,m1,m2,m3,m4,m5,m6⟩:=oD (P:=P) (W:=W) (st:=S) (p:=p) (q:=q) (ks:=ks) (ep:=ep) hG d (S (B0+d)).ver M y us X hB Z hv a2;rw[m0];obtain⟨s1,s2,s3⟩:=BH ((S d).ver+1) m1 I;show ∃ W1,an P V W1 (ac [(d,fa ((S d).ver+1) (bH d (S (B0+d)).ver p q ks ep M y).1)] S) (a.put (some d) v) w/\_;generalize fa ((S d).ver+1) (bH d (S (B0+d)).ver p q ks ep M y).1=rc at s1 s2 s3 ⊢;obtain⟨v0,b1,ba⟩:=rc;simp only at s1 s2 s3;subst s3;subst s2;have a5:=h.put hV d hd a0 ((S d).ver+1) b1 _ v cs a1 (B9 _) s1 m2 m3 m4
   (λj l R ho k Y=>by
    have ad:=m5 j l R ho k Y;have J:=H k ad;simp only[ch,not_or,not_exists,not_and]at J;exact⟨J.1,J.2.1,J.2.2.1,λr1 j1 l1 _ h8 h9=>J.2.2.2 r1 j1 l1 h8 h9⟩) m6
  refine⟨_,a5,λz hz _=>?_⟩;show (if z=d then cs else W.cs z)=_;rw[if_neg hz]
 |false =>
  have hb:∃ b,M=[.box b]:=by
   unfold gN at r;split at r
   ·exact⟨_,rfl⟩
   ·rw[hv]at r;cases r
  obtain⟨b,rfl⟩:=hb;obtain⟨u0,b9,rb,b5,e1,e2,⟨g',cs,E,b0,a8,a7,hm,a6⟩,e3,e4⟩:=Z;subst e3;subst e4;subst e1;subst e2;subst a6;have I:v=u0:=I;subst I;subst a8;have a3:(S (B0+d)).sh=.off:=by simpa[gN]using r
  have O:(g'::b0).Nodup:=by simpa using a2
  rw[Cf]at O;obtain⟨a1,m1,m2,m3,m4⟩:=iS (P:=P) (V:=V) (W:=W) (st:=S) (p:=p) hG hm O.2;have a4:d≠B0+d:=by simp[B0]
  have b3:=H g' (by simp);have b4:=h.setBoxG hV (B0+d) (Ct _ _) ((S (B0+d)).ver+1) (ap p b y.1) cs a1 g' E (w':=w) (B9 _)
   (.inr ⟨by simp[live,a3],b3,λj l R ho k Y e0=>O.1 (by rw[<- e0];exact m3 j l R ho k Y)⟩) a7 (λ_ _ _=>rfl) (λ_ _ _ _ _ _ _=>rfl) (CH _) rfl rfl rfl m1 hm.one m2
   (λj l R ho k Y=>by
    have J:=H k (by simp;exact .inr (m3 j l R ho k Y));simp only[ch,not_or,not_exists,not_and]at J;exact⟨J.1,J.2.1,J.2.2.1,λr1 j1 l1 _ h8 h9=>J.2.2.2 r1 j1 l1 h8 h9⟩) m4
  have a9:=b4.put hV d hd a0 ((S d).ver+1) .one [.bp (B0+d) 0] (.pointer (some ⟨g',0,none⟩)) [.pointer (some ⟨g',0,none⟩)] (λ_=>[]) (by rw[aJ a4];exact B9 _) rfl rfl (λu J=>by simp at J;subst J;rfl)
   (λj l u R g9=>by
    cases j with
    |zero=>simp at R g9;subst R;subst g9;exact⟨Ct _ _,by rw[br],by simp⟩
    |succ j=>simp at R)
   (λj l R ho k Y=>by simp at Y) (λj j' l l' _ _ _ _ k Y=>by simp at Y)
  have e1:ac (bH d (S (B0+d)).ver p q ks ep [.box b] y).2 S=ac [(B0+d,⟨(S (B0+d)).ver+1,.agg,ap p b y.1⟩)] S:=rfl;rw[aR,e1,aJ a4];refine⟨_,a9,λz hz b2=>?_⟩;show (if z=d then _ else (if z=B0+d then _ else W.cs z))=_;rw[if_neg hz,if_neg b2]
theorem uJ (r:Nat)(c u:bV)(S:St):ac [(r,c)] (ac [(r,u)] S)=ac [(r,c)] S:=by
 funext q;rcases aj r q c (ac [(r,u)] S) with ⟨rfl,e⟩|⟨h,e⟩
 ·rw[e,br]
 ·rw[e,aJ h,aJ h]
theorem zG (hV:ax V){W:Wit}{S:St}{a:Act}{w w':World}(h:an P V W S a w){b:Nat}(hb:live S b){N:Nat->Prop}{cs:List Value}{E:TypeId}{c:Ty}{y:c.den}{b0:List Nat}{G:Nat->Prop}{p:Bool}
  (a2:w'.heap[W.β b]?=some (.cells cs.toArray E (0,0))) (hm:Mx w' G c none 0 y cs b0) (a3:(W.β b::b0).Nodup) (a6:(S b).ls.length=c.cells)
  (a1:∀ k,ch V W S k->k≠W.β b->w'.heap[k]?=w.heap[k]?) (a9:w.heap.size<=w'.heap.size) (ad:w'.os=w.os) (ht:w'.tape=w.tape) (ho:w'.output=w.output)
  (hN:∀ k,N k->k<w'.heap.size/\¬ ch V W S k) (a0:∀ k∈b0,¬ ch V W S k/\¬ N k) (hG:∀ k,G k->gd V { W with nw:=λk=>W.nw k\/N k } p k) :
  ∃ W1,an P V W1 (ac [(b,⟨(S b).ver+2,.agg,ap p c y⟩)] S) a w'/\W1.β=W.β/\(∀ k,W1.nw k<->W.nw k\/N k)/\(∀ q,q≠b->W1.cs q=W.cs q)/\(∀ q i,q≠b->W1.bs q i=W.bs q i) /\
   (∀ k,ch V W1 (ac [(b,⟨(S b).ver+2,.agg,ap p c y⟩)] S) k->ch V W S k\/N k\/k∈b0):=by
 have J:∀ (q:Nat),(if q=b then W.β b else W.β q)=W.β q:=λq=>by split <;> simp_all
 have h1:=h.setBoxG hV b hb.1 ((S b).ver+1) (Cd cs.length .dead) cs (λ_=>[]) (W.β b) E (w':=w') (B9 _) (.inl ⟨hb,rfl⟩) a2 a1 (λ_ _ _ _ k H=>by simp at H) a9 ad ht ho (by simp) hm.one
  (λj l u I R=>by
   rw[Cp]at I;split at I
   ·simp at I;subst I;trivial
   ·cases I)
  (λj l I R k H=>by simp at H) (λj j' l l' _ _ _ _ k H=>by simp at H)
 have Z:∀ (j:Nat) (l:Leaf),(Cd cs.length Leaf.dead)[j]?=some l->¬ am l:=by
  intro j l I;rw[Cp]at I;split at I
  ·simp at I;subst I;exact id
  ·cases I
 have a4:∀ z,live (ac [(b,⟨(S b).ver+1,.agg,Cd cs.length .dead⟩)] S) z->live S z:=by
  intro z Y;rcases aj b z ⟨(S b).ver+1,.agg,Cd cs.length .dead⟩ S with ⟨rfl,e⟩|⟨_,e⟩
  ·exact hb
  ·exact⟨Y.1,by rw[<- e];exact Y.2⟩
 have a8:∀ k,ch V { W with β:=λr=>if r=b then W.β b else W.β r,cs:=λr=>if r=b then cs else W.cs r,bs:=λr j=>if r=b then [] else W.bs r j } (ac [(b,⟨(S b).ver+1,.agg,Cd cs.length .dead⟩)] S) k->ch V W S k:=by
  rintro k (H|H|⟨z,Y,H⟩|⟨z,i,l,I,R,O⟩)
  ·exact .inl H
  ·exact .inr (.inl H)
  ·exact .inr (.inr (.inl ⟨z,a4 z Y,by rw[<- H];exact (J z).symm⟩))
  ·by_cases M:z=b
   ·subst M;rw[br]at I;exact absurd R (Z i l I)
   ·rw[aJ M]at I;simp only[if_neg M]at O;exact .inr (.inr (.inr ⟨z,i,l,I,R,O⟩))
 have h2:=h1.nwGrow hV N (λk H=>⟨(hN k H).1,λhu=>(hN k H).2 (a8 k hu)⟩);rw[Cf]at a3;obtain⟨X,m1,m2,m3,m4⟩:=iS (P:=P) (V:=V) (W:={ W with β:=λr=>if r=b then W.β b else W.β r,cs:=λr=>if r=b then cs else W.cs r,bs:=λr j=>if r=b then [] else W.bs r j,nw:=λk=>W.nw k\/N k })
  (st:=ac [(b,⟨(S b).ver+1,.agg,Cd cs.length .dead⟩)] S) (p:=p) (λk H=>hG k H) hm a3.2
 have b2:=hm.len;have b1:=cN p c y;have h3:=h2.reown hV b ⟨(S b).ver+2,.agg,ap p c y⟩ X (by rw[br];exact B9 _) (by rw[br]) (by rw[br,DI];omega)
  (λj l v I R=>m2 j l v I (by simpa using R))
  (λj l I R k H=>by
   have a7:=m3 j l I R k H;obtain⟨q1,q2⟩:=a0 k a7;refine⟨λhn=>hn.elim (λhn=>q1 (.inl hn)) q2,λhp=>q1 (.inr (.inl hp)),λz Y e0=>q1 (.inr (.inr (.inl ⟨z,a4 z Y,by rw[<- e0];exact (J z).symm⟩))),λr1 j1 l1 a5 O g4 g5=>?_⟩;rw[aJ a5]at O;have g5:k∈(if r1=b then [] else W.bs r1 j1):=g5;rw[if_neg a5]at g5;exact q1 (.inr (.inr (.inr ⟨r1,j1,l1,O,g4,g5⟩)))) m4
 rw[uJ]at h3;refine⟨_,h3,funext λq=>J q,λk=>C3,λq hq=>if_neg hq,λq i hq=>?_,?_⟩
 ·show (if q=b then X i else if q=b then [] else W.bs q i)=_;rw[if_neg hq,if_neg hq]
 ·rintro k ((H|H)|H|⟨z,Y,H⟩|⟨z,i,l,I,R,O⟩)
  ·exact .inl (.inl H)
  ·exact .inr (.inl H)
  ·exact .inl (.inr (.inl H))
  ·refine .inl (.inr (.inr (.inl ⟨z,?_,by rw[<- H];exact (J z).symm⟩)));rcases aj b z ⟨(S b).ver+2,.agg,ap p c y⟩ S with ⟨rfl,e⟩|⟨_,e⟩
   ·exact hb
   ·exact⟨Y.1,by rw[<- e];exact Y.2⟩
  ·by_cases M:z=b
   ·subst M;rw[br]at I;have O:k∈(if z=z then X i else _):=O;rw[if_pos rfl]at O;exact .inr (.inr (m3 i l I R k O))
   ·rw[aJ M]at I;have O:k∈(if z=b then X i else if z=b then [] else W.bs z i):=O;rw[if_neg M,if_neg M]at O;exact .inl (.inr (.inr (.inr ⟨z,i,l,I,R,O⟩)))
end
section
variable {P:Program} {V:Env} {Γ:List Ctr} {st:St} {R:Type}
theorem gI:∀ (ps:List PK) (xs:List (aI×List Leaf)) (r:Upd->List (aI×List Leaf)->Option (Bool×Nat×Nat)->Option R),kN st ps xs r=(c9 st ps xs).bind λu=>r u.1 u.2.1 u.2.2
 |[],xs,r=>rfl
 |_::_,[],r=>rfl
 |p::ps,x::xs,r=>by
  simp only[kN,c9];split
  ·rw[ic];cases cr st (x.2.getD _ .dead) <;> rfl
  ·rw[gI ps xs];cases c9 st ps xs <;> rfl
theorem lq {a:Ty}:∀ {ls:List Leaf} {j k:Nat},lE a j ls=some k->j<=k/\∃ l,ls[k-j]?=some l/\jz l=true
 |[],_,_,h=>by simp[lE]at h
 |l::ls,j,k,h=>by
  simp only[lE]at h;cases r:jz l&&pD a j with
  |true =>
   rw[r]at h;simp only[cond_true,BU]at h;subst h;simp only[BW]at r;exact⟨CH _,l,by simp,r.1⟩
  |false =>
   rw[r]at h;obtain⟨H,y,u,z⟩:=lq h;exact⟨by omega,y,by rw[show k-j=(k-(j+1))+1 by omega];simpa using u,z⟩
theorem rK {p:PK}{ls:List Leaf}{k:Nat}(h:p.nest ls=some k):∃ l,ls[k]?=some l/\jz l=true:=by
 cases p with
 |own a=>obtain⟨_,l,r,u⟩:=lq h;exact⟨l,by simpa using r,u⟩
 |io a=>obtain⟨_,l,r,u⟩:=lq h;exact⟨l,by simpa using r,u⟩
 |_=>simp[PK.nest]at h
theorem tM (u:ax V){W W':Wit}{st':St}{w w':World}(y:cH V W W' st st' w w'):∀ {xs:List (aI×List Leaf)} {z:List Value},hX P V W st w xs z->hX P V W' st' w' xs z
 |[],_,h=>h
 |_::_,_,⟨v,r,H,e,I,J,M⟩=>⟨v,r,H,e,I,J.carry u.ro y,tM u y M⟩
theorem aD.setLeaf {W:Wit}{w:World}{ls:List Leaf}{cs:List Value}(H:aD P V W st w ls cs){k:Nat}{l:Leaf}(u:¬ am l)(h:∀ v,cs[k]?=some v->aK P V W st w [] l v):aD P V W st w (aV ls k l) cs:=by
 have r:=H.length;refine aD.mk (by simp[aV,r]) λj I v y z=>?_
 rcases aU _ _ _ _ _ y with ⟨rfl,rfl,M⟩|⟨J,y⟩
 ·exact⟨h v z,u,H.one' v (List.mem_of_getElem? z)⟩
 ·exact H.at_ j I v y z
def BI (W:Wit)(S:St)(w:World):Option (Bool×Nat×Nat)->Prop
 |some (_,r,j)=>∃ v,W.cs TMP=[v]/\tH W S w r j v
 |none=>True
theorem oE (Z:ax V){W:Wit}{a:Act}{w:World}(h:an P V W st a w):∀ (ps:List PK) (xs:List (aI×List Leaf)) (O:List Value) (U:Upd) (Y:List (aI×List Leaf)) (b:Option (Bool×Nat×Nat)),
  hX P V W st w xs O->c9 st ps xs=some (U,Y,b)->∃ H,an P V H (ac U st) a w/\hX P V H (ac U st) w Y O/\H.nw=W.nw/\H.β=W.β/\BI H (ac U st) w b/\cH V W H st (ac U st) w w/\(∀ q,(ac U st q).sh=(st q).sh\/q=TMP) /\
   (∀ f r j,b=some (f,r,j)->f=true->ps.any PK.isIo=true)
 |[],xs,O,U,Y,b,hx,y=>by
  simp only[c9,BU,CX]at y;obtain⟨rfl,rfl,rfl⟩:=y;exact⟨W,h,hx,rfl,rfl,trivial,cH.refl V W st w,λ_=>.inl rfl,λ_ _ _ h=>by cases h⟩
 |_::_,[],O,U,Y,b,hx,y=>by
  simp only[c9,BU,CX]at y;obtain⟨rfl,rfl,rfl⟩:=y;exact⟨W,h,hx,rfl,rfl,trivial,cH.refl V W st w,λ_=>.inl rfl,λ_ _ _ h=>by cases h⟩
 |p::ps,x::xs,O,U,Y,b,⟨v,M,cs,e,hs,hl,z⟩,y=>by
  subst e;simp only[c9]at y;split at y
  ·rename_i k hk;simp only[BV]at y;obtain⟨u,I,y⟩:=y;simp only[CX]at y;obtain⟨rfl,rfl,rfl⟩:=y;obtain⟨l,J,a2⟩:=rK hk;have hg:x.2.getD k .dead=l:=by rw[CZ,J];rfl
   rw[hg]at I ⊢;have a1:k<cs.length:=by rw[<- hl.length];exact (BX.1 J).1
   have a0:=CG a1;obtain⟨U,l'⟩:=u;obtain⟨H,n,p0,E0,e0,a3,g1,X,g3,g4,_,_,g5,g6,_,g7,g8,g9⟩:=vm Z h (hl.at_ k l _ J a0).1 I;subst g3;refine⟨H,g1,⟨v,M,cs,rfl,hs,(hl.carry Z.ro X).setLeaf id λu I=>?_,tM Z X z⟩,g5,g6,⟨_,g7,g9⟩,X,g8,λf r j hb hf=>?_⟩
   ·rw[a0]at I;simp only[BU]at I;subst I;exact g4
   ·simp only[BU,CX]at hb;rw[Cu,hb.1,hf];rfl
  ·simp only[BV]at y;obtain⟨u,I,y⟩:=y;simp only[CX]at y;obtain⟨rfl,rfl,rfl⟩:=y;obtain⟨H,g1,X,g3,g4,g5,g6,g7,g8⟩:=oE Z h ps xs M u.1 u.2.1 u.2.2 z I;exact⟨H,g1,⟨v,M,cs,rfl,hs,hl.carry Z.ro g6,X⟩,g3,g4,g5,g6,g7,λf r j hb hf=>by rw[Cu,g8 f r j hb hf,Bool.or_true]⟩
end
section
variable {P:Program} {V:Env} {Γ:List Ctr} {st:St}
theorem iT {st:St}{q i:Nat}:∀ {ks:List (Nat×Nat)},(q,i)∉ks->(ac (aF st ks) st q).ls[i]?=(st q).ls[i]?
 |[],_=>rfl
 |(r,j)::ks,h=>by
  simp only[Cm,not_or]at h;have e:ac (aF st ((r,j)::ks)) st=ac [(r,gi (ac (aF st ks) st r) j)] (ac (aF st ks) st):=aR _ _ _ _;rw[e];rcases aj r q (gi (ac (aF st ks) st r) j) (ac (aF st ks) st) with ⟨rfl,e⟩|⟨_,e⟩
  ·rw[e];simp only[gi,aV];rw[Cj (λu=>h.1 (by rw[u]))];exact iT h.2
  ·rw[e];exact iT h.2
theorem lr {st:St}{q i:Nat}:∀ {ks:List (Nat×Nat)},(q,i)∉ks->(ac (aO st ks) st q).ls[i]?=(st q).ls[i]?
 |[],_=>rfl
 |(r,j)::ks,h=>by
  simp only[Cm,not_or]at h;have e:ac (aO st ((r,j)::ks)) st=ac [(r,gm (ac (aO st ks) st r) j)] (ac (aO st ks) st):=aR _ _ _ _;rw[e];rcases aj r q (gm (ac (aO st ks) st r) j) (ac (aO st ks) st) with ⟨rfl,e⟩|⟨_,e⟩
  ·rw[e];simp only[gm,aV];rw[Cj (λu=>h.1 (by rw[u]))];exact lr h.2
  ·rw[e];exact lr h.2
theorem nB (d n:Nat)(p q:Bool)(ks:List (Nat×Nat×Nat))(ep:Nat):∀ (z:List RK) (y:ai z),∀ x∈(bH d n p q ks ep z y).2,x.1=B0+d
 |[],_,x,u=>by simp[bH]at u
 |r::z,y,x,u=>by
  simp only[bH,B8]at u;rcases u with u|u
  ·cases r <;> simp[pC]at u;rw[u]
  ·exact nB d n p q ks ep z y.2 x u
theorem rL {q:Nat}(st:St):∀ (U:Upd),(∀ x∈U,x.1≠q)->ac U st q=st q
 |[],_=>rfl
 |(r,c)::U,h=>by
  rw[aR,aJ (Ck (h (r,c) (CJ ..)))];exact rL st U (λx u=>h x (CC _ u))
def mB (u:St)(c:Ctr)(d:Nat)(xs:List (aI×List Leaf))(g:Got (ab c.ps))(y:ai c.rs×ah c.ps):Upd :=
 let H:=(let U:=(bif c.fresh then [] else aF u g.frz);aO (ac U u) g.kill++U);let z:=aH (ac H u) (g.p&&!c.fresh) c.ps xs y.2++H;let r:=bH d (ac z u (B0+d)).ver (g.p&&!c.fresh) g.p (g.frz.map λk=>(k.1,k.2,(ac z u k.1).ver)) (ac z u EPO).ver c.rs y.1
 (d,fa ((ac (r.2++z) u d).ver+1) r.1)::(r.2++z)
theorem zH (hV:ax V){W0:Wit}{u:St}{a:Act}{w:World}(h0:an P V W0 u a w){c:Ctr}{xs:List (aI×List Leaf)}{vs:List Value}(e7:hX P V W0 u w xs vs){g:Got (ab c.ps)}(hg:bg (cg Γ u) c.ps xs=some g)
  (hf:∀ z∈g.frz,aC u z) (H:∀ z∈g.kill,aC u z) (et:∀ b∈g.lend,live u b) (d1:be g.kill=true) (eg:dJ g.frz g.kill=true) (hE:∀ z∈g.kill,z.1≠EPO) (b2:g.lend.length<=1) (f2:g.lend=[]\/c.ps.any PK.isIo=false)
  {b4:List (List Nat)} (bx:∀ k,b4.flatten.count k=(g.lend.map W0.β).count k+(bc W0 g.kill).count k)
  {d:Nat} (hd:d<V.nt) (ed:∀ x∈V.fixt,x.1≠d) (a5:gN u d c.rs=true) (eb:((c.fresh&&g.lend.isEmpty)||!(c.rs.any RK.isBv))=true) {y:ai c.rs×ah c.ps} {e:Ending} {w':World} (cp:tI c w (bu V W0 g.p g.frz) vs b4 y e w') :
  ∃ v,e=.returned v/\∃ W1,an P V W1 (ac (mB u c d xs g y) u) (a.put (some d) v) w'/\(∀ q,q≠d->q≠B0+d->q∉g.lend->W1.cs q=W0.cs q) /\
   (∀ q i,q≠d->q≠B0+d->q∉g.lend->(q,i)∉g.frz->(q,i)∉g.kill->(ac (mB u c d xs g y) u q).ls[i]?=(u q).ls[i]?)/\(∀ k,k<w.heap.size->k∉bc W0 g.kill->k∉g.lend.map W0.β->w'.heap[k]?=w.heap[k]?)/\w.heap.size<=w'.heap.size:=by
 obtain⟨v,us,N,cx,b5,rfl,ec,cw,ej,d3,ef,es,hN,bn,dd,R,Z⟩:=cp;have a3:∀ k,k∈b4.flatten<->k∈g.lend.map W0.β\/k∈bc W0 g.kill:=λk=>by
  rw[<- B7,<- B7,<- B7,bx k];omega
 have a0:∀ k,k<w.heap.size->k∉bc W0 g.kill->k∉g.lend.map W0.β->w'.heap[k]?=w.heap[k]?:=λk h1 h2 h3=>es k h1 (λh=>((a3 k).1 h).elim h3 h2)
 refine⟨v,rfl,?_⟩;unfold mB;generalize ba:(bif c.fresh then [] else g.frz)=O;have hU:(bif c.fresh then [] else aF u g.frz)=aF u O:=by rw[<- ba];cases c.fresh <;> rfl
 have e4:dJ O g.kill=true:=by rw[<- ba];cases c.fresh with|true=>rfl|false=>exact eg
 have bb:∀ z∈O,z∈g.frz:=by rw[<- ba];cases c.fresh with|true=>simp|false=>exact λ_ h=>h
 have f4:∀ z∈O,aC u z:=λz hz=>hf z (bb z hz)
 rw[hU];obtain⟨h1,h2,h3,h4⟩:=fT hV h0 e4 H;have a8:∀ q i,(q,i)∉g.frz->(q,i)∉g.kill->(ac (aO (ac (aF u O) u) g.kill++aF u O) u q).ls[i]?=(u q).ls[i]?:=λq i q1 q2=>by
  rw[bF,lr q2,iT (λh=>q1 (bb _ h))]
 generalize f3:aO (ac (aF u O) u) g.kill++aF u O=I at h1 h2 h3 h4 a8;have a2:∀ k∈bc W0 g.kill,¬ ch V (W0.frz u O) (ac I u) k:=λk H=>mw ⟨(h4 k H).1,(h4 k H).2.1,(h4 k H).2.2.2.1,(h4 k H).2.2.2.2⟩
 have a1:∀ k,qg w w' b4.flatten k->k∉g.lend.map W0.β->k<w'.heap.size/\¬ ch V (W0.frz u O) (ac I u) k:=by
  rintro k ⟨f0,a6⟩ en;refine⟨f0,λM=>?_⟩;rcases a6 with a6|a6
  ·have:=h1.used_lt k M;omega
  ·exact ((a3 k).1 a6).elim en (λa6=>a2 k a6 M)
 have hG:∀ k,(N k\/(c.fresh=false/\bu V W0 g.p g.frz k))->gd V { W0.frz u O with nw:=λk=>(W0.frz u O).nw k\/N k } (g.p&&!c.fresh) k:=by
  rintro k (H|⟨em,H⟩)
  ·exact .inl (.inr H)
  ·have e1:O=g.frz:=by rw[<- ba,em];rfl
   have:=kw (V:=V) (W:=W0) (p:=g.p) hf k H;rw[em];rw[<- e1]at this;exact bX (W':={ W0.frz u O with nw:=λk=>(W0.frz u O).nw k\/N k }) (by intro h;simp[h]) (λ_ h=>Or.inl h) k this
 rw[Cb]at R;have cc:∀ (W2:Wit),an P V W2 (ac (aH (ac I u) (g.p&&!c.fresh) c.ps xs y.2++I) u) a w'->(∀ k,(N k\/(c.fresh=false/\bu V W0 g.p g.frz k))->gd V W2 (g.p&&!c.fresh) k) ->
   (∀ k∈b5.flatten,¬ ch V W2 (ac (aH (ac I u) (g.p&&!c.fresh) c.ps xs y.2++I) u) k) ->
   (c.rs.any RK.isBv=true->∀ x∈g.frz,∀ k,k∈W0.bs x.1 x.2->k∈W2.bs x.1 x.2)->(c.rs.any RK.isBv=true->∀ k,W0.nw k->W2.nw k) ->
   (∀ q,q∉g.lend->W2.cs q=W0.cs q)->(∀ q i,q∉g.lend->(q,i)∉g.frz->(q,i)∉g.kill->(ac (aH (ac I u) (g.p&&!c.fresh) c.ps xs y.2++I) u q).ls[i]?=(u q).ls[i]?) ->
   (∀ q,(ac (aH (ac I u) (g.p&&!c.fresh) c.ps xs y.2++I) u q).sh=(u q).sh) ->
   ∃ W1,an P V W1 (ac (let Y:=aH (ac I u) (g.p&&!c.fresh) c.ps xs y.2++I
     let r:=bH d (ac Y u (B0+d)).ver (g.p&&!c.fresh) g.p (g.frz.map λk=>(k.1,k.2,(ac Y u k.1).ver)) (ac Y u EPO).ver c.rs y.1
     (d,fa ((ac (r.2++Y) u d).ver+1) r.1)::(r.2++Y)) u) (a.put (some d) v) w'/\(∀ q,q≠d->q≠B0+d->q∉g.lend->W1.cs q=W0.cs q) /\
    (∀ q i,q≠d->q≠B0+d->q∉g.lend->(q,i)∉g.frz->(q,i)∉g.kill->(ac (let Y:=aH (ac I u) (g.p&&!c.fresh) c.ps xs y.2++I
     let r:=bH d (ac Y u (B0+d)).ver (g.p&&!c.fresh) g.p (g.frz.map λk=>(k.1,k.2,(ac Y u k.1).ver)) (ac Y u EPO).ver c.rs y.1
     (d,fa ((ac (r.2++Y) u d).ver+1) r.1)::(r.2++Y)) u q).ls[i]?=(u q).ls[i]?):=by
  intro W2 g1 d2 a4 cy e0 dc c0 bl;generalize aH (ac I u) (g.p&&!c.fresh) c.ps xs y.2++I=Y at g1 a4 c0 bl ⊢;have c2:gN (ac Y u) d c.rs=true:=by
   unfold gN at a5 ⊢;split at a5
   ·rw[bl];exact a5
   ·exact a5
  obtain⟨W1,q1,q2⟩:=wJ hV g1 (q:=g.p) (ks:=g.frz.map λk=>(k.1,k.2,(ac Y u k.1).ver)) (ep:=(ac Y u EPO).ver) dd d2 (λhb=>by
   refine⟨λk H=>?_,CH _,λk H=>?_⟩
   ·rcases H with H|(H|H)|⟨x,hx,H⟩
    ·exact .inl (bX (W':=W2) (by intro h;simp at h;exact h.1) (λ_ h=>h) k (d2 k H))
    ·exact .inl (.inl (e0 hb k H))
    ·exact .inl (.inr H)
    ·exact .inr ⟨(x.1,x.2,(ac Y u x.1).ver),DE.2 ⟨x,hx,rfl⟩,cy hb x hx k H⟩
   ·obtain⟨x,hx,rfl⟩:=DE.1 H;exact CH _) a4 R.2.1 ec hd ed c2
  have e1:∀ (X:Upd) (C:bV),ac ((d,C)::(X++Y)) u=ac ((d,C)::X) (ac Y u):=λX C=>by
   rw[aR d C (X++Y),aR d C X,bF]
  simp only[e1,bF];refine⟨W1,q1,λq hq cu c4=>(q2 q hq cu).trans (dc q c4),λq i hq cu c4 a9 a7=>?_⟩;rw[aR,aJ hq,rL _ _ (λx hx=>by rw[nB _ _ _ _ _ _ _ _ x hx];exact Ck cu)];exact c0 q i c4 a9 a7
 refine (?_:∃ W1,_/\_/\_).imp λW1 hh=>⟨hh.1,hh.2.1,hh.2.2,a0,cw⟩
 cases J:g.lend with
 |nil =>
  rw[J]at a3 a0 a1 bx;simp only[DV,List.not_mem_nil,not_false_iff,true_implies,forall_const,false_or]at a3 a0 a1;rw[J]at cc;have h5:=h1.world hV cw ej d3 ef (λk H=>a0 k (h1.used_lt k H) (λhm=>a2 k hm H));have h6:=h5.nwGrow hV N (λk H=>a1 k (hN k H));have c1:∀ k,ch V { W0.frz u O with nw:=λk=>(W0.frz u O).nw k\/N k } (ac I u) k->ch V (W0.frz u O) (ac I u) k\/N k:=by
   rintro k ((H|H)|H|H|H)
   ·exact .inl (.inl H)
   ·exact .inr H
   ·exact .inl (.inr (.inl H))
   ·exact .inl (.inr (.inr (.inl H)))
   ·exact .inl (.inr (.inr (.inr H)))
  have b3:∀ k∈cx.flatten++b5.flatten,¬ ch V { W0.frz u O with nw:=λk=>(W0.frz u O).nw k\/N k } (ac I u) k:=λk H M=>by
   obtain⟨q1,q2⟩:=Z k H;rcases c1 k M with M|M
   ·exact (a1 k q1).2 M
   ·exact q2 M
  obtain⟨W2,g1,g2,g3,g4,g5,g6,g7⟩:=qS (Γ:=Γ) hV (W0:=W0) (W:={ W0.frz u O with nw:=λk=>(W0.frz u O).nw k\/N k }) (p:=g.p&&!c.fresh) rfl hG h6 c.ps xs vs g y.2 cx e7 hg (tL c.ps xs g hg J) bn d1 hE
   (λx hx l hl ho=>(h2 x.1 x.2 l hl ho).2.2 hx) (λk H=>b3 k (B6 _ H)) R.1
  rw[<- bF]at g1 g5 g6 g7;refine cc W2 g1 (λk H=>?_) (λk H M=>?_) (λhb x hx k H=>?_) (λhb k H=>?_) (λq _=>by rw[g2];rfl) (λq i _ a9 a7=>(g6 q i a7).1.trans (a8 q i a9 a7)) (λq=>(g5 q).1.trans (h3 q).1)
  ·rcases hG k H with H|H
   ·exact .inl (by rw[g4];exact H)
   ·exact .inr H
  ·rcases g7 k M with M|M
   ·exact b3 k (BY _ H) M
   ·exact R.2.2 k M k H rfl
  ·rw[(g6 x.1 x.2 (nT eg x hx)).2];exact H
  ·rw[g4];exact .inl (.inl H)
 |cons b e5 =>
  have cb:e5=[]:=by
   rw[J]at b2;simp at b2;exact b2
  subst cb;have f1:c.ps.any PK.isIo=false:=f2.resolve_left (by rw[J];simp);have e6:c.rs.any RK.isBv=false:=by
   rw[J]at eb;simpa using eb
  obtain⟨_,r2⟩:=ph (Γ:=Γ) h0 (S:=ac I u) (p:=g.p&&!c.fresh) c.ps xs vs g y.2 cx e7 hg f1 bn;obtain⟨cT,yv,cs,E,b0,r3,r4,r5,r6,r7⟩:=r2 b J;rw[r6]at R Z;have hβ:(W0.frz u O).β=W0.β:=rfl;have b9:∀ k,k∈g.lend.map W0.β<->k=W0.β b:=λk=>by rw[J];simp
  have hb:live (ac I u) b:=(iH (λq=>(h3 q).1) b).2 (et b (by rw[J];simp));have c3:∀ k,k∈(W0.β b::b0)++b5.flatten->¬ N k:=λk H=>(Z k H).2
  obtain⟨W2,g1,g2,g3,g4,g5,g6⟩:=zG hV h1 hb (N:=N) (p:=g.p&&!c.fresh) r4 r5 R.1 (by rw[h1.len b];show (W0.cs b).length=_;rw[<- h0.len b];exact r7)
   (λk M ev=>a0 k (h1.used_lt k M) (λhm=>a2 k hm M) (λhm=>ev ((b9 k).1 hm))) cw ej d3 ef
   (λk H=>a1 k (hN k H) (λhm=>c3 _ (B6 _ (CJ ..)) (by rw[<- (b9 k).1 hm];exact H)))
   (λk H=>⟨(a1 k (Z k (B6 _ (CC _ H))).1 (λhm=>by
    have:=(b9 k).1 hm;subst this;exact (Cf.1 R.1).1 H)).2,c3 k (B6 _ (CC _ H))⟩) hG
  have e2:ac (aH (ac I u) (g.p&&!c.fresh) c.ps xs y.2++I) u=ac [(b,⟨(ac I u b).ver+2,.agg,ap (g.p&&!c.fresh) cT yv⟩)] (ac I u):=by rw[bF,r3]
  have ex:∀ k∈b5.flatten,k∉g.lend.map W0.β:=λk H hm=>R.2.2 _ (CJ ..) k H ((b9 k).1 hm).symm
  rw[<- e2]at g1 g6;have ad:=cc W2 g1 (λk H=>?_) (λk H M=>?_) (λb1=>by rw[e6]at b1;cases b1) (λb1=>by rw[e6]at b1;cases b1) (λq hq=>?_) (λq i hq a9 a7=>?_) (λq=>?_)
  ·rw[J]at ad;exact ad
  ·rcases hG k H with H|H
   ·exact .inl ((g3 k).2 H)
   ·exact .inr H
  ·rcases g6 k M with M|M|M
   ·exact (a1 k (Z k (BY _ H)).1 (ex k H)).2 M
   ·exact c3 k (BY _ H) M
   ·exact R.2.2 k (CC _ M) k H rfl
  ·rw[J]at hq;rw[g4 q (by simpa using hq)];rfl
  ·rw[J]at hq;rw[e2,aJ (by simpa using hq)];exact a8 q i a9 a7
  ·rw[e2];rcases aj b q ⟨(ac I u b).ver+2,.agg,ap (g.p&&!c.fresh) cT yv⟩ (ac I u) with ⟨rfl,e3⟩|⟨_,e3⟩
   ·rw[e3];have:=hb.2;rw[(h3 q).1]at this;exact this.symm
   ·rw[e3];exact (h3 q).1
end
section
variable {P:Program} {V:Env} {Γ:List Ctr} {T:TypeId->TI} {st:St} {o:Oper} {R:Type} {κ:Upd->Option R} {r:R}
theorem zI {ls:List Leaf}{j:Nat}{p:Bool}{u:Option (Nat×Nat)}{E:TypeId}{e:Ty}{xs:List e.den}(h:ls.getD j .dead=.own p u E e xs):ls[j]?=some (.own p u E e xs):=by
 rw[CZ]at h;cases y:ls[j]? with
 |none=>rw[y]at h;simp at h
 |some z=>rw[y]at h;simp at h;rw[h]
theorem AW (hV:ax V){b:Option (Bool×Nat×Nat)}{U:Upd}(h:ka st b U κ=some r) :
  ∃ U',κ U'=some r/\∀ I a w,an P V I (ac U st) a w->(∀ q j,b=some (true,q,j)->∃ v,I.cs TMP=[v]/\tH I (ac U st) w q j v)->Rel P V (ac U' st) a w:=by
 unfold ka at h;split at h
 ·rename_i q j;split at h
  ·rename_i p i off E' e' xs q' E e ys hq b1;obtain⟨y,hy,h⟩:=CR.1 h;obtain⟨_,_,hy⟩:=gy hy;simp only[DW]at hy;split at h
   ·rename_i z hz;refine⟨_,h,λI a w hr hb=>?_⟩;obtain⟨v,bl,a3,bn,i0,b9,p0,E0,e0,c0,g,c4,g1,g2,g3,g4⟩:=hb q j rfl;have hq:=zI hq;rw[hq]at g1;obtain⟨rfl,ba,rfl,h4⟩:p=p0/\some (i,off)=some (i0,b9)/\E'=E0/\(⟨e',xs⟩:(e:Ty)×List e.den)=⟨e0,c0⟩:=by
     simp only[BU,Leaf.own.injEq]at g1;obtain⟨q1,q2,q3,q4,q5⟩:=g1;subst q4;rw[heq_eq_eq]at q5;subst q5;exact⟨q1,by simpa using q2,q3,rfl⟩
    simp only[BU,CX]at ba;obtain⟨rfl,rfl⟩:=ba;simp only[Sigma.mk.injEq]at h4;obtain⟨rfl,h4⟩:=h4;rw[heq_eq_eq]at h4;subst h4;generalize hS:ac U st=S at hr hq g1 g2 g3 b1 ⊢;have a6:(S TMP).ls[0]?=some (.own q' none E e ys):=by rw[b1];rfl
    have b5:(I.cs TMP)[0]?=some v:=by rw[bl];rfl
    have b0:=hr.leaf q j _ _ hq g2;have ad:=hr.leaf TMP 0 _ _ a6 b5;have b0:OwH w (gd V I p) (some (i,off)) E' e' xs _ (I.bs q j):=b0;have ad:Ow w (gd V I q') E e ys v (I.bs TMP 0):=ad;have b4:=b0.carry (G':=gd V I (p||q')) (bX (W':=I) (by intro h;simp[h]) (λ_ h=>h)) (λ_ _=>rfl) (λ_ _=>rfl);have b3:=OwH.carry (G':=gd V I (p||q')) ad (bX (W':=I) (by intro h;simp[h]) (λ_ h=>h)) (λ_ _=>rfl) (λ_ _=>rfl);have c1:∀ k∈I.bs TMP 0,k∉I.bs q j:=λk M a0=>a3 (hr.sep TMP 0 _ q j _ a6 trivial hq trivial k M a0).1.symm
    obtain⟨a8,bb,bx⟩:=b4.back b3 c1 hy hz (λg' c3 e1=>by
     simp only[CT,BU,C6,and_true]at e1;rw[<- e1.1];exact g4)
    have c2:∀ k∈a8,k∈I.bs q j\/k∈I.bs TMP 0:=λk M=>by
     have h5:=bx k;have h6:=B7.2 M;by_cases h7:k∈I.bs q j
     ·exact .inl h7
     ·have:=CM.2 h7;exact .inr (B7.1 (by omega))
    obtain⟨h1,cb⟩:=hr.putGhost hV TMP jf.1 jf.2.1 ((S TMP).ver+1) .off [] [] (λ_=>[]) (B9 _) rfl (by simp) (λj l u hj=>by simp at hj) (λj l hj=>by simp at hj) (λj j' l l' hj=>by simp at hj);have a5:∀ x,x≠TMP->ac [(TMP,⟨(S TMP).ver+1,.off,[]⟩)] S x=S x:=λx hx=>aJ hx _ _
    have a7:(ac [(TMP,⟨(S TMP).ver+1,.off,[]⟩)] S) q=S q:=a5 q a3;have H:∀ (O:Nat) (l':Leaf),O≠j->(aV (S q).ls j (.own (p||q') none E' e' (xs.set i z)))[O]?=some l'->(S q).ls[O]?=some l':=by
     intro O l' a2 a1;rcases aU _ _ _ _ _ a1 with ⟨rfl,_,_⟩|⟨_,a1⟩
     ·exact absurd rfl a2
     ·exact a1
    have b2:∀ (l':Leaf),(aV (S q).ls j (.own (p||q') none E' e' (xs.set i z)))[j]?=some l'->l'=.own (p||q') none E' e' (xs.set i z):=by
     intro l' a1;rcases aU _ _ _ _ _ a1 with ⟨_,rfl,_⟩|⟨a2,_⟩
     ·rfl
     ·exact absurd rfl a2
    have a4:∀ b,live (ac [(TMP,⟨(S TMP).ver+1,.off,[]⟩)] S) b->live S b:=λb hb=>by
     have:b≠TMP:=by have:=hb.1;have:=jf.2.1;omega
     exact⟨hb.1,by rw[<- a5 b this];exact hb.2⟩
    have a9:∀ k∈a8,¬ I.nw k/\¬ V.prot k/\(∀ b,live S b->I.β b≠k)/\∀ (X i1:Nat) (l1:Leaf),(S X).ls[i1]?=some l1->am l1->(X,i1)≠(q,j)->X≠TMP->k∉I.bs X i1:=λk M=>by
     rcases c2 k M with M|M
     ·have h9:=hr.ownb q j _ hq trivial k M;exact⟨h9.1,h9.2.1,h9.2.2,λX i1 l1 g5 g6 g7 _ g8=>g7 (by obtain⟨e1,e2⟩:=hr.sep X i1 l1 q j _ g5 g6 hq trivial k g8 M;rw[e1,e2])⟩
     ·have h9:=hr.ownb TMP 0 _ a6 trivial k M;exact⟨h9.1,h9.2.1,h9.2.2,λX i1 l1 g5 g6 _ g7 g8=>g7 (hr.sep X i1 l1 TMP 0 _ g5 g6 a6 trivial k g8 M).1⟩
    have h2:=(h1.reownE hV q ⟨(S q).ver,(S q).sh,aV (S q).ls j (.own (p||q') none E' e' (xs.set i z))⟩ (λO=>if O=j then a8 else I.bs q O) bn (by rw[a7];exact CH _) (by rw[a7]) (by rw[a7];simp[aV])
     (λO l' u g5 g6=>by
      have g6:(if q=TMP then [] else I.cs q)[O]?=some u:=g6;rw[if_neg a3]at g6;by_cases J:O=j
      ·subst J;obtain rfl:=b2 l' g5;rw[g2]at g6;simp only[BU]at g6;subst g6;simp only[if_true];exact bb
      ·simp only[if_neg J];have:=h1.leaf q O l' u (by rw[a7];exact H O l' J g5) (by show (if q=TMP then [] else I.cs q)[O]?=_;rw[if_neg a3];exact g6);have e0:(if q=TMP then ([]:List Nat) else I.bs q O)=I.bs q O:=if_neg a3;simp only[e0]at this;exact this)
     (λO l' g5 g6 k M=>by
      by_cases J:O=j
      ·subst J;simp only[if_true]at M;obtain⟨q1,q2,q3,q4⟩:=a9 k M;refine⟨q1,q2,λb hb=>q3 b (a4 b hb),λX j1 l1 a2 g7 g8 g9=>?_⟩;by_cases Z:X=TMP
       ·subst Z;rw[br]at g7;simp at g7
       ·rw[a5 X Z]at g7;have g9:k∈(if X=TMP then [] else I.bs X j1):=g9;rw[if_neg Z]at g9;exact q4 X j1 l1 g7 g8 (λe=>a2 (by cases e;rfl)) Z g9
      ·simp only[if_neg J]at M;have a1:=H O l' J g5;have h9:=hr.ownb q O l' a1 g6 k M;refine⟨h9.1,h9.2.1,λb hb=>h9.2.2 b (a4 b hb),λX j1 l1 a2 g7 g8 g9=>?_⟩;by_cases Z:X=TMP
       ·subst Z;rw[br]at g7;simp at g7
       ·rw[a5 X Z]at g7;have g9:k∈(if X=TMP then [] else I.bs X j1):=g9;rw[if_neg Z]at g9;exact a2 (hr.sep q O l' X j1 l1 a1 g6 g7 g8 k M g9).1.symm)
     (λi1 i2 l1 l2 g5 g6 g7 g8 k M a0=>by
      by_cases J:i1=j <;> by_cases Y:i2=j
      ·omega
      ·subst J;simp only[if_true]at M;simp only[if_neg Y]at a0;exact absurd a0 ((a9 k M).2.2.2 q i2 l2 (H i2 l2 Y g7) g8 (λe=>Y (by cases e;rfl)) a3)
      ·subst Y;simp only[if_true]at a0;simp only[if_neg J]at M;exact absurd M ((a9 k a0).2.2.2 q i1 l1 (H i1 l1 J g5) g6 (λe=>J (by cases e;rfl)) a3)
      ·simp only[if_neg J]at M;simp only[if_neg Y]at a0;exact (hr.sep q i1 l1 q i2 l2 (H i1 l1 J g5) g6 (H i2 l2 Y g7) g8 k M a0).2)).1
    show ∃ W,an P V W _ a w;have e1:ac ((q,⟨(S q).ver,(S q).sh,aV (S q).ls j (.own (p||q') none E' e' (xs.set i z))⟩)::(TMP,⟨(S TMP).ver+1,.off,[]⟩)::(EPO,bY (S EPO))::U) st =
      ac [(q,⟨(S q).ver,(S q).sh,aV (S q).ls j (.own (p||q') none E' e' (xs.set i z))⟩),(EPO,bY (ac [(TMP,⟨(S TMP).ver+1,.off,[]⟩)] S EPO))] (ac [(TMP,⟨(S TMP).ver+1,.off,[]⟩)] S):=by
     rw[a5 EPO (Ck jf.2.2),aR q,aR TMP,aR EPO,hS,aR q _ [(EPO,bY (S EPO))],nj jf.2.2]
    rw[e1];exact⟨_,h2⟩
   ·cases h
  ·cases h
 ·exact⟨_,h,λI a w hr _=>⟨I,hr⟩⟩
theorem vq (hV:ax V)(hΓ:∀ c∈Γ,bT P c){d:Nat}(hd:d<V.nt)(eb:∀ x∈V.fixt,x.1≠d){f:FuncId}{xs:List (aI×List Leaf)}(h:jA Γ st d f xs κ=some r) :
  ge P f/\∃ U,κ U=some r/\∀ W a w,an P V W st a w->∀ vs,hX P V W st w xs vs->Calls P f vs.toArray w (λe w'=>∃ v,e=.returned v/\Rel P V (ac U st) (a.put (some d) v) w'):=by
 unfold jA at h;split at h
 ·rename_i c hc;obtain⟨cu,rfl⟩:=nz hc;obtain⟨cc,ad⟩:=hΓ c cu;refine⟨cc,?_⟩;rw[gI]at h;obtain⟨⟨U0,ys,b⟩,c1,h⟩:=CR.1 h;simp only at h;split at h
  ·rename_i g hg;cases M:be g.kill&&dJ g.frz g.kill&&gN st d c.rs&&!(g.see.any λq=>g.lend.any (CE q))&&DB g.lend.length 1&&(g.lend.isEmpty||!(c.ps.any PK.isIo))&&((c.fresh&&g.lend.isEmpty)||!(c.rs.any RK.isBv))&&(g.kill.all λk=>!CE k.1 EPO)&&oQ b g.frz g.kill d with
   |false=>rw[M]at h;cases h
   |true =>
    rw[M]at h;simp only[cond_true]at h;simp only[BW]at M;obtain⟨⟨⟨⟨⟨⟨⟨⟨b3,ec⟩,J⟩,b9⟩,I⟩,ed⟩,f1⟩,hE⟩,e6⟩:=M;obtain⟨y,hy,h⟩:=CR.1 h;obtain⟨U',f3,c3⟩:=AW (P:=P) (V:=V) hV h;refine⟨U',f3,λW a w hr vs f0=>?_⟩;obtain⟨W0,Y,bn,fi,hβ0,cp,e7,b1,e3⟩:=oE hV hr c.ps xs vs U0 ys b f0 c1;generalize a9:ac U0 st=S0 at Y bn cp e7 b1 hg;obtain⟨⟨a7,bl,a4⟩,hf,hk,a1⟩:=kI (uI hV hΓ Y) c.ps ys vs g bn hg;have hE:∀ z∈g.kill,z.1≠EPO:=λz hz e0=>by
     have:=List.all_eq_true.1 hE z hz;rw[e0]at this;simp at this
    have I:g.lend.length<=1:=Ch I;have bb:g.lend=[]\/c.ps.any PK.isIo=false:=by
     simp only[Dq,De,CL]at ed;exact ed
    have c0:∀ k,k∈a7.flatten<->k∈g.lend.map W0.β\/k∈bc W0 g.kill:=λk=>by
     rw[<- B7,<- B7,<- B7,a4 k];omega
    have a2:∀ k,jZ V W0 S0 g.frz g.see k->k<w.heap.size/\k∉a7.flatten:=by
     intro k H;refine⟨Y.used_lt k (rJ hf k H),λZ=>?_⟩;rcases (c0 k).1 Z with Z|Z
     ·obtain⟨b',O,rfl⟩:=DE.1 Z;have dd:=Y.box b' (a1 b' O);rcases H with H|H|⟨b2,d2,a0,e2⟩|⟨z,hz,H⟩
      ·exact dd.1 H
      ·exact dd.2 H
      ·have:=Y.inj b2 b' a0 (a1 b' O) e2;subst this;simp only[CL,CS]at b9;have:=b9 b2 d2;rw[Bool.not_eq_true,CS]at this;have:=this b2 O;simp at this
      ·obtain⟨l,hl,ho⟩:=hf z hz;exact (Y.ownb z.1 z.2 l hl ho _ H).2.2 b' (a1 b' O) rfl
     ·obtain⟨z,hz,X⟩:=gx.1 Z;obtain⟨l,hl,ho⟩:=hk z hz;have a3:=Y.ownb z.1 z.2 l hl ho k X;rcases H with H|H|⟨b2,d2,a0,e2⟩|⟨z',e4,H⟩
      ·exact a3.1 H
      ·exact a3.2.1 H
      ·exact a3.2.2 b2 a0 e2
      ·obtain⟨l',f4,f7⟩:=hf z' e4;obtain⟨e1,e2⟩:=Y.sep z.1 z.2 l z'.1 z'.2 l' hl ho f4 f7 k X H;exact nT ec z' e4 (by rw[show z'=z from Dz e1.symm e2.symm];exact hz)
    have ej:a7.flatten.Nodup:=bA.2 λk=>by
     rw[a4 k];have h5:=bA.1 (gY Y b3 hk) k;have h6:(g.lend.map W0.β).count k<=1:=by
      exact Cc List.count_le_length (by rw[Cw];exact I)
     by_cases h7:k∈g.lend.map W0.β
     ·have:(bc W0 g.kill).count k=0:=CM.2 λZ=>by
       obtain⟨b',O,e0⟩:=DE.1 h7;obtain⟨z,hz,X⟩:=gx.1 Z;obtain⟨l,hl,ho⟩:=hk z hz;exact (Y.ownb z.1 z.2 l hl ho k X).2.2 b' (a1 b' O) e0
      omega
     ·have:(g.lend.map W0.β).count k=0:=CM.2 h7;omega
    have a6:=ad w (bu V W0 g.p g.frz) g.val vs a7 y (bl.mono (λ_ h=>h) a2) (λk H=>a2 k (mA hV k H)) ej hy;have c2:gN S0 d c.rs=true:=by
     unfold gN at J ⊢;split at J
     ·rcases b1 (B0+d) with e0|e0
      ·rw[e0];exact J
      ·exact absurd e0 (by have:=jf.2.1;omega)
     ·exact J
    refine a6.mono λe w' bx=>?_
    obtain⟨v,rfl,W1,a5,b4,cy,cb,_⟩:=zH (Γ:=Γ) hV Y bn hg hf hk a1 b3 ec hE I bb a4 hd eb c2 f1 bx;refine⟨v,rfl,?_⟩;refine c3 W1 _ w' ?_ ?_
    ·have e1:=bF (mB S0 c d ys g y) U0 st;rw[a9]at e1;rw[<- e1]at a5;subst a9;unfold mB at a5;simp only[bF,CD,Di]at a5 ⊢;exact a5
    ·intro q j hb;subst hb;obtain⟨u,ef,f8,eg,i,off,p,E,e,f5,gg,es,q1,q2,q3,q4⟩:=cp;have d3:=e3 true q j rfl rfl;have a8:g.lend=[]:=bb.resolve_right (by rw[d3];simp);simp only[oQ,BW,CL]at e6;obtain⟨⟨⟨cx,cw⟩,b5⟩,ba⟩:=e6;have dc:q≠d:=λe0=>by rw[e0]at b5;simp at b5
     have d1:q≠B0+d:=λe0=>by rw[e0]at ba;simp at ba
     have e5:(q,j)∉g.kill:=λZ=>by
      have:=CS.1 cx _ Z;simp[iB]at this
     have em:(q,j)∉g.frz:=λZ=>by
      have:=CS.1 cw _ Z;simp[iB]at this
     have en:TMP≠d:=by have:=hV.nt;have:=jf.1;omega
     have et:TMP≠B0+d:=by have:=jf.2.1;omega
     have hL:=cy q j dc d1 (by rw[a8];simp) em e5;rw[q1]at hL;have hC:=b4 q dc d1 (by rw[a8];simp);have e1:=bF (mB S0 c d ys g y) U0 st;rw[a9]at e1;have ex:gg<w.heap.size:=Y.own_lt q1 trivial gg q3;have ev:gg∉bc W0 g.kill:=λZ=>by
      obtain⟨z,hz,X⟩:=gx.1 Z;obtain⟨l,hl,ho⟩:=hk z hz;obtain⟨e1,e2⟩:=Y.sep z.1 z.2 l q j _ hl ho q1 trivial gg X q3;exact e5 (by rw[show (q,j)=z from Dz e1.symm e2.symm];exact hz)
     have c4:w'.cell? ⟨gg,i*e.cells+off,none⟩=some u:=by
      rw[kP (cb gg ex ev (by rw[a8];simp))];exact q4
     have f2:gg∈W1.bs q j:=by
      have h9:=a5.leaf q j _ _ hL (by rw[hC];exact q2);obtain⟨_,fc,fd,_,f6,_⟩:=h9;rw[f6];simp[CP]
     refine⟨u,by rw[b4 TMP en et (by rw[a8];simp)];exact ef,f8,eg,i,off,p,E,e,f5,gg,es,?_,by rw[hC];exact q2,f2,c4⟩;have b0:=hL;rw[<- e1]at b0;subst a9;unfold mB at b0;simp only[bF,CD,Di]at b0 ⊢;exact b0
  ·cases h
 ·cases h
end
section
variable {P:Program} {V:Env} {Γ:List Ctr} {T:TypeId->TI} {st:St} {o:Oper} {R:Type} {κ:Upd->Option R} {r:R}
theorem oc {W:Wit}{a:Act}{w:World}(h:an P V W st a w):∀ (l:List Operand),hX P V W st w (l.map (au st)) (l.map a.eval)
 |[]=>rfl
 |x::l=>by
  obtain⟨u,y,z⟩:=cX h x;exact⟨a.eval x,l.map a.eval,u,rfl,y,z,oc h l⟩
theorem nC {W:Wit}{w:World}:∀ {xs z:List (aI×List Leaf)} {y us:List Value},hX P V W st w xs y->hX P V W st w z us->hX P V W st w (xs++z) (y++us)
 |[],_,_,_,I,u=>by rw[show _=_ from I];exact u
 |x::xs,_,_,_,⟨v,X,H,e,M,O,J⟩,u=>by
  subst e;exact⟨v,_,H,rfl,M,O,nC J u⟩
theorem qT {a:Act}{w:World}{c:Call}{x:Operand}{f:FuncId}{caps:Array Value}(z:o.op=.call c)(J:c.callee=.value x)(I:a.eval x=.func (.func f) #[] caps)(M:ge P f){next:Act->World->Prop}{Q:Exit->Act->World->Prop}
  (u:Calls P f (c.args.map a.eval++caps) w (λe H=>∃ v,e=.returned v/\next (a.put o.dst v) H)):o.wp P a w next Q:=by
 unfold Oper.wp;have y:(execOp a.eval o).run P w=.ok (.enter f (c.args.map a.eval++caps)) w:=by
  have:=M (c.args.map a.eval++caps) w;simp[execOp,z,resolve,J,I,Deferred.ofValue,invoke,this]
 rw[y,Oper.upon_enter];refine u.mono λe H=>?_
 rintro⟨v,rfl,hn⟩;exact hn
theorem lu {p:Bool}:∀ {b:Ty} {x:b.den},b.flat=true->ap p b x=cO p b x
 |.int _,_,_=>rfl
 |.bool,_,_=>rfl
 |.str,_,_=>rfl
 |.unit,_,_=>rfl
 |.hdr,_,_=>rfl
 |.pair a b,x,h=>by
  simp only[Ty.flat,BW]at h;simp only[ap,cO,lu h.1,lu h.2]
 |.list _ _ _,_,h=>by simp[Ty.flat]at h
theorem rM (hV:ax V){W:Wit}{a:Act}{w:World}(h:an P V W st a w):∀ (M:List Ty) (xs:List (aI×List Leaf)) (X:List Value) (x:Tup M),hX P V W st w xs X->iU st M xs=some x ->
  sm w (λk=>k<w.heap.size) M x X
 |[],[],X,_,hx,_=>hx
 |[],_::_,_,_,_,u=>by simp[iU]at u
 |_::_,[],_,_,_,u=>by simp[iU]at u
 |b::M,x::xs,X,z,⟨v,O,cs,e,Z,hl,I⟩,u=>by
  subst e;simp only[iU]at u;cases J:decide (x.1=bq b.isAgg) with
  |false=>simp[J]at u
  |true =>
   simp only[J,cond_true]at u;have J:=of_decide_eq_true J;rw[J]at Z;split at u
   ·rename_i p y hy;simp only[BV]at u;obtain⟨t,ht,rfl⟩:=u;have Y:=eP h hl hy;refine⟨v,cs,O,rfl,gH Z,Y.mono (λk H=>?_),rM hV h M xs O t I ht⟩;rcases H with (H|⟨_,H⟩)|⟨z,hz,H⟩
    ·exact (h.nwlt k H).1
    ·exact Ce (hV.ro k H).1 h.size
    ·obtain⟨l,h1,h2⟩:=ez hl hz;exact h.own_lt h1 h2 k H
   ·cases u
theorem yu (hV:ax V)(hΓ:∀ c∈Γ,bT P c)(J:bR V o){c:Call}{f:Operand}(Y:o.op=.call c)(hc:c.callee=.value f)
  (h:act Γ T o st κ=some r):bZ P V o st κ r:=by
 simp only[act,wrU,Y,hc]at h;split at h
 ·cases h
 ·rename_i d X;split at h
  ·rename_i g H Z;obtain⟨he,U,hU,z⟩:=vq hV hΓ (J d X).1 (J d X).2 h;refine⟨U,hU,λW a w I next Q hn=>?_⟩;obtain⟨M,_,_,_,_⟩:=bz I f (by rw[Z];simp);rw[Z]at M;have O:=nC (oc I c.args.toList) (sx (qh (P:=P) (V:=V) (W:=W) (w:=w) H M.2));rw[Da]at O;have:=z W a w I _ O;have e:(c.args.toList.map a.eval++H.map λb=>Value.pointer (some ⟨W.β b,0,none⟩)).toArray=c.args.map a.eval++(H.map λb=>Value.pointer (some ⟨W.β b,0,none⟩)).toArray:=by
    apply Dv;simp
   rw[e]at this;refine qT Y hc M.1 he (this.mono λe w'=>?_);rintro⟨v,rfl,hrel⟩;refine⟨v,rfl,hn _ _ ?_⟩;rw[X];exact hrel
  ·rename_i g H Z;obtain⟨he,U,hU,z⟩:=vq hV hΓ (J d X).1 (J d X).2 h;refine⟨U,hU,λW a w I next Q hn=>?_⟩;obtain⟨M,_,_,_,_⟩:=bz I f (by rw[Z];simp);rw[Z]at M;obtain⟨us,M,a3,a1⟩:=M;have O:=nC (oc I c.args.toList) (sx (qR (st:=st) a3 a1));rw[Da]at O;have:=z W a w I _ O;have e:(c.args.toList.map a.eval++us).toArray=c.args.map a.eval++us.toArray:=by
    apply Dv;simp
   rw[e]at this;refine qT Y hc M he (this.mono λe w'=>?_);rintro⟨v,rfl,hrel⟩;refine⟨v,rfl,hn _ _ ?_⟩;rw[X];exact hrel
  ·rename_i As B φ Z;cases hb:B.flat with
   |false=>simp[hb]at h
   |true =>
    simp only[hb,cond_true]at h;split at h
    ·rename_i x hx;obtain⟨y,hy,h⟩:=CR.1 h;simp only[X]at h;refine⟨_,h,λW a w I next Q hn=>?_⟩;obtain⟨M,_,_,_,_⟩:=bz I f (by rw[Z];simp);rw[Z]at M;obtain⟨f',H,M,he,z⟩:=M;have a0:=rM hV I As _ _ x (oc I c.args.toList) hx;have:=z w I.size I.keep x _ y a0 hy;have e:(c.args.toList.map a.eval).toArray=c.args.map a.eval:=by apply Dv;simp
     rw[e]at this;refine qT Y hc M he (this.mono λe w'=>?_);rintro⟨u,cs,rfl,hvo,hrd,hbelow⟩;refine⟨u,rfl,hn _ _ ?_⟩;rw[X];have a4:=I.below hV hbelow;have a2:=fk (P:=P) (V:=V) (W:=W) (st:=st) (G:=λ_=>False) (p:=false) (λ_ h=>h.elim) hrd;rw[<- lu hb]at a2;exact a4.putLs hV d (J d X).1 (J d X).2 _ _ _ u cs (B9 _) (kn hvo) a2
    ·cases h
  ·cases h
theorem BJ (H:ax V)(I:TOk P T)(hΓ:∀ c∈Γ,bT P c)(z:bR V o)(h:act Γ T o st κ=some r):bZ P V o st κ r:=by
 cases u:o.op with
 |move x=>exact yI H z u h
 |assign x=>exact vJ H z u h
 |pick c x y=>exact yJ H z u h
 |alloc t=>exact yk H I z u h
 |box t x=>exact AS H z u h
 |build t M=>exact xh H I z u h
 |buildSlice t n M=>exact qP H I z u h
 |load t x=>exact yL H I z u h
 |store t x y=>exact ym H I u h
 |nilCheck x=>exact sO H z u h
 |binOp X t x y Z=>exact xd H I z u h
 |unOp X t x=>exact yK H z u h
 |convert s t x=>exact uG H I z u h
 |makeSlice t n c=>exact sg H I z u h
 |slice t x lo hi Y=>exact yq H I z u h
 |fieldAddr t x f=>exact sb H I z u h
 |field t x f=>exact xg H I z u h
 |indexAddr t x i=>exact sd H I z u h
 |index t x i=>exact xf H I z u h
 |extract x i=>exact uk H z u h
 |makeFunc fn first O=>exact sP H z u h
 |call c =>
  cases J:c.callee with
  |value f=>exact yu H hΓ z u J h
  |builtin b =>
   cases b with
   |len=>exact Ag H I z u J h
   |append=>exact wE H I z u J h
   |min=>exact AT H z u J h
   |max=>exact AU H z u J h
   |_ =>
    simp only[act,wrU,u,J]at h;split at h <;> cases h
  |_ =>
   simp only[act,wrU,u,J]at h;split at h <;> cases h
 |_=>simp[act,wrU,u]at h
end
def cG:Ty->Ty->Bool
 |.pair a b,z=>match z with
  |.pair c d=>cG a c&&cG b d
  |_=>false
 |.list m E e,z=>match z with
  |.list n u r=>decide (E=u)&&(bif n then m&&cG e r else decide (e.sh=r.sh))
  |_=>false
 |a,z=>decide (a=z)
theorem gf:∀ {a b:Ty},cG a b=true->a.sh=b.sh
 |.pair a b,z,h=>by
  cases z with
  |pair c d =>
   simp only[cG,BW]at h;simp only[Ty.sh,gf h.1,gf h.2]
  |_=>simp[cG]at h
 |.list m E e,z,h=>by
  cases z with
  |list n r u =>
   simp only[cG,BW,decide_eq_true_eq]at h;obtain⟨rfl,h⟩:=h;cases n with
   |true =>
    simp only[cond_true,BW]at h;simp only[Ty.sh,gf h.2]
   |false =>
    simp only[cond_false,decide_eq_true_eq]at h;simp only[Ty.sh,h]
  |_=>simp[cG]at h
 |.int _,z,h=>by simp only[cG,decide_eq_true_eq]at h;rw[h]
 |.bool,z,h=>by simp only[cG,decide_eq_true_eq]at h;rw[h]
 |.str,z,h=>by simp only[cG,decide_eq_true_eq]at h;rw[h]
 |.unit,z,h=>by simp only[cG,decide_eq_true_eq]at h;rw[h]
 |.hdr,z,h=>by simp only[cG,decide_eq_true_eq]at h;rw[h]
theorem zJ {a b:Ty}(h:cG a b=true):a.isAgg=b.isAgg:=by
 cases a with
 |pair c d=>cases b <;> first|rfl|(simp[cG]at h)
 |list m E e=>cases b <;> first|rfl|(simp[cG]at h)
 |_=>simp only[cG,decide_eq_true_eq]at h;rw[h]
theorem oF {f g h:Nat->List Nat}{k:Nat}:∀ {l:List Nat},(∀ j∈l,(f j).count k=(g j).count k+(h j).count k)->(l.flatMap f).count k=(l.flatMap g).count k+(l.flatMap h).count k
 |[],_=>rfl
 |a::l,H=>by
  have u:=H a (CJ ..);have y:=oF (l:=l) (λj r=>H j (CC _ r));simp only[Ci,BZ];omega
theorem Mx.thin {w:World}{G:Nat->Prop}:∀ {a b:Ty} {pos:Nat} {x:a.den} {y:b.den} {cs:List Value} {bs:List Nat},cG a b=true->HEq x y->Mx w G a none pos x cs bs ->
  ∃ b1 b2:List Nat,(∀ k,bs.count k=b1.count k+b2.count k)/\Mx w (λk=>G k\/k∈b2) b none pos y cs b1
 |.pair a b,z,pos,x,y,cs,bs,h,r,H=>by
  cases z with
  |pair c d =>
   simp only[cG,BW]at h;obtain⟨c1,c2,ba,bb,rfl,rfl,h1,h2⟩:=H;obtain⟨h3,h4⟩:=sG (jH (gf h.1)) (jH (gf h.2)) r;obtain⟨p1,p2,R,Z⟩:=Mx.thin h.1 h3 h1;obtain⟨r1,r2,s1,s2⟩:=Mx.thin h.2 h4 h2;refine⟨p1++r1,p2++r2,λk=>?_,c1,c2,p1,r1,rfl,rfl,Z.mono (λk M=>M.imp id (B6 _)),?_⟩
   ·have:=R k;have:=s1 k;simp only[BZ];omega
   ·have:=s2.mono (G':=λk=>G k\/k∈p2++r2) (λk M=>M.imp id (BY _))
    rwa [im (gf h.1)]at this
  |_=>simp[cG]at h
 |.list m E e,z,pos,xs,X,cs,bs,h,r,H=>by
  have a2:=gf h;cases z with
  |list n E' e' =>
   simp only[cG,BW,decide_eq_true_eq]at h;obtain⟨rfl,h⟩:=h;cases n with
   |true =>
    simp only[cond_true,BW]at h;obtain⟨rfl,h⟩:=h;rw[bM (by simp)]at H;obtain⟨v,rfl,I,a0,h1,h2,h3⟩:=H;obtain⟨h4,h5⟩:=sH (jH (gf h)) r;have a1:∀ j,∃ q:List Nat×List Nat,j<X.length->(∀ k,(a0 j).count k=q.1.count k+q.2.count k) /\
      ∀ y,X[j]?=some y->∃ c,Mx w (λk=>G k\/k∈q.2) e' none 0 y c q.1/\∀ i u,c[i]?=some u->I[j*e'.cells+i]?=some u:=by
     intro j;by_cases J:j<X.length
     ·have Y:=CG J;obtain⟨x,hx,r⟩:=h5 j _ Y;obtain⟨c,hm,hc⟩:=h3 j x hx;obtain⟨b1,b2,R,Z⟩:=Mx.thin h r hm;refine⟨(b1,b2),λ_=>⟨R,λy O=>⟨c,?_,λi u hi=>?_⟩⟩⟩
      ·rw[Y]at O;simp only[BU]at O;subst O;exact Z
      ·rw[<- im (gf h)];exact hc i u hi
     ·exact⟨([],[]),λh=>absurd h J⟩
    obtain⟨f,hf⟩:=Classical.skolem.1 a1;refine⟨v.ownBlock.toList++(CB X.length).flatMap (λj=>(f j).1),(CB X.length).flatMap (λj=>(f j).2),λk=>?_,?_⟩
    ·rw[h2,BZ,BZ,h4,oF (g:=λj=>(f j).1) (h:=λj=>(f j).2) (λj J=>(hf j (DL.1 J)).1 k)];omega
    ·rw[bM (by simp)];refine⟨v,rfl,I,λj=>(f j).1,by rw[<- h4,<- im (gf h)];exact h1,rfl,λj y O=>?_⟩;have J:=(BX.1 O).1;obtain⟨c,R,Z⟩:=(hf j J).2 y O;exact⟨c,R.mono (λk M=>M.imp id (λM=>d6.2 ⟨j,J,M⟩)),Z⟩
   |false =>
    refine⟨[],bs,λk=>by simp,?_⟩;rw[cA];exact⟨rfl,Rd.flags a2 r (Mx.rd (S:=λk=>G k\/k∈bs) (λ_=>.inl) (λ_=>.inr) H)⟩
  |_=>simp[cG]at h
 |.int _,z,pos,x,y,cs,bs,h,r,H=>by
  simp only[cG,decide_eq_true_eq]at h;subst h;cases r;exact⟨bs,[],λk=>by simp,H.mono (λ_=>.inl)⟩
 |.bool,z,pos,x,y,cs,bs,h,r,H=>by
  simp only[cG,decide_eq_true_eq]at h;subst h;cases r;exact⟨bs,[],λk=>by simp,H.mono (λ_=>.inl)⟩
 |.str,z,pos,x,y,cs,bs,h,r,H=>by
  simp only[cG,decide_eq_true_eq]at h;subst h;cases r;exact⟨bs,[],λk=>by simp,H.mono (λ_=>.inl)⟩
 |.unit,z,pos,x,y,cs,bs,h,r,H=>by
  simp only[cG,decide_eq_true_eq]at h;subst h;cases r;exact⟨bs,[],λk=>by simp,H.mono (λ_=>.inl)⟩
 |.hdr,z,pos,x,y,cs,bs,h,r,H=>by
  simp only[cG,decide_eq_true_eq]at h;subst h;cases r;exact⟨bs,[],λk=>by simp,H.mono (λ_=>.inl)⟩
theorem jE.mono {w:World}{G G':Nat->Prop}(z:∀ k,G k->G' k){a:Ty}{x:a.den}{ptr:Bool}{v:Value}{bs:List Nat}(h:jE w G a x ptr v bs):jE w G' a x ptr v bs:=by
 unfold jE at h ⊢;split at h
 ·rename_i y;rw[if_pos y];obtain⟨g,c,E,M,r,u,H,J⟩:=h;exact⟨g,c,E,M,r,u,H.mono z,J⟩
 ·rename_i y;rw[if_neg y];obtain⟨I,r,u⟩:=h;exact⟨I,r,u.mono z⟩
theorem bP.mono {w:World}{G G':Nat->Prop}(y:∀ k,G k->G' k):∀ {ps:List PK} {o:ah ps} {z:List Value} {bs:List (List Nat)},bP w G ps o z bs->bP w G' ps o z bs
 |.io _::_,_,_::_,_::_,⟨r,u⟩=>⟨r.mono y,bP.mono y u⟩
 |.iop _::_,_,_::_,_::_,⟨r,u⟩=>⟨r.mono y,bP.mono y u⟩
 |.rd _::_,_,_::_,_::_,⟨r,u⟩=>⟨r,bP.mono y u⟩
 |.own _::_,_,_::_,_::_,⟨r,u⟩=>⟨r,bP.mono y u⟩
 |.rref _::_,_,_::_,_::_,⟨r,u⟩=>⟨r,bP.mono y u⟩
 |.rref2 _::_,_,_::_,_::_,⟨r,u⟩=>⟨r,bP.mono y u⟩
 |.fn _ _::_,_,_::_,_::_,⟨r,u⟩=>⟨r,bP.mono y u⟩
 |.clo _ _::_,_,_::_,_::_,⟨r,u⟩=>⟨r,bP.mono y u⟩
 |.hol _ _ _::_,_,_::_,_::_,⟨r,u⟩=>⟨r,bP.mono y u⟩
 |[],_,[],[],_=>trivial
 |[],_,_::_,_,h=>by simp[bP]at h
 |[],_,[],_::_,h=>by simp[bP]at h
 |p::_,_,[],_,h=>by cases p <;> exact h.elim
 |p::_,_,_::_,[],h=>by cases p <;> exact h.elim
theorem qf.mono {w:World}{G G' ro ro':Nat->Prop}(I:∀ k,G k->G' k)(O:∀ k,G k\/ro k->G' k\/ro' k):∀ {r:RK} {y:r.den} {v:Value} {bs:List Nat},qf w G ro r y v bs->qf w G' ro' r y v bs
 |.v _,_,_,_,⟨H,u,z⟩=>⟨H,u,z.mono I⟩
 |.bv _,_,_,_,⟨e,H,u,z⟩=>⟨e,H,u,z.mono O⟩
 |.box _,_,_,_,⟨g,c,E,R,u,z,J,M⟩=>⟨g,c,E,R,u,z,J.mono I,M⟩
theorem gG.mono {w:World}{G G' ro ro':Nat->Prop}(M:∀ k,G k->G' k)(J:∀ k,G k\/ro k->G' k\/ro' k):∀ {I:List RK} {y:ai I} {us:List Value} {r:List (List Nat)},gG w G ro I y us r->gG w G' ro' I y us r
 |[],_,_,_,h=>h
 |_::_,_,_,_,⟨u,H,b,z,X,Y,O,R⟩=>⟨u,H,b,z,X,Y,O.mono M J,gG.mono M J R⟩
theorem bT.thin {P:Program}{f:FuncId}{a a':Ty}{ps:List PK}{rs:List RK}{fr:Bool}{b4:ab (.own a::ps)->Option (ai rs×ah (.own a::ps))}{R:ab (.own a'::ps)->Option (ai rs×ah (.own a'::ps))}
  (h:bT P ⟨f,.own a::ps,rs,fr,b4⟩) (ht:cG a' a=true) (cv:a'.den->a.den) (b9:∀ x,HEq x (cv x)) (hd:∀ x,R x=b4 (cv x.1,x.2)):bT P ⟨f,.own a'::ps,rs,fr,R⟩:=by
 refine⟨h.1,λw ro x vs c1 y Z a7 a3 hy=>?_⟩;obtain⟨x1,xr⟩:=x;obtain⟨v,a4,b,u,rfl,rfl,⟨cs,bl,hm⟩,a0⟩:=Z;obtain⟨M,O,X,bn⟩:=Mx.thin ht (b9 x1) hm;have a2:=hm.lt;rw[bA]at a3;have Y:∀ k,M.count k+O.count k+u.flatten.count k<=1:=λk=>by
  have:=a3 k;rw[CK,BZ,X k]at this;exact this
 have hb:∀ k,k∈b<->k∈M\/k∈O:=λk=>by
  rw[<- B7,<- B7,<- B7,X k];omega
 have H:∀ k,k∈(M::u).flatten->k∈(b::u).flatten:=λk r=>by
  rw[CK,B8]at r ⊢;exact r.imp (λh=>(hb k).2 (.inl h)) id
 have a6:∀ k,k∈O->k∉(M::u).flatten:=λk r z=>by
  have h1:=Y k;have h2:=B7.2 r;have h3:=B7.2 z;rw[CK,BZ]at h3;omega
 have ad:∀ k,k∈O->k∈(b::u).flatten:=λk r=>by
  rw[CK,B8];exact .inl ((hb k).2 (.inr r))
 have J:dh P w (λk=>ro k\/k∈O) (λk=>k<w.heap.size/\k∉(M::u).flatten) (.own a::ps) (cv x1,xr) (v::a4) (M::u) :=
  ⟨v,a4,M,u,rfl,rfl,⟨cs,by rw[<- zJ ht];exact bl,bn⟩,a0.mono (λ_=>.inl) (λk r=>⟨r.1,λh=>r.2 (H k h)⟩)⟩
 refine (h.2 w _ _ _ _ y J (λk r=>?_) ?_ (by rw[<- hy];exact (hd (x1,xr)).symm)).mono λe w' hp=>?_
 ·rcases r with r|r
  ·exact⟨(a7 k r).1,λh=>(a7 k r).2 (H k h)⟩
  ·exact⟨a2 k ((hb k).2 (.inr r)),a6 k r⟩
 ·rw[bA];intro k;have:=Y k;show ((M::u).flatten).count k<=1;rw[CK,BZ];omega
 ·obtain⟨v',us,N,a1,b5,h1,a8,a9,c0,ba,bx,bb,hN,hO,a5,b0,I⟩:=hp;have hG:∀ k,(N k\/fr=false/\(ro k\/k∈O))->((N k\/k∈O)\/fr=false/\ro k):=λk r=>by
   rcases r with r|⟨r,z|z⟩
   ·exact .inl (.inl r)
   ·exact .inr ⟨r,z⟩
   ·exact .inl (.inr z)
  refine⟨v',us,λk=>N k\/k∈O,a1,b5,h1,a8,a9,c0,ba,bx,λk r hn=>bb k r (λh=>hn (H k h)),λk r=>?_,?_,?_,b0,λk r=>?_⟩
  ·rcases r with r|r
   ·exact⟨(hN k r).1,(hN k r).2.imp id (H k)⟩
   ·exact⟨Ce (a2 k ((hb k).2 (.inr r))) a9,.inr (ad k r)⟩
  ·match a1,hO with
   |b3::a1,hO=>exact⟨hO.1,bP.mono hG hO.2⟩
   |[],hO=>exact hO.elim
  ·refine gG.mono hG (λk r=>?_) a5;rcases r with r|r|r
   ·exact .inl (hG k r)
   ·exact .inr r
   ·exact .inl (.inl (.inr r))
  ·obtain⟨h5,h6⟩:=I k r;refine⟨⟨h5.1,h5.2.imp id (H k)⟩,λh=>h.elim h6 (λh=>?_)⟩;rcases h5.2 with h7|h7
   ·have:=a2 k ((hb k).2 (.inr h));omega
   ·exact a6 k h h7
end Go.Proofs.YtaegajachoklkaaGreatEv
