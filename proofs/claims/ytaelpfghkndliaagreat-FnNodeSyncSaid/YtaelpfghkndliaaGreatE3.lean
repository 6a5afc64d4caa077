/- One operation: boxes made, boxes written. -/
import Derived.Test.YtaelpfghkndliaaGreatE0
import Derived.Deep.MidRow
import Derived.Great.FillDense
set_option linter.unusedVariables false
set_option linter.unusedSimpArgs false
open Array renaming toArray_toList->Br,length_toList->Bv,getElem?_toList->Cl,toList_append->Cs,size_append->C0,toList_map->DB,ext'->DP
open Bool renaming and_eq_true->BC,not_eq_true'->BY,or_eq_false_iff->Cq,or_eq_true->DK
open Go.Addr.mk renaming injEq->CX
open Go.Builtin renaming append_->Bw,firstCells->CU,lenOf->CY,zeroCells->C7
open Go.Instr renaming sliceBounds->C5,storeAt->DR
open Go.Result renaming andThen_ok->CV
open Go.Sem renaming run_bind->Cz
open Go.Value renaming ownBlock->Bq
open Go.Value.slice renaming injEq->Bu
open Go.World renaming setCells->Cm,alloc_eq->Cp,drew_eq->Ct,freeze->C3,alloc->DF,drew->DN
open Iff renaming rfl->Cd
open Int renaming toNat_natCast->Cy
open List renaming getElem?_eq_some_iff->BD,mem_append_right->BE,count_append->BF,getElem?_append_right->BG,getElem?_append_left->BH,mem_append_left->BJ,count_pos_iff->BK,mem_append->BL,range->BO,mem_cons_of_mem->BP,append_assoc->BQ,length_append->BR,getElem?_eq_getElem->BS,eq_nil_of_length_eq_zero->BV,mem_cons_self->BW,flatten_cons->BX,count_eq_zero->BZ,append_nil->Bo,length_take->Bp,any_eq_false->Bt,getElem?_take->Bz,getD_eq_getElem?_getD->B3,nodup_append->B5,replicate->B7,nodup_cons->B9,length_set->CA,flatMap_cons->CC,getElem?_set_ne->CD,mem_cons->CG,getElem?_drop->CH,getElem?_cons_zero->CI,getElem?_replicate->CJ,size_toArray->CK,getElem?_set_self->CL,any_cons->CO,length_nil->CP,length_map->CQ,length_drop->CZ,length_cons->Ca,mem_map->Cg,count_cons->Ch,singleton_append->Cj,length_replicate->Ck,mem_range->Cn,all_cons->Cu,map_nil->Cx,map_map->C4,isEmpty_iff->C8,flatMap_map->C9,cons_append->DC,length->DG,map_append->DH,nil_append->DL,nodup_nil->DM,take_left->DO,map_cons->DS
open List.cons renaming injEq->CR
open Nat renaming eq_of_beq_eq_true->BI,lt_succ_self->BM,mul_le_mul_right->BN,beq->BT,le_refl->BU,succ_mul->Bx,add_zero->B4,le_trans->B6,lt_of_lt_of_le->B8,le_of_ble_eq_true->CB,zero_add->CF,ble_eq_true_of_le->CM,le_add_right->CN,mul_le_mul_left->CS,blt_eq->CT,add_mul->CW,le_of_eq->Cb,ble->Cc,mul_comm->Ce,sub_zero->Cf,mul_one->Co,blt->Cr,eq_zero_or_pos->Cw,zero_mul->C6,mod_eq_of_lt->DA,le_succ->DD,zero_le->DE,mul_add_mod->DI,add_assoc->DQ
open Ne renaming symm->CE
open Option renaming map_eq_some_iff->BB,bind_eq_some_iff->Bs,map_none->Ci,toList_some->Cv,map_some->DJ
open Option.some renaming injEq->BA
open Prod renaming ext->DT
open Prod.mk renaming injEq->By
namespace Go.Proofs.YtaelpfghkndliaaGreatEv
open Go Go.RowKit
section
variable {P:Program} {V:Env} {Γ:List Ctr} {T:TypeId->TI} {st:St} {o:Oper} {R:Type} {κ:Upd->Option R} {r:R}
theorem mV {q u:Nat}(h:q≠u)(c y:bS)(st:St):ac [(q,c)] (ac [(u,y)] st)=ac [(u,y)] (ac [(q,c)] st):=by
 funext k;rcases ak q k c (ac [(u,y)] st) with ⟨rfl,e⟩|⟨H,e⟩
 ·rw[e,aH h,bg]
 ·rw[e];rcases ak u k y st with ⟨rfl,z⟩|⟨I,z⟩
  ·rw[z,bg]
  ·rw[z,aH I,aH H]
theorem ap.boxed (hV:ax V){W:Wit}{a:Act}{w:World}(h:ap P V W st a w)(d:Nat)(hd:d<V.nt)(I:∀ x∈V.fixt,x.1≠d)(O:(st (B0+d)).sh=.off)(ls:List Leaf)
  (y:List Value) (z:Nat->List Nat) (E:TypeId)
  (hl:ls.length=y.length) (h1:∀ u∈y,u.oneCell'=true)
  (H:∀ (j:Nat) (l:Leaf) (u:Value),ls[j]?=some l->y[j]?=some u->aI P V W st w (z j) l u)
  (J:∀ (j:Nat) (l:Leaf),ls[j]?=some l->ao l->∀ k∈z j,¬ W.nw k/\¬ V.prot k/\k<w.heap.size/\(∀ b,live st b->W.β b≠k) /\
   ∀ (Y Z:Nat) (l1:Leaf),(st Y).ls[Z]?=some l1->ao l1->k∉W.bs Y Z)
  (X:∀ (j j':Nat) (l l':Leaf),ls[j]?=some l->ao l->ls[j']?=some l'->ao l'->∀ k,k∈z j->k∈z j'->j=j') :
  Rel P V (ac ((B0+d,⟨(st (B0+d)).ver+1,.agg,ls⟩)::[(d,⟨(st d).ver+1,.one,[.bp (B0+d) 0]⟩)]) st) (a.put (some d) (.pointer (some ⟨w.heap.size,0,none⟩))) (w.alloc (.cells y.toArray E)):=by
 have M:B0+d≠d:=by simp[B0]
 have a0:¬ live st (B0+d):=by simp[live,O]
 have h2:=h.setBox hV (B0+d) (CN _ _) ((st (B0+d)).ver+1) ls y z w.heap.size E (w':=w.alloc (.cells y.toArray E)) (BM _) (.inr ⟨a0,BU _⟩)
  (heap_alloc_new w _) (λk hk _=>Go.heap_alloc_old w _ hk) (by simp) rfl rfl rfl hl h1 H (λj l hj ho k hk=>by
   obtain⟨h3,h4,h5,h6,h7⟩:=J j l hj ho k hk;exact⟨h3,h4,h5,h6,λY Z l1 _=>h7 Y Z l1⟩) X
 rw[aO,mV M];refine h2.putLs hV d hd I _ .one [.bp (B0+d) 0] _ [.pointer (some ⟨w.heap.size,0,none⟩)] ?_ rfl ⟨⟨⟨CN _ _,by rw[bg],by simp⟩,id,rfl⟩,trivial⟩;rw[aH (CE M)];omega
theorem ur {t:TypeId}(I:TOk P T)(H:(T t).cells≠0)(w:World):∃ z y,(zeroValue t).run P w=.ok z w/\z.cells=y.toArray/\∀ (V:Env) (W:Wit) (st:St),aC P V W st w (T t).zero y:=by
 have h:=I t;cases u:T t with
 |none=>rw[u]at H;exact absurd rfl H
 |int k=>rw[u]at h;exact⟨_,[.int k 0],gj h.2.2 w,rfl,λV W st=>⟨⟨rfl,id,rfl⟩,trivial⟩⟩
 |bool=>rw[u]at h;exact⟨_,[.bool false],gj h.2.2 w,rfl,λV W st=>⟨⟨rfl,id,rfl⟩,trivial⟩⟩
 |str=>rw[u]at h;exact⟨_,[.string ByteArray.empty],gj h.2.2 w,rfl,λV W st=>⟨⟨rfl,id,rfl⟩,trivial⟩⟩
 |slice E e b=>rw[u]at h;exact⟨_,[.slice none 0 0],gj h.2.2.1 w,rfl,λV W st=>⟨⟨rfl,id,rfl⟩,trivial⟩⟩
 |struct a J=>rw[u]at h;exact⟨_,zeroCells a,gj h.2.2.1 w,rfl,λV W st=>lq a⟩
 |arr e n=>rw[u]at h;exact⟨_,(B7 n (zeroCells e)).flatten,gj h.2.2.2 w,rfl,λV W st=>oL e n⟩
 |ptr=>rw[u]at h;exact⟨_,[.pointer none],gj h.2.2 w,rfl,λV W st=>⟨⟨trivial,id,rfl⟩,trivial⟩⟩
 |fn=>rw[u]at h;exact⟨_,[.nilFunc],gj h.2.2 w,rfl,λV W st=>⟨⟨trivial,id,rfl⟩,trivial⟩⟩
theorem xF (hV:ax V)(hT:TOk P T)(J:bM V o){t:TypeId}(H:o.op=.alloc t)(h:act Γ T o st κ=some r):bV P V o st κ r:=by
 simp only[act,H]at h;split at h
 ·rename_i d M;cases y:decide ((st (B0+d)).sh=.off)&&!decide ((T t).cells=0) with
  |false=>simp[y]at h
  |true =>
   simp only[y]at h;simp at y;refine⟨_,h,λW a w hr next Q hn=>?_⟩;obtain⟨z,X,Y,hc,I⟩:=ur hT y.2 w;have I:=I V W st;refine dW (v:=.pointer (some ⟨w.heap.size,0,none⟩)) (w':=w.alloc (.cells X.toArray t)) ?_ ?_
   ·simp[execOp,H,Instr.alloc,Y,newVar,newRow,hc]
   ·rw[M];refine hn _ _ ?_;exact hr.boxed hV d (J d M).1 (J d M).2 y.1 _ X (λ_=>[]) t I.length I.one' (λj l u h1 Z=>(I.at_ j l u h1 Z).1) (λ_ _ _ _ k O=>by simp at O) (λ_ _ _ _ _ _ _ _ k O=>by simp at O)
 ·grind
theorem Af (hV:ax V)(I:bM V o){t:TypeId}{x:Operand}(Y:o.op=.box t x)(h:act Γ T o st κ=some r):bV P V o st κ r:=by
 simp only[act,Y]at h;split at h
 ·rename_i d M;cases hb:decide ((st (B0+d)).sh=.off)&&decide ((au st x).2.length=(T t).cells)&&decide ((au st x).1=bf (T t).agg)&&hM st (au st x).2 with
  |false=>simp[hb]at h
  |true =>
   simp only[hb]at h;simp at hb;obtain⟨⟨⟨a0,a2⟩,a1⟩,Z⟩:=hb;have J:∀ (W:Wit) (a:Act) (w:World) (H:List Value),ea (au st x).1 (a.eval x) H->aC P V W st w (au st x).2 H ->
     (execOp a.eval o).run P w=.ok (.value (.pointer (some ⟨w.heap.size,0,none⟩))) (w.alloc (.cells H.toArray t)):=by
    intro W a w H O y;rw[a1]at O;have hc:=gQ O y.one';simp[execOp,Y,Instr.box,newVar,newRow,hc]
   cases z:sf st x with
   |true =>
    rw[z]at h;refine⟨_,h,λW a w X next Q hn=>?_⟩;obtain⟨H,O,y⟩:=cS X x;refine dW (J W a w H O y) ?_;rw[M];refine hn _ _ ?_;exact X.boxed hV d (I d M).1 (I d M).2 a0 _ H (λ_=>[]) t y.length y.one' (λj l u h1 h2=>(y.at_ j l u h1 h2).1) (λ_ _ _ _ k hk=>by simp at hk) (λ_ _ _ _ _ _ _ _ k hk=>by simp at hk)
   |false =>
    rw[z]at h;refine⟨_,h,λW a w X next Q hn=>?_⟩;obtain⟨H,O,y⟩:=cS X x;obtain⟨h1,h2,h3,h4,h5⟩:=oJ hV X y Z;have h6:=zi hV X y Z;refine dW (J W a w H O y) ?_;rw[M];refine hn _ _ ?_;have:=h1.boxed hV d (I d M).1 (I d M).2 (by rw[(h6 _).1];exact a0) _ H (dp W (au st x).2) t h2 y.one' h3 h4 h5;exact this
 ·grind
theorem jH (b:Nat)(E:TypeId):∀ (u:List Value) (k o:Nat) (w:World) (cur:Array Value) {mk:Nat×Nat},w.heap[b]?=some (.cells cur E mk) ->
  (w.setCells b (o+k) u).heap[b]?=some (.cells ((u.zipIdx k).foldl (λy (x:Value×Nat)=>y.setIfInBounds (o+x.2) x.1) cur) E mk)
 |[],_,_,_,_,_,h=>h
 |v::u,k,o,w,cur,mk,h=>by
  have:=jH b E u (k+1) o (w.setCell ⟨b,o+k,none⟩ v) _ (by rw[setCell_eq_setRow w b (o+k) cur E mk v h];exact setRow_heap w b cur _ E mk h);simpa[Cm,DQ]using this
theorem eG (b:Nat):∀ (u:List Value) (o:Nat) (w:World) (k:Nat),k≠b->(w.setCells b o u).heap[k]?=w.heap[k]?
 |[],_,_,_,_=>rfl
 |v::u,o,w,k,h=>by
  rw[Cm,eG b u (o+1) _ k h];exact heap_setCell_other w ⟨b,o,none⟩ k v h
theorem jI (b:Nat):∀ (u:List Value) (o:Nat) (w:World),(w.setCells b o u).os=w.os/\(w.setCells b o u).tape=w.tape/\(w.setCells b o u).output=w.output/\(w.setCells b o u).heap.size=w.heap.size
 |[],_,_=>⟨rfl,rfl,rfl,rfl⟩
 |v::u,o,w=>by
  obtain⟨y,z,H,I⟩:=jI b u (o+1) (w.setCell ⟨b,o,none⟩ v);exact⟨y,z,H,by rw[Cm,I];simp⟩
theorem mW {t:TypeId}{n:Nat}(z:bP P t n){w:World}{b off:Nat}{cur:List Value}{E:TypeId}{mk:Nat×Nat}(J:w.heap[b]?=some (.cells cur.toArray E mk))(H:mk.2=0\/cur.length<=mk.1){v:Value}{cs:List Value}
  (O:v.cells=cs.toArray) (X:cs.length=n) (h1:∀ u∈cs,u.oneCell'=true) (Z:off+cs.length<=cur.length) :
  (DR t (.pointer (some ⟨b,off,none⟩)) v).run P w=.ok () (w.setCells b off cs):=by
 have y:∀ j,j<cs.length->(w.cell? ⟨b,off+j,none⟩).isSome=true:=by
  intro j I;rw[cell_of_row w b _ _ E mk J]
  grind
 have M:=run_storeCells_cells (P:=P) b off cs 0 w (λj I=>y j I) (λj I=>qQ J (by simpa using H) (by simp;omega)) h1;have Y:=dt z w;simp[DR,Instr.sureAddr,storeVar,Y,O,X,M]
theorem tp (hV:ax V)(hT:TOk P T){t:TypeId}{x y:Operand}{b off:Nat}(b5:o.op=.store t x y)(hd:o.dst=none)(hx:one st x=.bp b off)
  (c2:(au st y).2.length=(T t).cells) (b6:(au st y).1=bf (T t).agg) (a9:(T t).cells≠0) (b1:(st b).sh=.agg) (c1:off+(au st y).2.length<=(st b).ls.length) (a3:hM st (au st y).2=true)
  {W:Wit} {a:Act} {w:World} (hr:ap P V W st a w) :
  mD P V o st ((b,⟨(ac (mvU st (au st y).2) st b).ver+1,.agg,jr (ac (mvU st (au st y).2) st b).ls (dG st (au st y).2) off⟩)::mvU st (au st y).2) a w:=by
 intro next Q hn;obtain⟨I,hs,hl⟩:=cS hr y;rw[b6]at hs;have hc:=gQ hs hl.one';obtain⟨h1,h2,h3,h4,h5⟩:=oJ hV hr hl a3;have h6:=zi hV hr hl a3;obtain⟨hp,_,_,_⟩:=bo hr x (by rw[hx];simp);rw[hx]at hp;obtain⟨hB,_,hv⟩:=hp;have b4:T t≠.none:=by intro e;rw[e]at a9;exact a9 rfl
 rcases hr.boxes b hB with ⟨h8,_⟩|⟨_,E,h8⟩
 ·rw[b1]at h8;cases h8
 ·have bb:=hl.length;have c3:=hr.len b;have c0:(ac (mvU st (au st y).2) st b).ls.length=(W.cs b).length:=h1.len b;have ad:off+I.length<=(W.cs b).length:=by omega
  have b0:=mW (oK (hT t) b4) h8 (.inl rfl) hc (by omega) hl.one' ad;refine pv (w':=w.setCells (W.β b) off I) (by simp[execOp,b5,hv,b0]) ?_;rw[hd];refine hn _ _ ?_;rw[aO];obtain⟨e1,e2,e3,e4⟩:=jI (W.β b) I off w;have a0:=jH (W.β b) E I 0 off w _ h8;rw[kQ (W.cs b) I off ad]at a0;simp only[B4]at a0;have ba:live (ac (mvU st (au st y).2) st) b:=⟨hB,by rw[(h6 b).1];exact b1⟩;have bx:(dG st (au st y).2).length=I.length:=h2;have M:∀ (j:Nat) (l:Leaf),(jr (ac (mvU st (au st y).2) st b).ls (dG st (au st y).2) off)[j]?=some l ->
    (off<=j/\j<off+I.length/\(dG st (au st y).2)[j-off]?=some l)\/((j<off\/off+I.length<=j)/\(ac (mvU st (au st y).2) st b).ls[j]?=some l):=by
   intro j l hj;unfold jr at hj;rw[bx]at hj;by_cases Z:j<off
   ·rw[BQ,BH (by simp;omega),Bz,if_pos Z]at hj;exact .inr ⟨.inl Z,hj⟩
   ·by_cases J:j<off+I.length
    ·rw[BQ,BG (by simp;omega),BH (by simp;omega)]at hj;refine .inl ⟨by omega,J,?_⟩;rw[<- hj];congr 1;simp;omega
    ·rw[BG (by simp;omega),CH]at hj;refine .inr ⟨.inr (by omega),?_⟩;rw[<- hj];congr 1;simp;omega
  have a1:∀ (j:Nat),((W.cs b).take off++I++(W.cs b).drop (off+I.length))[j]?=if off<=j/\j<off+I.length then I[j-off]? else (W.cs b)[j]?:=by
   intro j;by_cases Z:j<off
   ·rw[BQ,BH (by simp;omega),Bz,if_pos Z,if_neg (by omega)]
   ·by_cases J:j<off+I.length
    ·rw[BQ,BG (by simp;omega),BH (by simp;omega),if_pos ⟨by omega,J⟩];congr 1;simp;omega
    ·rw[BG (by simp;omega),CH,if_neg (by omega)];congr 1;simp;omega
  refine⟨_,h1.setBox hV b hB _ _ ((W.cs b).take off++I++(W.cs b).drop (off+I.length)) (λj=>if off<=j/\j<off+I.length then dp W (au st y).2 (j-off) else W.bs b j) (W.β b) E
   (BM _) (.inl ⟨ba,rfl⟩) a0 (λk _ Y=>eG (W.β b) I off w k Y) (Cb e4.symm) e1 e2 e3 ?_ ?_ ?_ ?_ ?_⟩
  ·simp only[jr,BR,Bp,CZ];omega
  ·intro u hu;simp only[BL]at hu;rcases hu with (hu|hu)|hu
   ·exact hr.one b u (List.mem_of_mem_take hu)
   ·exact hl.one' u hu
   ·exact hr.one b u (List.mem_of_mem_drop hu)
  ·intro j l u hj hu;rw[a1]at hu;rcases M j l hj with ⟨Z,J,H⟩|⟨Z,H⟩
   ·rw[if_pos ⟨Z,J⟩]at hu;simp only[if_pos (⟨Z,J⟩:off<=j/\j<off+I.length)];exact h3 _ l u H hu
   ·have z:¬ (off<=j/\j<off+I.length):=by omega
    rw[if_neg z]at hu;simp only[if_neg z];exact h1.leaf b j l u H hu
  ·intro j l hj ho k Y;rcases M j l hj with ⟨Z,J,H⟩|⟨Z,H⟩
   ·simp only[if_pos (⟨Z,J⟩:off<=j/\j<off+I.length)]at Y;obtain⟨q1,q2,q3,q4,q5⟩:=h4 _ l H ho k Y;exact⟨q1,q2,q3,q4,λr1 j1 l1 _=>q5 r1 j1 l1⟩
   ·have z:¬ (off<=j/\j<off+I.length):=by omega
    simp only[if_neg z]at Y;obtain⟨q1,q2,q3⟩:=h1.ownb b j l H ho k Y;exact⟨q1,q2,h1.own_lt H ho k Y,q3,λr1 j1 l1 bl b3 b9 bn=>bl (h1.sep b j l r1 j1 l1 H ho b3 b9 k Y bn).1.symm⟩
  ·intro j j' l l' hj ho b2 a2 k Y X;rcases M j l hj with ⟨Z,J,H⟩|⟨Z,H⟩ <;> rcases M j' l' b2 with ⟨a5,a4,O⟩|⟨a5,O⟩
   ·simp only[if_pos (⟨Z,J⟩:off<=j/\j<off+I.length)]at Y;simp only[if_pos (⟨a5,a4⟩:off<=j'/\j'<off+I.length)]at X;have:=h5 _ _ l l' H ho O a2 k Y X;omega
   ·have z:¬ (off<=j'/\j'<off+I.length):=by omega
    simp only[if_pos (⟨Z,J⟩:off<=j/\j<off+I.length)]at Y;simp only[if_neg z]at X;exact absurd X ((h4 _ l H ho k Y).2.2.2.2 b j' l' O a2)
   ·have z:¬ (off<=j/\j<off+I.length):=by omega
    simp only[if_neg z]at Y;simp only[if_pos (⟨a5,a4⟩:off<=j'/\j'<off+I.length)]at X;exact absurd Y ((h4 _ l' O a2 k X).2.2.2.2 b j l H ho)
   ·have z:¬ (off<=j/\j<off+I.length):=by omega
    have a6:¬ (off<=j'/\j'<off+I.length):=by omega
    simp only[if_neg z]at Y;simp only[if_neg a6]at X;exact (h1.sep b j l b j' l' H ho O a2 k Y X).2
end
theorem bq {l:List Nat}:l.Nodup<->∀ k,l.count k<=1:=by
 induction l with
 |nil=>simp
 |cons a l H =>
  rw[B9,H];constructor
  ·rintro⟨r,u⟩ k;rw[Ch];by_cases y:a=k
   ·subst y;have:l.count a=0:=BZ.2 r;simp[this]
   ·have:=u k;simp[y,this]
  ·intro h;refine⟨λz=>?_,λk=>?_⟩
   ·have r:=h a;have u:0<l.count a:=BK.2 z;rw[Ch]at r;simp at r;omega
   ·have:=h k;rw[Ch]at this;omega
theorem pW {n:Nat}(r:Nat->List Nat)(k:Nat):((BO n).flatMap r).count k=((BO n).map λj=>(r j).count k).sum:=by
 generalize BO n=l;induction l with
 |nil=>rfl
 |cons a l u=>simp[BF,u]
theorem kn {n i:Nat}(H:i<n)(r:Nat->List Nat)(b:List Nat)(k:Nat) :
  ((BO n).flatMap λj=>if j=i then b else r j).count k+(r i).count k=((BO n).flatMap r).count k+b.count k:=by
 rw[pW,pW];induction n with
 |zero=>omega
 |succ n z =>
  rw[List.range_succ];simp only[DH,DS,Cx,List.sum_append,List.sum_cons,List.sum_nil];by_cases u:i=n
  ·subst u;have:(BO i).map (λj=>List.count k (if j=i then b else r j))=(BO i).map λj=>(r j).count k:=by
    refine List.map_congr_left λj y=>?_
    rw[if_neg (by have:=Cn.1 y;omega)]
   rw[this,if_pos rfl];omega
  ·have:=z (by omega);rw[if_neg (λe=>u e.symm)];omega
theorem mX {bs bs' K:List Nat}(y:bs.Nodup)(z:K.Nodup)(J:∀ k∈K,k∉bs)(h:∀ k,bs'.count k<=bs.count k+K.count k):bs'.Nodup/\∀ k∈bs',k∈bs\/k∈K:=by
 rw[bq]at y z;refine⟨bq.2 λk=>?_,λk r=>?_⟩
 ·have H:=h k;have I:=y k;have u:=z k;by_cases r:k∈K
  ·have:bs.count k=0:=BZ.2 (J k r);omega
  ·have:K.count k=0:=BZ.2 r;omega
 ·have H:=h k;have I:0<bs'.count k:=BK.2 r;by_cases u:k∈bs
  ·exact .inl u
  ·have:bs.count k=0:=BZ.2 u;exact .inr (BK.1 (by omega))
theorem Mx.pos {w:World}{G:Nat->Prop}:∀ {a:Ty} {pos r:Nat} {x:a.den} {cs:List Value} {bs:List Nat},Mx w G a none pos x cs bs->Mx w G a none r x cs bs
 |.int _,_,_,_,_,_,h=>h
 |.bool,_,_,_,_,_,h=>h
 |.str,_,_,_,_,_,h=>h
 |.unit,_,_,_,_,_,h=>h
 |.hdr,_,_,_,_,_,h=>h
 |.pair _ _,_,_,_,_,_,⟨u,O,J,R,y,I,M,z⟩=>⟨u,O,J,R,y,I,Mx.pos M,Mx.pos z⟩
 |.list m E e,_,_,_,_,_,H=>by
  cases m with
  |false=>rw[co]at H ⊢;exact H
  |true=>rw[bH (by simp)]at H ⊢;exact H
section
variable {P:Program} {V:Env} {W:Wit} {st:St} {w w':World} {a:Act}
theorem Mx.scalar {G:Nat->Prop}{b:Ty}{hol:Option Nat}{pos:Nat}{x:b.den}{cs:List Value}{S:Nat->Prop}(r:b.flat=true)(h:Rd w S b x cs):Mx w G b hol pos x cs []:=Mx.flat r h
theorem lz (h:ap P V W st a w):∀ (b:Ty) (pos:Nat) (ls:List Leaf) (cs:List Value) (t:cK b.den),aC P V W st w ls cs->take st b ls=some t ->
  ∃ J O M,cs=J++O/\ls=M++t.rest/\aC P V W st w M J/\aC P V W st w t.rest O/\Mx w (bi V W t.p t.frz) b none pos t.val J (aW W t.kill) /\
   (∀ x∈t.frz,aB st x)/\(∀ x∈t.kill,aB st x)
 |.pair b c,pos,ls,cs,t,H,z=>by
  simp only[take]at z;split at z
  ·rename_i u hb;split at z
   ·rename_i v hc;simp only[BA]at z;subst z;obtain⟨J,O,M,e1,e2,h1,Z,X,h4,h5⟩:=lz h b pos ls cs u H hb;obtain⟨c3,c4,l2,e3,e4,h6,h7,h8,h9,a0⟩:=lz h c (pos+b.cells) u.rest O v Z hc;refine⟨J++c3,c4,M++l2,by rw[e1,e3,BQ],by rw[e2,e4,BQ],h1.append h6,h7,⟨J,c3,_,_,rfl,dH W _ _,?_,?_⟩,?_,?_⟩
    ·refine X.mono λk I=>?_
     rcases I with I|⟨y,hy,I⟩
     ·exact .inl (bT (by intro h;simp[h]) (λ_ h=>h) k I)
     ·exact .inr ⟨y,BJ _ hy,I⟩
    ·refine h8.mono λk I=>?_
     rcases I with I|⟨y,hy,I⟩
     ·exact .inl (bT (by intro h;simp[h]) (λ_ h=>h) k I)
     ·exact .inr ⟨y,BE _ hy,I⟩
    ·intro x R;exact (BL.1 R).elim (h4 x) (h9 x)
    ·intro x R;exact (BL.1 R).elim (h5 x) (a0 x)
   ·cases z
  ·cases z
 |.unit,pos,ls,cs,t,H,z=>by
  simp only[take,BA]at z;subst z;exact⟨[],cs,[],rfl,rfl,trivial,H,⟨rfl,rfl⟩,by simp,by simp⟩
 |.list m E e,pos,ls,cs,t,H,z=>by
  cases ls with
  |nil=>simp[take]at z
  |cons l ls =>
   cases cs with
   |nil=>exact H.elim
   |cons v cs =>
    cases m with
    |false =>
     simp only[take,cond_false]at z;split at z
     ·rename_i p xs ha;simp only[BA]at z;subst z;refine⟨[v],cs,[l],rfl,rfl,⟨H.1,trivial⟩,H.2,co.2 ⟨rfl,kx h H.1.1 H.1.2.1 ha⟩,λx R=>ei (cs:=[v]) (ls:=[l]) ⟨H.1,trivial⟩ R,by simp⟩
     ·cases z
    |true =>
     simp only[take,cond_true]at z;split at z
     ·rename_i r j n;split at z
      ·rename_i p E' e' xs hd;simp only[BB]at z;obtain⟨ys,hc,rfl⟩:=z;obtain⟨rfl,rfl,rfl⟩:=jE hc;obtain⟨h1,Z,X,h4⟩:=ke h hd H.1.1;refine⟨[v],cs,[_],rfl,rfl,⟨H.1,trivial⟩,H.2,(bH (by simp)).2 ⟨v,rfl,?_⟩,by simp,?_⟩
       ·have:aW W [(r,j)]=W.bs r j:=by simp[aW]
        show OwB w _ none E' e' xs v (aW W [(r,j)]);rw[this];exact Z.2.carry (λk I=>.inl I) (λ_ _=>rfl) (λ_ _=>rfl)
       ·intro x R;simp only[List.mem_singleton]at R;subst R;exact⟨_,X,trivial⟩
      ·cases z
     ·simp only[BA]at z;subst z;have X:v=.slice none 0 0:=H.1.1;refine⟨[v],cs,[_],rfl,rfl,⟨H.1,trivial⟩,H.2,(bH (by simp)).2 ⟨v,rfl,?_⟩,by simp,by simp⟩;rw[X];exact (OwH.nil w _ E e).2
     ·cases z
 |.int k,pos,ls,cs,t,H,z=>take_scalar h (b:=.int k) rfl H z
 |.bool,pos,ls,cs,t,H,z=>take_scalar h (b:=.bool) rfl H z
 |.str,pos,ls,cs,t,H,z=>take_scalar h (b:=.str) rfl H z
 |.hdr,pos,ls,cs,t,H,z=>take_scalar h (b:=.hdr) rfl H z
where
 take_scalar (h:ap P V W st a w) {b:Ty} {pos:Nat} {ls:List Leaf} {cs:List Value} {t:cK b.den} (hf:b.flat=true) (H:aC P V W st w ls cs) (z:(aZ st b ls).map (λx=>(⟨false,x.2.1,[],[],x.2.2⟩:cK b.den))=some t) :
   ∃ J O M,cs=J++O/\ls=M++t.rest/\aC P V W st w M J/\aC P V W st w t.rest O/\Mx w (bi V W t.p t.frz) b none pos t.val J (aW W t.kill) /\
    (∀ x∈t.frz,aB st x)/\(∀ x∈t.kill,aB st x):=by
  simp only[BB]at z;obtain⟨⟨p,x,Y⟩,h1,rfl⟩:=z;obtain⟨J,O,M,e1,e2,Z,X,h4⟩:=ky h b ls cs p x Y H h1;exact⟨J,O,M,e1,e2,Z,X,Mx.flat hf h4,by simp,by simp⟩
theorem dN (h:ap P V W st a w){b:Ty}{pos:Nat}{ls:List Leaf}{cs:List Value}{t:cK b.den}(J:aC P V W st w ls cs)(r:ch st b ls=some t) :
  Mx w (bi V W t.p t.frz) b none pos t.val cs (aW W t.kill)/\(∀ x∈t.frz,aB st x)/\(∀ x∈t.kill,aB st x):=by
 unfold ch at r;split at r
 ·rename_i p x f k H;simp only[BA]at r;subst r;obtain⟨R,y,Y,u,X,Z,M,z,O,I⟩:=lz h b pos ls cs _ J H;have:y=[]:=by
   cases y with
   |nil=>rfl
   |cons=>exact M.elim
  subst this;simp only[Bo]at u;subst u;exact⟨z,O,I⟩
 ·cases r
theorem gL (h:ap P V W st a w):∀ {ks:List (Nat×Nat)},aX ks=true->(∀ x∈ks,aB st x)->(aW W ks).Nodup
 |[],_,_=>DM
 |x::ks,I,O=>by
  simp only[aX,BC,BY,Bt]at I;have Z:=gL h I.2 (λy H=>O y (BP _ H));show (W.bs x.1 x.2++aW W ks).Nodup;rw[B5];obtain⟨l,J,z⟩:=O x (BW ..);refine⟨?_,Z,λk hk k' r e=>?_⟩
  ·have hj:x.2<(W.cs x.1).length:=by rw[<- h.len];exact (BD.1 J).1
   have:=h.leaf x.1 x.2 l _ J (BS hj);cases l <;> simp only[ao]at z;exact OwH.nodup this
  ·subst e;obtain⟨y,H,r⟩:=gh.1 r;obtain⟨Y,M,u⟩:=O y (BP _ H);obtain⟨R,X⟩:=h.sep x.1 x.2 l y.1 y.2 Y J z M u k hk r;have:=I.1 y H;rw[R,X]at this;simp at this
theorem jW:∀ {b:Ty} {S I:Nat->Prop} {O:Option Nat} {pos:Nat} {y:b.den} {c:List Value} {q:List Nat},b.flat=true->Mx w S b O pos y c q->Rd w I b y c
 |.int _,_,_,_,_,_,_,_,_,h=>h.1
 |.bool,_,_,_,_,_,_,_,_,h=>h.1
 |.str,_,_,_,_,_,_,_,_,h=>h.1
 |.unit,_,_,_,_,_,_,_,_,h=>h.1
 |.hdr,_,_,_,_,_,_,_,_,h=>h.1
 |.pair _ _,_,_,_,_,_,_,_,r,⟨u,M,X,Y,z,R,J,H⟩=>by
  simp only[Ty.flat,BC]at r;exact⟨u,M,z,jW r.1 J,jW r.2 H⟩
 |.list _ _ _,_,_,_,_,_,_,_,r,_=>by simp[Ty.flat]at r
theorem mg (h:ap P V W st a w){G:Nat->Prop}{off n:Nat}{hol I:Option Nat}(a2:∀ k,off<=k->k<off+n->I≠some k)(X:∀ k,¬ (off<=k/\k<off+n)->(I=some k<->hol=some k)) :
  ∀ (b:Ty) (pos:Nat) (x:b.den) (ls:List Leaf) (cs:List Value) (t:cK b.den) (Y:List Value) (z:List Nat),aC P V W st w ls cs->c8 st off n b pos x ls=some t->Mx w G b hol pos x Y z ->
  ∃ O c2 c' J,cs=O++c2/\aC P V W st w t.rest c2/\O.length=min (off+n) (pos+b.cells)-max off pos /\
   Mx w (λk=>G k\/bi V W t.p t.frz k) b I pos t.val c' J /\
   (∀ i,i<b.cells->c'[i]?=if off<=pos+i/\pos+i<off+n then O[pos+i-max off pos]? else Y[i]?) /\
   (∀ k,J.count k<=z.count k+(aW W t.kill).count k)/\(∀ x∈t.frz,aB st x)/\(∀ x∈t.kill,aB st x)
 |.pair b c,pos,x,ls,cs,t,Y,z,M,r,⟨d1,d2,b1,b2,e1,e2,a9,b3⟩=>by
  simp only[c8]at r;split at r
  ·rename_i u R;split at r
   ·rename_i v hc;simp only[BA]at r;subst r;obtain⟨O,c2,c',J,f1,f2,f3,f4,f5,f6,f7,f8⟩:=mg h a2 X b pos x.1 ls cs u d1 b1 M R a9;obtain⟨c3,c4,a6,a1,g1,g2,g3,g4,g5,g6,g7,g8⟩:=mg h a2 X c (pos+b.cells) x.2 u.rest c2 v d2 b2 f2 hc b3;have b6:=f4.len;have ba:=g4.len;have b5:=a9.len;refine⟨O++c3,c4,c'++a6,J++a1,by rw[f1,g1,BQ],g2,?_,⟨c',a6,J,a1,rfl,rfl,?_,?_⟩,?_,?_,?_,?_⟩
    ·rw[BR,f3,g3];simp only[Ty.cells];omega
    ·refine f4.mono λk H=>?_
     rcases H with H|H|⟨y,hy,H⟩
     ·exact .inl H
     ·exact .inr (.inl (bT (by intro h;simp[h]) (λ_ h=>h) k H))
     ·exact .inr (.inr ⟨y,BJ _ hy,H⟩)
    ·refine g4.mono λk H=>?_
     rcases H with H|H|⟨y,hy,H⟩
     ·exact .inl H
     ·exact .inr (.inl (bT (by intro h;simp[h]) (λ_ h=>h) k H))
     ·exact .inr (.inr ⟨y,BE _ hy,H⟩)
    ·intro i hi;simp only[Ty.cells]at hi;rw[e1];by_cases b4:i<b.cells
     ·rw[BH (by omega),f5 i b4];by_cases hr:off<=pos+i/\pos+i<off+n
      ·rw[if_pos hr,if_pos hr,BH (by omega)]
      ·rw[if_neg hr,if_neg hr,BH (by omega)]
     ·rw[BG (by omega),b6,g5 (i-b.cells) (by omega)];have e3:pos+b.cells+(i-b.cells)=pos+i:=by omega
      rw[e3];by_cases hr:off<=pos+i/\pos+i<off+n
      ·rw[if_pos hr,if_pos hr,BG (by omega)];congr 1;omega
      ·rw[if_neg hr,if_neg hr,BG (by omega),b5]
    ·intro k;rw[e2,BF,BF,dH,BF];have:=f6 k;have:=g6 k;omega
    ·intro y hy;exact (BL.1 hy).elim (f7 y) (g7 y)
    ·intro y hy;exact (BL.1 hy).elim (f8 y) (g8 y)
   ·cases r
  ·cases r
 |.unit,pos,x,ls,cs,t,Y,z,M,r,hm=>by
  simp only[c8,BA]at r;subst r;refine⟨[],cs,[],[],rfl,M,by simp only[Ty.cells,CP];omega,⟨rfl,rfl⟩,λi hi=>by simp[Ty.cells]at hi,λk=>by simp,by simp,by simp⟩
 |.hdr,pos,x,ls,cs,t,Y,z,M,r,hm=>by simp[c8]at r
 |.int k,pos,x,ls,cs,t,Y,z,M,r,hm=>put_scalar h (b:=.int k) rfl rfl M r hm
 |.bool,pos,x,ls,cs,t,Y,z,M,r,hm=>put_scalar h (b:=.bool) rfl rfl M r hm
 |.str,pos,x,ls,cs,t,Y,z,M,r,hm=>put_scalar h (b:=.str) rfl rfl M r hm
 |.list m E e,pos,x,ls,cs,t,Y,z,M,r,hm=>by
  simp only[c8]at r;have b9:=hm.len;have e0:(Ty.list m E e).cells=1:=rfl;cases R:Cc off pos&&Cr pos (off+n) with
  |true =>
   rw[R]at r;simp only[cond_true]at r;simp only[BC,CT]at R;have b0:=CB R.1;obtain⟨O,c2,l1,e1,e2,h1,h2,h3,h4,h5⟩:=lz h (.list m E e) pos ls cs t M r;have a5:=h3.len;refine⟨O,c2,O,aW W t.kill,e1,h2,by rw[a5];omega,?_,λi hi=>?_,λk=>by omega,h4,h5⟩
   ·have Z:=h3.mono (G':=λk=>G k\/bi V W t.p t.frz k) (λk H=>.inr H);cases m with
    |false=>rw[co]at Z ⊢;exact Z
    |true =>
     rw[bH (by simp)]at Z;rw[bH (a2 pos b0 R.2)];exact Z
   ·rw[if_pos (by omega)];congr 1;omega
  |false =>
   rw[R]at r;simp only[cond_false,BA]at r;subst r;have a4:¬ (off<=pos/\pos<off+n):=by
    rintro⟨h1,h2⟩;have:(Cc off pos&&Cr pos (off+n))=true:=by
     simp only[BC,CT];exact⟨CM h1,h2⟩
    rw[R]at this;cases this
   refine⟨[],cs,Y,z,rfl,M,by simp only[CP];omega,?_,λi hi=>?_,λk=>by omega,by simp,by simp⟩
   ·have Z:=hm.mono (G':=λk=>G k\/bi V W false [] k) (λk H=>.inl H);cases m with
    |false=>rw[co]at Z ⊢;exact Z
    |true =>
     by_cases hp:hol=some pos
     ·have a3:=(X pos a4).2 hp;subst hp;subst a3;rw[iY]at Z ⊢;exact Z
     ·have a3:I≠some pos:=λe=>hp ((X pos a4).1 e)
      rw[bH hp]at Z;rw[bH a3];exact Z
   ·rw[if_neg (by omega)]
where
 put_scalar (h:ap P V W st a w) {b:Ty} {pos:Nat} {x:b.den} {ls:List Leaf} {cs:List Value} {t:cK b.den} {Y:List Value} {z:List Nat} (hf:b.flat=true) (h1:b.cells=1) (M:aC P V W st w ls cs)
   (r:(bif Cc off pos&&Cr pos (off+n) then take st b ls else some ⟨false,x,[],[],ls⟩)=some t) (hm:Mx w G b hol pos x Y z) :
   ∃ O c2 c' J,cs=O++c2/\aC P V W st w t.rest c2/\O.length=min (off+n) (pos+b.cells)-max off pos /\
    Mx w (λk=>G k\/bi V W t.p t.frz k) b I pos t.val c' J /\
    (∀ i,i<b.cells->c'[i]?=if off<=pos+i/\pos+i<off+n then O[pos+i-max off pos]? else Y[i]?) /\
    (∀ k,J.count k<=z.count k+(aW W t.kill).count k)/\(∀ x∈t.frz,aB st x)/\(∀ x∈t.kill,aB st x):=by
  have a0:∀ {S S':Nat->Prop} {hh ad:Option Nat} {y:b.den} {c:List Value} {q:List Nat},Mx w S b hh pos y c q->Mx w S' b ad pos y c []:=by
   intro S S' hh ad y c q hq;exact Mx.flat (w:=w) (G:=λ_=>True) hf (jW hf hq)
  cases R:Cc off pos&&Cr pos (off+n) with
  |true =>
   rw[R]at r;simp only[cond_true]at r;simp only[BC,CT]at R;have b0:=CB R.1;obtain⟨O,c2,l1,e1,e2,h2,h3,h4,h5,Z⟩:=lz h b pos ls cs t M r;have a5:=h4.len;refine⟨O,c2,O,[],e1,h3,by rw[a5];omega,a0 h4,λi hi=>?_,λk=>by simp,h5,Z⟩;rw[if_pos (by omega)];congr 1;omega
  |false =>
   rw[R]at r;simp only[cond_false,BA]at r;subst r;have a4:¬ (off<=pos/\pos<off+n):=by
    rintro⟨h1,h2⟩;have:(Cc off pos&&Cr pos (off+n))=true:=by
     simp only[BC,CT];exact⟨CM h1,h2⟩
    rw[R]at this;cases this
   refine⟨[],cs,Y,[],rfl,M,by simp only[CP];omega,a0 hm,λi hi=>?_,λk=>by simp,by simp,by simp⟩;rw[if_neg (by omega)]
end
section
variable {P:Program} {V:Env} {Γ:List Ctr} {T:TypeId->TI} {st st2:St} {o:Oper} {R:Type} {κ:Upd->Option R} {r:R}
def uV (V:Env)(W:Wit)(st:St)(q j k:Nat):Prop :=
 ¬ W.nw k/\¬ V.prot k/\(∀ b,live st b->W.β b≠k)/\∀ (u i:Nat) (l:Leaf),(st u).ls[i]?=some l->ao l->(u,i)≠(q,j)->k∉W.bs u i
structure xG (st st2:St) (q j:Nat) (l':Leaf):Prop where
 sh:∀ r,(st2 r).sh=(st r).sh
 ver:∀ r,(st r).ver<=(st2 r).ver
 epo:(st EPO).ver<(st2 EPO).ver
 len:∀ r,(st2 r).ls.length=(st r).ls.length
 at_:∀ l,(st2 q).ls[j]?=some l->l=l'
 old:∀ r i l,(r,i)≠(q,j)->(st2 r).ls[i]?=some l->(st r).ls[i]?=some l
def Wit.tell (W:Wit)(q j:Nat)(bs:List Nat):Wit:={ W with bs:=λr i=>if (r,i)=(q,j) then bs else W.bs r i }
theorem ap.retell (hV:ax V){W:Wit}{a:Act}{w w':World}(h:ap P V W st a w){q j:Nat}{l l':Leaf}(O:xG st st2 q j l'){v:Value}{bs':List Nat}
  (hl:(st q).ls[j]?=some l) (ad:ao l) (hv:(W.cs q)[j]?=some v) (b4:ao l') (a5:aI P V W st w' bs' l' v)
  (a4:∀ k∈bs',uV V W st q j k)
  (I:∀ k,ce V W st k->k∉W.bs q j->w'.heap[k]?=w.heap[k]?) (a6:w.heap.size<=w'.heap.size) (b3:w'.os=w.os) (ht:w'.tape=w.tape) (ho:w'.output=w.output) :
  ap P V (W.tell q j bs') st2 a w':=by
 have a0:=h.ownb q j _ hl ad;have X:∀ b,live st2 b<->live st b:=iz O.sh;have a2:∀ {y i:Nat},(y,i)≠(q,j)->(W.tell q j bs').bs y i=W.bs y i:=λh=>if_neg h
 have a3:(W.tell q j bs').bs q j=bs':=if_pos rfl;have b1:∀ (y i:Nat) (l:Leaf),(st2 y).ls[i]?=some l->ao l->(y,i)≠(q,j)->(st y).ls[i]?=some l:=λy i l Z _ M=>O.old y i l M Z
 have H:cE V W (W.tell q j bs') st st2 w w':=by
  refine⟨λy=>⟨O.ver y,λ_=>rfl⟩,λb hb=>⟨(X b).2 hb,rfl⟩,λ_ h=>h,λk z=>I k (z.elim .inl (λh=>.inr (.inl h))) (λhm=>?_),λhe=>?_⟩
  ·rcases z with z|z
   ·exact (a0 k hm).1 z
   ·exact (a0 k hm).2.1 z
  ·have:=O.epo;omega
 exact {
  nt:=h.nt,df:=h.df
  slots:=λt b0=>by rw[O.sh];exact h.slots t b0
  boxes:=λb hb=>by
   rw[O.sh];rcases h.boxes b hb with ⟨Z,M⟩|⟨Z,E0,M⟩
   ·refine .inl ⟨Z,BV ?_⟩;rw[O.len,M];rfl
   ·refine .inr ⟨Z,E0,?_⟩;show w'.heap[W.β b]?=_;rw[I _ (.inr (.inr (.inl ⟨b,⟨hb,Z⟩,rfl⟩))) (λhm=>(a0 _ hm).2.2 b ⟨hb,Z⟩ rfl)];exact M
  len:=λy=>by rw[O.len];exact h.len y
  one:=h.one
  leaf:=λy i l1 u Z M=>by
   by_cases J:(y,i)=(q,j)
   ·cases J;obtain rfl:=O.at_ l1 Z;have M:(W.cs q)[j]?=some u:=M;rw[hv]at M;simp only[BA]at M;subst M;rw[a3];have a9:cE V W (W.tell q j bs') st st2 w' w':=⟨H.ver,H.box,H.nw,λ_ _=>rfl,λhe=>by have:=O.epo;omega⟩;exact a5.carry hV.ro a9 (λ_=>⟨rfl,λ_ _=>rfl⟩)
   ·have h3:=O.old y i l1 J Z;rw[a2 J];refine (h.leaf y i l1 u h3 M).carry hV.ro H (λho=>⟨rfl,λk z=>I k (.inr (.inr (.inr ⟨y,i,l1,h3,ho,z⟩))) (λhm=>J ?_)⟩);obtain⟨rfl,rfl⟩:=h.sep y i l1 q j _ h3 ho hl ad k z hm;rfl
  ownb:=λy i l1 Z M k z=>by
   by_cases J:(y,i)=(q,j)
   ·cases J;rw[a3]at z;obtain⟨q1,q2,q3,_⟩:=a4 k z;exact⟨q1,q2,λb hb=>q3 b ((X b).1 hb)⟩
   ·rw[a2 J]at z;obtain⟨q1,q2,q3⟩:=h.ownb y i l1 (O.old y i l1 J Z) M k z;exact⟨q1,q2,λb hb=>q3 b ((X b).1 hb)⟩
  sep:=λy i l1 r2 i2 l2 Z M h3 h4 k z a1=>by
   by_cases J:(y,i)=(q,j) <;> by_cases Y:(r2,i2)=(q,j)
   ·rw[<- Y]at J;cases J;exact⟨rfl,rfl⟩
   ·cases J;rw[a3]at z;rw[a2 Y]at a1;exact absurd a1 ((a4 k z).2.2.2 r2 i2 l2 (O.old r2 i2 l2 Y h3) h4 Y)
   ·cases Y;rw[a3]at a1;rw[a2 J]at z;exact absurd z ((a4 k a1).2.2.2 y i l1 (O.old y i l1 J Z) M J)
   ·rw[a2 J]at z;rw[a2 Y]at a1;exact h.sep y i l1 r2 i2 l2 (O.old y i l1 J Z) M (O.old r2 i2 l2 Y h3) h4 k z a1
  box:=λb hb=>h.box b ((X b).1 hb)
  inj:=λb b' hb b2=>h.inj b b' ((X b).1 hb) ((X b').1 b2)
  nwlt:=λk z=>⟨B8 (h.nwlt k z).1 a6,(h.nwlt k z).2⟩
  os:=b3.trans h.os,tape:=ht.trans h.tape,output:=ho.trans h.output,size:=B6 h.size a6
  keep:=λk hp=>by
   rw[I k (.inr (.inl hp)) (λhm=>(a0 k hm).2.1 hp)];exact h.keep k hp
  fixb:=λx hx=>⟨(X _).2 (h.fixb x hx).1,(h.fixb x hx).2⟩
  fixt:=h.fixt }
theorem kI {q:Nat}(st:St):∀ (ks:List (Nat×Nat)),(∀ x∈ks,x.1≠q)->ac (aE st ks) st q=st q
 |[],_=>rfl
 |(r,j)::ks,h=>by
  have e:ac (aE st ((r,j)::ks)) st=ac [(r,fT (ac (aE st ks) st r) j)] (ac (aE st ks) st):=aO _ _ _ _;rw[e,aH (CE (h (r,j) (BW ..))),kI st ks (λx u=>h x (BP _ u))]
theorem ko {q:Nat}(st:St):∀ (ks:List (Nat×Nat)),(∀ x∈ks,x.1≠q)->ac (aM st ks) st q=st q
 |[],_=>rfl
 |(r,j)::ks,h=>by
  have e:ac (aM st ((r,j)::ks)) st=ac [(r,fY (ac (aM st ks) st r) j)] (ac (aM st ks) st):=aO _ _ _ _;rw[e,aH (CE (h (r,j) (BW ..))),ko st ks (λx u=>h x (BP _ u))]
theorem OwH.store {w:World}{G G':Nat->Prop}{h h':Option (Nat×Nat)}{E:TypeId}{e:Ty}{xs:List e.den}{g len a4:Nat}{bs K:List Nat}(H:OwH w G h E e xs (.slice (some ⟨g,0,none⟩) len a4) bs)
  (hG:∀ k,G k->G' k) (bx:¬ G' g) (hK:K.Nodup) (cw:∀ k∈K,k∉bs) {i:Nat} {ad z:e.den} (hi:xs[i]?=some ad) (hh:∀ j,j≠i->cP h' j=cP h j) {off:Nat} {cs:List Value} (e1:off+cs.length<=e.cells)
  (M:∀ c0 b4,Mx w G e (cP h i) 0 ad c0 b4->∃ c J,Mx w G' e (cP h' i) 0 z c J/\(∀ k,k<e.cells->c[k]?=if off<=k/\k<off+cs.length then cs[k-off]? else c0[k]?)/\∀ k,J.count k<=b4.count k+K.count k) :
  ∃ bb,OwH (w.setCells g (i*e.cells+off) cs) G' h' E e (xs.set i z) (.slice (some ⟨g,0,none⟩) len a4) bb/\∀ k∈bb,k∈bs\/k∈K:=by
 obtain⟨cc,a0,X,h1,h2,h3⟩:=H;have a9:i<xs.length:=(BD.1 hi).1;obtain⟨c0,bn,cp⟩:=h3 i ad hi;obtain⟨c,J,hm,c6,b3⟩:=M c0 (X i) bn;have cu:=h1.1;rcases h1.2 with ⟨h4,_⟩|⟨g',d2,y,mk,h4,hg,ba,c5,d1,a6⟩
 ·simp at h4
 ·simp only[Bu,BA,CX,and_true,true_and]at h4;obtain⟨rfl,rfl,rfl⟩:=h4;have dd:g∈bs:=by rw[h2];simp[Bq]
  have d3:=bn.len;have cx:=hm.len;have b1:(i+1)*e.cells<=xs.length*e.cells:=BN _ a9;rw[Bx]at b1;have dc:xs.length*e.cells<=a4*e.cells:=BN _ ba;have c4:y.toList.length=y.size:=by rw[Bv]
  have b0:a0=y.toList.take (xs.length*e.cells):=a6.symm;have M:=jH g E cs 0 (i*e.cells+off) w y hg;have b5:=kQ y.toList cs (i*e.cells+off) (by omega);rw[Br]at b5;rw[b5]at M;simp only[B4]at M;have Z:∀ k,k<xs.length*e.cells->(y.toList.take (i*e.cells+off)++cs++y.toList.drop (i*e.cells+off+cs.length))[k]? =
    if i*e.cells+off<=k/\k<i*e.cells+off+cs.length then cs[k-(i*e.cells+off)]? else a0[k]?:=by
   intro k Y;have b2:a0[k]?=y.toList[k]?:=by rw[b0,Bz,if_pos Y]
   by_cases h9:k<i*e.cells+off
   ·rw[BQ,BH (by simp only[Bp];omega),Bz,if_pos h9,if_neg (by omega),b2]
   ·by_cases cb:k<i*e.cells+off+cs.length
    ·rw[BQ,BG (by simp only[Bp];omega),BH (by simp only[Bp];omega),if_pos ⟨by omega,cb⟩];congr 1;simp only[Bp];omega
    ·rw[BG (by simp only[Bp,BR];omega),CH,if_neg (by omega),b2];congr 1;simp only[Bp,BR];omega
  have O:(y.toList.take (i*e.cells+off)++cs++y.toList.drop (i*e.cells+off+cs.length)).length=y.size:=by
   simp only[BR,Bp,CZ];omega
  have a2:∀ k,([g]++(BO xs.length).flatMap λj=>if j=i then J else X j).count k<=bs.count k+K.count k:=by
   intro k;have h5:=kn a9 X J k;have h6:=b3 k;rw[h2];simp only[Bq,Cv,BF];omega
  have a1:=mX cc hK cw a2;have b9:∀ j,j<xs.length->∀ k∈(if j=i then J else X j),k≠g:=by
   intro j hj k Y e0;subst e0;have h7:=a1.1;rw[Cj,B9]at h7;exact h7.1 (dV.2 ⟨j,hj,Y⟩)
  have I:∀ k,k≠g->(w.setCells g (i*e.cells+off) cs).heap[k]?=w.heap[k]?:=λk Y=>eG g cs _ w k Y
  refine⟨[g]++(BO xs.length).flatMap λj=>if j=i then J else X j,⟨a1.1,(y.toList.take (i*e.cells+off)++cs++y.toList.drop (i*e.cells+off+cs.length)).take (xs.length*e.cells),
   λj=>if j=i then J else X j,⟨?_,.inr ⟨g,a4,_,_,?_,M,?_,by rw[CK,O];exact c5,?_,?_⟩⟩,?_,?_⟩,a1.2⟩
  ·rw[Bp,O,CA];omega
  ·rw[CA]
  ·rw[CA];exact ba
  ·rw[CK,O];exact d1
  ·rw[CA]
  ·simp[Bq]
  ·intro j x hj;rcases aQ _ _ _ _ _ hj with ⟨rfl,rfl,_⟩|⟨a3,hj⟩
   ·refine⟨c,?_,λk u hu=>?_⟩
    ·simp only[if_true];exact hm.carry (λ_ h=>h) (λk Y=>I k (λe0=>bx (e0 ▸ Y))) (λk Y=>I k (b9 j a9 k (by simpa using Y)))
    ·have c1:k<e.cells:=by rw[<- cx];exact (BD.1 hu).1
     rw[Bz,if_pos (by omega),Z _ (by omega)];rw[c6 k c1]at hu;by_cases b6:off<=k/\k<off+cs.length
     ·rw[if_pos b6]at hu;rw[if_pos (by omega),<- hu];congr 1;omega
     ·rw[if_neg b6]at hu;rw[if_neg (by omega)];exact cp k u hu
   ·obtain⟨c',c2,c3⟩:=h3 j x hj;have bl:j<xs.length:=(BD.1 hj).1;refine⟨c',?_,λk u hu=>?_⟩
    ·rw[hh j a3];simp only[if_neg a3];exact c2.carry hG (λk Y=>I k (λe0=>bx (e0 ▸ hG k Y))) (λk Y=>I k (b9 j bl k (by rw[if_neg a3];exact Y)))
    ·have c1:k<e.cells:=by rw[<- c2.len];exact (BD.1 hu).1
     have cy:(j+1)*e.cells<=xs.length*e.cells:=BN _ bl;rw[Bx]at cy;rw[Bz,if_pos (by omega),Z _ (by omega),if_neg ?_]
     ·exact c3 k u hu
     ·rintro⟨h14,h15⟩;rcases Nat.lt_or_gt_of_ne (λe=>a3 e.symm:i≠j) with a5|a5
      ·have:(i+1)*e.cells<=j*e.cells:=BN _ a5;rw[Bx]at this;omega
      ·have:(j+1)*e.cells<=i*e.cells:=BN _ a5;rw[Bx]at this;omega
theorem xH (hV:ax V)(hT:TOk P T){t:TypeId}{x y:Operand}(b1:o.op=.store t x y)(h:act Γ T o st κ=some r):bV P V o st κ r:=by
  simp only[act,wrU,b1]at h;split at h
  · cases h
  · rename_i hd
    cases hb:BT (au st y).2.length (T t).cells&&decide ((au st y).1=bf (T t).agg)&&!decide ((T t).cells=0) with
    |false=>simp[hb]at h
    |true =>
      simp only[hb,cond_true]at h;simp only[BC,decide_eq_true_eq,BY,decide_eq_false_iff_not]at hb;obtain⟨⟨b9,cp⟩,b5⟩:=hb;have b9:=BI b9;split at h
      · rename_i b off hx
        cases Y:decide ((st b).sh=.agg)&&decide (off+(au st y).2.length<=(st b).ls.length)&&hM st (au st y).2 with
        |false=>simp[Y]at h
        |true =>
          simp only[Y,cond_true]at h;simp only[BC,decide_eq_true_eq]at Y;exact⟨_,h,λW a w hr=>tp hV hT b1 hd hx b9 cp b5 Y.1.1 Y.1.2 Y.2 hr⟩
      · rename_i z j fr i sz off hx
        split at h
        · rename_i p hh E e xs fd
          cases Y:BT sz e.cells&&decide (off+(au st y).2.length<=e.cells)&&rV z with
          |false=>simp[Y]at h
          |true =>
            simp only[Y,cond_true]at h;simp only[BC,decide_eq_true_eq,rV,BY]at Y;obtain⟨⟨b2,fl⟩,fv,ej⟩:=Y;have b2:=BI b2;subst b2;have em:z≠EPO:=λe0=>by subst e0;simp at ej
            unfold gE at h;obtain⟨a2,cw,h⟩:=Bs.1 h;obtain⟨_,_,h4⟩:=gi cw;simp only[Cy]at h4;split at h
            · rename_i u hu
              cases hq:u.rest.isEmpty&&aX u.kill&&dC u.frz u.kill&&!((u.kill++u.frz).any λk=>BT k.1 z) with
              |false=>rw[hq]at h;cases h
              |true =>
                simp only[hq,cond_true]at h;simp only[BC,BY,Bt]at hq;obtain⟨⟨⟨e5,eg⟩,f0⟩,a3⟩:=hq;have a3:∀ k∈u.kill++u.frz,k.1≠z:=λk H e0=>a3 k H (by simp[e0])
                obtain ⟨I, hκ, cb, a5, cc⟩ : ∃ I : Option (Nat × Nat), κ ((z, ⟨(st z).ver, (st z).sh, aS (st z).ls j (.own (p || u.p) I E e (xs.set i u.val))⟩) :: (EPO, bU (ac (aM (ac (aE st u.frz) st) u.kill ++ aE st u.frz) st EPO)) ::
                      (aM (ac (aE st u.frz) st) u.kill++aE st u.frz))=some r /\
                    (∀ k,off<=k->k<off+(au st y).2.length->cP I i≠some k)/\(∀ k,¬ (off<=k/\k<off+(au st y).2.length)->(cP I i=some k<->cP hh i=some k))/\(∀ j',j'≠i->cP I j'=cP hh j'):=by
                  cases hh with
                  |none=>exact⟨none,h,λ_ _ _=>by simp[cP],λ_ _=>Cd,λ_ _=>rfl⟩
                  |some hp =>
                    obtain⟨hi,ho⟩:=hp;simp only at h;cases J:Cc off ho&&Cr ho (off+(au st y).2.length) with
                    |true =>
                      rw[J]at h;simp only[cond_true]at h;simp only[BC,CT]at J;have ex:=CB J.1;cases ad:BT i hi with
                      |true =>
                        rw[ad]at h;have h9:=h;have:=BI ad;subst this;refine⟨none,h9,λ_ _ _=>by simp[cP],λk H=>?_,λj' d2=>?_⟩
                        · simp only[cP,Nat.beq_refl,cond_true,reduceCtorEq,BA,false_iff]
                          rintro rfl;exact H ⟨ex,J.2⟩
                        · have:BT i j'=false:=by
                            cases ec:BT i j' with
                            |false=>rfl
                            |true=>exact absurd (BI ec).symm d2
                          simp[cP,this]
                      |false=>rw[ad]at h;cases h
                    |false =>
                      rw[J]at h;refine⟨some (hi,ho),h,λk ba d3=>?_,λ_ _=>Cd,λ_ _=>rfl⟩;simp only[cP];cases BT hi i with
                      |false=>simp
                      |true =>
                        simp only[cond_true,ne_eq,BA];rintro rfl;have:(Cc off ho&&Cr ho (off+(au st y).2.length))=true:=by
                          simp only[BC,CT];exact⟨CM ba,d3⟩
                        rw[J]at this;cases this
                refine⟨_,hκ,λW a w hr next Q hn=>?_⟩;obtain⟨cs,hs,M⟩:=cS hr y;rw[cp]at hs;have dd:=gQ hs M.one';have d1:=M.length;obtain⟨h5,h6⟩:=eX fd (by simp);obtain⟨hp,_,_,_⟩:=bo hr x (by rw[hx];simp);rw[hx]at hp;obtain⟨g,e6,es,a6,fo,hv⟩:=hp.2 h5;have dc:T t≠.none:=by intro e;rw[e]at b5;exact b5 rfl
                have a0:=hr.leaf z j _ _ h6 a6;have ed:∀ c0 O,Mx w (gd V W p) e (cP hh i) 0 a2 c0 O->∃ c a1,Mx w (λk=>gd V W p k\/bi V W u.p u.frz k) e (cP I i) 0 u.val c a1 /\
                    (∀ k,k<e.cells->c[k]?=if off<=k/\k<off+cs.length then cs[k-off]? else c0[k]?)/\∀ k,a1.count k<=O.count k+(aW W u.kill).count k:=by
                  intro c0 O hm;obtain⟨c1,c2,c',bs',f1,f2,f3,f4,f5,f6,f7,f8⟩:=mg hr cb a5 e 0 a2 (au st y).2 cs u c0 O M hu hm;have c5:c2=[]:=by
                    have:=f2.length;rw[C8.1 e5]at this;exact BV this.symm
                  subst c5;rw[Bo]at f1;subst f1;refine⟨c',bs',f4,λk H=>?_,f6⟩;rw[f5 k H,d1];simp only[CF];by_cases J:off<=k/\k<off+cs.length
                  · rw[if_pos J,if_pos J]
                    congr 1;omega
                  · rw[if_neg J,if_neg J]
                have b6:(∀ x∈u.frz,aB st x)/\(∀ x∈u.kill,aB st x):=by
                  obtain⟨_,a9,c3,_,_,cu⟩:=a0;obtain⟨c0,et,_⟩:=cu i a2 h4;obtain⟨_,_,_,_,_,_,_,_,_,_,f7,f8⟩:=mg hr cb a5 e 0 a2 (au st y).2 cs u c0 _ M hu et;exact⟨f7,f8⟩
                obtain⟨k1,k2,k3,k4⟩:=fD hV hr f0 b6.2;have X:ac (aM (ac (aE st u.frz) st) u.kill++aE st u.frz) st z=st z:=by
                  rw[bz,ko _ _ (λx hx=>a3 x (BJ _ hx)),kI _ _ (λx hx=>a3 x (BE _ hx))]
                have h7:(ac (aM (ac (aE st u.frz) st) u.kill++aE st u.frz) st z).ls[j]?=some (.own p hh E e xs):=by rw[X];exact h6
                have a4:=k1.ownb z j _ h7 trivial;have c6:∀ k,gd V W p k\/bi V W u.p u.frz k->gd V (W.frz st u.frz) (p||u.p) k:=by
                  rintro k (H|H)
                  · exact bT (W':=W.frz st u.frz) (by intro h;simp[h]) (λ_ h=>Or.inl h) k H
                  · exact bT (W':=W.frz st u.frz) (by intro h;simp[h]) (λ_ h=>h) k (kg b6.1 k H)
                have b4:g∈W.bs z j:=by obtain⟨_,a9,c3,_,bl,_⟩:=a0;rw[bl];simp[Bq]
                have ev:¬ gd V (W.frz st u.frz) (p||u.p) g:=by
                  rintro (H|⟨_,H⟩)
                  · exact (a4 g b4).1 H
                  · exact (a4 g b4).2.1 (hV.ro g H)
                have fc:∀ k∈aW W u.kill,k∉W.bs z j:=λk H e7=>(k4 k H).2.2.2.2 z j _ h7 trivial e7
                obtain⟨bs',c4,cy⟩:=OwH.store (G':=gd V (W.frz st u.frz) (p||u.p)) (h':=I) a0 (λk H=>c6 k (.inl H)) ev (gL hr eg b6.2) fc h4 cc (off:=off) (cs:=cs) (by omega)
                  (λc0 O hm=>by
                    obtain⟨c,a1,q1,q2,q3⟩:=ed c0 O hm;exact⟨c,a1,q1.mono c6,q2,q3⟩)
                obtain⟨_,a9,c3,ho,bl,_⟩:=a0;have ef:e6=xs.length:=by
                  obtain⟨A,bn,e0,_⟩:=ho.slice;simp only[Bu]at e0;exact e0.2.1
                subst ef;rcases ho.2 with ⟨h8,_⟩|⟨g',bn,cur,mk,h8,hg,en,eb,fx,_⟩
                · simp at h8
                · simp only[Bu,BA,CX,and_true,true_and]at h8
                  obtain⟨rfl,rfl⟩:=h8;have bx:(i+1)*e.cells<=xs.length*e.cells:=BN _ (BD.1 h4).1;rw[Bx]at bx;have fi:xs.length*e.cells<=es*e.cells:=BN _ en;have b0:cur.toList.length=cur.size:=by rw[Bv]
                  have cx:=mW (P:=P) (oK (hT t) dc) (w:=w) (b:=g) (off:=i*e.cells+off) (cur:=cur.toList) (E:=E) (by rw[Br];exact hg) (by rw[b0];exact zh eb) dd (by omega) M.one' (by omega);refine pv (w':=w.setCells g (i*e.cells+off) cs) (by simp[execOp,b1,hv,cx]) ?_;rw[hd];refine hn _ _ ?_;obtain⟨e1,e2,e3,e4⟩:=jI g cs (i*e.cells+off) w;refine⟨_,k1.retell hV (l':=.own (p||u.p) I E e (xs.set i u.val)) (w':=w.setCells g (i*e.cells+off) cs) (bs':=bs') ?_ h7 trivial a6 trivial c4 (λk H=>?_) (λk _ H=>eG g cs _ w k (λe=>H (e ▸ b4))) (Cb e4.symm) e1 e2 e3⟩
                  · rw[aO z,aO EPO]
                    have Z:EPO≠z:=CE em;generalize aM (ac (aE st u.frz) st) u.kill++aE st u.frz=U at X ⊢;refine⟨λq=>?_,λq=>?_,?_,λq=>?_,λl M=>?_,λq i' l hq M=>?_⟩
                    · rcases ak z q ⟨(st z).ver,(st z).sh,aS (st z).ls j (.own (p||u.p) I E e (xs.set i u.val))⟩ (ac [(EPO,bU (ac U st EPO))] (ac U st)) with ⟨rfl,e⟩ | ⟨_,e⟩
                      · rw[e,X]
                      · rw[e]
                        rcases ak EPO q (bU (ac U st EPO)) (ac U st) with ⟨rfl,e⟩|⟨_,e⟩ <;> rw[e];rfl
                    · rcases ak z q ⟨(st z).ver,(st z).sh,aS (st z).ls j (.own (p||u.p) I E e (xs.set i u.val))⟩ (ac [(EPO,bU (ac U st EPO))] (ac U st)) with ⟨rfl,e⟩ | ⟨_,e⟩
                      · rw[e,X];exact BU _
                      · rw[e]
                        rcases ak EPO q (bU (ac U st EPO)) (ac U st) with ⟨rfl,e⟩|⟨_,e⟩ <;> rw[e]
                        · exact DD _
                        · exact BU _
                    · rw[aH Z,bg];exact BM _
                    · rcases ak z q ⟨(st z).ver,(st z).sh,aS (st z).ls j (.own (p||u.p) I E e (xs.set i u.val))⟩ (ac [(EPO,bU (ac U st EPO))] (ac U st)) with ⟨rfl,e⟩ | ⟨_,e⟩
                      · rw[e,X];simp[aS]
                      · rw[e]
                        rcases ak EPO q (bU (ac U st EPO)) (ac U st) with ⟨rfl,e⟩|⟨_,e⟩ <;> rw[e];rfl
                    · rw[bg]at M
                      rcases aQ _ _ _ _ _ M with ⟨_,rfl,_⟩|⟨Z,_⟩
                      · rfl
                      · exact absurd rfl Z
                    · rcases ak z q ⟨(st z).ver,(st z).sh,aS (st z).ls j (.own (p||u.p) I E e (xs.set i u.val))⟩ (ac [(EPO,bU (ac U st EPO))] (ac U st)) with ⟨rfl,e⟩ | ⟨_,e⟩
                      · rw[e]at M
                        rw[X];rcases aQ _ _ _ _ _ M with ⟨rfl,_,_⟩|⟨_,M⟩
                        · exact absurd rfl hq
                        · exact M
                      · rw[e]at M
                        rcases ak EPO q (bU (ac U st EPO)) (ac U st) with ⟨rfl,e⟩|⟨_,e⟩ <;> rw[e]at M <;> exact M
                  · rcases cy k H with H|H
                    · have h9:=k1.ownb z j _ h7 trivial k H
                      exact⟨h9.1,h9.2.1,h9.2.2,λr1 i1 l1 bb b3 Z ba=>Z (by obtain⟨e1,e2⟩:=k1.sep r1 i1 l1 z j _ bb b3 h7 trivial k ba H;rw[e1,e2])⟩
                    · have h9:=k4 k H
                      exact⟨h9.1,h9.2.1,h9.2.2.2.1,λr1 i1 l1 bb b3 _=>h9.2.2.2.2 r1 i1 l1 bb b3⟩
            · cases h
        · cases h
      · cases h
end
section
variable {P:Program} {V:Env} {Γ:List Ctr} {T:TypeId->TI} {st:St} {o:Oper} {R:Type} {κ:Upd->Option R} {r:R}
theorem ap.putOwn (Z:ax V){W:Wit}{a:Act}{w w':World}(h:ap P V W st a w)(M:w.heap.size<=w'.heap.size)(O:w'.os=w.os)(ht:w'.tape=w.tape)(ho:w'.output=w.output)
  (hk:∀ k,ce V W st k->w'.heap[k]?=w.heap[k]?) (d:Nat) (hd:d<V.nt) (z:∀ x∈V.fixt,x.1≠d) (n:Nat) (hn:(st d).ver<n) {p:Bool} {E:TypeId} {e:Ty} {xs:List e.den} {v:Value} {bs:List Nat}
  (ow:Ow w' (gd V W p) E e xs v bs) (hb:∀ k∈bs,¬ ce V W st k):Rel P V (ac [(d,⟨n,.one,[.own p none E e xs]⟩)] st) (a.put (some d) v) w':=by
 refine⟨_,(h.world Z M O ht ho hk).put Z d hd z n .one [.own p none E e xs] v [v] (λ_=>bs) hn rfl rfl (λu X=>by simp at X;subst X;exact ow.one) ?_ ?_ ?_⟩
 ·intro j l u y H;cases j with
  |zero=>simp at y H;subst y;subst H;exact ow
  |succ j=>simp at y
 ·intro j l y H k J;have:=hb k J;simp only[ce,not_or,not_exists,not_and]at this;exact⟨this.1,this.2.1,this.2.2.1,λr1 j1 l1 _ I Y=>this.2.2.2 r1 j1 l1 I Y⟩
 ·intro j j' l l' y H I Y k h5 h6;have h7:j<1:=(BD.1 y).1;have h8:j'<1:=(BD.1 I).1;omega
theorem dP {W:Wit}{p q:Bool}{y H:List (Nat×Nat)}:(∀ k,bi V W p y k->bi V W (p||q) (y++H) k)/\(∀ k,bi V W q H k->bi V W (p||q) (y++H) k):=by
 constructor
 ·rintro k (u|⟨x,z,u⟩)
  ·exact .inl (bT (W':=W) (by intro h;simp[h]) (λ_ h=>h) k u)
  ·exact .inr ⟨x,BJ _ z,u⟩
 ·rintro k (u|⟨x,z,u⟩)
  ·exact .inl (bT (W':=W) (by intro h;simp[h]) (λ_ h=>h) k u)
  ·exact .inr ⟨x,BE _ z,u⟩
theorem xI (n:Nat)(u:Nat->List Nat):(BO (n+1)).flatMap u=u 0++(BO n).flatMap λj=>u (j+1):=by
 rw[List.range_succ_eq_map,CC,C9]
theorem om {W:Wit}{a:Act}{w:World}(X:ap P V W st a w){e:Ty}:∀ (ps:List (Nat×Operand)) (k:Nat) (u:cK (List e.den)),ew st e k ps=some u ->
  ps.map (λx=>(x.1,a.eval x.2))=((ps.map λx=>a.eval x.2).zipIdx k).map (λx=>(x.2,x.1))/\u.val.length=ps.length/\(∀ x∈u.frz,aB st x)/\(∀ x∈u.kill,aB st x) /\
  ∃ z:Nat->List Nat,aW W u.kill=(BO u.val.length).flatMap z /\
   ∀ (j:Nat) (x:e.den),u.val[j]?=some x->∃ v c,(ps.map λx=>a.eval x.2)[j]?=some v/\v.cells=c.toArray/\Mx w (bi V W u.p u.frz) e none 0 x c (z j)
 |[],k,u,h=>by
  simp only[ew,BA]at h;subst h;exact⟨rfl,rfl,by simp,by simp,λ_=>[],rfl,λj x I=>by simp at I⟩
 |(i,y)::ps,k,u,h=>by
  simp only[ew]at h;cases H:BT i k&&decide ((au st y).1=bf e.isAgg) with
  |false=>simp[H]at h
  |true =>
   simp only[H,cond_true]at h;simp only[BC,decide_eq_true_eq]at H;have J:=BI H.1;subst J;split at h
   ·rename_i t1 u1 hg O;simp only[BA]at h;subst h;obtain⟨h1,h2,h3,h4,z,h5,h6⟩:=om X ps (i+1) u1 O;obtain⟨cs,Z,Y⟩:=cS X y;rw[H.2]at Z;have hc:=gQ Z Y.one';obtain⟨g1,g2,g3⟩:=dN (pos:=0) X Y hg;refine⟨by simp[h1],by simp[h2],λx M=>(BL.1 M).elim (g2 x) (h3 x),λx M=>(BL.1 M).elim (g3 x) (h4 x),λj=>match j with|0=>aW W t1.kill|j+1=>z j,?_,?_⟩
    ·rw[dH,h5,Ca,xI]
    ·intro j x I;cases j with
     |zero =>
      simp at I;subst I;exact⟨a.eval y,cs,by simp,hc,g1.mono dP.1⟩
     |succ j =>
      obtain⟨v,c,h7,h8,h9⟩:=h6 j x (by simpa using I);exact⟨v,c,by simpa using h7,h8,h9.mono dP.2⟩
   ·cases h
theorem lA (w:World)(G:Nat->Prop):∀ (b:Ty),Rd w G b b.zero (zeroCells b)
 |.int _=>rfl
 |.bool=>rfl
 |.str=>rfl
 |.unit=>rfl
 |.hdr=>⟨none,0,rfl⟩
 |.pair a b=>⟨_,_,rfl,lA w G a,lA w G b⟩
 |.list m E e=>Rd.nil w G m E e
theorem qA (w:World)(G:Nat->Prop):∀ (b:Ty) (pos:Nat),Mx w G b none pos b.zero (zeroCells b) []
 |.int _,_=>⟨rfl,rfl⟩
 |.bool,_=>⟨rfl,rfl⟩
 |.str,_=>⟨rfl,rfl⟩
 |.unit,_=>⟨rfl,rfl⟩
 |.hdr,_=>⟨⟨none,0,rfl⟩,rfl⟩
 |.pair a b,_=>⟨_,_,[],[],rfl,rfl,qA w G a _,qA w G b _⟩
 |.list m E e,_=>by
  cases m with
  |false=>exact co.2 ⟨rfl,Rd.nil w G false E e⟩
  |true=>exact (bH (by simp)).2 ⟨_,rfl,(OwH.nil w G E e).2⟩
theorem mh {W:Wit}{k:Nat}(h:¬ W.nw k/\¬ V.prot k/\(∀ b,live st b->W.β b≠k)/\∀ (u i:Nat) (l:Leaf),(st u).ls[i]?=some l->ao l->k∉W.bs u i):¬ ce V W st k:=by
 rintro (y|y|⟨b,J,e⟩|⟨u,i,l,z,H,I⟩)
 ·exact h.1 y
 ·exact h.2.1 y
 ·exact h.2.2.1 b J e
 ·exact h.2.2.2 u i l z H I
theorem mi:(9223372036854775807:Nat)<=maxLen:=by decide
theorem qB (hV:ax V)(hT:TOk P T)(b9:bM V o){t:TypeId}{n:Nat}{y:Array (Nat×Operand)}(a0:o.op=.buildSlice t n y)(h:act Γ T o st κ=some r):bV P V o st κ r:=by
 simp only[act,wrU,a0]at h;cases ht:T t with
 |slice E e c2 =>
  simp only[ht]at h;split at h
  ·rename_i u c5;cases hb:BT u.val.length n&&decide (n*e.cells<=16777216)&&aX u.kill&&dC u.frz u.kill with
   |false=>simp[hb]at h
   |true =>
    simp only[hb,cond_true]at h;simp only[BC,decide_eq_true_eq]at hb;obtain⟨⟨⟨c4,c6⟩,c3⟩,bn⟩:=hb;have c0:=BI c4;subst c0;split at h
    ·rename_i d hd;refine⟨_,h,λW a w hr next Q hn=>?_⟩;have h1:=hT t;rw[ht]at h1;obtain⟨hu,_,_,Y,_,ti,z,a5,O,_,hz,cc⟩:=h1;obtain⟨h2,h3,b6,b5,b0,bb,h5⟩:=om hr y.toList 0 u c5;generalize cb:u.val=I at *;have a3:∀ v∈(y.toList.map λx=>a.eval x.2),v.cells.size=e.cells:=by
      intro v hv;obtain⟨j,hj,e1⟩:=List.getElem_of_mem hv;have bl:j<I.length:=by rw[h3];simpa using hj
      obtain⟨v',c,X,Z,h8⟩:=h5 j I[j] (BS bl);rw[BS hj]at X;simp only[BA]at X;rw[<- e1,X,Z];simpa using h8.len
     have b2:(y.toList.map λx=>a.eval x.2).length=I.length:=by rw[CQ,h3]
     have a2:∀ (j:Nat) (x:e.den),I[j]?=some x->∃ c,Mx w (bi V W u.p u.frz) e none 0 x c (b0 j)/\∀ i u,c[i]?=some u ->
       ((y.toList.map λx=>a.eval x.2).flatMap λv=>v.cells.toList)[j*e.cells+i]?=some u:=by
      intro j x hj;obtain⟨v,c,X,Z,h8⟩:=h5 j x hj;refine⟨c,h8,λi u hi=>?_⟩;have a9:i<e.cells:=by rw[<- h8.len];exact (BD.1 hi).1
      rw[Great.flat_get Y _ a3];have e1:(j*e.cells+i) / e.cells=j:=by
       rw[Ce,Nat.mul_add_div Y,Nat.div_eq_of_lt a9,B4]
      have e2:(j*e.cells+i) % e.cells=i:=by
       rw[Ce,DI,DA a9]
      rw[e1,e2,X];simpa[Z]using hi
     have a1:((y.toList.map λx=>a.eval x.2).flatMap λv=>v.cells.toList).length=I.length*e.cells:=by
      have:∀ (vs:List Value),(∀ v∈vs,v.cells.size=e.cells)->(vs.flatMap λv=>v.cells.toList).length=vs.length*e.cells:=by
       intro vs;induction vs with
       |nil=>intro _;simp
       |cons v vs ih =>
        intro hv;rw[CC,BR,ih (λu hu=>hv u (BP _ hu)),Bv,hv v (BW ..),Ca,Bx];omega
      rw[this _ a3,b2]
     have H:=Great.fill_whole Y (y.toList.map λx=>a.eval x.2) ((Array.range (I.length*e.cells)).map ((if I.length*e.cells=0 then (#[]:Array Value) else z.cells)[· % (if I.length*e.cells=0 then (#[]:Array Value) else z.cells).size]!)) a3 (by rw[b2];simp);rw[<- h2]at H;have a4:(y.map λ (i,x)=>(i,a.eval x)).toList=y.toList.map λx=>(x.1,a.eval x.2):=by rw[DB]
     have b4:(execOp a.eval o).run P w=.ok (.value (.slice (some ⟨w.heap.size,0,none⟩) I.length I.length)) (w.alloc (.cells ((y.toList.map λx=>a.eval x.2).flatMap λv=>v.cells.toList).toArray E)):=by
      have M:¬ (I.length*e.cells>2 ^ 24):=by omega
      by_cases h0:I.length*e.cells=0
      ·rw[if_pos h0]at H;simp only[execOp,a0,Instr.buildSlice,Cz,run_underlying hu,CV,sizeOf,typeInfo,a5,O,a4];simp[M,h0,newRow,a5,O,a4]at H ⊢;simp[H]
      ·rw[if_neg h0]at H;have:=run_buildSlice (P:=P) w t E I.length (y.map λ (i,x)=>(i,a.eval x)) _ ti z hu a5 hz (by rw[O];exact M) (by rw[O];exact h0) (by rw[O,a4];exact H);simp[execOp,a0,this]
     refine dW b4 ?_;rw[hd];refine hn _ _ ?_;rw[ck,aO];obtain⟨X,_,_,a6⟩:=fD hV hr bn b5;have ad:=X.used_lt;have b1:I.length<=maxLen:=by
      have:=mi;have:I.length*1<=I.length*e.cells:=CS _ Y;omega
     have c1:=World.ownsRow_lit (e:=E) (size:=e.cells) (base:=0) w ((y.toList.map λx=>a.eval x.2).flatMap λv=>v.cells.toList).toArray I.length (DE _) b1 (by simpa using a1);refine X.putOwn hV (w':=w.alloc (.cells ((y.toList.map λx=>a.eval x.2).flatMap λv=>v.cells.toList).toArray E)) (by simp) rfl rfl rfl (λk J=>Go.heap_alloc_old w _ (ad k J)) d (b9 d hd).1 (b9 d hd).2 _ (BM _) (bs:=w.heap.size::aW W u.kill) ?_ (λk J hu=>?_)
     ·refine⟨B9.2 ⟨λhm=>?_,gL hr c3 b5⟩,_,b0,Row.of c1,by rw[bb];rfl,λj x hj=>?_⟩
      ·have:=(a6 _ hm).2.2.1;omega
      ·obtain⟨c,b3,bx⟩:=a2 j x hj;have ba:∀ k,bi V W u.p u.frz k->k<w.heap.size:=λk J=>by
        rcases kg b6 k J with J|⟨_,J⟩
        ·exact (X.nwlt k J).1
        ·exact B8 (hV.ro k J).1 X.size
       exact⟨c,b3.carry (kg b6) (λk J=>Go.heap_alloc_old w _ (ba k J)) (λk J=>Go.heap_alloc_old w _ (b3.lt k J)),λi u hi=>by simpa using bx i u hi⟩
     ·rcases CG.1 J with rfl|J
      ·have:=ad _ hu;omega
      ·have Z:=a6 k J;exact mh ⟨Z.1,Z.2.1,Z.2.2.2.1,Z.2.2.2.2⟩ hu
    ·cases h
  ·cases h
 |_=>simp[ht]at h
theorem xJ {w:World}{G:Nat->Prop}{E':TypeId}{y u e:TypeId}(Y:P.underlying y=some (.slice e))(O:P.underlying e=some (.int .u8))(X:P.underlying u=some .string){xs:List Int}{v:Value}
  (h:Rd w G (.list false E' (.int .u8)) xs [v]):(convert y u v).run P w=.ok (.string (gF xs)) w:=by
 obtain⟨A,z,hv,hc,J⟩:=h;simp only[CR,and_true]at hv;subst hv;cases A with
 |none =>
  have hx:xs=[]:=by
   cases xs with
   |nil=>rfl
   |cons x xs=>obtain⟨g,o,M,_⟩:=J (by simp);cases M
  subst hx;show (convert y u (.slice none 0 z)).run P w=_;rw[run_convert_bytes_nil w y e Y O 0 z u X];rfl
 |some ad =>
  cases H:xs with
  |nil =>
   subst H;show (convert y u (.slice (some ad) 0 z)).run P w=_;rw[run_convert_bytes_string w y u e ad 0 z Y O X];simp[Conv.bytesToString,loadCells,loadCellsFrom];rfl
  |cons x0 a0 =>
   rw[<- H];obtain⟨g,o,M,_,hr⟩:=J (by rw[H];simp);simp only[BA]at M;subst M;have:=run_convert_bytes_arg (P:=P) w y e Y O g o xs.length z xs rfl (λi hi=>by
    obtain⟨c,I,Z⟩:=hr i xs[i] (BS hi);have I:c=[.int .u8 xs[i]]:=I;subst I;have:=Z 0 _ rfl;simp only[Ty.cells,Co,B4]at this;rw[this];simp[List.getD,BS hi]) u X
   rw[this];rfl
theorem ut (hV:ax V)(hT:TOk P T)(M:bM V o){s t:TypeId}{x:Operand}(J:o.op=.convert s t x)(h:act Γ T o st κ=some r):bV P V o st κ r:=by
 simp only[act,wrU,J]at h;have y:=hT t;have z:=hT s;split at h
 ·rename_i k' k a5 n Y Z hx;split at h
  ·rename_i d O;refine⟨_,h,λW a w I=>aN hV I O M (v:=.int k (k.wrap n)) ?_ rfl id rfl⟩;rw[Z]at y;rw[Y]at z;simp[execOp,J,bC I hx,Go.convert,run_underlying y.1,run_underlying z.1,Conv.intToInt]
  ·cases h
 ·rename_i E b Y Z;split at h
  ·rename_i p xs ha;split at h
   ·rename_i d O;refine⟨_,h,λW a w I=>?_⟩;have a4:one st x≠.dead:=by intro e0;rw[e0]at ha;simp[aD,dg]at ha
    obtain⟨h1,h2,_⟩:=bo I x a4;have a0:=kx (m:=false) (E:=E) I h1 h2 ha;rw[Z]at y;rw[Y]at z;refine aN hV I O M (v:=.string (gF xs)) ?_ rfl id rfl;have:=xJ (P:=P) z.1 (z.2.2.2.2.1.2 rfl) y.1 a0;simp[execOp,J,this]
   ·cases h
  ·cases h
 ·rename_i E b H Y Z hx;cases hE:BT E 5 with
  |false=>simp[hE]at h
  |true =>
  simp only[hE,cond_true]at h;have a2:E=5:=BI hE;split at h
  ·rename_i d O;refine⟨_,h,λW a w I next Q hn=>?_⟩;rw[Z]at y;rw[Y]at z;have hc:(eq H).length=H.size:=by simp only[eq,CQ,Bv];rfl
   have X:=Lib.run_convert_string_bytes (P:=P) w s t E H z.1 y.1 (y.2.2.2.2.1.2 rfl);refine dW (v:=.slice (some ⟨w.heap.size,0,none⟩) H.size (grownCap w H.size 0 E)) (w':=Lib.bytesWorld w E H) (by simp[execOp,J,iy I hx,X]) ?_;rw[O];refine hn _ _ ?_;have a1:=grownCap_ge w H.size 0 E;have a3:(Lib.bytesCells w E H).size=grownCap w H.size 0 E:=by
    simp only[Lib.bytesCells,C0,Array.size_map,Array.size_replicate];show H.size+_=_;omega
   refine I.putOwn hV (by rw[Lib.bytesWorld_size];omega) (by simp[Lib.bytesWorld,C3,DF,DN,-Cp,-Ct]) (by simp[Lib.bytesWorld,C3,DF,DN,-Cp,-Ct]) (by simp[Lib.bytesWorld,C3,DF,DN,-Cp,-Ct])
    (λk hk=>Lib.bytesWorld_at_old w E H k (I.used_lt k hk)) d (M d O).1 (M d O).2 _ (BM _) (bs:=[w.heap.size])
    ⟨by simp,(eq H).map (Value.int .u8),λ_=>[],⟨by rw[CQ];exact (Co _).symm,.inr ⟨w.heap.size,_,_,_,by rw[hc],Lib.bytesWorld_at_new w E H,by rw[hc];exact a1,.inr ⟨a2,BU _⟩,by rw[a3];exact Cb (Co _),?_⟩⟩,by simp[Bq],λj x hj=>?_⟩ (λk hk hu=>?_)
   ·simp only[Lib.bytesCells,Cs,DB,Ty.cells,Co,eq,C4];exact List.take_left' (by simp)
   ·refine⟨[.int .u8 x],⟨rfl,rfl⟩,λi u hi=>?_⟩
    match i,hi with
    |0,hi =>
     simp only[CI,BA]at hi;subst hi;simp[Ty.cells,hj]
   ·simp at hk;have:=I.used_lt k hu;omega
  ·cases h
 ·cases h
theorem rS (hV:ax V)(hT:TOk P T)(a0:bM V o){t:TypeId}{n c:Operand}(J:o.op=.makeSlice t n c)(h:act Γ T o st κ=some r):bV P V o st κ r:=by
 simp only[act,wrU,J]at h;split at h
 ·rename_i E e H k1 m k2 m' ht a4 b0;cases hb:decide (0<=m)&&decide (m=m')&&decide (m*H<=(an:Int)) with
  |false=>simp[hb]at h
  |true =>
   simp only[hb,cond_true]at h;simp only[BC,decide_eq_true_eq]at hb;obtain⟨⟨h0,rfl⟩,a5⟩:=hb;split at h
   ·rename_i d hd;refine⟨_,h,λW a w Y next Q hn=>?_⟩;have h1:=hT t;rw[ht]at h1;obtain⟨hu,_,_,b9,a6,ti,z,a2,a9,b5,hz,O⟩:=h1;have hm:(m.toNat:Int)=m:=by omega
    have M:m.toNat*H<=an:=by
     have:((m.toNat*H:Nat):Int)<=(an:Int):=by rw[Int.natCast_mul,hm];exact a5
     omega
    have ba:m.toNat*1<=m.toNat*H:=CS _ a6.1;simp only[an]at M;have b6:=mi;obtain⟨w',I,a1,y⟩:=run_make_full (P:=P) w 0 t E ti z e.cells hu a2 hz a9 k1 k2 m.toNat (by rw[b5,Ce];omega) (by omega) (DE _);rw[hm]at I;refine dW (v:=.slice (some ⟨w.heap.size,0,none⟩) m.toNat m.toNat) (w':=w') (by simp[execOp,J,bC Y a4,bC Y b0,I]) ?_;rw[hd];refine hn _ _ ?_;have b2:z.cells.size=e.cells:=by
     have h2:=(lA w (λ_=>False) e).len;rw[<- Bv,O,h2]
    refine Y.putOwn hV y.size y.os y.tape y.output (λk hk=>y.block k (Y.used_lt k hk) (by simp)) d (a0 d hd).1 (a0 d hd).2 _ (BM _) (bs:=[w.heap.size])
     ⟨by simp,_,λ_=>[],by rw[Ck];exact Row.of a1,by simp[Bq],λj x Z=>?_⟩ (λk hk hu=>?_)
    ·rw[CJ]at Z;split at Z
     ·rename_i ad;simp at Z;subst Z;refine⟨_,qA w' _ e 0,λi u hi=>?_⟩;have b3:i<e.cells:=by rw[<- (lA w' (λ_=>False) e).len];exact (BD.1 hi).1
      have X:(j+1)*e.cells<=m.toNat*e.cells:=BN _ ad;rw[Bx]at X;have b4:j*e.cells+i<m.toNat*e.cells:=by omega
      have e2:(j*e.cells+i) % e.cells=i:=by rw[Ce,DI,DA b3]
      have a3:z.cells[i]?=some u:=by rw[<- Cl,O];exact hi
      obtain⟨bb,b1⟩:=Array.getElem?_eq_some_iff.1 a3;simp only[madeCells,Cl,Array.getElem?_map,Array.getElem?_range,b4,if_true,DJ,b2,e2];rw[getElem!_pos z.cells i (by omega),b1]
     ·cases Z
    ·simp at hk;have:=Y.used_lt k hu;omega
   ·cases h
 ·cases h
theorem uu (n u:Nat)(z:n<=u)(k y:IntKind)(w:World):(C5 true n u none (some (.int k n)) (some (.int y n))).run P w=.ok (0,n,n) w:=by
 simp[C5,Instr.sliceBound,asIntOf,z]
theorem vV (hV:ax V)(hT:TOk P T)(b0:bM V o){t:TypeId}{x m:Operand}{lo hi:Option Operand}(a1:o.op=.slice t x lo hi (some m))(h:act Γ T o st κ=some r):bV P V o st κ r:=by
 simp only[act,wrU,a1]at h;cases hd:o.dst with
 |none=>simp[hd]at h
 |some d =>
  simp only[hd]at h;split at h
  ·rename_i E' e' bb X j v ht hx;split at h
   ·rename_i p E e J hdr;split at h
    ·rename_i hh k b4 b2;cases hb:hi.isSome&&decide (hh=(J.length:Int))&&decide (k=(J.length:Int))&&BT e'.cells e.cells with
     |false=>rw[hb]at h;cases h
     |true =>
      rw[hb]at h;simp only[cond_true]at h;simp only[BC,decide_eq_true_eq]at hb;obtain⟨⟨⟨a3,rfl⟩,rfl⟩,Y⟩:=hb;have Y:=BI Y;refine⟨_,h,λW a w hr next Q hn=>?_⟩;have h1:=hT t;rw[ht]at h1;obtain⟨hu,_,_,_,_,ti,z,c5,c1,_⟩:=h1;obtain⟨a2,_,_,_,_⟩:=bo hr x (by rw[hx];simp);rw[hx]at a2;obtain⟨h8,a0,c2,cc⟩:=ke hr hdr a2;obtain⟨y,hy,k1,c6⟩:∃ y,hi=some y/\∃ k1,a.eval y=.int k1 J.length:=by
       rcases mG hr b4 with ⟨I,_⟩|⟨y,k1,I,H⟩
       ·rw[I]at a3;cases a3
       ·exact⟨y,I,k1,H⟩
      obtain⟨k2,b3⟩:∃ k2,a.eval m=.int k2 J.length:=by
       rcases mG hr b2 with ⟨I,_⟩|⟨y,k2,I,H⟩
       ·cases I
       ·cases I;exact⟨k2,H⟩
      obtain⟨A,c3,hv,a4⟩:=a0.slice;have hE:=dt (P:=P) (t:=E') (n:=e.cells) (by simp[bP,c5,c1,Y]) w;have a5:(if J.length=0 then A else A.map λx=>x.add (0*e.cells))=A:=by
       cases A with
       |none=>simp
       |some Z =>
        have e0:Z.add 0=Z:=by simp[Addr.add]
        show (if J.length=0 then some Z else some (Z.add (0*e.cells)))=some Z;rw[C6,e0];split <;> rfl
      refine dW (v:=.slice A J.length J.length) (w':=w) ?_ ?_
      ·simp only[execOp,a1,hv,hy,DJ,Ci,c6,b3,Instr.sliceAt,Instr.slice,Cz,run_underlying hu,CV,uu J.length c3 a4 k1 k2 w,hE,Sem.run_pure,Cf,a5]
      ·rw[hd];refine hn _ _ ?_;rw[ck,aO];have b6:∀ z∈[(X,j)],aB st z:=λz hz=>by simp at hz;subst hz;exact⟨_,c2,trivial⟩
       obtain⟨h6,_,_,u⟩:=fD (frz:=[]) (kill:=[(X,j)]) hV hr rfl b6;have e1:aM (ac (aE st []) st) [(X,j)]++aE st []=aM st [(X,j)]:=Bo _;rw[e1]at h6 u;have b1:aW W [(X,j)]=W.bs X j:=by simp[aW]
       rw[b1]at u;obtain⟨b9,a9,b5,M,a6,bn⟩:=a0;refine h6.putOwn hV (w':=w) (BU _) rfl rfl rfl (λ_ _=>rfl) d (b0 d hd).1 (b0 d hd).2 _ (BM _) (bs:=W.bs X j) ?_ (λk hk=>mh ⟨(u k hk).1,(u k hk).2.1,(u k hk).2.2.2.1,(u k hk).2.2.2.2⟩);have bl:∀ k,gd V W p k->gd V (W.frz st []) p k:=bT (W':=W.frz st []) (λh=>h) (λ_ h=>Or.inl h);refine OwH.carry (G:=gd V W p) ⟨b9,a9,b5,⟨M.1,?_⟩,?_,bn⟩ bl (λ_ _=>rfl) (λ_ _=>rfl)
       ·rcases M.2 with ⟨O,I⟩|⟨g,cb,c0,mk,O,I,H,bx,c4,ba⟩
        ·rw[hv]at O;simp only[Bu]at O;exact .inl ⟨by rw[O.1,I],I⟩
        ·rw[hv]at O;simp only[Bu,true_and]at O;exact .inr ⟨g,J.length,c0,mk,by rw[O.1],I,BU _,bx.imp (λh=>⟨h.1,B6 H h.2⟩) id,B6 (BN _ H) c4,ba⟩
       ·rw[a6,hv];cases A <;> rfl
    ·cases h
   ·cases h
  ·cases h
theorem xK (H:ax V)(I:TOk P T)(u:bM V o){t:TypeId}{x:Operand}{J M z:Option Operand}(y:o.op=.slice t x J M z)(h:act Γ T o st κ=some r):bV P V o st κ r:=by
 cases z with
 |none=>exact vp H I u y h
 |some m=>exact vV H I u y h
theorem Ag (Y:ax V)(J:bM V o){c:Call}(z:o.op=.call c)(O:c.callee=.builtin .min)(h:act Γ T o st κ=some r):bV P V o st κ r:=by
 simp only[act,wrU,z,O]at h;split at h
 ·cases h
 ·rename_i d M;simp only[M]at h;split at h
  ·rename_i x y X;split at h
   ·rename_i Z m k2 n hm hn;have u:c.args=#[x,y]:=by rw[<- Br (xs:=c.args),X]
    refine⟨_,h,λW a w I=>aN Y I M J (v:=.int Z (bif decide (n<m) then n else m)) ?_ rfl id rfl⟩;cases H:decide (n<m) <;> simp[execOp,z,O,resolve,invoke,builtin,u,bC I hm,bC I hn,Builtin.min_,Builtin.min2] <;> simp at H <;> omega
   ·cases h
  ·cases h
theorem Ah (Y:ax V)(J:bM V o){c:Call}(z:o.op=.call c)(O:c.callee=.builtin .max)(h:act Γ T o st κ=some r):bV P V o st κ r:=by
 simp only[act,wrU,z,O]at h;split at h
 ·cases h
 ·rename_i d M;simp only[M]at h;split at h
  ·rename_i x y X;split at h
   ·rename_i Z m k2 n hm hn;have u:c.args=#[x,y]:=by rw[<- Br (xs:=c.args),X]
    refine⟨_,h,λW a w I=>aN Y I M J (v:=.int Z (bif decide (m<n) then n else m)) ?_ rfl id rfl⟩;cases H:decide (m<n) <;> simp[execOp,z,O,resolve,invoke,builtin,u,bC I hm,bC I hn,Builtin.max_,Builtin.max2] <;> simp at H <;> omega
   ·cases h
  ·cases h
end
section
variable {P:Program} {V:Env} {W:Wit} {st st':St} {w w':World} {a:Act}
theorem ap.putGhost (hV:ax V)(h:ap P V W st a w)(d:Nat)(hd:GH<=d)(a4:d<B0)(n:Nat)(sh:aG)(ls:List Leaf)
  (R:List Value) (O:Nat->List Nat) (hn:(st d).ver<n) (hl:ls.length=R.length) (h1:∀ u∈R,u.oneCell'=true)
  (a1:∀ (j:Nat) (l:Leaf) (u:Value),ls[j]?=some l->R[j]?=some u->aI P V W st w (O j) l u)
  (Z:∀ (j:Nat) (l:Leaf),ls[j]?=some l->ao l->∀ k∈O j,¬ W.nw k/\¬ V.prot k/\(∀ b,live st b->W.β b≠k) /\
   ∀ (r1 j1:Nat) (l1:Leaf),r1≠d->(st r1).ls[j1]?=some l1->ao l1->k∉W.bs r1 j1)
  (a2:∀ (j j':Nat) (l l':Leaf),ls[j]?=some l->ao l->ls[j']?=some l'->ao l'->∀ k,k∈O j->k∈O j'->j=j') :
  ap P V { W with cs:=λr=>if r=d then R else W.cs r,bs:=λr j=>if r=d then O j else W.bs r j } (ac [(d,⟨n,sh,ls⟩)] st) a w /\
   cE V W { W with cs:=λr=>if r=d then R else W.cs r,bs:=λr j=>if r=d then O j else W.bs r j } st (ac [(d,⟨n,sh,ls⟩)] st) w w:=by
 have M:∀ b,live (ac [(d,⟨n,sh,ls⟩)] st) b<->live st b:=by
  intro b;by_cases X:B0<=b
  ·rw[live,live,aH (by omega)]
  ·simp[live,X]
 have J:cE V W { W with cs:=λr=>if r=d then R else W.cs r,bs:=λr j=>if r=d then O j else W.bs r j } st (ac [(d,⟨n,sh,ls⟩)] st) w w:=by
  refine⟨λq=>?_,λb X=>⟨(M b).2 X,rfl⟩,λ_ h=>h,λ_ _=>rfl,λ_ q j' l' I h4 h5=>?_⟩
  ·rcases ak d q ⟨n,sh,ls⟩ st with ⟨rfl,e⟩|⟨y,e⟩
   ·rw[e];exact⟨Nat.le_of_lt hn,λe=>absurd e (by show n≠_;omega)⟩
   ·rw[e];exact⟨BU _,λ_=>by simp[y]⟩
  ·rcases ak d q ⟨n,sh,ls⟩ st with ⟨rfl,e⟩|⟨y,e⟩
   ·rw[e]at h5;exact absurd h5 (by show n≠_;omega)
   ·rw[e]at I;exact⟨⟨l',I,h4⟩,by simp[y],λ_ _=>rfl⟩
 refine⟨?_,J⟩
 exact {
  nt:=h.nt,df:=h.df
  slots:=λt ht=>by
   have:t≠d:=by omega
   rw[aH this];simpa[this]using h.slots t ht
  boxes:=λb X=>by
   have:b≠d:=by omega
   rw[aH this];simpa[this]using h.boxes b X
  len:=λq=>by
   rcases ak d q ⟨n,sh,ls⟩ st with ⟨rfl,e⟩|⟨y,e⟩
   ·rw[e];simpa using hl
   ·rw[e];simpa[y]using h.len q
  one:=λq u hu=>by
   by_cases hq:q=d
   ·simp only[hq,if_true]at hu;exact h1 u hu
   ·simp only[hq,if_false]at hu;exact h.one q u hu
  leaf:=λq j l u z I=>by
   rcases ak d q ⟨n,sh,ls⟩ st with ⟨rfl,e⟩|⟨y,e⟩
   ·rw[e]at z;simp only[if_true]at I;exact (a1 j l u z I).carry hV.ro J (λ_=>⟨by simp,λ_ _=>rfl⟩)
   ·rw[e]at z;simp only[y,if_false]at I;exact (h.leaf q j l u z I).carry hV.ro J (λ_=>⟨by simp[y],λ_ _=>rfl⟩)
  ownb:=λq j l z I k Y=>by
   rcases ak d q ⟨n,sh,ls⟩ st with ⟨rfl,e⟩|⟨y,e⟩
   ·rw[e]at z;simp only[if_true]at Y;have:=Z j l z I k Y;exact⟨this.1,this.2.1,λb X=>this.2.2.1 b ((M b).1 X)⟩
   ·rw[e]at z;simp only[y,if_false]at Y;have:=h.ownb q j l z I k Y;exact⟨this.1,this.2.1,λb X=>this.2.2 b ((M b).1 X)⟩
  sep:=λq j l q' j' l' z I h4 h5 k Y H=>by
   rcases ak d q ⟨n,sh,ls⟩ st with ⟨e0,e⟩|⟨y,e⟩ <;> rcases ak d q' ⟨n,sh,ls⟩ st with ⟨e1,e'⟩|⟨a0,e'⟩
   ·rw[e]at z;rw[e']at h4;simp only[e0,if_true]at Y;simp only[e1,if_true]at H;exact⟨e0.trans e1.symm,a2 j j' l l' z I h4 h5 k Y H⟩
   ·rw[e]at z;rw[e']at h4;simp only[e0,if_true]at Y;simp only[a0,if_false]at H;exact absurd H ((Z j l z I k Y).2.2.2 q' j' l' a0 h4 h5)
   ·rw[e]at z;rw[e']at h4;simp only[y,if_false]at Y;simp only[e1,if_true]at H;exact absurd Y ((Z j' l' h4 h5 k H).2.2.2 q j l y z I)
   ·rw[e]at z;rw[e']at h4;simp only[y,if_false]at Y;simp only[a0,if_false]at H;exact h.sep q j l q' j' l' z I h4 h5 k Y H
  box:=λb X=>h.box b ((M b).1 X)
  inj:=λb b' X a3=>h.inj b b' ((M b).1 X) ((M b').1 a3)
  nwlt:=h.nwlt
  os:=h.os,tape:=h.tape,output:=h.output,size:=h.size,keep:=h.keep
  fixb:=λx hx=>⟨(M _).2 (h.fixb x hx).1,(h.fixb x hx).2⟩
  fixt:=h.fixt }
theorem gv {off:Nat}:∀ {a:Ty} {pos:Nat} {x:a.den} {u:(E:TypeId)×(e:Ty)×List e.den},bc off a pos x=some u->pos<=off/\off<pos+a.cells
 |.pair a b,pos,x,u,h=>by
  simp only[bc]at h;split at h
  ·rename_i v y;have:=gv y;simp only[Ty.cells];omega
  ·have:=gv h;simp only[Ty.cells];omega
 |.list m E e,pos,z,u,h=>by
  simp only[bc]at h;cases r:m&&BT pos off with
  |false=>simp[r]at h
  |true =>
   simp only[BC]at r;have:=BI r.2;simp only[Ty.cells];omega
 |.int _,_,_,_,h=>by simp[bc]at h
 |.bool,_,_,_,h=>by simp[bc]at h
 |.str,_,_,_,h=>by simp[bc]at h
 |.unit,_,_,_,h=>by simp[bc]at h
 |.hdr,_,_,_,h=>by simp[bc]at h
theorem mY {off:Nat}:∀ {a:Ty} {pos:Nat} {x:a.den} {E:TypeId} {e:Ty} {u:List e.den},bc off a pos x=some ⟨E,e,u⟩->e.shy=true->a.shy=true
 |.pair a b,pos,x,E,e,u,h,r=>by
  simp only[bc]at h;simp only[Ty.shy,DK];split at h
  ·rename_i v z;simp only[BA]at h;subst h;exact .inl (mY z r)
  ·exact .inr (mY h r)
 |.list m I J,pos,H,E,e,u,h,r=>by
  simp only[bc]at h;cases y:m&&BT pos off with
  |false=>simp[y]at h
  |true =>
   rw[y]at h;simp only[cond_true,BA,Sigma.mk.injEq]at h;obtain⟨rfl,h⟩:=h;rw[heq_eq_eq,Sigma.mk.injEq]at h;obtain⟨rfl,_⟩:=h;simp[Ty.shy,r]
 |.int _,_,_,_,_,_,h,_=>by simp[bc]at h
 |.bool,_,_,_,_,_,h,_=>by simp[bc]at h
 |.str,_,_,_,_,_,h,_=>by simp[bc]at h
 |.unit,_,_,_,_,_,h,_=>by simp[bc]at h
 |.hdr,_,_,_,_,_,h,_=>by simp[bc]at h
theorem Mx.hol_out {G:Nat->Prop}{o:Nat}:∀ {a:Ty} {pos:Nat} {x:a.den} {cs:List Value} {bs:List Nat},(o<pos\/pos+a.cells<=o)->(Mx w G a none pos x cs bs<->Mx w G a (some o) pos x cs bs)
 |.int _,_,_,_,_,_=>Cd
 |.bool,_,_,_,_,_=>Cd
 |.str,_,_,_,_,_=>Cd
 |.unit,_,_,_,_,_=>Cd
 |.hdr,_,_,_,_,_=>Cd
 |.pair a b,pos,x,cs,bs,r=>by
  simp only[Ty.cells]at r;constructor
  ·rintro⟨c1,c2,b1,b2,e1,e2,h1,h2⟩;exact⟨c1,c2,b1,b2,e1,e2,(Mx.hol_out (by omega)).1 h1,(Mx.hol_out (by omega)).1 h2⟩
  ·rintro⟨c1,c2,b1,b2,e1,e2,h1,h2⟩;exact⟨c1,c2,b1,b2,e1,e2,(Mx.hol_out (by omega)).2 h1,(Mx.hol_out (by omega)).2 h2⟩
 |.list m E e,pos,u,cs,bs,r=>by
  simp only[Ty.cells]at r;cases m with
  |false=>rw[co,co]
  |true=>rw[bH (by simp),bH (by simp only[ne_eq,BA];omega)]
theorem Mx.out {G:Nat->Prop}{off:Nat}{E:TypeId}{e:Ty}{ys:List e.den}:∀ {a:Ty} {pos:Nat} {x:a.den} {cs:List Value} {bs:List Nat},Mx w G a none pos x cs bs->bc off a pos x=some ⟨E,e,ys⟩ ->
  ∃ v z y,OwB w G none E e ys v z/\cs[off-pos]?=some v/\Mx w G a (some off) pos x cs y/\∀ k,bs.count k=y.count k+z.count k
 |.pair a b,pos,x,cs,bs,⟨c1,c2,b1,b2,J,e2,Z,h2⟩,h=>by
  have hl:=Z.len;simp only[bc]at h;split at h
  ·rename_i u M;simp only[BA]at h;subst h;have Y:=gv M;obtain⟨v,z,y,X,O,g3,R⟩:=Mx.out Z M;refine⟨v,z,y++b2,X,?_,⟨c1,c2,y,b2,J,rfl,g3,(Mx.hol_out (by omega)).1 h2⟩,λk=>?_⟩
   ·rw[J,BH (by omega)];exact O
   ·rw[e2,BF,BF,R k];omega
  ·rename_i M;have Y:=gv h;obtain⟨v,z,y,X,O,g3,R⟩:=Mx.out h2 h;refine⟨v,z,b1++y,X,?_,⟨c1,c2,b1,y,J,rfl,(Mx.hol_out (by omega)).1 Z,g3⟩,λk=>?_⟩
   ·rw[J,BG (by omega),hl,show off-pos-a.cells=off-(pos+a.cells) by omega];exact O
   ·rw[e2,BF,BF,R k];omega
 |.list m E' e',pos,xs,cs,bs,H,h=>by
  simp only[bc]at h;cases r:m&&BT pos off with
  |false=>simp[r]at h
  |true =>
   rw[r]at h;simp only[cond_true,BA,Sigma.mk.injEq]at h;obtain⟨rfl,h⟩:=h;simp only[BC]at r;obtain⟨rfl,r⟩:=r;have r:=BI r;subst r;rw[heq_eq_eq,Sigma.mk.injEq]at h;obtain⟨rfl,h⟩:=h;rw[heq_eq_eq]at h;subst h;have I:=H.one;rw[bH (by simp)]at H;obtain⟨v,rfl,hO⟩:=H;exact⟨v,bs,[],hO,by simp,iY.2 ⟨v,rfl,I v (by simp),rfl⟩,λk=>by simp⟩
 |.int _,_,_,_,_,_,h=>by simp[bc]at h
 |.bool,_,_,_,_,_,h=>by simp[bc]at h
 |.str,_,_,_,_,_,h=>by simp[bc]at h
 |.unit,_,_,_,_,_,h=>by simp[bc]at h
 |.hdr,_,_,_,_,_,h=>by simp[bc]at h
theorem Mx.back {G:Nat->Prop}{off:Nat}{E:TypeId}{e:Ty}{X:List e.den}{v:Value}{bn:List Nat}(Y:OwB w G none E e X v bn):∀ {a:Ty} {pos:Nat} {x z:a.den} {cs:List Value} {I:List Nat},Mx w G a (some off) pos x cs I->bL off E e X a pos x=some z ->
  cs[off-pos]?=some v->∃ R,Mx w G a none pos z cs R/\∀ k,R.count k=I.count k+bn.count k
 |.pair a b,pos,x,z,cs,R,⟨c1,c2,b1,b2,M,e2,O,h2⟩,h,J=>by
  have hl:=O.len;simp only[bL]at h;split at h
  ·rename_i u y;simp only[BA]at h;subst h;have a0:=set_in y;obtain⟨I,g1,Z⟩:=Mx.back Y O y (by rw[M,BH (by omega)]at J;exact J);refine⟨I++b2,⟨c1,c2,I,b2,M,rfl,g1,(Mx.hol_out (by omega)).2 h2⟩,λk=>?_⟩;rw[e2,BF,BF,Z k];omega
  ·rename_i y;simp only[BB]at h;obtain⟨u,y,rfl⟩:=h;have a0:=set_in y;obtain⟨I,g1,Z⟩:=Mx.back Y h2 y (by
    rw[M,BG (by omega),hl]at J;rw[show off-(pos+a.cells)=off-pos-a.cells by omega];exact J)
   refine⟨b1++I,⟨c1,c2,b1,I,M,rfl,(Mx.hol_out (by omega)).2 O,g1⟩,λk=>?_⟩;rw[e2,BF,BF,Z k];omega
 |.list m E' e',pos,xs,z,cs,R,H,h,J=>by
  simp only[bL]at h;cases r:m&&BT pos off with
  |false=>simp[r]at h
  |true =>
   rw[r]at h;simp only[cond_true]at h;obtain⟨rfl,rfl,rfl⟩:=jE h;simp only[BC]at r;obtain⟨rfl,r⟩:=r;have r:=BI r;subst r;rw[iY]at H;obtain⟨v',rfl,O,rfl⟩:=H;simp only[Nat.sub_self,CI,BA]at J;subst J;exact⟨bn,(bH (by simp)).2 ⟨v',rfl,Y⟩,λk=>by simp⟩
 |.int _,_,_,_,_,_,_,h,_=>by simp[bL]at h
 |.bool,_,_,_,_,_,_,h,_=>by simp[bL]at h
 |.str,_,_,_,_,_,_,h,_=>by simp[bL]at h
 |.unit,_,_,_,_,_,_,h,_=>by simp[bL]at h
 |.hdr,_,_,_,_,_,_,h,_=>by simp[bL]at h
where
 set_in {off:Nat} {E:TypeId} {e:Ty} {X:List e.den}:∀ {a:Ty} {pos:Nat} {x z:a.den},bL off E e X a pos x=some z->pos<=off/\off<pos+a.cells
  |.pair a b,pos,x,z,h=>by
   simp only[bL]at h;split at h
   ·rename_i u y;have:=set_in y;simp only[Ty.cells];omega
   ·simp only[BB]at h;obtain⟨u,y,_⟩:=h;have:=set_in y;simp only[Ty.cells];omega
  |.list m E' e',pos,xs,z,h=>by
   simp only[bL]at h;cases r:m&&BT pos off with
   |false=>simp[r]at h
   |true =>
    simp only[BC]at r;have:=BI r.2;simp only[Ty.cells];omega
  |.int _,_,_,_,h=>by simp[bL]at h
  |.bool,_,_,_,h=>by simp[bL]at h
  |.str,_,_,_,h=>by simp[bL]at h
  |.unit,_,_,_,h=>by simp[bL]at h
  |.hdr,_,_,_,h=>by simp[bL]at h
end
section
variable {P:Program} {V:Env} {W W' W2:Wit} {st st' st2:St} {w w' w2:World} {a:Act}
theorem cE.trans (h:cE V W W' st st' w w')(u:cE V W' W2 st' st2 w' w2):cE V W W2 st st2 w w2:=by
 refine⟨λr=>⟨B6 (h.ver r).1 (u.ver r).1,λe=>?_⟩,λb O=>?_,λk y=>u.nw k (h.nw k y),λk y=>?_,λhe r j l z H I=>?_⟩
 ·have z:=(h.ver r).1;have H:=(u.ver r).1;rw[(u.ver r).2 (by omega),(h.ver r).2 (by omega)]
 ·obtain⟨z,H⟩:=h.box b O;obtain⟨I,h6⟩:=u.box b z;exact⟨I,h6.trans H⟩
 ·rw[u.heap k (y.imp (h.nw k) id),h.heap k y]
 ·have e1:=(h.ver EPO).1;have e2:=(u.ver EPO).1;have e3:=(h.ver r).1;have e4:=(u.ver r).1;obtain⟨⟨l',Z,M⟩,X,R⟩:=u.epo (by omega) r j l z H (by omega);obtain⟨g5,J,Y⟩:=h.epo (by omega) r j l' Z M (by omega);exact⟨g5,X.trans J,λk y=>(R k (by rw[J];exact y)).trans (Y k y)⟩
theorem qC {n i:Nat}(H:i<n)(r:Nat->List Nat)(b y:List Nat)(z:∀ k,(r i).count k=b.count k+y.count k)(u:List Nat)(k:Nat) :
  (u++(BO n).flatMap r).count k=(u++(BO n).flatMap λj=>if j=i then b else r j).count k+y.count k:=by
 have:=kn H r b k;have:=z k;rw[BF,BF];omega
theorem OwH.out {G:Nat->Prop}{E E1:TypeId}{e e1:Ty}{xs:List e.den}{v:Value}{bs:List Nat}{i off:Nat}{y:e.den}{ys:List e1.den}(H:Ow w G E e xs v bs)(hy:xs[i]?=some y)(hg:bc off e 0 y=some ⟨E1,e1,ys⟩) :
  ∃ u R O,OwH w G (some (i,off)) E e xs v O/\Ow w G E1 e1 ys u R/\(∀ g Y,v=.slice (some ⟨g,0,none⟩) xs.length Y->w.cell? ⟨g,i*e.cells+off,none⟩=some u)/\∀ k,bs.count k=O.count k+R.count k:=by
 obtain⟨a0,M,J,h1,h2,h3⟩:=H;have X:i<xs.length:=(BD.1 hy).1;obtain⟨c,hm,hc⟩:=h3 i y hy;have hm:Mx w G e none 0 y c (J i):=hm;obtain⟨u,R,b',g1,g2,g3,g4⟩:=hm.out hg;have r:=qC X J b' R g4 v.ownBlock.toList;rw[<- h2]at r;have z:=bq.1 a0;refine⟨u,R,v.ownBlock.toList++(BO xs.length).flatMap λj=>if j=i then b' else J j,⟨bq.2 λk=>by have:=z k;have:=r k;omega,M,_,h1,rfl,λj x Z=>?_⟩,
  ⟨bq.2 λk=>by have:=z k;have:=r k;omega,g1⟩,λg Y hv=>?_,r⟩
 ·by_cases I:j=i
  ·subst I;rw[hy]at Z;simp only[BA]at Z;subst Z;refine⟨c,?_,hc⟩;simp only[cP,Nat.beq_refl,cond_true,if_true];exact g3
  ·obtain⟨c',h4,h5⟩:=h3 j x Z;refine⟨c',?_,h5⟩;have:BT i j=false:=by
    cases hb:BT i j with
    |false=>rfl
    |true=>exact absurd (BI hb).symm I
   simp only[cP,this,cond_false,if_neg I];exact h4
 ·subst hv;have a2:=gv hg;have a1:i*e.cells+off<xs.length*e.cells:=by
   have:=BN e.cells (show i+1<=xs.length from X);rw[CW,Nat.one_mul]at this;omega
  rw[h1.cellAt _ a1];exact hc off u (by simpa using g2)
theorem OwH.back {G:Nat->Prop}{E E1:TypeId}{e e1:Ty}{xs:List e.den}{v u:Value}{bs bn:List Nat}{i off:Nat}{y z:e.den}{ys:List e1.den}(H:OwH w G (some (i,off)) E e xs v bs)(hn:Ow w G E1 e1 ys u bn)
  (hd:∀ k∈bn,k∉bs) (hy:xs[i]?=some y) (hs:bL off E1 e1 ys e 0 y=some z) (I:∀ g M,v=.slice (some ⟨g,0,none⟩) xs.length M->w.cell? ⟨g,i*e.cells+off,none⟩=some u) :
  ∃ a1,Ow w G E e (xs.set i z) v a1/\∀ k,a1.count k=bs.count k+bn.count k:=by
 obtain⟨a3,a0,X,h1,h2,h3⟩:=H;have a2:i<xs.length:=(BD.1 hy).1;obtain⟨c,hm,hc⟩:=h3 i y hy;have Z:cP (some (i,off)) i=some off:=by simp[cP]
 rw[Z]at hm;have a6:=Mx.back.set_in hs;have a9:=hm.len;have J:c[off-0]?=some u:=by
  rcases h1.2 with ⟨rfl,h0⟩|⟨g,M,a5,_,rfl,_⟩
  ·omega
  ·have O:=I g M rfl;have a4:i*e.cells+off<xs.length*e.cells:=by
    have:=BN e.cells (show i+1<=xs.length from a2);rw[CW,Nat.one_mul]at this;omega
   rw[h1.cellAt _ a4]at O;have R:off<c.length:=by omega
   have h6:=hc off _ (BS R);rw[O]at h6;rw[Cf,BS R,h6]
 obtain⟨b1,g1,g2⟩:=Mx.back hn.2 hm hs J;have r:∀ k,(v.ownBlock.toList++(BO xs.length).flatMap λj=>if j=i then b1 else X j).count k=bs.count k+bn.count k:=by
  intro k;have O:=kn a2 X b1 k;have R:=g2 k;rw[h2,BF,BF];omega
 refine⟨_,⟨(mX a3 hn.1 hd (λk=>Cb (r k))).1,a0,_,by rw[CA];exact h1,by rw[CA],λj x hj=>?_⟩,r⟩;rcases aQ _ _ _ _ _ hj with ⟨rfl,rfl,_⟩|⟨Y,hj⟩
 ·refine⟨c,?_,hc⟩;simp only[if_true];exact g1
 ·obtain⟨c',O,R⟩:=h3 j x hj;refine⟨c',?_,R⟩;have:BT i j=false:=by
   cases hb:BT i j with
   |false=>rfl
   |true=>exact absurd (BI hb).symm Y
  have e0:cP (some (i,off)) j=none:=by simp[cP,this]
  rw[e0]at O;simp only[if_neg Y];exact O
theorem iT:GH<=TMP/\TMP<B0/\TMP≠EPO:=by decide
def tq (W:Wit)(S:St)(w:World)(r j:Nat)(v:Value):Prop :=
 r≠TMP/\r≠EPO/\∃ (i off:Nat) (p:Bool) (E:TypeId) (e:Ty) (y:List e.den) (g u:Nat),(S r).ls[j]?=some (.own p (some (i,off)) E e y)/\(W.cs r)[j]?=some (.slice (some ⟨g,0,none⟩) y.length u) /\
  g∈W.bs r j/\w.cell? ⟨g,i*e.cells+off,none⟩=some v
theorem uW (hV:ax V)(h:ap P V W st a w){l l':Leaf}{U:Upd}{v:Value}(Z:aI P V W st w [] l v)(I:cl st l=some (U,l')) :
  ∃ W0 n p0 E0 e0 bx,ap P V W0 (ac U st) a w/\cE V W W0 st (ac U st) w w/\l'=.al TMP 0 n/\aI P V W0 (ac U st) w [] l' v/\(ac U st TMP).ver=n/\(ac U st TMP).ls=[.own p0 none E0 e0 bx] /\
   W0.nw=W.nw/\W0.β=W.β/\(∀ q,q≠TMP->W0.cs q=W.cs q)/\W0.cs TMP=[v]/\(∀ q,(ac U st q).sh=(st q).sh\/q=TMP)/\tq W0 (ac U st) w (j0 l).1 (j0 l).2 v:=by
 cases l with
 |nal p ks ep cc E e xs =>
  simp only[cl]at I;cases ad:bj st ks ep with
  |false=>simp[ad]at I
  |true =>
   rw[ad]at I;simp only[cond_true]at I;split at I
   ·rename_i r j n0 i sz off;split at I
    ·rename_i M R J z hg;cases hb:!BT r TMP&&!BT r EPO&&BT sz J.cells with
     |false=>simp[hb]at I
     |true =>
      rw[hb]at I;simp only[cond_true]at I;simp only[BC,BY]at hb;obtain⟨⟨c5,c2⟩,a6⟩:=hb;have a6:=BI a6;subst a6;have X:r≠TMP:=λe=>by subst e;simp at c5
      have b3:r≠EPO:=λe=>by subst e;simp at c2
      split at I
      ·rename_i y hy;split at I
       ·rename_i E1 e1 ys b6;simp only[BA,By]at I;obtain⟨rfl,rfl⟩:=I;have b4:=pu ad Z;obtain⟨r',j',n',b2,g,bb,b5,b1,cp,cw,O⟩:=b4.at_ i _ off rfl;simp only[CR,By,and_true]at b2;obtain⟨rfl,rfl,rfl⟩:=b2;have a3:(st r).ls[j]?=some (.own M none R J z):=by
         rw[B3]at hg;cases H:(st r).ls[j]? with
         |none=>rw[H]at hg;simp at hg
         |some l0=>rw[H]at hg;simp at hg;rw[hg]
        have a0:=h.leaf r j _ _ a3 b1;have a0:Ow w (gd V W M) R J z _ (W.bs r j):=a0;have ba:bb=z.length:=by
         obtain⟨A,c6,e0,_⟩:=a0.slice;simp only[Bu]at e0;exact e0.2.1
        subst ba;obtain⟨u,bn,bs',g1,g2,g3,g4⟩:=a0.out hy b6;have hu:u=v:=by
         have:=g3 g b5 rfl;rw[this]at O;exact Option.some.inj O
        subst hu;have c0:=bq.1 a0.1;have b9:∀ k∈bs',k∈W.bs r j:=λk hk=>BK.1 (by have:=g4 k;have:=BK.2 hk;omega)
        have a1:∀ k∈bn,k∈W.bs r j/\k∉bs':=λk hk=>by
         have h5:=g4 k;have h6:=BK.2 hk;have h7:=c0 k;refine⟨BK.1 (by omega),λbl=>?_⟩;have:=BK.2 bl;omega
        have a2:∀ k∈W.bs r j,uV V W st r j k:=λk hk=>by
         have h9:=h.ownb r j _ a3 trivial k hk;exact⟨h9.1,h9.2.1,h9.2.2,λr1 i1 l1 b0 a5 a9 Y=>a9 (by obtain⟨e1,e2⟩:=h.sep r1 i1 l1 r j _ b0 a5 a3 trivial k Y hk;rw[e1,e2])⟩
        have hR:xG st (ac [(r,⟨(st r).ver,(st r).sh,aS (st r).ls j (.own M (some (i,off)) R J z)⟩)] (ac [(EPO,bU (st EPO))] st)) r j (.own M (some (i,off)) R J z):=by
         refine⟨λq=>?_,λq=>?_,?_,λq=>?_,λl Z=>?_,λq i' l H Z=>?_⟩
         ·rcases ak r q ⟨(st r).ver,(st r).sh,aS (st r).ls j (.own M (some (i,off)) R J z)⟩ (ac [(EPO,bU (st EPO))] st) with ⟨rfl,e⟩|⟨_,e⟩
          ·rw[e]
          ·rw[e];rcases ak EPO q (bU (st EPO)) st with ⟨rfl,e⟩|⟨_,e⟩ <;> rw[e];rfl
         ·rcases ak r q ⟨(st r).ver,(st r).sh,aS (st r).ls j (.own M (some (i,off)) R J z)⟩ (ac [(EPO,bU (st EPO))] st) with ⟨rfl,e⟩|⟨_,e⟩
          ·rw[e];exact BU _
          ·rw[e];rcases ak EPO q (bU (st EPO)) st with ⟨rfl,e⟩|⟨_,e⟩ <;> rw[e]
           ·exact DD _
           ·exact BU _
         ·rw[aH (CE b3),bg];exact BM _
         ·rcases ak r q ⟨(st r).ver,(st r).sh,aS (st r).ls j (.own M (some (i,off)) R J z)⟩ (ac [(EPO,bU (st EPO))] st) with ⟨rfl,e⟩|⟨_,e⟩
          ·rw[e];simp[aS]
          ·rw[e];rcases ak EPO q (bU (st EPO)) st with ⟨rfl,e⟩|⟨_,e⟩ <;> rw[e];rfl
         ·rw[bg]at Z;rcases aQ _ _ _ _ _ Z with ⟨_,rfl,_⟩|⟨a9,_⟩
          ·rfl
          ·exact absurd rfl a9
         ·rcases ak r q ⟨(st r).ver,(st r).sh,aS (st r).ls j (.own M (some (i,off)) R J z)⟩ (ac [(EPO,bU (st EPO))] st) with ⟨rfl,e⟩|⟨_,e⟩
          ·rw[e]at Z;rcases aQ _ _ _ _ _ Z with ⟨rfl,_,_⟩|⟨_,Z⟩
           ·exact absurd rfl H
           ·exact Z
          ·rw[e]at Z;rcases ak EPO q (bU (st EPO)) st with ⟨rfl,e⟩|⟨_,e⟩ <;> rw[e]at Z <;> exact Z
        have h1:=h.retell hV hR a3 trivial b1 trivial (bs':=bs') g1 (λk hk=>a2 k (b9 k hk)) (λ_ _ _=>rfl) (BU _) rfl rfl rfl;have c3:cE V W (W.tell r j bs') st (ac [(r,⟨(st r).ver,(st r).sh,aS (st r).ls j (.own M (some (i,off)) R J z)⟩)] (ac [(EPO,bU (st EPO))] st)) w w :=
         ⟨λq=>⟨hR.ver q,λ_=>rfl⟩,λb hb=>⟨(iz hR.sh b).2 hb,rfl⟩,λ_ h=>h,λ_ _=>rfl,λhe=>by have:=hR.epo;omega⟩
        have c4:(ac [(r,⟨(st r).ver,(st r).sh,aS (st r).ls j (.own M (some (i,off)) R J z)⟩)] (ac [(EPO,bU (st EPO))] st) TMP).ver=(st TMP).ver:=by
         rw[aH (CE X),aH iT.2.2]
        obtain⟨h2,c1⟩:=h1.putGhost hV TMP iT.1 iT.2.1 ((st TMP).ver+1) .one [.own (M&&J.shy) none E1 e1 ys] [u] (λ_=>bn) (by rw[c4];exact BM _) rfl (λx hx=>by simp at hx;subst hx;exact g2.one)
         (λq l x H hx=>by
          cases q with
          |zero=>simp at H hx;subst H;subst hx;exact⟨g2.1,(OwB.shy g2.2).carry (bT (W':=W) (by intro hh;simp only[BC]at hh ⊢;exact⟨hh.1,mY b6 hh.2⟩) (λ_ h=>h)) (λ_ _=>rfl) (λ_ _=>rfl)⟩
          |succ q=>simp at H)
         (λq l H _ k hk=>by
          obtain⟨q1,q2,q3,q4⟩:=a2 k (a1 k hk).1;refine⟨q1,q2,λb hb=>q3 b ((iz hR.sh b).1 hb),λr1 i1 l1 _ b0 a5 Y=>?_⟩;by_cases H:(r1,i1)=(r,j)
          ·cases H;rw[show (W.tell r j bs').bs r j=bs' from if_pos rfl]at Y;exact (a1 k hk).2 Y
          ·rw[show (W.tell r j bs').bs r1 i1=W.bs r1 i1 from if_neg H]at Y;exact q4 r1 i1 l1 (hR.old r1 i1 l1 H b0) a5 H Y)
         (λq q' l l2 h1 h2 h3 h4 k h5 h6=>by
          have h7:q<1:=(BD.1 h1).1;have h8:q'<1:=(BD.1 h3).1;omega)
        have a4:ac [(r,⟨(st r).ver,(st r).sh,aS (st r).ls j (.own M (some (i,off)) R J z)⟩),(TMP,⟨(st TMP).ver+1,.one,[.own (M&&J.shy) none E1 e1 ys]⟩),(EPO,bU (st EPO))] st =
          ac [(TMP,⟨(st TMP).ver+1,.one,[.own (M&&J.shy) none E1 e1 ys]⟩)] (ac [(r,⟨(st r).ver,(st r).sh,aS (st r).ls j (.own M (some (i,off)) R J z)⟩)] (ac [(EPO,bU (st EPO))] st)):=by
         rw[aO r,aO TMP,mV X]
        rw[a4];refine⟨_,_,_,_,_,_,h2,c3.trans c1,rfl,⟨by rw[bg];exact BU _,λ_=>by simp⟩,by rw[bg],by rw[bg],rfl,rfl,λq H=>by simp[H,Wit.tell],by simp,λq=>?_,X,b3,i,off,M,R,J,z,g,b5,?_,?_,?_,O⟩
        ·by_cases H:q=TMP
         ·exact .inr H
         ·rw[aH H];exact .inl (hR.sh q)
        ·show (ac [(TMP,_)] _ r).ls[j]?=_;rw[aH X,bg];simp only[aS];rw[CL (BD.1 a3).1]
        ·show (if r=TMP then _ else W.cs r)[j]?=_;rw[if_neg X];exact b1
        ·show g∈(if r=TMP then _ else (W.tell r j bs').bs r j);rw[if_neg X,show (W.tell r j bs').bs r j=bs' from if_pos rfl];obtain⟨_,cb,cu,_,q2,_⟩:=g1;rw[q2];simp[Bq]
       ·cases I
      ·cases I
    ·cases I
   ·cases I
 |_=>simp[cl]at I
theorem gX {R:Type}(l:Leaf)(I:Upd->Leaf->Option R):lH st l I=(cl st l).bind λu=>I u.1 u.2:=by
 cases l with
 |nal p X ep O E e Z =>
  simp only[lH,cl];cases bj st X ep with
  |false=>rfl
  |true =>
   simp only[cond_true];split
   ·rename_i r j n i M off;split
    ·rename_i Y E' J z _;cases !BT r TMP&&!BT r EPO&&BT M J.cells with
     |false=>rfl
     |true =>
      simp only[cond_true];have H:idx z (i:Int)=z[i]?:=by
       unfold idx;rw[if_neg (by omega)];simp
      rw[H];cases z[i]? with
      |none=>rfl
      |some y =>
       simp only[Option.bind_some];cases bc off J 0 y with
       |none=>rfl
       |some u=>rfl
    ·rfl
   ·rfl
 |_=>rfl
end
theorem rm {w:World}{α:Type}{s g:Nat}:∀ (M:List α) (o:Nat) (Q:Nat->α->List Value->Prop),(∀ j x c,Q j x c->c.length=s/\∀ u∈c,u.oneCell'=true)->(∀ (j:Nat) (x:α),M[j]?=some x->∃ c,Q j x c/\cU w g (o+j*s) c) ->
  ∃ r:List Value,r.length=M.length*s/\(∀ j u,r[j]?=some u->w.cell? ⟨g,o+j,none⟩=some u)/\(∀ u∈r,u.oneCell'=true) /\
   ∀ (j:Nat) (x:α),M[j]?=some x->∃ c,Q j x c/\∀ i u,c[i]?=some u->r[j*s+i]?=some u
 |[],o,_,_,_=>⟨[],by simp,by simp,by simp,by simp⟩
 |y::M,o,Q,hQ,h=>by
  obtain⟨c,hr,hc⟩:=h 0 y rfl;obtain⟨r,h1,h2,h3,h4⟩:=rm M (o+s) (λj=>Q (j+1)) (λj=>hQ (j+1)) (λj x z=>by
   obtain⟨R,I,H⟩:=h (j+1) x (by simpa using z);refine⟨R,I,?_⟩;rw[Bx]at H;have:o+s+j*s=o+(j*s+s):=by omega
   rw[this];exact H)
  obtain⟨X,Y⟩:=hQ 0 y c hr;refine⟨c++r,by rw[BR,h1,X,Ca,Bx];omega,?_,?_,?_⟩
  ·intro j u z;by_cases a0:j<c.length
   ·rw[BH a0]at z;have:=hc j u z
    rwa [C6,B4]at this
   ·rw[BG (by omega)]at z;have:=h2 (j-c.length) u z;have e1:o+s+(j-c.length)=o+j:=by omega
    rwa [e1]at this
  ·intro u J;rcases BL.1 J with J|J
   ·exact Y u J
   ·exact h3 u J
  ·intro j x z;cases j with
   |zero =>
    simp at z;subst z;refine⟨c,hr,λi u O=>?_⟩;have Z:=(BD.1 O).1;rw[C6,CF,BH Z];exact O
   |succ j =>
    obtain⟨R,I,H⟩:=h4 j x (by simpa using z);refine⟨R,I,λi u O=>?_⟩;rw[Bx,BG (by omega)];rw[<- H i u O];congr 1;omega
theorem jM {P:Program}(g o:Nat)(t:TypeId)(mk:Nat×Nat):∀ (z:List Value) (i:Nat) (cur:Array Value) (w:World),w.heap[g]?=some (.cells cur t mk)->(mk.2=0\/cur.size<=mk.1)->o+i+z.length<=cur.size->(∀ v∈z,v.oneCell'=true) ->
  (storeCells ⟨g,o,none⟩ z i).run P w=.ok () (w.setRow g (cur.toList.take (o+i)++z++cur.toList.drop (o+i+z.length)).toArray)
 |[],i,cur,w,u,_,_,_=>by
  simp only[storeCells,Bo,CP,B4,List.take_append_drop,Br];rw[setRow_self w g cur t mk u];rfl
 |v::r,i,cur,w,u,M,I,O=>by
  have J:o+i<cur.size:=by simp at I;omega
  have y:(⟨g,o,none⟩:Addr).add i=⟨g,o+i,none⟩:=by unfold Addr.add;split <;> simp_all
  have H:(store ((⟨g,o,none⟩:Addr).add i) v).run P w=.ok () (w.setRow g (cur.setIfInBounds (o+i) v)):=by
   rw[y,run_store P w _ v _ (O v (by simp)),cell_of_row w g _ cur t mk u,Array.getElem?_eq_getElem J];simp[qQ u M J,setCell_eq_setRow w g (o+i) cur t mk v u]
  have X:=jM (P:=P) g o t mk r (i+1) (cur.setIfInBounds (o+i) v) (w.setRow g (cur.setIfInBounds (o+i) v)) (setRow_heap w g cur _ t _ u) (by simpa using M) (by simp at I ⊢;omega) (λx R=>O x (by simp[R]));simp only[storeCells,Cz,H,CV,X,setRow_setRow];congr 3;have e:=list_seg_step cur.toList (o+i) v r (by simp at I ⊢;omega);simpa[Array.toList_setIfInBounds,DQ]using e
theorem mZ {P:Program}(w:World)(t ty e:TypeId)(i:TypeInfo)(Y:P.underlying t=some (.slice e))(O:P.info? e=some i)
  (g y z:Nat) (cur:Array Value) (mk:Nat×Nat) (hg:w.heap[g]?=some (.cells cur e mk)) (Z:mk.2=0\/cur.size<=mk.1)
  (a:Addr) (m c:Nat) (r:List Value) (R:r.length=m*i.size) (I:∀ j u,r[j]?=some u->w.cell? (a.add j)=some u) (h1:∀ u∈r,u.oneCell'=true)
  (H:y+m<=z) (M:y*i.size+r.length<=cur.size) :
  (Bw #[t,t] ty #[.slice (some ⟨g,0,none⟩) y z,.slice (some a) m c]).run P w =
   .ok (.slice (some ⟨g,0,none⟩) (y+m) z) (w.setRow g (cur.toList.take (y*i.size)++r++cur.toList.drop (y*i.size+r.length)).toArray):=by
 have X:=run_firstCells_some (P:=P) w i.size m a m c r R I;have J:=jM (P:=P) g (y*i.size) e mk r 0 cur w hg Z (by simpa using M) h1;simp only[B4]at J;simp[Bw,run_underlying Y,sizeOf,typeInfo,O,CY,H,X,Addr.add_lit,J]
theorem cf {P:Program}(w:World)(t ty e:TypeId)(i:TypeInfo)(z:Value)(size Z:Nat)(ht:P.underlying t=some (.slice e))(hi:P.info? e=some i)(hz:i.zero=some z)
  (a4:i.size=size) (b3:i.bytes=Z) (b4:z.cells.size=size)
  (v:Value) (n:Nat) (xs:List Value) (y:Row w e size v n xs)
  (a:Addr) (m c:Nat) (r:List Value) (hl:r.length=m*size) (J:∀ j u,r[j]?=some u->w.cell? (a.add j)=some u) (h1:∀ u∈r,u.oneCell'=true)
  (a9:n+m<=maxLen) (M:(n+m)*Z<=140737488355328) :
  ∃ v' w',(Bw #[t,t] ty #[v,.slice (some a) m c]).run P w=.ok v' w'/\Row w' e size v' (n+m) (xs++r)/\w.grownBy w' v.ownBlock/\(v'.ownBlock=v.ownBlock\/v'.ownBlock=some w.heap.size):=by
 subst a4;subst b3;have b1:n+m<=9223372036854775807:=by simp only[maxLen]at a9;omega
 have O:(xs++r).length=(n+m)*i.size:=by rw[BR,y.1,hl,CW]
 have a0:∀ (H:Nat),H<n+m->∀ (a6:Option Nat),
   Row (w.drew.alloc (.cells (xs.toArray++r.toArray++C7 z.cells (grownCap w (n+m) H e-(n+m))) e)) e i.size
    (.slice (some ⟨w.heap.size,0,none⟩) (n+m) (grownCap w (n+m) H e)) (n+m) (xs++r) /\
   w.grownBy (w.drew.alloc (.cells (xs.toArray++r.toArray++C7 z.cells (grownCap w (n+m) H e-(n+m))) e)) a6:=by
  intro H ho a6;have b2:=grownCap_ge w (n+m) H e;have a1:grownCap w (n+m) H e<=maxLen:=grownCap_le_maxLen w (n+m) H e a9;refine⟨⟨O,.inr ⟨w.heap.size,_,_,_,rfl,heap_alloc_new w.drew _,b2,.inl ⟨rfl,a1⟩,?_,?_⟩⟩,⟨rfl,rfl,rfl,by simp,λk hk _=>Go.heap_alloc_old w.drew _ hk⟩⟩
  ·simp only[C0,CK,size_zeroCells,b4,y.1,hl,<- CW];exact BN _ (by omega)
  ·simp only[Cs,BQ];rw[<- BQ,<- O];exact DO
 rcases y.2 with ⟨rfl,rfl⟩|⟨g,Y,X,mk,rfl,hg,b5,a1,ad,a5⟩
 ·have hx:xs=[]:=BV (by simpa using y.1);subst hx;by_cases hm:m=0
  ·subst hm;have hn:r=[]:=BV (by simpa using hl);subst hn;refine⟨.slice none 0 0,w,?_,Row.nil w e i.size,⟨rfl,rfl,rfl,BU _,λ_ _ _=>rfl⟩,.inl rfl⟩;simp[Bw,run_underlying ht,sizeOf,typeInfo,hi,CY,CU,loadCells,loadCellsFrom]
  ·have hr:=run_append_nil (P:=P) w t ty e i z ht hi hz a m c r hl J (by omega) (by omega) (by have hb:=M;simp only[CF]at hb;omega);have R:=a0 0 (by omega) (Bq (.slice none 0 0));simp only[CF,DL,Array.empty_append]at R ⊢;exact⟨_,_,hr,R.1,R.2,.inr rfl⟩
 ·by_cases I:n+m<=Y
  ·have b0:n*i.size+r.length<=X.size:=by rw[hl,<- CW];exact B6 (BN _ I) ad
   have hr:=mZ (P:=P) w t ty e i ht hi g n Y X mk hg (zh a1) a m c r hl J h1 I b0;have a2:(X.toList.take (n*i.size)++r++X.toList.drop (n*i.size+r.length)).toArray.size=X.size:=by
    simp only[CK,BR,Bp,CZ,Bv];omega
   refine⟨_,_,hr,⟨O,.inr ⟨g,Y,_,mk,rfl,setRow_heap w g X _ e _ hg,I,a1.imp id (λh=>⟨h.1,?_⟩),?_,?_⟩⟩,⟨rfl,rfl,rfl,by simp,λk _ hk=>setRow_other w g k _ (λe=>hk (by simp[Bq,e]))⟩,.inl rfl⟩
   ·rw[a2];exact h.2
   ·rw[a2];exact ad
   ·rw[a5,<- O];exact DO
  ·have a3:∀ j u,xs[j]?=some u->w.cell? ((⟨g,0,none⟩:Addr).add j)=some u:=λj u hj=>by
    rw[eT,CF,y.cellAt _ (by rw[<- y.1];exact (BD.1 hj).1)];exact hj
   have hr:=run_append_grow (P:=P) w t ty e i z ht hi hz ⟨g,0,none⟩ n Y xs y.1 a3 a m c r hl J (by omega) (by omega) (growslice_fits (by omega) M);have R:=a0 Y (by omega) (Bq (.slice (some ⟨g,0,none⟩) n Y));exact⟨_,_,hr,R.1,R.2,.inr rfl⟩
theorem m7 {P:Program}(w:World)(t ty e:TypeId)(i:TypeInfo)(size c:Nat)(z:P.underlying t=some (.slice e))(y:P.info? e=some i)
  (v:Value) (n:Nat) (xs:List Value) (r:Row w e size v n xs) :
  (Bw #[t,t] ty #[v,.slice none 0 c]).run P w=.ok v w:=by
 rcases r.2 with ⟨rfl,rfl⟩|⟨g,I,H,_,rfl,_,u,_⟩
 ·simp[Bw,run_underlying z,sizeOf,typeInfo,y,CY,CU]
 ·simp[Bw,run_underlying z,sizeOf,typeInfo,y,CY,CU,u,storeCells]
theorem jc {α:Type}{f g:α->List Nat}:∀ {l:List α},(∀ x∈l,f x=g x)->l.flatMap f=l.flatMap g
 |[],_=>rfl
 |x::l,h=>by rw[CC,CC,h x (BW ..),jc (λy r=>h y (BP _ r))]
theorem yP (n m:Nat)(f g:Nat->List Nat):(BO (n+m)).flatMap (λj=>if j<n then f j else g (j-n))=(BO n).flatMap f++(BO m).flatMap g:=by
 rw[List.range_add,List.flatMap_append,C9];congr 1
 ·refine jc λj r=>?_
  rw[if_pos (Cn.1 r)]
 ·refine jc λj _=>?_
  rw[if_neg (by omega),show n+j-n=j by omega]
def vW (w:World)(G:Nat->Prop)(e:Ty)(y:List e.den)(u:Value)(z:Nat->List Nat):Prop :=
 ∃ A r,u=.slice A y.length r/\(0<y.length->∃ g o,A=some ⟨g,o,none⟩/\∀ j (x:e.den),y[j]?=some x->∃ c,Mx w G e none 0 x c (z j)/\cU w g (o+j*e.cells) c)
section
variable {P:Program} {V:Env} {Γ:List Ctr} {T:TypeId->TI} {st:St} {o:Oper} {R:Type} {κ:Upd->Option R} {r:R}
theorem vX {w:World}{t ty E:TypeId}{e e':Ty}{I:Nat}(c5:oI P t (.slice E e I))(b2:e'.cells=e.cells){G G2 G':Nat->Prop}{xs H:List e'.den}{v u:Value}{bs:List Nat}{O:Nat->List Nat}(hx:Ow w G E e' xs v bs)
  (hy:vW w G2 e' H u O) (b3:(xs.length+H.length)*I<=an) (hG:∀ k,G k->G' k) (b6:∀ k,G2 k->G' k) (b4:∀ k,G' k->k<w.heap.size/\v.ownBlock≠some k) (bn:∀ j,j<H.length->∀ k∈O j,v.ownBlock≠some k) :
  ∃ Z M J,(Bw #[t,t] ty #[v,u]).run P w=.ok Z M/\w.grownBy M v.ownBlock/\OwB M G' none E e' (xs++H) Z J /\
   ∀ k,J.count k<=bs.count k+(((BO H.length).flatMap O)++[w.heap.size]).count k:=by
 obtain⟨hu,_,_,cb,bx,ti,z,hi,hs,hb,hz,c6⟩:=c5;obtain⟨ba,X,a5,ho,a9,c1⟩:=hx;obtain⟨A,b5,c4,b1⟩:=hy;subst c4;have bb:ti.size=e'.cells:=by rw[b2];exact hs
 have a3:∀ (M:World),w.grownBy M v.ownBlock->∀ k,G' k->M.heap[k]?=w.heap[k]?:=λM Y k hk=>Y.block k (b4 k hk).1 (CE (b4 k hk).2)
 have bl:xs.length+H.length<=maxLen:=by
  have h1:(xs.length+H.length)*1<=(xs.length+H.length)*I:=CS _ bx.1;have:=mi;simp only[an]at b3;omega
 have b0:∀ (y:List Value),(∀ (j:Nat) (x:e'.den),H[j]?=some x->∃ c,Mx w G2 e' none 0 x c (O j)/\∀ i u,c[i]?=some u->y[j*e'.cells+i]?=some u) ->
   ∀ Z M,Row M E e'.cells Z (xs.length+H.length) (X++y)->w.grownBy M v.ownBlock->(Z.ownBlock=v.ownBlock\/Z.ownBlock=some w.heap.size) ->
    ∃ J,OwB M G' none E e' (xs++H) Z J/\∀ k,J.count k<=bs.count k+(((BO H.length).flatMap O)++[w.heap.size]).count k:=by
  intro y hn Z M a4 Y a6;refine⟨Z.ownBlock.toList++(BO (xs.length+H.length)).flatMap (λj=>if j<xs.length then a5 j else O (j-xs.length)),⟨X++y,_,by rw[BR];exact a4,by rw[BR],λj x hj=>?_⟩,λk=>?_⟩
  ·by_cases a2:j<xs.length
   ·rw[BH a2]at hj;obtain⟨c,hr,hc⟩:=c1 j x hj;have hr:Mx w G e' none 0 x c (a5 j):=hr;refine⟨c,?_,λi u hi=>?_⟩
    ·rw[if_pos a2];refine hr.carry hG (λk hk=>a3 M Y k (hG k hk)) λk hk=>Y.block k (hr.lt k hk) (λe0=>?_)
     have h5:=bq.1 ba k;rw[a9,<- e0,BF]at h5;have h6:0<((BO xs.length).flatMap a5).count k:=BK.2 (dV.2 ⟨j,a2,hk⟩);simp at h5;omega
    ·have:=hc i u hi;rw[BH (BD.1 this).1];exact this
   ·rw[BG (by omega)]at hj;obtain⟨c,hr,hc⟩:=hn _ x hj;have c2:=(BD.1 hj).1;refine⟨c,?_,λi u hi=>?_⟩
    ·rw[if_neg a2];exact hr.carry b6 (λk hk=>a3 M Y k (b6 k hk)) λk hk=>Y.block k (hr.lt k hk) (CE (bn _ c2 k hk))
    ·have:=hc i u hi;have b9:=ho.1;have cc:xs.length*e'.cells<=j*e'.cells:=BN _ (Nat.le_of_not_lt a2);rw[BG (by omega),<- this,b9,Nat.sub_mul];congr 1;omega
  ·rw[yP,a9];simp only[BF];rcases a6 with h5|h5
   ·rw[h5];omega
   ·rw[h5];simp only[Cv];omega
 cases A with
 |none =>
  have a0:H.length=0:=by
   rcases Cw H.length with h|h
   ·exact h
   ·obtain⟨g,o,hA,_⟩:=b1 h;cases hA
  have a0:=BV a0;subst a0;have a1:=m7 (P:=P) w t ty E ti e'.cells b5 hu hi v xs.length X ho;have Y:w.grownBy w v.ownBlock:=⟨rfl,rfl,rfl,BU _,λ_ _ _=>rfl⟩;obtain⟨J,h1,h2⟩:=b0 [] (by simp) v w (by simpa using ho) Y (.inl rfl);exact⟨v,w,J,a1,Y,h1,h2⟩
 |some ad =>
  have c0:∃ y:List Value,y.length=H.length*e'.cells/\(∀ j u,y[j]?=some u->w.cell? (ad.add j)=some u)/\(∀ u∈y,u.oneCell'=true) /\
    ∀ (j:Nat) (x:e'.den),H[j]?=some x->∃ c,Mx w G2 e' none 0 x c (O j)/\∀ i u,c[i]?=some u->y[j*e'.cells+i]?=some u:=by
   rcases Cw H.length with h|h
   ·have a0:=BV h;subst a0;exact⟨[],by simp,by simp,by simp,by simp⟩
   ·obtain⟨g,o,hA,he⟩:=b1 h;simp at hA;subst hA;obtain⟨y,h1,h2,h3,h4⟩:=rm H o (λj x c=>Mx w G2 e' none 0 x c (O j)) (λj x c hq=>⟨hq.len,hq.one⟩) he;exact⟨y,h1,λj u hj=>by rw[eT];exact h2 j u hj,h3,h4⟩
  obtain⟨y,h1,h2,h3,h4⟩:=c0;have c3:z.cells.size=e'.cells:=by
   have h2:=(lA w (λ_=>False) e).len;rw[<- Bv,c6,h2,b2]
  obtain⟨Z,M,a1,a4,Y,a6⟩:=cf (P:=P) w t ty E ti z e'.cells I hu hi hz bb hb c3 v xs.length X ho ad H.length b5 y h1 h2 h3 bl (by simpa[an]using b3);obtain⟨J,h5,h6⟩:=b0 y h4 Z M a4 Y a6;exact⟨Z,M,J,a1,Y,h5,h6⟩
theorem vY {W:Wit}{a:Act}{w:World}(h:ap P V W st a w){E:TypeId}{e:Ty}{y:Leaf}{u:Value}{t:cK (List e.den)}(hl:aC P V W st w [y] [u])(H:fK st E e y=some t) :
  (∃ I,vW w (bi V W t.p t.frz) e t.val u I/\∀ k,((BO t.val.length).flatMap I).count k<=(aW W t.kill).count k)/\(∀ x∈t.frz,aB st x)/\(∀ x∈t.kill,aB st x):=by
 have z:∀ {p q:Bool} {O:List e.den} {ks:List (Nat×Nat)},dg e (aD st y)=some (p,O)->(∀ (S:Nat->Prop) (x:e.den) (c:List Value),Rd w (bi V W p (bt st [y])) e x c->Mx w (bi V W q ks) e none 0 x c []) ->
   ∃ I,vW w (bi V W q ks) e O u I/\∀ k,((BO O.length).flatMap I).count k<=(aW W []).count k:=by
  intro p q O ks Y hm;obtain⟨A,M,hu,_,hx⟩:=kx (m:=false) (E:=E) h hl.1.1 hl.1.2.1 Y;have hu:u=.slice A O.length M:=by simpa using hu
  refine⟨(λ_=>[]:Nat->List Nat),⟨A,M,hu,λhp=>?_⟩,λk=>by rw[show ((BO O.length).flatMap λ_=>([]:List Nat))=[] from by simp];exact DE _⟩;obtain⟨g,o',hA,_,a0⟩:=hx hp;exact⟨g,o',hA,λj x hj=>by
   obtain⟨c,hr,hc⟩:=a0 j x hj;exact⟨c,hm (λ_=>True) x c hr,hc⟩⟩
 unfold fK at H;cases hf:e.flat with
 |true =>
  rw[hf]at H;simp only[cond_true,BB]at H;obtain⟨⟨p,O⟩,Y,rfl⟩:=H;exact⟨z Y (λ_ x c hr=>Mx.flat hf hr),by simp,by simp⟩
 |false =>
  rw[hf]at H;simp only[cond_false]at H;cases hs:decide (e.sh=e) with
  |true =>
   rw[hs]at H;simp only[cond_true,BB]at H;obtain⟨⟨p,O⟩,Y,rfl⟩:=H;exact⟨z Y (λ_ x c hr=>Mx.shared (of_decide_eq_true hs) hr),λx hx=>ei hl hx,by simp⟩
  |false =>
   rw[hs]at H;simp only[cond_false,BB]at H;obtain⟨J,Y,rfl⟩:=H;obtain⟨h1,h2,h3⟩:=dN (pos:=0) h hl Y;have h1:Mx w (bi V W J.p J.frz) (.list true E e) none 0 J.val [u] (aW W J.kill):=h1;rw[bH (by simp)]at h1;obtain⟨v,Z,a1,X,h4,h5,h6⟩:=h1;simp only[CR,and_true]at Z;subst Z;refine⟨⟨X,?_,λk=>?_⟩,h2,h3⟩
   ·rcases h4.2 with ⟨hn,h0⟩|⟨g,M,a2,_,Z,hg,a3,_⟩
    ·exact⟨none,0,by rw[hn];show _=Value.slice none (DG J.val) 0;rw[h0],λhp=>by have hp:0<DG J.val:=hp;omega⟩
    ·refine⟨some ⟨g,0,none⟩,M,Z,λhp=>⟨g,0,rfl,λj x hj=>?_⟩⟩;obtain⟨c,h7,h8⟩:=h6 j x hj;have h7:Mx w (bi V W J.p J.frz) e none 0 x c (X j):=h7;refine⟨c,h7,λi u hi=>?_⟩;have h9:=h8 i u hi;rw[CF];rw[Z]at h4;rw[h4.cellAt _ (by rw[<- h4.1];exact (BD.1 h9).1)];exact h9
   ·show ((BO (DG J.val)).flatMap X).count k<=(aW W J.kill).count k;rw[h5,BF];omega
theorem Ai {l l':Leaf}{U:Upd}(u:cl st l=some (U,l')):∃ n,l'=.al TMP 0 n:=by
 cases l with
 |nal p M ep I E e Y =>
  simp only[cl]at u;cases y:bj st M ep with
  |false=>simp[y]at u
  |true =>
   rw[y]at u;simp only[cond_true]at u;split at u
   ·rename_i r j Z i H off;split at u
    ·rename_i X E' O J hg;cases z:!BT r TMP&&!BT r EPO&&BT H O.cells with
     |false=>simp[z]at u
     |true =>
      rw[z]at u;simp only[cond_true]at u;split at u
      ·split at u
       ·simp only[BA,By]at u;exact⟨_,u.2.symm⟩
       ·cases u
      ·cases u
    ·cases u
   ·cases u
 |_=>simp[cl]at u
theorem vZ (hV:ax V)(hT:TOk P T)(cp:bM V o){c:Call}(c0:o.op=.call c)(hc:c.callee=.builtin .append)(h:act Γ T o st κ=some r):bV P V o st κ r:=by
  simp only[act,wrU,c0,hc]at h;split at h
  · cases h
  · rename_i d hd
    split at h
    · rename_i x y t u a4 a6
      split at h
      · rename_i E e a2 ht
        cases ad:BT t u with
        |false=>simp[ad]at h
        |true =>
          simp only[ad,cond_true]at h;have ad:=BI ad;subst ad;have cb:=hT t;rw[ht]at cb;have a4:c.args=#[x,y]:=by rw[<- Br (xs:=c.args),a4]
          have a6:c.argTypes=#[t,t]:=by rw[<- Br (xs:=c.argTypes),a6]
          have bb:∀ (a:Act) (w w':World) (v:Value),(Bw #[t,t] o.type #[a.eval x,a.eval y]).run P w=.ok v w'->(execOp a.eval o).run P w=.ok (.value v) w':=by
            intro a w w' v Z;simp[execOp,c0,hc,resolve,invoke,builtin,a4,a6,Z]
          have b6:∀ (I:Upd) (E':TypeId) (e':Ty) (p:Bool) (xs:List e'.den) (ks:List (Nat×Nat)),E'=E->e'.sh=e.sh->dU st (ac I st) I d E' e' a2 p xs ks (one st y) κ=some r ->
              ∃ U,κ U=some r/\∀ (Y:Wit) (a:Act) (w:World),ap P V Y (ac I st) a w->aC P V Y (ac I st) w [one st y] [a.eval y]->(∀ x∈ks,aB (ac I st) x)->Ow w (gd V Y p) E' e' xs (a.eval x) (aW Y ks)->mD P V o st U a w:=by
            intro I E' e' p xs ks hE he J;subst hE;unfold dU at J;split at J
            · rename_i t1 d1
              cases O:aX (t1.kill++ks)&&dC t1.frz (t1.kill++ks)&&decide ((xs.length+t1.val.length)*a2<=an) with
              |false=>simp[O]at J
              |true =>
                simp only[O,cond_true]at J;simp only[BC,decide_eq_true_eq]at O;obtain⟨⟨d3,cy⟩,bn⟩:=O;refine⟨_,J,λY a w Z a1 cx bx next Q hn=>?_⟩;obtain⟨⟨c3,cw,b4⟩,hf,d2⟩:=vY Z a1 d1;have c1:∀ x∈t1.kill++ks,aB (ac I st) x:=λx hx=>(BL.1 hx).elim (d2 x) (cx x)
                obtain⟨h1,_,_,h4⟩:=fD hV Z cy c1;have ba:=gL Z d3 c1;rw[dH]at ba h4;have X:∀ k∈aW Y t1.kill++aW Y ks,¬ ce V (Y.frz (ac I st) t1.frz) _ k:=λk H=>mh ⟨(h4 k H).1,(h4 k H).2.1,(h4 k H).2.2.2.1,(h4 k H).2.2.2.2⟩
                rw[B5]at ba;obtain⟨c2,cc,b3⟩:=ba;have b9:∀ k,(a.eval x).ownBlock=some k->k∈aW Y ks:=by
                  intro k H;obtain⟨_,dc,dd,_,bn,_⟩:=bx;rw[bn,H];simp
                have c5:∀ k,gd V (Y.frz (ac I st) t1.frz) (p||t1.p) k->ce V (Y.frz (ac I st) t1.frz) (ac (aM (ac (aE (ac I st) t1.frz) (ac I st)) (t1.kill++ks)++aE (ac I st) t1.frz) (ac I st)) k:=by
                  rintro k (H|⟨_,H⟩)
                  · exact .inl H
                  · exact .inr (.inl (hV.ro k H))
                have a5:∀ k∈(BO t1.val.length).flatMap c3,k∈aW Y t1.kill:=λk H=>BK.1 (by have:=b4 k;have:=BK.2 H;omega)
                obtain⟨v',w',e3,c6,hg,c4,bl⟩:=vX (P:=P) (t:=t) (ty:=o.type) cb (hY he) bx cw bn (G':=gd V (Y.frz (ac I st) t1.frz) (p||t1.p))
                  (bT (W':=Y.frz (ac I st) t1.frz) (by intro h;simp[h]) (λ_ h=>Or.inl h))
                  (λk H=>bT (W':=Y.frz (ac I st) t1.frz) (by intro h;simp[h]) (λ_ h=>h) k (kg hf k H))
                  (λk H=>⟨h1.used_lt k (c5 k H),λe1=>X k (BE _ (b9 k e1)) (c5 k H)⟩)
                  (λj hj k H e1=>b3 k (a5 k (dV.2 ⟨j,hj,H⟩)) k (b9 k e1) rfl)
                have b5:=mX (bs:=aW Y ks) (K:=(BO t1.val.length).flatMap c3++[w.heap.size]) cc
                  (bq.2 λk=>by
                    rw[BF];have h5:=b4 k;have h6:=bq.1 c2 k;by_cases H:k=w.heap.size
                    · subst H
                      have:(aW Y t1.kill).count w.heap.size=0:=BZ.2 (λhm=>by have:=(h4 _ (BJ _ hm)).2.2.1;omega);simp;omega
                    · have:List.count k [w.heap.size]=0:=BZ.2 (by simp[H])
                      omega)
                  (λk H hm=>by
                    rcases BL.1 H with H|H
                    · exact b3 k (a5 k H) k hm rfl
                    · simp at H
                      subst H;have:=(h4 _ (BE _ hm)).2.2.1;omega) bl
                refine dW (bb a w w' v' c6) ?_;rw[hd];refine hn _ _ ?_;rw[ck,aO,bz];refine h1.putOwn hV hg.size hg.os hg.tape hg.output (λk H=>hg.block k (h1.used_lt k H) (λe1=>X k (BE _ (b9 k e1.symm)) H)) d (cp d hd).1 (cp d hd).2 _ (BM _) ⟨b5.1,c4⟩ (λk H hu=>?_);rcases b5.2 k H with H|H
                · exact X k (BE _ H) hu
                · rcases BL.1 H with H|H
                  · exact X k (BJ _ (a5 k H)) hu
                  · simp at H
                    have:=h1.used_lt k hu;omega
            · cases J
          have a0:∀ (I:Upd) (x':Leaf),eo st I d E e a2 x' (one st y) κ=some r->one st y≠.dead:=by
            intro I x' h e1;rw[e1]at h;unfold eo at h;split at h
            · split at h
              · rename_i p E' e' b1 b2
                cases O:BT E' E&&decide (e'.sh=e.sh) with
                |false=>simp[O]at h
                |true =>
                  simp only[O,cond_true,dU,fK,aD,dg,Ci,ch,take]at h;cases e'.flat <;> cases decide (e'.sh=e') <;> simp at h
              · cases h
            · simp only[dU,fK,aD,dg,Ci,ch,take]at h
              cases e.flat <;> cases decide (e.sh=e) <;> simp at h
            · cases h
          simp only[iu]at h;cases hn:jj (one st x) with
          |true =>
            rw[hn]at h;simp only[cond_true]at h;rw[gX]at h;obtain⟨⟨I,x'⟩,a9,h⟩:=Bs.1 h;have a0:=a0 _ _ h;simp only[eo]at h;split at h
            · rename_i r' j n
              split at h
              · rename_i p' E' e' b1 b2
                cases O:BT E' E&&decide (e'.sh=e.sh) with
                |false=>simp[O]at h
                |true =>
                  simp only[O,cond_true]at h;simp only[BC,decide_eq_true_eq]at O;obtain⟨U,hU,hg⟩:=b6 I E' e' p' b1 [(r',j)] (BI O.1) O.2 h;refine⟨U,hU,λW a w Z=>?_⟩;obtain⟨a3,_,_,_,_⟩:=bo Z x (by intro e1;rw[e1]at hn;simp[jj]at hn);obtain⟨Y,n0,p0,E0,e0,e2,g1,g2,g3,g4,_⟩:=uW hV Z a3 a9;obtain⟨a1,M,b0,_,_⟩:=bo Z y a0;obtain⟨h5,h6,h7,h8⟩:=ke g1 b2 g4;exact hg Y a w g1 ⟨⟨a1.carry hV.ro g2 (λho=>absurd ho M),M,b0⟩,trivial⟩ (λz hz=>by simp at hz;subst hz;exact⟨_,h7,trivial⟩) (by simpa[aW]using h6)
              · cases h
            · exfalso
              obtain⟨n,cu⟩:=Ai a9;cases cu
            · cases h
          |false =>
            rw[hn]at h;simp only[cond_false]at h;have a0:=a0 _ _ h;simp only[eo]at h;split at h
            · rename_i r' j n hx
              split at h
              · rename_i p' E' e' b1 b2
                cases O:BT E' E&&decide (e'.sh=e.sh) with
                |false=>simp[O]at h
                |true =>
                  simp only[O,cond_true]at h;simp only[BC,decide_eq_true_eq]at O;obtain⟨U,hU,hg⟩:=b6 [] E' e' p' b1 [(r',j)] (BI O.1) O.2 h;refine⟨U,hU,λW a w Z=>?_⟩;obtain⟨a3,_,_,_,_⟩:=bo Z x (by rw[hx];simp);rw[hx]at a3;obtain⟨a1,M,b0,_,_⟩:=bo Z y a0;obtain⟨h5,h6,h7,h8⟩:=ke Z b2 a3;exact hg W a w Z ⟨⟨a1,M,b0⟩,trivial⟩ (λz hz=>by simp at hz;subst hz;exact⟨_,h7,trivial⟩) (by simpa[aW]using h6)
              · cases h
            · rename_i hx
              obtain⟨U,hU,hg⟩:=b6 [] E e false [] [] rfl rfl h;refine⟨U,hU,λW a w Z=>?_⟩;obtain⟨a3,_,_,_,_⟩:=bo Z x (by rw[hx];simp);rw[hx]at a3;obtain⟨a1,M,b0,_,_⟩:=bo Z y a0;exact hg W a w Z ⟨⟨a1,M,b0⟩,trivial⟩ (by simp) (by rw[show a.eval x=_ from a3];exact OwH.nil w _ E e)
            · cases h
      · cases h
    · cases h
end
def gM (w:World)(ro pr:Nat->Prop)(r:Bool)(a:Ty)(x:a.den)(v:Value):Prop :=
 if r=true then ∃ b u g o c,v=.pointer (some ⟨b,u,none⟩)/\pr b/\w.cell? ⟨b,u,none⟩=some (.pointer (some ⟨g,o,none⟩))/\pr g/\Rd w ro a x c/\cU w g o c
 else ∃ g o c,v=.pointer (some ⟨g,o,none⟩)/\pr g/\Rd w ro a x c/\cU w g o c
def jA (w:World)(ro pr:Nat->Prop):(cs:List (Bool×Ty))->lF cs->List Value->Prop
 |[],_,y=>y=[]
 |c::cs,x,y=>∃ u r,y=u::r/\gM w ro pr c.1 c.2 x.1 u/\jA w ro pr cs x.2 r
def nQ (P:Program)(w:World)(ro pr:Nat->Prop):(pk:PK)->pk.den->Value->List Nat->Prop
 |.rd a,x,v,r=>r=[]/\∃ y,c9 a.isAgg v y/\Rd w ro a x y
 |.own a,x,v,r=>∃ y,c9 a.isAgg v y/\Mx w ro a none 0 x y r
 |.io a,x,v,r=>∃ y,c9 a.isAgg v y/\Mx w ro a none 0 x y r
 |.rref a,x,v,r=>r=[]/\gM w ro pr false a x v
 |.rref2 a,x,v,r=>r=[]/\gM w ro pr true a x v
 |.iop a,x,v,r=>∃ g c E z,v=.pointer (some ⟨g,0,none⟩)/\w.heap[g]?=some (.cells c.toArray E (0,0))/\Mx w ro a none 0 x c z/\r=g::z
 |.fn M B,O,v,r=>r=[]/\hZ P w pr M B O v
 |.clo f y,x,v,r=>r=[]/\∃ J:List Value,v=.func (.func f) #[] J.toArray/\jA w ro pr y x J
 |.hol a c off,x,v,r=>∃ y u z I E e H,c9 a.isAgg v y/\Mx w ro a (some c) 0 x.1 y z/\y[c]?=some u/\bc c a 0 x.1=some ⟨E,e,H⟩/\OwB w ro (some (x.2,off)) E e H u I/\∀ k,r.count k=z.count k+I.count k
def c7 (P:Program)(w:World)(ro pr:Nat->Prop):(ps:List PK)->ab ps->List Value->List (List Nat)->Prop
 |[],_,z,u=>z=[]/\u=[]
 |p::ps,x,z,u=>∃ v y b r,z=v::y/\u=b::r/\nQ P w ro pr p x.1 v b/\c7 P w ro pr ps x.2 y r
def jn (w:World)(G:Nat->Prop)(a:Ty)(x:a.den)(ptr:Bool)(v:Value)(bs:List Nat):Prop :=
 if ptr=true then ∃ g c E r,v=.pointer (some ⟨g,0,none⟩)/\w.heap[g]?=some (.cells c.toArray E (0,0))/\Mx w G a none 0 x c r/\bs=g::r
 else ∃ u,c9 a.isAgg v u/\Mx w G a none 0 x u bs
def bK (w:World)(G:Nat->Prop):(ps:List PK)->ah ps->List Value->List (List Nat)->Prop
 |.io a::ps,o,v::u,b::r=>jn w G a o.1 false v b/\bK w G ps o.2 u r
 |.iop a::ps,o,v::u,b::r=>jn w G a o.1 true v b/\bK w G ps o.2 u r
 |.rd _::ps,o,_::u,b::r=>b=[]/\bK w G ps o u r
 |.own _::ps,o,_::u,b::r=>b=[]/\bK w G ps o u r
 |.rref _::ps,o,_::u,b::r=>b=[]/\bK w G ps o u r
 |.rref2 _::ps,o,_::u,b::r=>b=[]/\bK w G ps o u r
 |.fn _ _::ps,o,_::u,b::r=>b=[]/\bK w G ps o u r
 |.clo _ _::ps,o,_::u,b::r=>b=[]/\bK w G ps o u r
 |.hol _ _ _::ps,o,_::u,b::r=>b=[]/\bK w G ps o u r
 |[],_,[],[]=>True
 |_,_,_,_=>False
def pX (w:World)(G ro:Nat->Prop):(r:RK)->r.den->Value->List Nat->Prop
 |.v a,y,v,u=>∃ z,c9 a.isAgg v z/\Mx w G a none 0 y z u
 |.bv a,y,v,u=>u=[]/\∃ z,c9 a.isAgg v z/\Rd w (λk=>G k\/ro k) a y z
 |.box a,y,v,u=>∃ g c E H,v=.pointer (some ⟨g,0,none⟩)/\w.heap[g]?=some (.cells c.toArray E (0,0))/\Mx w G a none 0 y c H/\u=g::H
def gw (w:World)(G ro:Nat->Prop):(J:List RK)->ai J->List Value->List (List Nat)->Prop
 |[],_,M,H=>M=[]/\H=[]
 |r::J,y,M,H=>∃ u I b z,M=u::I/\H=b::z/\pX w G ro r y.1 u b/\gw w G ro J y.2 I z
def sb:List Value->Value->Prop
 |[u],v=>v=u
 |r,v=>v=.tuple r.toArray
def pY (w w':World)(r:List Nat)(k:Nat):Prop:=k<w'.heap.size/\(w.heap.size<=k\/k∈r)
def tr (c:Ctr)(w:World)(ro:Nat->Prop)(I:List Value)(z:List (List Nat))(y:ai c.rs×ah c.ps)(e:Ending)(w':World):Prop :=
 ∃ (v:Value) (H:List Value) (N:Nat->Prop) (u r:List (List Nat)),e=.returned v/\sb H v/\w.heap.size<=w'.heap.size/\w'.os=w.os/\w'.tape=w.tape/\w'.output=w.output /\
  (∀ k,k<w.heap.size->k∉z.flatten->w'.heap[k]?=w.heap[k]?)/\(∀ k,N k->pY w w' z.flatten k) /\
  bK w' (λk=>N k\/(c.fresh=false/\ro k)) c.ps y.2 I u/\gw w' (λk=>N k\/(c.fresh=false/\ro k)) ro c.rs y.1 H r /\
  (u.flatten++r.flatten).Nodup/\∀ k∈u.flatten++r.flatten,pY w w' z.flatten k/\¬ N k
def bO (P:Program)(c:Ctr):Prop :=
 fO P c.f/\∀ (w:World) (ro:Nat->Prop) (x:ab c.ps) (u:List Value) (r:List (List Nat)) (y:ai c.rs×ah c.ps),
  c7 P w ro (λk=>k<w.heap.size/\k∉r.flatten) c.ps x u r->(∀ k,ro k->k<w.heap.size/\k∉r.flatten)->r.flatten.Nodup->c.den x=some y ->
  Calls P c.f u.toArray w (tr c w ro u r y)
section
variable {P:Program} {V:Env} {Γ:List Ctr} {T:TypeId->TI} {st:St} {o:Oper} {R:Type} {κ:Upd->Option R} {r:R}
theorem hZ.mono {w0:World}{S I:Nat->Prop}(O:∀ k,S k->I k){z:List Ty}{B:Ty}{H:Tup z->Option B.den}{v:Value}(h:hZ P w0 S z B H v):hZ P w0 I z B H v:=by
 obtain⟨f,u,e,J,Y⟩:=h;exact⟨f,u,e,J,λw1 M X=>Y w1 M (λk y=>X k (O k y))⟩
theorem hZ.move {w0 w:World}{S M:Nat->Prop}(H:w0.heap.size<=w.heap.size)(J:∀ k,S k->M k/\w.heap[k]?=w0.heap[k]?){z:List Ty}{B:Ty}{I:Tup z->Option B.den}{v:Value}
  (h:hZ P w0 S z B I v):hZ P w M z B I v:=by
 obtain⟨f,y,e,O,Z⟩:=h;exact⟨f,y,e,O,λw1 X Y=>Z w1 (B6 H X) (λk u=>(Y k (J k u).1).trans (J k u).2)⟩
theorem gM.carry {w w1:World}{ro ro' pr J:Nat->Prop}(y:∀ k,ro k->ro' k/\w1.heap[k]?=w.heap[k]?)(u:∀ k,pr k->J k/\w1.heap[k]?=w.heap[k]?){H:Bool}{a:Ty}{x:a.den}{v:Value}(h:gM w ro pr H a x v):gM w1 ro' J H a x v:=by
 unfold gM at h ⊢;split at h
 ·rename_i Y;rw[if_pos Y];obtain⟨b,ob,g,o,c,O,I,X,M,Z,h8⟩:=h;exact⟨b,ob,g,o,c,O,(u b I).1,by rw[kw (u b I).2];exact X,(u g M).1,Z.carry (λk z=>(y k z).1) (λk z=>(y k z).2),h8.same (u g M).2⟩
 ·rename_i Y;rw[if_neg Y];obtain⟨g,o,c,O,I,X,M⟩:=h;exact⟨g,o,c,O,(u g I).1,X.carry (λk z=>(y k z).1) (λk z=>(y k z).2),M.same (u g I).2⟩
theorem jA.carry {w w1:World}{ro ro' pr H:Nat->Prop}(z:∀ k,ro k->ro' k/\w1.heap[k]?=w.heap[k]?)(y:∀ k,pr k->H k/\w1.heap[k]?=w.heap[k]?):∀ {cs:List (Bool×Ty)} {x:lF cs} {us:List Value},jA w ro pr cs x us->jA w1 ro' H cs x us
 |[],_,_,h=>h
 |_::_,_,_,⟨u,I,e,M,J⟩=>⟨u,I,e,M.carry z y,jA.carry z y J⟩
theorem nQ.mono {w:World}{ro ro' pr O:Nat->Prop}(y:∀ k,ro k->ro' k)(J:∀ k,pr k->O k):∀ {pk:PK} {x:pk.den} {v:Value} {bs:List Nat},nQ P w ro pr pk x v bs->nQ P w ro' O pk x v bs
 |.rd _,_,_,_,⟨e,M,H,z⟩=>⟨e,M,H,z.mono y⟩
 |.own _,_,_,_,⟨M,H,z⟩=>⟨M,H,z.mono y⟩
 |.io _,_,_,_,⟨M,H,z⟩=>⟨M,H,z.mono y⟩
 |.rref _,_,_,_,⟨e,h⟩=>⟨e,h.carry (λk I=>⟨y k I,rfl⟩) (λk I=>⟨J k I,rfl⟩)⟩
 |.rref2 _,_,_,_,⟨e,h⟩=>⟨e,h.carry (λk I=>⟨y k I,rfl⟩) (λk I=>⟨J k I,rfl⟩)⟩
 |.iop _,_,_,_,⟨g,c,E,Z,H,z,X,Y⟩=>⟨g,c,E,Z,H,z,X.mono y,Y⟩
 |.fn _ _,_,_,_,⟨e,h⟩=>⟨e,hZ.mono J h⟩
 |.clo _ _,_,_,_,⟨e,us,H,z⟩=>⟨e,us,H,z.carry (λk I=>⟨y k I,rfl⟩) (λk I=>⟨J k I,rfl⟩)⟩
 |.hol _ _ _,_,_,_,⟨M,u,Z,b1,E,e,xs,H,z,X,Y,h5,h6⟩=>⟨M,u,Z,b1,E,e,xs,H,z.mono y,X,Y,h5.carry y (λ_ _=>rfl) (λ_ _=>rfl),h6⟩
theorem c7.mono {w:World}{ro ro' pr H:Nat->Prop}(z:∀ k,ro k->ro' k)(y:∀ k,pr k->H k):∀ {ps:List PK} {x:ab ps} {M:List Value} {u:List (List Nat)},c7 P w ro pr ps x M u->c7 P w ro' H ps x M u
 |[],_,_,_,h=>h
 |_::_,_,_,_,⟨v,J,b,I,O,Y,Z,X⟩=>⟨v,J,b,I,O,Y,Z.mono z y,c7.mono z y X⟩
def jJ (V:Env)(W:Wit)(st:St)(ks:List (Nat×Nat))(u:List Nat)(k:Nat):Prop:=W.nw k\/V.prot k\/(∃ b∈u,live st b/\W.β b=k)\/∃ x∈ks,k∈W.bs x.1 x.2
theorem kJ {W:Wit}{z I:List (Nat×Nat)}{H y:List Nat}(h:∀ x∈z,x∈I)(O:∀ b∈H,b∈y):∀ k,jJ V W st z H k->jJ V W st I y k:=by
 rintro k (u|u|⟨b,M,u⟩|⟨x,J,u⟩)
 ·exact .inl u
 ·exact .inr (.inl u)
 ·exact .inr (.inr (.inl ⟨b,O b M,u⟩))
 ·exact .inr (.inr (.inr ⟨x,h x J,u⟩))
theorem iU {W:Wit}{p q:Bool}{y z:List (Nat×Nat)}(I:p=true->q=true)(h:∀ x∈y,x∈z):∀ k,bi V W p y k->bi V W q z k:=by
 rintro k (u|⟨x,H,u⟩)
 ·exact .inl (bT (W':=W) I (λ_ h=>h) k u)
 ·exact .inr ⟨x,h x H,u⟩
theorem gx {agg:Bool}{v:Value}{cs:List Value}(h:ea (bf agg) v cs):c9 agg v cs:=by
 cases agg <;> exact h
theorem m8 {W:Wit}{a:Act}{w:World}(h:ap P V W st a w){l:Leaf}{ls:List Leaf}{v:Value}(hl:aI P V W st w [] l v)(y:target st l=some ls)(ks:List (Nat×Nat))(J:List Nat)(M:∀ b∈fb [l],b∈J) :
  ∃ g o cs,v=.pointer (some ⟨g,o,none⟩)/\jJ V W st ks J g/\aC P V W st w ls cs/\cU w g o cs:=by
 unfold target at y;split at y
 ·rename_i b;cases X:decide ((st b).sh=.agg) with
  |false=>simp[X]at y
  |true =>
   simp only[X,cond_true,BA]at y;subst y;obtain⟨hB,O,z⟩:=hl;rcases h.boxes b hB with ⟨Z,_⟩|⟨_,E,Z⟩
   ·rw[O]at Z;cases Z
   ·exact⟨W.β b,0,W.cs b,z,.inr (.inr (.inl ⟨b,M b (by simp[fb]),⟨hB,O⟩,rfl⟩)),iw h b,λi v z=>by
     rw[CF,cell_of_row w (W.β b) i _ E (0,0) Z];simpa using z⟩
 ·rename_i p a x;simp only[BA]at y;subst y;obtain⟨g,Y,c,z,hg,H,hc⟩:=hl;rw[B4]at z;exact⟨g,Y,c,z,hg.elim .inl (λh=>.inr (.inl h)),eS (λ_ h=>h) H,hc⟩
 ·rename_i p a x;simp only[BA]at y;subst y;obtain⟨b,ob,g,Y,c,z,X,I,hg,H,hc⟩:=hl;refine⟨b,ob,[.pointer (some ⟨g,Y,none⟩)],z,X.elim .inl (λh=>.inr (.inl h)),⟨⟨⟨g,Y,c,rfl,hg,H,hc⟩,id,rfl⟩,trivial⟩,λi u hi=>?_⟩;cases i with
  |zero=>simp at hi;subst hi;exact I
  |succ i=>simp at hi
 ·cases y
theorem gN {W:Wit}{w:World}{x:aG×List Leaf}{l:Leaf}{v:Value}{cs:List Value}(y:ea x.1 v cs)(z:aC P V W st w x.2 cs)(u:cm x=l)(H:l≠.dead) :
  aI P V W st w [] l v/\v.oneCell'=true:=by
 unfold cm at u;split at u
 ·rename_i I;subst u;have y:cs=[v]:=y;subst y;exact⟨z.1.1,z.1.2.2⟩
 ·exact absurd u.symm H
theorem m9 {W:Wit}{a:Act}{w:World}(h:ap P V W st a w){c:Bool×Ty}{l:Leaf}{v:Value}(hl:aI P V W st w [] l v){g:Got c.2.den}(H:fe st c l=some g) :
  gM w (bi V W g.p g.frz) (jJ V W st g.frz g.see) c.1 c.2 g.val v/\(∀ z∈g.frz,aB st z)/\g.kill=[]/\g.lend=[]:=by
 unfold fe at H;cases hc:c.1 with
 |true =>
  rw[hc]at H;simp only[cond_true]at H;split at H
  ·rename_i l' ht;split at H
   ·rename_i Z a0;simp only[BB]at H;obtain⟨⟨p,y⟩,hy,rfl⟩:=H;obtain⟨g,o',cs,hv,X,I,Y⟩:=m8 h hl ht (bt st Z) (fb [l,l']) (λb M=>by
     cases l <;> simp[fb]at M ⊢ <;> exact .inl M)
    match cs,I with
    |[u],I =>
     obtain⟨g2,o2,a1,a3,a4,O,a2⟩:=m8 h I.1.1 a0 (bt st Z) (fb [l,l']) (λb M=>by
      cases l <;> cases l' <;> simp[fb]at M ⊢ <;> first|exact M|exact .inr M)
     have J:=Y 0 u rfl;rw[B4,a3]at J;refine⟨?_,λz hz=>ei O hz,rfl,rfl⟩;unfold gM;rw[if_pos rfl];exact⟨g,o',g2,o2,a1,hv,X,J,a4,ey h O hy,a2⟩
   ·cases H
  ·cases H
 |false =>
  rw[hc]at H;simp only[cond_false]at H;split at H
  ·rename_i Z ht;simp only[BB]at H;obtain⟨⟨p,y⟩,hy,rfl⟩:=H;obtain⟨g,o',cs,hv,X,I,Y⟩:=m8 h hl ht (bt st Z) (fb [l]) (λb M=>M);refine⟨?_,λz hz=>ei I hz,rfl,rfl⟩;unfold gM;rw[if_neg (by simp)];exact⟨g,o',cs,hv,X,ey h I hy,Y⟩
  ·cases H
theorem mj {W:Wit}{a:Act}{w:World}(h:ap P V W st a w):∀ {cs:List (Bool×Ty)} {ls:List Leaf} {us:List Value} {g:Got (lF cs)},aC P V W st w ls us->cA st cs ls=some g ->
  jA w (bi V W g.p g.frz) (jJ V W st g.frz g.see) cs g.val us/\(∀ z∈g.frz,aB st z)/\g.kill=[]/\g.lend=[]
 |[],[],us,g,J,y=>by
  simp only[cA,BA]at y;subst y;cases us with
  |nil=>exact⟨rfl,by simp,rfl,rfl⟩
  |cons=>exact J.elim
 |[],_::_,_,_,_,y=>by simp[cA]at y
 |_::_,[],_,_,_,y=>by simp[cA]at y
 |c::cs,l::ls,us,g,J,y=>by
  cases us with
  |nil=>exact J.elim
  |cons u us =>
   simp only[cA]at y;split at y
   ·rename_i g1 M;split at y
    ·rename_i g2 O;simp only[BA]at y;subst y;obtain⟨h1,Z,h3,h4⟩:=m9 h J.1.1 M;obtain⟨Y,h6,h7,h8⟩:=mj h J.2 O;refine⟨⟨u,us,rfl,h1.carry (λk I=>⟨iU (by intro h;simp[h]) (λx H=>BJ _ H) k I,rfl⟩) (λk I=>⟨kJ (λx H=>BJ _ H) (λx H=>BJ _ H) k I,rfl⟩),
      Y.carry (λk I=>⟨iU (by intro h;simp[h]) (λx H=>BE _ H) k I,rfl⟩) (λk I=>⟨kJ (λx H=>BE _ H) (λx H=>BE _ H) k I,rfl⟩)⟩,?_,rfl,rfl⟩
     intro z X;exact (BL.1 X).elim (Z z) (h6 z)
    ·cases y
   ·cases y
theorem wa {W:Wit}{w:World}{c:Bool×Bool×(a:Ty)×a.den}{v:Value}(h:iJ V W w c v):aI P V W st w [] (eL c) v/\¬ ao (eL c)/\v.oneCell'=true:=by
 unfold iJ at h;unfold eL;split at h
 ·rename_i u;rw[u];refine⟨h,id,?_⟩;obtain⟨b,I,g,z,H,y,_⟩:=h;rw[y];rfl
 ·rename_i u;have u:c.2.1=false:=by simpa using u
  rw[u];refine⟨h,id,?_⟩;obtain⟨g,z,H,y,_⟩:=h;rw[y];rfl
theorem qD {W:Wit}{w:World}{caps:List (Bool×Bool×(a:Ty)×a.den)}{us:List Value}(z:us.length=caps.length)(h:∀ (i:Nat) (c:Bool×Bool×(a:Ty)×a.den) (u:Value),caps[i]?=some c->us[i]?=some u->iJ V W w c u) :
  aC P V W st w (caps.map eL) us :=
 aC.mk (by simp[z]) λj l v y H=>by
  rw[List.getElem?_map,BB]at y;obtain⟨c,I,rfl⟩:=y;exact wa (h j c v I H)
theorem pZ {W:Wit}{w:World}:∀ (caps:List Nat),(∀ b∈caps,B0<=b/\(st b).sh=.agg)->aC P V W st w (caps.map λb=>Leaf.bp b 0) (caps.map λb=>Value.pointer (some ⟨W.β b,0,none⟩))
 |[],_=>trivial
 |b::caps,h=>⟨⟨⟨(h b (BW ..)).1,(h b (BW ..)).2,rfl⟩,id,rfl⟩,pZ caps (λq u=>h q (BP _ u))⟩
theorem na {off:Nat}{E:TypeId}{e:Ty}{X:List e.den}:∀ {a:Ty} {pos:Nat} {x z:a.den},bL off E e X a pos x=some z->(∃ H,bc off a pos x=some ⟨E,e,H⟩)/\bc off a pos z=some ⟨E,e,X⟩
 |.pair a b,pos,x,z,h=>by
  simp only[bL]at h;split at h
  ·rename_i u I;simp only[BA]at h;subst h;obtain⟨⟨H,O⟩,M⟩:=na I;exact⟨⟨H,by simp only[bc,O]⟩,by simp only[bc,M]⟩
  ·rename_i hn;simp only[BB]at h;obtain⟨u,I,rfl⟩:=h;have Z:=Mx.back.set_in I;obtain⟨⟨H,O⟩,M⟩:=na I;have y:bc off a pos x.1=none:=by
    cases hg:bc off a pos x.1 with
    |none=>rfl
    |some u=>have:=gv hg;omega
   exact⟨⟨H,by simp only[bc,y,O]⟩,by simp only[bc,y,M]⟩
 |.list m E' e',pos,Y,z,h=>by
  simp only[bL]at h;cases J:m&&BT pos off with
  |false=>simp[J]at h
  |true =>
   rw[J]at h;simp only[cond_true]at h;obtain⟨rfl,rfl,rfl⟩:=jE h;exact⟨⟨Y,by simp[bc,J]⟩,by simp[bc,J]⟩
 |.int _,_,_,_,h=>by simp[bL]at h
 |.bool,_,_,_,h=>by simp[bL]at h
 |.str,_,_,_,h=>by simp[bL]at h
 |.unit,_,_,_,h=>by simp[bL]at h
 |.hdr,_,_,_,h=>by simp[bL]at h
theorem Mx.refill {w:World}{G:Nat->Prop}{off:Nat}{E:TypeId}{e:Ty}{ys:List e.den}{u:Value}(X:u.oneCell'=true):∀ {a:Ty} {pos:Nat} {x z:a.den} {cs:List Value} {bs:List Nat},Mx w G a (some off) pos x cs bs->bL off E e ys a pos x=some z ->
  Mx w G a (some off) pos z (cs.set (off-pos) u) bs
 |.pair a b,pos,x,z,cs,bs,⟨Z,c2,b1,b2,e1,e2,O,M⟩,h=>by
  have hl:=O.len;simp only[bL]at h;split at h
  ·rename_i y J;simp only[BA]at h;subst h;have Y:=Mx.back.set_in J;refine⟨Z.set (off-pos) u,c2,b1,b2,?_,e2,Mx.refill X O J,M⟩;rw[e1,List.set_append_left _ _ (by omega)]
  ·simp only[BB]at h;obtain⟨y,J,rfl⟩:=h;have Y:=Mx.back.set_in J;refine⟨Z,c2.set (off-(pos+a.cells)) u,b1,b2,?_,e2,O,Mx.refill X M J⟩;rw[e1,List.set_append_right _ _ (by omega),hl,show off-pos-a.cells=off-(pos+a.cells) by omega]
 |.list m E' e',pos,xs,z,cs,bs,H,h=>by
  simp only[bL]at h;cases I:m&&BT pos off with
  |false=>simp[I]at h
  |true =>
   simp only[BC]at I;obtain⟨rfl,I⟩:=I;have I:=BI I;subst I;rw[iY]at H ⊢;obtain⟨v,rfl,O,M⟩:=H;exact⟨u,by simp,X,M⟩
 |.int _,_,_,_,_,_,_,h=>by simp[bL]at h
 |.bool,_,_,_,_,_,_,h=>by simp[bL]at h
 |.str,_,_,_,_,_,_,h=>by simp[bL]at h
 |.unit,_,_,_,_,_,_,h=>by simp[bL]at h
 |.hdr,_,_,_,_,_,_,h=>by simp[bL]at h
theorem aC.setNil {W:Wit}{w:World}{ls:List Leaf}{cs:List Value}(I:aC P V W st w ls cs)(c:Nat):aC P V W st w (aS ls c .nil) (cs.set c (.slice none 0 0)):=by
 have y:=I.length;refine aC.mk (by simp[aS,y]) λj l v z u=>?_
 rcases aQ _ _ _ _ _ z with ⟨rfl,rfl,J⟩|⟨H,z⟩
 ·rw[CL (by omega)]at u;simp only[BA]at u;subst u;exact⟨rfl,id,rfl⟩
 ·rw[CD (CE H)]at u;exact I.at_ j l v z u
def wb (P:Program)(V:Env)(W:Wit)(st:St)(w:World)(pk:PK)(v:Value)(g:Got pk.den):Prop :=
 (∃ u,nQ P w (bi V W g.p g.frz) (jJ V W st g.frz g.see) pk g.val v u/\u=g.lend.map W.β++aW W g.kill)/\(∀ z∈g.frz,aB st z)/\(∀ z∈g.kill,aB st z)/\(∀ b∈g.lend,live st b)
theorem nc (hV:ax V){W:Wit}{a:Act}{w:World}(h:ap P V W st a w){pk:PK}{x:aG×List Leaf}{v:Value}{cs:List Value}(hs:ea x.1 v cs)(hl:aC P V W st w x.2 cs)
  {g:Got pk.den} (u:be st pk x=some g):wb P V W st w pk v g:=by
 obtain⟨sh,ls⟩:=x;have Y:∀ {b:Ty} {g:Got b.den},(bif decide (sh=bf b.isAgg) then (ch st b ls).map (λt=>(⟨t.p,t.val,t.frz,t.kill,[],[]⟩:Got b.den)) else none)=some g ->
   (∃ cs,c9 b.isAgg v cs/\Mx w (bi V W g.p g.frz) b none 0 g.val cs (aW W g.kill))/\g.lend=[]/\g.see=[]/\(∀ z∈g.frz,aB st z)/\(∀ z∈g.kill,aB st z):=by
  intro b g hq;cases I:decide (sh=bf b.isAgg) with
  |false=>simp[I]at hq
  |true =>
   rw[I]at hq;simp only[cond_true,BB]at hq;have M:=of_decide_eq_true I;subst M;obtain⟨t,ht,rfl⟩:=hq;obtain⟨X,J,O⟩:=dN (pos:=0) h hl ht;exact⟨⟨cs,gx hs,X⟩,rfl,rfl,J,O⟩
 cases pk with
 |rd b =>
  simp only[be]at u;cases I:decide (sh=bf b.isAgg) with
  |false=>simp[I]at u
  |true =>
   rw[I]at u;simp only[cond_true,BB]at u;have M:=of_decide_eq_true I;subst M;obtain⟨⟨p,y⟩,hy,rfl⟩:=u;exact⟨⟨[],⟨rfl,cs,gx hs,ey h hl hy⟩,rfl⟩,λz hz=>ei hl hz,by simp[Got.ofRd],by simp[Got.ofRd]⟩
 |own b =>
  obtain⟨X,J,O,Z,h5⟩:=Y u;exact⟨⟨_,X,by rw[J];rfl⟩,Z,h5,by rw[J];simp⟩
 |io b =>
  obtain⟨X,J,O,Z,h5⟩:=Y u;exact⟨⟨_,X,by rw[J];rfl⟩,Z,h5,by rw[J];simp⟩
 |iop b =>
  simp only[be]at u;split at u
  ·rename_i q hx;cases I:decide ((st q).sh=.agg) with
   |false=>simp[I]at u
   |true =>
    simp only[I,cond_true,BB]at u;obtain⟨t,ht,rfl⟩:=u;obtain⟨H,hv⟩:=gN hs hl hx (by simp);obtain⟨hB,a6,ad⟩:=H;rcases h.boxes q hB with ⟨h8,_⟩|⟨_,E,h8⟩
    ·rw[a6]at h8;cases h8
    ·obtain⟨X,J,O⟩:=dN (pos:=0) h (iw h q) ht;exact⟨⟨_,⟨W.β q,W.cs q,E,_,ad,h8,X,rfl⟩,rfl⟩,J,O,λb' M=>by simp at M;subst M;exact⟨hB,a6⟩⟩
  ·cases u
 |rref b =>
  simp only[be]at u;have hd:cm (sh,ls)≠.dead:=by
   intro e;rw[e]at u;simp[fe,target]at u
  obtain⟨H,hv⟩:=gN hs hl rfl hd;obtain⟨X,J,O,Z⟩:=m9 (c:=(false,b)) h H u;exact⟨⟨[],⟨rfl,X⟩,by rw[O,Z];rfl⟩,J,by rw[O];simp,by rw[Z];simp⟩
 |rref2 b =>
  simp only[be]at u;have hd:cm (sh,ls)≠.dead:=by
   intro e;rw[e]at u;simp[fe,target]at u
  obtain⟨H,hv⟩:=gN hs hl rfl hd;obtain⟨X,J,O,Z⟩:=m9 (c:=(true,b)) h H u;exact⟨⟨[],⟨rfl,X⟩,by rw[O,Z];rfl⟩,J,by rw[O];simp,by rw[Z];simp⟩
 |fn As B =>
  simp only[be]at u;split at u
  ·rename_i As' B' φ hx;obtain⟨H,hv⟩:=gN hs hl hx (by simp);split at u
   ·rename_i hh;obtain⟨rfl,rfl⟩:=hh;simp only[BA]at u;subst u;have hf:hZ P V.w0 V.prot As' B' φ v:=H;exact⟨⟨[],⟨rfl,hZ.move h.size (λk hk=>⟨.inr (.inl hk),h.keep k hk⟩) hf⟩,rfl⟩,by simp,by simp,by simp⟩
   ·cases u
  ·cases u
 |clo f ba =>
  simp only[be]at u;split at u
  ·rename_i f' a2 hx;cases I:BT f' f with
   |false=>simp[I]at u
   |true =>
    simp only[I,cond_true]at u;have I:=BI I;subst I;obtain⟨H,hv⟩:=gN hs hl hx (by simp);obtain⟨X,J⟩:=H;obtain⟨O,Z,h5,h6⟩:=mj h (pZ a2 J) u;exact⟨⟨[],⟨rfl,_,X,O⟩,by rw[h5,h6];rfl⟩,Z,by rw[h5];simp,by rw[h6];simp⟩
  ·rename_i f' a2 hx;cases I:BT f' f with
   |false=>simp[I]at u
   |true =>
    simp only[I,cond_true]at u;have I:=BI I;subst I;obtain⟨H,hv⟩:=gN hs hl hx (by simp);obtain⟨us,X,J,h7⟩:=H;obtain⟨O,Z,h5,h6⟩:=mj h (qD J h7) u;exact⟨⟨[],⟨rfl,us,X,O⟩,by rw[h5,h6];rfl⟩,Z,by rw[h5];simp,by rw[h6];simp⟩
  ·cases u
 |hol b c off =>
  simp only[be]at u;cases I:decide (sh=bf b.isAgg) with
  |false=>simp[I]at u
  |true =>
   rw[I]at u;simp only[cond_true]at u;have M:=of_decide_eq_true I;subst M;split at u
   ·rename_i r' j n a0;split at u
    ·rename_i p i o' E e xs hd;cases a1:BT o' off with
     |false=>simp[a1]at u
     |true =>
      rw[a1]at u;simp only[cond_true]at u;have a1:=BI a1;subst a1;split at u
      ·rename_i t ht;split at u
       ·rename_i y hy;simp only[BA]at u;subst u;have a5:ls[c]?=some (.al r' j n):=by
         rw[B3]at a0;cases hq:ls[c]? with
         |none=>rw[hq]at a0;simp at a0
         |some l0=>rw[hq]at a0;simp at a0;rw[a0]
        have a9:c<cs.length:=by rw[<- hl.length];exact (BD.1 a5).1
        have a3:=BS a9;obtain⟨H,_,a4⟩:=hl.at_ c _ _ a5 a3;obtain⟨_,b1,b5,_⟩:=ke h hd H;obtain⟨X,J,O⟩:=dN (pos:=0) h (hl.setNil c) ht;obtain⟨⟨bb,b2⟩,b3⟩:=na hy;obtain⟨v0,bn,b0,g1,g2,g3,g4⟩:=X.out b2;have b4:bn=[]:=by
         simp only[Cf,CL a9,BA]at g2;obtain⟨b6,b9,q1,q2,_⟩:=g1;obtain⟨A,bl,q4,_⟩:=q1.slice;rw[<- g2]at q2 q4;simp only[Bu]at q4;rw[q2,<- q4.2.1];rfl
        have g5:=Mx.refill a4 g3 hy;simp only[Cf,List.set_set,List.set_getElem_self]at g5;refine⟨⟨_,⟨cs,cs[c],b0,W.bs r' j,E,e,xs,gx hs,g5.mono (iU (by intro h;simp[h]) (λ_ h=>h)),a3,b3,
         b1.2.carry (λk hk=>.inl (bT (W':=W) (by intro h;simp[h]) (λ_ h=>h) k hk)) (λ_ _=>rfl) (λ_ _=>rfl),λk=>?_⟩,rfl⟩,J,?_,by simp⟩
        ·have:=g4 k;rw[b4]at this;simp only[Cx,DL];rw[show aW W ((r',j)::t.kill)=W.bs r' j++aW W t.kill from rfl,BF,this];simp;omega
        ·intro z hz;rcases CG.1 hz with rfl|hz
         ·exact⟨_,b5,trivial⟩
         ·exact O z hz
       ·cases u
      ·cases u
    ·cases u
   ·cases u
end
section
variable {P:Program} {V:Env} {Γ:List Ctr} {T:TypeId->TI} {st:St} {o:Oper} {R:Type} {κ:Upd->Option R} {r:R}
def gP (P:Program)(V:Env)(W:Wit)(st:St)(w:World):List (aG×List Leaf)->List Value->Prop
 |[],y=>y=[]
 |x::H,y=>∃ v u z,y=v::u/\ea x.1 v z/\aC P V W st w x.2 z/\gP P V W st w H u
theorem kp {W:Wit}{w:World}{ga:(pk:PK)->aG×List Leaf->Option (Got pk.den)}
  (H:∀ (pk:PK) (x:aG×List Leaf) (v:Value) (cs:List Value) (g:Got pk.den),ea x.1 v cs->aC P V W st w x.2 cs->ga pk x=some g->wb P V W st w pk v g) :
  ∀ (ps:List PK) (xs:List (aG×List Leaf)) (X:List Value) (g:Got (ab ps)),gP P V W st w xs X->a7 ga ps xs=some g ->
   (∃ I,c7 P w (bi V W g.p g.frz) (jJ V W st g.frz g.see) ps g.val X I/\∀ k,I.flatten.count k=(g.lend.map W.β).count k+(aW W g.kill).count k) /\
    (∀ z∈g.frz,aB st z)/\(∀ z∈g.kill,aB st z)/\(∀ b∈g.lend,live st b)
 |[],[],X,g,u,y=>by
  simp only[a7,BA]at y;subst y;exact⟨⟨[],⟨u,rfl⟩,λk=>by simp[aW]⟩,by simp,by simp,by simp⟩
 |[],_::_,_,_,_,y=>by simp[a7]at y
 |_::_,[],_,_,_,y=>by simp[a7]at y
 |p::ps,x::xs,X,g,u,y=>by
  obtain⟨v,O,cs,rfl,hs,hl,J⟩:=u;simp only[a7]at y;split at y
  ·rename_i g1 Z;split at y
   ·rename_i g2 a0;simp only[BA]at y;subst y;obtain⟨⟨b,h1,h2⟩,h3,h4,h5⟩:=H p x v cs g1 hs hl Z;obtain⟨⟨I,h6,h7⟩,h8,h9,Y⟩:=kp H ps xs O g2 J a0;refine⟨⟨b::I,⟨v,O,b,I,rfl,rfl,h1.mono (iU (by intro h;simp[h]) (λx u=>BJ _ u)) (kJ (λx u=>BJ _ u) (λx u=>BJ _ u)),
     h6.mono (iU (by intro h;simp[h]) (λx u=>BE _ u)) (kJ (λx u=>BE _ u) (λx u=>BE _ u))⟩,λk=>?_⟩,?_,?_,?_⟩
    ·rw[BX,BF,h7 k,h2,BF,DH,BF,dH,BF];omega
    ·intro z M;exact (BL.1 M).elim (h3 z) (h8 z)
    ·intro z M;exact (BL.1 M).elim (h4 z) (h9 z)
    ·intro z M;exact (BL.1 M).elim (h5 z) (Y z)
   ·cases y
  ·cases y
theorem nd:∀ {Γ:List Ctr} {f:FuncId} {c:Ctr},lG Γ f=some c->c∈Γ/\c.f=f
 |[],_,_,h=>by simp[lG]at h
 |H::Γ,f,c,h=>by
  simp only[lG]at h;cases u:BT H.f f with
  |true =>
   simp only[u,cond_true,BA]at h;subst h;exact⟨BW ..,BI u⟩
  |false =>
   simp only[u,cond_false]at h;obtain⟨y,z⟩:=nd h;exact⟨BP _ y,z⟩
theorem tt {w:World}{G pr:Nat->Prop}{q:List PK}{z:ab q}{cv:List Value}{H:List (List Nat)}(J:c7 P w G pr q z cv H):∀ (y:List Ty) (x:Tup y) (u:List Value),rX w G y x u ->
  c7 P w G pr (y.map .rd++q) (nC q z y x) (u++cv) (y.map (λ_=>[])++H)
 |[],_,_,h=>by rw[show _=_ from h];exact J
 |a::y,x,_,⟨v,c,I,rfl,X,O,M⟩=>⟨v,I++cv,[],_,rfl,rfl,⟨rfl,c,X,O⟩,tt J y x.2 I M⟩
theorem p6 {w:World}{ro pr:Nat->Prop}:∀ {ps:List PK} {x:ab ps} {J:List Value} {u:List (List Nat)},ps.all PK.reads=true->c7 P w ro pr ps x J u->u.flatten=[]
 |[],_,_,_,_,⟨_,e⟩=>by rw[e];rfl
 |p::ps,_,_,_,h,⟨v,z,b,y,_,e,H,I⟩=>by
  simp only[Cu,BC]at h;rw[e,BX,p6 h.2 I,Bo];cases p <;> first|exact H.1|simp[PK.reads]at h
theorem p7 {w w1:World}{ro pr ro' I:Nat->Prop}(u:∀ k,ro k->ro' k/\w1.heap[k]?=w.heap[k]?)(y:∀ k,pr k->I k/\w1.heap[k]?=w.heap[k]?):∀ {ps:List PK} {x:ab ps} {Y:List Value} {z:List (List Nat)},
  ps.all PK.reads=true->c7 P w ro pr ps x Y z->c7 P w1 ro' I ps x Y z
 |[],_,_,_,_,h=>h
 |p::ps,x,_,_,O,⟨v,M,b,J,e,e2,H,h2⟩=>by
  simp only[Cu,BC]at O;refine⟨v,M,b,J,e,e2,?_,p7 u y O.2 h2⟩;cases p with
  |rd a =>
   obtain⟨h0,cs,Z,h4⟩:=H;exact⟨h0,cs,Z,h4.carry (λk X=>(u k X).1) (λk X=>(u k X).2)⟩
  |rref a=>exact⟨H.1,H.2.carry u y⟩
  |rref2 a=>exact⟨H.1,H.2.carry u y⟩
  |_=>simp[PK.reads]at O
theorem ml (z:ax V){W:Wit}{p:Bool}{ks:List (Nat×Nat)}{y:List Nat}:∀ k,bi V W p ks k->jJ V W st ks y k:=by
 rintro k ((u|⟨_,u⟩)|u)
 ·exact .inl u
 ·exact .inr (.inl (z.ro k u))
 ·exact .inr (.inr (.inr u))
theorem rq {W:Wit}{ks:List (Nat×Nat)}{y:List Nat}(H:∀ z∈ks,aB st z):∀ k,jJ V W st ks y k->ce V W st k:=by
 rintro k (u|u|⟨b,_,O,e⟩|⟨x,M,u⟩)
 ·exact .inl u
 ·exact .inr (.inl u)
 ·exact .inr (.inr (.inl ⟨b,O,e⟩))
 ·obtain⟨l,I,J⟩:=H x M;exact .inr (.inr (.inr ⟨x.1,x.2,l,I,J,u⟩))
theorem sd {W:Wit}{w:World}:∀ {ls:List Leaf} {us:List Value},aC P V W st w ls us->gP P V W st w (ls.map λl=>(aG.one,[l])) us
 |[],[],_=>rfl
 |_::_,_::_,h=>⟨_,_,[_],rfl,rfl,⟨h.1,trivial⟩,sd h.2⟩
theorem xL (hV:ax V)(hΓ:∀ c∈Γ,bO P c){W:Wit}{a:Act}{w:World}(h:ap P V W st a w){Y:List Ty}{B:Ty}{f:FuncId}{ls:List Leaf}{us:List Value}{v:Value}(hv:v=.func (.func f) #[] us.toArray)(c0:aC P V W st w ls us)
  {g:Got (Tup Y->Option B.den)} (H:kt Γ st Y B f ls=some g):hZ P w (jJ V W st g.frz g.see) Y B g.val v/\(∀ z∈g.frz,aB st z)/\g.kill=[]/\g.lend=[]:=by
 unfold kt at H;split at H
 ·rename_i c hc;obtain⟨b1,rfl⟩:=nd hc;obtain⟨a1,J⟩:=hΓ c b1;obtain⟨f',ps,rs,a2,c6⟩:=c;simp only at H a1 J hv;generalize ps.drop Y.length=q at H;unfold rU at H;split at H
  ·rename_i hh;obtain⟨rfl,rfl⟩:=hh;cases hb:q.all PK.reads&&B.flat&&a2 with
   |false=>simp[hb]at H
   |true =>
    simp only[hb,cond_true]at H;simp only[BC]at hb;obtain⟨⟨b2,b6⟩,bl⟩:=hb;subst bl;split at H
    ·rename_i g0 b4;simp only[BA]at H;subst H;obtain⟨⟨a5,h1,h2⟩,h3,h4,h5⟩:=kp (λpk x v cs g hs hl H=>nc hV h hs hl H) q _ _ g0 (sd c0) b4;have b9:=p6 b2 h1;refine⟨⟨f',us.toArray,hv,a1,λw1 bb O x I y hx hy=>?_⟩,h3,rfl,rfl⟩;simp only[BB]at hy;obtain⟨y0,ad,rfl⟩:=hy;have M:(Y.map (λ_=>([]:List Nat))++a5).flatten=[]:=by
      rw[List.flatten_append,b9,Bo];clear hx ad;induction Y with
      |nil=>rfl
      |cons a Y ih=>simp
     have b3:∀ k,jJ V W st g0.frz g0.see k->k<w1.heap.size:=λk Z=>B8 (h.used_lt k (rq h3 k Z)) bb
     have a6:=tt (P:=P) (pr:=λk=>k<w1.heap.size/\k∉(Y.map (λ_=>([]:List Nat))++a5).flatten)
      (p7 (P:=P) (w1:=w1) (ro':=λk=>k<w1.heap.size) (λk Z=>⟨b3 k (ml hV k Z),O k (ml hV k Z)⟩)
       (λk Z=>⟨⟨b3 k Z,by rw[M];simp⟩,O k Z⟩) b2 h1) Y x I hx
     have a0:=J w1 (λk=>k<w1.heap.size) (nC q g0.val Y x) (I++us) (Y.map (λ_=>[])++a5) y0 a6
      (λk Z=>⟨Z,by rw[M];simp⟩) (by rw[M];exact DM) ad
     have a4:I.toArray++us.toArray=(I++us).toArray:=by simp
     rw[a4];refine a0.mono λe w2 a3=>?_
     obtain⟨u,c5,N,cb,c3,rfl,X,a9,c1,b5,bx,bn,_,_,b0,_,_⟩:=a3;obtain⟨u1,c4,b,c2,e1,e2,⟨cs,ba,hm⟩,e3,e4⟩:=b0;subst e3;subst e1;have X:u=u1:=X;subst X;exact⟨u,cs,rfl,ba,jW b6 hm,⟨c1,b5,bx,a9,λk Z=>bn k Z (by rw[M];simp)⟩⟩
    ·cases H
  ·cases H
 ·cases H
theorem uv (Y:ax V)(hΓ:∀ c∈Γ,bO P c){W:Wit}{a:Act}{w:World}(h:ap P V W st a w)(pk:PK)(x:aG×List Leaf)(v:Value)(cs:List Value)(g:Got pk.den)(X:ea x.1 v cs)(O:aC P V W st w x.2 cs)
  (H:cd Γ st pk x=some g):wb P V W st w pk v g:=by
 cases pk with
 |fn As B =>
  simp only[cd]at H;split at H
  ·rename_i Z y;have J:(∃ u,cm x=.clo Z.1 u/\Z.2=u.map λb=>Leaf.bp b 0)\/∃ u,cm x=.clr Z.1 u/\Z.2=u.map eL:=by
    generalize cm x=l at y;cases l <;> simp only[vj,BA,reduceCtorEq]at y
    ·subst y;exact .inl ⟨_,rfl,rfl⟩
    ·subst y;exact .inr ⟨_,rfl,rfl⟩
   rcases J with ⟨u,J,he⟩|⟨u,J,he⟩
   ·obtain⟨z,_⟩:=gN X O J (by simp);rw[he]at H;obtain⟨h1,h2,I,M⟩:=xL Y hΓ h z.1 (pZ u z.2) H;exact⟨⟨[],⟨rfl,h1⟩,by rw[I,M];rfl⟩,h2,by rw[I];simp,by rw[M];simp⟩
   ·obtain⟨z,_⟩:=gN X O J (by simp);rw[he]at H;obtain⟨us,e1,e2,e3⟩:=z;obtain⟨h1,h2,I,M⟩:=xL Y hΓ h e1 (qD e2 e3) H;exact⟨⟨[],⟨rfl,h1⟩,by rw[I,M];rfl⟩,h2,by rw[I];simp,by rw[M];simp⟩
  ·exact nc Y h X O H
 |_=>exact nc Y h X O H
end
section
variable {P:Program} {V:Env} {W:Wit} {st st':St} {w w':World} {a:Act}
theorem iG {G:Nat->Prop}{p:Bool}(hG:∀ k,G k->gd V W p k):∀ {b:Ty} {pos:Nat} {x:b.den} {cs:List Value} {bs:List Nat},Mx w G b none pos x cs bs->bs.Nodup ->
  ∃ Z:Nat->List Nat,(aq p b x).length=cs.length /\
   (∀ (j:Nat) (l:Leaf) (u:Value),(aq p b x)[j]?=some l->cs[j]?=some u->aI P V W st w (Z j) l u) /\
   (∀ (j:Nat) (l:Leaf),(aq p b x)[j]?=some l->ao l->∀ k∈Z j,k∈bs) /\
   (∀ (j M:Nat) (l l':Leaf),(aq p b x)[j]?=some l->ao l->(aq p b x)[M]?=some l'->ao l'->∀ k,k∈Z j->k∈Z M->j=M)
 |.int k,_,x,cs,bs,H,_=>by
  obtain⟨rfl,rfl⟩:=H;exact⟨λ_=>[],rfl,λj l u y R=>by cases j with|zero=>simp[aq]at y R;subst y;subst R;rfl|succ j=>simp[aq]at y,λj l y _ k r=>by simp at r,λj M l l' _ _ _ _ k r=>by simp at r⟩
 |.bool,_,x,cs,bs,H,_=>by
  obtain⟨rfl,rfl⟩:=H;exact⟨λ_=>[],rfl,λj l u y R=>by cases j with|zero=>simp[aq]at y R;subst y;subst R;rfl|succ j=>simp[aq]at y,λj l y _ k r=>by simp at r,λj M l l' _ _ _ _ k r=>by simp at r⟩
 |.str,_,x,cs,bs,H,_=>by
  obtain⟨rfl,rfl⟩:=H;exact⟨λ_=>[],rfl,λj l u y R=>by cases j with|zero=>simp[aq]at y R;subst y;subst R;rfl|succ j=>simp[aq]at y,λj l y _ k r=>by simp at r,λj M l l' _ _ _ _ k r=>by simp at r⟩
 |.unit,_,x,cs,bs,H,_=>by
  obtain⟨rfl,rfl⟩:=H;exact⟨λ_=>[],rfl,λj l u y R=>by simp[aq]at y,λj l y _ k r=>by simp at r,λj M l l' _ _ _ _ k r=>by simp at r⟩
 |.hdr,_,x,cs,bs,H,_=>by
  obtain⟨⟨A,a2,rfl⟩,rfl⟩:=H;exact⟨λ_=>[],rfl,λj l u y R=>by cases j with|zero=>simp[aq]at y R;subst y;subst R;exact⟨A,a2,rfl⟩|succ j=>simp[aq]at y,λj l y _ k r=>by simp at r,λj M l l' _ _ _ _ k r=>by simp at r⟩
 |.pair b c,pos,x,cs,bs,⟨c1,c2,b1,b2,e1,e2,y,R⟩,Y=>by
  subst e1;subst e2;rw[B5]at Y;obtain⟨d1,f1,f2,f3,f4⟩:=iG hG y Y.1;obtain⟨d2,g1,g2,g3,g4⟩:=iG hG R Y.2.1;have a5:=cI p b x.1;have a4:=y.len;have z:∀ (j:Nat) (l:Leaf),(aq p b x.1++aq p c x.2)[j]?=some l->(j<b.cells/\(aq p b x.1)[j]?=some l)\/(b.cells<=j/\(aq p c x.2)[j-b.cells]?=some l):=by
   intro j l I;by_cases O:j<b.cells
   ·rw[BH (by omega)]at I;exact .inl ⟨O,I⟩
   ·rw[BG (by omega),a5]at I;exact .inr ⟨by omega,I⟩
  refine⟨λj=>if j<b.cells then d1 j else d2 (j-b.cells),by simp only[aq,BR];omega,λj l u I hu=>?_,λj l I ho k r=>?_,λj M l l' I ho X a0 k r J=>?_⟩
  ·rcases z j l I with ⟨O,I⟩|⟨a3,I⟩
   ·rw[BH (by omega)]at hu;simp only[if_pos O];exact f2 j l u I hu
   ·rw[BG (by omega),a4]at hu;simp only[if_neg (show ¬ j<b.cells by omega)];exact g2 _ l u I hu
  ·rcases z j l I with ⟨O,I⟩|⟨a3,I⟩
   ·simp only[if_pos O]at r;exact BJ _ (f3 j l I ho k r)
   ·simp only[if_neg (show ¬ j<b.cells by omega)]at r;exact BE _ (g3 _ l I ho k r)
  ·rcases z j l I with ⟨O,I⟩|⟨a3,I⟩ <;> rcases z M l' X with ⟨a1,X⟩|⟨a6,X⟩
   ·simp only[if_pos O]at r;simp only[if_pos a1]at J;exact f4 j M l l' I ho X a0 k r J
   ·simp only[if_pos O]at r;simp only[if_neg (show ¬ M<b.cells by omega)]at J;exact absurd rfl (Y.2.2 k (f3 j l I ho k r) k (g3 _ l' X a0 k J))
   ·simp only[if_neg (show ¬ j<b.cells by omega)]at r;simp only[if_pos a1]at J;exact absurd rfl (Y.2.2 k (f3 M l' X a0 k J) k (g3 _ l I ho k r))
   ·simp only[if_neg (show ¬ j<b.cells by omega)]at r;simp only[if_neg (show ¬ M<b.cells by omega)]at J;have:=g4 _ _ l l' I ho X a0 k r J;omega
 |.list m E e,pos,xs,cs,bs,H,Y=>by
  cases m with
  |false =>
   rw[co]at H;obtain⟨rfl,A,a2,rfl,R,h3⟩:=H;refine⟨λ_=>[],rfl,λj l u y h4=>?_,λj l y _ k r=>by simp at r,λj M l l' _ _ _ _ k r=>by simp at r⟩;cases j with
   |zero =>
    simp[aq]at y h4;subst y;subst h4;exact Rd.mono hG (⟨A,a2,rfl,R,h3⟩:Rd w G (.list false E e) xs _)
   |succ j=>simp[aq]at y
  |true =>
   rw[bH (by simp)]at H;obtain⟨v,rfl,hO⟩:=H;refine⟨λ_=>bs,rfl,λj l u y h4=>?_,λj l y _ k r=>r,λj M l l' y _ h3 _ k _ _=>?_⟩
   ·cases j with
    |zero =>
     simp[aq]at y h4;subst y;subst h4;exact⟨Y,OwB.shy (hO.carry hG (λ_ _=>rfl) (λ_ _=>rfl))⟩
    |succ j=>simp[aq]at y
   ·have h7:j<1:=by simpa[aq]using (BD.1 y).1
    have h8:M<1:=by simpa[aq]using (BD.1 h3).1
    omega
theorem ap.reown (hV:ax V)(h:ap P V W st a w)(r:Nat)(c:bS)(M:Nat->List Nat)(a3:(st r).ver<c.ver)(a1:c.sh=(st r).sh)(Z:c.ls.length=(st r).ls.length)
  (a2:∀ (j:Nat) (l:Leaf) (v:Value),c.ls[j]?=some l->(W.cs r)[j]?=some v->aI P V W st w (M j) l v)
  (Y:∀ (j:Nat) (l:Leaf),c.ls[j]?=some l->ao l->∀ k∈M j,¬ W.nw k/\¬ V.prot k/\(∀ b,live st b->W.β b≠k) /\
   ∀ (r1 j1:Nat) (l1:Leaf),r1≠r->(st r1).ls[j1]?=some l1->ao l1->k∉W.bs r1 j1)
  (a4:∀ (j j':Nat) (l l':Leaf),c.ls[j]?=some l->ao l->c.ls[j']?=some l'->ao l'->∀ k,k∈M j->k∈M j'->j=j') :
  ap P V { W with bs:=λr' j=>if r'=r then M j else W.bs r' j } (ac [(r,c)] st) a w:=by
 have I:∀ b,live (ac [(r,c)] st) b<->live st b:=by
  intro b;rcases ak r b c st with ⟨rfl,e⟩|⟨_,e⟩
  ·simp[live,e,a1]
  ·simp[live,e]
 have X:cE V W { W with bs:=λr' j=>if r'=r then M j else W.bs r' j } st (ac [(r,c)] st) w w:=by
  refine⟨λq=>?_,λb R=>⟨(I b).2 R,rfl⟩,λ_ h=>h,λ_ _=>rfl,λ_ q j' l' J h4 h5=>?_⟩
  ·rcases ak r q c st with ⟨rfl,e⟩|⟨y,e⟩
   ·rw[e];exact⟨Nat.le_of_lt a3,λ_=>rfl⟩
   ·rw[e];exact⟨BU _,λ_=>rfl⟩
  ·rcases ak r q c st with ⟨rfl,e⟩|⟨y,e⟩
   ·rw[e]at h5;omega
   ·rw[e]at J;exact⟨⟨l',J,h4⟩,by simp[y],λ_ _=>rfl⟩
 exact {
  nt:=h.nt,df:=h.df
  slots:=λt ht=>by
   rcases ak r t c st with ⟨rfl,e⟩|⟨_,e⟩
   ·rw[e,a1];exact h.slots t ht
   ·rw[e];exact h.slots t ht
  boxes:=λb R=>by
   rcases ak r b c st with ⟨rfl,e⟩|⟨_,e⟩
   ·rw[e,a1];rcases h.boxes b R with ⟨h1,z⟩|h1
    ·refine .inl ⟨h1,?_⟩;rw[z]at Z;exact BV Z
    ·exact .inr h1
   ·rw[e];exact h.boxes b R
  len:=λq=>by
   rcases ak r q c st with ⟨rfl,e⟩|⟨_,e⟩
   ·rw[e,Z];exact h.len q
   ·rw[e];exact h.len q
  one:=h.one
  leaf:=λq j l u z J=>by
   rcases ak r q c st with ⟨rfl,e⟩|⟨y,e⟩
   ·rw[e]at z;exact (a2 j l u z J).carry hV.ro X (λ_=>⟨by simp,λ_ _=>rfl⟩)
   ·rw[e]at z;exact (h.leaf q j l u z J).carry hV.ro X (λ_=>⟨by simp[y],λ_ _=>rfl⟩)
  ownb:=λq j l z J k O=>by
   rcases ak r q c st with ⟨rfl,e⟩|⟨y,e⟩
   ·rw[e]at z;simp only[if_true]at O;have:=Y j l z J k O;exact⟨this.1,this.2.1,λb R=>this.2.2.1 b ((I b).1 R)⟩
   ·rw[e]at z;simp only[y,if_false]at O;have:=h.ownb q j l z J k O;exact⟨this.1,this.2.1,λb R=>this.2.2 b ((I b).1 R)⟩
  sep:=λq j l q' j' l' z J h4 h5 k O H=>by
   rcases ak r q c st with ⟨e0,e⟩|⟨y,e⟩ <;> rcases ak r q' c st with ⟨e1,e'⟩|⟨a0,e'⟩
   ·rw[e]at z;rw[e']at h4;simp only[e0,if_true]at O;simp only[e1,if_true]at H;exact⟨e0.trans e1.symm,a4 j j' l l' z J h4 h5 k O H⟩
   ·rw[e]at z;rw[e']at h4;simp only[e0,if_true]at O;simp only[a0,if_false]at H;exact absurd H ((Y j l z J k O).2.2.2 q' j' l' a0 h4 h5)
   ·rw[e]at z;rw[e']at h4;simp only[y,if_false]at O;simp only[e1,if_true]at H;exact absurd O ((Y j' l' h4 h5 k H).2.2.2 q j l y z J)
   ·rw[e]at z;rw[e']at h4;simp only[y,if_false]at O;simp only[a0,if_false]at H;exact h.sep q j l q' j' l' z J h4 h5 k O H
  box:=λb R=>h.box b ((I b).1 R)
  inj:=λb b' R a5=>h.inj b b' ((I b).1 R) ((I b').1 a5)
  nwlt:=h.nwlt
  os:=h.os,tape:=h.tape,output:=h.output,size:=h.size,keep:=h.keep
  fixb:=λx hx=>⟨(I _).2 (h.fixb x hx).1,(h.fixb x hx).2⟩
  fixt:=h.fixt }
theorem ap.reownE (hV:ax V)(h:ap P V W st a w)(r:Nat)(c:bS)(J:Nat->List Nat)(a5:r≠EPO)(a1:(st r).ver<=c.ver)(a9:c.sh=(st r).sh)(a3:c.ls.length=(st r).ls.length)
  (a0:∀ (j:Nat) (l:Leaf) (v:Value),c.ls[j]?=some l->(W.cs r)[j]?=some v->aI P V W st w (J j) l v)
  (Y:∀ (j:Nat) (l:Leaf),c.ls[j]?=some l->ao l->∀ k∈J j,¬ W.nw k/\¬ V.prot k/\(∀ b,live st b->W.β b≠k) /\
   ∀ (r1 j1:Nat) (l1:Leaf),r1≠r->(st r1).ls[j1]?=some l1->ao l1->k∉W.bs r1 j1)
  (a4:∀ (j j':Nat) (l l':Leaf),c.ls[j]?=some l->ao l->c.ls[j']?=some l'->ao l'->∀ k,k∈J j->k∈J j'->j=j') :
  ap P V { W with bs:=λr' j=>if r'=r then J j else W.bs r' j } (ac [(r,c),(EPO,bU (st EPO))] st) a w /\
   (∀ q,(ac [(r,c),(EPO,bU (st EPO))] st q).sh=(st q).sh/\(st q).ver<=(ac [(r,c),(EPO,bU (st EPO))] st q).ver/\(q≠r->(ac [(r,c),(EPO,bU (st EPO))] st q).ls=(st q).ls))/\ac [(r,c),(EPO,bU (st EPO))] st r=c:=by
 have e0:ac [(r,c),(EPO,bU (st EPO))] st=ac [(r,c)] (ac [(EPO,bU (st EPO))] st):=aO _ _ _ _;generalize hS:ac [(r,c),(EPO,bU (st EPO))] st=S;rw[e0]at hS;have hr:S r=c:=by rw[<- hS,bg]
 have O:∀ q,(S q).sh=(st q).sh/\(st q).ver<=(S q).ver/\(q≠r->(S q).ls=(st q).ls):=by
  intro q;rw[<- hS];rcases ak r q c (ac [(EPO,bU (st EPO))] st) with ⟨rfl,e⟩|⟨ad,e⟩
  ·rw[e];exact⟨a9,a1,λh=>absurd rfl h⟩
  ·rw[e];rcases ak EPO q (bU (st EPO)) st with ⟨rfl,e⟩|⟨_,e⟩ <;> rw[e]
   ·exact⟨rfl,DD _,λ_=>rfl⟩
   ·exact⟨rfl,BU _,λ_=>rfl⟩
 have hE:(st EPO).ver<(S EPO).ver:=by
  rw[<- hS,aH (CE a5),bg];exact BM _
 refine⟨?_,O,hr⟩;have I:∀ b,live S b<->live st b:=λb=>by simp[live,(O b).1]
 have R:cE V W { W with bs:=λr' j=>if r'=r then J j else W.bs r' j } st S w w :=
  ⟨λq=>⟨(O q).2.1,λ_=>rfl⟩,λb X=>⟨(I b).2 X,rfl⟩,λ_ h=>h,λ_ _=>rfl,λhe=>by omega⟩
 have a2:∀ q,(S q).ls.length=(st q).ls.length:=λq=>by
  by_cases y:q=r
  ·rw[y,hr,a3]
  ·rw[(O q).2.2 y]
 exact {
  nt:=h.nt,df:=h.df
  slots:=λt ht=>by rw[(O t).1];exact h.slots t ht
  boxes:=λb X=>by
   rw[(O b).1];rcases h.boxes b X with ⟨h1,z⟩|h1
   ·refine .inl ⟨h1,BV ?_⟩;rw[a2,z];rfl
   ·exact .inr h1
  len:=λq=>by rw[a2];exact h.len q
  one:=h.one
  leaf:=λq j l u z Z=>by
   by_cases y:q=r
   ·subst y;rw[hr]at z;exact (a0 j l u z Z).carry hV.ro R (λ_=>⟨by simp,λ_ _=>rfl⟩)
   ·rw[(O q).2.2 y]at z;exact (h.leaf q j l u z Z).carry hV.ro R (λ_=>⟨by simp[y],λ_ _=>rfl⟩)
  ownb:=λq j l z Z k M=>by
   by_cases y:q=r
   ·subst y;rw[hr]at z;simp only[if_true]at M;have:=Y j l z Z k M;exact⟨this.1,this.2.1,λb X=>this.2.2.1 b ((I b).1 X)⟩
   ·rw[(O q).2.2 y]at z;simp only[y,if_false]at M;have:=h.ownb q j l z Z k M;exact⟨this.1,this.2.1,λb X=>this.2.2 b ((I b).1 X)⟩
  sep:=λq j l q' j' l' z Z h4 h5 k M H=>by
   by_cases e0:q=r <;> by_cases e1:q'=r
   ·subst e0;subst e1;rw[hr]at z h4;simp only[if_true]at M H;exact⟨rfl,a4 j j' l l' z Z h4 h5 k M H⟩
   ·subst e0;rw[hr]at z;rw[(O q').2.2 e1]at h4;simp only[if_true]at M;simp only[e1,if_false]at H;exact absurd H ((Y j l z Z k M).2.2.2 q' j' l' e1 h4 h5)
   ·subst e1;rw[(O q).2.2 e0]at z;rw[hr]at h4;simp only[e0,if_false]at M;simp only[if_true]at H;exact absurd M ((Y j' l' h4 h5 k H).2.2.2 q j l e0 z Z)
   ·rw[(O q).2.2 e0]at z;rw[(O q').2.2 e1]at h4;simp only[e0,if_false]at M;simp only[e1,if_false]at H;exact h.sep q j l q' j' l' z Z h4 h5 k M H
  box:=λb X=>h.box b ((I b).1 X)
  inj:=λb b' X a6=>h.inj b b' ((I b).1 X) ((I b').1 a6)
  nwlt:=h.nwlt
  os:=h.os,tape:=h.tape,output:=h.output,size:=h.size,keep:=h.keep
  fixb:=λx hx=>⟨(I _).2 (h.fixb x hx).1,(h.fixb x hx).2⟩
  fixt:=h.fixt }
theorem ap.nwGrow (O:ax V)(h:ap P V W st a w)(N:Nat->Prop)(M:∀ k,N k->k<w.heap.size/\¬ ce V W st k):ap P V { W with nw:=λk=>W.nw k\/N k } st a w:=by
 have H:cE V W { W with nw:=λk=>W.nw k\/N k } st st w w:=⟨λr=>⟨BU _,λ_=>rfl⟩,λb J=>⟨J,rfl⟩,λ_ h=>.inl h,λ_ _=>rfl,λ_ _ _ l y z _=>⟨⟨l,y,z⟩,rfl,λ_ _=>rfl⟩⟩
 exact {
  nt:=h.nt,df:=h.df,slots:=h.slots,boxes:=h.boxes,len:=h.len,one:=h.one
  leaf:=λr j l v y z=>(h.leaf r j l v y z).carry O.ro H (λ_=>⟨rfl,λ_ _=>rfl⟩)
  ownb:=λr j l y z k u=>⟨λI=>I.elim (h.ownb r j l y z k u).1 (λI=>(M k I).2 (.inr (.inr (.inr ⟨r,j,l,y,z,u⟩)))),(h.ownb r j l y z k u).2⟩
  sep:=h.sep
  box:=λb J=>⟨λI=>I.elim (h.box b J).1 (λI=>(M _ I).2 (.inr (.inr (.inl ⟨b,J,rfl⟩)))),(h.box b J).2⟩
  inj:=h.inj
  nwlt:=λk u=>u.elim (h.nwlt k) (λu=>⟨(M k u).1,λR=>(M k u).2 (.inr (.inl R))⟩)
  os:=h.os,tape:=h.tape,output:=h.output,size:=h.size,keep:=h.keep,fixb:=h.fixb,fixt:=h.fixt }
end
def eJ:List Leaf->List Leaf->List (Nat×Nat)
 |.al r j _::u,l::y=>(match l with|.own _ _ _ _ _=>[(r,j)]|_=>[])++eJ u y
 |_::u,_::y=>eJ u y
 |_,_=>[]
section
variable {P:Program} {V:Env} {st st':St} {w w':World} {a:Act}
theorem ne {x l:Leaf}{xs ls:List Leaf}(h:¬ ao l):eJ (x::xs) (l::ls)=eJ xs ls:=by
 cases x <;> try rfl
 cases l <;> first|exact absurd trivial h|rfl
theorem uX {k:IntKind}{ls:List Leaf}{x:Bool×(Ty.int k).den×List Leaf}(h:aZ st (.int k) ls=some x):∃ l,ls=l::x.2.2:=by
 simp only[aZ]at h;split at h
 ·split at h
  ·simp only[BA]at h;subst h;exact⟨_,rfl⟩
  ·cases h
 ·cases h
theorem tu {ls:List Leaf}{x:Bool×Ty.bool.den×List Leaf}(h:aZ st .bool ls=some x):∃ l,ls=l::x.2.2:=by
 simp only[aZ]at h;split at h
 ·simp only[BA]at h;subst h;exact⟨_,rfl⟩
 ·cases h
theorem uY {ls:List Leaf}{x:Bool×Ty.str.den×List Leaf}(h:aZ st .str ls=some x):∃ l,ls=l::x.2.2:=by
 simp only[aZ]at h;split at h
 ·simp only[BA]at h;subst h;exact⟨_,rfl⟩
 ·cases h
theorem uZ {ls:List Leaf}{x:Bool×Ty.hdr.den×List Leaf}(h:aZ st .hdr ls=some x):∃ l,ls=l::x.2.2:=by
 simp only[aZ]at h;split at h
 ·split at h
  ·simp only[BA]at h;subst h;exact⟨_,rfl⟩
  ·cases h
 ·cases h
theorem kX {p:Bool}:∀ (b:Ty) (ls:List Leaf) (t:cK b.den),take st b ls=some t->∀ (y:b.den) (r:List Leaf),eJ ls (aq p b y++r)=t.kill++eJ t.rest r
 |.pair b c,ls,t,h,y,r=>by
  simp only[take]at h;split at h
  ·rename_i u z;split at h
   ·rename_i v I;simp only[BA]at h;subst h;simp only[aq];rw[BQ,kX b ls u z y.1,kX c u.rest v I y.2,BQ]
   ·cases h
  ·cases h
 |.unit,ls,t,h,y,r=>by
  simp only[take,BA]at h;subst h;rfl
 |.list m E e,ls,t,h,y,r=>by
  cases ls with
  |nil=>simp[take]at h
  |cons l ls =>
   cases m with
   |false =>
    simp only[take,cond_false]at h;split at h
    ·simp only[BA]at h;subst h;exact ne id
    ·cases h
   |true =>
    simp only[take,cond_true]at h;split at h
    ·split at h
     ·simp only[BB]at h;obtain⟨O,_,rfl⟩:=h;rfl
     ·cases h
    ·simp only[BA]at h;subst h;rfl
    ·cases h
 |.int k,ls,t,h,y,r=>scal (b:=.int k) h uX (l':=.int k y) id
 |.bool,ls,t,h,y,r=>scal (b:=.bool) h tu (l':=.bool y) id
 |.str,ls,t,h,y,r=>scal (b:=.str) h uY (l':=.str y) id
 |.hdr,ls,t,h,y,r=>scal (b:=.hdr) h uZ (l':=.hdr y) id
where
 scal {b:Ty} {ls:List Leaf} {t:cK b.den} {l':Leaf} {r:List Leaf} (h:(aZ st b ls).map (λx=>(⟨false,x.2.1,[],[],x.2.2⟩:cK b.den))=some t)
   (H:∀ {ls:List Leaf} {x:Bool×b.den×List Leaf},aZ st b ls=some x->∃ l,ls=l::x.2.2) (J:¬ ao l'):eJ ls ([l']++r)=t.kill++eJ t.rest r:=by
  simp only[BB]at h;obtain⟨x,M,rfl⟩:=h;obtain⟨l,rfl⟩:=H M;exact ne J
theorem yQ {W W':Wit}{bs:List Nat}{l:Leaf}{v:Value}(u:ao l)(y:W'.nw=W.nw)(h:aI P V W st w bs l v):aI P V W' st' w bs l v:=by
 cases l <;> simp only[ao]at u;exact OwH.carry h (λk r=>by
  rcases r with r|r
  ·exact .inl (by rw[y];exact r)
  ·exact .inr r) (λ_ _=>rfl) (λ_ _=>rfl)
theorem wc {S:St}{x l:Leaf}{xs ls:List Leaf}(h:¬ ao l):ac (b8 S (x::xs) (l::ls)) S=ac (b8 S xs ls) S:=by
 cases x <;> try rfl
 cases l <;> first|exact absurd trivial h|rfl
theorem jK {x:Nat×Nat}{l:List (Nat×Nat)}(h:aX (x::l)=true):x∉l/\aX l=true:=by
 simp only[aX,BC,BY,Bt]at h;exact⟨λr=>by have:=h.1 x r;simp at this,h.2⟩
theorem zp (hV:ax V){W:Wit}{S:St}(h:ap P V W S a w):∀ (xl ls:List Leaf) (cs:List Value) (O:Nat->List Nat),aX (eJ xl ls)=true->(∀ x∈eJ xl ls,x.1≠EPO)->xl.length=cs.length->ls.length=cs.length ->
  (∀ (i r j n:Nat) (l:Leaf) (u:Value),xl[i]?=some (.al r j n)->ls[i]?=some l->ao l->cs[i]?=some u->(W.cs r)[j]?=some u) ->
  (∀ x∈eJ xl ls,∀ l,(S x.1).ls[x.2]?=some l->¬ ao l) ->
  (∀ (i:Nat) (l:Leaf) (u:Value),ls[i]?=some l->cs[i]?=some u->aI P V W S w (O i) l u) ->
  (∀ (i:Nat) (l:Leaf),ls[i]?=some l->ao l->∀ k∈O i,¬ ce V W S k) ->
  (∀ (i i':Nat) (l l':Leaf),ls[i]?=some l->ao l->ls[i']?=some l'->ao l'->∀ k,k∈O i->k∈O i'->i=i') ->
  ∃ W',ap P V W' (ac (b8 S xl ls) S) a w/\W'.cs=W.cs/\W'.β=W.β/\W'.nw=W.nw/\(∀ q,(ac (b8 S xl ls) S q).sh=(S q).sh/\(S q).ver<=(ac (b8 S xl ls) S q).ver) /\
   (∀ (q i:Nat),(q,i)∉eJ xl ls->(ac (b8 S xl ls) S q).ls[i]?=(S q).ls[i]?/\W'.bs q i=W.bs q i) /\
   (∀ k,ce V W' (ac (b8 S xl ls) S) k->ce V W S k\/∃ i l,ls[i]?=some l/\ao l/\k∈O i)
 |[],ls,cs,O,_,_,hx,hl,_,_,_,_,_=>⟨W,h,rfl,rfl,rfl,λ_=>⟨rfl,BU _⟩,λ_ _ _=>⟨rfl,rfl⟩,λk R=>.inl R⟩
 |x::X,[],cs,O,_,_,hx,hl,_,_,_,_,_=>by simp at hx hl;omega
 |x::X,l::ls,[],O,_,_,hx,hl,_,_,_,_,_=>by simp at hx
 |x::X,l::ls,u::cs,O,hd,b6,hx,hl,ba,b4,a2,a3,b0=>by
  have b3:aX (eJ X ls)=true:=by
   cases x with
   |al r j n =>
    cases l with
    |own p hh E e ys=>exact (jK hd).2
    |_=>exact hd
   |_=>exact hd
  have ad:∀ z∈eJ X ls,z∈eJ (x::X) (l::ls):=by
   intro z hz;cases x with
   |al r j n=>exact BE _ hz
   |_=>exact hz
  obtain⟨W1,h1,e1,e2,e3,e4,e5,e6⟩:=zp hV h X ls cs (λi=>O (i+1)) b3 (λz hz=>b6 z (ad z hz)) (by simpa using hx) (by simpa using hl)
   (λi r j n l' u' J I M g4=>ba (i+1) r j n l' u' (by simpa using J) (by simpa using I) M (by simpa using g4))
   (λz hz=>b4 z (ad z hz)) (λi l' u' J I=>a2 (i+1) l' u' (by simpa using J) (by simpa using I))
   (λi l' J I=>a3 (i+1) l' (by simpa using J) I)
   (λi i' l1 l2 J I M g4 k g5 g6=>by have:=b0 (i+1) (i'+1) l1 l2 (by simpa using J) I (by simpa using M) g4 k g5 g6;omega)
  by_cases hs:¬ ao l\/(∀ r j n,x≠.al r j n)
  ·have a6:ac (b8 S (x::X) (l::ls)) S=ac (b8 S X ls) S/\eJ (x::X) (l::ls)=eJ X ls:=by
    rcases hs with hs|hs
    ·exact⟨wc hs,ne hs⟩
    ·cases x with
     |al r j n=>exact absurd rfl (hs r j n)
     |_=>exact⟨rfl,rfl⟩
   rw[a6.1,a6.2];exact⟨W1,h1,e1,e2,e3,e4,e5,λk R=>(e6 k R).imp id λ⟨i,l',J,I,M⟩=>⟨i+1,l',by simpa using J,I,M⟩⟩
  ·simp only[not_or,Classical.not_not]at hs;obtain⟨bl,bb⟩:=hs;obtain⟨r,j,n,rfl⟩:∃ r j n,x=.al r j n:=by
    cases x with
    |al r j n=>exact⟨r,j,n,rfl⟩
    |_=>exact absurd (λ_ _ _ h=>by cases h) bb
   obtain⟨p,hh,E,e,ys,rfl⟩:∃ p hh E e ys,l=.own p hh E e ys:=by
    cases l <;> simp only[ao]at bl;exact⟨_,_,_,_,_,rfl⟩
   have b1:eJ (.al r j n::X) (.own p hh E e ys::ls)=(r,j)::eJ X ls:=rfl;rw[b1]at hd b4;obtain⟨c0,bx⟩:=jK hd;have hv:=ba 0 r j n _ u rfl rfl trivial rfl;have a6:ac (b8 S (.al r j n::X) (.own p hh E e ys::ls)) S=ac [(r,⟨(ac (b8 S X ls) S r).ver,(ac (b8 S X ls) S r).sh,aS (ac (b8 S X ls) S r).ls j (.own p hh E e ys)⟩),(EPO,bU (ac (b8 S X ls) S EPO))] (ac (b8 S X ls) S):=bz [_,_] _ _;have a9:aI P V W1 (ac (b8 S X ls) S) w (O 0) (.own p hh E e ys) u:=yQ trivial e3 (a2 0 _ u rfl rfl);have Y:∀ k∈O 0,¬ ce V W1 (ac (b8 S X ls) S) k:=λk R hu=>by
    rcases e6 k hu with hu|⟨i,l',J,I,M⟩
    ·exact a3 0 _ rfl trivial k R hu
    ·have:=b0 0 (i+1) _ l' rfl trivial (by simpa using J) I k R M;omega
   have H:∀ (i:Nat) (l':Leaf),i≠j->(aS (ac (b8 S X ls) S r).ls j (.own p hh E e ys))[i]?=some l'->(ac (b8 S X ls) S r).ls[i]?=some l':=by
    intro i l' a5 Z;rcases aQ _ _ _ _ _ Z with ⟨rfl,_,_⟩|⟨_,Z⟩
    ·exact absurd rfl a5
    ·exact Z
   have b5:∀ (l':Leaf),(aS (ac (b8 S X ls) S r).ls j (.own p hh E e ys))[j]?=some l'->l'=.own p hh E e ys:=by
    intro l' Z;rcases aQ _ _ _ _ _ Z with ⟨_,rfl,_⟩|⟨a5,_⟩
    ·rfl
    ·exact absurd rfl a5
   have bn:r≠EPO:=b6 (r,j) (by rw[b1];exact BW ..);obtain⟨h2,a4,b9⟩:=h1.reownE hV r ⟨(ac (b8 S X ls) S r).ver,(ac (b8 S X ls) S r).sh,aS (ac (b8 S X ls) S r).ls j (.own p hh E e ys)⟩ (λi=>if i=j then O 0 else W1.bs r i) bn (BU _) rfl (by simp[aS])
    (λi l' v' J I=>by
     by_cases y:i=j
     ·subst y;obtain rfl:=b5 l' J;rw[e1,hv]at I;simp only[BA]at I;subst I;simp only[if_true];exact a9
     ·simp only[if_neg y];exact h1.leaf r i l' v' (H i l' y J) I)
    (λi l' J I k R=>by
     by_cases y:i=j
     ·subst y;simp only[if_true]at R;have hu:=Y k R;simp only[ce,not_or,not_exists,not_and]at hu;exact⟨hu.1,hu.2.1,hu.2.2.1,λr1 j1 l1 _ M g4 g5=>hu.2.2.2 r1 j1 l1 M g4 g5⟩
     ·simp only[if_neg y]at R;have Z:=H i l' y J;have h9:=h1.ownb r i l' Z I k R;exact⟨h9.1,h9.2.1,h9.2.2,λr1 j1 l1 a5 M g4 g5=>a5 (h1.sep r i l' r1 j1 l1 Z I M g4 k R g5).1.symm⟩)
    (λi i' l1 l2 J I M g4 k R a1=>by
     by_cases y:i=j <;> by_cases a0:i'=j
     ·omega
     ·subst y;simp only[if_true]at R;simp only[if_neg a0]at a1;exact absurd (.inr (.inr (.inr ⟨r,i',l2,H i' l2 a0 M,g4,a1⟩))) (Y k R)
     ·subst a0;simp only[if_true]at a1;simp only[if_neg y]at R;exact absurd (.inr (.inr (.inr ⟨r,i,l1,H i l1 y J,I,R⟩))) (Y k a1)
     ·simp only[if_neg y]at R;simp only[if_neg a0]at a1;exact (h1.sep r i l1 r i' l2 (H i l1 y J) I (H i' l2 a0 M) g4 k R a1).2)
   rw[a6];refine⟨_,h2,e1,e2,e3,λq=>?_,λq i hq=>?_,λk R=>?_⟩
   ·exact⟨(a4 q).1.trans (e4 q).1,B6 (e4 q).2 (a4 q).2.1⟩
   ·rw[b1]at hq;simp only[CG,not_or]at hq;by_cases b2:q=r
    ·subst b2;rw[b9];have y:j≠i:=λe0=>hq.1 (by rw[e0])
     simp only[aS];rw[CD y];refine⟨(e5 q i hq.2).1,?_⟩;simp only[if_true,if_neg (CE y)];exact (e5 q i hq.2).2
    ·rw[(a4 q).2.2 b2];refine⟨(e5 q i hq.2).1,?_⟩;show (if q=r then _ else W1.bs q i)=_;rw[if_neg b2];exact (e5 q i hq.2).2
   ·rcases R with R|R|⟨b,hb,R⟩|⟨q,i,l',J,I,M⟩
    ·exact .inl (.inl (by rw[<- e3];exact R))
    ·exact .inl (.inr (.inl R))
    ·refine (e6 k (.inr (.inr (.inl ⟨b,?_,R⟩)))).imp id λ⟨i,l',J,I,M⟩=>⟨i+1,l',by simpa using J,I,M⟩
     exact (iz (λq=>(a4 q).1) b).1 hb
    ·by_cases hq:q=r
     ·subst hq;rw[b9]at J;simp only[if_true]at M;by_cases y:i=j
      ·subst y;simp only[if_true]at M;exact .inr ⟨0,_,rfl,trivial,M⟩
      ·simp only[if_neg y]at M;exact (e6 k (.inr (.inr (.inr ⟨q,i,l',H i l' y J,I,M⟩)))).imp id λ⟨i,l',J,I,M⟩=>⟨i+1,l',by simpa using J,I,M⟩
     ·rw[(a4 q).2.2 hq]at J;simp only[if_neg hq]at M;exact (e6 k (.inr (.inr (.inr ⟨q,i,l',J,I,M⟩)))).imp id λ⟨i,l',J,I,M⟩=>⟨i+1,l',by simpa using J,I,M⟩
end
def PK.isIop:PK->Bool
 |.iop _=>true
 |_=>false
section
variable {P:Program} {V:Env} {Γ:List Ctr} {st st':St} {w w':World} {a:Act}
theorem kK:∀ {a b:List (Nat×Nat)},aX (a++b)=true->aX a=true/\aX b=true/\∀ x∈a,x∉b
 |[],b,h=>⟨rfl,h,by simp⟩
 |x::a,b,h=>by
  obtain⟨u,H⟩:=jK h;obtain⟨I,X,O⟩:=kK H;refine⟨?_,X,λy r z=>?_⟩
  ·simp only[aX,BC,BY,Bt];refine⟨λy r R=>u (BJ _ ?_),I⟩;obtain⟨J,M⟩:x.1=y.1/\x.2=y.2:=by simpa using R
   rw[show x=y from DT J M];exact r
  ·rcases CG.1 r with rfl|r
   ·exact u (BE _ z)
   ·exact O y r z
theorem ka {p:Bool}:∀ (b:Ty) (ls:List Leaf) (t:cK b.den),take st b ls=some t->∀ (y:b.den) (i r j n:Nat) (l:Leaf),ls[i]?=some (.al r j n)->(aq p b y)[i]?=some l->ao l->(st r).ver=n
 |.pair b c,ls,t,h,y,i,r,j,n,l,J,z,I=>by
  simp only[take]at h;split at h
  ·rename_i u M;split at h
   ·rename_i v O;simp only[aq]at z;have X:=cI p b y.1;by_cases hi:i<b.cells
    ·rw[BH (by omega)]at z;exact ka b ls u M y.1 i r j n l J z I
    ·rw[BG (by omega),X]at z;have Z:=take_rest b ls u M;refine ka c u.rest v O y.2 (i-b.cells) r j n l ?_ z I;rw[Z,CH,show b.cells+(i-b.cells)=i by omega];exact J
   ·cases h
  ·cases h
 |.list m E e,ls,t,h,y,i,r,j,n,l,J,z,I=>by
  cases m with
  |false =>
   cases i with
   |zero=>simp[aq]at z;subst z;exact I.elim
   |succ i=>simp[aq]at z
  |true =>
   cases i with
   |succ i=>simp[aq]at z
   |zero =>
    cases ls with
    |nil=>simp at J
    |cons l' ls =>
     simp only[CI,BA]at J;subst J;simp only[take,cond_true]at h;split at h
     ·rename_i R;exact (eX R (by simp)).1
     ·cases h
 |.int k,ls,t,h,y,i,r,j,n,l,J,z,I=>by
  cases i with
  |zero=>simp[aq]at z;subst z;exact I.elim
  |succ i=>simp[aq]at z
 |.bool,ls,t,h,y,i,r,j,n,l,J,z,I=>by
  cases i with
  |zero=>simp[aq]at z;subst z;exact I.elim
  |succ i=>simp[aq]at z
 |.str,ls,t,h,y,i,r,j,n,l,J,z,I=>by
  cases i with
  |zero=>simp[aq]at z;subst z;exact I.elim
  |succ i=>simp[aq]at z
 |.hdr,ls,t,h,y,i,r,j,n,l,J,z,I=>by
  cases i with
  |zero=>simp[aq]at z;subst z;exact I.elim
  |succ i=>simp[aq]at z
 |.unit,ls,t,h,y,i,r,j,n,l,J,z,I=>by simp[aq]at z
where
 take_rest:∀ (b:Ty) (ls:List Leaf) (t:cK b.den),take st b ls=some t->t.rest=ls.drop b.cells
  |.pair b c,ls,t,h=>by
   simp only[take]at h;split at h
   ·rename_i u M;split at h
    ·rename_i v O;simp only[BA]at h;subst h;show v.rest=_;rw[take_rest c u.rest v O,take_rest b ls u M,List.drop_drop];rfl
    ·cases h
   ·cases h
  |.unit,ls,t,h=>by
   simp only[take,BA]at h;subst h;rfl
  |.list m E e,ls,t,h=>by
   cases ls with
   |nil=>simp[take]at h
   |cons l ls =>
    cases m with
    |false =>
     simp only[take,cond_false]at h;split at h
     ·simp only[BA]at h;subst h;rfl
     ·cases h
    |true =>
     simp only[take,cond_true]at h;split at h
     ·split at h
      ·simp only[BB]at h;obtain⟨xs,_,rfl⟩:=h;rfl
      ·cases h
     ·simp only[BA]at h;subst h;rfl
     ·cases h
  |.int k,ls,t,h=>sc (b:=.int k) h uX rfl
  |.bool,ls,t,h=>sc (b:=.bool) h tu rfl
  |.str,ls,t,h=>sc (b:=.str) h uY rfl
  |.hdr,ls,t,h=>sc (b:=.hdr) h uZ rfl
 sc {b:Ty} {ls:List Leaf} {t:cK b.den} (h:(aZ st b ls).map (λx=>(⟨false,x.2.1,[],[],x.2.2⟩:cK b.den))=some t)
   (H:∀ {ls:List Leaf} {x:Bool×b.den×List Leaf},aZ st b ls=some x->∃ l,ls=l::x.2.2) (J:b.cells=1):t.rest=ls.drop b.cells:=by
  simp only[BB]at h;obtain⟨x,Y,rfl⟩:=h;obtain⟨l,rfl⟩:=H Y;rw[J];rfl
theorem wd {agg:Bool}{v:Value}{y z:List Value}(u:c9 agg v y)(r:c9 agg v z):y=z:=by
 unfold c9 at u r;cases agg with
 |true =>
  simp only[if_true]at u r;rw[u]at r;simpa using r
 |false =>
  simp only[Bool.false_eq_true,if_false]at u r;rw[u,r]
theorem qE (hV:ax V){W0 W:Wit}{S0 S:St}{w0:World}{G:Nat->Prop}{p:Bool}(a6:W.cs=W0.cs)(hG:∀ k,G k->gd V W p k)(h:ap P V W S a w) :
  ∀ (ps:List PK) (xs:List (aG×List Leaf)) (vs:List Value) (g:Got (ab ps)) (o:ah ps) (H:List (List Nat)),gP P V W0 S0 w0 xs vs->a7 (cd Γ S0) ps xs=some g->ps.any PK.isIop=false ->
  bK w G ps o vs H->aX g.kill=true->(∀ x∈g.kill,x.1≠EPO)->(∀ x∈g.kill,∀ l,(S x.1).ls[x.2]?=some l->¬ ao l)->(∀ k∈H.flatten,¬ ce V W S k)->H.flatten.Nodup ->
  ∃ W',ap P V W' (ac (aF S p ps xs o) S) a w/\W'.cs=W.cs/\W'.β=W.β/\W'.nw=W.nw/\(∀ q,(ac (aF S p ps xs o) S q).sh=(S q).sh/\(S q).ver<=(ac (aF S p ps xs o) S q).ver) /\
   (∀ q i,(q,i)∉g.kill->(ac (aF S p ps xs o) S q).ls[i]?=(S q).ls[i]?/\W'.bs q i=W.bs q i)/\(∀ k,ce V W' (ac (aF S p ps xs o) S) k->ce V W S k\/k∈H.flatten)
 |[],xs,vs,g,o,H,_,_,_,_,_,_,_,_,_=>⟨W,h,rfl,rfl,rfl,λ_=>⟨rfl,BU _⟩,λ_ _ _=>⟨rfl,rfl⟩,λk R=>.inl R⟩
 |pk::ps,[],vs,g,o,H,_,hg,_,_,_,_,_,_,_=>by simp[a7]at hg
 |pk::ps,x::xs,vs,g,o,H,hx,hg,hp,ho,hd,a4,a3,O,a0=>by
  obtain⟨v,a5,cs,rfl,hs,hl,a1⟩:=hx;simp only[a7]at hg;split at hg
  ·rename_i g1 a2;split at hg
   ·rename_i g2 b3;simp only[BA]at hg;subst hg;simp only[CO,Cq]at hp;obtain⟨bb,b0,b6⟩:=kK hd;have J:∀ (o':ah ps) (b:List Nat) (M:List (List Nat)),H=b::M->b=[]->bK w G ps o' a5 M->aF S p (pk::ps) (x::xs) o=aF S p ps xs o' ->
      ∃ W',ap P V W' (ac (aF S p (pk::ps) (x::xs) o) S) a w/\W'.cs=W.cs/\W'.β=W.β/\W'.nw=W.nw/\(∀ q,(ac (aF S p (pk::ps) (x::xs) o) S q).sh=(S q).sh/\(S q).ver<=(ac (aF S p (pk::ps) (x::xs) o) S q).ver) /\
       (∀ q i,(q,i)∉g1.kill++g2.kill->(ac (aF S p (pk::ps) (x::xs) o) S q).ls[i]?=(S q).ls[i]?/\W'.bs q i=W.bs q i)/\(∀ k,ce V W' (ac (aF S p (pk::ps) (x::xs) o) S) k->ce V W S k\/k∈H.flatten):=by
     intro o' b M e1 e2 ba e3;subst e1;subst e2;rw[e3];obtain⟨W1,f1,f2,f3,f4,f5,f6,f7⟩:=qE hV a6 hG h ps xs a5 g2 o' M a1 b3 hp.2 ba b0 (λz Y=>a4 z (BE _ Y)) (λz Y=>a3 z (BE _ Y)) (λk R=>O k (by simpa using R)) (by simpa using a0);exact⟨W1,f1,f2,f3,f4,f5,λq i hq=>f6 q i (λhm=>hq (BE _ hm)),λk R=>(f7 k R).imp id (λhm=>by simpa using hm)⟩
    cases pk with
    |io b =>
     match H,ho with
     |Z::M,⟨y,I⟩ =>
      simp only[BX]at a0 O;rw[B5]at a0;obtain⟨W1,f1,f2,f3,f4,f5,f6,f7⟩:=qE hV a6 hG h ps xs a5 g2 o.2 M a1 b3 hp.2 I b0 (λz Y=>a4 z (BE _ Y)) (λz Y=>a3 z (BE _ Y)) (λk R=>O k (BE _ R)) a0.2.1;simp only[cd,be]at a2;cases hb:decide (x.1=bf b.isAgg) with
      |false=>simp[hb]at a2
      |true =>
       rw[hb]at a2;simp only[cond_true,BB]at a2;obtain⟨t,ht,rfl⟩:=a2;rw[of_decide_eq_true hb]at hs;unfold jn at y;rw[if_neg (by simp)]at y;obtain⟨ad,b5,hm⟩:=y;have:=wd b5 (gx hs);subst this;obtain⟨b9,m1,m2,m3,m4⟩:=iG (P:=P) (V:=V) (W:=W1) (st:=ac (aF S p ps xs o.2) S) (p:=p) (λk R=>by
        rcases hG k R with R|R
        ·exact .inl (by rw[f4];exact R)
        ·exact .inr R) hm a0.1
       unfold ch at ht;split at ht
       ·rename_i p0 x0 f0 k0 b1;simp only[BA]at ht;subst ht;have X:=kX (p:=p) b x.2 _ b1 o.1 [];simp only[Bo]at X;have X:eJ x.2 (aq p b o.1)=k0:=by
         rw[X];show k0++eJ [] []=k0;simp[eJ]
        obtain⟨W2,q1,q2,q3,q4,q5,q6,q7⟩:=zp hV f1 x.2 (aq p b o.1) ad b9 (by rw[X];exact bb) (λz Y=>a4 z (BJ _ (by rw[X]at Y;exact Y))) hl.length m1
         (λi r j n l u g3 g4 g5 g6=>by
          have h5:=(hl.at_ i _ u g3 g6).1;rw[f2,a6];exact h5.2 (ka b x.2 _ b1 o.1 i r j n l g3 g4 g5))
         (λz Y l b2=>by
          rw[X]at Y;rw[(f6 z.1 z.2 (b6 z Y)).1]at b2;exact a3 z (BJ _ Y) l b2)
         m2
         (λi l g3 g4 k R hu=>by
          have a9:=m3 i l g3 g4 k R;rcases f7 k hu with hu|hu
          ·exact O k (BJ _ a9) hu
          ·exact a0.2.2 k a9 k hu rfl) m4
        have b4:ac (aF S p (.io b::ps) (x::xs) o) S=ac (b8 (ac (aF S p ps xs o.2) S) x.2 (aq p b o.1)) (ac (aF S p ps xs o.2) S):=bz _ _ _;rw[b4];rw[X]at q6;refine⟨W2,q1,q2.trans f2,q3.trans f3,q4.trans f4,λq=>⟨(q5 q).1.trans (f5 q).1,B6 (f5 q).2 (q5 q).2⟩,λq i hq=>?_,λk R=>?_⟩
        ·simp only[BL,not_or]at hq;exact⟨(q6 q i hq.1).1.trans (f6 q i hq.2).1,(q6 q i hq.1).2.trans (f6 q i hq.2).2⟩
        ·rcases q7 k R with R|⟨i,l,g3,g4,g5⟩
         ·exact (f7 k R).imp id (λhm=>BE _ hm)
         ·exact .inr (BJ _ (m3 i l g3 g4 k g5))
       ·cases ht
    |iop b=>simp[PK.isIop]at hp
    |rd b =>
     match H,ho with
     |Z::M,⟨y,I⟩=>exact J o Z M rfl y I rfl
    |own b =>
     match H,ho with
     |Z::M,⟨y,I⟩=>exact J o Z M rfl y I rfl
    |rref b =>
     match H,ho with
     |Z::M,⟨y,I⟩=>exact J o Z M rfl y I rfl
    |rref2 b =>
     match H,ho with
     |Z::M,⟨y,I⟩=>exact J o Z M rfl y I rfl
    |fn As B =>
     match H,ho with
     |Z::M,⟨y,I⟩=>exact J o Z M rfl y I rfl
    |clo f ad =>
     match H,ho with
     |Z::M,⟨y,I⟩=>exact J o Z M rfl y I rfl
    |hol b cc off =>
     match H,ho with
     |Z::M,⟨y,I⟩=>exact J o Z M rfl y I rfl
   ·cases hg
  ·cases hg
end
section
variable {P:Program} {V:Env} {W:Wit} {st:St} {w:World} {a:Act}
theorem oo {G ro:Nat->Prop}{p q:Bool}{ks:List (Nat×Nat×Nat)}{ep:Nat}(hG:∀ k,G k->gd V W p k)(d n:Nat) :
  ∀ (O:List RK) (y:ai O) (us:List Value) (Z:List (List Nat)),
  (O.any RK.isBv=true->(∀ k,G k\/ro k->gd V W q k\/∃ x∈ks,k∈W.bs x.1 x.2.1)/\ep<=(st EPO).ver/\(∀ k∈ks,k.2.2<=(st k.1).ver))->gw w G ro O y us Z->O.all RK.isV=true->Z.flatten.Nodup ->
  (bB d n p q ks ep O y).2=[]/\∃ (cs:List Value) (a1:Nat->List Nat),pt ((bB d n p q ks ep O y).1.map λx=>(x.1,x.2.length)) us cs/\(((bB d n p q ks ep O y).1.map (·.2)).flatten).length=cs.length/\(∀ u∈cs,u.oneCell'=true) /\
   (∀ (j:Nat) (l:Leaf) (u:Value),(((bB d n p q ks ep O y).1.map (·.2)).flatten)[j]?=some l->cs[j]?=some u->aI P V W st w (a1 j) l u) /\
   (∀ (j:Nat) (l:Leaf),(((bB d n p q ks ep O y).1.map (·.2)).flatten)[j]?=some l->ao l->∀ k∈a1 j,k∈Z.flatten) /\
   (∀ (j Y:Nat) (l l':Leaf),(((bB d n p q ks ep O y).1.map (·.2)).flatten)[j]?=some l->ao l->(((bB d n p q ks ep O y).1.map (·.2)).flatten)[Y]?=some l'->ao l'->∀ k,k∈a1 j->k∈a1 Y->j=Y)
 |[],y,us,Z,_,⟨e1,e2⟩,_,_=>by
  subst e1;subst e2;exact⟨rfl,[],λ_=>[],⟨rfl,rfl⟩,rfl,by simp,λj l u h1 h2=>by simp at h2,λj l h1 h2 k J=>by simp at J,λj Y l l' _ _ _ _ k J=>by simp at J⟩
 |r::O,y,us,Z,hB,⟨u0,a6,b,ad,e1,e2,hr,a4⟩,hv,a0=>by
  subst e1;subst e2;simp only[Cu,BC]at hv;rw[BX,B5]at a0;obtain⟨f0,a5,d2,f1,f2,b3,f3,f4,f5⟩:=oo (ks:=ks) (q:=q) (ep:=ep) hG d n O y.2 a6 ad (λhb=>hB (by simp[hb])) a4 hv.2 a0.2.1;obtain⟨agg,L,I,d1,g0,b1,g1,g2,b4,g3,g4,g5⟩:∃ (agg:Bool) (L:List Leaf) (I:List Value) (d1:Nat->List Nat),(pm d n p q ks ep r y.1).1=(agg,L)/\(pm d n p q ks ep r y.1).2=[]/\c9 agg u0 I/\L.length=I.length/\(∀ u∈I,u.oneCell'=true) /\
    (∀ (j:Nat) (l:Leaf) (u:Value),L[j]?=some l->I[j]?=some u->aI P V W st w (d1 j) l u)/\(∀ (j:Nat) (l:Leaf),L[j]?=some l->ao l->∀ k∈d1 j,k∈b) /\
    (∀ (j Y:Nat) (l l':Leaf),L[j]?=some l->ao l->L[Y]?=some l'->ao l'->∀ k,k∈d1 j->k∈d1 Y->j=Y):=by
   cases r with
   |v c =>
    obtain⟨I,h1,h2⟩:=hr;obtain⟨d1,m1,m2,m3,m4⟩:=iG (P:=P) (V:=V) (W:=W) (st:=st) (p:=p) hG h2 a0.1;exact⟨c.isAgg,_,I,d1,rfl,rfl,h1,m1,h2.one,m2,m3,m4⟩
   |bv c =>
    obtain⟨_,I,h1,h2⟩:=hr;obtain⟨b9,b0,b6⟩:=hB (by simp[RK.isBv]);have h3:=jP (P:=P) (V:=V) (W:=W) (st:=st) (p:=q) b0 b6 (h2.mono b9);exact⟨c.isAgg,_,I,λ_=>[],rfl,rfl,h1,h3.length,h2.one,λj l u g1 g2=>(h3.at_ j l u g1 g2).1,λj l _ _ k J=>by simp at J,λj Y l l' _ _ _ _ k J=>by simp at J⟩
   |box c=>simp[RK.isV]at hv
  have b2:(bB d n p q ks ep (r::O) y).1=(agg,L)::(bB d n p q ks ep O y.2).1:=by simp only[bB,g0]
  have b5:(bB d n p q ks ep (r::O) y).2=[]:=by simp only[bB,b1,f0,Bo]
  rw[b2];simp only[DS,BX];have z:∀ (j:Nat) (l:Leaf),(L++((bB d n p q ks ep O y.2).1.map (·.2)).flatten)[j]?=some l->(j<L.length/\L[j]?=some l)\/(L.length<=j/\(((bB d n p q ks ep O y.2).1.map (·.2)).flatten)[j-L.length]?=some l):=by
   intro j l H;by_cases M:j<L.length
   ·rw[BH M]at H;exact .inl ⟨M,H⟩
   ·rw[BG (by omega)]at H;exact .inr ⟨by omega,H⟩
  refine⟨b5,I++a5,λj=>if j<L.length then d1 j else d2 (j-L.length),⟨u0,a6,I,a5,rfl,rfl,g2.symm,g1,f1⟩,by rw[BR,BR,g2,f2],λu hu=>(BL.1 hu).elim (b4 u) (b3 u),λj l u H hu=>?_,λj l H ho k J=>?_,λj Y l l' H ho X a2 k J R=>?_⟩
  ·rcases z j l H with ⟨M,H⟩|⟨a9,H⟩
   ·rw[BH (by omega)]at hu;simp only[if_pos M];exact g3 j l u H hu
   ·rw[BG (by omega),<- g2]at hu;simp only[if_neg (show ¬ j<L.length by omega)];exact f3 _ l u H hu
  ·rcases z j l H with ⟨M,H⟩|⟨a9,H⟩
   ·simp only[if_pos M]at J;exact BJ _ (g4 j l H ho k J)
   ·simp only[if_neg (show ¬ j<L.length by omega)]at J;exact BE _ (f4 _ l H ho k J)
  ·rcases z j l H with ⟨M,H⟩|⟨a9,H⟩ <;> rcases z Y l' X with ⟨a3,X⟩|⟨ba,X⟩
   ·simp only[if_pos M]at J;simp only[if_pos a3]at R;exact g5 j Y l l' H ho X a2 k J R
   ·simp only[if_pos M]at J;simp only[if_neg (show ¬ Y<L.length by omega)]at R;exact absurd rfl (a0.2.2 k (g4 j l H ho k J) k (f4 _ l' X a2 k R))
   ·simp only[if_neg (show ¬ j<L.length by omega)]at J;simp only[if_pos a3]at R;exact absurd rfl (a0.2.2 k (g4 Y l' X a2 k R) k (f4 _ l H ho k J))
   ·simp only[if_neg (show ¬ j<L.length by omega)]at J;simp only[if_neg (show ¬ Y<L.length by omega)]at R;have:=f5 _ _ l l' H ho X a2 k J R;omega
theorem Ba {l:List (Bool×List Leaf)}{us cs:List Value}{v:Value}(n:Nat)(h:pt (l.map λx=>(x.1,x.2.length)) us cs)(H:sb us v) :
  ea (eM n l).sh v cs/\(eM n l).ls=(l.map (·.2)).flatten/\(eM n l).ver=n:=by
 match l,us,h with
 |[],_,⟨y,z⟩ =>
  subst y;subst z;exact⟨⟨[],H,rfl,rfl⟩,rfl,rfl⟩
 |[(agg,L)],_,⟨u,r,c,Y,y,z,h1,R,X,Z⟩ =>
  subst y;subst z;subst X;subst Z;have H:v=u:=H;subst H;refine⟨?_,by simp[eM],rfl⟩;simp only[eM,Bo];exact j8 R
 |x::x'::l,us,h =>
  refine⟨?_,rfl,rfl⟩;have I:∃ u M r,us=u::M::r:=by
   obtain⟨u,r,_,_,y,_,_,_,O,J,_,_,z,_⟩:=h;exact⟨u,O,J,by rw[y,z]⟩
  obtain⟨u,M,r,rfl⟩:=I;exact⟨_,H,h⟩
end
section
variable {P:Program} {V:Env} {Γ:List Ctr} {st:St} {w:World} {a:Act}
theorem yR {pk:PK}{x:aG×List Leaf}{g:Got pk.den}(r:cd Γ st pk x=some g)(Y:pk.isIop=false):g.lend=[]:=by
 cases pk with
 |iop b=>simp[PK.isIop]at Y
 |rd b =>
  simp only[cd,be]at r;cases u:decide (x.1=bf b.isAgg) with
  |false=>simp[u]at r
  |true=>rw[u]at r;simp only[cond_true,BB]at r;obtain⟨y,_,rfl⟩:=r;rfl
 |own b =>
  simp only[cd,be]at r;cases u:decide (x.1=bf b.isAgg) with
  |false=>simp[u]at r
  |true=>rw[u]at r;simp only[cond_true,BB]at r;obtain⟨y,_,rfl⟩:=r;rfl
 |io b =>
  simp only[cd,be]at r;cases u:decide (x.1=bf b.isAgg) with
  |false=>simp[u]at r
  |true=>rw[u]at r;simp only[cond_true,BB]at r;obtain⟨y,_,rfl⟩:=r;rfl
 |rref b=>exact cap (c:=(false,b)) r
 |rref2 b=>exact cap (c:=(true,b)) r
 |fn X B =>
  simp only[cd]at r;split at r
  ·unfold kt at r;split at r
   ·unfold rU at r;split at r
    ·rename_i c _ hh;cases u:(c.ps.drop X.length).all PK.reads&&B.flat&&c.fresh with
     |false=>rw[u]at r;cases r
     |true =>
      rw[u]at r;simp only[cond_true]at r;split at r
      ·simp only[BA]at r;subst r;rfl
      ·cases r
    ·cases r
   ·cases r
  ·simp only[be]at r;split at r
   ·split at r
    ·simp only[BA]at r;subst r;rfl
    ·cases r
   ·cases r
 |hol b Z off =>
  simp only[cd,be]at r;cases u:decide (x.1=bf b.isAgg) with
  |false=>simp[u]at r
  |true =>
   rw[u]at r;simp only[cond_true]at r;split at r
   ·split at r
    ·rename_i R _ _ _ _;cases z:BT R off with
     |false=>simp[z]at r
     |true =>
      rw[z]at r;simp only[cond_true]at r;split at r
      ·split at r
       ·simp only[BA]at r;subst r;rfl
       ·cases r
      ·cases r
    ·cases r
   ·cases r
 |clo f I =>
  simp only[cd,be]at r;split at r
  ·rename_i J H _;cases u:BT J f with
   |false=>simp[u]at r
   |true=>rw[u]at r;exact caps_ r
  ·rename_i J H _;cases u:BT J f with
   |false=>simp[u]at r
   |true=>rw[u]at r;exact caps_ r
  ·cases r
where
 cap {c:Bool×Ty} {l:Leaf} {g:Got c.2.den} (r:fe st c l=some g):g.lend=[]:=by
  unfold fe at r;cases O:c.1 with
  |true =>
   rw[O]at r;simp only[cond_true]at r;split at r
   ·split at r
    ·simp only[BB]at r;obtain⟨y,_,rfl⟩:=r;rfl
    ·cases r
   ·cases r
  |false =>
   rw[O]at r;simp only[cond_false]at r;split at r
   ·simp only[BB]at r;obtain⟨y,_,rfl⟩:=r;rfl
   ·cases r
 caps_:∀ {I:List (Bool×Ty)} {M:List Leaf} {g:Got (lF I)},cA st I M=some g->g.lend=[]
  |[],[],g,r=>by simp only[cA,BA]at r;subst r;rfl
  |[],_::_,_,r=>by simp[cA]at r
  |_::_,[],_,r=>by simp[cA]at r
  |c::I,l::M,g,r=>by
   simp only[cA]at r;split at r
   ·split at r
    ·simp only[BA]at r;subst r;rfl
    ·cases r
   ·cases r
theorem tv:∀ (ps:List PK) (xs:List (aG×List Leaf)) (g:Got (ab ps)),a7 (cd Γ st) ps xs=some g->g.lend=[]->ps.any PK.isIop=false
 |[],_,_,_,_=>rfl
 |_::_,[],_,u,_=>by simp[a7]at u
 |I::ps,x::xs,g,u,z=>by
  simp only[a7]at u;split at u
  ·rename_i M r;split at u
   ·rename_i J y;simp only[BA]at u;subst u;simp only[List.append_eq_nil_iff]at z;rw[CO,tv ps xs J y z.2,Bool.or_false];cases I with
    |iop b =>
     simp only[cd,be]at r;split at r
     ·rename_i q _;cases H:decide ((st q).sh=.agg) with
      |false=>simp[H]at r
      |true =>
       rw[H]at r;simp only[cond_true,BB]at r;obtain⟨t,_,rfl⟩:=r;simp at z
     ·cases r
    |_=>rfl
   ·cases u
  ·cases u
theorem o6 {W0:Wit}{S0 S:St}{w0:World}{a0:Act}(h0:ap P V W0 S0 a0 w0){G:Nat->Prop}{p:Bool} :
  ∀ (ps:List PK) (xs:List (aG×List Leaf)) (vs:List Value) (g:Got (ab ps)) (o:ah ps) (r:List (List Nat)),gP P V W0 S0 w0 xs vs->a7 (cd Γ S0) ps xs=some g->ps.any PK.isIo=false->bK w G ps o vs r ->
  (g.lend=[]->aF S p ps xs o=[]/\r.flatten=[]) /\
  (∀ b,g.lend=[b]->∃ (c:Ty) (y:c.den) (cs:List Value) (E:TypeId) (Z:List Nat),aF S p ps xs o=[(b,⟨(S b).ver+2,.agg,aq p c y⟩)]/\w.heap[W0.β b]?=some (.cells cs.toArray E (0,0))/\Mx w G c none 0 y cs Z/\r.flatten=W0.β b::Z/\(S0 b).ls.length=c.cells)
 |[],[],vs,g,o,r,hx,O,_,X=>by
  simp only[a7,BA]at O;subst O;refine⟨λ_=>⟨rfl,?_⟩,λb hb=>by simp at hb⟩
  match vs,r,X with
  |[],[],_=>rfl
 |[],_::_,_,_,_,_,_,O,_,_=>by simp[a7]at O
 |_::_,[],_,_,_,_,_,O,_,_=>by simp[a7]at O
 |pk::ps,x::xs,vs,g,o,r,hx,O,hn,X=>by
  obtain⟨v,a2,cs,rfl,hs,hl,R⟩:=hx;simp only[a7]at O;split at O
  ·rename_i g1 J;split at O
   ·rename_i g2 a4;simp only[BA]at O;subst O;simp only[CO,Cq]at hn;have z:∀ (o':ah ps) (b:List Nat) (I:List (List Nat)),pk.isIop=false->r=b::I->b=[]->bK w G ps o' a2 I->aF S p (pk::ps) (x::xs) o=aF S p ps xs o' ->
      (g1.lend++g2.lend=[]->aF S p (pk::ps) (x::xs) o=[]/\r.flatten=[]) /\
      (∀ b,g1.lend++g2.lend=[b]->∃ (c:Ty) (y:c.den) (cs:List Value) (E:TypeId) (Z:List Nat),aF S p (pk::ps) (x::xs) o=[(b,⟨(S b).ver+2,.agg,aq p c y⟩)]/\w.heap[W0.β b]?=some (.cells cs.toArray E (0,0))/\Mx w G c none 0 y cs Z/\r.flatten=W0.β b::Z/\(S0 b).ls.length=c.cells):=by
     intro o' b I hi e1 e2 a9 e3;subst e1;subst e2;rw[e3,yR J hi];simpa using o6 h0 (S:=S) (p:=p) ps xs a2 g2 o' I R a4 hn.2 a9
    cases pk with
    |iop b =>
     match r,X with
     |M::I,⟨u,H⟩ =>
      obtain⟨r1,r2⟩:=o6 h0 (S:=S) (p:=p) ps xs a2 g2 o.2 I R a4 hn.2 H;simp only[cd,be]at J;split at J
      ·rename_i q hq;cases hb:decide ((S0 q).sh=.agg) with
       |false=>simp[hb]at J
       |true =>
        rw[hb]at J;simp only[cond_true,BB]at J;obtain⟨t,ht,rfl⟩:=J;refine⟨λhb=>by simp at hb,λb' Y=>?_⟩;simp only[Cj,CR]at Y;obtain⟨rfl,Y⟩:=Y;obtain⟨r3,r4⟩:=r1 Y;obtain⟨a6,_⟩:=gN hs hl hq (by simp);unfold jn at u;rw[if_pos rfl]at u;obtain⟨g',a3,E,Z,hv,a1,hm,rfl⟩:=u;have a5:g'=W0.β q:=by
         have h9:=a6.2.2;rw[hv]at h9;simp only[Value.pointer.injEq,BA,CX,and_true]at h9;exact h9
        subst a5;refine⟨b,o.1,a3,E,Z,?_,a1,hm,by rw[BX,r4,Bo],?_⟩
        rotate_left
        ·rw[h0.len];exact (dN (pos:=0) h0 (iw h0 q) ht).1.len
        simp only[aF,r3,hq,Bo];rfl
      ·cases J
    |io b=>simp[PK.isIo]at hn
    |rd b =>
     match r,X with
     |M::I,⟨u,H⟩=>exact z o M I rfl rfl u H rfl
    |own b =>
     match r,X with
     |M::I,⟨u,H⟩=>exact z o M I rfl rfl u H rfl
    |rref b =>
     match r,X with
     |M::I,⟨u,H⟩=>exact z o M I rfl rfl u H rfl
    |rref2 b =>
     match r,X with
     |M::I,⟨u,H⟩=>exact z o M I rfl rfl u H rfl
    |fn As B =>
     match r,X with
     |M::I,⟨u,H⟩=>exact z o M I rfl rfl u H rfl
    |clo f a3 =>
     match r,X with
     |M::I,⟨u,H⟩=>exact z o M I rfl rfl u H rfl
    |hol b cc off =>
     match r,X with
     |M::I,⟨u,H⟩=>exact z o M I rfl rfl u H rfl
   ·cases O
  ·cases O
end
section
variable {P:Program} {V:Env}
theorem we (hV:ax V){W:Wit}{S:St}{a:Act}{w:World}(h:ap P V W S a w){M:List RK}{y:ai M}{us:List Value}{X:List (List Nat)}{v:Value}{p q:Bool}{ks:List (Nat×Nat×Nat)}{ep:Nat}{G ro:Nat->Prop}
  (a0:gw w G ro M y us X) (hG:∀ k,G k->gd V W p k)
  (hB:M.any RK.isBv=true->(∀ k,G k\/ro k->gd V W q k\/∃ x∈ks,k∈W.bs x.1 x.2.1)/\ep<=(S EPO).ver/\(∀ k∈ks,k.2.2<=(S k.1).ver))
  (H:∀ k∈X.flatten,¬ ce V W S k) (a2:X.flatten.Nodup) (J:sb us v) {d:Nat} (hd:d<V.nt) (Z:∀ x∈V.fixt,x.1≠d) (r:gD S d M=true) :
  ∃ W1,ap P V W1 (ac ((d,eM ((ac (bB d (S (B0+d)).ver p q ks ep M y).2 S d).ver+1) (bB d (S (B0+d)).ver p q ks ep M y).1)::(bB d (S (B0+d)).ver p q ks ep M y).2) S) (a.put (some d) v) w /\
   ∀ z,z≠d->z≠B0+d->W1.cs z=W.cs z:=by
 cases hv:M.all RK.isV with
 |true =>
  obtain⟨m0,cs,a1,m1,m2,m3,m4,m5,m6⟩:=oo (P:=P) (W:=W) (st:=S) (p:=p) (q:=q) (ks:=ks) (ep:=ep) hG d (S (B0+d)).ver M y us X hB a0 hv a2;rw[m0];obtain⟨s1,s2,s3⟩:=Ba ((S d).ver+1) m1 J;show ∃ W1,ap P V W1 (ac [(d,eM ((S d).ver+1) (bB d (S (B0+d)).ver p q ks ep M y).1)] S) (a.put (some d) v) w/\_;generalize eM ((S d).ver+1) (bB d (S (B0+d)).ver p q ks ep M y).1=rc at s1 s2 s3 ⊢;obtain⟨v0,b4,bb⟩:=rc;simp only at s1 s2 s3;subst s3;subst s2;have a5:=h.put hV d hd Z ((S d).ver+1) b4 _ v cs a1 (BM _) s1 m2 m3 m4
   (λj l R ho k Y=>by
    have a6:=m5 j l R ho k Y;have I:=H k a6;simp only[ce,not_or,not_exists,not_and]at I;exact⟨I.1,I.2.1,I.2.2.1,λr1 j1 l1 _ h8 h9=>I.2.2.2 r1 j1 l1 h8 h9⟩) m6
  refine⟨_,a5,λz hz _=>?_⟩;show (if z=d then cs else W.cs z)=_;rw[if_neg hz]
 |false =>
  have hb:∃ b,M=[.box b]:=by
   unfold gD at r;split at r
   ·exact⟨_,rfl⟩
   ·rw[hv]at r;cases r
  obtain⟨b,rfl⟩:=hb;obtain⟨u0,ba,rb,b9,e1,e2,⟨g',cs,E,b0,b1,b3,hm,b2⟩,e3,e4⟩:=a0;subst e3;subst e4;subst e1;subst e2;subst b2;have J:v=u0:=J;subst J;subst b1;have a3:(S (B0+d)).sh=.off:=by simpa[gD]using r
  have O:(g'::b0).Nodup:=by simpa using a2
  rw[B9]at O;obtain⟨a1,m1,m2,m3,m4⟩:=iG (P:=P) (V:=V) (W:=W) (st:=S) (p:=p) hG hm O.2;have a4:d≠B0+d:=by simp[B0]
  have b6:=H g' (by simp);have b5:=h.setBoxG hV (B0+d) (CN _ _) ((S (B0+d)).ver+1) (aq p b y.1) cs a1 g' E (w':=w) (BM _)
   (.inr ⟨by simp[live,a3],b6,λj l R ho k Y e0=>O.1 (by rw[<- e0];exact m3 j l R ho k Y)⟩) b3 (λ_ _ _=>rfl) (λ_ _ _ _ _ _ _=>rfl) (BU _) rfl rfl rfl m1 hm.one m2
   (λj l R ho k Y=>by
    have I:=H k (by simp;exact .inr (m3 j l R ho k Y));simp only[ce,not_or,not_exists,not_and]at I;exact⟨I.1,I.2.1,I.2.2.1,λr1 j1 l1 _ h8 h9=>I.2.2.2 r1 j1 l1 h8 h9⟩) m4
  have a9:=b5.put hV d hd Z ((S d).ver+1) .one [.bp (B0+d) 0] (.pointer (some ⟨g',0,none⟩)) [.pointer (some ⟨g',0,none⟩)] (λ_=>[]) (by rw[aH a4];exact BM _) rfl rfl (λu I=>by simp at I;subst I;rfl)
   (λj l u R g9=>by
    cases j with
    |zero=>simp at R g9;subst R;subst g9;exact⟨CN _ _,by rw[bg],by simp⟩
    |succ j=>simp at R)
   (λj l R ho k Y=>by simp at Y) (λj j' l l' _ _ _ _ k Y=>by simp at Y)
  have e1:ac (bB d (S (B0+d)).ver p q ks ep [.box b] y).2 S=ac [(B0+d,⟨(S (B0+d)).ver+1,.agg,aq p b y.1⟩)] S:=rfl;rw[aO,e1,aH a4];refine⟨_,a9,λz hz ad=>?_⟩;show (if z=d then _ else (if z=B0+d then _ else W.cs z))=_;rw[if_neg hz,if_neg ad]
theorem uw (r:Nat)(c u:bS)(S:St):ac [(r,c)] (ac [(r,u)] S)=ac [(r,c)] S:=by
 funext q;rcases ak r q c (ac [(r,u)] S) with ⟨rfl,e⟩|⟨h,e⟩
 ·rw[e,bg]
 ·rw[e,aH h,aH h]
theorem yS (hV:ax V){W:Wit}{S:St}{a:Act}{w w':World}(h:ap P V W S a w){b:Nat}(hb:live S b){N:Nat->Prop}{cs:List Value}{E:TypeId}{c:Ty}{y:c.den}{b0:List Nat}{G:Nat->Prop}{p:Bool}
  (a1:w'.heap[W.β b]?=some (.cells cs.toArray E (0,0))) (hm:Mx w' G c none 0 y cs b0) (a3:(W.β b::b0).Nodup) (a6:(S b).ls.length=c.cells)
  (Z:∀ k,ce V W S k->k≠W.β b->w'.heap[k]?=w.heap[k]?) (ad:w.heap.size<=w'.heap.size) (b2:w'.os=w.os) (ht:w'.tape=w.tape) (ho:w'.output=w.output)
  (hN:∀ k,N k->k<w'.heap.size/\¬ ce V W S k) (a0:∀ k∈b0,¬ ce V W S k/\¬ N k) (hG:∀ k,G k->gd V { W with nw:=λk=>W.nw k\/N k } p k) :
  ∃ W1,ap P V W1 (ac [(b,⟨(S b).ver+2,.agg,aq p c y⟩)] S) a w'/\W1.β=W.β/\(∀ k,W1.nw k<->W.nw k\/N k)/\(∀ q,q≠b->W1.cs q=W.cs q)/\(∀ q i,q≠b->W1.bs q i=W.bs q i) /\
   (∀ k,ce V W1 (ac [(b,⟨(S b).ver+2,.agg,aq p c y⟩)] S) k->ce V W S k\/N k\/k∈b0):=by
 have J:∀ (q:Nat),(if q=b then W.β b else W.β q)=W.β q:=λq=>by split <;> simp_all
 have h1:=h.setBoxG hV b hb.1 ((S b).ver+1) (B7 cs.length .dead) cs (λ_=>[]) (W.β b) E (w':=w') (BM _) (.inl ⟨hb,rfl⟩) a1 Z (λ_ _ _ _ k I=>by simp at I) ad b2 ht ho (by simp) hm.one
  (λj l u H R=>by
   rw[CJ]at H;split at H
   ·simp at H;subst H;trivial
   ·cases H)
  (λj l H R k I=>by simp at I) (λj j' l l' _ _ _ _ k I=>by simp at I)
 have a2:∀ (j:Nat) (l:Leaf),(B7 cs.length Leaf.dead)[j]?=some l->¬ ao l:=by
  intro j l H;rw[CJ]at H;split at H
  ·simp at H;subst H;exact id
  ·cases H
 have a4:∀ z,live (ac [(b,⟨(S b).ver+1,.agg,B7 cs.length .dead⟩)] S) z->live S z:=by
  intro z X;rcases ak b z ⟨(S b).ver+1,.agg,B7 cs.length .dead⟩ S with ⟨rfl,e⟩|⟨_,e⟩
  ·exact hb
  ·exact⟨X.1,by rw[<- e];exact X.2⟩
 have b1:∀ k,ce V { W with β:=λr=>if r=b then W.β b else W.β r,cs:=λr=>if r=b then cs else W.cs r,bs:=λr j=>if r=b then [] else W.bs r j } (ac [(b,⟨(S b).ver+1,.agg,B7 cs.length .dead⟩)] S) k->ce V W S k:=by
  rintro k (I|I|⟨z,X,I⟩|⟨z,i,l,H,R,O⟩)
  ·exact .inl I
  ·exact .inr (.inl I)
  ·exact .inr (.inr (.inl ⟨z,a4 z X,by rw[<- I];exact (J z).symm⟩))
  ·by_cases M:z=b
   ·subst M;rw[bg]at H;exact absurd R (a2 i l H)
   ·rw[aH M]at H;simp only[if_neg M]at O;exact .inr (.inr (.inr ⟨z,i,l,H,R,O⟩))
 have h2:=h1.nwGrow hV N (λk I=>⟨(hN k I).1,λhu=>(hN k I).2 (b1 k hu)⟩);rw[B9]at a3;obtain⟨Y,m1,m2,m3,m4⟩:=iG (P:=P) (V:=V) (W:={ W with β:=λr=>if r=b then W.β b else W.β r,cs:=λr=>if r=b then cs else W.cs r,bs:=λr j=>if r=b then [] else W.bs r j,nw:=λk=>W.nw k\/N k })
  (st:=ac [(b,⟨(S b).ver+1,.agg,B7 cs.length .dead⟩)] S) (p:=p) (λk I=>hG k I) hm a3.2
 have b3:=hm.len;have b4:=cI p c y;have h3:=h2.reown hV b ⟨(S b).ver+2,.agg,aq p c y⟩ Y (by rw[bg];exact BM _) (by rw[bg]) (by rw[bg,Ck];omega)
  (λj l v H R=>m2 j l v H (by simpa using R))
  (λj l H R k I=>by
   have a9:=m3 j l H R k I;obtain⟨q1,q2⟩:=a0 k a9;refine⟨λhn=>hn.elim (λhn=>q1 (.inl hn)) q2,λhp=>q1 (.inr (.inl hp)),λz X e0=>q1 (.inr (.inr (.inl ⟨z,a4 z X,by rw[<- e0];exact (J z).symm⟩))),λr1 j1 l1 a5 O g4 g5=>?_⟩;rw[aH a5]at O;have g5:k∈(if r1=b then [] else W.bs r1 j1):=g5;rw[if_neg a5]at g5;exact q1 (.inr (.inr (.inr ⟨r1,j1,l1,O,g4,g5⟩)))) m4
 rw[uw]at h3;refine⟨_,h3,funext λq=>J q,λk=>Cd,λq hq=>if_neg hq,λq i hq=>?_,?_⟩
 ·show (if q=b then Y i else if q=b then [] else W.bs q i)=_;rw[if_neg hq,if_neg hq]
 ·rintro k ((I|I)|I|⟨z,X,I⟩|⟨z,i,l,H,R,O⟩)
  ·exact .inl (.inl I)
  ·exact .inr (.inl I)
  ·exact .inl (.inr (.inl I))
  ·refine .inl (.inr (.inr (.inl ⟨z,?_,by rw[<- I];exact (J z).symm⟩)));rcases ak b z ⟨(S b).ver+2,.agg,aq p c y⟩ S with ⟨rfl,e⟩|⟨_,e⟩
   ·exact hb
   ·exact⟨X.1,by rw[<- e];exact X.2⟩
  ·by_cases M:z=b
   ·subst M;rw[bg]at H;have O:k∈(if z=z then Y i else _):=O;rw[if_pos rfl]at O;exact .inr (.inr (m3 i l H R k O))
   ·rw[aH M]at H;have O:k∈(if z=b then Y i else if z=b then [] else W.bs z i):=O;rw[if_neg M,if_neg M]at O;exact .inl (.inr (.inr (.inr ⟨z,i,l,H,R,O⟩)))
end
section
variable {P:Program} {V:Env} {Γ:List Ctr} {st:St} {R:Type}
theorem gy:∀ (ps:List PK) (xs:List (aG×List Leaf)) (r:Upd->List (aG×List Leaf)->Option (Bool×Nat×Nat)->Option R),ku st ps xs r=(cW st ps xs).bind λu=>r u.1 u.2.1 u.2.2
 |[],xs,r=>rfl
 |_::_,[],r=>rfl
 |p::ps,x::xs,r=>by
  simp only[ku,cW];split
  ·rw[gX];cases cl st (x.2.getD _ .dead) <;> rfl
  ·rw[gy ps xs];cases cW st ps xs <;> rfl
theorem kY {a:Ty}:∀ {ls:List Leaf} {j k:Nat},lk a j ls=some k->j<=k/\∃ l,ls[k-j]?=some l/\jj l=true
 |[],_,_,h=>by simp[lk]at h
 |l::ls,j,k,h=>by
  simp only[lk]at h;cases r:jj l&&pn a j with
  |true =>
   rw[r]at h;simp only[cond_true,BA]at h;subst h;simp only[BC]at r;exact⟨BU _,l,by simp,r.1⟩
  |false =>
   rw[r]at h;obtain⟨H,z,u,y⟩:=kY h;exact⟨by omega,z,by rw[show k-j=(k-(j+1))+1 by omega];simpa using u,y⟩
theorem rr {p:PK}{ls:List Leaf}{k:Nat}(h:p.nest ls=some k):∃ l,ls[k]?=some l/\jj l=true:=by
 cases p with
 |own a=>obtain⟨_,l,r,u⟩:=kY h;exact⟨l,by simpa using r,u⟩
 |io a=>obtain⟨_,l,r,u⟩:=kY h;exact⟨l,by simpa using r,u⟩
 |_=>simp[PK.nest]at h
theorem tw (y:ax V){W W':Wit}{st':St}{w w':World}(z:cE V W W' st st' w w'):∀ {xs:List (aG×List Leaf)} {u:List Value},gP P V W st w xs u->gP P V W' st' w' xs u
 |[],_,h=>h
 |_::_,_,⟨v,r,M,e,H,I,J⟩=>⟨v,r,M,e,H,I.carry y.ro z,tw y z J⟩
theorem aC.setLeaf {W:Wit}{w:World}{ls:List Leaf}{cs:List Value}(y:aC P V W st w ls cs){k:Nat}{l:Leaf}(H:¬ ao l)(h:∀ v,cs[k]?=some v->aI P V W st w [] l v):aC P V W st w (aS ls k l) cs:=by
 have r:=y.length;refine aC.mk (by simp[aS,r]) λj J v u z=>?_
 rcases aQ _ _ _ _ _ u with ⟨rfl,rfl,M⟩|⟨I,u⟩
 ·exact⟨h v z,H,y.one' v (List.mem_of_getElem? z)⟩
 ·exact y.at_ j J v u z
def Bb (W:Wit)(S:St)(w:World):Option (Bool×Nat×Nat)->Prop
 |some (_,r,j)=>∃ v,W.cs TMP=[v]/\tq W S w r j v
 |none=>True
theorem ot (Z:ax V){W:Wit}{a:Act}{w:World}(h:ap P V W st a w):∀ (ps:List PK) (xs:List (aG×List Leaf)) (Y:List Value) (U:Upd) (ys:List (aG×List Leaf)) (b:Option (Bool×Nat×Nat)),
  gP P V W st w xs Y->cW st ps xs=some (U,ys,b)->∃ H,ap P V H (ac U st) a w/\gP P V H (ac U st) w ys Y/\H.nw=W.nw/\H.β=W.β/\Bb H (ac U st) w b/\cE V W H st (ac U st) w w/\(∀ q,(ac U st q).sh=(st q).sh\/q=TMP) /\
   (∀ f r j,b=some (f,r,j)->f=true->ps.any PK.isIo=true)
 |[],xs,Y,U,ys,b,hx,y=>by
  simp only[cW,BA,By]at y;obtain⟨rfl,rfl,rfl⟩:=y;exact⟨W,h,hx,rfl,rfl,trivial,cE.refl V W st w,λ_=>.inl rfl,λ_ _ _ h=>by cases h⟩
 |_::_,[],Y,U,ys,b,hx,y=>by
  simp only[cW,BA,By]at y;obtain⟨rfl,rfl,rfl⟩:=y;exact⟨W,h,hx,rfl,rfl,trivial,cE.refl V W st w,λ_=>.inl rfl,λ_ _ _ h=>by cases h⟩
 |p::ps,x::xs,Y,U,ys,b,⟨v,J,cs,e,hs,hl,z⟩,y=>by
  subst e;simp only[cW]at y;split at y
  ·rename_i k hk;simp only[BB]at y;obtain⟨u,I,y⟩:=y;simp only[By]at y;obtain⟨rfl,rfl,rfl⟩:=y;obtain⟨l,M,a1⟩:=rr hk;have hg:x.2.getD k .dead=l:=by rw[B3,M];rfl
   rw[hg]at I ⊢;have a0:k<cs.length:=by rw[<- hl.length];exact (BD.1 M).1
   have O:=BS a0;obtain⟨U,l'⟩:=u;obtain⟨H,n,p0,E0,e0,a2,g1,X,g3,g4,_,_,g5,g6,_,g7,g8,g9⟩:=uW Z h (hl.at_ k l _ M O).1 I;subst g3;refine⟨H,g1,⟨v,J,cs,rfl,hs,(hl.carry Z.ro X).setLeaf id λu I=>?_,tw Z X z⟩,g5,g6,⟨_,g7,g9⟩,X,g8,λf r j hb hf=>?_⟩
   ·rw[O]at I;simp only[BA]at I;subst I;exact g4
   ·simp only[BA,By]at hb;rw[CO,hb.1,hf];rfl
  ·simp only[BB]at y;obtain⟨u,I,y⟩:=y;simp only[By]at y;obtain⟨rfl,rfl,rfl⟩:=y;obtain⟨H,g1,X,g3,g4,g5,g6,g7,g8⟩:=ot Z h ps xs J u.1 u.2.1 u.2.2 z I;exact⟨H,g1,⟨v,J,cs,rfl,hs,hl.carry Z.ro g6,X⟩,g3,g4,g5,g6,g7,λf r j hb hf=>by rw[CO,g8 f r j hb hf,Bool.or_true]⟩
end
section
variable {P:Program} {V:Env} {Γ:List Ctr} {st:St}
theorem iH {st:St}{q i:Nat}:∀ {ks:List (Nat×Nat)},(q,i)∉ks->(ac (aE st ks) st q).ls[i]?=(st q).ls[i]?
 |[],_=>rfl
 |(r,j)::ks,h=>by
  simp only[CG,not_or]at h;have e:ac (aE st ((r,j)::ks)) st=ac [(r,fT (ac (aE st ks) st r) j)] (ac (aE st ks) st):=aO _ _ _ _;rw[e];rcases ak r q (fT (ac (aE st ks) st r) j) (ac (aE st ks) st) with ⟨rfl,e⟩|⟨_,e⟩
  ·rw[e];simp only[fT,aS];rw[CD (λu=>h.1 (by rw[u]))];exact iH h.2
  ·rw[e];exact iH h.2
theorem kZ {st:St}{q i:Nat}:∀ {ks:List (Nat×Nat)},(q,i)∉ks->(ac (aM st ks) st q).ls[i]?=(st q).ls[i]?
 |[],_=>rfl
 |(r,j)::ks,h=>by
  simp only[CG,not_or]at h;have e:ac (aM st ((r,j)::ks)) st=ac [(r,fY (ac (aM st ks) st r) j)] (ac (aM st ks) st):=aO _ _ _ _;rw[e];rcases ak r q (fY (ac (aM st ks) st r) j) (ac (aM st ks) st) with ⟨rfl,e⟩|⟨_,e⟩
  ·rw[e];simp only[fY,aS];rw[CD (λu=>h.1 (by rw[u]))];exact kZ h.2
  ·rw[e];exact kZ h.2
theorem nf (d n:Nat)(p q:Bool)(ks:List (Nat×Nat×Nat))(ep:Nat):∀ (z:List RK) (y:ai z),∀ x∈(bB d n p q ks ep z y).2,x.1=B0+d
 |[],_,x,u=>by simp[bB]at u
 |r::z,y,x,u=>by
  simp only[bB,BL]at u;rcases u with u|u
  ·cases r <;> simp[pm]at u;rw[u]
  ·exact nf d n p q ks ep z y.2 x u
theorem ru {q:Nat}(st:St):∀ (U:Upd),(∀ x∈U,x.1≠q)->ac U st q=st q
 |[],_=>rfl
 |(r,c)::U,h=>by
  rw[aO,aH (CE (h (r,c) (BW ..)))];exact ru st U (λx u=>h x (BP _ u))
def mm (u:St)(c:Ctr)(d:Nat)(xs:List (aG×List Leaf))(g:Got (ab c.ps))(y:ai c.rs×ah c.ps):Upd :=
 let H:=(let U:=(bif c.fresh then [] else aE u g.frz);aM (ac U u) g.kill++U);let z:=aF (ac H u) (g.p&&!c.fresh) c.ps xs y.2++H;let r:=bB d (ac z u (B0+d)).ver (g.p&&!c.fresh) g.p (g.frz.map λk=>(k.1,k.2,(ac z u k.1).ver)) (ac z u EPO).ver c.rs y.1
 (d,eM ((ac (r.2++z) u d).ver+1) r.1)::(r.2++z)
theorem yT (hV:ax V){W0:Wit}{u:St}{a:Act}{w:World}(h0:ap P V W0 u a w){c:Ctr}{xs:List (aG×List Leaf)}{vs:List Value}(ec:gP P V W0 u w xs vs){g:Got (ab c.ps)}(hg:a7 (cd Γ u) c.ps xs=some g)
  (hf:∀ z∈g.frz,aB u z) (H:∀ z∈g.kill,aB u z) (et:∀ b∈g.lend,live u b) (cx:aX g.kill=true) (cy:dC g.frz g.kill=true) (hE:∀ z∈g.kill,z.1≠EPO) (b4:g.lend.length<=1) (es:g.lend=[]\/c.ps.any PK.isIo=false)
  {b9:List (List Nat)} (bx:∀ k,b9.flatten.count k=(g.lend.map W0.β).count k+(aW W0 g.kill).count k)
  {d:Nat} (hd:d<V.nt) (e4:∀ x∈V.fixt,x.1≠d) (a3:gD u d c.rs=true) (e7:((c.fresh&&g.lend.isEmpty)||!(c.rs.any RK.isBv))=true) {y:ai c.rs×ah c.ps} {e:Ending} {w':World} (c3:tr c w (bi V W0 g.p g.frz) vs b9 y e w') :
  ∃ v,e=.returned v/\∃ W1,ap P V W1 (ac (mm u c d xs g y) u) (a.put (some d) v) w'/\(∀ q,q≠d->q≠B0+d->q∉g.lend->W1.cs q=W0.cs q) /\
   (∀ q i,q≠d->q≠B0+d->q∉g.lend->(q,i)∉g.frz->(q,i)∉g.kill->(ac (mm u c d xs g y) u q).ls[i]?=(u q).ls[i]?)/\(∀ k,k<w.heap.size->k∉aW W0 g.kill->k∉g.lend.map W0.β->w'.heap[k]?=w.heap[k]?)/\w.heap.size<=w'.heap.size:=by
 obtain⟨v,us,N,cu,b6,rfl,eb,cc,ej,dc,ed,ev,hN,bn,e6,R,Z⟩:=c3;have a4:∀ k,k∈b9.flatten<->k∈g.lend.map W0.β\/k∈aW W0 g.kill:=λk=>by
  rw[<- BK,<- BK,<- BK,bx k];omega
 have a0:∀ k,k<w.heap.size->k∉aW W0 g.kill->k∉g.lend.map W0.β->w'.heap[k]?=w.heap[k]?:=λk h1 h2 h3=>ev k h1 (λh=>((a4 k).1 h).elim h3 h2)
 refine⟨v,rfl,?_⟩;unfold mm;generalize ba:(bif c.fresh then [] else g.frz)=O;have hU:(bif c.fresh then [] else aE u g.frz)=aE u O:=by rw[<- ba];cases c.fresh <;> rfl
 have e5:dC O g.kill=true:=by rw[<- ba];cases c.fresh with|true=>rfl|false=>exact cy
 have c1:∀ z∈O,z∈g.frz:=by rw[<- ba];cases c.fresh with|true=>simp|false=>exact λ_ h=>h
 have f2:∀ z∈O,aB u z:=λz hz=>hf z (c1 z hz)
 rw[hU];obtain⟨h1,h2,h3,h4⟩:=fD hV h0 e5 H;have b2:∀ q i,(q,i)∉g.frz->(q,i)∉g.kill->(ac (aM (ac (aE u O) u) g.kill++aE u O) u q).ls[i]?=(u q).ls[i]?:=λq i q1 q2=>by
  rw[bz,kZ q2,iH (λh=>q1 (c1 _ h))]
 generalize f3:aM (ac (aE u O) u) g.kill++aE u O=I at h1 h2 h3 h4 b2;have a1:∀ k∈aW W0 g.kill,¬ ce V (W0.frz u O) (ac I u) k:=λk H=>mh ⟨(h4 k H).1,(h4 k H).2.1,(h4 k H).2.2.2.1,(h4 k H).2.2.2.2⟩
 have a2:∀ k,pY w w' b9.flatten k->k∉g.lend.map W0.β->k<w'.heap.size/\¬ ce V (W0.frz u O) (ac I u) k:=by
  rintro k ⟨f1,a6⟩ f0;refine⟨f1,λJ=>?_⟩;rcases a6 with a6|a6
  ·have:=h1.used_lt k J;omega
  ·exact ((a4 k).1 a6).elim f0 (λa6=>a1 k a6 J)
 have hG:∀ k,(N k\/(c.fresh=false/\bi V W0 g.p g.frz k))->gd V { W0.frz u O with nw:=λk=>(W0.frz u O).nw k\/N k } (g.p&&!c.fresh) k:=by
  rintro k (H|⟨d1,H⟩)
  ·exact .inl (.inr H)
  ·have e1:O=g.frz:=by rw[<- ba,d1];rfl
   have:=kg (V:=V) (W:=W0) (p:=g.p) hf k H;rw[d1];rw[<- e1]at this;exact bT (W':={ W0.frz u O with nw:=λk=>(W0.frz u O).nw k\/N k }) (by intro h;simp[h]) (λ_ h=>Or.inl h) k this
 rw[B5]at R;have c4:∀ (W2:Wit),ap P V W2 (ac (aF (ac I u) (g.p&&!c.fresh) c.ps xs y.2++I) u) a w'->(∀ k,(N k\/(c.fresh=false/\bi V W0 g.p g.frz k))->gd V W2 (g.p&&!c.fresh) k) ->
   (∀ k∈b6.flatten,¬ ce V W2 (ac (aF (ac I u) (g.p&&!c.fresh) c.ps xs y.2++I) u) k) ->
   (c.rs.any RK.isBv=true->∀ x∈g.frz,∀ k,k∈W0.bs x.1 x.2->k∈W2.bs x.1 x.2)->(c.rs.any RK.isBv=true->∀ k,W0.nw k->W2.nw k) ->
   (∀ q,q∉g.lend->W2.cs q=W0.cs q)->(∀ q i,q∉g.lend->(q,i)∉g.frz->(q,i)∉g.kill->(ac (aF (ac I u) (g.p&&!c.fresh) c.ps xs y.2++I) u q).ls[i]?=(u q).ls[i]?) ->
   (∀ q,(ac (aF (ac I u) (g.p&&!c.fresh) c.ps xs y.2++I) u q).sh=(u q).sh) ->
   ∃ W1,ap P V W1 (ac (let Y:=aF (ac I u) (g.p&&!c.fresh) c.ps xs y.2++I
     let r:=bB d (ac Y u (B0+d)).ver (g.p&&!c.fresh) g.p (g.frz.map λk=>(k.1,k.2,(ac Y u k.1).ver)) (ac Y u EPO).ver c.rs y.1
     (d,eM ((ac (r.2++Y) u d).ver+1) r.1)::(r.2++Y)) u) (a.put (some d) v) w'/\(∀ q,q≠d->q≠B0+d->q∉g.lend->W1.cs q=W0.cs q) /\
    (∀ q i,q≠d->q≠B0+d->q∉g.lend->(q,i)∉g.frz->(q,i)∉g.kill->(ac (let Y:=aF (ac I u) (g.p&&!c.fresh) c.ps xs y.2++I
     let r:=bB d (ac Y u (B0+d)).ver (g.p&&!c.fresh) g.p (g.frz.map λk=>(k.1,k.2,(ac Y u k.1).ver)) (ac Y u EPO).ver c.rs y.1
     (d,eM ((ac (r.2++Y) u d).ver+1) r.1)::(r.2++Y)) u q).ls[i]?=(u q).ls[i]?):=by
  intro W2 g1 ef a5 eg d3 d2 c0 bl;generalize aF (ac I u) (g.p&&!c.fresh) c.ps xs y.2++I=Y at g1 a5 c0 bl ⊢;have c2:gD (ac Y u) d c.rs=true:=by
   unfold gD at a3 ⊢;split at a3
   ·rw[bl];exact a3
   ·exact a3
  obtain⟨W1,q1,q2⟩:=we hV g1 (q:=g.p) (ks:=g.frz.map λk=>(k.1,k.2,(ac Y u k.1).ver)) (ep:=(ac Y u EPO).ver) e6 ef (λhb=>by
   refine⟨λk H=>?_,BU _,λk H=>?_⟩
   ·rcases H with H|(H|H)|⟨x,hx,H⟩
    ·exact .inl (bT (W':=W2) (by intro h;simp at h;exact h.1) (λ_ h=>h) k (ef k H))
    ·exact .inl (.inl (d3 hb k H))
    ·exact .inl (.inr H)
    ·exact .inr ⟨(x.1,x.2,(ac Y u x.1).ver),Cg.2 ⟨x,hx,rfl⟩,eg hb x hx k H⟩
   ·obtain⟨x,hx,rfl⟩:=Cg.1 H;exact BU _) a5 R.2.1 eb hd e4 c2
  have e1:∀ (X:Upd) (C:bS),ac ((d,C)::(X++Y)) u=ac ((d,C)::X) (ac Y u):=λX C=>by
   rw[aO d C (X++Y),aO d C X,bz]
  simp only[e1,bz];refine⟨W1,q1,λq hq c6 cw=>(q2 q hq c6).trans (d2 q cw),λq i hq c6 cw ad a9=>?_⟩;rw[aO,aH hq,ru _ _ (λx hx=>by rw[nf _ _ _ _ _ _ _ _ x hx];exact CE c6)];exact c0 q i cw ad a9
 refine (?_:∃ W1,_/\_/\_).imp λW1 hh=>⟨hh.1,hh.2.1,hh.2.2,a0,cc⟩
 cases M:g.lend with
 |nil =>
  rw[M]at a4 a0 a2 bx;simp only[Cx,List.not_mem_nil,not_false_iff,true_implies,forall_const,false_or]at a4 a0 a2;rw[M]at c4;have h5:=h1.world hV cc ej dc ed (λk H=>a0 k (h1.used_lt k H) (λhm=>a1 k hm H));have h6:=h5.nwGrow hV N (λk H=>a2 k (hN k H));have cp:∀ k,ce V { W0.frz u O with nw:=λk=>(W0.frz u O).nw k\/N k } (ac I u) k->ce V (W0.frz u O) (ac I u) k\/N k:=by
   rintro k ((H|H)|H|H|H)
   ·exact .inl (.inl H)
   ·exact .inr H
   ·exact .inl (.inr (.inl H))
   ·exact .inl (.inr (.inr (.inl H)))
   ·exact .inl (.inr (.inr (.inr H)))
  have b3:∀ k∈cu.flatten++b6.flatten,¬ ce V { W0.frz u O with nw:=λk=>(W0.frz u O).nw k\/N k } (ac I u) k:=λk H J=>by
   obtain⟨q1,q2⟩:=Z k H;rcases cp k J with J|J
   ·exact (a2 k q1).2 J
   ·exact q2 J
  obtain⟨W2,g1,g2,g3,g4,g5,g6,g7⟩:=qE (Γ:=Γ) hV (W0:=W0) (W:={ W0.frz u O with nw:=λk=>(W0.frz u O).nw k\/N k }) (p:=g.p&&!c.fresh) rfl hG h6 c.ps xs vs g y.2 cu ec hg (tv c.ps xs g hg M) bn cx hE
   (λx hx l hl ho=>(h2 x.1 x.2 l hl ho).2.2 hx) (λk H=>b3 k (BJ _ H)) R.1
  rw[<- bz]at g1 g5 g6 g7;refine c4 W2 g1 (λk H=>?_) (λk H J=>?_) (λhb x hx k H=>?_) (λhb k H=>?_) (λq _=>by rw[g2];rfl) (λq i _ ad a9=>(g6 q i a9).1.trans (b2 q i ad a9)) (λq=>(g5 q).1.trans (h3 q).1)
  ·rcases hG k H with H|H
   ·exact .inl (by rw[g4];exact H)
   ·exact .inr H
  ·rcases g7 k J with J|J
   ·exact b3 k (BE _ H) J
   ·exact R.2.2 k J k H rfl
  ·rw[(g6 x.1 x.2 (nE cy x hx)).2];exact H
  ·rw[g4];exact .inl (.inl H)
 |cons b e0 =>
  have c5:e0=[]:=by
   rw[M]at b4;simp at b4;exact b4
  subst c5;have em:c.ps.any PK.isIo=false:=es.resolve_left (by rw[M];simp);have dd:c.rs.any RK.isBv=false:=by
   rw[M]at e7;simpa using e7
  obtain⟨_,r2⟩:=o6 (Γ:=Γ) h0 (S:=ac I u) (p:=g.p&&!c.fresh) c.ps xs vs g y.2 cu ec hg em bn;obtain⟨cT,yv,cs,E,b0,r3,r4,r5,r6,r7⟩:=r2 b M;rw[r6]at R Z;have hβ:(W0.frz u O).β=W0.β:=rfl;have bb:∀ k,k∈g.lend.map W0.β<->k=W0.β b:=λk=>by rw[M];simp
  have hb:live (ac I u) b:=(iz (λq=>(h3 q).1) b).2 (et b (by rw[M];simp));have cb:∀ k,k∈(W0.β b::b0)++b6.flatten->¬ N k:=λk H=>(Z k H).2
  obtain⟨W2,g1,g2,g3,g4,g5,g6⟩:=yS hV h1 hb (N:=N) (p:=g.p&&!c.fresh) r4 r5 R.1 (by rw[h1.len b];show (W0.cs b).length=_;rw[<- h0.len b];exact r7)
   (λk J ex=>a0 k (h1.used_lt k J) (λhm=>a1 k hm J) (λhm=>ex ((bb k).1 hm))) cc ej dc ed
   (λk H=>a2 k (hN k H) (λhm=>cb _ (BJ _ (BW ..)) (by rw[<- (bb k).1 hm];exact H)))
   (λk H=>⟨(a2 k (Z k (BJ _ (BP _ H))).1 (λhm=>by
    have:=(bb k).1 hm;subst this;exact (B9.1 R.1).1 H)).2,cb k (BJ _ (BP _ H))⟩) hG
  have e2:ac (aF (ac I u) (g.p&&!c.fresh) c.ps xs y.2++I) u=ac [(b,⟨(ac I u b).ver+2,.agg,aq (g.p&&!c.fresh) cT yv⟩)] (ac I u):=by rw[bz,r3]
  have en:∀ k∈b6.flatten,k∉g.lend.map W0.β:=λk H hm=>R.2.2 _ (BW ..) k H ((bb k).1 hm).symm
  rw[<- e2]at g1 g6;have b5:=c4 W2 g1 (λk H=>?_) (λk H J=>?_) (λb1=>by rw[dd]at b1;cases b1) (λb1=>by rw[dd]at b1;cases b1) (λq hq=>?_) (λq i hq ad a9=>?_) (λq=>?_)
  ·rw[M]at b5;exact b5
  ·rcases hG k H with H|H
   ·exact .inl ((g3 k).2 H)
   ·exact .inr H
  ·rcases g6 k J with J|J|J
   ·exact (a2 k (Z k (BE _ H)).1 (en k H)).2 J
   ·exact cb k (BE _ H) J
   ·exact R.2.2 k (BP _ J) k H rfl
  ·rw[M]at hq;rw[g4 q (by simpa using hq)];rfl
  ·rw[M]at hq;rw[e2,aH (by simpa using hq)];exact b2 q i ad a9
  ·rw[e2];rcases ak b q ⟨(ac I u b).ver+2,.agg,aq (g.p&&!c.fresh) cT yv⟩ (ac I u) with ⟨rfl,e3⟩|⟨_,e3⟩
   ·rw[e3];have:=hb.2;rw[(h3 q).1]at this;exact this.symm
   ·rw[e3];exact (h3 q).1
end
section
variable {P:Program} {V:Env} {Γ:List Ctr} {T:TypeId->TI} {st:St} {o:Oper} {R:Type} {κ:Upd->Option R} {r:R}
theorem yU {ls:List Leaf}{j:Nat}{p:Bool}{y:Option (Nat×Nat)}{E:TypeId}{e:Ty}{xs:List e.den}(h:ls.getD j .dead=.own p y E e xs):ls[j]?=some (.own p y E e xs):=by
 rw[B3]at h;cases u:ls[j]? with
 |none=>rw[u]at h;simp at h
 |some z=>rw[u]at h;simp at h;rw[h]
theorem Aj (hV:ax V){b:Option (Bool×Nat×Nat)}{U:Upd}(h:jN st b U κ=some r) :
  ∃ U',κ U'=some r/\∀ I a w,ap P V I (ac U st) a w->(∀ q j,b=some (true,q,j)->∃ v,I.cs TMP=[v]/\tq I (ac U st) w q j v)->Rel P V (ac U' st) a w:=by
 unfold jN at h;split at h
 ·rename_i q j;split at h
  ·rename_i p i off E' e' xs q' E e ys hq b3;obtain⟨y,hy,h⟩:=Bs.1 h;obtain⟨_,_,hy⟩:=gi hy;simp only[Cy]at hy;split at h
   ·rename_i z hz;refine⟨_,h,λI a w hr hb=>?_⟩;obtain⟨v,c2,a2,bn,i0,b4,p0,E0,e0,bx,g,c6,g1,g2,g3,g4⟩:=hb q j rfl;have hq:=yU hq;rw[hq]at g1;obtain⟨rfl,b5,rfl,h4⟩:p=p0/\some (i,off)=some (i0,b4)/\E'=E0/\(⟨e',xs⟩:(e:Ty)×List e.den)=⟨e0,bx⟩:=by
     simp only[BA,Leaf.own.injEq]at g1;obtain⟨q1,q2,q3,q4,q5⟩:=g1;subst q4;rw[heq_eq_eq]at q5;subst q5;exact⟨q1,by simpa using q2,q3,rfl⟩
    simp only[BA,By]at b5;obtain⟨rfl,rfl⟩:=b5;simp only[Sigma.mk.injEq]at h4;obtain⟨rfl,h4⟩:=h4;rw[heq_eq_eq]at h4;subst h4;generalize hS:ac U st=S at hr hq g1 g2 g3 b3 ⊢;have a9:(S TMP).ls[0]?=some (.own q' none E e ys):=by rw[b3];rfl
    have b6:(I.cs TMP)[0]?=some v:=by rw[c2];rfl
    have ad:=hr.leaf q j _ _ hq g2;have b0:=hr.leaf TMP 0 _ _ a9 b6;have ad:OwH w (gd V I p) (some (i,off)) E' e' xs _ (I.bs q j):=ad;have b0:Ow w (gd V I q') E e ys v (I.bs TMP 0):=b0;have ba:=ad.carry (G':=gd V I (p||q')) (bT (W':=I) (by intro h;simp[h]) (λ_ h=>h)) (λ_ _=>rfl) (λ_ _=>rfl);have bb:=OwH.carry (G':=gd V I (p||q')) b0 (bT (W':=I) (by intro h;simp[h]) (λ_ h=>h)) (λ_ _=>rfl) (λ_ _=>rfl);have bl:∀ k∈I.bs TMP 0,k∉I.bs q j:=λk M a0=>a2 (hr.sep TMP 0 _ q j _ a9 trivial hq trivial k M a0).1.symm
    obtain⟨b2,c3,c1⟩:=ba.back bb bl hy hz (λg' c4 e1=>by
     simp only[Bu,BA,CX,and_true]at e1;rw[<- e1.1];exact g4)
    have c0:∀ k∈b2,k∈I.bs q j\/k∈I.bs TMP 0:=λk M=>by
     have h5:=c1 k;have h6:=BK.2 M;by_cases h7:k∈I.bs q j
     ·exact .inl h7
     ·have:=BZ.2 h7;exact .inr (BK.1 (by omega))
    obtain⟨h1,c5⟩:=hr.putGhost hV TMP iT.1 iT.2.1 ((S TMP).ver+1) .off [] [] (λ_=>[]) (BM _) rfl (by simp) (λj l u hj=>by simp at hj) (λj l hj=>by simp at hj) (λj j' l l' hj=>by simp at hj);have a5:∀ x,x≠TMP->ac [(TMP,⟨(S TMP).ver+1,.off,[]⟩)] S x=S x:=λx hx=>aH hx _ _
    have a6:(ac [(TMP,⟨(S TMP).ver+1,.off,[]⟩)] S) q=S q:=a5 q a2;have H:∀ (O:Nat) (l':Leaf),O≠j->(aS (S q).ls j (.own (p||q') none E' e' (xs.set i z)))[O]?=some l'->(S q).ls[O]?=some l':=by
     intro O l' a3 Z;rcases aQ _ _ _ _ _ Z with ⟨rfl,_,_⟩|⟨_,Z⟩
     ·exact absurd rfl a3
     ·exact Z
    have b9:∀ (l':Leaf),(aS (S q).ls j (.own (p||q') none E' e' (xs.set i z)))[j]?=some l'->l'=.own (p||q') none E' e' (xs.set i z):=by
     intro l' Z;rcases aQ _ _ _ _ _ Z with ⟨_,rfl,_⟩|⟨a3,_⟩
     ·rfl
     ·exact absurd rfl a3
    have a4:∀ b,live (ac [(TMP,⟨(S TMP).ver+1,.off,[]⟩)] S) b->live S b:=λb hb=>by
     have:b≠TMP:=by have:=hb.1;have:=iT.2.1;omega
     exact⟨hb.1,by rw[<- a5 b this];exact hb.2⟩
    have b1:∀ k∈b2,¬ I.nw k/\¬ V.prot k/\(∀ b,live S b->I.β b≠k)/\∀ (Y i1:Nat) (l1:Leaf),(S Y).ls[i1]?=some l1->ao l1->(Y,i1)≠(q,j)->Y≠TMP->k∉I.bs Y i1:=λk M=>by
     rcases c0 k M with M|M
     ·have h9:=hr.ownb q j _ hq trivial k M;exact⟨h9.1,h9.2.1,h9.2.2,λY i1 l1 g5 g6 g7 _ g8=>g7 (by obtain⟨e1,e2⟩:=hr.sep Y i1 l1 q j _ g5 g6 hq trivial k g8 M;rw[e1,e2])⟩
     ·have h9:=hr.ownb TMP 0 _ a9 trivial k M;exact⟨h9.1,h9.2.1,h9.2.2,λY i1 l1 g5 g6 _ g7 g8=>g7 (hr.sep Y i1 l1 TMP 0 _ g5 g6 a9 trivial k g8 M).1⟩
    have h2:=(h1.reownE hV q ⟨(S q).ver,(S q).sh,aS (S q).ls j (.own (p||q') none E' e' (xs.set i z))⟩ (λO=>if O=j then b2 else I.bs q O) bn (by rw[a6];exact BU _) (by rw[a6]) (by rw[a6];simp[aS])
     (λO l' u g5 g6=>by
      have g6:(if q=TMP then [] else I.cs q)[O]?=some u:=g6;rw[if_neg a2]at g6;by_cases J:O=j
      ·subst J;obtain rfl:=b9 l' g5;rw[g2]at g6;simp only[BA]at g6;subst g6;simp only[if_true];exact c3
      ·simp only[if_neg J];have:=h1.leaf q O l' u (by rw[a6];exact H O l' J g5) (by show (if q=TMP then [] else I.cs q)[O]?=_;rw[if_neg a2];exact g6);have e0:(if q=TMP then ([]:List Nat) else I.bs q O)=I.bs q O:=if_neg a2;simp only[e0]at this;exact this)
     (λO l' g5 g6 k M=>by
      by_cases J:O=j
      ·subst J;simp only[if_true]at M;obtain⟨q1,q2,q3,q4⟩:=b1 k M;refine⟨q1,q2,λb hb=>q3 b (a4 b hb),λY j1 l1 a3 g7 g8 g9=>?_⟩;by_cases a1:Y=TMP
       ·subst a1;rw[bg]at g7;simp at g7
       ·rw[a5 Y a1]at g7;have g9:k∈(if Y=TMP then [] else I.bs Y j1):=g9;rw[if_neg a1]at g9;exact q4 Y j1 l1 g7 g8 (λe=>a3 (by cases e;rfl)) a1 g9
      ·simp only[if_neg J]at M;have Z:=H O l' J g5;have h9:=hr.ownb q O l' Z g6 k M;refine⟨h9.1,h9.2.1,λb hb=>h9.2.2 b (a4 b hb),λY j1 l1 a3 g7 g8 g9=>?_⟩;by_cases a1:Y=TMP
       ·subst a1;rw[bg]at g7;simp at g7
       ·rw[a5 Y a1]at g7;have g9:k∈(if Y=TMP then [] else I.bs Y j1):=g9;rw[if_neg a1]at g9;exact a3 (hr.sep q O l' Y j1 l1 Z g6 g7 g8 k M g9).1.symm)
     (λi1 i2 l1 l2 g5 g6 g7 g8 k M a0=>by
      by_cases J:i1=j <;> by_cases X:i2=j
      ·omega
      ·subst J;simp only[if_true]at M;simp only[if_neg X]at a0;exact absurd a0 ((b1 k M).2.2.2 q i2 l2 (H i2 l2 X g7) g8 (λe=>X (by cases e;rfl)) a2)
      ·subst X;simp only[if_true]at a0;simp only[if_neg J]at M;exact absurd M ((b1 k a0).2.2.2 q i1 l1 (H i1 l1 J g5) g6 (λe=>J (by cases e;rfl)) a2)
      ·simp only[if_neg J]at M;simp only[if_neg X]at a0;exact (hr.sep q i1 l1 q i2 l2 (H i1 l1 J g5) g6 (H i2 l2 X g7) g8 k M a0).2)).1
    show ∃ W,ap P V W _ a w;have e1:ac ((q,⟨(S q).ver,(S q).sh,aS (S q).ls j (.own (p||q') none E' e' (xs.set i z))⟩)::(TMP,⟨(S TMP).ver+1,.off,[]⟩)::(EPO,bU (S EPO))::U) st =
      ac [(q,⟨(S q).ver,(S q).sh,aS (S q).ls j (.own (p||q') none E' e' (xs.set i z))⟩),(EPO,bU (ac [(TMP,⟨(S TMP).ver+1,.off,[]⟩)] S EPO))] (ac [(TMP,⟨(S TMP).ver+1,.off,[]⟩)] S):=by
     rw[a5 EPO (CE iT.2.2),aO q,aO TMP,aO EPO,hS,aO q _ [(EPO,bU (S EPO))],mV iT.2.2]
    rw[e1];exact⟨_,h2⟩
   ·cases h
  ·cases h
 ·exact⟨_,h,λI a w hr _=>⟨I,hr⟩⟩
theorem u3 (hV:ax V)(hΓ:∀ c∈Γ,bO P c){d:Nat}(hd:d<V.nt)(dc:∀ x∈V.fixt,x.1≠d){f:FuncId}{xs:List (aG×List Leaf)}(h:jk Γ st d f xs κ=some r) :
  fO P f/\∃ U,κ U=some r/\∀ W a w,ap P V W st a w->∀ vs,gP P V W st w xs vs->Calls P f vs.toArray w (λe w'=>∃ v,e=.returned v/\Rel P V (ac U st) (a.put (some d) v) w'):=by
 unfold jk at h;split at h
 ·rename_i c hc;obtain⟨e4,rfl⟩:=nd hc;obtain⟨cw,b0⟩:=hΓ c e4;refine⟨cw,?_⟩;rw[gy]at h;obtain⟨⟨U0,ys,b⟩,c4,h⟩:=Bs.1 h;simp only at h;split at h
  ·rename_i g hg;cases J:aX g.kill&&dC g.frz g.kill&&gD st d c.rs&&!(g.see.any λq=>g.lend.any (BT q))&&Cc g.lend.length 1&&(g.lend.isEmpty||!(c.ps.any PK.isIo))&&((c.fresh&&g.lend.isEmpty)||!(c.rs.any RK.isBv))&&(g.kill.all λk=>!BT k.1 EPO)&&oH b g.frz g.kill d with
   |false=>rw[J]at h;cases h
   |true =>
    rw[J]at h;simp only[cond_true]at h;simp only[BC]at J;obtain⟨⟨⟨⟨⟨⟨⟨⟨b4,cc⟩,I⟩,ba⟩,M⟩,cp⟩,f1⟩,hE⟩,cy⟩:=J;obtain⟨y,hy,h⟩:=Bs.1 h;obtain⟨U',f0,bn⟩:=Aj (P:=P) (V:=V) hV h;refine⟨U',f0,λW a w hr vs f3=>?_⟩;obtain⟨W0,O,c6,f8,hβ0,cb,ec,bl,e6⟩:=ot hV hr c.ps xs vs U0 ys b f3 c4;generalize a9:ac U0 st=S0 at O c6 cb ec bl hg;obtain⟨⟨ad,c3,a1⟩,hf,hk,a4⟩:=kp (uv hV hΓ O) c.ps ys vs g c6 hg;have hE:∀ z∈g.kill,z.1≠EPO:=λz hz e0=>by
     have:=List.all_eq_true.1 hE z hz;rw[e0]at this;simp at this
    have M:g.lend.length<=1:=CB M;have bb:g.lend=[]\/c.ps.any PK.isIo=false:=by
     simp only[DK,C8,BY]at cp;exact cp
    have c0:∀ k,k∈ad.flatten<->k∈g.lend.map W0.β\/k∈aW W0 g.kill:=λk=>by
     rw[<- BK,<- BK,<- BK,a1 k];omega
    have a2:∀ k,jJ V W0 S0 g.frz g.see k->k<w.heap.size/\k∉ad.flatten:=by
     intro k H;refine⟨O.used_lt k (rq hf k H),λZ=>?_⟩;rcases (c0 k).1 Z with Z|Z
     ·obtain⟨b',X,rfl⟩:=Cg.1 Z;have eb:=O.box b' (a4 b' X);rcases H with H|H|⟨b2,d3,a3,e2⟩|⟨z,hz,H⟩
      ·exact eb.1 H
      ·exact eb.2 H
      ·have:=O.inj b2 b' a3 (a4 b' X) e2;subst this;simp only[BY,Bt]at ba;have:=ba b2 d3;rw[Bool.not_eq_true,Bt]at this;have:=this b2 X;simp at this
      ·obtain⟨l,hl,ho⟩:=hf z hz;exact (O.ownb z.1 z.2 l hl ho _ H).2.2 b' (a4 b' X) rfl
     ·obtain⟨z,hz,Y⟩:=gh.1 Z;obtain⟨l,hl,ho⟩:=hk z hz;have a0:=O.ownb z.1 z.2 l hl ho k Y;rcases H with H|H|⟨b2,d3,a3,e2⟩|⟨z',d1,H⟩
      ·exact a0.1 H
      ·exact a0.2.1 H
      ·exact a0.2.2 b2 a3 e2
      ·obtain⟨l',eg,f4⟩:=hf z' d1;obtain⟨e1,e2⟩:=O.sep z.1 z.2 l z'.1 z'.2 l' hl ho eg f4 k Y H;exact nE cc z' d1 (by rw[show z'=z from DT e1.symm e2.symm];exact hz)
    have et:ad.flatten.Nodup:=bq.2 λk=>by
     rw[a1 k];have h5:=bq.1 (gL O b4 hk) k;have h6:(g.lend.map W0.β).count k<=1:=by
      exact B6 List.count_le_length (by rw[CQ];exact M)
     by_cases h7:k∈g.lend.map W0.β
     ·have:(aW W0 g.kill).count k=0:=BZ.2 λZ=>by
       obtain⟨b',X,e0⟩:=Cg.1 h7;obtain⟨z,hz,Y⟩:=gh.1 Z;obtain⟨l,hl,ho⟩:=hk z hz;exact (O.ownb z.1 z.2 l hl ho k Y).2.2 b' (a4 b' X) e0
      omega
     ·have:(g.lend.map W0.β).count k=0:=BZ.2 h7;omega
    have b3:=b0 w (bi V W0 g.p g.frz) g.val vs ad y (c3.mono (λ_ h=>h) a2) (λk H=>a2 k (ml hV k H)) et hy;have c5:gD S0 d c.rs=true:=by
     unfold gD at I ⊢;split at I
     ·rcases bl (B0+d) with e0|e0
      ·rw[e0];exact I
      ·exact absurd e0 (by have:=iT.2.1;omega)
     ·exact I
    refine b3.mono λe w' bx=>?_
    obtain⟨v,rfl,W1,a5,b6,d2,c2,_⟩:=yT (Γ:=Γ) hV O c6 hg hf hk a4 b4 cc hE M bb a1 hd dc c5 f1 bx;refine⟨v,rfl,?_⟩;refine bn W1 _ w' ?_ ?_
    ·have e1:=bz (mm S0 c d ys g y) U0 st;rw[a9]at e1;rw[<- e1]at a5;subst a9;unfold mm at a5;simp only[bz,BQ,DC]at a5 ⊢;exact a5
    ·intro q j hb;subst hb;obtain⟨u,f2,em,ej,i,off,p,E,e,f6,gg,f5,q1,q2,q3,q4⟩:=cb;have cu:=e6 true q j rfl rfl;have a6:g.lend=[]:=bb.resolve_right (by rw[cu];simp);simp only[oH,BC,BY]at cy;obtain⟨⟨⟨dd,e5⟩,b5⟩,b9⟩:=cy;have cx:q≠d:=λe0=>by rw[e0]at b5;simp at b5
     have e3:q≠B0+d:=λe0=>by rw[e0]at b9;simp at b9
     have e7:(q,j)∉g.kill:=λZ=>by
      have:=Bt.1 dd _ Z;simp[it]at this
     have en:(q,j)∉g.frz:=λZ=>by
      have:=Bt.1 e5 _ Z;simp[it]at this
     have ev:TMP≠d:=by have:=hV.nt;have:=iT.1;omega
     have f7:TMP≠B0+d:=by have:=iT.2.1;omega
     have hL:=d2 q j cx e3 (by rw[a6];simp) en e7;rw[q1]at hL;have hC:=b6 q cx e3 (by rw[a6];simp);have e1:=bz (mm S0 c d ys g y) U0 st;rw[a9]at e1;have ed:gg<w.heap.size:=O.own_lt q1 trivial gg q3;have ex:gg∉aW W0 g.kill:=λZ=>by
      obtain⟨z,hz,Y⟩:=gh.1 Z;obtain⟨l,hl,ho⟩:=hk z hz;obtain⟨e1,e2⟩:=O.sep z.1 z.2 l q j _ hl ho q1 trivial gg Y q3;exact e7 (by rw[show (q,j)=z from DT e1.symm e2.symm];exact hz)
     have c1:w'.cell? ⟨gg,i*e.cells+off,none⟩=some u:=by
      rw[kw (c2 gg ed ex (by rw[a6];simp))];exact q4
     have ef:gg∈W1.bs q j:=by
      have h9:=a5.leaf q j _ _ hL (by rw[hC];exact q2);obtain⟨_,fc,fd,_,es,_⟩:=h9;rw[es];simp[Bq]
     refine⟨u,by rw[b6 TMP ev f7 (by rw[a6];simp)];exact f2,em,ej,i,off,p,E,e,f6,gg,f5,?_,by rw[hC];exact q2,ef,c1⟩;have b1:=hL;rw[<- e1]at b1;subst a9;unfold mm at b1;simp only[bz,BQ,DC]at b1 ⊢;exact b1
  ·cases h
 ·cases h
end
section
variable {P:Program} {V:Env} {Γ:List Ctr} {T:TypeId->TI} {st:St} {o:Oper} {R:Type} {κ:Upd->Option R} {r:R}
theorem nR {W:Wit}{a:Act}{w:World}(h:ap P V W st a w):∀ (l:List Operand),gP P V W st w (l.map (au st)) (l.map a.eval)
 |[]=>rfl
 |x::l=>by
  obtain⟨z,u,y⟩:=cS h x;exact⟨a.eval x,l.map a.eval,z,rfl,u,y,nR h l⟩
theorem ng {W:Wit}{w:World}:∀ {xs y:List (aG×List Leaf)} {z us:List Value},gP P V W st w xs z->gP P V W st w y us->gP P V W st w (xs++y) (z++us)
 |[],_,_,_,H,u=>by rw[show _=_ from H];exact u
 |x::xs,_,_,_,⟨v,I,M,e,J,X,O⟩,u=>by
  subst e;exact⟨v,_,M,rfl,J,X,ng O u⟩
theorem qF {a:Act}{w:World}{c:Call}{x:Operand}{f:FuncId}{caps:Array Value}(z:o.op=.call c)(M:c.callee=.value x)(I:a.eval x=.func (.func f) #[] caps)(J:fO P f){next:Act->World->Prop}{Q:Exit->Act->World->Prop}
  (u:Calls P f (c.args.map a.eval++caps) w (λe H=>∃ v,e=.returned v/\next (a.put o.dst v) H)):o.wp P a w next Q:=by
 unfold Oper.wp;have y:(execOp a.eval o).run P w=.ok (.enter f (c.args.map a.eval++caps)) w:=by
  have:=J (c.args.map a.eval++caps) w;simp[execOp,z,resolve,M,I,Deferred.ofValue,invoke,this]
 rw[y,Oper.upon_enter];refine u.mono λe H=>?_
 rintro⟨v,rfl,hn⟩;exact hn
theorem k6 {p:Bool}:∀ {b:Ty} {x:b.den},b.flat=true->aq p b x=cJ p b x
 |.int _,_,_=>rfl
 |.bool,_,_=>rfl
 |.str,_,_=>rfl
 |.unit,_,_=>rfl
 |.hdr,_,_=>rfl
 |.pair a b,x,h=>by
  simp only[Ty.flat,BC]at h;simp only[aq,cJ,k6 h.1,k6 h.2]
 |.list _ _ _,_,h=>by simp[Ty.flat]at h
theorem rv (hV:ax V){W:Wit}{a:Act}{w:World}(h:ap P V W st a w):∀ (M:List Ty) (xs:List (aG×List Leaf)) (X:List Value) (x:Tup M),gP P V W st w xs X->iI st M xs=some x ->
  rX w (λk=>k<w.heap.size) M x X
 |[],[],X,_,hx,_=>hx
 |[],_::_,_,_,_,u=>by simp[iI]at u
 |_::_,[],_,_,_,u=>by simp[iI]at u
 |b::M,x::xs,X,z,⟨v,O,cs,e,hs,Z,H⟩,u=>by
  subst e;simp only[iI]at u;cases J:decide (x.1=bf b.isAgg) with
  |false=>simp[J]at u
  |true =>
   simp only[J,cond_true]at u;have J:=of_decide_eq_true J;rw[J]at hs;split at u
   ·rename_i p y hy;simp only[BB]at u;obtain⟨t,ht,rfl⟩:=u;have Y:=ey h Z hy;refine⟨v,cs,O,rfl,gx hs,Y.mono (λk I=>?_),rv hV h M xs O t H ht⟩;rcases I with (I|⟨_,I⟩)|⟨z,hz,I⟩
    ·exact (h.nwlt k I).1
    ·exact B8 (hV.ro k I).1 h.size
    ·obtain⟨l,h1,h2⟩:=ei Z hz;exact h.own_lt h1 h2 k I
   ·cases u
theorem xM (hV:ax V)(hΓ:∀ c∈Γ,bO P c)(M:bM V o){c:Call}{f:Operand}(Y:o.op=.call c)(hc:c.callee=.value f)
  (h:act Γ T o st κ=some r):bV P V o st κ r:=by
 simp only[act,wrU,Y,hc]at h;split at h
 ·cases h
 ·rename_i d X;split at h
  ·rename_i g H Z;obtain⟨he,U,hU,z⟩:=u3 hV hΓ (M d X).1 (M d X).2 h;refine⟨U,hU,λW a w I next Q hn=>?_⟩;obtain⟨J,_,_,_,_⟩:=bo I f (by rw[Z];simp);rw[Z]at J;have O:=ng (nR I c.args.toList) (sd (pZ (P:=P) (V:=V) (W:=W) (w:=w) H J.2));rw[C4]at O;have:=z W a w I _ O;have e:(c.args.toList.map a.eval++H.map λb=>Value.pointer (some ⟨W.β b,0,none⟩)).toArray=c.args.map a.eval++(H.map λb=>Value.pointer (some ⟨W.β b,0,none⟩)).toArray:=by
    apply DP;simp
   rw[e]at this;refine qF Y hc J.1 he (this.mono λe w'=>?_);rintro⟨v,rfl,hrel⟩;refine⟨v,rfl,hn _ _ ?_⟩;rw[X];exact hrel
  ·rename_i g H Z;obtain⟨he,U,hU,z⟩:=u3 hV hΓ (M d X).1 (M d X).2 h;refine⟨U,hU,λW a w I next Q hn=>?_⟩;obtain⟨J,_,_,_,_⟩:=bo I f (by rw[Z];simp);rw[Z]at J;obtain⟨us,J,a3,a0⟩:=J;have O:=ng (nR I c.args.toList) (sd (qD (st:=st) a3 a0));rw[C4]at O;have:=z W a w I _ O;have e:(c.args.toList.map a.eval++us).toArray=c.args.map a.eval++us.toArray:=by
    apply DP;simp
   rw[e]at this;refine qF Y hc J he (this.mono λe w'=>?_);rintro⟨v,rfl,hrel⟩;refine⟨v,rfl,hn _ _ ?_⟩;rw[X];exact hrel
  ·rename_i As B φ Z;cases hb:B.flat with
   |false=>simp[hb]at h
   |true =>
    simp only[hb,cond_true]at h;split at h
    ·rename_i x hx;obtain⟨y,hy,h⟩:=Bs.1 h;simp only[X]at h;refine⟨_,h,λW a w I next Q hn=>?_⟩;obtain⟨J,_,_,_,_⟩:=bo I f (by rw[Z];simp);rw[Z]at J;obtain⟨f',H,J,he,z⟩:=J;have a2:=rv hV I As _ _ x (nR I c.args.toList) hx;have:=z w I.size I.keep x _ y a2 hy;have e:(c.args.toList.map a.eval).toArray=c.args.map a.eval:=by apply DP;simp
     rw[e]at this;refine qF Y hc J he (this.mono λe w'=>?_);rintro⟨u,cs,rfl,hvo,hrd,hbelow⟩;refine⟨u,rfl,hn _ _ ?_⟩;rw[X];have a4:=I.below hV hbelow;have a1:=eS (P:=P) (V:=V) (W:=W) (st:=st) (G:=λ_=>False) (p:=false) (λ_ h=>h.elim) hrd;rw[<- k6 hb]at a1;exact a4.putLs hV d (M d X).1 (M d X).2 _ _ _ u cs (BM _) (j8 hvo) a1
    ·cases h
  ·cases h
theorem Bc (H:ax V)(I:TOk P T)(hΓ:∀ c∈Γ,bO P c)(z:bM V o)(h:act Γ T o st κ=some r):bV P V o st κ r:=by
 cases u:o.op with
 |move x=>exact xZ H z u h
 |assign x=>exact vo H z u h
 |pick c x y=>exact x3 H z u h
 |alloc t=>exact xF H I z u h
 |box t x=>exact Af H z u h
 |build t M=>exact wL H I z u h
 |buildSlice t n M=>exact qB H I z u h
 |load t x=>exact x5 H I z u h
 |store t x y=>exact xH H I u h
 |nilCheck x=>exact sv H z u h
 |binOp X t x y t'=>exact wH H I z u h
 |unOp X t x=>exact x4 H z u h
 |convert s t x=>exact ut H I z u h
 |makeSlice t n c=>exact rS H I z u h
 |slice t x Y Z mx=>exact xK H I z u h
 |fieldAddr t x f=>exact rP H I z u h
 |field t x f=>exact wK H I z u h
 |indexAddr t x i=>exact rQ H I z u h
 |index t x i=>exact wJ H I z u h
 |extract x i=>exact tU H z u h
 |makeFunc fn first O=>exact sw H z u h
 |call c =>
  cases J:c.callee with
  |value f=>exact xM H hΓ z u J h
  |builtin b =>
   cases b with
   |len=>exact zw H I z u J h
   |append=>exact vZ H I z u J h
   |min=>exact Ag H z u J h
   |max=>exact Ah H z u J h
   |_ =>
    simp only[act,wrU,u,J]at h;split at h <;> cases h
  |_ =>
   simp only[act,wrU,u,J]at h;split at h <;> cases h
 |_=>simp[act,wrU,u]at h
end
def cD:Ty->Ty->Bool
 |.pair a b,z=>match z with
  |.pair c d=>cD a c&&cD b d
  |_=>false
 |.list m E e,z=>match z with
  |.list n u r=>decide (E=u)&&(bif n then m&&cD e r else decide (e.sh=r.sh))
  |_=>false
 |a,z=>decide (a=z)
theorem fQ:∀ {a b:Ty},cD a b=true->a.sh=b.sh
 |.pair a b,z,h=>by
  cases z with
  |pair c d =>
   simp only[cD,BC]at h;simp only[Ty.sh,fQ h.1,fQ h.2]
  |_=>simp[cD]at h
 |.list m E e,z,h=>by
  cases z with
  |list n r u =>
   simp only[cD,BC,decide_eq_true_eq]at h;obtain⟨rfl,h⟩:=h;cases n with
   |true =>
    simp only[cond_true,BC]at h;simp only[Ty.sh,fQ h.2]
   |false =>
    simp only[cond_false,decide_eq_true_eq]at h;simp only[Ty.sh,h]
  |_=>simp[cD]at h
 |.int _,z,h=>by simp only[cD,decide_eq_true_eq]at h;rw[h]
 |.bool,z,h=>by simp only[cD,decide_eq_true_eq]at h;rw[h]
 |.str,z,h=>by simp only[cD,decide_eq_true_eq]at h;rw[h]
 |.unit,z,h=>by simp only[cD,decide_eq_true_eq]at h;rw[h]
 |.hdr,z,h=>by simp only[cD,decide_eq_true_eq]at h;rw[h]
theorem yV {a b:Ty}(h:cD a b=true):a.isAgg=b.isAgg:=by
 cases a with
 |pair c d=>cases b <;> first|rfl|(simp[cD]at h)
 |list m E e=>cases b <;> first|rfl|(simp[cD]at h)
 |_=>simp only[cD,decide_eq_true_eq]at h;rw[h]
theorem ou {f g h:Nat->List Nat}{k:Nat}:∀ {l:List Nat},(∀ j∈l,(f j).count k=(g j).count k+(h j).count k)->(l.flatMap f).count k=(l.flatMap g).count k+(l.flatMap h).count k
 |[],_=>rfl
 |a::l,H=>by
  have u:=H a (BW ..);have y:=ou (l:=l) (λj r=>H j (BP _ r));simp only[CC,BF];omega
theorem Mx.thin {w:World}{G:Nat->Prop}:∀ {a b:Ty} {pos:Nat} {x:a.den} {y:b.den} {cs:List Value} {bs:List Nat},cD a b=true->HEq x y->Mx w G a none pos x cs bs ->
  ∃ b1 b2:List Nat,(∀ k,bs.count k=b1.count k+b2.count k)/\Mx w (λk=>G k\/k∈b2) b none pos y cs b1
 |.pair a b,z,pos,x,y,cs,bs,h,r,H=>by
  cases z with
  |pair c d =>
   simp only[cD,BC]at h;obtain⟨c1,c2,ba,bb,rfl,rfl,h1,h2⟩:=H;obtain⟨h3,h4⟩:=sk (jq (fQ h.1)) (jq (fQ h.2)) r;obtain⟨p1,p2,Y,X⟩:=Mx.thin h.1 h3 h1;obtain⟨r1,r2,s1,s2⟩:=Mx.thin h.2 h4 h2;refine⟨p1++r1,p2++r2,λk=>?_,c1,c2,p1,r1,rfl,rfl,X.mono (λk M=>M.imp id (BJ _)),?_⟩
   ·have:=Y k;have:=s1 k;simp only[BF];omega
   ·have:=s2.mono (G':=λk=>G k\/k∈p2++r2) (λk M=>M.imp id (BE _))
    rwa [hY (fQ h.1)]at this
  |_=>simp[cD]at h
 |.list m E e,z,pos,xs,Z,cs,bs,h,r,H=>by
  have a2:=fQ h;cases z with
  |list n E' e' =>
   simp only[cD,BC,decide_eq_true_eq]at h;obtain⟨rfl,h⟩:=h;cases n with
   |true =>
    simp only[cond_true,BC]at h;obtain⟨rfl,h⟩:=h;rw[bH (by simp)]at H;obtain⟨v,rfl,I,a0,h1,h2,h3⟩:=H;obtain⟨h4,h5⟩:=sl (jq (fQ h)) r;have a1:∀ j,∃ q:List Nat×List Nat,j<Z.length->(∀ k,(a0 j).count k=q.1.count k+q.2.count k) /\
      ∀ y,Z[j]?=some y->∃ c,Mx w (λk=>G k\/k∈q.2) e' none 0 y c q.1/\∀ i u,c[i]?=some u->I[j*e'.cells+i]?=some u:=by
     intro j;by_cases J:j<Z.length
     ·have R:=BS J;obtain⟨x,hx,r⟩:=h5 j _ R;obtain⟨c,hm,hc⟩:=h3 j x hx;obtain⟨b1,b2,Y,X⟩:=Mx.thin h r hm;refine⟨(b1,b2),λ_=>⟨Y,λy O=>⟨c,?_,λi u hi=>?_⟩⟩⟩
      ·rw[R]at O;simp only[BA]at O;subst O;exact X
      ·rw[<- hY (fQ h)];exact hc i u hi
     ·exact⟨([],[]),λh=>absurd h J⟩
    obtain⟨f,hf⟩:=Classical.skolem.1 a1;refine⟨v.ownBlock.toList++(BO Z.length).flatMap (λj=>(f j).1),(BO Z.length).flatMap (λj=>(f j).2),λk=>?_,?_⟩
    ·rw[h2,BF,BF,h4,ou (g:=λj=>(f j).1) (h:=λj=>(f j).2) (λj J=>(hf j (Cn.1 J)).1 k)];omega
    ·rw[bH (by simp)];refine⟨v,rfl,I,λj=>(f j).1,by rw[<- h4,<- hY (fQ h)];exact h1,rfl,λj y O=>?_⟩;have J:=(BD.1 O).1;obtain⟨c,Y,X⟩:=(hf j J).2 y O;exact⟨c,Y.mono (λk M=>M.imp id (λM=>dV.2 ⟨j,J,M⟩)),X⟩
   |false =>
    refine⟨[],bs,λk=>by simp,?_⟩;rw[co];exact⟨rfl,Rd.flags a2 r (Mx.rd (S:=λk=>G k\/k∈bs) (λ_=>.inl) (λ_=>.inr) H)⟩
  |_=>simp[cD]at h
 |.int _,z,pos,x,y,cs,bs,h,r,H=>by
  simp only[cD,decide_eq_true_eq]at h;subst h;cases r;exact⟨bs,[],λk=>by simp,H.mono (λ_=>.inl)⟩
 |.bool,z,pos,x,y,cs,bs,h,r,H=>by
  simp only[cD,decide_eq_true_eq]at h;subst h;cases r;exact⟨bs,[],λk=>by simp,H.mono (λ_=>.inl)⟩
 |.str,z,pos,x,y,cs,bs,h,r,H=>by
  simp only[cD,decide_eq_true_eq]at h;subst h;cases r;exact⟨bs,[],λk=>by simp,H.mono (λ_=>.inl)⟩
 |.unit,z,pos,x,y,cs,bs,h,r,H=>by
  simp only[cD,decide_eq_true_eq]at h;subst h;cases r;exact⟨bs,[],λk=>by simp,H.mono (λ_=>.inl)⟩
 |.hdr,z,pos,x,y,cs,bs,h,r,H=>by
  simp only[cD,decide_eq_true_eq]at h;subst h;cases r;exact⟨bs,[],λk=>by simp,H.mono (λ_=>.inl)⟩
theorem jn.mono {w:World}{G G':Nat->Prop}(z:∀ k,G k->G' k){a:Ty}{x:a.den}{ptr:Bool}{v:Value}{bs:List Nat}(h:jn w G a x ptr v bs):jn w G' a x ptr v bs:=by
 unfold jn at h ⊢;split at h
 ·rename_i u;rw[if_pos u];obtain⟨g,c,E,M,y,r,H,J⟩:=h;exact⟨g,c,E,M,y,r,H.mono z,J⟩
 ·rename_i u;rw[if_neg u];obtain⟨I,y,r⟩:=h;exact⟨I,y,r.mono z⟩
theorem bK.mono {w:World}{G G':Nat->Prop}(y:∀ k,G k->G' k):∀ {ps:List PK} {o:ah ps} {z:List Value} {bs:List (List Nat)},bK w G ps o z bs->bK w G' ps o z bs
 |.io _::_,_,_::_,_::_,⟨r,u⟩=>⟨r.mono y,bK.mono y u⟩
 |.iop _::_,_,_::_,_::_,⟨r,u⟩=>⟨r.mono y,bK.mono y u⟩
 |.rd _::_,_,_::_,_::_,⟨r,u⟩=>⟨r,bK.mono y u⟩
 |.own _::_,_,_::_,_::_,⟨r,u⟩=>⟨r,bK.mono y u⟩
 |.rref _::_,_,_::_,_::_,⟨r,u⟩=>⟨r,bK.mono y u⟩
 |.rref2 _::_,_,_::_,_::_,⟨r,u⟩=>⟨r,bK.mono y u⟩
 |.fn _ _::_,_,_::_,_::_,⟨r,u⟩=>⟨r,bK.mono y u⟩
 |.clo _ _::_,_,_::_,_::_,⟨r,u⟩=>⟨r,bK.mono y u⟩
 |.hol _ _ _::_,_,_::_,_::_,⟨r,u⟩=>⟨r,bK.mono y u⟩
 |[],_,[],[],_=>trivial
 |[],_,_::_,_,h=>by simp[bK]at h
 |[],_,[],_::_,h=>by simp[bK]at h
 |p::_,_,[],_,h=>by cases p <;> exact h.elim
 |p::_,_,_::_,[],h=>by cases p <;> exact h.elim
theorem pX.mono {w:World}{G G' ro ro':Nat->Prop}(I:∀ k,G k->G' k)(R:∀ k,G k\/ro k->G' k\/ro' k):∀ {r:RK} {y:r.den} {v:Value} {bs:List Nat},pX w G ro r y v bs->pX w G' ro' r y v bs
 |.v _,_,_,_,⟨H,z,u⟩=>⟨H,z,u.mono I⟩
 |.bv _,_,_,_,⟨e,H,z,u⟩=>⟨e,H,z,u.mono R⟩
 |.box _,_,_,_,⟨g,c,E,O,z,u,J,M⟩=>⟨g,c,E,O,z,u,J.mono I,M⟩
theorem gw.mono {w:World}{G G' ro ro':Nat->Prop}(J:∀ k,G k->G' k)(M:∀ k,G k\/ro k->G' k\/ro' k):∀ {I:List RK} {y:ai I} {us:List Value} {r:List (List Nat)},gw w G ro I y us r->gw w G' ro' I y us r
 |[],_,_,_,h=>h
 |_::_,_,_,_,⟨u,H,b,z,O,X,Y,R⟩=>⟨u,H,b,z,O,X,Y.mono J M,gw.mono J M R⟩
theorem bO.thin {P:Program}{f:FuncId}{a a':Ty}{ps:List PK}{rs:List RK}{fr:Bool}{a9:ab (.own a::ps)->Option (ai rs×ah (.own a::ps))}{R:ab (.own a'::ps)->Option (ai rs×ah (.own a'::ps))}
  (h:bO P ⟨f,.own a::ps,rs,fr,a9⟩) (ht:cD a' a=true) (cv:a'.den->a.den) (bl:∀ x,HEq x (cv x)) (hd:∀ x,R x=a9 (cv x.1,x.2)):bO P ⟨f,.own a'::ps,rs,fr,R⟩:=by
 refine⟨h.1,λw ro x vs c2 y a1 b6 a6 hy=>?_⟩;obtain⟨x1,xr⟩:=x;obtain⟨v,a4,b,u,rfl,rfl,⟨cs,bn,hm⟩,Z⟩:=a1;obtain⟨M,X,O,bb⟩:=Mx.thin ht (bl x1) hm;have a2:=hm.lt;rw[bq]at a6;have Y:∀ k,M.count k+X.count k+u.flatten.count k<=1:=λk=>by
  have:=a6 k;rw[BX,BF,O k]at this;exact this
 have hb:∀ k,k∈b<->k∈M\/k∈X:=λk=>by
  rw[<- BK,<- BK,<- BK,O k];omega
 have H:∀ k,k∈(M::u).flatten->k∈(b::u).flatten:=λk r=>by
  rw[BX,BL]at r ⊢;exact r.imp (λh=>(hb k).2 (.inl h)) id
 have ad:∀ k,k∈X->k∉(M::u).flatten:=λk r z=>by
  have h1:=Y k;have h2:=BK.2 r;have h3:=BK.2 z;rw[BX,BF]at h3;omega
 have a5:∀ k,k∈X->k∈(b::u).flatten:=λk r=>by
  rw[BX,BL];exact .inl ((hb k).2 (.inr r))
 have J:c7 P w (λk=>ro k\/k∈X) (λk=>k<w.heap.size/\k∉(M::u).flatten) (.own a::ps) (cv x1,xr) (v::a4) (M::u) :=
  ⟨v,a4,M,u,rfl,rfl,⟨cs,by rw[<- yV ht];exact bn,bb⟩,Z.mono (λ_=>.inl) (λk r=>⟨r.1,λh=>r.2 (H k h)⟩)⟩
 refine (h.2 w _ _ _ _ y J (λk r=>?_) ?_ (by rw[<- hy];exact (hd (x1,xr)).symm)).mono λe w' hp=>?_
 ·rcases r with r|r
  ·exact⟨(b6 k r).1,λh=>(b6 k r).2 (H k h)⟩
  ·exact⟨a2 k ((hb k).2 (.inr r)),ad k r⟩
 ·rw[bq];intro k;have:=Y k;show ((M::u).flatten).count k<=1;rw[BX,BF];omega
 ·obtain⟨v',us,N,a0,b9,h1,b5,b4,c1,ba,c0,bx,hN,hO,b0,a3,I⟩:=hp;have hG:∀ k,(N k\/fr=false/\(ro k\/k∈X))->((N k\/k∈X)\/fr=false/\ro k):=λk r=>by
   rcases r with r|⟨r,z|z⟩
   ·exact .inl (.inl r)
   ·exact .inr ⟨r,z⟩
   ·exact .inl (.inr z)
  refine⟨v',us,λk=>N k\/k∈X,a0,b9,h1,b5,b4,c1,ba,c0,λk r hn=>bx k r (λh=>hn (H k h)),λk r=>?_,?_,?_,a3,λk r=>?_⟩
  ·rcases r with r|r
   ·exact⟨(hN k r).1,(hN k r).2.imp id (H k)⟩
   ·exact⟨B8 (a2 k ((hb k).2 (.inr r))) b4,.inr (a5 k r)⟩
  ·match a0,hO with
   |b3::a0,hO=>exact⟨hO.1,bK.mono hG hO.2⟩
   |[],hO=>exact hO.elim
  ·refine gw.mono hG (λk r=>?_) b0;rcases r with r|r|r
   ·exact .inl (hG k r)
   ·exact .inr r
   ·exact .inl (.inl (.inr r))
  ·obtain⟨h5,h6⟩:=I k r;refine⟨⟨h5.1,h5.2.imp id (H k)⟩,λh=>h.elim h6 (λh=>?_)⟩;rcases h5.2 with h7|h7
   ·have:=a2 k ((hb k).2 (.inr h));omega
   ·exact ad k h h7
end Go.Proofs.YtaelpfghkndliaaGreatEv
