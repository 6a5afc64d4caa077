/- One operation: boxes made, boxes written. -/
import Derived.Test.YtadlacffdemoiaaGreatE0
import Derived.Deep.MidRow
import Derived.Great.FillDense
set_option linter.unusedVariables false
set_option linter.unusedSimpArgs false
open Array renaming toArray_toList->Bz,length_toList->B6,getElem?_toList->Ct,toList_append->C0,size_append->DA,toList_map->DJ,ext'->DX
open Bool renaming and_eq_true->BC,not_eq_true'->BY,or_eq_false_iff->Cy,or_eq_true->DS
open Go.Addr.mk renaming injEq->Cf
open Go.Builtin renaming append_->B7,firstCells->Cc,lenOf->Cg,zeroCells->DF
open Go.Instr renaming sliceBounds->DD,storeAt->DZ
open Go.Result renaming andThen_ok->Cd
open Go.Sem renaming run_bind->C9
open Go.Value renaming ownBlock->By
open Go.Value.slice renaming injEq->B5
open Go.World renaming setCells->Cu,alloc_eq->Cx,drew_eq->C3,freeze->DB,alloc->DN,drew->DV
open Iff renaming rfl->Cl
open Int renaming toNat_natCast->C8
open List renaming getElem?_eq_some_iff->BD,mem_append_right->BE,count_append->BF,getElem?_append_right->BG,getElem?_append_left->BH,mem_append_left->BJ,count_pos_iff->BK,mem_append->BL,range->BO,mem_cons_of_mem->BP,append_assoc->BQ,length_append->BR,getElem?_eq_getElem->BS,eq_nil_of_length_eq_zero->BV,mem_cons_self->BW,flatten_cons->BX,count_eq_zero->BZ,append_nil->Bw,length_take->Bx,any_eq_false->B4,getElem?_take->CA,getD_eq_getElem?_getD->CB,nodup_append->CD,replicate->CF,nodup_cons->CH,length_set->CI,flatMap_cons->CK,getElem?_set_ne->CL,mem_cons->CO,getElem?_drop->CP,getElem?_cons_zero->CQ,getElem?_replicate->CR,size_toArray->CS,getElem?_set_self->CT,any_cons->CW,length_nil->CX,length_map->CY,length_drop->Ch,length_cons->Ci,mem_map->Co,count_cons->Cp,singleton_append->Cr,length_replicate->Cs,mem_range->Cv,all_cons->C4,map_nil->C7,map_map->DC,isEmpty_iff->DG,flatMap_map->DH,cons_append->DK,length->DO,map_append->DP,nil_append->DT,nodup_nil->DU,take_left->DW,map_cons->Da
open List.cons renaming injEq->CZ
open Nat renaming eq_of_beq_eq_true->BI,lt_succ_self->BM,mul_le_mul_right->BN,beq->BT,le_refl->BU,succ_mul->B8,add_zero->CC,le_trans->CE,lt_of_lt_of_le->CG,le_of_ble_eq_true->CJ,zero_add->CN,ble_eq_true_of_le->CU,le_add_right->CV,mul_le_mul_left->Ca,blt_eq->Cb,add_mul->Ce,le_of_eq->Cj,ble->Ck,mul_comm->Cm,sub_zero->Cn,mul_one->Cw,blt->Cz,eq_zero_or_pos->C6,zero_mul->DE,mod_eq_of_lt->DI,le_succ->DL,zero_le->DM,mul_add_mod->DQ,add_assoc->DY
open Ne renaming symm->CM
open Option renaming map_eq_some_iff->BB,bind_eq_some_iff->B3,map_none->Cq,toList_some->C5,map_some->DR
open Option.some renaming injEq->BA
open Prod renaming ext->Db
open Prod.mk renaming injEq->B9
namespace Go.Proofs.YtadlacffdemoiaaGreatEv
open Go Go.RowKit
section
variable {P:Program} {V:Env} {Γ:List Ctr} {T:TypeId->TI} {st:St} {o:Oper} {R:Type} {κ:Upd->Option R} {r:R}
theorem mV {q u:Nat}(h:q≠u)(c y:bT)(st:St):ac [(q,c)] (ac [(u,y)] st)=ac [(u,y)] (ac [(q,c)] st):=by
 funext k;rcases aj q k c (ac [(u,y)] st) with ⟨rfl,e⟩|⟨H,e⟩
 ·rw[e,aI h,bj]
 ·rw[e];rcases aj u k y st with ⟨rfl,z⟩|⟨I,z⟩
  ·rw[z,bj]
  ·rw[z,aI I,aI H]
theorem ap.boxed (hV:ay V){W:Wit}{a:Act}{w:World}(h:ap P V W st a w)(d:Nat)(hd:d<V.nt)(I:∀ x∈V.fixt,x.1≠d)(J:(st (B0+d)).sh=.off)(ls:List Leaf)
  (y:List Value) (z:Nat->List Nat) (E:TypeId)
  (hl:ls.length=y.length) (h1:∀ u∈y,u.oneCell'=true)
  (H:∀ (j:Nat) (l:Leaf) (u:Value),ls[j]?=some l->y[j]?=some u->aJ P V W st w (z j) l u)
  (M:∀ (j:Nat) (l:Leaf),ls[j]?=some l->an l->∀ k∈z j,¬ W.nw k/\¬ V.prot k/\k<w.heap.size/\(∀ b,live st b->W.β b≠k) /\
   ∀ (Y Z:Nat) (l1:Leaf),(st Y).ls[Z]?=some l1->an l1->k∉W.bs Y Z)
  (O:∀ (j j':Nat) (l l':Leaf),ls[j]?=some l->an l->ls[j']?=some l'->an l'->∀ k,k∈z j->k∈z j'->j=j') :
  Rel P V (ac ((B0+d,⟨(st (B0+d)).ver+1,.agg,ls⟩)::[(d,⟨(st d).ver+1,.one,[.bp (B0+d) 0]⟩)]) st) (a.put (some d) (.pointer (some ⟨w.heap.size,0,none⟩))) (w.alloc (.cells y.toArray E)):=by
 have X:B0+d≠d:=by simp[B0]
 have a0:¬ live st (B0+d):=by simp[live,J]
 have h2:=h.setBox hV (B0+d) (CV _ _) ((st (B0+d)).ver+1) ls y z w.heap.size E (w':=w.alloc (.cells y.toArray E)) (BM _) (.inr ⟨a0,BU _⟩)
  (heap_alloc_new w _) (λk hk _=>Go.heap_alloc_old w _ hk) (by simp) rfl rfl rfl hl h1 H (λj l hj ho k hk=>by
   obtain⟨h3,h4,h5,h6,h7⟩:=M j l hj ho k hk;exact⟨h3,h4,h5,h6,λY Z l1 _=>h7 Y Z l1⟩) O
 rw[aO,mV X];refine h2.putLs hV d hd I _ .one [.bp (B0+d) 0] _ [.pointer (some ⟨w.heap.size,0,none⟩)] ?_ rfl ⟨⟨⟨CV _ _,by rw[bj],by simp⟩,id,rfl⟩,trivial⟩;rw[aI (CM X)];omega
theorem uo {t:TypeId}(I:TOk P T)(y:(T t).cells≠0)(w:World):∃ z H,(zeroValue t).run P w=.ok z w/\z.cells=H.toArray/\∀ (V:Env) (W:Wit) (st:St),aB P V W st w (T t).zero H:=by
 have h:=I t;cases u:T t with
 |none=>rw[u]at y;exact absurd rfl y
 |int k=>rw[u]at h;exact⟨_,[.int k 0],gi h.2.2 w,rfl,λV W st=>⟨⟨rfl,id,rfl⟩,trivial⟩⟩
 |bool=>rw[u]at h;exact⟨_,[.bool false],gi h.2.2 w,rfl,λV W st=>⟨⟨rfl,id,rfl⟩,trivial⟩⟩
 |str=>rw[u]at h;exact⟨_,[.string ByteArray.empty],gi h.2.2 w,rfl,λV W st=>⟨⟨rfl,id,rfl⟩,trivial⟩⟩
 |slice E e b=>rw[u]at h;exact⟨_,[.slice none 0 0],gi h.2.2.1 w,rfl,λV W st=>⟨⟨rfl,id,rfl⟩,trivial⟩⟩
 |struct a J=>rw[u]at h;exact⟨_,zeroCells a,gi h.2.2.1 w,rfl,λV W st=>lu a⟩
 |arr e n=>rw[u]at h;exact⟨_,(CF n (zeroCells e)).flatten,gi h.2.2.2 w,rfl,λV W st=>oI e n⟩
 |ptr=>rw[u]at h;exact⟨_,[.pointer none],gi h.2.2 w,rfl,λV W st=>⟨⟨trivial,id,rfl⟩,trivial⟩⟩
 |fn=>rw[u]at h;exact⟨_,[.nilFunc],gi h.2.2 w,rfl,λV W st=>⟨⟨trivial,id,rfl⟩,trivial⟩⟩
theorem xK (hV:ay V)(Y:TOk P T)(I:bO V o){t:TypeId}(J:o.op=.alloc t)(h:act Γ T o st κ=some r):bW P V o st κ r:=by
 simp only[act,J]at h;split at h
 ·rename_i d M;cases H:decide ((st (B0+d)).sh=.off)&&!decide ((T t).cells=0) with
  |false=>simp[H]at h
  |true =>
   simp only[H]at h;simp at H;refine⟨_,h,λW a w hr next Q hn=>?_⟩;obtain⟨z,X,hz,Z,y⟩:=uo Y H.2 w;have y:=y V W st;refine dX (v:=.pointer (some ⟨w.heap.size,0,none⟩)) (w':=w.alloc (.cells X.toArray t)) ?_ ?_
   ·simp[execOp,J,Instr.alloc,hz,newVar,newRow,Z]
   ·rw[M];refine hn _ _ ?_;exact hr.boxed hV d (I d M).1 (I d M).2 H.1 _ X (λ_=>[]) t y.length y.one' (λj l u h1 h2=>(y.at_ j l u h1 h2).1) (λ_ _ _ _ k O=>by simp at O) (λ_ _ _ _ _ _ _ _ k O=>by simp at O)
 ·grind
theorem Al (hV:ay V)(I:bO V o){t:TypeId}{x:Operand}(a0:o.op=.box t x)(h:act Γ T o st κ=some r):bW P V o st κ r:=by
 simp only[act,a0]at h;split at h
 ·rename_i d X;cases hb:decide ((st (B0+d)).sh=.off)&&decide ((au st x).2.length=(T t).cells)&&decide ((au st x).1=bh (T t).agg)&&hX st (au st x).2 with
  |false=>simp[hb]at h
  |true =>
   simp only[hb]at h;simp at hb;obtain⟨⟨⟨Y,a2⟩,a1⟩,Z⟩:=hb;have J:∀ (W:Wit) (a:Act) (w:World) (H:List Value),ee (au st x).1 (a.eval x) H->aB P V W st w (au st x).2 H ->
     (execOp a.eval o).run P w=.ok (.value (.pointer (some ⟨w.heap.size,0,none⟩))) (w.alloc (.cells H.toArray t)):=by
    intro W a w H O y;rw[a1]at O;have hc:=gT O y.one';simp[execOp,a0,Instr.box,newVar,newRow,hc]
   cases z:si st x with
   |true =>
    rw[z]at h;refine⟨_,h,λW a w M next Q hn=>?_⟩;obtain⟨H,O,y⟩:=cX M x;refine dX (J W a w H O y) ?_;rw[X];refine hn _ _ ?_;exact M.boxed hV d (I d X).1 (I d X).2 Y _ H (λ_=>[]) t y.length y.one' (λj l u h1 h2=>(y.at_ j l u h1 h2).1) (λ_ _ _ _ k hk=>by simp at hk) (λ_ _ _ _ _ _ _ _ k hk=>by simp at hk)
   |false =>
    rw[z]at h;refine⟨_,h,λW a w M next Q hn=>?_⟩;obtain⟨H,O,y⟩:=cX M x;obtain⟨h1,h2,h3,h4,h5⟩:=oG hV M y Z;have h6:=zk hV M y Z;refine dX (J W a w H O y) ?_;rw[X];refine hn _ _ ?_;have:=h1.boxed hV d (I d X).1 (I d X).2 (by rw[(h6 _).1];exact Y) _ H (du W (au st x).2) t h2 y.one' h3 h4 h5;exact this
 ·grind
theorem jG (b:Nat)(E:TypeId):∀ (u:List Value) (k o:Nat) (w:World) (cur:Array Value) {mk:Nat×Nat},w.heap[b]?=some (.cells cur E mk) ->
  (w.setCells b (o+k) u).heap[b]?=some (.cells ((u.zipIdx k).foldl (λy (x:Value×Nat)=>y.setIfInBounds (o+x.2) x.1) cur) E mk)
 |[],_,_,_,_,_,h=>h
 |v::u,k,o,w,cur,mk,h=>by
  have:=jG b E u (k+1) o (w.setCell ⟨b,o+k,none⟩ v) _ (by rw[setCell_eq_setRow w b (o+k) cur E mk v h];exact setRow_heap w b cur _ E mk h);simpa[Cu,DY]using this
theorem eH (b:Nat):∀ (u:List Value) (o:Nat) (w:World) (k:Nat),k≠b->(w.setCells b o u).heap[k]?=w.heap[k]?
 |[],_,_,_,_=>rfl
 |v::u,o,w,k,h=>by
  rw[Cu,eH b u (o+1) _ k h];exact heap_setCell_other w ⟨b,o,none⟩ k v h
theorem jH (b:Nat):∀ (u:List Value) (o:Nat) (w:World),(w.setCells b o u).os=w.os/\(w.setCells b o u).tape=w.tape/\(w.setCells b o u).output=w.output/\(w.setCells b o u).heap.size=w.heap.size
 |[],_,_=>⟨rfl,rfl,rfl,rfl⟩
 |v::u,o,w=>by
  obtain⟨y,H,I,z⟩:=jH b u (o+1) (w.setCell ⟨b,o,none⟩ v);exact⟨y,H,I,by rw[Cu,z];simp⟩
theorem mW {t:TypeId}{n:Nat}(z:bR P t n){w:World}{b off:Nat}{cur:List Value}{E:TypeId}{mk:Nat×Nat}(J:w.heap[b]?=some (.cells cur.toArray E mk))(H:mk.2=0\/cur.length<=mk.1){v:Value}{cs:List Value}
  (Z:v.cells=cs.toArray) (M:cs.length=n) (X:∀ u∈cs,u.oneCell'=true) (Y:off+cs.length<=cur.length) :
  (DZ t (.pointer (some ⟨b,off,none⟩)) v).run P w=.ok () (w.setCells b off cs):=by
 have y:∀ j,j<cs.length->(w.cell? ⟨b,off+j,none⟩).isSome=true:=by
  intro j I;rw[cell_of_row w b _ _ E mk J]
  grind
 have O:=run_storeCells_cells (P:=P) b off cs 0 w (λj I=>y j I) (λj I=>qR J (by simpa using H) (by simp;omega)) X;have h4:=dx z w;simp[DZ,Instr.sureAddr,storeVar,h4,Z,M,O]
theorem tr (hV:ay V)(hT:TOk P T){t:TypeId}{x y:Operand}{b off:Nat}(bl:o.op=.store t x y)(hd:o.dst=none)(hx:one st x=.bp b off)
  (bn:(au st y).2.length=(T t).cells) (b5:(au st y).1=bh (T t).agg) (a8:(T t).cells≠0) (a9:(st b).sh=.agg) (c0:off+(au st y).2.length<=(st b).ls.length) (a3:hX st (au st y).2=true)
  {W:Wit} {a:Act} {w:World} (hr:ap P V W st a w) :
  mF P V o st ((b,⟨(ac (mvU st (au st y).2) st b).ver+1,.agg,js (ac (mvU st (au st y).2) st b).ls (dK st (au st y).2) off⟩)::mvU st (au st y).2) a w:=by
 intro next Q hn;obtain⟨I,hs,hl⟩:=cX hr y;rw[b5]at hs;have hc:=gT hs hl.one';obtain⟨h1,h2,h3,h4,h5⟩:=oG hV hr hl a3;have h6:=zk hV hr hl a3;obtain⟨hp,_,_,_⟩:=bt hr x (by rw[hx];simp);rw[hx]at hp;obtain⟨hB,_,hv⟩:=hp;have b2:T t≠.none:=by intro e;rw[e]at a8;exact a8 rfl
 rcases hr.boxes b hB with ⟨h8,_⟩|⟨_,E,h8⟩
 ·rw[a9]at h8;cases h8
 ·have bb:=hl.length;have c1:=hr.len b;have bx:(ac (mvU st (au st y).2) st b).ls.length=(W.cs b).length:=h1.len b;have a7:off+I.length<=(W.cs b).length:=by omega
  have ad:=mW (oH (hT t) b2) h8 (.inl rfl) hc (by omega) hl.one' a7;refine po (w':=w.setCells (W.β b) off I) (by simp[execOp,bl,hv,ad]) ?_;rw[hd];refine hn _ _ ?_;rw[aO];obtain⟨e1,e2,e3,e4⟩:=jH (W.β b) I off w;have a0:=jG (W.β b) E I 0 off w _ h8;rw[kQ (W.cs b) I off a7]at a0;simp only[CC]at a0;have b6:live (ac (mvU st (au st y).2) st) b:=⟨hB,by rw[(h6 b).1];exact a9⟩;have b9:(dK st (au st y).2).length=I.length:=h2;have M:∀ (j:Nat) (l:Leaf),(js (ac (mvU st (au st y).2) st b).ls (dK st (au st y).2) off)[j]?=some l ->
    (off<=j/\j<off+I.length/\(dK st (au st y).2)[j-off]?=some l)\/((j<off\/off+I.length<=j)/\(ac (mvU st (au st y).2) st b).ls[j]?=some l):=by
   intro j l hj;unfold js at hj;rw[b9]at hj;by_cases Z:j<off
   ·rw[BQ,BH (by simp;omega),CA,if_pos Z]at hj;exact .inr ⟨.inl Z,hj⟩
   ·by_cases J:j<off+I.length
    ·rw[BQ,BG (by simp;omega),BH (by simp;omega)]at hj;refine .inl ⟨by omega,J,?_⟩;rw[<- hj];congr 1;simp;omega
    ·rw[BG (by simp;omega),CP]at hj;refine .inr ⟨.inr (by omega),?_⟩;rw[<- hj];congr 1;simp;omega
  have a2:∀ (j:Nat),((W.cs b).take off++I++(W.cs b).drop (off+I.length))[j]?=if off<=j/\j<off+I.length then I[j-off]? else (W.cs b)[j]?:=by
   intro j;by_cases Z:j<off
   ·rw[BQ,BH (by simp;omega),CA,if_pos Z,if_neg (by omega)]
   ·by_cases J:j<off+I.length
    ·rw[BQ,BG (by simp;omega),BH (by simp;omega),if_pos ⟨by omega,J⟩];congr 1;simp;omega
    ·rw[BG (by simp;omega),CP,if_neg (by omega)];congr 1;simp;omega
  refine⟨_,h1.setBox hV b hB _ _ ((W.cs b).take off++I++(W.cs b).drop (off+I.length)) (λj=>if off<=j/\j<off+I.length then du W (au st y).2 (j-off) else W.bs b j) (W.β b) E
   (BM _) (.inl ⟨b6,rfl⟩) a0 (λk _ Y=>eH (W.β b) I off w k Y) (Cj e4.symm) e1 e2 e3 ?_ ?_ ?_ ?_ ?_⟩
  ·simp only[js,BR,Bx,Ch];omega
  ·intro u hu;simp only[BL]at hu;rcases hu with (hu|hu)|hu
   ·exact hr.one b u (List.mem_of_mem_take hu)
   ·exact hl.one' u hu
   ·exact hr.one b u (List.mem_of_mem_drop hu)
  ·intro j l u hj hu;rw[a2]at hu;rcases M j l hj with ⟨Z,J,H⟩|⟨Z,H⟩
   ·rw[if_pos ⟨Z,J⟩]at hu;simp only[if_pos (⟨Z,J⟩:off<=j/\j<off+I.length)];exact h3 _ l u H hu
   ·have z:¬ (off<=j/\j<off+I.length):=by omega
    rw[if_neg z]at hu;simp only[if_neg z];exact h1.leaf b j l u H hu
  ·intro j l hj ho k Y;rcases M j l hj with ⟨Z,J,H⟩|⟨Z,H⟩
   ·simp only[if_pos (⟨Z,J⟩:off<=j/\j<off+I.length)]at Y;obtain⟨q1,q2,q3,q4,q5⟩:=h4 _ l H ho k Y;exact⟨q1,q2,q3,q4,λr1 j1 l1 _=>q5 r1 j1 l1⟩
   ·have z:¬ (off<=j/\j<off+I.length):=by omega
    simp only[if_neg z]at Y;obtain⟨q1,q2,q3⟩:=h1.ownb b j l H ho k Y;exact⟨q1,q2,h1.own_lt H ho k Y,q3,λr1 j1 l1 b0 b4 b1 ba=>b0 (h1.sep b j l r1 j1 l1 H ho b4 b1 k Y ba).1.symm⟩
  ·intro j j' l l' hj ho b3 a1 k Y X;rcases M j l hj with ⟨Z,J,H⟩|⟨Z,H⟩ <;> rcases M j' l' b3 with ⟨a6,a4,O⟩|⟨a6,O⟩
   ·simp only[if_pos (⟨Z,J⟩:off<=j/\j<off+I.length)]at Y;simp only[if_pos (⟨a6,a4⟩:off<=j'/\j'<off+I.length)]at X;have:=h5 _ _ l l' H ho O a1 k Y X;omega
   ·have z:¬ (off<=j'/\j'<off+I.length):=by omega
    simp only[if_pos (⟨Z,J⟩:off<=j/\j<off+I.length)]at Y;simp only[if_neg z]at X;exact absurd X ((h4 _ l H ho k Y).2.2.2.2 b j' l' O a1)
   ·have z:¬ (off<=j/\j<off+I.length):=by omega
    simp only[if_neg z]at Y;simp only[if_pos (⟨a6,a4⟩:off<=j'/\j'<off+I.length)]at X;exact absurd Y ((h4 _ l' O a1 k X).2.2.2.2 b j l H ho)
   ·have z:¬ (off<=j/\j<off+I.length):=by omega
    have a5:¬ (off<=j'/\j'<off+I.length):=by omega
    simp only[if_neg z]at Y;simp only[if_neg a5]at X;exact (h1.sep b j l b j' l' H ho O a1 k Y X).2
end
theorem bu {l:List Nat}:l.Nodup<->∀ k,l.count k<=1:=by
 induction l with
 |nil=>simp
 |cons a l H =>
  rw[CH,H];constructor
  ·rintro⟨r,y⟩ k;rw[Cp];by_cases u:a=k
   ·subst u;have:l.count a=0:=BZ.2 r;simp[this]
   ·have:=y k;simp[u,this]
  ·intro h;refine⟨λz=>?_,λk=>?_⟩
   ·have r:=h a;have y:0<l.count a:=BK.2 z;rw[Cp]at r;simp at r;omega
   ·have:=h k;rw[Cp]at this;omega
theorem pW {n:Nat}(r:Nat->List Nat)(k:Nat):((BO n).flatMap r).count k=((BO n).map λj=>(r j).count k).sum:=by
 generalize BO n=l;induction l with
 |nil=>rfl
 |cons a l u=>simp[BF,u]
theorem kn {n i:Nat}(H:i<n)(r:Nat->List Nat)(b:List Nat)(k:Nat) :
  ((BO n).flatMap λj=>if j=i then b else r j).count k+(r i).count k=((BO n).flatMap r).count k+b.count k:=by
 rw[pW,pW];induction n with
 |zero=>omega
 |succ n y =>
  rw[List.range_succ];simp only[DP,Da,C7,List.sum_append,List.sum_cons,List.sum_nil];by_cases u:i=n
  ·subst u;have:(BO i).map (λj=>List.count k (if j=i then b else r j))=(BO i).map λj=>(r j).count k:=by
    refine List.map_congr_left λj z=>?_
    rw[if_neg (by have:=Cv.1 z;omega)]
   rw[this,if_pos rfl];omega
  ·have:=y (by omega);rw[if_neg (λe=>u e.symm)];omega
theorem mX {bs bs' K:List Nat}(z:bs.Nodup)(y:K.Nodup)(J:∀ k∈K,k∉bs)(h:∀ k,bs'.count k<=bs.count k+K.count k):bs'.Nodup/\∀ k∈bs',k∈bs\/k∈K:=by
 rw[bu]at z y;refine⟨bu.2 λk=>?_,λk r=>?_⟩
 ·have H:=h k;have I:=z k;have u:=y k;by_cases r:k∈K
  ·have:bs.count k=0:=BZ.2 (J k r);omega
  ·have:K.count k=0:=BZ.2 r;omega
 ·have H:=h k;have I:0<bs'.count k:=BK.2 r;by_cases u:k∈bs
  ·exact .inl u
  ·have:bs.count k=0:=BZ.2 u;exact .inr (BK.1 (by omega))
theorem Mx.pos {w:World}{G:Nat->Prop}:∀ {a:Ty} {pos r:Nat} {x:a.den} {cs:List Value} {bs:List Nat},Mx w G a none pos x cs bs->Mx w G a none r x cs bs
 |.int _,_,_,_,_,_,h=>h
 |.bool,_,_,_,_,_,h=>h
 |.str,_,_,_,_,_,h=>h
 |.unit,_,_,_,_,_,h=>h
 |.hdr,_,_,_,_,_,h=>h
 |.pair _ _,_,_,_,_,_,⟨O,M,y,J,R,z,I,u⟩=>⟨O,M,y,J,R,z,Mx.pos I,Mx.pos u⟩
 |.list m E e,_,_,_,_,_,H=>by
  cases m with
  |false=>rw[cr]at H ⊢;exact H
  |true=>rw[bK (by simp)]at H ⊢;exact H
section
variable {P:Program} {V:Env} {W:Wit} {st:St} {w w':World} {a:Act}
theorem Mx.scalar {G:Nat->Prop}{b:Ty}{hol:Option Nat}{pos:Nat}{x:b.den}{cs:List Value}{S:Nat->Prop}(r:b.flat=true)(h:Rd w S b x cs):Mx w G b hol pos x cs []:=Mx.flat r h
theorem lC (h:ap P V W st a w):∀ (b:Ty) (pos:Nat) (ls:List Leaf) (cs:List Value) (t:cO b.den),aB P V W st w ls cs->take st b ls=some t ->
  ∃ J M O,cs=J++M/\ls=O++t.rest/\aB P V W st w O J/\aB P V W st w t.rest M/\Mx w (bm V W t.p t.frz) b none pos t.val J (aW W t.kill) /\
   (∀ x∈t.frz,aA st x)/\(∀ x∈t.kill,aA st x)
 |.pair b c,pos,ls,cs,t,H,z=>by
  simp only[take]at z;split at z
  ·rename_i u hb;split at z
   ·rename_i v hc;simp only[BA]at z;subst z;obtain⟨J,M,O,e1,e2,h1,Y,X,h4,h5⟩:=lC h b pos ls cs u H hb;obtain⟨c3,c4,l2,e3,e4,h6,h7,h8,h9,a0⟩:=lC h c (pos+b.cells) u.rest M v Y hc;refine⟨J++c3,c4,O++l2,by rw[e1,e3,BQ],by rw[e2,e4,BQ],h1.append h6,h7,⟨J,c3,_,_,rfl,dL W _ _,?_,?_⟩,?_,?_⟩
    ·refine X.mono λk I=>?_
     rcases I with I|⟨y,hy,I⟩
     ·exact .inl (bU (by intro h;simp[h]) (λ_ h=>h) k I)
     ·exact .inr ⟨y,BJ _ hy,I⟩
    ·refine h8.mono λk I=>?_
     rcases I with I|⟨y,hy,I⟩
     ·exact .inl (bU (by intro h;simp[h]) (λ_ h=>h) k I)
     ·exact .inr ⟨y,BE _ hy,I⟩
    ·intro x R;exact (BL.1 R).elim (h4 x) (h9 x)
    ·intro x R;exact (BL.1 R).elim (h5 x) (a0 x)
   ·cases z
  ·cases z
 |.unit,pos,ls,cs,t,H,z=>by
  simp only[take,BA]at z;subst z;exact⟨[],cs,[],rfl,rfl,trivial,H,⟨rfl,rfl⟩,by simp,by simp⟩
 |.list m E e,pos,ls,cs,t,H,z=>by
  cases ls with
  |nil=>simp[take]at z
  |cons l ls =>
   cases cs with
   |nil=>exact H.elim
   |cons v cs =>
    cases m with
    |false =>
     simp only[take,cond_false]at z;split at z
     ·rename_i p xs ha;simp only[BA]at z;subst z;refine⟨[v],cs,[l],rfl,rfl,⟨H.1,trivial⟩,H.2,cr.2 ⟨rfl,kx h H.1.1 H.1.2.1 ha⟩,λx R=>ei (cs:=[v]) (ls:=[l]) ⟨H.1,trivial⟩ R,by simp⟩
     ·cases z
    |true =>
     simp only[take,cond_true]at z;split at z
     ·rename_i r j n;split at z
      ·rename_i p E' e' xs hd;simp only[BB]at z;obtain⟨ys,hc,rfl⟩:=z;obtain⟨rfl,rfl,rfl⟩:=jD hc;obtain⟨h1,Y,X,h4⟩:=kc h hd H.1.1;refine⟨[v],cs,[_],rfl,rfl,⟨H.1,trivial⟩,H.2,(bK (by simp)).2 ⟨v,rfl,?_⟩,by simp,?_⟩
       ·have:aW W [(r,j)]=W.bs r j:=by simp[aW]
        show OwB w _ none E' e' xs v (aW W [(r,j)]);rw[this];exact Y.2.carry (λk I=>.inl I) (λ_ _=>rfl) (λ_ _=>rfl)
       ·intro x R;simp only[List.mem_singleton]at R;subst R;exact⟨_,X,trivial⟩
      ·cases z
     ·simp only[BA]at z;subst z;have X:v=.slice none 0 0:=H.1.1;refine⟨[v],cs,[_],rfl,rfl,⟨H.1,trivial⟩,H.2,(bK (by simp)).2 ⟨v,rfl,?_⟩,by simp,by simp⟩;rw[X];exact (OwH.nil w _ E e).2
     ·cases z
 |.int k,pos,ls,cs,t,H,z=>take_scalar h (b:=.int k) rfl H z
 |.bool,pos,ls,cs,t,H,z=>take_scalar h (b:=.bool) rfl H z
 |.str,pos,ls,cs,t,H,z=>take_scalar h (b:=.str) rfl H z
 |.hdr,pos,ls,cs,t,H,z=>take_scalar h (b:=.hdr) rfl H z
where
 take_scalar (h:ap P V W st a w) {b:Ty} {pos:Nat} {ls:List Leaf} {cs:List Value} {t:cO b.den} (hf:b.flat=true) (H:aB P V W st w ls cs) (z:(aZ st b ls).map (λx=>(⟨false,x.2.1,[],[],x.2.2⟩:cO b.den))=some t) :
   ∃ J M O,cs=J++M/\ls=O++t.rest/\aB P V W st w O J/\aB P V W st w t.rest M/\Mx w (bm V W t.p t.frz) b none pos t.val J (aW W t.kill) /\
    (∀ x∈t.frz,aA st x)/\(∀ x∈t.kill,aA st x):=by
  simp only[BB]at z;obtain⟨⟨p,x,Z⟩,h1,rfl⟩:=z;obtain⟨J,M,O,e1,e2,Y,X,h4⟩:=ky h b ls cs p x Z H h1;exact⟨J,M,O,e1,e2,Y,X,Mx.flat hf h4,by simp,by simp⟩
theorem dP (h:ap P V W st a w){b:Ty}{pos:Nat}{ls:List Leaf}{cs:List Value}{t:cO b.den}(I:aB P V W st w ls cs)(r:cj st b ls=some t) :
  Mx w (bm V W t.p t.frz) b none pos t.val cs (aW W t.kill)/\(∀ x∈t.frz,aA st x)/\(∀ x∈t.kill,aA st x):=by
 unfold cj at r;split at r
 ·rename_i p x f k M;simp only[BA]at r;subst r;obtain⟨Y,y,Z,u,R,X,H,J,O,z⟩:=lC h b pos ls cs _ I M;have:y=[]:=by
   cases y with
   |nil=>rfl
   |cons=>exact H.elim
  subst this;simp only[Bw]at u;subst u;exact⟨J,O,z⟩
 ·cases r
theorem gO (h:ap P V W st a w):∀ {ks:List (Nat×Nat)},aY ks=true->(∀ x∈ks,aA st x)->(aW W ks).Nodup
 |[],_,_=>DU
 |x::ks,J,M=>by
  simp only[aY,BC,BY,B4]at J;have R:=gO h J.2 (λy H=>M y (BP _ H));show (W.bs x.1 x.2++aW W ks).Nodup;rw[CD];obtain⟨l,I,z⟩:=M x (BW ..);refine⟨?_,R,λk hk k' r e=>?_⟩
  ·have hj:x.2<(W.cs x.1).length:=by rw[<- h.len];exact (BD.1 I).1
   have:=h.leaf x.1 x.2 l _ I (BS hj);cases l <;> simp only[an]at z;exact OwH.nodup this
  ·subst e;obtain⟨y,H,r⟩:=gf.1 r;obtain⟨X,O,u⟩:=M y (BP _ H);obtain⟨Z,Y⟩:=h.sep x.1 x.2 l y.1 y.2 X I z O u k hk r;have:=J.1 y H;rw[Z,Y]at this;simp at this
theorem jU:∀ {b:Ty} {S u:Nat->Prop} {O:Option Nat} {pos:Nat} {y:b.den} {c:List Value} {q:List Nat},b.flat=true->Mx w S b O pos y c q->Rd w u b y c
 |.int _,_,_,_,_,_,_,_,_,h=>h.1
 |.bool,_,_,_,_,_,_,_,_,h=>h.1
 |.str,_,_,_,_,_,_,_,_,h=>h.1
 |.unit,_,_,_,_,_,_,_,_,h=>h.1
 |.hdr,_,_,_,_,_,_,_,_,h=>h.1
 |.pair _ _,_,_,_,_,_,_,_,r,⟨M,J,R,Y,I,X,H,z⟩=>by
  simp only[Ty.flat,BC]at r;exact⟨M,J,I,jU r.1 H,jU r.2 z⟩
 |.list _ _ _,_,_,_,_,_,_,_,r,_=>by simp[Ty.flat]at r
theorem mi (h:ap P V W st a w){G:Nat->Prop}{off n:Nat}{hol J:Option Nat}(a4:∀ k,off<=k->k<off+n->J≠some k)(R:∀ k,¬ (off<=k/\k<off+n)->(J=some k<->hol=some k)) :
  ∀ (b:Ty) (pos:Nat) (x:b.den) (ls:List Leaf) (cs:List Value) (t:cO b.den) (Y:List Value) (z:List Nat),aB P V W st w ls cs->de st off n b pos x ls=some t->Mx w G b hol pos x Y z ->
  ∃ O c2 c' I,cs=O++c2/\aB P V W st w t.rest c2/\O.length=min (off+n) (pos+b.cells)-max off pos /\
   Mx w (λk=>G k\/bm V W t.p t.frz k) b J pos t.val c' I /\
   (∀ i,i<b.cells->c'[i]?=if off<=pos+i/\pos+i<off+n then O[pos+i-max off pos]? else Y[i]?) /\
   (∀ k,I.count k<=z.count k+(aW W t.kill).count k)/\(∀ x∈t.frz,aA st x)/\(∀ x∈t.kill,aA st x)
 |.pair b c,pos,x,ls,cs,t,Y,z,M,r,⟨d1,d2,b1,b2,e1,e2,a7,b4⟩=>by
  simp only[de]at r;split at r
  ·rename_i u X;split at r
   ·rename_i v hc;simp only[BA]at r;subst r;obtain⟨O,c2,c',I,f1,f2,f3,f4,f5,f6,f7,f8⟩:=mi h a4 R b pos x.1 ls cs u d1 b1 M X a7;obtain⟨c3,c4,a9,a1,g1,g2,g3,g4,g5,g6,g7,g8⟩:=mi h a4 R c (pos+b.cells) x.2 u.rest c2 v d2 b2 f2 hc b4;have ad:=f4.len;have b6:=g4.len;have b3:=a7.len;refine⟨O++c3,c4,c'++a9,I++a1,by rw[f1,g1,BQ],g2,?_,⟨c',a9,I,a1,rfl,rfl,?_,?_⟩,?_,?_,?_,?_⟩
    ·rw[BR,f3,g3];simp only[Ty.cells];omega
    ·refine f4.mono λk H=>?_
     rcases H with H|H|⟨y,hy,H⟩
     ·exact .inl H
     ·exact .inr (.inl (bU (by intro h;simp[h]) (λ_ h=>h) k H))
     ·exact .inr (.inr ⟨y,BJ _ hy,H⟩)
    ·refine g4.mono λk H=>?_
     rcases H with H|H|⟨y,hy,H⟩
     ·exact .inl H
     ·exact .inr (.inl (bU (by intro h;simp[h]) (λ_ h=>h) k H))
     ·exact .inr (.inr ⟨y,BE _ hy,H⟩)
    ·intro i hi;simp only[Ty.cells]at hi;rw[e1];by_cases b0:i<b.cells
     ·rw[BH (by omega),f5 i b0];by_cases hr:off<=pos+i/\pos+i<off+n
      ·rw[if_pos hr,if_pos hr,BH (by omega)]
      ·rw[if_neg hr,if_neg hr,BH (by omega)]
     ·rw[BG (by omega),ad,g5 (i-b.cells) (by omega)];have e3:pos+b.cells+(i-b.cells)=pos+i:=by omega
      rw[e3];by_cases hr:off<=pos+i/\pos+i<off+n
      ·rw[if_pos hr,if_pos hr,BG (by omega)];congr 1;omega
      ·rw[if_neg hr,if_neg hr,BG (by omega),b3]
    ·intro k;rw[e2,BF,BF,dL,BF];have:=f6 k;have:=g6 k;omega
    ·intro y hy;exact (BL.1 hy).elim (f7 y) (g7 y)
    ·intro y hy;exact (BL.1 hy).elim (f8 y) (g8 y)
   ·cases r
  ·cases r
 |.unit,pos,x,ls,cs,t,Y,z,M,r,hm=>by
  simp only[de,BA]at r;subst r;refine⟨[],cs,[],[],rfl,M,by simp only[Ty.cells,CX];omega,⟨rfl,rfl⟩,λi hi=>by simp[Ty.cells]at hi,λk=>by simp,by simp,by simp⟩
 |.hdr,pos,x,ls,cs,t,Y,z,M,r,hm=>by simp[de]at r
 |.int k,pos,x,ls,cs,t,Y,z,M,r,hm=>put_scalar h (b:=.int k) rfl rfl M r hm
 |.bool,pos,x,ls,cs,t,Y,z,M,r,hm=>put_scalar h (b:=.bool) rfl rfl M r hm
 |.str,pos,x,ls,cs,t,Y,z,M,r,hm=>put_scalar h (b:=.str) rfl rfl M r hm
 |.list m E e,pos,x,ls,cs,t,Y,z,M,r,hm=>by
  simp only[de]at r;have b5:=hm.len;have e0:(Ty.list m E e).cells=1:=rfl;cases X:Ck off pos&&Cz pos (off+n) with
  |true =>
   rw[X]at r;simp only[cond_true]at r;simp only[BC,Cb]at X;have a6:=CJ X.1;obtain⟨O,c2,l1,e1,e2,h1,h2,h3,h4,h5⟩:=lC h (.list m E e) pos ls cs t M r;have a5:=h3.len;refine⟨O,c2,O,aW W t.kill,e1,h2,by rw[a5];omega,?_,λi hi=>?_,λk=>by omega,h4,h5⟩
   ·have Z:=h3.mono (G':=λk=>G k\/bm V W t.p t.frz k) (λk H=>.inr H);cases m with
    |false=>rw[cr]at Z ⊢;exact Z
    |true =>
     rw[bK (by simp)]at Z;rw[bK (a4 pos a6 X.2)];exact Z
   ·rw[if_pos (by omega)];congr 1;omega
  |false =>
   rw[X]at r;simp only[cond_false,BA]at r;subst r;have a3:¬ (off<=pos/\pos<off+n):=by
    rintro⟨h1,h2⟩;have:(Ck off pos&&Cz pos (off+n))=true:=by
     simp only[BC,Cb];exact⟨CU h1,h2⟩
    rw[X]at this;cases this
   refine⟨[],cs,Y,z,rfl,M,by simp only[CX];omega,?_,λi hi=>?_,λk=>by omega,by simp,by simp⟩
   ·have Z:=hm.mono (G':=λk=>G k\/bm V W false [] k) (λk H=>.inl H);cases m with
    |false=>rw[cr]at Z ⊢;exact Z
    |true =>
     by_cases hp:hol=some pos
     ·have a2:=(R pos a3).2 hp;subst hp;subst a2;rw[i8]at Z ⊢;exact Z
     ·have a2:J≠some pos:=λe=>hp ((R pos a3).1 e)
      rw[bK hp]at Z;rw[bK a2];exact Z
   ·rw[if_neg (by omega)]
where
 put_scalar (h:ap P V W st a w) {b:Ty} {pos:Nat} {x:b.den} {ls:List Leaf} {cs:List Value} {t:cO b.den} {Y:List Value} {z:List Nat} (hf:b.flat=true) (h1:b.cells=1) (M:aB P V W st w ls cs)
   (r:(bif Ck off pos&&Cz pos (off+n) then take st b ls else some ⟨false,x,[],[],ls⟩)=some t) (hm:Mx w G b hol pos x Y z) :
   ∃ O c2 c' I,cs=O++c2/\aB P V W st w t.rest c2/\O.length=min (off+n) (pos+b.cells)-max off pos /\
    Mx w (λk=>G k\/bm V W t.p t.frz k) b J pos t.val c' I /\
    (∀ i,i<b.cells->c'[i]?=if off<=pos+i/\pos+i<off+n then O[pos+i-max off pos]? else Y[i]?) /\
    (∀ k,I.count k<=z.count k+(aW W t.kill).count k)/\(∀ x∈t.frz,aA st x)/\(∀ x∈t.kill,aA st x):=by
  have a0:∀ {S S':Nat->Prop} {hh a8:Option Nat} {y:b.den} {c:List Value} {q:List Nat},Mx w S b hh pos y c q->Mx w S' b a8 pos y c []:=by
   intro S S' hh a8 y c q hq;exact Mx.flat (w:=w) (G:=λ_=>True) hf (jU hf hq)
  cases X:Ck off pos&&Cz pos (off+n) with
  |true =>
   rw[X]at r;simp only[cond_true]at r;simp only[BC,Cb]at X;have a6:=CJ X.1;obtain⟨O,c2,l1,e1,e2,h2,h3,h4,h5,Z⟩:=lC h b pos ls cs t M r;have a5:=h4.len;refine⟨O,c2,O,[],e1,h3,by rw[a5];omega,a0 h4,λi hi=>?_,λk=>by simp,h5,Z⟩;rw[if_pos (by omega)];congr 1;omega
  |false =>
   rw[X]at r;simp only[cond_false,BA]at r;subst r;have a3:¬ (off<=pos/\pos<off+n):=by
    rintro⟨h1,h2⟩;have:(Ck off pos&&Cz pos (off+n))=true:=by
     simp only[BC,Cb];exact⟨CU h1,h2⟩
    rw[X]at this;cases this
   refine⟨[],cs,Y,[],rfl,M,by simp only[CX];omega,a0 hm,λi hi=>?_,λk=>by simp,by simp,by simp⟩;rw[if_neg (by omega)]
end
section
variable {P:Program} {V:Env} {Γ:List Ctr} {T:TypeId->TI} {st st2:St} {o:Oper} {R:Type} {κ:Upd->Option R} {r:R}
def uU (V:Env)(W:Wit)(st:St)(q j k:Nat):Prop :=
 ¬ W.nw k/\¬ V.prot k/\(∀ b,live st b->W.β b≠k)/\∀ (u i:Nat) (l:Leaf),(st u).ls[i]?=some l->an l->(u,i)≠(q,j)->k∉W.bs u i
structure xL (st st2:St) (q j:Nat) (l':Leaf):Prop where
 sh:∀ r,(st2 r).sh=(st r).sh
 ver:∀ r,(st r).ver<=(st2 r).ver
 epo:(st EPO).ver<(st2 EPO).ver
 len:∀ r,(st2 r).ls.length=(st r).ls.length
 at_:∀ l,(st2 q).ls[j]?=some l->l=l'
 old:∀ r i l,(r,i)≠(q,j)->(st2 r).ls[i]?=some l->(st r).ls[i]?=some l
def Wit.tell (W:Wit)(q j:Nat)(bs:List Nat):Wit:={ W with bs:=λr i=>if (r,i)=(q,j) then bs else W.bs r i }
theorem ap.retell (hV:ay V){W:Wit}{a:Act}{w w':World}(h:ap P V W st a w){q j:Nat}{l l':Leaf}(O:xL st st2 q j l'){v:Value}{bs':List Nat}
  (hl:(st q).ls[j]?=some l) (a8:an l) (hv:(W.cs q)[j]?=some v) (b2:an l') (a7:aJ P V W st w' bs' l' v)
  (a4:∀ k∈bs',uU V W st q j k)
  (I:∀ k,cg V W st k->k∉W.bs q j->w'.heap[k]?=w.heap[k]?) (a6:w.heap.size<=w'.heap.size) (b0:w'.os=w.os) (ht:w'.tape=w.tape) (ho:w'.output=w.output) :
  ap P V (W.tell q j bs') st2 a w':=by
 have a0:=h.ownb q j _ hl a8;have X:∀ b,live st2 b<->live st b:=iy O.sh;have a2:∀ {y i:Nat},(y,i)≠(q,j)->(W.tell q j bs').bs y i=W.bs y i:=λh=>if_neg h
 have a3:(W.tell q j bs').bs q j=bs':=if_pos rfl;have ad:∀ (y i:Nat) (l:Leaf),(st2 y).ls[i]?=some l->an l->(y,i)≠(q,j)->(st y).ls[i]?=some l:=λy i l Y _ J=>O.old y i l J Y
 have H:cH V W (W.tell q j bs') st st2 w w':=by
  refine⟨λy=>⟨O.ver y,λ_=>rfl⟩,λb hb=>⟨(X b).2 hb,rfl⟩,λ_ h=>h,λk z=>I k (z.elim .inl (λh=>.inr (.inl h))) (λhm=>?_),λhe=>?_⟩
  ·rcases z with z|z
   ·exact (a0 k hm).1 z
   ·exact (a0 k hm).2.1 z
  ·have:=O.epo;omega
 exact {
  nt:=h.nt,df:=h.df
  slots:=λt a9=>by rw[O.sh];exact h.slots t a9
  boxes:=λb hb=>by
   rw[O.sh];rcases h.boxes b hb with ⟨Y,J⟩|⟨Y,E0,J⟩
   ·refine .inl ⟨Y,BV ?_⟩;rw[O.len,J];rfl
   ·refine .inr ⟨Y,E0,?_⟩;show w'.heap[W.β b]?=_;rw[I _ (.inr (.inr (.inl ⟨b,⟨hb,Y⟩,rfl⟩))) (λhm=>(a0 _ hm).2.2 b ⟨hb,Y⟩ rfl)];exact J
  len:=λy=>by rw[O.len];exact h.len y
  one:=h.one
  leaf:=λy i l1 u Y J=>by
   by_cases M:(y,i)=(q,j)
   ·cases M;obtain rfl:=O.at_ l1 Y;have J:(W.cs q)[j]?=some u:=J;rw[hv]at J;simp only[BA]at J;subst J;rw[a3];have a5:cH V W (W.tell q j bs') st st2 w' w':=⟨H.ver,H.box,H.nw,λ_ _=>rfl,λhe=>by have:=O.epo;omega⟩;exact a7.carry hV.ro a5 (λ_=>⟨rfl,λ_ _=>rfl⟩)
   ·have h3:=O.old y i l1 M Y;rw[a2 M];refine (h.leaf y i l1 u h3 J).carry hV.ro H (λho=>⟨rfl,λk z=>I k (.inr (.inr (.inr ⟨y,i,l1,h3,ho,z⟩))) (λhm=>M ?_)⟩);obtain⟨rfl,rfl⟩:=h.sep y i l1 q j _ h3 ho hl a8 k z hm;rfl
  ownb:=λy i l1 Y J k z=>by
   by_cases M:(y,i)=(q,j)
   ·cases M;rw[a3]at z;obtain⟨q1,q2,q3,_⟩:=a4 k z;exact⟨q1,q2,λb hb=>q3 b ((X b).1 hb)⟩
   ·rw[a2 M]at z;obtain⟨q1,q2,q3⟩:=h.ownb y i l1 (O.old y i l1 M Y) J k z;exact⟨q1,q2,λb hb=>q3 b ((X b).1 hb)⟩
  sep:=λy i l1 r2 i2 l2 Y J h3 h4 k z a1=>by
   by_cases M:(y,i)=(q,j) <;> by_cases Z:(r2,i2)=(q,j)
   ·rw[<- Z]at M;cases M;exact⟨rfl,rfl⟩
   ·cases M;rw[a3]at z;rw[a2 Z]at a1;exact absurd a1 ((a4 k z).2.2.2 r2 i2 l2 (O.old r2 i2 l2 Z h3) h4 Z)
   ·cases Z;rw[a3]at a1;rw[a2 M]at z;exact absurd z ((a4 k a1).2.2.2 y i l1 (O.old y i l1 M Y) J M)
   ·rw[a2 M]at z;rw[a2 Z]at a1;exact h.sep y i l1 r2 i2 l2 (O.old y i l1 M Y) J (O.old r2 i2 l2 Z h3) h4 k z a1
  box:=λb hb=>h.box b ((X b).1 hb)
  inj:=λb b' hb b1=>h.inj b b' ((X b).1 hb) ((X b').1 b1)
  nwlt:=λk z=>⟨CG (h.nwlt k z).1 a6,(h.nwlt k z).2⟩
  os:=b0.trans h.os,tape:=ht.trans h.tape,output:=ho.trans h.output,size:=CE h.size a6
  keep:=λk hp=>by
   rw[I k (.inr (.inl hp)) (λhm=>(a0 k hm).2.1 hp)];exact h.keep k hp
  fixb:=λx hx=>⟨(X _).2 (h.fixb x hx).1,(h.fixb x hx).2⟩
  fixt:=h.fixt }
theorem kI {q:Nat}(st:St):∀ (ks:List (Nat×Nat)),(∀ x∈ks,x.1≠q)->ac (aE st ks) st q=st q
 |[],_=>rfl
 |(r,j)::ks,h=>by
  have e:ac (aE st ((r,j)::ks)) st=ac [(r,fT (ac (aE st ks) st r) j)] (ac (aE st ks) st):=aO _ _ _ _;rw[e,aI (CM (h (r,j) (BW ..))),kI st ks (λx u=>h x (BP _ u))]
theorem ko {q:Nat}(st:St):∀ (ks:List (Nat×Nat)),(∀ x∈ks,x.1≠q)->ac (aM st ks) st q=st q
 |[],_=>rfl
 |(r,j)::ks,h=>by
  have e:ac (aM st ((r,j)::ks)) st=ac [(r,fW (ac (aM st ks) st r) j)] (ac (aM st ks) st):=aO _ _ _ _;rw[e,aI (CM (h (r,j) (BW ..))),ko st ks (λx u=>h x (BP _ u))]
theorem OwH.store {w:World}{G G':Nat->Prop}{h h':Option (Nat×Nat)}{E:TypeId}{e:Ty}{xs:List e.den}{g len a2:Nat}{bs K:List Nat}(H:OwH w G h E e xs (.slice (some ⟨g,0,none⟩) len a2) bs)
  (hG:∀ k,G k->G' k) (b4:¬ G' g) (hK:K.Nodup) (cw:∀ k∈K,k∉bs) {i:Nat} {a6 z:e.den} (hi:xs[i]?=some a6) (hh:∀ j,j≠i->cS h' j=cS h j) {off:Nat} {cs:List Value} (dn:off+cs.length<=e.cells)
  (J:∀ c0 b3,Mx w G e (cS h i) 0 a6 c0 b3->∃ c M,Mx w G' e (cS h' i) 0 z c M/\(∀ k,k<e.cells->c[k]?=if off<=k/\k<off+cs.length then cs[k-off]? else c0[k]?)/\∀ k,M.count k<=b3.count k+K.count k) :
  ∃ b2,OwH (w.setCells g (i*e.cells+off) cs) G' h' E e (xs.set i z) (.slice (some ⟨g,0,none⟩) len a2) b2/\∀ k∈b2,k∈bs\/k∈K:=by
 obtain⟨cx,a0,Y,h1,h2,h3⟩:=H;have a5:i<xs.length:=(BD.1 hi).1;obtain⟨c0,b5,c1⟩:=h3 i a6 hi;obtain⟨c,M,hm,cy,bl⟩:=J c0 (Y i) b5;have d1:=h1.1;rcases h1.2 with ⟨h4,_⟩|⟨g',d3,y,mk,h4,hg,b0,cp,cb,a8⟩
 ·simp at h4
 ·simp only[B5,BA,Cf,and_true,true_and]at h4;obtain⟨rfl,rfl,rfl⟩:=h4;have d2:g∈bs:=by rw[h2];simp[By]
  have dd:=b5.len;have c4:=hm.len;have b9:(i+1)*e.cells<=xs.length*e.cells:=BN _ a5;rw[B8]at b9;have dc:xs.length*e.cells<=a2*e.cells:=BN _ b0;have c3:y.toList.length=y.size:=by rw[B6]
  have b1:a0=y.toList.take (xs.length*e.cells):=a8.symm;have J:=jG g E cs 0 (i*e.cells+off) w y hg;have bn:=kQ y.toList cs (i*e.cells+off) (by omega);rw[Bz]at bn;rw[bn]at J;simp only[CC]at J;have a1:∀ k,k<xs.length*e.cells->(y.toList.take (i*e.cells+off)++cs++y.toList.drop (i*e.cells+off+cs.length))[k]? =
    if i*e.cells+off<=k/\k<i*e.cells+off+cs.length then cs[k-(i*e.cells+off)]? else a0[k]?:=by
   intro k X;have bx:a0[k]?=y.toList[k]?:=by rw[b1,CA,if_pos X]
   by_cases h9:k<i*e.cells+off
   ·rw[BQ,BH (by simp only[Bx];omega),CA,if_pos h9,if_neg (by omega),bx]
   ·by_cases cc:k<i*e.cells+off+cs.length
    ·rw[BQ,BG (by simp only[Bx];omega),BH (by simp only[Bx];omega),if_pos ⟨by omega,cc⟩];congr 1;simp only[Bx];omega
    ·rw[BG (by simp only[Bx,BR];omega),CP,if_neg (by omega),bx];congr 1;simp only[Bx,BR];omega
  have O:(y.toList.take (i*e.cells+off)++cs++y.toList.drop (i*e.cells+off+cs.length)).length=y.size:=by
   simp only[BR,Bx,Ch];omega
  have a3:∀ k,([g]++(BO xs.length).flatMap λj=>if j=i then M else Y j).count k<=bs.count k+K.count k:=by
   intro k;have h5:=kn a5 Y M k;have h6:=bl k;rw[h2];simp only[By,C5,BF];omega
  have Z:=mX cx hK cw a3;have ad:∀ j,j<xs.length->∀ k∈(if j=i then M else Y j),k≠g:=by
   intro j hj k X e0;subst e0;have h7:=Z.1;rw[Cr,CH]at h7;exact h7.1 (dW.2 ⟨j,hj,X⟩)
  have I:∀ k,k≠g->(w.setCells g (i*e.cells+off) cs).heap[k]?=w.heap[k]?:=λk X=>eH g cs _ w k X
  refine⟨[g]++(BO xs.length).flatMap λj=>if j=i then M else Y j,⟨Z.1,(y.toList.take (i*e.cells+off)++cs++y.toList.drop (i*e.cells+off+cs.length)).take (xs.length*e.cells),
   λj=>if j=i then M else Y j,⟨?_,.inr ⟨g,a2,_,_,?_,J,?_,by rw[CS,O];exact cp,?_,?_⟩⟩,?_,?_⟩,Z.2⟩
  ·rw[Bx,O,CI];omega
  ·rw[CI]
  ·rw[CI];exact b0
  ·rw[CS,O];exact cb
  ·rw[CI]
  ·simp[By]
  ·intro j x hj;rcases aQ _ _ _ _ _ hj with ⟨rfl,rfl,_⟩|⟨a4,hj⟩
   ·refine⟨c,?_,λk u hu=>?_⟩
    ·simp only[if_true];exact hm.carry (λ_ h=>h) (λk X=>I k (λe0=>b4 (e0 ▸ X))) (λk X=>I k (ad j a5 k (by simpa using X)))
    ·have bb:k<e.cells:=by rw[<- c4];exact (BD.1 hu).1
     rw[CA,if_pos (by omega),a1 _ (by omega)];rw[cy k bb]at hu;by_cases b6:off<=k/\k<off+cs.length
     ·rw[if_pos b6]at hu;rw[if_pos (by omega),<- hu];congr 1;omega
     ·rw[if_neg b6]at hu;rw[if_neg (by omega)];exact c1 k u hu
   ·obtain⟨c',ba,c2⟩:=h3 j x hj;have a9:j<xs.length:=(BD.1 hj).1;refine⟨c',?_,λk u hu=>?_⟩
    ·rw[hh j a4];simp only[if_neg a4];exact ba.carry hG (λk X=>I k (λe0=>b4 (e0 ▸ hG k X))) (λk X=>I k (ad j a9 k (by rw[if_neg a4];exact X)))
    ·have bb:k<e.cells:=by rw[<- ba.len];exact (BD.1 hu).1
     have cu:(j+1)*e.cells<=xs.length*e.cells:=BN _ a9;rw[B8]at cu;rw[CA,if_pos (by omega),a1 _ (by omega),if_neg ?_]
     ·exact c2 k u hu
     ·rintro⟨h14,h15⟩;rcases Nat.lt_or_gt_of_ne (λe=>a4 e.symm:i≠j) with a7|a7
      ·have:(i+1)*e.cells<=j*e.cells:=BN _ a7;rw[B8]at this;omega
      ·have:(j+1)*e.cells<=i*e.cells:=BN _ a7;rw[B8]at this;omega
theorem xM (hV:ay V)(hT:TOk P T){t:TypeId}{x y:Operand}(b6:o.op=.store t x y)(h:act Γ T o st κ=some r):bW P V o st κ r:=by
  simp only[act,wrU,b6]at h;split at h
  · cases h
  · rename_i hd
    cases hb:BT (au st y).2.length (T t).cells&&decide ((au st y).1=bh (T t).agg)&&!decide ((T t).cells=0) with
    |false=>simp[hb]at h
    |true =>
      simp only[hb,cond_true]at h;simp only[BC,decide_eq_true_eq,BY,decide_eq_false_iff_not]at hb;obtain⟨⟨b0,ba⟩,b9⟩:=hb;have b0:=BI b0;split at h
      · rename_i b off hx
        cases Z:decide ((st b).sh=.agg)&&decide (off+(au st y).2.length<=(st b).ls.length)&&hX st (au st y).2 with
        |false=>simp[Z]at h
        |true =>
          simp only[Z,cond_true]at h;simp only[BC,decide_eq_true_eq]at Z;exact⟨_,h,λW a w hr=>tr hV hT b6 hd hx b0 ba b9 Z.1.1 Z.1.2 Z.2 hr⟩
      · rename_i z j fr i sz off hx
        split at h
        · rename_i p hh E e xs eg
          cases Z:BT sz e.cells&&decide (off+(au st y).2.length<=e.cells)&&rY z with
          |false=>simp[Z]at h
          |true =>
            simp only[Z,cond_true]at h;simp only[BC,decide_eq_true_eq,rY,BY]at Z;obtain⟨⟨a8,fl⟩,fv,f0⟩:=Z;have a8:=BI a8;subst a8;have ed:z≠EPO:=λe0=>by subst e0;simp at f0
            unfold gG at h;obtain⟨a0,cc,h⟩:=B3.1 h;obtain⟨_,_,h4⟩:=gh cc;simp only[C8]at h4;split at h
            · rename_i u hu
              cases hq:u.rest.isEmpty&&aY u.kill&&dG u.frz u.kill&&!((u.kill++u.frz).any λk=>BT k.1 z) with
              |false=>rw[hq]at h;cases h
              |true =>
                simp only[hq,cond_true]at h;simp only[BC,BY,B4]at hq;obtain⟨⟨⟨ev,d2⟩,ec⟩,a3⟩:=hq;have a3:∀ k∈u.kill++u.frz,k.1≠z:=λk H e0=>a3 k H (by simp[e0])
                obtain ⟨I, hκ, bl, a6, d1⟩ : ∃ I : Option (Nat × Nat), κ ((z, ⟨(st z).ver, (st z).sh, aR (st z).ls j (.own (p || u.p) I E e (xs.set i u.val))⟩) :: (EPO, bV (ac (aM (ac (aE st u.frz) st) u.kill ++ aE st u.frz) st EPO)) ::
                      (aM (ac (aE st u.frz) st) u.kill++aE st u.frz))=some r /\
                    (∀ k,off<=k->k<off+(au st y).2.length->cS I i≠some k)/\(∀ k,¬ (off<=k/\k<off+(au st y).2.length)->(cS I i=some k<->cS hh i=some k))/\(∀ j',j'≠i->cS I j'=cS hh j'):=by
                  cases hh with
                  |none=>exact⟨none,h,λ_ _ _=>by simp[cS],λ_ _=>Cl,λ_ _=>rfl⟩
                  |some hp =>
                    obtain⟨hi,ho⟩:=hp;simp only at h;cases J:Ck off ho&&Cz ho (off+(au st y).2.length) with
                    |true =>
                      rw[J]at h;simp only[cond_true]at h;simp only[BC,Cb]at J;have ef:=CJ J.1;cases b3:BT i hi with
                      |true =>
                        rw[b3]at h;have h9:=h;have:=BI b3;subst this;refine⟨none,h9,λ_ _ _=>by simp[cS],λk H=>?_,λj' e6=>?_⟩
                        · simp only[cS,Nat.beq_refl,cond_true,reduceCtorEq,BA,false_iff]
                          rintro rfl;exact H ⟨ef,J.2⟩
                        · have:BT i j'=false:=by
                            cases em:BT i j' with
                            |false=>rfl
                            |true=>exact absurd (BI em).symm e6
                          simp[cS,this]
                      |false=>rw[b3]at h;cases h
                    |false =>
                      rw[J]at h;refine⟨some (hi,ho),h,λk b5 et=>?_,λ_ _=>Cl,λ_ _=>rfl⟩;simp only[cS];cases BT hi i with
                      |false=>simp
                      |true =>
                        simp only[cond_true,ne_eq,BA];rintro rfl;have:(Ck off ho&&Cz ho (off+(au st y).2.length))=true:=by
                          simp only[BC,Cb];exact⟨CU b5,et⟩
                        rw[J]at this;cases this
                refine⟨_,hκ,λW a w hr next Q hn=>?_⟩;obtain⟨cs,hs,M⟩:=cX hr y;rw[ba]at hs;have es:=gT hs M.one';have bb:=M.length;obtain⟨h5,h6⟩:=eZ eg (by simp);obtain⟨hp,_,_,_⟩:=bt hr x (by rw[hx];simp);rw[hx]at hp;obtain⟨g,ex,d3,a4,fi,hv⟩:=hp.2 h5;have e5:T t≠.none:=by intro e;rw[e]at b9;exact b9 rfl
                have a1:=hr.leaf z j _ _ h6 a4;have dd:∀ c0 O,Mx w (gd V W p) e (cS hh i) 0 a0 c0 O->∃ c a2,Mx w (λk=>gd V W p k\/bm V W u.p u.frz k) e (cS I i) 0 u.val c a2 /\
                    (∀ k,k<e.cells->c[k]?=if off<=k/\k<off+cs.length then cs[k-off]? else c0[k]?)/\∀ k,a2.count k<=O.count k+(aW W u.kill).count k:=by
                  intro c0 O hm;obtain⟨c1,c2,c',bs',f1,f2,f3,f4,f5,f6,f7,f8⟩:=mi hr bl a6 e 0 a0 (au st y).2 cs u c0 O M hu hm;have cb:c2=[]:=by
                    have:=f2.length;rw[DG.1 ev]at this;exact BV this.symm
                  subst cb;rw[Bw]at f1;subst f1;refine⟨c',bs',f4,λk H=>?_,f6⟩;rw[f5 k H,bb];simp only[CN];by_cases J:off<=k/\k<off+cs.length
                  · rw[if_pos J,if_pos J]
                    congr 1;omega
                  · rw[if_neg J,if_neg J]
                have b4:(∀ x∈u.frz,aA st x)/\(∀ x∈u.kill,aA st x):=by
                  obtain⟨_,a5,cu,_,_,bx⟩:=a1;obtain⟨c0,e7,_⟩:=bx i a0 h4;obtain⟨_,_,_,_,_,_,_,_,_,_,f7,f8⟩:=mi hr bl a6 e 0 a0 (au st y).2 cs u c0 _ M hu e7;exact⟨f7,f8⟩
                obtain⟨k1,k2,k3,k4⟩:=fE hV hr ec b4.2;have X:ac (aM (ac (aE st u.frz) st) u.kill++aE st u.frz) st z=st z:=by
                  rw[bB,ko _ _ (λx hx=>a3 x (BJ _ hx)),kI _ _ (λx hx=>a3 x (BE _ hx))]
                have h7:(ac (aM (ac (aE st u.frz) st) u.kill++aE st u.frz) st z).ls[j]?=some (.own p hh E e xs):=by rw[X];exact h6
                have a7:=k1.ownb z j _ h7 trivial;have bn:∀ k,gd V W p k\/bm V W u.p u.frz k->gd V (W.frz st u.frz) (p||u.p) k:=by
                  rintro k (H|H)
                  · exact bU (W':=W.frz st u.frz) (by intro h;simp[h]) (λ_ h=>Or.inl h) k H
                  · exact bU (W':=W.frz st u.frz) (by intro h;simp[h]) (λ_ h=>h) k (ke b4.1 k H)
                have ad:g∈W.bs z j:=by obtain⟨_,a5,cu,_,c4,_⟩:=a1;rw[c4];simp[By]
                have dn:¬ gd V (W.frz st u.frz) (p||u.p) g:=by
                  rintro (H|⟨_,H⟩)
                  · exact (a7 g ad).1 H
                  · exact (a7 g ad).2.1 (hV.ro g H)
                have ej:∀ k∈aW W u.kill,k∉W.bs z j:=λk H eb=>(k4 k H).2.2.2.2 z j _ h7 trivial eb
                obtain⟨bs',cw,cx⟩:=OwH.store (G':=gd V (W.frz st u.frz) (p||u.p)) (h':=I) a1 (λk H=>bn k (.inl H)) dn (gO hr d2 b4.2) ej h4 d1 (off:=off) (cs:=cs) (by omega)
                  (λc0 O hm=>by
                    obtain⟨c,a2,q1,q2,q3⟩:=dd c0 O hm;exact⟨c,a2,q1.mono bn,q2,q3⟩)
                obtain⟨_,a5,cu,ho,c4,_⟩:=a1;have fc:ex=xs.length:=by
                  obtain⟨A,c3,e0,_⟩:=ho.slice;simp only[B5]at e0;exact e0.2.1
                subst fc;rcases ho.2 with ⟨h8,_⟩|⟨g',c3,cur,mk,h8,hg,dc,en,fo,_⟩
                · simp at h8
                · simp only[B5,BA,Cf,and_true,true_and]at h8
                  obtain⟨rfl,rfl⟩:=h8;have cy:(i+1)*e.cells<=xs.length*e.cells:=BN _ (BD.1 h4).1;rw[B8]at cy;have fd:xs.length*e.cells<=d3*e.cells:=BN _ dc;have b1:cur.toList.length=cur.size:=by rw[B6]
                  have cp:=mW (P:=P) (oH (hT t) e5) (w:=w) (b:=g) (off:=i*e.cells+off) (cur:=cur.toList) (E:=E) (by rw[Bz];exact hg) (by rw[b1];exact zj en) es (by omega) M.one' (by omega);refine po (w':=w.setCells g (i*e.cells+off) cs) (by simp[execOp,b6,hv,cp]) ?_;rw[hd];refine hn _ _ ?_;obtain⟨e1,e2,e3,e4⟩:=jH g cs (i*e.cells+off) w;refine⟨_,k1.retell hV (l':=.own (p||u.p) I E e (xs.set i u.val)) (w':=w.setCells g (i*e.cells+off) cs) (bs':=bs') ?_ h7 trivial a4 trivial cw (λk H=>?_) (λk _ H=>eH g cs _ w k (λe=>H (e ▸ ad))) (Cj e4.symm) e1 e2 e3⟩
                  · rw[aO z,aO EPO]
                    have Y:EPO≠z:=CM ed;generalize aM (ac (aE st u.frz) st) u.kill++aE st u.frz=U at X ⊢;refine⟨λq=>?_,λq=>?_,?_,λq=>?_,λl M=>?_,λq i' l hq M=>?_⟩
                    · rcases aj z q ⟨(st z).ver,(st z).sh,aR (st z).ls j (.own (p||u.p) I E e (xs.set i u.val))⟩ (ac [(EPO,bV (ac U st EPO))] (ac U st)) with ⟨rfl,e⟩ | ⟨_,e⟩
                      · rw[e,X]
                      · rw[e]
                        rcases aj EPO q (bV (ac U st EPO)) (ac U st) with ⟨rfl,e⟩|⟨_,e⟩ <;> rw[e];rfl
                    · rcases aj z q ⟨(st z).ver,(st z).sh,aR (st z).ls j (.own (p||u.p) I E e (xs.set i u.val))⟩ (ac [(EPO,bV (ac U st EPO))] (ac U st)) with ⟨rfl,e⟩ | ⟨_,e⟩
                      · rw[e,X];exact BU _
                      · rw[e]
                        rcases aj EPO q (bV (ac U st EPO)) (ac U st) with ⟨rfl,e⟩|⟨_,e⟩ <;> rw[e]
                        · exact DL _
                        · exact BU _
                    · rw[aI Y,bj];exact BM _
                    · rcases aj z q ⟨(st z).ver,(st z).sh,aR (st z).ls j (.own (p||u.p) I E e (xs.set i u.val))⟩ (ac [(EPO,bV (ac U st EPO))] (ac U st)) with ⟨rfl,e⟩ | ⟨_,e⟩
                      · rw[e,X];simp[aR]
                      · rw[e]
                        rcases aj EPO q (bV (ac U st EPO)) (ac U st) with ⟨rfl,e⟩|⟨_,e⟩ <;> rw[e];rfl
                    · rw[bj]at M
                      rcases aQ _ _ _ _ _ M with ⟨_,rfl,_⟩|⟨Y,_⟩
                      · rfl
                      · exact absurd rfl Y
                    · rcases aj z q ⟨(st z).ver,(st z).sh,aR (st z).ls j (.own (p||u.p) I E e (xs.set i u.val))⟩ (ac [(EPO,bV (ac U st EPO))] (ac U st)) with ⟨rfl,e⟩ | ⟨_,e⟩
                      · rw[e]at M
                        rw[X];rcases aQ _ _ _ _ _ M with ⟨rfl,_,_⟩|⟨_,M⟩
                        · exact absurd rfl hq
                        · exact M
                      · rw[e]at M
                        rcases aj EPO q (bV (ac U st EPO)) (ac U st) with ⟨rfl,e⟩|⟨_,e⟩ <;> rw[e]at M <;> exact M
                  · rcases cx k H with H|H
                    · have h9:=k1.ownb z j _ h7 trivial k H
                      exact⟨h9.1,h9.2.1,h9.2.2,λr1 i1 l1 a9 b2 Y b5=>Y (by obtain⟨e1,e2⟩:=k1.sep r1 i1 l1 z j _ a9 b2 h7 trivial k b5 H;rw[e1,e2])⟩
                    · have h9:=k4 k H
                      exact⟨h9.1,h9.2.1,h9.2.2.2.1,λr1 i1 l1 a9 b2 _=>h9.2.2.2.2 r1 i1 l1 a9 b2⟩
            · cases h
        · cases h
      · cases h
end
section
variable {P:Program} {V:Env} {Γ:List Ctr} {T:TypeId->TI} {st:St} {o:Oper} {R:Type} {κ:Upd->Option R} {r:R}
theorem ap.putOwn (Z:ay V){W:Wit}{a:Act}{w w':World}(h:ap P V W st a w)(I:w.heap.size<=w'.heap.size)(M:w'.os=w.os)(ht:w'.tape=w.tape)(ho:w'.output=w.output)
  (hk:∀ k,cg V W st k->w'.heap[k]?=w.heap[k]?) (d:Nat) (hd:d<V.nt) (z:∀ x∈V.fixt,x.1≠d) (n:Nat) (hn:(st d).ver<n) {p:Bool} {E:TypeId} {e:Ty} {xs:List e.den} {v:Value} {bs:List Nat}
  (X:Ow w' (gd V W p) E e xs v bs) (hb:∀ k∈bs,¬ cg V W st k):Rel P V (ac [(d,⟨n,.one,[.own p none E e xs]⟩)] st) (a.put (some d) v) w':=by
 refine⟨_,(h.world Z I M ht ho hk).put Z d hd z n .one [.own p none E e xs] v [v] (λ_=>bs) hn rfl rfl (λu Y=>by simp at Y;subst Y;exact X.one) ?_ ?_ ?_⟩
 ·intro j l u y H;cases j with
  |zero=>simp at y H;subst y;subst H;exact X
  |succ j=>simp at y
 ·intro j l y H k O;have:=hb k O;simp only[cg,not_or,not_exists,not_and]at this;exact⟨this.1,this.2.1,this.2.2.1,λr1 j1 l1 _ J h4=>this.2.2.2 r1 j1 l1 J h4⟩
 ·intro j j' l l' y H J h4 k h5 h6;have h7:j<1:=(BD.1 y).1;have h8:j'<1:=(BD.1 J).1;omega
theorem dR {W:Wit}{p q:Bool}{H z:List (Nat×Nat)}:(∀ k,bm V W p H k->bm V W (p||q) (H++z) k)/\(∀ k,bm V W q z k->bm V W (p||q) (H++z) k):=by
 constructor
 ·rintro k (u|⟨x,y,u⟩)
  ·exact .inl (bU (W':=W) (by intro h;simp[h]) (λ_ h=>h) k u)
  ·exact .inr ⟨x,BJ _ y,u⟩
 ·rintro k (u|⟨x,y,u⟩)
  ·exact .inl (bU (W':=W) (by intro h;simp[h]) (λ_ h=>h) k u)
  ·exact .inr ⟨x,BE _ y,u⟩
theorem xN (n:Nat)(u:Nat->List Nat):(BO (n+1)).flatMap u=u 0++(BO n).flatMap λj=>u (j+1):=by
 rw[List.range_succ_eq_map,CK,DH]
theorem oh {W:Wit}{a:Act}{w:World}(M:ap P V W st a w){e:Ty}:∀ (ps:List (Nat×Operand)) (k:Nat) (u:cO (List e.den)),ew st e k ps=some u ->
  ps.map (λx=>(x.1,a.eval x.2))=((ps.map λx=>a.eval x.2).zipIdx k).map (λx=>(x.2,x.1))/\u.val.length=ps.length/\(∀ x∈u.frz,aA st x)/\(∀ x∈u.kill,aA st x) /\
  ∃ z:Nat->List Nat,aW W u.kill=(BO u.val.length).flatMap z /\
   ∀ (j:Nat) (x:e.den),u.val[j]?=some x->∃ v c,(ps.map λx=>a.eval x.2)[j]?=some v/\v.cells=c.toArray/\Mx w (bm V W u.p u.frz) e none 0 x c (z j)
 |[],k,u,h=>by
  simp only[ew,BA]at h;subst h;exact⟨rfl,rfl,by simp,by simp,λ_=>[],rfl,λj x I=>by simp at I⟩
 |(i,y)::ps,k,u,h=>by
  simp only[ew]at h;cases H:BT i k&&decide ((au st y).1=bh e.isAgg) with
  |false=>simp[H]at h
  |true =>
   simp only[H,cond_true]at h;simp only[BC,decide_eq_true_eq]at H;have O:=BI H.1;subst O;split at h
   ·rename_i t1 u1 hg X;simp only[BA]at h;subst h;obtain⟨h1,h2,h3,h4,z,h5,h6⟩:=oh M ps (i+1) u1 X;obtain⟨cs,Z,Y⟩:=cX M y;rw[H.2]at Z;have hc:=gT Z Y.one';obtain⟨g1,g2,g3⟩:=dP (pos:=0) M Y hg;refine⟨by simp[h1],by simp[h2],λx J=>(BL.1 J).elim (g2 x) (h3 x),λx J=>(BL.1 J).elim (g3 x) (h4 x),λj=>match j with|0=>aW W t1.kill|j+1=>z j,?_,?_⟩
    ·rw[dL,h5,Ci,xN]
    ·intro j x I;cases j with
     |zero =>
      simp at I;subst I;exact⟨a.eval y,cs,by simp,hc,g1.mono dR.1⟩
     |succ j =>
      obtain⟨v,c,h7,h8,h9⟩:=h6 j x (by simpa using I);exact⟨v,c,by simpa using h7,h8,h9.mono dR.2⟩
   ·cases h
theorem lD (w:World)(G:Nat->Prop):∀ (b:Ty),Rd w G b b.zero (zeroCells b)
 |.int _=>rfl
 |.bool=>rfl
 |.str=>rfl
 |.unit=>rfl
 |.hdr=>⟨none,0,rfl⟩
 |.pair a b=>⟨_,_,rfl,lD w G a,lD w G b⟩
 |.list m E e=>Rd.nil w G m E e
theorem qB (w:World)(G:Nat->Prop):∀ (b:Ty) (pos:Nat),Mx w G b none pos b.zero (zeroCells b) []
 |.int _,_=>⟨rfl,rfl⟩
 |.bool,_=>⟨rfl,rfl⟩
 |.str,_=>⟨rfl,rfl⟩
 |.unit,_=>⟨rfl,rfl⟩
 |.hdr,_=>⟨⟨none,0,rfl⟩,rfl⟩
 |.pair a b,_=>⟨_,_,[],[],rfl,rfl,qB w G a _,qB w G b _⟩
 |.list m E e,_=>by
  cases m with
  |false=>exact cr.2 ⟨rfl,Rd.nil w G false E e⟩
  |true=>exact (bK (by simp)).2 ⟨_,rfl,(OwH.nil w G E e).2⟩
theorem mj {W:Wit}{k:Nat}(h:¬ W.nw k/\¬ V.prot k/\(∀ b,live st b->W.β b≠k)/\∀ (u i:Nat) (l:Leaf),(st u).ls[i]?=some l->an l->k∉W.bs u i):¬ cg V W st k:=by
 rintro (y|y|⟨b,I,e⟩|⟨u,i,l,z,H,J⟩)
 ·exact h.1 y
 ·exact h.2.1 y
 ·exact h.2.2.1 b I e
 ·exact h.2.2.2 u i l z H J
theorem ml:(9223372036854775807:Nat)<=maxLen:=by decide
theorem qC (hV:ay V)(hT:TOk P T)(b5:bO V o){t:TypeId}{n:Nat}{y:Array (Nat×Operand)}(a5:o.op=.buildSlice t n y)(h:act Γ T o st κ=some r):bW P V o st κ r:=by
 simp only[act,wrU,a5]at h;cases ht:T t with
 |slice E e b6 =>
  simp only[ht]at h;split at h
  ·rename_i u c2;cases hb:BT u.val.length n&&decide (n*e.cells<=16777216)&&aY u.kill&&dG u.frz u.kill with
   |false=>simp[hb]at h
   |true =>
    simp only[hb,cond_true]at h;simp only[BC,decide_eq_true_eq]at hb;obtain⟨⟨⟨b9,c4⟩,c3⟩,bn⟩:=hb;have ba:=BI b9;subst ba;split at h
    ·rename_i d hd;refine⟨_,h,λW a w hr next Q hn=>?_⟩;have h1:=hT t;rw[ht]at h1;obtain⟨hu,_,_,Y,_,ti,z,a2,O,_,hz,cc⟩:=h1;obtain⟨h2,h3,b1,a7,b4,c0,h5⟩:=oh hr y.toList 0 u c2;generalize cb:u.val=I at *;have a0:∀ v∈(y.toList.map λx=>a.eval x.2),v.cells.size=e.cells:=by
      intro v hv;obtain⟨j,hj,e1⟩:=List.getElem_of_mem hv;have bx:j<I.length:=by rw[h3];simpa using hj
      obtain⟨v',c,X,Z,h8⟩:=h5 j I[j] (BS bx);rw[BS hj]at X;simp only[BA]at X;rw[<- e1,X,Z];simpa using h8.len
     have a9:(y.toList.map λx=>a.eval x.2).length=I.length:=by rw[CY,h3]
     have a3:∀ (j:Nat) (x:e.den),I[j]?=some x->∃ c,Mx w (bm V W u.p u.frz) e none 0 x c (b4 j)/\∀ i u,c[i]?=some u ->
       ((y.toList.map λx=>a.eval x.2).flatMap λv=>v.cells.toList)[j*e.cells+i]?=some u:=by
      intro j x hj;obtain⟨v,c,X,Z,h8⟩:=h5 j x hj;refine⟨c,h8,λi u hi=>?_⟩;have a8:i<e.cells:=by rw[<- h8.len];exact (BD.1 hi).1
      rw[Great.flat_get Y _ a0];have e1:(j*e.cells+i) / e.cells=j:=by
       rw[Cm,Nat.mul_add_div Y,Nat.div_eq_of_lt a8,CC]
      have e2:(j*e.cells+i) % e.cells=i:=by
       rw[Cm,DQ,DI a8]
      rw[e1,e2,X];simpa[Z]using hi
     have a4:((y.toList.map λx=>a.eval x.2).flatMap λv=>v.cells.toList).length=I.length*e.cells:=by
      have:∀ (vs:List Value),(∀ v∈vs,v.cells.size=e.cells)->(vs.flatMap λv=>v.cells.toList).length=vs.length*e.cells:=by
       intro vs;induction vs with
       |nil=>intro _;simp
       |cons v vs ih =>
        intro hv;rw[CK,BR,ih (λu hu=>hv u (BP _ hu)),B6,hv v (BW ..),Ci,B8];omega
      rw[this _ a0,a9]
     have H:=Great.fill_whole Y (y.toList.map λx=>a.eval x.2) ((Array.range (I.length*e.cells)).map ((if I.length*e.cells=0 then (#[]:Array Value) else z.cells)[· % (if I.length*e.cells=0 then (#[]:Array Value) else z.cells).size]!)) a0 (by rw[a9];simp);rw[<- h2]at H;have a1:(y.map λ (i,x)=>(i,a.eval x)).toList=y.toList.map λx=>(x.1,a.eval x.2):=by rw[DJ]
     have b3:(execOp a.eval o).run P w=.ok (.value (.slice (some ⟨w.heap.size,0,none⟩) I.length I.length)) (w.alloc (.cells ((y.toList.map λx=>a.eval x.2).flatMap λv=>v.cells.toList).toArray E)):=by
      have M:¬ (I.length*e.cells>2 ^ 24):=by omega
      by_cases h0:I.length*e.cells=0
      ·rw[if_pos h0]at H;simp only[execOp,a5,Instr.buildSlice,C9,run_underlying hu,Cd,sizeOf,typeInfo,a2,O,a1];simp[M,h0,newRow,a2,O,a1]at H ⊢;simp[H]
      ·rw[if_neg h0]at H;have:=run_buildSlice (P:=P) w t E I.length (y.map λ (i,x)=>(i,a.eval x)) _ ti z hu a2 hz (by rw[O];exact M) (by rw[O];exact h0) (by rw[O,a1];exact H);simp[execOp,a5,this]
     refine dX b3 ?_;rw[hd];refine hn _ _ ?_;rw[cm,aO];obtain⟨X,_,_,b2⟩:=fE hV hr bn a7;have b0:=X.used_lt;have a6:I.length<=maxLen:=by
      have:=ml;have:I.length*1<=I.length*e.cells:=Ca _ Y;omega
     have bl:=World.ownsRow_lit (e:=E) (size:=e.cells) (base:=0) w ((y.toList.map λx=>a.eval x.2).flatMap λv=>v.cells.toList).toArray I.length (DM _) a6 (by simpa using a4);refine X.putOwn hV (w':=w.alloc (.cells ((y.toList.map λx=>a.eval x.2).flatMap λv=>v.cells.toList).toArray E)) (by simp) rfl rfl rfl (λk J=>Go.heap_alloc_old w _ (b0 k J)) d (b5 d hd).1 (b5 d hd).2 _ (BM _) (bs:=w.heap.size::aW W u.kill) ?_ (λk J hu=>?_)
     ·refine⟨CH.2 ⟨λhm=>?_,gO hr c3 a7⟩,_,b4,Row.of bl,by rw[c0];rfl,λj x hj=>?_⟩
      ·have:=(b2 _ hm).2.2.1;omega
      ·obtain⟨c,ad,bb⟩:=a3 j x hj;have c1:∀ k,bm V W u.p u.frz k->k<w.heap.size:=λk J=>by
        rcases ke b1 k J with J|⟨_,J⟩
        ·exact (X.nwlt k J).1
        ·exact CG (hV.ro k J).1 X.size
       exact⟨c,ad.carry (ke b1) (λk J=>Go.heap_alloc_old w _ (c1 k J)) (λk J=>Go.heap_alloc_old w _ (ad.lt k J)),λi u hi=>by simpa using bb i u hi⟩
     ·rcases CO.1 J with rfl|J
      ·have:=b0 _ hu;omega
      ·have Z:=b2 k J;exact mj ⟨Z.1,Z.2.1,Z.2.2.2.1,Z.2.2.2.2⟩ hu
    ·cases h
  ·cases h
 |_=>simp[ht]at h
theorem xO {w:World}{G:Nat->Prop}{E':TypeId}{y u e:TypeId}(O:P.underlying y=some (.slice e))(Y:P.underlying e=some (.int .u8))(X:P.underlying u=some .string){xs:List Int}{v:Value}
  (h:Rd w G (.list false E' (.int .u8)) xs [v]):(convert y u v).run P w=.ok (.string (gH xs)) w:=by
 obtain⟨A,z,hv,hc,J⟩:=h;simp only[CZ,and_true]at hv;subst hv;cases A with
 |none =>
  have hx:xs=[]:=by
   cases xs with
   |nil=>rfl
   |cons x xs=>obtain⟨g,o,M,_⟩:=J (by simp);cases M
  subst hx;show (convert y u (.slice none 0 z)).run P w=_;rw[run_convert_bytes_nil w y e O Y 0 z u X];rfl
 |some ad =>
  cases I:xs with
  |nil =>
   subst I;show (convert y u (.slice (some ad) 0 z)).run P w=_;rw[run_convert_bytes_string w y u e ad 0 z O Y X];simp[Conv.bytesToString,loadCells,loadCellsFrom];rfl
  |cons x0 a0 =>
   rw[<- I];obtain⟨g,o,M,_,hr⟩:=J (by rw[I];simp);simp only[BA]at M;subst M;have:=run_convert_bytes_arg (P:=P) w y e O Y g o xs.length z xs rfl (λi hi=>by
    obtain⟨c,H,Z⟩:=hr i xs[i] (BS hi);have H:c=[.int .u8 xs[i]]:=H;subst H;have:=Z 0 _ rfl;simp only[Ty.cells,Cw,CC]at this;rw[this];simp[List.getD,BS hi]) u X
   rw[this];rfl
theorem uq (hV:ay V)(hT:TOk P T)(J:bO V o){s t:TypeId}{x:Operand}(M:o.op=.convert s t x)(h:act Γ T o st κ=some r):bW P V o st κ r:=by
 simp only[act,wrU,M]at h;have z:=hT t;have y:=hT s;split at h
 ·rename_i k' k a5 n X Y hx;split at h
  ·rename_i d O;refine⟨_,h,λW a w I=>aN hV I O J (v:=.int k (k.wrap n)) ?_ rfl id rfl⟩;rw[Y]at z;rw[X]at y;simp[execOp,M,bF I hx,Go.convert,run_underlying z.1,run_underlying y.1,Conv.intToInt]
  ·cases h
 ·rename_i E b X Y;split at h
  ·rename_i p xs ha;split at h
   ·rename_i d O;refine⟨_,h,λW a w I=>?_⟩;have a3:one st x≠.dead:=by intro e0;rw[e0]at ha;simp[aD,dk]at ha
    obtain⟨h1,h2,_⟩:=bt I x a3;have a2:=kx (m:=false) (E:=E) I h1 h2 ha;rw[Y]at z;rw[X]at y;refine aN hV I O J (v:=.string (gH xs)) ?_ rfl id rfl;have:=xO (P:=P) y.1 (y.2.2.2.2.1.2 rfl) z.1 a2;simp[execOp,M,this]
   ·cases h
  ·cases h
 ·rename_i E b H X Y hx;cases hE:BT E 5 with
  |false=>simp[hE]at h
  |true =>
  simp only[hE,cond_true]at h;have a1:E=5:=BI hE;split at h
  ·rename_i d O;refine⟨_,h,λW a w I next Q hn=>?_⟩;rw[Y]at z;rw[X]at y;have hc:(eq H).length=H.size:=by simp only[eq,CY,B6];rfl
   have Z:=Lib.run_convert_string_bytes (P:=P) w s t E H y.1 z.1 (z.2.2.2.2.1.2 rfl);refine dX (v:=.slice (some ⟨w.heap.size,0,none⟩) H.size (grownCap w H.size 0 E)) (w':=Lib.bytesWorld w E H) (by simp[execOp,M,iw I hx,Z]) ?_;rw[O];refine hn _ _ ?_;have a0:=grownCap_ge w H.size 0 E;have a4:(Lib.bytesCells w E H).size=grownCap w H.size 0 E:=by
    simp only[Lib.bytesCells,DA,Array.size_map,Array.size_replicate];show H.size+_=_;omega
   refine I.putOwn hV (by rw[Lib.bytesWorld_size];omega) (by simp[Lib.bytesWorld,DB,DN,DV,-Cx,-C3]) (by simp[Lib.bytesWorld,DB,DN,DV,-Cx,-C3]) (by simp[Lib.bytesWorld,DB,DN,DV,-Cx,-C3])
    (λk hk=>Lib.bytesWorld_at_old w E H k (I.used_lt k hk)) d (J d O).1 (J d O).2 _ (BM _) (bs:=[w.heap.size])
    ⟨by simp,(eq H).map (Value.int .u8),λ_=>[],⟨by rw[CY];exact (Cw _).symm,.inr ⟨w.heap.size,_,_,_,by rw[hc],Lib.bytesWorld_at_new w E H,by rw[hc];exact a0,.inr ⟨a1,BU _⟩,by rw[a4];exact Cj (Cw _),?_⟩⟩,by simp[By],λj x hj=>?_⟩ (λk hk hu=>?_)
   ·simp only[Lib.bytesCells,C0,DJ,Ty.cells,Cw,eq,DC];exact List.take_left' (by simp)
   ·refine⟨[.int .u8 x],⟨rfl,rfl⟩,λi u hi=>?_⟩
    match i,hi with
    |0,hi =>
     simp only[CQ,BA]at hi;subst hi;simp[Ty.cells,hj]
   ·simp at hk;have:=I.used_lt k hu;omega
  ·cases h
 ·cases h
theorem rV (hV:ay V)(hT:TOk P T)(Z:bO V o){t:TypeId}{n c:Operand}(a0:o.op=.makeSlice t n c)(h:act Γ T o st κ=some r):bW P V o st κ r:=by
 simp only[act,wrU,a0]at h;split at h
 ·rename_i E e H k1 m k2 m' ht a7 a5;cases hb:decide (0<=m)&&decide (m=m')&&decide (m*H<=(am:Int)) with
  |false=>simp[hb]at h
  |true =>
   simp only[hb,cond_true]at h;simp only[BC,decide_eq_true_eq]at hb;obtain⟨⟨h0,rfl⟩,b1⟩:=hb;split at h
   ·rename_i d hd;refine⟨_,h,λW a w J next Q hn=>?_⟩;have h1:=hT t;rw[ht]at h1;obtain⟨hu,_,_,b9,b2,ti,z,a8,a2,a6,hz,M⟩:=h1;have hm:(m.toNat:Int)=m:=by omega
    have X:m.toNat*H<=am:=by
     have:((m.toNat*H:Nat):Int)<=(am:Int):=by rw[Int.natCast_mul,hm];exact b1
     omega
    have b6:m.toNat*1<=m.toNat*H:=Ca _ b2.1;simp only[am]at X;have b4:=ml;obtain⟨w',I,a1,y⟩:=run_make_full (P:=P) w 0 t E ti z e.cells hu a8 hz a2 k1 k2 m.toNat (by rw[a6,Cm];omega) (by omega) (DM _);rw[hm]at I;refine dX (v:=.slice (some ⟨w.heap.size,0,none⟩) m.toNat m.toNat) (w':=w') (by simp[execOp,a0,bF J a7,bF J a5,I]) ?_;rw[hd];refine hn _ _ ?_;have ad:z.cells.size=e.cells:=by
     have h2:=(lD w (λ_=>False) e).len;rw[<- B6,M,h2]
    refine J.putOwn hV y.size y.os y.tape y.output (λk hk=>y.block k (J.used_lt k hk) (by simp)) d (Z d hd).1 (Z d hd).2 _ (BM _) (bs:=[w.heap.size])
     ⟨by simp,_,λ_=>[],by rw[Cs];exact Row.of a1,by simp[By],λj x O=>?_⟩ (λk hk hu=>?_)
    ·rw[CR]at O;split at O
     ·rename_i b0;simp at O;subst O;refine⟨_,qB w' _ e 0,λi u hi=>?_⟩;have a3:i<e.cells:=by rw[<- (lD w' (λ_=>False) e).len];exact (BD.1 hi).1
      have Y:(j+1)*e.cells<=m.toNat*e.cells:=BN _ b0;rw[B8]at Y;have b3:j*e.cells+i<m.toNat*e.cells:=by omega
      have e2:(j*e.cells+i) % e.cells=i:=by rw[Cm,DQ,DI a3]
      have a4:z.cells[i]?=some u:=by rw[<- Ct,M];exact hi
      obtain⟨b5,a9⟩:=Array.getElem?_eq_some_iff.1 a4;simp only[madeCells,Ct,Array.getElem?_map,Array.getElem?_range,b3,if_true,DR,ad,e2];rw[getElem!_pos z.cells i (by omega),a9]
     ·cases O
    ·simp at hk;have:=J.used_lt k hu;omega
   ·cases h
 ·cases h
theorem ur (n u:Nat)(y:n<=u)(k z:IntKind)(w:World):(DD true n u none (some (.int k n)) (some (.int z n))).run P w=.ok (0,n,n) w:=by
 simp[DD,Instr.sliceBound,asIntOf,y]
theorem vW (hV:ay V)(hT:TOk P T)(a6:bO V o){t:TypeId}{x m:Operand}{lo hi:Option Operand}(a7:o.op=.slice t x lo hi (some m))(h:act Γ T o st κ=some r):bW P V o st κ r:=by
 simp only[act,wrU,a7]at h;cases hd:o.dst with
 |none=>simp[hd]at h
 |some d =>
  simp only[hd]at h;split at h
  ·rename_i E' e' a9 X j v ht hx;split at h
   ·rename_i p E e J hdr;split at h
    ·rename_i hh k bn c3;cases hb:hi.isSome&&decide (hh=(J.length:Int))&&decide (k=(J.length:Int))&&BT e'.cells e.cells with
     |false=>rw[hb]at h;cases h
     |true =>
      rw[hb]at h;simp only[cond_true]at h;simp only[BC,decide_eq_true_eq]at hb;obtain⟨⟨⟨a1,rfl⟩,rfl⟩,Y⟩:=hb;have Y:=BI Y;refine⟨_,h,λW a w hr next Q hn=>?_⟩;have h1:=hT t;rw[ht]at h1;obtain⟨hu,_,_,_,_,ti,z,c0,a8,_⟩:=h1;obtain⟨a2,_,_,_,_⟩:=bt hr x (by rw[hx];simp);rw[hx]at a2;obtain⟨h8,Z,b4,cb⟩:=kc hr hdr a2;obtain⟨y,hy,k1,bx⟩:∃ y,hi=some y/\∃ k1,a.eval y=.int k1 J.length:=by
       rcases mI hr bn with ⟨I,_⟩|⟨y,k1,I,u⟩
       ·rw[I]at a1;cases a1
       ·exact⟨y,I,k1,u⟩
      obtain⟨k2,c2⟩:∃ k2,a.eval m=.int k2 J.length:=by
       rcases mI hr c3 with ⟨I,_⟩|⟨y,k2,I,u⟩
       ·cases I
       ·cases I;exact⟨k2,u⟩
      obtain⟨A,b0,hv,a3⟩:=Z.slice;have hE:=dx (P:=P) (t:=E') (n:=e.cells) (by simp[bR,c0,a8,Y]) w;have a4:(if J.length=0 then A else A.map λx=>x.add (0*e.cells))=A:=by
       cases A with
       |none=>simp
       |some ad =>
        have e0:ad.add 0=ad:=by simp[Addr.add]
        show (if J.length=0 then some ad else some (ad.add (0*e.cells)))=some ad;rw[DE,e0];split <;> rfl
      refine dX (v:=.slice A J.length J.length) (w':=w) ?_ ?_
      ·simp only[execOp,a7,hv,hy,DR,Cq,bx,c2,Instr.sliceAt,Instr.slice,C9,run_underlying hu,Cd,ur J.length b0 a3 k1 k2 w,hE,Sem.run_pure,Cn,a4]
      ·rw[hd];refine hn _ _ ?_;rw[cm,aO];have b5:∀ z∈[(X,j)],aA st z:=λz hz=>by simp at hz;subst hz;exact⟨_,b4,trivial⟩
       obtain⟨h6,_,_,H⟩:=fE (frz:=[]) (kill:=[(X,j)]) hV hr rfl b5;have e1:aM (ac (aE st []) st) [(X,j)]++aE st []=aM st [(X,j)]:=Bw _;rw[e1]at h6 H;have b6:aW W [(X,j)]=W.bs X j:=by simp[aW]
       rw[b6]at H;obtain⟨bl,a0,c1,M,a5,b1⟩:=Z;refine h6.putOwn hV (w':=w) (BU _) rfl rfl rfl (λ_ _=>rfl) d (a6 d hd).1 (a6 d hd).2 _ (BM _) (bs:=W.bs X j) ?_ (λk hk=>mj ⟨(H k hk).1,(H k hk).2.1,(H k hk).2.2.2.1,(H k hk).2.2.2.2⟩);have b2:∀ k,gd V W p k->gd V (W.frz st []) p k:=bU (W':=W.frz st []) (λh=>h) (λ_ h=>Or.inl h);refine OwH.carry (G:=gd V W p) ⟨bl,a0,c1,⟨M.1,?_⟩,?_,b1⟩ b2 (λ_ _=>rfl) (λ_ _=>rfl)
       ·rcases M.2 with ⟨O,I⟩|⟨g,c4,b3,mk,O,I,u,bb,b9,ba⟩
        ·rw[hv]at O;simp only[B5]at O;exact .inl ⟨by rw[O.1,I],I⟩
        ·rw[hv]at O;simp only[B5,true_and]at O;exact .inr ⟨g,J.length,b3,mk,by rw[O.1],I,BU _,bb.imp (λh=>⟨h.1,CE u h.2⟩) id,CE (BN _ u) b9,ba⟩
       ·rw[a5,hv];cases A <;> rfl
    ·cases h
   ·cases h
  ·cases h
theorem xP (I:ay V)(z:TOk P T)(u:bO V o){t:TypeId}{x:Operand}{M J H:Option Operand}(y:o.op=.slice t x M J H)(h:act Γ T o st κ=some r):bW P V o st κ r:=by
 cases H with
 |none=>exact vo I z u y h
 |some m=>exact vW I z u y h
theorem Am (hV:ay V)(J:bO V o){c:Call}(H:o.op=.call c)(M:c.callee=.builtin .min)(h:act Γ T o st κ=some r):bW P V o st κ r:=by
 simp only[act,wrU,H,M]at h;split at h
 ·cases h
 ·rename_i d O;simp only[O]at h;split at h
  ·rename_i x y Y;split at h
   ·rename_i X m k2 n Z hn;have u:c.args=#[x,y]:=by rw[<- Bz (xs:=c.args),Y]
    refine⟨_,h,λW a w I=>aN hV I O J (v:=.int X (bif decide (n<m) then n else m)) ?_ rfl id rfl⟩;cases z:decide (n<m) <;> simp[execOp,H,M,resolve,invoke,builtin,u,bF I Z,bF I hn,Builtin.min_,Builtin.min2] <;> simp at z <;> omega
   ·cases h
  ·cases h
theorem An (hV:ay V)(J:bO V o){c:Call}(H:o.op=.call c)(M:c.callee=.builtin .max)(h:act Γ T o st κ=some r):bW P V o st κ r:=by
 simp only[act,wrU,H,M]at h;split at h
 ·cases h
 ·rename_i d O;simp only[O]at h;split at h
  ·rename_i x y Y;split at h
   ·rename_i X m k2 n Z hn;have u:c.args=#[x,y]:=by rw[<- Bz (xs:=c.args),Y]
    refine⟨_,h,λW a w I=>aN hV I O J (v:=.int X (bif decide (m<n) then n else m)) ?_ rfl id rfl⟩;cases z:decide (m<n) <;> simp[execOp,H,M,resolve,invoke,builtin,u,bF I Z,bF I hn,Builtin.max_,Builtin.max2] <;> simp at z <;> omega
   ·cases h
  ·cases h
end
section
variable {P:Program} {V:Env} {W:Wit} {st st':St} {w w':World} {a:Act}
theorem ap.putGhost (hV:ay V)(h:ap P V W st a w)(d:Nat)(hd:GH<=d)(a4:d<B0)(n:Nat)(sh:aH)(ls:List Leaf)
  (R:List Value) (J:Nat->List Nat) (hn:(st d).ver<n) (hl:ls.length=R.length) (h1:∀ u∈R,u.oneCell'=true)
  (a1:∀ (j:Nat) (l:Leaf) (u:Value),ls[j]?=some l->R[j]?=some u->aJ P V W st w (J j) l u)
  (Z:∀ (j:Nat) (l:Leaf),ls[j]?=some l->an l->∀ k∈J j,¬ W.nw k/\¬ V.prot k/\(∀ b,live st b->W.β b≠k) /\
   ∀ (r1 j1:Nat) (l1:Leaf),r1≠d->(st r1).ls[j1]?=some l1->an l1->k∉W.bs r1 j1)
  (a2:∀ (j j':Nat) (l l':Leaf),ls[j]?=some l->an l->ls[j']?=some l'->an l'->∀ k,k∈J j->k∈J j'->j=j') :
  ap P V { W with cs:=λr=>if r=d then R else W.cs r,bs:=λr j=>if r=d then J j else W.bs r j } (ac [(d,⟨n,sh,ls⟩)] st) a w /\
   cH V W { W with cs:=λr=>if r=d then R else W.cs r,bs:=λr j=>if r=d then J j else W.bs r j } st (ac [(d,⟨n,sh,ls⟩)] st) w w:=by
 have O:∀ b,live (ac [(d,⟨n,sh,ls⟩)] st) b<->live st b:=by
  intro b;by_cases X:B0<=b
  ·rw[live,live,aI (by omega)]
  ·simp[live,X]
 have M:cH V W { W with cs:=λr=>if r=d then R else W.cs r,bs:=λr j=>if r=d then J j else W.bs r j } st (ac [(d,⟨n,sh,ls⟩)] st) w w:=by
  refine⟨λq=>?_,λb X=>⟨(O b).2 X,rfl⟩,λ_ h=>h,λ_ _=>rfl,λ_ q j' l' I h4 h5=>?_⟩
  ·rcases aj d q ⟨n,sh,ls⟩ st with ⟨rfl,e⟩|⟨y,e⟩
   ·rw[e];exact⟨Nat.le_of_lt hn,λe=>absurd e (by show n≠_;omega)⟩
   ·rw[e];exact⟨BU _,λ_=>by simp[y]⟩
  ·rcases aj d q ⟨n,sh,ls⟩ st with ⟨rfl,e⟩|⟨y,e⟩
   ·rw[e]at h5;exact absurd h5 (by show n≠_;omega)
   ·rw[e]at I;exact⟨⟨l',I,h4⟩,by simp[y],λ_ _=>rfl⟩
 refine⟨?_,M⟩
 exact {
  nt:=h.nt,df:=h.df
  slots:=λt ht=>by
   have:t≠d:=by omega
   rw[aI this];simpa[this]using h.slots t ht
  boxes:=λb X=>by
   have:b≠d:=by omega
   rw[aI this];simpa[this]using h.boxes b X
  len:=λq=>by
   rcases aj d q ⟨n,sh,ls⟩ st with ⟨rfl,e⟩|⟨y,e⟩
   ·rw[e];simpa using hl
   ·rw[e];simpa[y]using h.len q
  one:=λq u hu=>by
   by_cases hq:q=d
   ·simp only[hq,if_true]at hu;exact h1 u hu
   ·simp only[hq,if_false]at hu;exact h.one q u hu
  leaf:=λq j l u z I=>by
   rcases aj d q ⟨n,sh,ls⟩ st with ⟨rfl,e⟩|⟨y,e⟩
   ·rw[e]at z;simp only[if_true]at I;exact (a1 j l u z I).carry hV.ro M (λ_=>⟨by simp,λ_ _=>rfl⟩)
   ·rw[e]at z;simp only[y,if_false]at I;exact (h.leaf q j l u z I).carry hV.ro M (λ_=>⟨by simp[y],λ_ _=>rfl⟩)
  ownb:=λq j l z I k Y=>by
   rcases aj d q ⟨n,sh,ls⟩ st with ⟨rfl,e⟩|⟨y,e⟩
   ·rw[e]at z;simp only[if_true]at Y;have:=Z j l z I k Y;exact⟨this.1,this.2.1,λb X=>this.2.2.1 b ((O b).1 X)⟩
   ·rw[e]at z;simp only[y,if_false]at Y;have:=h.ownb q j l z I k Y;exact⟨this.1,this.2.1,λb X=>this.2.2 b ((O b).1 X)⟩
  sep:=λq j l q' j' l' z I h4 h5 k Y H=>by
   rcases aj d q ⟨n,sh,ls⟩ st with ⟨e0,e⟩|⟨y,e⟩ <;> rcases aj d q' ⟨n,sh,ls⟩ st with ⟨e1,e'⟩|⟨a0,e'⟩
   ·rw[e]at z;rw[e']at h4;simp only[e0,if_true]at Y;simp only[e1,if_true]at H;exact⟨e0.trans e1.symm,a2 j j' l l' z I h4 h5 k Y H⟩
   ·rw[e]at z;rw[e']at h4;simp only[e0,if_true]at Y;simp only[a0,if_false]at H;exact absurd H ((Z j l z I k Y).2.2.2 q' j' l' a0 h4 h5)
   ·rw[e]at z;rw[e']at h4;simp only[y,if_false]at Y;simp only[e1,if_true]at H;exact absurd Y ((Z j' l' h4 h5 k H).2.2.2 q j l y z I)
   ·rw[e]at z;rw[e']at h4;simp only[y,if_false]at Y;simp only[a0,if_false]at H;exact h.sep q j l q' j' l' z I h4 h5 k Y H
  box:=λb X=>h.box b ((O b).1 X)
  inj:=λb b' X a3=>h.inj b b' ((O b).1 X) ((O b').1 a3)
  nwlt:=h.nwlt
  os:=h.os,tape:=h.tape,output:=h.output,size:=h.size,keep:=h.keep
  fixb:=λx hx=>⟨(O _).2 (h.fixb x hx).1,(h.fixb x hx).2⟩
  fixt:=h.fixt }
theorem gw {off:Nat}:∀ {a:Ty} {pos:Nat} {x:a.den} {u:(E:TypeId)×(e:Ty)×List e.den},bd off a pos x=some u->pos<=off/\off<pos+a.cells
 |.pair a b,pos,x,u,h=>by
  simp only[bd]at h;split at h
  ·rename_i v y;have:=gw y;simp only[Ty.cells];omega
  ·have:=gw h;simp only[Ty.cells];omega
 |.list m E e,pos,z,u,h=>by
  simp only[bd]at h;cases r:m&&BT pos off with
  |false=>simp[r]at h
  |true =>
   simp only[BC]at r;have:=BI r.2;simp only[Ty.cells];omega
 |.int _,_,_,_,h=>by simp[bd]at h
 |.bool,_,_,_,h=>by simp[bd]at h
 |.str,_,_,_,h=>by simp[bd]at h
 |.unit,_,_,_,h=>by simp[bd]at h
 |.hdr,_,_,_,h=>by simp[bd]at h
theorem mY {off:Nat}:∀ {a:Ty} {pos:Nat} {x:a.den} {E:TypeId} {e:Ty} {u:List e.den},bd off a pos x=some ⟨E,e,u⟩->e.shy=true->a.shy=true
 |.pair a b,pos,x,E,e,u,h,r=>by
  simp only[bd]at h;simp only[Ty.shy,DS];split at h
  ·rename_i v z;simp only[BA]at h;subst h;exact .inl (mY z r)
  ·exact .inr (mY h r)
 |.list m H I,pos,J,E,e,u,h,r=>by
  simp only[bd]at h;cases y:m&&BT pos off with
  |false=>simp[y]at h
  |true =>
   rw[y]at h;simp only[cond_true,BA,Sigma.mk.injEq]at h;obtain⟨rfl,h⟩:=h;rw[heq_eq_eq,Sigma.mk.injEq]at h;obtain⟨rfl,_⟩:=h;simp[Ty.shy,r]
 |.int _,_,_,_,_,_,h,_=>by simp[bd]at h
 |.bool,_,_,_,_,_,h,_=>by simp[bd]at h
 |.str,_,_,_,_,_,h,_=>by simp[bd]at h
 |.unit,_,_,_,_,_,h,_=>by simp[bd]at h
 |.hdr,_,_,_,_,_,h,_=>by simp[bd]at h
theorem Mx.hol_out {G:Nat->Prop}{o:Nat}:∀ {a:Ty} {pos:Nat} {x:a.den} {cs:List Value} {bs:List Nat},(o<pos\/pos+a.cells<=o)->(Mx w G a none pos x cs bs<->Mx w G a (some o) pos x cs bs)
 |.int _,_,_,_,_,_=>Cl
 |.bool,_,_,_,_,_=>Cl
 |.str,_,_,_,_,_=>Cl
 |.unit,_,_,_,_,_=>Cl
 |.hdr,_,_,_,_,_=>Cl
 |.pair a b,pos,x,cs,bs,r=>by
  simp only[Ty.cells]at r;constructor
  ·rintro⟨c1,c2,b1,b2,e1,e2,h1,h2⟩;exact⟨c1,c2,b1,b2,e1,e2,(Mx.hol_out (by omega)).1 h1,(Mx.hol_out (by omega)).1 h2⟩
  ·rintro⟨c1,c2,b1,b2,e1,e2,h1,h2⟩;exact⟨c1,c2,b1,b2,e1,e2,(Mx.hol_out (by omega)).2 h1,(Mx.hol_out (by omega)).2 h2⟩
 |.list m E e,pos,u,cs,bs,r=>by
  simp only[Ty.cells]at r;cases m with
  |false=>rw[cr,cr]
  |true=>rw[bK (by simp),bK (by simp only[ne_eq,BA];omega)]
theorem Mx.out {G:Nat->Prop}{off:Nat}{E:TypeId}{e:Ty}{ys:List e.den}:∀ {a:Ty} {pos:Nat} {x:a.den} {cs:List Value} {bs:List Nat},Mx w G a none pos x cs bs->bd off a pos x=some ⟨E,e,ys⟩ ->
  ∃ v z y,OwB w G none E e ys v z/\cs[off-pos]?=some v/\Mx w G a (some off) pos x cs y/\∀ k,bs.count k=y.count k+z.count k
 |.pair a b,pos,x,cs,bs,⟨c1,c2,b1,b2,J,e2,R,h2⟩,h=>by
  have hl:=R.len;simp only[bd]at h;split at h
  ·rename_i u Y;simp only[BA]at h;subst h;have X:=gw Y;obtain⟨v,z,y,Z,g2,M,O⟩:=Mx.out R Y;refine⟨v,z,y++b2,Z,?_,⟨c1,c2,y,b2,J,rfl,M,(Mx.hol_out (by omega)).1 h2⟩,λk=>?_⟩
   ·rw[J,BH (by omega)];exact g2
   ·rw[e2,BF,BF,O k];omega
  ·rename_i Y;have X:=gw h;obtain⟨v,z,y,Z,g2,M,O⟩:=Mx.out h2 h;refine⟨v,z,b1++y,Z,?_,⟨c1,c2,b1,y,J,rfl,(Mx.hol_out (by omega)).1 R,M⟩,λk=>?_⟩
   ·rw[J,BG (by omega),hl,show off-pos-a.cells=off-(pos+a.cells) by omega];exact g2
   ·rw[e2,BF,BF,O k];omega
 |.list m E' e',pos,xs,cs,bs,H,h=>by
  simp only[bd]at h;cases r:m&&BT pos off with
  |false=>simp[r]at h
  |true =>
   rw[r]at h;simp only[cond_true,BA,Sigma.mk.injEq]at h;obtain⟨rfl,h⟩:=h;simp only[BC]at r;obtain⟨rfl,r⟩:=r;have r:=BI r;subst r;rw[heq_eq_eq,Sigma.mk.injEq]at h;obtain⟨rfl,h⟩:=h;rw[heq_eq_eq]at h;subst h;have I:=H.one;rw[bK (by simp)]at H;obtain⟨v,rfl,hO⟩:=H;exact⟨v,bs,[],hO,by simp,i8.2 ⟨v,rfl,I v (by simp),rfl⟩,λk=>by simp⟩
 |.int _,_,_,_,_,_,h=>by simp[bd]at h
 |.bool,_,_,_,_,_,h=>by simp[bd]at h
 |.str,_,_,_,_,_,h=>by simp[bd]at h
 |.unit,_,_,_,_,_,h=>by simp[bd]at h
 |.hdr,_,_,_,_,_,h=>by simp[bd]at h
theorem Mx.back {G:Nat->Prop}{off:Nat}{E:TypeId}{e:Ty}{M:List e.den}{v:Value}{Y:List Nat}(hO:OwB w G none E e M v Y):∀ {a:Ty} {pos:Nat} {x z:a.den} {cs:List Value} {I:List Nat},Mx w G a (some off) pos x cs I->bN off E e M a pos x=some z ->
  cs[off-pos]?=some v->∃ R,Mx w G a none pos z cs R/\∀ k,R.count k=I.count k+Y.count k
 |.pair a b,pos,x,z,cs,R,⟨c1,c2,b1,b2,X,e2,O,h2⟩,h,J=>by
  have hl:=O.len;simp only[bN]at h;split at h
  ·rename_i u y;simp only[BA]at h;subst h;have Z:=set_in y;obtain⟨I,g1,g2⟩:=Mx.back hO O y (by rw[X,BH (by omega)]at J;exact J);refine⟨I++b2,⟨c1,c2,I,b2,X,rfl,g1,(Mx.hol_out (by omega)).2 h2⟩,λk=>?_⟩;rw[e2,BF,BF,g2 k];omega
  ·rename_i y;simp only[BB]at h;obtain⟨u,y,rfl⟩:=h;have Z:=set_in y;obtain⟨I,g1,g2⟩:=Mx.back hO h2 y (by
    rw[X,BG (by omega),hl]at J;rw[show off-(pos+a.cells)=off-pos-a.cells by omega];exact J)
   refine⟨b1++I,⟨c1,c2,b1,I,X,rfl,(Mx.hol_out (by omega)).2 O,g1⟩,λk=>?_⟩;rw[e2,BF,BF,g2 k];omega
 |.list m E' e',pos,xs,z,cs,R,H,h,J=>by
  simp only[bN]at h;cases r:m&&BT pos off with
  |false=>simp[r]at h
  |true =>
   rw[r]at h;simp only[cond_true]at h;obtain⟨rfl,rfl,rfl⟩:=jD h;simp only[BC]at r;obtain⟨rfl,r⟩:=r;have r:=BI r;subst r;rw[i8]at H;obtain⟨v',rfl,O,rfl⟩:=H;simp only[Nat.sub_self,CQ,BA]at J;subst J;exact⟨Y,(bK (by simp)).2 ⟨v',rfl,hO⟩,λk=>by simp⟩
 |.int _,_,_,_,_,_,_,h,_=>by simp[bN]at h
 |.bool,_,_,_,_,_,_,h,_=>by simp[bN]at h
 |.str,_,_,_,_,_,_,h,_=>by simp[bN]at h
 |.unit,_,_,_,_,_,_,h,_=>by simp[bN]at h
 |.hdr,_,_,_,_,_,_,h,_=>by simp[bN]at h
where
 set_in {off:Nat} {E:TypeId} {e:Ty} {M:List e.den}:∀ {a:Ty} {pos:Nat} {x z:a.den},bN off E e M a pos x=some z->pos<=off/\off<pos+a.cells
  |.pair a b,pos,x,z,h=>by
   simp only[bN]at h;split at h
   ·rename_i u y;have:=set_in y;simp only[Ty.cells];omega
   ·simp only[BB]at h;obtain⟨u,y,_⟩:=h;have:=set_in y;simp only[Ty.cells];omega
  |.list m E' e',pos,xs,z,h=>by
   simp only[bN]at h;cases r:m&&BT pos off with
   |false=>simp[r]at h
   |true =>
    simp only[BC]at r;have:=BI r.2;simp only[Ty.cells];omega
  |.int _,_,_,_,h=>by simp[bN]at h
  |.bool,_,_,_,h=>by simp[bN]at h
  |.str,_,_,_,h=>by simp[bN]at h
  |.unit,_,_,_,h=>by simp[bN]at h
  |.hdr,_,_,_,h=>by simp[bN]at h
end
section
variable {P:Program} {V:Env} {W W' W2:Wit} {st st' st2:St} {w w' w2:World} {a:Act}
theorem cH.trans (h:cH V W W' st st' w w')(u:cH V W' W2 st' st2 w' w2):cH V W W2 st st2 w w2:=by
 refine⟨λr=>⟨CE (h.ver r).1 (u.ver r).1,λe=>?_⟩,λb Y=>?_,λk y=>u.nw k (h.nw k y),λk y=>?_,λhe r j l z H I=>?_⟩
 ·have z:=(h.ver r).1;have H:=(u.ver r).1;rw[(u.ver r).2 (by omega),(h.ver r).2 (by omega)]
 ·obtain⟨z,H⟩:=h.box b Y;obtain⟨I,R⟩:=u.box b z;exact⟨I,R.trans H⟩
 ·rw[u.heap k (y.imp (h.nw k) id),h.heap k y]
 ·have e1:=(h.ver EPO).1;have e2:=(u.ver EPO).1;have e3:=(h.ver r).1;have e4:=(u.ver r).1;obtain⟨⟨M,g1,g2⟩,O,X⟩:=u.epo (by omega) r j l z H (by omega);obtain⟨Z,J,g4⟩:=h.epo (by omega) r j M g1 g2 (by omega);exact⟨Z,O.trans J,λk y=>(X k (by rw[J];exact y)).trans (g4 k y)⟩
theorem qD {n i:Nat}(z:i<n)(r:Nat->List Nat)(b y:List Nat)(H:∀ k,(r i).count k=b.count k+y.count k)(u:List Nat)(k:Nat) :
  (u++(BO n).flatMap r).count k=(u++(BO n).flatMap λj=>if j=i then b else r j).count k+y.count k:=by
 have:=kn z r b k;have:=H k;rw[BF,BF];omega
theorem OwH.out {G:Nat->Prop}{E E1:TypeId}{e e1:Ty}{xs:List e.den}{v:Value}{bs:List Nat}{i off:Nat}{y:e.den}{ys:List e1.den}(H:Ow w G E e xs v bs)(hy:xs[i]?=some y)(hg:bd off e 0 y=some ⟨E1,e1,ys⟩) :
  ∃ u O Y,OwH w G (some (i,off)) E e xs v Y/\Ow w G E1 e1 ys u O/\(∀ g R,v=.slice (some ⟨g,0,none⟩) xs.length R->w.cell? ⟨g,i*e.cells+off,none⟩=some u)/\∀ k,bs.count k=Y.count k+O.count k:=by
 obtain⟨a0,X,J,h1,h2,h3⟩:=H;have M:i<xs.length:=(BD.1 hy).1;obtain⟨c,hm,hc⟩:=h3 i y hy;have hm:Mx w G e none 0 y c (J i):=hm;obtain⟨u,O,b',g1,g2,g3,g4⟩:=hm.out hg;have r:=qD M J b' O g4 v.ownBlock.toList;rw[<- h2]at r;have z:=bu.1 a0;refine⟨u,O,v.ownBlock.toList++(BO xs.length).flatMap λj=>if j=i then b' else J j,⟨bu.2 λk=>by have:=z k;have:=r k;omega,X,_,h1,rfl,λj x Z=>?_⟩,
  ⟨bu.2 λk=>by have:=z k;have:=r k;omega,g1⟩,λg R hv=>?_,r⟩
 ·by_cases I:j=i
  ·subst I;rw[hy]at Z;simp only[BA]at Z;subst Z;refine⟨c,?_,hc⟩;simp only[cS,Nat.beq_refl,cond_true,if_true];exact g3
  ·obtain⟨c',h4,h5⟩:=h3 j x Z;refine⟨c',?_,h5⟩;have:BT i j=false:=by
    cases hb:BT i j with
    |false=>rfl
    |true=>exact absurd (BI hb).symm I
   simp only[cS,this,cond_false,if_neg I];exact h4
 ·subst hv;have a2:=gw hg;have a1:i*e.cells+off<xs.length*e.cells:=by
   have:=BN e.cells (show i+1<=xs.length from M);rw[Ce,Nat.one_mul]at this;omega
  rw[h1.cellAt _ a1];exact hc off u (by simpa using g2)
theorem OwH.back {G:Nat->Prop}{E E1:TypeId}{e e1:Ty}{xs:List e.den}{v u:Value}{bs bn:List Nat}{i off:Nat}{y z:e.den}{ys:List e1.den}(H:OwH w G (some (i,off)) E e xs v bs)(hn:Ow w G E1 e1 ys u bn)
  (hd:∀ k∈bn,k∉bs) (hy:xs[i]?=some y) (hs:bN off E1 e1 ys e 0 y=some z) (M:∀ g J,v=.slice (some ⟨g,0,none⟩) xs.length J->w.cell? ⟨g,i*e.cells+off,none⟩=some u) :
  ∃ a2,Ow w G E e (xs.set i z) v a2/\∀ k,a2.count k=bs.count k+bn.count k:=by
 obtain⟨a3,a0,Y,h1,h2,h3⟩:=H;have X:i<xs.length:=(BD.1 hy).1;obtain⟨c,hm,hc⟩:=h3 i y hy;have a1:cS (some (i,off)) i=some off:=by simp[cS]
 rw[a1]at hm;have a6:=Mx.back.set_in hs;have a5:=hm.len;have I:c[off-0]?=some u:=by
  rcases h1.2 with ⟨rfl,h0⟩|⟨g,J,a7,_,rfl,_⟩
  ·omega
  ·have O:=M g J rfl;have a4:i*e.cells+off<xs.length*e.cells:=by
    have:=BN e.cells (show i+1<=xs.length from X);rw[Ce,Nat.one_mul]at this;omega
   rw[h1.cellAt _ a4]at O;have R:off<c.length:=by omega
   have h6:=hc off _ (BS R);rw[O]at h6;rw[Cn,BS R,h6]
 obtain⟨b1,g1,g2⟩:=Mx.back hn.2 hm hs I;have r:∀ k,(v.ownBlock.toList++(BO xs.length).flatMap λj=>if j=i then b1 else Y j).count k=bs.count k+bn.count k:=by
  intro k;have O:=kn X Y b1 k;have R:=g2 k;rw[h2,BF,BF];omega
 refine⟨_,⟨(mX a3 hn.1 hd (λk=>Cj (r k))).1,a0,_,by rw[CI];exact h1,by rw[CI],λj x hj=>?_⟩,r⟩;rcases aQ _ _ _ _ _ hj with ⟨rfl,rfl,_⟩|⟨Z,hj⟩
 ·refine⟨c,?_,hc⟩;simp only[if_true];exact g1
 ·obtain⟨c',O,R⟩:=h3 j x hj;refine⟨c',?_,R⟩;have:BT i j=false:=by
   cases hb:BT i j with
   |false=>rfl
   |true=>exact absurd (BI hb).symm Z
  have e0:cS (some (i,off)) j=none:=by simp[cS,this]
  rw[e0]at O;simp only[if_neg Z];exact O
theorem iU:GH<=TMP/\TMP<B0/\TMP≠EPO:=by decide
def tt (W:Wit)(S:St)(w:World)(r j:Nat)(v:Value):Prop :=
 r≠TMP/\r≠EPO/\∃ (i off:Nat) (p:Bool) (E:TypeId) (e:Ty) (y:List e.den) (g u:Nat),(S r).ls[j]?=some (.own p (some (i,off)) E e y)/\(W.cs r)[j]?=some (.slice (some ⟨g,0,none⟩) y.length u) /\
  g∈W.bs r j/\w.cell? ⟨g,i*e.cells+off,none⟩=some v
theorem uV (hV:ay V)(h:ap P V W st a w){l l':Leaf}{U:Upd}{v:Value}(Z:aJ P V W st w [] l v)(I:cn st l=some (U,l')) :
  ∃ W0 n p0 E0 e0 bx,ap P V W0 (ac U st) a w/\cH V W W0 st (ac U st) w w/\l'=.al TMP 0 n/\aJ P V W0 (ac U st) w [] l' v/\(ac U st TMP).ver=n/\(ac U st TMP).ls=[.own p0 none E0 e0 bx] /\
   W0.nw=W.nw/\W0.β=W.β/\(∀ q,q≠TMP->W0.cs q=W.cs q)/\W0.cs TMP=[v]/\(∀ q,(ac U st q).sh=(st q).sh\/q=TMP)/\tt W0 (ac U st) w (jY l).1 (jY l).2 v:=by
 cases l with
 |nal p ks ep cw E e xs =>
  simp only[cn]at I;cases a6:br st ks ep with
  |false=>simp[a6]at I
  |true =>
   rw[a6]at I;simp only[cond_true]at I;split at I
   ·rename_i r j n0 i sz off;split at I
    ·rename_i M X J z hg;cases hb:!BT r TMP&&!BT r EPO&&BT sz J.cells with
     |false=>simp[hb]at I
     |true =>
      rw[hb]at I;simp only[cond_true]at I;simp only[BC,BY]at hb;obtain⟨⟨b9,bb⟩,ad⟩:=hb;have ad:=BI ad;subst ad;have R:r≠TMP:=λe=>by subst e;simp at b9
      have b4:r≠EPO:=λe=>by subst e;simp at bb
      split at I
      ·rename_i y hy;split at I
       ·rename_i E1 e1 ys b5;simp only[BA,B9]at I;obtain⟨rfl,rfl⟩:=I;have b6:=pn a6 Z;obtain⟨r',j',n',b0,g,c3,b1,a9,cc,cp,O⟩:=b6.at_ i _ off rfl;simp only[CZ,B9,and_true]at b0;obtain⟨rfl,rfl,rfl⟩:=b0;have a3:(st r).ls[j]?=some (.own M none X J z):=by
         rw[CB]at hg;cases H:(st r).ls[j]? with
         |none=>rw[H]at hg;simp at hg
         |some l0=>rw[H]at hg;simp at hg;rw[hg]
        have a2:=h.leaf r j _ _ a3 a9;have a2:Ow w (gd V W M) X J z _ (W.bs r j):=a2;have b3:c3=z.length:=by
         obtain⟨A,cb,e0,_⟩:=a2.slice;simp only[B5]at e0;exact e0.2.1
        subst b3;obtain⟨u,bn,bs',g1,g2,g3,g4⟩:=a2.out hy b5;have hu:u=v:=by
         have:=g3 g b1 rfl;rw[this]at O;exact Option.some.inj O
        subst hu;have c2:=bu.1 a2.1;have b2:∀ k∈bs',k∈W.bs r j:=λk hk=>BK.1 (by have:=g4 k;have:=BK.2 hk;omega)
        have a1:∀ k∈bn,k∈W.bs r j/\k∉bs':=λk hk=>by
         have h5:=g4 k;have h6:=BK.2 hk;have h7:=c2 k;refine⟨BK.1 (by omega),λc0=>?_⟩;have:=BK.2 c0;omega
        have a0:∀ k∈W.bs r j,uU V W st r j k:=λk hk=>by
         have h9:=h.ownb r j _ a3 trivial k hk;exact⟨h9.1,h9.2.1,h9.2.2,λr1 i1 l1 a4 a8 a7 Y=>a7 (by obtain⟨e1,e2⟩:=h.sep r1 i1 l1 r j _ a4 a8 a3 trivial k Y hk;rw[e1,e2])⟩
        have hR:xL st (ac [(r,⟨(st r).ver,(st r).sh,aR (st r).ls j (.own M (some (i,off)) X J z)⟩)] (ac [(EPO,bV (st EPO))] st)) r j (.own M (some (i,off)) X J z):=by
         refine⟨λq=>?_,λq=>?_,?_,λq=>?_,λl Z=>?_,λq i' l H Z=>?_⟩
         ·rcases aj r q ⟨(st r).ver,(st r).sh,aR (st r).ls j (.own M (some (i,off)) X J z)⟩ (ac [(EPO,bV (st EPO))] st) with ⟨rfl,e⟩|⟨_,e⟩
          ·rw[e]
          ·rw[e];rcases aj EPO q (bV (st EPO)) st with ⟨rfl,e⟩|⟨_,e⟩ <;> rw[e];rfl
         ·rcases aj r q ⟨(st r).ver,(st r).sh,aR (st r).ls j (.own M (some (i,off)) X J z)⟩ (ac [(EPO,bV (st EPO))] st) with ⟨rfl,e⟩|⟨_,e⟩
          ·rw[e];exact BU _
          ·rw[e];rcases aj EPO q (bV (st EPO)) st with ⟨rfl,e⟩|⟨_,e⟩ <;> rw[e]
           ·exact DL _
           ·exact BU _
         ·rw[aI (CM b4),bj];exact BM _
         ·rcases aj r q ⟨(st r).ver,(st r).sh,aR (st r).ls j (.own M (some (i,off)) X J z)⟩ (ac [(EPO,bV (st EPO))] st) with ⟨rfl,e⟩|⟨_,e⟩
          ·rw[e];simp[aR]
          ·rw[e];rcases aj EPO q (bV (st EPO)) st with ⟨rfl,e⟩|⟨_,e⟩ <;> rw[e];rfl
         ·rw[bj]at Z;rcases aQ _ _ _ _ _ Z with ⟨_,rfl,_⟩|⟨a7,_⟩
          ·rfl
          ·exact absurd rfl a7
         ·rcases aj r q ⟨(st r).ver,(st r).sh,aR (st r).ls j (.own M (some (i,off)) X J z)⟩ (ac [(EPO,bV (st EPO))] st) with ⟨rfl,e⟩|⟨_,e⟩
          ·rw[e]at Z;rcases aQ _ _ _ _ _ Z with ⟨rfl,_,_⟩|⟨_,Z⟩
           ·exact absurd rfl H
           ·exact Z
          ·rw[e]at Z;rcases aj EPO q (bV (st EPO)) st with ⟨rfl,e⟩|⟨_,e⟩ <;> rw[e]at Z <;> exact Z
        have h1:=h.retell hV hR a3 trivial a9 trivial (bs':=bs') g1 (λk hk=>a0 k (b2 k hk)) (λ_ _ _=>rfl) (BU _) rfl rfl rfl;have c1:cH V W (W.tell r j bs') st (ac [(r,⟨(st r).ver,(st r).sh,aR (st r).ls j (.own M (some (i,off)) X J z)⟩)] (ac [(EPO,bV (st EPO))] st)) w w :=
         ⟨λq=>⟨hR.ver q,λ_=>rfl⟩,λb hb=>⟨(iy hR.sh b).2 hb,rfl⟩,λ_ h=>h,λ_ _=>rfl,λhe=>by have:=hR.epo;omega⟩
        have ba:(ac [(r,⟨(st r).ver,(st r).sh,aR (st r).ls j (.own M (some (i,off)) X J z)⟩)] (ac [(EPO,bV (st EPO))] st) TMP).ver=(st TMP).ver:=by
         rw[aI (CM R),aI iU.2.2]
        obtain⟨h2,bl⟩:=h1.putGhost hV TMP iU.1 iU.2.1 ((st TMP).ver+1) .one [.own (M&&J.shy) none E1 e1 ys] [u] (λ_=>bn) (by rw[ba];exact BM _) rfl (λx hx=>by simp at hx;subst hx;exact g2.one)
         (λq l x H hx=>by
          cases q with
          |zero=>simp at H hx;subst H;subst hx;exact⟨g2.1,(OwB.shy g2.2).carry (bU (W':=W) (by intro hh;simp only[BC]at hh ⊢;exact⟨hh.1,mY b5 hh.2⟩) (λ_ h=>h)) (λ_ _=>rfl) (λ_ _=>rfl)⟩
          |succ q=>simp at H)
         (λq l H _ k hk=>by
          obtain⟨q1,q2,q3,q4⟩:=a0 k (a1 k hk).1;refine⟨q1,q2,λb hb=>q3 b ((iy hR.sh b).1 hb),λr1 i1 l1 _ a4 a8 Y=>?_⟩;by_cases H:(r1,i1)=(r,j)
          ·cases H;rw[show (W.tell r j bs').bs r j=bs' from if_pos rfl]at Y;exact (a1 k hk).2 Y
          ·rw[show (W.tell r j bs').bs r1 i1=W.bs r1 i1 from if_neg H]at Y;exact q4 r1 i1 l1 (hR.old r1 i1 l1 H a4) a8 H Y)
         (λq q' l l2 h1 h2 h3 h4 k h5 h6=>by
          have h7:q<1:=(BD.1 h1).1;have h8:q'<1:=(BD.1 h3).1;omega)
        have a5:ac [(r,⟨(st r).ver,(st r).sh,aR (st r).ls j (.own M (some (i,off)) X J z)⟩),(TMP,⟨(st TMP).ver+1,.one,[.own (M&&J.shy) none E1 e1 ys]⟩),(EPO,bV (st EPO))] st =
          ac [(TMP,⟨(st TMP).ver+1,.one,[.own (M&&J.shy) none E1 e1 ys]⟩)] (ac [(r,⟨(st r).ver,(st r).sh,aR (st r).ls j (.own M (some (i,off)) X J z)⟩)] (ac [(EPO,bV (st EPO))] st)):=by
         rw[aO r,aO TMP,mV R]
        rw[a5];refine⟨_,_,_,_,_,_,h2,c1.trans bl,rfl,⟨by rw[bj];exact BU _,λ_=>by simp⟩,by rw[bj],by rw[bj],rfl,rfl,λq H=>by simp[H,Wit.tell],by simp,λq=>?_,R,b4,i,off,M,X,J,z,g,b1,?_,?_,?_,O⟩
        ·by_cases H:q=TMP
         ·exact .inr H
         ·rw[aI H];exact .inl (hR.sh q)
        ·show (ac [(TMP,_)] _ r).ls[j]?=_;rw[aI R,bj];simp only[aR];rw[CT (BD.1 a3).1]
        ·show (if r=TMP then _ else W.cs r)[j]?=_;rw[if_neg R];exact a9
        ·show g∈(if r=TMP then _ else (W.tell r j bs').bs r j);rw[if_neg R,show (W.tell r j bs').bs r j=bs' from if_pos rfl];obtain⟨_,c4,cu,_,q2,_⟩:=g1;rw[q2];simp[By]
       ·cases I
      ·cases I
    ·cases I
   ·cases I
 |_=>simp[cn]at I
theorem gZ {R:Type}(l:Leaf)(I:Upd->Leaf->Option R):lK st l I=(cn st l).bind λu=>I u.1 u.2:=by
 cases l with
 |nal p M ep X E e Z =>
  simp only[lK,cn];cases br st M ep with
  |false=>rfl
  |true =>
   simp only[cond_true];split
   ·rename_i r j n i O off;split
    ·rename_i p' Y J z _;cases !BT r TMP&&!BT r EPO&&BT O J.cells with
     |false=>rfl
     |true =>
      simp only[cond_true];have H:idx z (i:Int)=z[i]?:=by
       unfold idx;rw[if_neg (by omega)];simp
      rw[H];cases z[i]? with
      |none=>rfl
      |some y =>
       simp only[Option.bind_some];cases bd off J 0 y with
       |none=>rfl
       |some u=>rfl
    ·rfl
   ·rfl
 |_=>rfl
end
theorem rr {w:World}{α:Type}{s g:Nat}:∀ (J:List α) (o:Nat) (Q:Nat->α->List Value->Prop),(∀ j x c,Q j x c->c.length=s/\∀ u∈c,u.oneCell'=true)->(∀ (j:Nat) (x:α),J[j]?=some x->∃ c,Q j x c/\cZ w g (o+j*s) c) ->
  ∃ r:List Value,r.length=J.length*s/\(∀ j u,r[j]?=some u->w.cell? ⟨g,o+j,none⟩=some u)/\(∀ u∈r,u.oneCell'=true) /\
   ∀ (j:Nat) (x:α),J[j]?=some x->∃ c,Q j x c/\∀ i u,c[i]?=some u->r[j*s+i]?=some u
 |[],o,_,_,_=>⟨[],by simp,by simp,by simp,by simp⟩
 |y::J,o,Q,hQ,h=>by
  obtain⟨c,hr,hc⟩:=h 0 y rfl;obtain⟨r,h1,h2,h3,h4⟩:=rr J (o+s) (λj=>Q (j+1)) (λj=>hQ (j+1)) (λj x z=>by
   obtain⟨Y,I,H⟩:=h (j+1) x (by simpa using z);refine⟨Y,I,?_⟩;rw[B8]at H;have:o+s+j*s=o+(j*s+s):=by omega
   rw[this];exact H)
  obtain⟨X,Z⟩:=hQ 0 y c hr;refine⟨c++r,by rw[BR,h1,X,Ci,B8];omega,?_,?_,?_⟩
  ·intro j u z;by_cases a0:j<c.length
   ·rw[BH a0]at z;have:=hc j u z
    rwa [DE,CC]at this
   ·rw[BG (by omega)]at z;have:=h2 (j-c.length) u z;have e1:o+s+(j-c.length)=o+j:=by omega
    rwa [e1]at this
  ·intro u M;rcases BL.1 M with M|M
   ·exact Z u M
   ·exact h3 u M
  ·intro j x z;cases j with
   |zero =>
    simp at z;subst z;refine⟨c,hr,λi u O=>?_⟩;have R:=(BD.1 O).1;rw[DE,CN,BH R];exact O
   |succ j =>
    obtain⟨Y,I,H⟩:=h4 j x (by simpa using z);refine⟨Y,I,λi u O=>?_⟩;rw[B8,BG (by omega)];rw[<- H i u O];congr 1;omega
theorem jL {P:Program}(g o:Nat)(t:TypeId)(mk:Nat×Nat):∀ (y:List Value) (i:Nat) (cur:Array Value) (w:World),w.heap[g]?=some (.cells cur t mk)->(mk.2=0\/cur.size<=mk.1)->o+i+y.length<=cur.size->(∀ v∈y,v.oneCell'=true) ->
  (storeCells ⟨g,o,none⟩ y i).run P w=.ok () (w.setRow g (cur.toList.take (o+i)++y++cur.toList.drop (o+i+y.length)).toArray)
 |[],i,cur,w,u,_,_,_=>by
  simp only[storeCells,Bw,CX,CC,List.take_append_drop,Bz];rw[setRow_self w g cur t mk u];rfl
 |v::r,i,cur,w,u,O,H,M=>by
  have J:o+i<cur.size:=by simp at H;omega
  have z:(⟨g,o,none⟩:Addr).add i=⟨g,o+i,none⟩:=by unfold Addr.add;split <;> simp_all
  have I:(store ((⟨g,o,none⟩:Addr).add i) v).run P w=.ok () (w.setRow g (cur.setIfInBounds (o+i) v)):=by
   rw[z,run_store P w _ v _ (M v (by simp)),cell_of_row w g _ cur t mk u,Array.getElem?_eq_getElem J];simp[qR u O J,setCell_eq_setRow w g (o+i) cur t mk v u]
  have R:=jL (P:=P) g o t mk r (i+1) (cur.setIfInBounds (o+i) v) (w.setRow g (cur.setIfInBounds (o+i) v)) (setRow_heap w g cur _ t _ u) (by simpa using O) (by simp at H ⊢;omega) (λx X=>M x (by simp[X]));simp only[storeCells,C9,I,Cd,R,setRow_setRow];congr 3;have e:=list_seg_step cur.toList (o+i) v r (by simp at H ⊢;omega);simpa[Array.toList_setIfInBounds,DY]using e
theorem mZ {P:Program}(w:World)(t ty e:TypeId)(i:TypeInfo)(Y:P.underlying t=some (.slice e))(O:P.info? e=some i)
  (g y z:Nat) (cur:Array Value) (mk:Nat×Nat) (hg:w.heap[g]?=some (.cells cur e mk)) (hm:mk.2=0\/cur.size<=mk.1)
  (a:Addr) (m c:Nat) (r:List Value) (R:r.length=m*i.size) (I:∀ j u,r[j]?=some u->w.cell? (a.add j)=some u) (X:∀ u∈r,u.oneCell'=true)
  (H:y+m<=z) (J:y*i.size+r.length<=cur.size) :
  (B7 #[t,t] ty #[.slice (some ⟨g,0,none⟩) y z,.slice (some a) m c]).run P w =
   .ok (.slice (some ⟨g,0,none⟩) (y+m) z) (w.setRow g (cur.toList.take (y*i.size)++r++cur.toList.drop (y*i.size+r.length)).toArray):=by
 have Z:=run_firstCells_some (P:=P) w i.size m a m c r R I;have M:=jL (P:=P) g (y*i.size) e mk r 0 cur w hg hm (by simpa using J) X;simp only[CC]at M;simp[B7,run_underlying Y,sizeOf,typeInfo,O,Cg,H,Z,Addr.add_lit,M]
theorem ci {P:Program}(w:World)(t ty e:TypeId)(i:TypeInfo)(z:Value)(size a0:Nat)(ht:P.underlying t=some (.slice e))(hi:P.info? e=some i)(hz:i.zero=some z)
  (a3:i.size=size) (b2:i.bytes=a0) (b1:z.cells.size=size)
  (v:Value) (n:Nat) (xs:List Value) (y:Row w e size v n xs)
  (a:Addr) (m c:Nat) (r:List Value) (hl:r.length=m*size) (J:∀ j u,r[j]?=some u->w.cell? (a.add j)=some u) (h1:∀ u∈r,u.oneCell'=true)
  (a7:n+m<=maxLen) (O:(n+m)*a0<=140737488355328) :
  ∃ v' w',(B7 #[t,t] ty #[v,.slice (some a) m c]).run P w=.ok v' w'/\Row w' e size v' (n+m) (xs++r)/\w.grownBy w' v.ownBlock/\(v'.ownBlock=v.ownBlock\/v'.ownBlock=some w.heap.size):=by
 subst a3;subst b2;have ad:n+m<=9223372036854775807:=by simp only[maxLen]at a7;omega
 have M:(xs++r).length=(n+m)*i.size:=by rw[BR,y.1,hl,Ce]
 have Z:∀ (H:Nat),H<n+m->∀ (a8:Option Nat),
   Row (w.drew.alloc (.cells (xs.toArray++r.toArray++DF z.cells (grownCap w (n+m) H e-(n+m))) e)) e i.size
    (.slice (some ⟨w.heap.size,0,none⟩) (n+m) (grownCap w (n+m) H e)) (n+m) (xs++r) /\
   w.grownBy (w.drew.alloc (.cells (xs.toArray++r.toArray++DF z.cells (grownCap w (n+m) H e-(n+m))) e)) a8:=by
  intro H ho a8;have b0:=grownCap_ge w (n+m) H e;have a1:grownCap w (n+m) H e<=maxLen:=grownCap_le_maxLen w (n+m) H e a7;refine⟨⟨M,.inr ⟨w.heap.size,_,_,_,rfl,heap_alloc_new w.drew _,b0,.inl ⟨rfl,a1⟩,?_,?_⟩⟩,⟨rfl,rfl,rfl,by simp,λk hk _=>Go.heap_alloc_old w.drew _ hk⟩⟩
  ·simp only[DA,CS,size_zeroCells,b1,y.1,hl,<- Ce];exact BN _ (by omega)
  ·simp only[C0,BQ];rw[<- BQ,<- M];exact DW
 rcases y.2 with ⟨rfl,rfl⟩|⟨g,R,X,mk,rfl,hg,b3,a1,a9,a5⟩
 ·have hx:xs=[]:=BV (by simpa using y.1);subst hx;by_cases hm:m=0
  ·subst hm;have hn:r=[]:=BV (by simpa using hl);subst hn;refine⟨.slice none 0 0,w,?_,Row.nil w e i.size,⟨rfl,rfl,rfl,BU _,λ_ _ _=>rfl⟩,.inl rfl⟩;simp[B7,run_underlying ht,sizeOf,typeInfo,hi,Cg,Cc,loadCells,loadCellsFrom]
  ·have hr:=run_append_nil (P:=P) w t ty e i z ht hi hz a m c r hl J (by omega) (by omega) (by have hb:=O;simp only[CN]at hb;omega);have Y:=Z 0 (by omega) (By (.slice none 0 0));simp only[CN,DT,Array.empty_append]at Y ⊢;exact⟨_,_,hr,Y.1,Y.2,.inr rfl⟩
 ·by_cases I:n+m<=R
  ·have a6:n*i.size+r.length<=X.size:=by rw[hl,<- Ce];exact CE (BN _ I) a9
   have hr:=mZ (P:=P) w t ty e i ht hi g n R X mk hg (zj a1) a m c r hl J h1 I a6;have a2:(X.toList.take (n*i.size)++r++X.toList.drop (n*i.size+r.length)).toArray.size=X.size:=by
    simp only[CS,BR,Bx,Ch,B6];omega
   refine⟨_,_,hr,⟨M,.inr ⟨g,R,_,mk,rfl,setRow_heap w g X _ e _ hg,I,a1.imp id (λh=>⟨h.1,?_⟩),?_,?_⟩⟩,⟨rfl,rfl,rfl,by simp,λk _ hk=>setRow_other w g k _ (λe=>hk (by simp[By,e]))⟩,.inl rfl⟩
   ·rw[a2];exact h.2
   ·rw[a2];exact a9
   ·rw[a5,<- M];exact DW
  ·have a4:∀ j u,xs[j]?=some u->w.cell? ((⟨g,0,none⟩:Addr).add j)=some u:=λj u hj=>by
    rw[eU,CN,y.cellAt _ (by rw[<- y.1];exact (BD.1 hj).1)];exact hj
   have hr:=run_append_grow (P:=P) w t ty e i z ht hi hz ⟨g,0,none⟩ n R xs y.1 a4 a m c r hl J (by omega) (by omega) (growslice_fits (by omega) O);have Y:=Z R (by omega) (By (.slice (some ⟨g,0,none⟩) n R));exact⟨_,_,hr,Y.1,Y.2,.inr rfl⟩
theorem m7 {P:Program}(w:World)(t ty e:TypeId)(i:TypeInfo)(size c:Nat)(z:P.underlying t=some (.slice e))(y:P.info? e=some i)
  (v:Value) (n:Nat) (xs:List Value) (r:Row w e size v n xs) :
  (B7 #[t,t] ty #[v,.slice none 0 c]).run P w=.ok v w:=by
 rcases r.2 with ⟨rfl,rfl⟩|⟨g,H,I,_,rfl,_,u,_⟩
 ·simp[B7,run_underlying z,sizeOf,typeInfo,y,Cg,Cc]
 ·simp[B7,run_underlying z,sizeOf,typeInfo,y,Cg,Cc,u,storeCells]
theorem jd {α:Type}{f g:α->List Nat}:∀ {l:List α},(∀ x∈l,f x=g x)->l.flatMap f=l.flatMap g
 |[],_=>rfl
 |x::l,h=>by rw[CK,CK,h x (BW ..),jd (λy r=>h y (BP _ r))]
theorem yR (n m:Nat)(f g:Nat->List Nat):(BO (n+m)).flatMap (λj=>if j<n then f j else g (j-n))=(BO n).flatMap f++(BO m).flatMap g:=by
 rw[List.range_add,List.flatMap_append,DH];congr 1
 ·refine jd λj r=>?_
  rw[if_pos (Cv.1 r)]
 ·refine jd λj _=>?_
  rw[if_neg (by omega),show n+j-n=j by omega]
def vX (w:World)(G:Nat->Prop)(e:Ty)(y:List e.den)(u:Value)(r:Nat->List Nat):Prop :=
 ∃ A z,u=.slice A y.length z/\(0<y.length->∃ g o,A=some ⟨g,o,none⟩/\∀ j (x:e.den),y[j]?=some x->∃ c,Mx w G e none 0 x c (r j)/\cZ w g (o+j*e.cells) c)
section
variable {P:Program} {V:Env} {Γ:List Ctr} {T:TypeId->TI} {st:St} {o:Oper} {R:Type} {κ:Upd->Option R} {r:R}
theorem vY {w:World}{t ty E:TypeId}{e e':Ty}{I:Nat}(c2:oF P t (.slice E e I))(b2:e'.cells=e.cells){G G2 G':Nat->Prop}{xs H:List e'.den}{v u:Value}{bs:List Nat}{M:Nat->List Nat}(hx:Ow w G E e' xs v bs)
  (hy:vX w G2 e' H u M) (a7:(xs.length+H.length)*I<=am) (hG:∀ k,G k->G' k) (b4:∀ k,G2 k->G' k) (b1:∀ k,G' k->k<w.heap.size/\v.ownBlock≠some k) (bn:∀ j,j<H.length->∀ k∈M j,v.ownBlock≠some k) :
  ∃ Y O J,(B7 #[t,t] ty #[v,u]).run P w=.ok Y O/\w.grownBy O v.ownBlock/\OwB O G' none E e' (xs++H) Y J /\
   ∀ k,J.count k<=bs.count k+(((BO H.length).flatMap M)++[w.heap.size]).count k:=by
 obtain⟨hu,_,_,cc,c4,ti,z,hi,hs,hb,hz,c3⟩:=c2;obtain⟨c1,X,a6,ho,b3,c0⟩:=hx;obtain⟨A,a8,b9,a9⟩:=hy;subst b9;have bl:ti.size=e'.cells:=by rw[b2];exact hs
 have a3:∀ (O:World),w.grownBy O v.ownBlock->∀ k,G' k->O.heap[k]?=w.heap[k]?:=λO Z k hk=>Z.block k (b1 k hk).1 (CM (b1 k hk).2)
 have bb:xs.length+H.length<=maxLen:=by
  have h1:(xs.length+H.length)*1<=(xs.length+H.length)*I:=Ca _ c4.1;have:=ml;simp only[am]at a7;omega
 have b5:∀ (y:List Value),(∀ (j:Nat) (x:e'.den),H[j]?=some x->∃ c,Mx w G2 e' none 0 x c (M j)/\∀ i u,c[i]?=some u->y[j*e'.cells+i]?=some u) ->
   ∀ Y O,Row O E e'.cells Y (xs.length+H.length) (X++y)->w.grownBy O v.ownBlock->(Y.ownBlock=v.ownBlock\/Y.ownBlock=some w.heap.size) ->
    ∃ J,OwB O G' none E e' (xs++H) Y J/\∀ k,J.count k<=bs.count k+(((BO H.length).flatMap M)++[w.heap.size]).count k:=by
  intro y hn Y O a4 Z a5;refine⟨Y.ownBlock.toList++(BO (xs.length+H.length)).flatMap (λj=>if j<xs.length then a6 j else M (j-xs.length)),⟨X++y,_,by rw[BR];exact a4,by rw[BR],λj x hj=>?_⟩,λk=>?_⟩
  ·by_cases a1:j<xs.length
   ·rw[BH a1]at hj;obtain⟨c,hr,hc⟩:=c0 j x hj;have hr:Mx w G e' none 0 x c (a6 j):=hr;refine⟨c,?_,λi u hi=>?_⟩
    ·rw[if_pos a1];refine hr.carry hG (λk hk=>a3 O Z k (hG k hk)) λk hk=>Z.block k (hr.lt k hk) (λe0=>?_)
     have h5:=bu.1 c1 k;rw[b3,<- e0,BF]at h5;have h6:0<((BO xs.length).flatMap a6).count k:=BK.2 (dW.2 ⟨j,a1,hk⟩);simp at h5;omega
    ·have:=hc i u hi;rw[BH (BD.1 this).1];exact this
   ·rw[BG (by omega)]at hj;obtain⟨c,hr,hc⟩:=hn _ x hj;have b6:=(BD.1 hj).1;refine⟨c,?_,λi u hi=>?_⟩
    ·rw[if_neg a1];exact hr.carry b4 (λk hk=>a3 O Z k (b4 k hk)) λk hk=>Z.block k (hr.lt k hk) (CM (bn _ b6 k hk))
    ·have:=hc i u hi;have b0:=ho.1;have cb:xs.length*e'.cells<=j*e'.cells:=BN _ (Nat.le_of_not_lt a1);rw[BG (by omega),<- this,b0,Nat.sub_mul];congr 1;omega
  ·rw[yR,b3];simp only[BF];rcases a5 with h5|h5
   ·rw[h5];omega
   ·rw[h5];simp only[C5];omega
 cases A with
 |none =>
  have a0:H.length=0:=by
   rcases C6 H.length with h|h
   ·exact h
   ·obtain⟨g,o,hA,_⟩:=a9 h;cases hA
  have a0:=BV a0;subst a0;have a2:=m7 (P:=P) w t ty E ti e'.cells a8 hu hi v xs.length X ho;have Z:w.grownBy w v.ownBlock:=⟨rfl,rfl,rfl,BU _,λ_ _ _=>rfl⟩;obtain⟨J,h1,h2⟩:=b5 [] (by simp) v w (by simpa using ho) Z (.inl rfl);exact⟨v,w,J,a2,Z,h1,h2⟩
 |some ad =>
  have ba:∃ y:List Value,y.length=H.length*e'.cells/\(∀ j u,y[j]?=some u->w.cell? (ad.add j)=some u)/\(∀ u∈y,u.oneCell'=true) /\
    ∀ (j:Nat) (x:e'.den),H[j]?=some x->∃ c,Mx w G2 e' none 0 x c (M j)/\∀ i u,c[i]?=some u->y[j*e'.cells+i]?=some u:=by
   rcases C6 H.length with h|h
   ·have a0:=BV h;subst a0;exact⟨[],by simp,by simp,by simp,by simp⟩
   ·obtain⟨g,o,hA,he⟩:=a9 h;simp at hA;subst hA;obtain⟨y,h1,h2,h3,h4⟩:=rr H o (λj x c=>Mx w G2 e' none 0 x c (M j)) (λj x c hq=>⟨hq.len,hq.one⟩) he;exact⟨y,h1,λj u hj=>by rw[eU];exact h2 j u hj,h3,h4⟩
  obtain⟨y,h1,h2,h3,h4⟩:=ba;have bx:z.cells.size=e'.cells:=by
   have h2:=(lD w (λ_=>False) e).len;rw[<- B6,c3,h2,b2]
  obtain⟨Y,O,a2,a4,Z,a5⟩:=ci (P:=P) w t ty E ti z e'.cells I hu hi hz bl hb bx v xs.length X ho ad H.length a8 y h1 h2 h3 bb (by simpa[am]using a7);obtain⟨J,h5,h6⟩:=b5 y h4 Y O a4 Z a5;exact⟨Y,O,J,a2,Z,h5,h6⟩
theorem vZ {W:Wit}{a:Act}{w:World}(h:ap P V W st a w){E:TypeId}{e:Ty}{y:Leaf}{u:Value}{t:cO (List e.den)}(hl:aB P V W st w [y] [u])(H:fN st E e y=some t) :
  (∃ I,vX w (bm V W t.p t.frz) e t.val u I/\∀ k,((BO t.val.length).flatMap I).count k<=(aW W t.kill).count k)/\(∀ x∈t.frz,aA st x)/\(∀ x∈t.kill,aA st x):=by
 have z:∀ {p q:Bool} {O:List e.den} {ks:List (Nat×Nat)},dk e (aD st y)=some (p,O)->(∀ (S:Nat->Prop) (x:e.den) (c:List Value),Rd w (bm V W p (bz st [y])) e x c->Mx w (bm V W q ks) e none 0 x c []) ->
   ∃ I,vX w (bm V W q ks) e O u I/\∀ k,((BO O.length).flatMap I).count k<=(aW W []).count k:=by
  intro p q O ks X hm;obtain⟨A,M,hu,_,hx⟩:=kx (m:=false) (E:=E) h hl.1.1 hl.1.2.1 X;have hu:u=.slice A O.length M:=by simpa using hu
  refine⟨(λ_=>[]:Nat->List Nat),⟨A,M,hu,λhp=>?_⟩,λk=>by rw[show ((BO O.length).flatMap λ_=>([]:List Nat))=[] from by simp];exact DM _⟩;obtain⟨g,o',hA,_,a0⟩:=hx hp;exact⟨g,o',hA,λj x hj=>by
   obtain⟨c,Z,hc⟩:=a0 j x hj;exact⟨c,hm (λ_=>True) x c Z,hc⟩⟩
 unfold fN at H;cases hf:e.flat with
 |true =>
  rw[hf]at H;simp only[cond_true,BB]at H;obtain⟨⟨p,O⟩,X,rfl⟩:=H;exact⟨z X (λ_ x c Z=>Mx.flat hf Z),by simp,by simp⟩
 |false =>
  rw[hf]at H;simp only[cond_false]at H;cases hs:decide (e.sh=e) with
  |true =>
   rw[hs]at H;simp only[cond_true,BB]at H;obtain⟨⟨p,O⟩,X,rfl⟩:=H;exact⟨z X (λ_ x c Z=>Mx.shared (of_decide_eq_true hs) Z),λx hx=>ei hl hx,by simp⟩
  |false =>
   rw[hs]at H;simp only[cond_false,BB]at H;obtain⟨J,X,rfl⟩:=H;obtain⟨h1,h2,h3⟩:=dP (pos:=0) h hl X;have h1:Mx w (bm V W J.p J.frz) (.list true E e) none 0 J.val [u] (aW W J.kill):=h1;rw[bK (by simp)]at h1;obtain⟨v,hv,a1,Y,h4,h5,h6⟩:=h1;simp only[CZ,and_true]at hv;subst hv;refine⟨⟨Y,?_,λk=>?_⟩,h2,h3⟩
   ·rcases h4.2 with ⟨hn,h0⟩|⟨g,M,a2,_,hv,hg,a3,_⟩
    ·exact⟨none,0,by rw[hn];show _=Value.slice none (DO J.val) 0;rw[h0],λhp=>by have hp:0<DO J.val:=hp;omega⟩
    ·refine⟨some ⟨g,0,none⟩,M,hv,λhp=>⟨g,0,rfl,λj x hj=>?_⟩⟩;obtain⟨c,h7,h8⟩:=h6 j x hj;have h7:Mx w (bm V W J.p J.frz) e none 0 x c (Y j):=h7;refine⟨c,h7,λi u hi=>?_⟩;have h9:=h8 i u hi;rw[CN];rw[hv]at h4;rw[h4.cellAt _ (by rw[<- h4.1];exact (BD.1 h9).1)];exact h9
   ·show ((BO (DO J.val)).flatMap Y).count k<=(aW W J.kill).count k;rw[h5,BF];omega
theorem Ao {l l':Leaf}{U:Upd}(u:cn st l=some (U,l')):∃ n,l'=.al TMP 0 n:=by
 cases l with
 |nal p H ep M E e Z =>
  simp only[cn]at u;cases y:br st H ep with
  |false=>simp[y]at u
  |true =>
   rw[y]at u;simp only[cond_true]at u;split at u
   ·rename_i r j X i J off;split at u
    ·rename_i p' Y I O hg;cases z:!BT r TMP&&!BT r EPO&&BT J I.cells with
     |false=>simp[z]at u
     |true =>
      rw[z]at u;simp only[cond_true]at u;split at u
      ·split at u
       ·simp only[BA,B9]at u;exact⟨_,u.2.symm⟩
       ·cases u
      ·cases u
    ·cases u
   ·cases u
 |_=>simp[cn]at u
theorem wa (hV:ay V)(hT:TOk P T)(cc:bO V o){c:Call}(cp:o.op=.call c)(hc:c.callee=.builtin .append)(h:act Γ T o st κ=some r):bW P V o st κ r:=by
  simp only[act,wrU,cp,hc]at h;split at h
  · cases h
  · rename_i d hd
    split at h
    · rename_i x y t u a3 a8
      split at h
      · rename_i E e a0 ht
        cases a6:BT t u with
        |false=>simp[a6]at h
        |true =>
          simp only[a6,cond_true]at h;have a6:=BI a6;subst a6;have c3:=hT t;rw[ht]at c3;have a3:c.args=#[x,y]:=by rw[<- Bz (xs:=c.args),a3]
          have a8:c.argTypes=#[t,t]:=by rw[<- Bz (xs:=c.argTypes),a8]
          have ba:∀ (a:Act) (w w':World) (v:Value),(B7 #[t,t] o.type #[a.eval x,a.eval y]).run P w=.ok v w'->(execOp a.eval o).run P w=.ok (.value v) w':=by
            intro a w w' v Z;simp[execOp,cp,hc,resolve,invoke,builtin,a3,a8,Z]
          have b6:∀ (I:Upd) (E':TypeId) (e':Ty) (p:Bool) (xs:List e'.den) (ks:List (Nat×Nat)),E'=E->e'.sh=e.sh->dV st (ac I st) I d E' e' a0 p xs ks (one st y) κ=some r ->
              ∃ U,κ U=some r/\∀ (X:Wit) (a:Act) (w:World),ap P V X (ac I st) a w->aB P V X (ac I st) w [one st y] [a.eval y]->(∀ x∈ks,aA (ac I st) x)->Ow w (gd V X p) E' e' xs (a.eval x) (aW X ks)->mF P V o st U a w:=by
            intro I E' e' p xs ks hE he J;subst hE;unfold dV at J;split at J
            · rename_i t1 d2
              cases Y:aY (t1.kill++ks)&&dG t1.frz (t1.kill++ks)&&decide ((xs.length+t1.val.length)*a0<=am) with
              |false=>simp[Y]at J
              |true =>
                simp only[Y,cond_true]at J;simp only[BC,decide_eq_true_eq]at Y;obtain⟨⟨cu,d1⟩,bb⟩:=Y;refine⟨_,J,λX a w Z a1 cw bl next Q hn=>?_⟩;obtain⟨⟨c4,cy,b3⟩,hf,d3⟩:=vZ Z a1 d2;have bn:∀ x∈t1.kill++ks,aA (ac I st) x:=λx hx=>(BL.1 hx).elim (d3 x) (cw x)
                obtain⟨h1,_,_,h4⟩:=fE hV Z d1 bn;have b9:=gO Z cu bn;rw[dL]at b9 h4;have O:∀ k∈aW X t1.kill++aW X ks,¬ cg V (X.frz (ac I st) t1.frz) _ k:=λk H=>mj ⟨(h4 k H).1,(h4 k H).2.1,(h4 k H).2.2.2.1,(h4 k H).2.2.2.2⟩
                rw[CD]at b9;obtain⟨c0,c2,b1⟩:=b9;have b5:∀ k,(a.eval x).ownBlock=some k->k∈aW X ks:=by
                  intro k H;obtain⟨_,dc,e2,_,bb,_⟩:=bl;rw[bb,H];simp
                have bx:∀ k,gd V (X.frz (ac I st) t1.frz) (p||t1.p) k->cg V (X.frz (ac I st) t1.frz) (ac (aM (ac (aE (ac I st) t1.frz) (ac I st)) (t1.kill++ks)++aE (ac I st) t1.frz) (ac I st)) k:=by
                  rintro k (H|⟨_,H⟩)
                  · exact .inl H
                  · exact .inr (.inl (hV.ro k H))
                have a7:∀ k∈(BO t1.val.length).flatMap c4,k∈aW X t1.kill:=λk H=>BK.1 (by have:=b3 k;have:=BK.2 H;omega)
                obtain⟨v',w',dd,cb,hg,c1,b4⟩:=vY (P:=P) (t:=t) (ty:=o.type) c3 (hZ he) bl cy bb (G':=gd V (X.frz (ac I st) t1.frz) (p||t1.p))
                  (bU (W':=X.frz (ac I st) t1.frz) (by intro h;simp[h]) (λ_ h=>Or.inl h))
                  (λk H=>bU (W':=X.frz (ac I st) t1.frz) (by intro h;simp[h]) (λ_ h=>h) k (ke hf k H))
                  (λk H=>⟨h1.used_lt k (bx k H),λe1=>O k (BE _ (b5 k e1)) (bx k H)⟩)
                  (λj hj k H e1=>b1 k (a7 k (dW.2 ⟨j,hj,H⟩)) k (b5 k e1) rfl)
                have b2:=mX (bs:=aW X ks) (K:=(BO t1.val.length).flatMap c4++[w.heap.size]) c2
                  (bu.2 λk=>by
                    rw[BF];have h5:=b3 k;have h6:=bu.1 c0 k;by_cases H:k=w.heap.size
                    · subst H
                      have:(aW X t1.kill).count w.heap.size=0:=BZ.2 (λhm=>by have:=(h4 _ (BJ _ hm)).2.2.1;omega);simp;omega
                    · have:List.count k [w.heap.size]=0:=BZ.2 (by simp[H])
                      omega)
                  (λk H hm=>by
                    rcases BL.1 H with H|H
                    · exact b1 k (a7 k H) k hm rfl
                    · simp at H
                      subst H;have:=(h4 _ (BE _ hm)).2.2.1;omega) b4
                refine dX (ba a w w' v' cb) ?_;rw[hd];refine hn _ _ ?_;rw[cm,aO,bB];refine h1.putOwn hV hg.size hg.os hg.tape hg.output (λk H=>hg.block k (h1.used_lt k H) (λe1=>O k (BE _ (b5 k e1.symm)) H)) d (cc d hd).1 (cc d hd).2 _ (BM _) ⟨b2.1,c1⟩ (λk H hu=>?_);rcases b2.2 k H with H|H
                · exact O k (BE _ H) hu
                · rcases BL.1 H with H|H
                  · exact O k (BJ _ (a7 k H)) hu
                  · simp at H
                    have:=h1.used_lt k hu;omega
            · cases J
          have a4:∀ (I:Upd) (x':Leaf),eo st I d E e a0 x' (one st y) κ=some r->one st y≠.dead:=by
            intro I x' h e1;rw[e1]at h;unfold eo at h;split at h
            · split at h
              · rename_i p E' e' ad b0
                cases Y:BT E' E&&decide (e'.sh=e.sh) with
                |false=>simp[Y]at h
                |true =>
                  simp only[Y,cond_true,dV,fN,aD,dk,Cq,cj,take]at h;cases e'.flat <;> cases decide (e'.sh=e') <;> simp at h
              · cases h
            · simp only[dV,fN,aD,dk,Cq,cj,take]at h
              cases e.flat <;> cases decide (e.sh=e) <;> simp at h
            · cases h
          simp only[it]at h;cases hn:jk (one st x) with
          |true =>
            rw[hn]at h;simp only[cond_true]at h;rw[gZ]at h;obtain⟨⟨I,x'⟩,a9,h⟩:=B3.1 h;have a4:=a4 _ _ h;simp only[eo]at h;split at h
            · rename_i r' j n
              split at h
              · rename_i p' E' e' ad b0
                cases Y:BT E' E&&decide (e'.sh=e.sh) with
                |false=>simp[Y]at h
                |true =>
                  simp only[Y,cond_true]at h;simp only[BC,decide_eq_true_eq]at Y;obtain⟨U,hU,hg⟩:=b6 I E' e' p' ad [(r',j)] (BI Y.1) Y.2 h;refine⟨U,hU,λW a w Z=>?_⟩;obtain⟨a2,_,_,_,_⟩:=bt Z x (by intro e1;rw[e1]at hn;simp[jk]at hn);obtain⟨X,n0,p0,E0,e0,dn,g1,g2,g3,g4,_⟩:=uV hV Z a2 a9;obtain⟨a1,M,a5,_,_⟩:=bt Z y a4;obtain⟨h5,h6,h7,h8⟩:=kc g1 b0 g4;exact hg X a w g1 ⟨⟨a1.carry hV.ro g2 (λho=>absurd ho M),M,a5⟩,trivial⟩ (λz hz=>by simp at hz;subst hz;exact⟨_,h7,trivial⟩) (by simpa[aW]using h6)
              · cases h
            · exfalso
              obtain⟨n,cx⟩:=Ao a9;cases cx
            · cases h
          |false =>
            rw[hn]at h;simp only[cond_false]at h;have a4:=a4 _ _ h;simp only[eo]at h;split at h
            · rename_i r' j n hx
              split at h
              · rename_i p' E' e' ad b0
                cases Y:BT E' E&&decide (e'.sh=e.sh) with
                |false=>simp[Y]at h
                |true =>
                  simp only[Y,cond_true]at h;simp only[BC,decide_eq_true_eq]at Y;obtain⟨U,hU,hg⟩:=b6 [] E' e' p' ad [(r',j)] (BI Y.1) Y.2 h;refine⟨U,hU,λW a w Z=>?_⟩;obtain⟨a2,_,_,_,_⟩:=bt Z x (by rw[hx];simp);rw[hx]at a2;obtain⟨a1,M,a5,_,_⟩:=bt Z y a4;obtain⟨h5,h6,h7,h8⟩:=kc Z b0 a2;exact hg W a w Z ⟨⟨a1,M,a5⟩,trivial⟩ (λz hz=>by simp at hz;subst hz;exact⟨_,h7,trivial⟩) (by simpa[aW]using h6)
              · cases h
            · rename_i hx
              obtain⟨U,hU,hg⟩:=b6 [] E e false [] [] rfl rfl h;refine⟨U,hU,λW a w Z=>?_⟩;obtain⟨a2,_,_,_,_⟩:=bt Z x (by rw[hx];simp);rw[hx]at a2;obtain⟨a1,M,a5,_,_⟩:=bt Z y a4;exact hg W a w Z ⟨⟨a1,M,a5⟩,trivial⟩ (by simp) (by rw[show a.eval x=_ from a2];exact OwH.nil w _ E e)
            · cases h
      · cases h
    · cases h
end
def gP (w:World)(ro pr:Nat->Prop)(r:Bool)(a:Ty)(x:a.den)(v:Value):Prop :=
 if r=true then ∃ b u g o c,v=.pointer (some ⟨b,u,none⟩)/\pr b/\w.cell? ⟨b,u,none⟩=some (.pointer (some ⟨g,o,none⟩))/\pr g/\Rd w ro a x c/\cZ w g o c
 else ∃ g o c,v=.pointer (some ⟨g,o,none⟩)/\pr g/\Rd w ro a x c/\cZ w g o c
def jz (w:World)(ro pr:Nat->Prop):(cs:List (Bool×Ty))->lI cs->List Value->Prop
 |[],_,y=>y=[]
 |c::cs,x,y=>∃ u r,y=u::r/\gP w ro pr c.1 c.2 x.1 u/\jz w ro pr cs x.2 r
def nP (P:Program)(w:World)(ro pr:Nat->Prop):(pk:PK)->pk.den->Value->List Nat->Prop
 |.rd a,x,v,r=>r=[]/\∃ y,dg a.isAgg v y/\Rd w ro a x y
 |.own a,x,v,r=>∃ y,dg a.isAgg v y/\Mx w ro a none 0 x y r
 |.io a,x,v,r=>∃ y,dg a.isAgg v y/\Mx w ro a none 0 x y r
 |.rref a,x,v,r=>r=[]/\gP w ro pr false a x v
 |.rref2 a,x,v,r=>r=[]/\gP w ro pr true a x v
 |.iop a,x,v,r=>∃ g c E z,v=.pointer (some ⟨g,0,none⟩)/\w.heap[g]?=some (.cells c.toArray E (0,0))/\Mx w ro a none 0 x c z/\r=g::z
 |.fn M B,O,v,r=>r=[]/\ia P w pr M B O v
 |.clo f y,x,v,r=>r=[]/\∃ H:List Value,v=.func (.func f) #[] H.toArray/\jz w ro pr y x H
 |.hol a c off,x,v,r=>∃ y u z I E e J,dg a.isAgg v y/\Mx w ro a (some c) 0 x.1 y z/\y[c]?=some u/\bd c a 0 x.1=some ⟨E,e,J⟩/\OwB w ro (some (x.2,off)) E e J u I/\∀ k,r.count k=z.count k+I.count k
def db (P:Program)(w:World)(ro pr:Nat->Prop):(ps:List PK)->ab ps->List Value->List (List Nat)->Prop
 |[],_,z,u=>z=[]/\u=[]
 |p::ps,x,z,u=>∃ v y b r,z=v::y/\u=b::r/\nP P w ro pr p x.1 v b/\db P w ro pr ps x.2 y r
def jo (w:World)(G:Nat->Prop)(a:Ty)(x:a.den)(ptr:Bool)(v:Value)(bs:List Nat):Prop :=
 if ptr=true then ∃ g c E r,v=.pointer (some ⟨g,0,none⟩)/\w.heap[g]?=some (.cells c.toArray E (0,0))/\Mx w G a none 0 x c r/\bs=g::r
 else ∃ u,dg a.isAgg v u/\Mx w G a none 0 x u bs
def bM (w:World)(G:Nat->Prop):(ps:List PK)->ah ps->List Value->List (List Nat)->Prop
 |.io a::ps,o,v::u,b::r=>jo w G a o.1 false v b/\bM w G ps o.2 u r
 |.iop a::ps,o,v::u,b::r=>jo w G a o.1 true v b/\bM w G ps o.2 u r
 |.rd _::ps,o,_::u,b::r=>b=[]/\bM w G ps o u r
 |.own _::ps,o,_::u,b::r=>b=[]/\bM w G ps o u r
 |.rref _::ps,o,_::u,b::r=>b=[]/\bM w G ps o u r
 |.rref2 _::ps,o,_::u,b::r=>b=[]/\bM w G ps o u r
 |.fn _ _::ps,o,_::u,b::r=>b=[]/\bM w G ps o u r
 |.clo _ _::ps,o,_::u,b::r=>b=[]/\bM w G ps o u r
 |.hol _ _ _::ps,o,_::u,b::r=>b=[]/\bM w G ps o u r
 |[],_,[],[]=>True
 |_,_,_,_=>False
def pX (w:World)(G ro:Nat->Prop):(r:RK)->r.den->Value->List Nat->Prop
 |.v a,y,v,u=>∃ z,dg a.isAgg v z/\Mx w G a none 0 y z u
 |.bv a,y,v,u=>u=[]/\∃ z,dg a.isAgg v z/\Rd w (λk=>G k\/ro k) a y z
 |.box a,y,v,u=>∃ g c E H,v=.pointer (some ⟨g,0,none⟩)/\w.heap[g]?=some (.cells c.toArray E (0,0))/\Mx w G a none 0 y c H/\u=g::H
def gx (w:World)(G ro:Nat->Prop):(M:List RK)->ai M->List Value->List (List Nat)->Prop
 |[],_,J,H=>J=[]/\H=[]
 |r::M,y,J,H=>∃ u I b z,J=u::I/\H=b::z/\pX w G ro r y.1 u b/\gx w G ro M y.2 I z
def se:List Value->Value->Prop
 |[u],v=>v=u
 |r,v=>v=.tuple r.toArray
def pY (w w':World)(r:List Nat)(k:Nat):Prop:=k<w'.heap.size/\(w.heap.size<=k\/k∈r)
def tu (c:Ctr)(w:World)(ro:Nat->Prop)(I:List Value)(u:List (List Nat))(y:ai c.rs×ah c.ps)(e:Ending)(w':World):Prop :=
 ∃ (v:Value) (H:List Value) (N:Nat->Prop) (r z:List (List Nat)),e=.returned v/\se H v/\w.heap.size<=w'.heap.size/\w'.os=w.os/\w'.tape=w.tape/\w'.output=w.output /\
  (∀ k,k<w.heap.size->k∉u.flatten->w'.heap[k]?=w.heap[k]?)/\(∀ k,N k->pY w w' u.flatten k) /\
  bM w' (λk=>N k\/(c.fresh=false/\ro k)) c.ps y.2 I r/\gx w' (λk=>N k\/(c.fresh=false/\ro k)) ro c.rs y.1 H z /\
  (r.flatten++z.flatten).Nodup/\∀ k∈r.flatten++z.flatten,pY w w' u.flatten k/\¬ N k
def bQ (P:Program)(c:Ctr):Prop :=
 fP P c.f/\∀ (w:World) (ro:Nat->Prop) (x:ab c.ps) (u:List Value) (r:List (List Nat)) (y:ai c.rs×ah c.ps),
  db P w ro (λk=>k<w.heap.size/\k∉r.flatten) c.ps x u r->(∀ k,ro k->k<w.heap.size/\k∉r.flatten)->r.flatten.Nodup->c.den x=some y ->
  Calls P c.f u.toArray w (tu c w ro u r y)
section
variable {P:Program} {V:Env} {Γ:List Ctr} {T:TypeId->TI} {st:St} {o:Oper} {R:Type} {κ:Upd->Option R} {r:R}
theorem ia.mono {w0:World}{S H:Nat->Prop}(J:∀ k,S k->H k){y:List Ty}{B:Ty}{I:Tup y->Option B.den}{v:Value}(h:ia P w0 S y B I v):ia P w0 H y B I v:=by
 obtain⟨f,u,e,Y,M⟩:=h;exact⟨f,u,e,Y,λw1 O X=>M w1 O (λk z=>X k (J k z))⟩
theorem ia.move {w0 w:World}{S J:Nat->Prop}(z:w0.heap.size<=w.heap.size)(I:∀ k,S k->J k/\w.heap[k]?=w0.heap[k]?){H:List Ty}{B:Ty}{M:Tup H->Option B.den}{v:Value}
  (h:ia P w0 S H B M v):ia P w J H B M v:=by
 obtain⟨f,u,e,Z,O⟩:=h;exact⟨f,u,e,Z,λw1 X Y=>O w1 (CE z X) (λk y=>(Y k (I k y).1).trans (I k y).2)⟩
theorem gP.carry {w w1:World}{ro ro' pr H:Nat->Prop}(y:∀ k,ro k->ro' k/\w1.heap[k]?=w.heap[k]?)(u:∀ k,pr k->H k/\w1.heap[k]?=w.heap[k]?){I:Bool}{a:Ty}{x:a.den}{v:Value}(h:gP w ro pr I a x v):gP w1 ro' H I a x v:=by
 unfold gP at h ⊢;split at h
 ·rename_i Y;rw[if_pos Y];obtain⟨b,ob,g,o,c,X,J,O,M,h7,Z⟩:=h;exact⟨b,ob,g,o,c,X,(u b J).1,by rw[kw (u b J).2];exact O,(u g M).1,h7.carry (λk z=>(y k z).1) (λk z=>(y k z).2),Z.same (u g M).2⟩
 ·rename_i Y;rw[if_neg Y];obtain⟨g,o,c,X,J,O,M⟩:=h;exact⟨g,o,c,X,(u g J).1,O.carry (λk z=>(y k z).1) (λk z=>(y k z).2),M.same (u g J).2⟩
theorem jz.carry {w w1:World}{ro ro' pr y:Nat->Prop}(H:∀ k,ro k->ro' k/\w1.heap[k]?=w.heap[k]?)(z:∀ k,pr k->y k/\w1.heap[k]?=w.heap[k]?):∀ {cs:List (Bool×Ty)} {x:lI cs} {us:List Value},jz w ro pr cs x us->jz w1 ro' y cs x us
 |[],_,_,h=>h
 |_::_,_,_,⟨u,I,e,M,J⟩=>⟨u,I,e,M.carry H z,jz.carry H z J⟩
theorem nP.mono {w:World}{ro ro' pr O:Nat->Prop}(y:∀ k,ro k->ro' k)(J:∀ k,pr k->O k):∀ {pk:PK} {x:pk.den} {v:Value} {bs:List Nat},nP P w ro pr pk x v bs->nP P w ro' O pk x v bs
 |.rd _,_,_,_,⟨e,M,H,z⟩=>⟨e,M,H,z.mono y⟩
 |.own _,_,_,_,⟨M,H,z⟩=>⟨M,H,z.mono y⟩
 |.io _,_,_,_,⟨M,H,z⟩=>⟨M,H,z.mono y⟩
 |.rref _,_,_,_,⟨e,h⟩=>⟨e,h.carry (λk I=>⟨y k I,rfl⟩) (λk I=>⟨J k I,rfl⟩)⟩
 |.rref2 _,_,_,_,⟨e,h⟩=>⟨e,h.carry (λk I=>⟨y k I,rfl⟩) (λk I=>⟨J k I,rfl⟩)⟩
 |.iop _,_,_,_,⟨g,c,E,Y,H,z,X,Z⟩=>⟨g,c,E,Y,H,z,X.mono y,Z⟩
 |.fn _ _,_,_,_,⟨e,h⟩=>⟨e,ia.mono J h⟩
 |.clo _ _,_,_,_,⟨e,us,H,z⟩=>⟨e,us,H,z.carry (λk I=>⟨y k I,rfl⟩) (λk I=>⟨J k I,rfl⟩)⟩
 |.hol _ _ _,_,_,_,⟨M,u,Y,b1,E,e,xs,H,z,X,Z,h5,h6⟩=>⟨M,u,Y,b1,E,e,xs,H,z.mono y,X,Z,h5.carry y (λ_ _=>rfl) (λ_ _=>rfl),h6⟩
theorem db.mono {w:World}{ro ro' pr u:Nat->Prop}(z:∀ k,ro k->ro' k)(y:∀ k,pr k->u k):∀ {ps:List PK} {x:ab ps} {M:List Value} {H:List (List Nat)},db P w ro pr ps x M H->db P w ro' u ps x M H
 |[],_,_,_,h=>h
 |_::_,_,_,_,⟨v,J,b,I,Z,X,Y,O⟩=>⟨v,J,b,I,Z,X,Y.mono z y,db.mono z y O⟩
def jI (V:Env)(W:Wit)(st:St)(ks:List (Nat×Nat))(u:List Nat)(k:Nat):Prop:=W.nw k\/V.prot k\/(∃ b∈u,live st b/\W.β b=k)\/∃ x∈ks,k∈W.bs x.1 x.2
theorem kJ {W:Wit}{H I:List (Nat×Nat)}{y z:List Nat}(h:∀ x∈H,x∈I)(M:∀ b∈y,b∈z):∀ k,jI V W st H y k->jI V W st I z k:=by
 rintro k (u|u|⟨b,O,u⟩|⟨x,J,u⟩)
 ·exact .inl u
 ·exact .inr (.inl u)
 ·exact .inr (.inr (.inl ⟨b,M b O,u⟩))
 ·exact .inr (.inr (.inr ⟨x,h x J,u⟩))
theorem iV {W:Wit}{p q:Bool}{z y:List (Nat×Nat)}(H:p=true->q=true)(h:∀ x∈z,x∈y):∀ k,bm V W p z k->bm V W q y k:=by
 rintro k (u|⟨x,I,u⟩)
 ·exact .inl (bU (W':=W) H (λ_ h=>h) k u)
 ·exact .inr ⟨x,h x I,u⟩
theorem gy {agg:Bool}{v:Value}{cs:List Value}(h:ee (bh agg) v cs):dg agg v cs:=by
 cases agg <;> exact h
theorem m8 {W:Wit}{a:Act}{w:World}(h:ap P V W st a w){l:Leaf}{ls:List Leaf}{v:Value}(hl:aJ P V W st w [] l v)(y:target st l=some ls)(ks:List (Nat×Nat))(M:List Nat)(J:∀ b∈ff [l],b∈M) :
  ∃ g o cs,v=.pointer (some ⟨g,o,none⟩)/\jI V W st ks M g/\aB P V W st w ls cs/\cZ w g o cs:=by
 unfold target at y;split at y
 ·rename_i b;cases X:decide ((st b).sh=.agg) with
  |false=>simp[X]at y
  |true =>
   simp only[X,cond_true,BA]at y;subst y;obtain⟨hB,O,z⟩:=hl;rcases h.boxes b hB with ⟨Y,_⟩|⟨_,E,Y⟩
   ·rw[O]at Y;cases Y
   ·exact⟨W.β b,0,W.cs b,z,.inr (.inr (.inl ⟨b,J b (by simp[ff]),⟨hB,O⟩,rfl⟩)),iv h b,λi v z=>by
     rw[CN,cell_of_row w (W.β b) i _ E (0,0) Y];simpa using z⟩
 ·rename_i p a x;simp only[BA]at y;subst y;obtain⟨g,Z,c,z,hg,H,hc⟩:=hl;rw[CC]at z;exact⟨g,Z,c,z,hg.elim .inl (λh=>.inr (.inl h)),eT (λ_ h=>h) H,hc⟩
 ·rename_i p a x;simp only[BA]at y;subst y;obtain⟨b,ob,g,Z,c,z,X,I,hg,H,hc⟩:=hl;refine⟨b,ob,[.pointer (some ⟨g,Z,none⟩)],z,X.elim .inl (λh=>.inr (.inl h)),⟨⟨⟨g,Z,c,rfl,hg,H,hc⟩,id,rfl⟩,trivial⟩,λi u hi=>?_⟩;cases i with
  |zero=>simp at hi;subst hi;exact I
  |succ i=>simp at hi
 ·cases y
theorem gQ {W:Wit}{w:World}{x:aH×List Leaf}{l:Leaf}{v:Value}{cs:List Value}(y:ee x.1 v cs)(z:aB P V W st w x.2 cs)(u:co x=l)(H:l≠.dead) :
  aJ P V W st w [] l v/\v.oneCell'=true:=by
 unfold co at u;split at u
 ·rename_i I;subst u;have y:cs=[v]:=y;subst y;exact⟨z.1.1,z.1.2.2⟩
 ·exact absurd u.symm H
theorem m9 {W:Wit}{a:Act}{w:World}(h:ap P V W st a w){c:Bool×Ty}{l:Leaf}{v:Value}(hl:aJ P V W st w [] l v){g:Got c.2.den}(H:fg st c l=some g) :
  gP w (bm V W g.p g.frz) (jI V W st g.frz g.see) c.1 c.2 g.val v/\(∀ z∈g.frz,aA st z)/\g.kill=[]/\g.lend=[]:=by
 unfold fg at H;cases hc:c.1 with
 |true =>
  rw[hc]at H;simp only[cond_true]at H;split at H
  ·rename_i l' ht;split at H
   ·rename_i Z a0;simp only[BB]at H;obtain⟨⟨p,y⟩,hy,rfl⟩:=H;obtain⟨g,o',cs,hv,Y,I,X⟩:=m8 h hl ht (bz st Z) (ff [l,l']) (λb M=>by
     cases l <;> simp[ff]at M ⊢ <;> exact .inl M)
    match cs,I with
    |[u],I =>
     obtain⟨g2,o2,a1,a3,a2,O,a4⟩:=m8 h I.1.1 a0 (bz st Z) (ff [l,l']) (λb M=>by
      cases l <;> cases l' <;> simp[ff]at M ⊢ <;> first|exact M|exact .inr M)
     have J:=X 0 u rfl;rw[CC,a3]at J;refine⟨?_,λz hz=>ei O hz,rfl,rfl⟩;unfold gP;rw[if_pos rfl];exact⟨g,o',g2,o2,a1,hv,Y,J,a2,ey h O hy,a4⟩
   ·cases H
  ·cases H
 |false =>
  rw[hc]at H;simp only[cond_false]at H;split at H
  ·rename_i Z ht;simp only[BB]at H;obtain⟨⟨p,y⟩,hy,rfl⟩:=H;obtain⟨g,o',cs,hv,Y,I,X⟩:=m8 h hl ht (bz st Z) (ff [l]) (λb M=>M);refine⟨?_,λz hz=>ei I hz,rfl,rfl⟩;unfold gP;rw[if_neg (by simp)];exact⟨g,o',cs,hv,Y,ey h I hy,X⟩
  ·cases H
theorem mm {W:Wit}{a:Act}{w:World}(h:ap P V W st a w):∀ {cs:List (Bool×Ty)} {ls:List Leaf} {us:List Value} {g:Got (lI cs)},aB P V W st w ls us->cC st cs ls=some g ->
  jz w (bm V W g.p g.frz) (jI V W st g.frz g.see) cs g.val us/\(∀ z∈g.frz,aA st z)/\g.kill=[]/\g.lend=[]
 |[],[],us,g,J,y=>by
  simp only[cC,BA]at y;subst y;cases us with
  |nil=>exact⟨rfl,by simp,rfl,rfl⟩
  |cons=>exact J.elim
 |[],_::_,_,_,_,y=>by simp[cC]at y
 |_::_,[],_,_,_,y=>by simp[cC]at y
 |c::cs,l::ls,us,g,J,y=>by
  cases us with
  |nil=>exact J.elim
  |cons u us =>
   simp only[cC]at y;split at y
   ·rename_i g1 O;split at y
    ·rename_i g2 M;simp only[BA]at y;subst y;obtain⟨h1,Y,h3,h4⟩:=m9 h J.1.1 O;obtain⟨X,h6,h7,h8⟩:=mm h J.2 M;refine⟨⟨u,us,rfl,h1.carry (λk I=>⟨iV (by intro h;simp[h]) (λx H=>BJ _ H) k I,rfl⟩) (λk I=>⟨kJ (λx H=>BJ _ H) (λx H=>BJ _ H) k I,rfl⟩),
      X.carry (λk I=>⟨iV (by intro h;simp[h]) (λx H=>BE _ H) k I,rfl⟩) (λk I=>⟨kJ (λx H=>BE _ H) (λx H=>BE _ H) k I,rfl⟩)⟩,?_,rfl,rfl⟩
     intro z Z;exact (BL.1 Z).elim (Y z) (h6 z)
    ·cases y
   ·cases y
theorem wb {W:Wit}{w:World}{c:Bool×Bool×(a:Ty)×a.den}{v:Value}(h:iK V W w c v):aJ P V W st w [] (eM c) v/\¬ an (eM c)/\v.oneCell'=true:=by
 unfold iK at h;unfold eM;split at h
 ·rename_i u;rw[u];refine⟨h,id,?_⟩;obtain⟨b,I,g,H,z,y,_⟩:=h;rw[y];rfl
 ·rename_i u;have u:c.2.1=false:=by simpa using u
  rw[u];refine⟨h,id,?_⟩;obtain⟨g,H,z,y,_⟩:=h;rw[y];rfl
theorem qE {W:Wit}{w:World}{caps:List (Bool×Bool×(a:Ty)×a.den)}{us:List Value}(H:us.length=caps.length)(h:∀ (i:Nat) (c:Bool×Bool×(a:Ty)×a.den) (u:Value),caps[i]?=some c->us[i]?=some u->iK V W w c u) :
  aB P V W st w (caps.map eM) us :=
 aB.mk (by simp[H]) λj l v y z=>by
  rw[List.getElem?_map,BB]at y;obtain⟨c,I,rfl⟩:=y;exact wb (h j c v I z)
theorem pZ {W:Wit}{w:World}:∀ (caps:List Nat),(∀ b∈caps,B0<=b/\(st b).sh=.agg)->aB P V W st w (caps.map λb=>Leaf.bp b 0) (caps.map λb=>Value.pointer (some ⟨W.β b,0,none⟩))
 |[],_=>trivial
 |b::caps,h=>⟨⟨⟨(h b (BW ..)).1,(h b (BW ..)).2,rfl⟩,id,rfl⟩,pZ caps (λq u=>h q (BP _ u))⟩
theorem na {off:Nat}{E:TypeId}{e:Ty}{X:List e.den}:∀ {a:Ty} {pos:Nat} {x z:a.den},bN off E e X a pos x=some z->(∃ y,bd off a pos x=some ⟨E,e,y⟩)/\bd off a pos z=some ⟨E,e,X⟩
 |.pair a b,pos,x,z,h=>by
  simp only[bN]at h;split at h
  ·rename_i u J;simp only[BA]at h;subst h;obtain⟨⟨y,O⟩,M⟩:=na J;exact⟨⟨y,by simp only[bd,O]⟩,by simp only[bd,M]⟩
  ·rename_i hn;simp only[BB]at h;obtain⟨u,J,rfl⟩:=h;have Y:=Mx.back.set_in J;obtain⟨⟨y,O⟩,M⟩:=na J;have H:bd off a pos x.1=none:=by
    cases hg:bd off a pos x.1 with
    |none=>rfl
    |some u=>have:=gw hg;omega
   exact⟨⟨y,by simp only[bd,H,O]⟩,by simp only[bd,H,M]⟩
 |.list m E' e',pos,Z,z,h=>by
  simp only[bN]at h;cases I:m&&BT pos off with
  |false=>simp[I]at h
  |true =>
   rw[I]at h;simp only[cond_true]at h;obtain⟨rfl,rfl,rfl⟩:=jD h;exact⟨⟨Z,by simp[bd,I]⟩,by simp[bd,I]⟩
 |.int _,_,_,_,h=>by simp[bN]at h
 |.bool,_,_,_,h=>by simp[bN]at h
 |.str,_,_,_,h=>by simp[bN]at h
 |.unit,_,_,_,h=>by simp[bN]at h
 |.hdr,_,_,_,h=>by simp[bN]at h
theorem Mx.refill {w:World}{G:Nat->Prop}{off:Nat}{E:TypeId}{e:Ty}{ys:List e.den}{u:Value}(Y:u.oneCell'=true):∀ {a:Ty} {pos:Nat} {x z:a.den} {cs:List Value} {bs:List Nat},Mx w G a (some off) pos x cs bs->bN off E e ys a pos x=some z ->
  Mx w G a (some off) pos z (cs.set (off-pos) u) bs
 |.pair a b,pos,x,z,cs,bs,⟨c1,c2,Z,b2,e1,e2,O,M⟩,h=>by
  have hl:=O.len;simp only[bN]at h;split at h
  ·rename_i y J;simp only[BA]at h;subst h;have X:=Mx.back.set_in J;refine⟨c1.set (off-pos) u,c2,Z,b2,?_,e2,Mx.refill Y O J,M⟩;rw[e1,List.set_append_left _ _ (by omega)]
  ·simp only[BB]at h;obtain⟨y,J,rfl⟩:=h;have X:=Mx.back.set_in J;refine⟨c1,c2.set (off-(pos+a.cells)) u,Z,b2,?_,e2,O,Mx.refill Y M J⟩;rw[e1,List.set_append_right _ _ (by omega),hl,show off-pos-a.cells=off-(pos+a.cells) by omega]
 |.list m E' e',pos,xs,z,cs,bs,H,h=>by
  simp only[bN]at h;cases I:m&&BT pos off with
  |false=>simp[I]at h
  |true =>
   simp only[BC]at I;obtain⟨rfl,I⟩:=I;have I:=BI I;subst I;rw[i8]at H ⊢;obtain⟨v,rfl,O,M⟩:=H;exact⟨u,by simp,Y,M⟩
 |.int _,_,_,_,_,_,_,h=>by simp[bN]at h
 |.bool,_,_,_,_,_,_,h=>by simp[bN]at h
 |.str,_,_,_,_,_,_,h=>by simp[bN]at h
 |.unit,_,_,_,_,_,_,h=>by simp[bN]at h
 |.hdr,_,_,_,_,_,_,h=>by simp[bN]at h
theorem aB.setNil {W:Wit}{w:World}{ls:List Leaf}{cs:List Value}(I:aB P V W st w ls cs)(c:Nat):aB P V W st w (aR ls c .nil) (cs.set c (.slice none 0 0)):=by
 have u:=I.length;refine aB.mk (by simp[aR,u]) λj l v z y=>?_
 rcases aQ _ _ _ _ _ z with ⟨rfl,rfl,J⟩|⟨H,z⟩
 ·rw[CT (by omega)]at y;simp only[BA]at y;subst y;exact⟨rfl,id,rfl⟩
 ·rw[CL (CM H)]at y;exact I.at_ j l v z y
def wc (P:Program)(V:Env)(W:Wit)(st:St)(w:World)(pk:PK)(v:Value)(g:Got pk.den):Prop :=
 (∃ u,nP P w (bm V W g.p g.frz) (jI V W st g.frz g.see) pk g.val v u/\u=g.lend.map W.β++aW W g.kill)/\(∀ z∈g.frz,aA st z)/\(∀ z∈g.kill,aA st z)/\(∀ b∈g.lend,live st b)
theorem nc (hV:ay V){W:Wit}{a:Act}{w:World}(h:ap P V W st a w){pk:PK}{x:aH×List Leaf}{v:Value}{cs:List Value}(hs:ee x.1 v cs)(hl:aB P V W st w x.2 cs)
  {g:Got pk.den} (u:bg st pk x=some g):wc P V W st w pk v g:=by
 obtain⟨sh,ls⟩:=x;have Y:∀ {b:Ty} {g:Got b.den},(bif decide (sh=bh b.isAgg) then (cj st b ls).map (λt=>(⟨t.p,t.val,t.frz,t.kill,[],[]⟩:Got b.den)) else none)=some g ->
   (∃ cs,dg b.isAgg v cs/\Mx w (bm V W g.p g.frz) b none 0 g.val cs (aW W g.kill))/\g.lend=[]/\g.see=[]/\(∀ z∈g.frz,aA st z)/\(∀ z∈g.kill,aA st z):=by
  intro b g hq;cases I:decide (sh=bh b.isAgg) with
  |false=>simp[I]at hq
  |true =>
   rw[I]at hq;simp only[cond_true,BB]at hq;have X:=of_decide_eq_true I;subst X;obtain⟨t,ht,rfl⟩:=hq;obtain⟨M,J,O⟩:=dP (pos:=0) h hl ht;exact⟨⟨cs,gy hs,M⟩,rfl,rfl,J,O⟩
 cases pk with
 |rd b =>
  simp only[bg]at u;cases I:decide (sh=bh b.isAgg) with
  |false=>simp[I]at u
  |true =>
   rw[I]at u;simp only[cond_true,BB]at u;have X:=of_decide_eq_true I;subst X;obtain⟨⟨p,y⟩,hy,rfl⟩:=u;exact⟨⟨[],⟨rfl,cs,gy hs,ey h hl hy⟩,rfl⟩,λz hz=>ei hl hz,by simp[Got.ofRd],by simp[Got.ofRd]⟩
 |own b =>
  obtain⟨M,J,O,Z,h5⟩:=Y u;exact⟨⟨_,M,by rw[J];rfl⟩,Z,h5,by rw[J];simp⟩
 |io b =>
  obtain⟨M,J,O,Z,h5⟩:=Y u;exact⟨⟨_,M,by rw[J];rfl⟩,Z,h5,by rw[J];simp⟩
 |iop b =>
  simp only[bg]at u;split at u
  ·rename_i q hx;cases I:decide ((st q).sh=.agg) with
   |false=>simp[I]at u
   |true =>
    simp only[I,cond_true,BB]at u;obtain⟨t,ht,rfl⟩:=u;obtain⟨H,hv⟩:=gQ hs hl hx (by simp);obtain⟨hB,a6,a9⟩:=H;rcases h.boxes q hB with ⟨h8,_⟩|⟨_,E,h8⟩
    ·rw[a6]at h8;cases h8
    ·obtain⟨M,J,O⟩:=dP (pos:=0) h (iv h q) ht;exact⟨⟨_,⟨W.β q,W.cs q,E,_,a9,h8,M,rfl⟩,rfl⟩,J,O,λb' X=>by simp at X;subst X;exact⟨hB,a6⟩⟩
  ·cases u
 |rref b =>
  simp only[bg]at u;have hd:co (sh,ls)≠.dead:=by
   intro e;rw[e]at u;simp[fg,target]at u
  obtain⟨H,hv⟩:=gQ hs hl rfl hd;obtain⟨M,J,O,Z⟩:=m9 (c:=(false,b)) h H u;exact⟨⟨[],⟨rfl,M⟩,by rw[O,Z];rfl⟩,J,by rw[O];simp,by rw[Z];simp⟩
 |rref2 b =>
  simp only[bg]at u;have hd:co (sh,ls)≠.dead:=by
   intro e;rw[e]at u;simp[fg,target]at u
  obtain⟨H,hv⟩:=gQ hs hl rfl hd;obtain⟨M,J,O,Z⟩:=m9 (c:=(true,b)) h H u;exact⟨⟨[],⟨rfl,M⟩,by rw[O,Z];rfl⟩,J,by rw[O];simp,by rw[Z];simp⟩
 |fn As B =>
  simp only[bg]at u;split at u
  ·rename_i As' B' φ hx;obtain⟨H,hv⟩:=gQ hs hl hx (by simp);split at u
   ·rename_i hh;obtain⟨rfl,rfl⟩:=hh;simp only[BA]at u;subst u;have hf:ia P V.w0 V.prot As' B' φ v:=H;exact⟨⟨[],⟨rfl,ia.move h.size (λk hk=>⟨.inr (.inl hk),h.keep k hk⟩) hf⟩,rfl⟩,by simp,by simp,by simp⟩
   ·cases u
  ·cases u
 |clo f b6 =>
  simp only[bg]at u;split at u
  ·rename_i f' a2 hx;cases I:BT f' f with
   |false=>simp[I]at u
   |true =>
    simp only[I,cond_true]at u;have I:=BI I;subst I;obtain⟨H,hv⟩:=gQ hs hl hx (by simp);obtain⟨M,J⟩:=H;obtain⟨O,Z,h5,h6⟩:=mm h (pZ a2 J) u;exact⟨⟨[],⟨rfl,_,M,O⟩,by rw[h5,h6];rfl⟩,Z,by rw[h5];simp,by rw[h6];simp⟩
  ·rename_i f' a2 hx;cases I:BT f' f with
   |false=>simp[I]at u
   |true =>
    simp only[I,cond_true]at u;have I:=BI I;subst I;obtain⟨H,hv⟩:=gQ hs hl hx (by simp);obtain⟨us,M,J,h7⟩:=H;obtain⟨O,Z,h5,h6⟩:=mm h (qE J h7) u;exact⟨⟨[],⟨rfl,us,M,O⟩,by rw[h5,h6];rfl⟩,Z,by rw[h5];simp,by rw[h6];simp⟩
  ·cases u
 |hol b c off =>
  simp only[bg]at u;cases I:decide (sh=bh b.isAgg) with
  |false=>simp[I]at u
  |true =>
   rw[I]at u;simp only[cond_true]at u;have X:=of_decide_eq_true I;subst X;split at u
   ·rename_i r' j n a0;split at u
    ·rename_i p i o' E e xs hd;cases a1:BT o' off with
     |false=>simp[a1]at u
     |true =>
      rw[a1]at u;simp only[cond_true]at u;have a1:=BI a1;subst a1;split at u
      ·rename_i t ht;split at u
       ·rename_i y hy;simp only[BA]at u;subst u;have a5:ls[c]?=some (.al r' j n):=by
         rw[CB]at a0;cases hq:ls[c]? with
         |none=>rw[hq]at a0;simp at a0
         |some l0=>rw[hq]at a0;simp at a0;rw[a0]
        have a4:c<cs.length:=by rw[<- hl.length];exact (BD.1 a5).1
        have a3:=BS a4;obtain⟨H,_,a7⟩:=hl.at_ c _ _ a5 a3;obtain⟨_,ad,b2,_⟩:=kc h hd H;obtain⟨M,J,O⟩:=dP (pos:=0) h (hl.setNil c) ht;obtain⟨⟨b9,a8⟩,b3⟩:=na hy;obtain⟨v0,bn,b0,g1,g2,g3,g4⟩:=M.out a8;have b1:bn=[]:=by
         simp only[Cn,CT a4,BA]at g2;obtain⟨b4,ba,q1,q2,_⟩:=g1;obtain⟨A,b5,q4,_⟩:=q1.slice;rw[<- g2]at q2 q4;simp only[B5]at q4;rw[q2,<- q4.2.1];rfl
        have g5:=Mx.refill a7 g3 hy;simp only[Cn,List.set_set,List.set_getElem_self]at g5;refine⟨⟨_,⟨cs,cs[c],b0,W.bs r' j,E,e,xs,gy hs,g5.mono (iV (by intro h;simp[h]) (λ_ h=>h)),a3,b3,
         ad.2.carry (λk hk=>.inl (bU (W':=W) (by intro h;simp[h]) (λ_ h=>h) k hk)) (λ_ _=>rfl) (λ_ _=>rfl),λk=>?_⟩,rfl⟩,J,?_,by simp⟩
        ·have:=g4 k;rw[b1]at this;simp only[C7,DT];rw[show aW W ((r',j)::t.kill)=W.bs r' j++aW W t.kill from rfl,BF,this];simp;omega
        ·intro z hz;rcases CO.1 hz with rfl|hz
         ·exact⟨_,b2,trivial⟩
         ·exact O z hz
       ·cases u
      ·cases u
    ·cases u
   ·cases u
end
section
variable {P:Program} {V:Env} {Γ:List Ctr} {T:TypeId->TI} {st:St} {o:Oper} {R:Type} {κ:Upd->Option R} {r:R}
def gS (P:Program)(V:Env)(W:Wit)(st:St)(w:World):List (aH×List Leaf)->List Value->Prop
 |[],y=>y=[]
 |x::H,y=>∃ v u z,y=v::u/\ee x.1 v z/\aB P V W st w x.2 z/\gS P V W st w H u
theorem kp {W:Wit}{w:World}{ga:(pk:PK)->aH×List Leaf->Option (Got pk.den)}
  (H:∀ (pk:PK) (x:aH×List Leaf) (v:Value) (cs:List Value) (g:Got pk.den),ee x.1 v cs->aB P V W st w x.2 cs->ga pk x=some g->wc P V W st w pk v g) :
  ∀ (ps:List PK) (xs:List (aH×List Leaf)) (X:List Value) (g:Got (ab ps)),gS P V W st w xs X->bc ga ps xs=some g ->
   (∃ I,db P w (bm V W g.p g.frz) (jI V W st g.frz g.see) ps g.val X I/\∀ k,I.flatten.count k=(g.lend.map W.β).count k+(aW W g.kill).count k) /\
    (∀ z∈g.frz,aA st z)/\(∀ z∈g.kill,aA st z)/\(∀ b∈g.lend,live st b)
 |[],[],X,g,u,y=>by
  simp only[bc,BA]at y;subst y;exact⟨⟨[],⟨u,rfl⟩,λk=>by simp[aW]⟩,by simp,by simp,by simp⟩
 |[],_::_,_,_,_,y=>by simp[bc]at y
 |_::_,[],_,_,_,y=>by simp[bc]at y
 |p::ps,x::xs,X,g,u,y=>by
  obtain⟨v,O,cs,rfl,hs,hl,J⟩:=u;simp only[bc]at y;split at y
  ·rename_i g1 a0;split at y
   ·rename_i g2 Z;simp only[BA]at y;subst y;obtain⟨⟨b,h1,h2⟩,h3,h4,h5⟩:=H p x v cs g1 hs hl a0;obtain⟨⟨I,h6,h7⟩,h8,h9,Y⟩:=kp H ps xs O g2 J Z;refine⟨⟨b::I,⟨v,O,b,I,rfl,rfl,h1.mono (iV (by intro h;simp[h]) (λx u=>BJ _ u)) (kJ (λx u=>BJ _ u) (λx u=>BJ _ u)),
     h6.mono (iV (by intro h;simp[h]) (λx u=>BE _ u)) (kJ (λx u=>BE _ u) (λx u=>BE _ u))⟩,λk=>?_⟩,?_,?_,?_⟩
    ·rw[BX,BF,h7 k,h2,BF,DP,BF,dL,BF];omega
    ·intro z M;exact (BL.1 M).elim (h3 z) (h8 z)
    ·intro z M;exact (BL.1 M).elim (h4 z) (h9 z)
    ·intro z M;exact (BL.1 M).elim (h5 z) (Y z)
   ·cases y
  ·cases y
theorem nd:∀ {Γ:List Ctr} {f:FuncId} {c:Ctr},lJ Γ f=some c->c∈Γ/\c.f=f
 |[],_,_,h=>by simp[lJ]at h
 |H::Γ,f,c,h=>by
  simp only[lJ]at h;cases u:BT H.f f with
  |true =>
   simp only[u,cond_true,BA]at h;subst h;exact⟨BW ..,BI u⟩
  |false =>
   simp only[u,cond_false]at h;obtain⟨y,z⟩:=nd h;exact⟨BP _ y,z⟩
theorem tv {w:World}{G pr:Nat->Prop}{q:List PK}{z:ab q}{cv:List Value}{H:List (List Nat)}(J:db P w G pr q z cv H):∀ (y:List Ty) (x:Tup y) (u:List Value),r8 w G y x u ->
  db P w G pr (y.map .rd++q) (nC q z y x) (u++cv) (y.map (λ_=>[])++H)
 |[],_,_,h=>by rw[show _=_ from h];exact J
 |a::y,x,_,⟨v,c,I,rfl,X,M,O⟩=>⟨v,I++cv,[],_,rfl,rfl,⟨rfl,c,X,M⟩,tv J y x.2 I O⟩
theorem p6 {w:World}{ro pr:Nat->Prop}:∀ {ps:List PK} {x:ab ps} {J:List Value} {u:List (List Nat)},ps.all PK.reads=true->db P w ro pr ps x J u->u.flatten=[]
 |[],_,_,_,_,⟨_,e⟩=>by rw[e];rfl
 |p::ps,_,_,_,h,⟨v,H,b,y,_,e,z,I⟩=>by
  simp only[C4,BC]at h;rw[e,BX,p6 h.2 I,Bw];cases p <;> first|exact z.1|simp[PK.reads]at h
theorem p7 {w w1:World}{ro pr ro' z:Nat->Prop}(u:∀ k,ro k->ro' k/\w1.heap[k]?=w.heap[k]?)(y:∀ k,pr k->z k/\w1.heap[k]?=w.heap[k]?):∀ {ps:List PK} {x:ab ps} {Y:List Value} {I:List (List Nat)},
  ps.all PK.reads=true->db P w ro pr ps x Y I->db P w1 ro' z ps x Y I
 |[],_,_,_,_,h=>h
 |p::ps,x,_,_,M,⟨v,X,b,J,e,e2,H,Z⟩=>by
  simp only[C4,BC]at M;refine⟨v,X,b,J,e,e2,?_,p7 u y M.2 Z⟩;cases p with
  |rd a =>
   obtain⟨h0,cs,h3,h4⟩:=H;exact⟨h0,cs,h3,h4.carry (λk O=>(u k O).1) (λk O=>(u k O).2)⟩
  |rref a=>exact⟨H.1,H.2.carry u y⟩
  |rref2 a=>exact⟨H.1,H.2.carry u y⟩
  |_=>simp[PK.reads]at M
theorem mn (z:ay V){W:Wit}{p:Bool}{ks:List (Nat×Nat)}{y:List Nat}:∀ k,bm V W p ks k->jI V W st ks y k:=by
 rintro k ((u|⟨_,u⟩)|u)
 ·exact .inl u
 ·exact .inr (.inl (z.ro k u))
 ·exact .inr (.inr (.inr u))
theorem ru {W:Wit}{ks:List (Nat×Nat)}{y:List Nat}(H:∀ z∈ks,aA st z):∀ k,jI V W st ks y k->cg V W st k:=by
 rintro k (u|u|⟨b,_,O,e⟩|⟨x,M,u⟩)
 ·exact .inl u
 ·exact .inr (.inl u)
 ·exact .inr (.inr (.inl ⟨b,O,e⟩))
 ·obtain⟨l,I,J⟩:=H x M;exact .inr (.inr (.inr ⟨x.1,x.2,l,I,J,u⟩))
theorem sf {W:Wit}{w:World}:∀ {ls:List Leaf} {us:List Value},aB P V W st w ls us->gS P V W st w (ls.map λl=>(aH.one,[l])) us
 |[],[],_=>rfl
 |_::_,_::_,h=>⟨_,_,[_],rfl,rfl,⟨h.1,trivial⟩,sf h.2⟩
theorem xQ (hV:ay V)(hΓ:∀ c∈Γ,bQ P c){W:Wit}{a:Act}{w:World}(h:ap P V W st a w){Y:List Ty}{B:Ty}{f:FuncId}{ls:List Leaf}{us:List Value}{v:Value}(hv:v=.func (.func f) #[] us.toArray)(b4:aB P V W st w ls us)
  {g:Got (Tup Y->Option B.den)} (H:kt Γ st Y B f ls=some g):ia P w (jI V W st g.frz g.see) Y B g.val v/\(∀ z∈g.frz,aA st z)/\g.kill=[]/\g.lend=[]:=by
 unfold kt at H;split at H
 ·rename_i c hc;obtain⟨b0,rfl⟩:=nd hc;obtain⟨a1,J⟩:=hΓ c b0;obtain⟨f',ps,rs,a2,c1⟩:=c;simp only at H a1 J hv;generalize ps.drop Y.length=q at H;unfold rX at H;split at H
  ·rename_i hh;obtain⟨rfl,rfl⟩:=hh;cases hb:q.all PK.reads&&B.flat&&a2 with
   |false=>simp[hb]at H
   |true =>
    simp only[hb,cond_true]at H;simp only[BC]at hb;obtain⟨⟨a9,b9⟩,bx⟩:=hb;subst bx;split at H
    ·rename_i g0 b5;simp only[BA]at H;subst H;obtain⟨⟨a6,h1,h2⟩,h3,h4,h5⟩:=kp (λpk x v cs g hs hl H=>nc hV h hs hl H) q _ _ g0 (sf b4) b5;have bb:=p6 a9 h1;refine⟨⟨f',us.toArray,hv,a1,λw1 b2 O x M y hx hy=>?_⟩,h3,rfl,rfl⟩;simp only[BB]at hy;obtain⟨y0,a7,rfl⟩:=hy;have I:(Y.map (λ_=>([]:List Nat))++a6).flatten=[]:=by
      rw[List.flatten_append,bb,Bw];clear hx a7;induction Y with
      |nil=>rfl
      |cons a Y ih=>simp
     have ad:∀ k,jI V W st g0.frz g0.see k->k<w1.heap.size:=λk Z=>CG (h.used_lt k (ru h3 k Z)) b2
     have a4:=tv (P:=P) (pr:=λk=>k<w1.heap.size/\k∉(Y.map (λ_=>([]:List Nat))++a6).flatten)
      (p7 (P:=P) (w1:=w1) (ro':=λk=>k<w1.heap.size) (λk Z=>⟨ad k (mn hV k Z),O k (mn hV k Z)⟩)
       (λk Z=>⟨⟨ad k Z,by rw[I];simp⟩,O k Z⟩) a9 h1) Y x M hx
     have a0:=J w1 (λk=>k<w1.heap.size) (nC q g0.val Y x) (M++us) (Y.map (λ_=>[])++a6) y0 a4
      (λk Z=>⟨Z,by rw[I];simp⟩) (by rw[I];exact DU) a7
     have a5:M.toArray++us.toArray=(M++us).toArray:=by simp
     rw[a5];refine a0.mono λe w2 a3=>?_
     obtain⟨u,c4,N,c3,c2,rfl,X,b1,bn,b3,b6,ba,_,_,a8,_,_⟩:=a3;obtain⟨u1,cb,b,c0,e1,e2,⟨cs,bl,hm⟩,e3,e4⟩:=a8;subst e3;subst e1;have X:u=u1:=X;subst X;exact⟨u,cs,rfl,bl,jU b9 hm,⟨bn,b3,b6,b1,λk Z=>ba k Z (by rw[I];simp)⟩⟩
    ·cases H
  ·cases H
 ·cases H
theorem ut (Z:ay V)(hΓ:∀ c∈Γ,bQ P c){W:Wit}{a:Act}{w:World}(h:ap P V W st a w)(pk:PK)(x:aH×List Leaf)(v:Value)(cs:List Value)(g:Got pk.den)(X:ee x.1 v cs)(O:aB P V W st w x.2 cs)
  (H:cf Γ st pk x=some g):wc P V W st w pk v g:=by
 cases pk with
 |fn As B =>
  simp only[cf]at H;split at H
  ·rename_i Y z;have J:(∃ u,co x=.clo Y.1 u/\Y.2=u.map λb=>Leaf.bp b 0)\/∃ u,co x=.clr Y.1 u/\Y.2=u.map eM:=by
    generalize co x=l at z;cases l <;> simp only[vi,BA,reduceCtorEq]at z
    ·subst z;exact .inl ⟨_,rfl,rfl⟩
    ·subst z;exact .inr ⟨_,rfl,rfl⟩
   rcases J with ⟨u,J,he⟩|⟨u,J,he⟩
   ·obtain⟨y,_⟩:=gQ X O J (by simp);rw[he]at H;obtain⟨h1,h2,I,M⟩:=xQ Z hΓ h y.1 (pZ u y.2) H;exact⟨⟨[],⟨rfl,h1⟩,by rw[I,M];rfl⟩,h2,by rw[I];simp,by rw[M];simp⟩
   ·obtain⟨y,_⟩:=gQ X O J (by simp);rw[he]at H;obtain⟨us,e1,e2,e3⟩:=y;obtain⟨h1,h2,I,M⟩:=xQ Z hΓ h e1 (qE e2 e3) H;exact⟨⟨[],⟨rfl,h1⟩,by rw[I,M];rfl⟩,h2,by rw[I];simp,by rw[M];simp⟩
  ·exact nc Z h X O H
 |_=>exact nc Z h X O H
end
section
variable {P:Program} {V:Env} {W:Wit} {st st':St} {w w':World} {a:Act}
theorem iH {G:Nat->Prop}{p:Bool}(hG:∀ k,G k->gd V W p k):∀ {b:Ty} {pos:Nat} {x:b.den} {cs:List Value} {bs:List Nat},Mx w G b none pos x cs bs->bs.Nodup ->
  ∃ Z:Nat->List Nat,(aq p b x).length=cs.length /\
   (∀ (j:Nat) (l:Leaf) (u:Value),(aq p b x)[j]?=some l->cs[j]?=some u->aJ P V W st w (Z j) l u) /\
   (∀ (j:Nat) (l:Leaf),(aq p b x)[j]?=some l->an l->∀ k∈Z j,k∈bs) /\
   (∀ (j J:Nat) (l l':Leaf),(aq p b x)[j]?=some l->an l->(aq p b x)[J]?=some l'->an l'->∀ k,k∈Z j->k∈Z J->j=J)
 |.int k,_,x,cs,bs,H,_=>by
  obtain⟨rfl,rfl⟩:=H;exact⟨λ_=>[],rfl,λj l u y R=>by cases j with|zero=>simp[aq]at y R;subst y;subst R;rfl|succ j=>simp[aq]at y,λj l y _ k r=>by simp at r,λj J l l' _ _ _ _ k r=>by simp at r⟩
 |.bool,_,x,cs,bs,H,_=>by
  obtain⟨rfl,rfl⟩:=H;exact⟨λ_=>[],rfl,λj l u y R=>by cases j with|zero=>simp[aq]at y R;subst y;subst R;rfl|succ j=>simp[aq]at y,λj l y _ k r=>by simp at r,λj J l l' _ _ _ _ k r=>by simp at r⟩
 |.str,_,x,cs,bs,H,_=>by
  obtain⟨rfl,rfl⟩:=H;exact⟨λ_=>[],rfl,λj l u y R=>by cases j with|zero=>simp[aq]at y R;subst y;subst R;rfl|succ j=>simp[aq]at y,λj l y _ k r=>by simp at r,λj J l l' _ _ _ _ k r=>by simp at r⟩
 |.unit,_,x,cs,bs,H,_=>by
  obtain⟨rfl,rfl⟩:=H;exact⟨λ_=>[],rfl,λj l u y R=>by simp[aq]at y,λj l y _ k r=>by simp at r,λj J l l' _ _ _ _ k r=>by simp at r⟩
 |.hdr,_,x,cs,bs,H,_=>by
  obtain⟨⟨A,a2,rfl⟩,rfl⟩:=H;exact⟨λ_=>[],rfl,λj l u y R=>by cases j with|zero=>simp[aq]at y R;subst y;subst R;exact⟨A,a2,rfl⟩|succ j=>simp[aq]at y,λj l y _ k r=>by simp at r,λj J l l' _ _ _ _ k r=>by simp at r⟩
 |.pair b c,pos,x,cs,bs,⟨c1,c2,b1,b2,e1,e2,y,R⟩,X=>by
  subst e1;subst e2;rw[CD]at X;obtain⟨d1,f1,f2,f3,f4⟩:=iH hG y X.1;obtain⟨d2,g1,g2,g3,g4⟩:=iH hG R X.2.1;have a5:=cM p b x.1;have a4:=y.len;have I:∀ (j:Nat) (l:Leaf),(aq p b x.1++aq p c x.2)[j]?=some l->(j<b.cells/\(aq p b x.1)[j]?=some l)\/(b.cells<=j/\(aq p c x.2)[j-b.cells]?=some l):=by
   intro j l z;by_cases O:j<b.cells
   ·rw[BH (by omega)]at z;exact .inl ⟨O,z⟩
   ·rw[BG (by omega),a5]at z;exact .inr ⟨by omega,z⟩
  refine⟨λj=>if j<b.cells then d1 j else d2 (j-b.cells),by simp only[aq,BR];omega,λj l u z hu=>?_,λj l z ho k r=>?_,λj J l l' z ho Y a0 k r M=>?_⟩
  ·rcases I j l z with ⟨O,z⟩|⟨a3,z⟩
   ·rw[BH (by omega)]at hu;simp only[if_pos O];exact f2 j l u z hu
   ·rw[BG (by omega),a4]at hu;simp only[if_neg (show ¬ j<b.cells by omega)];exact g2 _ l u z hu
  ·rcases I j l z with ⟨O,z⟩|⟨a3,z⟩
   ·simp only[if_pos O]at r;exact BJ _ (f3 j l z ho k r)
   ·simp only[if_neg (show ¬ j<b.cells by omega)]at r;exact BE _ (g3 _ l z ho k r)
  ·rcases I j l z with ⟨O,z⟩|⟨a3,z⟩ <;> rcases I J l' Y with ⟨a1,Y⟩|⟨a6,Y⟩
   ·simp only[if_pos O]at r;simp only[if_pos a1]at M;exact f4 j J l l' z ho Y a0 k r M
   ·simp only[if_pos O]at r;simp only[if_neg (show ¬ J<b.cells by omega)]at M;exact absurd rfl (X.2.2 k (f3 j l z ho k r) k (g3 _ l' Y a0 k M))
   ·simp only[if_neg (show ¬ j<b.cells by omega)]at r;simp only[if_pos a1]at M;exact absurd rfl (X.2.2 k (f3 J l' Y a0 k M) k (g3 _ l z ho k r))
   ·simp only[if_neg (show ¬ j<b.cells by omega)]at r;simp only[if_neg (show ¬ J<b.cells by omega)]at M;have:=g4 _ _ l l' z ho Y a0 k r M;omega
 |.list m E e,pos,xs,cs,bs,H,X=>by
  cases m with
  |false =>
   rw[cr]at H;obtain⟨rfl,A,a2,rfl,R,h3⟩:=H;refine⟨λ_=>[],rfl,λj l u y h4=>?_,λj l y _ k r=>by simp at r,λj J l l' _ _ _ _ k r=>by simp at r⟩;cases j with
   |zero =>
    simp[aq]at y h4;subst y;subst h4;exact Rd.mono hG (⟨A,a2,rfl,R,h3⟩:Rd w G (.list false E e) xs _)
   |succ j=>simp[aq]at y
  |true =>
   rw[bK (by simp)]at H;obtain⟨v,rfl,hO⟩:=H;refine⟨λ_=>bs,rfl,λj l u y h4=>?_,λj l y _ k r=>r,λj J l l' y _ h3 _ k _ _=>?_⟩
   ·cases j with
    |zero =>
     simp[aq]at y h4;subst y;subst h4;exact⟨X,OwB.shy (hO.carry hG (λ_ _=>rfl) (λ_ _=>rfl))⟩
    |succ j=>simp[aq]at y
   ·have h7:j<1:=by simpa[aq]using (BD.1 y).1
    have h8:J<1:=by simpa[aq]using (BD.1 h3).1
    omega
theorem ap.reown (hV:ay V)(h:ap P V W st a w)(r:Nat)(c:bT)(J:Nat->List Nat)(a3:(st r).ver<c.ver)(a2:c.sh=(st r).sh)(X:c.ls.length=(st r).ls.length)
  (a1:∀ (j:Nat) (l:Leaf) (v:Value),c.ls[j]?=some l->(W.cs r)[j]?=some v->aJ P V W st w (J j) l v)
  (Y:∀ (j:Nat) (l:Leaf),c.ls[j]?=some l->an l->∀ k∈J j,¬ W.nw k/\¬ V.prot k/\(∀ b,live st b->W.β b≠k) /\
   ∀ (r1 j1:Nat) (l1:Leaf),r1≠r->(st r1).ls[j1]?=some l1->an l1->k∉W.bs r1 j1)
  (a4:∀ (j j':Nat) (l l':Leaf),c.ls[j]?=some l->an l->c.ls[j']?=some l'->an l'->∀ k,k∈J j->k∈J j'->j=j') :
  ap P V { W with bs:=λr' j=>if r'=r then J j else W.bs r' j } (ac [(r,c)] st) a w:=by
 have I:∀ b,live (ac [(r,c)] st) b<->live st b:=by
  intro b;rcases aj r b c st with ⟨rfl,e⟩|⟨_,e⟩
  ·simp[live,e,a2]
  ·simp[live,e]
 have Z:cH V W { W with bs:=λr' j=>if r'=r then J j else W.bs r' j } st (ac [(r,c)] st) w w:=by
  refine⟨λq=>?_,λb R=>⟨(I b).2 R,rfl⟩,λ_ h=>h,λ_ _=>rfl,λ_ q j' l' M h4 h5=>?_⟩
  ·rcases aj r q c st with ⟨rfl,e⟩|⟨y,e⟩
   ·rw[e];exact⟨Nat.le_of_lt a3,λ_=>rfl⟩
   ·rw[e];exact⟨BU _,λ_=>rfl⟩
  ·rcases aj r q c st with ⟨rfl,e⟩|⟨y,e⟩
   ·rw[e]at h5;omega
   ·rw[e]at M;exact⟨⟨l',M,h4⟩,by simp[y],λ_ _=>rfl⟩
 exact {
  nt:=h.nt,df:=h.df
  slots:=λt ht=>by
   rcases aj r t c st with ⟨rfl,e⟩|⟨_,e⟩
   ·rw[e,a2];exact h.slots t ht
   ·rw[e];exact h.slots t ht
  boxes:=λb R=>by
   rcases aj r b c st with ⟨rfl,e⟩|⟨_,e⟩
   ·rw[e,a2];rcases h.boxes b R with ⟨h1,z⟩|h1
    ·refine .inl ⟨h1,?_⟩;rw[z]at X;exact BV X
    ·exact .inr h1
   ·rw[e];exact h.boxes b R
  len:=λq=>by
   rcases aj r q c st with ⟨rfl,e⟩|⟨_,e⟩
   ·rw[e,X];exact h.len q
   ·rw[e];exact h.len q
  one:=h.one
  leaf:=λq j l u z M=>by
   rcases aj r q c st with ⟨rfl,e⟩|⟨y,e⟩
   ·rw[e]at z;exact (a1 j l u z M).carry hV.ro Z (λ_=>⟨by simp,λ_ _=>rfl⟩)
   ·rw[e]at z;exact (h.leaf q j l u z M).carry hV.ro Z (λ_=>⟨by simp[y],λ_ _=>rfl⟩)
  ownb:=λq j l z M k O=>by
   rcases aj r q c st with ⟨rfl,e⟩|⟨y,e⟩
   ·rw[e]at z;simp only[if_true]at O;have:=Y j l z M k O;exact⟨this.1,this.2.1,λb R=>this.2.2.1 b ((I b).1 R)⟩
   ·rw[e]at z;simp only[y,if_false]at O;have:=h.ownb q j l z M k O;exact⟨this.1,this.2.1,λb R=>this.2.2 b ((I b).1 R)⟩
  sep:=λq j l q' j' l' z M h4 h5 k O H=>by
   rcases aj r q c st with ⟨e0,e⟩|⟨y,e⟩ <;> rcases aj r q' c st with ⟨e1,e'⟩|⟨a0,e'⟩
   ·rw[e]at z;rw[e']at h4;simp only[e0,if_true]at O;simp only[e1,if_true]at H;exact⟨e0.trans e1.symm,a4 j j' l l' z M h4 h5 k O H⟩
   ·rw[e]at z;rw[e']at h4;simp only[e0,if_true]at O;simp only[a0,if_false]at H;exact absurd H ((Y j l z M k O).2.2.2 q' j' l' a0 h4 h5)
   ·rw[e]at z;rw[e']at h4;simp only[y,if_false]at O;simp only[e1,if_true]at H;exact absurd O ((Y j' l' h4 h5 k H).2.2.2 q j l y z M)
   ·rw[e]at z;rw[e']at h4;simp only[y,if_false]at O;simp only[a0,if_false]at H;exact h.sep q j l q' j' l' z M h4 h5 k O H
  box:=λb R=>h.box b ((I b).1 R)
  inj:=λb b' R a5=>h.inj b b' ((I b).1 R) ((I b').1 a5)
  nwlt:=h.nwlt
  os:=h.os,tape:=h.tape,output:=h.output,size:=h.size,keep:=h.keep
  fixb:=λx hx=>⟨(I _).2 (h.fixb x hx).1,(h.fixb x hx).2⟩
  fixt:=h.fixt }
theorem ap.reownE (hV:ay V)(h:ap P V W st a w)(r:Nat)(c:bT)(J:Nat->List Nat)(a6:r≠EPO)(a3:(st r).ver<=c.ver)(a7:c.sh=(st r).sh)(a1:c.ls.length=(st r).ls.length)
  (a0:∀ (j:Nat) (l:Leaf) (v:Value),c.ls[j]?=some l->(W.cs r)[j]?=some v->aJ P V W st w (J j) l v)
  (X:∀ (j:Nat) (l:Leaf),c.ls[j]?=some l->an l->∀ k∈J j,¬ W.nw k/\¬ V.prot k/\(∀ b,live st b->W.β b≠k) /\
   ∀ (r1 j1:Nat) (l1:Leaf),r1≠r->(st r1).ls[j1]?=some l1->an l1->k∉W.bs r1 j1)
  (a4:∀ (j j':Nat) (l l':Leaf),c.ls[j]?=some l->an l->c.ls[j']?=some l'->an l'->∀ k,k∈J j->k∈J j'->j=j') :
  ap P V { W with bs:=λr' j=>if r'=r then J j else W.bs r' j } (ac [(r,c),(EPO,bV (st EPO))] st) a w /\
   (∀ q,(ac [(r,c),(EPO,bV (st EPO))] st q).sh=(st q).sh/\(st q).ver<=(ac [(r,c),(EPO,bV (st EPO))] st q).ver/\(q≠r->(ac [(r,c),(EPO,bV (st EPO))] st q).ls=(st q).ls))/\ac [(r,c),(EPO,bV (st EPO))] st r=c:=by
 have e0:ac [(r,c),(EPO,bV (st EPO))] st=ac [(r,c)] (ac [(EPO,bV (st EPO))] st):=aO _ _ _ _;generalize hS:ac [(r,c),(EPO,bV (st EPO))] st=S;rw[e0]at hS;have hr:S r=c:=by rw[<- hS,bj]
 have O:∀ q,(S q).sh=(st q).sh/\(st q).ver<=(S q).ver/\(q≠r->(S q).ls=(st q).ls):=by
  intro q;rw[<- hS];rcases aj r q c (ac [(EPO,bV (st EPO))] st) with ⟨rfl,e⟩|⟨a8,e⟩
  ·rw[e];exact⟨a7,a3,λh=>absurd rfl h⟩
  ·rw[e];rcases aj EPO q (bV (st EPO)) st with ⟨rfl,e⟩|⟨_,e⟩ <;> rw[e]
   ·exact⟨rfl,DL _,λ_=>rfl⟩
   ·exact⟨rfl,BU _,λ_=>rfl⟩
 have hE:(st EPO).ver<(S EPO).ver:=by
  rw[<- hS,aI (CM a6),bj];exact BM _
 refine⟨?_,O,hr⟩;have I:∀ b,live S b<->live st b:=λb=>by simp[live,(O b).1]
 have Y:cH V W { W with bs:=λr' j=>if r'=r then J j else W.bs r' j } st S w w :=
  ⟨λq=>⟨(O q).2.1,λ_=>rfl⟩,λb R=>⟨(I b).2 R,rfl⟩,λ_ h=>h,λ_ _=>rfl,λhe=>by omega⟩
 have a2:∀ q,(S q).ls.length=(st q).ls.length:=λq=>by
  by_cases y:q=r
  ·rw[y,hr,a1]
  ·rw[(O q).2.2 y]
 exact {
  nt:=h.nt,df:=h.df
  slots:=λt ht=>by rw[(O t).1];exact h.slots t ht
  boxes:=λb R=>by
   rw[(O b).1];rcases h.boxes b R with ⟨h1,z⟩|h1
   ·refine .inl ⟨h1,BV ?_⟩;rw[a2,z];rfl
   ·exact .inr h1
  len:=λq=>by rw[a2];exact h.len q
  one:=h.one
  leaf:=λq j l u z Z=>by
   by_cases y:q=r
   ·subst y;rw[hr]at z;exact (a0 j l u z Z).carry hV.ro Y (λ_=>⟨by simp,λ_ _=>rfl⟩)
   ·rw[(O q).2.2 y]at z;exact (h.leaf q j l u z Z).carry hV.ro Y (λ_=>⟨by simp[y],λ_ _=>rfl⟩)
  ownb:=λq j l z Z k M=>by
   by_cases y:q=r
   ·subst y;rw[hr]at z;simp only[if_true]at M;have:=X j l z Z k M;exact⟨this.1,this.2.1,λb R=>this.2.2.1 b ((I b).1 R)⟩
   ·rw[(O q).2.2 y]at z;simp only[y,if_false]at M;have:=h.ownb q j l z Z k M;exact⟨this.1,this.2.1,λb R=>this.2.2 b ((I b).1 R)⟩
  sep:=λq j l q' j' l' z Z h4 h5 k M H=>by
   by_cases e0:q=r <;> by_cases e1:q'=r
   ·subst e0;subst e1;rw[hr]at z h4;simp only[if_true]at M H;exact⟨rfl,a4 j j' l l' z Z h4 h5 k M H⟩
   ·subst e0;rw[hr]at z;rw[(O q').2.2 e1]at h4;simp only[if_true]at M;simp only[e1,if_false]at H;exact absurd H ((X j l z Z k M).2.2.2 q' j' l' e1 h4 h5)
   ·subst e1;rw[(O q).2.2 e0]at z;rw[hr]at h4;simp only[e0,if_false]at M;simp only[if_true]at H;exact absurd M ((X j' l' h4 h5 k H).2.2.2 q j l e0 z Z)
   ·rw[(O q).2.2 e0]at z;rw[(O q').2.2 e1]at h4;simp only[e0,if_false]at M;simp only[e1,if_false]at H;exact h.sep q j l q' j' l' z Z h4 h5 k M H
  box:=λb R=>h.box b ((I b).1 R)
  inj:=λb b' R a5=>h.inj b b' ((I b).1 R) ((I b').1 a5)
  nwlt:=h.nwlt
  os:=h.os,tape:=h.tape,output:=h.output,size:=h.size,keep:=h.keep
  fixb:=λx hx=>⟨(I _).2 (h.fixb x hx).1,(h.fixb x hx).2⟩
  fixt:=h.fixt }
theorem ap.nwGrow (R:ay V)(h:ap P V W st a w)(N:Nat->Prop)(M:∀ k,N k->k<w.heap.size/\¬ cg V W st k):ap P V { W with nw:=λk=>W.nw k\/N k } st a w:=by
 have I:cH V W { W with nw:=λk=>W.nw k\/N k } st st w w:=⟨λr=>⟨BU _,λ_=>rfl⟩,λb J=>⟨J,rfl⟩,λ_ h=>.inl h,λ_ _=>rfl,λ_ _ _ l y z _=>⟨⟨l,y,z⟩,rfl,λ_ _=>rfl⟩⟩
 exact {
  nt:=h.nt,df:=h.df,slots:=h.slots,boxes:=h.boxes,len:=h.len,one:=h.one
  leaf:=λr j l v y z=>(h.leaf r j l v y z).carry R.ro I (λ_=>⟨rfl,λ_ _=>rfl⟩)
  ownb:=λr j l y z k u=>⟨λH=>H.elim (h.ownb r j l y z k u).1 (λH=>(M k H).2 (.inr (.inr (.inr ⟨r,j,l,y,z,u⟩)))),(h.ownb r j l y z k u).2⟩
  sep:=h.sep
  box:=λb J=>⟨λH=>H.elim (h.box b J).1 (λH=>(M _ H).2 (.inr (.inr (.inl ⟨b,J,rfl⟩)))),(h.box b J).2⟩
  inj:=h.inj
  nwlt:=λk u=>u.elim (h.nwlt k) (λu=>⟨(M k u).1,λO=>(M k u).2 (.inr (.inl O))⟩)
  os:=h.os,tape:=h.tape,output:=h.output,size:=h.size,keep:=h.keep,fixb:=h.fixb,fixt:=h.fixt }
end
def eK:List Leaf->List Leaf->List (Nat×Nat)
 |.al r j _::y,l::u=>(match l with|.own _ _ _ _ _=>[(r,j)]|_=>[])++eK y u
 |_::y,_::u=>eK y u
 |_,_=>[]
section
variable {P:Program} {V:Env} {st st':St} {w w':World} {a:Act}
theorem ne {x l:Leaf}{xs ls:List Leaf}(h:¬ an l):eK (x::xs) (l::ls)=eK xs ls:=by
 cases x <;> try rfl
 cases l <;> first|exact absurd trivial h|rfl
theorem uW {k:IntKind}{ls:List Leaf}{x:Bool×(Ty.int k).den×List Leaf}(h:aZ st (.int k) ls=some x):∃ l,ls=l::x.2.2:=by
 simp only[aZ]at h;split at h
 ·split at h
  ·simp only[BA]at h;subst h;exact⟨_,rfl⟩
  ·cases h
 ·cases h
theorem tw {ls:List Leaf}{x:Bool×Ty.bool.den×List Leaf}(h:aZ st .bool ls=some x):∃ l,ls=l::x.2.2:=by
 simp only[aZ]at h;split at h
 ·simp only[BA]at h;subst h;exact⟨_,rfl⟩
 ·cases h
theorem uX {ls:List Leaf}{x:Bool×Ty.str.den×List Leaf}(h:aZ st .str ls=some x):∃ l,ls=l::x.2.2:=by
 simp only[aZ]at h;split at h
 ·simp only[BA]at h;subst h;exact⟨_,rfl⟩
 ·cases h
theorem uY {ls:List Leaf}{x:Bool×Ty.hdr.den×List Leaf}(h:aZ st .hdr ls=some x):∃ l,ls=l::x.2.2:=by
 simp only[aZ]at h;split at h
 ·split at h
  ·simp only[BA]at h;subst h;exact⟨_,rfl⟩
  ·cases h
 ·cases h
theorem kZ {p:Bool}:∀ (b:Ty) (ls:List Leaf) (t:cO b.den),take st b ls=some t->∀ (y:b.den) (r:List Leaf),eK ls (aq p b y++r)=t.kill++eK t.rest r
 |.pair b c,ls,t,h,y,r=>by
  simp only[take]at h;split at h
  ·rename_i u J;split at h
   ·rename_i v M;simp only[BA]at h;subst h;simp only[aq];rw[BQ,kZ b ls u J y.1,kZ c u.rest v M y.2,BQ]
   ·cases h
  ·cases h
 |.unit,ls,t,h,y,r=>by
  simp only[take,BA]at h;subst h;rfl
 |.list m E e,ls,t,h,y,r=>by
  cases ls with
  |nil=>simp[take]at h
  |cons l ls =>
   cases m with
   |false =>
    simp only[take,cond_false]at h;split at h
    ·simp only[BA]at h;subst h;exact ne id
    ·cases h
   |true =>
    simp only[take,cond_true]at h;split at h
    ·split at h
     ·simp only[BB]at h;obtain⟨O,_,rfl⟩:=h;rfl
     ·cases h
    ·simp only[BA]at h;subst h;rfl
    ·cases h
 |.int k,ls,t,h,y,r=>scal (b:=.int k) h uW (l':=.int k y) id
 |.bool,ls,t,h,y,r=>scal (b:=.bool) h tw (l':=.bool y) id
 |.str,ls,t,h,y,r=>scal (b:=.str) h uX (l':=.str y) id
 |.hdr,ls,t,h,y,r=>scal (b:=.hdr) h uY (l':=.hdr y) id
where
 scal {b:Ty} {ls:List Leaf} {t:cO b.den} {l':Leaf} {r:List Leaf} (h:(aZ st b ls).map (λx=>(⟨false,x.2.1,[],[],x.2.2⟩:cO b.den))=some t)
   (H:∀ {ls:List Leaf} {x:Bool×b.den×List Leaf},aZ st b ls=some x->∃ l,ls=l::x.2.2) (z:¬ an l'):eK ls ([l']++r)=t.kill++eK t.rest r:=by
  simp only[BB]at h;obtain⟨x,I,rfl⟩:=h;obtain⟨l,rfl⟩:=H I;exact ne z
theorem yS {W W':Wit}{bs:List Nat}{l:Leaf}{v:Value}(u:an l)(y:W'.nw=W.nw)(h:aJ P V W st w bs l v):aJ P V W' st' w bs l v:=by
 cases l <;> simp only[an]at u;exact OwH.carry h (λk r=>by
  rcases r with r|r
  ·exact .inl (by rw[y];exact r)
  ·exact .inr r) (λ_ _=>rfl) (λ_ _=>rfl)
theorem wd {S:St}{x l:Leaf}{xs ls:List Leaf}(h:¬ an l):ac (ce S (x::xs) (l::ls)) S=ac (ce S xs ls) S:=by
 cases x <;> try rfl
 cases l <;> first|exact absurd trivial h|rfl
theorem jJ {x:Nat×Nat}{l:List (Nat×Nat)}(h:aY (x::l)=true):x∉l/\aY l=true:=by
 simp only[aY,BC,BY,B4]at h;exact⟨λr=>by have:=h.1 x r;simp at this,h.2⟩
theorem zr (hV:ay V){W:Wit}{S:St}(h:ap P V W S a w):∀ (xl ls:List Leaf) (cs:List Value) (O:Nat->List Nat),aY (eK xl ls)=true->(∀ x∈eK xl ls,x.1≠EPO)->xl.length=cs.length->ls.length=cs.length ->
  (∀ (i r j n:Nat) (l:Leaf) (u:Value),xl[i]?=some (.al r j n)->ls[i]?=some l->an l->cs[i]?=some u->(W.cs r)[j]?=some u) ->
  (∀ x∈eK xl ls,∀ l,(S x.1).ls[x.2]?=some l->¬ an l) ->
  (∀ (i:Nat) (l:Leaf) (u:Value),ls[i]?=some l->cs[i]?=some u->aJ P V W S w (O i) l u) ->
  (∀ (i:Nat) (l:Leaf),ls[i]?=some l->an l->∀ k∈O i,¬ cg V W S k) ->
  (∀ (i i':Nat) (l l':Leaf),ls[i]?=some l->an l->ls[i']?=some l'->an l'->∀ k,k∈O i->k∈O i'->i=i') ->
  ∃ W',ap P V W' (ac (ce S xl ls) S) a w/\W'.cs=W.cs/\W'.β=W.β/\W'.nw=W.nw/\(∀ q,(ac (ce S xl ls) S q).sh=(S q).sh/\(S q).ver<=(ac (ce S xl ls) S q).ver) /\
   (∀ (q i:Nat),(q,i)∉eK xl ls->(ac (ce S xl ls) S q).ls[i]?=(S q).ls[i]?/\W'.bs q i=W.bs q i) /\
   (∀ k,cg V W' (ac (ce S xl ls) S) k->cg V W S k\/∃ i l,ls[i]?=some l/\an l/\k∈O i)
 |[],ls,cs,O,_,_,hx,hl,_,_,_,_,_=>⟨W,h,rfl,rfl,rfl,λ_=>⟨rfl,BU _⟩,λ_ _ _=>⟨rfl,rfl⟩,λk R=>.inl R⟩
 |x::X,[],cs,O,_,_,hx,hl,_,_,_,_,_=>by simp at hx hl;omega
 |x::X,l::ls,[],O,_,_,hx,hl,_,_,_,_,_=>by simp at hx
 |x::X,l::ls,u::cs,O,hd,b3,hx,hl,b2,b4,a4,a2,a8=>by
  have b0:aY (eK X ls)=true:=by
   cases x with
   |al r j n =>
    cases l with
    |own p hh E e ys=>exact (jJ hd).2
    |_=>exact hd
   |_=>exact hd
  have a9:∀ z∈eK X ls,z∈eK (x::X) (l::ls):=by
   intro z hz;cases x with
   |al r j n=>exact BE _ hz
   |_=>exact hz
  obtain⟨W1,h1,e1,e2,e3,e4,e5,e6⟩:=zr hV h X ls cs (λi=>O (i+1)) b0 (λz hz=>b3 z (a9 z hz)) (by simpa using hx) (by simpa using hl)
   (λi r j n l' u' J I M g4=>b2 (i+1) r j n l' u' (by simpa using J) (by simpa using I) M (by simpa using g4))
   (λz hz=>b4 z (a9 z hz)) (λi l' u' J I=>a4 (i+1) l' u' (by simpa using J) (by simpa using I))
   (λi l' J I=>a2 (i+1) l' (by simpa using J) I)
   (λi i' l1 l2 J I M g4 k g5 g6=>by have:=a8 (i+1) (i'+1) l1 l2 (by simpa using J) I (by simpa using M) g4 k g5 g6;omega)
  by_cases hs:¬ an l\/(∀ r j n,x≠.al r j n)
  ·have a6:ac (ce S (x::X) (l::ls)) S=ac (ce S X ls) S/\eK (x::X) (l::ls)=eK X ls:=by
    rcases hs with hs|hs
    ·exact⟨wd hs,ne hs⟩
    ·cases x with
     |al r j n=>exact absurd rfl (hs r j n)
     |_=>exact⟨rfl,rfl⟩
   rw[a6.1,a6.2];exact⟨W1,h1,e1,e2,e3,e4,e5,λk R=>(e6 k R).imp id λ⟨i,l',J,I,M⟩=>⟨i+1,l',by simpa using J,I,M⟩⟩
  ·simp only[not_or,Classical.not_not]at hs;obtain⟨b9,ba⟩:=hs;obtain⟨r,j,n,rfl⟩:∃ r j n,x=.al r j n:=by
    cases x with
    |al r j n=>exact⟨r,j,n,rfl⟩
    |_=>exact absurd (λ_ _ _ h=>by cases h) ba
   obtain⟨p,hh,E,e,ys,rfl⟩:∃ p hh E e ys,l=.own p hh E e ys:=by
    cases l <;> simp only[an]at b9;exact⟨_,_,_,_,_,rfl⟩
   have b1:eK (.al r j n::X) (.own p hh E e ys::ls)=(r,j)::eK X ls:=rfl;rw[b1]at hd b4;obtain⟨bl,bn⟩:=jJ hd;have hv:=b2 0 r j n _ u rfl rfl trivial rfl;have a6:ac (ce S (.al r j n::X) (.own p hh E e ys::ls)) S=ac [(r,⟨(ac (ce S X ls) S r).ver,(ac (ce S X ls) S r).sh,aR (ac (ce S X ls) S r).ls j (.own p hh E e ys)⟩),(EPO,bV (ac (ce S X ls) S EPO))] (ac (ce S X ls) S):=bB [_,_] _ _;have a7:aJ P V W1 (ac (ce S X ls) S) w (O 0) (.own p hh E e ys) u:=yS trivial e3 (a4 0 _ u rfl rfl);have Y:∀ k∈O 0,¬ cg V W1 (ac (ce S X ls) S) k:=λk R hu=>by
    rcases e6 k hu with hu|⟨i,l',J,I,M⟩
    ·exact a2 0 _ rfl trivial k R hu
    ·have:=a8 0 (i+1) _ l' rfl trivial (by simpa using J) I k R M;omega
   have H:∀ (i:Nat) (l':Leaf),i≠j->(aR (ac (ce S X ls) S r).ls j (.own p hh E e ys))[i]?=some l'->(ac (ce S X ls) S r).ls[i]?=some l':=by
    intro i l' a3 Z;rcases aQ _ _ _ _ _ Z with ⟨rfl,_,_⟩|⟨_,Z⟩
    ·exact absurd rfl a3
    ·exact Z
   have b5:∀ (l':Leaf),(aR (ac (ce S X ls) S r).ls j (.own p hh E e ys))[j]?=some l'->l'=.own p hh E e ys:=by
    intro l' Z;rcases aQ _ _ _ _ _ Z with ⟨_,rfl,_⟩|⟨a3,_⟩
    ·rfl
    ·exact absurd rfl a3
   have bb:r≠EPO:=b3 (r,j) (by rw[b1];exact BW ..);obtain⟨h2,a5,b6⟩:=h1.reownE hV r ⟨(ac (ce S X ls) S r).ver,(ac (ce S X ls) S r).sh,aR (ac (ce S X ls) S r).ls j (.own p hh E e ys)⟩ (λi=>if i=j then O 0 else W1.bs r i) bb (BU _) rfl (by simp[aR])
    (λi l' v' J I=>by
     by_cases y:i=j
     ·subst y;obtain rfl:=b5 l' J;rw[e1,hv]at I;simp only[BA]at I;subst I;simp only[if_true];exact a7
     ·simp only[if_neg y];exact h1.leaf r i l' v' (H i l' y J) I)
    (λi l' J I k R=>by
     by_cases y:i=j
     ·subst y;simp only[if_true]at R;have hu:=Y k R;simp only[cg,not_or,not_exists,not_and]at hu;exact⟨hu.1,hu.2.1,hu.2.2.1,λr1 j1 l1 _ M g4 g5=>hu.2.2.2 r1 j1 l1 M g4 g5⟩
     ·simp only[if_neg y]at R;have Z:=H i l' y J;have h9:=h1.ownb r i l' Z I k R;exact⟨h9.1,h9.2.1,h9.2.2,λr1 j1 l1 a3 M g4 g5=>a3 (h1.sep r i l' r1 j1 l1 Z I M g4 k R g5).1.symm⟩)
    (λi i' l1 l2 J I M g4 k R a1=>by
     by_cases y:i=j <;> by_cases a0:i'=j
     ·omega
     ·subst y;simp only[if_true]at R;simp only[if_neg a0]at a1;exact absurd (.inr (.inr (.inr ⟨r,i',l2,H i' l2 a0 M,g4,a1⟩))) (Y k R)
     ·subst a0;simp only[if_true]at a1;simp only[if_neg y]at R;exact absurd (.inr (.inr (.inr ⟨r,i,l1,H i l1 y J,I,R⟩))) (Y k a1)
     ·simp only[if_neg y]at R;simp only[if_neg a0]at a1;exact (h1.sep r i l1 r i' l2 (H i l1 y J) I (H i' l2 a0 M) g4 k R a1).2)
   rw[a6];refine⟨_,h2,e1,e2,e3,λq=>?_,λq i hq=>?_,λk R=>?_⟩
   ·exact⟨(a5 q).1.trans (e4 q).1,CE (e4 q).2 (a5 q).2.1⟩
   ·rw[b1]at hq;simp only[CO,not_or]at hq;by_cases ad:q=r
    ·subst ad;rw[b6];have y:j≠i:=λe0=>hq.1 (by rw[e0])
     simp only[aR];rw[CL y];refine⟨(e5 q i hq.2).1,?_⟩;simp only[if_true,if_neg (CM y)];exact (e5 q i hq.2).2
    ·rw[(a5 q).2.2 ad];refine⟨(e5 q i hq.2).1,?_⟩;show (if q=r then _ else W1.bs q i)=_;rw[if_neg ad];exact (e5 q i hq.2).2
   ·rcases R with R|R|⟨b,hb,R⟩|⟨q,i,l',J,I,M⟩
    ·exact .inl (.inl (by rw[<- e3];exact R))
    ·exact .inl (.inr (.inl R))
    ·refine (e6 k (.inr (.inr (.inl ⟨b,?_,R⟩)))).imp id λ⟨i,l',J,I,M⟩=>⟨i+1,l',by simpa using J,I,M⟩
     exact (iy (λq=>(a5 q).1) b).1 hb
    ·by_cases hq:q=r
     ·subst hq;rw[b6]at J;simp only[if_true]at M;by_cases y:i=j
      ·subst y;simp only[if_true]at M;exact .inr ⟨0,_,rfl,trivial,M⟩
      ·simp only[if_neg y]at M;exact (e6 k (.inr (.inr (.inr ⟨q,i,l',H i l' y J,I,M⟩)))).imp id λ⟨i,l',J,I,M⟩=>⟨i+1,l',by simpa using J,I,M⟩
     ·rw[(a5 q).2.2 hq]at J;simp only[if_neg hq]at M;exact (e6 k (.inr (.inr (.inr ⟨q,i,l',J,I,M⟩)))).imp id λ⟨i,l',J,I,M⟩=>⟨i+1,l',by simpa using J,I,M⟩
end
def PK.isIop:PK->Bool
 |.iop _=>true
 |_=>false
section
variable {P:Program} {V:Env} {Γ:List Ctr} {st st':St} {w w':World} {a:Act}
theorem kK:∀ {a b:List (Nat×Nat)},aY (a++b)=true->aY a=true/\aY b=true/\∀ x∈a,x∉b
 |[],b,h=>⟨rfl,h,by simp⟩
 |x::a,b,h=>by
  obtain⟨u,I⟩:=jJ h;obtain⟨X,O,M⟩:=kK I;refine⟨?_,O,λy r z=>?_⟩
  ·simp only[aY,BC,BY,B4];refine⟨λy r R=>u (BJ _ ?_),X⟩;obtain⟨J,H⟩:x.1=y.1/\x.2=y.2:=by simpa using R
   rw[show x=y from Db J H];exact r
  ·rcases CO.1 r with rfl|r
   ·exact u (BE _ z)
   ·exact M y r z
theorem j8 {p:Bool}:∀ (b:Ty) (ls:List Leaf) (t:cO b.den),take st b ls=some t->∀ (y:b.den) (i r j n:Nat) (l:Leaf),ls[i]?=some (.al r j n)->(aq p b y)[i]?=some l->an l->(st r).ver=n
 |.pair b c,ls,t,h,y,i,r,j,n,l,J,z,I=>by
  simp only[take]at h;split at h
  ·rename_i u M;split at h
   ·rename_i v O;simp only[aq]at z;have R:=cM p b y.1;by_cases hi:i<b.cells
    ·rw[BH (by omega)]at z;exact j8 b ls u M y.1 i r j n l J z I
    ·rw[BG (by omega),R]at z;have Y:=take_rest b ls u M;refine j8 c u.rest v O y.2 (i-b.cells) r j n l ?_ z I;rw[Y,CP,show b.cells+(i-b.cells)=i by omega];exact J
   ·cases h
  ·cases h
 |.list m E e,ls,t,h,y,i,r,j,n,l,J,z,I=>by
  cases m with
  |false =>
   cases i with
   |zero=>simp[aq]at z;subst z;exact I.elim
   |succ i=>simp[aq]at z
  |true =>
   cases i with
   |succ i=>simp[aq]at z
   |zero =>
    cases ls with
    |nil=>simp at J
    |cons l' ls =>
     simp only[CQ,BA]at J;subst J;simp only[take,cond_true]at h;split at h
     ·rename_i Z;exact (eZ Z (by simp)).1
     ·cases h
 |.int k,ls,t,h,y,i,r,j,n,l,J,z,I=>by
  cases i with
  |zero=>simp[aq]at z;subst z;exact I.elim
  |succ i=>simp[aq]at z
 |.bool,ls,t,h,y,i,r,j,n,l,J,z,I=>by
  cases i with
  |zero=>simp[aq]at z;subst z;exact I.elim
  |succ i=>simp[aq]at z
 |.str,ls,t,h,y,i,r,j,n,l,J,z,I=>by
  cases i with
  |zero=>simp[aq]at z;subst z;exact I.elim
  |succ i=>simp[aq]at z
 |.hdr,ls,t,h,y,i,r,j,n,l,J,z,I=>by
  cases i with
  |zero=>simp[aq]at z;subst z;exact I.elim
  |succ i=>simp[aq]at z
 |.unit,ls,t,h,y,i,r,j,n,l,J,z,I=>by simp[aq]at z
where
 take_rest:∀ (b:Ty) (ls:List Leaf) (t:cO b.den),take st b ls=some t->t.rest=ls.drop b.cells
  |.pair b c,ls,t,h=>by
   simp only[take]at h;split at h
   ·rename_i u M;split at h
    ·rename_i v O;simp only[BA]at h;subst h;show v.rest=_;rw[take_rest c u.rest v O,take_rest b ls u M,List.drop_drop];rfl
    ·cases h
   ·cases h
  |.unit,ls,t,h=>by
   simp only[take,BA]at h;subst h;rfl
  |.list m E e,ls,t,h=>by
   cases ls with
   |nil=>simp[take]at h
   |cons l ls =>
    cases m with
    |false =>
     simp only[take,cond_false]at h;split at h
     ·simp only[BA]at h;subst h;rfl
     ·cases h
    |true =>
     simp only[take,cond_true]at h;split at h
     ·split at h
      ·simp only[BB]at h;obtain⟨xs,_,rfl⟩:=h;rfl
      ·cases h
     ·simp only[BA]at h;subst h;rfl
     ·cases h
  |.int k,ls,t,h=>sc (b:=.int k) h uW rfl
  |.bool,ls,t,h=>sc (b:=.bool) h tw rfl
  |.str,ls,t,h=>sc (b:=.str) h uX rfl
  |.hdr,ls,t,h=>sc (b:=.hdr) h uY rfl
 sc {b:Ty} {ls:List Leaf} {t:cO b.den} (h:(aZ st b ls).map (λx=>(⟨false,x.2.1,[],[],x.2.2⟩:cO b.den))=some t)
   (H:∀ {ls:List Leaf} {x:Bool×b.den×List Leaf},aZ st b ls=some x->∃ l,ls=l::x.2.2) (J:b.cells=1):t.rest=ls.drop b.cells:=by
  simp only[BB]at h;obtain⟨x,X,rfl⟩:=h;obtain⟨l,rfl⟩:=H X;rw[J];rfl
theorem we {agg:Bool}{v:Value}{z y:List Value}(u:dg agg v z)(r:dg agg v y):z=y:=by
 unfold dg at u r;cases agg with
 |true =>
  simp only[if_true]at u r;rw[u]at r;simpa using r
 |false =>
  simp only[Bool.false_eq_true,if_false]at u r;rw[u,r]
theorem qF (hV:ay V){W0 W:Wit}{S0 S:St}{w0:World}{G:Nat->Prop}{p:Bool}(a3:W.cs=W0.cs)(hG:∀ k,G k->gd V W p k)(h:ap P V W S a w) :
  ∀ (ps:List PK) (xs:List (aH×List Leaf)) (vs:List Value) (g:Got (ab ps)) (o:ah ps) (H:List (List Nat)),gS P V W0 S0 w0 xs vs->bc (cf Γ S0) ps xs=some g->ps.any PK.isIop=false ->
  bM w G ps o vs H->aY g.kill=true->(∀ x∈g.kill,x.1≠EPO)->(∀ x∈g.kill,∀ l,(S x.1).ls[x.2]?=some l->¬ an l)->(∀ k∈H.flatten,¬ cg V W S k)->H.flatten.Nodup ->
  ∃ W',ap P V W' (ac (aG S p ps xs o) S) a w/\W'.cs=W.cs/\W'.β=W.β/\W'.nw=W.nw/\(∀ q,(ac (aG S p ps xs o) S q).sh=(S q).sh/\(S q).ver<=(ac (aG S p ps xs o) S q).ver) /\
   (∀ q i,(q,i)∉g.kill->(ac (aG S p ps xs o) S q).ls[i]?=(S q).ls[i]?/\W'.bs q i=W.bs q i)/\(∀ k,cg V W' (ac (aG S p ps xs o) S) k->cg V W S k\/k∈H.flatten)
 |[],xs,vs,g,o,H,_,_,_,_,_,_,_,_,_=>⟨W,h,rfl,rfl,rfl,λ_=>⟨rfl,BU _⟩,λ_ _ _=>⟨rfl,rfl⟩,λk R=>.inl R⟩
 |pk::ps,[],vs,g,o,H,_,hg,_,_,_,_,_,_,_=>by simp[bc]at hg
 |pk::ps,x::xs,vs,g,o,H,hx,hg,hp,ho,hd,a4,a5,O,a0=>by
  obtain⟨v,a6,cs,rfl,hs,hl,a1⟩:=hx;simp only[bc]at hg;split at hg
  ·rename_i g1 a2;split at hg
   ·rename_i g2 b0;simp only[BA]at hg;subst hg;simp only[CW,Cy]at hp;obtain⟨b3,ad,b5⟩:=kK hd;have J:∀ (o':ah ps) (b:List Nat) (M:List (List Nat)),H=b::M->b=[]->bM w G ps o' a6 M->aG S p (pk::ps) (x::xs) o=aG S p ps xs o' ->
      ∃ W',ap P V W' (ac (aG S p (pk::ps) (x::xs) o) S) a w/\W'.cs=W.cs/\W'.β=W.β/\W'.nw=W.nw/\(∀ q,(ac (aG S p (pk::ps) (x::xs) o) S q).sh=(S q).sh/\(S q).ver<=(ac (aG S p (pk::ps) (x::xs) o) S q).ver) /\
       (∀ q i,(q,i)∉g1.kill++g2.kill->(ac (aG S p (pk::ps) (x::xs) o) S q).ls[i]?=(S q).ls[i]?/\W'.bs q i=W.bs q i)/\(∀ k,cg V W' (ac (aG S p (pk::ps) (x::xs) o) S) k->cg V W S k\/k∈H.flatten):=by
     intro o' b M e1 e2 b2 e3;subst e1;subst e2;rw[e3];obtain⟨W1,f1,f2,f3,f4,f5,f6,f7⟩:=qF hV a3 hG h ps xs a6 g2 o' M a1 b0 hp.2 b2 ad (λz Z=>a4 z (BE _ Z)) (λz Z=>a5 z (BE _ Z)) (λk R=>O k (by simpa using R)) (by simpa using a0);exact⟨W1,f1,f2,f3,f4,f5,λq i hq=>f6 q i (λhm=>hq (BE _ hm)),λk R=>(f7 k R).imp id (λhm=>by simpa using hm)⟩
    cases pk with
    |io b =>
     match H,ho with
     |Y::M,⟨y,I⟩ =>
      simp only[BX]at a0 O;rw[CD]at a0;obtain⟨W1,f1,f2,f3,f4,f5,f6,f7⟩:=qF hV a3 hG h ps xs a6 g2 o.2 M a1 b0 hp.2 I ad (λz Z=>a4 z (BE _ Z)) (λz Z=>a5 z (BE _ Z)) (λk R=>O k (BE _ R)) a0.2.1;simp only[cf,bg]at a2;cases hb:decide (x.1=bh b.isAgg) with
      |false=>simp[hb]at a2
      |true =>
       rw[hb]at a2;simp only[cond_true,BB]at a2;obtain⟨t,ht,rfl⟩:=a2;rw[of_decide_eq_true hb]at hs;unfold jo at y;rw[if_neg (by simp)]at y;obtain⟨a7,b4,hm⟩:=y;have:=we b4 (gy hs);subst this;obtain⟨b6,m1,m2,m3,m4⟩:=iH (P:=P) (V:=V) (W:=W1) (st:=ac (aG S p ps xs o.2) S) (p:=p) (λk R=>by
        rcases hG k R with R|R
        ·exact .inl (by rw[f4];exact R)
        ·exact .inr R) hm a0.1
       unfold cj at ht;split at ht
       ·rename_i p0 x0 f0 k0 a8;simp only[BA]at ht;subst ht;have X:=kZ (p:=p) b x.2 _ a8 o.1 [];simp only[Bw]at X;have X:eK x.2 (aq p b o.1)=k0:=by
         rw[X];show k0++eK [] []=k0;simp[eK]
        obtain⟨W2,q1,q2,q3,q4,q5,q6,q7⟩:=zr hV f1 x.2 (aq p b o.1) a7 b6 (by rw[X];exact b3) (λz Z=>a4 z (BJ _ (by rw[X]at Z;exact Z))) hl.length m1
         (λi r j n l u g3 g4 g5 g6=>by
          have h5:=(hl.at_ i _ u g3 g6).1;rw[f2,a3];exact h5.2 (j8 b x.2 _ a8 o.1 i r j n l g3 g4 g5))
         (λz Z l a9=>by
          rw[X]at Z;rw[(f6 z.1 z.2 (b5 z Z)).1]at a9;exact a5 z (BJ _ Z) l a9)
         m2
         (λi l g3 g4 k R hu=>by
          have b1:=m3 i l g3 g4 k R;rcases f7 k hu with hu|hu
          ·exact O k (BJ _ b1) hu
          ·exact a0.2.2 k b1 k hu rfl) m4
        have b9:ac (aG S p (.io b::ps) (x::xs) o) S=ac (ce (ac (aG S p ps xs o.2) S) x.2 (aq p b o.1)) (ac (aG S p ps xs o.2) S):=bB _ _ _;rw[b9];rw[X]at q6;refine⟨W2,q1,q2.trans f2,q3.trans f3,q4.trans f4,λq=>⟨(q5 q).1.trans (f5 q).1,CE (f5 q).2 (q5 q).2⟩,λq i hq=>?_,λk R=>?_⟩
        ·simp only[BL,not_or]at hq;exact⟨(q6 q i hq.1).1.trans (f6 q i hq.2).1,(q6 q i hq.1).2.trans (f6 q i hq.2).2⟩
        ·rcases q7 k R with R|⟨i,l,g3,g4,g5⟩
         ·exact (f7 k R).imp id (λhm=>BE _ hm)
         ·exact .inr (BJ _ (m3 i l g3 g4 k g5))
       ·cases ht
    |iop b=>simp[PK.isIop]at hp
    |rd b =>
     match H,ho with
     |Y::M,⟨y,I⟩=>exact J o Y M rfl y I rfl
    |own b =>
     match H,ho with
     |Y::M,⟨y,I⟩=>exact J o Y M rfl y I rfl
    |rref b =>
     match H,ho with
     |Y::M,⟨y,I⟩=>exact J o Y M rfl y I rfl
    |rref2 b =>
     match H,ho with
     |Y::M,⟨y,I⟩=>exact J o Y M rfl y I rfl
    |fn As B =>
     match H,ho with
     |Y::M,⟨y,I⟩=>exact J o Y M rfl y I rfl
    |clo f a7 =>
     match H,ho with
     |Y::M,⟨y,I⟩=>exact J o Y M rfl y I rfl
    |hol b cc off =>
     match H,ho with
     |Y::M,⟨y,I⟩=>exact J o Y M rfl y I rfl
   ·cases hg
  ·cases hg
end
section
variable {P:Program} {V:Env} {W:Wit} {st:St} {w:World} {a:Act}
theorem oi {G ro:Nat->Prop}{p q:Bool}{ks:List (Nat×Nat×Nat)}{ep:Nat}(hG:∀ k,G k->gd V W p k)(d n:Nat) :
  ∀ (O:List RK) (y:ai O) (us:List Value) (Z:List (List Nat)),
  (O.any RK.isBv=true->(∀ k,G k\/ro k->gd V W q k\/∃ x∈ks,k∈W.bs x.1 x.2.1)/\ep<=(st EPO).ver/\(∀ k∈ks,k.2.2<=(st k.1).ver))->gx w G ro O y us Z->O.all RK.isV=true->Z.flatten.Nodup ->
  (bE d n p q ks ep O y).2=[]/\∃ (cs:List Value) (a2:Nat->List Nat),pm ((bE d n p q ks ep O y).1.map λx=>(x.1,x.2.length)) us cs/\(((bE d n p q ks ep O y).1.map (·.2)).flatten).length=cs.length/\(∀ u∈cs,u.oneCell'=true) /\
   (∀ (j:Nat) (l:Leaf) (u:Value),(((bE d n p q ks ep O y).1.map (·.2)).flatten)[j]?=some l->cs[j]?=some u->aJ P V W st w (a2 j) l u) /\
   (∀ (j:Nat) (l:Leaf),(((bE d n p q ks ep O y).1.map (·.2)).flatten)[j]?=some l->an l->∀ k∈a2 j,k∈Z.flatten) /\
   (∀ (j Y:Nat) (l l':Leaf),(((bE d n p q ks ep O y).1.map (·.2)).flatten)[j]?=some l->an l->(((bE d n p q ks ep O y).1.map (·.2)).flatten)[Y]?=some l'->an l'->∀ k,k∈a2 j->k∈a2 Y->j=Y)
 |[],y,us,Z,_,⟨e1,e2⟩,_,_=>by
  subst e1;subst e2;exact⟨rfl,[],λ_=>[],⟨rfl,rfl⟩,rfl,by simp,λj l u h1 h2=>by simp at h2,λj l h1 h2 k J=>by simp at J,λj Y l l' _ _ _ _ k J=>by simp at J⟩
 |r::O,y,us,Z,hB,⟨u0,a8,b,a7,e1,e2,hr,a4⟩,hv,a0=>by
  subst e1;subst e2;simp only[C4,BC]at hv;rw[BX,CD]at a0;obtain⟨f0,a5,d2,f1,f2,ad,f3,f4,f5⟩:=oi (ks:=ks) (q:=q) (ep:=ep) hG d n O y.2 a8 a7 (λhb=>hB (by simp[hb])) a4 hv.2 a0.2.1;obtain⟨agg,L,I,d1,g0,b1,g1,g2,a9,g3,g4,g5⟩:∃ (agg:Bool) (L:List Leaf) (I:List Value) (d1:Nat->List Nat),(pg d n p q ks ep r y.1).1=(agg,L)/\(pg d n p q ks ep r y.1).2=[]/\dg agg u0 I/\L.length=I.length/\(∀ u∈I,u.oneCell'=true) /\
    (∀ (j:Nat) (l:Leaf) (u:Value),L[j]?=some l->I[j]?=some u->aJ P V W st w (d1 j) l u)/\(∀ (j:Nat) (l:Leaf),L[j]?=some l->an l->∀ k∈d1 j,k∈b) /\
    (∀ (j Y:Nat) (l l':Leaf),L[j]?=some l->an l->L[Y]?=some l'->an l'->∀ k,k∈d1 j->k∈d1 Y->j=Y):=by
   cases r with
   |v c =>
    obtain⟨I,h1,h2⟩:=hr;obtain⟨d1,m1,m2,m3,m4⟩:=iH (P:=P) (V:=V) (W:=W) (st:=st) (p:=p) hG h2 a0.1;exact⟨c.isAgg,_,I,d1,rfl,rfl,h1,m1,h2.one,m2,m3,m4⟩
   |bv c =>
    obtain⟨_,I,h1,h2⟩:=hr;obtain⟨b3,b5,b0⟩:=hB (by simp[RK.isBv]);have h3:=jO (P:=P) (V:=V) (W:=W) (st:=st) (p:=q) b5 b0 (h2.mono b3);exact⟨c.isAgg,_,I,λ_=>[],rfl,rfl,h1,h3.length,h2.one,λj l u g1 g2=>(h3.at_ j l u g1 g2).1,λj l _ _ k J=>by simp at J,λj Y l l' _ _ _ _ k J=>by simp at J⟩
   |box c=>simp[RK.isV]at hv
  have b4:(bE d n p q ks ep (r::O) y).1=(agg,L)::(bE d n p q ks ep O y.2).1:=by simp only[bE,g0]
  have b2:(bE d n p q ks ep (r::O) y).2=[]:=by simp only[bE,b1,f0,Bw]
  rw[b4];simp only[Da,BX];have H:∀ (j:Nat) (l:Leaf),(L++((bE d n p q ks ep O y.2).1.map (·.2)).flatten)[j]?=some l->(j<L.length/\L[j]?=some l)\/(L.length<=j/\(((bE d n p q ks ep O y.2).1.map (·.2)).flatten)[j-L.length]?=some l):=by
   intro j l z;by_cases M:j<L.length
   ·rw[BH M]at z;exact .inl ⟨M,z⟩
   ·rw[BG (by omega)]at z;exact .inr ⟨by omega,z⟩
  refine⟨b2,I++a5,λj=>if j<L.length then d1 j else d2 (j-L.length),⟨u0,a8,I,a5,rfl,rfl,g2.symm,g1,f1⟩,by rw[BR,BR,g2,f2],λu hu=>(BL.1 hu).elim (a9 u) (ad u),λj l u z hu=>?_,λj l z ho k J=>?_,λj Y l l' z ho X a1 k J R=>?_⟩
  ·rcases H j l z with ⟨M,z⟩|⟨a6,z⟩
   ·rw[BH (by omega)]at hu;simp only[if_pos M];exact g3 j l u z hu
   ·rw[BG (by omega),<- g2]at hu;simp only[if_neg (show ¬ j<L.length by omega)];exact f3 _ l u z hu
  ·rcases H j l z with ⟨M,z⟩|⟨a6,z⟩
   ·simp only[if_pos M]at J;exact BJ _ (g4 j l z ho k J)
   ·simp only[if_neg (show ¬ j<L.length by omega)]at J;exact BE _ (f4 _ l z ho k J)
  ·rcases H j l z with ⟨M,z⟩|⟨a6,z⟩ <;> rcases H Y l' X with ⟨a3,X⟩|⟨b6,X⟩
   ·simp only[if_pos M]at J;simp only[if_pos a3]at R;exact g5 j Y l l' z ho X a1 k J R
   ·simp only[if_pos M]at J;simp only[if_neg (show ¬ Y<L.length by omega)]at R;exact absurd rfl (a0.2.2 k (g4 j l z ho k J) k (f4 _ l' X a1 k R))
   ·simp only[if_neg (show ¬ j<L.length by omega)]at J;simp only[if_pos a3]at R;exact absurd rfl (a0.2.2 k (g4 Y l' X a1 k R) k (f4 _ l z ho k J))
   ·simp only[if_neg (show ¬ j<L.length by omega)]at J;simp only[if_neg (show ¬ Y<L.length by omega)]at R;have:=f5 _ _ l l' z ho X a1 k J R;omega
theorem Bi {l:List (Bool×List Leaf)}{us cs:List Value}{v:Value}(n:Nat)(h:pm (l.map λx=>(x.1,x.2.length)) us cs)(y:se us v) :
  ee (eN n l).sh v cs/\(eN n l).ls=(l.map (·.2)).flatten/\(eN n l).ver=n:=by
 match l,us,h with
 |[],_,⟨H,z⟩ =>
  subst H;subst z;exact⟨⟨[],y,rfl,rfl⟩,rfl,rfl⟩
 |[(agg,L)],_,⟨u,r,c,X,H,z,h1,R,O,Y⟩ =>
  subst H;subst z;subst O;subst Y;have y:v=u:=y;subst y;refine⟨?_,by simp[eN],rfl⟩;simp only[eN,Bw];exact jZ R
 |x::x'::l,us,h =>
  refine⟨?_,rfl,rfl⟩;have J:∃ u M r,us=u::M::r:=by
   obtain⟨u,r,_,_,H,_,_,_,Z,I,_,_,z,_⟩:=h;exact⟨u,Z,I,by rw[H,z]⟩
  obtain⟨u,M,r,rfl⟩:=J;exact⟨_,y,h⟩
end
section
variable {P:Program} {V:Env} {Γ:List Ctr} {st:St} {w:World} {a:Act}
theorem yT {pk:PK}{x:aH×List Leaf}{g:Got pk.den}(r:cf Γ st pk x=some g)(Y:pk.isIop=false):g.lend=[]:=by
 cases pk with
 |iop b=>simp[PK.isIop]at Y
 |rd b =>
  simp only[cf,bg]at r;cases u:decide (x.1=bh b.isAgg) with
  |false=>simp[u]at r
  |true=>rw[u]at r;simp only[cond_true,BB]at r;obtain⟨y,_,rfl⟩:=r;rfl
 |own b =>
  simp only[cf,bg]at r;cases u:decide (x.1=bh b.isAgg) with
  |false=>simp[u]at r
  |true=>rw[u]at r;simp only[cond_true,BB]at r;obtain⟨y,_,rfl⟩:=r;rfl
 |io b =>
  simp only[cf,bg]at r;cases u:decide (x.1=bh b.isAgg) with
  |false=>simp[u]at r
  |true=>rw[u]at r;simp only[cond_true,BB]at r;obtain⟨y,_,rfl⟩:=r;rfl
 |rref b=>exact cap (c:=(false,b)) r
 |rref2 b=>exact cap (c:=(true,b)) r
 |fn R B =>
  simp only[cf]at r;split at r
  ·unfold kt at r;split at r
   ·unfold rX at r;split at r
    ·rename_i c _ hh;cases u:(c.ps.drop R.length).all PK.reads&&B.flat&&c.fresh with
     |false=>rw[u]at r;cases r
     |true =>
      rw[u]at r;simp only[cond_true]at r;split at r
      ·simp only[BA]at r;subst r;rfl
      ·cases r
    ·cases r
   ·cases r
  ·simp only[bg]at r;split at r
   ·split at r
    ·simp only[BA]at r;subst r;rfl
    ·cases r
   ·cases r
 |hol b Z off =>
  simp only[cf,bg]at r;cases u:decide (x.1=bh b.isAgg) with
  |false=>simp[u]at r
  |true =>
   rw[u]at r;simp only[cond_true]at r;split at r
   ·split at r
    ·rename_i X _ _ _ _;cases z:BT X off with
     |false=>simp[z]at r
     |true =>
      rw[z]at r;simp only[cond_true]at r;split at r
      ·split at r
       ·simp only[BA]at r;subst r;rfl
       ·cases r
      ·cases r
    ·cases r
   ·cases r
 |clo f I =>
  simp only[cf,bg]at r;split at r
  ·rename_i J H _;cases u:BT J f with
   |false=>simp[u]at r
   |true=>rw[u]at r;exact caps_ r
  ·rename_i J H _;cases u:BT J f with
   |false=>simp[u]at r
   |true=>rw[u]at r;exact caps_ r
  ·cases r
where
 cap {c:Bool×Ty} {l:Leaf} {g:Got c.2.den} (r:fg st c l=some g):g.lend=[]:=by
  unfold fg at r;cases M:c.1 with
  |true =>
   rw[M]at r;simp only[cond_true]at r;split at r
   ·split at r
    ·simp only[BB]at r;obtain⟨y,_,rfl⟩:=r;rfl
    ·cases r
   ·cases r
  |false =>
   rw[M]at r;simp only[cond_false]at r;split at r
   ·simp only[BB]at r;obtain⟨y,_,rfl⟩:=r;rfl
   ·cases r
 caps_:∀ {I:List (Bool×Ty)} {O:List Leaf} {g:Got (lI I)},cC st I O=some g->g.lend=[]
  |[],[],g,r=>by simp only[cC,BA]at r;subst r;rfl
  |[],_::_,_,r=>by simp[cC]at r
  |_::_,[],_,r=>by simp[cC]at r
  |c::I,l::O,g,r=>by
   simp only[cC]at r;split at r
   ·split at r
    ·simp only[BA]at r;subst r;rfl
    ·cases r
   ·cases r
theorem tx:∀ (ps:List PK) (xs:List (aH×List Leaf)) (g:Got (ab ps)),bc (cf Γ st) ps xs=some g->g.lend=[]->ps.any PK.isIop=false
 |[],_,_,_,_=>rfl
 |_::_,[],_,u,_=>by simp[bc]at u
 |I::ps,x::xs,g,u,z=>by
  simp only[bc]at u;split at u
  ·rename_i M r;split at u
   ·rename_i J y;simp only[BA]at u;subst u;simp only[List.append_eq_nil_iff]at z;rw[CW,tx ps xs J y z.2,Bool.or_false];cases I with
    |iop b =>
     simp only[cf,bg]at r;split at r
     ·rename_i q _;cases H:decide ((st q).sh=.agg) with
      |false=>simp[H]at r
      |true =>
       rw[H]at r;simp only[cond_true,BB]at r;obtain⟨t,_,rfl⟩:=r;simp at z
     ·cases r
    |_=>rfl
   ·cases u
  ·cases u
theorem oW {W0:Wit}{S0 S:St}{w0:World}{a0:Act}(h0:ap P V W0 S0 a0 w0){G:Nat->Prop}{p:Bool} :
  ∀ (ps:List PK) (xs:List (aH×List Leaf)) (vs:List Value) (g:Got (ab ps)) (o:ah ps) (u:List (List Nat)),gS P V W0 S0 w0 xs vs->bc (cf Γ S0) ps xs=some g->ps.any PK.isIo=false->bM w G ps o vs u ->
  (g.lend=[]->aG S p ps xs o=[]/\u.flatten=[]) /\
  (∀ b,g.lend=[b]->∃ (c:Ty) (y:c.den) (cs:List Value) (E:TypeId) (b0:List Nat),aG S p ps xs o=[(b,⟨(S b).ver+2,.agg,aq p c y⟩)]/\w.heap[W0.β b]?=some (.cells cs.toArray E (0,0))/\Mx w G c none 0 y cs b0/\u.flatten=W0.β b::b0/\(S0 b).ls.length=c.cells)
 |[],[],vs,g,o,u,hx,O,_,X=>by
  simp only[bc,BA]at O;subst O;refine⟨λ_=>⟨rfl,?_⟩,λb hb=>by simp at hb⟩
  match vs,u,X with
  |[],[],_=>rfl
 |[],_::_,_,_,_,_,_,O,_,_=>by simp[bc]at O
 |_::_,[],_,_,_,_,_,O,_,_=>by simp[bc]at O
 |pk::ps,x::xs,vs,g,o,u,hx,O,hn,X=>by
  obtain⟨v,Z,cs,rfl,hs,hl,R⟩:=hx;simp only[bc]at O;split at O
  ·rename_i g1 J;split at O
   ·rename_i g2 a3;simp only[BA]at O;subst O;simp only[CW,Cy]at hn;have H:∀ (o':ah ps) (b:List Nat) (I:List (List Nat)),pk.isIop=false->u=b::I->b=[]->bM w G ps o' Z I->aG S p (pk::ps) (x::xs) o=aG S p ps xs o' ->
      (g1.lend++g2.lend=[]->aG S p (pk::ps) (x::xs) o=[]/\u.flatten=[]) /\
      (∀ b,g1.lend++g2.lend=[b]->∃ (c:Ty) (y:c.den) (cs:List Value) (E:TypeId) (b0:List Nat),aG S p (pk::ps) (x::xs) o=[(b,⟨(S b).ver+2,.agg,aq p c y⟩)]/\w.heap[W0.β b]?=some (.cells cs.toArray E (0,0))/\Mx w G c none 0 y cs b0/\u.flatten=W0.β b::b0/\(S0 b).ls.length=c.cells):=by
     intro o' b I hi e1 e2 a6 e3;subst e1;subst e2;rw[e3,yT J hi];simpa using oW h0 (S:=S) (p:=p) ps xs Z g2 o' I R a3 hn.2 a6
    cases pk with
    |iop b =>
     match u,X with
     |M::I,⟨r,z⟩ =>
      obtain⟨r1,r2⟩:=oW h0 (S:=S) (p:=p) ps xs Z g2 o.2 I R a3 hn.2 z;simp only[cf,bg]at J;split at J
      ·rename_i q hq;cases hb:decide ((S0 q).sh=.agg) with
       |false=>simp[hb]at J
       |true =>
        rw[hb]at J;simp only[cond_true,BB]at J;obtain⟨t,ht,rfl⟩:=J;refine⟨λhb=>by simp at hb,λb' Y=>?_⟩;simp only[Cr,CZ]at Y;obtain⟨rfl,Y⟩:=Y;obtain⟨r3,r4⟩:=r1 Y;obtain⟨a4,_⟩:=gQ hs hl hq (by simp);unfold jo at r;rw[if_pos rfl]at r;obtain⟨g',a2,E,b0,hv,a1,hm,rfl⟩:=r;have a5:g'=W0.β q:=by
         have h9:=a4.2.2;rw[hv]at h9;simp only[Value.pointer.injEq,BA,Cf,and_true]at h9;exact h9
        subst a5;refine⟨b,o.1,a2,E,b0,?_,a1,hm,by rw[BX,r4,Bw],?_⟩
        rotate_left
        ·rw[h0.len];exact (dP (pos:=0) h0 (iv h0 q) ht).1.len
        simp only[aG,r3,hq,Bw];rfl
      ·cases J
    |io b=>simp[PK.isIo]at hn
    |rd b =>
     match u,X with
     |M::I,⟨r,z⟩=>exact H o M I rfl rfl r z rfl
    |own b =>
     match u,X with
     |M::I,⟨r,z⟩=>exact H o M I rfl rfl r z rfl
    |rref b =>
     match u,X with
     |M::I,⟨r,z⟩=>exact H o M I rfl rfl r z rfl
    |rref2 b =>
     match u,X with
     |M::I,⟨r,z⟩=>exact H o M I rfl rfl r z rfl
    |fn As B =>
     match u,X with
     |M::I,⟨r,z⟩=>exact H o M I rfl rfl r z rfl
    |clo f a2 =>
     match u,X with
     |M::I,⟨r,z⟩=>exact H o M I rfl rfl r z rfl
    |hol b cc off =>
     match u,X with
     |M::I,⟨r,z⟩=>exact H o M I rfl rfl r z rfl
   ·cases O
  ·cases O
end
section
variable {P:Program} {V:Env}
theorem wg (hV:ay V){W:Wit}{S:St}{a:Act}{w:World}(h:ap P V W S a w){M:List RK}{y:ai M}{us:List Value}{X:List (List Nat)}{v:Value}{p q:Bool}{ks:List (Nat×Nat×Nat)}{ep:Nat}{G ro:Nat->Prop}
  (a0:gx w G ro M y us X) (hG:∀ k,G k->gd V W p k)
  (hB:M.any RK.isBv=true->(∀ k,G k\/ro k->gd V W q k\/∃ x∈ks,k∈W.bs x.1 x.2.1)/\ep<=(S EPO).ver/\(∀ k∈ks,k.2.2<=(S k.1).ver))
  (H:∀ k∈X.flatten,¬ cg V W S k) (a5:X.flatten.Nodup) (J:se us v) {d:Nat} (hd:d<V.nt) (Z:∀ x∈V.fixt,x.1≠d) (r:gF S d M=true) :
  ∃ W1,ap P V W1 (ac ((d,eN ((ac (bE d (S (B0+d)).ver p q ks ep M y).2 S d).ver+1) (bE d (S (B0+d)).ver p q ks ep M y).1)::(bE d (S (B0+d)).ver p q ks ep M y).2) S) (a.put (some d) v) w /\
   ∀ z,z≠d->z≠B0+d->W1.cs z=W.cs z:=by
 cases hv:M.all RK.isV with
 |true =>
  obtain⟨m0,cs,a1,m1,m2,m3,m4,m5,m6⟩:=oi (P:=P) (W:=W) (st:=S) (p:=p) (q:=q) (ks:=ks) (ep:=ep) hG d (S (B0+d)).ver M y us X hB a0 hv a5;rw[m0];obtain⟨s1,s2,s3⟩:=Bi ((S d).ver+1) m1 J;show ∃ W1,ap P V W1 (ac [(d,eN ((S d).ver+1) (bE d (S (B0+d)).ver p q ks ep M y).1)] S) (a.put (some d) v) w/\_;generalize eN ((S d).ver+1) (bE d (S (B0+d)).ver p q ks ep M y).1=rc at s1 s2 s3 ⊢;obtain⟨v0,a6,b6⟩:=rc;simp only at s1 s2 s3;subst s3;subst s2;have a3:=h.put hV d hd Z ((S d).ver+1) a6 _ v cs a1 (BM _) s1 m2 m3 m4
   (λj l R ho k Y=>by
    have b4:=m5 j l R ho k Y;have I:=H k b4;simp only[cg,not_or,not_exists,not_and]at I;exact⟨I.1,I.2.1,I.2.2.1,λr1 j1 l1 _ h8 h9=>I.2.2.2 r1 j1 l1 h8 h9⟩) m6
  refine⟨_,a3,λz hz _=>?_⟩;show (if z=d then cs else W.cs z)=_;rw[if_neg hz]
 |false =>
  have hb:∃ b,M=[.box b]:=by
   unfold gF at r;split at r
   ·exact⟨_,rfl⟩
   ·rw[hv]at r;cases r
  obtain⟨b,rfl⟩:=hb;obtain⟨u0,b9,rb,b5,e1,e2,⟨g',cs,E,b0,a8,b2,hm,a7⟩,e3,e4⟩:=a0;subst e3;subst e4;subst e1;subst e2;subst a7;have J:v=u0:=J;subst J;subst a8;have a4:(S (B0+d)).sh=.off:=by simpa[gF]using r
  have O:(g'::b0).Nodup:=by simpa using a5
  rw[CH]at O;obtain⟨a1,m1,m2,m3,m4⟩:=iH (P:=P) (V:=V) (W:=W) (st:=S) (p:=p) hG hm O.2;have a2:d≠B0+d:=by simp[B0]
  have a9:=H g' (by simp);have b3:=h.setBoxG hV (B0+d) (CV _ _) ((S (B0+d)).ver+1) (aq p b y.1) cs a1 g' E (w':=w) (BM _)
   (.inr ⟨by simp[live,a4],a9,λj l R ho k Y e0=>O.1 (by rw[<- e0];exact m3 j l R ho k Y)⟩) b2 (λ_ _ _=>rfl) (λ_ _ _ _ _ _ _=>rfl) (BU _) rfl rfl rfl m1 hm.one m2
   (λj l R ho k Y=>by
    have I:=H k (by simp;exact .inr (m3 j l R ho k Y));simp only[cg,not_or,not_exists,not_and]at I;exact⟨I.1,I.2.1,I.2.2.1,λr1 j1 l1 _ h8 h9=>I.2.2.2 r1 j1 l1 h8 h9⟩) m4
  have b1:=b3.put hV d hd Z ((S d).ver+1) .one [.bp (B0+d) 0] (.pointer (some ⟨g',0,none⟩)) [.pointer (some ⟨g',0,none⟩)] (λ_=>[]) (by rw[aI a2];exact BM _) rfl rfl (λu I=>by simp at I;subst I;rfl)
   (λj l u R g9=>by
    cases j with
    |zero=>simp at R g9;subst R;subst g9;exact⟨CV _ _,by rw[bj],by simp⟩
    |succ j=>simp at R)
   (λj l R ho k Y=>by simp at Y) (λj j' l l' _ _ _ _ k Y=>by simp at Y)
  have e1:ac (bE d (S (B0+d)).ver p q ks ep [.box b] y).2 S=ac [(B0+d,⟨(S (B0+d)).ver+1,.agg,aq p b y.1⟩)] S:=rfl;rw[aO,e1,aI a2];refine⟨_,b1,λz hz ad=>?_⟩;show (if z=d then _ else (if z=B0+d then _ else W.cs z))=_;rw[if_neg hz,if_neg ad]
theorem uu (r:Nat)(c u:bT)(S:St):ac [(r,c)] (ac [(r,u)] S)=ac [(r,c)] S:=by
 funext q;rcases aj r q c (ac [(r,u)] S) with ⟨rfl,e⟩|⟨h,e⟩
 ·rw[e,bj]
 ·rw[e,aI h,aI h]
theorem yU (hV:ay V){W:Wit}{S:St}{a:Act}{w w':World}(h:ap P V W S a w){b:Nat}(hb:live S b){N:Nat->Prop}{cs:List Value}{E:TypeId}{c:Ty}{y:c.den}{b0:List Nat}{G:Nat->Prop}{p:Bool}
  (a2:w'.heap[W.β b]?=some (.cells cs.toArray E (0,0))) (hm:Mx w' G c none 0 y cs b0) (a5:(W.β b::b0).Nodup) (a6:(S b).ls.length=c.cells)
  (a1:∀ k,cg V W S k->k≠W.β b->w'.heap[k]?=w.heap[k]?) (a7:w.heap.size<=w'.heap.size) (a9:w'.os=w.os) (ht:w'.tape=w.tape) (ho:w'.output=w.output)
  (hN:∀ k,N k->k<w'.heap.size/\¬ cg V W S k) (a0:∀ k∈b0,¬ cg V W S k/\¬ N k) (hG:∀ k,G k->gd V { W with nw:=λk=>W.nw k\/N k } p k) :
  ∃ W1,ap P V W1 (ac [(b,⟨(S b).ver+2,.agg,aq p c y⟩)] S) a w'/\W1.β=W.β/\(∀ k,W1.nw k<->W.nw k\/N k)/\(∀ q,q≠b->W1.cs q=W.cs q)/\(∀ q i,q≠b->W1.bs q i=W.bs q i) /\
   (∀ k,cg V W1 (ac [(b,⟨(S b).ver+2,.agg,aq p c y⟩)] S) k->cg V W S k\/N k\/k∈b0):=by
 have J:∀ (q:Nat),(if q=b then W.β b else W.β q)=W.β q:=λq=>by split <;> simp_all
 have h1:=h.setBoxG hV b hb.1 ((S b).ver+1) (CF cs.length .dead) cs (λ_=>[]) (W.β b) E (w':=w') (BM _) (.inl ⟨hb,rfl⟩) a2 a1 (λ_ _ _ _ k H=>by simp at H) a7 a9 ht ho (by simp) hm.one
  (λj l u I R=>by
   rw[CR]at I;split at I
   ·simp at I;subst I;trivial
   ·cases I)
  (λj l I R k H=>by simp at H) (λj j' l l' _ _ _ _ k H=>by simp at H)
 have Z:∀ (j:Nat) (l:Leaf),(CF cs.length Leaf.dead)[j]?=some l->¬ an l:=by
  intro j l I;rw[CR]at I;split at I
  ·simp at I;subst I;exact id
  ·cases I
 have a3:∀ z,live (ac [(b,⟨(S b).ver+1,.agg,CF cs.length .dead⟩)] S) z->live S z:=by
  intro z Y;rcases aj b z ⟨(S b).ver+1,.agg,CF cs.length .dead⟩ S with ⟨rfl,e⟩|⟨_,e⟩
  ·exact hb
  ·exact⟨Y.1,by rw[<- e];exact Y.2⟩
 have a8:∀ k,cg V { W with β:=λr=>if r=b then W.β b else W.β r,cs:=λr=>if r=b then cs else W.cs r,bs:=λr j=>if r=b then [] else W.bs r j } (ac [(b,⟨(S b).ver+1,.agg,CF cs.length .dead⟩)] S) k->cg V W S k:=by
  rintro k (H|H|⟨z,Y,H⟩|⟨z,i,l,I,R,O⟩)
  ·exact .inl H
  ·exact .inr (.inl H)
  ·exact .inr (.inr (.inl ⟨z,a3 z Y,by rw[<- H];exact (J z).symm⟩))
  ·by_cases M:z=b
   ·subst M;rw[bj]at I;exact absurd R (Z i l I)
   ·rw[aI M]at I;simp only[if_neg M]at O;exact .inr (.inr (.inr ⟨z,i,l,I,R,O⟩))
 have h2:=h1.nwGrow hV N (λk H=>⟨(hN k H).1,λhu=>(hN k H).2 (a8 k hu)⟩);rw[CH]at a5;obtain⟨X,m1,m2,m3,m4⟩:=iH (P:=P) (V:=V) (W:={ W with β:=λr=>if r=b then W.β b else W.β r,cs:=λr=>if r=b then cs else W.cs r,bs:=λr j=>if r=b then [] else W.bs r j,nw:=λk=>W.nw k\/N k })
  (st:=ac [(b,⟨(S b).ver+1,.agg,CF cs.length .dead⟩)] S) (p:=p) (λk H=>hG k H) hm a5.2
 have b1:=hm.len;have b2:=cM p c y;have h3:=h2.reown hV b ⟨(S b).ver+2,.agg,aq p c y⟩ X (by rw[bj];exact BM _) (by rw[bj]) (by rw[bj,Cs];omega)
  (λj l v I R=>m2 j l v I (by simpa using R))
  (λj l I R k H=>by
   have ad:=m3 j l I R k H;obtain⟨q1,q2⟩:=a0 k ad;refine⟨λhn=>hn.elim (λhn=>q1 (.inl hn)) q2,λhp=>q1 (.inr (.inl hp)),λz Y e0=>q1 (.inr (.inr (.inl ⟨z,a3 z Y,by rw[<- e0];exact (J z).symm⟩))),λr1 j1 l1 a4 O g4 g5=>?_⟩;rw[aI a4]at O;have g5:k∈(if r1=b then [] else W.bs r1 j1):=g5;rw[if_neg a4]at g5;exact q1 (.inr (.inr (.inr ⟨r1,j1,l1,O,g4,g5⟩)))) m4
 rw[uu]at h3;refine⟨_,h3,funext λq=>J q,λk=>Cl,λq hq=>if_neg hq,λq i hq=>?_,?_⟩
 ·show (if q=b then X i else if q=b then [] else W.bs q i)=_;rw[if_neg hq,if_neg hq]
 ·rintro k ((H|H)|H|⟨z,Y,H⟩|⟨z,i,l,I,R,O⟩)
  ·exact .inl (.inl H)
  ·exact .inr (.inl H)
  ·exact .inl (.inr (.inl H))
  ·refine .inl (.inr (.inr (.inl ⟨z,?_,by rw[<- H];exact (J z).symm⟩)));rcases aj b z ⟨(S b).ver+2,.agg,aq p c y⟩ S with ⟨rfl,e⟩|⟨_,e⟩
   ·exact hb
   ·exact⟨Y.1,by rw[<- e];exact Y.2⟩
  ·by_cases M:z=b
   ·subst M;rw[bj]at I;have O:k∈(if z=z then X i else _):=O;rw[if_pos rfl]at O;exact .inr (.inr (m3 i l I R k O))
   ·rw[aI M]at I;have O:k∈(if z=b then X i else if z=b then [] else W.bs z i):=O;rw[if_neg M,if_neg M]at O;exact .inl (.inr (.inr (.inr ⟨z,i,l,I,R,O⟩)))
end
section
variable {P:Program} {V:Env} {Γ:List Ctr} {st:St} {R:Type}
theorem gz:∀ (ps:List PK) (xs:List (aH×List Leaf)) (r:Upd->List (aH×List Leaf)->Option (Bool×Nat×Nat)->Option R),ku st ps xs r=(c7 st ps xs).bind λu=>r u.1 u.2.1 u.2.2
 |[],xs,r=>rfl
 |_::_,[],r=>rfl
 |p::ps,x::xs,r=>by
  simp only[ku,c7];split
  ·rw[gZ];cases cn st (x.2.getD _ .dead) <;> rfl
  ·rw[gz ps xs];cases c7 st ps xs <;> rfl
theorem k6 {a:Ty}:∀ {ls:List Leaf} {j k:Nat},lm a j ls=some k->j<=k/\∃ l,ls[k-j]?=some l/\jk l=true
 |[],_,_,h=>by simp[lm]at h
 |l::ls,j,k,h=>by
  simp only[lm]at h;cases r:jk l&&ph a j with
  |true =>
   rw[r]at h;simp only[cond_true,BA]at h;subst h;simp only[BC]at r;exact⟨BU _,l,by simp,r.1⟩
  |false =>
   rw[r]at h;obtain⟨H,u,y,z⟩:=k6 h;exact⟨by omega,u,by rw[show k-j=(k-(j+1))+1 by omega];simpa using y,z⟩
theorem rv {p:PK}{ls:List Leaf}{k:Nat}(h:p.nest ls=some k):∃ l,ls[k]?=some l/\jk l=true:=by
 cases p with
 |own a=>obtain⟨_,l,r,u⟩:=k6 h;exact⟨l,by simpa using r,u⟩
 |io a=>obtain⟨_,l,r,u⟩:=k6 h;exact⟨l,by simpa using r,u⟩
 |_=>simp[PK.nest]at h
theorem tz (u:ay V){W W':Wit}{st':St}{w w':World}(y:cH V W W' st st' w w'):∀ {xs:List (aH×List Leaf)} {z:List Value},gS P V W st w xs z->gS P V W' st' w' xs z
 |[],_,h=>h
 |_::_,_,⟨v,r,M,e,H,J,I⟩=>⟨v,r,M,e,H,J.carry u.ro y,tz u y I⟩
theorem aB.setLeaf {W:Wit}{w:World}{ls:List Leaf}{cs:List Value}(H:aB P V W st w ls cs){k:Nat}{l:Leaf}(y:¬ an l)(h:∀ v,cs[k]?=some v->aJ P V W st w [] l v):aB P V W st w (aR ls k l) cs:=by
 have r:=H.length;refine aB.mk (by simp[aR,r]) λj J v u z=>?_
 rcases aQ _ _ _ _ _ u with ⟨rfl,rfl,M⟩|⟨I,u⟩
 ·exact⟨h v z,y,H.one' v (List.mem_of_getElem? z)⟩
 ·exact H.at_ j J v u z
def Bj (W:Wit)(S:St)(w:World):Option (Bool×Nat×Nat)->Prop
 |some (_,r,j)=>∃ v,W.cs TMP=[v]/\tt W S w r j v
 |none=>True
theorem oj (Z:ay V){W:Wit}{a:Act}{w:World}(h:ap P V W st a w):∀ (ps:List PK) (xs:List (aH×List Leaf)) (X:List Value) (U:Upd) (O:List (aH×List Leaf)) (b:Option (Bool×Nat×Nat)),
  gS P V W st w xs X->c7 st ps xs=some (U,O,b)->∃ H,ap P V H (ac U st) a w/\gS P V H (ac U st) w O X/\H.nw=W.nw/\H.β=W.β/\Bj H (ac U st) w b/\cH V W H st (ac U st) w w/\(∀ q,(ac U st q).sh=(st q).sh\/q=TMP) /\
   (∀ f r j,b=some (f,r,j)->f=true->ps.any PK.isIo=true)
 |[],xs,X,U,O,b,hx,y=>by
  simp only[c7,BA,B9]at y;obtain⟨rfl,rfl,rfl⟩:=y;exact⟨W,h,hx,rfl,rfl,trivial,cH.refl V W st w,λ_=>.inl rfl,λ_ _ _ h=>by cases h⟩
 |_::_,[],X,U,O,b,hx,y=>by
  simp only[c7,BA,B9]at y;obtain⟨rfl,rfl,rfl⟩:=y;exact⟨W,h,hx,rfl,rfl,trivial,cH.refl V W st w,λ_=>.inl rfl,λ_ _ _ h=>by cases h⟩
 |p::ps,x::xs,X,U,O,b,⟨v,M,cs,e,hs,hl,z⟩,y=>by
  subst e;simp only[c7]at y;split at y
  ·rename_i k hk;simp only[BB]at y;obtain⟨u,I,y⟩:=y;simp only[B9]at y;obtain⟨rfl,rfl,rfl⟩:=y;obtain⟨l,J,a1⟩:=rv hk;have hg:x.2.getD k .dead=l:=by rw[CB,J];rfl
   rw[hg]at I ⊢;have a0:k<cs.length:=by rw[<- hl.length];exact (BD.1 J).1
   have Y:=BS a0;obtain⟨U,l'⟩:=u;obtain⟨H,n,p0,E0,e0,a2,g1,g2,g3,g4,_,_,g5,g6,_,g7,g8,g9⟩:=uV Z h (hl.at_ k l _ J Y).1 I;subst g3;refine⟨H,g1,⟨v,M,cs,rfl,hs,(hl.carry Z.ro g2).setLeaf id λu I=>?_,tz Z g2 z⟩,g5,g6,⟨_,g7,g9⟩,g2,g8,λf r j hb hf=>?_⟩
   ·rw[Y]at I;simp only[BA]at I;subst I;exact g4
   ·simp only[BA,B9]at hb;rw[CW,hb.1,hf];rfl
  ·simp only[BB]at y;obtain⟨u,I,y⟩:=y;simp only[B9]at y;obtain⟨rfl,rfl,rfl⟩:=y;obtain⟨H,g1,g2,g3,g4,g5,g6,g7,g8⟩:=oj Z h ps xs M u.1 u.2.1 u.2.2 z I;exact⟨H,g1,⟨v,M,cs,rfl,hs,hl.carry Z.ro g6,g2⟩,g3,g4,g5,g6,g7,λf r j hb hf=>by rw[CW,g8 f r j hb hf,Bool.or_true]⟩
end
section
variable {P:Program} {V:Env} {Γ:List Ctr} {st:St}
theorem iI {st:St}{q i:Nat}:∀ {ks:List (Nat×Nat)},(q,i)∉ks->(ac (aE st ks) st q).ls[i]?=(st q).ls[i]?
 |[],_=>rfl
 |(r,j)::ks,h=>by
  simp only[CO,not_or]at h;have e:ac (aE st ((r,j)::ks)) st=ac [(r,fT (ac (aE st ks) st r) j)] (ac (aE st ks) st):=aO _ _ _ _;rw[e];rcases aj r q (fT (ac (aE st ks) st r) j) (ac (aE st ks) st) with ⟨rfl,e⟩|⟨_,e⟩
  ·rw[e];simp only[fT,aR];rw[CL (λu=>h.1 (by rw[u]))];exact iI h.2
  ·rw[e];exact iI h.2
theorem k7 {st:St}{q i:Nat}:∀ {ks:List (Nat×Nat)},(q,i)∉ks->(ac (aM st ks) st q).ls[i]?=(st q).ls[i]?
 |[],_=>rfl
 |(r,j)::ks,h=>by
  simp only[CO,not_or]at h;have e:ac (aM st ((r,j)::ks)) st=ac [(r,fW (ac (aM st ks) st r) j)] (ac (aM st ks) st):=aO _ _ _ _;rw[e];rcases aj r q (fW (ac (aM st ks) st r) j) (ac (aM st ks) st) with ⟨rfl,e⟩|⟨_,e⟩
  ·rw[e];simp only[fW,aR];rw[CL (λu=>h.1 (by rw[u]))];exact k7 h.2
  ·rw[e];exact k7 h.2
theorem nf (d n:Nat)(p q:Bool)(ks:List (Nat×Nat×Nat))(ep:Nat):∀ (z:List RK) (y:ai z),∀ x∈(bE d n p q ks ep z y).2,x.1=B0+d
 |[],_,x,u=>by simp[bE]at u
 |r::z,y,x,u=>by
  simp only[bE,BL]at u;rcases u with u|u
  ·cases r <;> simp[pg]at u;rw[u]
  ·exact nf d n p q ks ep z y.2 x u
theorem rx {q:Nat}(st:St):∀ (U:Upd),(∀ x∈U,x.1≠q)->ac U st q=st q
 |[],_=>rfl
 |(r,c)::U,h=>by
  rw[aO,aI (CM (h (r,c) (BW ..)))];exact rx st U (λx u=>h x (BP _ u))
def mo (u:St)(c:Ctr)(d:Nat)(xs:List (aH×List Leaf))(g:Got (ab c.ps))(y:ai c.rs×ah c.ps):Upd :=
 let H:=(let U:=(bif c.fresh then [] else aE u g.frz);aM (ac U u) g.kill++U);let z:=aG (ac H u) (g.p&&!c.fresh) c.ps xs y.2++H;let r:=bE d (ac z u (B0+d)).ver (g.p&&!c.fresh) g.p (g.frz.map λk=>(k.1,k.2,(ac z u k.1).ver)) (ac z u EPO).ver c.rs y.1
 (d,eN ((ac (r.2++z) u d).ver+1) r.1)::(r.2++z)
theorem yV (hV:ay V){W0:Wit}{u:St}{a:Act}{w:World}(h0:ap P V W0 u a w){c:Ctr}{xs:List (aH×List Leaf)}{vs:List Value}(e4:gS P V W0 u w xs vs){g:Got (ab c.ps)}(hg:bc (cf Γ u) c.ps xs=some g)
  (hf:∀ z∈g.frz,aA u z) (H:∀ z∈g.kill,aA u z) (es:∀ b∈g.lend,live u b) (d3:aY g.kill=true) (d2:dG g.frz g.kill=true) (hE:∀ z∈g.kill,z.1≠EPO) (a8:g.lend.length<=1) (ev:g.lend=[]\/c.ps.any PK.isIo=false)
  {b6:List (List Nat)} (bx:∀ k,b6.flatten.count k=(g.lend.map W0.β).count k+(aW W0 g.kill).count k)
  {d:Nat} (hd:d<V.nt) (cx:∀ x∈V.fixt,x.1≠d) (a3:gF u d c.rs=true) (ed:((c.fresh&&g.lend.isEmpty)||!(c.rs.any RK.isBv))=true) {y:ai c.rs×ah c.ps} {e:Ending} {w':World} (cb:tu c w (bm V W0 g.p g.frz) vs b6 y e w') :
  ∃ v,e=.returned v/\∃ W1,ap P V W1 (ac (mo u c d xs g y) u) (a.put (some d) v) w'/\(∀ q,q≠d->q≠B0+d->q∉g.lend->W1.cs q=W0.cs q) /\
   (∀ q i,q≠d->q≠B0+d->q∉g.lend->(q,i)∉g.frz->(q,i)∉g.kill->(ac (mo u c d xs g y) u q).ls[i]?=(u q).ls[i]?)/\(∀ k,k<w.heap.size->k∉aW W0 g.kill->k∉g.lend.map W0.β->w'.heap[k]?=w.heap[k]?)/\w.heap.size<=w'.heap.size:=by
 obtain⟨v,us,N,cc,b5,rfl,e7,c0,ec,dc,dn,en,hN,bn,dd,R,a0⟩:=cb;have a4:∀ k,k∈b6.flatten<->k∈g.lend.map W0.β\/k∈aW W0 g.kill:=λk=>by
  rw[<- BK,<- BK,<- BK,bx k];omega
 have Z:∀ k,k<w.heap.size->k∉aW W0 g.kill->k∉g.lend.map W0.β->w'.heap[k]?=w.heap[k]?:=λk h1 h2 h3=>en k h1 (λh=>((a4 k).1 h).elim h3 h2)
 refine⟨v,rfl,?_⟩;unfold mo;generalize b9:(bif c.fresh then [] else g.frz)=O;have hU:(bif c.fresh then [] else aE u g.frz)=aE u O:=by rw[<- b9];cases c.fresh <;> rfl
 have eg:dG O g.kill=true:=by rw[<- b9];cases c.fresh with|true=>rfl|false=>exact d2
 have bl:∀ z∈O,z∈g.frz:=by rw[<- b9];cases c.fresh with|true=>simp|false=>exact λ_ h=>h
 have f2:∀ z∈O,aA u z:=λz hz=>hf z (bl z hz)
 rw[hU];obtain⟨h1,h2,h3,h4⟩:=fE hV h0 eg H;have b3:∀ q i,(q,i)∉g.frz->(q,i)∉g.kill->(ac (aM (ac (aE u O) u) g.kill++aE u O) u q).ls[i]?=(u q).ls[i]?:=λq i q1 q2=>by
  rw[bB,k7 q2,iI (λh=>q1 (bl _ h))]
 generalize f1:aM (ac (aE u O) u) g.kill++aE u O=I at h1 h2 h3 h4 b3;have a1:∀ k∈aW W0 g.kill,¬ cg V (W0.frz u O) (ac I u) k:=λk H=>mj ⟨(h4 k H).1,(h4 k H).2.1,(h4 k H).2.2.2.1,(h4 k H).2.2.2.2⟩
 have a2:∀ k,pY w w' b6.flatten k->k∉g.lend.map W0.β->k<w'.heap.size/\¬ cg V (W0.frz u O) (ac I u) k:=by
  rintro k ⟨ex,a7⟩ f0;refine⟨ex,λM=>?_⟩;rcases a7 with a7|a7
  ·have:=h1.used_lt k M;omega
  ·exact ((a4 k).1 a7).elim f0 (λa7=>a1 k a7 M)
 have hG:∀ k,(N k\/(c.fresh=false/\bm V W0 g.p g.frz k))->gd V { W0.frz u O with nw:=λk=>(W0.frz u O).nw k\/N k } (g.p&&!c.fresh) k:=by
  rintro k (H|⟨cy,H⟩)
  ·exact .inl (.inr H)
  ·have e1:O=g.frz:=by rw[<- b9,cy];rfl
   have:=ke (V:=V) (W:=W0) (p:=g.p) hf k H;rw[cy];rw[<- e1]at this;exact bU (W':={ W0.frz u O with nw:=λk=>(W0.frz u O).nw k\/N k }) (by intro h;simp[h]) (λ_ h=>Or.inl h) k this
 rw[CD]at R;have cw:∀ (W2:Wit),ap P V W2 (ac (aG (ac I u) (g.p&&!c.fresh) c.ps xs y.2++I) u) a w'->(∀ k,(N k\/(c.fresh=false/\bm V W0 g.p g.frz k))->gd V W2 (g.p&&!c.fresh) k) ->
   (∀ k∈b5.flatten,¬ cg V W2 (ac (aG (ac I u) (g.p&&!c.fresh) c.ps xs y.2++I) u) k) ->
   (c.rs.any RK.isBv=true->∀ x∈g.frz,∀ k,k∈W0.bs x.1 x.2->k∈W2.bs x.1 x.2)->(c.rs.any RK.isBv=true->∀ k,W0.nw k->W2.nw k) ->
   (∀ q,q∉g.lend->W2.cs q=W0.cs q)->(∀ q i,q∉g.lend->(q,i)∉g.frz->(q,i)∉g.kill->(ac (aG (ac I u) (g.p&&!c.fresh) c.ps xs y.2++I) u q).ls[i]?=(u q).ls[i]?) ->
   (∀ q,(ac (aG (ac I u) (g.p&&!c.fresh) c.ps xs y.2++I) u q).sh=(u q).sh) ->
   ∃ W1,ap P V W1 (ac (let Y:=aG (ac I u) (g.p&&!c.fresh) c.ps xs y.2++I
     let r:=bE d (ac Y u (B0+d)).ver (g.p&&!c.fresh) g.p (g.frz.map λk=>(k.1,k.2,(ac Y u k.1).ver)) (ac Y u EPO).ver c.rs y.1
     (d,eN ((ac (r.2++Y) u d).ver+1) r.1)::(r.2++Y)) u) (a.put (some d) v) w'/\(∀ q,q≠d->q≠B0+d->q∉g.lend->W1.cs q=W0.cs q) /\
    (∀ q i,q≠d->q≠B0+d->q∉g.lend->(q,i)∉g.frz->(q,i)∉g.kill->(ac (let Y:=aG (ac I u) (g.p&&!c.fresh) c.ps xs y.2++I
     let r:=bE d (ac Y u (B0+d)).ver (g.p&&!c.fresh) g.p (g.frz.map λk=>(k.1,k.2,(ac Y u k.1).ver)) (ac Y u EPO).ver c.rs y.1
     (d,eN ((ac (r.2++Y) u d).ver+1) r.1)::(r.2++Y)) u q).ls[i]?=(u q).ls[i]?):=by
  intro W2 g1 eb a5 ef e5 d1 bb ba;generalize aG (ac I u) (g.p&&!c.fresh) c.ps xs y.2++I=Y at g1 a5 bb ba ⊢;have c4:gF (ac Y u) d c.rs=true:=by
   unfold gF at a3 ⊢;split at a3
   ·rw[ba];exact a3
   ·exact a3
  obtain⟨W1,q1,q2⟩:=wg hV g1 (q:=g.p) (ks:=g.frz.map λk=>(k.1,k.2,(ac Y u k.1).ver)) (ep:=(ac Y u EPO).ver) dd eb (λhb=>by
   refine⟨λk H=>?_,BU _,λk H=>?_⟩
   ·rcases H with H|(H|H)|⟨x,hx,H⟩
    ·exact .inl (bU (W':=W2) (by intro h;simp at h;exact h.1) (λ_ h=>h) k (eb k H))
    ·exact .inl (.inl (e5 hb k H))
    ·exact .inl (.inr H)
    ·exact .inr ⟨(x.1,x.2,(ac Y u x.1).ver),Co.2 ⟨x,hx,rfl⟩,ef hb x hx k H⟩
   ·obtain⟨x,hx,rfl⟩:=Co.1 H;exact BU _) a5 R.2.1 e7 hd cx c4
  have e1:∀ (X:Upd) (C:bT),ac ((d,C)::(X++Y)) u=ac ((d,C)::X) (ac Y u):=λX C=>by
   rw[aO d C (X++Y),aO d C X,bB]
  simp only[e1,bB];refine⟨W1,q1,λq hq c1 cu=>(q2 q hq c1).trans (d1 q cu),λq i hq c1 cu ad a6=>?_⟩;rw[aO,aI hq,rx _ _ (λx hx=>by rw[nf _ _ _ _ _ _ _ _ x hx];exact CM c1)];exact bb q i cu ad a6
 refine (?_:∃ W1,_/\_/\_).imp λW1 hh=>⟨hh.1,hh.2.1,hh.2.2,Z,c0⟩
 cases J:g.lend with
 |nil =>
  rw[J]at a4 Z a2 bx;simp only[C7,List.not_mem_nil,not_false_iff,true_implies,forall_const,false_or]at a4 Z a2;rw[J]at cw;have h5:=h1.world hV c0 ec dc dn (λk H=>Z k (h1.used_lt k H) (λhm=>a1 k hm H));have h6:=h5.nwGrow hV N (λk H=>a2 k (hN k H));have cp:∀ k,cg V { W0.frz u O with nw:=λk=>(W0.frz u O).nw k\/N k } (ac I u) k->cg V (W0.frz u O) (ac I u) k\/N k:=by
   rintro k ((H|H)|H|H|H)
   ·exact .inl (.inl H)
   ·exact .inr H
   ·exact .inl (.inr (.inl H))
   ·exact .inl (.inr (.inr (.inl H)))
   ·exact .inl (.inr (.inr (.inr H)))
  have b1:∀ k∈cc.flatten++b5.flatten,¬ cg V { W0.frz u O with nw:=λk=>(W0.frz u O).nw k\/N k } (ac I u) k:=λk H M=>by
   obtain⟨q1,q2⟩:=a0 k H;rcases cp k M with M|M
   ·exact (a2 k q1).2 M
   ·exact q2 M
  obtain⟨W2,g1,g2,g3,g4,g5,g6,g7⟩:=qF (Γ:=Γ) hV (W0:=W0) (W:={ W0.frz u O with nw:=λk=>(W0.frz u O).nw k\/N k }) (p:=g.p&&!c.fresh) rfl hG h6 c.ps xs vs g y.2 cc e4 hg (tx c.ps xs g hg J) bn d3 hE
   (λx hx l hl ho=>(h2 x.1 x.2 l hl ho).2.2 hx) (λk H=>b1 k (BJ _ H)) R.1
  rw[<- bB]at g1 g5 g6 g7;refine cw W2 g1 (λk H=>?_) (λk H M=>?_) (λhb x hx k H=>?_) (λhb k H=>?_) (λq _=>by rw[g2];rfl) (λq i _ ad a6=>(g6 q i a6).1.trans (b3 q i ad a6)) (λq=>(g5 q).1.trans (h3 q).1)
  ·rcases hG k H with H|H
   ·exact .inl (by rw[g4];exact H)
   ·exact .inr H
  ·rcases g7 k M with M|M
   ·exact b1 k (BE _ H) M
   ·exact R.2.2 k M k H rfl
  ·rw[(g6 x.1 x.2 (nE d2 x hx)).2];exact H
  ·rw[g4];exact .inl (.inl H)
 |cons b e6 =>
  have c2:e6=[]:=by
   rw[J]at a8;simp at a8;exact a8
  subst c2;have ej:c.ps.any PK.isIo=false:=ev.resolve_left (by rw[J];simp);have e0:c.rs.any RK.isBv=false:=by
   rw[J]at ed;simpa using ed
  obtain⟨_,r2⟩:=oW (Γ:=Γ) h0 (S:=ac I u) (p:=g.p&&!c.fresh) c.ps xs vs g y.2 cc e4 hg ej bn;obtain⟨cT,yv,cs,E,b0,r3,r4,r5,r6,r7⟩:=r2 b J;rw[r6]at R a0;have hβ:(W0.frz u O).β=W0.β:=rfl;have b4:∀ k,k∈g.lend.map W0.β<->k=W0.β b:=λk=>by rw[J];simp
  have hb:live (ac I u) b:=(iy (λq=>(h3 q).1) b).2 (es b (by rw[J];simp));have c3:∀ k,k∈(W0.β b::b0)++b5.flatten->¬ N k:=λk H=>(a0 k H).2
  obtain⟨W2,g1,g2,g3,g4,g5,g6⟩:=yU hV h1 hb (N:=N) (p:=g.p&&!c.fresh) r4 r5 R.1 (by rw[h1.len b];show (W0.cs b).length=_;rw[<- h0.len b];exact r7)
   (λk M em=>Z k (h1.used_lt k M) (λhm=>a1 k hm M) (λhm=>em ((b4 k).1 hm))) c0 ec dc dn
   (λk H=>a2 k (hN k H) (λhm=>c3 _ (BJ _ (BW ..)) (by rw[<- (b4 k).1 hm];exact H)))
   (λk H=>⟨(a2 k (a0 k (BJ _ (BP _ H))).1 (λhm=>by
    have:=(b4 k).1 hm;subst this;exact (CH.1 R.1).1 H)).2,c3 k (BJ _ (BP _ H))⟩) hG
  have e2:ac (aG (ac I u) (g.p&&!c.fresh) c.ps xs y.2++I) u=ac [(b,⟨(ac I u b).ver+2,.agg,aq (g.p&&!c.fresh) cT yv⟩)] (ac I u):=by rw[bB,r3]
  have et:∀ k∈b5.flatten,k∉g.lend.map W0.β:=λk H hm=>R.2.2 _ (BW ..) k H ((b4 k).1 hm).symm
  rw[<- e2]at g1 g6;have a9:=cw W2 g1 (λk H=>?_) (λk H M=>?_) (λb2=>by rw[e0]at b2;cases b2) (λb2=>by rw[e0]at b2;cases b2) (λq hq=>?_) (λq i hq ad a6=>?_) (λq=>?_)
  ·rw[J]at a9;exact a9
  ·rcases hG k H with H|H
   ·exact .inl ((g3 k).2 H)
   ·exact .inr H
  ·rcases g6 k M with M|M|M
   ·exact (a2 k (a0 k (BE _ H)).1 (et k H)).2 M
   ·exact c3 k (BE _ H) M
   ·exact R.2.2 k (BP _ M) k H rfl
  ·rw[J]at hq;rw[g4 q (by simpa using hq)];rfl
  ·rw[J]at hq;rw[e2,aI (by simpa using hq)];exact b3 q i ad a6
  ·rw[e2];rcases aj b q ⟨(ac I u b).ver+2,.agg,aq (g.p&&!c.fresh) cT yv⟩ (ac I u) with ⟨rfl,e3⟩|⟨_,e3⟩
   ·rw[e3];have:=hb.2;rw[(h3 q).1]at this;exact this.symm
   ·rw[e3];exact (h3 q).1
end
section
variable {P:Program} {V:Env} {Γ:List Ctr} {T:TypeId->TI} {st:St} {o:Oper} {R:Type} {κ:Upd->Option R} {r:R}
theorem yW {ls:List Leaf}{j:Nat}{p:Bool}{u:Option (Nat×Nat)}{E:TypeId}{e:Ty}{xs:List e.den}(h:ls.getD j .dead=.own p u E e xs):ls[j]?=some (.own p u E e xs):=by
 rw[CB]at h;cases y:ls[j]? with
 |none=>rw[y]at h;simp at h
 |some z=>rw[y]at h;simp at h;rw[h]
theorem qz (hV:ay V){b:Option (Bool×Nat×Nat)}{U:Upd}(h:jM st b U κ=some r) :
  ∃ U',κ U'=some r/\∀ I a w,ap P V I (ac U st) a w->(∀ q j,b=some (true,q,j)->∃ v,I.cs TMP=[v]/\tt I (ac U st) w q j v)->Rel P V (ac U' st) a w:=by
 unfold jM at h;split at h
 ·rename_i q j;split at h
  ·rename_i p i off E' e' xs q' E e ys hq b9;obtain⟨y,hy,h⟩:=B3.1 h;obtain⟨_,_,hy⟩:=gh hy;simp only[C8]at hy;split at h
   ·rename_i z hz;refine⟨_,h,λI a w hr hb=>?_⟩;obtain⟨v,c1,a3,c0,i0,b6,p0,E0,e0,bx,g,c3,g1,g2,g3,g4⟩:=hb q j rfl;have hq:=yW hq;rw[hq]at g1;obtain⟨rfl,b5,rfl,h4⟩:p=p0/\some (i,off)=some (i0,b6)/\E'=E0/\(⟨e',xs⟩:(e:Ty)×List e.den)=⟨e0,bx⟩:=by
     simp only[BA,Leaf.own.injEq]at g1;obtain⟨q1,q2,q3,q4,q5⟩:=g1;subst q4;rw[heq_eq_eq]at q5;subst q5;exact⟨q1,by simpa using q2,q3,rfl⟩
    simp only[BA,B9]at b5;obtain⟨rfl,rfl⟩:=b5;simp only[Sigma.mk.injEq]at h4;obtain⟨rfl,h4⟩:=h4;rw[heq_eq_eq]at h4;subst h4;generalize hS:ac U st=S at hr hq g1 g2 g3 b9 ⊢;have a6:(S TMP).ls[0]?=some (.own q' none E e ys):=by rw[b9];rfl
    have b4:(I.cs TMP)[0]?=some v:=by rw[c1];rfl
    have a9:=hr.leaf q j _ _ hq g2;have ad:=hr.leaf TMP 0 _ _ a6 b4;have a9:OwH w (gd V I p) (some (i,off)) E' e' xs _ (I.bs q j):=a9;have ad:Ow w (gd V I q') E e ys v (I.bs TMP 0):=ad;have b3:=a9.carry (G':=gd V I (p||q')) (bU (W':=I) (by intro h;simp[h]) (λ_ h=>h)) (λ_ _=>rfl) (λ_ _=>rfl);have b1:=OwH.carry (G':=gd V I (p||q')) ad (bU (W':=I) (by intro h;simp[h]) (λ_ h=>h)) (λ_ _=>rfl) (λ_ _=>rfl);have bl:∀ k∈I.bs TMP 0,k∉I.bs q j:=λk M a1=>a3 (hr.sep TMP 0 _ q j _ a6 trivial hq trivial k M a1).1.symm
    obtain⟨a8,ba,bb⟩:=b3.back b1 bl hy hz (λg' c2 e1=>by
     simp only[B5,BA,Cf,and_true]at e1;rw[<- e1.1];exact g4)
    have bn:∀ k∈a8,k∈I.bs q j\/k∈I.bs TMP 0:=λk M=>by
     have h5:=bb k;have h6:=BK.2 M;by_cases h7:k∈I.bs q j
     ·exact .inl h7
     ·have:=BZ.2 h7;exact .inr (BK.1 (by omega))
    obtain⟨h1,c4⟩:=hr.putGhost hV TMP iU.1 iU.2.1 ((S TMP).ver+1) .off [] [] (λ_=>[]) (BM _) rfl (by simp) (λj l u hj=>by simp at hj) (λj l hj=>by simp at hj) (λj j' l l' hj=>by simp at hj);have a5:∀ x,x≠TMP->ac [(TMP,⟨(S TMP).ver+1,.off,[]⟩)] S x=S x:=λx hx=>aI hx _ _
    have a7:(ac [(TMP,⟨(S TMP).ver+1,.off,[]⟩)] S) q=S q:=a5 q a3;have H:∀ (O:Nat) (l':Leaf),O≠j->(aR (S q).ls j (.own (p||q') none E' e' (xs.set i z)))[O]?=some l'->(S q).ls[O]?=some l':=by
     intro O l' a2 Z;rcases aQ _ _ _ _ _ Z with ⟨rfl,_,_⟩|⟨_,Z⟩
     ·exact absurd rfl a2
     ·exact Z
    have b2:∀ (l':Leaf),(aR (S q).ls j (.own (p||q') none E' e' (xs.set i z)))[j]?=some l'->l'=.own (p||q') none E' e' (xs.set i z):=by
     intro l' Z;rcases aQ _ _ _ _ _ Z with ⟨_,rfl,_⟩|⟨a2,_⟩
     ·rfl
     ·exact absurd rfl a2
    have a4:∀ b,live (ac [(TMP,⟨(S TMP).ver+1,.off,[]⟩)] S) b->live S b:=λb hb=>by
     have:b≠TMP:=by have:=hb.1;have:=iU.2.1;omega
     exact⟨hb.1,by rw[<- a5 b this];exact hb.2⟩
    have b0:∀ k∈a8,¬ I.nw k/\¬ V.prot k/\(∀ b,live S b->I.β b≠k)/\∀ (X i1:Nat) (l1:Leaf),(S X).ls[i1]?=some l1->an l1->(X,i1)≠(q,j)->X≠TMP->k∉I.bs X i1:=λk M=>by
     rcases bn k M with M|M
     ·have h9:=hr.ownb q j _ hq trivial k M;exact⟨h9.1,h9.2.1,h9.2.2,λX i1 l1 g5 g6 g7 _ g8=>g7 (by obtain⟨e1,e2⟩:=hr.sep X i1 l1 q j _ g5 g6 hq trivial k g8 M;rw[e1,e2])⟩
     ·have h9:=hr.ownb TMP 0 _ a6 trivial k M;exact⟨h9.1,h9.2.1,h9.2.2,λX i1 l1 g5 g6 _ g7 g8=>g7 (hr.sep X i1 l1 TMP 0 _ g5 g6 a6 trivial k g8 M).1⟩
    have h2:=(h1.reownE hV q ⟨(S q).ver,(S q).sh,aR (S q).ls j (.own (p||q') none E' e' (xs.set i z))⟩ (λO=>if O=j then a8 else I.bs q O) c0 (by rw[a7];exact BU _) (by rw[a7]) (by rw[a7];simp[aR])
     (λO l' u g5 g6=>by
      have g6:(if q=TMP then [] else I.cs q)[O]?=some u:=g6;rw[if_neg a3]at g6;by_cases J:O=j
      ·subst J;obtain rfl:=b2 l' g5;rw[g2]at g6;simp only[BA]at g6;subst g6;simp only[if_true];exact ba
      ·simp only[if_neg J];have:=h1.leaf q O l' u (by rw[a7];exact H O l' J g5) (by show (if q=TMP then [] else I.cs q)[O]?=_;rw[if_neg a3];exact g6);have e0:(if q=TMP then ([]:List Nat) else I.bs q O)=I.bs q O:=if_neg a3;simp only[e0]at this;exact this)
     (λO l' g5 g6 k M=>by
      by_cases J:O=j
      ·subst J;simp only[if_true]at M;obtain⟨q1,q2,q3,q4⟩:=b0 k M;refine⟨q1,q2,λb hb=>q3 b (a4 b hb),λX j1 l1 a2 g7 g8 g9=>?_⟩;by_cases a0:X=TMP
       ·subst a0;rw[bj]at g7;simp at g7
       ·rw[a5 X a0]at g7;have g9:k∈(if X=TMP then [] else I.bs X j1):=g9;rw[if_neg a0]at g9;exact q4 X j1 l1 g7 g8 (λe=>a2 (by cases e;rfl)) a0 g9
      ·simp only[if_neg J]at M;have Z:=H O l' J g5;have h9:=hr.ownb q O l' Z g6 k M;refine⟨h9.1,h9.2.1,λb hb=>h9.2.2 b (a4 b hb),λX j1 l1 a2 g7 g8 g9=>?_⟩;by_cases a0:X=TMP
       ·subst a0;rw[bj]at g7;simp at g7
       ·rw[a5 X a0]at g7;have g9:k∈(if X=TMP then [] else I.bs X j1):=g9;rw[if_neg a0]at g9;exact a2 (hr.sep q O l' X j1 l1 Z g6 g7 g8 k M g9).1.symm)
     (λi1 i2 l1 l2 g5 g6 g7 g8 k M a1=>by
      by_cases J:i1=j <;> by_cases Y:i2=j
      ·omega
      ·subst J;simp only[if_true]at M;simp only[if_neg Y]at a1;exact absurd a1 ((b0 k M).2.2.2 q i2 l2 (H i2 l2 Y g7) g8 (λe=>Y (by cases e;rfl)) a3)
      ·subst Y;simp only[if_true]at a1;simp only[if_neg J]at M;exact absurd M ((b0 k a1).2.2.2 q i1 l1 (H i1 l1 J g5) g6 (λe=>J (by cases e;rfl)) a3)
      ·simp only[if_neg J]at M;simp only[if_neg Y]at a1;exact (hr.sep q i1 l1 q i2 l2 (H i1 l1 J g5) g6 (H i2 l2 Y g7) g8 k M a1).2)).1
    show ∃ W,ap P V W _ a w;have e1:ac ((q,⟨(S q).ver,(S q).sh,aR (S q).ls j (.own (p||q') none E' e' (xs.set i z))⟩)::(TMP,⟨(S TMP).ver+1,.off,[]⟩)::(EPO,bV (S EPO))::U) st =
      ac [(q,⟨(S q).ver,(S q).sh,aR (S q).ls j (.own (p||q') none E' e' (xs.set i z))⟩),(EPO,bV (ac [(TMP,⟨(S TMP).ver+1,.off,[]⟩)] S EPO))] (ac [(TMP,⟨(S TMP).ver+1,.off,[]⟩)] S):=by
     rw[a5 EPO (CM iU.2.2),aO q,aO TMP,aO EPO,hS,aO q _ [(EPO,bV (S EPO))],mV iU.2.2]
    rw[e1];exact⟨_,h2⟩
   ·cases h
  ·cases h
 ·exact⟨_,h,λI a w hr _=>⟨I,hr⟩⟩
theorem uZ (hV:ay V)(hΓ:∀ c∈Γ,bQ P c){d:Nat}(hd:d<V.nt)(cb:∀ x∈V.fixt,x.1≠d){f:FuncId}{xs:List (aH×List Leaf)}(h:jl Γ st d f xs κ=some r) :
  fP P f/\∃ U,κ U=some r/\∀ W a w,ap P V W st a w->∀ vs,gS P V W st w xs vs->Calls P f vs.toArray w (λe w'=>∃ v,e=.returned v/\Rel P V (ac U st) (a.put (some d) v) w'):=by
 unfold jl at h;split at h
 ·rename_i c hc;obtain⟨d2,rfl⟩:=nd hc;obtain⟨d3,ad⟩:=hΓ c d2;refine⟨d3,?_⟩;rw[gz]at h;obtain⟨⟨U0,ys,b⟩,bx,h⟩:=B3.1 h;simp only at h;split at h
  ·rename_i g hg;cases I:aY g.kill&&dG g.frz g.kill&&gF st d c.rs&&!(g.see.any λq=>g.lend.any (BT q))&&Ck g.lend.length 1&&(g.lend.isEmpty||!(c.ps.any PK.isIo))&&((c.fresh&&g.lend.isEmpty)||!(c.rs.any RK.isBv))&&(g.kill.all λk=>!BT k.1 EPO)&&oE b g.frz g.kill d with
   |false=>rw[I]at h;cases h
   |true =>
    rw[I]at h;simp only[cond_true]at h;simp only[BC]at I;obtain⟨⟨⟨⟨⟨⟨⟨⟨b3,cp⟩,M⟩,b5⟩,J⟩,dd⟩,f3⟩,hE⟩,cc⟩:=I;obtain⟨y,hy,h⟩:=B3.1 h;obtain⟨U',f6,c3⟩:=qz (P:=P) (V:=V) hV h;refine⟨U',f6,λW a w hr vs em=>?_⟩;obtain⟨W0,Z,c0,f7,hβ0,dn,e6,b9,dc⟩:=oj hV hr c.ps xs vs U0 ys b em bx;generalize a9:ac U0 st=S0 at Z c0 dn e6 b9 hg;obtain⟨⟨a8,c2,a5⟩,hf,hk,a2⟩:=kp (ut hV hΓ Z) c.ps ys vs g c0 hg;have hE:∀ z∈g.kill,z.1≠EPO:=λz hz e0=>by
     have:=List.all_eq_true.1 hE z hz;rw[e0]at this;simp at this
    have J:g.lend.length<=1:=CJ J;have ba:g.lend=[]\/c.ps.any PK.isIo=false:=by
     simp only[DS,DG,BY]at dd;exact dd
    have c4:∀ k,k∈a8.flatten<->k∈g.lend.map W0.β\/k∈aW W0 g.kill:=λk=>by
     rw[<- BK,<- BK,<- BK,a5 k];omega
    have a0:∀ k,jI V W0 S0 g.frz g.see k->k<w.heap.size/\k∉a8.flatten:=by
     intro k H;refine⟨Z.used_lt k (ru hf k H),λO=>?_⟩;rcases (c4 k).1 O with O|O
     ·obtain⟨b',Y,rfl⟩:=Co.1 O;have cx:=Z.box b' (a2 b' Y);rcases H with H|H|⟨b2,cw,a1,e2⟩|⟨z,hz,H⟩
      ·exact cx.1 H
      ·exact cx.2 H
      ·have:=Z.inj b2 b' a1 (a2 b' Y) e2;subst this;simp only[BY,B4]at b5;have:=b5 b2 cw;rw[Bool.not_eq_true,B4]at this;have:=this b2 Y;simp at this
      ·obtain⟨l,hl,ho⟩:=hf z hz;exact (Z.ownb z.1 z.2 l hl ho _ H).2.2 b' (a2 b' Y) rfl
     ·obtain⟨z,hz,X⟩:=gf.1 O;obtain⟨l,hl,ho⟩:=hk z hz;have a4:=Z.ownb z.1 z.2 l hl ho k X;rcases H with H|H|⟨b2,cw,a1,e2⟩|⟨z',eb,H⟩
      ·exact a4.1 H
      ·exact a4.2.1 H
      ·exact a4.2.2 b2 a1 e2
      ·obtain⟨l',eg,ec⟩:=hf z' eb;obtain⟨e1,e2⟩:=Z.sep z.1 z.2 l z'.1 z'.2 l' hl ho eg ec k X H;exact nE cp z' eb (by rw[show z'=z from Db e1.symm e2.symm];exact hz)
    have f4:a8.flatten.Nodup:=bu.2 λk=>by
     rw[a5 k];have h5:=bu.1 (gO Z b3 hk) k;have h6:(g.lend.map W0.β).count k<=1:=by
      exact CE List.count_le_length (by rw[CY];exact J)
     by_cases h7:k∈g.lend.map W0.β
     ·have:(aW W0 g.kill).count k=0:=BZ.2 λO=>by
       obtain⟨b',Y,e0⟩:=Co.1 h7;obtain⟨z,hz,X⟩:=gf.1 O;obtain⟨l,hl,ho⟩:=hk z hz;exact (Z.ownb z.1 z.2 l hl ho k X).2.2 b' (a2 b' Y) e0
      omega
     ·have:(g.lend.map W0.β).count k=0:=BZ.2 h7;omega
    have b0:=ad w (bm V W0 g.p g.frz) g.val vs a8 y (c2.mono (λ_ h=>h) a0) (λk H=>a0 k (mn hV k H)) f4 hy;have bb:gF S0 d c.rs=true:=by
     unfold gF at M ⊢;split at M
     ·rcases b9 (B0+d) with e0|e0
      ·rw[e0];exact M
      ·exact absurd e0 (by have:=iU.2.1;omega)
     ·exact M
    refine b0.mono λe w' bn=>?_
    obtain⟨v,rfl,W1,a3,b6,e5,bl,_⟩:=yV (Γ:=Γ) hV Z c0 hg hf hk a2 b3 cp hE J ba a5 hd cb bb f3 bn;refine⟨v,rfl,?_⟩;refine c3 W1 _ w' ?_ ?_
    ·have e1:=bB (mo S0 c d ys g y) U0 st;rw[a9]at e1;rw[<- e1]at a3;subst a9;unfold mo at a3;simp only[bB,BQ,DK]at a3 ⊢;exact a3
    ·intro q j hb;subst hb;obtain⟨u,f5,ex,f0,i,off,p,E,e,ef,gg,ed,q1,q2,q3,q4⟩:=dn;have cu:=dc true q j rfl rfl;have a7:g.lend=[]:=ba.resolve_right (by rw[cu];simp);simp only[oE,BC,BY]at cc;obtain⟨⟨⟨e3,e4⟩,b4⟩,b1⟩:=cc;have e7:q≠d:=λe0=>by rw[e0]at b4;simp at b4
     have d1:q≠B0+d:=λe0=>by rw[e0]at b1;simp at b1
     have cy:(q,j)∉g.kill:=λO=>by
      have:=B4.1 e3 _ O;simp[is]at this
     have es:(q,j)∉g.frz:=λO=>by
      have:=B4.1 e4 _ O;simp[is]at this
     have ej:TMP≠d:=by have:=hV.nt;have:=iU.1;omega
     have en:TMP≠B0+d:=by have:=iU.2.1;omega
     have hL:=e5 q j e7 d1 (by rw[a7];simp) es cy;rw[q1]at hL;have hC:=b6 q e7 d1 (by rw[a7];simp);have e1:=bB (mo S0 c d ys g y) U0 st;rw[a9]at e1;have f1:gg<w.heap.size:=Z.own_lt q1 trivial gg q3;have f2:gg∉aW W0 g.kill:=λO=>by
      obtain⟨z,hz,X⟩:=gf.1 O;obtain⟨l,hl,ho⟩:=hk z hz;obtain⟨e1,e2⟩:=Z.sep z.1 z.2 l q j _ hl ho q1 trivial gg X q3;exact cy (by rw[show (q,j)=z from Db e1.symm e2.symm];exact hz)
     have c1:w'.cell? ⟨gg,i*e.cells+off,none⟩=some u:=by
      rw[kw (bl gg f1 f2 (by rw[a7];simp))];exact q4
     have ev:gg∈W1.bs q j:=by
      have h9:=a3.leaf q j _ _ hL (by rw[hC];exact q2);obtain⟨_,f8,fc,_,et,_⟩:=h9;rw[et];simp[By]
     refine⟨u,by rw[b6 TMP ej en (by rw[a7];simp)];exact f5,ex,f0,i,off,p,E,e,ef,gg,ed,?_,by rw[hC];exact q2,ev,c1⟩;have a6:=hL;rw[<- e1]at a6;subst a9;unfold mo at a6;simp only[bB,BQ,DK]at a6 ⊢;exact a6
  ·cases h
 ·cases h
end
section
variable {P:Program} {V:Env} {Γ:List Ctr} {T:TypeId->TI} {st:St} {o:Oper} {R:Type} {κ:Upd->Option R} {r:R}
theorem nQ {W:Wit}{a:Act}{w:World}(h:ap P V W st a w):∀ (l:List Operand),gS P V W st w (l.map (au st)) (l.map a.eval)
 |[]=>rfl
 |x::l=>by
  obtain⟨z,u,y⟩:=cX h x;exact⟨a.eval x,l.map a.eval,z,rfl,u,y,nQ h l⟩
theorem ng {W:Wit}{w:World}:∀ {xs y:List (aH×List Leaf)} {z us:List Value},gS P V W st w xs z->gS P V W st w y us->gS P V W st w (xs++y) (z++us)
 |[],_,_,_,H,u=>by rw[show _=_ from H];exact u
 |x::xs,_,_,_,⟨v,O,X,e,M,J,I⟩,u=>by
  subst e;exact⟨v,_,X,rfl,M,J,ng I u⟩
theorem qG {a:Act}{w:World}{c:Call}{x:Operand}{f:FuncId}{caps:Array Value}(z:o.op=.call c)(I:c.callee=.value x)(J:a.eval x=.func (.func f) #[] caps)(M:fP P f){next:Act->World->Prop}{Q:Exit->Act->World->Prop}
  (u:Calls P f (c.args.map a.eval++caps) w (λe H=>∃ v,e=.returned v/\next (a.put o.dst v) H)):o.wp P a w next Q:=by
 unfold Oper.wp;have y:(execOp a.eval o).run P w=.ok (.enter f (c.args.map a.eval++caps)) w:=by
  have:=M (c.args.map a.eval++caps) w;simp[execOp,z,resolve,I,J,Deferred.ofValue,invoke,this]
 rw[y,Oper.upon_enter];refine u.mono λe H=>?_
 rintro⟨v,rfl,hn⟩;exact hn
theorem k8 {p:Bool}:∀ {b:Ty} {x:b.den},b.flat=true->aq p b x=cN p b x
 |.int _,_,_=>rfl
 |.bool,_,_=>rfl
 |.str,_,_=>rfl
 |.unit,_,_=>rfl
 |.hdr,_,_=>rfl
 |.pair a b,x,h=>by
  simp only[Ty.flat,BC]at h;simp only[aq,cN,k8 h.1,k8 h.2]
 |.list _ _ _,_,h=>by simp[Ty.flat]at h
theorem rz (hV:ay V){W:Wit}{a:Act}{w:World}(h:ap P V W st a w):∀ (J:List Ty) (xs:List (aH×List Leaf)) (X:List Value) (x:Tup J),gS P V W st w xs X->iJ st J xs=some x ->
  r8 w (λk=>k<w.heap.size) J x X
 |[],[],X,_,hx,_=>hx
 |[],_::_,_,_,_,u=>by simp[iJ]at u
 |_::_,[],_,_,_,u=>by simp[iJ]at u
 |b::J,x::xs,X,z,⟨v,O,cs,e,hs,Z,I⟩,u=>by
  subst e;simp only[iJ]at u;cases M:decide (x.1=bh b.isAgg) with
  |false=>simp[M]at u
  |true =>
   simp only[M,cond_true]at u;have M:=of_decide_eq_true M;rw[M]at hs;split at u
   ·rename_i p y hy;simp only[BB]at u;obtain⟨t,ht,rfl⟩:=u;have Y:=ey h Z hy;refine⟨v,cs,O,rfl,gy hs,Y.mono (λk H=>?_),rz hV h J xs O t I ht⟩;rcases H with (H|⟨_,H⟩)|⟨z,hz,H⟩
    ·exact (h.nwlt k H).1
    ·exact CG (hV.ro k H).1 h.size
    ·obtain⟨l,h1,h2⟩:=ei Z hz;exact h.own_lt h1 h2 k H
   ·cases u
theorem xR (hV:ay V)(hΓ:∀ c∈Γ,bQ P c)(J:bO V o){c:Call}{f:Operand}(Y:o.op=.call c)(hc:c.callee=.value f)
  (h:act Γ T o st κ=some r):bW P V o st κ r:=by
 simp only[act,wrU,Y,hc]at h;split at h
 ·cases h
 ·rename_i d X;split at h
  ·rename_i g H Z;obtain⟨he,U,hU,z⟩:=uZ hV hΓ (J d X).1 (J d X).2 h;refine⟨U,hU,λW a w I next Q hn=>?_⟩;obtain⟨M,_,_,_,_⟩:=bt I f (by rw[Z];simp);rw[Z]at M;have O:=ng (nQ I c.args.toList) (sf (pZ (P:=P) (V:=V) (W:=W) (w:=w) H M.2));rw[DC]at O;have:=z W a w I _ O;have e:(c.args.toList.map a.eval++H.map λb=>Value.pointer (some ⟨W.β b,0,none⟩)).toArray=c.args.map a.eval++(H.map λb=>Value.pointer (some ⟨W.β b,0,none⟩)).toArray:=by
    apply DX;simp
   rw[e]at this;refine qG Y hc M.1 he (this.mono λe w'=>?_);rintro⟨v,rfl,hrel⟩;refine⟨v,rfl,hn _ _ ?_⟩;rw[X];exact hrel
  ·rename_i g H Z;obtain⟨he,U,hU,z⟩:=uZ hV hΓ (J d X).1 (J d X).2 h;refine⟨U,hU,λW a w I next Q hn=>?_⟩;obtain⟨M,_,_,_,_⟩:=bt I f (by rw[Z];simp);rw[Z]at M;obtain⟨us,M,a0,a2⟩:=M;have O:=ng (nQ I c.args.toList) (sf (qE (st:=st) a0 a2));rw[DC]at O;have:=z W a w I _ O;have e:(c.args.toList.map a.eval++us).toArray=c.args.map a.eval++us.toArray:=by
    apply DX;simp
   rw[e]at this;refine qG Y hc M he (this.mono λe w'=>?_);rintro⟨v,rfl,hrel⟩;refine⟨v,rfl,hn _ _ ?_⟩;rw[X];exact hrel
  ·rename_i As B φ Z;cases hb:B.flat with
   |false=>simp[hb]at h
   |true =>
    simp only[hb,cond_true]at h;split at h
    ·rename_i x hx;obtain⟨y,hy,h⟩:=B3.1 h;simp only[X]at h;refine⟨_,h,λW a w I next Q hn=>?_⟩;obtain⟨M,_,_,_,_⟩:=bt I f (by rw[Z];simp);rw[Z]at M;obtain⟨f',H,M,he,z⟩:=M;have a3:=rz hV I As _ _ x (nQ I c.args.toList) hx;have:=z w I.size I.keep x _ y a3 hy;have e:(c.args.toList.map a.eval).toArray=c.args.map a.eval:=by apply DX;simp
     rw[e]at this;refine qG Y hc M he (this.mono λe w'=>?_);rintro⟨u,cs,rfl,hvo,hrd,hbelow⟩;refine⟨u,rfl,hn _ _ ?_⟩;rw[X];have a4:=I.below hV hbelow;have a1:=eT (P:=P) (V:=V) (W:=W) (st:=st) (G:=λ_=>False) (p:=false) (λ_ h=>h.elim) hrd;rw[<- k8 hb]at a1;exact a4.putLs hV d (J d X).1 (J d X).2 _ _ _ u cs (BM _) (jZ hvo) a1
    ·cases h
  ·cases h
theorem Bk (H:ay V)(I:TOk P T)(hΓ:∀ c∈Γ,bQ P c)(z:bO V o)(h:act Γ T o st κ=some r):bW P V o st κ r:=by
 cases u:o.op with
 |move x=>exact x7 H z u h
 |assign x=>exact vn H z u h
 |pick c x y=>exact x8 H z u h
 |alloc t=>exact xK H I z u h
 |box t x=>exact Al H z u h
 |build t M=>exact wM H I z u h
 |buildSlice t n M=>exact qC H I z u h
 |load t x=>exact ya H I z u h
 |store t x y=>exact xM H I u h
 |nilCheck x=>exact sx H z u h
 |binOp X t x y Z=>exact wI H I z u h
 |unOp X t x=>exact x9 H z u h
 |convert s t x=>exact uq H I z u h
 |makeSlice t n c=>exact rV H I z u h
 |slice t x lo Y mx=>exact xP H I z u h
 |fieldAddr t x f=>exact rR H I z u h
 |field t x f=>exact wL H I z u h
 |indexAddr t x i=>exact rS H I z u h
 |index t x i=>exact wK H I z u h
 |extract x i=>exact tW H z u h
 |makeFunc fn first O=>exact sy H z u h
 |call c =>
  cases J:c.callee with
  |value f=>exact xR H hΓ z u J h
  |builtin b =>
   cases b with
   |len=>exact zy H I z u J h
   |append=>exact wa H I z u J h
   |min=>exact Am H z u J h
   |max=>exact An H z u J h
   |_ =>
    simp only[act,wrU,u,J]at h;split at h <;> cases h
  |_ =>
   simp only[act,wrU,u,J]at h;split at h <;> cases h
 |_=>simp[act,wrU,u]at h
end
def cG:Ty->Ty->Bool
 |.pair a b,z=>match z with
  |.pair c d=>cG a c&&cG b d
  |_=>false
 |.list m E e,z=>match z with
  |.list n u r=>decide (E=u)&&(bif n then m&&cG e r else decide (e.sh=r.sh))
  |_=>false
 |a,z=>decide (a=z)
theorem fQ:∀ {a b:Ty},cG a b=true->a.sh=b.sh
 |.pair a b,z,h=>by
  cases z with
  |pair c d =>
   simp only[cG,BC]at h;simp only[Ty.sh,fQ h.1,fQ h.2]
  |_=>simp[cG]at h
 |.list m E e,z,h=>by
  cases z with
  |list n r u =>
   simp only[cG,BC,decide_eq_true_eq]at h;obtain⟨rfl,h⟩:=h;cases n with
   |true =>
    simp only[cond_true,BC]at h;simp only[Ty.sh,fQ h.2]
   |false =>
    simp only[cond_false,decide_eq_true_eq]at h;simp only[Ty.sh,h]
  |_=>simp[cG]at h
 |.int _,z,h=>by simp only[cG,decide_eq_true_eq]at h;rw[h]
 |.bool,z,h=>by simp only[cG,decide_eq_true_eq]at h;rw[h]
 |.str,z,h=>by simp only[cG,decide_eq_true_eq]at h;rw[h]
 |.unit,z,h=>by simp only[cG,decide_eq_true_eq]at h;rw[h]
 |.hdr,z,h=>by simp only[cG,decide_eq_true_eq]at h;rw[h]
theorem yX {a b:Ty}(h:cG a b=true):a.isAgg=b.isAgg:=by
 cases a with
 |pair c d=>cases b <;> first|rfl|(simp[cG]at h)
 |list m E e=>cases b <;> first|rfl|(simp[cG]at h)
 |_=>simp only[cG,decide_eq_true_eq]at h;rw[h]
theorem ol {f g h:Nat->List Nat}{k:Nat}:∀ {l:List Nat},(∀ j∈l,(f j).count k=(g j).count k+(h j).count k)->(l.flatMap f).count k=(l.flatMap g).count k+(l.flatMap h).count k
 |[],_=>rfl
 |a::l,H=>by
  have u:=H a (BW ..);have y:=ol (l:=l) (λj r=>H j (BP _ r));simp only[CK,BF];omega
theorem Mx.thin {w:World}{G:Nat->Prop}:∀ {a b:Ty} {pos:Nat} {x:a.den} {y:b.den} {cs:List Value} {bs:List Nat},cG a b=true->HEq x y->Mx w G a none pos x cs bs ->
  ∃ b1 b2:List Nat,(∀ k,bs.count k=b1.count k+b2.count k)/\Mx w (λk=>G k\/k∈b2) b none pos y cs b1
 |.pair a b,z,pos,x,y,cs,bs,h,r,H=>by
  cases z with
  |pair c d =>
   simp only[cG,BC]at h;obtain⟨c1,c2,ba,bb,rfl,rfl,h1,h2⟩:=H;obtain⟨h3,h4⟩:=sm (jr (fQ h.1)) (jr (fQ h.2)) r;obtain⟨p1,p2,Z,X⟩:=Mx.thin h.1 h3 h1;obtain⟨r1,r2,s1,s2⟩:=Mx.thin h.2 h4 h2;refine⟨p1++r1,p2++r2,λk=>?_,c1,c2,p1,r1,rfl,rfl,X.mono (λk J=>J.imp id (BJ _)),?_⟩
   ·have:=Z k;have:=s1 k;simp only[BF];omega
   ·have:=s2.mono (G':=λk=>G k\/k∈p2++r2) (λk J=>J.imp id (BE _))
    rwa [hZ (fQ h.1)]at this
  |_=>simp[cG]at h
 |.list m E e,z,pos,xs,R,cs,bs,h,r,H=>by
  have a2:=fQ h;cases z with
  |list n E' e' =>
   simp only[cG,BC,decide_eq_true_eq]at h;obtain⟨rfl,h⟩:=h;cases n with
   |true =>
    simp only[cond_true,BC]at h;obtain⟨rfl,h⟩:=h;rw[bK (by simp)]at H;obtain⟨v,rfl,I,a1,h1,h2,h3⟩:=H;obtain⟨h4,h5⟩:=sn (jr (fQ h)) r;have a0:∀ j,∃ q:List Nat×List Nat,j<R.length->(∀ k,(a1 j).count k=q.1.count k+q.2.count k) /\
      ∀ y,R[j]?=some y->∃ c,Mx w (λk=>G k\/k∈q.2) e' none 0 y c q.1/\∀ i u,c[i]?=some u->I[j*e'.cells+i]?=some u:=by
     intro j;by_cases M:j<R.length
     ·have Y:=BS M;obtain⟨x,hx,r⟩:=h5 j _ Y;obtain⟨c,hm,hc⟩:=h3 j x hx;obtain⟨b1,b2,Z,X⟩:=Mx.thin h r hm;refine⟨(b1,b2),λ_=>⟨Z,λy O=>⟨c,?_,λi u hi=>?_⟩⟩⟩
      ·rw[Y]at O;simp only[BA]at O;subst O;exact X
      ·rw[<- hZ (fQ h)];exact hc i u hi
     ·exact⟨([],[]),λh=>absurd h M⟩
    obtain⟨f,hf⟩:=Classical.skolem.1 a0;refine⟨v.ownBlock.toList++(BO R.length).flatMap (λj=>(f j).1),(BO R.length).flatMap (λj=>(f j).2),λk=>?_,?_⟩
    ·rw[h2,BF,BF,h4,ol (g:=λj=>(f j).1) (h:=λj=>(f j).2) (λj M=>(hf j (Cv.1 M)).1 k)];omega
    ·rw[bK (by simp)];refine⟨v,rfl,I,λj=>(f j).1,by rw[<- h4,<- hZ (fQ h)];exact h1,rfl,λj y O=>?_⟩;have M:=(BD.1 O).1;obtain⟨c,Z,X⟩:=(hf j M).2 y O;exact⟨c,Z.mono (λk J=>J.imp id (λJ=>dW.2 ⟨j,M,J⟩)),X⟩
   |false =>
    refine⟨[],bs,λk=>by simp,?_⟩;rw[cr];exact⟨rfl,Rd.flags a2 r (Mx.rd (S:=λk=>G k\/k∈bs) (λ_=>.inl) (λ_=>.inr) H)⟩
  |_=>simp[cG]at h
 |.int _,z,pos,x,y,cs,bs,h,r,H=>by
  simp only[cG,decide_eq_true_eq]at h;subst h;cases r;exact⟨bs,[],λk=>by simp,H.mono (λ_=>.inl)⟩
 |.bool,z,pos,x,y,cs,bs,h,r,H=>by
  simp only[cG,decide_eq_true_eq]at h;subst h;cases r;exact⟨bs,[],λk=>by simp,H.mono (λ_=>.inl)⟩
 |.str,z,pos,x,y,cs,bs,h,r,H=>by
  simp only[cG,decide_eq_true_eq]at h;subst h;cases r;exact⟨bs,[],λk=>by simp,H.mono (λ_=>.inl)⟩
 |.unit,z,pos,x,y,cs,bs,h,r,H=>by
  simp only[cG,decide_eq_true_eq]at h;subst h;cases r;exact⟨bs,[],λk=>by simp,H.mono (λ_=>.inl)⟩
 |.hdr,z,pos,x,y,cs,bs,h,r,H=>by
  simp only[cG,decide_eq_true_eq]at h;subst h;cases r;exact⟨bs,[],λk=>by simp,H.mono (λ_=>.inl)⟩
theorem jo.mono {w:World}{G G':Nat->Prop}(z:∀ k,G k->G' k){a:Ty}{x:a.den}{ptr:Bool}{v:Value}{bs:List Nat}(h:jo w G a x ptr v bs):jo w G' a x ptr v bs:=by
 unfold jo at h ⊢;split at h
 ·rename_i y;rw[if_pos y];obtain⟨g,c,E,I,u,r,H,M⟩:=h;exact⟨g,c,E,I,u,r,H.mono z,M⟩
 ·rename_i y;rw[if_neg y];obtain⟨J,u,r⟩:=h;exact⟨J,u,r.mono z⟩
theorem bM.mono {w:World}{G G':Nat->Prop}(y:∀ k,G k->G' k):∀ {ps:List PK} {o:ah ps} {z:List Value} {bs:List (List Nat)},bM w G ps o z bs->bM w G' ps o z bs
 |.io _::_,_,_::_,_::_,⟨r,u⟩=>⟨r.mono y,bM.mono y u⟩
 |.iop _::_,_,_::_,_::_,⟨r,u⟩=>⟨r.mono y,bM.mono y u⟩
 |.rd _::_,_,_::_,_::_,⟨r,u⟩=>⟨r,bM.mono y u⟩
 |.own _::_,_,_::_,_::_,⟨r,u⟩=>⟨r,bM.mono y u⟩
 |.rref _::_,_,_::_,_::_,⟨r,u⟩=>⟨r,bM.mono y u⟩
 |.rref2 _::_,_,_::_,_::_,⟨r,u⟩=>⟨r,bM.mono y u⟩
 |.fn _ _::_,_,_::_,_::_,⟨r,u⟩=>⟨r,bM.mono y u⟩
 |.clo _ _::_,_,_::_,_::_,⟨r,u⟩=>⟨r,bM.mono y u⟩
 |.hol _ _ _::_,_,_::_,_::_,⟨r,u⟩=>⟨r,bM.mono y u⟩
 |[],_,[],[],_=>trivial
 |[],_,_::_,_,h=>by simp[bM]at h
 |[],_,[],_::_,h=>by simp[bM]at h
 |p::_,_,[],_,h=>by cases p <;> exact h.elim
 |p::_,_,_::_,[],h=>by cases p <;> exact h.elim
theorem pX.mono {w:World}{G G' ro ro':Nat->Prop}(I:∀ k,G k->G' k)(M:∀ k,G k\/ro k->G' k\/ro' k):∀ {r:RK} {y:r.den} {v:Value} {bs:List Nat},pX w G ro r y v bs->pX w G' ro' r y v bs
 |.v _,_,_,_,⟨H,z,u⟩=>⟨H,z,u.mono I⟩
 |.bv _,_,_,_,⟨e,H,z,u⟩=>⟨e,H,z,u.mono M⟩
 |.box _,_,_,_,⟨g,c,E,O,z,u,J,R⟩=>⟨g,c,E,O,z,u,J.mono I,R⟩
theorem gx.mono {w:World}{G G' ro ro':Nat->Prop}(M:∀ k,G k->G' k)(J:∀ k,G k\/ro k->G' k\/ro' k):∀ {I:List RK} {y:ai I} {us:List Value} {r:List (List Nat)},gx w G ro I y us r->gx w G' ro' I y us r
 |[],_,_,_,h=>h
 |_::_,_,_,_,⟨u,H,b,z,Y,R,X,O⟩=>⟨u,H,b,z,Y,R,X.mono M J,gx.mono M J O⟩
theorem bQ.thin {P:Program}{f:FuncId}{a a':Ty}{ps:List PK}{rs:List RK}{fr:Bool}{a7:ab (.own a::ps)->Option (ai rs×ah (.own a::ps))}{M:ab (.own a'::ps)->Option (ai rs×ah (.own a'::ps))}
  (h:bQ P ⟨f,.own a::ps,rs,fr,a7⟩) (ht:cG a' a=true) (cv:a'.den->a.den) (bx:∀ x,HEq x (cv x)) (hd:∀ x,M x=a7 (cv x.1,x.2)):bQ P ⟨f,.own a'::ps,rs,fr,M⟩:=by
 refine⟨h.1,λw ro x vs c0 y a2 a8 b4 hy=>?_⟩;obtain⟨x1,xr⟩:=x;obtain⟨v,a9,b,u,rfl,rfl,⟨cs,bl,hm⟩,Z⟩:=a2;obtain⟨R,O,Y,b6⟩:=Mx.thin ht (bx x1) hm;have a0:=hm.lt;rw[bu]at b4;have X:∀ k,R.count k+O.count k+u.flatten.count k<=1:=λk=>by
  have:=b4 k;rw[BX,BF,Y k]at this;exact this
 have hb:∀ k,k∈b<->k∈R\/k∈O:=λk=>by
  rw[<- BK,<- BK,<- BK,Y k];omega
 have z:∀ k,k∈(R::u).flatten->k∈(b::u).flatten:=λk r=>by
  rw[BX,BL]at r ⊢;exact r.imp (λh=>(hb k).2 (.inl h)) id
 have a6:∀ k,k∈O->k∉(R::u).flatten:=λk r H=>by
  have h1:=X k;have h2:=BK.2 r;have h3:=BK.2 H;rw[BX,BF]at h3;omega
 have a3:∀ k,k∈O->k∈(b::u).flatten:=λk r=>by
  rw[BX,BL];exact .inl ((hb k).2 (.inr r))
 have I:db P w (λk=>ro k\/k∈O) (λk=>k<w.heap.size/\k∉(R::u).flatten) (.own a::ps) (cv x1,xr) (v::a9) (R::u) :=
  ⟨v,a9,R,u,rfl,rfl,⟨cs,by rw[<- yX ht];exact bl,b6⟩,Z.mono (λ_=>.inl) (λk r=>⟨r.1,λh=>r.2 (z k h)⟩)⟩
 refine (h.2 w _ _ _ _ y I (λk r=>?_) ?_ (by rw[<- hy];exact (hd (x1,xr)).symm)).mono λe w' hp=>?_
 ·rcases r with r|r
  ·exact⟨(a8 k r).1,λh=>(a8 k r).2 (z k h)⟩
  ·exact⟨a0 k ((hb k).2 (.inr r)),a6 k r⟩
 ·rw[bu];intro k;have:=X k;show ((R::u).flatten).count k<=1;rw[BX,BF];omega
 ·obtain⟨v',us,N,a1,ba,h1,b0,a4,bn,b5,b9,bb,hN,hO,a5,ad,J⟩:=hp;have hG:∀ k,(N k\/fr=false/\(ro k\/k∈O))->((N k\/k∈O)\/fr=false/\ro k):=λk r=>by
   rcases r with r|⟨r,H|H⟩
   ·exact .inl (.inl r)
   ·exact .inr ⟨r,H⟩
   ·exact .inl (.inr H)
  refine⟨v',us,λk=>N k\/k∈O,a1,ba,h1,b0,a4,bn,b5,b9,λk r hn=>bb k r (λh=>hn (z k h)),λk r=>?_,?_,?_,ad,λk r=>?_⟩
  ·rcases r with r|r
   ·exact⟨(hN k r).1,(hN k r).2.imp id (z k)⟩
   ·exact⟨CG (a0 k ((hb k).2 (.inr r))) a4,.inr (a3 k r)⟩
  ·match a1,hO with
   |b3::a1,hO=>exact⟨hO.1,bM.mono hG hO.2⟩
   |[],hO=>exact hO.elim
  ·refine gx.mono hG (λk r=>?_) a5;rcases r with r|r|r
   ·exact .inl (hG k r)
   ·exact .inr r
   ·exact .inl (.inl (.inr r))
  ·obtain⟨h5,h6⟩:=J k r;refine⟨⟨h5.1,h5.2.imp id (z k)⟩,λh=>h.elim h6 (λh=>?_)⟩;rcases h5.2 with h7|h7
   ·have:=a0 k ((hb k).2 (.inr h));omega
   ·exact a6 k h h7
end Go.Proofs.YtadlacffdemoiaaGreatEv
