/- One operation: boxes made, boxes written. -/
import Derived.Test.YtaelpfghkndliaaGreatE0
import Derived.Deep.MidRow
import Derived.Great.FillDense
set_option linter.unusedVariables false
set_option linter.unusedSimpArgs false
open Array renaming toArray_toList->Bt,length_toList->Bx,getElem?_toList->Cn,toList_append->Cu,size_append->C4,toList_map->DD,ext'->DR
open Bool renaming and_eq_true->BC,not_eq_true'->BY,or_eq_false_iff->Cs,or_eq_true->DM
open Go.Addr.mk renaming injEq->CZ
open Go.Builtin renaming append_->By,firstCells->CW,lenOf->Ca,zeroCells->C9
open Go.Instr renaming sliceBounds->C7,storeAt->DT
open Go.Result renaming andThen_ok->CX
open Go.Sem renaming run_bind->C3
open Go.Value renaming ownBlock->Bs
open Go.Value.slice renaming injEq->Bw
open Go.World renaming setCells->Co,alloc_eq->Cr,drew_eq->Cv,freeze->C5,alloc->DH,drew->DP
open Iff renaming rfl->Cf
open Int renaming toNat_natCast->C0
open List renaming getElem?_eq_some_iff->BD,mem_append_right->BE,count_append->BF,getElem?_append_right->BG,getElem?_append_left->BH,mem_append_left->BJ,count_pos_iff->BK,mem_append->BL,range->BO,mem_cons_of_mem->BP,append_assoc->BQ,length_append->BR,getElem?_eq_getElem->BS,eq_nil_of_length_eq_zero->BV,mem_cons_self->BW,flatten_cons->BX,count_eq_zero->BZ,append_nil->Bq,length_take->Br,any_eq_false->Bv,getElem?_take->B4,getD_eq_getElem?_getD->B5,nodup_append->B7,replicate->B9,nodup_cons->CB,length_set->CC,flatMap_cons->CE,getElem?_set_ne->CF,mem_cons->CI,getElem?_drop->CJ,getElem?_cons_zero->CK,getElem?_replicate->CL,size_toArray->CM,getElem?_set_self->CN,any_cons->CQ,length_nil->CR,length_map->CS,length_drop->Cb,length_cons->Cc,mem_map->Ci,count_cons->Cj,singleton_append->Cl,length_replicate->Cm,mem_range->Cp,all_cons->Cw,map_nil->Cz,map_map->C6,isEmpty_iff->DA,flatMap_map->DB,cons_append->DE,length->DI,map_append->DJ,nil_append->DN,nodup_nil->DO,take_left->DQ,map_cons->DU
open List.cons renaming injEq->CT
open Nat renaming eq_of_beq_eq_true->BI,lt_succ_self->BM,mul_le_mul_right->BN,beq->BT,le_refl->BU,succ_mul->Bz,add_zero->B6,le_trans->B8,lt_of_lt_of_le->CA,le_of_ble_eq_true->CD,zero_add->CH,ble_eq_true_of_le->CO,le_add_right->CP,mul_le_mul_left->CU,blt_eq->CV,add_mul->CY,le_of_eq->Cd,ble->Ce,mul_comm->Cg,sub_zero->Ch,mul_one->Cq,blt->Ct,eq_zero_or_pos->Cy,zero_mul->C8,mod_eq_of_lt->DC,le_succ->DF,zero_le->DG,mul_add_mod->DK,add_assoc->DS
open Ne renaming symm->CG
open Option renaming map_eq_some_iff->BB,bind_eq_some_iff->Bu,map_none->Ck,toList_some->Cx,map_some->DL
open Option.some renaming injEq->BA
open Prod renaming ext->DV
open Prod.mk renaming injEq->B3
namespace Go.Proofs.YtaelpfghkndliaaGreatEv
open Go Go.RowKit
section
variable {P:Program} {V:Env} {Γ:List Ctr} {T:TypeId->TI} {st:St} {o:Oper} {R:Type} {κ:Upd->Option R} {r:R}
theorem mW {q u:Nat}(h:q≠u)(c y:bT)(st:St):ae [(q,c)] (ae [(u,y)] st)=ae [(u,y)] (ae [(q,c)] st):=by
 funext k;rcases an q k c (ae [(u,y)] st) with ⟨rfl,e⟩|⟨H,e⟩
 ·rw[e,aI h,bh]
 ·rw[e];rcases an u k y st with ⟨rfl,z⟩|⟨I,z⟩
  ·rw[z,bh]
  ·rw[z,aI I,aI H]
theorem aq.boxed (hV:ay V){W:Wit}{a:Act}{w:World}(h:aq P V W st a w)(d:Nat)(hd:d<V.nt)(X:∀ x∈V.fixt,x.1≠d)(I:(st (B0+d)).sh=.off)(ls:List Leaf)
  (y:List Value) (z:Nat->List Nat) (E:TypeId)
  (hl:ls.length=y.length) (h1:∀ u∈y,u.oneCell'=true)
  (H:∀ (j:Nat) (l:Leaf) (u:Value),ls[j]?=some l->y[j]?=some u->aJ P V W st w (z j) l u)
  (M:∀ (j:Nat) (l:Leaf),ls[j]?=some l->ap l->∀ k∈z j,¬ W.nw k/\¬ V.prot k/\k<w.heap.size/\(∀ b,live st b->W.β b≠k) /\
   ∀ (r1 Y:Nat) (Z:Leaf),(st r1).ls[Y]?=some Z->ap Z->k∉W.bs r1 Y)
  (O:∀ (j j':Nat) (l l':Leaf),ls[j]?=some l->ap l->ls[j']?=some l'->ap l'->∀ k,k∈z j->k∈z j'->j=j') :
  Rel P V (ae ((B0+d,⟨(st (B0+d)).ver+1,.agg,ls⟩)::[(d,⟨(st d).ver+1,.one,[.bp (B0+d) 0]⟩)]) st) (a.put (some d) (.pointer (some ⟨w.heap.size,0,none⟩))) (w.alloc (.cells y.toArray E)):=by
 have J:B0+d≠d:=by simp[B0]
 have a0:¬ live st (B0+d):=by simp[live,I]
 have h2:=h.setBox hV (B0+d) (CP _ _) ((st (B0+d)).ver+1) ls y z w.heap.size E (w':=w.alloc (.cells y.toArray E)) (BM _) (.inr ⟨a0,BU _⟩)
  (heap_alloc_new w _) (λk hk _=>Go.heap_alloc_old w _ hk) (by simp) rfl rfl rfl hl h1 H (λj l hj ho k hk=>by
   obtain⟨h3,h4,h5,h6,h7⟩:=M j l hj ho k hk;exact⟨h3,h4,h5,h6,λr1 Y Z _=>h7 r1 Y Z⟩) O
 rw[aP,mW J];refine h2.putLs hV d hd X _ .one [.bp (B0+d) 0] _ [.pointer (some ⟨w.heap.size,0,none⟩)] ?_ rfl ⟨⟨⟨CP _ _,by rw[bh],by simp⟩,id,rfl⟩,trivial⟩;rw[aI (CG J)];omega
theorem ut {t:TypeId}(I:TOk P T)(H:(T t).cells≠0)(w:World):∃ z y,(zeroValue t).run P w=.ok z w/\z.cells=y.toArray/\∀ (V:Env) (W:Wit) (st:St),aD P V W st w (T t).zero y:=by
 have h:=I t;cases u:T t with
 |none=>rw[u]at H;exact absurd rfl H
 |int k=>rw[u]at h;exact⟨_,[.int k 0],gl h.2.2 w,rfl,λV W st=>⟨⟨rfl,id,rfl⟩,trivial⟩⟩
 |bool=>rw[u]at h;exact⟨_,[.bool false],gl h.2.2 w,rfl,λV W st=>⟨⟨rfl,id,rfl⟩,trivial⟩⟩
 |str=>rw[u]at h;exact⟨_,[.string ByteArray.empty],gl h.2.2 w,rfl,λV W st=>⟨⟨rfl,id,rfl⟩,trivial⟩⟩
 |slice E e b=>rw[u]at h;exact⟨_,[.slice none 0 0],gl h.2.2.1 w,rfl,λV W st=>⟨⟨rfl,id,rfl⟩,trivial⟩⟩
 |struct a J=>rw[u]at h;exact⟨_,zeroCells a,gl h.2.2.1 w,rfl,λV W st=>lr a⟩
 |arr e n=>rw[u]at h;exact⟨_,(B9 n (zeroCells e)).flatten,gl h.2.2.2 w,rfl,λV W st=>oM e n⟩
 |ptr=>rw[u]at h;exact⟨_,[.pointer none],gl h.2.2 w,rfl,λV W st=>⟨⟨trivial,id,rfl⟩,trivial⟩⟩
 |fn=>rw[u]at h;exact⟨_,[.nilFunc],gl h.2.2 w,rfl,λV W st=>⟨⟨trivial,id,rfl⟩,trivial⟩⟩
theorem xG (hV:ay V)(hT:TOk P T)(I:bN V o){t:TypeId}(H:o.op=.alloc t)(h:act Γ T o st κ=some r):bW P V o st κ r:=by
 simp only[act,H]at h;split at h
 ·rename_i d M;cases J:decide ((st (B0+d)).sh=.off)&&!decide ((T t).cells=0) with
  |false=>simp[J]at h
  |true =>
   simp only[J]at h;simp at J;refine⟨_,h,λW a w hr next Q hn=>?_⟩;obtain⟨z,X,hz,Z,y⟩:=ut hT J.2 w;have y:=y V W st;refine dW (v:=.pointer (some ⟨w.heap.size,0,none⟩)) (w':=w.alloc (.cells X.toArray t)) ?_ ?_
   ·simp[execOp,H,Instr.alloc,hz,newVar,newRow,Z]
   ·rw[M];refine hn _ _ ?_;exact hr.boxed hV d (I d M).1 (I d M).2 J.1 _ X (λ_=>[]) t y.length y.one' (λj l u Y h2=>(y.at_ j l u Y h2).1) (λ_ _ _ _ k O=>by simp at O) (λ_ _ _ _ _ _ _ _ k O=>by simp at O)
 ·grind
theorem Ag (hV:ay V)(I:bN V o){t:TypeId}{x:Operand}(Z:o.op=.box t x)(h:act Γ T o st κ=some r):bW P V o st κ r:=by
 simp only[act,Z]at h;split at h
 ·rename_i d M;cases hb:decide ((st (B0+d)).sh=.off)&&decide ((av st x).2.length=(T t).cells)&&decide ((av st x).1=bg (T t).agg)&&hY st (av st x).2 with
  |false=>simp[hb]at h
  |true =>
   simp only[hb]at h;simp at hb;obtain⟨⟨⟨a0,a2⟩,a1⟩,Y⟩:=hb;have J:∀ (W:Wit) (a:Act) (w:World) (H:List Value),ee (av st x).1 (a.eval x) H->aD P V W st w (av st x).2 H ->
     (execOp a.eval o).run P w=.ok (.value (.pointer (some ⟨w.heap.size,0,none⟩))) (w.alloc (.cells H.toArray t)):=by
    intro W a w H X z;rw[a1]at X;have hc:=gT X z.one';simp[execOp,Z,Instr.box,newVar,newRow,hc]
   cases y:sg st x with
   |true =>
    rw[y]at h;refine⟨_,h,λW a w O next Q hn=>?_⟩;obtain⟨H,X,z⟩:=cU O x;refine dW (J W a w H X z) ?_;rw[M];refine hn _ _ ?_;exact O.boxed hV d (I d M).1 (I d M).2 a0 _ H (λ_=>[]) t z.length z.one' (λj l u h1 h2=>(z.at_ j l u h1 h2).1) (λ_ _ _ _ k hk=>by simp at hk) (λ_ _ _ _ _ _ _ _ k hk=>by simp at hk)
   |false =>
    rw[y]at h;refine⟨_,h,λW a w O next Q hn=>?_⟩;obtain⟨H,X,z⟩:=cU O x;obtain⟨h1,h2,h3,h4,h5⟩:=oK hV O z Y;have h6:=zj hV O z Y;refine dW (J W a w H X z) ?_;rw[M];refine hn _ _ ?_;have:=h1.boxed hV d (I d M).1 (I d M).2 (by rw[(h6 _).1];exact a0) _ H (dq W (av st x).2) t h2 z.one' h3 h4 h5;exact this
 ·grind
theorem jH (b:Nat)(E:TypeId):∀ (u:List Value) (k o:Nat) (w:World) (cur:Array Value) {mk:Nat×Nat},w.heap[b]?=some (.cells cur E mk) ->
  (w.setCells b (o+k) u).heap[b]?=some (.cells ((u.zipIdx k).foldl (λy (x:Value×Nat)=>y.setIfInBounds (o+x.2) x.1) cur) E mk)
 |[],_,_,_,_,_,h=>h
 |v::u,k,o,w,cur,mk,h=>by
  have:=jH b E u (k+1) o (w.setCell ⟨b,o+k,none⟩ v) _ (by rw[setCell_eq_setRow w b (o+k) cur E mk v h];exact setRow_heap w b cur _ E mk h);simpa[Co,DS]using this
theorem eH (b:Nat):∀ (u:List Value) (o:Nat) (w:World) (k:Nat),k≠b->(w.setCells b o u).heap[k]?=w.heap[k]?
 |[],_,_,_,_=>rfl
 |v::u,o,w,k,h=>by
  rw[Co,eH b u (o+1) _ k h];exact heap_setCell_other w ⟨b,o,none⟩ k v h
theorem jI (b:Nat):∀ (u:List Value) (o:Nat) (w:World),(w.setCells b o u).os=w.os/\(w.setCells b o u).tape=w.tape/\(w.setCells b o u).output=w.output/\(w.setCells b o u).heap.size=w.heap.size
 |[],_,_=>⟨rfl,rfl,rfl,rfl⟩
 |v::u,o,w=>by
  obtain⟨H,I,y,z⟩:=jI b u (o+1) (w.setCell ⟨b,o,none⟩ v);exact⟨H,I,y,by rw[Co,z];simp⟩
theorem mX {t:TypeId}{n:Nat}(H:bQ P t n){w:World}{b off:Nat}{cur:List Value}{E:TypeId}{mk:Nat×Nat}(J:w.heap[b]?=some (.cells cur.toArray E mk))(z:mk.2=0\/cur.length<=mk.1){v:Value}{cs:List Value}
  (hv:v.cells=cs.toArray) (Y:cs.length=n) (M:∀ u∈cs,u.oneCell'=true) (O:off+cs.length<=cur.length) :
  (DT t (.pointer (some ⟨b,off,none⟩)) v).run P w=.ok () (w.setCells b off cs):=by
 have y:∀ j,j<cs.length->(w.cell? ⟨b,off+j,none⟩).isSome=true:=by
  intro j I;rw[cell_of_row w b _ _ E mk J]
  grind
 have X:=run_storeCells_cells (P:=P) b off cs 0 w (λj I=>y j I) (λj I=>qR J (by simpa using z) (by simp;omega)) M;have Z:=du H w;simp[DT,Instr.sureAddr,storeVar,Z,hv,Y,X]
theorem tq (hV:ay V)(hT:TOk P T){t:TypeId}{x y:Operand}{b off:Nat}(bl:o.op=.store t x y)(hd:o.dst=none)(hx:one st x=.bp b off)
  (c1:(av st y).2.length=(T t).cells) (b3:(av st y).1=bg (T t).agg) (ad:(T t).cells≠0) (ab:(st b).sh=.agg) (bx:off+(av st y).2.length<=(st b).ls.length) (a4:hY st (av st y).2=true)
  {W:Wit} {a:Act} {w:World} (hr:aq P V W st a w) :
  mE P V o st ((b,⟨(ae (mvU st (av st y).2) st b).ver+1,.agg,jr (ae (mvU st (av st y).2) st b).ls (dH st (av st y).2) off⟩)::mvU st (av st y).2) a w:=by
 intro next Q hn;obtain⟨I,hs,hl⟩:=cU hr y;rw[b3]at hs;have hc:=gT hs hl.one';obtain⟨h1,h2,h3,h4,h5⟩:=oK hV hr hl a4;have h6:=zj hV hr hl a4;obtain⟨hp,_,_,_⟩:=bq hr x (by rw[hx];simp);rw[hx]at hp;obtain⟨hB,_,hv⟩:=hp;have bb:T t≠.none:=by intro e;rw[e]at ad;exact ad rfl
 rcases hr.boxes b hB with ⟨h8,_⟩|⟨_,E,h8⟩
 ·rw[ab]at h8;cases h8
 ·have b2:=hl.length;have c2:=hr.len b;have c0:(ae (mvU st (av st y).2) st b).ls.length=(W.cs b).length:=h1.len b;have b0:off+I.length<=(W.cs b).length:=by omega
  have a9:=mX (oL (hT t) bb) h8 (.inl rfl) hc (by omega) hl.one' b0;refine pw (w':=w.setCells (W.β b) off I) (by simp[execOp,bl,hv,a9]) ?_;rw[hd];refine hn _ _ ?_;rw[aP];obtain⟨e1,e2,e3,e4⟩:=jI (W.β b) I off w;have a0:=jH (W.β b) E I 0 off w _ h8;rw[kR (W.cs b) I off b0]at a0;simp only[B6]at a0;have bn:live (ae (mvU st (av st y).2) st) b:=⟨hB,by rw[(h6 b).1];exact ab⟩;have b9:(dH st (av st y).2).length=I.length:=h2;have M:∀ (j:Nat) (l:Leaf),(jr (ae (mvU st (av st y).2) st b).ls (dH st (av st y).2) off)[j]?=some l ->
    (off<=j/\j<off+I.length/\(dH st (av st y).2)[j-off]?=some l)\/((j<off\/off+I.length<=j)/\(ae (mvU st (av st y).2) st b).ls[j]?=some l):=by
   intro j l hj;unfold jr at hj;rw[b9]at hj;by_cases Z:j<off
   ·rw[BQ,BH (by simp;omega),B4,if_pos Z]at hj;exact .inr ⟨.inl Z,hj⟩
   ·by_cases J:j<off+I.length
    ·rw[BQ,BG (by simp;omega),BH (by simp;omega)]at hj;refine .inl ⟨by omega,J,?_⟩;rw[<- hj];congr 1;simp;omega
    ·rw[BG (by simp;omega),CJ]at hj;refine .inr ⟨.inr (by omega),?_⟩;rw[<- hj];congr 1;simp;omega
  have a2:∀ (j:Nat),((W.cs b).take off++I++(W.cs b).drop (off+I.length))[j]?=if off<=j/\j<off+I.length then I[j-off]? else (W.cs b)[j]?:=by
   intro j;by_cases Z:j<off
   ·rw[BQ,BH (by simp;omega),B4,if_pos Z,if_neg (by omega)]
   ·by_cases J:j<off+I.length
    ·rw[BQ,BG (by simp;omega),BH (by simp;omega),if_pos ⟨by omega,J⟩];congr 1;simp;omega
    ·rw[BG (by simp;omega),CJ,if_neg (by omega)];congr 1;simp;omega
  refine⟨_,h1.setBox hV b hB _ _ ((W.cs b).take off++I++(W.cs b).drop (off+I.length)) (λj=>if off<=j/\j<off+I.length then dq W (av st y).2 (j-off) else W.bs b j) (W.β b) E
   (BM _) (.inl ⟨bn,rfl⟩) a0 (λk _ O=>eH (W.β b) I off w k O) (Cd e4.symm) e1 e2 e3 ?_ ?_ ?_ ?_ ?_⟩
  ·simp only[jr,BR,Br,Cb];omega
  ·intro u hu;simp only[BL]at hu;rcases hu with (hu|hu)|hu
   ·exact hr.one b u (List.mem_of_mem_take hu)
   ·exact hl.one' u hu
   ·exact hr.one b u (List.mem_of_mem_drop hu)
  ·intro j l u hj hu;rw[a2]at hu;rcases M j l hj with ⟨Z,J,H⟩|⟨Z,H⟩
   ·rw[if_pos ⟨Z,J⟩]at hu;simp only[if_pos (⟨Z,J⟩:off<=j/\j<off+I.length)];exact h3 _ l u H hu
   ·have z:¬ (off<=j/\j<off+I.length):=by omega
    rw[if_neg z]at hu;simp only[if_neg z];exact h1.leaf b j l u H hu
  ·intro j l hj ho k O;rcases M j l hj with ⟨Z,J,H⟩|⟨Z,H⟩
   ·simp only[if_pos (⟨Z,J⟩:off<=j/\j<off+I.length)]at O;obtain⟨q1,q2,q3,q4,q5⟩:=h4 _ l H ho k O;exact⟨q1,q2,q3,q4,λr1 j1 l1 _=>q5 r1 j1 l1⟩
   ·have z:¬ (off<=j/\j<off+I.length):=by omega
    simp only[if_neg z]at O;obtain⟨q1,q2,q3⟩:=h1.ownb b j l H ho k O;exact⟨q1,q2,h1.own_lt H ho k O,q3,λr1 j1 l1 b4 b5 b1 b6=>b4 (h1.sep b j l r1 j1 l1 H ho b5 b1 k O b6).1.symm⟩
  ·intro j j' l l' hj ho ba a1 k O X;rcases M j l hj with ⟨Z,J,H⟩|⟨Z,H⟩ <;> rcases M j' l' ba with ⟨a5,a3,Y⟩|⟨a5,Y⟩
   ·simp only[if_pos (⟨Z,J⟩:off<=j/\j<off+I.length)]at O;simp only[if_pos (⟨a5,a3⟩:off<=j'/\j'<off+I.length)]at X;have:=h5 _ _ l l' H ho Y a1 k O X;omega
   ·have z:¬ (off<=j'/\j'<off+I.length):=by omega
    simp only[if_pos (⟨Z,J⟩:off<=j/\j<off+I.length)]at O;simp only[if_neg z]at X;exact absurd X ((h4 _ l H ho k O).2.2.2.2 b j' l' Y a1)
   ·have z:¬ (off<=j/\j<off+I.length):=by omega
    simp only[if_neg z]at O;simp only[if_pos (⟨a5,a3⟩:off<=j'/\j'<off+I.length)]at X;exact absurd O ((h4 _ l' Y a1 k X).2.2.2.2 b j l H ho)
   ·have z:¬ (off<=j/\j<off+I.length):=by omega
    have a6:¬ (off<=j'/\j'<off+I.length):=by omega
    simp only[if_neg z]at O;simp only[if_neg a6]at X;exact (h1.sep b j l b j' l' H ho Y a1 k O X).2
end
theorem br {l:List Nat}:l.Nodup<->∀ k,l.count k<=1:=by
 induction l with
 |nil=>simp
 |cons a l z =>
  rw[CB,z];constructor
  ·rintro⟨r,y⟩ k;rw[Cj];by_cases u:a=k
   ·subst u;have:l.count a=0:=BZ.2 r;simp[this]
   ·have:=y k;simp[u,this]
  ·intro h;refine⟨λH=>?_,λk=>?_⟩
   ·have r:=h a;have y:0<l.count a:=BK.2 H;rw[Cj]at r;simp at r;omega
   ·have:=h k;rw[Cj]at this;omega
theorem pX {n:Nat}(r:Nat->List Nat)(k:Nat):((BO n).flatMap r).count k=((BO n).map λj=>(r j).count k).sum:=by
 generalize BO n=l;induction l with
 |nil=>rfl
 |cons a l u=>simp[BF,u]
theorem ko {n i:Nat}(H:i<n)(r:Nat->List Nat)(b:List Nat)(k:Nat) :
  ((BO n).flatMap λj=>if j=i then b else r j).count k+(r i).count k=((BO n).flatMap r).count k+b.count k:=by
 rw[pX,pX];induction n with
 |zero=>omega
 |succ n y =>
  rw[List.range_succ];simp only[DJ,DU,Cz,List.sum_append,List.sum_cons,List.sum_nil];by_cases u:i=n
  ·subst u;have:(BO i).map (λj=>List.count k (if j=i then b else r j))=(BO i).map λj=>(r j).count k:=by
    refine List.map_congr_left λj z=>?_
    rw[if_neg (by have:=Cp.1 z;omega)]
   rw[this,if_pos rfl];omega
  ·have:=y (by omega);rw[if_neg (λe=>u e.symm)];omega
theorem mY {bs bs' K:List Nat}(y:bs.Nodup)(z:K.Nodup)(H:∀ k∈K,k∉bs)(h:∀ k,bs'.count k<=bs.count k+K.count k):bs'.Nodup/\∀ k∈bs',k∈bs\/k∈K:=by
 rw[br]at y z;refine⟨br.2 λk=>?_,λk r=>?_⟩
 ·have I:=h k;have J:=y k;have u:=z k;by_cases r:k∈K
  ·have:bs.count k=0:=BZ.2 (H k r);omega
  ·have:K.count k=0:=BZ.2 r;omega
 ·have I:=h k;have J:0<bs'.count k:=BK.2 r;by_cases u:k∈bs
  ·exact .inl u
  ·have:bs.count k=0:=BZ.2 u;exact .inr (BK.1 (by omega))
theorem Mx.pos {w:World}{G:Nat->Prop}:∀ {a:Ty} {pos r:Nat} {x:a.den} {cs:List Value} {bs:List Nat},Mx w G a none pos x cs bs->Mx w G a none r x cs bs
 |.int _,_,_,_,_,_,h=>h
 |.bool,_,_,_,_,_,h=>h
 |.str,_,_,_,_,_,h=>h
 |.unit,_,_,_,_,_,h=>h
 |.hdr,_,_,_,_,_,h=>h
 |.pair _ _,_,_,_,_,_,⟨R,M,z,J,y,I,u,O⟩=>⟨R,M,z,J,y,I,Mx.pos u,Mx.pos O⟩
 |.list m E e,_,_,_,_,_,H=>by
  cases m with
  |false=>rw[cq]at H ⊢;exact H
  |true=>rw[bH (by simp)]at H ⊢;exact H
section
variable {P:Program} {V:Env} {W:Wit} {st:St} {w w':World} {a:Act}
theorem Mx.scalar {G:Nat->Prop}{b:Ty}{hol:Option Nat}{pos:Nat}{x:b.den}{cs:List Value}{S:Nat->Prop}(r:b.flat=true)(h:Rd w S b x cs):Mx w G b hol pos x cs []:=Mx.flat r h
theorem lA (h:aq P V W st a w):∀ (b:Ty) (pos:Nat) (ls:List Leaf) (cs:List Value) (t:cL b.den),aD P V W st w ls cs->take st b ls=some t ->
  ∃ J M O,cs=J++M/\ls=O++t.rest/\aD P V W st w O J/\aD P V W st w t.rest M/\Mx w (bj V W t.p t.frz) b none pos t.val J (aX W t.kill) /\
   (∀ x∈t.frz,aC st x)/\(∀ x∈t.kill,aC st x)
 |.pair b c,pos,ls,cs,t,H,z=>by
  simp only[take]at z;split at z
  ·rename_i u hb;split at z
   ·rename_i v hc;simp only[BA]at z;subst z;obtain⟨J,M,O,e1,e2,h1,Z,X,h4,h5⟩:=lA h b pos ls cs u H hb;obtain⟨c3,c4,l2,e3,e4,h6,h7,h8,h9,a0⟩:=lA h c (pos+b.cells) u.rest M v Z hc;refine⟨J++c3,c4,O++l2,by rw[e1,e3,BQ],by rw[e2,e4,BQ],h1.append h6,h7,⟨J,c3,_,_,rfl,dI W _ _,?_,?_⟩,?_,?_⟩
    ·refine X.mono λk I=>?_
     rcases I with I|⟨y,hy,I⟩
     ·exact .inl (bU (by intro h;simp[h]) (λ_ h=>h) k I)
     ·exact .inr ⟨y,BJ _ hy,I⟩
    ·refine h8.mono λk I=>?_
     rcases I with I|⟨y,hy,I⟩
     ·exact .inl (bU (by intro h;simp[h]) (λ_ h=>h) k I)
     ·exact .inr ⟨y,BE _ hy,I⟩
    ·intro x R;exact (BL.1 R).elim (h4 x) (h9 x)
    ·intro x R;exact (BL.1 R).elim (h5 x) (a0 x)
   ·cases z
  ·cases z
 |.unit,pos,ls,cs,t,H,z=>by
  simp only[take,BA]at z;subst z;exact⟨[],cs,[],rfl,rfl,trivial,H,⟨rfl,rfl⟩,by simp,by simp⟩
 |.list m E e,pos,ls,cs,t,H,z=>by
  cases ls with
  |nil=>simp[take]at z
  |cons l ls =>
   cases cs with
   |nil=>exact H.elim
   |cons v cs =>
    cases m with
    |false =>
     simp only[take,cond_false]at z;split at z
     ·rename_i p xs ha;simp only[BA]at z;subst z;refine⟨[v],cs,[l],rfl,rfl,⟨H.1,trivial⟩,H.2,cq.2 ⟨rfl,ky h H.1.1 H.1.2.1 ha⟩,λx R=>ek (cs:=[v]) (ls:=[l]) ⟨H.1,trivial⟩ R,by simp⟩
     ·cases z
    |true =>
     simp only[take,cond_true]at z;split at z
     ·rename_i r j n;split at z
      ·rename_i p E' e' xs hd;simp only[BB]at z;obtain⟨ys,hc,rfl⟩:=z;obtain⟨rfl,rfl,rfl⟩:=jE hc;obtain⟨h1,Z,X,h4⟩:=ke h hd H.1.1;refine⟨[v],cs,[_],rfl,rfl,⟨H.1,trivial⟩,H.2,(bH (by simp)).2 ⟨v,rfl,?_⟩,by simp,?_⟩
       ·have:aX W [(r,j)]=W.bs r j:=by simp[aX]
        show OwB w _ none E' e' xs v (aX W [(r,j)]);rw[this];exact Z.2.carry (λk I=>.inl I) (λ_ _=>rfl) (λ_ _=>rfl)
       ·intro x R;simp only[List.mem_singleton]at R;subst R;exact⟨_,X,trivial⟩
      ·cases z
     ·simp only[BA]at z;subst z;have X:v=.slice none 0 0:=H.1.1;refine⟨[v],cs,[_],rfl,rfl,⟨H.1,trivial⟩,H.2,(bH (by simp)).2 ⟨v,rfl,?_⟩,by simp,by simp⟩;rw[X];exact (OwH.nil w _ E e).2
     ·cases z
 |.int k,pos,ls,cs,t,H,z=>take_scalar h (b:=.int k) rfl H z
 |.bool,pos,ls,cs,t,H,z=>take_scalar h (b:=.bool) rfl H z
 |.str,pos,ls,cs,t,H,z=>take_scalar h (b:=.str) rfl H z
 |.hdr,pos,ls,cs,t,H,z=>take_scalar h (b:=.hdr) rfl H z
where
 take_scalar (h:aq P V W st a w) {b:Ty} {pos:Nat} {ls:List Leaf} {cs:List Value} {t:cL b.den} (hf:b.flat=true) (H:aD P V W st w ls cs) (z:(a7 st b ls).map (λx=>(⟨false,x.2.1,[],[],x.2.2⟩:cL b.den))=some t) :
   ∃ J M O,cs=J++M/\ls=O++t.rest/\aD P V W st w O J/\aD P V W st w t.rest M/\Mx w (bj V W t.p t.frz) b none pos t.val J (aX W t.kill) /\
    (∀ x∈t.frz,aC st x)/\(∀ x∈t.kill,aC st x):=by
  simp only[BB]at z;obtain⟨⟨p,x,Y⟩,h1,rfl⟩:=z;obtain⟨J,M,O,e1,e2,Z,X,h4⟩:=kz h b ls cs p x Y H h1;exact⟨J,M,O,e1,e2,Z,X,Mx.flat hf h4,by simp,by simp⟩
theorem dO (h:aq P V W st a w){b:Ty}{pos:Nat}{ls:List Leaf}{cs:List Value}{t:cL b.den}(I:aD P V W st w ls cs)(r:ci st b ls=some t) :
  Mx w (bj V W t.p t.frz) b none pos t.val cs (aX W t.kill)/\(∀ x∈t.frz,aC st x)/\(∀ x∈t.kill,aC st x):=by
 unfold ci at r;split at r
 ·rename_i p x f k z;simp only[BA]at r;subst r;obtain⟨Z,y,Y,u,X,R,M,H,J,O⟩:=lA h b pos ls cs _ I z;have:y=[]:=by
   cases y with
   |nil=>rfl
   |cons=>exact M.elim
  subst this;simp only[Bq]at u;subst u;exact⟨H,J,O⟩
 ·cases r
theorem gO (h:aq P V W st a w):∀ {ks:List (Nat×Nat)},aY ks=true->(∀ x∈ks,aC st x)->(aX W ks).Nodup
 |[],_,_=>DO
 |x::ks,I,O=>by
  simp only[aY,BC,BY,Bv]at I;have Z:=gO h I.2 (λy H=>O y (BP _ H));show (W.bs x.1 x.2++aX W ks).Nodup;rw[B7];obtain⟨l,J,u⟩:=O x (BW ..);refine⟨?_,Z,λk hk k' r e=>?_⟩
  ·have hj:x.2<(W.cs x.1).length:=by rw[<- h.len];exact (BD.1 J).1
   have:=h.leaf x.1 x.2 l _ J (BS hj);cases l <;> simp only[ap]at u;exact OwH.nodup this
  ·subst e;obtain⟨y,H,r⟩:=gi.1 r;obtain⟨R,M,z⟩:=O y (BP _ H);obtain⟨X,Y⟩:=h.sep x.1 x.2 l y.1 y.2 R J u M z k hk r;have:=I.1 y H;rw[X,Y]at this;simp at this
theorem jW:∀ {b:Ty} {S z:Nat->Prop} {H:Option Nat} {pos:Nat} {y:b.den} {c:List Value} {q:List Nat},b.flat=true->Mx w S b H pos y c q->Rd w z b y c
 |.int _,_,_,_,_,_,_,_,_,h=>h.1
 |.bool,_,_,_,_,_,_,_,_,h=>h.1
 |.str,_,_,_,_,_,_,_,_,h=>h.1
 |.unit,_,_,_,_,_,_,_,_,h=>h.1
 |.hdr,_,_,_,_,_,_,_,_,h=>h.1
 |.pair _ _,_,_,_,_,_,_,_,r,⟨O,J,R,Y,I,X,u,M⟩=>by
  simp only[Ty.flat,BC]at r;exact⟨O,J,I,jW r.1 u,jW r.2 M⟩
 |.list _ _ _,_,_,_,_,_,_,_,r,_=>by simp[Ty.flat]at r
theorem mh (h:aq P V W st a w){G:Nat->Prop}{off n:Nat}{hol J:Option Nat}(a2:∀ k,off<=k->k<off+n->J≠some k)(R:∀ k,¬ (off<=k/\k<off+n)->(J=some k<->hol=some k)) :
  ∀ (b:Ty) (pos:Nat) (x:b.den) (ls:List Leaf) (cs:List Value) (t:cL b.den) (Y:List Value) (z:List Nat),aD P V W st w ls cs->c9 st off n b pos x ls=some t->Mx w G b hol pos x Y z ->
  ∃ O c2 c' I,cs=O++c2/\aD P V W st w t.rest c2/\O.length=min (off+n) (pos+b.cells)-max off pos /\
   Mx w (λk=>G k\/bj V W t.p t.frz k) b J pos t.val c' I /\
   (∀ i,i<b.cells->c'[i]?=if off<=pos+i/\pos+i<off+n then O[pos+i-max off pos]? else Y[i]?) /\
   (∀ k,I.count k<=z.count k+(aX W t.kill).count k)/\(∀ x∈t.frz,aC st x)/\(∀ x∈t.kill,aC st x)
 |.pair b c,pos,x,ls,cs,t,Y,z,M,r,⟨d1,d2,b1,b2,e1,e2,a6,b5⟩=>by
  simp only[c9]at r;split at r
  ·rename_i u X;split at r
   ·rename_i v hc;simp only[BA]at r;subst r;obtain⟨O,c2,c',I,f1,f2,f3,f4,f5,f6,f7,f8⟩:=mh h a2 R b pos x.1 ls cs u d1 b1 M X a6;obtain⟨c3,c4,ab,a1,g1,g2,g3,g4,g5,g6,g7,g8⟩:=mh h a2 R c (pos+b.cells) x.2 u.rest c2 v d2 b2 f2 hc b5;have b0:=f4.len;have b9:=g4.len;have b4:=a6.len;refine⟨O++c3,c4,c'++ab,I++a1,by rw[f1,g1,BQ],g2,?_,⟨c',ab,I,a1,rfl,rfl,?_,?_⟩,?_,?_,?_,?_⟩
    ·rw[BR,f3,g3];simp only[Ty.cells];omega
    ·refine f4.mono λk H=>?_
     rcases H with H|H|⟨y,hy,H⟩
     ·exact .inl H
     ·exact .inr (.inl (bU (by intro h;simp[h]) (λ_ h=>h) k H))
     ·exact .inr (.inr ⟨y,BJ _ hy,H⟩)
    ·refine g4.mono λk H=>?_
     rcases H with H|H|⟨y,hy,H⟩
     ·exact .inl H
     ·exact .inr (.inl (bU (by intro h;simp[h]) (λ_ h=>h) k H))
     ·exact .inr (.inr ⟨y,BE _ hy,H⟩)
    ·intro i hi;simp only[Ty.cells]at hi;rw[e1];by_cases b3:i<b.cells
     ·rw[BH (by omega),f5 i b3];by_cases hr:off<=pos+i/\pos+i<off+n
      ·rw[if_pos hr,if_pos hr,BH (by omega)]
      ·rw[if_neg hr,if_neg hr,BH (by omega)]
     ·rw[BG (by omega),b0,g5 (i-b.cells) (by omega)];have e3:pos+b.cells+(i-b.cells)=pos+i:=by omega
      rw[e3];by_cases hr:off<=pos+i/\pos+i<off+n
      ·rw[if_pos hr,if_pos hr,BG (by omega)];congr 1;omega
      ·rw[if_neg hr,if_neg hr,BG (by omega),b4]
    ·intro k;rw[e2,BF,BF,dI,BF];have:=f6 k;have:=g6 k;omega
    ·intro y hy;exact (BL.1 hy).elim (f7 y) (g7 y)
    ·intro y hy;exact (BL.1 hy).elim (f8 y) (g8 y)
   ·cases r
  ·cases r
 |.unit,pos,x,ls,cs,t,Y,z,M,r,hm=>by
  simp only[c9,BA]at r;subst r;refine⟨[],cs,[],[],rfl,M,by simp only[Ty.cells,CR];omega,⟨rfl,rfl⟩,λi hi=>by simp[Ty.cells]at hi,λk=>by simp,by simp,by simp⟩
 |.hdr,pos,x,ls,cs,t,Y,z,M,r,hm=>by simp[c9]at r
 |.int k,pos,x,ls,cs,t,Y,z,M,r,hm=>put_scalar h (b:=.int k) rfl rfl M r hm
 |.bool,pos,x,ls,cs,t,Y,z,M,r,hm=>put_scalar h (b:=.bool) rfl rfl M r hm
 |.str,pos,x,ls,cs,t,Y,z,M,r,hm=>put_scalar h (b:=.str) rfl rfl M r hm
 |.list m E e,pos,x,ls,cs,t,Y,z,M,r,hm=>by
  simp only[c9]at r;have b6:=hm.len;have e0:(Ty.list m E e).cells=1:=rfl;cases X:Ce off pos&&Ct pos (off+n) with
  |true =>
   rw[X]at r;simp only[cond_true]at r;simp only[BC,CV]at X;have a9:=CD X.1;obtain⟨O,c2,l1,e1,e2,h1,h2,h3,h4,h5⟩:=lA h (.list m E e) pos ls cs t M r;have a5:=h3.len;refine⟨O,c2,O,aX W t.kill,e1,h2,by rw[a5];omega,?_,λi hi=>?_,λk=>by omega,h4,h5⟩
   ·have Z:=h3.mono (G':=λk=>G k\/bj V W t.p t.frz k) (λk H=>.inr H);cases m with
    |false=>rw[cq]at Z ⊢;exact Z
    |true =>
     rw[bH (by simp)]at Z;rw[bH (a2 pos a9 X.2)];exact Z
   ·rw[if_pos (by omega)];congr 1;omega
  |false =>
   rw[X]at r;simp only[cond_false,BA]at r;subst r;have a4:¬ (off<=pos/\pos<off+n):=by
    rintro⟨h1,h2⟩;have:(Ce off pos&&Ct pos (off+n))=true:=by
     simp only[BC,CV];exact⟨CO h1,h2⟩
    rw[X]at this;cases this
   refine⟨[],cs,Y,z,rfl,M,by simp only[CR];omega,?_,λi hi=>?_,λk=>by omega,by simp,by simp⟩
   ·have Z:=hm.mono (G':=λk=>G k\/bj V W false [] k) (λk H=>.inl H);cases m with
    |false=>rw[cq]at Z ⊢;exact Z
    |true =>
     by_cases hp:hol=some pos
     ·have a3:=(R pos a4).2 hp;subst hp;subst a3;rw[iZ]at Z ⊢;exact Z
     ·have a3:J≠some pos:=λe=>hp ((R pos a4).1 e)
      rw[bH hp]at Z;rw[bH a3];exact Z
   ·rw[if_neg (by omega)]
where
 put_scalar (h:aq P V W st a w) {b:Ty} {pos:Nat} {x:b.den} {ls:List Leaf} {cs:List Value} {t:cL b.den} {Y:List Value} {z:List Nat} (hf:b.flat=true) (h1:b.cells=1) (M:aD P V W st w ls cs)
   (r:(bif Ce off pos&&Ct pos (off+n) then take st b ls else some ⟨false,x,[],[],ls⟩)=some t) (hm:Mx w G b hol pos x Y z) :
   ∃ O c2 c' I,cs=O++c2/\aD P V W st w t.rest c2/\O.length=min (off+n) (pos+b.cells)-max off pos /\
    Mx w (λk=>G k\/bj V W t.p t.frz k) b J pos t.val c' I /\
    (∀ i,i<b.cells->c'[i]?=if off<=pos+i/\pos+i<off+n then O[pos+i-max off pos]? else Y[i]?) /\
    (∀ k,I.count k<=z.count k+(aX W t.kill).count k)/\(∀ x∈t.frz,aC st x)/\(∀ x∈t.kill,aC st x):=by
  have a0:∀ {S S':Nat->Prop} {hh ad:Option Nat} {y:b.den} {c:List Value} {q:List Nat},Mx w S b hh pos y c q->Mx w S' b ad pos y c []:=by
   intro S S' hh ad y c q hq;exact Mx.flat (w:=w) (G:=λ_=>True) hf (jW hf hq)
  cases X:Ce off pos&&Ct pos (off+n) with
  |true =>
   rw[X]at r;simp only[cond_true]at r;simp only[BC,CV]at X;have a9:=CD X.1;obtain⟨O,c2,l1,e1,e2,h2,h3,h4,h5,Z⟩:=lA h b pos ls cs t M r;have a5:=h4.len;refine⟨O,c2,O,[],e1,h3,by rw[a5];omega,a0 h4,λi hi=>?_,λk=>by simp,h5,Z⟩;rw[if_pos (by omega)];congr 1;omega
  |false =>
   rw[X]at r;simp only[cond_false,BA]at r;subst r;have a4:¬ (off<=pos/\pos<off+n):=by
    rintro⟨h1,h2⟩;have:(Ce off pos&&Ct pos (off+n))=true:=by
     simp only[BC,CV];exact⟨CO h1,h2⟩
    rw[X]at this;cases this
   refine⟨[],cs,Y,[],rfl,M,by simp only[CR];omega,a0 hm,λi hi=>?_,λk=>by simp,by simp,by simp⟩;rw[if_neg (by omega)]
end
section
variable {P:Program} {V:Env} {Γ:List Ctr} {T:TypeId->TI} {st st2:St} {o:Oper} {R:Type} {κ:Upd->Option R} {r:R}
def uW (V:Env)(W:Wit)(st:St)(q j k:Nat):Prop :=
 ¬ W.nw k/\¬ V.prot k/\(∀ b,live st b->W.β b≠k)/\∀ (u i:Nat) (l:Leaf),(st u).ls[i]?=some l->ap l->(u,i)≠(q,j)->k∉W.bs u i
structure xH (st st2:St) (q j:Nat) (l':Leaf):Prop where
 sh:∀ r,(st2 r).sh=(st r).sh
 ver:∀ r,(st r).ver<=(st2 r).ver
 epo:(st EPO).ver<(st2 EPO).ver
 len:∀ r,(st2 r).ls.length=(st r).ls.length
 at_:∀ l,(st2 q).ls[j]?=some l->l=l'
 old:∀ r i l,(r,i)≠(q,j)->(st2 r).ls[i]?=some l->(st r).ls[i]?=some l
def Wit.tell (W:Wit)(q j:Nat)(bs:List Nat):Wit:={ W with bs:=λr i=>if (r,i)=(q,j) then bs else W.bs r i }
theorem aq.retell (hV:ay V){W:Wit}{a:Act}{w w':World}(h:aq P V W st a w){q j:Nat}{l l':Leaf}(O:xH st st2 q j l'){v:Value}{bs':List Nat}
  (hl:(st q).ls[j]?=some l) (a5:ap l) (hv:(W.cs q)[j]?=some v) (b3:ap l') (ab:aJ P V W st w' bs' l' v)
  (a4:∀ k∈bs',uW V W st q j k)
  (I:∀ k,cf V W st k->k∉W.bs q j->w'.heap[k]?=w.heap[k]?) (a9:w.heap.size<=w'.heap.size) (b0:w'.os=w.os) (ht:w'.tape=w.tape) (ho:w'.output=w.output) :
  aq P V (W.tell q j bs') st2 a w':=by
 have a0:=h.ownb q j _ hl a5;have Z:∀ b,live st2 b<->live st b:=iC O.sh;have a2:∀ {y i:Nat},(y,i)≠(q,j)->(W.tell q j bs').bs y i=W.bs y i:=λh=>if_neg h
 have a3:(W.tell q j bs').bs q j=bs':=if_pos rfl;have b2:∀ (y i:Nat) (l:Leaf),(st2 y).ls[i]?=some l->ap l->(y,i)≠(q,j)->(st y).ls[i]?=some l:=λy i l X _ M=>O.old y i l M X
 have H:cF V W (W.tell q j bs') st st2 w w':=by
  refine⟨λy=>⟨O.ver y,λ_=>rfl⟩,λb hb=>⟨(Z b).2 hb,rfl⟩,λ_ h=>h,λk z=>I k (z.elim .inl (λh=>.inr (.inl h))) (λhm=>?_),λhe=>?_⟩
  ·rcases z with z|z
   ·exact (a0 k hm).1 z
   ·exact (a0 k hm).2.1 z
  ·have:=O.epo;omega
 exact {
  nt:=h.nt,df:=h.df
  slots:=λt ad=>by rw[O.sh];exact h.slots t ad
  boxes:=λb hb=>by
   rw[O.sh];rcases h.boxes b hb with ⟨X,M⟩|⟨X,E0,M⟩
   ·refine .inl ⟨X,BV ?_⟩;rw[O.len,M];rfl
   ·refine .inr ⟨X,E0,?_⟩;show w'.heap[W.β b]?=_;rw[I _ (.inr (.inr (.inl ⟨b,⟨hb,X⟩,rfl⟩))) (λhm=>(a0 _ hm).2.2 b ⟨hb,X⟩ rfl)];exact M
  len:=λy=>by rw[O.len];exact h.len y
  one:=h.one
  leaf:=λy i l1 u X M=>by
   by_cases J:(y,i)=(q,j)
   ·cases J;obtain rfl:=O.at_ l1 X;have M:(W.cs q)[j]?=some u:=M;rw[hv]at M;simp only[BA]at M;subst M;rw[a3];have a6:cF V W (W.tell q j bs') st st2 w' w':=⟨H.ver,H.box,H.nw,λ_ _=>rfl,λhe=>by have:=O.epo;omega⟩;exact ab.carry hV.ro a6 (λ_=>⟨rfl,λ_ _=>rfl⟩)
   ·have h3:=O.old y i l1 J X;rw[a2 J];refine (h.leaf y i l1 u h3 M).carry hV.ro H (λho=>⟨rfl,λk z=>I k (.inr (.inr (.inr ⟨y,i,l1,h3,ho,z⟩))) (λhm=>J ?_)⟩);obtain⟨rfl,rfl⟩:=h.sep y i l1 q j _ h3 ho hl a5 k z hm;rfl
  ownb:=λy i l1 X M k z=>by
   by_cases J:(y,i)=(q,j)
   ·cases J;rw[a3]at z;obtain⟨q1,q2,q3,_⟩:=a4 k z;exact⟨q1,q2,λb hb=>q3 b ((Z b).1 hb)⟩
   ·rw[a2 J]at z;obtain⟨q1,q2,q3⟩:=h.ownb y i l1 (O.old y i l1 J X) M k z;exact⟨q1,q2,λb hb=>q3 b ((Z b).1 hb)⟩
  sep:=λy i l1 r2 i2 l2 X M h3 h4 k z a1=>by
   by_cases J:(y,i)=(q,j) <;> by_cases Y:(r2,i2)=(q,j)
   ·rw[<- Y]at J;cases J;exact⟨rfl,rfl⟩
   ·cases J;rw[a3]at z;rw[a2 Y]at a1;exact absurd a1 ((a4 k z).2.2.2 r2 i2 l2 (O.old r2 i2 l2 Y h3) h4 Y)
   ·cases Y;rw[a3]at a1;rw[a2 J]at z;exact absurd z ((a4 k a1).2.2.2 y i l1 (O.old y i l1 J X) M J)
   ·rw[a2 J]at z;rw[a2 Y]at a1;exact h.sep y i l1 r2 i2 l2 (O.old y i l1 J X) M (O.old r2 i2 l2 Y h3) h4 k z a1
  box:=λb hb=>h.box b ((Z b).1 hb)
  inj:=λb b' hb b1=>h.inj b b' ((Z b).1 hb) ((Z b').1 b1)
  nwlt:=λk z=>⟨CA (h.nwlt k z).1 a9,(h.nwlt k z).2⟩
  os:=b0.trans h.os,tape:=ht.trans h.tape,output:=ho.trans h.output,size:=B8 h.size a9
  keep:=λk hp=>by
   rw[I k (.inr (.inl hp)) (λhm=>(a0 k hm).2.1 hp)];exact h.keep k hp
  fixb:=λx hx=>⟨(Z _).2 (h.fixb x hx).1,(h.fixb x hx).2⟩
  fixt:=h.fixt }
theorem kJ {q:Nat}(st:St):∀ (ks:List (Nat×Nat)),(∀ x∈ks,x.1≠q)->ae (aF st ks) st q=st q
 |[],_=>rfl
 |(r,j)::ks,h=>by
  have e:ae (aF st ((r,j)::ks)) st=ae [(r,fU (ae (aF st ks) st r) j)] (ae (aF st ks) st):=aP _ _ _ _;rw[e,aI (CG (h (r,j) (BW ..))),kJ st ks (λx u=>h x (BP _ u))]
theorem kp {q:Nat}(st:St):∀ (ks:List (Nat×Nat)),(∀ x∈ks,x.1≠q)->ae (aN st ks) st q=st q
 |[],_=>rfl
 |(r,j)::ks,h=>by
  have e:ae (aN st ((r,j)::ks)) st=ae [(r,fZ (ae (aN st ks) st r) j)] (ae (aN st ks) st):=aP _ _ _ _;rw[e,aI (CG (h (r,j) (BW ..))),kp st ks (λx u=>h x (BP _ u))]
theorem OwH.store {w:World}{G G':Nat->Prop}{h h':Option (Nat×Nat)}{E:TypeId}{e:Ty}{xs:List e.den}{g len a3:Nat}{bs K:List Nat}(H:OwH w G h E e xs (.slice (some ⟨g,0,none⟩) len a3) bs)
  (hG:∀ k,G k->G' k) (b4:¬ G' g) (hK:K.Nodup) (c2:∀ k∈K,k∉bs) {i:Nat} {a5 z:e.den} (hi:xs[i]?=some a5) (hh:∀ j,j≠i->cQ h' j=cQ h j) {off:Nat} {cs:List Value} (dd:off+cs.length<=e.cells)
  (M:∀ c0 b3,Mx w G e (cQ h i) 0 a5 c0 b3->∃ c J,Mx w G' e (cQ h' i) 0 z c J/\(∀ k,k<e.cells->c[k]?=if off<=k/\k<off+cs.length then cs[k-off]? else c0[k]?)/\∀ k,J.count k<=b3.count k+K.count k) :
  ∃ b0,OwH (w.setCells g (i*e.cells+off) cs) G' h' E e (xs.set i z) (.slice (some ⟨g,0,none⟩) len a3) b0/\∀ k∈b0,k∈bs\/k∈K:=by
 obtain⟨cy,a0,Y,h1,h2,h3⟩:=H;have a6:i<xs.length:=(BD.1 hi).1;obtain⟨c0,bx,c5⟩:=h3 i a5 hi;obtain⟨c,J,hm,cx,bb⟩:=M c0 (Y i) bx;have cb:=h1.1;rcases h1.2 with ⟨h4,_⟩|⟨g',d2,y,mk,h4,hg,b9,cp,c3,a9⟩
 ·simp at h4
 ·simp only[Bw,BA,CZ,and_true,true_and]at h4;obtain⟨rfl,rfl,rfl⟩:=h4;have d1:g∈bs:=by rw[h2];simp[Bs]
  have dc:=bx.len;have cc:=hm.len;have ad:(i+1)*e.cells<=xs.length*e.cells:=BN _ a6;rw[Bz]at ad;have d3:xs.length*e.cells<=a3*e.cells:=BN _ b9;have cw:y.toList.length=y.size:=by rw[Bx]
  have b6:a0=y.toList.take (xs.length*e.cells):=a9.symm;have M:=jH g E cs 0 (i*e.cells+off) w y hg;have ba:=kR y.toList cs (i*e.cells+off) (by omega);rw[Bt]at ba;rw[ba]at M;simp only[B6]at M;have Z:∀ k,k<xs.length*e.cells->(y.toList.take (i*e.cells+off)++cs++y.toList.drop (i*e.cells+off+cs.length))[k]? =
    if i*e.cells+off<=k/\k<i*e.cells+off+cs.length then cs[k-(i*e.cells+off)]? else a0[k]?:=by
   intro k X;have c1:a0[k]?=y.toList[k]?:=by rw[b6,B4,if_pos X]
   by_cases h9:k<i*e.cells+off
   ·rw[BQ,BH (by simp only[Br];omega),B4,if_pos h9,if_neg (by omega),c1]
   ·by_cases c4:k<i*e.cells+off+cs.length
    ·rw[BQ,BG (by simp only[Br];omega),BH (by simp only[Br];omega),if_pos ⟨by omega,c4⟩];congr 1;simp only[Br];omega
    ·rw[BG (by simp only[Br,BR];omega),CJ,if_neg (by omega),c1];congr 1;simp only[Br,BR];omega
  have O:(y.toList.take (i*e.cells+off)++cs++y.toList.drop (i*e.cells+off+cs.length)).length=y.size:=by
   simp only[BR,Br,Cb];omega
  have a2:∀ k,([g]++(BO xs.length).flatMap λj=>if j=i then J else Y j).count k<=bs.count k+K.count k:=by
   intro k;have h5:=ko a6 Y J k;have h6:=bb k;rw[h2];simp only[Bs,Cx,BF];omega
  have a1:=mY cy hK c2 a2;have b2:∀ j,j<xs.length->∀ k∈(if j=i then J else Y j),k≠g:=by
   intro j hj k X e0;subst e0;have h7:=a1.1;rw[Cl,CB]at h7;exact h7.1 (dV.2 ⟨j,hj,X⟩)
  have I:∀ k,k≠g->(w.setCells g (i*e.cells+off) cs).heap[k]?=w.heap[k]?:=λk X=>eH g cs _ w k X
  refine⟨[g]++(BO xs.length).flatMap λj=>if j=i then J else Y j,⟨a1.1,(y.toList.take (i*e.cells+off)++cs++y.toList.drop (i*e.cells+off+cs.length)).take (xs.length*e.cells),
   λj=>if j=i then J else Y j,⟨?_,.inr ⟨g,a3,_,_,?_,M,?_,by rw[CM,O];exact cp,?_,?_⟩⟩,?_,?_⟩,a1.2⟩
  ·rw[Br,O,CC];omega
  ·rw[CC]
  ·rw[CC];exact b9
  ·rw[CM,O];exact c3
  ·rw[CC]
  ·simp[Bs]
  ·intro j x hj;rcases aR _ _ _ _ _ hj with ⟨rfl,rfl,_⟩|⟨a4,hj⟩
   ·refine⟨c,?_,λk u hu=>?_⟩
    ·simp only[if_true];exact hm.carry (λ_ h=>h) (λk X=>I k (λe0=>b4 (e0 ▸ X))) (λk X=>I k (b2 j a6 k (by simpa using X)))
    ·have b5:k<e.cells:=by rw[<- cc];exact (BD.1 hu).1
     rw[B4,if_pos (by omega),Z _ (by omega)];rw[cx k b5]at hu;by_cases bl:off<=k/\k<off+cs.length
     ·rw[if_pos bl]at hu;rw[if_pos (by omega),<- hu];congr 1;omega
     ·rw[if_neg bl]at hu;rw[if_neg (by omega)];exact c5 k u hu
   ·obtain⟨c',bn,c6⟩:=h3 j x hj;have b1:j<xs.length:=(BD.1 hj).1;refine⟨c',?_,λk u hu=>?_⟩
    ·rw[hh j a4];simp only[if_neg a4];exact bn.carry hG (λk X=>I k (λe0=>b4 (e0 ▸ hG k X))) (λk X=>I k (b2 j b1 k (by rw[if_neg a4];exact X)))
    ·have b5:k<e.cells:=by rw[<- bn.len];exact (BD.1 hu).1
     have cu:(j+1)*e.cells<=xs.length*e.cells:=BN _ b1;rw[Bz]at cu;rw[B4,if_pos (by omega),Z _ (by omega),if_neg ?_]
     ·exact c6 k u hu
     ·rintro⟨h14,h15⟩;rcases Nat.lt_or_gt_of_ne (λe=>a4 e.symm:i≠j) with ab|ab
      ·have:(i+1)*e.cells<=j*e.cells:=BN _ ab;rw[Bz]at this;omega
      ·have:(j+1)*e.cells<=i*e.cells:=BN _ ab;rw[Bz]at this;omega
theorem xI (hV:ay V)(hT:TOk P T){t:TypeId}{x y:Operand}(ba:o.op=.store t x y)(h:act Γ T o st κ=some r):bW P V o st κ r:=by
  simp only[act,wrU,ba]at h;split at h
  · cases h
  · rename_i hd
    cases hb:BT (av st y).2.length (T t).cells&&decide ((av st y).1=bg (T t).agg)&&!decide ((T t).cells=0) with
    |false=>simp[hb]at h
    |true =>
      simp only[hb,cond_true]at h;simp only[BC,decide_eq_true_eq,BY,decide_eq_false_iff_not]at hb;obtain⟨⟨b0,cw⟩,b6⟩:=hb;have b0:=BI b0;split at h
      · rename_i b off hx
        cases Y:decide ((st b).sh=.agg)&&decide (off+(av st y).2.length<=(st b).ls.length)&&hY st (av st y).2 with
        |false=>simp[Y]at h
        |true =>
          simp only[Y,cond_true]at h;simp only[BC,decide_eq_true_eq]at Y;exact⟨_,h,λW a w hr=>tq hV hT ba hd hx b0 cw b6 Y.1.1 Y.1.2 Y.2 hr⟩
      · rename_i z j fo i sz off hx
        split at h
        · rename_i p hh E e xs f0
          cases Y:BT sz e.cells&&decide (off+(av st y).2.length<=e.cells)&&rW z with
          |false=>simp[Y]at h
          |true =>
            simp only[Y,cond_true]at h;simp only[BC,decide_eq_true_eq,rW,BY]at Y;obtain⟨⟨b9,fv⟩,fr,d1⟩:=Y;have b9:=BI b9;subst b9;have em:z≠EPO:=λe0=>by subst e0;simp at d1
            unfold gG at h;obtain⟨a0,c4,h⟩:=Bu.1 h;obtain⟨_,_,h4⟩:=gj c4;simp only[C0]at h4;split at h
            · rename_i u hu
              cases hq:u.rest.isEmpty&&aY u.kill&&dD u.frz u.kill&&!((u.kill++u.frz).any λk=>BT k.1 z) with
              |false=>rw[hq]at h;cases h
              |true =>
                simp only[hq,cond_true]at h;simp only[BC,BY,Bv]at hq;obtain⟨⟨⟨dc,e5⟩,en⟩,a1⟩:=hq;have a1:∀ k∈u.kill++u.frz,k.1≠z:=λk H e0=>a1 k H (by simp[e0])
                obtain ⟨I, hκ, cc, a4, c6⟩ : ∃ I : Option (Nat × Nat), κ ((z, ⟨(st z).ver, (st z).sh, aT (st z).ls j (.own (p || u.p) I E e (xs.set i u.val))⟩) :: (EPO, bV (ae (aN (ae (aF st u.frz) st) u.kill ++ aF st u.frz) st EPO)) ::
                      (aN (ae (aF st u.frz) st) u.kill++aF st u.frz))=some r /\
                    (∀ k,off<=k->k<off+(av st y).2.length->cQ I i≠some k)/\(∀ k,¬ (off<=k/\k<off+(av st y).2.length)->(cQ I i=some k<->cQ hh i=some k))/\(∀ j',j'≠i->cQ I j'=cQ hh j'):=by
                  cases hh with
                  |none=>exact⟨none,h,λ_ _ _=>by simp[cQ],λ_ _=>Cf,λ_ _=>rfl⟩
                  |some hp =>
                    obtain⟨hi,ho⟩:=hp;simp only at h;cases J:Ce off ho&&Ct ho (off+(av st y).2.length) with
                    |true =>
                      rw[J]at h;simp only[cond_true]at h;simp only[BC,CV]at J;have ev:=CD J.1;cases b2:BT i hi with
                      |true =>
                        rw[b2]at h;have h9:=h;have:=BI b2;subst this;refine⟨none,h9,λ_ _ _=>by simp[cQ],λk H=>?_,λj' ed=>?_⟩
                        · simp only[cQ,Nat.beq_refl,cond_true,reduceCtorEq,BA,false_iff]
                          rintro rfl;exact H ⟨ev,J.2⟩
                        · have:BT i j'=false:=by
                            cases et:BT i j' with
                            |false=>rfl
                            |true=>exact absurd (BI et).symm ed
                          simp[cQ,this]
                      |false=>rw[b2]at h;cases h
                    |false =>
                      rw[J]at h;refine⟨some (hi,ho),h,λk b3 fc=>?_,λ_ _=>Cf,λ_ _=>rfl⟩;simp only[cQ];cases BT hi i with
                      |false=>simp
                      |true =>
                        simp only[cond_true,ne_eq,BA];rintro rfl;have:(Ce off ho&&Ct ho (off+(av st y).2.length))=true:=by
                          simp only[BC,CV];exact⟨CO b3,fc⟩
                        rw[J]at this;cases this
                refine⟨_,hκ,λW a w hr next Q hn=>?_⟩;obtain⟨cs,hs,M⟩:=cU hr y;rw[cw]at hs;have es:=gT hs M.one';have cy:=M.length;obtain⟨h5,h6⟩:=eY f0 (by simp);obtain⟨hp,_,_,_⟩:=bq hr x (by rw[hx];simp);rw[hx]at hp;obtain⟨g,dd,e6,a6,fi,hv⟩:=hp.2 h5;have eg:T t≠.none:=by intro e;rw[e]at b6;exact b6 rfl
                have a2:=hr.leaf z j _ _ h6 a6;have e7:∀ c0 O,Mx w (gd V W p) e (cQ hh i) 0 a0 c0 O->∃ c a3,Mx w (λk=>gd V W p k\/bj V W u.p u.frz k) e (cQ I i) 0 u.val c a3 /\
                    (∀ k,k<e.cells->c[k]?=if off<=k/\k<off+cs.length then cs[k-off]? else c0[k]?)/\∀ k,a3.count k<=O.count k+(aX W u.kill).count k:=by
                  intro c0 O hm;obtain⟨c1,c2,c',bs',f1,f2,f3,f4,f5,f6,f7,f8⟩:=mh hr cc a4 e 0 a0 (av st y).2 cs u c0 O M hu hm;have cb:c2=[]:=by
                    have:=f2.length;rw[DA.1 dc]at this;exact BV this.symm
                  subst cb;rw[Bq]at f1;subst f1;refine⟨c',bs',f4,λk H=>?_,f6⟩;rw[f5 k H,cy];simp only[CH];by_cases J:off<=k/\k<off+cs.length
                  · rw[if_pos J,if_pos J]
                    congr 1;omega
                  · rw[if_neg J,if_neg J]
                have b4:(∀ x∈u.frz,aC st x)/\(∀ x∈u.kill,aC st x):=by
                  obtain⟨_,a5,c5,_,_,bn⟩:=a2;obtain⟨c0,ex,_⟩:=bn i a0 h4;obtain⟨_,_,_,_,_,_,_,_,_,_,f7,f8⟩:=mh hr cc a4 e 0 a0 (av st y).2 cs u c0 _ M hu ex;exact⟨f7,f8⟩
                obtain⟨k1,k2,k3,k4⟩:=fD hV hr en b4.2;have X:ae (aN (ae (aF st u.frz) st) u.kill++aF st u.frz) st z=st z:=by
                  rw[bA,kp _ _ (λx hx=>a1 x (BJ _ hx)),kJ _ _ (λx hx=>a1 x (BE _ hx))]
                have h7:(ae (aN (ae (aF st u.frz) st) u.kill++aF st u.frz) st z).ls[j]?=some (.own p hh E e xs):=by rw[X];exact h6
                have a9:=k1.ownb z j _ h7 trivial;have cx:∀ k,gd V W p k\/bj V W u.p u.frz k->gd V (W.frz st u.frz) (p||u.p) k:=by
                  rintro k (H|H)
                  · exact bU (W':=W.frz st u.frz) (by intro h;simp[h]) (λ_ h=>Or.inl h) k H
                  · exact bU (W':=W.frz st u.frz) (by intro h;simp[h]) (λ_ h=>h) k (kg b4.1 k H)
                have b1:g∈W.bs z j:=by obtain⟨_,a5,c5,_,bx,_⟩:=a2;rw[bx];simp[Bs]
                have eb:¬ gd V (W.frz st u.frz) (p||u.p) g:=by
                  rintro (H|⟨_,H⟩)
                  · exact (a9 g b1).1 H
                  · exact (a9 g b1).2.1 (hV.ro g H)
                have d2:∀ k∈aX W u.kill,k∉W.bs z j:=λk H d3=>(k4 k H).2.2.2.2 z j _ h7 trivial d3
                obtain⟨bs',cp,cu⟩:=OwH.store (G':=gd V (W.frz st u.frz) (p||u.p)) (h':=I) a2 (λk H=>cx k (.inl H)) eb (gO hr e5 b4.2) d2 h4 c6 (off:=off) (cs:=cs) (by omega)
                  (λc0 O hm=>by
                    obtain⟨c,a3,q1,q2,q3⟩:=e7 c0 O hm;exact⟨c,a3,q1.mono cx,q2,q3⟩)
                obtain⟨_,a5,c5,ho,bx,_⟩:=a2;have ef:dd=xs.length:=by
                  obtain⟨A,c3,e0,_⟩:=ho.slice;simp only[Bw]at e0;exact e0.2.1
                subst ef;rcases ho.2 with ⟨h8,_⟩|⟨g',c3,cur,mk,h8,hg,ej,ec,fl,_⟩
                · simp at h8
                · simp only[Bw,BA,CZ,and_true,true_and]at h8
                  obtain⟨rfl,rfl⟩:=h8;have bl:(i+1)*e.cells<=xs.length*e.cells:=BN _ (BD.1 h4).1;rw[Bz]at bl;have fd:xs.length*e.cells<=e6*e.cells:=BN _ ej;have b5:cur.toList.length=cur.size:=by rw[Bx]
                  have bb:=mX (P:=P) (oL (hT t) eg) (w:=w) (b:=g) (off:=i*e.cells+off) (cur:=cur.toList) (E:=E) (by rw[Bt];exact hg) (by rw[b5];exact zi ec) es (by omega) M.one' (by omega);refine pw (w':=w.setCells g (i*e.cells+off) cs) (by simp[execOp,ba,hv,bb]) ?_;rw[hd];refine hn _ _ ?_;obtain⟨e1,e2,e3,e4⟩:=jI g cs (i*e.cells+off) w;refine⟨_,k1.retell hV (l':=.own (p||u.p) I E e (xs.set i u.val)) (w':=w.setCells g (i*e.cells+off) cs) (bs':=bs') ?_ h7 trivial a6 trivial cp (λk H=>?_) (λk _ H=>eH g cs _ w k (λe=>H (e ▸ b1))) (Cd e4.symm) e1 e2 e3⟩
                  · rw[aP z,aP EPO]
                    have Z:EPO≠z:=CG em;generalize aN (ae (aF st u.frz) st) u.kill++aF st u.frz=U at X ⊢;refine⟨λq=>?_,λq=>?_,?_,λq=>?_,λl M=>?_,λq i' l hq M=>?_⟩
                    · rcases an z q ⟨(st z).ver,(st z).sh,aT (st z).ls j (.own (p||u.p) I E e (xs.set i u.val))⟩ (ae [(EPO,bV (ae U st EPO))] (ae U st)) with ⟨rfl,e⟩ | ⟨_,e⟩
                      · rw[e,X]
                      · rw[e]
                        rcases an EPO q (bV (ae U st EPO)) (ae U st) with ⟨rfl,e⟩|⟨_,e⟩ <;> rw[e];rfl
                    · rcases an z q ⟨(st z).ver,(st z).sh,aT (st z).ls j (.own (p||u.p) I E e (xs.set i u.val))⟩ (ae [(EPO,bV (ae U st EPO))] (ae U st)) with ⟨rfl,e⟩ | ⟨_,e⟩
                      · rw[e,X];exact BU _
                      · rw[e]
                        rcases an EPO q (bV (ae U st EPO)) (ae U st) with ⟨rfl,e⟩|⟨_,e⟩ <;> rw[e]
                        · exact DF _
                        · exact BU _
                    · rw[aI Z,bh];exact BM _
                    · rcases an z q ⟨(st z).ver,(st z).sh,aT (st z).ls j (.own (p||u.p) I E e (xs.set i u.val))⟩ (ae [(EPO,bV (ae U st EPO))] (ae U st)) with ⟨rfl,e⟩ | ⟨_,e⟩
                      · rw[e,X];simp[aT]
                      · rw[e]
                        rcases an EPO q (bV (ae U st EPO)) (ae U st) with ⟨rfl,e⟩|⟨_,e⟩ <;> rw[e];rfl
                    · rw[bh]at M
                      rcases aR _ _ _ _ _ M with ⟨_,rfl,_⟩|⟨Z,_⟩
                      · rfl
                      · exact absurd rfl Z
                    · rcases an z q ⟨(st z).ver,(st z).sh,aT (st z).ls j (.own (p||u.p) I E e (xs.set i u.val))⟩ (ae [(EPO,bV (ae U st EPO))] (ae U st)) with ⟨rfl,e⟩ | ⟨_,e⟩
                      · rw[e]at M
                        rw[X];rcases aR _ _ _ _ _ M with ⟨rfl,_,_⟩|⟨_,M⟩
                        · exact absurd rfl hq
                        · exact M
                      · rw[e]at M
                        rcases an EPO q (bV (ae U st EPO)) (ae U st) with ⟨rfl,e⟩|⟨_,e⟩ <;> rw[e]at M <;> exact M
                  · rcases cu k H with H|H
                    · have h9:=k1.ownb z j _ h7 trivial k H
                      exact⟨h9.1,h9.2.1,h9.2.2,λr1 i1 l1 ab ad Z b3=>Z (by obtain⟨e1,e2⟩:=k1.sep r1 i1 l1 z j _ ab ad h7 trivial k b3 H;rw[e1,e2])⟩
                    · have h9:=k4 k H
                      exact⟨h9.1,h9.2.1,h9.2.2.2.1,λr1 i1 l1 ab ad _=>h9.2.2.2.2 r1 i1 l1 ab ad⟩
            · cases h
        · cases h
      · cases h
end
section
variable {P:Program} {V:Env} {Γ:List Ctr} {T:TypeId->TI} {st:St} {o:Oper} {R:Type} {κ:Upd->Option R} {r:R}
theorem aq.putOwn (Z:ay V){W:Wit}{a:Act}{w w':World}(h:aq P V W st a w)(O:w.heap.size<=w'.heap.size)(J:w'.os=w.os)(ht:w'.tape=w.tape)(ho:w'.output=w.output)
  (hk:∀ k,cf V W st k->w'.heap[k]?=w.heap[k]?) (d:Nat) (hd:d<V.nt) (z:∀ x∈V.fixt,x.1≠d) (n:Nat) (hn:(st d).ver<n) {p:Bool} {E:TypeId} {e:Ty} {xs:List e.den} {v:Value} {bs:List Nat}
  (ow:Ow w' (gd V W p) E e xs v bs) (hb:∀ k∈bs,¬ cf V W st k):Rel P V (ae [(d,⟨n,.one,[.own p none E e xs]⟩)] st) (a.put (some d) v) w':=by
 refine⟨_,(h.world Z O J ht ho hk).put Z d hd z n .one [.own p none E e xs] v [v] (λ_=>bs) hn rfl rfl (λu X=>by simp at X;subst X;exact ow.one) ?_ ?_ ?_⟩
 ·intro j l u y H;cases j with
  |zero=>simp at y H;subst y;subst H;exact ow
  |succ j=>simp at y
 ·intro j l y H k I;have:=hb k I;simp only[cf,not_or,not_exists,not_and]at this;exact⟨this.1,this.2.1,this.2.2.1,λr1 j1 l1 _ M Y=>this.2.2.2 r1 j1 l1 M Y⟩
 ·intro j j' l l' y H M Y k h5 h6;have h7:j<1:=(BD.1 y).1;have h8:j'<1:=(BD.1 M).1;omega
theorem dQ {W:Wit}{p q:Bool}{y z:List (Nat×Nat)}:(∀ k,bj V W p y k->bj V W (p||q) (y++z) k)/\(∀ k,bj V W q z k->bj V W (p||q) (y++z) k):=by
 constructor
 ·rintro k (u|⟨x,H,u⟩)
  ·exact .inl (bU (W':=W) (by intro h;simp[h]) (λ_ h=>h) k u)
  ·exact .inr ⟨x,BJ _ H,u⟩
 ·rintro k (u|⟨x,H,u⟩)
  ·exact .inl (bU (W':=W) (by intro h;simp[h]) (λ_ h=>h) k u)
  ·exact .inr ⟨x,BE _ H,u⟩
theorem xJ (n:Nat)(u:Nat->List Nat):(BO (n+1)).flatMap u=u 0++(BO n).flatMap λj=>u (j+1):=by
 rw[List.range_succ_eq_map,CE,DB]
theorem oo {W:Wit}{a:Act}{w:World}(O:aq P V W st a w){e:Ty}:∀ (ps:List (Nat×Operand)) (k:Nat) (u:cL (List e.den)),ey st e k ps=some u ->
  ps.map (λx=>(x.1,a.eval x.2))=((ps.map λx=>a.eval x.2).zipIdx k).map (λx=>(x.2,x.1))/\u.val.length=ps.length/\(∀ x∈u.frz,aC st x)/\(∀ x∈u.kill,aC st x) /\
  ∃ z:Nat->List Nat,aX W u.kill=(BO u.val.length).flatMap z /\
   ∀ (j:Nat) (x:e.den),u.val[j]?=some x->∃ v c,(ps.map λx=>a.eval x.2)[j]?=some v/\v.cells=c.toArray/\Mx w (bj V W u.p u.frz) e none 0 x c (z j)
 |[],k,u,h=>by
  simp only[ey,BA]at h;subst h;exact⟨rfl,rfl,by simp,by simp,λ_=>[],rfl,λj x I=>by simp at I⟩
 |(i,y)::ps,k,u,h=>by
  simp only[ey]at h;cases H:BT i k&&decide ((av st y).1=bg e.isAgg) with
  |false=>simp[H]at h
  |true =>
   simp only[H,cond_true]at h;simp only[BC,decide_eq_true_eq]at H;have M:=BI H.1;subst M;split at h
   ·rename_i t1 u1 hg X;simp only[BA]at h;subst h;obtain⟨h1,h2,h3,h4,z,h5,h6⟩:=oo O ps (i+1) u1 X;obtain⟨cs,Z,Y⟩:=cU O y;rw[H.2]at Z;have hc:=gT Z Y.one';obtain⟨g1,g2,g3⟩:=dO (pos:=0) O Y hg;refine⟨by simp[h1],by simp[h2],λx J=>(BL.1 J).elim (g2 x) (h3 x),λx J=>(BL.1 J).elim (g3 x) (h4 x),λj=>match j with|0=>aX W t1.kill|j+1=>z j,?_,?_⟩
    ·rw[dI,h5,Cc,xJ]
    ·intro j x I;cases j with
     |zero =>
      simp at I;subst I;exact⟨a.eval y,cs,by simp,hc,g1.mono dQ.1⟩
     |succ j =>
      obtain⟨v,c,h7,h8,h9⟩:=h6 j x (by simpa using I);exact⟨v,c,by simpa using h7,h8,h9.mono dQ.2⟩
   ·cases h
theorem lB (w:World)(G:Nat->Prop):∀ (b:Ty),Rd w G b b.zero (zeroCells b)
 |.int _=>rfl
 |.bool=>rfl
 |.str=>rfl
 |.unit=>rfl
 |.hdr=>⟨none,0,rfl⟩
 |.pair a b=>⟨_,_,rfl,lB w G a,lB w G b⟩
 |.list m E e=>Rd.nil w G m E e
theorem qB (w:World)(G:Nat->Prop):∀ (b:Ty) (pos:Nat),Mx w G b none pos b.zero (zeroCells b) []
 |.int _,_=>⟨rfl,rfl⟩
 |.bool,_=>⟨rfl,rfl⟩
 |.str,_=>⟨rfl,rfl⟩
 |.unit,_=>⟨rfl,rfl⟩
 |.hdr,_=>⟨⟨none,0,rfl⟩,rfl⟩
 |.pair a b,_=>⟨_,_,[],[],rfl,rfl,qB w G a _,qB w G b _⟩
 |.list m E e,_=>by
  cases m with
  |false=>exact cq.2 ⟨rfl,Rd.nil w G false E e⟩
  |true=>exact (bH (by simp)).2 ⟨_,rfl,(OwH.nil w G E e).2⟩
theorem mi {W:Wit}{k:Nat}(h:¬ W.nw k/\¬ V.prot k/\(∀ b,live st b->W.β b≠k)/\∀ (u i:Nat) (l:Leaf),(st u).ls[i]?=some l->ap l->k∉W.bs u i):¬ cf V W st k:=by
 rintro (y|y|⟨b,H,e⟩|⟨u,i,l,I,J,z⟩)
 ·exact h.1 y
 ·exact h.2.1 y
 ·exact h.2.2.1 b H e
 ·exact h.2.2.2 u i l I J z
theorem mj:(9223372036854775807:Nat)<=maxLen:=by decide
theorem qC (hV:ay V)(hT:TOk P T)(b4:bN V o){t:TypeId}{n:Nat}{y:Array (Nat×Operand)}(a4:o.op=.buildSlice t n y)(h:act Γ T o st κ=some r):bW P V o st κ r:=by
 simp only[act,wrU,a4]at h;cases ht:T t with
 |slice E e c4 =>
  simp only[ht]at h;split at h
  ·rename_i u bx;cases hb:BT u.val.length n&&decide (n*e.cells<=16777216)&&aY u.kill&&dD u.frz u.kill with
   |false=>simp[hb]at h
   |true =>
    simp only[hb,cond_true]at h;simp only[BC,decide_eq_true_eq]at hb;obtain⟨⟨⟨bb,cb⟩,c3⟩,bl⟩:=hb;have c0:=BI bb;subst c0;split at h
    ·rename_i d hd;refine⟨_,h,λW a w hr next Q hn=>?_⟩;have h1:=hT t;rw[ht]at h1;obtain⟨hu,_,_,Y,_,ti,z,a5,O,_,hz,c6⟩:=h1;obtain⟨h2,h3,b2,a9,b1,b9,h5⟩:=oo hr y.toList 0 u bx;generalize c5:u.val=I at *;have a1:∀ v∈(y.toList.map λx=>a.eval x.2),v.cells.size=e.cells:=by
      intro v hv;obtain⟨j,hj,e1⟩:=List.getElem_of_mem hv;have bn:j<I.length:=by rw[h3];simpa using hj
      obtain⟨v',c,X,Z,h8⟩:=h5 j I[j] (BS bn);rw[BS hj]at X;simp only[BA]at X;rw[<- e1,X,Z];simpa using h8.len
     have ab:(y.toList.map λx=>a.eval x.2).length=I.length:=by rw[CS,h3]
     have a3:∀ (j:Nat) (x:e.den),I[j]?=some x->∃ c,Mx w (bj V W u.p u.frz) e none 0 x c (b1 j)/\∀ i u,c[i]?=some u ->
       ((y.toList.map λx=>a.eval x.2).flatMap λv=>v.cells.toList)[j*e.cells+i]?=some u:=by
      intro j x hj;obtain⟨v,c,X,Z,h8⟩:=h5 j x hj;refine⟨c,h8,λi u hi=>?_⟩;have b0:i<e.cells:=by rw[<- h8.len];exact (BD.1 hi).1
      rw[Great.flat_get Y _ a1];have e1:(j*e.cells+i) / e.cells=j:=by
       rw[Cg,Nat.mul_add_div Y,Nat.div_eq_of_lt b0,B6]
      have e2:(j*e.cells+i) % e.cells=i:=by
       rw[Cg,DK,DC b0]
      rw[e1,e2,X];simpa[Z]using hi
     have a0:((y.toList.map λx=>a.eval x.2).flatMap λv=>v.cells.toList).length=I.length*e.cells:=by
      have:∀ (vs:List Value),(∀ v∈vs,v.cells.size=e.cells)->(vs.flatMap λv=>v.cells.toList).length=vs.length*e.cells:=by
       intro vs;induction vs with
       |nil=>intro _;simp
       |cons v vs ih =>
        intro hv;rw[CE,BR,ih (λu hu=>hv u (BP _ hu)),Bx,hv v (BW ..),Cc,Bz];omega
      rw[this _ a1,ab]
     have H:=Great.fill_whole Y (y.toList.map λx=>a.eval x.2) ((Array.range (I.length*e.cells)).map ((if I.length*e.cells=0 then (#[]:Array Value) else z.cells)[· % (if I.length*e.cells=0 then (#[]:Array Value) else z.cells).size]!)) a1 (by rw[ab];simp);rw[<- h2]at H;have a2:(y.map λ (i,x)=>(i,a.eval x)).toList=y.toList.map λx=>(x.1,a.eval x.2):=by rw[DD]
     have a6:(execOp a.eval o).run P w=.ok (.value (.slice (some ⟨w.heap.size,0,none⟩) I.length I.length)) (w.alloc (.cells ((y.toList.map λx=>a.eval x.2).flatMap λv=>v.cells.toList).toArray E)):=by
      have M:¬ (I.length*e.cells>2 ^ 24):=by omega
      by_cases h0:I.length*e.cells=0
      ·rw[if_pos h0]at H;simp only[execOp,a4,Instr.buildSlice,C3,run_underlying hu,CX,sizeOf,typeInfo,a5,O,a2];simp[M,h0,newRow,a5,O,a2]at H ⊢;simp[H]
      ·rw[if_neg h0]at H;have:=run_buildSlice (P:=P) w t E I.length (y.map λ (i,x)=>(i,a.eval x)) _ ti z hu a5 hz (by rw[O];exact M) (by rw[O];exact h0) (by rw[O,a2];exact H);simp[execOp,a4,this]
     refine dW a6 ?_;rw[hd];refine hn _ _ ?_;rw[cl,aP];obtain⟨X,_,_,ad⟩:=fD hV hr bl a9;have b3:=X.used_lt;have b5:I.length<=maxLen:=by
      have:=mj;have:I.length*1<=I.length*e.cells:=CU _ Y;omega
     have c2:=World.ownsRow_lit (e:=E) (size:=e.cells) (base:=0) w ((y.toList.map λx=>a.eval x.2).flatMap λv=>v.cells.toList).toArray I.length (DG _) b5 (by simpa using a0);refine X.putOwn hV (w':=w.alloc (.cells ((y.toList.map λx=>a.eval x.2).flatMap λv=>v.cells.toList).toArray E)) (by simp) rfl rfl rfl (λk J=>Go.heap_alloc_old w _ (b3 k J)) d (b4 d hd).1 (b4 d hd).2 _ (BM _) (bs:=w.heap.size::aX W u.kill) ?_ (λk J hu=>?_)
     ·refine⟨CB.2 ⟨λhm=>?_,gO hr c3 a9⟩,_,b1,Row.of c2,by rw[b9];rfl,λj x hj=>?_⟩
      ·have:=(ad _ hm).2.2.1;omega
      ·obtain⟨c,b6,c1⟩:=a3 j x hj;have ba:∀ k,bj V W u.p u.frz k->k<w.heap.size:=λk J=>by
        rcases kg b2 k J with J|⟨_,J⟩
        ·exact (X.nwlt k J).1
        ·exact CA (hV.ro k J).1 X.size
       exact⟨c,b6.carry (kg b2) (λk J=>Go.heap_alloc_old w _ (ba k J)) (λk J=>Go.heap_alloc_old w _ (b6.lt k J)),λi u hi=>by simpa using c1 i u hi⟩
     ·rcases CI.1 J with rfl|J
      ·have:=b3 _ hu;omega
      ·have Z:=ad k J;exact mi ⟨Z.1,Z.2.1,Z.2.2.2.1,Z.2.2.2.2⟩ hu
    ·cases h
  ·cases h
 |_=>simp[ht]at h
theorem xK {w:World}{G:Nat->Prop}{E':TypeId}{u y e:TypeId}(X:P.underlying u=some (.slice e))(Z:P.underlying e=some (.int .u8))(O:P.underlying y=some .string){xs:List Int}{v:Value}
  (h:Rd w G (.list false E' (.int .u8)) xs [v]):(convert u y v).run P w=.ok (.string (gH xs)) w:=by
 obtain⟨A,z,hv,hc,J⟩:=h;simp only[CT,and_true]at hv;subst hv;cases A with
 |none =>
  have hx:xs=[]:=by
   cases xs with
   |nil=>rfl
   |cons x xs=>obtain⟨g,o,M,_⟩:=J (by simp);cases M
  subst hx;show (convert u y (.slice none 0 z)).run P w=_;rw[run_convert_bytes_nil w u e X Z 0 z y O];rfl
 |some ad =>
  cases H:xs with
  |nil =>
   subst H;show (convert u y (.slice (some ad) 0 z)).run P w=_;rw[run_convert_bytes_string w u y e ad 0 z X Z O];simp[Conv.bytesToString,loadCells,loadCellsFrom];rfl
  |cons x0 a0 =>
   rw[<- H];obtain⟨g,o,M,_,hr⟩:=J (by rw[H];simp);simp only[BA]at M;subst M;have:=run_convert_bytes_arg (P:=P) w u e X Z g o xs.length z xs rfl (λi hi=>by
    obtain⟨c,I,Y⟩:=hr i xs[i] (BS hi);have I:c=[.int .u8 xs[i]]:=I;subst I;have:=Y 0 _ rfl;simp only[Ty.cells,Cq,B6]at this;rw[this];simp[List.getD,BS hi]) y O
   rw[this];rfl
theorem uu (hV:ay V)(hT:TOk P T)(M:bN V o){s t:TypeId}{x:Operand}(J:o.op=.convert s t x)(h:act Γ T o st κ=some r):bW P V o st κ r:=by
 simp only[act,wrU,J]at h;have z:=hT t;have y:=hT s;split at h
 ·rename_i k' k a5 n Z Y hx;split at h
  ·rename_i d O;refine⟨_,h,λW a w I=>aO hV I O M (v:=.int k (k.wrap n)) ?_ rfl id rfl⟩;rw[Y]at z;rw[Z]at y;simp[execOp,J,bD I hx,Go.convert,run_underlying z.1,run_underlying y.1,Conv.intToInt]
  ·cases h
 ·rename_i E b Z Y;split at h
  ·rename_i p xs ha;split at h
   ·rename_i d O;refine⟨_,h,λW a w I=>?_⟩;have a2:one st x≠.dead:=by intro e0;rw[e0]at ha;simp[aE,dh]at ha
    obtain⟨h1,h2,_⟩:=bq I x a2;have a3:=ky (m:=false) (E:=E) I h1 h2 ha;rw[Y]at z;rw[Z]at y;refine aO hV I O M (v:=.string (gH xs)) ?_ rfl id rfl;have:=xK (P:=P) y.1 (y.2.2.2.2.1.2 rfl) z.1 a3;simp[execOp,J,this]
   ·cases h
  ·cases h
 ·rename_i E b H Z Y hx;cases hE:BT E 5 with
  |false=>simp[hE]at h
  |true =>
  simp only[hE,cond_true]at h;have a1:E=5:=BI hE;split at h
  ·rename_i d O;refine⟨_,h,λW a w I next Q hn=>?_⟩;rw[Y]at z;rw[Z]at y;have hc:(er H).length=H.size:=by simp only[er,CS,Bx];rfl
   have X:=Lib.run_convert_string_bytes (P:=P) w s t E H y.1 z.1 (z.2.2.2.2.1.2 rfl);refine dW (v:=.slice (some ⟨w.heap.size,0,none⟩) H.size (grownCap w H.size 0 E)) (w':=Lib.bytesWorld w E H) (by simp[execOp,J,iB I hx,X]) ?_;rw[O];refine hn _ _ ?_;have a4:=grownCap_ge w H.size 0 E;have a0:(Lib.bytesCells w E H).size=grownCap w H.size 0 E:=by
    simp only[Lib.bytesCells,C4,Array.size_map,Array.size_replicate];show H.size+_=_;omega
   refine I.putOwn hV (by rw[Lib.bytesWorld_size];omega) (by simp[Lib.bytesWorld,C5,DH,DP,-Cr,-Cv]) (by simp[Lib.bytesWorld,C5,DH,DP,-Cr,-Cv]) (by simp[Lib.bytesWorld,C5,DH,DP,-Cr,-Cv])
    (λk hk=>Lib.bytesWorld_at_old w E H k (I.used_lt k hk)) d (M d O).1 (M d O).2 _ (BM _) (bs:=[w.heap.size])
    ⟨by simp,(er H).map (Value.int .u8),λ_=>[],⟨by rw[CS];exact (Cq _).symm,.inr ⟨w.heap.size,_,_,_,by rw[hc],Lib.bytesWorld_at_new w E H,by rw[hc];exact a4,.inr ⟨a1,BU _⟩,by rw[a0];exact Cd (Cq _),?_⟩⟩,by simp[Bs],λj x hj=>?_⟩ (λk hk hu=>?_)
   ·simp only[Lib.bytesCells,Cu,DD,Ty.cells,Cq,er,C6];exact List.take_left' (by simp)
   ·refine⟨[.int .u8 x],⟨rfl,rfl⟩,λi u hi=>?_⟩
    match i,hi with
    |0,hi =>
     simp only[CK,BA]at hi;subst hi;simp[Ty.cells,hj]
   ·simp at hk;have:=I.used_lt k hu;omega
  ·cases h
 ·cases h
theorem rT (hV:ay V)(hT:TOk P T)(Z:bN V o){t:TypeId}{n c:Operand}(X:o.op=.makeSlice t n c)(h:act Γ T o st κ=some r):bW P V o st κ r:=by
 simp only[act,wrU,X]at h;split at h
 ·rename_i E e H k1 m k2 m' ht b3 a5;cases hb:decide (0<=m)&&decide (m=m')&&decide (m*H<=(ao:Int)) with
  |false=>simp[hb]at h
  |true =>
   simp only[hb,cond_true]at h;simp only[BC,decide_eq_true_eq]at hb;obtain⟨⟨h0,rfl⟩,a6⟩:=hb;split at h
   ·rename_i d hd;refine⟨_,h,λW a w Y next Q hn=>?_⟩;have h1:=hT t;rw[ht]at h1;obtain⟨hu,_,_,b5,b0,ti,z,b2,ab,a4,hz,O⟩:=h1;have hm:(m.toNat:Int)=m:=by omega
    have J:m.toNat*H<=ao:=by
     have:((m.toNat*H:Nat):Int)<=(ao:Int):=by rw[Int.natCast_mul,hm];exact a6
     omega
    have b6:m.toNat*1<=m.toNat*H:=CU _ b0.1;simp only[ao]at J;have b4:=mj;obtain⟨w',I,a0,y⟩:=run_make_full (P:=P) w 0 t E ti z e.cells hu b2 hz ab k1 k2 m.toNat (by rw[a4,Cg];omega) (by omega) (DG _);rw[hm]at I;refine dW (v:=.slice (some ⟨w.heap.size,0,none⟩) m.toNat m.toNat) (w':=w') (by simp[execOp,X,bD Y b3,bD Y a5,I]) ?_;rw[hd];refine hn _ _ ?_;have a2:z.cells.size=e.cells:=by
     have h2:=(lB w (λ_=>False) e).len;rw[<- Bx,O,h2]
    refine Y.putOwn hV y.size y.os y.tape y.output (λk hk=>y.block k (Y.used_lt k hk) (by simp)) d (Z d hd).1 (Z d hd).2 _ (BM _) (bs:=[w.heap.size])
     ⟨by simp,_,λ_=>[],by rw[Cm];exact Row.of a0,by simp[Bs],λj x hj=>?_⟩ (λk hk hu=>?_)
    ·rw[CL]at hj;split at hj
     ·rename_i a3;simp at hj;subst hj;refine⟨_,qB w' _ e 0,λi u hi=>?_⟩;have b1:i<e.cells:=by rw[<- (lB w' (λ_=>False) e).len];exact (BD.1 hi).1
      have M:(j+1)*e.cells<=m.toNat*e.cells:=BN _ a3;rw[Bz]at M;have ad:j*e.cells+i<m.toNat*e.cells:=by omega
      have e2:(j*e.cells+i) % e.cells=i:=by rw[Cg,DK,DC b1]
      have a1:z.cells[i]?=some u:=by rw[<- Cn,O];exact hi
      obtain⟨b9,a9⟩:=Array.getElem?_eq_some_iff.1 a1;simp only[madeCells,Cn,Array.getElem?_map,Array.getElem?_range,ad,if_true,DL,a2,e2];rw[getElem!_pos z.cells i (by omega),a9]
     ·cases hj
    ·simp at hk;have:=Y.used_lt k hu;omega
   ·cases h
 ·cases h
theorem uv (n u:Nat)(z:n<=u)(k y:IntKind)(w:World):(C7 true n u none (some (.int k n)) (some (.int y n))).run P w=.ok (0,n,n) w:=by
 simp[C7,Instr.sliceBound,asIntOf,z]
theorem vW (hV:ay V)(hT:TOk P T)(a1:bN V o){t:TypeId}{x m:Operand}{lo hi:Option Operand}(ab:o.op=.slice t x lo hi (some m))(h:act Γ T o st κ=some r):bW P V o st κ r:=by
 simp only[act,wrU,ab]at h;cases hd:o.dst with
 |none=>simp[hd]at h
 |some d =>
  simp only[hd]at h;split at h
  ·rename_i E' e' c3 Y j v ht hx;split at h
   ·rename_i p E e J hdr;split at h
    ·rename_i hh k b0 b1;cases hb:hi.isSome&&decide (hh=(J.length:Int))&&decide (k=(J.length:Int))&&BT e'.cells e.cells with
     |false=>rw[hb]at h;cases h
     |true =>
      rw[hb]at h;simp only[cond_true]at h;simp only[BC,decide_eq_true_eq]at hb;obtain⟨⟨⟨a3,rfl⟩,rfl⟩,X⟩:=hb;have X:=BI X;refine⟨_,h,λW a w hr next Q hn=>?_⟩;have h1:=hT t;rw[ht]at h1;obtain⟨hu,_,_,_,_,ti,z,c4,bn,_⟩:=h1;obtain⟨a5,_,_,_,_⟩:=bq hr x (by rw[hx];simp);rw[hx]at a5;obtain⟨h8,a9,bb,cb⟩:=ke hr hdr a5;obtain⟨y,hy,k1,ba⟩:∃ y,hi=some y/\∃ k1,a.eval y=.int k1 J.length:=by
       rcases mH hr b0 with ⟨I,_⟩|⟨y,k1,I,H⟩
       ·rw[I]at a3;cases a3
       ·exact⟨y,I,k1,H⟩
      obtain⟨k2,c5⟩:∃ k2,a.eval m=.int k2 J.length:=by
       rcases mH hr b1 with ⟨I,_⟩|⟨y,k2,I,H⟩
       ·cases I
       ·cases I;exact⟨k2,H⟩
      obtain⟨A,b6,hv,a0⟩:=a9.slice;have hE:=du (P:=P) (t:=E') (n:=e.cells) (by simp[bQ,c4,bn,X]) w;have a4:(if J.length=0 then A else A.map λx=>x.add (0*e.cells))=A:=by
       cases A with
       |none=>simp
       |some Z =>
        have e0:Z.add 0=Z:=by simp[Addr.add]
        show (if J.length=0 then some Z else some (Z.add (0*e.cells)))=some Z;rw[C8,e0];split <;> rfl
      refine dW (v:=.slice A J.length J.length) (w':=w) ?_ ?_
      ·simp only[execOp,ab,hv,hy,DL,Ck,ba,c5,Instr.sliceAt,Instr.slice,C3,run_underlying hu,CX,uv J.length b6 a0 k1 k2 w,hE,Sem.run_pure,Ch,a4]
      ·rw[hd];refine hn _ _ ?_;rw[cl,aP];have bx:∀ z∈[(Y,j)],aC st z:=λz hz=>by simp at hz;subst hz;exact⟨_,bb,trivial⟩
       obtain⟨h6,_,_,u⟩:=fD (frz:=[]) (kill:=[(Y,j)]) hV hr rfl bx;have e1:aN (ae (aF st []) st) [(Y,j)]++aF st []=aN st [(Y,j)]:=Bq _;rw[e1]at h6 u;have b3:aX W [(Y,j)]=W.bs Y j:=by simp[aX]
       rw[b3]at u;obtain⟨c2,a2,b4,M,a6,b9⟩:=a9;refine h6.putOwn hV (w':=w) (BU _) rfl rfl rfl (λ_ _=>rfl) d (a1 d hd).1 (a1 d hd).2 _ (BM _) (bs:=W.bs Y j) ?_ (λk hk=>mi ⟨(u k hk).1,(u k hk).2.1,(u k hk).2.2.2.1,(u k hk).2.2.2.2⟩);have b2:∀ k,gd V W p k->gd V (W.frz st []) p k:=bU (W':=W.frz st []) (λh=>h) (λ_ h=>Or.inl h);refine OwH.carry (G:=gd V W p) ⟨c2,a2,b4,⟨M.1,?_⟩,?_,b9⟩ b2 (λ_ _=>rfl) (λ_ _=>rfl)
       ·rcases M.2 with ⟨O,I⟩|⟨g,c6,bl,mk,O,I,H,c1,b5,c0⟩
        ·rw[hv]at O;simp only[Bw]at O;exact .inl ⟨by rw[O.1,I],I⟩
        ·rw[hv]at O;simp only[Bw,true_and]at O;exact .inr ⟨g,J.length,bl,mk,by rw[O.1],I,BU _,c1.imp (λh=>⟨h.1,B8 H h.2⟩) id,B8 (BN _ H) b5,c0⟩
       ·rw[a6,hv];cases A <;> rfl
    ·cases h
   ·cases h
  ·cases h
theorem xL (H:ay V)(z:TOk P T)(y:bN V o){t:TypeId}{x:Operand}{J M I:Option Operand}(u:o.op=.slice t x J M I)(h:act Γ T o st κ=some r):bW P V o st κ r:=by
 cases I with
 |none=>exact vq H z y u h
 |some m=>exact vW H z y u h
theorem Ah (hV:ay V)(J:bN V o){c:Call}(z:o.op=.call c)(M:c.callee=.builtin .min)(h:act Γ T o st κ=some r):bW P V o st κ r:=by
 simp only[act,wrU,z,M]at h;split at h
 ·cases h
 ·rename_i d O;simp only[O]at h;split at h
  ·rename_i x y Z;split at h
   ·rename_i X m k2 n Y hn;have u:c.args=#[x,y]:=by rw[<- Bt (xs:=c.args),Z]
    refine⟨_,h,λW a w I=>aO hV I O J (v:=.int X (bif decide (n<m) then n else m)) ?_ rfl id rfl⟩;cases H:decide (n<m) <;> simp[execOp,z,M,resolve,invoke,builtin,u,bD I Y,bD I hn,Builtin.min_,Builtin.min2] <;> simp at H <;> omega
   ·cases h
  ·cases h
theorem Ai (hV:ay V)(J:bN V o){c:Call}(z:o.op=.call c)(M:c.callee=.builtin .max)(h:act Γ T o st κ=some r):bW P V o st κ r:=by
 simp only[act,wrU,z,M]at h;split at h
 ·cases h
 ·rename_i d O;simp only[O]at h;split at h
  ·rename_i x y Z;split at h
   ·rename_i X m k2 n Y hn;have u:c.args=#[x,y]:=by rw[<- Bt (xs:=c.args),Z]
    refine⟨_,h,λW a w I=>aO hV I O J (v:=.int X (bif decide (m<n) then n else m)) ?_ rfl id rfl⟩;cases H:decide (m<n) <;> simp[execOp,z,M,resolve,invoke,builtin,u,bD I Y,bD I hn,Builtin.max_,Builtin.max2] <;> simp at H <;> omega
   ·cases h
  ·cases h
end
section
variable {P:Program} {V:Env} {W:Wit} {st st':St} {w w':World} {a:Act}
theorem aq.putGhost (hV:ay V)(h:aq P V W st a w)(d:Nat)(hd:GH<=d)(a4:d<B0)(n:Nat)(sh:aH)(ls:List Leaf)
  (R:List Value) (O:Nat->List Nat) (hn:(st d).ver<n) (hl:ls.length=R.length) (h1:∀ u∈R,u.oneCell'=true)
  (a1:∀ (j:Nat) (l:Leaf) (u:Value),ls[j]?=some l->R[j]?=some u->aJ P V W st w (O j) l u)
  (a0:∀ (j:Nat) (l:Leaf),ls[j]?=some l->ap l->∀ k∈O j,¬ W.nw k/\¬ V.prot k/\(∀ b,live st b->W.β b≠k) /\
   ∀ (r1 j1:Nat) (l1:Leaf),r1≠d->(st r1).ls[j1]?=some l1->ap l1->k∉W.bs r1 j1)
  (a2:∀ (j j':Nat) (l l':Leaf),ls[j]?=some l->ap l->ls[j']?=some l'->ap l'->∀ k,k∈O j->k∈O j'->j=j') :
  aq P V { W with cs:=λr=>if r=d then R else W.cs r,bs:=λr j=>if r=d then O j else W.bs r j } (ae [(d,⟨n,sh,ls⟩)] st) a w /\
   cF V W { W with cs:=λr=>if r=d then R else W.cs r,bs:=λr j=>if r=d then O j else W.bs r j } st (ae [(d,⟨n,sh,ls⟩)] st) w w:=by
 have M:∀ b,live (ae [(d,⟨n,sh,ls⟩)] st) b<->live st b:=by
  intro b;by_cases X:B0<=b
  ·rw[live,live,aI (by omega)]
  ·simp[live,X]
 have J:cF V W { W with cs:=λr=>if r=d then R else W.cs r,bs:=λr j=>if r=d then O j else W.bs r j } st (ae [(d,⟨n,sh,ls⟩)] st) w w:=by
  refine⟨λq=>?_,λb X=>⟨(M b).2 X,rfl⟩,λ_ h=>h,λ_ _=>rfl,λ_ q j' l' I h4 h5=>?_⟩
  ·rcases an d q ⟨n,sh,ls⟩ st with ⟨rfl,e⟩|⟨y,e⟩
   ·rw[e];exact⟨Nat.le_of_lt hn,λe=>absurd e (by show n≠_;omega)⟩
   ·rw[e];exact⟨BU _,λ_=>by simp[y]⟩
  ·rcases an d q ⟨n,sh,ls⟩ st with ⟨rfl,e⟩|⟨y,e⟩
   ·rw[e]at h5;exact absurd h5 (by show n≠_;omega)
   ·rw[e]at I;exact⟨⟨l',I,h4⟩,by simp[y],λ_ _=>rfl⟩
 refine⟨?_,J⟩
 exact {
  nt:=h.nt,df:=h.df
  slots:=λt ht=>by
   have:t≠d:=by omega
   rw[aI this];simpa[this]using h.slots t ht
  boxes:=λb X=>by
   have:b≠d:=by omega
   rw[aI this];simpa[this]using h.boxes b X
  len:=λq=>by
   rcases an d q ⟨n,sh,ls⟩ st with ⟨rfl,e⟩|⟨y,e⟩
   ·rw[e];simpa using hl
   ·rw[e];simpa[y]using h.len q
  one:=λq u hu=>by
   by_cases hq:q=d
   ·simp only[hq,if_true]at hu;exact h1 u hu
   ·simp only[hq,if_false]at hu;exact h.one q u hu
  leaf:=λq j l u z I=>by
   rcases an d q ⟨n,sh,ls⟩ st with ⟨rfl,e⟩|⟨y,e⟩
   ·rw[e]at z;simp only[if_true]at I;exact (a1 j l u z I).carry hV.ro J (λ_=>⟨by simp,λ_ _=>rfl⟩)
   ·rw[e]at z;simp only[y,if_false]at I;exact (h.leaf q j l u z I).carry hV.ro J (λ_=>⟨by simp[y],λ_ _=>rfl⟩)
  ownb:=λq j l z I k Y=>by
   rcases an d q ⟨n,sh,ls⟩ st with ⟨rfl,e⟩|⟨y,e⟩
   ·rw[e]at z;simp only[if_true]at Y;have:=a0 j l z I k Y;exact⟨this.1,this.2.1,λb X=>this.2.2.1 b ((M b).1 X)⟩
   ·rw[e]at z;simp only[y,if_false]at Y;have:=h.ownb q j l z I k Y;exact⟨this.1,this.2.1,λb X=>this.2.2 b ((M b).1 X)⟩
  sep:=λq j l q' j' l' z I h4 h5 k Y H=>by
   rcases an d q ⟨n,sh,ls⟩ st with ⟨e0,e⟩|⟨y,e⟩ <;> rcases an d q' ⟨n,sh,ls⟩ st with ⟨e1,e'⟩|⟨Z,e'⟩
   ·rw[e]at z;rw[e']at h4;simp only[e0,if_true]at Y;simp only[e1,if_true]at H;exact⟨e0.trans e1.symm,a2 j j' l l' z I h4 h5 k Y H⟩
   ·rw[e]at z;rw[e']at h4;simp only[e0,if_true]at Y;simp only[Z,if_false]at H;exact absurd H ((a0 j l z I k Y).2.2.2 q' j' l' Z h4 h5)
   ·rw[e]at z;rw[e']at h4;simp only[y,if_false]at Y;simp only[e1,if_true]at H;exact absurd Y ((a0 j' l' h4 h5 k H).2.2.2 q j l y z I)
   ·rw[e]at z;rw[e']at h4;simp only[y,if_false]at Y;simp only[Z,if_false]at H;exact h.sep q j l q' j' l' z I h4 h5 k Y H
  box:=λb X=>h.box b ((M b).1 X)
  inj:=λb b' X a3=>h.inj b b' ((M b).1 X) ((M b').1 a3)
  nwlt:=h.nwlt
  os:=h.os,tape:=h.tape,output:=h.output,size:=h.size,keep:=h.keep
  fixb:=λx hx=>⟨(M _).2 (h.fixb x hx).1,(h.fixb x hx).2⟩
  fixt:=h.fixt }
theorem gx {off:Nat}:∀ {a:Ty} {pos:Nat} {x:a.den} {u:(E:TypeId)×(e:Ty)×List e.den},bd off a pos x=some u->pos<=off/\off<pos+a.cells
 |.pair a b,pos,x,u,h=>by
  simp only[bd]at h;split at h
  ·rename_i v y;have:=gx y;simp only[Ty.cells];omega
  ·have:=gx h;simp only[Ty.cells];omega
 |.list m E e,pos,z,u,h=>by
  simp only[bd]at h;cases r:m&&BT pos off with
  |false=>simp[r]at h
  |true =>
   simp only[BC]at r;have:=BI r.2;simp only[Ty.cells];omega
 |.int _,_,_,_,h=>by simp[bd]at h
 |.bool,_,_,_,h=>by simp[bd]at h
 |.str,_,_,_,h=>by simp[bd]at h
 |.unit,_,_,_,h=>by simp[bd]at h
 |.hdr,_,_,_,h=>by simp[bd]at h
theorem mZ {off:Nat}:∀ {a:Ty} {pos:Nat} {x:a.den} {E:TypeId} {e:Ty} {u:List e.den},bd off a pos x=some ⟨E,e,u⟩->e.shy=true->a.shy=true
 |.pair a b,pos,x,E,e,u,h,r=>by
  simp only[bd]at h;simp only[Ty.shy,DM];split at h
  ·rename_i v z;simp only[BA]at h;subst h;exact .inl (mZ z r)
  ·exact .inr (mZ h r)
 |.list m I H,pos,J,E,e,u,h,r=>by
  simp only[bd]at h;cases y:m&&BT pos off with
  |false=>simp[y]at h
  |true =>
   rw[y]at h;simp only[cond_true,BA,Sigma.mk.injEq]at h;obtain⟨rfl,h⟩:=h;rw[heq_eq_eq,Sigma.mk.injEq]at h;obtain⟨rfl,_⟩:=h;simp[Ty.shy,r]
 |.int _,_,_,_,_,_,h,_=>by simp[bd]at h
 |.bool,_,_,_,_,_,h,_=>by simp[bd]at h
 |.str,_,_,_,_,_,h,_=>by simp[bd]at h
 |.unit,_,_,_,_,_,h,_=>by simp[bd]at h
 |.hdr,_,_,_,_,_,h,_=>by simp[bd]at h
theorem Mx.hol_out {G:Nat->Prop}{o:Nat}:∀ {a:Ty} {pos:Nat} {x:a.den} {cs:List Value} {bs:List Nat},(o<pos\/pos+a.cells<=o)->(Mx w G a none pos x cs bs<->Mx w G a (some o) pos x cs bs)
 |.int _,_,_,_,_,_=>Cf
 |.bool,_,_,_,_,_=>Cf
 |.str,_,_,_,_,_=>Cf
 |.unit,_,_,_,_,_=>Cf
 |.hdr,_,_,_,_,_=>Cf
 |.pair a b,pos,x,cs,bs,r=>by
  simp only[Ty.cells]at r;constructor
  ·rintro⟨c1,c2,b1,b2,e1,e2,h1,h2⟩;exact⟨c1,c2,b1,b2,e1,e2,(Mx.hol_out (by omega)).1 h1,(Mx.hol_out (by omega)).1 h2⟩
  ·rintro⟨c1,c2,b1,b2,e1,e2,h1,h2⟩;exact⟨c1,c2,b1,b2,e1,e2,(Mx.hol_out (by omega)).2 h1,(Mx.hol_out (by omega)).2 h2⟩
 |.list m E e,pos,u,cs,bs,r=>by
  simp only[Ty.cells]at r;cases m with
  |false=>rw[cq,cq]
  |true=>rw[bH (by simp),bH (by simp only[ne_eq,BA];omega)]
theorem Mx.out {G:Nat->Prop}{off:Nat}{E:TypeId}{e:Ty}{ys:List e.den}:∀ {a:Ty} {pos:Nat} {x:a.den} {cs:List Value} {bs:List Nat},Mx w G a none pos x cs bs->bd off a pos x=some ⟨E,e,ys⟩ ->
  ∃ v z r,OwB w G none E e ys v z/\cs[off-pos]?=some v/\Mx w G a (some off) pos x cs r/\∀ k,bs.count k=r.count k+z.count k
 |.pair a b,pos,x,cs,bs,⟨c1,c2,b1,b2,J,e2,M,h2⟩,h=>by
  have hl:=M.len;simp only[bd]at h;split at h
  ·rename_i u X;simp only[BA]at h;subst h;have O:=gx X;obtain⟨v,z,r,Y,Z,g3,R⟩:=Mx.out M X;refine⟨v,z,r++b2,Y,?_,⟨c1,c2,r,b2,J,rfl,g3,(Mx.hol_out (by omega)).1 h2⟩,λk=>?_⟩
   ·rw[J,BH (by omega)];exact Z
   ·rw[e2,BF,BF,R k];omega
  ·rename_i X;have O:=gx h;obtain⟨v,z,r,Y,Z,g3,R⟩:=Mx.out h2 h;refine⟨v,z,b1++r,Y,?_,⟨c1,c2,b1,r,J,rfl,(Mx.hol_out (by omega)).1 M,g3⟩,λk=>?_⟩
   ·rw[J,BG (by omega),hl,show off-pos-a.cells=off-(pos+a.cells) by omega];exact Z
   ·rw[e2,BF,BF,R k];omega
 |.list m E' e',pos,xs,cs,bs,H,h=>by
  simp only[bd]at h;cases y:m&&BT pos off with
  |false=>simp[y]at h
  |true =>
   rw[y]at h;simp only[cond_true,BA,Sigma.mk.injEq]at h;obtain⟨rfl,h⟩:=h;simp only[BC]at y;obtain⟨rfl,y⟩:=y;have y:=BI y;subst y;rw[heq_eq_eq,Sigma.mk.injEq]at h;obtain⟨rfl,h⟩:=h;rw[heq_eq_eq]at h;subst h;have I:=H.one;rw[bH (by simp)]at H;obtain⟨v,rfl,hO⟩:=H;exact⟨v,bs,[],hO,by simp,iZ.2 ⟨v,rfl,I v (by simp),rfl⟩,λk=>by simp⟩
 |.int _,_,_,_,_,_,h=>by simp[bd]at h
 |.bool,_,_,_,_,_,h=>by simp[bd]at h
 |.str,_,_,_,_,_,h=>by simp[bd]at h
 |.unit,_,_,_,_,_,h=>by simp[bd]at h
 |.hdr,_,_,_,_,_,h=>by simp[bd]at h
theorem Mx.back {G:Nat->Prop}{off:Nat}{E:TypeId}{e:Ty}{R:List e.den}{v:Value}{Z:List Nat}(hO:OwB w G none E e R v Z):∀ {a:Ty} {pos:Nat} {x z:a.den} {cs:List Value} {I:List Nat},Mx w G a (some off) pos x cs I->bM off E e R a pos x=some z ->
  cs[off-pos]?=some v->∃ X,Mx w G a none pos z cs X/\∀ k,X.count k=I.count k+Z.count k
 |.pair a b,pos,x,z,cs,X,⟨c1,c2,b1,b2,O,e2,M,h2⟩,h,J=>by
  have hl:=M.len;simp only[bM]at h;split at h
  ·rename_i u y;simp only[BA]at h;subst h;have Y:=set_in y;obtain⟨I,g1,g2⟩:=Mx.back hO M y (by rw[O,BH (by omega)]at J;exact J);refine⟨I++b2,⟨c1,c2,I,b2,O,rfl,g1,(Mx.hol_out (by omega)).2 h2⟩,λk=>?_⟩;rw[e2,BF,BF,g2 k];omega
  ·rename_i y;simp only[BB]at h;obtain⟨u,y,rfl⟩:=h;have Y:=set_in y;obtain⟨I,g1,g2⟩:=Mx.back hO h2 y (by
    rw[O,BG (by omega),hl]at J;rw[show off-(pos+a.cells)=off-pos-a.cells by omega];exact J)
   refine⟨b1++I,⟨c1,c2,b1,I,O,rfl,(Mx.hol_out (by omega)).2 M,g1⟩,λk=>?_⟩;rw[e2,BF,BF,g2 k];omega
 |.list m E' e',pos,xs,z,cs,X,H,h,J=>by
  simp only[bM]at h;cases r:m&&BT pos off with
  |false=>simp[r]at h
  |true =>
   rw[r]at h;simp only[cond_true]at h;obtain⟨rfl,rfl,rfl⟩:=jE h;simp only[BC]at r;obtain⟨rfl,r⟩:=r;have r:=BI r;subst r;rw[iZ]at H;obtain⟨v',rfl,M,rfl⟩:=H;simp only[Nat.sub_self,CK,BA]at J;subst J;exact⟨Z,(bH (by simp)).2 ⟨v',rfl,hO⟩,λk=>by simp⟩
 |.int _,_,_,_,_,_,_,h,_=>by simp[bM]at h
 |.bool,_,_,_,_,_,_,h,_=>by simp[bM]at h
 |.str,_,_,_,_,_,_,h,_=>by simp[bM]at h
 |.unit,_,_,_,_,_,_,h,_=>by simp[bM]at h
 |.hdr,_,_,_,_,_,_,h,_=>by simp[bM]at h
where
 set_in {off:Nat} {E:TypeId} {e:Ty} {R:List e.den}:∀ {a:Ty} {pos:Nat} {x z:a.den},bM off E e R a pos x=some z->pos<=off/\off<pos+a.cells
  |.pair a b,pos,x,z,h=>by
   simp only[bM]at h;split at h
   ·rename_i u y;have:=set_in y;simp only[Ty.cells];omega
   ·simp only[BB]at h;obtain⟨u,y,_⟩:=h;have:=set_in y;simp only[Ty.cells];omega
  |.list m E' e',pos,xs,z,h=>by
   simp only[bM]at h;cases r:m&&BT pos off with
   |false=>simp[r]at h
   |true =>
    simp only[BC]at r;have:=BI r.2;simp only[Ty.cells];omega
  |.int _,_,_,_,h=>by simp[bM]at h
  |.bool,_,_,_,h=>by simp[bM]at h
  |.str,_,_,_,h=>by simp[bM]at h
  |.unit,_,_,_,h=>by simp[bM]at h
  |.hdr,_,_,_,h=>by simp[bM]at h
end
section
variable {P:Program} {V:Env} {W W' W2:Wit} {st st' st2:St} {w w' w2:World} {a:Act}
theorem cF.trans (h:cF V W W' st st' w w')(u:cF V W' W2 st' st2 w' w2):cF V W W2 st st2 w w2:=by
 refine⟨λr=>⟨B8 (h.ver r).1 (u.ver r).1,λe=>?_⟩,λb hb=>?_,λk y=>u.nw k (h.nw k y),λk y=>?_,λhe r j l z H J=>?_⟩
 ·have z:=(h.ver r).1;have H:=(u.ver r).1;rw[(u.ver r).2 (by omega),(h.ver r).2 (by omega)]
 ·obtain⟨z,H⟩:=h.box b hb;obtain⟨J,h6⟩:=u.box b z;exact⟨J,h6.trans H⟩
 ·rw[u.heap k (y.imp (h.nw k) id),h.heap k y]
 ·have e1:=(h.ver EPO).1;have e2:=(u.ver EPO).1;have e3:=(h.ver r).1;have e4:=(u.ver r).1;obtain⟨⟨M,R,X⟩,g6,Z⟩:=u.epo (by omega) r j l z H (by omega);obtain⟨Y,I,O⟩:=h.epo (by omega) r j M R X (by omega);exact⟨Y,g6.trans I,λk y=>(Z k (by rw[I];exact y)).trans (O k y)⟩
theorem qD {n i:Nat}(H:i<n)(r:Nat->List Nat)(b u:List Nat)(z:∀ k,(r i).count k=b.count k+u.count k)(y:List Nat)(k:Nat) :
  (y++(BO n).flatMap r).count k=(y++(BO n).flatMap λj=>if j=i then b else r j).count k+u.count k:=by
 have:=ko H r b k;have:=z k;rw[BF,BF];omega
theorem OwH.out {G:Nat->Prop}{E E1:TypeId}{e e1:Ty}{xs:List e.den}{v:Value}{bs:List Nat}{i off:Nat}{y:e.den}{ys:List e1.den}(H:Ow w G E e xs v bs)(hy:xs[i]?=some y)(hg:bd off e 0 y=some ⟨E1,e1,ys⟩) :
  ∃ u R M,OwH w G (some (i,off)) E e xs v M/\Ow w G E1 e1 ys u R/\(∀ g X,v=.slice (some ⟨g,0,none⟩) xs.length X->w.cell? ⟨g,i*e.cells+off,none⟩=some u)/\∀ k,bs.count k=M.count k+R.count k:=by
 obtain⟨a0,O,J,h1,h2,h3⟩:=H;have Y:i<xs.length:=(BD.1 hy).1;obtain⟨c,hm,hc⟩:=h3 i y hy;have hm:Mx w G e none 0 y c (J i):=hm;obtain⟨u,R,b',g1,g2,g3,g4⟩:=hm.out hg;have r:=qD Y J b' R g4 v.ownBlock.toList;rw[<- h2]at r;have z:=br.1 a0;refine⟨u,R,v.ownBlock.toList++(BO xs.length).flatMap λj=>if j=i then b' else J j,⟨br.2 λk=>by have:=z k;have:=r k;omega,O,_,h1,rfl,λj x Z=>?_⟩,
  ⟨br.2 λk=>by have:=z k;have:=r k;omega,g1⟩,λg X hv=>?_,r⟩
 ·by_cases I:j=i
  ·subst I;rw[hy]at Z;simp only[BA]at Z;subst Z;refine⟨c,?_,hc⟩;simp only[cQ,Nat.beq_refl,cond_true,if_true];exact g3
  ·obtain⟨c',h4,h5⟩:=h3 j x Z;refine⟨c',?_,h5⟩;have:BT i j=false:=by
    cases hb:BT i j with
    |false=>rfl
    |true=>exact absurd (BI hb).symm I
   simp only[cQ,this,cond_false,if_neg I];exact h4
 ·subst hv;have a2:=gx hg;have a1:i*e.cells+off<xs.length*e.cells:=by
   have:=BN e.cells (show i+1<=xs.length from Y);rw[CY,Nat.one_mul]at this;omega
  rw[h1.cellAt _ a1];exact hc off u (by simpa using g2)
theorem OwH.back {G:Nat->Prop}{E E1:TypeId}{e e1:Ty}{xs:List e.den}{v u:Value}{bs bn:List Nat}{i off:Nat}{y z:e.den}{ys:List e1.den}(H:OwH w G (some (i,off)) E e xs v bs)(hn:Ow w G E1 e1 ys u bn)
  (hd:∀ k∈bn,k∉bs) (hy:xs[i]?=some y) (hs:bM off E1 e1 ys e 0 y=some z) (M:∀ g J,v=.slice (some ⟨g,0,none⟩) xs.length J->w.cell? ⟨g,i*e.cells+off,none⟩=some u) :
  ∃ R,Ow w G E e (xs.set i z) v R/\∀ k,R.count k=bs.count k+bn.count k:=by
 obtain⟨a3,X,a2,h1,h2,h3⟩:=H;have a1:i<xs.length:=(BD.1 hy).1;obtain⟨c,hm,hc⟩:=h3 i y hy;have a0:cQ (some (i,off)) i=some off:=by simp[cQ]
 rw[a0]at hm;have a5:=Mx.back.set_in hs;have a9:=hm.len;have I:c[off-0]?=some u:=by
  rcases h1.2 with ⟨rfl,h0⟩|⟨g,J,a6,_,rfl,_⟩
  ·omega
  ·have O:=M g J rfl;have a4:i*e.cells+off<xs.length*e.cells:=by
    have:=BN e.cells (show i+1<=xs.length from a1);rw[CY,Nat.one_mul]at this;omega
   rw[h1.cellAt _ a4]at O;have Z:off<c.length:=by omega
   have h6:=hc off _ (BS Z);rw[O]at h6;rw[Ch,BS Z,h6]
 obtain⟨b1,g1,g2⟩:=Mx.back hn.2 hm hs I;have r:∀ k,(v.ownBlock.toList++(BO xs.length).flatMap λj=>if j=i then b1 else a2 j).count k=bs.count k+bn.count k:=by
  intro k;have O:=ko a1 a2 b1 k;have Z:=g2 k;rw[h2,BF,BF];omega
 refine⟨_,⟨(mY a3 hn.1 hd (λk=>Cd (r k))).1,X,_,by rw[CC];exact h1,by rw[CC],λj x hj=>?_⟩,r⟩;rcases aR _ _ _ _ _ hj with ⟨rfl,rfl,_⟩|⟨Y,hj⟩
 ·refine⟨c,?_,hc⟩;simp only[if_true];exact g1
 ·obtain⟨c',O,Z⟩:=h3 j x hj;refine⟨c',?_,Z⟩;have:BT i j=false:=by
   cases hb:BT i j with
   |false=>rfl
   |true=>exact absurd (BI hb).symm Y
  have e0:cQ (some (i,off)) j=none:=by simp[cQ,this]
  rw[e0]at O;simp only[if_neg Y];exact O
theorem iU:GH<=TMP/\TMP<B0/\TMP≠EPO:=by decide
def tr (W:Wit)(S:St)(w:World)(r j:Nat)(v:Value):Prop :=
 r≠TMP/\r≠EPO/\∃ (i off:Nat) (p:Bool) (E:TypeId) (e:Ty) (y:List e.den) (g u:Nat),(S r).ls[j]?=some (.own p (some (i,off)) E e y)/\(W.cs r)[j]?=some (.slice (some ⟨g,0,none⟩) y.length u) /\
  g∈W.bs r j/\w.cell? ⟨g,i*e.cells+off,none⟩=some v
theorem uX (hV:ay V)(h:aq P V W st a w){l l':Leaf}{U:Upd}{v:Value}(Z:aJ P V W st w [] l v)(I:cm st l=some (U,l')) :
  ∃ W0 n p0 E0 e0 c1,aq P V W0 (ae U st) a w/\cF V W W0 st (ae U st) w w/\l'=.al TMP 0 n/\aJ P V W0 (ae U st) w [] l' v/\(ae U st TMP).ver=n/\(ae U st TMP).ls=[.own p0 none E0 e0 c1] /\
   W0.nw=W.nw/\W0.β=W.β/\(∀ q,q≠TMP->W0.cs q=W.cs q)/\W0.cs TMP=[v]/\(∀ q,(ae U st q).sh=(st q).sh\/q=TMP)/\tr W0 (ae U st) w (j0 l).1 (j0 l).2 v:=by
 cases l with
 |nal p ks ep cu E e xs =>
  simp only[cm]at I;cases ad:bk st ks ep with
  |false=>simp[ad]at I
  |true =>
   rw[ad]at I;simp only[cond_true]at I;split at I
   ·rename_i r j n0 i sz off;split at I
    ·rename_i M X J z hg;cases hb:!BT r TMP&&!BT r EPO&&BT sz J.cells with
     |false=>simp[hb]at I
     |true =>
      rw[hb]at I;simp only[cond_true]at I;simp only[BC,BY]at hb;obtain⟨⟨ba,c0⟩,b0⟩:=hb;have b0:=BI b0;subst b0;have R:r≠TMP:=λe=>by subst e;simp at ba
      have b5:r≠EPO:=λe=>by subst e;simp at c0
      split at I
      ·rename_i y hy;split at I
       ·rename_i E1 e1 ys b3;simp only[BA,B3]at I;obtain⟨rfl,rfl⟩:=I;have b4:=pv ad Z;obtain⟨r',j',n',b2,g,bl,b1,a6,cb,cp,O⟩:=b4.at_ i _ off rfl;simp only[CT,B3,and_true]at b2;obtain⟨rfl,rfl,rfl⟩:=b2;have a3:(st r).ls[j]?=some (.own M none X J z):=by
         rw[B5]at hg;cases H:(st r).ls[j]? with
         |none=>rw[H]at hg;simp at hg
         |some l0=>rw[H]at hg;simp at hg;rw[hg]
        have a1:=h.leaf r j _ _ a3 a6;have a1:Ow w (gd V W M) X J z _ (W.bs r j):=a1;have b9:bl=z.length:=by
         obtain⟨A,c5,e0,_⟩:=a1.slice;simp only[Bw]at e0;exact e0.2.1
        subst b9;obtain⟨u,bn,bs',g1,g2,g3,g4⟩:=a1.out hy b3;have hu:u=v:=by
         have:=g3 g b1 rfl;rw[this]at O;exact Option.some.inj O
        subst hu;have c3:=br.1 a1.1;have b6:∀ k∈bs',k∈W.bs r j:=λk hk=>BK.1 (by have:=g4 k;have:=BK.2 hk;omega)
        have a2:∀ k∈bn,k∈W.bs r j/\k∉bs':=λk hk=>by
         have h5:=g4 k;have h6:=BK.2 hk;have h7:=c3 k;refine⟨BK.1 (by omega),λbb=>?_⟩;have:=BK.2 bb;omega
        have a0:∀ k∈W.bs r j,uW V W st r j k:=λk hk=>by
         have h9:=h.ownb r j _ a3 trivial k hk;exact⟨h9.1,h9.2.1,h9.2.2,λr1 i1 l1 a4 a5 a9 Y=>a9 (by obtain⟨e1,e2⟩:=h.sep r1 i1 l1 r j _ a4 a5 a3 trivial k Y hk;rw[e1,e2])⟩
        have hR:xH st (ae [(r,⟨(st r).ver,(st r).sh,aT (st r).ls j (.own M (some (i,off)) X J z)⟩)] (ae [(EPO,bV (st EPO))] st)) r j (.own M (some (i,off)) X J z):=by
         refine⟨λq=>?_,λq=>?_,?_,λq=>?_,λl Z=>?_,λq i' l H Z=>?_⟩
         ·rcases an r q ⟨(st r).ver,(st r).sh,aT (st r).ls j (.own M (some (i,off)) X J z)⟩ (ae [(EPO,bV (st EPO))] st) with ⟨rfl,e⟩|⟨_,e⟩
          ·rw[e]
          ·rw[e];rcases an EPO q (bV (st EPO)) st with ⟨rfl,e⟩|⟨_,e⟩ <;> rw[e];rfl
         ·rcases an r q ⟨(st r).ver,(st r).sh,aT (st r).ls j (.own M (some (i,off)) X J z)⟩ (ae [(EPO,bV (st EPO))] st) with ⟨rfl,e⟩|⟨_,e⟩
          ·rw[e];exact BU _
          ·rw[e];rcases an EPO q (bV (st EPO)) st with ⟨rfl,e⟩|⟨_,e⟩ <;> rw[e]
           ·exact DF _
           ·exact BU _
         ·rw[aI (CG b5),bh];exact BM _
         ·rcases an r q ⟨(st r).ver,(st r).sh,aT (st r).ls j (.own M (some (i,off)) X J z)⟩ (ae [(EPO,bV (st EPO))] st) with ⟨rfl,e⟩|⟨_,e⟩
          ·rw[e];simp[aT]
          ·rw[e];rcases an EPO q (bV (st EPO)) st with ⟨rfl,e⟩|⟨_,e⟩ <;> rw[e];rfl
         ·rw[bh]at Z;rcases aR _ _ _ _ _ Z with ⟨_,rfl,_⟩|⟨a9,_⟩
          ·rfl
          ·exact absurd rfl a9
         ·rcases an r q ⟨(st r).ver,(st r).sh,aT (st r).ls j (.own M (some (i,off)) X J z)⟩ (ae [(EPO,bV (st EPO))] st) with ⟨rfl,e⟩|⟨_,e⟩
          ·rw[e]at Z;rcases aR _ _ _ _ _ Z with ⟨rfl,_,_⟩|⟨_,Z⟩
           ·exact absurd rfl H
           ·exact Z
          ·rw[e]at Z;rcases an EPO q (bV (st EPO)) st with ⟨rfl,e⟩|⟨_,e⟩ <;> rw[e]at Z <;> exact Z
        have h1:=h.retell hV hR a3 trivial a6 trivial (bs':=bs') g1 (λk hk=>a0 k (b6 k hk)) (λ_ _ _=>rfl) (BU _) rfl rfl rfl;have c4:cF V W (W.tell r j bs') st (ae [(r,⟨(st r).ver,(st r).sh,aT (st r).ls j (.own M (some (i,off)) X J z)⟩)] (ae [(EPO,bV (st EPO))] st)) w w :=
         ⟨λq=>⟨hR.ver q,λ_=>rfl⟩,λb hb=>⟨(iC hR.sh b).2 hb,rfl⟩,λ_ h=>h,λ_ _=>rfl,λhe=>by have:=hR.epo;omega⟩
        have bx:(ae [(r,⟨(st r).ver,(st r).sh,aT (st r).ls j (.own M (some (i,off)) X J z)⟩)] (ae [(EPO,bV (st EPO))] st) TMP).ver=(st TMP).ver:=by
         rw[aI (CG R),aI iU.2.2]
        obtain⟨h2,c2⟩:=h1.putGhost hV TMP iU.1 iU.2.1 ((st TMP).ver+1) .one [.own (M&&J.shy) none E1 e1 ys] [u] (λ_=>bn) (by rw[bx];exact BM _) rfl (λx hx=>by simp at hx;subst hx;exact g2.one)
         (λq l x H hx=>by
          cases q with
          |zero=>simp at H hx;subst H;subst hx;exact⟨g2.1,(OwB.shy g2.2).carry (bU (W':=W) (by intro hh;simp only[BC]at hh ⊢;exact⟨hh.1,mZ b3 hh.2⟩) (λ_ h=>h)) (λ_ _=>rfl) (λ_ _=>rfl)⟩
          |succ q=>simp at H)
         (λq l H _ k hk=>by
          obtain⟨q1,q2,q3,q4⟩:=a0 k (a2 k hk).1;refine⟨q1,q2,λb hb=>q3 b ((iC hR.sh b).1 hb),λr1 i1 l1 _ a4 a5 Y=>?_⟩;by_cases H:(r1,i1)=(r,j)
          ·cases H;rw[show (W.tell r j bs').bs r j=bs' from if_pos rfl]at Y;exact (a2 k hk).2 Y
          ·rw[show (W.tell r j bs').bs r1 i1=W.bs r1 i1 from if_neg H]at Y;exact q4 r1 i1 l1 (hR.old r1 i1 l1 H a4) a5 H Y)
         (λq q' l l2 h1 h2 h3 h4 k h5 h6=>by
          have h7:q<1:=(BD.1 h1).1;have h8:q'<1:=(BD.1 h3).1;omega)
        have ab:ae [(r,⟨(st r).ver,(st r).sh,aT (st r).ls j (.own M (some (i,off)) X J z)⟩),(TMP,⟨(st TMP).ver+1,.one,[.own (M&&J.shy) none E1 e1 ys]⟩),(EPO,bV (st EPO))] st =
          ae [(TMP,⟨(st TMP).ver+1,.one,[.own (M&&J.shy) none E1 e1 ys]⟩)] (ae [(r,⟨(st r).ver,(st r).sh,aT (st r).ls j (.own M (some (i,off)) X J z)⟩)] (ae [(EPO,bV (st EPO))] st)):=by
         rw[aP r,aP TMP,mW R]
        rw[ab];refine⟨_,_,_,_,_,_,h2,c4.trans c2,rfl,⟨by rw[bh];exact BU _,λ_=>by simp⟩,by rw[bh],by rw[bh],rfl,rfl,λq H=>by simp[H,Wit.tell],by simp,λq=>?_,R,b5,i,off,M,X,J,z,g,b1,?_,?_,?_,O⟩
        ·by_cases H:q=TMP
         ·exact .inr H
         ·rw[aI H];exact .inl (hR.sh q)
        ·show (ae [(TMP,_)] _ r).ls[j]?=_;rw[aI R,bh];simp only[aT];rw[CN (BD.1 a3).1]
        ·show (if r=TMP then _ else W.cs r)[j]?=_;rw[if_neg R];exact a6
        ·show g∈(if r=TMP then _ else (W.tell r j bs').bs r j);rw[if_neg R,show (W.tell r j bs').bs r j=bs' from if_pos rfl];obtain⟨_,c6,cc,_,q2,_⟩:=g1;rw[q2];simp[Bs]
       ·cases I
      ·cases I
    ·cases I
   ·cases I
 |_=>simp[cm]at I
theorem gZ {R:Type}(l:Leaf)(J:Upd->Leaf->Option R):lI st l J=(cm st l).bind λu=>J u.1 u.2:=by
 cases l with
 |nal p X ep O E e xs =>
  simp only[lI,cm];cases bk st X ep with
  |false=>rfl
  |true =>
   simp only[cond_true];split
   ·rename_i r j n i M off;split
    ·rename_i Z Y I z _;cases !BT r TMP&&!BT r EPO&&BT M I.cells with
     |false=>rfl
     |true =>
      simp only[cond_true];have H:idx z (i:Int)=z[i]?:=by
       unfold idx;rw[if_neg (by omega)];simp
      rw[H];cases z[i]? with
      |none=>rfl
      |some y =>
       simp only[Option.bind_some];cases bd off I 0 y with
       |none=>rfl
       |some u=>rfl
    ·rfl
   ·rfl
 |_=>rfl
end
theorem rq {w:World}{α:Type}{s g:Nat}:∀ (M:List α) (o:Nat) (Q:Nat->α->List Value->Prop),(∀ j x c,Q j x c->c.length=s/\∀ u∈c,u.oneCell'=true)->(∀ (j:Nat) (x:α),M[j]?=some x->∃ c,Q j x c/\cV w g (o+j*s) c) ->
  ∃ r:List Value,r.length=M.length*s/\(∀ j u,r[j]?=some u->w.cell? ⟨g,o+j,none⟩=some u)/\(∀ u∈r,u.oneCell'=true) /\
   ∀ (j:Nat) (x:α),M[j]?=some x->∃ c,Q j x c/\∀ i u,c[i]?=some u->r[j*s+i]?=some u
 |[],o,_,_,_=>⟨[],by simp,by simp,by simp,by simp⟩
 |y::M,o,Q,hQ,h=>by
  obtain⟨c,hr,hc⟩:=h 0 y rfl;obtain⟨r,h1,h2,h3,h4⟩:=rq M (o+s) (λj=>Q (j+1)) (λj=>hQ (j+1)) (λj x z=>by
   obtain⟨X,I,H⟩:=h (j+1) x (by simpa using z);refine⟨X,I,?_⟩;rw[Bz]at H;have:o+s+j*s=o+(j*s+s):=by omega
   rw[this];exact H)
  obtain⟨a0,R⟩:=hQ 0 y c hr;refine⟨c++r,by rw[BR,h1,a0,Cc,Bz];omega,?_,?_,?_⟩
  ·intro j u z;by_cases Y:j<c.length
   ·rw[BH Y]at z;have:=hc j u z
    rwa [C8,B6]at this
   ·rw[BG (by omega)]at z;have:=h2 (j-c.length) u z;have e1:o+s+(j-c.length)=o+j:=by omega
    rwa [e1]at this
  ·intro u J;rcases BL.1 J with J|J
   ·exact R u J
   ·exact h3 u J
  ·intro j x z;cases j with
   |zero =>
    simp at z;subst z;refine⟨c,hr,λi u O=>?_⟩;have Z:=(BD.1 O).1;rw[C8,CH,BH Z];exact O
   |succ j =>
    obtain⟨X,I,H⟩:=h4 j x (by simpa using z);refine⟨X,I,λi u O=>?_⟩;rw[Bz,BG (by omega)];rw[<- H i u O];congr 1;omega
theorem jM {P:Program}(g o:Nat)(t:TypeId)(mk:Nat×Nat):∀ (y:List Value) (i:Nat) (cur:Array Value) (w:World),w.heap[g]?=some (.cells cur t mk)->(mk.2=0\/cur.size<=mk.1)->o+i+y.length<=cur.size->(∀ v∈y,v.oneCell'=true) ->
  (storeCells ⟨g,o,none⟩ y i).run P w=.ok () (w.setRow g (cur.toList.take (o+i)++y++cur.toList.drop (o+i+y.length)).toArray)
 |[],i,cur,w,u,_,_,_=>by
  simp only[storeCells,Bq,CR,B6,List.take_append_drop,Bt];rw[setRow_self w g cur t mk u];rfl
 |v::r,i,cur,w,u,M,I,J=>by
  have O:o+i<cur.size:=by simp at I;omega
  have z:(⟨g,o,none⟩:Addr).add i=⟨g,o+i,none⟩:=by unfold Addr.add;split <;> simp_all
  have H:(store ((⟨g,o,none⟩:Addr).add i) v).run P w=.ok () (w.setRow g (cur.setIfInBounds (o+i) v)):=by
   rw[z,run_store P w _ v _ (J v (by simp)),cell_of_row w g _ cur t mk u,Array.getElem?_eq_getElem O];simp[qR u M O,setCell_eq_setRow w g (o+i) cur t mk v u]
  have X:=jM (P:=P) g o t mk r (i+1) (cur.setIfInBounds (o+i) v) (w.setRow g (cur.setIfInBounds (o+i) v)) (setRow_heap w g cur _ t _ u) (by simpa using M) (by simp at I ⊢;omega) (λx R=>J x (by simp[R]));simp only[storeCells,C3,H,CX,X,setRow_setRow];congr 3;have e:=list_seg_step cur.toList (o+i) v r (by simp at I ⊢;omega);simpa[Array.toList_setIfInBounds,DS]using e
theorem m7 {P:Program}(w:World)(t ty e:TypeId)(i:TypeInfo)(ht:P.underlying t=some (.slice e))(Y:P.info? e=some i)
  (g y z:Nat) (cur:Array Value) (mk:Nat×Nat) (hg:w.heap[g]?=some (.cells cur e mk)) (X:mk.2=0\/cur.size<=mk.1)
  (a:Addr) (m c:Nat) (r:List Value) (Z:r.length=m*i.size) (H:∀ j u,r[j]?=some u->w.cell? (a.add j)=some u) (O:∀ u∈r,u.oneCell'=true)
  (I:y+m<=z) (M:y*i.size+r.length<=cur.size) :
  (By #[t,t] ty #[.slice (some ⟨g,0,none⟩) y z,.slice (some a) m c]).run P w =
   .ok (.slice (some ⟨g,0,none⟩) (y+m) z) (w.setRow g (cur.toList.take (y*i.size)++r++cur.toList.drop (y*i.size+r.length)).toArray):=by
 have R:=run_firstCells_some (P:=P) w i.size m a m c r Z H;have J:=jM (P:=P) g (y*i.size) e mk r 0 cur w hg X (by simpa using M) O;simp only[B6]at J;simp[By,run_underlying ht,sizeOf,typeInfo,Y,Ca,I,R,Addr.add_lit,J]
theorem cg {P:Program}(w:World)(t ty e:TypeId)(i:TypeInfo)(z:Value)(size Z:Nat)(ht:P.underlying t=some (.slice e))(hi:P.info? e=some i)(hz:i.zero=some z)
  (a3:i.size=size) (b2:i.bytes=Z) (b1:z.cells.size=size)
  (v:Value) (n:Nat) (xs:List Value) (y:Row w e size v n xs)
  (a:Addr) (m c:Nat) (r:List Value) (hl:r.length=m*size) (I:∀ j u,r[j]?=some u->w.cell? (a.add j)=some u) (h1:∀ u∈r,u.oneCell'=true)
  (a6:n+m<=maxLen) (M:(n+m)*Z<=140737488355328) :
  ∃ v' w',(By #[t,t] ty #[v,.slice (some a) m c]).run P w=.ok v' w'/\Row w' e size v' (n+m) (xs++r)/\w.grownBy w' v.ownBlock/\(v'.ownBlock=v.ownBlock\/v'.ownBlock=some w.heap.size):=by
 subst a3;subst b2;have b0:n+m<=9223372036854775807:=by simp only[maxLen]at a6;omega
 have O:(xs++r).length=(n+m)*i.size:=by rw[BR,y.1,hl,CY]
 have a0:∀ (H:Nat),H<n+m->∀ (a9:Option Nat),
   Row (w.drew.alloc (.cells (xs.toArray++r.toArray++C9 z.cells (grownCap w (n+m) H e-(n+m))) e)) e i.size
    (.slice (some ⟨w.heap.size,0,none⟩) (n+m) (grownCap w (n+m) H e)) (n+m) (xs++r) /\
   w.grownBy (w.drew.alloc (.cells (xs.toArray++r.toArray++C9 z.cells (grownCap w (n+m) H e-(n+m))) e)) a9:=by
  intro H ho a9;have b3:=grownCap_ge w (n+m) H e;have a1:grownCap w (n+m) H e<=maxLen:=grownCap_le_maxLen w (n+m) H e a6;refine⟨⟨O,.inr ⟨w.heap.size,_,_,_,rfl,heap_alloc_new w.drew _,b3,.inl ⟨rfl,a1⟩,?_,?_⟩⟩,⟨rfl,rfl,rfl,by simp,λk hk _=>Go.heap_alloc_old w.drew _ hk⟩⟩
  ·simp only[C4,CM,size_zeroCells,b1,y.1,hl,<- CY];exact BN _ (by omega)
  ·simp only[Cu,BQ];rw[<- BQ,<- O];exact DQ
 rcases y.2 with ⟨rfl,rfl⟩|⟨g,X,R,mk,rfl,hg,b4,a1,ab,a5⟩
 ·have hx:xs=[]:=BV (by simpa using y.1);subst hx;by_cases hm:m=0
  ·subst hm;have hn:r=[]:=BV (by simpa using hl);subst hn;refine⟨.slice none 0 0,w,?_,Row.nil w e i.size,⟨rfl,rfl,rfl,BU _,λ_ _ _=>rfl⟩,.inl rfl⟩;simp[By,run_underlying ht,sizeOf,typeInfo,hi,Ca,CW,loadCells,loadCellsFrom]
  ·have hr:=run_append_nil (P:=P) w t ty e i z ht hi hz a m c r hl I (by omega) (by omega) (by have hb:=M;simp only[CH]at hb;omega);have Y:=a0 0 (by omega) (Bs (.slice none 0 0));simp only[CH,DN,Array.empty_append]at Y ⊢;exact⟨_,_,hr,Y.1,Y.2,.inr rfl⟩
 ·by_cases J:n+m<=X
  ·have ad:n*i.size+r.length<=R.size:=by rw[hl,<- CY];exact B8 (BN _ J) ab
   have hr:=m7 (P:=P) w t ty e i ht hi g n X R mk hg (zi a1) a m c r hl I h1 J ad;have a2:(R.toList.take (n*i.size)++r++R.toList.drop (n*i.size+r.length)).toArray.size=R.size:=by
    simp only[CM,BR,Br,Cb,Bx];omega
   refine⟨_,_,hr,⟨O,.inr ⟨g,X,_,mk,rfl,setRow_heap w g R _ e _ hg,J,a1.imp id (λh=>⟨h.1,?_⟩),?_,?_⟩⟩,⟨rfl,rfl,rfl,by simp,λk _ hk=>setRow_other w g k _ (λe=>hk (by simp[Bs,e]))⟩,.inl rfl⟩
   ·rw[a2];exact h.2
   ·rw[a2];exact ab
   ·rw[a5,<- O];exact DQ
  ·have a4:∀ j u,xs[j]?=some u->w.cell? ((⟨g,0,none⟩:Addr).add j)=some u:=λj u hj=>by
    rw[eU,CH,y.cellAt _ (by rw[<- y.1];exact (BD.1 hj).1)];exact hj
   have hr:=run_append_grow (P:=P) w t ty e i z ht hi hz ⟨g,0,none⟩ n X xs y.1 a4 a m c r hl I (by omega) (by omega) (growslice_fits (by omega) M);have Y:=a0 X (by omega) (Bs (.slice (some ⟨g,0,none⟩) n X));exact⟨_,_,hr,Y.1,Y.2,.inr rfl⟩
theorem m8 {P:Program}(w:World)(t ty e:TypeId)(i:TypeInfo)(size c:Nat)(z:P.underlying t=some (.slice e))(y:P.info? e=some i)
  (v:Value) (n:Nat) (xs:List Value) (r:Row w e size v n xs) :
  (By #[t,t] ty #[v,.slice none 0 c]).run P w=.ok v w:=by
 rcases r.2 with ⟨rfl,rfl⟩|⟨g,I,H,_,rfl,_,u,_⟩
 ·simp[By,run_underlying z,sizeOf,typeInfo,y,Ca,CW]
 ·simp[By,run_underlying z,sizeOf,typeInfo,y,Ca,CW,u,storeCells]
theorem jc {α:Type}{f g:α->List Nat}:∀ {l:List α},(∀ x∈l,f x=g x)->l.flatMap f=l.flatMap g
 |[],_=>rfl
 |x::l,h=>by rw[CE,CE,h x (BW ..),jc (λy r=>h y (BP _ r))]
theorem yQ (n m:Nat)(f g:Nat->List Nat):(BO (n+m)).flatMap (λj=>if j<n then f j else g (j-n))=(BO n).flatMap f++(BO m).flatMap g:=by
 rw[List.range_add,List.flatMap_append,DB];congr 1
 ·refine jc λj r=>?_
  rw[if_pos (Cp.1 r)]
 ·refine jc λj _=>?_
  rw[if_neg (by omega),show n+j-n=j by omega]
def vX (w:World)(G:Nat->Prop)(e:Ty)(r:List e.den)(u:Value)(z:Nat->List Nat):Prop :=
 ∃ A y,u=.slice A r.length y/\(0<r.length->∃ g o,A=some ⟨g,o,none⟩/\∀ j (x:e.den),r[j]?=some x->∃ c,Mx w G e none 0 x c (z j)/\cV w g (o+j*e.cells) c)
section
variable {P:Program} {V:Env} {Γ:List Ctr} {T:TypeId->TI} {st:St} {o:Oper} {R:Type} {κ:Upd->Option R} {r:R}
theorem vY {w:World}{t ty E:TypeId}{e e':Ty}{J:Nat}(c5:oJ P t (.slice E e J))(ab:e'.cells=e.cells){G G2 G':Nat->Prop}{xs H:List e'.den}{v u:Value}{bs:List Nat}{M:Nat->List Nat}(hx:Ow w G E e' xs v bs)
  (hy:vX w G2 e' H u M) (b3:(xs.length+H.length)*J<=ao) (hG:∀ k,G k->G' k) (b2:∀ k,G2 k->G' k) (b4:∀ k,G' k->k<w.heap.size/\v.ownBlock≠some k) (c2:∀ j,j<H.length->∀ k∈M j,v.ownBlock≠some k) :
  ∃ Y O I,(By #[t,t] ty #[v,u]).run P w=.ok Y O/\w.grownBy O v.ownBlock/\OwB O G' none E e' (xs++H) Y I /\
   ∀ k,I.count k<=bs.count k+(((BO H.length).flatMap M)++[w.heap.size]).count k:=by
 obtain⟨hu,_,_,cb,c4,ti,z,hi,hs,hb,hz,bx⟩:=c5;obtain⟨c1,X,a4,ho,a9,b9⟩:=hx;obtain⟨A,b0,bb,b1⟩:=hy;subst bb;have c0:ti.size=e'.cells:=by rw[ab];exact hs
 have a3:∀ (O:World),w.grownBy O v.ownBlock->∀ k,G' k->O.heap[k]?=w.heap[k]?:=λO hg k Z=>hg.block k (b4 k Z).1 (CG (b4 k Z).2)
 have ba:xs.length+H.length<=maxLen:=by
  have h1:(xs.length+H.length)*1<=(xs.length+H.length)*J:=CU _ c4.1;have:=mj;simp only[ao]at b3;omega
 have b6:∀ (y:List Value),(∀ (j:Nat) (x:e'.den),H[j]?=some x->∃ c,Mx w G2 e' none 0 x c (M j)/\∀ i u,c[i]?=some u->y[j*e'.cells+i]?=some u) ->
   ∀ Y O,Row O E e'.cells Y (xs.length+H.length) (X++y)->w.grownBy O v.ownBlock->(Y.ownBlock=v.ownBlock\/Y.ownBlock=some w.heap.size) ->
    ∃ I,OwB O G' none E e' (xs++H) Y I/\∀ k,I.count k<=bs.count k+(((BO H.length).flatMap M)++[w.heap.size]).count k:=by
  intro y hn Y O a6 hg a5;refine⟨Y.ownBlock.toList++(BO (xs.length+H.length)).flatMap (λj=>if j<xs.length then a4 j else M (j-xs.length)),⟨X++y,_,by rw[BR];exact a6,by rw[BR],λj x hj=>?_⟩,λk=>?_⟩
  ·by_cases a1:j<xs.length
   ·rw[BH a1]at hj;obtain⟨c,hr,hc⟩:=b9 j x hj;have hr:Mx w G e' none 0 x c (a4 j):=hr;refine⟨c,?_,λi u hi=>?_⟩
    ·rw[if_pos a1];refine hr.carry hG (λk Z=>a3 O hg k (hG k Z)) λk Z=>hg.block k (hr.lt k Z) (λe0=>?_)
     have h5:=br.1 c1 k;rw[a9,<- e0,BF]at h5;have h6:0<((BO xs.length).flatMap a4).count k:=BK.2 (dV.2 ⟨j,a1,Z⟩);simp at h5;omega
    ·have:=hc i u hi;rw[BH (BD.1 this).1];exact this
   ·rw[BG (by omega)]at hj;obtain⟨c,hr,hc⟩:=hn _ x hj;have bl:=(BD.1 hj).1;refine⟨c,?_,λi u hi=>?_⟩
    ·rw[if_neg a1];exact hr.carry b2 (λk Z=>a3 O hg k (b2 k Z)) λk Z=>hg.block k (hr.lt k Z) (CG (c2 _ bl k Z))
    ·have:=hc i u hi;have b5:=ho.1;have c6:xs.length*e'.cells<=j*e'.cells:=BN _ (Nat.le_of_not_lt a1);rw[BG (by omega),<- this,b5,Nat.sub_mul];congr 1;omega
  ·rw[yQ,a9];simp only[BF];rcases a5 with h5|h5
   ·rw[h5];omega
   ·rw[h5];simp only[Cx];omega
 cases A with
 |none =>
  have a2:H.length=0:=by
   rcases Cy H.length with h|h
   ·exact h
   ·obtain⟨g,o,hA,_⟩:=b1 h;cases hA
  have a2:=BV a2;subst a2;have a0:=m8 (P:=P) w t ty E ti e'.cells b0 hu hi v xs.length X ho;have hg:w.grownBy w v.ownBlock:=⟨rfl,rfl,rfl,BU _,λ_ _ _=>rfl⟩;obtain⟨I,h1,h2⟩:=b6 [] (by simp) v w (by simpa using ho) hg (.inl rfl);exact⟨v,w,I,a0,hg,h1,h2⟩
 |some ad =>
  have c3:∃ y:List Value,y.length=H.length*e'.cells/\(∀ j u,y[j]?=some u->w.cell? (ad.add j)=some u)/\(∀ u∈y,u.oneCell'=true) /\
    ∀ (j:Nat) (x:e'.den),H[j]?=some x->∃ c,Mx w G2 e' none 0 x c (M j)/\∀ i u,c[i]?=some u->y[j*e'.cells+i]?=some u:=by
   rcases Cy H.length with h|h
   ·have a2:=BV h;subst a2;exact⟨[],by simp,by simp,by simp,by simp⟩
   ·obtain⟨g,o,hA,he⟩:=b1 h;simp at hA;subst hA;obtain⟨y,h1,h2,h3,h4⟩:=rq H o (λj x c=>Mx w G2 e' none 0 x c (M j)) (λj x c hq=>⟨hq.len,hq.one⟩) he;exact⟨y,h1,λj u hj=>by rw[eU];exact h2 j u hj,h3,h4⟩
  obtain⟨y,h1,h2,h3,h4⟩:=c3;have bn:z.cells.size=e'.cells:=by
   have h2:=(lB w (λ_=>False) e).len;rw[<- Bx,bx,h2,ab]
  obtain⟨Y,O,a0,a6,hg,a5⟩:=cg (P:=P) w t ty E ti z e'.cells J hu hi hz c0 hb bn v xs.length X ho ad H.length b0 y h1 h2 h3 ba (by simpa[ao]using b3);obtain⟨I,h5,h6⟩:=b6 y h4 Y O a6 hg a5;exact⟨Y,O,I,a0,hg,h5,h6⟩
theorem vZ {W:Wit}{a:Act}{w:World}(h:aq P V W st a w){E:TypeId}{e:Ty}{y:Leaf}{u:Value}{t:cL (List e.den)}(hl:aD P V W st w [y] [u])(H:fN st E e y=some t) :
  (∃ I,vX w (bj V W t.p t.frz) e t.val u I/\∀ k,((BO t.val.length).flatMap I).count k<=(aX W t.kill).count k)/\(∀ x∈t.frz,aC st x)/\(∀ x∈t.kill,aC st x):=by
 have z:∀ {p q:Bool} {O:List e.den} {ks:List (Nat×Nat)},dh e (aE st y)=some (p,O)->(∀ (S:Nat->Prop) (x:e.den) (c:List Value),Rd w (bj V W p (bu st [y])) e x c->Mx w (bj V W q ks) e none 0 x c []) ->
   ∃ I,vX w (bj V W q ks) e O u I/\∀ k,((BO O.length).flatMap I).count k<=(aX W []).count k:=by
  intro p q O ks X hm;obtain⟨A,M,hu,_,hx⟩:=ky (m:=false) (E:=E) h hl.1.1 hl.1.2.1 X;have hu:u=.slice A O.length M:=by simpa using hu
  refine⟨(λ_=>[]:Nat->List Nat),⟨A,M,hu,λZ=>?_⟩,λk=>by rw[show ((BO O.length).flatMap λ_=>([]:List Nat))=[] from by simp];exact DG _⟩;obtain⟨g,o',hA,_,a0⟩:=hx Z;exact⟨g,o',hA,λj x hj=>by
   obtain⟨c,hr,hc⟩:=a0 j x hj;exact⟨c,hm (λ_=>True) x c hr,hc⟩⟩
 unfold fN at H;cases hf:e.flat with
 |true =>
  rw[hf]at H;simp only[cond_true,BB]at H;obtain⟨⟨p,O⟩,X,rfl⟩:=H;exact⟨z X (λ_ x c hr=>Mx.flat hf hr),by simp,by simp⟩
 |false =>
  rw[hf]at H;simp only[cond_false]at H;cases hs:decide (e.sh=e) with
  |true =>
   rw[hs]at H;simp only[cond_true,BB]at H;obtain⟨⟨p,O⟩,X,rfl⟩:=H;exact⟨z X (λ_ x c hr=>Mx.shared (of_decide_eq_true hs) hr),λx hx=>ek hl hx,by simp⟩
  |false =>
   rw[hs]at H;simp only[cond_false,BB]at H;obtain⟨J,X,rfl⟩:=H;obtain⟨h1,h2,h3⟩:=dO (pos:=0) h hl X;have h1:Mx w (bj V W J.p J.frz) (.list true E e) none 0 J.val [u] (aX W J.kill):=h1;rw[bH (by simp)]at h1;obtain⟨v,hv,a1,Y,h4,h5,h6⟩:=h1;simp only[CT,and_true]at hv;subst hv;refine⟨⟨Y,?_,λk=>?_⟩,h2,h3⟩
   ·rcases h4.2 with ⟨hn,h0⟩|⟨g,M,a2,_,hv,hg,a3,_⟩
    ·exact⟨none,0,by rw[hn];show _=Value.slice none (DI J.val) 0;rw[h0],λZ=>by have Z:0<DI J.val:=Z;omega⟩
    ·refine⟨some ⟨g,0,none⟩,M,hv,λZ=>⟨g,0,rfl,λj x hj=>?_⟩⟩;obtain⟨c,h7,h8⟩:=h6 j x hj;have h7:Mx w (bj V W J.p J.frz) e none 0 x c (Y j):=h7;refine⟨c,h7,λi u hi=>?_⟩;have h9:=h8 i u hi;rw[CH];rw[hv]at h4;rw[h4.cellAt _ (by rw[<- h4.1];exact (BD.1 h9).1)];exact h9
   ·show ((BO (DI J.val)).flatMap Y).count k<=(aX W J.kill).count k;rw[h5,BF];omega
theorem Aj {l l':Leaf}{U:Upd}(u:cm st l=some (U,l')):∃ n,l'=.al TMP 0 n:=by
 cases l with
 |nal p O ep J E e xs =>
  simp only[cm]at u;cases y:bk st O ep with
  |false=>simp[y]at u
  |true =>
   rw[y]at u;simp only[cond_true]at u;split at u
   ·rename_i r j X i I off;split at u
    ·rename_i Z Y H M hg;cases z:!BT r TMP&&!BT r EPO&&BT I H.cells with
     |false=>simp[z]at u
     |true =>
      rw[z]at u;simp only[cond_true]at u;split at u
      ·split at u
       ·simp only[BA,B3]at u;exact⟨_,u.2.symm⟩
       ·cases u
      ·cases u
    ·cases u
   ·cases u
 |_=>simp[cm]at u
theorem wa (hV:ay V)(hT:TOk P T)(c1:bN V o){c:Call}(c6:o.op=.call c)(hc:c.callee=.builtin .append)(h:act Γ T o st κ=some r):bW P V o st κ r:=by
  simp only[act,wrU,c6,hc]at h;split at h
  · cases h
  · rename_i d hd
    split at h
    · rename_i x y t u a0 a6
      split at h
      · rename_i E e a4 ht
        cases ad:BT t u with
        |false=>simp[ad]at h
        |true =>
          simp only[ad,cond_true]at h;have ad:=BI ad;subst ad;have bx:=hT t;rw[ht]at bx;have a0:c.args=#[x,y]:=by rw[<- Bt (xs:=c.args),a0]
          have a6:c.argTypes=#[t,t]:=by rw[<- Bt (xs:=c.argTypes),a6]
          have bl:∀ (a:Act) (w w':World) (v:Value),(By #[t,t] o.type #[a.eval x,a.eval y]).run P w=.ok v w'->(execOp a.eval o).run P w=.ok (.value v) w':=by
            intro a w w' v Z;simp[execOp,c6,hc,resolve,invoke,builtin,a0,a6,Z]
          have bb:∀ (I:Upd) (E':TypeId) (e':Ty) (p:Bool) (xs:List e'.den) (ks:List (Nat×Nat)),E'=E->e'.sh=e.sh->dU st (ae I st) I d E' e' a4 p xs ks (one st y) κ=some r ->
              ∃ U,κ U=some r/\∀ (O:Wit) (a:Act) (w:World),aq P V O (ae I st) a w->aD P V O (ae I st) w [one st y] [a.eval y]->(∀ x∈ks,aC (ae I st) x)->Ow w (gd V O p) E' e' xs (a.eval x) (aX O ks)->mE P V o st U a w:=by
            intro I E' e' p xs ks hE he M;subst hE;unfold dU at M;split at M
            · rename_i t1 cu
              cases X:aY (t1.kill++ks)&&dD t1.frz (t1.kill++ks)&&decide ((xs.length+t1.val.length)*a4<=ao) with
              |false=>simp[X]at M
              |true =>
                simp only[X,cond_true]at M;simp only[BC,decide_eq_true_eq]at X;obtain⟨⟨cp,d2⟩,b9⟩:=X;refine⟨_,M,λO a w Z a1 cy c3 next Q hn=>?_⟩;obtain⟨⟨c0,cx,b4⟩,hf,d1⟩:=vZ Z a1 cu;have cb:∀ x∈t1.kill++ks,aC (ae I st) x:=λx hx=>(BL.1 hx).elim (d1 x) (cy x)
                obtain⟨h1,_,_,h4⟩:=fD hV Z d2 cb;have ba:=gO Z cp cb;rw[dI]at ba h4;have Y:∀ k∈aX O t1.kill++aX O ks,¬ cf V (O.frz (ae I st) t1.frz) _ k:=λk H=>mi ⟨(h4 k H).1,(h4 k H).2.1,(h4 k H).2.2.2.1,(h4 k H).2.2.2.2⟩
                rw[B7]at ba;obtain⟨c5,c4,b2⟩:=ba;have b5:∀ k,(a.eval x).ownBlock=some k->k∈aX O ks:=by
                  intro k H;obtain⟨_,d3,dc,_,b9,_⟩:=c3;rw[b9,H];simp
                have cc:∀ k,gd V (O.frz (ae I st) t1.frz) (p||t1.p) k->cf V (O.frz (ae I st) t1.frz) (ae (aN (ae (aF (ae I st) t1.frz) (ae I st)) (t1.kill++ks)++aF (ae I st) t1.frz) (ae I st)) k:=by
                  rintro k (H|⟨_,H⟩)
                  · exact .inl H
                  · exact .inr (.inl (hV.ro k H))
                have a9:∀ k∈(BO t1.val.length).flatMap c0,k∈aX O t1.kill:=λk H=>BK.1 (by have:=b4 k;have:=BK.2 H;omega)
                obtain⟨v',w',dd,bn,hg,c2,b6⟩:=vY (P:=P) (t:=t) (ty:=o.type) bx (ia he) c3 cx b9 (G':=gd V (O.frz (ae I st) t1.frz) (p||t1.p))
                  (bU (W':=O.frz (ae I st) t1.frz) (by intro h;simp[h]) (λ_ h=>Or.inl h))
                  (λk H=>bU (W':=O.frz (ae I st) t1.frz) (by intro h;simp[h]) (λ_ h=>h) k (kg hf k H))
                  (λk H=>⟨h1.used_lt k (cc k H),λe1=>Y k (BE _ (b5 k e1)) (cc k H)⟩)
                  (λj hj k H e1=>b2 k (a9 k (dV.2 ⟨j,hj,H⟩)) k (b5 k e1) rfl)
                have b3:=mY (bs:=aX O ks) (K:=(BO t1.val.length).flatMap c0++[w.heap.size]) c4
                  (br.2 λk=>by
                    rw[BF];have h5:=b4 k;have h6:=br.1 c5 k;by_cases H:k=w.heap.size
                    · subst H
                      have:(aX O t1.kill).count w.heap.size=0:=BZ.2 (λhm=>by have:=(h4 _ (BJ _ hm)).2.2.1;omega);simp;omega
                    · have:List.count k [w.heap.size]=0:=BZ.2 (by simp[H])
                      omega)
                  (λk H hm=>by
                    rcases BL.1 H with H|H
                    · exact b2 k (a9 k H) k hm rfl
                    · simp at H
                      subst H;have:=(h4 _ (BE _ hm)).2.2.1;omega) b6
                refine dW (bl a w w' v' bn) ?_;rw[hd];refine hn _ _ ?_;rw[cl,aP,bA];refine h1.putOwn hV hg.size hg.os hg.tape hg.output (λk H=>hg.block k (h1.used_lt k H) (λe1=>Y k (BE _ (b5 k e1.symm)) H)) d (c1 d hd).1 (c1 d hd).2 _ (BM _) ⟨b3.1,c2⟩ (λk H hu=>?_);rcases b3.2 k H with H|H
                · exact Y k (BE _ H) hu
                · rcases BL.1 H with H|H
                  · exact Y k (BJ _ (a9 k H)) hu
                  · simp at H
                    have:=h1.used_lt k hu;omega
            · cases M
          have a3:∀ (I:Upd) (x':Leaf),eq st I d E e a4 x' (one st y) κ=some r->one st y≠.dead:=by
            intro I x' h e1;rw[e1]at h;unfold eq at h;split at h
            · split at h
              · rename_i p E' e' b0 b1
                cases X:BT E' E&&decide (e'.sh=e.sh) with
                |false=>simp[X]at h
                |true =>
                  simp only[X,cond_true,dU,fN,aE,dh,Ck,ci,take]at h;cases e'.flat <;> cases decide (e'.sh=e') <;> simp at h
              · cases h
            · simp only[dU,fN,aE,dh,Ck,ci,take]at h
              cases e.flat <;> cases decide (e.sh=e) <;> simp at h
            · cases h
          simp only[iy]at h;cases hn:jj (one st x) with
          |true =>
            rw[hn]at h;simp only[cond_true]at h;rw[gZ]at h;obtain⟨⟨I,x'⟩,a5,h⟩:=Bu.1 h;have a3:=a3 _ _ h;simp only[eq]at h;split at h
            · rename_i r' j n
              split at h
              · rename_i p' E' e' b0 b1
                cases X:BT E' E&&decide (e'.sh=e.sh) with
                |false=>simp[X]at h
                |true =>
                  simp only[X,cond_true]at h;simp only[BC,decide_eq_true_eq]at X;obtain⟨U,hU,hg⟩:=bb I E' e' p' b0 [(r',j)] (BI X.1) X.2 h;refine⟨U,hU,λW a w Z=>?_⟩;obtain⟨a2,_,_,_,_⟩:=bq Z x (by intro e1;rw[e1]at hn;simp[jj]at hn);obtain⟨O,n0,p0,E0,e0,e2,g1,g2,g3,g4,_⟩:=uX hV Z a2 a5;obtain⟨a1,J,ab,_,_⟩:=bq Z y a3;obtain⟨h5,h6,h7,h8⟩:=ke g1 b1 g4;exact hg O a w g1 ⟨⟨a1.carry hV.ro g2 (λho=>absurd ho J),J,ab⟩,trivial⟩ (λz hz=>by simp at hz;subst hz;exact⟨_,h7,trivial⟩) (by simpa[aX]using h6)
              · cases h
            · exfalso
              obtain⟨n,cw⟩:=Aj a5;cases cw
            · cases h
          |false =>
            rw[hn]at h;simp only[cond_false]at h;have a3:=a3 _ _ h;simp only[eq]at h;split at h
            · rename_i r' j n hx
              split at h
              · rename_i p' E' e' b0 b1
                cases X:BT E' E&&decide (e'.sh=e.sh) with
                |false=>simp[X]at h
                |true =>
                  simp only[X,cond_true]at h;simp only[BC,decide_eq_true_eq]at X;obtain⟨U,hU,hg⟩:=bb [] E' e' p' b0 [(r',j)] (BI X.1) X.2 h;refine⟨U,hU,λW a w Z=>?_⟩;obtain⟨a2,_,_,_,_⟩:=bq Z x (by rw[hx];simp);rw[hx]at a2;obtain⟨a1,J,ab,_,_⟩:=bq Z y a3;obtain⟨h5,h6,h7,h8⟩:=ke Z b1 a2;exact hg W a w Z ⟨⟨a1,J,ab⟩,trivial⟩ (λz hz=>by simp at hz;subst hz;exact⟨_,h7,trivial⟩) (by simpa[aX]using h6)
              · cases h
            · rename_i hx
              obtain⟨U,hU,hg⟩:=bb [] E e false [] [] rfl rfl h;refine⟨U,hU,λW a w Z=>?_⟩;obtain⟨a2,_,_,_,_⟩:=bq Z x (by rw[hx];simp);rw[hx]at a2;obtain⟨a1,J,ab,_,_⟩:=bq Z y a3;exact hg W a w Z ⟨⟨a1,J,ab⟩,trivial⟩ (by simp) (by rw[show a.eval x=_ from a2];exact OwH.nil w _ E e)
            · cases h
      · cases h
    · cases h
end
def gP (w:World)(ro pr:Nat->Prop)(r:Bool)(a:Ty)(x:a.den)(v:Value):Prop :=
 if r=true then ∃ b u g o c,v=.pointer (some ⟨b,u,none⟩)/\pr b/\w.cell? ⟨b,u,none⟩=some (.pointer (some ⟨g,o,none⟩))/\pr g/\Rd w ro a x c/\cV w g o c
 else ∃ g o c,v=.pointer (some ⟨g,o,none⟩)/\pr g/\Rd w ro a x c/\cV w g o c
def jA (w:World)(ro pr:Nat->Prop):(cs:List (Bool×Ty))->lG cs->List Value->Prop
 |[],_,y=>y=[]
 |c::cs,x,y=>∃ u r,y=u::r/\gP w ro pr c.1 c.2 x.1 u/\jA w ro pr cs x.2 r
def nR (P:Program)(w:World)(ro pr:Nat->Prop):(pk:PK)->pk.den->Value->List Nat->Prop
 |.rd a,x,v,r=>r=[]/\∃ y,da a.isAgg v y/\Rd w ro a x y
 |.own a,x,v,r=>∃ y,da a.isAgg v y/\Mx w ro a none 0 x y r
 |.io a,x,v,r=>∃ y,da a.isAgg v y/\Mx w ro a none 0 x y r
 |.rref a,x,v,r=>r=[]/\gP w ro pr false a x v
 |.rref2 a,x,v,r=>r=[]/\gP w ro pr true a x v
 |.iop a,x,v,r=>∃ g c E z,v=.pointer (some ⟨g,0,none⟩)/\w.heap[g]?=some (.cells c.toArray E (0,0))/\Mx w ro a none 0 x c z/\r=g::z
 |.fn M B,O,v,r=>r=[]/\ib P w pr M B O v
 |.clo f y,x,v,r=>r=[]/\∃ J:List Value,v=.func (.func f) #[] J.toArray/\jA w ro pr y x J
 |.hol a c off,x,v,r=>∃ y u z H E e I,da a.isAgg v y/\Mx w ro a (some c) 0 x.1 y z/\y[c]?=some u/\bd c a 0 x.1=some ⟨E,e,I⟩/\OwB w ro (some (x.2,off)) E e I u H/\∀ k,r.count k=z.count k+H.count k
def c8 (P:Program)(w:World)(ro pr:Nat->Prop):(ps:List PK)->ac ps->List Value->List (List Nat)->Prop
 |[],_,z,u=>z=[]/\u=[]
 |p::ps,x,z,u=>∃ v y b r,z=v::y/\u=b::r/\nR P w ro pr p x.1 v b/\c8 P w ro pr ps x.2 y r
def jn (w:World)(G:Nat->Prop)(a:Ty)(x:a.den)(ptr:Bool)(v:Value)(bs:List Nat):Prop :=
 if ptr=true then ∃ g c E r,v=.pointer (some ⟨g,0,none⟩)/\w.heap[g]?=some (.cells c.toArray E (0,0))/\Mx w G a none 0 x c r/\bs=g::r
 else ∃ u,da a.isAgg v u/\Mx w G a none 0 x u bs
def bL (w:World)(G:Nat->Prop):(ps:List PK)->ai ps->List Value->List (List Nat)->Prop
 |.io a::ps,o,v::r,b::u=>jn w G a o.1 false v b/\bL w G ps o.2 r u
 |.iop a::ps,o,v::r,b::u=>jn w G a o.1 true v b/\bL w G ps o.2 r u
 |.rd _::ps,o,_::r,b::u=>b=[]/\bL w G ps o r u
 |.own _::ps,o,_::r,b::u=>b=[]/\bL w G ps o r u
 |.rref _::ps,o,_::r,b::u=>b=[]/\bL w G ps o r u
 |.rref2 _::ps,o,_::r,b::u=>b=[]/\bL w G ps o r u
 |.fn _ _::ps,o,_::r,b::u=>b=[]/\bL w G ps o r u
 |.clo _ _::ps,o,_::r,b::u=>b=[]/\bL w G ps o r u
 |.hol _ _ _::ps,o,_::r,b::u=>b=[]/\bL w G ps o r u
 |[],_,[],[]=>True
 |_,_,_,_=>False
def pY (w:World)(G ro:Nat->Prop):(r:RK)->r.den->Value->List Nat->Prop
 |.v a,y,v,z=>∃ u,da a.isAgg v u/\Mx w G a none 0 y u z
 |.bv a,y,v,z=>z=[]/\∃ u,da a.isAgg v u/\Rd w (λk=>G k\/ro k) a y u
 |.box a,y,v,z=>∃ g c E H,v=.pointer (some ⟨g,0,none⟩)/\w.heap[g]?=some (.cells c.toArray E (0,0))/\Mx w G a none 0 y c H/\z=g::H
def gy (w:World)(G ro:Nat->Prop):(M:List RK)->aj M->List Value->List (List Nat)->Prop
 |[],_,J,H=>J=[]/\H=[]
 |r::M,y,J,H=>∃ u I b z,J=u::I/\H=b::z/\pY w G ro r y.1 u b/\gy w G ro M y.2 I z
def sd:List Value->Value->Prop
 |[u],v=>v=u
 |r,v=>v=.tuple r.toArray
def pZ (w w':World)(r:List Nat)(k:Nat):Prop:=k<w'.heap.size/\(w.heap.size<=k\/k∈r)
def tt (c:Ctr)(w:World)(ro:Nat->Prop)(I:List Value)(r:List (List Nat))(y:aj c.rs×ai c.ps)(e:Ending)(w':World):Prop :=
 ∃ (v:Value) (H:List Value) (N:Nat->Prop) (z u:List (List Nat)),e=.returned v/\sd H v/\w.heap.size<=w'.heap.size/\w'.os=w.os/\w'.tape=w.tape/\w'.output=w.output /\
  (∀ k,k<w.heap.size->k∉r.flatten->w'.heap[k]?=w.heap[k]?)/\(∀ k,N k->pZ w w' r.flatten k) /\
  bL w' (λk=>N k\/(c.fresh=false/\ro k)) c.ps y.2 I z/\gy w' (λk=>N k\/(c.fresh=false/\ro k)) ro c.rs y.1 H u /\
  (z.flatten++u.flatten).Nodup/\∀ k∈z.flatten++u.flatten,pZ w w' r.flatten k/\¬ N k
def bP (P:Program)(c:Ctr):Prop :=
 fP P c.f/\∀ (w:World) (ro:Nat->Prop) (x:ac c.ps) (u:List Value) (r:List (List Nat)) (y:aj c.rs×ai c.ps),
  c8 P w ro (λk=>k<w.heap.size/\k∉r.flatten) c.ps x u r->(∀ k,ro k->k<w.heap.size/\k∉r.flatten)->r.flatten.Nodup->c.den x=some y ->
  Calls P c.f u.toArray w (tt c w ro u r y)
section
variable {P:Program} {V:Env} {Γ:List Ctr} {T:TypeId->TI} {st:St} {o:Oper} {R:Type} {κ:Upd->Option R} {r:R}
theorem ib.mono {w0:World}{S H:Nat->Prop}(M:∀ k,S k->H k){z:List Ty}{B:Ty}{I:Tup z->Option B.den}{v:Value}(h:ib P w0 S z B I v):ib P w0 H z B I v:=by
 obtain⟨f,u,e,Y,J⟩:=h;exact⟨f,u,e,Y,λw1 O X=>J w1 O (λk y=>X k (M k y))⟩
theorem ib.move {w0 w:World}{S I:Nat->Prop}(H:w0.heap.size<=w.heap.size)(M:∀ k,S k->I k/\w.heap[k]?=w0.heap[k]?){z:List Ty}{B:Ty}{J:Tup z->Option B.den}{v:Value}
  (h:ib P w0 S z B J v):ib P w I z B J v:=by
 obtain⟨f,y,e,Z,O⟩:=h;exact⟨f,y,e,Z,λw1 X Y=>O w1 (B8 H X) (λk u=>(Y k (M k u).1).trans (M k u).2)⟩
theorem gP.carry {w w1:World}{ro ro' pr H:Nat->Prop}(y:∀ k,ro k->ro' k/\w1.heap[k]?=w.heap[k]?)(u:∀ k,pr k->H k/\w1.heap[k]?=w.heap[k]?){J:Bool}{a:Ty}{x:a.den}{v:Value}(h:gP w ro pr J a x v):gP w1 ro' H J a x v:=by
 unfold gP at h ⊢;split at h
 ·rename_i Y;rw[if_pos Y];obtain⟨b,ob,g,o,c,O,I,X,M,Z,h8⟩:=h;exact⟨b,ob,g,o,c,O,(u b I).1,by rw[kx (u b I).2];exact X,(u g M).1,Z.carry (λk z=>(y k z).1) (λk z=>(y k z).2),h8.same (u g M).2⟩
 ·rename_i Y;rw[if_neg Y];obtain⟨g,o,c,O,I,X,M⟩:=h;exact⟨g,o,c,O,(u g I).1,X.carry (λk z=>(y k z).1) (λk z=>(y k z).2),M.same (u g I).2⟩
theorem jA.carry {w w1:World}{ro ro' pr y:Nat->Prop}(z:∀ k,ro k->ro' k/\w1.heap[k]?=w.heap[k]?)(H:∀ k,pr k->y k/\w1.heap[k]?=w.heap[k]?):∀ {cs:List (Bool×Ty)} {x:lG cs} {us:List Value},jA w ro pr cs x us->jA w1 ro' y cs x us
 |[],_,_,h=>h
 |_::_,_,_,⟨u,I,e,J,M⟩=>⟨u,I,e,J.carry z H,jA.carry z H M⟩
theorem nR.mono {w:World}{ro ro' pr O:Nat->Prop}(y:∀ k,ro k->ro' k)(J:∀ k,pr k->O k):∀ {pk:PK} {x:pk.den} {v:Value} {bs:List Nat},nR P w ro pr pk x v bs->nR P w ro' O pk x v bs
 |.rd _,_,_,_,⟨e,M,z,H⟩=>⟨e,M,z,H.mono y⟩
 |.own _,_,_,_,⟨M,z,H⟩=>⟨M,z,H.mono y⟩
 |.io _,_,_,_,⟨M,z,H⟩=>⟨M,z,H.mono y⟩
 |.rref _,_,_,_,⟨e,h⟩=>⟨e,h.carry (λk I=>⟨y k I,rfl⟩) (λk I=>⟨J k I,rfl⟩)⟩
 |.rref2 _,_,_,_,⟨e,h⟩=>⟨e,h.carry (λk I=>⟨y k I,rfl⟩) (λk I=>⟨J k I,rfl⟩)⟩
 |.iop _,_,_,_,⟨g,c,E,X,z,H,Y,Z⟩=>⟨g,c,E,X,z,H,Y.mono y,Z⟩
 |.fn _ _,_,_,_,⟨e,h⟩=>⟨e,ib.mono J h⟩
 |.clo _ _,_,_,_,⟨e,us,z,H⟩=>⟨e,us,z,H.carry (λk I=>⟨y k I,rfl⟩) (λk I=>⟨J k I,rfl⟩)⟩
 |.hol _ _ _,_,_,_,⟨M,u,X,b1,E,e,xs,z,H,Y,Z,h5,h6⟩=>⟨M,u,X,b1,E,e,xs,z,H.mono y,Y,Z,h5.carry y (λ_ _=>rfl) (λ_ _=>rfl),h6⟩
theorem c8.mono {w:World}{ro ro' pr u:Nat->Prop}(z:∀ k,ro k->ro' k)(H:∀ k,pr k->u k):∀ {ps:List PK} {x:ac ps} {M:List Value} {I:List (List Nat)},c8 P w ro pr ps x M I->c8 P w ro' u ps x M I
 |[],_,_,_,h=>h
 |_::_,_,_,_,⟨v,J,b,y,X,Y,O,Z⟩=>⟨v,J,b,y,X,Y,O.mono z H,c8.mono z H Z⟩
def jJ (V:Env)(W:Wit)(st:St)(ks:List (Nat×Nat))(u:List Nat)(k:Nat):Prop:=W.nw k\/V.prot k\/(∃ b∈u,live st b/\W.β b=k)\/∃ x∈ks,k∈W.bs x.1 x.2
theorem kK {W:Wit}{y H:List (Nat×Nat)}{I z:List Nat}(h:∀ x∈y,x∈H)(M:∀ b∈I,b∈z):∀ k,jJ V W st y I k->jJ V W st H z k:=by
 rintro k (u|u|⟨b,J,u⟩|⟨x,O,u⟩)
 ·exact .inl u
 ·exact .inr (.inl u)
 ·exact .inr (.inr (.inl ⟨b,M b J,u⟩))
 ·exact .inr (.inr (.inr ⟨x,h x O,u⟩))
theorem iV {W:Wit}{p q:Bool}{y z:List (Nat×Nat)}(H:p=true->q=true)(h:∀ x∈y,x∈z):∀ k,bj V W p y k->bj V W q z k:=by
 rintro k (u|⟨x,I,u⟩)
 ·exact .inl (bU (W':=W) H (λ_ h=>h) k u)
 ·exact .inr ⟨x,h x I,u⟩
theorem gz {agg:Bool}{v:Value}{cs:List Value}(h:ee (bg agg) v cs):da agg v cs:=by
 cases agg <;> exact h
theorem m9 {W:Wit}{a:Act}{w:World}(h:aq P V W st a w){l:Leaf}{ls:List Leaf}{v:Value}(hl:aJ P V W st w [] l v)(y:target st l=some ls)(ks:List (Nat×Nat))(M:List Nat)(O:∀ b∈fb [l],b∈M) :
  ∃ g o cs,v=.pointer (some ⟨g,o,none⟩)/\jJ V W st ks M g/\aD P V W st w ls cs/\cV w g o cs:=by
 unfold target at y;split at y
 ·rename_i b;cases Z:decide ((st b).sh=.agg) with
  |false=>simp[Z]at y
  |true =>
   simp only[Z,cond_true,BA]at y;subst y;obtain⟨hB,J,z⟩:=hl;rcases h.boxes b hB with ⟨X,_⟩|⟨_,E,X⟩
   ·rw[J]at X;cases X
   ·exact⟨W.β b,0,W.cs b,z,.inr (.inr (.inl ⟨b,O b (by simp[fb]),⟨hB,J⟩,rfl⟩)),iA h b,λi v z=>by
     rw[CH,cell_of_row w (W.β b) i _ E (0,0) X];simpa using z⟩
 ·rename_i p a x;simp only[BA]at y;subst y;obtain⟨g,Y,c,z,hg,H,hc⟩:=hl;rw[B6]at z;exact⟨g,Y,c,z,hg.elim .inl (λh=>.inr (.inl h)),eT (λ_ h=>h) H,hc⟩
 ·rename_i p a x;simp only[BA]at y;subst y;obtain⟨b,ob,g,Y,c,z,Z,I,hg,H,hc⟩:=hl;refine⟨b,ob,[.pointer (some ⟨g,Y,none⟩)],z,Z.elim .inl (λh=>.inr (.inl h)),⟨⟨⟨g,Y,c,rfl,hg,H,hc⟩,id,rfl⟩,trivial⟩,λi u hi=>?_⟩;cases i with
  |zero=>simp at hi;subst hi;exact I
  |succ i=>simp at hi
 ·cases y
theorem gQ {W:Wit}{w:World}{x:aH×List Leaf}{l:Leaf}{v:Value}{cs:List Value}(y:ee x.1 v cs)(z:aD P V W st w x.2 cs)(u:cn x=l)(H:l≠.dead) :
  aJ P V W st w [] l v/\v.oneCell'=true:=by
 unfold cn at u;split at u
 ·rename_i I;subst u;have y:cs=[v]:=y;subst y;exact⟨z.1.1,z.1.2.2⟩
 ·exact absurd u.symm H
theorem na {W:Wit}{a:Act}{w:World}(h:aq P V W st a w){c:Bool×Ty}{l:Leaf}{v:Value}(hl:aJ P V W st w [] l v){g:Got c.2.den}(H:fe st c l=some g) :
  gP w (bj V W g.p g.frz) (jJ V W st g.frz g.see) c.1 c.2 g.val v/\(∀ z∈g.frz,aC st z)/\g.kill=[]/\g.lend=[]:=by
 unfold fe at H;cases hc:c.1 with
 |true =>
  rw[hc]at H;simp only[cond_true]at H;split at H
  ·rename_i l' ht;split at H
   ·rename_i Z a1;simp only[BB]at H;obtain⟨⟨p,y⟩,hy,rfl⟩:=H;obtain⟨g,o',cs,hv,X,I,Y⟩:=m9 h hl ht (bu st Z) (fb [l,l']) (λb O=>by
     cases l <;> simp[fb]at O ⊢ <;> exact .inl O)
    match cs,I with
    |[u],I =>
     obtain⟨g2,o2,a3,a0,a2,M,a4⟩:=m9 h I.1.1 a1 (bu st Z) (fb [l,l']) (λb O=>by
      cases l <;> cases l' <;> simp[fb]at O ⊢ <;> first|exact O|exact .inr O)
     have J:=Y 0 u rfl;rw[B6,a0]at J;refine⟨?_,λz hz=>ek M hz,rfl,rfl⟩;unfold gP;rw[if_pos rfl];exact⟨g,o',g2,o2,a3,hv,X,J,a2,ez h M hy,a4⟩
   ·cases H
  ·cases H
 |false =>
  rw[hc]at H;simp only[cond_false]at H;split at H
  ·rename_i Z ht;simp only[BB]at H;obtain⟨⟨p,y⟩,hy,rfl⟩:=H;obtain⟨g,o',cs,hv,X,I,Y⟩:=m9 h hl ht (bu st Z) (fb [l]) (λb O=>O);refine⟨?_,λz hz=>ek I hz,rfl,rfl⟩;unfold gP;rw[if_neg (by simp)];exact⟨g,o',cs,hv,X,ez h I hy,Y⟩
  ·cases H
theorem ml {W:Wit}{a:Act}{w:World}(h:aq P V W st a w):∀ {cs:List (Bool×Ty)} {ls:List Leaf} {us:List Value} {g:Got (lG cs)},aD P V W st w ls us->cB st cs ls=some g ->
  jA w (bj V W g.p g.frz) (jJ V W st g.frz g.see) cs g.val us/\(∀ z∈g.frz,aC st z)/\g.kill=[]/\g.lend=[]
 |[],[],us,g,J,y=>by
  simp only[cB,BA]at y;subst y;cases us with
  |nil=>exact⟨rfl,by simp,rfl,rfl⟩
  |cons=>exact J.elim
 |[],_::_,_,_,_,y=>by simp[cB]at y
 |_::_,[],_,_,_,y=>by simp[cB]at y
 |c::cs,l::ls,us,g,J,y=>by
  cases us with
  |nil=>exact J.elim
  |cons u us =>
   simp only[cB]at y;split at y
   ·rename_i g1 M;split at y
    ·rename_i g2 O;simp only[BA]at y;subst y;obtain⟨X,Z,h3,h4⟩:=na h J.1.1 M;obtain⟨h5,Y,h7,h8⟩:=ml h J.2 O;refine⟨⟨u,us,rfl,X.carry (λk I=>⟨iV (by intro h;simp[h]) (λx H=>BJ _ H) k I,rfl⟩) (λk I=>⟨kK (λx H=>BJ _ H) (λx H=>BJ _ H) k I,rfl⟩),
      h5.carry (λk I=>⟨iV (by intro h;simp[h]) (λx H=>BE _ H) k I,rfl⟩) (λk I=>⟨kK (λx H=>BE _ H) (λx H=>BE _ H) k I,rfl⟩)⟩,?_,rfl,rfl⟩
     intro z hz;exact (BL.1 hz).elim (Z z) (Y z)
    ·cases y
   ·cases y
theorem wb {W:Wit}{w:World}{c:Bool×Bool×(a:Ty)×a.den}{v:Value}(h:iM V W w c v):aJ P V W st w [] (eM c) v/\¬ ap (eM c)/\v.oneCell'=true:=by
 unfold iM at h;unfold eM;split at h
 ·rename_i u;rw[u];refine⟨h,id,?_⟩;obtain⟨b,I,g,z,H,y,_⟩:=h;rw[y];rfl
 ·rename_i u;have u:c.2.1=false:=by simpa using u
  rw[u];refine⟨h,id,?_⟩;obtain⟨g,z,H,y,_⟩:=h;rw[y];rfl
theorem qE {W:Wit}{w:World}{caps:List (Bool×Bool×(a:Ty)×a.den)}{us:List Value}(I:us.length=caps.length)(h:∀ (i:Nat) (c:Bool×Bool×(a:Ty)×a.den) (u:Value),caps[i]?=some c->us[i]?=some u->iM V W w c u) :
  aD P V W st w (caps.map eM) us :=
 aD.mk (by simp[I]) λj l v y H=>by
  rw[List.getElem?_map,BB]at y;obtain⟨c,z,rfl⟩:=y;exact wb (h j c v z H)
theorem p6 {W:Wit}{w:World}:∀ (caps:List Nat),(∀ b∈caps,B0<=b/\(st b).sh=.agg)->aD P V W st w (caps.map λb=>Leaf.bp b 0) (caps.map λb=>Value.pointer (some ⟨W.β b,0,none⟩))
 |[],_=>trivial
 |b::caps,h=>⟨⟨⟨(h b (BW ..)).1,(h b (BW ..)).2,rfl⟩,id,rfl⟩,p6 caps (λq u=>h q (BP _ u))⟩
theorem nc {off:Nat}{E:TypeId}{e:Ty}{X:List e.den}:∀ {a:Ty} {pos:Nat} {x z:a.den},bM off E e X a pos x=some z->(∃ y,bd off a pos x=some ⟨E,e,y⟩)/\bd off a pos z=some ⟨E,e,X⟩
 |.pair a b,pos,x,z,h=>by
  simp only[bM]at h;split at h
  ·rename_i u I;simp only[BA]at h;subst h;obtain⟨⟨y,M⟩,O⟩:=nc I;exact⟨⟨y,by simp only[bd,M]⟩,by simp only[bd,O]⟩
  ·rename_i hn;simp only[BB]at h;obtain⟨u,I,rfl⟩:=h;have Y:=Mx.back.set_in I;obtain⟨⟨y,M⟩,O⟩:=nc I;have H:bd off a pos x.1=none:=by
    cases hg:bd off a pos x.1 with
    |none=>rfl
    |some u=>have:=gx hg;omega
   exact⟨⟨y,by simp only[bd,H,M]⟩,by simp only[bd,H,O]⟩
 |.list m E' e',pos,Z,z,h=>by
  simp only[bM]at h;cases J:m&&BT pos off with
  |false=>simp[J]at h
  |true =>
   rw[J]at h;simp only[cond_true]at h;obtain⟨rfl,rfl,rfl⟩:=jE h;exact⟨⟨Z,by simp[bd,J]⟩,by simp[bd,J]⟩
 |.int _,_,_,_,h=>by simp[bM]at h
 |.bool,_,_,_,h=>by simp[bM]at h
 |.str,_,_,_,h=>by simp[bM]at h
 |.unit,_,_,_,h=>by simp[bM]at h
 |.hdr,_,_,_,h=>by simp[bM]at h
theorem Mx.refill {w:World}{G:Nat->Prop}{off:Nat}{E:TypeId}{e:Ty}{ys:List e.den}{u:Value}(Y:u.oneCell'=true):∀ {a:Ty} {pos:Nat} {x z:a.den} {cs:List Value} {bs:List Nat},Mx w G a (some off) pos x cs bs->bM off E e ys a pos x=some z ->
  Mx w G a (some off) pos z (cs.set (off-pos) u) bs
 |.pair a b,pos,x,z,cs,bs,⟨c1,c2,b1,b2,Z,e2,M,O⟩,h=>by
  have hl:=M.len;simp only[bM]at h;split at h
  ·rename_i y J;simp only[BA]at h;subst h;have X:=Mx.back.set_in J;refine⟨c1.set (off-pos) u,c2,b1,b2,?_,e2,Mx.refill Y M J,O⟩;rw[Z,List.set_append_left _ _ (by omega)]
  ·simp only[BB]at h;obtain⟨y,J,rfl⟩:=h;have X:=Mx.back.set_in J;refine⟨c1,c2.set (off-(pos+a.cells)) u,b1,b2,?_,e2,M,Mx.refill Y O J⟩;rw[Z,List.set_append_right _ _ (by omega),hl,show off-pos-a.cells=off-(pos+a.cells) by omega]
 |.list m E' e',pos,xs,z,cs,bs,H,h=>by
  simp only[bM]at h;cases I:m&&BT pos off with
  |false=>simp[I]at h
  |true =>
   simp only[BC]at I;obtain⟨rfl,I⟩:=I;have I:=BI I;subst I;rw[iZ]at H ⊢;obtain⟨v,rfl,M,O⟩:=H;exact⟨u,by simp,Y,O⟩
 |.int _,_,_,_,_,_,_,h=>by simp[bM]at h
 |.bool,_,_,_,_,_,_,h=>by simp[bM]at h
 |.str,_,_,_,_,_,_,h=>by simp[bM]at h
 |.unit,_,_,_,_,_,_,h=>by simp[bM]at h
 |.hdr,_,_,_,_,_,_,h=>by simp[bM]at h
theorem aD.setNil {W:Wit}{w:World}{ls:List Leaf}{cs:List Value}(I:aD P V W st w ls cs)(c:Nat):aD P V W st w (aT ls c .nil) (cs.set c (.slice none 0 0)):=by
 have y:=I.length;refine aD.mk (by simp[aT,y]) λj l v H u=>?_
 rcases aR _ _ _ _ _ H with ⟨rfl,rfl,J⟩|⟨z,H⟩
 ·rw[CN (by omega)]at u;simp only[BA]at u;subst u;exact⟨rfl,id,rfl⟩
 ·rw[CF (CG z)]at u;exact I.at_ j l v H u
def wc (P:Program)(V:Env)(W:Wit)(st:St)(w:World)(pk:PK)(v:Value)(g:Got pk.den):Prop :=
 (∃ u,nR P w (bj V W g.p g.frz) (jJ V W st g.frz g.see) pk g.val v u/\u=g.lend.map W.β++aX W g.kill)/\(∀ z∈g.frz,aC st z)/\(∀ z∈g.kill,aC st z)/\(∀ b∈g.lend,live st b)
theorem nd (hV:ay V){W:Wit}{a:Act}{w:World}(h:aq P V W st a w){pk:PK}{x:aH×List Leaf}{v:Value}{cs:List Value}(hs:ee x.1 v cs)(hl:aD P V W st w x.2 cs)
  {g:Got pk.den} (u:bf st pk x=some g):wc P V W st w pk v g:=by
 obtain⟨sh,ls⟩:=x;have Y:∀ {b:Ty} {g:Got b.den},(bif decide (sh=bg b.isAgg) then (ci st b ls).map (λt=>(⟨t.p,t.val,t.frz,t.kill,[],[]⟩:Got b.den)) else none)=some g ->
   (∃ cs,da b.isAgg v cs/\Mx w (bj V W g.p g.frz) b none 0 g.val cs (aX W g.kill))/\g.lend=[]/\g.see=[]/\(∀ z∈g.frz,aC st z)/\(∀ z∈g.kill,aC st z):=by
  intro b g hq;cases I:decide (sh=bg b.isAgg) with
  |false=>simp[I]at hq
  |true =>
   rw[I]at hq;simp only[cond_true,BB]at hq;have X:=of_decide_eq_true I;subst X;obtain⟨t,ht,rfl⟩:=hq;obtain⟨M,J,O⟩:=dO (pos:=0) h hl ht;exact⟨⟨cs,gz hs,M⟩,rfl,rfl,J,O⟩
 cases pk with
 |rd b =>
  simp only[bf]at u;cases I:decide (sh=bg b.isAgg) with
  |false=>simp[I]at u
  |true =>
   rw[I]at u;simp only[cond_true,BB]at u;have X:=of_decide_eq_true I;subst X;obtain⟨⟨p,y⟩,hy,rfl⟩:=u;exact⟨⟨[],⟨rfl,cs,gz hs,ez h hl hy⟩,rfl⟩,λz hz=>ek hl hz,by simp[Got.ofRd],by simp[Got.ofRd]⟩
 |own b =>
  obtain⟨M,J,O,Z,h5⟩:=Y u;exact⟨⟨_,M,by rw[J];rfl⟩,Z,h5,by rw[J];simp⟩
 |io b =>
  obtain⟨M,J,O,Z,h5⟩:=Y u;exact⟨⟨_,M,by rw[J];rfl⟩,Z,h5,by rw[J];simp⟩
 |iop b =>
  simp only[bf]at u;split at u
  ·rename_i q hx;cases I:decide ((st q).sh=.agg) with
   |false=>simp[I]at u
   |true =>
    simp only[I,cond_true,BB]at u;obtain⟨t,ht,rfl⟩:=u;obtain⟨H,hv⟩:=gQ hs hl hx (by simp);obtain⟨hB,a3,ad⟩:=H;rcases h.boxes q hB with ⟨h8,_⟩|⟨_,E,h8⟩
    ·rw[a3]at h8;cases h8
    ·obtain⟨M,J,O⟩:=dO (pos:=0) h (iA h q) ht;exact⟨⟨_,⟨W.β q,W.cs q,E,_,ad,h8,M,rfl⟩,rfl⟩,J,O,λb' X=>by simp at X;subst X;exact⟨hB,a3⟩⟩
  ·cases u
 |rref b =>
  simp only[bf]at u;have hd:cn (sh,ls)≠.dead:=by
   intro e;rw[e]at u;simp[fe,target]at u
  obtain⟨H,hv⟩:=gQ hs hl rfl hd;obtain⟨M,J,O,Z⟩:=na (c:=(false,b)) h H u;exact⟨⟨[],⟨rfl,M⟩,by rw[O,Z];rfl⟩,J,by rw[O];simp,by rw[Z];simp⟩
 |rref2 b =>
  simp only[bf]at u;have hd:cn (sh,ls)≠.dead:=by
   intro e;rw[e]at u;simp[fe,target]at u
  obtain⟨H,hv⟩:=gQ hs hl rfl hd;obtain⟨M,J,O,Z⟩:=na (c:=(true,b)) h H u;exact⟨⟨[],⟨rfl,M⟩,by rw[O,Z];rfl⟩,J,by rw[O];simp,by rw[Z];simp⟩
 |fn As B =>
  simp only[bf]at u;split at u
  ·rename_i As' B' φ hx;obtain⟨H,hv⟩:=gQ hs hl hx (by simp);split at u
   ·rename_i hh;obtain⟨rfl,rfl⟩:=hh;simp only[BA]at u;subst u;have hf:ib P V.w0 V.prot As' B' φ v:=H;exact⟨⟨[],⟨rfl,ib.move h.size (λk hk=>⟨.inr (.inl hk),h.keep k hk⟩) hf⟩,rfl⟩,by simp,by simp,by simp⟩
   ·cases u
  ·cases u
 |clo f ba =>
  simp only[bf]at u;split at u
  ·rename_i f' a2 hx;cases I:BT f' f with
   |false=>simp[I]at u
   |true =>
    simp only[I,cond_true]at u;have I:=BI I;subst I;obtain⟨H,hv⟩:=gQ hs hl hx (by simp);obtain⟨M,J⟩:=H;obtain⟨O,Z,h5,h6⟩:=ml h (p6 a2 J) u;exact⟨⟨[],⟨rfl,_,M,O⟩,by rw[h5,h6];rfl⟩,Z,by rw[h5];simp,by rw[h6];simp⟩
  ·rename_i f' a2 hx;cases I:BT f' f with
   |false=>simp[I]at u
   |true =>
    simp only[I,cond_true]at u;have I:=BI I;subst I;obtain⟨H,hv⟩:=gQ hs hl hx (by simp);obtain⟨us,M,J,h7⟩:=H;obtain⟨O,Z,h5,h6⟩:=ml h (qE J h7) u;exact⟨⟨[],⟨rfl,us,M,O⟩,by rw[h5,h6];rfl⟩,Z,by rw[h5];simp,by rw[h6];simp⟩
  ·cases u
 |hol b c off =>
  simp only[bf]at u;cases I:decide (sh=bg b.isAgg) with
  |false=>simp[I]at u
  |true =>
   rw[I]at u;simp only[cond_true]at u;have X:=of_decide_eq_true I;subst X;split at u
   ·rename_i r' j n a0;split at u
    ·rename_i p i o' E e xs hd;cases a1:BT o' off with
     |false=>simp[a1]at u
     |true =>
      rw[a1]at u;simp only[cond_true]at u;have a1:=BI a1;subst a1;split at u
      ·rename_i t ht;split at u
       ·rename_i y hy;simp only[BA]at u;subst u;have a5:ls[c]?=some (.al r' j n):=by
         rw[B5]at a0;cases hq:ls[c]? with
         |none=>rw[hq]at a0;simp at a0
         |some l0=>rw[hq]at a0;simp at a0;rw[a0]
        have a9:c<cs.length:=by rw[<- hl.length];exact (BD.1 a5).1
        have a6:=BS a9;obtain⟨H,_,a4⟩:=hl.at_ c _ _ a5 a6;obtain⟨_,b3,b2,_⟩:=ke h hd H;obtain⟨M,J,O⟩:=dO (pos:=0) h (hl.setNil c) ht;obtain⟨⟨bb,b4⟩,b1⟩:=nc hy;obtain⟨v0,bn,b0,g1,g2,g3,g4⟩:=M.out b4;have ab:bn=[]:=by
         simp only[Ch,CN a9,BA]at g2;obtain⟨b5,b6,q1,q2,_⟩:=g1;obtain⟨A,b9,q4,_⟩:=q1.slice;rw[<- g2]at q2 q4;simp only[Bw]at q4;rw[q2,<- q4.2.1];rfl
        have g5:=Mx.refill a4 g3 hy;simp only[Ch,List.set_set,List.set_getElem_self]at g5;refine⟨⟨_,⟨cs,cs[c],b0,W.bs r' j,E,e,xs,gz hs,g5.mono (iV (by intro h;simp[h]) (λ_ h=>h)),a6,b1,
         b3.2.carry (λk hk=>.inl (bU (W':=W) (by intro h;simp[h]) (λ_ h=>h) k hk)) (λ_ _=>rfl) (λ_ _=>rfl),λk=>?_⟩,rfl⟩,J,?_,by simp⟩
        ·have:=g4 k;rw[ab]at this;simp only[Cz,DN];rw[show aX W ((r',j)::t.kill)=W.bs r' j++aX W t.kill from rfl,BF,this];simp;omega
        ·intro z hz;rcases CI.1 hz with rfl|hz
         ·exact⟨_,b2,trivial⟩
         ·exact O z hz
       ·cases u
      ·cases u
    ·cases u
   ·cases u
end
section
variable {P:Program} {V:Env} {Γ:List Ctr} {T:TypeId->TI} {st:St} {o:Oper} {R:Type} {κ:Upd->Option R} {r:R}
def gS (P:Program)(V:Env)(W:Wit)(st:St)(w:World):List (aH×List Leaf)->List Value->Prop
 |[],y=>y=[]
 |x::H,y=>∃ v u z,y=v::u/\ee x.1 v z/\aD P V W st w x.2 z/\gS P V W st w H u
theorem kq {W:Wit}{w:World}{ga:(pk:PK)->aH×List Leaf->Option (Got pk.den)}
  (H:∀ (pk:PK) (x:aH×List Leaf) (v:Value) (cs:List Value) (g:Got pk.den),ee x.1 v cs->aD P V W st w x.2 cs->ga pk x=some g->wc P V W st w pk v g) :
  ∀ (ps:List PK) (xs:List (aH×List Leaf)) (X:List Value) (g:Got (ac ps)),gS P V W st w xs X->a8 ga ps xs=some g ->
   (∃ I,c8 P w (bj V W g.p g.frz) (jJ V W st g.frz g.see) ps g.val X I/\∀ k,I.flatten.count k=(g.lend.map W.β).count k+(aX W g.kill).count k) /\
    (∀ z∈g.frz,aC st z)/\(∀ z∈g.kill,aC st z)/\(∀ b∈g.lend,live st b)
 |[],[],X,g,u,y=>by
  simp only[a8,BA]at y;subst y;exact⟨⟨[],⟨u,rfl⟩,λk=>by simp[aX]⟩,by simp,by simp,by simp⟩
 |[],_::_,_,_,_,y=>by simp[a8]at y
 |_::_,[],_,_,_,y=>by simp[a8]at y
 |p::ps,x::xs,X,g,u,y=>by
  obtain⟨v,M,cs,rfl,hs,hl,J⟩:=u;simp only[a8]at y;split at y
  ·rename_i g1 Y;split at y
   ·rename_i g2 Z;simp only[BA]at y;subst y;obtain⟨⟨b,h1,h2⟩,h3,h4,h5⟩:=H p x v cs g1 hs hl Y;obtain⟨⟨I,h6,h7⟩,h8,h9,a0⟩:=kq H ps xs M g2 J Z;refine⟨⟨b::I,⟨v,M,b,I,rfl,rfl,h1.mono (iV (by intro h;simp[h]) (λx u=>BJ _ u)) (kK (λx u=>BJ _ u) (λx u=>BJ _ u)),
     h6.mono (iV (by intro h;simp[h]) (λx u=>BE _ u)) (kK (λx u=>BE _ u) (λx u=>BE _ u))⟩,λk=>?_⟩,?_,?_,?_⟩
    ·rw[BX,BF,h7 k,h2,BF,DJ,BF,dI,BF];omega
    ·intro z O;exact (BL.1 O).elim (h3 z) (h8 z)
    ·intro z O;exact (BL.1 O).elim (h4 z) (h9 z)
    ·intro z O;exact (BL.1 O).elim (h5 z) (a0 z)
   ·cases y
  ·cases y
theorem ne:∀ {Γ:List Ctr} {f:FuncId} {c:Ctr},lH Γ f=some c->c∈Γ/\c.f=f
 |[],_,_,h=>by simp[lH]at h
 |z::Γ,f,c,h=>by
  simp only[lH]at h;cases u:BT z.f f with
  |true =>
   simp only[u,cond_true,BA]at h;subst h;exact⟨BW ..,BI u⟩
  |false =>
   simp only[u,cond_false]at h;obtain⟨y,H⟩:=ne h;exact⟨BP _ y,H⟩
theorem tu {w:World}{G pr:Nat->Prop}{q:List PK}{z:ac q}{cv:List Value}{I:List (List Nat)}(J:c8 P w G pr q z cv I):∀ (y:List Ty) (x:Tup y) (u:List Value),rY w G y x u ->
  c8 P w G pr (y.map .rd++q) (nD q z y x) (u++cv) (y.map (λ_=>[])++I)
 |[],_,_,h=>by rw[show _=_ from h];exact J
 |a::y,x,_,⟨v,c,H,rfl,M,X,O⟩=>⟨v,H++cv,[],_,rfl,rfl,⟨rfl,c,M,X⟩,tu J y x.2 H O⟩
theorem p7 {w:World}{ro pr:Nat->Prop}:∀ {ps:List PK} {x:ac ps} {z:List Value} {u:List (List Nat)},ps.all PK.reads=true->c8 P w ro pr ps x z u->u.flatten=[]
 |[],_,_,_,_,⟨_,e⟩=>by rw[e];rfl
 |p::ps,_,_,_,h,⟨v,I,b,y,_,e,H,J⟩=>by
  simp only[Cw,BC]at h;rw[e,BX,p7 h.2 J,Bq];cases p <;> first|exact H.1|simp[PK.reads]at h
theorem p8 {w w1:World}{ro pr ro' H:Nat->Prop}(u:∀ k,ro k->ro' k/\w1.heap[k]?=w.heap[k]?)(y:∀ k,pr k->H k/\w1.heap[k]?=w.heap[k]?):∀ {ps:List PK} {x:ac ps} {Y:List Value} {J:List (List Nat)},
  ps.all PK.reads=true->c8 P w ro pr ps x Y J->c8 P w1 ro' H ps x Y J
 |[],_,_,_,_,h=>h
 |p::ps,x,_,_,O,⟨v,M,b,I,e,e2,z,h2⟩=>by
  simp only[Cw,BC]at O;refine⟨v,M,b,I,e,e2,?_,p8 u y O.2 h2⟩;cases p with
  |rd a =>
   obtain⟨Z,cs,h3,h4⟩:=z;exact⟨Z,cs,h3,h4.carry (λk X=>(u k X).1) (λk X=>(u k X).2)⟩
  |rref a=>exact⟨z.1,z.2.carry u y⟩
  |rref2 a=>exact⟨z.1,z.2.carry u y⟩
  |_=>simp[PK.reads]at O
theorem mm (z:ay V){W:Wit}{p:Bool}{ks:List (Nat×Nat)}{y:List Nat}:∀ k,bj V W p ks k->jJ V W st ks y k:=by
 rintro k ((u|⟨_,u⟩)|u)
 ·exact .inl u
 ·exact .inr (.inl (z.ro k u))
 ·exact .inr (.inr (.inr u))
theorem rr {W:Wit}{ks:List (Nat×Nat)}{H:List Nat}(y:∀ z∈ks,aC st z):∀ k,jJ V W st ks H k->cf V W st k:=by
 rintro k (u|u|⟨b,_,I,e⟩|⟨x,J,u⟩)
 ·exact .inl u
 ·exact .inr (.inl u)
 ·exact .inr (.inr (.inl ⟨b,I,e⟩))
 ·obtain⟨l,M,O⟩:=y x J;exact .inr (.inr (.inr ⟨x.1,x.2,l,M,O,u⟩))
theorem se {W:Wit}{w:World}:∀ {ls:List Leaf} {us:List Value},aD P V W st w ls us->gS P V W st w (ls.map λl=>(aH.one,[l])) us
 |[],[],_=>rfl
 |_::_,_::_,h=>⟨_,_,[_],rfl,rfl,⟨h.1,trivial⟩,se h.2⟩
theorem xM (hV:ay V)(hΓ:∀ c∈Γ,bP P c){W:Wit}{a:Act}{w:World}(h:aq P V W st a w){O:List Ty}{B:Ty}{f:FuncId}{ls:List Leaf}{us:List Value}{v:Value}(hv:v=.func (.func f) #[] us.toArray)(b5:aD P V W st w ls us)
  {g:Got (Tup O->Option B.den)} (H:ku Γ st O B f ls=some g):ib P w (jJ V W st g.frz g.see) O B g.val v/\(∀ z∈g.frz,aC st z)/\g.kill=[]/\g.lend=[]:=by
 unfold ku at H;split at H
 ·rename_i c hc;obtain⟨a9,rfl⟩:=ne hc;obtain⟨a1,I⟩:=hΓ c a9;obtain⟨f',ps,rs,a5,c3⟩:=c;simp only at H a1 I hv;generalize ps.drop O.length=q at H;unfold rV at H;split at H
  ·rename_i hh;obtain⟨rfl,rfl⟩:=hh;cases hb:q.all PK.reads&&B.flat&&a5 with
   |false=>simp[hb]at H
   |true =>
    simp only[hb,cond_true]at H;simp only[BC]at hb;obtain⟨⟨ab,ba⟩,bb⟩:=hb;subst bb;split at H
    ·rename_i g0 c0;simp only[BA]at H;subst H;obtain⟨⟨a3,h1,h2⟩,h3,h4,h5⟩:=kq (λpk x v cs g hs hl H=>nd hV h hs hl H) q _ _ g0 (se b5) c0;have b6:=p7 ab h1;refine⟨⟨f',us.toArray,hv,a1,λw1 b9 Z x J y hx hy=>?_⟩,h3,rfl,rfl⟩;simp only[BB]at hy;obtain⟨y0,b1,rfl⟩:=hy;have M:(O.map (λ_=>([]:List Nat))++a3).flatten=[]:=by
      rw[List.flatten_append,b6,Bq];clear hx b1;induction O with
      |nil=>rfl
      |cons a O ih=>simp
     have b0:∀ k,jJ V W st g0.frz g0.see k->k<w1.heap.size:=λk X=>CA (h.used_lt k (rr h3 k X)) b9
     have a2:=tu (P:=P) (pr:=λk=>k<w1.heap.size/\k∉(O.map (λ_=>([]:List Nat))++a3).flatten)
      (p8 (P:=P) (w1:=w1) (ro':=λk=>k<w1.heap.size) (λk X=>⟨b0 k (mm hV k X),Z k (mm hV k X)⟩)
       (λk X=>⟨⟨b0 k X,by rw[M];simp⟩,Z k X⟩) ab h1) O x J hx
     have a0:=I w1 (λk=>k<w1.heap.size) (nD q g0.val O x) (J++us) (O.map (λ_=>[])++a3) y0 a2
      (λk X=>⟨X,by rw[M];simp⟩) (by rw[M];exact DO) b1
     have a4:J.toArray++us.toArray=(J++us).toArray:=by simp
     rw[a4];refine a0.mono λe w2 a6=>?_
     obtain⟨u,c2,N,c5,c6,rfl,Y,ad,b3,b4,bl,bn,_,_,b2,_,_⟩:=a6;obtain⟨u1,c4,b,c1,e1,e2,⟨cs,bx,hm⟩,e3,e4⟩:=b2;subst e3;subst e1;have Y:u=u1:=Y;subst Y;exact⟨u,cs,rfl,bx,jW ba hm,⟨b3,b4,bl,ad,λk X=>bn k X (by rw[M];simp)⟩⟩
    ·cases H
  ·cases H
 ·cases H
theorem uw (Y:ay V)(hΓ:∀ c∈Γ,bP P c){W:Wit}{a:Act}{w:World}(h:aq P V W st a w)(pk:PK)(x:aH×List Leaf)(v:Value)(cs:List Value)(g:Got pk.den)(Z:ee x.1 v cs)(X:aD P V W st w x.2 cs)
  (H:ce Γ st pk x=some g):wc P V W st w pk v g:=by
 cases pk with
 |fn As B =>
  simp only[ce]at H;split at H
  ·rename_i O z;have J:(∃ u,cn x=.clo O.1 u/\O.2=u.map λb=>Leaf.bp b 0)\/∃ u,cn x=.clr O.1 u/\O.2=u.map eM:=by
    generalize cn x=l at z;cases l <;> simp only[vk,BA,reduceCtorEq]at z
    ·subst z;exact .inl ⟨_,rfl,rfl⟩
    ·subst z;exact .inr ⟨_,rfl,rfl⟩
   rcases J with ⟨u,J,he⟩|⟨u,J,he⟩
   ·obtain⟨y,_⟩:=gQ Z X J (by simp);rw[he]at H;obtain⟨h1,h2,I,M⟩:=xM Y hΓ h y.1 (p6 u y.2) H;exact⟨⟨[],⟨rfl,h1⟩,by rw[I,M];rfl⟩,h2,by rw[I];simp,by rw[M];simp⟩
   ·obtain⟨y,_⟩:=gQ Z X J (by simp);rw[he]at H;obtain⟨us,e1,e2,e3⟩:=y;obtain⟨h1,h2,I,M⟩:=xM Y hΓ h e1 (qE e2 e3) H;exact⟨⟨[],⟨rfl,h1⟩,by rw[I,M];rfl⟩,h2,by rw[I];simp,by rw[M];simp⟩
  ·exact nd Y h Z X H
 |_=>exact nd Y h Z X H
end
section
variable {P:Program} {V:Env} {W:Wit} {st st':St} {w w':World} {a:Act}
theorem iJ {G:Nat->Prop}{p:Bool}(hG:∀ k,G k->gd V W p k):∀ {b:Ty} {pos:Nat} {x:b.den} {cs:List Value} {bs:List Nat},Mx w G b none pos x cs bs->bs.Nodup ->
  ∃ Z:Nat->List Nat,(ar p b x).length=cs.length /\
   (∀ (j:Nat) (l:Leaf) (u:Value),(ar p b x)[j]?=some l->cs[j]?=some u->aJ P V W st w (Z j) l u) /\
   (∀ (j:Nat) (l:Leaf),(ar p b x)[j]?=some l->ap l->∀ k∈Z j,k∈bs) /\
   (∀ (j M:Nat) (l l':Leaf),(ar p b x)[j]?=some l->ap l->(ar p b x)[M]?=some l'->ap l'->∀ k,k∈Z j->k∈Z M->j=M)
 |.int k,_,x,cs,bs,H,_=>by
  obtain⟨rfl,rfl⟩:=H;exact⟨λ_=>[],rfl,λj l u y R=>by cases j with|zero=>simp[ar]at y R;subst y;subst R;rfl|succ j=>simp[ar]at y,λj l y _ k r=>by simp at r,λj M l l' _ _ _ _ k r=>by simp at r⟩
 |.bool,_,x,cs,bs,H,_=>by
  obtain⟨rfl,rfl⟩:=H;exact⟨λ_=>[],rfl,λj l u y R=>by cases j with|zero=>simp[ar]at y R;subst y;subst R;rfl|succ j=>simp[ar]at y,λj l y _ k r=>by simp at r,λj M l l' _ _ _ _ k r=>by simp at r⟩
 |.str,_,x,cs,bs,H,_=>by
  obtain⟨rfl,rfl⟩:=H;exact⟨λ_=>[],rfl,λj l u y R=>by cases j with|zero=>simp[ar]at y R;subst y;subst R;rfl|succ j=>simp[ar]at y,λj l y _ k r=>by simp at r,λj M l l' _ _ _ _ k r=>by simp at r⟩
 |.unit,_,x,cs,bs,H,_=>by
  obtain⟨rfl,rfl⟩:=H;exact⟨λ_=>[],rfl,λj l u y R=>by simp[ar]at y,λj l y _ k r=>by simp at r,λj M l l' _ _ _ _ k r=>by simp at r⟩
 |.hdr,_,x,cs,bs,H,_=>by
  obtain⟨⟨A,a2,rfl⟩,rfl⟩:=H;exact⟨λ_=>[],rfl,λj l u y R=>by cases j with|zero=>simp[ar]at y R;subst y;subst R;exact⟨A,a2,rfl⟩|succ j=>simp[ar]at y,λj l y _ k r=>by simp at r,λj M l l' _ _ _ _ k r=>by simp at r⟩
 |.pair b c,pos,x,cs,bs,⟨c1,c2,b1,b2,e1,e2,y,R⟩,Y=>by
  subst e1;subst e2;rw[B7]at Y;obtain⟨d1,f1,f2,f3,f4⟩:=iJ hG y Y.1;obtain⟨d2,g1,g2,g3,g4⟩:=iJ hG R Y.2.1;have a4:=cJ p b x.1;have a5:=y.len;have z:∀ (j:Nat) (l:Leaf),(ar p b x.1++ar p c x.2)[j]?=some l->(j<b.cells/\(ar p b x.1)[j]?=some l)\/(b.cells<=j/\(ar p c x.2)[j-b.cells]?=some l):=by
   intro j l I;by_cases O:j<b.cells
   ·rw[BH (by omega)]at I;exact .inl ⟨O,I⟩
   ·rw[BG (by omega),a4]at I;exact .inr ⟨by omega,I⟩
  refine⟨λj=>if j<b.cells then d1 j else d2 (j-b.cells),by simp only[ar,BR];omega,λj l u I hu=>?_,λj l I ho k r=>?_,λj M l l' I ho X a0 k r J=>?_⟩
  ·rcases z j l I with ⟨O,I⟩|⟨a3,I⟩
   ·rw[BH (by omega)]at hu;simp only[if_pos O];exact f2 j l u I hu
   ·rw[BG (by omega),a5]at hu;simp only[if_neg (show ¬ j<b.cells by omega)];exact g2 _ l u I hu
  ·rcases z j l I with ⟨O,I⟩|⟨a3,I⟩
   ·simp only[if_pos O]at r;exact BJ _ (f3 j l I ho k r)
   ·simp only[if_neg (show ¬ j<b.cells by omega)]at r;exact BE _ (g3 _ l I ho k r)
  ·rcases z j l I with ⟨O,I⟩|⟨a3,I⟩ <;> rcases z M l' X with ⟨a1,X⟩|⟨a6,X⟩
   ·simp only[if_pos O]at r;simp only[if_pos a1]at J;exact f4 j M l l' I ho X a0 k r J
   ·simp only[if_pos O]at r;simp only[if_neg (show ¬ M<b.cells by omega)]at J;exact absurd rfl (Y.2.2 k (f3 j l I ho k r) k (g3 _ l' X a0 k J))
   ·simp only[if_neg (show ¬ j<b.cells by omega)]at r;simp only[if_pos a1]at J;exact absurd rfl (Y.2.2 k (f3 M l' X a0 k J) k (g3 _ l I ho k r))
   ·simp only[if_neg (show ¬ j<b.cells by omega)]at r;simp only[if_neg (show ¬ M<b.cells by omega)]at J;have:=g4 _ _ l l' I ho X a0 k r J;omega
 |.list m E e,pos,xs,cs,bs,H,Y=>by
  cases m with
  |false =>
   rw[cq]at H;obtain⟨rfl,A,a2,rfl,R,h3⟩:=H;refine⟨λ_=>[],rfl,λj l u y h4=>?_,λj l y _ k r=>by simp at r,λj M l l' _ _ _ _ k r=>by simp at r⟩;cases j with
   |zero =>
    simp[ar]at y h4;subst y;subst h4;exact Rd.mono hG (⟨A,a2,rfl,R,h3⟩:Rd w G (.list false E e) xs _)
   |succ j=>simp[ar]at y
  |true =>
   rw[bH (by simp)]at H;obtain⟨v,rfl,hO⟩:=H;refine⟨λ_=>bs,rfl,λj l u y h4=>?_,λj l y _ k r=>r,λj M l l' y _ h3 _ k _ _=>?_⟩
   ·cases j with
    |zero =>
     simp[ar]at y h4;subst y;subst h4;exact⟨Y,OwB.shy (hO.carry hG (λ_ _=>rfl) (λ_ _=>rfl))⟩
    |succ j=>simp[ar]at y
   ·have h7:j<1:=by simpa[ar]using (BD.1 y).1
    have h8:M<1:=by simpa[ar]using (BD.1 h3).1
    omega
theorem aq.reown (hV:ay V)(h:aq P V W st a w)(r:Nat)(c:bT)(J:Nat->List Nat)(a4:(st r).ver<c.ver)(a1:c.sh=(st r).sh)(Y:c.ls.length=(st r).ls.length)
  (a2:∀ (j:Nat) (l:Leaf) (v:Value),c.ls[j]?=some l->(W.cs r)[j]?=some v->aJ P V W st w (J j) l v)
  (Z:∀ (j:Nat) (l:Leaf),c.ls[j]?=some l->ap l->∀ k∈J j,¬ W.nw k/\¬ V.prot k/\(∀ b,live st b->W.β b≠k) /\
   ∀ (r1 j1:Nat) (l1:Leaf),r1≠r->(st r1).ls[j1]?=some l1->ap l1->k∉W.bs r1 j1)
  (a3:∀ (j j':Nat) (l l':Leaf),c.ls[j]?=some l->ap l->c.ls[j']?=some l'->ap l'->∀ k,k∈J j->k∈J j'->j=j') :
  aq P V { W with bs:=λr' j=>if r'=r then J j else W.bs r' j } (ae [(r,c)] st) a w:=by
 have I:∀ b,live (ae [(r,c)] st) b<->live st b:=by
  intro b;rcases an r b c st with ⟨rfl,e⟩|⟨_,e⟩
  ·simp[live,e,a1]
  ·simp[live,e]
 have X:cF V W { W with bs:=λr' j=>if r'=r then J j else W.bs r' j } st (ae [(r,c)] st) w w:=by
  refine⟨λq=>?_,λb R=>⟨(I b).2 R,rfl⟩,λ_ h=>h,λ_ _=>rfl,λ_ q j' l' M h4 h5=>?_⟩
  ·rcases an r q c st with ⟨rfl,e⟩|⟨y,e⟩
   ·rw[e];exact⟨Nat.le_of_lt a4,λ_=>rfl⟩
   ·rw[e];exact⟨BU _,λ_=>rfl⟩
  ·rcases an r q c st with ⟨rfl,e⟩|⟨y,e⟩
   ·rw[e]at h5;omega
   ·rw[e]at M;exact⟨⟨l',M,h4⟩,by simp[y],λ_ _=>rfl⟩
 exact {
  nt:=h.nt,df:=h.df
  slots:=λt ht=>by
   rcases an r t c st with ⟨rfl,e⟩|⟨_,e⟩
   ·rw[e,a1];exact h.slots t ht
   ·rw[e];exact h.slots t ht
  boxes:=λb R=>by
   rcases an r b c st with ⟨rfl,e⟩|⟨_,e⟩
   ·rw[e,a1];rcases h.boxes b R with ⟨h1,z⟩|h1
    ·refine .inl ⟨h1,?_⟩;rw[z]at Y;exact BV Y
    ·exact .inr h1
   ·rw[e];exact h.boxes b R
  len:=λq=>by
   rcases an r q c st with ⟨rfl,e⟩|⟨_,e⟩
   ·rw[e,Y];exact h.len q
   ·rw[e];exact h.len q
  one:=h.one
  leaf:=λq j l u z M=>by
   rcases an r q c st with ⟨rfl,e⟩|⟨y,e⟩
   ·rw[e]at z;exact (a2 j l u z M).carry hV.ro X (λ_=>⟨by simp,λ_ _=>rfl⟩)
   ·rw[e]at z;exact (h.leaf q j l u z M).carry hV.ro X (λ_=>⟨by simp[y],λ_ _=>rfl⟩)
  ownb:=λq j l z M k O=>by
   rcases an r q c st with ⟨rfl,e⟩|⟨y,e⟩
   ·rw[e]at z;simp only[if_true]at O;have:=Z j l z M k O;exact⟨this.1,this.2.1,λb R=>this.2.2.1 b ((I b).1 R)⟩
   ·rw[e]at z;simp only[y,if_false]at O;have:=h.ownb q j l z M k O;exact⟨this.1,this.2.1,λb R=>this.2.2 b ((I b).1 R)⟩
  sep:=λq j l q' j' l' z M h4 h5 k O H=>by
   rcases an r q c st with ⟨e0,e⟩|⟨y,e⟩ <;> rcases an r q' c st with ⟨e1,e'⟩|⟨a0,e'⟩
   ·rw[e]at z;rw[e']at h4;simp only[e0,if_true]at O;simp only[e1,if_true]at H;exact⟨e0.trans e1.symm,a3 j j' l l' z M h4 h5 k O H⟩
   ·rw[e]at z;rw[e']at h4;simp only[e0,if_true]at O;simp only[a0,if_false]at H;exact absurd H ((Z j l z M k O).2.2.2 q' j' l' a0 h4 h5)
   ·rw[e]at z;rw[e']at h4;simp only[y,if_false]at O;simp only[e1,if_true]at H;exact absurd O ((Z j' l' h4 h5 k H).2.2.2 q j l y z M)
   ·rw[e]at z;rw[e']at h4;simp only[y,if_false]at O;simp only[a0,if_false]at H;exact h.sep q j l q' j' l' z M h4 h5 k O H
  box:=λb R=>h.box b ((I b).1 R)
  inj:=λb b' R a5=>h.inj b b' ((I b).1 R) ((I b').1 a5)
  nwlt:=h.nwlt
  os:=h.os,tape:=h.tape,output:=h.output,size:=h.size,keep:=h.keep
  fixb:=λx hx=>⟨(I _).2 (h.fixb x hx).1,(h.fixb x hx).2⟩
  fixt:=h.fixt }
theorem aq.reownE (hV:ay V)(h:aq P V W st a w)(r:Nat)(c:bT)(J:Nat->List Nat)(a5:r≠EPO)(a4:(st r).ver<=c.ver)(a6:c.sh=(st r).sh)(a2:c.ls.length=(st r).ls.length)
  (a0:∀ (j:Nat) (l:Leaf) (v:Value),c.ls[j]?=some l->(W.cs r)[j]?=some v->aJ P V W st w (J j) l v)
  (X:∀ (j:Nat) (l:Leaf),c.ls[j]?=some l->ap l->∀ k∈J j,¬ W.nw k/\¬ V.prot k/\(∀ b,live st b->W.β b≠k) /\
   ∀ (r1 j1:Nat) (l1:Leaf),r1≠r->(st r1).ls[j1]?=some l1->ap l1->k∉W.bs r1 j1)
  (a3:∀ (j j':Nat) (l l':Leaf),c.ls[j]?=some l->ap l->c.ls[j']?=some l'->ap l'->∀ k,k∈J j->k∈J j'->j=j') :
  aq P V { W with bs:=λr' j=>if r'=r then J j else W.bs r' j } (ae [(r,c),(EPO,bV (st EPO))] st) a w /\
   (∀ q,(ae [(r,c),(EPO,bV (st EPO))] st q).sh=(st q).sh/\(st q).ver<=(ae [(r,c),(EPO,bV (st EPO))] st q).ver/\(q≠r->(ae [(r,c),(EPO,bV (st EPO))] st q).ls=(st q).ls))/\ae [(r,c),(EPO,bV (st EPO))] st r=c:=by
 have e0:ae [(r,c),(EPO,bV (st EPO))] st=ae [(r,c)] (ae [(EPO,bV (st EPO))] st):=aP _ _ _ _;generalize hS:ae [(r,c),(EPO,bV (st EPO))] st=S;rw[e0]at hS;have hr:S r=c:=by rw[<- hS,bh]
 have O:∀ q,(S q).sh=(st q).sh/\(st q).ver<=(S q).ver/\(q≠r->(S q).ls=(st q).ls):=by
  intro q;rw[<- hS];rcases an r q c (ae [(EPO,bV (st EPO))] st) with ⟨rfl,e⟩|⟨ab,e⟩
  ·rw[e];exact⟨a6,a4,λh=>absurd rfl h⟩
  ·rw[e];rcases an EPO q (bV (st EPO)) st with ⟨rfl,e⟩|⟨_,e⟩ <;> rw[e]
   ·exact⟨rfl,DF _,λ_=>rfl⟩
   ·exact⟨rfl,BU _,λ_=>rfl⟩
 have hE:(st EPO).ver<(S EPO).ver:=by
  rw[<- hS,aI (CG a5),bh];exact BM _
 refine⟨?_,O,hr⟩;have I:∀ b,live S b<->live st b:=λb=>by simp[live,(O b).1]
 have R:cF V W { W with bs:=λr' j=>if r'=r then J j else W.bs r' j } st S w w :=
  ⟨λq=>⟨(O q).2.1,λ_=>rfl⟩,λb Y=>⟨(I b).2 Y,rfl⟩,λ_ h=>h,λ_ _=>rfl,λhe=>by omega⟩
 have a1:∀ q,(S q).ls.length=(st q).ls.length:=λq=>by
  by_cases y:q=r
  ·rw[y,hr,a2]
  ·rw[(O q).2.2 y]
 exact {
  nt:=h.nt,df:=h.df
  slots:=λt ht=>by rw[(O t).1];exact h.slots t ht
  boxes:=λb Y=>by
   rw[(O b).1];rcases h.boxes b Y with ⟨h1,z⟩|h1
   ·refine .inl ⟨h1,BV ?_⟩;rw[a1,z];rfl
   ·exact .inr h1
  len:=λq=>by rw[a1];exact h.len q
  one:=h.one
  leaf:=λq j l u z Z=>by
   by_cases y:q=r
   ·subst y;rw[hr]at z;exact (a0 j l u z Z).carry hV.ro R (λ_=>⟨by simp,λ_ _=>rfl⟩)
   ·rw[(O q).2.2 y]at z;exact (h.leaf q j l u z Z).carry hV.ro R (λ_=>⟨by simp[y],λ_ _=>rfl⟩)
  ownb:=λq j l z Z k M=>by
   by_cases y:q=r
   ·subst y;rw[hr]at z;simp only[if_true]at M;have:=X j l z Z k M;exact⟨this.1,this.2.1,λb Y=>this.2.2.1 b ((I b).1 Y)⟩
   ·rw[(O q).2.2 y]at z;simp only[y,if_false]at M;have:=h.ownb q j l z Z k M;exact⟨this.1,this.2.1,λb Y=>this.2.2 b ((I b).1 Y)⟩
  sep:=λq j l q' j' l' z Z h4 h5 k M H=>by
   by_cases e0:q=r <;> by_cases e1:q'=r
   ·subst e0;subst e1;rw[hr]at z h4;simp only[if_true]at M H;exact⟨rfl,a3 j j' l l' z Z h4 h5 k M H⟩
   ·subst e0;rw[hr]at z;rw[(O q').2.2 e1]at h4;simp only[if_true]at M;simp only[e1,if_false]at H;exact absurd H ((X j l z Z k M).2.2.2 q' j' l' e1 h4 h5)
   ·subst e1;rw[(O q).2.2 e0]at z;rw[hr]at h4;simp only[e0,if_false]at M;simp only[if_true]at H;exact absurd M ((X j' l' h4 h5 k H).2.2.2 q j l e0 z Z)
   ·rw[(O q).2.2 e0]at z;rw[(O q').2.2 e1]at h4;simp only[e0,if_false]at M;simp only[e1,if_false]at H;exact h.sep q j l q' j' l' z Z h4 h5 k M H
  box:=λb Y=>h.box b ((I b).1 Y)
  inj:=λb b' Y a9=>h.inj b b' ((I b).1 Y) ((I b').1 a9)
  nwlt:=h.nwlt
  os:=h.os,tape:=h.tape,output:=h.output,size:=h.size,keep:=h.keep
  fixb:=λx hx=>⟨(I _).2 (h.fixb x hx).1,(h.fixb x hx).2⟩
  fixt:=h.fixt }
theorem aq.nwGrow (O:ay V)(h:aq P V W st a w)(N:Nat->Prop)(M:∀ k,N k->k<w.heap.size/\¬ cf V W st k):aq P V { W with nw:=λk=>W.nw k\/N k } st a w:=by
 have y:cF V W { W with nw:=λk=>W.nw k\/N k } st st w w:=⟨λr=>⟨BU _,λ_=>rfl⟩,λb J=>⟨J,rfl⟩,λ_ h=>.inl h,λ_ _=>rfl,λ_ _ _ l z H _=>⟨⟨l,z,H⟩,rfl,λ_ _=>rfl⟩⟩
 exact {
  nt:=h.nt,df:=h.df,slots:=h.slots,boxes:=h.boxes,len:=h.len,one:=h.one
  leaf:=λr j l v z H=>(h.leaf r j l v z H).carry O.ro y (λ_=>⟨rfl,λ_ _=>rfl⟩)
  ownb:=λr j l z H k u=>⟨λI=>I.elim (h.ownb r j l z H k u).1 (λI=>(M k I).2 (.inr (.inr (.inr ⟨r,j,l,z,H,u⟩)))),(h.ownb r j l z H k u).2⟩
  sep:=h.sep
  box:=λb J=>⟨λI=>I.elim (h.box b J).1 (λI=>(M _ I).2 (.inr (.inr (.inl ⟨b,J,rfl⟩)))),(h.box b J).2⟩
  inj:=h.inj
  nwlt:=λk u=>u.elim (h.nwlt k) (λu=>⟨(M k u).1,λR=>(M k u).2 (.inr (.inl R))⟩)
  os:=h.os,tape:=h.tape,output:=h.output,size:=h.size,keep:=h.keep,fixb:=h.fixb,fixt:=h.fixt }
end
def eK:List Leaf->List Leaf->List (Nat×Nat)
 |.al r j _::y,l::u=>(match l with|.own _ _ _ _ _=>[(r,j)]|_=>[])++eK y u
 |_::y,_::u=>eK y u
 |_,_=>[]
section
variable {P:Program} {V:Env} {st st':St} {w w':World} {a:Act}
theorem nf {x l:Leaf}{xs ls:List Leaf}(h:¬ ap l):eK (x::xs) (l::ls)=eK xs ls:=by
 cases x <;> try rfl
 cases l <;> first|exact absurd trivial h|rfl
theorem uY {k:IntKind}{ls:List Leaf}{x:Bool×(Ty.int k).den×List Leaf}(h:a7 st (.int k) ls=some x):∃ l,ls=l::x.2.2:=by
 simp only[a7]at h;split at h
 ·split at h
  ·simp only[BA]at h;subst h;exact⟨_,rfl⟩
  ·cases h
 ·cases h
theorem tv {ls:List Leaf}{x:Bool×Ty.bool.den×List Leaf}(h:a7 st .bool ls=some x):∃ l,ls=l::x.2.2:=by
 simp only[a7]at h;split at h
 ·simp only[BA]at h;subst h;exact⟨_,rfl⟩
 ·cases h
theorem uZ {ls:List Leaf}{x:Bool×Ty.str.den×List Leaf}(h:a7 st .str ls=some x):∃ l,ls=l::x.2.2:=by
 simp only[a7]at h;split at h
 ·simp only[BA]at h;subst h;exact⟨_,rfl⟩
 ·cases h
theorem u3 {ls:List Leaf}{x:Bool×Ty.hdr.den×List Leaf}(h:a7 st .hdr ls=some x):∃ l,ls=l::x.2.2:=by
 simp only[a7]at h;split at h
 ·split at h
  ·simp only[BA]at h;subst h;exact⟨_,rfl⟩
  ·cases h
 ·cases h
theorem kY {p:Bool}:∀ (b:Ty) (ls:List Leaf) (t:cL b.den),take st b ls=some t->∀ (y:b.den) (r:List Leaf),eK ls (ar p b y++r)=t.kill++eK t.rest r
 |.pair b c,ls,t,h,y,r=>by
  simp only[take]at h;split at h
  ·rename_i u z;split at h
   ·rename_i v M;simp only[BA]at h;subst h;simp only[ar];rw[BQ,kY b ls u z y.1,kY c u.rest v M y.2,BQ]
   ·cases h
  ·cases h
 |.unit,ls,t,h,y,r=>by
  simp only[take,BA]at h;subst h;rfl
 |.list m E e,ls,t,h,y,r=>by
  cases ls with
  |nil=>simp[take]at h
  |cons l ls =>
   cases m with
   |false =>
    simp only[take,cond_false]at h;split at h
    ·simp only[BA]at h;subst h;exact nf id
    ·cases h
   |true =>
    simp only[take,cond_true]at h;split at h
    ·split at h
     ·simp only[BB]at h;obtain⟨O,_,rfl⟩:=h;rfl
     ·cases h
    ·simp only[BA]at h;subst h;rfl
    ·cases h
 |.int k,ls,t,h,y,r=>scal (b:=.int k) h uY (l':=.int k y) id
 |.bool,ls,t,h,y,r=>scal (b:=.bool) h tv (l':=.bool y) id
 |.str,ls,t,h,y,r=>scal (b:=.str) h uZ (l':=.str y) id
 |.hdr,ls,t,h,y,r=>scal (b:=.hdr) h u3 (l':=.hdr y) id
where
 scal {b:Ty} {ls:List Leaf} {t:cL b.den} {l':Leaf} {r:List Leaf} (h:(a7 st b ls).map (λx=>(⟨false,x.2.1,[],[],x.2.2⟩:cL b.den))=some t)
   (H:∀ {ls:List Leaf} {x:Bool×b.den×List Leaf},a7 st b ls=some x->∃ l,ls=l::x.2.2) (I:¬ ap l'):eK ls ([l']++r)=t.kill++eK t.rest r:=by
  simp only[BB]at h;obtain⟨x,J,rfl⟩:=h;obtain⟨l,rfl⟩:=H J;exact nf I
theorem yR {W W':Wit}{bs:List Nat}{l:Leaf}{v:Value}(u:ap l)(y:W'.nw=W.nw)(h:aJ P V W st w bs l v):aJ P V W' st' w bs l v:=by
 cases l <;> simp only[ap]at u;exact OwH.carry h (λk r=>by
  rcases r with r|r
  ·exact .inl (by rw[y];exact r)
  ·exact .inr r) (λ_ _=>rfl) (λ_ _=>rfl)
theorem wd {S:St}{x l:Leaf}{xs ls:List Leaf}(h:¬ ap l):ae (ca S (x::xs) (l::ls)) S=ae (ca S xs ls) S:=by
 cases x <;> try rfl
 cases l <;> first|exact absurd trivial h|rfl
theorem jK {x:Nat×Nat}{l:List (Nat×Nat)}(h:aY (x::l)=true):x∉l/\aY l=true:=by
 simp only[aY,BC,BY,Bv]at h;exact⟨λr=>by have:=h.1 x r;simp at this,h.2⟩
theorem zq (hV:ay V){W:Wit}{S:St}(h:aq P V W S a w):∀ (xl ls:List Leaf) (cs:List Value) (R:Nat->List Nat),aY (eK xl ls)=true->(∀ x∈eK xl ls,x.1≠EPO)->xl.length=cs.length->ls.length=cs.length ->
  (∀ (i r j n:Nat) (l:Leaf) (u:Value),xl[i]?=some (.al r j n)->ls[i]?=some l->ap l->cs[i]?=some u->(W.cs r)[j]?=some u) ->
  (∀ x∈eK xl ls,∀ l,(S x.1).ls[x.2]?=some l->¬ ap l) ->
  (∀ (i:Nat) (l:Leaf) (u:Value),ls[i]?=some l->cs[i]?=some u->aJ P V W S w (R i) l u) ->
  (∀ (i:Nat) (l:Leaf),ls[i]?=some l->ap l->∀ k∈R i,¬ cf V W S k) ->
  (∀ (i i':Nat) (l l':Leaf),ls[i]?=some l->ap l->ls[i']?=some l'->ap l'->∀ k,k∈R i->k∈R i'->i=i') ->
  ∃ W',aq P V W' (ae (ca S xl ls) S) a w/\W'.cs=W.cs/\W'.β=W.β/\W'.nw=W.nw/\(∀ q,(ae (ca S xl ls) S q).sh=(S q).sh/\(S q).ver<=(ae (ca S xl ls) S q).ver) /\
   (∀ (q i:Nat),(q,i)∉eK xl ls->(ae (ca S xl ls) S q).ls[i]?=(S q).ls[i]?/\W'.bs q i=W.bs q i) /\
   (∀ k,cf V W' (ae (ca S xl ls) S) k->cf V W S k\/∃ i l,ls[i]?=some l/\ap l/\k∈R i)
 |[],ls,cs,R,_,_,hx,hl,_,_,_,_,_=>⟨W,h,rfl,rfl,rfl,λ_=>⟨rfl,BU _⟩,λ_ _ _=>⟨rfl,rfl⟩,λk O=>.inl O⟩
 |x::X,[],cs,R,_,_,hx,hl,_,_,_,_,_=>by simp at hx hl;omega
 |x::X,l::ls,[],R,_,_,hx,hl,_,_,_,_,_=>by simp at hx
 |x::X,l::ls,u::cs,R,hd,b5,hx,hl,b3,b6,a2,a4,ab=>by
  have b1:aY (eK X ls)=true:=by
   cases x with
   |al r j n =>
    cases l with
    |own p hh E e ys=>exact (jK hd).2
    |_=>exact hd
   |_=>exact hd
  have ad:∀ z∈eK X ls,z∈eK (x::X) (l::ls):=by
   intro z hz;cases x with
   |al r j n=>exact BE _ hz
   |_=>exact hz
  obtain⟨W1,h1,e1,e2,e3,e4,e5,e6⟩:=zq hV h X ls cs (λi=>R (i+1)) b1 (λz hz=>b5 z (ad z hz)) (by simpa using hx) (by simpa using hl)
   (λi r j n l' u' J I M g4=>b3 (i+1) r j n l' u' (by simpa using J) (by simpa using I) M (by simpa using g4))
   (λz hz=>b6 z (ad z hz)) (λi l' u' J I=>a2 (i+1) l' u' (by simpa using J) (by simpa using I))
   (λi l' J I=>a4 (i+1) l' (by simpa using J) I)
   (λi i' l1 l2 J I M g4 k g5 g6=>by have:=ab (i+1) (i'+1) l1 l2 (by simpa using J) I (by simpa using M) g4 k g5 g6;omega)
  by_cases hs:¬ ap l\/(∀ r j n,x≠.al r j n)
  ·have a6:ae (ca S (x::X) (l::ls)) S=ae (ca S X ls) S/\eK (x::X) (l::ls)=eK X ls:=by
    rcases hs with hs|hs
    ·exact⟨wd hs,nf hs⟩
    ·cases x with
     |al r j n=>exact absurd rfl (hs r j n)
     |_=>exact⟨rfl,rfl⟩
   rw[a6.1,a6.2];exact⟨W1,h1,e1,e2,e3,e4,e5,λk O=>(e6 k O).imp id λ⟨i,l',J,I,M⟩=>⟨i+1,l',by simpa using J,I,M⟩⟩
  ·simp only[not_or,Classical.not_not]at hs;obtain⟨ba,bb⟩:=hs;obtain⟨r,j,n,rfl⟩:∃ r j n,x=.al r j n:=by
    cases x with
    |al r j n=>exact⟨r,j,n,rfl⟩
    |_=>exact absurd (λ_ _ _ h=>by cases h) bb
   obtain⟨p,hh,E,e,ys,rfl⟩:∃ p hh E e ys,l=.own p hh E e ys:=by
    cases l <;> simp only[ap]at ba;exact⟨_,_,_,_,_,rfl⟩
   have b2:eK (.al r j n::X) (.own p hh E e ys::ls)=(r,j)::eK X ls:=rfl;rw[b2]at hd b6;obtain⟨bx,bn⟩:=jK hd;have hv:=b3 0 r j n _ u rfl rfl trivial rfl;have a6:ae (ca S (.al r j n::X) (.own p hh E e ys::ls)) S=ae [(r,⟨(ae (ca S X ls) S r).ver,(ae (ca S X ls) S r).sh,aT (ae (ca S X ls) S r).ls j (.own p hh E e ys)⟩),(EPO,bV (ae (ca S X ls) S EPO))] (ae (ca S X ls) S):=bA [_,_] _ _;have a9:aJ P V W1 (ae (ca S X ls) S) w (R 0) (.own p hh E e ys) u:=yR trivial e3 (a2 0 _ u rfl rfl);have Y:∀ k∈R 0,¬ cf V W1 (ae (ca S X ls) S) k:=λk O hu=>by
    rcases e6 k hu with hu|⟨i,l',J,I,M⟩
    ·exact a4 0 _ rfl trivial k O hu
    ·have:=ab 0 (i+1) _ l' rfl trivial (by simpa using J) I k O M;omega
   have H:∀ (i:Nat) (l':Leaf),i≠j->(aT (ae (ca S X ls) S r).ls j (.own p hh E e ys))[i]?=some l'->(ae (ca S X ls) S r).ls[i]?=some l':=by
    intro i l' a3 Z;rcases aR _ _ _ _ _ Z with ⟨rfl,_,_⟩|⟨_,Z⟩
    ·exact absurd rfl a3
    ·exact Z
   have b9:∀ (l':Leaf),(aT (ae (ca S X ls) S r).ls j (.own p hh E e ys))[j]?=some l'->l'=.own p hh E e ys:=by
    intro l' Z;rcases aR _ _ _ _ _ Z with ⟨_,rfl,_⟩|⟨a3,_⟩
    ·rfl
    ·exact absurd rfl a3
   have bl:r≠EPO:=b5 (r,j) (by rw[b2];exact BW ..);obtain⟨h2,a5,b4⟩:=h1.reownE hV r ⟨(ae (ca S X ls) S r).ver,(ae (ca S X ls) S r).sh,aT (ae (ca S X ls) S r).ls j (.own p hh E e ys)⟩ (λi=>if i=j then R 0 else W1.bs r i) bl (BU _) rfl (by simp[aT])
    (λi l' v' J I=>by
     by_cases y:i=j
     ·subst y;obtain rfl:=b9 l' J;rw[e1,hv]at I;simp only[BA]at I;subst I;simp only[if_true];exact a9
     ·simp only[if_neg y];exact h1.leaf r i l' v' (H i l' y J) I)
    (λi l' J I k O=>by
     by_cases y:i=j
     ·subst y;simp only[if_true]at O;have hu:=Y k O;simp only[cf,not_or,not_exists,not_and]at hu;exact⟨hu.1,hu.2.1,hu.2.2.1,λr1 j1 l1 _ M g4 g5=>hu.2.2.2 r1 j1 l1 M g4 g5⟩
     ·simp only[if_neg y]at O;have Z:=H i l' y J;have h9:=h1.ownb r i l' Z I k O;exact⟨h9.1,h9.2.1,h9.2.2,λr1 j1 l1 a3 M g4 g5=>a3 (h1.sep r i l' r1 j1 l1 Z I M g4 k O g5).1.symm⟩)
    (λi i' l1 l2 J I M g4 k O a1=>by
     by_cases y:i=j <;> by_cases a0:i'=j
     ·omega
     ·subst y;simp only[if_true]at O;simp only[if_neg a0]at a1;exact absurd (.inr (.inr (.inr ⟨r,i',l2,H i' l2 a0 M,g4,a1⟩))) (Y k O)
     ·subst a0;simp only[if_true]at a1;simp only[if_neg y]at O;exact absurd (.inr (.inr (.inr ⟨r,i,l1,H i l1 y J,I,O⟩))) (Y k a1)
     ·simp only[if_neg y]at O;simp only[if_neg a0]at a1;exact (h1.sep r i l1 r i' l2 (H i l1 y J) I (H i' l2 a0 M) g4 k O a1).2)
   rw[a6];refine⟨_,h2,e1,e2,e3,λq=>?_,λq i hq=>?_,λk O=>?_⟩
   ·exact⟨(a5 q).1.trans (e4 q).1,B8 (e4 q).2 (a5 q).2.1⟩
   ·rw[b2]at hq;simp only[CI,not_or]at hq;by_cases b0:q=r
    ·subst b0;rw[b4];have y:j≠i:=λe0=>hq.1 (by rw[e0])
     simp only[aT];rw[CF y];refine⟨(e5 q i hq.2).1,?_⟩;simp only[if_true,if_neg (CG y)];exact (e5 q i hq.2).2
    ·rw[(a5 q).2.2 b0];refine⟨(e5 q i hq.2).1,?_⟩;show (if q=r then _ else W1.bs q i)=_;rw[if_neg b0];exact (e5 q i hq.2).2
   ·rcases O with O|O|⟨b,hb,O⟩|⟨q,i,l',J,I,M⟩
    ·exact .inl (.inl (by rw[<- e3];exact O))
    ·exact .inl (.inr (.inl O))
    ·refine (e6 k (.inr (.inr (.inl ⟨b,?_,O⟩)))).imp id λ⟨i,l',J,I,M⟩=>⟨i+1,l',by simpa using J,I,M⟩
     exact (iC (λq=>(a5 q).1) b).1 hb
    ·by_cases hq:q=r
     ·subst hq;rw[b4]at J;simp only[if_true]at M;by_cases y:i=j
      ·subst y;simp only[if_true]at M;exact .inr ⟨0,_,rfl,trivial,M⟩
      ·simp only[if_neg y]at M;exact (e6 k (.inr (.inr (.inr ⟨q,i,l',H i l' y J,I,M⟩)))).imp id λ⟨i,l',J,I,M⟩=>⟨i+1,l',by simpa using J,I,M⟩
     ·rw[(a5 q).2.2 hq]at J;simp only[if_neg hq]at M;exact (e6 k (.inr (.inr (.inr ⟨q,i,l',J,I,M⟩)))).imp id λ⟨i,l',J,I,M⟩=>⟨i+1,l',by simpa using J,I,M⟩
end
def PK.isIop:PK->Bool
 |.iop _=>true
 |_=>false
section
variable {P:Program} {V:Env} {Γ:List Ctr} {st st':St} {w w':World} {a:Act}
theorem kL:∀ {a b:List (Nat×Nat)},aY (a++b)=true->aY a=true/\aY b=true/\∀ x∈a,x∉b
 |[],b,h=>⟨rfl,h,by simp⟩
 |x::a,b,h=>by
  obtain⟨z,O⟩:=jK h;obtain⟨I,J,R⟩:=kL O;refine⟨?_,J,λy r u=>?_⟩
  ·simp only[aY,BC,BY,Bv];refine⟨λy r X=>z (BJ _ ?_),I⟩;obtain⟨H,M⟩:x.1=y.1/\x.2=y.2:=by simpa using X
   rw[show x=y from DV H M];exact r
  ·rcases CI.1 r with rfl|r
   ·exact z (BE _ u)
   ·exact R y r u
theorem ka {p:Bool}:∀ (b:Ty) (ls:List Leaf) (t:cL b.den),take st b ls=some t->∀ (y:b.den) (i r j n:Nat) (l:Leaf),ls[i]?=some (.al r j n)->(ar p b y)[i]?=some l->ap l->(st r).ver=n
 |.pair b c,ls,t,h,y,i,r,j,n,l,I,z,J=>by
  simp only[take]at h;split at h
  ·rename_i u M;split at h
   ·rename_i v O;simp only[ar]at z;have X:=cJ p b y.1;by_cases hi:i<b.cells
    ·rw[BH (by omega)]at z;exact ka b ls u M y.1 i r j n l I z J
    ·rw[BG (by omega),X]at z;have Z:=take_rest b ls u M;refine ka c u.rest v O y.2 (i-b.cells) r j n l ?_ z J;rw[Z,CJ,show b.cells+(i-b.cells)=i by omega];exact I
   ·cases h
  ·cases h
 |.list m E e,ls,t,h,y,i,r,j,n,l,I,z,J=>by
  cases m with
  |false =>
   cases i with
   |zero=>simp[ar]at z;subst z;exact J.elim
   |succ i=>simp[ar]at z
  |true =>
   cases i with
   |succ i=>simp[ar]at z
   |zero =>
    cases ls with
    |nil=>simp at I
    |cons l' ls =>
     simp only[CK,BA]at I;subst I;simp only[take,cond_true]at h;split at h
     ·rename_i R;exact (eY R (by simp)).1
     ·cases h
 |.int k,ls,t,h,y,i,r,j,n,l,I,z,J=>by
  cases i with
  |zero=>simp[ar]at z;subst z;exact J.elim
  |succ i=>simp[ar]at z
 |.bool,ls,t,h,y,i,r,j,n,l,I,z,J=>by
  cases i with
  |zero=>simp[ar]at z;subst z;exact J.elim
  |succ i=>simp[ar]at z
 |.str,ls,t,h,y,i,r,j,n,l,I,z,J=>by
  cases i with
  |zero=>simp[ar]at z;subst z;exact J.elim
  |succ i=>simp[ar]at z
 |.hdr,ls,t,h,y,i,r,j,n,l,I,z,J=>by
  cases i with
  |zero=>simp[ar]at z;subst z;exact J.elim
  |succ i=>simp[ar]at z
 |.unit,ls,t,h,y,i,r,j,n,l,I,z,J=>by simp[ar]at z
where
 take_rest:∀ (b:Ty) (ls:List Leaf) (t:cL b.den),take st b ls=some t->t.rest=ls.drop b.cells
  |.pair b c,ls,t,h=>by
   simp only[take]at h;split at h
   ·rename_i u M;split at h
    ·rename_i v O;simp only[BA]at h;subst h;show v.rest=_;rw[take_rest c u.rest v O,take_rest b ls u M,List.drop_drop];rfl
    ·cases h
   ·cases h
  |.unit,ls,t,h=>by
   simp only[take,BA]at h;subst h;rfl
  |.list m E e,ls,t,h=>by
   cases ls with
   |nil=>simp[take]at h
   |cons l ls =>
    cases m with
    |false =>
     simp only[take,cond_false]at h;split at h
     ·simp only[BA]at h;subst h;rfl
     ·cases h
    |true =>
     simp only[take,cond_true]at h;split at h
     ·split at h
      ·simp only[BB]at h;obtain⟨xs,_,rfl⟩:=h;rfl
      ·cases h
     ·simp only[BA]at h;subst h;rfl
     ·cases h
  |.int k,ls,t,h=>sc (b:=.int k) h uY rfl
  |.bool,ls,t,h=>sc (b:=.bool) h tv rfl
  |.str,ls,t,h=>sc (b:=.str) h uZ rfl
  |.hdr,ls,t,h=>sc (b:=.hdr) h u3 rfl
 sc {b:Ty} {ls:List Leaf} {t:cL b.den} (h:(a7 st b ls).map (λx=>(⟨false,x.2.1,[],[],x.2.2⟩:cL b.den))=some t)
   (H:∀ {ls:List Leaf} {x:Bool×b.den×List Leaf},a7 st b ls=some x->∃ l,ls=l::x.2.2) (I:b.cells=1):t.rest=ls.drop b.cells:=by
  simp only[BB]at h;obtain⟨x,Y,rfl⟩:=h;obtain⟨l,rfl⟩:=H Y;rw[I];rfl
theorem we {agg:Bool}{v:Value}{y z:List Value}(u:da agg v y)(r:da agg v z):y=z:=by
 unfold da at u r;cases agg with
 |true =>
  simp only[if_true]at u r;rw[u]at r;simpa using r
 |false =>
  simp only[Bool.false_eq_true,if_false]at u r;rw[u,r]
theorem qF (hV:ay V){W0 W:Wit}{S0 S:St}{w0:World}{G:Nat->Prop}{p:Bool}(a4:W.cs=W0.cs)(hG:∀ k,G k->gd V W p k)(h:aq P V W S a w) :
  ∀ (ps:List PK) (xs:List (aH×List Leaf)) (vs:List Value) (g:Got (ac ps)) (o:ai ps) (H:List (List Nat)),gS P V W0 S0 w0 xs vs->a8 (ce Γ S0) ps xs=some g->ps.any PK.isIop=false ->
  bL w G ps o vs H->aY g.kill=true->(∀ x∈g.kill,x.1≠EPO)->(∀ x∈g.kill,∀ l,(S x.1).ls[x.2]?=some l->¬ ap l)->(∀ k∈H.flatten,¬ cf V W S k)->H.flatten.Nodup ->
  ∃ W',aq P V W' (ae (aG S p ps xs o) S) a w/\W'.cs=W.cs/\W'.β=W.β/\W'.nw=W.nw/\(∀ q,(ae (aG S p ps xs o) S q).sh=(S q).sh/\(S q).ver<=(ae (aG S p ps xs o) S q).ver) /\
   (∀ q i,(q,i)∉g.kill->(ae (aG S p ps xs o) S q).ls[i]?=(S q).ls[i]?/\W'.bs q i=W.bs q i)/\(∀ k,cf V W' (ae (aG S p ps xs o) S) k->cf V W S k\/k∈H.flatten)
 |[],xs,vs,g,o,H,_,_,_,_,_,_,_,_,_=>⟨W,h,rfl,rfl,rfl,λ_=>⟨rfl,BU _⟩,λ_ _ _=>⟨rfl,rfl⟩,λk O=>.inl O⟩
 |pk::ps,[],vs,g,o,H,_,hg,_,_,_,_,_,_,_=>by simp[a8]at hg
 |pk::ps,x::xs,vs,g,o,H,hx,hg,hp,ho,hd,a5,a6,R,a0=>by
  obtain⟨v,a3,cs,rfl,hs,hl,a1⟩:=hx;simp only[a8]at hg;split at hg
  ·rename_i g1 a2;split at hg
   ·rename_i g2 ad;simp only[BA]at hg;subst hg;simp only[CQ,Cs]at hp;obtain⟨b6,a9,b9⟩:=kL hd;have J:∀ (o':ai ps) (b:List Nat) (M:List (List Nat)),H=b::M->b=[]->bL w G ps o' a3 M->aG S p (pk::ps) (x::xs) o=aG S p ps xs o' ->
      ∃ W',aq P V W' (ae (aG S p (pk::ps) (x::xs) o) S) a w/\W'.cs=W.cs/\W'.β=W.β/\W'.nw=W.nw/\(∀ q,(ae (aG S p (pk::ps) (x::xs) o) S q).sh=(S q).sh/\(S q).ver<=(ae (aG S p (pk::ps) (x::xs) o) S q).ver) /\
       (∀ q i,(q,i)∉g1.kill++g2.kill->(ae (aG S p (pk::ps) (x::xs) o) S q).ls[i]?=(S q).ls[i]?/\W'.bs q i=W.bs q i)/\(∀ k,cf V W' (ae (aG S p (pk::ps) (x::xs) o) S) k->cf V W S k\/k∈H.flatten):=by
     intro o' b M e1 e2 b5 e3;subst e1;subst e2;rw[e3];obtain⟨W1,f1,f2,f3,f4,f5,f6,f7⟩:=qF hV a4 hG h ps xs a3 g2 o' M a1 ad hp.2 b5 a9 (λz Y=>a5 z (BE _ Y)) (λz Y=>a6 z (BE _ Y)) (λk O=>R k (by simpa using O)) (by simpa using a0);exact⟨W1,f1,f2,f3,f4,f5,λq i hq=>f6 q i (λhm=>hq (BE _ hm)),λk O=>(f7 k O).imp id (λhm=>by simpa using hm)⟩
    cases pk with
    |io b =>
     match H,ho with
     |Z::M,⟨y,I⟩ =>
      simp only[BX]at a0 R;rw[B7]at a0;obtain⟨W1,f1,f2,f3,f4,f5,f6,f7⟩:=qF hV a4 hG h ps xs a3 g2 o.2 M a1 ad hp.2 I a9 (λz Y=>a5 z (BE _ Y)) (λz Y=>a6 z (BE _ Y)) (λk O=>R k (BE _ O)) a0.2.1;simp only[ce,bf]at a2;cases hb:decide (x.1=bg b.isAgg) with
      |false=>simp[hb]at a2
      |true =>
       rw[hb]at a2;simp only[cond_true,BB]at a2;obtain⟨t,ht,rfl⟩:=a2;rw[of_decide_eq_true hb]at hs;unfold jn at y;rw[if_neg (by simp)]at y;obtain⟨b1,b4,hm⟩:=y;have:=we b4 (gz hs);subst this;obtain⟨ba,m1,m2,m3,m4⟩:=iJ (P:=P) (V:=V) (W:=W1) (st:=ae (aG S p ps xs o.2) S) (p:=p) (λk O=>by
        rcases hG k O with O|O
        ·exact .inl (by rw[f4];exact O)
        ·exact .inr O) hm a0.1
       unfold ci at ht;split at ht
       ·rename_i p0 x0 f0 k0 ab;simp only[BA]at ht;subst ht;have X:=kY (p:=p) b x.2 _ ab o.1 [];simp only[Bq]at X;have X:eK x.2 (ar p b o.1)=k0:=by
         rw[X];show k0++eK [] []=k0;simp[eK]
        obtain⟨W2,q1,q2,q3,q4,q5,q6,q7⟩:=zq hV f1 x.2 (ar p b o.1) b1 ba (by rw[X];exact b6) (λz Y=>a5 z (BJ _ (by rw[X]at Y;exact Y))) hl.length m1
         (λi r j n l u g3 g4 g5 g6=>by
          have h5:=(hl.at_ i _ u g3 g6).1;rw[f2,a4];exact h5.2 (ka b x.2 _ ab o.1 i r j n l g3 g4 g5))
         (λz Y l b0=>by
          rw[X]at Y;rw[(f6 z.1 z.2 (b9 z Y)).1]at b0;exact a6 z (BJ _ Y) l b0)
         m2
         (λi l g3 g4 k O hu=>by
          have b2:=m3 i l g3 g4 k O;rcases f7 k hu with hu|hu
          ·exact R k (BJ _ b2) hu
          ·exact a0.2.2 k b2 k hu rfl) m4
        have b3:ae (aG S p (.io b::ps) (x::xs) o) S=ae (ca (ae (aG S p ps xs o.2) S) x.2 (ar p b o.1)) (ae (aG S p ps xs o.2) S):=bA _ _ _;rw[b3];rw[X]at q6;refine⟨W2,q1,q2.trans f2,q3.trans f3,q4.trans f4,λq=>⟨(q5 q).1.trans (f5 q).1,B8 (f5 q).2 (q5 q).2⟩,λq i hq=>?_,λk O=>?_⟩
        ·simp only[BL,not_or]at hq;exact⟨(q6 q i hq.1).1.trans (f6 q i hq.2).1,(q6 q i hq.1).2.trans (f6 q i hq.2).2⟩
        ·rcases q7 k O with O|⟨i,l,g3,g4,g5⟩
         ·exact (f7 k O).imp id (λhm=>BE _ hm)
         ·exact .inr (BJ _ (m3 i l g3 g4 k g5))
       ·cases ht
    |iop b=>simp[PK.isIop]at hp
    |rd b =>
     match H,ho with
     |Z::M,⟨y,I⟩=>exact J o Z M rfl y I rfl
    |own b =>
     match H,ho with
     |Z::M,⟨y,I⟩=>exact J o Z M rfl y I rfl
    |rref b =>
     match H,ho with
     |Z::M,⟨y,I⟩=>exact J o Z M rfl y I rfl
    |rref2 b =>
     match H,ho with
     |Z::M,⟨y,I⟩=>exact J o Z M rfl y I rfl
    |fn As B =>
     match H,ho with
     |Z::M,⟨y,I⟩=>exact J o Z M rfl y I rfl
    |clo f b1 =>
     match H,ho with
     |Z::M,⟨y,I⟩=>exact J o Z M rfl y I rfl
    |hol b cc off =>
     match H,ho with
     |Z::M,⟨y,I⟩=>exact J o Z M rfl y I rfl
   ·cases hg
  ·cases hg
end
section
variable {P:Program} {V:Env} {W:Wit} {st:St} {w:World} {a:Act}
theorem ot {G ro:Nat->Prop}{p q:Bool}{ks:List (Nat×Nat×Nat)}{ep:Nat}(hG:∀ k,G k->gd V W p k)(d n:Nat) :
  ∀ (O:List RK) (y:aj O) (us:List Value) (Z:List (List Nat)),
  (O.any RK.isBv=true->(∀ k,G k\/ro k->gd V W q k\/∃ x∈ks,k∈W.bs x.1 x.2.1)/\ep<=(st EPO).ver/\(∀ k∈ks,k.2.2<=(st k.1).ver))->gy w G ro O y us Z->O.all RK.isV=true->Z.flatten.Nodup ->
  (bC d n p q ks ep O y).2=[]/\∃ (cs:List Value) (a2:Nat->List Nat),pu ((bC d n p q ks ep O y).1.map λx=>(x.1,x.2.length)) us cs/\(((bC d n p q ks ep O y).1.map (·.2)).flatten).length=cs.length/\(∀ u∈cs,u.oneCell'=true) /\
   (∀ (j:Nat) (l:Leaf) (u:Value),(((bC d n p q ks ep O y).1.map (·.2)).flatten)[j]?=some l->cs[j]?=some u->aJ P V W st w (a2 j) l u) /\
   (∀ (j:Nat) (l:Leaf),(((bC d n p q ks ep O y).1.map (·.2)).flatten)[j]?=some l->ap l->∀ k∈a2 j,k∈Z.flatten) /\
   (∀ (j X:Nat) (l l':Leaf),(((bC d n p q ks ep O y).1.map (·.2)).flatten)[j]?=some l->ap l->(((bC d n p q ks ep O y).1.map (·.2)).flatten)[X]?=some l'->ap l'->∀ k,k∈a2 j->k∈a2 X->j=X)
 |[],y,us,Z,_,⟨e1,e2⟩,_,_=>by
  subst e1;subst e2;exact⟨rfl,[],λ_=>[],⟨rfl,rfl⟩,rfl,by simp,λj l u h1 h2=>by simp at h2,λj l h1 h2 k J=>by simp at J,λj X l l' _ _ _ _ k J=>by simp at J⟩
 |r::O,y,us,Z,hB,⟨u0,a6,b,a9,e1,e2,hr,a4⟩,hv,a0=>by
  subst e1;subst e2;simp only[Cw,BC]at hv;rw[BX,B7]at a0;obtain⟨f0,ab,d2,f1,f2,b0,f3,f4,f5⟩:=ot (ks:=ks) (q:=q) (ep:=ep) hG d n O y.2 a6 a9 (λhb=>hB (by simp[hb])) a4 hv.2 a0.2.1;obtain⟨agg,L,I,d1,g0,b5,g1,g2,b6,g3,g4,g5⟩:∃ (agg:Bool) (L:List Leaf) (I:List Value) (d1:Nat->List Nat),(pn d n p q ks ep r y.1).1=(agg,L)/\(pn d n p q ks ep r y.1).2=[]/\da agg u0 I/\L.length=I.length/\(∀ u∈I,u.oneCell'=true) /\
    (∀ (j:Nat) (l:Leaf) (u:Value),L[j]?=some l->I[j]?=some u->aJ P V W st w (d1 j) l u)/\(∀ (j:Nat) (l:Leaf),L[j]?=some l->ap l->∀ k∈d1 j,k∈b) /\
    (∀ (j X:Nat) (l l':Leaf),L[j]?=some l->ap l->L[X]?=some l'->ap l'->∀ k,k∈d1 j->k∈d1 X->j=X):=by
   cases r with
   |v c =>
    obtain⟨I,h1,h2⟩:=hr;obtain⟨d1,m1,m2,m3,m4⟩:=iJ (P:=P) (V:=V) (W:=W) (st:=st) (p:=p) hG h2 a0.1;exact⟨c.isAgg,_,I,d1,rfl,rfl,h1,m1,h2.one,m2,m3,m4⟩
   |bv c =>
    obtain⟨_,I,h1,h2⟩:=hr;obtain⟨b1,ad,b4⟩:=hB (by simp[RK.isBv]);have h3:=jP (P:=P) (V:=V) (W:=W) (st:=st) (p:=q) ad b4 (h2.mono b1);exact⟨c.isAgg,_,I,λ_=>[],rfl,rfl,h1,h3.length,h2.one,λj l u g1 g2=>(h3.at_ j l u g1 g2).1,λj l _ _ k J=>by simp at J,λj X l l' _ _ _ _ k J=>by simp at J⟩
   |box c=>simp[RK.isV]at hv
  have b3:(bC d n p q ks ep (r::O) y).1=(agg,L)::(bC d n p q ks ep O y.2).1:=by simp only[bC,g0]
  have b2:(bC d n p q ks ep (r::O) y).2=[]:=by simp only[bC,b5,f0,Bq]
  rw[b3];simp only[DU,BX];have z:∀ (j:Nat) (l:Leaf),(L++((bC d n p q ks ep O y.2).1.map (·.2)).flatten)[j]?=some l->(j<L.length/\L[j]?=some l)\/(L.length<=j/\(((bC d n p q ks ep O y.2).1.map (·.2)).flatten)[j-L.length]?=some l):=by
   intro j l H;by_cases M:j<L.length
   ·rw[BH M]at H;exact .inl ⟨M,H⟩
   ·rw[BG (by omega)]at H;exact .inr ⟨by omega,H⟩
  refine⟨b2,I++ab,λj=>if j<L.length then d1 j else d2 (j-L.length),⟨u0,a6,I,ab,rfl,rfl,g2.symm,g1,f1⟩,by rw[BR,BR,g2,f2],λu hu=>(BL.1 hu).elim (b6 u) (b0 u),λj l u H hu=>?_,λj l H ho k J=>?_,λj X l l' H ho Y a1 k J R=>?_⟩
  ·rcases z j l H with ⟨M,H⟩|⟨a5,H⟩
   ·rw[BH (by omega)]at hu;simp only[if_pos M];exact g3 j l u H hu
   ·rw[BG (by omega),<- g2]at hu;simp only[if_neg (show ¬ j<L.length by omega)];exact f3 _ l u H hu
  ·rcases z j l H with ⟨M,H⟩|⟨a5,H⟩
   ·simp only[if_pos M]at J;exact BJ _ (g4 j l H ho k J)
   ·simp only[if_neg (show ¬ j<L.length by omega)]at J;exact BE _ (f4 _ l H ho k J)
  ·rcases z j l H with ⟨M,H⟩|⟨a5,H⟩ <;> rcases z X l' Y with ⟨a3,Y⟩|⟨b9,Y⟩
   ·simp only[if_pos M]at J;simp only[if_pos a3]at R;exact g5 j X l l' H ho Y a1 k J R
   ·simp only[if_pos M]at J;simp only[if_neg (show ¬ X<L.length by omega)]at R;exact absurd rfl (a0.2.2 k (g4 j l H ho k J) k (f4 _ l' Y a1 k R))
   ·simp only[if_neg (show ¬ j<L.length by omega)]at J;simp only[if_pos a3]at R;exact absurd rfl (a0.2.2 k (g4 X l' Y a1 k R) k (f4 _ l H ho k J))
   ·simp only[if_neg (show ¬ j<L.length by omega)]at J;simp only[if_neg (show ¬ X<L.length by omega)]at R;have:=f5 _ _ l l' H ho Y a1 k J R;omega
theorem Bc {l:List (Bool×List Leaf)}{us cs:List Value}{v:Value}(n:Nat)(h:pu (l.map λx=>(x.1,x.2.length)) us cs)(H:sd us v) :
  ee (eN n l).sh v cs/\(eN n l).ls=(l.map (·.2)).flatten/\(eN n l).ver=n:=by
 match l,us,h with
 |[],_,⟨y,z⟩ =>
  subst y;subst z;exact⟨⟨[],H,rfl,rfl⟩,rfl,rfl⟩
 |[(agg,L)],_,⟨u,r,c,O,y,z,h1,X,Z,Y⟩ =>
  subst y;subst z;subst Z;subst Y;have H:v=u:=H;subst H;refine⟨?_,by simp[eN],rfl⟩;simp only[eN,Bq];exact j8 X
 |x::x'::l,us,h =>
  refine⟨?_,rfl,rfl⟩;have J:∃ u M r,us=u::M::r:=by
   obtain⟨u,r,_,_,y,_,_,_,R,I,_,_,z,_⟩:=h;exact⟨u,R,I,by rw[y,z]⟩
  obtain⟨u,M,r,rfl⟩:=J;exact⟨_,H,h⟩
end
section
variable {P:Program} {V:Env} {Γ:List Ctr} {st:St} {w:World} {a:Act}
theorem yS {pk:PK}{x:aH×List Leaf}{g:Got pk.den}(r:ce Γ st pk x=some g)(Y:pk.isIop=false):g.lend=[]:=by
 cases pk with
 |iop b=>simp[PK.isIop]at Y
 |rd b =>
  simp only[ce,bf]at r;cases u:decide (x.1=bg b.isAgg) with
  |false=>simp[u]at r
  |true=>rw[u]at r;simp only[cond_true,BB]at r;obtain⟨y,_,rfl⟩:=r;rfl
 |own b =>
  simp only[ce,bf]at r;cases u:decide (x.1=bg b.isAgg) with
  |false=>simp[u]at r
  |true=>rw[u]at r;simp only[cond_true,BB]at r;obtain⟨y,_,rfl⟩:=r;rfl
 |io b =>
  simp only[ce,bf]at r;cases u:decide (x.1=bg b.isAgg) with
  |false=>simp[u]at r
  |true=>rw[u]at r;simp only[cond_true,BB]at r;obtain⟨y,_,rfl⟩:=r;rfl
 |rref b=>exact cap (c:=(false,b)) r
 |rref2 b=>exact cap (c:=(true,b)) r
 |fn R B =>
  simp only[ce]at r;split at r
  ·unfold ku at r;split at r
   ·unfold rV at r;split at r
    ·rename_i c _ Z;cases u:(c.ps.drop R.length).all PK.reads&&B.flat&&c.fresh with
     |false=>rw[u]at r;cases r
     |true =>
      rw[u]at r;simp only[cond_true]at r;split at r
      ·simp only[BA]at r;subst r;rfl
      ·cases r
    ·cases r
   ·cases r
  ·simp only[bf]at r;split at r
   ·split at r
    ·simp only[BA]at r;subst r;rfl
    ·cases r
   ·cases r
 |hol b cc off =>
  simp only[ce,bf]at r;cases u:decide (x.1=bg b.isAgg) with
  |false=>simp[u]at r
  |true =>
   rw[u]at r;simp only[cond_true]at r;split at r
   ·split at r
    ·rename_i X _ _ _ _;cases z:BT X off with
     |false=>simp[z]at r
     |true =>
      rw[z]at r;simp only[cond_true]at r;split at r
      ·split at r
       ·simp only[BA]at r;subst r;rfl
       ·cases r
      ·cases r
    ·cases r
   ·cases r
 |clo f I =>
  simp only[ce,bf]at r;split at r
  ·rename_i J H _;cases u:BT J f with
   |false=>simp[u]at r
   |true=>rw[u]at r;exact caps_ r
  ·rename_i J H _;cases u:BT J f with
   |false=>simp[u]at r
   |true=>rw[u]at r;exact caps_ r
  ·cases r
where
 cap {c:Bool×Ty} {l:Leaf} {g:Got c.2.den} (r:fe st c l=some g):g.lend=[]:=by
  unfold fe at r;cases M:c.1 with
  |true =>
   rw[M]at r;simp only[cond_true]at r;split at r
   ·split at r
    ·simp only[BB]at r;obtain⟨y,_,rfl⟩:=r;rfl
    ·cases r
   ·cases r
  |false =>
   rw[M]at r;simp only[cond_false]at r;split at r
   ·simp only[BB]at r;obtain⟨y,_,rfl⟩:=r;rfl
   ·cases r
 caps_:∀ {I:List (Bool×Ty)} {O:List Leaf} {g:Got (lG I)},cB st I O=some g->g.lend=[]
  |[],[],g,r=>by simp only[cB,BA]at r;subst r;rfl
  |[],_::_,_,r=>by simp[cB]at r
  |_::_,[],_,r=>by simp[cB]at r
  |c::I,l::O,g,r=>by
   simp only[cB]at r;split at r
   ·split at r
    ·simp only[BA]at r;subst r;rfl
    ·cases r
   ·cases r
theorem tw:∀ (ps:List PK) (xs:List (aH×List Leaf)) (g:Got (ac ps)),a8 (ce Γ st) ps xs=some g->g.lend=[]->ps.any PK.isIop=false
 |[],_,_,_,_=>rfl
 |_::_,[],_,u,_=>by simp[a8]at u
 |J::ps,x::xs,g,u,y=>by
  simp only[a8]at u;split at u
  ·rename_i M r;split at u
   ·rename_i I z;simp only[BA]at u;subst u;simp only[List.append_eq_nil_iff]at y;rw[CQ,tw ps xs I z y.2,Bool.or_false];cases J with
    |iop b =>
     simp only[ce,bf]at r;split at r
     ·rename_i q _;cases H:decide ((st q).sh=.agg) with
      |false=>simp[H]at r
      |true =>
       rw[H]at r;simp only[cond_true,BB]at r;obtain⟨t,_,rfl⟩:=r;simp at y
     ·cases r
    |_=>rfl
   ·cases u
  ·cases u
theorem o7 {W0:Wit}{S0 S:St}{w0:World}{a0:Act}(h0:aq P V W0 S0 a0 w0){G:Nat->Prop}{p:Bool} :
  ∀ (ps:List PK) (xs:List (aH×List Leaf)) (vs:List Value) (g:Got (ac ps)) (o:ai ps) (u:List (List Nat)),gS P V W0 S0 w0 xs vs->a8 (ce Γ S0) ps xs=some g->ps.any PK.isIo=false->bL w G ps o vs u ->
  (g.lend=[]->aG S p ps xs o=[]/\u.flatten=[]) /\
  (∀ b,g.lend=[b]->∃ (c:Ty) (y:c.den) (cs:List Value) (E:TypeId) (Z:List Nat),aG S p ps xs o=[(b,⟨(S b).ver+2,.agg,ar p c y⟩)]/\w.heap[W0.β b]?=some (.cells cs.toArray E (0,0))/\Mx w G c none 0 y cs Z/\u.flatten=W0.β b::Z/\(S0 b).ls.length=c.cells)
 |[],[],vs,g,o,u,hx,O,_,X=>by
  simp only[a8,BA]at O;subst O;refine⟨λ_=>⟨rfl,?_⟩,λb hb=>by simp at hb⟩
  match vs,u,X with
  |[],[],_=>rfl
 |[],_::_,_,_,_,_,_,O,_,_=>by simp[a8]at O
 |_::_,[],_,_,_,_,_,O,_,_=>by simp[a8]at O
 |pk::ps,x::xs,vs,g,o,u,hx,O,hn,X=>by
  obtain⟨v,a1,cs,rfl,hs,hl,R⟩:=hx;simp only[a8]at O;split at O
  ·rename_i g1 J;split at O
   ·rename_i g2 a4;simp only[BA]at O;subst O;simp only[CQ,Cs]at hn;have z:∀ (o':ai ps) (b:List Nat) (I:List (List Nat)),pk.isIop=false->u=b::I->b=[]->bL w G ps o' a1 I->aG S p (pk::ps) (x::xs) o=aG S p ps xs o' ->
      (g1.lend++g2.lend=[]->aG S p (pk::ps) (x::xs) o=[]/\u.flatten=[]) /\
      (∀ b,g1.lend++g2.lend=[b]->∃ (c:Ty) (y:c.den) (cs:List Value) (E:TypeId) (Z:List Nat),aG S p (pk::ps) (x::xs) o=[(b,⟨(S b).ver+2,.agg,ar p c y⟩)]/\w.heap[W0.β b]?=some (.cells cs.toArray E (0,0))/\Mx w G c none 0 y cs Z/\u.flatten=W0.β b::Z/\(S0 b).ls.length=c.cells):=by
     intro o' b I hi e1 e2 a9 e3;subst e1;subst e2;rw[e3,yS J hi];simpa using o7 h0 (S:=S) (p:=p) ps xs a1 g2 o' I R a4 hn.2 a9
    cases pk with
    |iop b =>
     match u,X with
     |M::I,⟨r,H⟩ =>
      obtain⟨r1,r2⟩:=o7 h0 (S:=S) (p:=p) ps xs a1 g2 o.2 I R a4 hn.2 H;simp only[ce,bf]at J;split at J
      ·rename_i q hq;cases hb:decide ((S0 q).sh=.agg) with
       |false=>simp[hb]at J
       |true =>
        rw[hb]at J;simp only[cond_true,BB]at J;obtain⟨t,ht,rfl⟩:=J;refine⟨λhb=>by simp at hb,λb' Y=>?_⟩;simp only[Cl,CT]at Y;obtain⟨rfl,Y⟩:=Y;obtain⟨r3,r4⟩:=r1 Y;obtain⟨a6,_⟩:=gQ hs hl hq (by simp);unfold jn at r;rw[if_pos rfl]at r;obtain⟨g',a3,E,Z,hv,a2,hm,rfl⟩:=r;have a5:g'=W0.β q:=by
         have h9:=a6.2.2;rw[hv]at h9;simp only[Value.pointer.injEq,BA,CZ,and_true]at h9;exact h9
        subst a5;refine⟨b,o.1,a3,E,Z,?_,a2,hm,by rw[BX,r4,Bq],?_⟩
        rotate_left
        ·rw[h0.len];exact (dO (pos:=0) h0 (iA h0 q) ht).1.len
        simp only[aG,r3,hq,Bq];rfl
      ·cases J
    |io b=>simp[PK.isIo]at hn
    |rd b =>
     match u,X with
     |M::I,⟨r,H⟩=>exact z o M I rfl rfl r H rfl
    |own b =>
     match u,X with
     |M::I,⟨r,H⟩=>exact z o M I rfl rfl r H rfl
    |rref b =>
     match u,X with
     |M::I,⟨r,H⟩=>exact z o M I rfl rfl r H rfl
    |rref2 b =>
     match u,X with
     |M::I,⟨r,H⟩=>exact z o M I rfl rfl r H rfl
    |fn As B =>
     match u,X with
     |M::I,⟨r,H⟩=>exact z o M I rfl rfl r H rfl
    |clo f a3 =>
     match u,X with
     |M::I,⟨r,H⟩=>exact z o M I rfl rfl r H rfl
    |hol b cc off =>
     match u,X with
     |M::I,⟨r,H⟩=>exact z o M I rfl rfl r H rfl
   ·cases O
  ·cases O
end
section
variable {P:Program} {V:Env}
theorem wg (hV:ay V){W:Wit}{S:St}{a:Act}{w:World}(h:aq P V W S a w){M:List RK}{y:aj M}{us:List Value}{Y:List (List Nat)}{v:Value}{p q:Bool}{ks:List (Nat×Nat×Nat)}{ep:Nat}{G ro:Nat->Prop}
  (a0:gy w G ro M y us Y) (hG:∀ k,G k->gd V W p k)
  (hB:M.any RK.isBv=true->(∀ k,G k\/ro k->gd V W q k\/∃ x∈ks,k∈W.bs x.1 x.2.1)/\ep<=(S EPO).ver/\(∀ k∈ks,k.2.2<=(S k.1).ver))
  (H:∀ k∈Y.flatten,¬ cf V W S k) (a4:Y.flatten.Nodup) (J:sd us v) {d:Nat} (hd:d<V.nt) (Z:∀ x∈V.fixt,x.1≠d) (r:gF S d M=true) :
  ∃ W1,aq P V W1 (ae ((d,eN ((ae (bC d (S (B0+d)).ver p q ks ep M y).2 S d).ver+1) (bC d (S (B0+d)).ver p q ks ep M y).1)::(bC d (S (B0+d)).ver p q ks ep M y).2) S) (a.put (some d) v) w /\
   ∀ z,z≠d->z≠B0+d->W1.cs z=W.cs z:=by
 cases hv:M.all RK.isV with
 |true =>
  obtain⟨m0,cs,a1,m1,m2,m3,m4,m5,m6⟩:=ot (P:=P) (W:=W) (st:=S) (p:=p) (q:=q) (ks:=ks) (ep:=ep) hG d (S (B0+d)).ver M y us Y hB a0 hv a4;rw[m0];obtain⟨s1,s2,s3⟩:=Bc ((S d).ver+1) m1 J;show ∃ W1,aq P V W1 (ae [(d,eN ((S d).ver+1) (bC d (S (B0+d)).ver p q ks ep M y).1)] S) (a.put (some d) v) w/\_;generalize eN ((S d).ver+1) (bC d (S (B0+d)).ver p q ks ep M y).1=rc at s1 s2 s3 ⊢;obtain⟨v0,b5,ba⟩:=rc;simp only at s1 s2 s3;subst s3;subst s2;have a5:=h.put hV d hd Z ((S d).ver+1) b5 _ v cs a1 (BM _) s1 m2 m3 m4
   (λj l R ho k X=>by
    have a6:=m5 j l R ho k X;have I:=H k a6;simp only[cf,not_or,not_exists,not_and]at I;exact⟨I.1,I.2.1,I.2.2.1,λr1 j1 l1 _ h8 h9=>I.2.2.2 r1 j1 l1 h8 h9⟩) m6
  refine⟨_,a5,λz hz _=>?_⟩;show (if z=d then cs else W.cs z)=_;rw[if_neg hz]
 |false =>
  have hb:∃ b,M=[.box b]:=by
   unfold gF at r;split at r
   ·exact⟨_,rfl⟩
   ·rw[hv]at r;cases r
  obtain⟨b,rfl⟩:=hb;obtain⟨u0,b9,rb,b6,e1,e2,⟨g',cs,E,b0,ab,ad,hm,b3⟩,e3,e4⟩:=a0;subst e3;subst e4;subst e1;subst e2;subst b3;have J:v=u0:=J;subst J;subst ab;have a2:(S (B0+d)).sh=.off:=by simpa[gF]using r
  have O:(g'::b0).Nodup:=by simpa using a4
  rw[CB]at O;obtain⟨a1,m1,m2,m3,m4⟩:=iJ (P:=P) (V:=V) (W:=W) (st:=S) (p:=p) hG hm O.2;have a3:d≠B0+d:=by simp[B0]
  have b2:=H g' (by simp);have a9:=h.setBoxG hV (B0+d) (CP _ _) ((S (B0+d)).ver+1) (ar p b y.1) cs a1 g' E (w':=w) (BM _)
   (.inr ⟨by simp[live,a2],b2,λj l R ho k X e0=>O.1 (by rw[<- e0];exact m3 j l R ho k X)⟩) ad (λ_ _ _=>rfl) (λ_ _ _ _ _ _ _=>rfl) (BU _) rfl rfl rfl m1 hm.one m2
   (λj l R ho k X=>by
    have I:=H k (by simp;exact .inr (m3 j l R ho k X));simp only[cf,not_or,not_exists,not_and]at I;exact⟨I.1,I.2.1,I.2.2.1,λr1 j1 l1 _ h8 h9=>I.2.2.2 r1 j1 l1 h8 h9⟩) m4
  have b1:=a9.put hV d hd Z ((S d).ver+1) .one [.bp (B0+d) 0] (.pointer (some ⟨g',0,none⟩)) [.pointer (some ⟨g',0,none⟩)] (λ_=>[]) (by rw[aI a3];exact BM _) rfl rfl (λu I=>by simp at I;subst I;rfl)
   (λj l u R g9=>by
    cases j with
    |zero=>simp at R g9;subst R;subst g9;exact⟨CP _ _,by rw[bh],by simp⟩
    |succ j=>simp at R)
   (λj l R ho k X=>by simp at X) (λj j' l l' _ _ _ _ k X=>by simp at X)
  have e1:ae (bC d (S (B0+d)).ver p q ks ep [.box b] y).2 S=ae [(B0+d,⟨(S (B0+d)).ver+1,.agg,ar p b y.1⟩)] S:=rfl;rw[aP,e1,aI a3];refine⟨_,b1,λz hz b4=>?_⟩;show (if z=d then _ else (if z=B0+d then _ else W.cs z))=_;rw[if_neg hz,if_neg b4]
theorem ux (r:Nat)(c u:bT)(S:St):ae [(r,c)] (ae [(r,u)] S)=ae [(r,c)] S:=by
 funext q;rcases an r q c (ae [(r,u)] S) with ⟨rfl,e⟩|⟨h,e⟩
 ·rw[e,bh]
 ·rw[e,aI h,aI h]
theorem yT (hV:ay V){W:Wit}{S:St}{a:Act}{w w':World}(h:aq P V W S a w){b:Nat}(hb:live S b){N:Nat->Prop}{cs:List Value}{E:TypeId}{c:Ty}{y:c.den}{b0:List Nat}{G:Nat->Prop}{p:Bool}
  (a1:w'.heap[W.β b]?=some (.cells cs.toArray E (0,0))) (hm:Mx w' G c none 0 y cs b0) (a4:(W.β b::b0).Nodup) (a6:(S b).ls.length=c.cells)
  (Z:∀ k,cf V W S k->k≠W.β b->w'.heap[k]?=w.heap[k]?) (ad:w.heap.size<=w'.heap.size) (ab:w'.os=w.os) (ht:w'.tape=w.tape) (ho:w'.output=w.output)
  (hN:∀ k,N k->k<w'.heap.size/\¬ cf V W S k) (a2:∀ k∈b0,¬ cf V W S k/\¬ N k) (hG:∀ k,G k->gd V { W with nw:=λk=>W.nw k\/N k } p k) :
  ∃ W1,aq P V W1 (ae [(b,⟨(S b).ver+2,.agg,ar p c y⟩)] S) a w'/\W1.β=W.β/\(∀ k,W1.nw k<->W.nw k\/N k)/\(∀ q,q≠b->W1.cs q=W.cs q)/\(∀ q i,q≠b->W1.bs q i=W.bs q i) /\
   (∀ k,cf V W1 (ae [(b,⟨(S b).ver+2,.agg,ar p c y⟩)] S) k->cf V W S k\/N k\/k∈b0):=by
 have J:∀ (q:Nat),(if q=b then W.β b else W.β q)=W.β q:=λq=>by split <;> simp_all
 have h1:=h.setBoxG hV b hb.1 ((S b).ver+1) (B9 cs.length .dead) cs (λ_=>[]) (W.β b) E (w':=w') (BM _) (.inl ⟨hb,rfl⟩) a1 Z (λ_ _ _ _ k H=>by simp at H) ad ab ht ho (by simp) hm.one
  (λj l u I R=>by
   rw[CL]at I;split at I
   ·simp at I;subst I;trivial
   ·cases I)
  (λj l I R k H=>by simp at H) (λj j' l l' _ _ _ _ k H=>by simp at H)
 have a0:∀ (j:Nat) (l:Leaf),(B9 cs.length Leaf.dead)[j]?=some l->¬ ap l:=by
  intro j l I;rw[CL]at I;split at I
  ·simp at I;subst I;exact id
  ·cases I
 have a5:∀ z,live (ae [(b,⟨(S b).ver+1,.agg,B9 cs.length .dead⟩)] S) z->live S z:=by
  intro z X;rcases an b z ⟨(S b).ver+1,.agg,B9 cs.length .dead⟩ S with ⟨rfl,e⟩|⟨_,e⟩
  ·exact hb
  ·exact⟨X.1,by rw[<- e];exact X.2⟩
 have a9:∀ k,cf V { W with β:=λr=>if r=b then W.β b else W.β r,cs:=λr=>if r=b then cs else W.cs r,bs:=λr j=>if r=b then [] else W.bs r j } (ae [(b,⟨(S b).ver+1,.agg,B9 cs.length .dead⟩)] S) k->cf V W S k:=by
  rintro k (H|H|⟨z,X,H⟩|⟨z,i,l,I,R,O⟩)
  ·exact .inl H
  ·exact .inr (.inl H)
  ·exact .inr (.inr (.inl ⟨z,a5 z X,by rw[<- H];exact (J z).symm⟩))
  ·by_cases M:z=b
   ·subst M;rw[bh]at I;exact absurd R (a0 i l I)
   ·rw[aI M]at I;simp only[if_neg M]at O;exact .inr (.inr (.inr ⟨z,i,l,I,R,O⟩))
 have h2:=h1.nwGrow hV N (λk H=>⟨(hN k H).1,λhu=>(hN k H).2 (a9 k hu)⟩);rw[CB]at a4;obtain⟨Y,m1,m2,m3,m4⟩:=iJ (P:=P) (V:=V) (W:={ W with β:=λr=>if r=b then W.β b else W.β r,cs:=λr=>if r=b then cs else W.cs r,bs:=λr j=>if r=b then [] else W.bs r j,nw:=λk=>W.nw k\/N k })
  (st:=ae [(b,⟨(S b).ver+1,.agg,B9 cs.length .dead⟩)] S) (p:=p) (λk H=>hG k H) hm a4.2
 have b3:=hm.len;have b2:=cJ p c y;have h3:=h2.reown hV b ⟨(S b).ver+2,.agg,ar p c y⟩ Y (by rw[bh];exact BM _) (by rw[bh]) (by rw[bh,Cm];omega)
  (λj l v I R=>m2 j l v I (by simpa using R))
  (λj l I R k H=>by
   have b1:=m3 j l I R k H;obtain⟨q1,q2⟩:=a2 k b1;refine⟨λhn=>hn.elim (λhn=>q1 (.inl hn)) q2,λhp=>q1 (.inr (.inl hp)),λz X e0=>q1 (.inr (.inr (.inl ⟨z,a5 z X,by rw[<- e0];exact (J z).symm⟩))),λr1 j1 l1 a3 O g4 g5=>?_⟩;rw[aI a3]at O;have g5:k∈(if r1=b then [] else W.bs r1 j1):=g5;rw[if_neg a3]at g5;exact q1 (.inr (.inr (.inr ⟨r1,j1,l1,O,g4,g5⟩)))) m4
 rw[ux]at h3;refine⟨_,h3,funext λq=>J q,λk=>Cf,λq hq=>if_neg hq,λq i hq=>?_,?_⟩
 ·show (if q=b then Y i else if q=b then [] else W.bs q i)=_;rw[if_neg hq,if_neg hq]
 ·rintro k ((H|H)|H|⟨z,X,H⟩|⟨z,i,l,I,R,O⟩)
  ·exact .inl (.inl H)
  ·exact .inr (.inl H)
  ·exact .inl (.inr (.inl H))
  ·refine .inl (.inr (.inr (.inl ⟨z,?_,by rw[<- H];exact (J z).symm⟩)));rcases an b z ⟨(S b).ver+2,.agg,ar p c y⟩ S with ⟨rfl,e⟩|⟨_,e⟩
   ·exact hb
   ·exact⟨X.1,by rw[<- e];exact X.2⟩
  ·by_cases M:z=b
   ·subst M;rw[bh]at I;have O:k∈(if z=z then Y i else _):=O;rw[if_pos rfl]at O;exact .inr (.inr (m3 i l I R k O))
   ·rw[aI M]at I;have O:k∈(if z=b then Y i else if z=b then [] else W.bs z i):=O;rw[if_neg M,if_neg M]at O;exact .inl (.inr (.inr (.inr ⟨z,i,l,I,R,O⟩)))
end
section
variable {P:Program} {V:Env} {Γ:List Ctr} {st:St} {R:Type}
theorem gA:∀ (ps:List PK) (xs:List (aH×List Leaf)) (r:Upd->List (aH×List Leaf)->Option (Bool×Nat×Nat)->Option R),kv st ps xs r=(cX st ps xs).bind λu=>r u.1 u.2.1 u.2.2
 |[],xs,r=>rfl
 |_::_,[],r=>rfl
 |p::ps,x::xs,r=>by
  simp only[kv,cX];split
  ·rw[gZ];cases cm st (x.2.getD _ .dead) <;> rfl
  ·rw[gA ps xs];cases cX st ps xs <;> rfl
theorem kZ {a:Ty}:∀ {ls:List Leaf} {j k:Nat},ll a j ls=some k->j<=k/\∃ l,ls[k-j]?=some l/\jj l=true
 |[],_,_,h=>by simp[ll]at h
 |l::ls,j,k,h=>by
  simp only[ll]at h;cases r:jj l&&po a j with
  |true =>
   rw[r]at h;simp only[cond_true,BA]at h;subst h;simp only[BC]at r;exact⟨BU _,l,by simp,r.1⟩
  |false =>
   rw[r]at h;obtain⟨H,z,y,u⟩:=kZ h;exact⟨by omega,z,by rw[show k-j=(k-(j+1))+1 by omega];simpa using y,u⟩
theorem ru {p:PK}{ls:List Leaf}{k:Nat}(h:p.nest ls=some k):∃ l,ls[k]?=some l/\jj l=true:=by
 cases p with
 |own a=>obtain⟨_,l,r,u⟩:=kZ h;exact⟨l,by simpa using r,u⟩
 |io a=>obtain⟨_,l,r,u⟩:=kZ h;exact⟨l,by simpa using r,u⟩
 |_=>simp[PK.nest]at h
theorem tx (z:ay V){W W':Wit}{st':St}{w w':World}(u:cF V W W' st st' w w'):∀ {xs:List (aH×List Leaf)} {y:List Value},gS P V W st w xs y->gS P V W' st' w' xs y
 |[],_,h=>h
 |_::_,_,⟨v,r,J,e,I,M,H⟩=>⟨v,r,J,e,I,M.carry z.ro u,tx z u H⟩
theorem aD.setLeaf {W:Wit}{w:World}{ls:List Leaf}{cs:List Value}(H:aD P V W st w ls cs){k:Nat}{l:Leaf}(u:¬ ap l)(h:∀ v,cs[k]?=some v->aJ P V W st w [] l v):aD P V W st w (aT ls k l) cs:=by
 have r:=H.length;refine aD.mk (by simp[aT,r]) λj J v y z=>?_
 rcases aR _ _ _ _ _ y with ⟨rfl,rfl,M⟩|⟨I,y⟩
 ·exact⟨h v z,u,H.one' v (List.mem_of_getElem? z)⟩
 ·exact H.at_ j J v y z
def Bd (W:Wit)(S:St)(w:World):Option (Bool×Nat×Nat)->Prop
 |some (_,r,j)=>∃ v,W.cs TMP=[v]/\tr W S w r j v
 |none=>True
theorem ou (hV:ay V){W:Wit}{a:Act}{w:World}(h:aq P V W st a w):∀ (ps:List PK) (xs:List (aH×List Leaf)) (X:List Value) (U:Upd) (Z:List (aH×List Leaf)) (b:Option (Bool×Nat×Nat)),
  gS P V W st w xs X->cX st ps xs=some (U,Z,b)->∃ H,aq P V H (ae U st) a w/\gS P V H (ae U st) w Z X/\H.nw=W.nw/\H.β=W.β/\Bd H (ae U st) w b/\cF V W H st (ae U st) w w/\(∀ q,(ae U st q).sh=(st q).sh\/q=TMP) /\
   (∀ f r j,b=some (f,r,j)->f=true->ps.any PK.isIo=true)
 |[],xs,X,U,Z,b,hx,y=>by
  simp only[cX,BA,B3]at y;obtain⟨rfl,rfl,rfl⟩:=y;exact⟨W,h,hx,rfl,rfl,trivial,cF.refl V W st w,λ_=>.inl rfl,λ_ _ _ h=>by cases h⟩
 |_::_,[],X,U,Z,b,hx,y=>by
  simp only[cX,BA,B3]at y;obtain⟨rfl,rfl,rfl⟩:=y;exact⟨W,h,hx,rfl,rfl,trivial,cF.refl V W st w,λ_=>.inl rfl,λ_ _ _ h=>by cases h⟩
 |p::ps,x::xs,X,U,Z,b,⟨v,J,cs,e,hs,hl,z⟩,y=>by
  subst e;simp only[cX]at y;split at y
  ·rename_i k hk;simp only[BB]at y;obtain⟨u,I,y⟩:=y;simp only[B3]at y;obtain⟨rfl,rfl,rfl⟩:=y;obtain⟨l,M,a1⟩:=ru hk;have hg:x.2.getD k .dead=l:=by rw[B5,M];rfl
   rw[hg]at I ⊢;have a0:k<cs.length:=by rw[<- hl.length];exact (BD.1 M).1
   have O:=BS a0;obtain⟨U,l'⟩:=u;obtain⟨H,n,p0,E0,e0,a2,g1,Y,g3,g4,_,_,g5,g6,_,g7,g8,g9⟩:=uX hV h (hl.at_ k l _ M O).1 I;subst g3;refine⟨H,g1,⟨v,J,cs,rfl,hs,(hl.carry hV.ro Y).setLeaf id λu I=>?_,tx hV Y z⟩,g5,g6,⟨_,g7,g9⟩,Y,g8,λf r j hb hf=>?_⟩
   ·rw[O]at I;simp only[BA]at I;subst I;exact g4
   ·simp only[BA,B3]at hb;rw[CQ,hb.1,hf];rfl
  ·simp only[BB]at y;obtain⟨u,I,y⟩:=y;simp only[B3]at y;obtain⟨rfl,rfl,rfl⟩:=y;obtain⟨H,g1,Y,g3,g4,g5,g6,g7,g8⟩:=ou hV h ps xs J u.1 u.2.1 u.2.2 z I;exact⟨H,g1,⟨v,J,cs,rfl,hs,hl.carry hV.ro g6,Y⟩,g3,g4,g5,g6,g7,λf r j hb hf=>by rw[CQ,g8 f r j hb hf,Bool.or_true]⟩
end
section
variable {P:Program} {V:Env} {Γ:List Ctr} {st:St}
theorem iK {st:St}{q i:Nat}:∀ {ks:List (Nat×Nat)},(q,i)∉ks->(ae (aF st ks) st q).ls[i]?=(st q).ls[i]?
 |[],_=>rfl
 |(r,j)::ks,h=>by
  simp only[CI,not_or]at h;have e:ae (aF st ((r,j)::ks)) st=ae [(r,fU (ae (aF st ks) st r) j)] (ae (aF st ks) st):=aP _ _ _ _;rw[e];rcases an r q (fU (ae (aF st ks) st r) j) (ae (aF st ks) st) with ⟨rfl,e⟩|⟨_,e⟩
  ·rw[e];simp only[fU,aT];rw[CF (λu=>h.1 (by rw[u]))];exact iK h.2
  ·rw[e];exact iK h.2
theorem k6 {st:St}{q i:Nat}:∀ {ks:List (Nat×Nat)},(q,i)∉ks->(ae (aN st ks) st q).ls[i]?=(st q).ls[i]?
 |[],_=>rfl
 |(r,j)::ks,h=>by
  simp only[CI,not_or]at h;have e:ae (aN st ((r,j)::ks)) st=ae [(r,fZ (ae (aN st ks) st r) j)] (ae (aN st ks) st):=aP _ _ _ _;rw[e];rcases an r q (fZ (ae (aN st ks) st r) j) (ae (aN st ks) st) with ⟨rfl,e⟩|⟨_,e⟩
  ·rw[e];simp only[fZ,aT];rw[CF (λu=>h.1 (by rw[u]))];exact k6 h.2
  ·rw[e];exact k6 h.2
theorem ng (d n:Nat)(p q:Bool)(ks:List (Nat×Nat×Nat))(ep:Nat):∀ (z:List RK) (y:aj z),∀ x∈(bC d n p q ks ep z y).2,x.1=B0+d
 |[],_,x,u=>by simp[bC]at u
 |r::z,y,x,u=>by
  simp only[bC,BL]at u;rcases u with u|u
  ·cases r <;> simp[pn]at u;rw[u]
  ·exact ng d n p q ks ep z y.2 x u
theorem rv {q:Nat}(st:St):∀ (U:Upd),(∀ x∈U,x.1≠q)->ae U st q=st q
 |[],_=>rfl
 |(r,c)::U,h=>by
  rw[aP,aI (CG (h (r,c) (BW ..)))];exact rv st U (λx u=>h x (BP _ u))
def mn (u:St)(c:Ctr)(d:Nat)(xs:List (aH×List Leaf))(g:Got (ac c.ps))(y:aj c.rs×ai c.ps):Upd :=
 let H:=(let U:=(bif c.fresh then [] else aF u g.frz);aN (ae U u) g.kill++U);let z:=aG (ae H u) (g.p&&!c.fresh) c.ps xs y.2++H;let r:=bC d (ae z u (B0+d)).ver (g.p&&!c.fresh) g.p (g.frz.map λk=>(k.1,k.2,(ae z u k.1).ver)) (ae z u EPO).ver c.rs y.1
 (d,eN ((ae (r.2++z) u d).ver+1) r.1)::(r.2++z)
theorem yU (hV:ay V){W0:Wit}{u:St}{a:Act}{w:World}(h0:aq P V W0 u a w){c:Ctr}{xs:List (aH×List Leaf)}{vs:List Value}(cw:gS P V W0 u w xs vs){g:Got (ac c.ps)}(hg:a8 (ce Γ u) c.ps xs=some g)
  (hf:∀ z∈g.frz,aC u z) (H:∀ z∈g.kill,aC u z) (f0:∀ b∈g.lend,live u b) (d2:aY g.kill=true) (dd:dD g.frz g.kill=true) (hE:∀ z∈g.kill,z.1≠EPO) (b3:g.lend.length<=1) (et:g.lend=[]\/c.ps.any PK.isIo=false)
  {b5:List (List Nat)} (bb:∀ k,b5.flatten.count k=(g.lend.map W0.β).count k+(aX W0 g.kill).count k)
  {d:Nat} (hd:d<V.nt) (eg:∀ x∈V.fixt,x.1≠d) (a5:gF u d c.rs=true) (d1:((c.fresh&&g.lend.isEmpty)||!(c.rs.any RK.isBv))=true) {y:aj c.rs×ai c.ps} {e:Ending} {w':World} (c4:tt c w (bj V W0 g.p g.frz) vs b5 y e w') :
  ∃ v,e=.returned v/\∃ W1,aq P V W1 (ae (mn u c d xs g y) u) (a.put (some d) v) w'/\(∀ q,q≠d->q≠B0+d->q∉g.lend->W1.cs q=W0.cs q) /\
   (∀ q i,q≠d->q≠B0+d->q∉g.lend->(q,i)∉g.frz->(q,i)∉g.kill->(ae (mn u c d xs g y) u q).ls[i]?=(u q).ls[i]?)/\(∀ k,k<w.heap.size->k∉aX W0 g.kill->k∉g.lend.map W0.β->w'.heap[k]?=w.heap[k]?)/\w.heap.size<=w'.heap.size:=by
 obtain⟨v,us,N,c5,ba,rfl,cy,c6,d3,e4,ed,ev,hN,bn,eb,Y,a0⟩:=c4;have a4:∀ k,k∈b5.flatten<->k∈g.lend.map W0.β\/k∈aX W0 g.kill:=λk=>by
  rw[<- BK,<- BK,<- BK,bb k];omega
 have Z:∀ k,k<w.heap.size->k∉aX W0 g.kill->k∉g.lend.map W0.β->w'.heap[k]?=w.heap[k]?:=λk h1 h2 h3=>ev k h1 (λh=>((a4 k).1 h).elim h3 h2)
 refine⟨v,rfl,?_⟩;unfold mn;generalize b6:(bif c.fresh then [] else g.frz)=O;have hU:(bif c.fresh then [] else aF u g.frz)=aF u O:=by rw[<- b6];cases c.fresh <;> rfl
 have dc:dD O g.kill=true:=by rw[<- b6];cases c.fresh with|true=>rfl|false=>exact dd
 have bl:∀ z∈O,z∈g.frz:=by rw[<- b6];cases c.fresh with|true=>simp|false=>exact λ_ h=>h
 have f2:∀ z∈O,aC u z:=λz hz=>hf z (bl z hz)
 rw[hU];obtain⟨h1,h2,h3,h4⟩:=fD hV h0 dc H;have ad:∀ q i,(q,i)∉g.frz->(q,i)∉g.kill->(ae (aN (ae (aF u O) u) g.kill++aF u O) u q).ls[i]?=(u q).ls[i]?:=λq i q1 q2=>by
  rw[bA,k6 q2,iK (λh=>q1 (bl _ h))]
 generalize f1:aN (ae (aF u O) u) g.kill++aF u O=I at h1 h2 h3 h4 ad;have a1:∀ k∈aX W0 g.kill,¬ cf V (W0.frz u O) (ae I u) k:=λk H=>mi ⟨(h4 k H).1,(h4 k H).2.1,(h4 k H).2.2.2.1,(h4 k H).2.2.2.2⟩
 have a2:∀ k,pZ w w' b5.flatten k->k∉g.lend.map W0.β->k<w'.heap.size/\¬ cf V (W0.frz u O) (ae I u) k:=by
  rintro k ⟨en,a9⟩ es;refine⟨en,λJ=>?_⟩;rcases a9 with a9|a9
  ·have:=h1.used_lt k J;omega
  ·exact ((a4 k).1 a9).elim es (λa9=>a1 k a9 J)
 have hG:∀ k,(N k\/(c.fresh=false/\bj V W0 g.p g.frz k))->gd V { W0.frz u O with nw:=λk=>(W0.frz u O).nw k\/N k } (g.p&&!c.fresh) k:=by
  rintro k (H|⟨ef,H⟩)
  ·exact .inl (.inr H)
  ·have e1:O=g.frz:=by rw[<- b6,ef];rfl
   have:=kg (V:=V) (W:=W0) (p:=g.p) hf k H;rw[ef];rw[<- e1]at this;exact bU (W':={ W0.frz u O with nw:=λk=>(W0.frz u O).nw k\/N k }) (by intro h;simp[h]) (λ_ h=>Or.inl h) k this
 rw[B7]at Y;have cp:∀ (W2:Wit),aq P V W2 (ae (aG (ae I u) (g.p&&!c.fresh) c.ps xs y.2++I) u) a w'->(∀ k,(N k\/(c.fresh=false/\bj V W0 g.p g.frz k))->gd V W2 (g.p&&!c.fresh) k) ->
   (∀ k∈ba.flatten,¬ cf V W2 (ae (aG (ae I u) (g.p&&!c.fresh) c.ps xs y.2++I) u) k) ->
   (c.rs.any RK.isBv=true->∀ x∈g.frz,∀ k,k∈W0.bs x.1 x.2->k∈W2.bs x.1 x.2)->(c.rs.any RK.isBv=true->∀ k,W0.nw k->W2.nw k) ->
   (∀ q,q∉g.lend->W2.cs q=W0.cs q)->(∀ q i,q∉g.lend->(q,i)∉g.frz->(q,i)∉g.kill->(ae (aG (ae I u) (g.p&&!c.fresh) c.ps xs y.2++I) u q).ls[i]?=(u q).ls[i]?) ->
   (∀ q,(ae (aG (ae I u) (g.p&&!c.fresh) c.ps xs y.2++I) u q).sh=(u q).sh) ->
   ∃ W1,aq P V W1 (ae (let R:=aG (ae I u) (g.p&&!c.fresh) c.ps xs y.2++I
     let r:=bC d (ae R u (B0+d)).ver (g.p&&!c.fresh) g.p (g.frz.map λk=>(k.1,k.2,(ae R u k.1).ver)) (ae R u EPO).ver c.rs y.1
     (d,eN ((ae (r.2++R) u d).ver+1) r.1)::(r.2++R)) u) (a.put (some d) v) w'/\(∀ q,q≠d->q≠B0+d->q∉g.lend->W1.cs q=W0.cs q) /\
    (∀ q i,q≠d->q≠B0+d->q∉g.lend->(q,i)∉g.frz->(q,i)∉g.kill->(ae (let R:=aG (ae I u) (g.p&&!c.fresh) c.ps xs y.2++I
     let r:=bC d (ae R u (B0+d)).ver (g.p&&!c.fresh) g.p (g.frz.map λk=>(k.1,k.2,(ae R u k.1).ver)) (ae R u EPO).ver c.rs y.1
     (d,eN ((ae (r.2++R) u d).ver+1) r.1)::(r.2++R)) u q).ls[i]?=(u q).ls[i]?):=by
  intro W2 g1 e7 a3 ec e6 e0 bx c0;generalize aG (ae I u) (g.p&&!c.fresh) c.ps xs y.2++I=R at g1 a3 bx c0 ⊢;have cb:gF (ae R u) d c.rs=true:=by
   unfold gF at a5 ⊢;split at a5
   ·rw[c0];exact a5
   ·exact a5
  obtain⟨W1,q1,q2⟩:=wg hV g1 (q:=g.p) (ks:=g.frz.map λk=>(k.1,k.2,(ae R u k.1).ver)) (ep:=(ae R u EPO).ver) eb e7 (λhb=>by
   refine⟨λk H=>?_,BU _,λk H=>?_⟩
   ·rcases H with H|(H|H)|⟨x,hx,H⟩
    ·exact .inl (bU (W':=W2) (by intro h;simp at h;exact h.1) (λ_ h=>h) k (e7 k H))
    ·exact .inl (.inl (e6 hb k H))
    ·exact .inl (.inr H)
    ·exact .inr ⟨(x.1,x.2,(ae R u x.1).ver),Ci.2 ⟨x,hx,rfl⟩,ec hb x hx k H⟩
   ·obtain⟨x,hx,rfl⟩:=Ci.1 H;exact BU _) a3 Y.2.1 cy hd eg cb
  have e1:∀ (X:Upd) (C:bT),ae ((d,C)::(X++R)) u=ae ((d,C)::X) (ae R u):=λX C=>by
   rw[aP d C (X++R),aP d C X,bA]
  simp only[e1,bA];refine⟨W1,q1,λq hq c2 c1=>(q2 q hq c2).trans (e0 q c1),λq i hq c2 c1 ab a6=>?_⟩;rw[aP,aI hq,rv _ _ (λx hx=>by rw[ng _ _ _ _ _ _ _ _ x hx];exact CG c2)];exact bx q i c1 ab a6
 refine (?_:∃ W1,_/\_/\_).imp λW1 hh=>⟨hh.1,hh.2.1,hh.2.2,Z,c6⟩
 cases M:g.lend with
 |nil =>
  rw[M]at a4 Z a2 bb;simp only[Cz,List.not_mem_nil,not_false_iff,true_implies,forall_const,false_or]at a4 Z a2;rw[M]at cp;have h5:=h1.world hV c6 d3 e4 ed (λk H=>Z k (h1.used_lt k H) (λhm=>a1 k hm H));have h6:=h5.nwGrow hV N (λk H=>a2 k (hN k H));have cc:∀ k,cf V { W0.frz u O with nw:=λk=>(W0.frz u O).nw k\/N k } (ae I u) k->cf V (W0.frz u O) (ae I u) k\/N k:=by
   rintro k ((H|H)|H|H|H)
   ·exact .inl (.inl H)
   ·exact .inr H
   ·exact .inl (.inr (.inl H))
   ·exact .inl (.inr (.inr (.inl H)))
   ·exact .inl (.inr (.inr (.inr H)))
  have b4:∀ k∈c5.flatten++ba.flatten,¬ cf V { W0.frz u O with nw:=λk=>(W0.frz u O).nw k\/N k } (ae I u) k:=λk H J=>by
   obtain⟨q1,q2⟩:=a0 k H;rcases cc k J with J|J
   ·exact (a2 k q1).2 J
   ·exact q2 J
  obtain⟨W2,g1,g2,g3,g4,g5,g6,g7⟩:=qF (Γ:=Γ) hV (W0:=W0) (W:={ W0.frz u O with nw:=λk=>(W0.frz u O).nw k\/N k }) (p:=g.p&&!c.fresh) rfl hG h6 c.ps xs vs g y.2 c5 cw hg (tw c.ps xs g hg M) bn d2 hE
   (λx hx l hl ho=>(h2 x.1 x.2 l hl ho).2.2 hx) (λk H=>b4 k (BJ _ H)) Y.1
  rw[<- bA]at g1 g5 g6 g7;refine cp W2 g1 (λk H=>?_) (λk H J=>?_) (λhb x hx k H=>?_) (λhb k H=>?_) (λq _=>by rw[g2];rfl) (λq i _ ab a6=>(g6 q i a6).1.trans (ad q i ab a6)) (λq=>(g5 q).1.trans (h3 q).1)
  ·rcases hG k H with H|H
   ·exact .inl (by rw[g4];exact H)
   ·exact .inr H
  ·rcases g7 k J with J|J
   ·exact b4 k (BE _ H) J
   ·exact Y.2.2 k J k H rfl
  ·rw[(g6 x.1 x.2 (nF dd x hx)).2];exact H
  ·rw[g4];exact .inl (.inl H)
 |cons b cx =>
  have c3:cx=[]:=by
   rw[M]at b3;simp at b3;exact b3
  subst c3;have ex:c.ps.any PK.isIo=false:=et.resolve_left (by rw[M];simp);have e5:c.rs.any RK.isBv=false:=by
   rw[M]at d1;simpa using d1
  obtain⟨_,r2⟩:=o7 (Γ:=Γ) h0 (S:=ae I u) (p:=g.p&&!c.fresh) c.ps xs vs g y.2 c5 cw hg ex bn;obtain⟨cT,yv,cs,E,b0,r3,r4,r5,r6,r7⟩:=r2 b M;rw[r6]at Y a0;have hβ:(W0.frz u O).β=W0.β:=rfl;have b9:∀ k,k∈g.lend.map W0.β<->k=W0.β b:=λk=>by rw[M];simp
  have hb:live (ae I u) b:=(iC (λq=>(h3 q).1) b).2 (f0 b (by rw[M];simp));have cu:∀ k,k∈(W0.β b::b0)++ba.flatten->¬ N k:=λk H=>(a0 k H).2
  obtain⟨W2,g1,g2,g3,g4,g5,g6⟩:=yT hV h1 hb (N:=N) (p:=g.p&&!c.fresh) r4 r5 Y.1 (by rw[h1.len b];show (W0.cs b).length=_;rw[<- h0.len b];exact r7)
   (λk J ej=>Z k (h1.used_lt k J) (λhm=>a1 k hm J) (λhm=>ej ((b9 k).1 hm))) c6 d3 e4 ed
   (λk H=>a2 k (hN k H) (λhm=>cu _ (BJ _ (BW ..)) (by rw[<- (b9 k).1 hm];exact H)))
   (λk H=>⟨(a2 k (a0 k (BJ _ (BP _ H))).1 (λhm=>by
    have:=(b9 k).1 hm;subst this;exact (CB.1 Y.1).1 H)).2,cu k (BJ _ (BP _ H))⟩) hG
  have e2:ae (aG (ae I u) (g.p&&!c.fresh) c.ps xs y.2++I) u=ae [(b,⟨(ae I u b).ver+2,.agg,ar (g.p&&!c.fresh) cT yv⟩)] (ae I u):=by rw[bA,r3]
  have em:∀ k∈ba.flatten,k∉g.lend.map W0.β:=λk H hm=>Y.2.2 _ (BW ..) k H ((b9 k).1 hm).symm
  rw[<- e2]at g1 g6;have b1:=cp W2 g1 (λk H=>?_) (λk H J=>?_) (λb2=>by rw[e5]at b2;cases b2) (λb2=>by rw[e5]at b2;cases b2) (λq hq=>?_) (λq i hq ab a6=>?_) (λq=>?_)
  ·rw[M]at b1;exact b1
  ·rcases hG k H with H|H
   ·exact .inl ((g3 k).2 H)
   ·exact .inr H
  ·rcases g6 k J with J|J|J
   ·exact (a2 k (a0 k (BE _ H)).1 (em k H)).2 J
   ·exact cu k (BE _ H) J
   ·exact Y.2.2 k (BP _ J) k H rfl
  ·rw[M]at hq;rw[g4 q (by simpa using hq)];rfl
  ·rw[M]at hq;rw[e2,aI (by simpa using hq)];exact ad q i ab a6
  ·rw[e2];rcases an b q ⟨(ae I u b).ver+2,.agg,ar (g.p&&!c.fresh) cT yv⟩ (ae I u) with ⟨rfl,e3⟩|⟨_,e3⟩
   ·rw[e3];have:=hb.2;rw[(h3 q).1]at this;exact this.symm
   ·rw[e3];exact (h3 q).1
end
section
variable {P:Program} {V:Env} {Γ:List Ctr} {T:TypeId->TI} {st:St} {o:Oper} {R:Type} {κ:Upd->Option R} {r:R}
theorem yV {ls:List Leaf}{j:Nat}{p:Bool}{y:Option (Nat×Nat)}{E:TypeId}{e:Ty}{xs:List e.den}(h:ls.getD j .dead=.own p y E e xs):ls[j]?=some (.own p y E e xs):=by
 rw[B5]at h;cases u:ls[j]? with
 |none=>rw[u]at h;simp at h
 |some z=>rw[u]at h;simp at h;rw[h]
theorem Ak (hV:ay V){b:Option (Bool×Nat×Nat)}{U:Upd}(h:jN st b U κ=some r) :
  ∃ U',κ U'=some r/\∀ I a w,aq P V I (ae U st) a w->(∀ q j,b=some (true,q,j)->∃ v,I.cs TMP=[v]/\tr I (ae U st) w q j v)->Rel P V (ae U' st) a w:=by
 unfold jN at h;split at h
 ·rename_i q j;split at h
  ·rename_i p i off E' e' xs q' E e ys hq b3;obtain⟨y,hy,h⟩:=Bu.1 h;obtain⟨_,_,hy⟩:=gj hy;simp only[C0]at hy;split at h
   ·rename_i z hz;refine⟨_,h,λI a w hr hb=>?_⟩;obtain⟨v,c2,a3,bb,i0,ba,p0,E0,e0,c1,g,c4,g1,g2,g3,g4⟩:=hb q j rfl;have hq:=yV hq;rw[hq]at g1;obtain⟨rfl,b5,rfl,h4⟩:p=p0/\some (i,off)=some (i0,ba)/\E'=E0/\(⟨e',xs⟩:(e:Ty)×List e.den)=⟨e0,c1⟩:=by
     simp only[BA,Leaf.own.injEq]at g1;obtain⟨q1,q2,q3,q4,q5⟩:=g1;subst q4;rw[heq_eq_eq]at q5;subst q5;exact⟨q1,by simpa using q2,q3,rfl⟩
    simp only[BA,B3]at b5;obtain⟨rfl,rfl⟩:=b5;simp only[Sigma.mk.injEq]at h4;obtain⟨rfl,h4⟩:=h4;rw[heq_eq_eq]at h4;subst h4;generalize hS:ae U st=S at hr hq g1 g2 g3 b3 ⊢;have a9:(S TMP).ls[0]?=some (.own q' none E e ys):=by rw[b3];rfl
    have b2:(I.cs TMP)[0]?=some v:=by rw[c2];rfl
    have b0:=hr.leaf q j _ _ hq g2;have ad:=hr.leaf TMP 0 _ _ a9 b2;have b0:OwH w (gd V I p) (some (i,off)) E' e' xs _ (I.bs q j):=b0;have ad:Ow w (gd V I q') E e ys v (I.bs TMP 0):=ad;have b6:=b0.carry (G':=gd V I (p||q')) (bU (W':=I) (by intro h;simp[h]) (λ_ h=>h)) (λ_ _=>rfl) (λ_ _=>rfl);have b4:=OwH.carry (G':=gd V I (p||q')) ad (bU (W':=I) (by intro h;simp[h]) (λ_ h=>h)) (λ_ _=>rfl) (λ_ _=>rfl);have bl:∀ k∈I.bs TMP 0,k∉I.bs q j:=λk M a0=>a3 (hr.sep TMP 0 _ q j _ a9 trivial hq trivial k M a0).1.symm
    obtain⟨ab,bn,c0⟩:=b6.back b4 bl hy hz (λg' c3 e1=>by
     simp only[Bw,BA,CZ,and_true]at e1;rw[<- e1.1];exact g4)
    have bx:∀ k∈ab,k∈I.bs q j\/k∈I.bs TMP 0:=λk M=>by
     have h5:=c0 k;have h6:=BK.2 M;by_cases h7:k∈I.bs q j
     ·exact .inl h7
     ·have:=BZ.2 h7;exact .inr (BK.1 (by omega))
    obtain⟨h1,c5⟩:=hr.putGhost hV TMP iU.1 iU.2.1 ((S TMP).ver+1) .off [] [] (λ_=>[]) (BM _) rfl (by simp) (λj l u hj=>by simp at hj) (λj l hj=>by simp at hj) (λj j' l l' hj=>by simp at hj);have a4:∀ x,x≠TMP->ae [(TMP,⟨(S TMP).ver+1,.off,[]⟩)] S x=S x:=λx hx=>aI hx _ _
    have a6:(ae [(TMP,⟨(S TMP).ver+1,.off,[]⟩)] S) q=S q:=a4 q a3;have H:∀ (Y:Nat) (l':Leaf),Y≠j->(aT (S q).ls j (.own (p||q') none E' e' (xs.set i z)))[Y]?=some l'->(S q).ls[Y]?=some l':=by
     intro Y l' a2 a1;rcases aR _ _ _ _ _ a1 with ⟨rfl,_,_⟩|⟨_,a1⟩
     ·exact absurd rfl a2
     ·exact a1
    have b9:∀ (l':Leaf),(aT (S q).ls j (.own (p||q') none E' e' (xs.set i z)))[j]?=some l'->l'=.own (p||q') none E' e' (xs.set i z):=by
     intro l' a1;rcases aR _ _ _ _ _ a1 with ⟨_,rfl,_⟩|⟨a2,_⟩
     ·rfl
     ·exact absurd rfl a2
    have a5:∀ b,live (ae [(TMP,⟨(S TMP).ver+1,.off,[]⟩)] S) b->live S b:=λb hb=>by
     have:b≠TMP:=by have:=hb.1;have:=iU.2.1;omega
     exact⟨hb.1,by rw[<- a4 b this];exact hb.2⟩
    have b1:∀ k∈ab,¬ I.nw k/\¬ V.prot k/\(∀ b,live S b->I.β b≠k)/\∀ (O i1:Nat) (l1:Leaf),(S O).ls[i1]?=some l1->ap l1->(O,i1)≠(q,j)->O≠TMP->k∉I.bs O i1:=λk M=>by
     rcases bx k M with M|M
     ·have h9:=hr.ownb q j _ hq trivial k M;exact⟨h9.1,h9.2.1,h9.2.2,λO i1 l1 g5 g6 g7 _ g8=>g7 (by obtain⟨e1,e2⟩:=hr.sep O i1 l1 q j _ g5 g6 hq trivial k g8 M;rw[e1,e2])⟩
     ·have h9:=hr.ownb TMP 0 _ a9 trivial k M;exact⟨h9.1,h9.2.1,h9.2.2,λO i1 l1 g5 g6 _ g7 g8=>g7 (hr.sep O i1 l1 TMP 0 _ g5 g6 a9 trivial k g8 M).1⟩
    have h2:=(h1.reownE hV q ⟨(S q).ver,(S q).sh,aT (S q).ls j (.own (p||q') none E' e' (xs.set i z))⟩ (λY=>if Y=j then ab else I.bs q Y) bb (by rw[a6];exact BU _) (by rw[a6]) (by rw[a6];simp[aT])
     (λY l' u g5 g6=>by
      have g6:(if q=TMP then [] else I.cs q)[Y]?=some u:=g6;rw[if_neg a3]at g6;by_cases J:Y=j
      ·subst J;obtain rfl:=b9 l' g5;rw[g2]at g6;simp only[BA]at g6;subst g6;simp only[if_true];exact bn
      ·simp only[if_neg J];have:=h1.leaf q Y l' u (by rw[a6];exact H Y l' J g5) (by show (if q=TMP then [] else I.cs q)[Y]?=_;rw[if_neg a3];exact g6);have e0:(if q=TMP then ([]:List Nat) else I.bs q Y)=I.bs q Y:=if_neg a3;simp only[e0]at this;exact this)
     (λY l' g5 g6 k M=>by
      by_cases J:Y=j
      ·subst J;simp only[if_true]at M;obtain⟨q1,q2,q3,q4⟩:=b1 k M;refine⟨q1,q2,λb hb=>q3 b (a5 b hb),λO j1 l1 a2 g7 g8 g9=>?_⟩;by_cases Z:O=TMP
       ·subst Z;rw[bh]at g7;simp at g7
       ·rw[a4 O Z]at g7;have g9:k∈(if O=TMP then [] else I.bs O j1):=g9;rw[if_neg Z]at g9;exact q4 O j1 l1 g7 g8 (λe=>a2 (by cases e;rfl)) Z g9
      ·simp only[if_neg J]at M;have a1:=H Y l' J g5;have h9:=hr.ownb q Y l' a1 g6 k M;refine⟨h9.1,h9.2.1,λb hb=>h9.2.2 b (a5 b hb),λO j1 l1 a2 g7 g8 g9=>?_⟩;by_cases Z:O=TMP
       ·subst Z;rw[bh]at g7;simp at g7
       ·rw[a4 O Z]at g7;have g9:k∈(if O=TMP then [] else I.bs O j1):=g9;rw[if_neg Z]at g9;exact a2 (hr.sep q Y l' O j1 l1 a1 g6 g7 g8 k M g9).1.symm)
     (λi1 i2 l1 l2 g5 g6 g7 g8 k M a0=>by
      by_cases J:i1=j <;> by_cases X:i2=j
      ·omega
      ·subst J;simp only[if_true]at M;simp only[if_neg X]at a0;exact absurd a0 ((b1 k M).2.2.2 q i2 l2 (H i2 l2 X g7) g8 (λe=>X (by cases e;rfl)) a3)
      ·subst X;simp only[if_true]at a0;simp only[if_neg J]at M;exact absurd M ((b1 k a0).2.2.2 q i1 l1 (H i1 l1 J g5) g6 (λe=>J (by cases e;rfl)) a3)
      ·simp only[if_neg J]at M;simp only[if_neg X]at a0;exact (hr.sep q i1 l1 q i2 l2 (H i1 l1 J g5) g6 (H i2 l2 X g7) g8 k M a0).2)).1
    show ∃ W,aq P V W _ a w;have e1:ae ((q,⟨(S q).ver,(S q).sh,aT (S q).ls j (.own (p||q') none E' e' (xs.set i z))⟩)::(TMP,⟨(S TMP).ver+1,.off,[]⟩)::(EPO,bV (S EPO))::U) st =
      ae [(q,⟨(S q).ver,(S q).sh,aT (S q).ls j (.own (p||q') none E' e' (xs.set i z))⟩),(EPO,bV (ae [(TMP,⟨(S TMP).ver+1,.off,[]⟩)] S EPO))] (ae [(TMP,⟨(S TMP).ver+1,.off,[]⟩)] S):=by
     rw[a4 EPO (CG iU.2.2),aP q,aP TMP,aP EPO,hS,aP q _ [(EPO,bV (S EPO))],mW iU.2.2]
    rw[e1];exact⟨_,h2⟩
   ·cases h
  ·cases h
 ·exact⟨_,h,λI a w hr _=>⟨I,hr⟩⟩
theorem u5 (hV:ay V)(hΓ:∀ c∈Γ,bP P c){d:Nat}(hd:d<V.nt)(eb:∀ x∈V.fixt,x.1≠d){f:FuncId}{xs:List (aH×List Leaf)}(h:jk Γ st d f xs κ=some r) :
  fP P f/\∃ U,κ U=some r/\∀ W a w,aq P V W st a w->∀ vs,gS P V W st w xs vs->Calls P f vs.toArray w (λe w'=>∃ v,e=.returned v/\Rel P V (ae U st) (a.put (some d) v) w'):=by
 unfold jk at h;split at h
 ·rename_i c hc;obtain⟨cp,rfl⟩:=ne hc;obtain⟨cw,a9⟩:=hΓ c cp;refine⟨cw,?_⟩;rw[gA]at h;obtain⟨⟨U0,ys,b⟩,c3,h⟩:=Bu.1 h;simp only at h;split at h
  ·rename_i g hg;cases J:aY g.kill&&dD g.frz g.kill&&gF st d c.rs&&!(g.see.any λq=>g.lend.any (BT q))&&Ce g.lend.length 1&&(g.lend.isEmpty||!(c.ps.any PK.isIo))&&((c.fresh&&g.lend.isEmpty)||!(c.rs.any RK.isBv))&&(g.kill.all λk=>!BT k.1 EPO)&&oI b g.frz g.kill d with
   |false=>rw[J]at h;cases h
   |true =>
    rw[J]at h;simp only[cond_true]at h;simp only[BC]at J;obtain⟨⟨⟨⟨⟨⟨⟨⟨b5,cy⟩,I⟩,b4⟩,M⟩,d3⟩,en⟩,hE⟩,e6⟩:=J;obtain⟨y,hy,h⟩:=Bu.1 h;obtain⟨U',ev,c1⟩:=Ak (P:=P) (V:=V) hV h;refine⟨U',ev,λW a w hr vs ec=>?_⟩;obtain⟨W0,O,c0,fc,hβ0,e4,d1,b9,cb⟩:=ou hV hr c.ps xs vs U0 ys b ec c3;generalize ad:ae U0 st=S0 at O c0 e4 d1 b9 hg;obtain⟨⟨a6,bl,a4⟩,hf,hk,a5⟩:=kq (uw hV hΓ O) c.ps ys vs g c0 hg;have hE:∀ z∈g.kill,z.1≠EPO:=λz hz e0=>by
     have:=List.all_eq_true.1 hE z hz;rw[e0]at this;simp at this
    have M:g.lend.length<=1:=CD M;have ba:g.lend=[]\/c.ps.any PK.isIo=false:=by
     simp only[DM,DA,BY]at d3;exact d3
    have c5:∀ k,k∈a6.flatten<->k∈g.lend.map W0.β\/k∈aX W0 g.kill:=λk=>by
     rw[<- BK,<- BK,<- BK,a4 k];omega
    have a1:∀ k,jJ V W0 S0 g.frz g.see k->k<w.heap.size/\k∉a6.flatten:=by
     intro k H;refine⟨O.used_lt k (rr hf k H),λX=>?_⟩;rcases (c5 k).1 X with X|X
     ·obtain⟨b',Y,rfl⟩:=Ci.1 X;have dc:=O.box b' (a5 b' Y);rcases H with H|H|⟨b2,e5,a0,e2⟩|⟨z,hz,H⟩
      ·exact dc.1 H
      ·exact dc.2 H
      ·have:=O.inj b2 b' a0 (a5 b' Y) e2;subst this;simp only[BY,Bv]at b4;have:=b4 b2 e5;rw[Bool.not_eq_true,Bv]at this;have:=this b2 Y;simp at this
      ·obtain⟨l,hl,ho⟩:=hf z hz;exact (O.ownb z.1 z.2 l hl ho _ H).2.2 b' (a5 b' Y) rfl
     ·obtain⟨z,hz,Z⟩:=gi.1 X;obtain⟨l,hl,ho⟩:=hk z hz;have a2:=O.ownb z.1 z.2 l hl ho k Z;rcases H with H|H|⟨b2,e5,a0,e2⟩|⟨z',e7,H⟩
      ·exact a2.1 H
      ·exact a2.2.1 H
      ·exact a2.2.2 b2 a0 e2
      ·obtain⟨l',et,ex⟩:=hf z' e7;obtain⟨e1,e2⟩:=O.sep z.1 z.2 l z'.1 z'.2 l' hl ho et ex k Z H;exact nF cy z' e7 (by rw[show z'=z from DV e1.symm e2.symm];exact hz)
    have f4:a6.flatten.Nodup:=br.2 λk=>by
     rw[a4 k];have h5:=br.1 (gO O b5 hk) k;have h6:(g.lend.map W0.β).count k<=1:=by
      exact B8 List.count_le_length (by rw[CS];exact M)
     by_cases h7:k∈g.lend.map W0.β
     ·have:(aX W0 g.kill).count k=0:=BZ.2 λX=>by
       obtain⟨b',Y,e0⟩:=Ci.1 h7;obtain⟨z,hz,Z⟩:=gi.1 X;obtain⟨l,hl,ho⟩:=hk z hz;exact (O.ownb z.1 z.2 l hl ho k Z).2.2 b' (a5 b' Y) e0
      omega
     ·have:(g.lend.map W0.β).count k=0:=BZ.2 h7;omega
    have b0:=a9 w (bj V W0 g.p g.frz) g.val vs a6 y (bl.mono (λ_ h=>h) a1) (λk H=>a1 k (mm hV k H)) f4 hy;have c2:gF S0 d c.rs=true:=by
     unfold gF at I ⊢;split at I
     ·rcases b9 (B0+d) with e0|e0
      ·rw[e0];exact I
      ·exact absurd e0 (by have:=iU.2.1;omega)
     ·exact I
    refine b0.mono λe w' c4=>?_
    obtain⟨v,rfl,W1,a3,b6,d2,bx,_⟩:=yU (Γ:=Γ) hV O c0 hg hf hk a5 b5 cy hE M ba a4 hd eb c2 en c4;refine⟨v,rfl,?_⟩;refine c1 W1 _ w' ?_ ?_
    ·have e1:=bA (mn S0 c d ys g y) U0 st;rw[ad]at e1;rw[<- e1]at a3;subst ad;unfold mn at a3;simp only[bA,BQ,DE]at a3 ⊢;exact a3
    ·intro q j hb;subst hb;obtain⟨u,f6,f2,ed,i,off,p,E,e,f3,gg,f0,q1,q2,q3,q4⟩:=e4;have dd:=cb true q j rfl rfl;have ab:g.lend=[]:=ba.resolve_right (by rw[dd];simp);simp only[oI,BC,BY]at e6;obtain⟨⟨⟨cc,c6⟩,b3⟩,bb⟩:=e6;have e3:q≠d:=λe0=>by rw[e0]at b3;simp at b3
     have cu:q≠B0+d:=λe0=>by rw[e0]at bb;simp at bb
     have cx:(q,j)∉g.kill:=λX=>by
      have:=Bv.1 cc _ X;simp[iw]at this
     have eg:(q,j)∉g.frz:=λX=>by
      have:=Bv.1 c6 _ X;simp[iw]at this
     have f5:TMP≠d:=by have:=hV.nt;have:=iU.1;omega
     have ef:TMP≠B0+d:=by have:=iU.2.1;omega
     have hL:=d2 q j e3 cu (by rw[ab];simp) eg cx;rw[q1]at hL;have hC:=b6 q e3 cu (by rw[ab];simp);have e1:=bA (mn S0 c d ys g y) U0 st;rw[ad]at e1;have em:gg<w.heap.size:=O.own_lt q1 trivial gg q3;have f1:gg∉aX W0 g.kill:=λX=>by
      obtain⟨z,hz,Z⟩:=gi.1 X;obtain⟨l,hl,ho⟩:=hk z hz;obtain⟨e1,e2⟩:=O.sep z.1 z.2 l q j _ hl ho q1 trivial gg Z q3;exact cx (by rw[show (q,j)=z from DV e1.symm e2.symm];exact hz)
     have bn:w'.cell? ⟨gg,i*e.cells+off,none⟩=some u:=by
      rw[kx (bx gg em f1 (by rw[ab];simp))];exact q4
     have ej:gg∈W1.bs q j:=by
      have h9:=a3.leaf q j _ _ hL (by rw[hC];exact q2);obtain⟨_,f8,f7,_,es,_⟩:=h9;rw[es];simp[Bs]
     refine⟨u,by rw[b6 TMP f5 ef (by rw[ab];simp)];exact f6,f2,ed,i,off,p,E,e,f3,gg,f0,?_,by rw[hC];exact q2,ej,bn⟩;have b1:=hL;rw[<- e1]at b1;subst ad;unfold mn at b1;simp only[bA,BQ,DE]at b1 ⊢;exact b1
  ·cases h
 ·cases h
end
section
variable {P:Program} {V:Env} {Γ:List Ctr} {T:TypeId->TI} {st:St} {o:Oper} {R:Type} {κ:Upd->Option R} {r:R}
theorem nS {W:Wit}{a:Act}{w:World}(h:aq P V W st a w):∀ (l:List Operand),gS P V W st w (l.map (av st)) (l.map a.eval)
 |[]=>rfl
 |x::l=>by
  obtain⟨y,u,z⟩:=cU h x;exact⟨a.eval x,l.map a.eval,y,rfl,u,z,nS h l⟩
theorem nh {W:Wit}{w:World}:∀ {xs y:List (aH×List Leaf)} {z us:List Value},gS P V W st w xs z->gS P V W st w y us->gS P V W st w (xs++y) (z++us)
 |[],_,_,_,M,u=>by rw[show _=_ from M];exact u
 |x::xs,_,_,_,⟨v,O,X,e,H,J,I⟩,u=>by
  subst e;exact⟨v,_,X,rfl,H,J,nh I u⟩
theorem qG {a:Act}{w:World}{c:Call}{x:Operand}{f:FuncId}{caps:Array Value}(z:o.op=.call c)(I:c.callee=.value x)(J:a.eval x=.func (.func f) #[] caps)(M:fP P f){next:Act->World->Prop}{Q:Exit->Act->World->Prop}
  (u:Calls P f (c.args.map a.eval++caps) w (λe H=>∃ v,e=.returned v/\next (a.put o.dst v) H)):o.wp P a w next Q:=by
 unfold Oper.wp;have y:(execOp a.eval o).run P w=.ok (.enter f (c.args.map a.eval++caps)) w:=by
  have:=M (c.args.map a.eval++caps) w;simp[execOp,z,resolve,I,J,Deferred.ofValue,invoke,this]
 rw[y,Oper.upon_enter];refine u.mono λe H=>?_
 rintro⟨v,rfl,hn⟩;exact hn
theorem k7 {p:Bool}:∀ {b:Ty} {x:b.den},b.flat=true->ar p b x=cK p b x
 |.int _,_,_=>rfl
 |.bool,_,_=>rfl
 |.str,_,_=>rfl
 |.unit,_,_=>rfl
 |.hdr,_,_=>rfl
 |.pair a b,x,h=>by
  simp only[Ty.flat,BC]at h;simp only[ar,cK,k7 h.1,k7 h.2]
 |.list _ _ _,_,h=>by simp[Ty.flat]at h
theorem rx (hV:ay V){W:Wit}{a:Act}{w:World}(h:aq P V W st a w):∀ (M:List Ty) (xs:List (aH×List Leaf)) (X:List Value) (x:Tup M),gS P V W st w xs X->iL st M xs=some x ->
  rY w (λk=>k<w.heap.size) M x X
 |[],[],X,_,hx,_=>hx
 |[],_::_,_,_,_,u=>by simp[iL]at u
 |_::_,[],_,_,_,u=>by simp[iL]at u
 |b::M,x::xs,X,z,⟨v,J,cs,e,hs,Z,H⟩,u=>by
  subst e;simp only[iL]at u;cases O:decide (x.1=bg b.isAgg) with
  |false=>simp[O]at u
  |true =>
   simp only[O,cond_true]at u;have O:=of_decide_eq_true O;rw[O]at hs;split at u
   ·rename_i p y hy;simp only[BB]at u;obtain⟨t,ht,rfl⟩:=u;have Y:=ez h Z hy;refine⟨v,cs,J,rfl,gz hs,Y.mono (λk I=>?_),rx hV h M xs J t H ht⟩;rcases I with (I|⟨_,I⟩)|⟨z,hz,I⟩
    ·exact (h.nwlt k I).1
    ·exact CA (hV.ro k I).1 h.size
    ·obtain⟨l,h1,h2⟩:=ek Z hz;exact h.own_lt h1 h2 k I
   ·cases u
theorem xN (hV:ay V)(hΓ:∀ c∈Γ,bP P c)(J:bN V o){c:Call}{f:Operand}(Y:o.op=.call c)(hc:c.callee=.value f)
  (h:act Γ T o st κ=some r):bW P V o st κ r:=by
 simp only[act,wrU,Y,hc]at h;split at h
 ·cases h
 ·rename_i d X;split at h
  ·rename_i g H Z;obtain⟨he,U,hU,z⟩:=u5 hV hΓ (J d X).1 (J d X).2 h;refine⟨U,hU,λW a w I next Q hn=>?_⟩;obtain⟨M,_,_,_,_⟩:=bq I f (by rw[Z];simp);rw[Z]at M;have O:=nh (nS I c.args.toList) (se (p6 (P:=P) (V:=V) (W:=W) (w:=w) H M.2));rw[C6]at O;have:=z W a w I _ O;have e:(c.args.toList.map a.eval++H.map λb=>Value.pointer (some ⟨W.β b,0,none⟩)).toArray=c.args.map a.eval++(H.map λb=>Value.pointer (some ⟨W.β b,0,none⟩)).toArray:=by
    apply DR;simp
   rw[e]at this;refine qG Y hc M.1 he (this.mono λe w'=>?_);rintro⟨v,rfl,hrel⟩;refine⟨v,rfl,hn _ _ ?_⟩;rw[X];exact hrel
  ·rename_i g H Z;obtain⟨he,U,hU,z⟩:=u5 hV hΓ (J d X).1 (J d X).2 h;refine⟨U,hU,λW a w I next Q hn=>?_⟩;obtain⟨M,_,_,_,_⟩:=bq I f (by rw[Z];simp);rw[Z]at M;obtain⟨us,M,a1,a3⟩:=M;have O:=nh (nS I c.args.toList) (se (qE (st:=st) a1 a3));rw[C6]at O;have:=z W a w I _ O;have e:(c.args.toList.map a.eval++us).toArray=c.args.map a.eval++us.toArray:=by
    apply DR;simp
   rw[e]at this;refine qG Y hc M he (this.mono λe w'=>?_);rintro⟨v,rfl,hrel⟩;refine⟨v,rfl,hn _ _ ?_⟩;rw[X];exact hrel
  ·rename_i As B φ Z;cases hb:B.flat with
   |false=>simp[hb]at h
   |true =>
    simp only[hb,cond_true]at h;split at h
    ·rename_i x hx;obtain⟨y,hy,h⟩:=Bu.1 h;simp only[X]at h;refine⟨_,h,λW a w I next Q hn=>?_⟩;obtain⟨M,_,_,_,_⟩:=bq I f (by rw[Z];simp);rw[Z]at M;obtain⟨f',H,M,he,z⟩:=M;have a2:=rx hV I As _ _ x (nS I c.args.toList) hx;have:=z w I.size I.keep x _ y a2 hy;have e:(c.args.toList.map a.eval).toArray=c.args.map a.eval:=by apply DR;simp
     rw[e]at this;refine qG Y hc M he (this.mono λe w'=>?_);rintro⟨u,cs,rfl,hvo,hrd,hbelow⟩;refine⟨u,rfl,hn _ _ ?_⟩;rw[X];have a4:=I.below hV hbelow;have a0:=eT (P:=P) (V:=V) (W:=W) (st:=st) (G:=λ_=>False) (p:=false) (λ_ h=>h.elim) hrd;rw[<- k7 hb]at a0;exact a4.putLs hV d (J d X).1 (J d X).2 _ _ _ u cs (BM _) (j8 hvo) a0
    ·cases h
  ·cases h
theorem Be (H:ay V)(I:TOk P T)(hΓ:∀ c∈Γ,bP P c)(z:bN V o)(h:act Γ T o st κ=some r):bW P V o st κ r:=by
 cases u:o.op with
 |move x=>exact x3 H z u h
 |assign x=>exact vp H z u h
 |pick c x y=>exact x4 H z u h
 |alloc t=>exact xG H I z u h
 |box t x=>exact Ag H z u h
 |build t M=>exact wM H I z u h
 |buildSlice t n M=>exact qC H I z u h
 |load t x=>exact x6 H I z u h
 |store t x y=>exact xI H I u h
 |nilCheck x=>exact sw H z u h
 |binOp X t x y Z=>exact wI H I z u h
 |unOp X t x=>exact x5 H z u h
 |convert s t x=>exact uu H I z u h
 |makeSlice t n c=>exact rT H I z u h
 |slice t x lo Y mx=>exact xL H I z u h
 |fieldAddr t x f=>exact rQ H I z u h
 |field t x f=>exact wL H I z u h
 |indexAddr t x i=>exact rR H I z u h
 |index t x i=>exact wK H I z u h
 |extract x i=>exact tV H z u h
 |makeFunc fn first O=>exact sx H z u h
 |call c =>
  cases J:c.callee with
  |value f=>exact xN H hΓ z u J h
  |builtin b =>
   cases b with
   |len=>exact zx H I z u J h
   |append=>exact wa H I z u J h
   |min=>exact Ah H z u J h
   |max=>exact Ai H z u J h
   |_ =>
    simp only[act,wrU,u,J]at h;split at h <;> cases h
  |_ =>
   simp only[act,wrU,u,J]at h;split at h <;> cases h
 |_=>simp[act,wrU,u]at h
end
def cE:Ty->Ty->Bool
 |.pair a b,z=>match z with
  |.pair c d=>cE a c&&cE b d
  |_=>false
 |.list m E e,z=>match z with
  |.list n u r=>decide (E=u)&&(bif n then m&&cE e r else decide (e.sh=r.sh))
  |_=>false
 |a,z=>decide (a=z)
theorem fR:∀ {a b:Ty},cE a b=true->a.sh=b.sh
 |.pair a b,z,h=>by
  cases z with
  |pair c d =>
   simp only[cE,BC]at h;simp only[Ty.sh,fR h.1,fR h.2]
  |_=>simp[cE]at h
 |.list m E e,z,h=>by
  cases z with
  |list n u r =>
   simp only[cE,BC,decide_eq_true_eq]at h;obtain⟨rfl,h⟩:=h;cases n with
   |true =>
    simp only[cond_true,BC]at h;simp only[Ty.sh,fR h.2]
   |false =>
    simp only[cond_false,decide_eq_true_eq]at h;simp only[Ty.sh,h]
  |_=>simp[cE]at h
 |.int _,z,h=>by simp only[cE,decide_eq_true_eq]at h;rw[h]
 |.bool,z,h=>by simp only[cE,decide_eq_true_eq]at h;rw[h]
 |.str,z,h=>by simp only[cE,decide_eq_true_eq]at h;rw[h]
 |.unit,z,h=>by simp only[cE,decide_eq_true_eq]at h;rw[h]
 |.hdr,z,h=>by simp only[cE,decide_eq_true_eq]at h;rw[h]
theorem yW {a b:Ty}(h:cE a b=true):a.isAgg=b.isAgg:=by
 cases a with
 |pair c d=>cases b <;> first|rfl|(simp[cE]at h)
 |list m E e=>cases b <;> first|rfl|(simp[cE]at h)
 |_=>simp only[cE,decide_eq_true_eq]at h;rw[h]
theorem ov {f g h:Nat->List Nat}{k:Nat}:∀ {l:List Nat},(∀ j∈l,(f j).count k=(g j).count k+(h j).count k)->(l.flatMap f).count k=(l.flatMap g).count k+(l.flatMap h).count k
 |[],_=>rfl
 |a::l,H=>by
  have u:=H a (BW ..);have y:=ov (l:=l) (λj r=>H j (BP _ r));simp only[CE,BF];omega
theorem Mx.thin {w:World}{G:Nat->Prop}:∀ {a b:Ty} {pos:Nat} {x:a.den} {y:b.den} {cs:List Value} {bs:List Nat},cE a b=true->HEq x y->Mx w G a none pos x cs bs ->
  ∃ b1 b2:List Nat,(∀ k,bs.count k=b1.count k+b2.count k)/\Mx w (λk=>G k\/k∈b2) b none pos y cs b1
 |.pair a b,z,pos,x,y,cs,bs,h,r,H=>by
  cases z with
  |pair c d =>
   simp only[cE,BC]at h;obtain⟨c1,c2,ba,bb,rfl,rfl,h1,h2⟩:=H;obtain⟨h3,h4⟩:=sl (jq (fR h.1)) (jq (fR h.2)) r;obtain⟨p1,p2,R,Z⟩:=Mx.thin h.1 h3 h1;obtain⟨r1,r2,s1,s2⟩:=Mx.thin h.2 h4 h2;refine⟨p1++r1,p2++r2,λk=>?_,c1,c2,p1,r1,rfl,rfl,Z.mono (λk J=>J.imp id (BJ _)),?_⟩
   ·have:=R k;have:=s1 k;simp only[BF];omega
   ·have:=s2.mono (G':=λk=>G k\/k∈p2++r2) (λk J=>J.imp id (BE _))
    rwa [ia (fR h.1)]at this
  |_=>simp[cE]at h
 |.list m E e,z,pos,xs,X,cs,bs,h,r,H=>by
  have a0:=fR h;cases z with
  |list n E' e' =>
   simp only[cE,BC,decide_eq_true_eq]at h;obtain⟨rfl,h⟩:=h;cases n with
   |true =>
    simp only[cond_true,BC]at h;obtain⟨rfl,h⟩:=h;rw[bH (by simp)]at H;obtain⟨v,rfl,I,a2,h1,h2,h3⟩:=H;obtain⟨h4,h5⟩:=sm (jq (fR h)) r;have a1:∀ j,∃ q:List Nat×List Nat,j<X.length->(∀ k,(a2 j).count k=q.1.count k+q.2.count k) /\
      ∀ y,X[j]?=some y->∃ c,Mx w (λk=>G k\/k∈q.2) e' none 0 y c q.1/\∀ i u,c[i]?=some u->I[j*e'.cells+i]?=some u:=by
     intro j;by_cases M:j<X.length
     ·have Y:=BS M;obtain⟨x,hx,r⟩:=h5 j _ Y;obtain⟨c,hm,hc⟩:=h3 j x hx;obtain⟨b1,b2,R,Z⟩:=Mx.thin h r hm;refine⟨(b1,b2),λ_=>⟨R,λy O=>⟨c,?_,λi u hi=>?_⟩⟩⟩
      ·rw[Y]at O;simp only[BA]at O;subst O;exact Z
      ·rw[<- ia (fR h)];exact hc i u hi
     ·exact⟨([],[]),λh=>absurd h M⟩
    obtain⟨f,hf⟩:=Classical.skolem.1 a1;refine⟨v.ownBlock.toList++(BO X.length).flatMap (λj=>(f j).1),(BO X.length).flatMap (λj=>(f j).2),λk=>?_,?_⟩
    ·rw[h2,BF,BF,h4,ov (g:=λj=>(f j).1) (h:=λj=>(f j).2) (λj M=>(hf j (Cp.1 M)).1 k)];omega
    ·rw[bH (by simp)];refine⟨v,rfl,I,λj=>(f j).1,by rw[<- h4,<- ia (fR h)];exact h1,rfl,λj y O=>?_⟩;have M:=(BD.1 O).1;obtain⟨c,R,Z⟩:=(hf j M).2 y O;exact⟨c,R.mono (λk J=>J.imp id (λJ=>dV.2 ⟨j,M,J⟩)),Z⟩
   |false =>
    refine⟨[],bs,λk=>by simp,?_⟩;rw[cq];exact⟨rfl,Rd.flags a0 r (Mx.rd (S:=λk=>G k\/k∈bs) (λ_=>.inl) (λ_=>.inr) H)⟩
  |_=>simp[cE]at h
 |.int _,z,pos,x,y,cs,bs,h,r,H=>by
  simp only[cE,decide_eq_true_eq]at h;subst h;cases r;exact⟨bs,[],λk=>by simp,H.mono (λ_=>.inl)⟩
 |.bool,z,pos,x,y,cs,bs,h,r,H=>by
  simp only[cE,decide_eq_true_eq]at h;subst h;cases r;exact⟨bs,[],λk=>by simp,H.mono (λ_=>.inl)⟩
 |.str,z,pos,x,y,cs,bs,h,r,H=>by
  simp only[cE,decide_eq_true_eq]at h;subst h;cases r;exact⟨bs,[],λk=>by simp,H.mono (λ_=>.inl)⟩
 |.unit,z,pos,x,y,cs,bs,h,r,H=>by
  simp only[cE,decide_eq_true_eq]at h;subst h;cases r;exact⟨bs,[],λk=>by simp,H.mono (λ_=>.inl)⟩
 |.hdr,z,pos,x,y,cs,bs,h,r,H=>by
  simp only[cE,decide_eq_true_eq]at h;subst h;cases r;exact⟨bs,[],λk=>by simp,H.mono (λ_=>.inl)⟩
theorem jn.mono {w:World}{G G':Nat->Prop}(z:∀ k,G k->G' k){a:Ty}{x:a.den}{ptr:Bool}{v:Value}{bs:List Nat}(h:jn w G a x ptr v bs):jn w G' a x ptr v bs:=by
 unfold jn at h ⊢;split at h
 ·rename_i u;rw[if_pos u];obtain⟨g,c,E,H,r,y,I,J⟩:=h;exact⟨g,c,E,H,r,y,I.mono z,J⟩
 ·rename_i u;rw[if_neg u];obtain⟨M,r,y⟩:=h;exact⟨M,r,y.mono z⟩
theorem bL.mono {w:World}{G G':Nat->Prop}(y:∀ k,G k->G' k):∀ {ps:List PK} {o:ai ps} {z:List Value} {bs:List (List Nat)},bL w G ps o z bs->bL w G' ps o z bs
 |.io _::_,_,_::_,_::_,⟨r,u⟩=>⟨r.mono y,bL.mono y u⟩
 |.iop _::_,_,_::_,_::_,⟨r,u⟩=>⟨r.mono y,bL.mono y u⟩
 |.rd _::_,_,_::_,_::_,⟨r,u⟩=>⟨r,bL.mono y u⟩
 |.own _::_,_,_::_,_::_,⟨r,u⟩=>⟨r,bL.mono y u⟩
 |.rref _::_,_,_::_,_::_,⟨r,u⟩=>⟨r,bL.mono y u⟩
 |.rref2 _::_,_,_::_,_::_,⟨r,u⟩=>⟨r,bL.mono y u⟩
 |.fn _ _::_,_,_::_,_::_,⟨r,u⟩=>⟨r,bL.mono y u⟩
 |.clo _ _::_,_,_::_,_::_,⟨r,u⟩=>⟨r,bL.mono y u⟩
 |.hol _ _ _::_,_,_::_,_::_,⟨r,u⟩=>⟨r,bL.mono y u⟩
 |[],_,[],[],_=>trivial
 |[],_,_::_,_,h=>by simp[bL]at h
 |[],_,[],_::_,h=>by simp[bL]at h
 |p::_,_,[],_,h=>by cases p <;> exact h.elim
 |p::_,_,_::_,[],h=>by cases p <;> exact h.elim
theorem pY.mono {w:World}{G G' ro ro':Nat->Prop}(I:∀ k,G k->G' k)(R:∀ k,G k\/ro k->G' k\/ro' k):∀ {r:RK} {y:r.den} {v:Value} {bs:List Nat},pY w G ro r y v bs->pY w G' ro' r y v bs
 |.v _,_,_,_,⟨H,u,z⟩=>⟨H,u,z.mono I⟩
 |.bv _,_,_,_,⟨e,H,u,z⟩=>⟨e,H,u,z.mono R⟩
 |.box _,_,_,_,⟨g,c,E,J,u,z,M,O⟩=>⟨g,c,E,J,u,z,M.mono I,O⟩
theorem gy.mono {w:World}{G G' ro ro':Nat->Prop}(J:∀ k,G k->G' k)(M:∀ k,G k\/ro k->G' k\/ro' k):∀ {H:List RK} {y:aj H} {us:List Value} {z:List (List Nat)},gy w G ro H y us z->gy w G' ro' H y us z
 |[],_,_,_,h=>h
 |_::_,_,_,_,⟨u,I,b,r,R,X,O,Y⟩=>⟨u,I,b,r,R,X,O.mono J M,gy.mono J M Y⟩
theorem bP.thin {P:Program}{f:FuncId}{a a':Ty}{ps:List PK}{rs:List RK}{fr:Bool}{a3:ac (.own a::ps)->Option (aj rs×ai (.own a::ps))}{X:ac (.own a'::ps)->Option (aj rs×ai (.own a'::ps))}
  (h:bP P ⟨f,.own a::ps,rs,fr,a3⟩) (ht:cE a' a=true) (cv:a'.den->a.den) (b6:∀ x,HEq x (cv x)) (hd:∀ x,X x=a3 (cv x.1,x.2)):bP P ⟨f,.own a'::ps,rs,fr,X⟩:=by
 refine⟨h.1,λw ro x vs c1 y Z a6 b4 hy=>?_⟩;obtain⟨x1,xr⟩:=x;obtain⟨v,b0,b,u,rfl,rfl,⟨cs,c0,hm⟩,a0⟩:=Z;obtain⟨O,R,Y,b9⟩:=Mx.thin ht (b6 x1) hm;have a2:=hm.lt;rw[br]at b4;have M:∀ k,O.count k+R.count k+u.flatten.count k<=1:=λk=>by
  have:=b4 k;rw[BX,BF,Y k]at this;exact this
 have hb:∀ k,k∈b<->k∈O\/k∈R:=λk=>by
  rw[<- BK,<- BK,<- BK,Y k];omega
 have H:∀ k,k∈(O::u).flatten->k∈(b::u).flatten:=λk r=>by
  rw[BX,BL]at r ⊢;exact r.imp (λh=>(hb k).2 (.inl h)) id
 have ad:∀ k,k∈R->k∉(O::u).flatten:=λk r z=>by
  have h1:=M k;have h2:=BK.2 r;have h3:=BK.2 z;rw[BX,BF]at h3;omega
 have a4:∀ k,k∈R->k∈(b::u).flatten:=λk r=>by
  rw[BX,BL];exact .inl ((hb k).2 (.inr r))
 have J:c8 P w (λk=>ro k\/k∈R) (λk=>k<w.heap.size/\k∉(O::u).flatten) (.own a::ps) (cv x1,xr) (v::b0) (O::u) :=
  ⟨v,b0,O,u,rfl,rfl,⟨cs,by rw[<- yW ht];exact c0,b9⟩,a0.mono (λ_=>.inl) (λk r=>⟨r.1,λh=>r.2 (H k h)⟩)⟩
 refine (h.2 w _ _ _ _ y J (λk r=>?_) ?_ (by rw[<- hy];exact (hd (x1,xr)).symm)).mono λe w' hp=>?_
 ·rcases r with r|r
  ·exact⟨(a6 k r).1,λh=>(a6 k r).2 (H k h)⟩
  ·exact⟨a2 k ((hb k).2 (.inr r)),ad k r⟩
 ·rw[br];intro k;have:=M k;show ((O::u).flatten).count k<=1;rw[BX,BF];omega
 ·obtain⟨v',us,N,a1,bl,h1,a5,a9,ba,bb,bn,bx,hN,hO,b5,ab,I⟩:=hp;have hG:∀ k,(N k\/fr=false/\(ro k\/k∈R))->((N k\/k∈R)\/fr=false/\ro k):=λk r=>by
   rcases r with r|⟨r,z|z⟩
   ·exact .inl (.inl r)
   ·exact .inr ⟨r,z⟩
   ·exact .inl (.inr z)
  refine⟨v',us,λk=>N k\/k∈R,a1,bl,h1,a5,a9,ba,bb,bn,λk r hn=>bx k r (λh=>hn (H k h)),λk r=>?_,?_,?_,ab,λk r=>?_⟩
  ·rcases r with r|r
   ·exact⟨(hN k r).1,(hN k r).2.imp id (H k)⟩
   ·exact⟨CA (a2 k ((hb k).2 (.inr r))) a9,.inr (a4 k r)⟩
  ·match a1,hO with
   |b3::a1,hO=>exact⟨hO.1,bL.mono hG hO.2⟩
   |[],hO=>exact hO.elim
  ·refine gy.mono hG (λk r=>?_) b5;rcases r with r|r|r
   ·exact .inl (hG k r)
   ·exact .inr r
   ·exact .inl (.inl (.inr r))
  ·obtain⟨h5,h6⟩:=I k r;refine⟨⟨h5.1,h5.2.imp id (H k)⟩,λh=>h.elim h6 (λh=>?_)⟩;rcases h5.2 with h7|h7
   ·have:=a2 k ((hb k).2 (.inr h));omega
   ·exact ad k h h7
end Go.Proofs.YtaelpfghkndliaaGreatEv
