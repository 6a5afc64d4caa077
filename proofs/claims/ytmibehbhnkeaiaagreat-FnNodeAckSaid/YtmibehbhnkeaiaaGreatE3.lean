/- One operation: boxes made, boxes written. -/
import Derived.Test.YtmibehbhnkeaiaaGreatE0
import Derived.Deep.MidRow
import Derived.Great.FillDense
set_option linter.unusedVariables false
set_option linter.unusedSimpArgs false
open Array renaming toArray_toList->GC,length_toList->GG,getElem?_toList->G6,toList_append->HD,size_append->HL,toList_map->HU,ext'->Hi
open Bool renaming and_eq_true->FL,not_eq_true'->F7,or_eq_false_iff->HB,or_eq_true->Hd
open Go.Addr.mk renaming injEq->Gr
open Go.Builtin renaming append_->GI,firstCells->Gn,lenOf->Gs,zeroCells->HQ
open Go.Instr renaming sliceBounds->HO,storeAt->Hk
open Go.Result renaming andThen_ok->Gp
open Go.Sem renaming run_bind->HK
open Go.Value renaming ownBlock->GB
open Go.Value.slice renaming injEq->GF
open Go.World renaming setCells->G7,alloc_eq->HA,drew_eq->HE,freeze->HM,alloc->HY,drew->Hg
open Iff renaming rfl->Gx
open Int renaming toNat_natCast->HJ
open List renaming getElem?_eq_some_iff->FM,mem_append_right->FN,count_append->FO,getElem?_append_right->FP,getElem?_append_left->FQ,mem_append_left->FS,count_pos_iff->FT,mem_append->FU,range->FX,mem_cons_of_mem->FY,append_assoc->FZ,length_append->F0,getElem?_eq_getElem->F1,eq_nil_of_length_eq_zero->F4,mem_cons_self->F5,flatten_cons->F6,count_eq_zero->F8,append_nil->F9,length_take->GA,any_eq_false->GE,getElem?_take->GL,getD_eq_getElem?_getD->GM,nodup_append->GO,replicate->GQ,nodup_cons->GS,length_set->GT,flatMap_cons->GV,getElem?_set_ne->GW,mem_cons->GZ,getElem?_drop->Ga,getElem?_cons_zero->Gb,getElem?_replicate->Gc,size_toArray->Gd,getElem?_set_self->Ge,any_cons->Gh,length_nil->Gi,length_map->Gj,length_drop->Gt,length_cons->Gu,mem_map->G0,count_cons->G1,singleton_append->G4,length_replicate->G5,mem_range->G8,all_cons->HF,map_nil->HI,map_map->HN,isEmpty_iff->HR,flatMap_map->HS,cons_append->HV,length->HZ,map_append->Ha,nil_append->He,nodup_nil->Hf,take_left->Hh,map_cons->Hl
open List.cons renaming injEq->Gk
open Nat renaming eq_of_beq_eq_true->FR,lt_succ_self->FV,mul_le_mul_right->FW,beq->F2,le_refl->F3,succ_mul->GJ,add_zero->GN,le_trans->GP,lt_of_lt_of_le->GR,le_of_ble_eq_true->GU,zero_add->GY,ble_eq_true_of_le->Gf,le_add_right->Gg,mul_le_mul_left->Gl,blt_eq->Gm,add_mul->Gq,le_of_eq->Gv,ble->Gw,mul_comm->Gy,sub_zero->Gz,mul_one->G9,blt->HC,eq_zero_or_pos->HH,zero_mul->HP,mod_eq_of_lt->HT,le_succ->HW,zero_le->HX,mul_add_mod->Hb,add_assoc->Hj
open Ne renaming symm->GX
open Option renaming map_eq_some_iff->FK,bind_eq_some_iff->GD,map_none->G3,toList_some->HG,map_some->Hc
open Option.some renaming injEq->FJ
open Prod renaming ext->Hm
open Prod.mk renaming injEq->GK
namespace Go.Proofs.YtmibehbhnkeaiaaGreatEv
open Go Go.RowKit
section
variable {P:Program} {V:Env} {Γ:List Ctr} {T:TypeId->TI} {st:St} {o:Oper} {R:Type} {κ:Upd->Option R} {r:R}
theorem oh {q u:Nat}(h:q≠u)(c y:b7)(st:St):ac [(q,c)] (ac [(u,y)] st)=ac [(u,y)] (ac [(q,c)] st):=by
 funext k;rcases an q k c (ac [(u,y)] st) with ⟨rfl,e⟩|⟨H,e⟩
 ·rw[e,aL h,bm]
 ·rw[e];rcases an u k y st with ⟨rfl,z⟩|⟨I,z⟩
  ·rw[z,bm]
  ·rw[z,aL I,aL H]
theorem ap.boxed (hV:aA V){W:Wit}{a:Act}{w:World}(h:ap P V W st a w)(d:Nat)(hd:d<V.nt)(I:∀ x∈V.fixt,x.1≠d)(M:(st (B0+d)).sh=.off)(ls:List Leaf)
  (y:List Value) (z:Nat->List Nat) (E:TypeId)
  (hl:ls.length=y.length) (h1:∀ u∈y,u.oneCell'=true)
  (H:∀ (j:Nat) (l:Leaf) (u:Value),ls[j]?=some l->y[j]?=some u->aM P V W st w (z j) l u)
  (O:∀ (j:Nat) (l:Leaf),ls[j]?=some l->ao l->∀ k∈z j,¬ W.nw k/\¬ V.prot k/\k<w.heap.size/\(∀ b,live st b->W.β b≠k) /\
   ∀ (r1 Y:Nat) (Z:Leaf),(st r1).ls[Y]?=some Z->ao Z->k∉W.bs r1 Y)
  (X:∀ (j j':Nat) (l l':Leaf),ls[j]?=some l->ao l->ls[j']?=some l'->ao l'->∀ k,k∈z j->k∈z j'->j=j') :
  Rel P V (ac ((B0+d,⟨(st (B0+d)).ver+1,.agg,ls⟩)::[(d,⟨(st d).ver+1,.one,[.bp (B0+d) 0]⟩)]) st) (a.put (some d) (.pointer (some ⟨w.heap.size,0,none⟩))) (w.alloc (.cells y.toArray E)):=by
 have J:B0+d≠d:=by simp[B0]
 have a0:¬ live st (B0+d):=by simp[live,M]
 have h2:=h.setBox hV (B0+d) (Gg _ _) ((st (B0+d)).ver+1) ls y z w.heap.size E (w':=w.alloc (.cells y.toArray E)) (FV _) (.inr ⟨a0,F3 _⟩)
  (heap_alloc_new w _) (λk hk _=>Go.heap_alloc_old w _ hk) (by simp) rfl rfl rfl hl h1 H (λj l hj ho k hk=>by
   obtain⟨h3,h4,h5,h6,h7⟩:=O j l hj ho k hk;exact⟨h3,h4,h5,h6,λr1 Y Z _=>h7 r1 Y Z⟩) X
 rw[aR,oh J];refine h2.putLs hV d hd I _ .one [.bp (B0+d) 0] _ [.pointer (some ⟨w.heap.size,0,none⟩)] ?_ rfl ⟨⟨⟨Gg _ _,by rw[bm],by simp⟩,id,rfl⟩,trivial⟩;rw[aL (GX J)];omega
theorem vR {t:TypeId}(I:TOk P T)(H:(T t).cells≠0)(w:World):∃ z y,(zeroValue t).run P w=.ok z w/\z.cells=y.toArray/\∀ (V:Env) (W:Wit) (st:St),aG P V W st w (T t).zero y:=by
 have h:=I t;cases u:T t with
 |none=>rw[u]at H;exact absurd rfl H
 |int k=>rw[u]at h;exact⟨_,[.int k 0],gU h.2.2 w,rfl,λV W st=>⟨⟨rfl,id,rfl⟩,trivial⟩⟩
 |bool=>rw[u]at h;exact⟨_,[.bool false],gU h.2.2 w,rfl,λV W st=>⟨⟨rfl,id,rfl⟩,trivial⟩⟩
 |str=>rw[u]at h;exact⟨_,[.string ByteArray.empty],gU h.2.2 w,rfl,λV W st=>⟨⟨rfl,id,rfl⟩,trivial⟩⟩
 |slice E e b=>rw[u]at h;exact⟨_,[.slice none 0 0],gU h.2.2.1 w,rfl,λV W st=>⟨⟨rfl,id,rfl⟩,trivial⟩⟩
 |struct a J=>rw[u]at h;exact⟨_,zeroCells a,gU h.2.2.1 w,rfl,λV W st=>mi a⟩
 |arr e n=>rw[u]at h;exact⟨_,(GQ n (zeroCells e)).flatten,gU h.2.2.2 w,rfl,λV W st=>pU e n⟩
 |ptr=>rw[u]at h;exact⟨_,[.pointer none],gU h.2.2 w,rfl,λV W st=>⟨⟨trivial,id,rfl⟩,trivial⟩⟩
 |fn=>rw[u]at h;exact⟨_,[.nilFunc],gU h.2.2 w,rfl,λV W st=>⟨⟨trivial,id,rfl⟩,trivial⟩⟩
theorem zn (hV:aA V)(hT:TOk P T)(I:bU V o){t:TypeId}(J:o.op=.alloc t)(h:act Γ T o st κ=some r):cd P V o st κ r:=by
 simp only[act,J]at h;split at h
 ·rename_i d M;cases y:decide ((st (B0+d)).sh=.off)&&!decide ((T t).cells=0) with
  |false=>simp[y]at h
  |true =>
   simp only[y]at h;simp at y;refine⟨_,h,λW a w hr next Q hn=>?_⟩;obtain⟨z,X,hz,hc,H⟩:=vR hT y.2 w;have H:=H V W st;refine ek (v:=.pointer (some ⟨w.heap.size,0,none⟩)) (w':=w.alloc (.cells X.toArray t)) ?_ ?_
   ·simp[execOp,J,Instr.alloc,hz,newVar,newRow,hc]
   ·rw[M];refine hn _ _ ?_;exact hr.boxed hV d (I d M).1 (I d M).2 y.1 _ X (λ_=>[]) t H.length H.one' (λj l u Y Z=>(H.at_ j l u Y Z).1) (λ_ _ _ _ k O=>by simp at O) (λ_ _ _ _ _ _ _ _ k O=>by simp at O)
 ·grind
theorem B6 (hV:aA V)(I:bU V o){t:TypeId}{x:Operand}(a0:o.op=.box t x)(h:act Γ T o st κ=some r):cd P V o st κ r:=by
 simp only[act,a0]at h;split at h
 ·rename_i d M;cases hb:decide ((st (B0+d)).sh=.off)&&decide ((au st x).2.length=(T t).cells)&&decide ((au st x).1=bk (T t).agg)&&iN st (au st x).2 with
  |false=>simp[hb]at h
  |true =>
   simp only[hb]at h;simp at hb;obtain⟨⟨⟨Y,a2⟩,a1⟩,Z⟩:=hb;have J:∀ (W:Wit) (a:Act) (w:World) (H:List Value),eK (au st x).1 (a.eval x) H->aG P V W st w (au st x).2 H ->
     (execOp a.eval o).run P w=.ok (.value (.pointer (some ⟨w.heap.size,0,none⟩))) (w.alloc (.cells H.toArray t)):=by
    intro W a w H X y;rw[a1]at X;have hc:=iC X y.one';simp[execOp,a0,Instr.box,newVar,newRow,hc]
   cases z:tI st x with
   |true =>
    rw[z]at h;refine⟨_,h,λW a w O next Q hn=>?_⟩;obtain⟨H,X,y⟩:=db O x;refine ek (J W a w H X y) ?_;rw[M];refine hn _ _ ?_;exact O.boxed hV d (I d M).1 (I d M).2 Y _ H (λ_=>[]) t y.length y.one' (λj l u h1 h2=>(y.at_ j l u h1 h2).1) (λ_ _ _ _ k hk=>by simp at hk) (λ_ _ _ _ _ _ _ _ k hk=>by simp at hk)
   |false =>
    rw[z]at h;refine⟨_,h,λW a w O next Q hn=>?_⟩;obtain⟨H,X,y⟩:=db O x;obtain⟨h1,h2,h3,h4,h5⟩:=pS hV O y Z;have h6:=AZ hV O y Z;refine ek (J W a w H X y) ?_;rw[M];refine hn _ _ ?_;have:=h1.boxed hV d (I d M).1 (I d M).2 (by rw[(h6 _).1];exact Y) _ H (dE W (au st x).2) t h2 y.one' h3 h4 h5;exact this
 ·grind
theorem ku (b:Nat)(E:TypeId):∀ (u:List Value) (k o:Nat) (w:World) (cur:Array Value) {mk:Nat×Nat},w.heap[b]?=some (.cells cur E mk) ->
  (w.setCells b (o+k) u).heap[b]?=some (.cells ((u.zipIdx k).foldl (λy (x:Value×Nat)=>y.setIfInBounds (o+x.2) x.1) cur) E mk)
 |[],_,_,_,_,_,h=>h
 |v::u,k,o,w,cur,mk,h=>by
  have:=ku b E u (k+1) o (w.setCell ⟨b,o+k,none⟩ v) _ (by rw[setCell_eq_setRow w b (o+k) cur E mk v h];exact setRow_heap w b cur _ E mk h);simpa[G7,Hj]using this
theorem fh (b:Nat):∀ (u:List Value) (o:Nat) (w:World) (k:Nat),k≠b->(w.setCells b o u).heap[k]?=w.heap[k]?
 |[],_,_,_,_=>rfl
 |v::u,o,w,k,h=>by
  rw[G7,fh b u (o+1) _ k h];exact heap_setCell_other w ⟨b,o,none⟩ k v h
theorem kv (b:Nat):∀ (u:List Value) (o:Nat) (w:World),(w.setCells b o u).os=w.os/\(w.setCells b o u).tape=w.tape/\(w.setCells b o u).output=w.output/\(w.setCells b o u).heap.size=w.heap.size
 |[],_,_=>⟨rfl,rfl,rfl,rfl⟩
 |v::u,o,w=>by
  obtain⟨y,z,H,I⟩:=kv b u (o+1) (w.setCell ⟨b,o,none⟩ v);exact⟨y,z,H,by rw[G7,I];simp⟩
theorem oi {t:TypeId}{n:Nat}(I:bW P t n){w:World}{b off:Nat}{cur:List Value}{E:TypeId}{mk:Nat×Nat}(J:w.heap[b]?=some (.cells cur.toArray E mk))(H:mk.2=0\/cur.length<=mk.1){v:Value}{cs:List Value}
  (hv:v.cells=cs.toArray) (Z:cs.length=n) (M:∀ u∈cs,u.oneCell'=true) (Y:off+cs.length<=cur.length) :
  (Hk t (.pointer (some ⟨b,off,none⟩)) v).run P w=.ok () (w.setCells b off cs):=by
 have y:∀ j,j<cs.length->(w.cell? ⟨b,off+j,none⟩).isSome=true:=by
  intro j z;rw[cell_of_row w b _ _ E mk J]
  grind
 have O:=run_storeCells_cells (P:=P) b off cs 0 w (λj z=>y j z) (λj z=>sl J (by simpa using H) (by simp;omega)) M;have X:=dH I w;simp[Hk,Instr.sureAddr,storeVar,X,hv,Z,O]
theorem uL (hV:aA V)(hT:TOk P T){t:TypeId}{x y:Operand}{b off:Nat}(b5:o.op=.store t x y)(hd:o.dst=none)(hx:one st x=.bp b off)
  (bb:(au st y).2.length=(T t).cells) (b6:(au st y).1=bk (T t).agg) (a9:(T t).cells≠0) (a7:(st b).sh=.agg) (bl:off+(au st y).2.length<=(st b).ls.length) (a4:iN st (au st y).2=true)
  {W:Wit} {a:Act} {w:World} (hr:ap P V W st a w) :
  nK P V o st ((b,⟨(ac (mvU st (au st y).2) st b).ver+1,.agg,kf (ac (mvU st (au st y).2) st b).ls (dU st (au st y).2) off⟩)::mvU st (au st y).2) a w:=by
 intro next Q hn;obtain⟨I,hs,hl⟩:=db hr y;rw[b6]at hs;have hc:=iC hs hl.one';obtain⟨h1,h2,h3,h4,h5⟩:=pS hV hr hl a4;have h6:=AZ hV hr hl a4;obtain⟨hp,_,_,_⟩:=bA hr x (by rw[hx];simp);rw[hx]at hp;obtain⟨hB,_,hv⟩:=hp;have b3:T t≠.none:=by intro e;rw[e]at a9;exact a9 rfl
 rcases hr.boxes b hB with ⟨h8,_⟩|⟨_,E,h8⟩
 ·rw[a7]at h8;cases h8
 ·have b0:=hl.length;have bn:=hr.len b;have ba:(ac (mvU st (au st y).2) st b).ls.length=(W.cs b).length:=h1.len b;have a8:off+I.length<=(W.cs b).length:=by omega
  have ad:=oi (pT (hT t) b3) h8 (.inl rfl) hc (by omega) hl.one' a8;refine qD (w':=w.setCells (W.β b) off I) (by simp[execOp,b5,hv,ad]) ?_;rw[hd];refine hn _ _ ?_;rw[aR];obtain⟨e1,e2,e3,e4⟩:=kv (W.β b) I off w;have a0:=ku (W.β b) E I 0 off w _ h8;rw[lL (W.cs b) I off a8]at a0;simp only[GN]at a0;have b1:live (ac (mvU st (au st y).2) st) b:=⟨hB,by rw[(h6 b).1];exact a7⟩;have b9:(dU st (au st y).2).length=I.length:=h2;have M:∀ (j:Nat) (l:Leaf),(kf (ac (mvU st (au st y).2) st b).ls (dU st (au st y).2) off)[j]?=some l ->
    (off<=j/\j<off+I.length/\(dU st (au st y).2)[j-off]?=some l)\/((j<off\/off+I.length<=j)/\(ac (mvU st (au st y).2) st b).ls[j]?=some l):=by
   intro j l hj;unfold kf at hj;rw[b9]at hj;by_cases Z:j<off
   ·rw[FZ,FQ (by simp;omega),GL,if_pos Z]at hj;exact .inr ⟨.inl Z,hj⟩
   ·by_cases J:j<off+I.length
    ·rw[FZ,FP (by simp;omega),FQ (by simp;omega)]at hj;refine .inl ⟨by omega,J,?_⟩;rw[<- hj];congr 1;simp;omega
    ·rw[FP (by simp;omega),Ga]at hj;refine .inr ⟨.inr (by omega),?_⟩;rw[<- hj];congr 1;simp;omega
  have a1:∀ (j:Nat),((W.cs b).take off++I++(W.cs b).drop (off+I.length))[j]?=if off<=j/\j<off+I.length then I[j-off]? else (W.cs b)[j]?:=by
   intro j;by_cases Z:j<off
   ·rw[FZ,FQ (by simp;omega),GL,if_pos Z,if_neg (by omega)]
   ·by_cases J:j<off+I.length
    ·rw[FZ,FP (by simp;omega),FQ (by simp;omega),if_pos ⟨by omega,J⟩];congr 1;simp;omega
    ·rw[FP (by simp;omega),Ga,if_neg (by omega)];congr 1;simp;omega
  refine⟨_,h1.setBox hV b hB _ _ ((W.cs b).take off++I++(W.cs b).drop (off+I.length)) (λj=>if off<=j/\j<off+I.length then dE W (au st y).2 (j-off) else W.bs b j) (W.β b) E
   (FV _) (.inl ⟨b1,rfl⟩) a0 (λk _ X=>fh (W.β b) I off w k X) (Gv e4.symm) e1 e2 e3 ?_ ?_ ?_ ?_ ?_⟩
  ·simp only[kf,F0,GA,Gt];omega
  ·intro u hu;simp only[FU]at hu;rcases hu with (hu|hu)|hu
   ·exact hr.one b u (List.mem_of_mem_take hu)
   ·exact hl.one' u hu
   ·exact hr.one b u (List.mem_of_mem_drop hu)
  ·intro j l u hj hu;rw[a1]at hu;rcases M j l hj with ⟨Z,J,H⟩|⟨Z,H⟩
   ·rw[if_pos ⟨Z,J⟩]at hu;simp only[if_pos (⟨Z,J⟩:off<=j/\j<off+I.length)];exact h3 _ l u H hu
   ·have z:¬ (off<=j/\j<off+I.length):=by omega
    rw[if_neg z]at hu;simp only[if_neg z];exact h1.leaf b j l u H hu
  ·intro j l hj ho k X;rcases M j l hj with ⟨Z,J,H⟩|⟨Z,H⟩
   ·simp only[if_pos (⟨Z,J⟩:off<=j/\j<off+I.length)]at X;obtain⟨q1,q2,q3,q4,q5⟩:=h4 _ l H ho k X;exact⟨q1,q2,q3,q4,λr1 j1 l1 _=>q5 r1 j1 l1⟩
   ·have z:¬ (off<=j/\j<off+I.length):=by omega
    simp only[if_neg z]at X;obtain⟨q1,q2,q3⟩:=h1.ownb b j l H ho k X;exact⟨q1,q2,h1.own_lt H ho k X,q3,λr1 j1 l1 b2 ay b4 az=>b2 (h1.sep b j l r1 j1 l1 H ho ay b4 k X az).1.symm⟩
  ·intro j j' l l' hj ho aw a2 k X Y;rcases M j l hj with ⟨Z,J,H⟩|⟨Z,H⟩ <;> rcases M j' l' aw with ⟨a5,a3,O⟩|⟨a5,O⟩
   ·simp only[if_pos (⟨Z,J⟩:off<=j/\j<off+I.length)]at X;simp only[if_pos (⟨a5,a3⟩:off<=j'/\j'<off+I.length)]at Y;have:=h5 _ _ l l' H ho O a2 k X Y;omega
   ·have z:¬ (off<=j'/\j'<off+I.length):=by omega
    simp only[if_pos (⟨Z,J⟩:off<=j/\j<off+I.length)]at X;simp only[if_neg z]at Y;exact absurd Y ((h4 _ l H ho k X).2.2.2.2 b j' l' O a2)
   ·have z:¬ (off<=j/\j<off+I.length):=by omega
    simp only[if_neg z]at X;simp only[if_pos (⟨a5,a3⟩:off<=j'/\j'<off+I.length)]at Y;exact absurd X ((h4 _ l' O a2 k Y).2.2.2.2 b j l H ho)
   ·have z:¬ (off<=j/\j<off+I.length):=by omega
    have a6:¬ (off<=j'/\j'<off+I.length):=by omega
    simp only[if_neg z]at X;simp only[if_neg a6]at Y;exact (h1.sep b j l b j' l' H ho O a2 k X Y).2
end
theorem bB {l:List Nat}:l.Nodup<->∀ k,l.count k<=1:=by
 induction l with
 |nil=>simp
 |cons a l H =>
  rw[GS,H];constructor
  ·rintro⟨r,u⟩ k;rw[G1];by_cases y:a=k
   ·subst y;have:l.count a=0:=F8.2 r;simp[this]
   ·have:=u k;simp[y,this]
  ·intro h;refine⟨λz=>?_,λk=>?_⟩
   ·have r:=h a;have u:0<l.count a:=FT.2 z;rw[G1]at r;simp at r;omega
   ·have:=h k;rw[G1]at this;omega
theorem q8 {n:Nat}(r:Nat->List Nat)(k:Nat):((FX n).flatMap r).count k=((FX n).map λj=>(r j).count k).sum:=by
 generalize FX n=l;induction l with
 |nil=>rfl
 |cons a l u=>simp[FO,u]
theorem lh {n i:Nat}(H:i<n)(r:Nat->List Nat)(b:List Nat)(k:Nat) :
  ((FX n).flatMap λj=>if j=i then b else r j).count k+(r i).count k=((FX n).flatMap r).count k+b.count k:=by
 rw[q8,q8];induction n with
 |zero=>omega
 |succ n z =>
  rw[List.range_succ];simp only[Ha,Hl,HI,List.sum_append,List.sum_cons,List.sum_nil];by_cases u:i=n
  ·subst u;have:(FX i).map (λj=>List.count k (if j=i then b else r j))=(FX i).map λj=>(r j).count k:=by
    refine List.map_congr_left λj y=>?_
    rw[if_neg (by have:=G8.1 y;omega)]
   rw[this,if_pos rfl];omega
  ·have:=z (by omega);rw[if_neg (λe=>u e.symm)];omega
theorem oj {bs bs' K:List Nat}(z:bs.Nodup)(y:K.Nodup)(J:∀ k∈K,k∉bs)(h:∀ k,bs'.count k<=bs.count k+K.count k):bs'.Nodup/\∀ k∈bs',k∈bs\/k∈K:=by
 rw[bB]at z y;refine⟨bB.2 λk=>?_,λk r=>?_⟩
 ·have H:=h k;have I:=z k;have u:=y k;by_cases r:k∈K
  ·have:bs.count k=0:=F8.2 (J k r);omega
  ·have:K.count k=0:=F8.2 r;omega
 ·have H:=h k;have I:0<bs'.count k:=FT.2 r;by_cases u:k∈bs
  ·exact .inl u
  ·have:bs.count k=0:=F8.2 u;exact .inr (FT.1 (by omega))
theorem Mx.pos {w:World}{G:Nat->Prop}:∀ {a:Ty} {pos r:Nat} {x:a.den} {cs:List Value} {bs:List Nat},Mx w G a none pos x cs bs->Mx w G a none r x cs bs
 |.int _,_,_,_,_,_,h=>h
 |.bool,_,_,_,_,_,h=>h
 |.str,_,_,_,_,_,h=>h
 |.unit,_,_,_,_,_,h=>h
 |.hdr,_,_,_,_,_,h=>h
 |.pair _ _,_,_,_,_,_,⟨z,I,u,y,J,M,O,R⟩=>⟨z,I,u,y,J,M,Mx.pos O,Mx.pos R⟩
 |.list m E e,_,_,_,_,_,H=>by
  cases m with
  |false=>rw[cF]at H ⊢;exact H
  |true=>rw[bF (by simp)]at H ⊢;exact H
section
variable {P:Program} {V:Env} {W:Wit} {st:St} {w w':World} {a:Act}
theorem Mx.scalar {G:Nat->Prop}{b:Ty}{hol:Option Nat}{pos:Nat}{x:b.den}{cs:List Value}{S:Nat->Prop}(r:b.flat=true)(h:Rd w S b x cs):Mx w G b hol pos x cs []:=Mx.flat r h
theorem mv (h:ap P V W st a w):∀ (b:Ty) (pos:Nat) (ls:List Leaf) (cs:List Value) (t:cU b.den),aG P V W st w ls cs->take st b ls=some t ->
  ∃ J M O,cs=J++M/\ls=O++t.rest/\aG P V W st w O J/\aG P V W st w t.rest M/\Mx w (br V W t.p t.frz) b none pos t.val J (aZ W t.kill) /\
   (∀ x∈t.frz,aF st x)/\(∀ x∈t.kill,aF st x)
 |.pair b c,pos,ls,cs,t,H,z=>by
  simp only[take]at z;split at z
  ·rename_i u hb;split at z
   ·rename_i v hc;simp only[FJ]at z;subst z;obtain⟨J,M,O,e1,e2,h1,Y,X,h4,h5⟩:=mv h b pos ls cs u H hb;obtain⟨c3,c4,l2,e3,e4,h6,h7,h8,h9,a0⟩:=mv h c (pos+b.cells) u.rest M v Y hc;refine⟨J++c3,c4,O++l2,by rw[e1,e3,FZ],by rw[e2,e4,FZ],h1.append h6,h7,⟨J,c3,_,_,rfl,dV W _ _,?_,?_⟩,?_,?_⟩
    ·refine X.mono λk I=>?_
     rcases I with I|⟨y,hy,I⟩
     ·exact .inl (b8 (by intro h;simp[h]) (λ_ h=>h) k I)
     ·exact .inr ⟨y,FS _ hy,I⟩
    ·refine h8.mono λk I=>?_
     rcases I with I|⟨y,hy,I⟩
     ·exact .inl (b8 (by intro h;simp[h]) (λ_ h=>h) k I)
     ·exact .inr ⟨y,FN _ hy,I⟩
    ·intro x R;exact (FU.1 R).elim (h4 x) (h9 x)
    ·intro x R;exact (FU.1 R).elim (h5 x) (a0 x)
   ·cases z
  ·cases z
 |.unit,pos,ls,cs,t,H,z=>by
  simp only[take,FJ]at z;subst z;exact⟨[],cs,[],rfl,rfl,trivial,H,⟨rfl,rfl⟩,by simp,by simp⟩
 |.list m E e,pos,ls,cs,t,H,z=>by
  cases ls with
  |nil=>simp[take]at z
  |cons l ls =>
   cases cs with
   |nil=>exact H.elim
   |cons v cs =>
    cases m with
    |false =>
     simp only[take,cond_false]at z;split at z
     ·rename_i p xs ha;simp only[FJ]at z;subst z;refine⟨[v],cs,[l],rfl,rfl,⟨H.1,trivial⟩,H.2,cF.2 ⟨rfl,lr h H.1.1 H.1.2.1 ha⟩,λx R=>eO (cs:=[v]) (ls:=[l]) ⟨H.1,trivial⟩ R,by simp⟩
     ·cases z
    |true =>
     simp only[take,cond_true]at z;split at z
     ·rename_i r j n;split at z
      ·rename_i p E' e' xs hd;simp only[FK]at z;obtain⟨ys,hc,rfl⟩:=z;obtain⟨rfl,rfl,rfl⟩:=kq hc;obtain⟨h1,Y,X,h4⟩:=kX h hd H.1.1;refine⟨[v],cs,[_],rfl,rfl,⟨H.1,trivial⟩,H.2,(bF (by simp)).2 ⟨v,rfl,?_⟩,by simp,?_⟩
       ·have:aZ W [(r,j)]=W.bs r j:=by simp[aZ]
        show OwB w _ none E' e' xs v (aZ W [(r,j)]);rw[this];exact Y.2.carry (λk I=>.inl I) (λ_ _=>rfl) (λ_ _=>rfl)
       ·intro x R;simp only[List.mem_singleton]at R;subst R;exact⟨_,X,trivial⟩
      ·cases z
     ·simp only[FJ]at z;subst z;have X:v=.slice none 0 0:=H.1.1;refine⟨[v],cs,[_],rfl,rfl,⟨H.1,trivial⟩,H.2,(bF (by simp)).2 ⟨v,rfl,?_⟩,by simp,by simp⟩;rw[X];exact (OwH.nil w _ E e).2
     ·cases z
 |.int k,pos,ls,cs,t,H,z=>take_scalar h (b:=.int k) rfl H z
 |.bool,pos,ls,cs,t,H,z=>take_scalar h (b:=.bool) rfl H z
 |.str,pos,ls,cs,t,H,z=>take_scalar h (b:=.str) rfl H z
 |.hdr,pos,ls,cs,t,H,z=>take_scalar h (b:=.hdr) rfl H z
where
 take_scalar (h:ap P V W st a w) {b:Ty} {pos:Nat} {ls:List Leaf} {cs:List Value} {t:cU b.den} (hf:b.flat=true) (H:aG P V W st w ls cs) (z:(be st b ls).map (λx=>(⟨false,x.2.1,[],[],x.2.2⟩:cU b.den))=some t) :
   ∃ J M O,cs=J++M/\ls=O++t.rest/\aG P V W st w O J/\aG P V W st w t.rest M/\Mx w (br V W t.p t.frz) b none pos t.val J (aZ W t.kill) /\
    (∀ x∈t.frz,aF st x)/\(∀ x∈t.kill,aF st x):=by
  simp only[FK]at z;obtain⟨⟨p,x,Z⟩,h1,rfl⟩:=z;obtain⟨J,M,O,e1,e2,Y,X,h4⟩:=lu h b ls cs p x Z H h1;exact⟨J,M,O,e1,e2,Y,X,Mx.flat hf h4,by simp,by simp⟩
theorem dZ (h:ap P V W st a w){b:Ty}{pos:Nat}{ls:List Leaf}{cs:List Value}{t:cU b.den}(M:aG P V W st w ls cs)(r:cr st b ls=some t) :
  Mx w (br V W t.p t.frz) b none pos t.val cs (aZ W t.kill)/\(∀ x∈t.frz,aF st x)/\(∀ x∈t.kill,aF st x):=by
 unfold cr at r;split at r
 ·rename_i p x f k O;simp only[FJ]at r;subst r;obtain⟨R,u,Z,y,X,Y,z,H,I,J⟩:=mv h b pos ls cs _ M O;have:u=[]:=by
   cases u with
   |nil=>rfl
   |cons=>exact z.elim
  subst this;simp only[F9]at y;subst y;exact⟨H,I,J⟩
 ·cases r
theorem iv (h:ap P V W st a w):∀ {ks:List (Nat×Nat)},bc ks=true->(∀ x∈ks,aF st x)->(aZ W ks).Nodup
 |[],_,_=>Hf
 |x::ks,I,O=>by
  simp only[bc,FL,F7,GE]at I;have ih:=iv h I.2 (λy H=>O y (FY _ H));show (W.bs x.1 x.2++aZ W ks).Nodup;rw[GO];obtain⟨l,J,u⟩:=O x (F5 ..);refine⟨?_,ih,λk Z k' r e=>?_⟩
  ·have Y:x.2<(W.cs x.1).length:=by rw[<- h.len];exact (FM.1 J).1
   have:=h.leaf x.1 x.2 l _ J (F1 Y);cases l <;> simp only[ao]at u;exact OwH.nodup this
  ·subst e;obtain⟨y,H,r⟩:=gS.1 r;obtain⟨l',M,z⟩:=O y (FY _ H);obtain⟨R,X⟩:=h.sep x.1 x.2 l y.1 y.2 l' J u M z k Z r;have:=I.1 y H;rw[R,X]at this;simp at this
theorem kL:∀ {b:Ty} {S u:Nat->Prop} {O:Option Nat} {pos:Nat} {y:b.den} {c:List Value} {q:List Nat},b.flat=true->Mx w S b O pos y c q->Rd w u b y c
 |.int _,_,_,_,_,_,_,_,_,h=>h.1
 |.bool,_,_,_,_,_,_,_,_,h=>h.1
 |.str,_,_,_,_,_,_,_,_,h=>h.1
 |.unit,_,_,_,_,_,_,_,_,h=>h.1
 |.hdr,_,_,_,_,_,_,_,_,h=>h.1
 |.pair _ _,_,_,_,_,_,_,_,r,⟨z,H,R,X,I,Y,J,M⟩=>by
  simp only[Ty.flat,FL]at r;exact⟨z,H,I,kL r.1 J,kL r.2 M⟩
 |.list _ _ _,_,_,_,_,_,_,_,r,_=>by simp[Ty.flat]at r
theorem nj (h:ap P V W st a w){G:Nat->Prop}{off n:Nat}{hol J:Option Nat}(a4:∀ k,off<=k->k<off+n->J≠some k)(Y:∀ k,¬ (off<=k/\k<off+n)->(J=some k<->hol=some k)) :
  ∀ (b:Ty) (pos:Nat) (x:b.den) (ls:List Leaf) (cs:List Value) (t:cU b.den) (R:List Value) (z:List Nat),aG P V W st w ls cs->dq st off n b pos x ls=some t->Mx w G b hol pos x R z ->
  ∃ O c2 c' I,cs=O++c2/\aG P V W st w t.rest c2/\O.length=min (off+n) (pos+b.cells)-max off pos /\
   Mx w (λk=>G k\/br V W t.p t.frz k) b J pos t.val c' I /\
   (∀ i,i<b.cells->c'[i]?=if off<=pos+i/\pos+i<off+n then O[pos+i-max off pos]? else R[i]?) /\
   (∀ k,I.count k<=z.count k+(aZ W t.kill).count k)/\(∀ x∈t.frz,aF st x)/\(∀ x∈t.kill,aF st x)
 |.pair b c,pos,x,ls,cs,t,R,z,M,r,⟨d1,d2,b1,b2,e1,e2,a9,az⟩=>by
  simp only[dq]at r;split at r
  ·rename_i u X;split at r
   ·rename_i v hc;simp only[FJ]at r;subst r;obtain⟨O,c2,c',I,f1,f2,f3,f4,f5,f6,f7,f8⟩:=nj h a4 Y b pos x.1 ls cs u d1 b1 M X a9;obtain⟨c3,c4,a6,a1,g1,g2,g3,g4,g5,g6,g7,g8⟩:=nj h a4 Y c (pos+b.cells) x.2 u.rest c2 v d2 b2 f2 hc az;have ay:=f4.len;have b3:=g4.len;have ad:=a9.len;refine⟨O++c3,c4,c'++a6,I++a1,by rw[f1,g1,FZ],g2,?_,⟨c',a6,I,a1,rfl,rfl,?_,?_⟩,?_,?_,?_,?_⟩
    ·rw[F0,f3,g3];simp only[Ty.cells];omega
    ·refine f4.mono λk H=>?_
     rcases H with H|H|⟨y,hy,H⟩
     ·exact .inl H
     ·exact .inr (.inl (b8 (by intro h;simp[h]) (λ_ h=>h) k H))
     ·exact .inr (.inr ⟨y,FS _ hy,H⟩)
    ·refine g4.mono λk H=>?_
     rcases H with H|H|⟨y,hy,H⟩
     ·exact .inl H
     ·exact .inr (.inl (b8 (by intro h;simp[h]) (λ_ h=>h) k H))
     ·exact .inr (.inr ⟨y,FN _ hy,H⟩)
    ·intro i hi;simp only[Ty.cells]at hi;rw[e1];by_cases aw:i<b.cells
     ·rw[FQ (by omega),f5 i aw];by_cases hr:off<=pos+i/\pos+i<off+n
      ·rw[if_pos hr,if_pos hr,FQ (by omega)]
      ·rw[if_neg hr,if_neg hr,FQ (by omega)]
     ·rw[FP (by omega),ay,g5 (i-b.cells) (by omega)];have e3:pos+b.cells+(i-b.cells)=pos+i:=by omega
      rw[e3];by_cases hr:off<=pos+i/\pos+i<off+n
      ·rw[if_pos hr,if_pos hr,FP (by omega)];congr 1;omega
      ·rw[if_neg hr,if_neg hr,FP (by omega),ad]
    ·intro k;rw[e2,FO,FO,dV,FO];have:=f6 k;have:=g6 k;omega
    ·intro y hy;exact (FU.1 hy).elim (f7 y) (g7 y)
    ·intro y hy;exact (FU.1 hy).elim (f8 y) (g8 y)
   ·cases r
  ·cases r
 |.unit,pos,x,ls,cs,t,R,z,M,r,hm=>by
  simp only[dq,FJ]at r;subst r;refine⟨[],cs,[],[],rfl,M,by simp only[Ty.cells,Gi];omega,⟨rfl,rfl⟩,λi hi=>by simp[Ty.cells]at hi,λk=>by simp,by simp,by simp⟩
 |.hdr,pos,x,ls,cs,t,R,z,M,r,hm=>by simp[dq]at r
 |.int k,pos,x,ls,cs,t,R,z,M,r,hm=>put_scalar h (b:=.int k) rfl rfl M r hm
 |.bool,pos,x,ls,cs,t,R,z,M,r,hm=>put_scalar h (b:=.bool) rfl rfl M r hm
 |.str,pos,x,ls,cs,t,R,z,M,r,hm=>put_scalar h (b:=.str) rfl rfl M r hm
 |.list m E e,pos,x,ls,cs,t,R,z,M,r,hm=>by
  simp only[dq]at r;have b0:=hm.len;have e0:(Ty.list m E e).cells=1:=rfl;cases X:Gw off pos&&HC pos (off+n) with
  |true =>
   rw[X]at r;simp only[cond_true]at r;simp only[FL,Gm]at X;have a7:=GU X.1;obtain⟨O,c2,l1,e1,e2,h1,h2,h3,h4,h5⟩:=mv h (.list m E e) pos ls cs t M r;have a2:=h3.len;refine⟨O,c2,O,aZ W t.kill,e1,h2,by rw[a2];omega,?_,λi hi=>?_,λk=>by omega,h4,h5⟩
   ·have Z:=h3.mono (G':=λk=>G k\/br V W t.p t.frz k) (λk H=>.inr H);cases m with
    |false=>rw[cF]at Z ⊢;exact Z
    |true =>
     rw[bF (by simp)]at Z;rw[bF (a4 pos a7 X.2)];exact Z
   ·rw[if_pos (by omega)];congr 1;omega
  |false =>
   rw[X]at r;simp only[cond_false,FJ]at r;subst r;have a3:¬ (off<=pos/\pos<off+n):=by
    rintro⟨h1,h2⟩;have:(Gw off pos&&HC pos (off+n))=true:=by
     simp only[FL,Gm];exact⟨Gf h1,h2⟩
    rw[X]at this;cases this
   refine⟨[],cs,R,z,rfl,M,by simp only[Gi];omega,?_,λi hi=>?_,λk=>by omega,by simp,by simp⟩
   ·have Z:=hm.mono (G':=λk=>G k\/br V W false [] k) (λk H=>.inl H);cases m with
    |false=>rw[cF]at Z ⊢;exact Z
    |true =>
     by_cases hp:hol=some pos
     ·have a5:=(Y pos a3).2 hp;subst hp;subst a5;rw[jJ]at Z ⊢;exact Z
     ·have a5:J≠some pos:=λe=>hp ((Y pos a3).1 e)
      rw[bF hp]at Z;rw[bF a5];exact Z
   ·rw[if_neg (by omega)]
where
 put_scalar (h:ap P V W st a w) {b:Ty} {pos:Nat} {x:b.den} {ls:List Leaf} {cs:List Value} {t:cU b.den} {R:List Value} {z:List Nat} (hf:b.flat=true) (h1:b.cells=1) (M:aG P V W st w ls cs)
   (r:(bif Gw off pos&&HC pos (off+n) then take st b ls else some ⟨false,x,[],[],ls⟩)=some t) (hm:Mx w G b hol pos x R z) :
   ∃ O c2 c' I,cs=O++c2/\aG P V W st w t.rest c2/\O.length=min (off+n) (pos+b.cells)-max off pos /\
    Mx w (λk=>G k\/br V W t.p t.frz k) b J pos t.val c' I /\
    (∀ i,i<b.cells->c'[i]?=if off<=pos+i/\pos+i<off+n then O[pos+i-max off pos]? else R[i]?) /\
    (∀ k,I.count k<=z.count k+(aZ W t.kill).count k)/\(∀ x∈t.frz,aF st x)/\(∀ x∈t.kill,aF st x):=by
  have a0:∀ {S S':Nat->Prop} {hh a8:Option Nat} {y:b.den} {c:List Value} {q:List Nat},Mx w S b hh pos y c q->Mx w S' b a8 pos y c []:=by
   intro S S' hh a8 y c q hq;exact Mx.flat (w:=w) (G:=λ_=>True) hf (kL hf hq)
  cases X:Gw off pos&&HC pos (off+n) with
  |true =>
   rw[X]at r;simp only[cond_true]at r;simp only[FL,Gm]at X;have a7:=GU X.1;obtain⟨O,c2,l1,e1,e2,h2,h3,h4,h5,Z⟩:=mv h b pos ls cs t M r;have a2:=h4.len;refine⟨O,c2,O,[],e1,h3,by rw[a2];omega,a0 h4,λi hi=>?_,λk=>by simp,h5,Z⟩;rw[if_pos (by omega)];congr 1;omega
  |false =>
   rw[X]at r;simp only[cond_false,FJ]at r;subst r;have a3:¬ (off<=pos/\pos<off+n):=by
    rintro⟨h1,h2⟩;have:(Gw off pos&&HC pos (off+n))=true:=by
     simp only[FL,Gm];exact⟨Gf h1,h2⟩
    rw[X]at this;cases this
   refine⟨[],cs,R,[],rfl,M,by simp only[Gi];omega,a0 hm,λi hi=>?_,λk=>by simp,by simp,by simp⟩;rw[if_neg (by omega)]
end
section
variable {P:Program} {V:Env} {Γ:List Ctr} {T:TypeId->TI} {st st2:St} {o:Oper} {R:Type} {κ:Upd->Option R} {r:R}
def wz (V:Env)(W:Wit)(st:St)(q j k:Nat):Prop :=
 ¬ W.nw k/\¬ V.prot k/\(∀ b,live st b->W.β b≠k)/\∀ (u i:Nat) (l:Leaf),(st u).ls[i]?=some l->ao l->(u,i)≠(q,j)->k∉W.bs u i
structure zo (st st2:St) (q j:Nat) (l':Leaf):Prop where
 sh:∀ r,(st2 r).sh=(st r).sh
 ver:∀ r,(st r).ver<=(st2 r).ver
 epo:(st EPO).ver<(st2 EPO).ver
 len:∀ r,(st2 r).ls.length=(st r).ls.length
 at_:∀ l,(st2 q).ls[j]?=some l->l=l'
 old:∀ r i l,(r,i)≠(q,j)->(st2 r).ls[i]?=some l->(st r).ls[i]?=some l
def Wit.tell (W:Wit)(q j:Nat)(bs:List Nat):Wit:={ W with bs:=λr i=>if (r,i)=(q,j) then bs else W.bs r i }
theorem ap.retell (hV:aA V){W:Wit}{a:Act}{w w':World}(h:ap P V W st a w){q j:Nat}{l l':Leaf}(O:zo st st2 q j l'){v:Value}{bs':List Nat}
  (hl:(st q).ls[j]?=some l) (a5:ao l) (hv:(W.cs q)[j]?=some v) (az:ao l') (a6:aM P V W st w' bs' l' v)
  (a4:∀ k∈bs',wz V W st q j k)
  (H:∀ k,cq V W st k->k∉W.bs q j->w'.heap[k]?=w.heap[k]?) (a8:w.heap.size<=w'.heap.size) (aw:w'.os=w.os) (ht:w'.tape=w.tape) (ho:w'.output=w.output) :
  ap P V (W.tell q j bs') st2 a w':=by
 have a0:=h.ownb q j _ hl a5;have Y:∀ b,live st2 b<->live st b:=jh O.sh;have a2:∀ {y i:Nat},(y,i)≠(q,j)->(W.tell q j bs').bs y i=W.bs y i:=λh=>if_neg h
 have a3:(W.tell q j bs').bs q j=bs':=if_pos rfl;have ad:∀ (y i:Nat) (l:Leaf),(st2 y).ls[i]?=some l->ao l->(y,i)≠(q,j)->(st y).ls[i]?=some l:=λy i l X _ J=>O.old y i l J X
 have I:cP V W (W.tell q j bs') st st2 w w':=by
  refine⟨λy=>⟨O.ver y,λ_=>rfl⟩,λb hb=>⟨(Y b).2 hb,rfl⟩,λ_ h=>h,λk z=>H k (z.elim .inl (λh=>.inr (.inl h))) (λhm=>?_),λhe=>?_⟩
  ·rcases z with z|z
   ·exact (a0 k hm).1 z
   ·exact (a0 k hm).2.1 z
  ·have:=O.epo;omega
 exact {
  nt:=h.nt,df:=h.df
  slots:=λt ay=>by rw[O.sh];exact h.slots t ay
  boxes:=λb hb=>by
   rw[O.sh];rcases h.boxes b hb with ⟨X,J⟩|⟨X,E0,J⟩
   ·refine .inl ⟨X,F4 ?_⟩;rw[O.len,J];rfl
   ·refine .inr ⟨X,E0,?_⟩;show w'.heap[W.β b]?=_;rw[H _ (.inr (.inr (.inl ⟨b,⟨hb,X⟩,rfl⟩))) (λhm=>(a0 _ hm).2.2 b ⟨hb,X⟩ rfl)];exact J
  len:=λy=>by rw[O.len];exact h.len y
  one:=h.one
  leaf:=λy i l1 u X J=>by
   by_cases M:(y,i)=(q,j)
   ·cases M;obtain rfl:=O.at_ l1 X;have J:(W.cs q)[j]?=some u:=J;rw[hv]at J;simp only[FJ]at J;subst J;rw[a3];have a7:cP V W (W.tell q j bs') st st2 w' w':=⟨I.ver,I.box,I.nw,λ_ _=>rfl,λhe=>by have:=O.epo;omega⟩;exact a6.carry hV.ro a7 (λ_=>⟨rfl,λ_ _=>rfl⟩)
   ·have h3:=O.old y i l1 M X;rw[a2 M];refine (h.leaf y i l1 u h3 J).carry hV.ro I (λho=>⟨rfl,λk z=>H k (.inr (.inr (.inr ⟨y,i,l1,h3,ho,z⟩))) (λhm=>M ?_)⟩);obtain⟨rfl,rfl⟩:=h.sep y i l1 q j _ h3 ho hl a5 k z hm;rfl
  ownb:=λy i l1 X J k z=>by
   by_cases M:(y,i)=(q,j)
   ·cases M;rw[a3]at z;obtain⟨q1,q2,q3,_⟩:=a4 k z;exact⟨q1,q2,λb hb=>q3 b ((Y b).1 hb)⟩
   ·rw[a2 M]at z;obtain⟨q1,q2,q3⟩:=h.ownb y i l1 (O.old y i l1 M X) J k z;exact⟨q1,q2,λb hb=>q3 b ((Y b).1 hb)⟩
  sep:=λy i l1 r2 i2 l2 X J h3 h4 k z a1=>by
   by_cases M:(y,i)=(q,j) <;> by_cases Z:(r2,i2)=(q,j)
   ·rw[<- Z]at M;cases M;exact⟨rfl,rfl⟩
   ·cases M;rw[a3]at z;rw[a2 Z]at a1;exact absurd a1 ((a4 k z).2.2.2 r2 i2 l2 (O.old r2 i2 l2 Z h3) h4 Z)
   ·cases Z;rw[a3]at a1;rw[a2 M]at z;exact absurd z ((a4 k a1).2.2.2 y i l1 (O.old y i l1 M X) J M)
   ·rw[a2 M]at z;rw[a2 Z]at a1;exact h.sep y i l1 r2 i2 l2 (O.old y i l1 M X) J (O.old r2 i2 l2 Z h3) h4 k z a1
  box:=λb hb=>h.box b ((Y b).1 hb)
  inj:=λb b' hb a9=>h.inj b b' ((Y b).1 hb) ((Y b').1 a9)
  nwlt:=λk z=>⟨GR (h.nwlt k z).1 a8,(h.nwlt k z).2⟩
  os:=aw.trans h.os,tape:=ht.trans h.tape,output:=ho.trans h.output,size:=GP h.size a8
  keep:=λk hp=>by
   rw[H k (.inr (.inl hp)) (λhm=>(a0 k hm).2.1 hp)];exact h.keep k hp
  fixb:=λx hx=>⟨(Y _).2 (h.fixb x hx).1,(h.fixb x hx).2⟩
  fixt:=h.fixt }
theorem lD {q:Nat}(st:St):∀ (ks:List (Nat×Nat)),(∀ x∈ks,x.1≠q)->ac (aI st ks) st q=st q
 |[],_=>rfl
 |(r,j)::ks,h=>by
  have e:ac (aI st ((r,j)::ks)) st=ac [(r,gF (ac (aI st ks) st r) j)] (ac (aI st ks) st):=aR _ _ _ _;rw[e,aL (GX (h (r,j) (F5 ..))),lD st ks (λx u=>h x (FY _ u))]
theorem li {q:Nat}(st:St):∀ (ks:List (Nat×Nat)),(∀ x∈ks,x.1≠q)->ac (aP st ks) st q=st q
 |[],_=>rfl
 |(r,j)::ks,h=>by
  have e:ac (aP st ((r,j)::ks)) st=ac [(r,gL (ac (aP st ks) st r) j)] (ac (aP st ks) st):=aR _ _ _ _;rw[e,aL (GX (h (r,j) (F5 ..))),li st ks (λx u=>h x (FY _ u))]
theorem OwH.store {w:World}{G G':Nat->Prop}{h h':Option (Nat×Nat)}{E:TypeId}{e:Ty}{xs:List e.den}{g len a2:Nat}{bs K:List Nat}(H:OwH w G h E e xs (.slice (some ⟨g,0,none⟩) len a2) bs)
  (hG:∀ k,G k->G' k) (b0:¬ G' g) (hK:K.Nodup) (bn:∀ k∈K,k∉bs) {i:Nat} {a8 z:e.den} (hi:xs[i]?=some a8) (hh:∀ j,j≠i->c9 h' j=c9 h j) {off:Nat} {cs:List Value} (cy:off+cs.length<=e.cells)
  (M:∀ c0 ad,Mx w G e (c9 h i) 0 a8 c0 ad->∃ c J,Mx w G' e (c9 h' i) 0 z c J/\(∀ k,k<e.cells->c[k]?=if off<=k/\k<off+cs.length then cs[k-off]? else c0[k]?)/\∀ k,J.count k<=ad.count k+K.count k) :
  ∃ a9,OwH (w.setCells g (i*e.cells+off) cs) G' h' E e (xs.set i z) (.slice (some ⟨g,0,none⟩) len a2) a9/\∀ k∈a9,k∈bs\/k∈K:=by
 obtain⟨cc,Z,X,h1,h2,h3⟩:=H;have a6:i<xs.length:=(FM.1 hi).1;obtain⟨c0,b5,bx⟩:=h3 i a8 hi;obtain⟨c,J,hm,c1,ay⟩:=M c0 (X i) b5;have c6:=h1.1;rcases h1.2 with ⟨h4,_⟩|⟨g',cp,y,mk,h4,hg,b6,c3,c4,a7⟩
 ·simp at h4
 ·simp only[GF,FJ,Gr,and_true,true_and]at h4;obtain⟨rfl,rfl,rfl⟩:=h4;have cx:g∈bs:=by rw[h2];simp[GB]
  have cu:=b5.len;have c2:=hm.len;have ba:(i+1)*e.cells<=xs.length*e.cells:=FW _ a6;rw[GJ]at ba;have cw:xs.length*e.cells<=a2*e.cells:=FW _ b6;have c5:y.toList.length=y.size:=by rw[GG]
  have az:Z=y.toList.take (xs.length*e.cells):=a7.symm;have M:=ku g E cs 0 (i*e.cells+off) w y hg;have bb:=lL y.toList cs (i*e.cells+off) (by omega);rw[GC]at bb;rw[bb]at M;simp only[GN]at M;have a0:∀ k,k<xs.length*e.cells->(y.toList.take (i*e.cells+off)++cs++y.toList.drop (i*e.cells+off+cs.length))[k]? =
    if i*e.cells+off<=k/\k<i*e.cells+off+cs.length then cs[k-(i*e.cells+off)]? else Z[k]?:=by
   intro k Y;have b3:Z[k]?=y.toList[k]?:=by rw[az,GL,if_pos Y]
   by_cases h9:k<i*e.cells+off
   ·rw[FZ,FQ (by simp only[GA];omega),GL,if_pos h9,if_neg (by omega),b3]
   ·by_cases bl:k<i*e.cells+off+cs.length
    ·rw[FZ,FP (by simp only[GA];omega),FQ (by simp only[GA];omega),if_pos ⟨by omega,bl⟩];congr 1;simp only[GA];omega
    ·rw[FP (by simp only[GA,F0];omega),Ga,if_neg (by omega),b3];congr 1;simp only[GA,F0];omega
  have O:(y.toList.take (i*e.cells+off)++cs++y.toList.drop (i*e.cells+off+cs.length)).length=y.size:=by
   simp only[F0,GA,Gt];omega
  have a3:∀ k,([g]++(FX xs.length).flatMap λj=>if j=i then J else X j).count k<=bs.count k+K.count k:=by
   intro k;have h5:=lh a6 X J k;have h6:=ay k;rw[h2];simp only[GB,HG,FO];omega
  have a1:=oj cc hK bn a3;have b1:∀ j,j<xs.length->∀ k∈(if j=i then J else X j),k≠g:=by
   intro j hj k Y e0;subst e0;have h7:=a1.1;rw[G4,GS]at h7;exact h7.1 (ei.2 ⟨j,hj,Y⟩)
  have I:∀ k,k≠g->(w.setCells g (i*e.cells+off) cs).heap[k]?=w.heap[k]?:=λk Y=>fh g cs _ w k Y
  refine⟨[g]++(FX xs.length).flatMap λj=>if j=i then J else X j,⟨a1.1,(y.toList.take (i*e.cells+off)++cs++y.toList.drop (i*e.cells+off+cs.length)).take (xs.length*e.cells),
   λj=>if j=i then J else X j,⟨?_,.inr ⟨g,a2,_,_,?_,M,?_,by rw[Gd,O];exact c3,?_,?_⟩⟩,?_,?_⟩,a1.2⟩
  ·rw[GA,O,GT];omega
  ·rw[GT]
  ·rw[GT];exact b6
  ·rw[Gd,O];exact c4
  ·rw[GT]
  ·simp[GB]
  ·intro j x hj;rcases aU _ _ _ _ _ hj with ⟨rfl,rfl,_⟩|⟨a4,hj⟩
   ·refine⟨c,?_,λk u hu=>?_⟩
    ·simp only[if_true];exact hm.carry (λ_ h=>h) (λk Y=>I k (λe0=>b0 (e0 ▸ Y))) (λk Y=>I k (b1 j a6 k (by simpa using Y)))
    ·have b4:k<e.cells:=by rw[<- c2];exact (FM.1 hu).1
     rw[GL,if_pos (by omega),a0 _ (by omega)];rw[c1 k b4]at hu;by_cases aw:off<=k/\k<off+cs.length
     ·rw[if_pos aw]at hu;rw[if_pos (by omega),<- hu];congr 1;omega
     ·rw[if_neg aw]at hu;rw[if_neg (by omega)];exact bx k u hu
   ·obtain⟨c',b9,bo⟩:=h3 j x hj;have b2:j<xs.length:=(FM.1 hj).1;refine⟨c',?_,λk u hu=>?_⟩
    ·rw[hh j a4];simp only[if_neg a4];exact b9.carry hG (λk Y=>I k (λe0=>b0 (e0 ▸ hG k Y))) (λk Y=>I k (b1 j b2 k (by rw[if_neg a4];exact Y)))
    ·have b4:k<e.cells:=by rw[<- b9.len];exact (FM.1 hu).1
     have cb:(j+1)*e.cells<=xs.length*e.cells:=FW _ b2;rw[GJ]at cb;rw[GL,if_pos (by omega),a0 _ (by omega),if_neg ?_]
     ·exact bo k u hu
     ·rintro⟨h14,h15⟩;rcases Nat.lt_or_gt_of_ne (λe=>a4 e.symm:i≠j) with a5|a5
      ·have:(i+1)*e.cells<=j*e.cells:=FW _ a5;rw[GJ]at this;omega
      ·have:(j+1)*e.cells<=i*e.cells:=FW _ a5;rw[GJ]at this;omega
theorem zp (hV:aA V)(hT:TOk P T){t:TypeId}{x y:Operand}(b2:o.op=.store t x y)(h:act Γ T o st κ=some r):cd P V o st κ r:=by
  simp only[act,wrU,b2]at h;split at h
  · cases h
  · rename_i hd
    cases hb:F2 (au st y).2.length (T t).cells&&decide ((au st y).1=bk (T t).agg)&&!decide ((T t).cells=0) with
    |false=>simp[hb]at h
    |true =>
      simp only[hb,cond_true]at h;simp only[FL,decide_eq_true_eq,F7,decide_eq_false_iff_not]at hb;obtain⟨⟨a8,ba⟩,a9⟩:=hb;have a8:=FR a8;split at h
      · rename_i b off hx
        cases Y:decide ((st b).sh=.agg)&&decide (off+(au st y).2.length<=(st b).ls.length)&&iN st (au st y).2 with
        |false=>simp[Y]at h
        |true =>
          simp only[Y,cond_true]at h;simp only[FL,decide_eq_true_eq]at Y;exact⟨_,h,λW a w hr=>uL hV hT b2 hd hx a8 ba a9 Y.1.1 Y.1.2 Y.2 hr⟩
      · rename_i z j et i sz off hx
        split at h
        · rename_i p hh E e xs d1
          cases Y:F2 sz e.cells&&decide (off+(au st y).2.length<=e.cells)&&tv z with
          |false=>simp[Y]at h
          |true =>
            simp only[Y,cond_true]at h;simp only[FL,decide_eq_true_eq,tv,F7]at Y;obtain⟨⟨ad,em⟩,en,cx⟩:=Y;have ad:=FR ad;subst ad;have ed:z≠EPO:=λe0=>by subst e0;simp at cx
            unfold im at h;obtain⟨a3,c4,h⟩:=GD.1 h;obtain⟨_,_,h4⟩:=gT c4;simp only[HJ]at h4;split at h
            · rename_i u hu
              cases hq:u.rest.isEmpty&&bc u.kill&&dO u.frz u.kill&&!((u.kill++u.frz).any λk=>F2 k.1 z) with
              |false=>rw[hq]at h;cases h
              |true =>
                simp only[hq,cond_true]at h;simp only[FL,F7,GE]at hq;obtain⟨⟨⟨e7,ea⟩,eb⟩,a2⟩:=hq;have a2:∀ k∈u.kill++u.frz,k.1≠z:=λk H e0=>a2 k H (by simp[e0])
                obtain ⟨I, hκ, bx, a6, c5⟩ : ∃ I : Option (Nat × Nat), κ ((z, ⟨(st z).ver, (st z).sh, aV (st z).ls j (.own (p || u.p) I E e (xs.set i u.val))⟩) :: (EPO, ca (ac (aP (ac (aI st u.frz) st) u.kill ++ aI st u.frz) st EPO)) ::
                      (aP (ac (aI st u.frz) st) u.kill++aI st u.frz))=some r /\
                    (∀ k,off<=k->k<off+(au st y).2.length->c9 I i≠some k)/\(∀ k,¬ (off<=k/\k<off+(au st y).2.length)->(c9 I i=some k<->c9 hh i=some k))/\(∀ j',j'≠i->c9 I j'=c9 hh j'):=by
                  cases hh with
                  |none=>exact⟨none,h,λ_ _ _=>by simp[c9],λ_ _=>Gx,λ_ _=>rfl⟩
                  |some hp =>
                    obtain⟨hi,ho⟩:=hp;simp only at h;cases J:Gw off ho&&HC ho (off+(au st y).2.length) with
                    |true =>
                      rw[J]at h;simp only[cond_true]at h;simp only[FL,Gm]at J;have ec:=GU J.1;cases b4:F2 i hi with
                      |true =>
                        rw[b4]at h;have h9:=h;have:=FR b4;subst this;refine⟨none,h9,λ_ _ _=>by simp[c9],λk H=>?_,λj' d4=>?_⟩
                        · simp only[c9,Nat.beq_refl,cond_true,reduceCtorEq,FJ,false_iff]
                          rintro rfl;exact H ⟨ec,J.2⟩
                        · have:F2 i j'=false:=by
                            cases cw:F2 i j' with
                            |false=>rfl
                            |true=>exact absurd (FR cw).symm d4
                          simp[c9,this]
                      |false=>rw[b4]at h;cases h
                    |false =>
                      rw[J]at h;refine⟨some (hi,ho),h,λk az d6=>?_,λ_ _=>Gx,λ_ _=>rfl⟩;simp only[c9];cases F2 hi i with
                      |false=>simp
                      |true =>
                        simp only[cond_true,ne_eq,FJ];rintro rfl;have:(Gw off ho&&HC ho (off+(au st y).2.length))=true:=by
                          simp only[FL,Gm];exact⟨Gf az,d6⟩
                        rw[J]at this;cases this
                refine⟨_,hκ,λW a w hr next Q hn=>?_⟩;obtain⟨cs,hs,M⟩:=db hr y;rw[ba]at hs;have cy:=iC hs M.one';have c3:=M.length;obtain⟨h5,h6⟩:=fH d1 (by simp);obtain⟨hp,_,_,_⟩:=bA hr x (by rw[hx];simp);rw[hx]at hp;obtain⟨g,eg,cp,a5,es,hv⟩:=hp.2 h5;have e6:T t≠.none:=by intro e;rw[e]at a9;exact a9 rfl
                have a1:=hr.leaf z j _ _ h6 a5;have d2:∀ c0 O,Mx w (gd V W p) e (c9 hh i) 0 a3 c0 O->∃ c a0,Mx w (λk=>gd V W p k\/br V W u.p u.frz k) e (c9 I i) 0 u.val c a0 /\
                    (∀ k,k<e.cells->c[k]?=if off<=k/\k<off+cs.length then cs[k-off]? else c0[k]?)/\∀ k,a0.count k<=O.count k+(aZ W u.kill).count k:=by
                  intro c0 O hm;obtain⟨c1,c2,c',bs',f1,f2,f3,f4,f5,f6,f7,f8⟩:=nj hr bx a6 e 0 a3 (au st y).2 cs u c0 O M hu hm;have bn:c2=[]:=by
                    have:=f2.length;rw[HR.1 e7]at this;exact F4 this.symm
                  subst bn;rw[F9]at f1;subst f1;refine⟨c',bs',f4,λk H=>?_,f6⟩;rw[f5 k H,c3];simp only[GY];by_cases J:off<=k/\k<off+cs.length
                  · rw[if_pos J,if_pos J]
                    congr 1;omega
                  · rw[if_neg J,if_neg J]
                have b3:(∀ x∈u.frz,aF st x)/\(∀ x∈u.kill,aF st x):=by
                  obtain⟨_,a4,b5,_,_,bo⟩:=a1;obtain⟨c0,dc,_⟩:=bo i a3 h4;obtain⟨_,_,_,_,_,_,_,_,_,_,f7,f8⟩:=nj hr bx a6 e 0 a3 (au st y).2 cs u c0 _ M hu dc;exact⟨f7,f8⟩
                obtain⟨k1,k2,k3,k4⟩:=gp hV hr eb b3.2;have X:ac (aP (ac (aI st u.frz) st) u.kill++aI st u.frz) st z=st z:=by
                  rw[bH,li _ _ (λx hx=>a2 x (FS _ hx)),lD _ _ (λx hx=>a2 x (FN _ hx))]
                have h7:(ac (aP (ac (aI st u.frz) st) u.kill++aI st u.frz) st z).ls[j]?=some (.own p hh E e xs):=by rw[X];exact h6
                have a7:=k1.ownb z j _ h7 trivial;have b9:∀ k,gd V W p k\/br V W u.p u.frz k->gd V (W.frz st u.frz) (p||u.p) k:=by
                  rintro k (H|H)
                  · exact b8 (W':=W.frz st u.frz) (by intro h;simp[h]) (λ_ h=>Or.inl h) k H
                  · exact b8 (W':=W.frz st u.frz) (by intro h;simp[h]) (λ_ h=>h) k (kZ b3.1 k H)
                have ay:g∈W.bs z j:=by obtain⟨_,a4,b5,_,bb,_⟩:=a1;rw[bb];simp[GB]
                have d3:¬ gd V (W.frz st u.frz) (p||u.p) g:=by
                  rintro (H|⟨_,H⟩)
                  · exact (a7 g ay).1 H
                  · exact (a7 g ay).2.1 (hV.ro g H)
                have cu:∀ k∈aZ W u.kill,k∉W.bs z j:=λk H d5=>(k4 k H).2.2.2.2 z j _ h7 trivial d5
                obtain⟨bs',c6,bl⟩:=OwH.store (G':=gd V (W.frz st u.frz) (p||u.p)) (h':=I) a1 (λk H=>b9 k (.inl H)) d3 (iv hr ea b3.2) cu h4 c5 (off:=off) (cs:=cs) (by omega)
                  (λc0 O hm=>by
                    obtain⟨c,a0,q1,q2,q3⟩:=d2 c0 O hm;exact⟨c,a0,q1.mono b9,q2,q3⟩)
                obtain⟨_,a4,b5,ho,bb,_⟩:=a1;have ef:eg=xs.length:=by
                  obtain⟨A,b6,e0,_⟩:=ho.slice;simp only[GF]at e0;exact e0.2.1
                subst ef;rcases ho.2 with ⟨h8,_⟩|⟨g',b6,cur,mk,h8,hg,e5,dd,eq,_⟩
                · simp at h8
                · simp only[GF,FJ,Gr,and_true,true_and]at h8
                  obtain⟨rfl,rfl⟩:=h8;have cb:(i+1)*e.cells<=xs.length*e.cells:=FW _ (FM.1 h4).1;rw[GJ]at cb;have ej:xs.length*e.cells<=cp*e.cells:=FW _ e5;have aw:cur.toList.length=cur.size:=by rw[GG]
                  have cc:=oi (P:=P) (pT (hT t) e6) (w:=w) (b:=g) (off:=i*e.cells+off) (cur:=cur.toList) (E:=E) (by rw[GC];exact hg) (by rw[aw];exact AY dd) cy (by omega) M.one' (by omega);refine qD (w':=w.setCells g (i*e.cells+off) cs) (by simp[execOp,b2,hv,cc]) ?_;rw[hd];refine hn _ _ ?_;obtain⟨e1,e2,e3,e4⟩:=kv g cs (i*e.cells+off) w;refine⟨_,k1.retell hV (l':=.own (p||u.p) I E e (xs.set i u.val)) (w':=w.setCells g (i*e.cells+off) cs) (bs':=bs') ?_ h7 trivial a5 trivial c6 (λk H=>?_) (λk _ H=>fh g cs _ w k (λe=>H (e ▸ ay))) (Gv e4.symm) e1 e2 e3⟩
                  · rw[aR z,aR EPO]
                    have Z:EPO≠z:=GX ed;generalize aP (ac (aI st u.frz) st) u.kill++aI st u.frz=U at X ⊢;refine⟨λq=>?_,λq=>?_,?_,λq=>?_,λl M=>?_,λq i' l hq M=>?_⟩
                    · rcases an z q ⟨(st z).ver,(st z).sh,aV (st z).ls j (.own (p||u.p) I E e (xs.set i u.val))⟩ (ac [(EPO,ca (ac U st EPO))] (ac U st)) with ⟨rfl,e⟩ | ⟨_,e⟩
                      · rw[e,X]
                      · rw[e]
                        rcases an EPO q (ca (ac U st EPO)) (ac U st) with ⟨rfl,e⟩|⟨_,e⟩ <;> rw[e];rfl
                    · rcases an z q ⟨(st z).ver,(st z).sh,aV (st z).ls j (.own (p||u.p) I E e (xs.set i u.val))⟩ (ac [(EPO,ca (ac U st EPO))] (ac U st)) with ⟨rfl,e⟩ | ⟨_,e⟩
                      · rw[e,X];exact F3 _
                      · rw[e]
                        rcases an EPO q (ca (ac U st EPO)) (ac U st) with ⟨rfl,e⟩|⟨_,e⟩ <;> rw[e]
                        · exact HW _
                        · exact F3 _
                    · rw[aL Z,bm];exact FV _
                    · rcases an z q ⟨(st z).ver,(st z).sh,aV (st z).ls j (.own (p||u.p) I E e (xs.set i u.val))⟩ (ac [(EPO,ca (ac U st EPO))] (ac U st)) with ⟨rfl,e⟩ | ⟨_,e⟩
                      · rw[e,X];simp[aV]
                      · rw[e]
                        rcases an EPO q (ca (ac U st EPO)) (ac U st) with ⟨rfl,e⟩|⟨_,e⟩ <;> rw[e];rfl
                    · rw[bm]at M
                      rcases aU _ _ _ _ _ M with ⟨_,rfl,_⟩|⟨Z,_⟩
                      · rfl
                      · exact absurd rfl Z
                    · rcases an z q ⟨(st z).ver,(st z).sh,aV (st z).ls j (.own (p||u.p) I E e (xs.set i u.val))⟩ (ac [(EPO,ca (ac U st EPO))] (ac U st)) with ⟨rfl,e⟩ | ⟨_,e⟩
                      · rw[e]at M
                        rw[X];rcases aU _ _ _ _ _ M with ⟨rfl,_,_⟩|⟨_,M⟩
                        · exact absurd rfl hq
                        · exact M
                      · rw[e]at M
                        rcases an EPO q (ca (ac U st EPO)) (ac U st) with ⟨rfl,e⟩|⟨_,e⟩ <;> rw[e]at M <;> exact M
                  · rcases bl k H with H|H
                    · have h9:=k1.ownb z j _ h7 trivial k H
                      exact⟨h9.1,h9.2.1,h9.2.2,λr1 i1 l1 b0 b1 Z az=>Z (by obtain⟨e1,e2⟩:=k1.sep r1 i1 l1 z j _ b0 b1 h7 trivial k az H;rw[e1,e2])⟩
                    · have h9:=k4 k H
                      exact⟨h9.1,h9.2.1,h9.2.2.2.1,λr1 i1 l1 b0 b1 _=>h9.2.2.2.2 r1 i1 l1 b0 b1⟩
            · cases h
        · cases h
      · cases h
end
section
variable {P:Program} {V:Env} {Γ:List Ctr} {T:TypeId->TI} {st:St} {o:Oper} {R:Type} {κ:Upd->Option R} {r:R}
theorem ap.putOwn (Y:aA V){W:Wit}{a:Act}{w w':World}(h:ap P V W st a w)(O:w.heap.size<=w'.heap.size)(M:w'.os=w.os)(ht:w'.tape=w.tape)(ho:w'.output=w.output)
  (hk:∀ k,cq V W st k->w'.heap[k]?=w.heap[k]?) (d:Nat) (hd:d<V.nt) (z:∀ x∈V.fixt,x.1≠d) (n:Nat) (hn:(st d).ver<n) {p:Bool} {E:TypeId} {e:Ty} {xs:List e.den} {v:Value} {bs:List Nat}
  (ow:Ow w' (gd V W p) E e xs v bs) (hb:∀ k∈bs,¬ cq V W st k):Rel P V (ac [(d,⟨n,.one,[.own p none E e xs]⟩)] st) (a.put (some d) v) w':=by
 refine⟨_,(h.world Y O M ht ho hk).put Y d hd z n .one [.own p none E e xs] v [v] (λ_=>bs) hn rfl rfl (λu Z=>by simp at Z;subst Z;exact ow.one) ?_ ?_ ?_⟩
 ·intro j l u y H;cases j with
  |zero=>simp at y H;subst y;subst H;exact ow
  |succ j=>simp at y
 ·intro j l y H k J;have:=hb k J;simp only[cq,not_or,not_exists,not_and]at this;exact⟨this.1,this.2.1,this.2.2.1,λr1 j1 l1 _ I X=>this.2.2.2 r1 j1 l1 I X⟩
 ·intro j j' l l' y H I X k h5 h6;have h7:j<1:=(FM.1 y).1;have h8:j'<1:=(FM.1 I).1;omega
theorem d8 {W:Wit}{p q:Bool}{z H:List (Nat×Nat)}:(∀ k,br V W p z k->br V W (p||q) (z++H) k)/\(∀ k,br V W q H k->br V W (p||q) (z++H) k):=by
 constructor
 ·rintro k (u|⟨x,y,u⟩)
  ·exact .inl (b8 (W':=W) (by intro h;simp[h]) (λ_ h=>h) k u)
  ·exact .inr ⟨x,FS _ y,u⟩
 ·rintro k (u|⟨x,y,u⟩)
  ·exact .inl (b8 (W':=W) (by intro h;simp[h]) (λ_ h=>h) k u)
  ·exact .inr ⟨x,FN _ y,u⟩
theorem zq (n:Nat)(u:Nat->List Nat):(FX (n+1)).flatMap u=u 0++(FX n).flatMap λj=>u (j+1):=by
 rw[List.range_succ_eq_map,GV,HS]
theorem pC {W:Wit}{a:Act}{w:World}(O:ap P V W st a w){e:Ty}:∀ (ps:List (Nat×Operand)) (k:Nat) (u:cU (List e.den)),eV st e k ps=some u ->
  ps.map (λx=>(x.1,a.eval x.2))=((ps.map λx=>a.eval x.2).zipIdx k).map (λx=>(x.2,x.1))/\u.val.length=ps.length/\(∀ x∈u.frz,aF st x)/\(∀ x∈u.kill,aF st x) /\
  ∃ z:Nat->List Nat,aZ W u.kill=(FX u.val.length).flatMap z /\
   ∀ (j:Nat) (x:e.den),u.val[j]?=some x->∃ v c,(ps.map λx=>a.eval x.2)[j]?=some v/\v.cells=c.toArray/\Mx w (br V W u.p u.frz) e none 0 x c (z j)
 |[],k,u,h=>by
  simp only[eV,FJ]at h;subst h;exact⟨rfl,rfl,by simp,by simp,λ_=>[],rfl,λj x I=>by simp at I⟩
 |(i,y)::ps,k,u,h=>by
  simp only[eV]at h;cases H:F2 i k&&decide ((au st y).1=bk e.isAgg) with
  |false=>simp[H]at h
  |true =>
   simp only[H,cond_true]at h;simp only[FL,decide_eq_true_eq]at H;have M:=FR H.1;subst M;split at h
   ·rename_i t1 u1 hg J;simp only[FJ]at h;subst h;obtain⟨h1,h2,h3,h4,z,h5,h6⟩:=pC O ps (i+1) u1 J;obtain⟨cs,Z,Y⟩:=db O y;rw[H.2]at Z;have hc:=iC Z Y.one';obtain⟨g1,g2,g3⟩:=dZ (pos:=0) O Y hg;refine⟨by simp[h1],by simp[h2],λx X=>(FU.1 X).elim (g2 x) (h3 x),λx X=>(FU.1 X).elim (g3 x) (h4 x),λj=>match j with|0=>aZ W t1.kill|j+1=>z j,?_,?_⟩
    ·rw[dV,h5,Gu,zq]
    ·intro j x I;cases j with
     |zero =>
      simp at I;subst I;exact⟨a.eval y,cs,by simp,hc,g1.mono d8.1⟩
     |succ j =>
      obtain⟨v,c,h7,h8,h9⟩:=h6 j x (by simpa using I);exact⟨v,c,by simpa using h7,h8,h9.mono d8.2⟩
   ·cases h
theorem mw (w:World)(G:Nat->Prop):∀ (b:Ty),Rd w G b b.zero (zeroCells b)
 |.int _=>rfl
 |.bool=>rfl
 |.str=>rfl
 |.unit=>rfl
 |.hdr=>⟨none,0,rfl⟩
 |.pair a b=>⟨_,_,rfl,mw w G a,mw w G b⟩
 |.list m E e=>Rd.nil w G m E e
theorem rT (w:World)(G:Nat->Prop):∀ (b:Ty) (pos:Nat),Mx w G b none pos b.zero (zeroCells b) []
 |.int _,_=>⟨rfl,rfl⟩
 |.bool,_=>⟨rfl,rfl⟩
 |.str,_=>⟨rfl,rfl⟩
 |.unit,_=>⟨rfl,rfl⟩
 |.hdr,_=>⟨⟨none,0,rfl⟩,rfl⟩
 |.pair a b,_=>⟨_,_,[],[],rfl,rfl,rT w G a _,rT w G b _⟩
 |.list m E e,_=>by
  cases m with
  |false=>exact cF.2 ⟨rfl,Rd.nil w G false E e⟩
  |true=>exact (bF (by simp)).2 ⟨_,rfl,(OwH.nil w G E e).2⟩
theorem nk {W:Wit}{k:Nat}(h:¬ W.nw k/\¬ V.prot k/\(∀ b,live st b->W.β b≠k)/\∀ (u i:Nat) (l:Leaf),(st u).ls[i]?=some l->ao l->k∉W.bs u i):¬ cq V W st k:=by
 rintro (y|y|⟨b,J,e⟩|⟨u,i,l,z,H,I⟩)
 ·exact h.1 y
 ·exact h.2.1 y
 ·exact h.2.2.1 b J e
 ·exact h.2.2.2 u i l z H I
theorem nl:(9223372036854775807:Nat)<=maxLen:=by decide
theorem rU (hV:aA V)(hT:TOk P T)(az:bU V o){t:TypeId}{n:Nat}{y:Array (Nat×Operand)}(a2:o.op=.buildSlice t n y)(h:act Γ T o st κ=some r):cd P V o st κ r:=by
 simp only[act,wrU,a2]at h;cases ht:T t with
 |slice E e b3 =>
  simp only[ht]at h;split at h
  ·rename_i u b9;cases hb:F2 u.val.length n&&decide (n*e.cells<=16777216)&&bc u.kill&&dO u.frz u.kill with
   |false=>simp[hb]at h
   |true =>
    simp only[hb,cond_true]at h;simp only[FL,decide_eq_true_eq]at hb;obtain⟨⟨⟨b4,c0⟩,b5⟩,b6⟩:=hb;have bx:=FR b4;subst bx;split at h
    ·rename_i d hd;refine⟨_,h,λW a w hr next Q hn=>?_⟩;have h1:=hT t;rw[ht]at h1;obtain⟨hu,_,_,Y,_,ti,z,a4,O,_,hz,c2⟩:=h1;obtain⟨h2,h3,a7,a8,a6,ba,h5⟩:=pC hr y.toList 0 u b9;generalize c1:u.val=I at *;have a5:∀ v∈(y.toList.map λx=>a.eval x.2),v.cells.size=e.cells:=by
      intro v hv;obtain⟨j,hj,e1⟩:=List.getElem_of_mem hv;have bn:j<I.length:=by rw[h3];simpa using hj
      obtain⟨v',c,X,Z,h8⟩:=h5 j I[j] (F1 bn);rw[F1 hj]at X;simp only[FJ]at X;rw[<- e1,X,Z];simpa using h8.len
     have b2:(y.toList.map λx=>a.eval x.2).length=I.length:=by rw[Gj,h3]
     have a0:∀ (j:Nat) (x:e.den),I[j]?=some x->∃ c,Mx w (br V W u.p u.frz) e none 0 x c (a6 j)/\∀ i u,c[i]?=some u ->
       ((y.toList.map λx=>a.eval x.2).flatMap λv=>v.cells.toList)[j*e.cells+i]?=some u:=by
      intro j x hj;obtain⟨v,c,X,Z,h8⟩:=h5 j x hj;refine⟨c,h8,λi u hi=>?_⟩;have aw:i<e.cells:=by rw[<- h8.len];exact (FM.1 hi).1
      rw[Great.flat_get Y _ a5];have e1:(j*e.cells+i) / e.cells=j:=by
       rw[Gy,Nat.mul_add_div Y,Nat.div_eq_of_lt aw,GN]
      have e2:(j*e.cells+i) % e.cells=i:=by
       rw[Gy,Hb,HT aw]
      rw[e1,e2,X];simpa[Z]using hi
     have a1:((y.toList.map λx=>a.eval x.2).flatMap λv=>v.cells.toList).length=I.length*e.cells:=by
      have:∀ (vs:List Value),(∀ v∈vs,v.cells.size=e.cells)->(vs.flatMap λv=>v.cells.toList).length=vs.length*e.cells:=by
       intro vs;induction vs with
       |nil=>intro _;simp
       |cons v vs ih =>
        intro hv;rw[GV,F0,ih (λu hu=>hv u (FY _ hu)),GG,hv v (F5 ..),Gu,GJ];omega
      rw[this _ a5,b2]
     have H:=Great.fill_whole Y (y.toList.map λx=>a.eval x.2) ((Array.range (I.length*e.cells)).map ((if I.length*e.cells=0 then (#[]:Array Value) else z.cells)[· % (if I.length*e.cells=0 then (#[]:Array Value) else z.cells).size]!)) a5 (by rw[b2];simp);rw[<- h2]at H;have a3:(y.map λ (i,x)=>(i,a.eval x)).toList=y.toList.map λx=>(x.1,a.eval x.2):=by rw[HU]
     have b0:(execOp a.eval o).run P w=.ok (.value (.slice (some ⟨w.heap.size,0,none⟩) I.length I.length)) (w.alloc (.cells ((y.toList.map λx=>a.eval x.2).flatMap λv=>v.cells.toList).toArray E)):=by
      have M:¬ (I.length*e.cells>2 ^ 24):=by omega
      by_cases h0:I.length*e.cells=0
      ·rw[if_pos h0]at H;simp only[execOp,a2,Instr.buildSlice,HK,run_underlying hu,Gp,sizeOf,typeInfo,a4,O,a3];simp[M,h0,newRow,a4,O,a3]at H ⊢;simp[H]
      ·rw[if_neg h0]at H;have:=run_buildSlice (P:=P) w t E I.length (y.map λ (i,x)=>(i,a.eval x)) _ ti z hu a4 hz (by rw[O];exact M) (by rw[O];exact h0) (by rw[O,a3];exact H);simp[execOp,a2,this]
     refine ek b0 ?_;rw[hd];refine hn _ _ ?_;rw[cB,aR];obtain⟨X,_,_,a9⟩:=gp hV hr b6 a8;have b1:=X.used_lt;have ay:I.length<=maxLen:=by
      have:=nl;have:I.length*1<=I.length*e.cells:=Gl _ Y;omega
     have bo:=World.ownsRow_lit (e:=E) (size:=e.cells) (base:=0) w ((y.toList.map λx=>a.eval x.2).flatMap λv=>v.cells.toList).toArray I.length (HX _) ay (by simpa using a1);refine X.putOwn hV (w':=w.alloc (.cells ((y.toList.map λx=>a.eval x.2).flatMap λv=>v.cells.toList).toArray E)) (by simp) rfl rfl rfl (λk J=>Go.heap_alloc_old w _ (b1 k J)) d (az d hd).1 (az d hd).2 _ (FV _) (bs:=w.heap.size::aZ W u.kill) ?_ (λk J hu=>?_)
     ·refine⟨GS.2 ⟨λhm=>?_,iv hr b5 a8⟩,_,a6,Row.of bo,by rw[ba];rfl,λj x hj=>?_⟩
      ·have:=(a9 _ hm).2.2.1;omega
      ·obtain⟨c,ad,bb⟩:=a0 j x hj;have bl:∀ k,br V W u.p u.frz k->k<w.heap.size:=λk J=>by
        rcases kZ a7 k J with J|⟨_,J⟩
        ·exact (X.nwlt k J).1
        ·exact GR (hV.ro k J).1 X.size
       exact⟨c,ad.carry (kZ a7) (λk J=>Go.heap_alloc_old w _ (bl k J)) (λk J=>Go.heap_alloc_old w _ (ad.lt k J)),λi u hi=>by simpa using bb i u hi⟩
     ·rcases GZ.1 J with rfl|J
      ·have:=b1 _ hu;omega
      ·have Z:=a9 k J;exact nk ⟨Z.1,Z.2.1,Z.2.2.2.1,Z.2.2.2.2⟩ hu
    ·cases h
  ·cases h
 |_=>simp[ht]at h
theorem zr {w:World}{G:Nat->Prop}{E':TypeId}{u dst e:TypeId}(Y:P.underlying u=some (.slice e))(X:P.underlying e=some (.int .u8))(O:P.underlying dst=some .string){xs:List Int}{v:Value}
  (h:Rd w G (.list false E' (.int .u8)) xs [v]):(convert u dst v).run P w=.ok (.string (ip xs)) w:=by
 obtain⟨A,y,hv,hc,I⟩:=h;simp only[Gk,and_true]at hv;subst hv;cases A with
 |none =>
  have hx:xs=[]:=by
   cases xs with
   |nil=>rfl
   |cons x xs=>obtain⟨g,o,J,_⟩:=I (by simp);cases J
  subst hx;show (convert u dst (.slice none 0 y)).run P w=_;rw[run_convert_bytes_nil w u e Y X 0 y dst O];rfl
 |some Z =>
  cases H:xs with
  |nil =>
   subst H;show (convert u dst (.slice (some Z) 0 y)).run P w=_;rw[run_convert_bytes_string w u dst e Z 0 y Y X O];simp[Conv.bytesToString,loadCells,loadCellsFrom];rfl
  |cons x0 a0 =>
   rw[<- H];obtain⟨g,o,J,_,hr⟩:=I (by rw[H];simp);simp only[FJ]at J;subst J;have:=run_convert_bytes_arg (P:=P) w u e Y X g o xs.length y xs rfl (λi hi=>by
    obtain⟨c,z,M⟩:=hr i xs[i] (F1 hi);have z:c=[.int .u8 xs[i]]:=z;subst z;have:=M 0 _ rfl;simp only[Ty.cells,G9,GN]at this;rw[this];simp[List.getD,F1 hi]) dst O
   rw[this];rfl
theorem vS (hV:aA V)(hT:TOk P T)(J:bU V o){s t:TypeId}{x:Operand}(M:o.op=.convert s t x)(h:act Γ T o st κ=some r):cd P V o st κ r:=by
 simp only[act,wrU,M]at h;have z:=hT t;have y:=hT s;split at h
 ·rename_i k' k a5 n Y Z hx;split at h
  ·rename_i d O;refine⟨_,h,λW a w I=>aQ hV I O J (v:=.int k (k.wrap n)) ?_ rfl id rfl⟩;rw[Z]at z;rw[Y]at y;simp[execOp,M,bK I hx,Go.convert,run_underlying z.1,run_underlying y.1,Conv.intToInt]
  ·cases h
 ·rename_i E b Y Z;split at h
  ·rename_i p xs ha;split at h
   ·rename_i d O;refine⟨_,h,λW a w I=>?_⟩;have a2:one st x≠.dead:=by intro e0;rw[e0]at ha;simp[aH,dw]at ha
    obtain⟨h1,h2,_⟩:=bA I x a2;have a4:=lr (m:=false) (E:=E) I h1 h2 ha;rw[Z]at z;rw[Y]at y;refine aQ hV I O J (v:=.string (ip xs)) ?_ rfl id rfl;have:=zr (P:=P) y.1 (y.2.2.2.2.1.2 rfl) z.1 a4;simp[execOp,M,this]
   ·cases h
  ·cases h
 ·rename_i E b H Y Z hx;cases hE:F2 E 5 with
  |false=>simp[hE]at h
  |true =>
  simp only[hE,cond_true]at h;have a0:E=5:=FR hE;split at h
  ·rename_i d O;refine⟨_,h,λW a w I next Q hn=>?_⟩;rw[Z]at z;rw[Y]at y;have hc:(eS H).length=H.size:=by simp only[eS,Gj,GG];rfl
   have X:=Lib.run_convert_string_bytes (P:=P) w s t E H y.1 z.1 (z.2.2.2.2.1.2 rfl);refine ek (v:=.slice (some ⟨w.heap.size,0,none⟩) H.size (grownCap w H.size 0 E)) (w':=Lib.bytesWorld w E H) (by simp[execOp,M,jg I hx,X]) ?_;rw[O];refine hn _ _ ?_;have a3:=grownCap_ge w H.size 0 E;have a1:(Lib.bytesCells w E H).size=grownCap w H.size 0 E:=by
    simp only[Lib.bytesCells,HL,Array.size_map,Array.size_replicate];show H.size+_=_;omega
   refine I.putOwn hV (by rw[Lib.bytesWorld_size];omega) (by simp[Lib.bytesWorld,HM,HY,Hg,-HA,-HE]) (by simp[Lib.bytesWorld,HM,HY,Hg,-HA,-HE]) (by simp[Lib.bytesWorld,HM,HY,Hg,-HA,-HE])
    (λk hk=>Lib.bytesWorld_at_old w E H k (I.used_lt k hk)) d (J d O).1 (J d O).2 _ (FV _) (bs:=[w.heap.size])
    ⟨by simp,(eS H).map (Value.int .u8),λ_=>[],⟨by rw[Gj];exact (G9 _).symm,.inr ⟨w.heap.size,_,_,_,by rw[hc],Lib.bytesWorld_at_new w E H,by rw[hc];exact a3,.inr ⟨a0,F3 _⟩,by rw[a1];exact Gv (G9 _),?_⟩⟩,by simp[GB],λj x hj=>?_⟩ (λk hk hu=>?_)
   ·simp only[Lib.bytesCells,HD,HU,Ty.cells,G9,eS,HN];exact List.take_left' (by simp)
   ·refine⟨[.int .u8 x],⟨rfl,rfl⟩,λi u hi=>?_⟩
    match i,hi with
    |0,hi =>
     simp only[Gb,FJ]at hi;subst hi;simp[Ty.cells,hj]
   ·simp at hk;have:=I.used_lt k hu;omega
  ·cases h
 ·cases h
theorem tr (hV:aA V)(hT:TOk P T)(O:bU V o){t:TypeId}{n c:Operand}(X:o.op=.makeSlice t n c)(h:act Γ T o st κ=some r):cd P V o st κ r:=by
 simp only[act,wrU,X]at h;split at h
 ·rename_i E e H k1 m k2 m' ht a8 a4;cases hb:decide (0<=m)&&decide (m=m')&&decide (m*H<=(am:Int)) with
  |false=>simp[hb]at h
  |true =>
   simp only[hb,cond_true]at h;simp only[FL,decide_eq_true_eq]at hb;obtain⟨⟨h0,rfl⟩,a3⟩:=hb;split at h
   ·rename_i d hd;refine⟨_,h,λW a w Y next Q hn=>?_⟩;have h1:=hT t;rw[ht]at h1;obtain⟨hu,_,_,b2,a1,ti,z,aw,ad,a2,hz,a0⟩:=h1;have hm:(m.toNat:Int)=m:=by omega
    have J:m.toNat*H<=am:=by
     have:((m.toNat*H:Nat):Int)<=(am:Int):=by rw[Int.natCast_mul,hm];exact a3
     omega
    have b4:m.toNat*1<=m.toNat*H:=Gl _ a1.1;simp only[am]at J;have b1:=nl;obtain⟨w',I,a9,y⟩:=run_make_full (P:=P) w 0 t E ti z e.cells hu aw hz ad k1 k2 m.toNat (by rw[a2,Gy];omega) (by omega) (HX _);rw[hm]at I;refine ek (v:=.slice (some ⟨w.heap.size,0,none⟩) m.toNat m.toNat) (w':=w') (by simp[execOp,X,bK Y a8,bK Y a4,I]) ?_;rw[hd];refine hn _ _ ?_;have b0:z.cells.size=e.cells:=by
     have h2:=(mw w (λ_=>False) e).len;rw[<- GG,a0,h2]
    refine Y.putOwn hV y.size y.os y.tape y.output (λk hk=>y.block k (Y.used_lt k hk) (by simp)) d (O d hd).1 (O d hd).2 _ (FV _) (bs:=[w.heap.size])
     ⟨by simp,_,λ_=>[],by rw[G5];exact Row.of a9,by simp[GB],λj x M=>?_⟩ (λk hk hu=>?_)
    ·rw[Gc]at M;split at M
     ·rename_i a6;simp at M;subst M;refine⟨_,rT w' _ e 0,λi u hi=>?_⟩;have a5:i<e.cells:=by rw[<- (mw w' (λ_=>False) e).len];exact (FM.1 hi).1
      have Z:(j+1)*e.cells<=m.toNat*e.cells:=FW _ a6;rw[GJ]at Z;have a7:j*e.cells+i<m.toNat*e.cells:=by omega
      have e2:(j*e.cells+i) % e.cells=i:=by rw[Gy,Hb,HT a5]
      have ay:z.cells[i]?=some u:=by rw[<- G6,a0];exact hi
      obtain⟨b3,az⟩:=Array.getElem?_eq_some_iff.1 ay;simp only[madeCells,G6,Array.getElem?_map,Array.getElem?_range,a7,if_true,Hc,b0,e2];rw[getElem!_pos z.cells i (by omega),az]
     ·cases M
    ·simp at hk;have:=Y.used_lt k hu;omega
   ·cases h
 ·cases h
theorem vT (n u:Nat)(y:n<=u)(k z:IntKind)(w:World):(HO true n u none (some (.int k n)) (some (.int z n))).run P w=.ok (0,n,n) w:=by
 simp[HO,Instr.sliceBound,asIntOf,y]
theorem xE (hV:aA V)(hT:TOk P T)(a6:bU V o){t:TypeId}{x m:Operand}{lo hi:Option Operand}(a7:o.op=.slice t x lo hi (some m))(h:act Γ T o st κ=some r):cd P V o st κ r:=by
 simp only[act,wrU,a7]at h;cases hd:o.dst with
 |none=>simp[hd]at h
 |some d =>
  simp only[hd]at h;split at h
  ·rename_i E' e' aw Y j v ht hx;split at h
   ·rename_i p E e J hdr;split at h
    ·rename_i hh k b6 bl;cases hb:hi.isSome&&decide (hh=(J.length:Int))&&decide (k=(J.length:Int))&&F2 e'.cells e.cells with
     |false=>rw[hb]at h;cases h
     |true =>
      rw[hb]at h;simp only[cond_true]at h;simp only[FL,decide_eq_true_eq]at hb;obtain⟨⟨⟨a2,rfl⟩,rfl⟩,X⟩:=hb;have X:=FR X;refine⟨_,h,λW a w hr next Q hn=>?_⟩;have h1:=hT t;rw[ht]at h1;obtain⟨hu,_,_,_,_,ti,z,c0,bx,_⟩:=h1;obtain⟨a5,_,_,_,_⟩:=bA hr x (by rw[hx];simp);rw[hx]at a5;obtain⟨h8,a8,bo,c2⟩:=kX hr hdr a5;obtain⟨y,hy,k1,b9⟩:∃ y,hi=some y/\∃ k1,a.eval y=.int k1 J.length:=by
       rcases nN hr b6 with ⟨I,_⟩|⟨y,k1,I,u⟩
       ·rw[I]at a2;cases a2
       ·exact⟨y,I,k1,u⟩
      obtain⟨k2,ba⟩:∃ k2,a.eval m=.int k2 J.length:=by
       rcases nN hr bl with ⟨I,_⟩|⟨y,k2,I,u⟩
       ·cases I
       ·cases I;exact⟨k2,u⟩
      obtain⟨A,ay,hv,a4⟩:=a8.slice;have hE:=dH (P:=P) (t:=E') (n:=e.cells) (by simp[bW,c0,bx,X]) w;have a1:(if J.length=0 then A else A.map λx=>x.add (0*e.cells))=A:=by
       cases A with
       |none=>simp
       |some Z =>
        have e0:Z.add 0=Z:=by simp[Addr.add]
        show (if J.length=0 then some Z else some (Z.add (0*e.cells)))=some Z;rw[HP,e0];split <;> rfl
      refine ek (v:=.slice A J.length J.length) (w':=w) ?_ ?_
      ·simp only[execOp,a7,hv,hy,Hc,G3,b9,ba,Instr.sliceAt,Instr.slice,HK,run_underlying hu,Gp,vT J.length ay a4 k1 k2 w,hE,Sem.run_pure,Gz,a1]
      ·rw[hd];refine hn _ _ ?_;rw[cB,aR];have bb:∀ z∈[(Y,j)],aF st z:=λz hz=>by simp at hz;subst hz;exact⟨_,bo,trivial⟩
       obtain⟨h6,_,_,H⟩:=gp (frz:=[]) (kill:=[(Y,j)]) hV hr rfl bb;have e1:aP (ac (aI st []) st) [(Y,j)]++aI st []=aP st [(Y,j)]:=F9 _;rw[e1]at h6 H;have b3:aZ W [(Y,j)]=W.bs Y j:=by simp[aZ]
       rw[b3]at H;obtain⟨bn,a0,a9,M,a3,b4⟩:=a8;refine h6.putOwn hV (w':=w) (F3 _) rfl rfl rfl (λ_ _=>rfl) d (a6 d hd).1 (a6 d hd).2 _ (FV _) (bs:=W.bs Y j) ?_ (λk hk=>nk ⟨(H k hk).1,(H k hk).2.1,(H k hk).2.2.2.1,(H k hk).2.2.2.2⟩);have b5:∀ k,gd V W p k->gd V (W.frz st []) p k:=b8 (W':=W.frz st []) (λh=>h) (λ_ h=>Or.inl h);refine OwH.carry (G:=gd V W p) ⟨bn,a0,a9,⟨M.1,?_⟩,?_,b4⟩ b5 (λ_ _=>rfl) (λ_ _=>rfl)
       ·rcases M.2 with ⟨O,I⟩|⟨g,c1,az,mk,O,I,u,b0,b1,b2⟩
        ·rw[hv]at O;simp only[GF]at O;exact .inl ⟨by rw[O.1,I],I⟩
        ·rw[hv]at O;simp only[GF,true_and]at O;exact .inr ⟨g,J.length,az,mk,by rw[O.1],I,F3 _,b0.imp (λh=>⟨h.1,GP u h.2⟩) id,GP (FW _ u) b1,b2⟩
       ·rw[a3,hv];cases A <;> rfl
    ·cases h
   ·cases h
  ·cases h
theorem zu (H:aA V)(z:TOk P T)(u:bU V o){t:TypeId}{x:Operand}{M J I:Option Operand}(y:o.op=.slice t x M J I)(h:act Γ T o st κ=some r):cd P V o st κ r:=by
 cases I with
 |none=>exact wV H z u y h
 |some m=>exact xE H z u y h
theorem B7 (X:aA V)(I:bU V o){c:Call}(H:o.op=.call c)(M:c.callee=.builtin .min)(h:act Γ T o st κ=some r):cd P V o st κ r:=by
 simp only[act,wrU,H,M]at h;split at h
 ·cases h
 ·rename_i d O;simp only[O]at h;split at h
  ·rename_i x y hx;split at h
   ·rename_i k1 m k2 n Y Z;have u:c.args=#[x,y]:=by rw[<- GC (xs:=c.args),hx]
    refine⟨_,h,λW a w J=>aQ X J O I (v:=.int k1 (bif decide (n<m) then n else m)) ?_ rfl id rfl⟩;cases z:decide (n<m) <;> simp[execOp,H,M,resolve,invoke,builtin,u,bK J Y,bK J Z,Builtin.min_,Builtin.min2] <;> simp at z <;> omega
   ·cases h
  ·cases h
theorem B8 (X:aA V)(I:bU V o){c:Call}(H:o.op=.call c)(M:c.callee=.builtin .max)(h:act Γ T o st κ=some r):cd P V o st κ r:=by
 simp only[act,wrU,H,M]at h;split at h
 ·cases h
 ·rename_i d O;simp only[O]at h;split at h
  ·rename_i x y hx;split at h
   ·rename_i k1 m k2 n Y Z;have u:c.args=#[x,y]:=by rw[<- GC (xs:=c.args),hx]
    refine⟨_,h,λW a w J=>aQ X J O I (v:=.int k1 (bif decide (m<n) then n else m)) ?_ rfl id rfl⟩;cases z:decide (m<n) <;> simp[execOp,H,M,resolve,invoke,builtin,u,bK J Y,bK J Z,Builtin.max_,Builtin.max2] <;> simp at z <;> omega
   ·cases h
  ·cases h
end
section
variable {P:Program} {V:Env} {W:Wit} {st st':St} {w w':World} {a:Act}
theorem ap.putGhost (hV:aA V)(h:ap P V W st a w)(d:Nat)(hd:GH<=d)(a4:d<B0)(n:Nat)(sh:aK)(ls:List Leaf)
  (R:List Value) (I:Nat->List Nat) (hn:(st d).ver<n) (hl:ls.length=R.length) (h1:∀ u∈R,u.oneCell'=true)
  (a1:∀ (j:Nat) (l:Leaf) (u:Value),ls[j]?=some l->R[j]?=some u->aM P V W st w (I j) l u)
  (a0:∀ (j:Nat) (l:Leaf),ls[j]?=some l->ao l->∀ k∈I j,¬ W.nw k/\¬ V.prot k/\(∀ b,live st b->W.β b≠k) /\
   ∀ (r1 j1:Nat) (l1:Leaf),r1≠d->(st r1).ls[j1]?=some l1->ao l1->k∉W.bs r1 j1)
  (a2:∀ (j j':Nat) (l l':Leaf),ls[j]?=some l->ao l->ls[j']?=some l'->ao l'->∀ k,k∈I j->k∈I j'->j=j') :
  ap P V { W with cs:=λr=>if r=d then R else W.cs r,bs:=λr j=>if r=d then I j else W.bs r j } (ac [(d,⟨n,sh,ls⟩)] st) a w /\
   cP V W { W with cs:=λr=>if r=d then R else W.cs r,bs:=λr j=>if r=d then I j else W.bs r j } st (ac [(d,⟨n,sh,ls⟩)] st) w w:=by
 have M:∀ b,live (ac [(d,⟨n,sh,ls⟩)] st) b<->live st b:=by
  intro b;by_cases X:B0<=b
  ·rw[live,live,aL (by omega)]
  ·simp[live,X]
 have O:cP V W { W with cs:=λr=>if r=d then R else W.cs r,bs:=λr j=>if r=d then I j else W.bs r j } st (ac [(d,⟨n,sh,ls⟩)] st) w w:=by
  refine⟨λq=>?_,λb X=>⟨(M b).2 X,rfl⟩,λ_ h=>h,λ_ _=>rfl,λ_ q j' l' J h4 h5=>?_⟩
  ·rcases an d q ⟨n,sh,ls⟩ st with ⟨rfl,e⟩|⟨y,e⟩
   ·rw[e];exact⟨Nat.le_of_lt hn,λe=>absurd e (by show n≠_;omega)⟩
   ·rw[e];exact⟨F3 _,λ_=>by simp[y]⟩
  ·rcases an d q ⟨n,sh,ls⟩ st with ⟨rfl,e⟩|⟨y,e⟩
   ·rw[e]at h5;exact absurd h5 (by show n≠_;omega)
   ·rw[e]at J;exact⟨⟨l',J,h4⟩,by simp[y],λ_ _=>rfl⟩
 refine⟨?_,O⟩
 exact {
  nt:=h.nt,df:=h.df
  slots:=λt ht=>by
   have:t≠d:=by omega
   rw[aL this];simpa[this]using h.slots t ht
  boxes:=λb X=>by
   have:b≠d:=by omega
   rw[aL this];simpa[this]using h.boxes b X
  len:=λq=>by
   rcases an d q ⟨n,sh,ls⟩ st with ⟨rfl,e⟩|⟨y,e⟩
   ·rw[e];simpa using hl
   ·rw[e];simpa[y]using h.len q
  one:=λq u hu=>by
   by_cases hq:q=d
   ·simp only[hq,if_true]at hu;exact h1 u hu
   ·simp only[hq,if_false]at hu;exact h.one q u hu
  leaf:=λq j l u z J=>by
   rcases an d q ⟨n,sh,ls⟩ st with ⟨rfl,e⟩|⟨y,e⟩
   ·rw[e]at z;simp only[if_true]at J;exact (a1 j l u z J).carry hV.ro O (λ_=>⟨by simp,λ_ _=>rfl⟩)
   ·rw[e]at z;simp only[y,if_false]at J;exact (h.leaf q j l u z J).carry hV.ro O (λ_=>⟨by simp[y],λ_ _=>rfl⟩)
  ownb:=λq j l z J k Y=>by
   rcases an d q ⟨n,sh,ls⟩ st with ⟨rfl,e⟩|⟨y,e⟩
   ·rw[e]at z;simp only[if_true]at Y;have:=a0 j l z J k Y;exact⟨this.1,this.2.1,λb X=>this.2.2.1 b ((M b).1 X)⟩
   ·rw[e]at z;simp only[y,if_false]at Y;have:=h.ownb q j l z J k Y;exact⟨this.1,this.2.1,λb X=>this.2.2 b ((M b).1 X)⟩
  sep:=λq j l q' j' l' z J h4 h5 k Y H=>by
   rcases an d q ⟨n,sh,ls⟩ st with ⟨e0,e⟩|⟨y,e⟩ <;> rcases an d q' ⟨n,sh,ls⟩ st with ⟨e1,e'⟩|⟨Z,e'⟩
   ·rw[e]at z;rw[e']at h4;simp only[e0,if_true]at Y;simp only[e1,if_true]at H;exact⟨e0.trans e1.symm,a2 j j' l l' z J h4 h5 k Y H⟩
   ·rw[e]at z;rw[e']at h4;simp only[e0,if_true]at Y;simp only[Z,if_false]at H;exact absurd H ((a0 j l z J k Y).2.2.2 q' j' l' Z h4 h5)
   ·rw[e]at z;rw[e']at h4;simp only[y,if_false]at Y;simp only[e1,if_true]at H;exact absurd Y ((a0 j' l' h4 h5 k H).2.2.2 q j l y z J)
   ·rw[e]at z;rw[e']at h4;simp only[y,if_false]at Y;simp only[Z,if_false]at H;exact h.sep q j l q' j' l' z J h4 h5 k Y H
  box:=λb X=>h.box b ((M b).1 X)
  inj:=λb b' X a3=>h.inj b b' ((M b).1 X) ((M b').1 a3)
  nwlt:=h.nwlt
  os:=h.os,tape:=h.tape,output:=h.output,size:=h.size,keep:=h.keep
  fixb:=λx hx=>⟨(M _).2 (h.fixb x hx).1,(h.fixb x hx).2⟩
  fixt:=h.fixt }
theorem ia {off:Nat}:∀ {a:Ty} {pos:Nat} {x:a.den} {u:(E:TypeId)×(e:Ty)×List e.den},bh off a pos x=some u->pos<=off/\off<pos+a.cells
 |.pair a b,pos,x,u,h=>by
  simp only[bh]at h;split at h
  ·rename_i v y;have:=ia y;simp only[Ty.cells];omega
  ·have:=ia h;simp only[Ty.cells];omega
 |.list m E e,pos,z,u,h=>by
  simp only[bh]at h;cases r:m&&F2 pos off with
  |false=>simp[r]at h
  |true =>
   simp only[FL]at r;have:=FR r.2;simp only[Ty.cells];omega
 |.int _,_,_,_,h=>by simp[bh]at h
 |.bool,_,_,_,h=>by simp[bh]at h
 |.str,_,_,_,h=>by simp[bh]at h
 |.unit,_,_,_,h=>by simp[bh]at h
 |.hdr,_,_,_,h=>by simp[bh]at h
theorem ol {off:Nat}:∀ {a:Ty} {pos:Nat} {x:a.den} {E:TypeId} {e:Ty} {u:List e.den},bh off a pos x=some ⟨E,e,u⟩->e.shy=true->a.shy=true
 |.pair a b,pos,x,E,e,u,h,r=>by
  simp only[bh]at h;simp only[Ty.shy,Hd];split at h
  ·rename_i v z;simp only[FJ]at h;subst h;exact .inl (ol z r)
  ·exact .inr (ol h r)
 |.list m H I,pos,J,E,e,u,h,r=>by
  simp only[bh]at h;cases y:m&&F2 pos off with
  |false=>simp[y]at h
  |true =>
   rw[y]at h;simp only[cond_true,FJ,Sigma.mk.injEq]at h;obtain⟨rfl,h⟩:=h;rw[heq_eq_eq,Sigma.mk.injEq]at h;obtain⟨rfl,_⟩:=h;simp[Ty.shy,r]
 |.int _,_,_,_,_,_,h,_=>by simp[bh]at h
 |.bool,_,_,_,_,_,h,_=>by simp[bh]at h
 |.str,_,_,_,_,_,h,_=>by simp[bh]at h
 |.unit,_,_,_,_,_,h,_=>by simp[bh]at h
 |.hdr,_,_,_,_,_,h,_=>by simp[bh]at h
theorem Mx.hol_out {G:Nat->Prop}{o:Nat}:∀ {a:Ty} {pos:Nat} {x:a.den} {cs:List Value} {bs:List Nat},(o<pos\/pos+a.cells<=o)->(Mx w G a none pos x cs bs<->Mx w G a (some o) pos x cs bs)
 |.int _,_,_,_,_,_=>Gx
 |.bool,_,_,_,_,_=>Gx
 |.str,_,_,_,_,_=>Gx
 |.unit,_,_,_,_,_=>Gx
 |.hdr,_,_,_,_,_=>Gx
 |.pair a b,pos,x,cs,bs,r=>by
  simp only[Ty.cells]at r;constructor
  ·rintro⟨c1,c2,b1,b2,e1,e2,h1,h2⟩;exact⟨c1,c2,b1,b2,e1,e2,(Mx.hol_out (by omega)).1 h1,(Mx.hol_out (by omega)).1 h2⟩
  ·rintro⟨c1,c2,b1,b2,e1,e2,h1,h2⟩;exact⟨c1,c2,b1,b2,e1,e2,(Mx.hol_out (by omega)).2 h1,(Mx.hol_out (by omega)).2 h2⟩
 |.list m E e,pos,u,cs,bs,r=>by
  simp only[Ty.cells]at r;cases m with
  |false=>rw[cF,cF]
  |true=>rw[bF (by simp),bF (by simp only[ne_eq,FJ];omega)]
theorem Mx.out {G:Nat->Prop}{off:Nat}{E:TypeId}{e:Ty}{ys:List e.den}:∀ {a:Ty} {pos:Nat} {x:a.den} {cs:List Value} {bs:List Nat},Mx w G a none pos x cs bs->bh off a pos x=some ⟨E,e,ys⟩ ->
  ∃ v z r,OwB w G none E e ys v z/\cs[off-pos]?=some v/\Mx w G a (some off) pos x cs r/\∀ k,bs.count k=r.count k+z.count k
 |.pair a b,pos,x,cs,bs,⟨c1,c2,b1,b2,J,e2,Y,h2⟩,h=>by
  have hl:=Y.len;simp only[bh]at h;split at h
  ·rename_i u hu;simp only[FJ]at h;subst h;have Z:=ia hu;obtain⟨v,z,r,M,O,R,X⟩:=Mx.out Y hu;refine⟨v,z,r++b2,M,?_,⟨c1,c2,r,b2,J,rfl,R,(Mx.hol_out (by omega)).1 h2⟩,λk=>?_⟩
   ·rw[J,FQ (by omega)];exact O
   ·rw[e2,FO,FO,X k];omega
  ·rename_i hu;have Z:=ia h;obtain⟨v,z,r,M,O,R,X⟩:=Mx.out h2 h;refine⟨v,z,b1++r,M,?_,⟨c1,c2,b1,r,J,rfl,(Mx.hol_out (by omega)).1 Y,R⟩,λk=>?_⟩
   ·rw[J,FP (by omega),hl,show off-pos-a.cells=off-(pos+a.cells) by omega];exact O
   ·rw[e2,FO,FO,X k];omega
 |.list m E' e',pos,xs,cs,bs,H,h=>by
  simp only[bh]at h;cases y:m&&F2 pos off with
  |false=>simp[y]at h
  |true =>
   rw[y]at h;simp only[cond_true,FJ,Sigma.mk.injEq]at h;obtain⟨rfl,h⟩:=h;simp only[FL]at y;obtain⟨rfl,y⟩:=y;have y:=FR y;subst y;rw[heq_eq_eq,Sigma.mk.injEq]at h;obtain⟨rfl,h⟩:=h;rw[heq_eq_eq]at h;subst h;have I:=H.one;rw[bF (by simp)]at H;obtain⟨v,rfl,hO⟩:=H;exact⟨v,bs,[],hO,by simp,jJ.2 ⟨v,rfl,I v (by simp),rfl⟩,λk=>by simp⟩
 |.int _,_,_,_,_,_,h=>by simp[bh]at h
 |.bool,_,_,_,_,_,h=>by simp[bh]at h
 |.str,_,_,_,_,_,h=>by simp[bh]at h
 |.unit,_,_,_,_,_,h=>by simp[bh]at h
 |.hdr,_,_,_,_,_,h=>by simp[bh]at h
theorem Mx.back {G:Nat->Prop}{off:Nat}{E:TypeId}{e:Ty}{X:List e.den}{v:Value}{Y:List Nat}(hO:OwB w G none E e X v Y):∀ {a:Ty} {pos:Nat} {x z:a.den} {cs:List Value} {I:List Nat},Mx w G a (some off) pos x cs I->bT off E e X a pos x=some z ->
  cs[off-pos]?=some v->∃ M,Mx w G a none pos z cs M/\∀ k,M.count k=I.count k+Y.count k
 |.pair a b,pos,x,z,cs,M,⟨c1,c2,b1,b2,O,e2,R,h2⟩,h,J=>by
  have hl:=R.len;simp only[bT]at h;split at h
  ·rename_i u y;simp only[FJ]at h;subst h;have a0:=set_in y;obtain⟨I,Z,g2⟩:=Mx.back hO R y (by rw[O,FQ (by omega)]at J;exact J);refine⟨I++b2,⟨c1,c2,I,b2,O,rfl,Z,(Mx.hol_out (by omega)).2 h2⟩,λk=>?_⟩;rw[e2,FO,FO,g2 k];omega
  ·rename_i y;simp only[FK]at h;obtain⟨u,y,rfl⟩:=h;have a0:=set_in y;obtain⟨I,Z,g2⟩:=Mx.back hO h2 y (by
    rw[O,FP (by omega),hl]at J;rw[show off-(pos+a.cells)=off-pos-a.cells by omega];exact J)
   refine⟨b1++I,⟨c1,c2,b1,I,O,rfl,(Mx.hol_out (by omega)).2 R,Z⟩,λk=>?_⟩;rw[e2,FO,FO,g2 k];omega
 |.list m E' e',pos,xs,z,cs,M,H,h,J=>by
  simp only[bT]at h;cases r:m&&F2 pos off with
  |false=>simp[r]at h
  |true =>
   rw[r]at h;simp only[cond_true]at h;obtain⟨rfl,rfl,rfl⟩:=kq h;simp only[FL]at r;obtain⟨rfl,r⟩:=r;have r:=FR r;subst r;rw[jJ]at H;obtain⟨v',rfl,R,rfl⟩:=H;simp only[Nat.sub_self,Gb,FJ]at J;subst J;exact⟨Y,(bF (by simp)).2 ⟨v',rfl,hO⟩,λk=>by simp⟩
 |.int _,_,_,_,_,_,_,h,_=>by simp[bT]at h
 |.bool,_,_,_,_,_,_,h,_=>by simp[bT]at h
 |.str,_,_,_,_,_,_,h,_=>by simp[bT]at h
 |.unit,_,_,_,_,_,_,h,_=>by simp[bT]at h
 |.hdr,_,_,_,_,_,_,h,_=>by simp[bT]at h
where
 set_in {off:Nat} {E:TypeId} {e:Ty} {X:List e.den}:∀ {a:Ty} {pos:Nat} {x z:a.den},bT off E e X a pos x=some z->pos<=off/\off<pos+a.cells
  |.pair a b,pos,x,z,h=>by
   simp only[bT]at h;split at h
   ·rename_i u y;have:=set_in y;simp only[Ty.cells];omega
   ·simp only[FK]at h;obtain⟨u,y,_⟩:=h;have:=set_in y;simp only[Ty.cells];omega
  |.list m E' e',pos,xs,z,h=>by
   simp only[bT]at h;cases r:m&&F2 pos off with
   |false=>simp[r]at h
   |true =>
    simp only[FL]at r;have:=FR r.2;simp only[Ty.cells];omega
  |.int _,_,_,_,h=>by simp[bT]at h
  |.bool,_,_,_,h=>by simp[bT]at h
  |.str,_,_,_,h=>by simp[bT]at h
  |.unit,_,_,_,h=>by simp[bT]at h
  |.hdr,_,_,_,h=>by simp[bT]at h
end
section
variable {P:Program} {V:Env} {W W' W2:Wit} {st st' st2:St} {w w' w2:World} {a:Act}
theorem cP.trans (h:cP V W W' st st' w w')(u:cP V W' W2 st' st2 w' w2):cP V W W2 st st2 w w2:=by
 refine⟨λr=>⟨GP (h.ver r).1 (u.ver r).1,λe=>?_⟩,λb hb=>?_,λk y=>u.nw k (h.nw k y),λk y=>?_,λhe r j l z H J=>?_⟩
 ·have z:=(h.ver r).1;have H:=(u.ver r).1;rw[(u.ver r).2 (by omega),(h.ver r).2 (by omega)]
 ·obtain⟨z,H⟩:=h.box b hb;obtain⟨J,h6⟩:=u.box b z;exact⟨J,h6.trans H⟩
 ·rw[u.heap k (y.imp (h.nw k) id),h.heap k y]
 ·have e1:=(h.ver EPO).1;have e2:=(u.ver EPO).1;have e3:=(h.ver r).1;have e4:=(u.ver r).1;obtain⟨⟨l',M,O⟩,Y,Z⟩:=u.epo (by omega) r j l z H (by omega);obtain⟨X,I,R⟩:=h.epo (by omega) r j l' M O (by omega);exact⟨X,Y.trans I,λk y=>(Z k (by rw[I];exact y)).trans (R k y)⟩
theorem rV {n i:Nat}(H:i<n)(r:Nat->List Nat)(b u:List Nat)(z:∀ k,(r i).count k=b.count k+u.count k)(y:List Nat)(k:Nat) :
  (y++(FX n).flatMap r).count k=(y++(FX n).flatMap λj=>if j=i then b else r j).count k+u.count k:=by
 have:=lh H r b k;have:=z k;rw[FO,FO];omega
theorem OwH.out {G:Nat->Prop}{E E1:TypeId}{e e1:Ty}{xs:List e.den}{v:Value}{bs:List Nat}{i off:Nat}{y:e.den}{ys:List e1.den}(H:Ow w G E e xs v bs)(hy:xs[i]?=some y)(hg:bh off e 0 y=some ⟨E1,e1,ys⟩) :
  ∃ u M O,OwH w G (some (i,off)) E e xs v O/\Ow w G E1 e1 ys u M/\(∀ g R,v=.slice (some ⟨g,0,none⟩) xs.length R->w.cell? ⟨g,i*e.cells+off,none⟩=some u)/\∀ k,bs.count k=O.count k+M.count k:=by
 obtain⟨a1,X,I,h1,h2,h3⟩:=H;have Y:i<xs.length:=(FM.1 hy).1;obtain⟨c,hm,hc⟩:=h3 i y hy;have hm:Mx w G e none 0 y c (I i):=hm;obtain⟨u,M,b',g1,g2,g3,g4⟩:=hm.out hg;have r:=rV Y I b' M g4 v.ownBlock.toList;rw[<- h2]at r;have z:=bB.1 a1;refine⟨u,M,v.ownBlock.toList++(FX xs.length).flatMap λj=>if j=i then b' else I j,⟨bB.2 λk=>by have:=z k;have:=r k;omega,X,_,h1,rfl,λj x Z=>?_⟩,
  ⟨bB.2 λk=>by have:=z k;have:=r k;omega,g1⟩,λg R hv=>?_,r⟩
 ·by_cases J:j=i
  ·subst J;rw[hy]at Z;simp only[FJ]at Z;subst Z;refine⟨c,?_,hc⟩;simp only[c9,Nat.beq_refl,cond_true,if_true];exact g3
  ·obtain⟨c',h4,h5⟩:=h3 j x Z;refine⟨c',?_,h5⟩;have:F2 i j=false:=by
    cases hb:F2 i j with
    |false=>rfl
    |true=>exact absurd (FR hb).symm J
   simp only[c9,this,cond_false,if_neg J];exact h4
 ·subst hv;have a2:=ia hg;have a0:i*e.cells+off<xs.length*e.cells:=by
   have:=FW e.cells (show i+1<=xs.length from Y);rw[Gq,Nat.one_mul]at this;omega
  rw[h1.cellAt _ a0];exact hc off u (by simpa using g2)
theorem OwH.back {G:Nat->Prop}{E E1:TypeId}{e e1:Ty}{xs:List e.den}{v u:Value}{bs bn:List Nat}{i off:Nat}{y z:e.den}{ys:List e1.den}(H:OwH w G (some (i,off)) E e xs v bs)(hn:Ow w G E1 e1 ys u bn)
  (hd:∀ k∈bn,k∉bs) (hy:xs[i]?=some y) (hs:bT off E1 e1 ys e 0 y=some z) (J:∀ g I,v=.slice (some ⟨g,0,none⟩) xs.length I->w.cell? ⟨g,i*e.cells+off,none⟩=some u) :
  ∃ R,Ow w G E e (xs.set i z) v R/\∀ k,R.count k=bs.count k+bn.count k:=by
 obtain⟨a4,Y,X,h1,h2,h3⟩:=H;have a2:i<xs.length:=(FM.1 hy).1;obtain⟨c,hm,hc⟩:=h3 i y hy;have a0:c9 (some (i,off)) i=some off:=by simp[c9]
 rw[a0]at hm;have a7:=Mx.back.set_in hs;have a6:=hm.len;have M:c[off-0]?=some u:=by
  rcases h1.2 with ⟨rfl,h0⟩|⟨g,I,a5,_,rfl,_⟩
  ·omega
  ·have O:=J g I rfl;have a3:i*e.cells+off<xs.length*e.cells:=by
    have:=FW e.cells (show i+1<=xs.length from a2);rw[Gq,Nat.one_mul]at this;omega
   rw[h1.cellAt _ a3]at O;have Z:off<c.length:=by omega
   have h6:=hc off _ (F1 Z);rw[O]at h6;rw[Gz,F1 Z,h6]
 obtain⟨b1,g1,g2⟩:=Mx.back hn.2 hm hs M;have r:∀ k,(v.ownBlock.toList++(FX xs.length).flatMap λj=>if j=i then b1 else X j).count k=bs.count k+bn.count k:=by
  intro k;have O:=lh a2 X b1 k;have Z:=g2 k;rw[h2,FO,FO];omega
 refine⟨_,⟨(oj a4 hn.1 hd (λk=>Gv (r k))).1,Y,_,by rw[GT];exact h1,by rw[GT],λj x hj=>?_⟩,r⟩;rcases aU _ _ _ _ _ hj with ⟨rfl,rfl,_⟩|⟨a1,hj⟩
 ·refine⟨c,?_,hc⟩;simp only[if_true];exact g1
 ·obtain⟨c',O,Z⟩:=h3 j x hj;refine⟨c',?_,Z⟩;have:F2 i j=false:=by
   cases hb:F2 i j with
   |false=>rfl
   |true=>exact absurd (FR hb).symm a1
  have e0:c9 (some (i,off)) j=none:=by simp[c9,this]
  rw[e0]at O;simp only[if_neg a1];exact O
theorem jD:GH<=TMP/\TMP<B0/\TMP≠EPO:=by decide
def uM (W:Wit)(S:St)(w:World)(r j:Nat)(v:Value):Prop :=
 r≠TMP/\r≠EPO/\∃ (i off:Nat) (p:Bool) (E:TypeId) (e:Ty) (y:List e.den) (g u:Nat),(S r).ls[j]?=some (.own p (some (i,off)) E e y)/\(W.cs r)[j]?=some (.slice (some ⟨g,0,none⟩) y.length u) /\
  g∈W.bs r j/\w.cell? ⟨g,i*e.cells+off,none⟩=some v
theorem wA (hV:aA V)(h:ap P V W st a w){l l':Leaf}{U:Upd}{v:Value}(Z:aM P V W st w [] l v)(I:cC st l=some (U,l')) :
  ∃ W0 n p0 E0 e0 bx,ap P V W0 (ac U st) a w/\cP V W W0 st (ac U st) w w/\l'=.al TMP 0 n/\aM P V W0 (ac U st) w [] l' v/\(ac U st TMP).ver=n/\(ac U st TMP).ls=[.own p0 none E0 e0 bx] /\
   W0.nw=W.nw/\W0.β=W.β/\(∀ q,q≠TMP->W0.cs q=W.cs q)/\W0.cs TMP=[v]/\(∀ q,(ac U st q).sh=(st q).sh\/q=TMP)/\uM W0 (ac U st) w (kP l).1 (kP l).2 v:=by
 cases l with
 |nal p ks ep c5 E e xs =>
  simp only[cC]at I;cases ad:bu st ks ep with
  |false=>simp[ad]at I
  |true =>
   rw[ad]at I;simp only[cond_true]at I;split at I
   ·rename_i r j n0 i sz off;split at I
    ·rename_i M R J z hg;cases hb:!F2 r TMP&&!F2 r EPO&&F2 sz J.cells with
     |false=>simp[hb]at I
     |true =>
      rw[hb]at I;simp only[cond_true]at I;simp only[FL,F7]at hb;obtain⟨⟨b4,b5⟩,a4⟩:=hb;have a4:=FR a4;subst a4;have Y:r≠TMP:=λe=>by subst e;simp at b4
      have b2:r≠EPO:=λe=>by subst e;simp at b5
      split at I
      ·rename_i y hy;split at I
       ·rename_i E1 e1 ys ay;simp only[FJ,GK]at I;obtain⟨rfl,rfl⟩:=I;have b1:=qC ad Z;obtain⟨r',j',n',az,g,bo,aw,a5,c4,c3,O⟩:=b1.at_ i _ off rfl;simp only[Gk,GK,and_true]at az;obtain⟨rfl,rfl,rfl⟩:=az;have a1:(st r).ls[j]?=some (.own M none R J z):=by
         rw[GM]at hg;cases H:(st r).ls[j]? with
         |none=>rw[H]at hg;simp at hg
         |some l0=>rw[H]at hg;simp at hg;rw[hg]
        have a2:=h.leaf r j _ _ a1 a5;have a2:Ow w (gd V W M) R J z _ (W.bs r j):=a2;have b0:bo=z.length:=by
         obtain⟨A,c0,e0,_⟩:=a2.slice;simp only[GF]at e0;exact e0.2.1
        subst b0;obtain⟨u,bn,bs',g1,g2,g3,g4⟩:=a2.out hy ay;have hu:u=v:=by
         have:=g3 g aw rfl;rw[this]at O;exact Option.some.inj O
        subst hu;have b9:=bB.1 a2.1;have b3:∀ k∈bs',k∈W.bs r j:=λk hk=>FT.1 (by have:=g4 k;have:=FT.2 hk;omega)
        have a3:∀ k∈bn,k∈W.bs r j/\k∉bs':=λk hk=>by
         have h5:=g4 k;have h6:=FT.2 hk;have h7:=b9 k;refine⟨FT.1 (by omega),λb6=>?_⟩;have:=FT.2 b6;omega
        have a0:∀ k∈W.bs r j,wz V W st r j k:=λk hk=>by
         have h9:=h.ownb r j _ a1 trivial k hk;exact⟨h9.1,h9.2.1,h9.2.2,λr1 i1 l1 a6 a9 a8 X=>a8 (by obtain⟨e1,e2⟩:=h.sep r1 i1 l1 r j _ a6 a9 a1 trivial k X hk;rw[e1,e2])⟩
        have hR:zo st (ac [(r,⟨(st r).ver,(st r).sh,aV (st r).ls j (.own M (some (i,off)) R J z)⟩)] (ac [(EPO,ca (st EPO))] st)) r j (.own M (some (i,off)) R J z):=by
         refine⟨λq=>?_,λq=>?_,?_,λq=>?_,λl Z=>?_,λq i' l H Z=>?_⟩
         ·rcases an r q ⟨(st r).ver,(st r).sh,aV (st r).ls j (.own M (some (i,off)) R J z)⟩ (ac [(EPO,ca (st EPO))] st) with ⟨rfl,e⟩|⟨_,e⟩
          ·rw[e]
          ·rw[e];rcases an EPO q (ca (st EPO)) st with ⟨rfl,e⟩|⟨_,e⟩ <;> rw[e];rfl
         ·rcases an r q ⟨(st r).ver,(st r).sh,aV (st r).ls j (.own M (some (i,off)) R J z)⟩ (ac [(EPO,ca (st EPO))] st) with ⟨rfl,e⟩|⟨_,e⟩
          ·rw[e];exact F3 _
          ·rw[e];rcases an EPO q (ca (st EPO)) st with ⟨rfl,e⟩|⟨_,e⟩ <;> rw[e]
           ·exact HW _
           ·exact F3 _
         ·rw[aL (GX b2),bm];exact FV _
         ·rcases an r q ⟨(st r).ver,(st r).sh,aV (st r).ls j (.own M (some (i,off)) R J z)⟩ (ac [(EPO,ca (st EPO))] st) with ⟨rfl,e⟩|⟨_,e⟩
          ·rw[e];simp[aV]
          ·rw[e];rcases an EPO q (ca (st EPO)) st with ⟨rfl,e⟩|⟨_,e⟩ <;> rw[e];rfl
         ·rw[bm]at Z;rcases aU _ _ _ _ _ Z with ⟨_,rfl,_⟩|⟨a8,_⟩
          ·rfl
          ·exact absurd rfl a8
         ·rcases an r q ⟨(st r).ver,(st r).sh,aV (st r).ls j (.own M (some (i,off)) R J z)⟩ (ac [(EPO,ca (st EPO))] st) with ⟨rfl,e⟩|⟨_,e⟩
          ·rw[e]at Z;rcases aU _ _ _ _ _ Z with ⟨rfl,_,_⟩|⟨_,Z⟩
           ·exact absurd rfl H
           ·exact Z
          ·rw[e]at Z;rcases an EPO q (ca (st EPO)) st with ⟨rfl,e⟩|⟨_,e⟩ <;> rw[e]at Z <;> exact Z
        have h1:=h.retell hV hR a1 trivial a5 trivial (bs':=bs') g1 (λk hk=>a0 k (b3 k hk)) (λ_ _ _=>rfl) (F3 _) rfl rfl rfl;have ba:cP V W (W.tell r j bs') st (ac [(r,⟨(st r).ver,(st r).sh,aV (st r).ls j (.own M (some (i,off)) R J z)⟩)] (ac [(EPO,ca (st EPO))] st)) w w :=
         ⟨λq=>⟨hR.ver q,λ_=>rfl⟩,λb hb=>⟨(jh hR.sh b).2 hb,rfl⟩,λ_ h=>h,λ_ _=>rfl,λhe=>by have:=hR.epo;omega⟩
        have bl:(ac [(r,⟨(st r).ver,(st r).sh,aV (st r).ls j (.own M (some (i,off)) R J z)⟩)] (ac [(EPO,ca (st EPO))] st) TMP).ver=(st TMP).ver:=by
         rw[aL (GX Y),aL jD.2.2]
        obtain⟨h2,bb⟩:=h1.putGhost hV TMP jD.1 jD.2.1 ((st TMP).ver+1) .one [.own (M&&J.shy) none E1 e1 ys] [u] (λ_=>bn) (by rw[bl];exact FV _) rfl (λx hx=>by simp at hx;subst hx;exact g2.one)
         (λq l x H hx=>by
          cases q with
          |zero=>simp at H hx;subst H;subst hx;exact⟨g2.1,(OwB.shy g2.2).carry (b8 (W':=W) (by intro hh;simp only[FL]at hh ⊢;exact⟨hh.1,ol ay hh.2⟩) (λ_ h=>h)) (λ_ _=>rfl) (λ_ _=>rfl)⟩
          |succ q=>simp at H)
         (λq l H _ k hk=>by
          obtain⟨q1,q2,q3,q4⟩:=a0 k (a3 k hk).1;refine⟨q1,q2,λb hb=>q3 b ((jh hR.sh b).1 hb),λr1 i1 l1 _ a6 a9 X=>?_⟩;by_cases H:(r1,i1)=(r,j)
          ·cases H;rw[show (W.tell r j bs').bs r j=bs' from if_pos rfl]at X;exact (a3 k hk).2 X
          ·rw[show (W.tell r j bs').bs r1 i1=W.bs r1 i1 from if_neg H]at X;exact q4 r1 i1 l1 (hR.old r1 i1 l1 H a6) a9 H X)
         (λq q' l l2 h1 h2 h3 h4 k h5 h6=>by
          have h7:q<1:=(FM.1 h1).1;have h8:q'<1:=(FM.1 h3).1;omega)
        have a7:ac [(r,⟨(st r).ver,(st r).sh,aV (st r).ls j (.own M (some (i,off)) R J z)⟩),(TMP,⟨(st TMP).ver+1,.one,[.own (M&&J.shy) none E1 e1 ys]⟩),(EPO,ca (st EPO))] st =
          ac [(TMP,⟨(st TMP).ver+1,.one,[.own (M&&J.shy) none E1 e1 ys]⟩)] (ac [(r,⟨(st r).ver,(st r).sh,aV (st r).ls j (.own M (some (i,off)) R J z)⟩)] (ac [(EPO,ca (st EPO))] st)):=by
         rw[aR r,aR TMP,oh Y]
        rw[a7];refine⟨_,_,_,_,_,_,h2,ba.trans bb,rfl,⟨by rw[bm];exact F3 _,λ_=>by simp⟩,by rw[bm],by rw[bm],rfl,rfl,λq H=>by simp[H,Wit.tell],by simp,λq=>?_,Y,b2,i,off,M,R,J,z,g,aw,?_,?_,?_,O⟩
        ·by_cases H:q=TMP
         ·exact .inr H
         ·rw[aL H];exact .inl (hR.sh q)
        ·show (ac [(TMP,_)] _ r).ls[j]?=_;rw[aL Y,bm];simp only[aV];rw[Ge (FM.1 a1).1]
        ·show (if r=TMP then _ else W.cs r)[j]?=_;rw[if_neg Y];exact a5
        ·show g∈(if r=TMP then _ else (W.tell r j bs').bs r j);rw[if_neg Y,show (W.tell r j bs').bs r j=bs' from if_pos rfl];obtain⟨_,c1,c2,_,q2,_⟩:=g1;rw[q2];simp[GB]
       ·cases I
      ·cases I
    ·cases I
   ·cases I
 |_=>simp[cC]at I
theorem iI {R:Type}(l:Leaf)(J:Upd->Leaf->Option R):mE st l J=(cC st l).bind λu=>J u.1 u.2:=by
 cases l with
 |nal p M ep O E e xs =>
  simp only[mE,cC];cases bu st M ep with
  |false=>rfl
  |true =>
   simp only[cond_true];split
   ·rename_i r j n i X off;split
    ·rename_i Z Y I z _;cases !F2 r TMP&&!F2 r EPO&&F2 X I.cells with
     |false=>rfl
     |true =>
      simp only[cond_true];have H:idx z (i:Int)=z[i]?:=by
       unfold idx;rw[if_neg (by omega)];simp
      rw[H];cases z[i]? with
      |none=>rfl
      |some y =>
       simp only[Option.bind_some];cases bh off I 0 y with
       |none=>rfl
       |some u=>rfl
    ·rfl
   ·rfl
 |_=>rfl
end
theorem sM {w:World}{α:Type}{s g:Nat}:∀ (M:List α) (o:Nat) (Q:Nat->α->List Value->Prop),(∀ j x c,Q j x c->c.length=s/\∀ u∈c,u.oneCell'=true)->(∀ (j:Nat) (x:α),M[j]?=some x->∃ c,Q j x c/\dg w g (o+j*s) c) ->
  ∃ r:List Value,r.length=M.length*s/\(∀ j u,r[j]?=some u->w.cell? ⟨g,o+j,none⟩=some u)/\(∀ u∈r,u.oneCell'=true) /\
   ∀ (j:Nat) (x:α),M[j]?=some x->∃ c,Q j x c/\∀ i u,c[i]?=some u->r[j*s+i]?=some u
 |[],o,_,_,_=>⟨[],by simp,by simp,by simp,by simp⟩
 |y::M,o,Q,hQ,h=>by
  obtain⟨c,hr,hc⟩:=h 0 y rfl;obtain⟨r,h1,h2,h3,h4⟩:=sM M (o+s) (λj=>Q (j+1)) (λj=>hQ (j+1)) (λj x z=>by
   obtain⟨R,I,H⟩:=h (j+1) x (by simpa using z);refine⟨R,I,?_⟩;rw[GJ]at H;have:o+s+j*s=o+(j*s+s):=by omega
   rw[this];exact H)
  obtain⟨X,Y⟩:=hQ 0 y c hr;refine⟨c++r,by rw[F0,h1,X,Gu,GJ];omega,?_,?_,?_⟩
  ·intro j u z;by_cases a0:j<c.length
   ·rw[FQ a0]at z;have:=hc j u z
    rwa [HP,GN]at this
   ·rw[FP (by omega)]at z;have:=h2 (j-c.length) u z;have e1:o+s+(j-c.length)=o+j:=by omega
    rwa [e1]at this
  ·intro u J;rcases FU.1 J with J|J
   ·exact Y u J
   ·exact h3 u J
  ·intro j x z;cases j with
   |zero =>
    simp at z;subst z;refine⟨c,hr,λi u O=>?_⟩;have Z:=(FM.1 O).1;rw[HP,GY,FQ Z];exact O
   |succ j =>
    obtain⟨R,I,H⟩:=h4 j x (by simpa using z);refine⟨R,I,λi u O=>?_⟩;rw[GJ,FP (by omega)];rw[<- H i u O];congr 1;omega
theorem kA {P:Program}(g o:Nat)(t:TypeId)(mk:Nat×Nat):∀ (z:List Value) (i:Nat) (cur:Array Value) (w:World),w.heap[g]?=some (.cells cur t mk)->(mk.2=0\/cur.size<=mk.1)->o+i+z.length<=cur.size->(∀ v∈z,v.oneCell'=true) ->
  (storeCells ⟨g,o,none⟩ z i).run P w=.ok () (w.setRow g (cur.toList.take (o+i)++z++cur.toList.drop (o+i+z.length)).toArray)
 |[],i,cur,w,u,_,_,_=>by
  simp only[storeCells,F9,Gi,GN,List.take_append_drop,GC];rw[setRow_self w g cur t mk u];rfl
 |v::r,i,cur,w,u,O,H,J=>by
  have M:o+i<cur.size:=by simp at H;omega
  have y:(⟨g,o,none⟩:Addr).add i=⟨g,o+i,none⟩:=by unfold Addr.add;split <;> simp_all
  have I:(store ((⟨g,o,none⟩:Addr).add i) v).run P w=.ok () (w.setRow g (cur.setIfInBounds (o+i) v)):=by
   rw[y,run_store P w _ v _ (J v (by simp)),cell_of_row w g _ cur t mk u,Array.getElem?_eq_getElem M];simp[sl u O M,setCell_eq_setRow w g (o+i) cur t mk v u]
  have X:=kA (P:=P) g o t mk r (i+1) (cur.setIfInBounds (o+i) v) (w.setRow g (cur.setIfInBounds (o+i) v)) (setRow_heap w g cur _ t _ u) (by simpa using O) (by simp at H ⊢;omega) (λx R=>J x (by simp[R]));simp only[storeCells,HK,I,Gp,X,setRow_setRow];congr 3;have e:=list_seg_step cur.toList (o+i) v r (by simp at H ⊢;omega);simpa[Array.toList_setIfInBounds,Hj]using e
theorem om {P:Program}(w:World)(t ty e:TypeId)(i:TypeInfo)(ht:P.underlying t=some (.slice e))(Y:P.info? e=some i)
  (g y z:Nat) (cur:Array Value) (mk:Nat×Nat) (X:w.heap[g]?=some (.cells cur e mk)) (hm:mk.2=0\/cur.size<=mk.1)
  (a:Addr) (m c:Nat) (r:List Value) (Z:r.length=m*i.size) (H:∀ j u,r[j]?=some u->w.cell? (a.add j)=some u) (O:∀ u∈r,u.oneCell'=true)
  (I:y+m<=z) (J:y*i.size+r.length<=cur.size) :
  (GI #[t,t] ty #[.slice (some ⟨g,0,none⟩) y z,.slice (some a) m c]).run P w =
   .ok (.slice (some ⟨g,0,none⟩) (y+m) z) (w.setRow g (cur.toList.take (y*i.size)++r++cur.toList.drop (y*i.size+r.length)).toArray):=by
 have R:=run_firstCells_some (P:=P) w i.size m a m c r Z H;have M:=kA (P:=P) g (y*i.size) e mk r 0 cur w X hm (by simpa using J) O;simp only[GN]at M;simp[GI,run_underlying ht,sizeOf,typeInfo,Y,Gs,I,R,Addr.add_lit,M]
theorem bQ {P:Program}(w:World)(t ty e:TypeId)(i:TypeInfo)(z:Value)(size Z:Nat)(ht:P.underlying t=some (.slice e))(hi:P.info? e=some i)(hz:i.zero=some z)
  (a4:i.size=size) (aw:i.bytes=Z) (az:z.cells.size=size)
  (v:Value) (n:Nat) (xs:List Value) (y:Row w e size v n xs)
  (a:Addr) (m c:Nat) (r:List Value) (hl:r.length=m*size) (I:∀ j u,r[j]?=some u->w.cell? (a.add j)=some u) (h1:∀ u∈r,u.oneCell'=true)
  (a6:n+m<=maxLen) (M:(n+m)*Z<=140737488355328) :
  ∃ v' w',(GI #[t,t] ty #[v,.slice (some a) m c]).run P w=.ok v' w'/\Row w' e size v' (n+m) (xs++r)/\w.grownBy w' v.ownBlock/\(v'.ownBlock=v.ownBlock\/v'.ownBlock=some w.heap.size):=by
 subst a4;subst aw;have ad:n+m<=9223372036854775807:=by simp only[maxLen]at a6;omega
 have O:(xs++r).length=(n+m)*i.size:=by rw[F0,y.1,hl,Gq]
 have a0:∀ (H:Nat),H<n+m->∀ (a9:Option Nat),
   Row (w.drew.alloc (.cells (xs.toArray++r.toArray++HQ z.cells (grownCap w (n+m) H e-(n+m))) e)) e i.size
    (.slice (some ⟨w.heap.size,0,none⟩) (n+m) (grownCap w (n+m) H e)) (n+m) (xs++r) /\
   w.grownBy (w.drew.alloc (.cells (xs.toArray++r.toArray++HQ z.cells (grownCap w (n+m) H e-(n+m))) e)) a9:=by
  intro H ho a9;have ay:=grownCap_ge w (n+m) H e;have a1:grownCap w (n+m) H e<=maxLen:=grownCap_le_maxLen w (n+m) H e a6;refine⟨⟨O,.inr ⟨w.heap.size,_,_,_,rfl,heap_alloc_new w.drew _,ay,.inl ⟨rfl,a1⟩,?_,?_⟩⟩,⟨rfl,rfl,rfl,by simp,λk hk _=>Go.heap_alloc_old w.drew _ hk⟩⟩
  ·simp only[HL,Gd,size_zeroCells,az,y.1,hl,<- Gq];exact FW _ (by omega)
  ·simp only[HD,FZ];rw[<- FZ,<- O];exact Hh
 rcases y.2 with ⟨rfl,rfl⟩|⟨g,R,X,mk,rfl,hg,b0,a1,a7,a5⟩
 ·have hx:xs=[]:=F4 (by simpa using y.1);subst hx;by_cases hm:m=0
  ·subst hm;have hn:r=[]:=F4 (by simpa using hl);subst hn;refine⟨.slice none 0 0,w,?_,Row.nil w e i.size,⟨rfl,rfl,rfl,F3 _,λ_ _ _=>rfl⟩,.inl rfl⟩;simp[GI,run_underlying ht,sizeOf,typeInfo,hi,Gs,Gn,loadCells,loadCellsFrom]
  ·have hr:=run_append_nil (P:=P) w t ty e i z ht hi hz a m c r hl I (by omega) (by omega) (by have hb:=M;simp only[GY]at hb;omega);have Y:=a0 0 (by omega) (GB (.slice none 0 0));simp only[GY,He,Array.empty_append]at Y ⊢;exact⟨_,_,hr,Y.1,Y.2,.inr rfl⟩
 ·by_cases J:n+m<=R
  ·have a8:n*i.size+r.length<=X.size:=by rw[hl,<- Gq];exact GP (FW _ J) a7
   have hr:=om (P:=P) w t ty e i ht hi g n R X mk hg (AY a1) a m c r hl I h1 J a8;have a2:(X.toList.take (n*i.size)++r++X.toList.drop (n*i.size+r.length)).toArray.size=X.size:=by
    simp only[Gd,F0,GA,Gt,GG];omega
   refine⟨_,_,hr,⟨O,.inr ⟨g,R,_,mk,rfl,setRow_heap w g X _ e _ hg,J,a1.imp id (λh=>⟨h.1,?_⟩),?_,?_⟩⟩,⟨rfl,rfl,rfl,by simp,λk _ hk=>setRow_other w g k _ (λe=>hk (by simp[GB,e]))⟩,.inl rfl⟩
   ·rw[a2];exact h.2
   ·rw[a2];exact a7
   ·rw[a5,<- O];exact Hh
  ·have a3:∀ j u,xs[j]?=some u->w.cell? ((⟨g,0,none⟩:Addr).add j)=some u:=λj u hj=>by
    rw[fD,GY,y.cellAt _ (by rw[<- y.1];exact (FM.1 hj).1)];exact hj
   have hr:=run_append_grow (P:=P) w t ty e i z ht hi hz ⟨g,0,none⟩ n R xs y.1 a3 a m c r hl I (by omega) (by omega) (growslice_fits (by omega) M);have Y:=a0 R (by omega) (GB (.slice (some ⟨g,0,none⟩) n R));exact⟨_,_,hr,Y.1,Y.2,.inr rfl⟩
theorem oo {P:Program}(w:World)(t ty e:TypeId)(i:TypeInfo)(size c:Nat)(z:P.underlying t=some (.slice e))(y:P.info? e=some i)
  (v:Value) (n:Nat) (xs:List Value) (r:Row w e size v n xs) :
  (GI #[t,t] ty #[v,.slice none 0 c]).run P w=.ok v w:=by
 rcases r.2 with ⟨rfl,rfl⟩|⟨g,H,I,_,rfl,_,u,_⟩
 ·simp[GI,run_underlying z,sizeOf,typeInfo,y,Gs,Gn]
 ·simp[GI,run_underlying z,sizeOf,typeInfo,y,Gs,Gn,u,storeCells]
theorem jT {α:Type}{f g:α->List Nat}:∀ {l:List α},(∀ x∈l,f x=g x)->l.flatMap f=l.flatMap g
 |[],_=>rfl
 |x::l,h=>by rw[GV,GV,h x (F5 ..),jT (λy r=>h y (FY _ r))]
theorem AD (n m:Nat)(f g:Nat->List Nat):(FX (n+m)).flatMap (λj=>if j<n then f j else g (j-n))=(FX n).flatMap f++(FX m).flatMap g:=by
 rw[List.range_add,List.flatMap_append,HS];congr 1
 ·refine jT λj r=>?_
  rw[if_pos (G8.1 r)]
 ·refine jT λj _=>?_
  rw[if_neg (by omega),show n+j-n=j by omega]
def xF (w:World)(G:Nat->Prop)(e:Ty)(z:List e.den)(u:Value)(r:Nat->List Nat):Prop :=
 ∃ A y,u=.slice A z.length y/\(0<z.length->∃ g o,A=some ⟨g,o,none⟩/\∀ j (x:e.den),z[j]?=some x->∃ c,Mx w G e none 0 x c (r j)/\dg w g (o+j*e.cells) c)
section
variable {P:Program} {V:Env} {Γ:List Ctr} {T:TypeId->TI} {st:St} {o:Oper} {R:Type} {κ:Upd->Option R} {r:R}
theorem xG {w:World}{t ty E:TypeId}{e e':Ty}{J:Nat}(bn:pR P t (.slice E e J))(b1:e'.cells=e.cells){G G2 G':Nat->Prop}{xs H:List e'.den}{v u:Value}{bs:List Nat}{M:Nat->List Nat}(hx:Ow w G E e' xs v bs)
  (hy:xF w G2 e' H u M) (b2:(xs.length+H.length)*J<=am) (hG:∀ k,G k->G' k) (aw:∀ k,G2 k->G' k) (a9:∀ k,G' k->k<w.heap.size/\v.ownBlock≠some k) (b4:∀ j,j<H.length->∀ k∈M j,v.ownBlock≠some k) :
  ∃ v' O I,(GI #[t,t] ty #[v,u]).run P w=.ok v' O/\w.grownBy O v.ownBlock/\OwB O G' none E e' (xs++H) v' I /\
   ∀ k,I.count k<=bs.count k+(((FX H.length).flatMap M)++[w.heap.size]).count k:=by
 obtain⟨hu,_,_,c1,b3,ti,z,hi,hs,hb,hz,bx⟩:=bn;obtain⟨bb,X,a4,ho,ay,b6⟩:=hx;obtain⟨A,a7,bo,az⟩:=hy;subst bo;have bl:ti.size=e'.cells:=by rw[b1];exact hs
 have a3:∀ (O:World),w.grownBy O v.ownBlock->∀ k,G' k->O.heap[k]?=w.heap[k]?:=λO Y k Z=>Y.block k (a9 k Z).1 (GX (a9 k Z).2)
 have ba:xs.length+H.length<=maxLen:=by
  have h1:(xs.length+H.length)*1<=(xs.length+H.length)*J:=Gl _ b3.1;have:=nl;simp only[am]at b2;omega
 have a8:∀ (y:List Value),(∀ (j:Nat) (x:e'.den),H[j]?=some x->∃ c,Mx w G2 e' none 0 x c (M j)/\∀ i u,c[i]?=some u->y[j*e'.cells+i]?=some u) ->
   ∀ v' O,Row O E e'.cells v' (xs.length+H.length) (X++y)->w.grownBy O v.ownBlock->(v'.ownBlock=v.ownBlock\/v'.ownBlock=some w.heap.size) ->
    ∃ I,OwB O G' none E e' (xs++H) v' I/\∀ k,I.count k<=bs.count k+(((FX H.length).flatMap M)++[w.heap.size]).count k:=by
  intro y hn v' O a6 Y a5;refine⟨v'.ownBlock.toList++(FX (xs.length+H.length)).flatMap (λj=>if j<xs.length then a4 j else M (j-xs.length)),⟨X++y,_,by rw[F0];exact a6,by rw[F0],λj x hj=>?_⟩,λk=>?_⟩
  ·by_cases a0:j<xs.length
   ·rw[FQ a0]at hj;obtain⟨c,hr,hc⟩:=b6 j x hj;have hr:Mx w G e' none 0 x c (a4 j):=hr;refine⟨c,?_,λi u hi=>?_⟩
    ·rw[if_pos a0];refine hr.carry hG (λk Z=>a3 O Y k (hG k Z)) λk Z=>Y.block k (hr.lt k Z) (λe0=>?_)
     have h5:=bB.1 bb k;rw[ay,<- e0,FO]at h5;have h6:0<((FX xs.length).flatMap a4).count k:=FT.2 (ei.2 ⟨j,a0,Z⟩);simp at h5;omega
    ·have:=hc i u hi;rw[FQ (FM.1 this).1];exact this
   ·rw[FP (by omega)]at hj;obtain⟨c,hr,hc⟩:=hn _ x hj;have b9:=(FM.1 hj).1;refine⟨c,?_,λi u hi=>?_⟩
    ·rw[if_neg a0];exact hr.carry aw (λk Z=>a3 O Y k (aw k Z)) λk Z=>Y.block k (hr.lt k Z) (GX (b4 _ b9 k Z))
    ·have:=hc i u hi;have b0:=ho.1;have c2:xs.length*e'.cells<=j*e'.cells:=FW _ (Nat.le_of_not_lt a0);rw[FP (by omega),<- this,b0,Nat.sub_mul];congr 1;omega
  ·rw[AD,ay];simp only[FO];rcases a5 with h5|h5
   ·rw[h5];omega
   ·rw[h5];simp only[HG];omega
 cases A with
 |none =>
  have a2:H.length=0:=by
   rcases HH H.length with h|h
   ·exact h
   ·obtain⟨g,o,hA,_⟩:=az h;cases hA
  have a2:=F4 a2;subst a2;have a1:=oo (P:=P) w t ty E ti e'.cells a7 hu hi v xs.length X ho;have Y:w.grownBy w v.ownBlock:=⟨rfl,rfl,rfl,F3 _,λ_ _ _=>rfl⟩;obtain⟨I,h1,h2⟩:=a8 [] (by simp) v w (by simpa using ho) Y (.inl rfl);exact⟨v,w,I,a1,Y,h1,h2⟩
 |some ad =>
  have b5:∃ y:List Value,y.length=H.length*e'.cells/\(∀ j u,y[j]?=some u->w.cell? (ad.add j)=some u)/\(∀ u∈y,u.oneCell'=true) /\
    ∀ (j:Nat) (x:e'.den),H[j]?=some x->∃ c,Mx w G2 e' none 0 x c (M j)/\∀ i u,c[i]?=some u->y[j*e'.cells+i]?=some u:=by
   rcases HH H.length with h|h
   ·have a2:=F4 h;subst a2;exact⟨[],by simp,by simp,by simp,by simp⟩
   ·obtain⟨g,o,hA,he⟩:=az h;simp at hA;subst hA;obtain⟨y,h1,h2,h3,h4⟩:=sM H o (λj x c=>Mx w G2 e' none 0 x c (M j)) (λj x c hq=>⟨hq.len,hq.one⟩) he;exact⟨y,h1,λj u hj=>by rw[fD];exact h2 j u hj,h3,h4⟩
  obtain⟨y,h1,h2,h3,h4⟩:=b5;have c0:z.cells.size=e'.cells:=by
   have h2:=(mw w (λ_=>False) e).len;rw[<- GG,bx,h2,b1]
  obtain⟨v',O,a1,a6,Y,a5⟩:=bQ (P:=P) w t ty E ti z e'.cells J hu hi hz bl hb c0 v xs.length X ho ad H.length a7 y h1 h2 h3 ba (by simpa[am]using b2);obtain⟨I,h5,h6⟩:=a8 y h4 v' O a6 Y a5;exact⟨v',O,I,a1,Y,h5,h6⟩
theorem xH {W:Wit}{a:Act}{w:World}(h:ap P V W st a w){E:TypeId}{e:Ty}{y:Leaf}{u:Value}{t:cU (List e.den)}(hl:aG P V W st w [y] [u])(H:gA st E e y=some t) :
  (∃ I,xF w (br V W t.p t.frz) e t.val u I/\∀ k,((FX t.val.length).flatMap I).count k<=(aZ W t.kill).count k)/\(∀ x∈t.frz,aF st x)/\(∀ x∈t.kill,aF st x):=by
 have z:∀ {p q:Bool} {O:List e.den} {ks:List (Nat×Nat)},dw e (aH st y)=some (p,O)->(∀ (S:Nat->Prop) (x:e.den) (c:List Value),Rd w (br V W p (bE st [y])) e x c->Mx w (br V W q ks) e none 0 x c []) ->
   ∃ I,xF w (br V W q ks) e O u I/\∀ k,((FX O.length).flatMap I).count k<=(aZ W []).count k:=by
  intro p q O ks Y hm;obtain⟨A,M,hu,_,hx⟩:=lr (m:=false) (E:=E) h hl.1.1 hl.1.2.1 Y;have hu:u=.slice A O.length M:=by simpa using hu
  refine⟨(λ_=>[]:Nat->List Nat),⟨A,M,hu,λZ=>?_⟩,λk=>by rw[show ((FX O.length).flatMap λ_=>([]:List Nat))=[] from by simp];exact HX _⟩;obtain⟨g,o',hA,_,a0⟩:=hx Z;exact⟨g,o',hA,λj x hj=>by
   obtain⟨c,hr,hc⟩:=a0 j x hj;exact⟨c,hm (λ_=>True) x c hr,hc⟩⟩
 unfold gA at H;cases hf:e.flat with
 |true =>
  rw[hf]at H;simp only[cond_true,FK]at H;obtain⟨⟨p,O⟩,Y,rfl⟩:=H;exact⟨z Y (λ_ x c hr=>Mx.flat hf hr),by simp,by simp⟩
 |false =>
  rw[hf]at H;simp only[cond_false]at H;cases hs:decide (e.sh=e) with
  |true =>
   rw[hs]at H;simp only[cond_true,FK]at H;obtain⟨⟨p,O⟩,Y,rfl⟩:=H;exact⟨z Y (λ_ x c hr=>Mx.shared (of_decide_eq_true hs) hr),λx hx=>eO hl hx,by simp⟩
  |false =>
   rw[hs]at H;simp only[cond_false,FK]at H;obtain⟨J,Y,rfl⟩:=H;obtain⟨h1,h2,h3⟩:=dZ (pos:=0) h hl Y;have h1:Mx w (br V W J.p J.frz) (.list true E e) none 0 J.val [u] (aZ W J.kill):=h1;rw[bF (by simp)]at h1;obtain⟨v,hv,a1,X,h4,h5,h6⟩:=h1;simp only[Gk,and_true]at hv;subst hv;refine⟨⟨X,?_,λk=>?_⟩,h2,h3⟩
   ·rcases h4.2 with ⟨hn,h0⟩|⟨g,M,a2,_,hv,hg,a3,_⟩
    ·exact⟨none,0,by rw[hn];show _=Value.slice none (HZ J.val) 0;rw[h0],λZ=>by have Z:0<HZ J.val:=Z;omega⟩
    ·refine⟨some ⟨g,0,none⟩,M,hv,λZ=>⟨g,0,rfl,λj x hj=>?_⟩⟩;obtain⟨c,h7,h8⟩:=h6 j x hj;have h7:Mx w (br V W J.p J.frz) e none 0 x c (X j):=h7;refine⟨c,h7,λi u hi=>?_⟩;have h9:=h8 i u hi;rw[GY];rw[hv]at h4;rw[h4.cellAt _ (by rw[<- h4.1];exact (FM.1 h9).1)];exact h9
   ·show ((FX (HZ J.val)).flatMap X).count k<=(aZ W J.kill).count k;rw[h5,FO];omega
theorem B9 {l l':Leaf}{U:Upd}(u:cC st l=some (U,l')):∃ n,l'=.al TMP 0 n:=by
 cases l with
 |nal p I ep J E e xs =>
  simp only[cC]at u;cases y:bu st I ep with
  |false=>simp[y]at u
  |true =>
   rw[y]at u;simp only[cond_true]at u;split at u
   ·rename_i r j Z i M off;split at u
    ·rename_i p' X H O Y;cases z:!F2 r TMP&&!F2 r EPO&&F2 M H.cells with
     |false=>simp[z]at u
     |true =>
      rw[z]at u;simp only[cond_true]at u;split at u
      ·split at u
       ·simp only[FJ,GK]at u;exact⟨_,u.2.symm⟩
       ·cases u
      ·cases u
    ·cases u
   ·cases u
 |_=>simp[cC]at u
theorem xI (hV:aA V)(hT:TOk P T)(bo:bU V o){c:Call}(bx:o.op=.call c)(hc:c.callee=.builtin .append)(h:act Γ T o st κ=some r):cd P V o st κ r:=by
  simp only[act,wrU,bx,hc]at h;split at h
  · cases h
  · rename_i d hd
    split at h
    · rename_i x y t u a1 a8
      split at h
      · rename_i E e a0 ht
        cases a7:F2 t u with
        |false=>simp[a7]at h
        |true =>
          simp only[a7,cond_true]at h;have a7:=FR a7;subst a7;have c3:=hT t;rw[ht]at c3;have a1:c.args=#[x,y]:=by rw[<- GC (xs:=c.args),a1]
          have a8:c.argTypes=#[t,t]:=by rw[<- GC (xs:=c.argTypes),a8]
          have b5:∀ (a:Act) (w w':World) (v:Value),(GI #[t,t] o.type #[a.eval x,a.eval y]).run P w=.ok v w'->(execOp a.eval o).run P w=.ok (.value v) w':=by
            intro a w w' v Z;simp[execOp,bx,hc,resolve,invoke,builtin,a1,a8,Z]
          have b1:∀ (I:Upd) (E':TypeId) (e':Ty) (p:Bool) (xs:List e'.den) (ks:List (Nat×Nat)),E'=E->e'.sh=e.sh->eh st (ac I st) I d E' e' a0 p xs ks (one st y) κ=some r ->
              ∃ U,κ U=some r/\∀ (O:Wit) (a:Act) (w:World),ap P V O (ac I st) a w->aG P V O (ac I st) w [one st y] [a.eval y]->(∀ x∈ks,aF (ac I st) x)->Ow w (gd V O p) E' e' xs (a.eval x) (aZ O ks)->nK P V o st U a w:=by
            intro I E' e' p xs ks hE he J;subst hE;unfold eh at J;split at J
            · rename_i t1 cp
              cases X:bc (t1.kill++ks)&&dO t1.frz (t1.kill++ks)&&decide ((xs.length+t1.val.length)*a0<=am) with
              |false=>simp[X]at J
              |true =>
                simp only[X,cond_true]at J;simp only[FL,decide_eq_true_eq]at X;obtain⟨⟨c4,c5⟩,b2⟩:=X;refine⟨_,J,λO a w Z a3 cc c0 next Q hn=>?_⟩;obtain⟨⟨b9,c6,ay⟩,hf,cb⟩:=xH Z a3 cp;have bb:∀ x∈t1.kill++ks,aF (ac I st) x:=λx hx=>(FU.1 hx).elim (cb x) (cc x)
                obtain⟨h1,_,_,h4⟩:=gp hV Z c5 bb;have b6:=iv Z c4 bb;rw[dV]at b6 h4;have Y:∀ k∈aZ O t1.kill++aZ O ks,¬ cq V (O.frz (ac I st) t1.frz) _ k:=λk H=>nk ⟨(h4 k H).1,(h4 k H).2.1,(h4 k H).2.2.2.1,(h4 k H).2.2.2.2⟩
                rw[GO]at b6;obtain⟨bn,bl,az⟩:=b6;have b3:∀ k,(a.eval x).ownBlock=some k->k∈aZ O ks:=by
                  intro k H;obtain⟨_,cw,cy,_,b2,_⟩:=c0;rw[b2,H];simp
                have ba:∀ k,gd V (O.frz (ac I st) t1.frz) (p||t1.p) k->cq V (O.frz (ac I st) t1.frz) (ac (aP (ac (aI (ac I st) t1.frz) (ac I st)) (t1.kill++ks)++aI (ac I st) t1.frz) (ac I st)) k:=by
                  rintro k (H|⟨_,H⟩)
                  · exact .inl H
                  · exact .inr (.inl (hV.ro k H))
                have a6:∀ k∈(FX t1.val.length).flatMap b9,k∈aZ O t1.kill:=λk H=>FT.1 (by have:=ay k;have:=FT.2 H;omega)
                obtain⟨v',w',cx,c2,hg,c1,b4⟩:=xG (P:=P) (t:=t) (ty:=o.type) c3 (iP he) c0 c6 b2 (G':=gd V (O.frz (ac I st) t1.frz) (p||t1.p))
                  (b8 (W':=O.frz (ac I st) t1.frz) (by intro h;simp[h]) (λ_ h=>Or.inl h))
                  (λk H=>b8 (W':=O.frz (ac I st) t1.frz) (by intro h;simp[h]) (λ_ h=>h) k (kZ hf k H))
                  (λk H=>⟨h1.used_lt k (ba k H),λe1=>Y k (FN _ (b3 k e1)) (ba k H)⟩)
                  (λj hj k H e1=>az k (a6 k (ei.2 ⟨j,hj,H⟩)) k (b3 k e1) rfl)
                have b0:=oj (bs:=aZ O ks) (K:=(FX t1.val.length).flatMap b9++[w.heap.size]) bl
                  (bB.2 λk=>by
                    rw[FO];have h5:=ay k;have h6:=bB.1 bn k;by_cases H:k=w.heap.size
                    · subst H
                      have:(aZ O t1.kill).count w.heap.size=0:=F8.2 (λhm=>by have:=(h4 _ (FS _ hm)).2.2.1;omega);simp;omega
                    · have:List.count k [w.heap.size]=0:=F8.2 (by simp[H])
                      omega)
                  (λk H hm=>by
                    rcases FU.1 H with H|H
                    · exact az k (a6 k H) k hm rfl
                    · simp at H
                      subst H;have:=(h4 _ (FN _ hm)).2.2.1;omega) b4
                refine ek (b5 a w w' v' c2) ?_;rw[hd];refine hn _ _ ?_;rw[cB,aR,bH];refine h1.putOwn hV hg.size hg.os hg.tape hg.output (λk H=>hg.block k (h1.used_lt k H) (λe1=>Y k (FN _ (b3 k e1.symm)) H)) d (bo d hd).1 (bo d hd).2 _ (FV _) ⟨b0.1,c1⟩ (λk H hu=>?_);rcases b0.2 k H with H|H
                · exact Y k (FN _ H) hu
                · rcases FU.1 H with H|H
                  · exact Y k (FS _ (a6 k H)) hu
                  · simp at H
                    have:=h1.used_lt k hu;omega
            · cases J
          have a4:∀ (I:Upd) (x':Leaf),eR st I d E e a0 x' (one st y) κ=some r->one st y≠.dead:=by
            intro I x' h e1;rw[e1]at h;unfold eR at h;split at h
            · split at h
              · rename_i p E' e' aw ad
                cases X:F2 E' E&&decide (e'.sh=e.sh) with
                |false=>simp[X]at h
                |true =>
                  simp only[X,cond_true,eh,gA,aH,dw,G3,cr,take]at h;cases e'.flat <;> cases decide (e'.sh=e') <;> simp at h
              · cases h
            · simp only[eh,gA,aH,dw,G3,cr,take]at h
              cases e.flat <;> cases decide (e.sh=e) <;> simp at h
            · cases h
          simp only[jd]at h;cases hn:jZ (one st x) with
          |true =>
            rw[hn]at h;simp only[cond_true]at h;rw[iI]at h;obtain⟨⟨I,x'⟩,a5,h⟩:=GD.1 h;have a4:=a4 _ _ h;simp only[eR]at h;split at h
            · rename_i r' j n
              split at h
              · rename_i p' E' e' aw ad
                cases X:F2 E' E&&decide (e'.sh=e.sh) with
                |false=>simp[X]at h
                |true =>
                  simp only[X,cond_true]at h;simp only[FL,decide_eq_true_eq]at X;obtain⟨U,hU,hg⟩:=b1 I E' e' p' aw [(r',j)] (FR X.1) X.2 h;refine⟨U,hU,λW a w Z=>?_⟩;obtain⟨a2,_,_,_,_⟩:=bA Z x (by intro e1;rw[e1]at hn;simp[jZ]at hn);obtain⟨O,n0,p0,E0,e0,d1,g1,g2,g3,g4,_⟩:=wA hV Z a2 a5;obtain⟨a3,M,a9,_,_⟩:=bA Z y a4;obtain⟨h5,h6,h7,h8⟩:=kX g1 ad g4;exact hg O a w g1 ⟨⟨a3.carry hV.ro g2 (λho=>absurd ho M),M,a9⟩,trivial⟩ (λz hz=>by simp at hz;subst hz;exact⟨_,h7,trivial⟩) (by simpa[aZ]using h6)
              · cases h
            · exfalso
              obtain⟨n,cu⟩:=B9 a5;cases cu
            · cases h
          |false =>
            rw[hn]at h;simp only[cond_false]at h;have a4:=a4 _ _ h;simp only[eR]at h;split at h
            · rename_i r' j n hx
              split at h
              · rename_i p' E' e' aw ad
                cases X:F2 E' E&&decide (e'.sh=e.sh) with
                |false=>simp[X]at h
                |true =>
                  simp only[X,cond_true]at h;simp only[FL,decide_eq_true_eq]at X;obtain⟨U,hU,hg⟩:=b1 [] E' e' p' aw [(r',j)] (FR X.1) X.2 h;refine⟨U,hU,λW a w Z=>?_⟩;obtain⟨a2,_,_,_,_⟩:=bA Z x (by rw[hx];simp);rw[hx]at a2;obtain⟨a3,M,a9,_,_⟩:=bA Z y a4;obtain⟨h5,h6,h7,h8⟩:=kX Z ad a2;exact hg W a w Z ⟨⟨a3,M,a9⟩,trivial⟩ (λz hz=>by simp at hz;subst hz;exact⟨_,h7,trivial⟩) (by simpa[aZ]using h6)
              · cases h
            · rename_i hx
              obtain⟨U,hU,hg⟩:=b1 [] E e false [] [] rfl rfl h;refine⟨U,hU,λW a w Z=>?_⟩;obtain⟨a2,_,_,_,_⟩:=bA Z x (by rw[hx];simp);rw[hx]at a2;obtain⟨a3,M,a9,_,_⟩:=bA Z y a4;exact hg W a w Z ⟨⟨a3,M,a9⟩,trivial⟩ (by simp) (by rw[show a.eval x=_ from a2];exact OwH.nil w _ E e)
            · cases h
      · cases h
    · cases h
end
def iw (w:World)(ro pr:Nat->Prop)(r:Bool)(a:Ty)(x:a.den)(v:Value):Prop :=
 if r=true then ∃ b u g o c,v=.pointer (some ⟨b,u,none⟩)/\pr b/\w.cell? ⟨b,u,none⟩=some (.pointer (some ⟨g,o,none⟩))/\pr g/\Rd w ro a x c/\dg w g o c
 else ∃ g o c,v=.pointer (some ⟨g,o,none⟩)/\pr g/\Rd w ro a x c/\dg w g o c
def km (w:World)(ro pr:Nat->Prop):(cs:List (Bool×Ty))->mC cs->List Value->Prop
 |[],_,y=>y=[]
 |c::cs,x,y=>∃ u r,y=u::r/\iw w ro pr c.1 c.2 x.1 u/\km w ro pr cs x.2 r
def o9 (P:Program)(w:World)(ro pr:Nat->Prop):(pk:PK)->pk.den->Value->List Nat->Prop
 |.rd a,x,v,r=>r=[]/\∃ y,dr a.isAgg v y/\Rd w ro a x y
 |.own a,x,v,r=>∃ y,dr a.isAgg v y/\Mx w ro a none 0 x y r
 |.io a,x,v,r=>∃ y,dr a.isAgg v y/\Mx w ro a none 0 x y r
 |.rref a,x,v,r=>r=[]/\iw w ro pr false a x v
 |.rref2 a,x,v,r=>r=[]/\iw w ro pr true a x v
 |.iop a,x,v,r=>∃ g c E z,v=.pointer (some ⟨g,0,none⟩)/\w.heap[g]?=some (.cells c.toArray E (0,0))/\Mx w ro a none 0 x c z/\r=g::z
 |.fn M B,O,v,r=>r=[]/\iQ P w pr M B O v
 |.clo f y,x,v,r=>r=[]/\∃ I:List Value,v=.func (.func f) #[] I.toArray/\km w ro pr y x I
 |.hol a c off,x,v,r=>∃ y u z H E e J,dr a.isAgg v y/\Mx w ro a (some c) 0 x.1 y z/\y[c]?=some u/\bh c a 0 x.1=some ⟨E,e,J⟩/\OwB w ro (some (x.2,off)) E e J u H/\∀ k,r.count k=z.count k+H.count k
def dp (P:Program)(w:World)(ro pr:Nat->Prop):(ps:List PK)->ab ps->List Value->List (List Nat)->Prop
 |[],_,z,u=>z=[]/\u=[]
 |p::ps,x,z,u=>∃ v y b r,z=v::y/\u=b::r/\o9 P w ro pr p x.1 v b/\dp P w ro pr ps x.2 y r
def kb (w:World)(G:Nat->Prop)(a:Ty)(x:a.den)(ptr:Bool)(v:Value)(bs:List Nat):Prop :=
 if ptr=true then ∃ g c E r,v=.pointer (some ⟨g,0,none⟩)/\w.heap[g]?=some (.cells c.toArray E (0,0))/\Mx w G a none 0 x c r/\bs=g::r
 else ∃ u,dr a.isAgg v u/\Mx w G a none 0 x u bs
def bS (w:World)(G:Nat->Prop):(ps:List PK)->ag ps->List Value->List (List Nat)->Prop
 |.io a::ps,o,v::u,b::r=>kb w G a o.1 false v b/\bS w G ps o.2 u r
 |.iop a::ps,o,v::u,b::r=>kb w G a o.1 true v b/\bS w G ps o.2 u r
 |.rd _::ps,o,_::u,b::r=>b=[]/\bS w G ps o u r
 |.own _::ps,o,_::u,b::r=>b=[]/\bS w G ps o u r
 |.rref _::ps,o,_::u,b::r=>b=[]/\bS w G ps o u r
 |.rref2 _::ps,o,_::u,b::r=>b=[]/\bS w G ps o u r
 |.fn _ _::ps,o,_::u,b::r=>b=[]/\bS w G ps o u r
 |.clo _ _::ps,o,_::u,b::r=>b=[]/\bS w G ps o u r
 |.hol _ _ _::ps,o,_::u,b::r=>b=[]/\bS w G ps o u r
 |[],_,[],[]=>True
 |_,_,_,_=>False
def q9 (w:World)(G ro:Nat->Prop):(r:RK)->r.den->Value->List Nat->Prop
 |.v a,y,v,u=>∃ z,dr a.isAgg v z/\Mx w G a none 0 y z u
 |.bv a,y,v,u=>u=[]/\∃ z,dr a.isAgg v z/\Rd w (λk=>G k\/ro k) a y z
 |.box a,y,v,u=>∃ g c E H,v=.pointer (some ⟨g,0,none⟩)/\w.heap[g]?=some (.cells c.toArray E (0,0))/\Mx w G a none 0 y c H/\u=g::H
def ib (w:World)(G ro:Nat->Prop):(J:List RK)->ai J->List Value->List (List Nat)->Prop
 |[],_,M,H=>M=[]/\H=[]
 |r::J,y,M,H=>∃ u I b z,M=u::I/\H=b::z/\q9 w G ro r y.1 u b/\ib w G ro J y.2 I z
def tF:List Value->Value->Prop
 |[u],v=>v=u
 |r,v=>v=.tuple r.toArray
def ra (w w':World)(r:List Nat)(k:Nat):Prop:=k<w'.heap.size/\(w.heap.size<=k\/k∈r)
def uN (c:Ctr)(w:World)(ro:Nat->Prop)(I:List Value)(r:List (List Nat))(y:ai c.rs×ag c.ps)(e:Ending)(w':World):Prop :=
 ∃ (v:Value) (H:List Value) (N:Nat->Prop) (u z:List (List Nat)),e=.returned v/\tF H v/\w.heap.size<=w'.heap.size/\w'.os=w.os/\w'.tape=w.tape/\w'.output=w.output /\
  (∀ k,k<w.heap.size->k∉r.flatten->w'.heap[k]?=w.heap[k]?)/\(∀ k,N k->ra w w' r.flatten k) /\
  bS w' (λk=>N k\/(c.fresh=false/\ro k)) c.ps y.2 I u/\ib w' (λk=>N k\/(c.fresh=false/\ro k)) ro c.rs y.1 H z /\
  (u.flatten++z.flatten).Nodup/\∀ k∈u.flatten++z.flatten,ra w w' r.flatten k/\¬ N k
def bI (P:Program)(c:Ctr):Prop :=
 fR P c.f/\∀ (w:World) (ro:Nat->Prop) (x:ab c.ps) (u:List Value) (r:List (List Nat)) (y:ai c.rs×ag c.ps),
  dp P w ro (λk=>k<w.heap.size/\k∉r.flatten) c.ps x u r->(∀ k,ro k->k<w.heap.size/\k∉r.flatten)->r.flatten.Nodup->c.den x=some y ->
  Calls P c.f u.toArray w (uN c w ro u r y)
section
variable {P:Program} {V:Env} {Γ:List Ctr} {T:TypeId->TI} {st:St} {o:Oper} {R:Type} {κ:Upd->Option R} {r:R}
theorem iQ.mono {w0:World}{S H:Nat->Prop}(J:∀ k,S k->H k){y:List Ty}{B:Ty}{I:Tup y->Option B.den}{v:Value}(h:iQ P w0 S y B I v):iQ P w0 H y B I v:=by
 obtain⟨f,u,e,O,M⟩:=h;exact⟨f,u,e,O,λw1 Y X=>M w1 Y (λk z=>X k (J k z))⟩
theorem iQ.move {w0 w:World}{S I:Nat->Prop}(H:w0.heap.size<=w.heap.size)(J:∀ k,S k->I k/\w.heap[k]?=w0.heap[k]?){z:List Ty}{B:Ty}{M:Tup z->Option B.den}{v:Value}
  (h:iQ P w0 S z B M v):iQ P w I z B M v:=by
 obtain⟨f,u,e,X,O⟩:=h;exact⟨f,u,e,X,λw1 Z Y=>O w1 (GP H Z) (λk y=>(Y k (J k y).1).trans (J k y).2)⟩
theorem iw.carry {w w1:World}{ro ro' pr I:Nat->Prop}(y:∀ k,ro k->ro' k/\w1.heap[k]?=w.heap[k]?)(u:∀ k,pr k->I k/\w1.heap[k]?=w.heap[k]?){J:Bool}{a:Ty}{x:a.den}{v:Value}(h:iw w ro pr J a x v):iw w1 ro' I J a x v:=by
 unfold iw at h ⊢;split at h
 ·rename_i Y;rw[if_pos Y];obtain⟨b,ob,g,o,c,O,H,X,M,Z,h8⟩:=h;exact⟨b,ob,g,o,c,O,(u b H).1,by rw[lq (u b H).2];exact X,(u g M).1,Z.carry (λk z=>(y k z).1) (λk z=>(y k z).2),h8.same (u g M).2⟩
 ·rename_i Y;rw[if_neg Y];obtain⟨g,o,c,O,H,X,M⟩:=h;exact⟨g,o,c,O,(u g H).1,X.carry (λk z=>(y k z).1) (λk z=>(y k z).2),M.same (u g H).2⟩
theorem km.carry {w w1:World}{ro ro' pr H:Nat->Prop}(z:∀ k,ro k->ro' k/\w1.heap[k]?=w.heap[k]?)(y:∀ k,pr k->H k/\w1.heap[k]?=w.heap[k]?):∀ {cs:List (Bool×Ty)} {x:mC cs} {us:List Value},km w ro pr cs x us->km w1 ro' H cs x us
 |[],_,_,h=>h
 |_::_,_,_,⟨u,I,e,J,M⟩=>⟨u,I,e,J.carry z y,km.carry z y M⟩
theorem o9.mono {w:World}{ro ro' pr O:Nat->Prop}(y:∀ k,ro k->ro' k)(J:∀ k,pr k->O k):∀ {pk:PK} {x:pk.den} {v:Value} {bs:List Nat},o9 P w ro pr pk x v bs->o9 P w ro' O pk x v bs
 |.rd _,_,_,_,⟨e,M,z,H⟩=>⟨e,M,z,H.mono y⟩
 |.own _,_,_,_,⟨M,z,H⟩=>⟨M,z,H.mono y⟩
 |.io _,_,_,_,⟨M,z,H⟩=>⟨M,z,H.mono y⟩
 |.rref _,_,_,_,⟨e,h⟩=>⟨e,h.carry (λk I=>⟨y k I,rfl⟩) (λk I=>⟨J k I,rfl⟩)⟩
 |.rref2 _,_,_,_,⟨e,h⟩=>⟨e,h.carry (λk I=>⟨y k I,rfl⟩) (λk I=>⟨J k I,rfl⟩)⟩
 |.iop _,_,_,_,⟨g,c,E,X,z,H,Y,Z⟩=>⟨g,c,E,X,z,H,Y.mono y,Z⟩
 |.fn _ _,_,_,_,⟨e,h⟩=>⟨e,iQ.mono J h⟩
 |.clo _ _,_,_,_,⟨e,us,z,H⟩=>⟨e,us,z,H.carry (λk I=>⟨y k I,rfl⟩) (λk I=>⟨J k I,rfl⟩)⟩
 |.hol _ _ _,_,_,_,⟨M,u,X,b1,E,e,xs,z,H,Y,Z,h5,h6⟩=>⟨M,u,X,b1,E,e,xs,z,H.mono y,Y,Z,h5.carry y (λ_ _=>rfl) (λ_ _=>rfl),h6⟩
theorem dp.mono {w:World}{ro ro' pr I:Nat->Prop}(H:∀ k,ro k->ro' k)(z:∀ k,pr k->I k):∀ {ps:List PK} {x:ab ps} {M:List Value} {u:List (List Nat)},dp P w ro pr ps x M u->dp P w ro' I ps x M u
 |[],_,_,_,h=>h
 |_::_,_,_,_,⟨v,J,b,y,O,X,Y,Z⟩=>⟨v,J,b,y,O,X,Y.mono H z,dp.mono H z Z⟩
def kw (V:Env)(W:Wit)(st:St)(ks:List (Nat×Nat))(u:List Nat)(k:Nat):Prop:=W.nw k\/V.prot k\/(∃ b∈u,live st b/\W.β b=k)\/∃ x∈ks,k∈W.bs x.1 x.2
theorem lE {W:Wit}{y z:List (Nat×Nat)}{H I:List Nat}(h:∀ x∈y,x∈z)(M:∀ b∈H,b∈I):∀ k,kw V W st y H k->kw V W st z I k:=by
 rintro k (u|u|⟨b,J,u⟩|⟨x,O,u⟩)
 ·exact .inl u
 ·exact .inr (.inl u)
 ·exact .inr (.inr (.inl ⟨b,M b J,u⟩))
 ·exact .inr (.inr (.inr ⟨x,h x O,u⟩))
theorem jE {W:Wit}{p q:Bool}{y z:List (Nat×Nat)}(H:p=true->q=true)(h:∀ x∈y,x∈z):∀ k,br V W p y k->br V W q z k:=by
 rintro k (u|⟨x,I,u⟩)
 ·exact .inl (b8 (W':=W) H (λ_ h=>h) k u)
 ·exact .inr ⟨x,h x I,u⟩
theorem ic {agg:Bool}{v:Value}{cs:List Value}(h:eK (bk agg) v cs):dr agg v cs:=by
 cases agg <;> exact h
theorem ot {W:Wit}{a:Act}{w:World}(h:ap P V W st a w){l:Leaf}{ls:List Leaf}{v:Value}(hl:aM P V W st w [] l v)(y:target st l=some ls)(ks:List (Nat×Nat))(O:List Nat)(M:∀ b∈fK [l],b∈O) :
  ∃ g o cs,v=.pointer (some ⟨g,o,none⟩)/\kw V W st ks O g/\aG P V W st w ls cs/\dg w g o cs:=by
 unfold target at y;split at y
 ·rename_i b;cases Y:decide ((st b).sh=.agg) with
  |false=>simp[Y]at y
  |true =>
   simp only[Y,cond_true,FJ]at y;subst y;obtain⟨hB,J,z⟩:=hl;rcases h.boxes b hB with ⟨X,_⟩|⟨_,E,X⟩
   ·rw[J]at X;cases X
   ·exact⟨W.β b,0,W.cs b,z,.inr (.inr (.inl ⟨b,M b (by simp[fK]),⟨hB,J⟩,rfl⟩)),jf h b,λi v z=>by
     rw[GY,cell_of_row w (W.β b) i _ E (0,0) X];simpa using z⟩
 ·rename_i p a x;simp only[FJ]at y;subst y;obtain⟨g,Z,c,z,hg,I,hc⟩:=hl;rw[GN]at z;exact⟨g,Z,c,z,hg.elim .inl (λh=>.inr (.inl h)),fC (λ_ h=>h) I,hc⟩
 ·rename_i p a x;simp only[FJ]at y;subst y;obtain⟨b,ob,g,Z,c,z,Y,H,hg,I,hc⟩:=hl;refine⟨b,ob,[.pointer (some ⟨g,Z,none⟩)],z,Y.elim .inl (λh=>.inr (.inl h)),⟨⟨⟨g,Z,c,rfl,hg,I,hc⟩,id,rfl⟩,trivial⟩,λi u hi=>?_⟩;cases i with
  |zero=>simp at hi;subst hi;exact H
  |succ i=>simp at hi
 ·cases y
theorem iy {W:Wit}{w:World}{x:aK×List Leaf}{l:Leaf}{v:Value}{cs:List Value}(y:eK x.1 v cs)(z:aG P V W st w x.2 cs)(u:cD x=l)(H:l≠.dead) :
  aM P V W st w [] l v/\v.oneCell'=true:=by
 unfold cD at u;split at u
 ·rename_i I;subst u;have y:cs=[v]:=y;subst y;exact⟨z.1.1,z.1.2.2⟩
 ·exact absurd u.symm H
theorem ou {W:Wit}{a:Act}{w:World}(h:ap P V W st a w){c:Bool×Ty}{l:Leaf}{v:Value}(hl:aM P V W st w [] l v){g:Got c.2.den}(H:fN st c l=some g) :
  iw w (br V W g.p g.frz) (kw V W st g.frz g.see) c.1 c.2 g.val v/\(∀ z∈g.frz,aF st z)/\g.kill=[]/\g.lend=[]:=by
 unfold fN at H;cases hc:c.1 with
 |true =>
  rw[hc]at H;simp only[cond_true]at H;split at H
  ·rename_i l' ht;split at H
   ·rename_i Z a3;simp only[FK]at H;obtain⟨⟨p,y⟩,hy,rfl⟩:=H;obtain⟨g,o',cs,hv,Y,I,X⟩:=ot h hl ht (bE st Z) (fK [l,l']) (λb M=>by
     cases l <;> simp[fK]at M ⊢ <;> exact .inl M)
    match cs,I with
    |[u],I =>
     obtain⟨g2,o2,a0,a4,a2,O,a1⟩:=ot h I.1.1 a3 (bE st Z) (fK [l,l']) (λb M=>by
      cases l <;> cases l' <;> simp[fK]at M ⊢ <;> first|exact M|exact .inr M)
     have J:=X 0 u rfl;rw[GN,a4]at J;refine⟨?_,λz hz=>eO O hz,rfl,rfl⟩;unfold iw;rw[if_pos rfl];exact⟨g,o',g2,o2,a0,hv,Y,J,a2,eX h O hy,a1⟩
   ·cases H
  ·cases H
 |false =>
  rw[hc]at H;simp only[cond_false]at H;split at H
  ·rename_i Z ht;simp only[FK]at H;obtain⟨⟨p,y⟩,hy,rfl⟩:=H;obtain⟨g,o',cs,hv,Y,I,X⟩:=ot h hl ht (bE st Z) (fK [l]) (λb M=>M);refine⟨?_,λz hz=>eO I hz,rfl,rfl⟩;unfold iw;rw[if_neg (by simp)];exact⟨g,o',cs,hv,Y,eX h I hy,X⟩
  ·cases H
theorem nm {W:Wit}{a:Act}{w:World}(h:ap P V W st a w):∀ {cs:List (Bool×Ty)} {ls:List Leaf} {us:List Value} {g:Got (mC cs)},aG P V W st w ls us->cM st cs ls=some g ->
  km w (br V W g.p g.frz) (kw V W st g.frz g.see) cs g.val us/\(∀ z∈g.frz,aF st z)/\g.kill=[]/\g.lend=[]
 |[],[],us,g,J,y=>by
  simp only[cM,FJ]at y;subst y;cases us with
  |nil=>exact⟨rfl,by simp,rfl,rfl⟩
  |cons=>exact J.elim
 |[],_::_,_,_,_,y=>by simp[cM]at y
 |_::_,[],_,_,_,y=>by simp[cM]at y
 |c::cs,l::ls,us,g,J,y=>by
  cases us with
  |nil=>exact J.elim
  |cons u us =>
   simp only[cM]at y;split at y
   ·rename_i g1 M;split at y
    ·rename_i g2 O;simp only[FJ]at y;subst y;obtain⟨X,Y,h3,h4⟩:=ou h J.1.1 M;obtain⟨Z,h6,h7,h8⟩:=nm h J.2 O;refine⟨⟨u,us,rfl,X.carry (λk I=>⟨jE (by intro h;simp[h]) (λx H=>FS _ H) k I,rfl⟩) (λk I=>⟨lE (λx H=>FS _ H) (λx H=>FS _ H) k I,rfl⟩),
      Z.carry (λk I=>⟨jE (by intro h;simp[h]) (λx H=>FN _ H) k I,rfl⟩) (λk I=>⟨lE (λx H=>FN _ H) (λx H=>FN _ H) k I,rfl⟩)⟩,?_,rfl,rfl⟩
     intro z hz;exact (FU.1 hz).elim (Y z) (h6 z)
    ·cases y
   ·cases y
theorem xJ {W:Wit}{w:World}{c:Bool×Bool×(a:Ty)×a.den}{v:Value}(h:jt V W w c v):aM P V W st w [] (fm c) v/\¬ ao (fm c)/\v.oneCell'=true:=by
 unfold jt at h;unfold fm;split at h
 ·rename_i u;rw[u];refine⟨h,id,?_⟩;obtain⟨b,I,g,H,z,y,_⟩:=h;rw[y];rfl
 ·rename_i u;have u:c.2.1=false:=by simpa using u
  rw[u];refine⟨h,id,?_⟩;obtain⟨g,H,z,y,_⟩:=h;rw[y];rfl
theorem rW {W:Wit}{w:World}{caps:List (Bool×Bool×(a:Ty)×a.den)}{us:List Value}(I:us.length=caps.length)(h:∀ (i:Nat) (c:Bool×Bool×(a:Ty)×a.den) (u:Value),caps[i]?=some c->us[i]?=some u->jt V W w c u) :
  aG P V W st w (caps.map fm) us :=
 aG.mk (by simp[I]) λj l v y z=>by
  rw[List.getElem?_map,FK]at y;obtain⟨c,H,rfl⟩:=y;exact xJ (h j c v H z)
theorem re {W:Wit}{w:World}:∀ (caps:List Nat),(∀ b∈caps,B0<=b/\(st b).sh=.agg)->aG P V W st w (caps.map λb=>Leaf.bp b 0) (caps.map λb=>Value.pointer (some ⟨W.β b,0,none⟩))
 |[],_=>trivial
 |b::caps,h=>⟨⟨⟨(h b (F5 ..)).1,(h b (F5 ..)).2,rfl⟩,id,rfl⟩,re caps (λq u=>h q (FY _ u))⟩
theorem ov {off:Nat}{E:TypeId}{e:Ty}{X:List e.den}:∀ {a:Ty} {pos:Nat} {x z:a.den},bT off E e X a pos x=some z->(∃ H,bh off a pos x=some ⟨E,e,H⟩)/\bh off a pos z=some ⟨E,e,X⟩
 |.pair a b,pos,x,z,h=>by
  simp only[bT]at h;split at h
  ·rename_i u J;simp only[FJ]at h;subst h;obtain⟨⟨H,M⟩,O⟩:=ov J;exact⟨⟨H,by simp only[bh,M]⟩,by simp only[bh,O]⟩
  ·rename_i hn;simp only[FK]at h;obtain⟨u,J,rfl⟩:=h;have Z:=Mx.back.set_in J;obtain⟨⟨H,M⟩,O⟩:=ov J;have y:bh off a pos x.1=none:=by
    cases Y:bh off a pos x.1 with
    |none=>rfl
    |some u=>have:=ia Y;omega
   exact⟨⟨H,by simp only[bh,y,M]⟩,by simp only[bh,y,O]⟩
 |.list m E' e',pos,xs,z,h=>by
  simp only[bT]at h;cases I:m&&F2 pos off with
  |false=>simp[I]at h
  |true =>
   rw[I]at h;simp only[cond_true]at h;obtain⟨rfl,rfl,rfl⟩:=kq h;exact⟨⟨xs,by simp[bh,I]⟩,by simp[bh,I]⟩
 |.int _,_,_,_,h=>by simp[bT]at h
 |.bool,_,_,_,h=>by simp[bT]at h
 |.str,_,_,_,h=>by simp[bT]at h
 |.unit,_,_,_,h=>by simp[bT]at h
 |.hdr,_,_,_,h=>by simp[bT]at h
theorem Mx.refill {w:World}{G:Nat->Prop}{off:Nat}{E:TypeId}{e:Ty}{ys:List e.den}{u:Value}(Y:u.oneCell'=true):∀ {a:Ty} {pos:Nat} {x z:a.den} {cs:List Value} {bs:List Nat},Mx w G a (some off) pos x cs bs->bT off E e ys a pos x=some z ->
  Mx w G a (some off) pos z (cs.set (off-pos) u) bs
 |.pair a b,pos,x,z,cs,bs,⟨c1,c2,Z,b2,e1,e2,M,O⟩,h=>by
  have hl:=M.len;simp only[bT]at h;split at h
  ·rename_i y J;simp only[FJ]at h;subst h;have X:=Mx.back.set_in J;refine⟨c1.set (off-pos) u,c2,Z,b2,?_,e2,Mx.refill Y M J,O⟩;rw[e1,List.set_append_left _ _ (by omega)]
  ·simp only[FK]at h;obtain⟨y,J,rfl⟩:=h;have X:=Mx.back.set_in J;refine⟨c1,c2.set (off-(pos+a.cells)) u,Z,b2,?_,e2,M,Mx.refill Y O J⟩;rw[e1,List.set_append_right _ _ (by omega),hl,show off-pos-a.cells=off-(pos+a.cells) by omega]
 |.list m E' e',pos,xs,z,cs,bs,H,h=>by
  simp only[bT]at h;cases I:m&&F2 pos off with
  |false=>simp[I]at h
  |true =>
   simp only[FL]at I;obtain⟨rfl,I⟩:=I;have I:=FR I;subst I;rw[jJ]at H ⊢;obtain⟨v,rfl,M,O⟩:=H;exact⟨u,by simp,Y,O⟩
 |.int _,_,_,_,_,_,_,h=>by simp[bT]at h
 |.bool,_,_,_,_,_,_,h=>by simp[bT]at h
 |.str,_,_,_,_,_,_,h=>by simp[bT]at h
 |.unit,_,_,_,_,_,_,h=>by simp[bT]at h
 |.hdr,_,_,_,_,_,_,h=>by simp[bT]at h
theorem aG.setNil {W:Wit}{w:World}{ls:List Leaf}{cs:List Value}(I:aG P V W st w ls cs)(c:Nat):aG P V W st w (aV ls c .nil) (cs.set c (.slice none 0 0)):=by
 have y:=I.length;refine aG.mk (by simp[aV,y]) λj l v z u=>?_
 rcases aU _ _ _ _ _ z with ⟨rfl,rfl,J⟩|⟨H,z⟩
 ·rw[Ge (by omega)]at u;simp only[FJ]at u;subst u;exact⟨rfl,id,rfl⟩
 ·rw[GW (GX H)]at u;exact I.at_ j l v z u
def xK (P:Program)(V:Env)(W:Wit)(st:St)(w:World)(pk:PK)(v:Value)(g:Got pk.den):Prop :=
 (∃ u,o9 P w (br V W g.p g.frz) (kw V W st g.frz g.see) pk g.val v u/\u=g.lend.map W.β++aZ W g.kill)/\(∀ z∈g.frz,aF st z)/\(∀ z∈g.kill,aF st z)/\(∀ b∈g.lend,live st b)
theorem ox (hV:aA V){W:Wit}{a:Act}{w:World}(h:ap P V W st a w){pk:PK}{x:aK×List Leaf}{v:Value}{cs:List Value}(hs:eK x.1 v cs)(hl:aG P V W st w x.2 cs)
  {g:Got pk.den} (u:bj st pk x=some g):xK P V W st w pk v g:=by
 obtain⟨sh,ls⟩:=x;have Y:∀ {b:Ty} {g:Got b.den},(bif decide (sh=bk b.isAgg) then (cr st b ls).map (λt=>(⟨t.p,t.val,t.frz,t.kill,[],[]⟩:Got b.den)) else none)=some g ->
   (∃ cs,dr b.isAgg v cs/\Mx w (br V W g.p g.frz) b none 0 g.val cs (aZ W g.kill))/\g.lend=[]/\g.see=[]/\(∀ z∈g.frz,aF st z)/\(∀ z∈g.kill,aF st z):=by
  intro b g hq;cases I:decide (sh=bk b.isAgg) with
  |false=>simp[I]at hq
  |true =>
   rw[I]at hq;simp only[cond_true,FK]at hq;have X:=of_decide_eq_true I;subst X;obtain⟨t,ht,rfl⟩:=hq;obtain⟨M,J,O⟩:=dZ (pos:=0) h hl ht;exact⟨⟨cs,ic hs,M⟩,rfl,rfl,J,O⟩
 cases pk with
 |rd b =>
  simp only[bj]at u;cases I:decide (sh=bk b.isAgg) with
  |false=>simp[I]at u
  |true =>
   rw[I]at u;simp only[cond_true,FK]at u;have X:=of_decide_eq_true I;subst X;obtain⟨⟨p,y⟩,hy,rfl⟩:=u;exact⟨⟨[],⟨rfl,cs,ic hs,eX h hl hy⟩,rfl⟩,λz hz=>eO hl hz,by simp[Got.ofRd],by simp[Got.ofRd]⟩
 |own b =>
  obtain⟨M,J,O,Z,h5⟩:=Y u;exact⟨⟨_,M,by rw[J];rfl⟩,Z,h5,by rw[J];simp⟩
 |io b =>
  obtain⟨M,J,O,Z,h5⟩:=Y u;exact⟨⟨_,M,by rw[J];rfl⟩,Z,h5,by rw[J];simp⟩
 |iop b =>
  simp only[bj]at u;split at u
  ·rename_i q hx;cases I:decide ((st q).sh=.agg) with
   |false=>simp[I]at u
   |true =>
    simp only[I,cond_true,FK]at u;obtain⟨t,ht,rfl⟩:=u;obtain⟨H,hv⟩:=iy hs hl hx (by simp);obtain⟨hB,a3,az⟩:=H;rcases h.boxes q hB with ⟨h8,_⟩|⟨_,E,h8⟩
    ·rw[a3]at h8;cases h8
    ·obtain⟨M,J,O⟩:=dZ (pos:=0) h (jf h q) ht;exact⟨⟨_,⟨W.β q,W.cs q,E,_,az,h8,M,rfl⟩,rfl⟩,J,O,λb' X=>by simp at X;subst X;exact⟨hB,a3⟩⟩
  ·cases u
 |rref b =>
  simp only[bj]at u;have hd:cD (sh,ls)≠.dead:=by
   intro e;rw[e]at u;simp[fN,target]at u
  obtain⟨H,hv⟩:=iy hs hl rfl hd;obtain⟨M,J,O,Z⟩:=ou (c:=(false,b)) h H u;exact⟨⟨[],⟨rfl,M⟩,by rw[O,Z];rfl⟩,J,by rw[O];simp,by rw[Z];simp⟩
 |rref2 b =>
  simp only[bj]at u;have hd:cD (sh,ls)≠.dead:=by
   intro e;rw[e]at u;simp[fN,target]at u
  obtain⟨H,hv⟩:=iy hs hl rfl hd;obtain⟨M,J,O,Z⟩:=ou (c:=(true,b)) h H u;exact⟨⟨[],⟨rfl,M⟩,by rw[O,Z];rfl⟩,J,by rw[O];simp,by rw[Z];simp⟩
 |fn As B =>
  simp only[bj]at u;split at u
  ·rename_i As' B' φ hx;obtain⟨H,hv⟩:=iy hs hl hx (by simp);split at u
   ·rename_i hh;obtain⟨rfl,rfl⟩:=hh;simp only[FJ]at u;subst u;have hf:iQ P V.w0 V.prot As' B' φ v:=H;exact⟨⟨[],⟨rfl,iQ.move h.size (λk hk=>⟨.inr (.inl hk),h.keep k hk⟩) hf⟩,rfl⟩,by simp,by simp,by simp⟩
   ·cases u
  ·cases u
 |clo f b4 =>
  simp only[bj]at u;split at u
  ·rename_i f' a2 hx;cases I:F2 f' f with
   |false=>simp[I]at u
   |true =>
    simp only[I,cond_true]at u;have I:=FR I;subst I;obtain⟨H,hv⟩:=iy hs hl hx (by simp);obtain⟨M,J⟩:=H;obtain⟨O,Z,h5,h6⟩:=nm h (re a2 J) u;exact⟨⟨[],⟨rfl,_,M,O⟩,by rw[h5,h6];rfl⟩,Z,by rw[h5];simp,by rw[h6];simp⟩
  ·rename_i f' a2 hx;cases I:F2 f' f with
   |false=>simp[I]at u
   |true =>
    simp only[I,cond_true]at u;have I:=FR I;subst I;obtain⟨H,hv⟩:=iy hs hl hx (by simp);obtain⟨us,M,J,h7⟩:=H;obtain⟨O,Z,h5,h6⟩:=nm h (rW J h7) u;exact⟨⟨[],⟨rfl,us,M,O⟩,by rw[h5,h6];rfl⟩,Z,by rw[h5];simp,by rw[h6];simp⟩
  ·cases u
 |hol b c off =>
  simp only[bj]at u;cases I:decide (sh=bk b.isAgg) with
  |false=>simp[I]at u
  |true =>
   rw[I]at u;simp only[cond_true]at u;have X:=of_decide_eq_true I;subst X;split at u
   ·rename_i r' j n a0;split at u
    ·rename_i p i o' E e xs hd;cases a1:F2 o' off with
     |false=>simp[a1]at u
     |true =>
      rw[a1]at u;simp only[cond_true]at u;have a1:=FR a1;subst a1;split at u
      ·rename_i t ht;split at u
       ·rename_i y hy;simp only[FJ]at u;subst u;have a5:ls[c]?=some (.al r' j n):=by
         rw[GM]at a0;cases hq:ls[c]? with
         |none=>rw[hq]at a0;simp at a0
         |some l0=>rw[hq]at a0;simp at a0;rw[a0]
        have a6:c<cs.length:=by rw[<- hl.length];exact (FM.1 a5).1
        have a4:=F1 a6;obtain⟨H,_,a7⟩:=hl.at_ c _ _ a5 a4;obtain⟨_,aw,ay,_⟩:=kX h hd H;obtain⟨M,J,O⟩:=dZ (pos:=0) h (hl.setNil c) ht;obtain⟨⟨b5,a9⟩,ad⟩:=ov hy;obtain⟨v0,bn,b0,g1,g2,g3,g4⟩:=M.out a9;have a8:bn=[]:=by
         simp only[Gz,Ge a6,FJ]at g2;obtain⟨b1,b2,q1,q2,_⟩:=g1;obtain⟨A,b3,q4,_⟩:=q1.slice;rw[<- g2]at q2 q4;simp only[GF]at q4;rw[q2,<- q4.2.1];rfl
        have g5:=Mx.refill a7 g3 hy;simp only[Gz,List.set_set,List.set_getElem_self]at g5;refine⟨⟨_,⟨cs,cs[c],b0,W.bs r' j,E,e,xs,ic hs,g5.mono (jE (by intro h;simp[h]) (λ_ h=>h)),a4,ad,
         aw.2.carry (λk hk=>.inl (b8 (W':=W) (by intro h;simp[h]) (λ_ h=>h) k hk)) (λ_ _=>rfl) (λ_ _=>rfl),λk=>?_⟩,rfl⟩,J,?_,by simp⟩
        ·have:=g4 k;rw[a8]at this;simp only[HI,He];rw[show aZ W ((r',j)::t.kill)=W.bs r' j++aZ W t.kill from rfl,FO,this];simp;omega
        ·intro z hz;rcases GZ.1 hz with rfl|hz
         ·exact⟨_,ay,trivial⟩
         ·exact O z hz
       ·cases u
      ·cases u
    ·cases u
   ·cases u
end
section
variable {P:Program} {V:Env} {Γ:List Ctr} {T:TypeId->TI} {st:St} {o:Oper} {R:Type} {κ:Upd->Option R} {r:R}
def iB (P:Program)(V:Env)(W:Wit)(st:St)(w:World):List (aK×List Leaf)->List Value->Prop
 |[],y=>y=[]
 |x::H,y=>∃ v u z,y=v::u/\eK x.1 v z/\aG P V W st w x.2 z/\iB P V W st w H u
theorem lj {W:Wit}{w:World}{ga:(pk:PK)->aK×List Leaf->Option (Got pk.den)}
  (H:∀ (pk:PK) (x:aK×List Leaf) (v:Value) (cs:List Value) (g:Got pk.den),eK x.1 v cs->aG P V W st w x.2 cs->ga pk x=some g->xK P V W st w pk v g) :
  ∀ (ps:List PK) (xs:List (aK×List Leaf)) (X:List Value) (g:Got (ab ps)),iB P V W st w xs X->bf ga ps xs=some g ->
   (∃ I,dp P w (br V W g.p g.frz) (kw V W st g.frz g.see) ps g.val X I/\∀ k,I.flatten.count k=(g.lend.map W.β).count k+(aZ W g.kill).count k) /\
    (∀ z∈g.frz,aF st z)/\(∀ z∈g.kill,aF st z)/\(∀ b∈g.lend,live st b)
 |[],[],X,g,u,y=>by
  simp only[bf,FJ]at y;subst y;exact⟨⟨[],⟨u,rfl⟩,λk=>by simp[aZ]⟩,by simp,by simp,by simp⟩
 |[],_::_,_,_,_,y=>by simp[bf]at y
 |_::_,[],_,_,_,y=>by simp[bf]at y
 |p::ps,x::xs,X,g,u,y=>by
  obtain⟨v,O,cs,rfl,hs,hl,J⟩:=u;simp only[bf]at y;split at y
  ·rename_i g1 Z;split at y
   ·rename_i g2 a0;simp only[FJ]at y;subst y;obtain⟨⟨b,h1,h2⟩,h3,h4,h5⟩:=H p x v cs g1 hs hl Z;obtain⟨⟨I,h6,h7⟩,h8,h9,Y⟩:=lj H ps xs O g2 J a0;refine⟨⟨b::I,⟨v,O,b,I,rfl,rfl,h1.mono (jE (by intro h;simp[h]) (λx u=>FS _ u)) (lE (λx u=>FS _ u) (λx u=>FS _ u)),
     h6.mono (jE (by intro h;simp[h]) (λx u=>FN _ u)) (lE (λx u=>FN _ u) (λx u=>FN _ u))⟩,λk=>?_⟩,?_,?_,?_⟩
    ·rw[F6,FO,h7 k,h2,FO,Ha,FO,dV,FO];omega
    ·intro z M;exact (FU.1 M).elim (h3 z) (h8 z)
    ·intro z M;exact (FU.1 M).elim (h4 z) (h9 z)
    ·intro z M;exact (FU.1 M).elim (h5 z) (Y z)
   ·cases y
  ·cases y
theorem oy:∀ {Γ:List Ctr} {f:FuncId} {c:Ctr},mD Γ f=some c->c∈Γ/\c.f=f
 |[],_,_,h=>by simp[mD]at h
 |y::Γ,f,c,h=>by
  simp only[mD]at h;cases u:F2 y.f f with
  |true =>
   simp only[u,cond_true,FJ]at h;subst h;exact⟨F5 ..,FR u⟩
  |false =>
   simp only[u,cond_false]at h;obtain⟨z,H⟩:=oy h;exact⟨FY _ z,H⟩
theorem uO {w:World}{G pr:Nat->Prop}{q:List PK}{z:ab q}{cv:List Value}{y:List (List Nat)}(I:dp P w G pr q z cv y):∀ (u:List Ty) (x:Tup u) (args:List Value),tz w G u x args ->
  dp P w G pr (u.map .rd++q) (oS q z u x) (args++cv) (u.map (λ_=>[])++y)
 |[],_,_,h=>by rw[show _=_ from h];exact I
 |a::u,x,_,⟨v,c,H,rfl,J,M,O⟩=>⟨v,H++cv,[],_,rfl,rfl,⟨rfl,c,J,M⟩,uO I u x.2 H O⟩
theorem rg {w:World}{ro pr:Nat->Prop}:∀ {ps:List PK} {x:ab ps} {I:List Value} {u:List (List Nat)},ps.all PK.reads=true->dp P w ro pr ps x I u->u.flatten=[]
 |[],_,_,_,_,⟨_,e⟩=>by rw[e];rfl
 |p::ps,_,_,_,h,⟨v,J,b,y,_,e,z,H⟩=>by
  simp only[HF,FL]at h;rw[e,F6,rg h.2 H,F9];cases p <;> first|exact z.1|simp[PK.reads]at h
theorem rh {w w1:World}{ro pr ro' J:Nat->Prop}(u:∀ k,ro k->ro' k/\w1.heap[k]?=w.heap[k]?)(y:∀ k,pr k->J k/\w1.heap[k]?=w.heap[k]?):∀ {ps:List PK} {x:ab ps} {Y:List Value} {z:List (List Nat)},
  ps.all PK.reads=true->dp P w ro pr ps x Y z->dp P w1 ro' J ps x Y z
 |[],_,_,_,_,h=>h
 |p::ps,x,_,_,O,⟨v,X,b,H,e,e2,I,h2⟩=>by
  simp only[HF,FL]at O;refine⟨v,X,b,H,e,e2,?_,rh u y O.2 h2⟩;cases p with
  |rd a =>
   obtain⟨h0,Z,h3,h4⟩:=I;exact⟨h0,Z,h3,h4.carry (λk M=>(u k M).1) (λk M=>(u k M).2)⟩
  |rref a=>exact⟨I.1,I.2.carry u y⟩
  |rref2 a=>exact⟨I.1,I.2.carry u y⟩
  |_=>simp[PK.reads]at O
theorem nn (z:aA V){W:Wit}{p:Bool}{ks:List (Nat×Nat)}{y:List Nat}:∀ k,br V W p ks k->kw V W st ks y k:=by
 rintro k ((u|⟨_,u⟩)|u)
 ·exact .inl u
 ·exact .inr (.inl (z.ro k u))
 ·exact .inr (.inr (.inr u))
theorem sN {W:Wit}{ks:List (Nat×Nat)}{H:List Nat}(y:∀ z∈ks,aF st z):∀ k,kw V W st ks H k->cq V W st k:=by
 rintro k (u|u|⟨b,_,M,e⟩|⟨x,O,u⟩)
 ·exact .inl u
 ·exact .inr (.inl u)
 ·exact .inr (.inr (.inl ⟨b,M,e⟩))
 ·obtain⟨l,I,J⟩:=y x O;exact .inr (.inr (.inr ⟨x.1,x.2,l,I,J,u⟩))
theorem tG {W:Wit}{w:World}:∀ {ls:List Leaf} {us:List Value},aG P V W st w ls us->iB P V W st w (ls.map λl=>(aK.one,[l])) us
 |[],[],_=>rfl
 |_::_,_::_,h=>⟨_,_,[_],rfl,rfl,⟨h.1,trivial⟩,tG h.2⟩
theorem zv (hV:aA V)(hΓ:∀ c∈Γ,bI P c){W:Wit}{a:Act}{w:World}(h:ap P V W st a w){O:List Ty}{B:Ty}{f:FuncId}{ls:List Leaf}{us:List Value}{v:Value}(hv:v=.func (.func f) #[] us.toArray)(b4:aG P V W st w ls us)
  {g:Got (Tup O->Option B.den)} (H:lm Γ st O B f ls=some g):iQ P w (kw V W st g.frz g.see) O B g.val v/\(∀ z∈g.frz,aF st z)/\g.kill=[]/\g.lend=[]:=by
 unfold lm at H;split at H
 ·rename_i c hc;obtain⟨a9,rfl⟩:=oy hc;obtain⟨a1,M⟩:=hΓ c a9;obtain⟨f',ps,rs,a3,bn⟩:=c;simp only at H a1 M hv;generalize ps.drop O.length=q at H;unfold tu at H;split at H
  ·rename_i hh;obtain⟨rfl,rfl⟩:=hh;cases hb:q.all PK.reads&&B.flat&&a3 with
   |false=>simp[hb]at H
   |true =>
    simp only[hb,cond_true]at H;simp only[FL]at hb;obtain⟨⟨a7,b0⟩,b1⟩:=hb;subst b1;split at H
    ·rename_i g0 b3;simp only[FJ]at H;subst H;obtain⟨⟨a2,h1,h2⟩,h3,h4,h5⟩:=lj (λpk x v cs g hs hl H=>ox hV h hs hl H) q _ _ g0 (tG b4) b3;have az:=rg a7 h1;refine⟨⟨f',us.toArray,hv,a1,λw1 b9 Z x I y hx hy=>?_⟩,h3,rfl,rfl⟩;simp only[FK]at hy;obtain⟨y0,ay,rfl⟩:=hy;have J:(O.map (λ_=>([]:List Nat))++a2).flatten=[]:=by
      rw[List.flatten_append,az,F9];clear hx ay;induction O with
      |nil=>rfl
      |cons a O ih=>simp
     have a8:∀ k,kw V W st g0.frz g0.see k->k<w1.heap.size:=λk X=>GR (h.used_lt k (sN h3 k X)) b9
     have a4:=uO (P:=P) (pr:=λk=>k<w1.heap.size/\k∉(O.map (λ_=>([]:List Nat))++a2).flatten)
      (rh (P:=P) (w1:=w1) (ro':=λk=>k<w1.heap.size) (λk X=>⟨a8 k (nn hV k X),Z k (nn hV k X)⟩)
       (λk X=>⟨⟨a8 k X,by rw[J];simp⟩,Z k X⟩) a7 h1) O x I hx
     have a0:=M w1 (λk=>k<w1.heap.size) (oS q g0.val O x) (I++us) (O.map (λ_=>[])++a2) y0 a4
      (λk X=>⟨X,by rw[J];simp⟩) (by rw[J];exact Hf) ay
     have a5:I.toArray++us.toArray=(I++us).toArray:=by simp
     rw[a5];refine a0.mono λe w2 a6=>?_
     obtain⟨u,c1,N,bo,bx,rfl,Y,aw,b5,ba,b6,b2,_,_,ad,_,_⟩:=a6;obtain⟨u1,c0,b,bl,e1,e2,⟨cs,bb,hm⟩,e3,e4⟩:=ad;subst e3;subst e1;have Y:u=u1:=Y;subst Y;exact⟨u,cs,rfl,bb,kL b0 hm,⟨b5,ba,b6,aw,λk X=>b2 k X (by rw[J];simp)⟩⟩
    ·cases H
  ·cases H
 ·cases H
theorem vU (X:aA V)(hΓ:∀ c∈Γ,bI P c){W:Wit}{a:Act}{w:World}(h:ap P V W st a w)(pk:PK)(x:aK×List Leaf)(v:Value)(cs:List Value)(g:Got pk.den)(Z:eK x.1 v cs)(Y:aG P V W st w x.2 cs)
  (H:co Γ st pk x=some g):xK P V W st w pk v g:=by
 cases pk with
 |fn As B =>
  simp only[co]at H;split at H
  ·rename_i O y;have M:(∃ u,cD x=.clo O.1 u/\O.2=u.map λb=>Leaf.bp b 0)\/∃ u,cD x=.clr O.1 u/\O.2=u.map fm:=by
    generalize cD x=l at y;cases l <;> simp only[wQ,FJ,reduceCtorEq]at y
    ·subst y;exact .inl ⟨_,rfl,rfl⟩
    ·subst y;exact .inr ⟨_,rfl,rfl⟩
   rcases M with ⟨u,M,he⟩|⟨u,M,he⟩
   ·obtain⟨z,_⟩:=iy Z Y M (by simp);rw[he]at H;obtain⟨h1,h2,I,J⟩:=zv X hΓ h z.1 (re u z.2) H;exact⟨⟨[],⟨rfl,h1⟩,by rw[I,J];rfl⟩,h2,by rw[I];simp,by rw[J];simp⟩
   ·obtain⟨z,_⟩:=iy Z Y M (by simp);rw[he]at H;obtain⟨us,e1,e2,e3⟩:=z;obtain⟨h1,h2,I,J⟩:=zv X hΓ h e1 (rW e2 e3) H;exact⟨⟨[],⟨rfl,h1⟩,by rw[I,J];rfl⟩,h2,by rw[I];simp,by rw[J];simp⟩
  ·exact ox X h Z Y H
 |_=>exact ox X h Z Y H
end
section
variable {P:Program} {V:Env} {W:Wit} {st st':St} {w w':World} {a:Act}
theorem jp {G:Nat->Prop}{p:Bool}(hG:∀ k,G k->gd V W p k):∀ {b:Ty} {pos:Nat} {x:b.den} {cs:List Value} {bs:List Nat},Mx w G b none pos x cs bs->bs.Nodup ->
  ∃ Z:Nat->List Nat,(aq p b x).length=cs.length /\
   (∀ (j:Nat) (l:Leaf) (u:Value),(aq p b x)[j]?=some l->cs[j]?=some u->aM P V W st w (Z j) l u) /\
   (∀ (j:Nat) (l:Leaf),(aq p b x)[j]?=some l->ao l->∀ k∈Z j,k∈bs) /\
   (∀ (j O:Nat) (l l':Leaf),(aq p b x)[j]?=some l->ao l->(aq p b x)[O]?=some l'->ao l'->∀ k,k∈Z j->k∈Z O->j=O)
 |.int k,_,x,cs,bs,H,_=>by
  obtain⟨rfl,rfl⟩:=H;exact⟨λ_=>[],rfl,λj l u y R=>by cases j with|zero=>simp[aq]at y R;subst y;subst R;rfl|succ j=>simp[aq]at y,λj l y _ k r=>by simp at r,λj O l l' _ _ _ _ k r=>by simp at r⟩
 |.bool,_,x,cs,bs,H,_=>by
  obtain⟨rfl,rfl⟩:=H;exact⟨λ_=>[],rfl,λj l u y R=>by cases j with|zero=>simp[aq]at y R;subst y;subst R;rfl|succ j=>simp[aq]at y,λj l y _ k r=>by simp at r,λj O l l' _ _ _ _ k r=>by simp at r⟩
 |.str,_,x,cs,bs,H,_=>by
  obtain⟨rfl,rfl⟩:=H;exact⟨λ_=>[],rfl,λj l u y R=>by cases j with|zero=>simp[aq]at y R;subst y;subst R;rfl|succ j=>simp[aq]at y,λj l y _ k r=>by simp at r,λj O l l' _ _ _ _ k r=>by simp at r⟩
 |.unit,_,x,cs,bs,H,_=>by
  obtain⟨rfl,rfl⟩:=H;exact⟨λ_=>[],rfl,λj l u y R=>by simp[aq]at y,λj l y _ k r=>by simp at r,λj O l l' _ _ _ _ k r=>by simp at r⟩
 |.hdr,_,x,cs,bs,H,_=>by
  obtain⟨⟨A,a2,rfl⟩,rfl⟩:=H;exact⟨λ_=>[],rfl,λj l u y R=>by cases j with|zero=>simp[aq]at y R;subst y;subst R;exact⟨A,a2,rfl⟩|succ j=>simp[aq]at y,λj l y _ k r=>by simp at r,λj O l l' _ _ _ _ k r=>by simp at r⟩
 |.pair b c,pos,x,cs,bs,⟨c1,c2,b1,b2,e1,e2,y,R⟩,Y=>by
  subst e1;subst e2;rw[GO]at Y;obtain⟨d1,f1,f2,f3,f4⟩:=jp hG y Y.1;obtain⟨d2,g1,g2,g3,g4⟩:=jp hG R Y.2.1;have a5:=cR p b x.1;have a4:=y.len;have I:∀ (j:Nat) (l:Leaf),(aq p b x.1++aq p c x.2)[j]?=some l->(j<b.cells/\(aq p b x.1)[j]?=some l)\/(b.cells<=j/\(aq p c x.2)[j-b.cells]?=some l):=by
   intro j l z;by_cases M:j<b.cells
   ·rw[FQ (by omega)]at z;exact .inl ⟨M,z⟩
   ·rw[FP (by omega),a5]at z;exact .inr ⟨by omega,z⟩
  refine⟨λj=>if j<b.cells then d1 j else d2 (j-b.cells),by simp only[aq,F0];omega,λj l u z hu=>?_,λj l z ho k r=>?_,λj O l l' z ho X a0 k r J=>?_⟩
  ·rcases I j l z with ⟨M,z⟩|⟨a3,z⟩
   ·rw[FQ (by omega)]at hu;simp only[if_pos M];exact f2 j l u z hu
   ·rw[FP (by omega),a4]at hu;simp only[if_neg (show ¬ j<b.cells by omega)];exact g2 _ l u z hu
  ·rcases I j l z with ⟨M,z⟩|⟨a3,z⟩
   ·simp only[if_pos M]at r;exact FS _ (f3 j l z ho k r)
   ·simp only[if_neg (show ¬ j<b.cells by omega)]at r;exact FN _ (g3 _ l z ho k r)
  ·rcases I j l z with ⟨M,z⟩|⟨a3,z⟩ <;> rcases I O l' X with ⟨a1,X⟩|⟨a6,X⟩
   ·simp only[if_pos M]at r;simp only[if_pos a1]at J;exact f4 j O l l' z ho X a0 k r J
   ·simp only[if_pos M]at r;simp only[if_neg (show ¬ O<b.cells by omega)]at J;exact absurd rfl (Y.2.2 k (f3 j l z ho k r) k (g3 _ l' X a0 k J))
   ·simp only[if_neg (show ¬ j<b.cells by omega)]at r;simp only[if_pos a1]at J;exact absurd rfl (Y.2.2 k (f3 O l' X a0 k J) k (g3 _ l z ho k r))
   ·simp only[if_neg (show ¬ j<b.cells by omega)]at r;simp only[if_neg (show ¬ O<b.cells by omega)]at J;have:=g4 _ _ l l' z ho X a0 k r J;omega
 |.list m E e,pos,xs,cs,bs,H,Y=>by
  cases m with
  |false =>
   rw[cF]at H;obtain⟨rfl,A,a2,rfl,R,h3⟩:=H;refine⟨λ_=>[],rfl,λj l u y h4=>?_,λj l y _ k r=>by simp at r,λj O l l' _ _ _ _ k r=>by simp at r⟩;cases j with
   |zero =>
    simp[aq]at y h4;subst y;subst h4;exact Rd.mono hG (⟨A,a2,rfl,R,h3⟩:Rd w G (.list false E e) xs _)
   |succ j=>simp[aq]at y
  |true =>
   rw[bF (by simp)]at H;obtain⟨v,rfl,hO⟩:=H;refine⟨λ_=>bs,rfl,λj l u y h4=>?_,λj l y _ k r=>r,λj O l l' y _ h3 _ k _ _=>?_⟩
   ·cases j with
    |zero =>
     simp[aq]at y h4;subst y;subst h4;exact⟨Y,OwB.shy (hO.carry hG (λ_ _=>rfl) (λ_ _=>rfl))⟩
    |succ j=>simp[aq]at y
   ·have h7:j<1:=by simpa[aq]using (FM.1 y).1
    have h8:O<1:=by simpa[aq]using (FM.1 h3).1
    omega
theorem ap.reown (hV:aA V)(h:ap P V W st a w)(r:Nat)(c:b7)(J:Nat->List Nat)(a4:(st r).ver<c.ver)(a2:c.sh=(st r).sh)(X:c.ls.length=(st r).ls.length)
  (a1:∀ (j:Nat) (l:Leaf) (v:Value),c.ls[j]?=some l->(W.cs r)[j]?=some v->aM P V W st w (J j) l v)
  (Z:∀ (j:Nat) (l:Leaf),c.ls[j]?=some l->ao l->∀ k∈J j,¬ W.nw k/\¬ V.prot k/\(∀ b,live st b->W.β b≠k) /\
   ∀ (r1 j1:Nat) (l1:Leaf),r1≠r->(st r1).ls[j1]?=some l1->ao l1->k∉W.bs r1 j1)
  (a3:∀ (j j':Nat) (l l':Leaf),c.ls[j]?=some l->ao l->c.ls[j']?=some l'->ao l'->∀ k,k∈J j->k∈J j'->j=j') :
  ap P V { W with bs:=λr' j=>if r'=r then J j else W.bs r' j } (ac [(r,c)] st) a w:=by
 have I:∀ b,live (ac [(r,c)] st) b<->live st b:=by
  intro b;rcases an r b c st with ⟨rfl,e⟩|⟨_,e⟩
  ·simp[live,e,a2]
  ·simp[live,e]
 have a0:cP V W { W with bs:=λr' j=>if r'=r then J j else W.bs r' j } st (ac [(r,c)] st) w w:=by
  refine⟨λq=>?_,λb R=>⟨(I b).2 R,rfl⟩,λ_ h=>h,λ_ _=>rfl,λ_ q j' l' M h4 h5=>?_⟩
  ·rcases an r q c st with ⟨rfl,e⟩|⟨y,e⟩
   ·rw[e];exact⟨Nat.le_of_lt a4,λ_=>rfl⟩
   ·rw[e];exact⟨F3 _,λ_=>rfl⟩
  ·rcases an r q c st with ⟨rfl,e⟩|⟨y,e⟩
   ·rw[e]at h5;omega
   ·rw[e]at M;exact⟨⟨l',M,h4⟩,by simp[y],λ_ _=>rfl⟩
 exact {
  nt:=h.nt,df:=h.df
  slots:=λt ht=>by
   rcases an r t c st with ⟨rfl,e⟩|⟨_,e⟩
   ·rw[e,a2];exact h.slots t ht
   ·rw[e];exact h.slots t ht
  boxes:=λb R=>by
   rcases an r b c st with ⟨rfl,e⟩|⟨_,e⟩
   ·rw[e,a2];rcases h.boxes b R with ⟨h1,z⟩|h1
    ·refine .inl ⟨h1,?_⟩;rw[z]at X;exact F4 X
    ·exact .inr h1
   ·rw[e];exact h.boxes b R
  len:=λq=>by
   rcases an r q c st with ⟨rfl,e⟩|⟨_,e⟩
   ·rw[e,X];exact h.len q
   ·rw[e];exact h.len q
  one:=h.one
  leaf:=λq j l u z M=>by
   rcases an r q c st with ⟨rfl,e⟩|⟨y,e⟩
   ·rw[e]at z;exact (a1 j l u z M).carry hV.ro a0 (λ_=>⟨by simp,λ_ _=>rfl⟩)
   ·rw[e]at z;exact (h.leaf q j l u z M).carry hV.ro a0 (λ_=>⟨by simp[y],λ_ _=>rfl⟩)
  ownb:=λq j l z M k O=>by
   rcases an r q c st with ⟨rfl,e⟩|⟨y,e⟩
   ·rw[e]at z;simp only[if_true]at O;have:=Z j l z M k O;exact⟨this.1,this.2.1,λb R=>this.2.2.1 b ((I b).1 R)⟩
   ·rw[e]at z;simp only[y,if_false]at O;have:=h.ownb q j l z M k O;exact⟨this.1,this.2.1,λb R=>this.2.2 b ((I b).1 R)⟩
  sep:=λq j l q' j' l' z M h4 h5 k O H=>by
   rcases an r q c st with ⟨e0,e⟩|⟨y,e⟩ <;> rcases an r q' c st with ⟨e1,e'⟩|⟨Y,e'⟩
   ·rw[e]at z;rw[e']at h4;simp only[e0,if_true]at O;simp only[e1,if_true]at H;exact⟨e0.trans e1.symm,a3 j j' l l' z M h4 h5 k O H⟩
   ·rw[e]at z;rw[e']at h4;simp only[e0,if_true]at O;simp only[Y,if_false]at H;exact absurd H ((Z j l z M k O).2.2.2 q' j' l' Y h4 h5)
   ·rw[e]at z;rw[e']at h4;simp only[y,if_false]at O;simp only[e1,if_true]at H;exact absurd O ((Z j' l' h4 h5 k H).2.2.2 q j l y z M)
   ·rw[e]at z;rw[e']at h4;simp only[y,if_false]at O;simp only[Y,if_false]at H;exact h.sep q j l q' j' l' z M h4 h5 k O H
  box:=λb R=>h.box b ((I b).1 R)
  inj:=λb b' R a5=>h.inj b b' ((I b).1 R) ((I b').1 a5)
  nwlt:=h.nwlt
  os:=h.os,tape:=h.tape,output:=h.output,size:=h.size,keep:=h.keep
  fixb:=λx hx=>⟨(I _).2 (h.fixb x hx).1,(h.fixb x hx).2⟩
  fixt:=h.fixt }
theorem ap.reownE (hV:aA V)(h:ap P V W st a w)(r:Nat)(c:b7)(J:Nat->List Nat)(a6:r≠EPO)(a4:(st r).ver<=c.ver)(a7:c.sh=(st r).sh)(a1:c.ls.length=(st r).ls.length)
  (a0:∀ (j:Nat) (l:Leaf) (v:Value),c.ls[j]?=some l->(W.cs r)[j]?=some v->aM P V W st w (J j) l v)
  (X:∀ (j:Nat) (l:Leaf),c.ls[j]?=some l->ao l->∀ k∈J j,¬ W.nw k/\¬ V.prot k/\(∀ b,live st b->W.β b≠k) /\
   ∀ (r1 j1:Nat) (l1:Leaf),r1≠r->(st r1).ls[j1]?=some l1->ao l1->k∉W.bs r1 j1)
  (a3:∀ (j j':Nat) (l l':Leaf),c.ls[j]?=some l->ao l->c.ls[j']?=some l'->ao l'->∀ k,k∈J j->k∈J j'->j=j') :
  ap P V { W with bs:=λr' j=>if r'=r then J j else W.bs r' j } (ac [(r,c),(EPO,ca (st EPO))] st) a w /\
   (∀ q,(ac [(r,c),(EPO,ca (st EPO))] st q).sh=(st q).sh/\(st q).ver<=(ac [(r,c),(EPO,ca (st EPO))] st q).ver/\(q≠r->(ac [(r,c),(EPO,ca (st EPO))] st q).ls=(st q).ls))/\ac [(r,c),(EPO,ca (st EPO))] st r=c:=by
 have e0:ac [(r,c),(EPO,ca (st EPO))] st=ac [(r,c)] (ac [(EPO,ca (st EPO))] st):=aR _ _ _ _;generalize hS:ac [(r,c),(EPO,ca (st EPO))] st=S;rw[e0]at hS;have hr:S r=c:=by rw[<- hS,bm]
 have O:∀ q,(S q).sh=(st q).sh/\(st q).ver<=(S q).ver/\(q≠r->(S q).ls=(st q).ls):=by
  intro q;rw[<- hS];rcases an r q c (ac [(EPO,ca (st EPO))] st) with ⟨rfl,e⟩|⟨a8,e⟩
  ·rw[e];exact⟨a7,a4,λh=>absurd rfl h⟩
  ·rw[e];rcases an EPO q (ca (st EPO)) st with ⟨rfl,e⟩|⟨_,e⟩ <;> rw[e]
   ·exact⟨rfl,HW _,λ_=>rfl⟩
   ·exact⟨rfl,F3 _,λ_=>rfl⟩
 have hE:(st EPO).ver<(S EPO).ver:=by
  rw[<- hS,aL (GX a6),bm];exact FV _
 refine⟨?_,O,hr⟩;have I:∀ b,live S b<->live st b:=λb=>by simp[live,(O b).1]
 have Y:cP V W { W with bs:=λr' j=>if r'=r then J j else W.bs r' j } st S w w :=
  ⟨λq=>⟨(O q).2.1,λ_=>rfl⟩,λb R=>⟨(I b).2 R,rfl⟩,λ_ h=>h,λ_ _=>rfl,λhe=>by omega⟩
 have a2:∀ q,(S q).ls.length=(st q).ls.length:=λq=>by
  by_cases y:q=r
  ·rw[y,hr,a1]
  ·rw[(O q).2.2 y]
 exact {
  nt:=h.nt,df:=h.df
  slots:=λt ht=>by rw[(O t).1];exact h.slots t ht
  boxes:=λb R=>by
   rw[(O b).1];rcases h.boxes b R with ⟨h1,z⟩|h1
   ·refine .inl ⟨h1,F4 ?_⟩;rw[a2,z];rfl
   ·exact .inr h1
  len:=λq=>by rw[a2];exact h.len q
  one:=h.one
  leaf:=λq j l u z Z=>by
   by_cases y:q=r
   ·subst y;rw[hr]at z;exact (a0 j l u z Z).carry hV.ro Y (λ_=>⟨by simp,λ_ _=>rfl⟩)
   ·rw[(O q).2.2 y]at z;exact (h.leaf q j l u z Z).carry hV.ro Y (λ_=>⟨by simp[y],λ_ _=>rfl⟩)
  ownb:=λq j l z Z k M=>by
   by_cases y:q=r
   ·subst y;rw[hr]at z;simp only[if_true]at M;have:=X j l z Z k M;exact⟨this.1,this.2.1,λb R=>this.2.2.1 b ((I b).1 R)⟩
   ·rw[(O q).2.2 y]at z;simp only[y,if_false]at M;have:=h.ownb q j l z Z k M;exact⟨this.1,this.2.1,λb R=>this.2.2 b ((I b).1 R)⟩
  sep:=λq j l q' j' l' z Z h4 h5 k M H=>by
   by_cases e0:q=r <;> by_cases e1:q'=r
   ·subst e0;subst e1;rw[hr]at z h4;simp only[if_true]at M H;exact⟨rfl,a3 j j' l l' z Z h4 h5 k M H⟩
   ·subst e0;rw[hr]at z;rw[(O q').2.2 e1]at h4;simp only[if_true]at M;simp only[e1,if_false]at H;exact absurd H ((X j l z Z k M).2.2.2 q' j' l' e1 h4 h5)
   ·subst e1;rw[(O q).2.2 e0]at z;rw[hr]at h4;simp only[e0,if_false]at M;simp only[if_true]at H;exact absurd M ((X j' l' h4 h5 k H).2.2.2 q j l e0 z Z)
   ·rw[(O q).2.2 e0]at z;rw[(O q').2.2 e1]at h4;simp only[e0,if_false]at M;simp only[e1,if_false]at H;exact h.sep q j l q' j' l' z Z h4 h5 k M H
  box:=λb R=>h.box b ((I b).1 R)
  inj:=λb b' R a5=>h.inj b b' ((I b).1 R) ((I b').1 a5)
  nwlt:=h.nwlt
  os:=h.os,tape:=h.tape,output:=h.output,size:=h.size,keep:=h.keep
  fixb:=λx hx=>⟨(I _).2 (h.fixb x hx).1,(h.fixb x hx).2⟩
  fixt:=h.fixt }
theorem ap.nwGrow (O:aA V)(h:ap P V W st a w)(N:Nat->Prop)(M:∀ k,N k->k<w.heap.size/\¬ cq V W st k):ap P V { W with nw:=λk=>W.nw k\/N k } st a w:=by
 have I:cP V W { W with nw:=λk=>W.nw k\/N k } st st w w:=⟨λr=>⟨F3 _,λ_=>rfl⟩,λb J=>⟨J,rfl⟩,λ_ h=>.inl h,λ_ _=>rfl,λ_ _ _ l y z _=>⟨⟨l,y,z⟩,rfl,λ_ _=>rfl⟩⟩
 exact {
  nt:=h.nt,df:=h.df,slots:=h.slots,boxes:=h.boxes,len:=h.len,one:=h.one
  leaf:=λr j l v y z=>(h.leaf r j l v y z).carry O.ro I (λ_=>⟨rfl,λ_ _=>rfl⟩)
  ownb:=λr j l y z k u=>⟨λH=>H.elim (h.ownb r j l y z k u).1 (λH=>(M k H).2 (.inr (.inr (.inr ⟨r,j,l,y,z,u⟩)))),(h.ownb r j l y z k u).2⟩
  sep:=h.sep
  box:=λb J=>⟨λH=>H.elim (h.box b J).1 (λH=>(M _ H).2 (.inr (.inr (.inl ⟨b,J,rfl⟩)))),(h.box b J).2⟩
  inj:=h.inj
  nwlt:=λk u=>u.elim (h.nwlt k) (λu=>⟨(M k u).1,λR=>(M k u).2 (.inr (.inl R))⟩)
  os:=h.os,tape:=h.tape,output:=h.output,size:=h.size,keep:=h.keep,fixb:=h.fixb,fixt:=h.fixt }
end
def fj:List Leaf->List Leaf->List (Nat×Nat)
 |.al r j _::y,l::u=>(match l with|.own _ _ _ _ _=>[(r,j)]|_=>[])++fj y u
 |_::y,_::u=>fj y u
 |_,_=>[]
section
variable {P:Program} {V:Env} {st st':St} {w w':World} {a:Act}
theorem oz {x l:Leaf}{xs ls:List Leaf}(h:¬ ao l):fj (x::xs) (l::ls)=fj xs ls:=by
 cases x <;> try rfl
 cases l <;> first|exact absurd trivial h|rfl
theorem wB {k:IntKind}{ls:List Leaf}{x:Bool×(Ty.int k).den×List Leaf}(h:be st (.int k) ls=some x):∃ l,ls=l::x.2.2:=by
 simp only[be]at h;split at h
 ·split at h
  ·simp only[FJ]at h;subst h;exact⟨_,rfl⟩
  ·cases h
 ·cases h
theorem uP {ls:List Leaf}{x:Bool×Ty.bool.den×List Leaf}(h:be st .bool ls=some x):∃ l,ls=l::x.2.2:=by
 simp only[be]at h;split at h
 ·simp only[FJ]at h;subst h;exact⟨_,rfl⟩
 ·cases h
theorem wC {ls:List Leaf}{x:Bool×Ty.str.den×List Leaf}(h:be st .str ls=some x):∃ l,ls=l::x.2.2:=by
 simp only[be]at h;split at h
 ·simp only[FJ]at h;subst h;exact⟨_,rfl⟩
 ·cases h
theorem wD {ls:List Leaf}{x:Bool×Ty.hdr.den×List Leaf}(h:be st .hdr ls=some x):∃ l,ls=l::x.2.2:=by
 simp only[be]at h;split at h
 ·split at h
  ·simp only[FJ]at h;subst h;exact⟨_,rfl⟩
  ·cases h
 ·cases h
theorem lS {p:Bool}:∀ (b:Ty) (ls:List Leaf) (t:cU b.den),take st b ls=some t->∀ (y:b.den) (r:List Leaf),fj ls (aq p b y++r)=t.kill++fj t.rest r
 |.pair b c,ls,t,h,y,r=>by
  simp only[take]at h;split at h
  ·rename_i u I;split at h
   ·rename_i v J;simp only[FJ]at h;subst h;simp only[aq];rw[FZ,lS b ls u I y.1,lS c u.rest v J y.2,FZ]
   ·cases h
  ·cases h
 |.unit,ls,t,h,y,r=>by
  simp only[take,FJ]at h;subst h;rfl
 |.list m E e,ls,t,h,y,r=>by
  cases ls with
  |nil=>simp[take]at h
  |cons l ls =>
   cases m with
   |false =>
    simp only[take,cond_false]at h;split at h
    ·simp only[FJ]at h;subst h;exact oz id
    ·cases h
   |true =>
    simp only[take,cond_true]at h;split at h
    ·split at h
     ·simp only[FK]at h;obtain⟨O,_,rfl⟩:=h;rfl
     ·cases h
    ·simp only[FJ]at h;subst h;rfl
    ·cases h
 |.int k,ls,t,h,y,r=>scal (b:=.int k) h wB (l':=.int k y) id
 |.bool,ls,t,h,y,r=>scal (b:=.bool) h uP (l':=.bool y) id
 |.str,ls,t,h,y,r=>scal (b:=.str) h wC (l':=.str y) id
 |.hdr,ls,t,h,y,r=>scal (b:=.hdr) h wD (l':=.hdr y) id
where
 scal {b:Ty} {ls:List Leaf} {t:cU b.den} {l':Leaf} {r:List Leaf} (h:(be st b ls).map (λx=>(⟨false,x.2.1,[],[],x.2.2⟩:cU b.den))=some t)
   (H:∀ {ls:List Leaf} {x:Bool×b.den×List Leaf},be st b ls=some x->∃ l,ls=l::x.2.2) (z:¬ ao l'):fj ls ([l']++r)=t.kill++fj t.rest r:=by
  simp only[FK]at h;obtain⟨x,M,rfl⟩:=h;obtain⟨l,rfl⟩:=H M;exact oz z
theorem AE {W W':Wit}{bs:List Nat}{l:Leaf}{v:Value}(y:ao l)(u:W'.nw=W.nw)(h:aM P V W st w bs l v):aM P V W' st' w bs l v:=by
 cases l <;> simp only[ao]at y;exact OwH.carry h (λk r=>by
  rcases r with r|r
  ·exact .inl (by rw[u];exact r)
  ·exact .inr r) (λ_ _=>rfl) (λ_ _=>rfl)
theorem xL {S:St}{x l:Leaf}{xs ls:List Leaf}(h:¬ ao l):ac (cl S (x::xs) (l::ls)) S=ac (cl S xs ls) S:=by
 cases x <;> try rfl
 cases l <;> first|exact absurd trivial h|rfl
theorem kx {x:Nat×Nat}{l:List (Nat×Nat)}(h:bc (x::l)=true):x∉l/\bc l=true:=by
 simp only[bc,FL,F7,GE]at h;exact⟨λr=>by have:=h.1 x r;simp at this,h.2⟩
theorem Bi (hV:aA V){W:Wit}{S:St}(h:ap P V W S a w):∀ (xl ls:List Leaf) (cs:List Value) (O:Nat->List Nat),bc (fj xl ls)=true->(∀ x∈fj xl ls,x.1≠EPO)->xl.length=cs.length->ls.length=cs.length ->
  (∀ (i r j n:Nat) (l:Leaf) (u:Value),xl[i]?=some (.al r j n)->ls[i]?=some l->ao l->cs[i]?=some u->(W.cs r)[j]?=some u) ->
  (∀ x∈fj xl ls,∀ l,(S x.1).ls[x.2]?=some l->¬ ao l) ->
  (∀ (i:Nat) (l:Leaf) (u:Value),ls[i]?=some l->cs[i]?=some u->aM P V W S w (O i) l u) ->
  (∀ (i:Nat) (l:Leaf),ls[i]?=some l->ao l->∀ k∈O i,¬ cq V W S k) ->
  (∀ (i i':Nat) (l l':Leaf),ls[i]?=some l->ao l->ls[i']?=some l'->ao l'->∀ k,k∈O i->k∈O i'->i=i') ->
  ∃ W',ap P V W' (ac (cl S xl ls) S) a w/\W'.cs=W.cs/\W'.β=W.β/\W'.nw=W.nw/\(∀ q,(ac (cl S xl ls) S q).sh=(S q).sh/\(S q).ver<=(ac (cl S xl ls) S q).ver) /\
   (∀ (q i:Nat),(q,i)∉fj xl ls->(ac (cl S xl ls) S q).ls[i]?=(S q).ls[i]?/\W'.bs q i=W.bs q i) /\
   (∀ k,cq V W' (ac (cl S xl ls) S) k->cq V W S k\/∃ i l,ls[i]?=some l/\ao l/\k∈O i)
 |[],ls,cs,O,_,_,hx,hl,_,_,_,_,_=>⟨W,h,rfl,rfl,rfl,λ_=>⟨rfl,F3 _⟩,λ_ _ _=>⟨rfl,rfl⟩,λk R=>.inl R⟩
 |x::X,[],cs,O,_,_,hx,hl,_,_,_,_,_=>by simp at hx hl;omega
 |x::X,l::ls,[],O,_,_,hx,hl,_,_,_,_,_=>by simp at hx
 |x::X,l::ls,u::cs,O,hd,b1,hx,hl,b0,b2,a4,a3,a8=>by
  have ay:bc (fj X ls)=true:=by
   cases x with
   |al r j n =>
    cases l with
    |own p hh E e ys=>exact (kx hd).2
    |_=>exact hd
   |_=>exact hd
  have a9:∀ z∈fj X ls,z∈fj (x::X) (l::ls):=by
   intro z hz;cases x with
   |al r j n=>exact FN _ hz
   |_=>exact hz
  obtain⟨W1,h1,e1,e2,e3,e4,e5,e6⟩:=Bi hV h X ls cs (λi=>O (i+1)) ay (λz hz=>b1 z (a9 z hz)) (by simpa using hx) (by simpa using hl)
   (λi r j n l' u' J I M g4=>b0 (i+1) r j n l' u' (by simpa using J) (by simpa using I) M (by simpa using g4))
   (λz hz=>b2 z (a9 z hz)) (λi l' u' J I=>a4 (i+1) l' u' (by simpa using J) (by simpa using I))
   (λi l' J I=>a3 (i+1) l' (by simpa using J) I)
   (λi i' l1 l2 J I M g4 k g5 g6=>by have:=a8 (i+1) (i'+1) l1 l2 (by simpa using J) I (by simpa using M) g4 k g5 g6;omega)
  by_cases hs:¬ ao l\/(∀ r j n,x≠.al r j n)
  ·have a7:ac (cl S (x::X) (l::ls)) S=ac (cl S X ls) S/\fj (x::X) (l::ls)=fj X ls:=by
    rcases hs with hs|hs
    ·exact⟨xL hs,oz hs⟩
    ·cases x with
     |al r j n=>exact absurd rfl (hs r j n)
     |_=>exact⟨rfl,rfl⟩
   rw[a7.1,a7.2];exact⟨W1,h1,e1,e2,e3,e4,e5,λk R=>(e6 k R).imp id λ⟨i,l',J,I,M⟩=>⟨i+1,l',by simpa using J,I,M⟩⟩
  ·simp only[not_or,Classical.not_not]at hs;obtain⟨b4,b6⟩:=hs;obtain⟨r,j,n,rfl⟩:∃ r j n,x=.al r j n:=by
    cases x with
    |al r j n=>exact⟨r,j,n,rfl⟩
    |_=>exact absurd (λ_ _ _ h=>by cases h) b6
   obtain⟨p,hh,E,e,ys,rfl⟩:∃ p hh E e ys,l=.own p hh E e ys:=by
    cases l <;> simp only[ao]at b4;exact⟨_,_,_,_,_,rfl⟩
   have ad:fj (.al r j n::X) (.own p hh E e ys::ls)=(r,j)::fj X ls:=rfl;rw[ad]at hd b2;obtain⟨b9,ba⟩:=kx hd;have hv:=b0 0 r j n _ u rfl rfl trivial rfl;have a7:ac (cl S (.al r j n::X) (.own p hh E e ys::ls)) S=ac [(r,⟨(ac (cl S X ls) S r).ver,(ac (cl S X ls) S r).sh,aV (ac (cl S X ls) S r).ls j (.own p hh E e ys)⟩),(EPO,ca (ac (cl S X ls) S EPO))] (ac (cl S X ls) S):=bH [_,_] _ _;have a6:aM P V W1 (ac (cl S X ls) S) w (O 0) (.own p hh E e ys) u:=AE trivial e3 (a4 0 _ u rfl rfl);have Y:∀ k∈O 0,¬ cq V W1 (ac (cl S X ls) S) k:=λk R hu=>by
    rcases e6 k hu with hu|⟨i,l',J,I,M⟩
    ·exact a3 0 _ rfl trivial k R hu
    ·have:=a8 0 (i+1) _ l' rfl trivial (by simpa using J) I k R M;omega
   have H:∀ (i:Nat) (l':Leaf),i≠j->(aV (ac (cl S X ls) S r).ls j (.own p hh E e ys))[i]?=some l'->(ac (cl S X ls) S r).ls[i]?=some l':=by
    intro i l' a5 a0;rcases aU _ _ _ _ _ a0 with ⟨rfl,_,_⟩|⟨_,a0⟩
    ·exact absurd rfl a5
    ·exact a0
   have b3:∀ (l':Leaf),(aV (ac (cl S X ls) S r).ls j (.own p hh E e ys))[j]?=some l'->l'=.own p hh E e ys:=by
    intro l' a0;rcases aU _ _ _ _ _ a0 with ⟨_,rfl,_⟩|⟨a5,_⟩
    ·rfl
    ·exact absurd rfl a5
   have b5:r≠EPO:=b1 (r,j) (by rw[ad];exact F5 ..);obtain⟨h2,a2,az⟩:=h1.reownE hV r ⟨(ac (cl S X ls) S r).ver,(ac (cl S X ls) S r).sh,aV (ac (cl S X ls) S r).ls j (.own p hh E e ys)⟩ (λi=>if i=j then O 0 else W1.bs r i) b5 (F3 _) rfl (by simp[aV])
    (λi l' v' J I=>by
     by_cases y:i=j
     ·subst y;obtain rfl:=b3 l' J;rw[e1,hv]at I;simp only[FJ]at I;subst I;simp only[if_true];exact a6
     ·simp only[if_neg y];exact h1.leaf r i l' v' (H i l' y J) I)
    (λi l' J I k R=>by
     by_cases y:i=j
     ·subst y;simp only[if_true]at R;have hu:=Y k R;simp only[cq,not_or,not_exists,not_and]at hu;exact⟨hu.1,hu.2.1,hu.2.2.1,λr1 j1 l1 _ M g4 g5=>hu.2.2.2 r1 j1 l1 M g4 g5⟩
     ·simp only[if_neg y]at R;have a0:=H i l' y J;have h9:=h1.ownb r i l' a0 I k R;exact⟨h9.1,h9.2.1,h9.2.2,λr1 j1 l1 a5 M g4 g5=>a5 (h1.sep r i l' r1 j1 l1 a0 I M g4 k R g5).1.symm⟩)
    (λi i' l1 l2 J I M g4 k R a1=>by
     by_cases y:i=j <;> by_cases Z:i'=j
     ·omega
     ·subst y;simp only[if_true]at R;simp only[if_neg Z]at a1;exact absurd (.inr (.inr (.inr ⟨r,i',l2,H i' l2 Z M,g4,a1⟩))) (Y k R)
     ·subst Z;simp only[if_true]at a1;simp only[if_neg y]at R;exact absurd (.inr (.inr (.inr ⟨r,i,l1,H i l1 y J,I,R⟩))) (Y k a1)
     ·simp only[if_neg y]at R;simp only[if_neg Z]at a1;exact (h1.sep r i l1 r i' l2 (H i l1 y J) I (H i' l2 Z M) g4 k R a1).2)
   rw[a7];refine⟨_,h2,e1,e2,e3,λq=>?_,λq i hq=>?_,λk R=>?_⟩
   ·exact⟨(a2 q).1.trans (e4 q).1,GP (e4 q).2 (a2 q).2.1⟩
   ·rw[ad]at hq;simp only[GZ,not_or]at hq;by_cases aw:q=r
    ·subst aw;rw[az];have y:j≠i:=λe0=>hq.1 (by rw[e0])
     simp only[aV];rw[GW y];refine⟨(e5 q i hq.2).1,?_⟩;simp only[if_true,if_neg (GX y)];exact (e5 q i hq.2).2
    ·rw[(a2 q).2.2 aw];refine⟨(e5 q i hq.2).1,?_⟩;show (if q=r then _ else W1.bs q i)=_;rw[if_neg aw];exact (e5 q i hq.2).2
   ·rcases R with R|R|⟨b,hb,R⟩|⟨q,i,l',J,I,M⟩
    ·exact .inl (.inl (by rw[<- e3];exact R))
    ·exact .inl (.inr (.inl R))
    ·refine (e6 k (.inr (.inr (.inl ⟨b,?_,R⟩)))).imp id λ⟨i,l',J,I,M⟩=>⟨i+1,l',by simpa using J,I,M⟩
     exact (jh (λq=>(a2 q).1) b).1 hb
    ·by_cases hq:q=r
     ·subst hq;rw[az]at J;simp only[if_true]at M;by_cases y:i=j
      ·subst y;simp only[if_true]at M;exact .inr ⟨0,_,rfl,trivial,M⟩
      ·simp only[if_neg y]at M;exact (e6 k (.inr (.inr (.inr ⟨q,i,l',H i l' y J,I,M⟩)))).imp id λ⟨i,l',J,I,M⟩=>⟨i+1,l',by simpa using J,I,M⟩
     ·rw[(a2 q).2.2 hq]at J;simp only[if_neg hq]at M;exact (e6 k (.inr (.inr (.inr ⟨q,i,l',J,I,M⟩)))).imp id λ⟨i,l',J,I,M⟩=>⟨i+1,l',by simpa using J,I,M⟩
end
def PK.isIop:PK->Bool
 |.iop _=>true
 |_=>false
section
variable {P:Program} {V:Env} {Γ:List Ctr} {st st':St} {w w':World} {a:Act}
theorem lF:∀ {a b:List (Nat×Nat)},bc (a++b)=true->bc a=true/\bc b=true/\∀ x∈a,x∉b
 |[],b,h=>⟨rfl,h,by simp⟩
 |x::a,b,h=>by
  obtain⟨u,J⟩:=kx h;obtain⟨M,O,R⟩:=lF J;refine⟨?_,O,λy r z=>?_⟩
  ·simp only[bc,FL,F7,GE];refine⟨λy r X=>u (FS _ ?_),M⟩;obtain⟨H,I⟩:x.1=y.1/\x.2=y.2:=by simpa using X
   rw[show x=y from Hm H I];exact r
  ·rcases GZ.1 r with rfl|r
   ·exact u (FN _ z)
   ·exact R y r z
theorem kT {p:Bool}:∀ (b:Ty) (ls:List Leaf) (t:cU b.den),take st b ls=some t->∀ (y:b.den) (i r j n:Nat) (l:Leaf),ls[i]?=some (.al r j n)->(aq p b y)[i]?=some l->ao l->(st r).ver=n
 |.pair b c,ls,t,h,y,i,r,j,n,l,I,z,J=>by
  simp only[take]at h;split at h
  ·rename_i u M;split at h
   ·rename_i v O;simp only[aq]at z;have X:=cR p b y.1;by_cases hi:i<b.cells
    ·rw[FQ (by omega)]at z;exact kT b ls u M y.1 i r j n l I z J
    ·rw[FP (by omega),X]at z;have Y:=take_rest b ls u M;refine kT c u.rest v O y.2 (i-b.cells) r j n l ?_ z J;rw[Y,Ga,show b.cells+(i-b.cells)=i by omega];exact I
   ·cases h
  ·cases h
 |.list m E e,ls,t,h,y,i,r,j,n,l,I,z,J=>by
  cases m with
  |false =>
   cases i with
   |zero=>simp[aq]at z;subst z;exact J.elim
   |succ i=>simp[aq]at z
  |true =>
   cases i with
   |succ i=>simp[aq]at z
   |zero =>
    cases ls with
    |nil=>simp at I
    |cons l' ls =>
     simp only[Gb,FJ]at I;subst I;simp only[take,cond_true]at h;split at h
     ·rename_i R;exact (fH R (by simp)).1
     ·cases h
 |.int k,ls,t,h,y,i,r,j,n,l,I,z,J=>by
  cases i with
  |zero=>simp[aq]at z;subst z;exact J.elim
  |succ i=>simp[aq]at z
 |.bool,ls,t,h,y,i,r,j,n,l,I,z,J=>by
  cases i with
  |zero=>simp[aq]at z;subst z;exact J.elim
  |succ i=>simp[aq]at z
 |.str,ls,t,h,y,i,r,j,n,l,I,z,J=>by
  cases i with
  |zero=>simp[aq]at z;subst z;exact J.elim
  |succ i=>simp[aq]at z
 |.hdr,ls,t,h,y,i,r,j,n,l,I,z,J=>by
  cases i with
  |zero=>simp[aq]at z;subst z;exact J.elim
  |succ i=>simp[aq]at z
 |.unit,ls,t,h,y,i,r,j,n,l,I,z,J=>by simp[aq]at z
where
 take_rest:∀ (b:Ty) (ls:List Leaf) (t:cU b.den),take st b ls=some t->t.rest=ls.drop b.cells
  |.pair b c,ls,t,h=>by
   simp only[take]at h;split at h
   ·rename_i u M;split at h
    ·rename_i v O;simp only[FJ]at h;subst h;show v.rest=_;rw[take_rest c u.rest v O,take_rest b ls u M,List.drop_drop];rfl
    ·cases h
   ·cases h
  |.unit,ls,t,h=>by
   simp only[take,FJ]at h;subst h;rfl
  |.list m E e,ls,t,h=>by
   cases ls with
   |nil=>simp[take]at h
   |cons l ls =>
    cases m with
    |false =>
     simp only[take,cond_false]at h;split at h
     ·simp only[FJ]at h;subst h;rfl
     ·cases h
    |true =>
     simp only[take,cond_true]at h;split at h
     ·split at h
      ·simp only[FK]at h;obtain⟨xs,_,rfl⟩:=h;rfl
      ·cases h
     ·simp only[FJ]at h;subst h;rfl
     ·cases h
  |.int k,ls,t,h=>sc (b:=.int k) h wB rfl
  |.bool,ls,t,h=>sc (b:=.bool) h uP rfl
  |.str,ls,t,h=>sc (b:=.str) h wC rfl
  |.hdr,ls,t,h=>sc (b:=.hdr) h wD rfl
 sc {b:Ty} {ls:List Leaf} {t:cU b.den} (h:(be st b ls).map (λx=>(⟨false,x.2.1,[],[],x.2.2⟩:cU b.den))=some t)
   (H:∀ {ls:List Leaf} {x:Bool×b.den×List Leaf},be st b ls=some x->∃ l,ls=l::x.2.2) (I:b.cells=1):t.rest=ls.drop b.cells:=by
  simp only[FK]at h;obtain⟨x,Z,rfl⟩:=h;obtain⟨l,rfl⟩:=H Z;rw[I];rfl
theorem xM {agg:Bool}{v:Value}{y z:List Value}(u:dr agg v y)(r:dr agg v z):y=z:=by
 unfold dr at u r;cases agg with
 |true =>
  simp only[if_true]at u r;rw[u]at r;simpa using r
 |false =>
  simp only[Bool.false_eq_true,if_false]at u r;rw[u,r]
theorem rX (hV:aA V){W0 W:Wit}{S0 S:St}{w0:World}{G:Nat->Prop}{p:Bool}(a3:W.cs=W0.cs)(hG:∀ k,G k->gd V W p k)(h:ap P V W S a w) :
  ∀ (ps:List PK) (xs:List (aK×List Leaf)) (vs:List Value) (g:Got (ab ps)) (o:ag ps) (H:List (List Nat)),iB P V W0 S0 w0 xs vs->bf (co Γ S0) ps xs=some g->ps.any PK.isIop=false ->
  bS w G ps o vs H->bc g.kill=true->(∀ x∈g.kill,x.1≠EPO)->(∀ x∈g.kill,∀ l,(S x.1).ls[x.2]?=some l->¬ ao l)->(∀ k∈H.flatten,¬ cq V W S k)->H.flatten.Nodup ->
  ∃ W',ap P V W' (ac (aJ S p ps xs o) S) a w/\W'.cs=W.cs/\W'.β=W.β/\W'.nw=W.nw/\(∀ q,(ac (aJ S p ps xs o) S q).sh=(S q).sh/\(S q).ver<=(ac (aJ S p ps xs o) S q).ver) /\
   (∀ q i,(q,i)∉g.kill->(ac (aJ S p ps xs o) S q).ls[i]?=(S q).ls[i]?/\W'.bs q i=W.bs q i)/\(∀ k,cq V W' (ac (aJ S p ps xs o) S) k->cq V W S k\/k∈H.flatten)
 |[],xs,vs,g,o,H,_,_,_,_,_,_,_,_,_=>⟨W,h,rfl,rfl,rfl,λ_=>⟨rfl,F3 _⟩,λ_ _ _=>⟨rfl,rfl⟩,λk R=>.inl R⟩
 |pk::ps,[],vs,g,o,H,_,hg,_,_,_,_,_,_,_=>by simp[bf]at hg
 |pk::ps,x::xs,vs,g,o,H,hx,hg,hp,ho,hd,a4,a5,O,a0=>by
  obtain⟨v,a6,cs,rfl,hs,hl,a2⟩:=hx;simp only[bf]at hg;split at hg
  ·rename_i g1 a1;split at hg
   ·rename_i g2 a9;simp only[FJ]at hg;subst hg;simp only[Gh,HB]at hp;obtain⟨b0,a8,b1⟩:=lF hd;have J:∀ (o':ag ps) (b:List Nat) (M:List (List Nat)),H=b::M->b=[]->bS w G ps o' a6 M->aJ S p (pk::ps) (x::xs) o=aJ S p ps xs o' ->
      ∃ W',ap P V W' (ac (aJ S p (pk::ps) (x::xs) o) S) a w/\W'.cs=W.cs/\W'.β=W.β/\W'.nw=W.nw/\(∀ q,(ac (aJ S p (pk::ps) (x::xs) o) S q).sh=(S q).sh/\(S q).ver<=(ac (aJ S p (pk::ps) (x::xs) o) S q).ver) /\
       (∀ q i,(q,i)∉g1.kill++g2.kill->(ac (aJ S p (pk::ps) (x::xs) o) S q).ls[i]?=(S q).ls[i]?/\W'.bs q i=W.bs q i)/\(∀ k,cq V W' (ac (aJ S p (pk::ps) (x::xs) o) S) k->cq V W S k\/k∈H.flatten):=by
     intro o' b M e1 e2 b3 e3;subst e1;subst e2;rw[e3];obtain⟨W1,f1,f2,f3,f4,f5,f6,f7⟩:=rX hV a3 hG h ps xs a6 g2 o' M a2 a9 hp.2 b3 a8 (λz Y=>a4 z (FN _ Y)) (λz Y=>a5 z (FN _ Y)) (λk R=>O k (by simpa using R)) (by simpa using a0);exact⟨W1,f1,f2,f3,f4,f5,λq i hq=>f6 q i (λhm=>hq (FN _ hm)),λk R=>(f7 k R).imp id (λhm=>by simpa using hm)⟩
    cases pk with
    |io b =>
     match H,ho with
     |Z::M,⟨y,I⟩ =>
      simp only[F6]at a0 O;rw[GO]at a0;obtain⟨W1,f1,f2,f3,f4,f5,f6,f7⟩:=rX hV a3 hG h ps xs a6 g2 o.2 M a2 a9 hp.2 I a8 (λz Y=>a4 z (FN _ Y)) (λz Y=>a5 z (FN _ Y)) (λk R=>O k (FN _ R)) a0.2.1;simp only[co,bj]at a1;cases hb:decide (x.1=bk b.isAgg) with
      |false=>simp[hb]at a1
      |true =>
       rw[hb]at a1;simp only[cond_true,FK]at a1;obtain⟨t,ht,rfl⟩:=a1;rw[of_decide_eq_true hb]at hs;unfold kb at y;rw[if_neg (by simp)]at y;obtain⟨a7,b4,hm⟩:=y;have:=xM b4 (ic hs);subst this;obtain⟨az,m1,m2,m3,m4⟩:=jp (P:=P) (V:=V) (W:=W1) (st:=ac (aJ S p ps xs o.2) S) (p:=p) (λk R=>by
        rcases hG k R with R|R
        ·exact .inl (by rw[f4];exact R)
        ·exact .inr R) hm a0.1
       unfold cr at ht;split at ht
       ·rename_i p0 x0 f0 k0 aw;simp only[FJ]at ht;subst ht;have X:=lS (p:=p) b x.2 _ aw o.1 [];simp only[F9]at X;have X:fj x.2 (aq p b o.1)=k0:=by
         rw[X];show k0++fj [] []=k0;simp[fj]
        obtain⟨W2,q1,q2,q3,q4,q5,q6,q7⟩:=Bi hV f1 x.2 (aq p b o.1) a7 az (by rw[X];exact b0) (λz Y=>a4 z (FS _ (by rw[X]at Y;exact Y))) hl.length m1
         (λi r j n l u g3 g4 g5 g6=>by
          have h5:=(hl.at_ i _ u g3 g6).1;rw[f2,a3];exact h5.2 (kT b x.2 _ aw o.1 i r j n l g3 g4 g5))
         (λz Y l ay=>by
          rw[X]at Y;rw[(f6 z.1 z.2 (b1 z Y)).1]at ay;exact a5 z (FS _ Y) l ay)
         m2
         (λi l g3 g4 k R hu=>by
          have ad:=m3 i l g3 g4 k R;rcases f7 k hu with hu|hu
          ·exact O k (FS _ ad) hu
          ·exact a0.2.2 k ad k hu rfl) m4
        have b2:ac (aJ S p (.io b::ps) (x::xs) o) S=ac (cl (ac (aJ S p ps xs o.2) S) x.2 (aq p b o.1)) (ac (aJ S p ps xs o.2) S):=bH _ _ _;rw[b2];rw[X]at q6;refine⟨W2,q1,q2.trans f2,q3.trans f3,q4.trans f4,λq=>⟨(q5 q).1.trans (f5 q).1,GP (f5 q).2 (q5 q).2⟩,λq i hq=>?_,λk R=>?_⟩
        ·simp only[FU,not_or]at hq;exact⟨(q6 q i hq.1).1.trans (f6 q i hq.2).1,(q6 q i hq.1).2.trans (f6 q i hq.2).2⟩
        ·rcases q7 k R with R|⟨i,l,g3,g4,g5⟩
         ·exact (f7 k R).imp id (λhm=>FN _ hm)
         ·exact .inr (FS _ (m3 i l g3 g4 k g5))
       ·cases ht
    |iop b=>simp[PK.isIop]at hp
    |rd b =>
     match H,ho with
     |Z::M,⟨y,I⟩=>exact J o Z M rfl y I rfl
    |own b =>
     match H,ho with
     |Z::M,⟨y,I⟩=>exact J o Z M rfl y I rfl
    |rref b =>
     match H,ho with
     |Z::M,⟨y,I⟩=>exact J o Z M rfl y I rfl
    |rref2 b =>
     match H,ho with
     |Z::M,⟨y,I⟩=>exact J o Z M rfl y I rfl
    |fn As B =>
     match H,ho with
     |Z::M,⟨y,I⟩=>exact J o Z M rfl y I rfl
    |clo f a7 =>
     match H,ho with
     |Z::M,⟨y,I⟩=>exact J o Z M rfl y I rfl
    |hol b cc off =>
     match H,ho with
     |Z::M,⟨y,I⟩=>exact J o Z M rfl y I rfl
   ·cases hg
  ·cases hg
end
section
variable {P:Program} {V:Env} {W:Wit} {st:St} {w:World} {a:Act}
theorem pD {G ro:Nat->Prop}{p q:Bool}{ks:List (Nat×Nat×Nat)}{ep:Nat}(hG:∀ k,G k->gd V W p k)(d n:Nat) :
  ∀ (O:List RK) (y:ai O) (us:List Value) (a0:List (List Nat)),
  (O.any RK.isBv=true->(∀ k,G k\/ro k->gd V W q k\/∃ x∈ks,k∈W.bs x.1 x.2.1)/\ep<=(st EPO).ver/\(∀ k∈ks,k.2.2<=(st k.1).ver))->ib w G ro O y us a0->O.all RK.isV=true->a0.flatten.Nodup ->
  (bJ d n p q ks ep O y).2=[]/\∃ (cs:List Value) (a1:Nat->List Nat),qB ((bJ d n p q ks ep O y).1.map λx=>(x.1,x.2.length)) us cs/\(((bJ d n p q ks ep O y).1.map (·.2)).flatten).length=cs.length/\(∀ u∈cs,u.oneCell'=true) /\
   (∀ (j:Nat) (l:Leaf) (u:Value),(((bJ d n p q ks ep O y).1.map (·.2)).flatten)[j]?=some l->cs[j]?=some u->aM P V W st w (a1 j) l u) /\
   (∀ (j:Nat) (l:Leaf),(((bJ d n p q ks ep O y).1.map (·.2)).flatten)[j]?=some l->ao l->∀ k∈a1 j,k∈a0.flatten) /\
   (∀ (j Y:Nat) (l l':Leaf),(((bJ d n p q ks ep O y).1.map (·.2)).flatten)[j]?=some l->ao l->(((bJ d n p q ks ep O y).1.map (·.2)).flatten)[Y]?=some l'->ao l'->∀ k,k∈a1 j->k∈a1 Y->j=Y)
 |[],y,us,a0,_,⟨e1,e2⟩,_,_=>by
  subst e1;subst e2;exact⟨rfl,[],λ_=>[],⟨rfl,rfl⟩,rfl,by simp,λj l u h1 h2=>by simp at h2,λj l h1 h2 k J=>by simp at J,λj Y l l' _ _ _ _ k J=>by simp at J⟩
 |r::O,y,us,a0,hB,⟨u0,a8,b,a5,e1,e2,hr,a4⟩,hv,Z=>by
  subst e1;subst e2;simp only[HF,FL]at hv;rw[F6,GO]at Z;obtain⟨f0,a6,d2,f1,f2,a9,f3,f4,f5⟩:=pD (ks:=ks) (q:=q) (ep:=ep) hG d n O y.2 a8 a5 (λhb=>hB (by simp[hb])) a4 hv.2 Z.2.1;obtain⟨agg,L,I,d1,g0,ad,g1,g2,aw,g3,g4,g5⟩:∃ (agg:Bool) (L:List Leaf) (I:List Value) (d1:Nat->List Nat),(qx d n p q ks ep r y.1).1=(agg,L)/\(qx d n p q ks ep r y.1).2=[]/\dr agg u0 I/\L.length=I.length/\(∀ u∈I,u.oneCell'=true) /\
    (∀ (j:Nat) (l:Leaf) (u:Value),L[j]?=some l->I[j]?=some u->aM P V W st w (d1 j) l u)/\(∀ (j:Nat) (l:Leaf),L[j]?=some l->ao l->∀ k∈d1 j,k∈b) /\
    (∀ (j Y:Nat) (l l':Leaf),L[j]?=some l->ao l->L[Y]?=some l'->ao l'->∀ k,k∈d1 j->k∈d1 Y->j=Y):=by
   cases r with
   |v c =>
    obtain⟨I,h1,h2⟩:=hr;obtain⟨d1,m1,m2,m3,m4⟩:=jp (P:=P) (V:=V) (W:=W) (st:=st) (p:=p) hG h2 Z.1;exact⟨c.isAgg,_,I,d1,rfl,rfl,h1,m1,h2.one,m2,m3,m4⟩
   |bv c =>
    obtain⟨_,I,h1,h2⟩:=hr;obtain⟨b2,b0,b1⟩:=hB (by simp[RK.isBv]);have h3:=kF (P:=P) (V:=V) (W:=W) (st:=st) (p:=q) b0 b1 (h2.mono b2);exact⟨c.isAgg,_,I,λ_=>[],rfl,rfl,h1,h3.length,h2.one,λj l u g1 g2=>(h3.at_ j l u g1 g2).1,λj l _ _ k J=>by simp at J,λj Y l l' _ _ _ _ k J=>by simp at J⟩
   |box c=>simp[RK.isV]at hv
  have ay:(bJ d n p q ks ep (r::O) y).1=(agg,L)::(bJ d n p q ks ep O y.2).1:=by simp only[bJ,g0]
  have az:(bJ d n p q ks ep (r::O) y).2=[]:=by simp only[bJ,ad,f0,F9]
  rw[ay];simp only[Hl,F6];have H:∀ (j:Nat) (l:Leaf),(L++((bJ d n p q ks ep O y.2).1.map (·.2)).flatten)[j]?=some l->(j<L.length/\L[j]?=some l)\/(L.length<=j/\(((bJ d n p q ks ep O y.2).1.map (·.2)).flatten)[j-L.length]?=some l):=by
   intro j l z;by_cases M:j<L.length
   ·rw[FQ M]at z;exact .inl ⟨M,z⟩
   ·rw[FP (by omega)]at z;exact .inr ⟨by omega,z⟩
  refine⟨az,I++a6,λj=>if j<L.length then d1 j else d2 (j-L.length),⟨u0,a8,I,a6,rfl,rfl,g2.symm,g1,f1⟩,by rw[F0,F0,g2,f2],λu hu=>(FU.1 hu).elim (aw u) (a9 u),λj l u z hu=>?_,λj l z ho k J=>?_,λj Y l l' z ho X a2 k J R=>?_⟩
  ·rcases H j l z with ⟨M,z⟩|⟨a7,z⟩
   ·rw[FQ (by omega)]at hu;simp only[if_pos M];exact g3 j l u z hu
   ·rw[FP (by omega),<- g2]at hu;simp only[if_neg (show ¬ j<L.length by omega)];exact f3 _ l u z hu
  ·rcases H j l z with ⟨M,z⟩|⟨a7,z⟩
   ·simp only[if_pos M]at J;exact FS _ (g4 j l z ho k J)
   ·simp only[if_neg (show ¬ j<L.length by omega)]at J;exact FN _ (f4 _ l z ho k J)
  ·rcases H j l z with ⟨M,z⟩|⟨a7,z⟩ <;> rcases H Y l' X with ⟨a3,X⟩|⟨b3,X⟩
   ·simp only[if_pos M]at J;simp only[if_pos a3]at R;exact g5 j Y l l' z ho X a2 k J R
   ·simp only[if_pos M]at J;simp only[if_neg (show ¬ Y<L.length by omega)]at R;exact absurd rfl (Z.2.2 k (g4 j l z ho k J) k (f4 _ l' X a2 k R))
   ·simp only[if_neg (show ¬ j<L.length by omega)]at J;simp only[if_pos a3]at R;exact absurd rfl (Z.2.2 k (g4 Y l' X a2 k R) k (f4 _ l z ho k J))
   ·simp only[if_neg (show ¬ j<L.length by omega)]at J;simp only[if_neg (show ¬ Y<L.length by omega)]at R;have:=f5 _ _ l l' z ho X a2 k J R;omega
theorem CV {l:List (Bool×List Leaf)}{us cs:List Value}{v:Value}(n:Nat)(h:qB (l.map λx=>(x.1,x.2.length)) us cs)(H:tF us v) :
  eK (fp n l).sh v cs/\(fp n l).ls=(l.map (·.2)).flatten/\(fp n l).ver=n:=by
 match l,us,h with
 |[],_,⟨y,z⟩ =>
  subst y;subst z;exact⟨⟨[],H,rfl,rfl⟩,rfl,rfl⟩
 |[(agg,L)],_,⟨u,r,c,O,y,z,h1,Y,R,X⟩ =>
  subst y;subst z;subst R;subst X;have H:v=u:=H;subst H;refine⟨?_,by simp[fp],rfl⟩;simp only[fp,F9];exact kQ Y
 |x::x'::l,us,h =>
  refine⟨?_,rfl,rfl⟩;have I:∃ u M r,us=u::M::r:=by
   obtain⟨u,r,_,_,y,_,_,_,Z,J,_,_,z,_⟩:=h;exact⟨u,Z,J,by rw[y,z]⟩
  obtain⟨u,M,r,rfl⟩:=I;exact⟨_,H,h⟩
end
section
variable {P:Program} {V:Env} {Γ:List Ctr} {st:St} {w:World} {a:Act}
theorem AF {pk:PK}{x:aK×List Leaf}{g:Got pk.den}(r:co Γ st pk x=some g)(X:pk.isIop=false):g.lend=[]:=by
 cases pk with
 |iop b=>simp[PK.isIop]at X
 |rd b =>
  simp only[co,bj]at r;cases u:decide (x.1=bk b.isAgg) with
  |false=>simp[u]at r
  |true=>rw[u]at r;simp only[cond_true,FK]at r;obtain⟨y,_,rfl⟩:=r;rfl
 |own b =>
  simp only[co,bj]at r;cases u:decide (x.1=bk b.isAgg) with
  |false=>simp[u]at r
  |true=>rw[u]at r;simp only[cond_true,FK]at r;obtain⟨y,_,rfl⟩:=r;rfl
 |io b =>
  simp only[co,bj]at r;cases u:decide (x.1=bk b.isAgg) with
  |false=>simp[u]at r
  |true=>rw[u]at r;simp only[cond_true,FK]at r;obtain⟨y,_,rfl⟩:=r;rfl
 |rref b=>exact cap (c:=(false,b)) r
 |rref2 b=>exact cap (c:=(true,b)) r
 |fn R B =>
  simp only[co]at r;split at r
  ·unfold lm at r;split at r
   ·unfold tu at r;split at r
    ·rename_i c _ hh;cases u:(c.ps.drop R.length).all PK.reads&&B.flat&&c.fresh with
     |false=>rw[u]at r;cases r
     |true =>
      rw[u]at r;simp only[cond_true]at r;split at r
      ·simp only[FJ]at r;subst r;rfl
      ·cases r
    ·cases r
   ·cases r
  ·simp only[bj]at r;split at r
   ·split at r
    ·simp only[FJ]at r;subst r;rfl
    ·cases r
   ·cases r
 |hol b Z off =>
  simp only[co,bj]at r;cases u:decide (x.1=bk b.isAgg) with
  |false=>simp[u]at r
  |true =>
   rw[u]at r;simp only[cond_true]at r;split at r
   ·split at r
    ·rename_i Y _ _ _ _;cases H:F2 Y off with
     |false=>simp[H]at r
     |true =>
      rw[H]at r;simp only[cond_true]at r;split at r
      ·split at r
       ·simp only[FJ]at r;subst r;rfl
       ·cases r
      ·cases r
    ·cases r
   ·cases r
 |clo f I =>
  simp only[co,bj]at r;split at r
  ·rename_i J z _;cases u:F2 J f with
   |false=>simp[u]at r
   |true=>rw[u]at r;exact caps_ r
  ·rename_i J z _;cases u:F2 J f with
   |false=>simp[u]at r
   |true=>rw[u]at r;exact caps_ r
  ·cases r
where
 cap {c:Bool×Ty} {l:Leaf} {g:Got c.2.den} (r:fN st c l=some g):g.lend=[]:=by
  unfold fN at r;cases M:c.1 with
  |true =>
   rw[M]at r;simp only[cond_true]at r;split at r
   ·split at r
    ·simp only[FK]at r;obtain⟨y,_,rfl⟩:=r;rfl
    ·cases r
   ·cases r
  |false =>
   rw[M]at r;simp only[cond_false]at r;split at r
   ·simp only[FK]at r;obtain⟨y,_,rfl⟩:=r;rfl
   ·cases r
 caps_:∀ {I:List (Bool×Ty)} {O:List Leaf} {g:Got (mC I)},cM st I O=some g->g.lend=[]
  |[],[],g,r=>by simp only[cM,FJ]at r;subst r;rfl
  |[],_::_,_,r=>by simp[cM]at r
  |_::_,[],_,r=>by simp[cM]at r
  |c::I,l::O,g,r=>by
   simp only[cM]at r;split at r
   ·split at r
    ·simp only[FJ]at r;subst r;rfl
    ·cases r
   ·cases r
theorem uQ:∀ (ps:List PK) (xs:List (aK×List Leaf)) (g:Got (ab ps)),bf (co Γ st) ps xs=some g->g.lend=[]->ps.any PK.isIop=false
 |[],_,_,_,_=>rfl
 |_::_,[],_,u,_=>by simp[bf]at u
 |J::ps,x::xs,g,u,z=>by
  simp only[bf]at u;split at u
  ·rename_i M r;split at u
   ·rename_i I y;simp only[FJ]at u;subst u;simp only[List.append_eq_nil_iff]at z;rw[Gh,uQ ps xs I y z.2,Bool.or_false];cases J with
    |iop b =>
     simp only[co,bj]at r;split at r
     ·rename_i q _;cases H:decide ((st q).sh=.agg) with
      |false=>simp[H]at r
      |true =>
       rw[H]at r;simp only[cond_true,FK]at r;obtain⟨t,_,rfl⟩:=r;simp at z
     ·cases r
    |_=>rfl
   ·cases u
  ·cases u
theorem qe {W0:Wit}{S0 S:St}{w0:World}{a0:Act}(h0:ap P V W0 S0 a0 w0){G:Nat->Prop}{p:Bool} :
  ∀ (ps:List PK) (xs:List (aK×List Leaf)) (vs:List Value) (g:Got (ab ps)) (o:ag ps) (u:List (List Nat)),iB P V W0 S0 w0 xs vs->bf (co Γ S0) ps xs=some g->ps.any PK.isIo=false->bS w G ps o vs u ->
  (g.lend=[]->aJ S p ps xs o=[]/\u.flatten=[]) /\
  (∀ b,g.lend=[b]->∃ (c:Ty) (y:c.den) (cs:List Value) (E:TypeId) (Z:List Nat),aJ S p ps xs o=[(b,⟨(S b).ver+2,.agg,aq p c y⟩)]/\w.heap[W0.β b]?=some (.cells cs.toArray E (0,0))/\Mx w G c none 0 y cs Z/\u.flatten=W0.β b::Z/\(S0 b).ls.length=c.cells)
 |[],[],vs,g,o,u,hx,M,_,X=>by
  simp only[bf,FJ]at M;subst M;refine⟨λ_=>⟨rfl,?_⟩,λb hb=>by simp at hb⟩
  match vs,u,X with
  |[],[],_=>rfl
 |[],_::_,_,_,_,_,_,M,_,_=>by simp[bf]at M
 |_::_,[],_,_,_,_,_,M,_,_=>by simp[bf]at M
 |pk::ps,x::xs,vs,g,o,u,hx,M,hn,X=>by
  obtain⟨v,a2,cs,rfl,hs,hl,R⟩:=hx;simp only[bf]at M;split at M
  ·rename_i g1 J;split at M
   ·rename_i g2 a4;simp only[FJ]at M;subst M;simp only[Gh,HB]at hn;have H:∀ (o':ag ps) (b:List Nat) (I:List (List Nat)),pk.isIop=false->u=b::I->b=[]->bS w G ps o' a2 I->aJ S p (pk::ps) (x::xs) o=aJ S p ps xs o' ->
      (g1.lend++g2.lend=[]->aJ S p (pk::ps) (x::xs) o=[]/\u.flatten=[]) /\
      (∀ b,g1.lend++g2.lend=[b]->∃ (c:Ty) (y:c.den) (cs:List Value) (E:TypeId) (Z:List Nat),aJ S p (pk::ps) (x::xs) o=[(b,⟨(S b).ver+2,.agg,aq p c y⟩)]/\w.heap[W0.β b]?=some (.cells cs.toArray E (0,0))/\Mx w G c none 0 y cs Z/\u.flatten=W0.β b::Z/\(S0 b).ls.length=c.cells):=by
     intro o' b I hi e1 e2 a7 e3;subst e1;subst e2;rw[e3,AF J hi];simpa using qe h0 (S:=S) (p:=p) ps xs a2 g2 o' I R a4 hn.2 a7
    cases pk with
    |iop b =>
     match u,X with
     |O::I,⟨r,z⟩ =>
      obtain⟨r1,r2⟩:=qe h0 (S:=S) (p:=p) ps xs a2 g2 o.2 I R a4 hn.2 z;simp only[co,bj]at J;split at J
      ·rename_i q hq;cases hb:decide ((S0 q).sh=.agg) with
       |false=>simp[hb]at J
       |true =>
        rw[hb]at J;simp only[cond_true,FK]at J;obtain⟨t,ht,rfl⟩:=J;refine⟨λhb=>by simp at hb,λb' Y=>?_⟩;simp only[G4,Gk]at Y;obtain⟨rfl,Y⟩:=Y;obtain⟨r3,r4⟩:=r1 Y;obtain⟨a6,_⟩:=iy hs hl hq (by simp);unfold kb at r;rw[if_pos rfl]at r;obtain⟨g',a3,E,Z,hv,a1,hm,rfl⟩:=r;have a5:g'=W0.β q:=by
         have h9:=a6.2.2;rw[hv]at h9;simp only[Value.pointer.injEq,FJ,Gr,and_true]at h9;exact h9
        subst a5;refine⟨b,o.1,a3,E,Z,?_,a1,hm,by rw[F6,r4,F9],?_⟩
        rotate_left
        ·rw[h0.len];exact (dZ (pos:=0) h0 (jf h0 q) ht).1.len
        simp only[aJ,r3,hq,F9];rfl
      ·cases J
    |io b=>simp[PK.isIo]at hn
    |rd b =>
     match u,X with
     |O::I,⟨r,z⟩=>exact H o O I rfl rfl r z rfl
    |own b =>
     match u,X with
     |O::I,⟨r,z⟩=>exact H o O I rfl rfl r z rfl
    |rref b =>
     match u,X with
     |O::I,⟨r,z⟩=>exact H o O I rfl rfl r z rfl
    |rref2 b =>
     match u,X with
     |O::I,⟨r,z⟩=>exact H o O I rfl rfl r z rfl
    |fn As B =>
     match u,X with
     |O::I,⟨r,z⟩=>exact H o O I rfl rfl r z rfl
    |clo f a3 =>
     match u,X with
     |O::I,⟨r,z⟩=>exact H o O I rfl rfl r z rfl
    |hol b cc off =>
     match u,X with
     |O::I,⟨r,z⟩=>exact H o O I rfl rfl r z rfl
   ·cases M
  ·cases M
end
section
variable {P:Program} {V:Env}
theorem xN (hV:aA V){W:Wit}{S:St}{a:Act}{w:World}(h:ap P V W S a w){M:List RK}{y:ai M}{us:List Value}{Y:List (List Nat)}{v:Value}{p q:Bool}{ks:List (Nat×Nat×Nat)}{ep:Nat}{G ro:Nat->Prop}
  (a0:ib w G ro M y us Y) (hG:∀ k,G k->gd V W p k)
  (hB:M.any RK.isBv=true->(∀ k,G k\/ro k->gd V W q k\/∃ x∈ks,k∈W.bs x.1 x.2.1)/\ep<=(S EPO).ver/\(∀ k∈ks,k.2.2<=(S k.1).ver))
  (H:∀ k∈Y.flatten,¬ cq V W S k) (a2:Y.flatten.Nodup) (I:tF us v) {d:Nat} (hd:d<V.nt) (Z:∀ x∈V.fixt,x.1≠d) (r:il S d M=true) :
  ∃ W1,ap P V W1 (ac ((d,fp ((ac (bJ d (S (B0+d)).ver p q ks ep M y).2 S d).ver+1) (bJ d (S (B0+d)).ver p q ks ep M y).1)::(bJ d (S (B0+d)).ver p q ks ep M y).2) S) (a.put (some d) v) w /\
   ∀ z,z≠d->z≠B0+d->W1.cs z=W.cs z:=by
 cases hv:M.all RK.isV with
 |true =>
  obtain⟨m0,cs,a1,m1,m2,m3,m4,m5,m6⟩:=pD (P:=P) (W:=W) (st:=S) (p:=p) (q:=q) (ks:=ks) (ep:=ep) hG d (S (B0+d)).ver M y us Y hB a0 hv a2;rw[m0];obtain⟨s1,s2,s3⟩:=CV ((S d).ver+1) m1 I;show ∃ W1,ap P V W1 (ac [(d,fp ((S d).ver+1) (bJ d (S (B0+d)).ver p q ks ep M y).1)] S) (a.put (some d) v) w/\_;generalize fp ((S d).ver+1) (bJ d (S (B0+d)).ver p q ks ep M y).1=rc at s1 s2 s3 ⊢;obtain⟨v0,b1,b3⟩:=rc;simp only at s1 s2 s3;subst s3;subst s2;have a5:=h.put hV d hd Z ((S d).ver+1) b1 _ v cs a1 (FV _) s1 m2 m3 m4
   (λj l R ho k X=>by
    have a9:=m5 j l R ho k X;have J:=H k a9;simp only[cq,not_or,not_exists,not_and]at J;exact⟨J.1,J.2.1,J.2.2.1,λr1 j1 l1 _ h8 h9=>J.2.2.2 r1 j1 l1 h8 h9⟩) m6
  refine⟨_,a5,λz hz _=>?_⟩;show (if z=d then cs else W.cs z)=_;rw[if_neg hz]
 |false =>
  have hb:∃ b,M=[.box b]:=by
   unfold il at r;split at r
   ·exact⟨_,rfl⟩
   ·rw[hv]at r;cases r
  obtain⟨b,rfl⟩:=hb;obtain⟨u0,b4,rb,b2,e1,e2,⟨g',cs,E,b0,ay,a8,hm,a6⟩,e3,e4⟩:=a0;subst e3;subst e4;subst e1;subst e2;subst a6;have I:v=u0:=I;subst I;subst ay;have a4:(S (B0+d)).sh=.off:=by simpa[il]using r
  have O:(g'::b0).Nodup:=by simpa using a2
  rw[GS]at O;obtain⟨a1,m1,m2,m3,m4⟩:=jp (P:=P) (V:=V) (W:=W) (st:=S) (p:=p) hG hm O.2;have a3:d≠B0+d:=by simp[B0]
  have a7:=H g' (by simp);have ad:=h.setBoxG hV (B0+d) (Gg _ _) ((S (B0+d)).ver+1) (aq p b y.1) cs a1 g' E (w':=w) (FV _)
   (.inr ⟨by simp[live,a4],a7,λj l R ho k X e0=>O.1 (by rw[<- e0];exact m3 j l R ho k X)⟩) a8 (λ_ _ _=>rfl) (λ_ _ _ _ _ _ _=>rfl) (F3 _) rfl rfl rfl m1 hm.one m2
   (λj l R ho k X=>by
    have J:=H k (by simp;exact .inr (m3 j l R ho k X));simp only[cq,not_or,not_exists,not_and]at J;exact⟨J.1,J.2.1,J.2.2.1,λr1 j1 l1 _ h8 h9=>J.2.2.2 r1 j1 l1 h8 h9⟩) m4
  have aw:=ad.put hV d hd Z ((S d).ver+1) .one [.bp (B0+d) 0] (.pointer (some ⟨g',0,none⟩)) [.pointer (some ⟨g',0,none⟩)] (λ_=>[]) (by rw[aL a3];exact FV _) rfl rfl (λu J=>by simp at J;subst J;rfl)
   (λj l u R g9=>by
    cases j with
    |zero=>simp at R g9;subst R;subst g9;exact⟨Gg _ _,by rw[bm],by simp⟩
    |succ j=>simp at R)
   (λj l R ho k X=>by simp at X) (λj j' l l' _ _ _ _ k X=>by simp at X)
  have e1:ac (bJ d (S (B0+d)).ver p q ks ep [.box b] y).2 S=ac [(B0+d,⟨(S (B0+d)).ver+1,.agg,aq p b y.1⟩)] S:=rfl;rw[aR,e1,aL a3];refine⟨_,aw,λz hz az=>?_⟩;show (if z=d then _ else (if z=B0+d then _ else W.cs z))=_;rw[if_neg hz,if_neg az]
theorem vV (r:Nat)(c u:b7)(S:St):ac [(r,c)] (ac [(r,u)] S)=ac [(r,c)] S:=by
 funext q;rcases an r q c (ac [(r,u)] S) with ⟨rfl,e⟩|⟨h,e⟩
 ·rw[e,bm]
 ·rw[e,aL h,aL h]
theorem AG (hV:aA V){W:Wit}{S:St}{a:Act}{w w':World}(h:ap P V W S a w){b:Nat}(hb:live S b){N:Nat->Prop}{cs:List Value}{E:TypeId}{c:Ty}{y:c.den}{b0:List Nat}{G:Nat->Prop}{p:Bool}
  (a1:w'.heap[W.β b]?=some (.cells cs.toArray E (0,0))) (hm:Mx w' G c none 0 y cs b0) (a4:(W.β b::b0).Nodup) (a6:(S b).ls.length=c.cells)
  (a2:∀ k,cq V W S k->k≠W.β b->w'.heap[k]?=w.heap[k]?) (a9:w.heap.size<=w'.heap.size) (a8:w'.os=w.os) (ht:w'.tape=w.tape) (ho:w'.output=w.output)
  (hN:∀ k,N k->k<w'.heap.size/\¬ cq V W S k) (a0:∀ k∈b0,¬ cq V W S k/\¬ N k) (hG:∀ k,G k->gd V { W with nw:=λk=>W.nw k\/N k } p k) :
  ∃ W1,ap P V W1 (ac [(b,⟨(S b).ver+2,.agg,aq p c y⟩)] S) a w'/\W1.β=W.β/\(∀ k,W1.nw k<->W.nw k\/N k)/\(∀ q,q≠b->W1.cs q=W.cs q)/\(∀ q i,q≠b->W1.bs q i=W.bs q i) /\
   (∀ k,cq V W1 (ac [(b,⟨(S b).ver+2,.agg,aq p c y⟩)] S) k->cq V W S k\/N k\/k∈b0):=by
 have J:∀ (q:Nat),(if q=b then W.β b else W.β q)=W.β q:=λq=>by split <;> simp_all
 have h1:=h.setBoxG hV b hb.1 ((S b).ver+1) (GQ cs.length .dead) cs (λ_=>[]) (W.β b) E (w':=w') (FV _) (.inl ⟨hb,rfl⟩) a1 a2 (λ_ _ _ _ k I=>by simp at I) a9 a8 ht ho (by simp) hm.one
  (λj l u H R=>by
   rw[Gc]at H;split at H
   ·simp at H;subst H;trivial
   ·cases H)
  (λj l H R k I=>by simp at I) (λj j' l l' _ _ _ _ k I=>by simp at I)
 have Z:∀ (j:Nat) (l:Leaf),(GQ cs.length Leaf.dead)[j]?=some l->¬ ao l:=by
  intro j l H;rw[Gc]at H;split at H
  ·simp at H;subst H;exact id
  ·cases H
 have a3:∀ z,live (ac [(b,⟨(S b).ver+1,.agg,GQ cs.length .dead⟩)] S) z->live S z:=by
  intro z Y;rcases an b z ⟨(S b).ver+1,.agg,GQ cs.length .dead⟩ S with ⟨rfl,e⟩|⟨_,e⟩
  ·exact hb
  ·exact⟨Y.1,by rw[<- e];exact Y.2⟩
 have ad:∀ k,cq V { W with β:=λr=>if r=b then W.β b else W.β r,cs:=λr=>if r=b then cs else W.cs r,bs:=λr j=>if r=b then [] else W.bs r j } (ac [(b,⟨(S b).ver+1,.agg,GQ cs.length .dead⟩)] S) k->cq V W S k:=by
  rintro k (I|I|⟨z,Y,I⟩|⟨z,i,l,H,R,O⟩)
  ·exact .inl I
  ·exact .inr (.inl I)
  ·exact .inr (.inr (.inl ⟨z,a3 z Y,by rw[<- I];exact (J z).symm⟩))
  ·by_cases M:z=b
   ·subst M;rw[bm]at H;exact absurd R (Z i l H)
   ·rw[aL M]at H;simp only[if_neg M]at O;exact .inr (.inr (.inr ⟨z,i,l,H,R,O⟩))
 have h2:=h1.nwGrow hV N (λk I=>⟨(hN k I).1,λhu=>(hN k I).2 (ad k hu)⟩);rw[GS]at a4;obtain⟨X,m1,m2,m3,m4⟩:=jp (P:=P) (V:=V) (W:={ W with β:=λr=>if r=b then W.β b else W.β r,cs:=λr=>if r=b then cs else W.cs r,bs:=λr j=>if r=b then [] else W.bs r j,nw:=λk=>W.nw k\/N k })
  (st:=ac [(b,⟨(S b).ver+1,.agg,GQ cs.length .dead⟩)] S) (p:=p) (λk I=>hG k I) hm a4.2
 have ay:=hm.len;have aw:=cR p c y;have h3:=h2.reown hV b ⟨(S b).ver+2,.agg,aq p c y⟩ X (by rw[bm];exact FV _) (by rw[bm]) (by rw[bm,G5];omega)
  (λj l v H R=>m2 j l v H (by simpa using R))
  (λj l H R k I=>by
   have a7:=m3 j l H R k I;obtain⟨q1,q2⟩:=a0 k a7;refine⟨λhn=>hn.elim (λhn=>q1 (.inl hn)) q2,λhp=>q1 (.inr (.inl hp)),λz Y e0=>q1 (.inr (.inr (.inl ⟨z,a3 z Y,by rw[<- e0];exact (J z).symm⟩))),λr1 j1 l1 a5 O g4 g5=>?_⟩;rw[aL a5]at O;have g5:k∈(if r1=b then [] else W.bs r1 j1):=g5;rw[if_neg a5]at g5;exact q1 (.inr (.inr (.inr ⟨r1,j1,l1,O,g4,g5⟩)))) m4
 rw[vV]at h3;refine⟨_,h3,funext λq=>J q,λk=>Gx,λq hq=>if_neg hq,λq i hq=>?_,?_⟩
 ·show (if q=b then X i else if q=b then [] else W.bs q i)=_;rw[if_neg hq,if_neg hq]
 ·rintro k ((I|I)|I|⟨z,Y,I⟩|⟨z,i,l,H,R,O⟩)
  ·exact .inl (.inl I)
  ·exact .inr (.inl I)
  ·exact .inl (.inr (.inl I))
  ·refine .inl (.inr (.inr (.inl ⟨z,?_,by rw[<- I];exact (J z).symm⟩)));rcases an b z ⟨(S b).ver+2,.agg,aq p c y⟩ S with ⟨rfl,e⟩|⟨_,e⟩
   ·exact hb
   ·exact⟨Y.1,by rw[<- e];exact Y.2⟩
  ·by_cases M:z=b
   ·subst M;rw[bm]at H;have O:k∈(if z=z then X i else _):=O;rw[if_pos rfl]at O;exact .inr (.inr (m3 i l H R k O))
   ·rw[aL M]at H;have O:k∈(if z=b then X i else if z=b then [] else W.bs z i):=O;rw[if_neg M,if_neg M]at O;exact .inl (.inr (.inr (.inr ⟨z,i,l,H,R,O⟩)))
end
section
variable {P:Program} {V:Env} {Γ:List Ctr} {st:St} {R:Type}
theorem ig:∀ (ps:List PK) (xs:List (aK×List Leaf)) (r:Upd->List (aK×List Leaf)->Option (Bool×Nat×Nat)->Option R),ln st ps xs r=(dj st ps xs).bind λu=>r u.1 u.2.1 u.2.2
 |[],xs,r=>rfl
 |_::_,[],r=>rfl
 |p::ps,x::xs,r=>by
  simp only[ln,dj];split
  ·rw[iI];cases cC st (x.2.getD _ .dead) <;> rfl
  ·rw[ig ps xs];cases dj st ps xs <;> rfl
theorem lT {a:Ty}:∀ {ls:List Leaf} {j k:Nat},mc a j ls=some k->j<=k/\∃ l,ls[k-j]?=some l/\jZ l=true
 |[],_,_,h=>by simp[mc]at h
 |l::ls,j,k,h=>by
  simp only[mc]at h;cases r:jZ l&&qy a j with
  |true =>
   rw[r]at h;simp only[cond_true,FJ]at h;subst h;simp only[FL]at r;exact⟨F3 _,l,by simp,r.1⟩
  |false =>
   rw[r]at h;obtain⟨H,z,u,y⟩:=lT h;exact⟨by omega,z,by rw[show k-j=(k-(j+1))+1 by omega];simpa using u,y⟩
theorem sO {p:PK}{ls:List Leaf}{k:Nat}(h:p.nest ls=some k):∃ l,ls[k]?=some l/\jZ l=true:=by
 cases p with
 |own a=>obtain⟨_,l,r,u⟩:=lT h;exact⟨l,by simpa using r,u⟩
 |io a=>obtain⟨_,l,r,u⟩:=lT h;exact⟨l,by simpa using r,u⟩
 |_=>simp[PK.nest]at h
theorem uR (u:aA V){W W':Wit}{st':St}{w w':World}(y:cP V W W' st st' w w'):∀ {xs:List (aK×List Leaf)} {z:List Value},iB P V W st w xs z->iB P V W' st' w' xs z
 |[],_,h=>h
 |_::_,_,⟨v,r,H,e,I,J,M⟩=>⟨v,r,H,e,I,J.carry u.ro y,uR u y M⟩
theorem aG.setLeaf {W:Wit}{w:World}{ls:List Leaf}{cs:List Value}(z:aG P V W st w ls cs){k:Nat}{l:Leaf}(H:¬ ao l)(h:∀ v,cs[k]?=some v->aM P V W st w [] l v):aG P V W st w (aV ls k l) cs:=by
 have r:=z.length;refine aG.mk (by simp[aV,r]) λj J v u y=>?_
 rcases aU _ _ _ _ _ u with ⟨rfl,rfl,M⟩|⟨I,u⟩
 ·exact⟨h v y,H,z.one' v (List.mem_of_getElem? y)⟩
 ·exact z.at_ j J v u y
def CW (W:Wit)(S:St)(w:World):Option (Bool×Nat×Nat)->Prop
 |some (_,r,j)=>∃ v,W.cs TMP=[v]/\uM W S w r j v
 |none=>True
theorem pE (X:aA V){W:Wit}{a:Act}{w:World}(h:ap P V W st a w):∀ (ps:List PK) (xs:List (aK×List Leaf)) (Z:List Value) (U:Upd) (ys:List (aK×List Leaf)) (b:Option (Bool×Nat×Nat)),
  iB P V W st w xs Z->dj st ps xs=some (U,ys,b)->∃ H,ap P V H (ac U st) a w/\iB P V H (ac U st) w ys Z/\H.nw=W.nw/\H.β=W.β/\CW H (ac U st) w b/\cP V W H st (ac U st) w w/\(∀ q,(ac U st q).sh=(st q).sh\/q=TMP) /\
   (∀ f r j,b=some (f,r,j)->f=true->ps.any PK.isIo=true)
 |[],xs,Z,U,ys,b,hx,y=>by
  simp only[dj,FJ,GK]at y;obtain⟨rfl,rfl,rfl⟩:=y;exact⟨W,h,hx,rfl,rfl,trivial,cP.refl V W st w,λ_=>.inl rfl,λ_ _ _ h=>by cases h⟩
 |_::_,[],Z,U,ys,b,hx,y=>by
  simp only[dj,FJ,GK]at y;obtain⟨rfl,rfl,rfl⟩:=y;exact⟨W,h,hx,rfl,rfl,trivial,cP.refl V W st w,λ_=>.inl rfl,λ_ _ _ h=>by cases h⟩
 |p::ps,x::xs,Z,U,ys,b,⟨v,M,cs,e,hs,hl,z⟩,y=>by
  subst e;simp only[dj]at y;split at y
  ·rename_i k hk;simp only[FK]at y;obtain⟨u,I,y⟩:=y;simp only[GK]at y;obtain⟨rfl,rfl,rfl⟩:=y;obtain⟨l,J,a1⟩:=sO hk;have hg:x.2.getD k .dead=l:=by rw[GM,J];rfl
   rw[hg]at I ⊢;have a0:k<cs.length:=by rw[<- hl.length];exact (FM.1 J).1
   have Y:=F1 a0;obtain⟨U,l'⟩:=u;obtain⟨H,n,p0,E0,e0,a2,g1,O,g3,g4,_,_,g5,g6,_,g7,g8,g9⟩:=wA X h (hl.at_ k l _ J Y).1 I;subst g3;refine⟨H,g1,⟨v,M,cs,rfl,hs,(hl.carry X.ro O).setLeaf id λu I=>?_,uR X O z⟩,g5,g6,⟨_,g7,g9⟩,O,g8,λf r j hb hf=>?_⟩
   ·rw[Y]at I;simp only[FJ]at I;subst I;exact g4
   ·simp only[FJ,GK]at hb;rw[Gh,hb.1,hf];rfl
  ·simp only[FK]at y;obtain⟨u,I,y⟩:=y;simp only[GK]at y;obtain⟨rfl,rfl,rfl⟩:=y;obtain⟨H,g1,O,g3,g4,g5,g6,g7,g8⟩:=pE X h ps xs M u.1 u.2.1 u.2.2 z I;exact⟨H,g1,⟨v,M,cs,rfl,hs,hl.carry X.ro g6,O⟩,g3,g4,g5,g6,g7,λf r j hb hf=>by rw[Gh,g8 f r j hb hf,Bool.or_true]⟩
end
section
variable {P:Program} {V:Env} {Γ:List Ctr} {st:St}
theorem jq {st:St}{q i:Nat}:∀ {ks:List (Nat×Nat)},(q,i)∉ks->(ac (aI st ks) st q).ls[i]?=(st q).ls[i]?
 |[],_=>rfl
 |(r,j)::ks,h=>by
  simp only[GZ,not_or]at h;have e:ac (aI st ((r,j)::ks)) st=ac [(r,gF (ac (aI st ks) st r) j)] (ac (aI st ks) st):=aR _ _ _ _;rw[e];rcases an r q (gF (ac (aI st ks) st r) j) (ac (aI st ks) st) with ⟨rfl,e⟩|⟨_,e⟩
  ·rw[e];simp only[gF,aV];rw[GW (λu=>h.1 (by rw[u]))];exact jq h.2
  ·rw[e];exact jq h.2
theorem lU {st:St}{q i:Nat}:∀ {ks:List (Nat×Nat)},(q,i)∉ks->(ac (aP st ks) st q).ls[i]?=(st q).ls[i]?
 |[],_=>rfl
 |(r,j)::ks,h=>by
  simp only[GZ,not_or]at h;have e:ac (aP st ((r,j)::ks)) st=ac [(r,gL (ac (aP st ks) st r) j)] (ac (aP st ks) st):=aR _ _ _ _;rw[e];rcases an r q (gL (ac (aP st ks) st r) j) (ac (aP st ks) st) with ⟨rfl,e⟩|⟨_,e⟩
  ·rw[e];simp only[gL,aV];rw[GW (λu=>h.1 (by rw[u]))];exact lU h.2
  ·rw[e];exact lU h.2
theorem oA (d n:Nat)(p q:Bool)(ks:List (Nat×Nat×Nat))(ep:Nat):∀ (z:List RK) (y:ai z),∀ x∈(bJ d n p q ks ep z y).2,x.1=B0+d
 |[],_,x,u=>by simp[bJ]at u
 |r::z,y,x,u=>by
  simp only[bJ,FU]at u;rcases u with u|u
  ·cases r <;> simp[qx]at u;rw[u]
  ·exact oA d n p q ks ep z y.2 x u
theorem sP {q:Nat}(st:St):∀ (U:Upd),(∀ x∈U,x.1≠q)->ac U st q=st q
 |[],_=>rfl
 |(r,c)::U,h=>by
  rw[aR,aL (GX (h (r,c) (F5 ..)))];exact sP st U (λx u=>h x (FY _ u))
def nq (u:St)(c:Ctr)(d:Nat)(xs:List (aK×List Leaf))(g:Got (ab c.ps))(y:ai c.rs×ag c.ps):Upd :=
 let H:=(let U:=(bif c.fresh then [] else aI u g.frz);aP (ac U u) g.kill++U);let z:=aJ (ac H u) (g.p&&!c.fresh) c.ps xs y.2++H;let r:=bJ d (ac z u (B0+d)).ver (g.p&&!c.fresh) g.p (g.frz.map λk=>(k.1,k.2,(ac z u k.1).ver)) (ac z u EPO).ver c.rs y.1
 (d,fp ((ac (r.2++z) u d).ver+1) r.1)::(r.2++z)
theorem AH (hV:aA V){W0:Wit}{u:St}{a:Act}{w:World}(h0:ap P V W0 u a w){c:Ctr}{xs:List (aK×List Leaf)}{vs:List Value}(e0:iB P V W0 u w xs vs){g:Got (ab c.ps)}(hg:bf (co Γ u) c.ps xs=some g)
  (hf:∀ z∈g.frz,aF u z) (H:∀ z∈g.kill,aF u z) (eb:∀ b∈g.lend,live u b) (cx:bc g.kill=true) (cb:dO g.frz g.kill=true) (hE:∀ z∈g.kill,z.1≠EPO) (ad:g.lend.length<=1) (e6:g.lend=[]\/c.ps.any PK.isIo=false)
  {b1:List (List Nat)} (b5:∀ k,b1.flatten.count k=(g.lend.map W0.β).count k+(aZ W0 g.kill).count k)
  {d:Nat} (hd:d<V.nt) (cy:∀ x∈V.fixt,x.1≠d) (a3:il u d c.rs=true) (cu:((c.fresh&&g.lend.isEmpty)||!(c.rs.any RK.isBv))=true) {y:ai c.rs×ag c.ps} {e:Ending} {w':World} (bx:uN c w (br V W0 g.p g.frz) vs b1 y e w') :
  ∃ v,e=.returned v/\∃ W1,ap P V W1 (ac (nq u c d xs g y) u) (a.put (some d) v) w'/\(∀ q,q≠d->q≠B0+d->q∉g.lend->W1.cs q=W0.cs q) /\
   (∀ q i,q≠d->q≠B0+d->q∉g.lend->(q,i)∉g.frz->(q,i)∉g.kill->(ac (nq u c d xs g y) u q).ls[i]?=(u q).ls[i]?)/\(∀ k,k<w.heap.size->k∉aZ W0 g.kill->k∉g.lend.map W0.β->w'.heap[k]?=w.heap[k]?)/\w.heap.size<=w'.heap.size:=by
 obtain⟨v,us,N,c5,b4,rfl,dc,c3,d4,dd,d5,e5,hN,ba,d6,Y,a0⟩:=bx;have a5:∀ k,k∈b1.flatten<->k∈g.lend.map W0.β\/k∈aZ W0 g.kill:=λk=>by
  rw[<- FT,<- FT,<- FT,b5 k];omega
 have Z:∀ k,k<w.heap.size->k∉aZ W0 g.kill->k∉g.lend.map W0.β->w'.heap[k]?=w.heap[k]?:=λk h1 h2 h3=>e5 k h1 (λh=>((a5 k).1 h).elim h3 h2)
 refine⟨v,rfl,?_⟩;unfold nq;generalize b2:(bif c.fresh then [] else g.frz)=O;have hU:(bif c.fresh then [] else aI u g.frz)=aI u O:=by rw[<- b2];cases c.fresh <;> rfl
 have cc:dO O g.kill=true:=by rw[<- b2];cases c.fresh with|true=>rfl|false=>exact cb
 have b6:∀ z∈O,z∈g.frz:=by rw[<- b2];cases c.fresh with|true=>simp|false=>exact λ_ h=>h
 have ej:∀ z∈O,aF u z:=λz hz=>hf z (b6 z hz)
 rw[hU];obtain⟨h1,h2,h3,h4⟩:=gp hV h0 cc H;have aw:∀ q i,(q,i)∉g.frz->(q,i)∉g.kill->(ac (aP (ac (aI u O) u) g.kill++aI u O) u q).ls[i]?=(u q).ls[i]?:=λq i q1 q2=>by
  rw[bH,lU q2,jq (λh=>q1 (b6 _ h))]
 generalize eg:aP (ac (aI u O) u) g.kill++aI u O=I at h1 h2 h3 h4 aw;have a2:∀ k∈aZ W0 g.kill,¬ cq V (W0.frz u O) (ac I u) k:=λk H=>nk ⟨(h4 k H).1,(h4 k H).2.1,(h4 k H).2.2.2.1,(h4 k H).2.2.2.2⟩
 have a1:∀ k,ra w w' b1.flatten k->k∉g.lend.map W0.β->k<w'.heap.size/\¬ cq V (W0.frz u O) (ac I u) k:=by
  rintro k ⟨e7,a6⟩ ea;refine⟨e7,λM=>?_⟩;rcases a6 with a6|a6
  ·have:=h1.used_lt k M;omega
  ·exact ((a5 k).1 a6).elim ea (λa6=>a2 k a6 M)
 have hG:∀ k,(N k\/(c.fresh=false/\br V W0 g.p g.frz k))->gd V { W0.frz u O with nw:=λk=>(W0.frz u O).nw k\/N k } (g.p&&!c.fresh) k:=by
  rintro k (H|⟨d1,H⟩)
  ·exact .inl (.inr H)
  ·have e1:O=g.frz:=by rw[<- b2,d1];rfl
   have:=kZ (V:=V) (W:=W0) (p:=g.p) hf k H;rw[d1];rw[<- e1]at this;exact b8 (W':={ W0.frz u O with nw:=λk=>(W0.frz u O).nw k\/N k }) (by intro h;simp[h]) (λ_ h=>Or.inl h) k this
 rw[GO]at Y;have bl:∀ (W2:Wit),ap P V W2 (ac (aJ (ac I u) (g.p&&!c.fresh) c.ps xs y.2++I) u) a w'->(∀ k,(N k\/(c.fresh=false/\br V W0 g.p g.frz k))->gd V W2 (g.p&&!c.fresh) k) ->
   (∀ k∈b4.flatten,¬ cq V W2 (ac (aJ (ac I u) (g.p&&!c.fresh) c.ps xs y.2++I) u) k) ->
   (c.rs.any RK.isBv=true->∀ x∈g.frz,∀ k,k∈W0.bs x.1 x.2->k∈W2.bs x.1 x.2)->(c.rs.any RK.isBv=true->∀ k,W0.nw k->W2.nw k) ->
   (∀ q,q∉g.lend->W2.cs q=W0.cs q)->(∀ q i,q∉g.lend->(q,i)∉g.frz->(q,i)∉g.kill->(ac (aJ (ac I u) (g.p&&!c.fresh) c.ps xs y.2++I) u q).ls[i]?=(u q).ls[i]?) ->
   (∀ q,(ac (aJ (ac I u) (g.p&&!c.fresh) c.ps xs y.2++I) u q).sh=(u q).sh) ->
   ∃ W1,ap P V W1 (ac (let R:=aJ (ac I u) (g.p&&!c.fresh) c.ps xs y.2++I
     let r:=bJ d (ac R u (B0+d)).ver (g.p&&!c.fresh) g.p (g.frz.map λk=>(k.1,k.2,(ac R u k.1).ver)) (ac R u EPO).ver c.rs y.1
     (d,fp ((ac (r.2++R) u d).ver+1) r.1)::(r.2++R)) u) (a.put (some d) v) w'/\(∀ q,q≠d->q≠B0+d->q∉g.lend->W1.cs q=W0.cs q) /\
    (∀ q i,q≠d->q≠B0+d->q∉g.lend->(q,i)∉g.frz->(q,i)∉g.kill->(ac (let R:=aJ (ac I u) (g.p&&!c.fresh) c.ps xs y.2++I
     let r:=bJ d (ac R u (B0+d)).ver (g.p&&!c.fresh) g.p (g.frz.map λk=>(k.1,k.2,(ac R u k.1).ver)) (ac R u EPO).ver c.rs y.1
     (d,fp ((ac (r.2++R) u d).ver+1) r.1)::(r.2++R)) u q).ls[i]?=(u q).ls[i]?):=by
  intro W2 g1 c6 a4 cp d3 cw b9 bb;generalize aJ (ac I u) (g.p&&!c.fresh) c.ps xs y.2++I=R at g1 a4 b9 bb ⊢;have bn:il (ac R u) d c.rs=true:=by
   unfold il at a3 ⊢;split at a3
   ·rw[bb];exact a3
   ·exact a3
  obtain⟨W1,q1,q2⟩:=xN hV g1 (q:=g.p) (ks:=g.frz.map λk=>(k.1,k.2,(ac R u k.1).ver)) (ep:=(ac R u EPO).ver) d6 c6 (λhb=>by
   refine⟨λk H=>?_,F3 _,λk H=>?_⟩
   ·rcases H with H|(H|H)|⟨x,hx,H⟩
    ·exact .inl (b8 (W':=W2) (by intro h;simp at h;exact h.1) (λ_ h=>h) k (c6 k H))
    ·exact .inl (.inl (d3 hb k H))
    ·exact .inl (.inr H)
    ·exact .inr ⟨(x.1,x.2,(ac R u x.1).ver),G0.2 ⟨x,hx,rfl⟩,cp hb x hx k H⟩
   ·obtain⟨x,hx,rfl⟩:=G0.1 H;exact F3 _) a4 Y.2.1 dc hd cy bn
  have e1:∀ (X:Upd) (C:b7),ac ((d,C)::(X++R)) u=ac ((d,C)::X) (ac R u):=λX C=>by
   rw[aR d C (X++R),aR d C X,bH]
  simp only[e1,bH];refine⟨W1,q1,λq hq c0 c1=>(q2 q hq c0).trans (cw q c1),λq i hq c0 c1 az a7=>?_⟩;rw[aR,aL hq,sP _ _ (λx hx=>by rw[oA _ _ _ _ _ _ _ _ x hx];exact GX c0)];exact b9 q i c1 az a7
 refine (?_:∃ W1,_/\_/\_).imp λW1 hh=>⟨hh.1,hh.2.1,hh.2.2,Z,c3⟩
 cases J:g.lend with
 |nil =>
  rw[J]at a5 Z a1 b5;simp only[HI,List.not_mem_nil,not_false_iff,true_implies,forall_const,false_or]at a5 Z a1;rw[J]at bl;have h5:=h1.world hV c3 d4 dd d5 (λk H=>Z k (h1.used_lt k H) (λhm=>a2 k hm H));have h6:=h5.nwGrow hV N (λk H=>a1 k (hN k H));have c4:∀ k,cq V { W0.frz u O with nw:=λk=>(W0.frz u O).nw k\/N k } (ac I u) k->cq V (W0.frz u O) (ac I u) k\/N k:=by
   rintro k ((H|H)|H|H|H)
   ·exact .inl (.inl H)
   ·exact .inr H
   ·exact .inl (.inr (.inl H))
   ·exact .inl (.inr (.inr (.inl H)))
   ·exact .inl (.inr (.inr (.inr H)))
  have ay:∀ k∈c5.flatten++b4.flatten,¬ cq V { W0.frz u O with nw:=λk=>(W0.frz u O).nw k\/N k } (ac I u) k:=λk H M=>by
   obtain⟨q1,q2⟩:=a0 k H;rcases c4 k M with M|M
   ·exact (a1 k q1).2 M
   ·exact q2 M
  obtain⟨W2,g1,g2,g3,g4,g5,g6,g7⟩:=rX (Γ:=Γ) hV (W0:=W0) (W:={ W0.frz u O with nw:=λk=>(W0.frz u O).nw k\/N k }) (p:=g.p&&!c.fresh) rfl hG h6 c.ps xs vs g y.2 c5 e0 hg (uQ c.ps xs g hg J) ba cx hE
   (λx hx l hl ho=>(h2 x.1 x.2 l hl ho).2.2 hx) (λk H=>ay k (FS _ H)) Y.1
  rw[<- bH]at g1 g5 g6 g7;refine bl W2 g1 (λk H=>?_) (λk H M=>?_) (λhb x hx k H=>?_) (λhb k H=>?_) (λq _=>by rw[g2];rfl) (λq i _ az a7=>(g6 q i a7).1.trans (aw q i az a7)) (λq=>(g5 q).1.trans (h3 q).1)
  ·rcases hG k H with H|H
   ·exact .inl (by rw[g4];exact H)
   ·exact .inr H
  ·rcases g7 k M with M|M
   ·exact ay k (FN _ H) M
   ·exact Y.2.2 k M k H rfl
  ·rw[(g6 x.1 x.2 (oU cb x hx)).2];exact H
  ·rw[g4];exact .inl (.inl H)
 |cons b e4 =>
  have c2:e4=[]:=by
   rw[J]at ad;simp at ad;exact ad
  subst c2;have ef:c.ps.any PK.isIo=false:=e6.resolve_left (by rw[J];simp);have d2:c.rs.any RK.isBv=false:=by
   rw[J]at cu;simpa using cu
  obtain⟨_,r2⟩:=qe (Γ:=Γ) h0 (S:=ac I u) (p:=g.p&&!c.fresh) c.ps xs vs g y.2 c5 e0 hg ef ba;obtain⟨cT,yv,cs,E,b0,r3,r4,r5,r6,r7⟩:=r2 b J;rw[r6]at Y a0;have hβ:(W0.frz u O).β=W0.β:=rfl;have b3:∀ k,k∈g.lend.map W0.β<->k=W0.β b:=λk=>by rw[J];simp
  have hb:live (ac I u) b:=(jh (λq=>(h3 q).1) b).2 (eb b (by rw[J];simp));have bo:∀ k,k∈(W0.β b::b0)++b4.flatten->¬ N k:=λk H=>(a0 k H).2
  obtain⟨W2,g1,g2,g3,g4,g5,g6⟩:=AG hV h1 hb (N:=N) (p:=g.p&&!c.fresh) r4 r5 Y.1 (by rw[h1.len b];show (W0.cs b).length=_;rw[<- h0.len b];exact r7)
   (λk M ed=>Z k (h1.used_lt k M) (λhm=>a2 k hm M) (λhm=>ed ((b3 k).1 hm))) c3 d4 dd d5
   (λk H=>a1 k (hN k H) (λhm=>bo _ (FS _ (F5 ..)) (by rw[<- (b3 k).1 hm];exact H)))
   (λk H=>⟨(a1 k (a0 k (FS _ (FY _ H))).1 (λhm=>by
    have:=(b3 k).1 hm;subst this;exact (GS.1 Y.1).1 H)).2,bo k (FS _ (FY _ H))⟩) hG
  have e2:ac (aJ (ac I u) (g.p&&!c.fresh) c.ps xs y.2++I) u=ac [(b,⟨(ac I u b).ver+2,.agg,aq (g.p&&!c.fresh) cT yv⟩)] (ac I u):=by rw[bH,r3]
  have ec:∀ k∈b4.flatten,k∉g.lend.map W0.β:=λk H hm=>Y.2.2 _ (F5 ..) k H ((b3 k).1 hm).symm
  rw[<- e2]at g1 g6;have a9:=bl W2 g1 (λk H=>?_) (λk H M=>?_) (λa8=>by rw[d2]at a8;cases a8) (λa8=>by rw[d2]at a8;cases a8) (λq hq=>?_) (λq i hq az a7=>?_) (λq=>?_)
  ·rw[J]at a9;exact a9
  ·rcases hG k H with H|H
   ·exact .inl ((g3 k).2 H)
   ·exact .inr H
  ·rcases g6 k M with M|M|M
   ·exact (a1 k (a0 k (FN _ H)).1 (ec k H)).2 M
   ·exact bo k (FN _ H) M
   ·exact Y.2.2 k (FY _ M) k H rfl
  ·rw[J]at hq;rw[g4 q (by simpa using hq)];rfl
  ·rw[J]at hq;rw[e2,aL (by simpa using hq)];exact aw q i az a7
  ·rw[e2];rcases an b q ⟨(ac I u b).ver+2,.agg,aq (g.p&&!c.fresh) cT yv⟩ (ac I u) with ⟨rfl,e3⟩|⟨_,e3⟩
   ·rw[e3];have:=hb.2;rw[(h3 q).1]at this;exact this.symm
   ·rw[e3];exact (h3 q).1
end
section
variable {P:Program} {V:Env} {Γ:List Ctr} {T:TypeId->TI} {st:St} {o:Oper} {R:Type} {κ:Upd->Option R} {r:R}
theorem AI {ls:List Leaf}{j:Nat}{p:Bool}{u:Option (Nat×Nat)}{E:TypeId}{e:Ty}{xs:List e.den}(h:ls.getD j .dead=.own p u E e xs):ls[j]?=some (.own p u E e xs):=by
 rw[GM]at h;cases y:ls[j]? with
 |none=>rw[y]at h;simp at h
 |some z=>rw[y]at h;simp at h;rw[h]
theorem Ca (hV:aA V){b:Option (Bool×Nat×Nat)}{U:Upd}(h:kD st b U κ=some r) :
  ∃ U',κ U'=some r/\∀ I a w,ap P V I (ac U st) a w->(∀ q j,b=some (true,q,j)->∃ v,I.cs TMP=[v]/\uM I (ac U st) w q j v)->Rel P V (ac U' st) a w:=by
 unfold kD at h;split at h
 ·rename_i q j;split at h
  ·rename_i p i off E' e' xs q' E e ys hq b4;obtain⟨y,hy,h⟩:=GD.1 h;obtain⟨_,_,hy⟩:=gT hy;simp only[HJ]at hy;split at h
   ·rename_i z hz;refine⟨_,h,λI a w hr hb=>?_⟩;obtain⟨v,ba,a4,bn,i0,b5,p0,E0,e0,bo,g,c0,g1,g2,g3,g4⟩:=hb q j rfl;have hq:=AI hq;rw[hq]at g1;obtain⟨rfl,b0,rfl,h4⟩:p=p0/\some (i,off)=some (i0,b5)/\E'=E0/\(⟨e',xs⟩:(e:Ty)×List e.den)=⟨e0,bo⟩:=by
     simp only[FJ,Leaf.own.injEq]at g1;obtain⟨q1,q2,q3,q4,q5⟩:=g1;subst q4;rw[heq_eq_eq]at q5;subst q5;exact⟨q1,by simpa using q2,q3,rfl⟩
    simp only[FJ,GK]at b0;obtain⟨rfl,rfl⟩:=b0;simp only[Sigma.mk.injEq]at h4;obtain⟨rfl,h4⟩:=h4;rw[heq_eq_eq]at h4;subst h4;generalize hS:ac U st=S at hr hq g1 g2 g3 b4 ⊢;have a7:(S TMP).ls[0]?=some (.own q' none E e ys):=by rw[b4];rfl
    have az:(I.cs TMP)[0]?=some v:=by rw[ba];rfl
    have ay:=hr.leaf q j _ _ hq g2;have aw:=hr.leaf TMP 0 _ _ a7 az;have ay:OwH w (gd V I p) (some (i,off)) E' e' xs _ (I.bs q j):=ay;have aw:Ow w (gd V I q') E e ys v (I.bs TMP 0):=aw;have b2:=ay.carry (G':=gd V I (p||q')) (b8 (W':=I) (by intro h;simp[h]) (λ_ h=>h)) (λ_ _=>rfl) (λ_ _=>rfl);have b1:=OwH.carry (G':=gd V I (p||q')) aw (b8 (W':=I) (by intro h;simp[h]) (λ_ h=>h)) (λ_ _=>rfl) (λ_ _=>rfl);have bb:∀ k∈I.bs TMP 0,k∉I.bs q j:=λk M a0=>a4 (hr.sep TMP 0 _ q j _ a7 trivial hq trivial k M a0).1.symm
    obtain⟨a9,b6,b9⟩:=b2.back b1 bb hy hz (λg' bx e1=>by
     simp only[GF,FJ,Gr,and_true]at e1;rw[<- e1.1];exact g4)
    have bl:∀ k∈a9,k∈I.bs q j\/k∈I.bs TMP 0:=λk M=>by
     have h5:=b9 k;have h6:=FT.2 M;by_cases h7:k∈I.bs q j
     ·exact .inl h7
     ·have:=F8.2 h7;exact .inr (FT.1 (by omega))
    obtain⟨h1,c1⟩:=hr.putGhost hV TMP jD.1 jD.2.1 ((S TMP).ver+1) .off [] [] (λ_=>[]) (FV _) rfl (by simp) (λj l u hj=>by simp at hj) (λj l hj=>by simp at hj) (λj j' l l' hj=>by simp at hj);have a5:∀ x,x≠TMP->ac [(TMP,⟨(S TMP).ver+1,.off,[]⟩)] S x=S x:=λx hx=>aL hx _ _
    have a8:(ac [(TMP,⟨(S TMP).ver+1,.off,[]⟩)] S) q=S q:=a5 q a4;have H:∀ (X:Nat) (l':Leaf),X≠j->(aV (S q).ls j (.own (p||q') none E' e' (xs.set i z)))[X]?=some l'->(S q).ls[X]?=some l':=by
     intro X l' a3 a1;rcases aU _ _ _ _ _ a1 with ⟨rfl,_,_⟩|⟨_,a1⟩
     ·exact absurd rfl a3
     ·exact a1
    have b3:∀ (l':Leaf),(aV (S q).ls j (.own (p||q') none E' e' (xs.set i z)))[j]?=some l'->l'=.own (p||q') none E' e' (xs.set i z):=by
     intro l' a1;rcases aU _ _ _ _ _ a1 with ⟨_,rfl,_⟩|⟨a3,_⟩
     ·rfl
     ·exact absurd rfl a3
    have a6:∀ b,live (ac [(TMP,⟨(S TMP).ver+1,.off,[]⟩)] S) b->live S b:=λb hb=>by
     have:b≠TMP:=by have:=hb.1;have:=jD.2.1;omega
     exact⟨hb.1,by rw[<- a5 b this];exact hb.2⟩
    have ad:∀ k∈a9,¬ I.nw k/\¬ V.prot k/\(∀ b,live S b->I.β b≠k)/\∀ (Y i1:Nat) (l1:Leaf),(S Y).ls[i1]?=some l1->ao l1->(Y,i1)≠(q,j)->Y≠TMP->k∉I.bs Y i1:=λk M=>by
     rcases bl k M with M|M
     ·have h9:=hr.ownb q j _ hq trivial k M;exact⟨h9.1,h9.2.1,h9.2.2,λY i1 l1 g5 Z g7 _ g8=>g7 (by obtain⟨e1,e2⟩:=hr.sep Y i1 l1 q j _ g5 Z hq trivial k g8 M;rw[e1,e2])⟩
     ·have h9:=hr.ownb TMP 0 _ a7 trivial k M;exact⟨h9.1,h9.2.1,h9.2.2,λY i1 l1 g5 Z _ g7 g8=>g7 (hr.sep Y i1 l1 TMP 0 _ g5 Z a7 trivial k g8 M).1⟩
    have h2:=(h1.reownE hV q ⟨(S q).ver,(S q).sh,aV (S q).ls j (.own (p||q') none E' e' (xs.set i z))⟩ (λX=>if X=j then a9 else I.bs q X) bn (by rw[a8];exact F3 _) (by rw[a8]) (by rw[a8];simp[aV])
     (λX l' u g5 Z=>by
      have Z:(if q=TMP then [] else I.cs q)[X]?=some u:=Z;rw[if_neg a4]at Z;by_cases J:X=j
      ·subst J;obtain rfl:=b3 l' g5;rw[g2]at Z;simp only[FJ]at Z;subst Z;simp only[if_true];exact b6
      ·simp only[if_neg J];have:=h1.leaf q X l' u (by rw[a8];exact H X l' J g5) (by show (if q=TMP then [] else I.cs q)[X]?=_;rw[if_neg a4];exact Z);have e0:(if q=TMP then ([]:List Nat) else I.bs q X)=I.bs q X:=if_neg a4;simp only[e0]at this;exact this)
     (λX l' g5 Z k M=>by
      by_cases J:X=j
      ·subst J;simp only[if_true]at M;obtain⟨q1,q2,q3,q4⟩:=ad k M;refine⟨q1,q2,λb hb=>q3 b (a6 b hb),λY j1 l1 a3 g7 g8 g9=>?_⟩;by_cases a2:Y=TMP
       ·subst a2;rw[bm]at g7;simp at g7
       ·rw[a5 Y a2]at g7;have g9:k∈(if Y=TMP then [] else I.bs Y j1):=g9;rw[if_neg a2]at g9;exact q4 Y j1 l1 g7 g8 (λe=>a3 (by cases e;rfl)) a2 g9
      ·simp only[if_neg J]at M;have a1:=H X l' J g5;have h9:=hr.ownb q X l' a1 Z k M;refine⟨h9.1,h9.2.1,λb hb=>h9.2.2 b (a6 b hb),λY j1 l1 a3 g7 g8 g9=>?_⟩;by_cases a2:Y=TMP
       ·subst a2;rw[bm]at g7;simp at g7
       ·rw[a5 Y a2]at g7;have g9:k∈(if Y=TMP then [] else I.bs Y j1):=g9;rw[if_neg a2]at g9;exact a3 (hr.sep q X l' Y j1 l1 a1 Z g7 g8 k M g9).1.symm)
     (λi1 i2 l1 l2 g5 Z g7 g8 k M a0=>by
      by_cases J:i1=j <;> by_cases O:i2=j
      ·omega
      ·subst J;simp only[if_true]at M;simp only[if_neg O]at a0;exact absurd a0 ((ad k M).2.2.2 q i2 l2 (H i2 l2 O g7) g8 (λe=>O (by cases e;rfl)) a4)
      ·subst O;simp only[if_true]at a0;simp only[if_neg J]at M;exact absurd M ((ad k a0).2.2.2 q i1 l1 (H i1 l1 J g5) Z (λe=>J (by cases e;rfl)) a4)
      ·simp only[if_neg J]at M;simp only[if_neg O]at a0;exact (hr.sep q i1 l1 q i2 l2 (H i1 l1 J g5) Z (H i2 l2 O g7) g8 k M a0).2)).1
    show ∃ W,ap P V W _ a w;have e1:ac ((q,⟨(S q).ver,(S q).sh,aV (S q).ls j (.own (p||q') none E' e' (xs.set i z))⟩)::(TMP,⟨(S TMP).ver+1,.off,[]⟩)::(EPO,ca (S EPO))::U) st =
      ac [(q,⟨(S q).ver,(S q).sh,aV (S q).ls j (.own (p||q') none E' e' (xs.set i z))⟩),(EPO,ca (ac [(TMP,⟨(S TMP).ver+1,.off,[]⟩)] S EPO))] (ac [(TMP,⟨(S TMP).ver+1,.off,[]⟩)] S):=by
     rw[a5 EPO (GX jD.2.2),aR q,aR TMP,aR EPO,hS,aR q _ [(EPO,ca (S EPO))],oh jD.2.2]
    rw[e1];exact⟨_,h2⟩
   ·cases h
  ·cases h
 ·exact⟨_,h,λI a w hr _=>⟨I,hr⟩⟩
theorem wE (hV:aA V)(hΓ:∀ c∈Γ,bI P c){d:Nat}(hd:d<V.nt)(cc:∀ x∈V.fixt,x.1≠d){f:FuncId}{xs:List (aK×List Leaf)}(h:j0 Γ st d f xs κ=some r) :
  fR P f/\∃ U,κ U=some r/\∀ W a w,ap P V W st a w->∀ vs,iB P V W st w xs vs->Calls P f vs.toArray w (λe w'=>∃ v,e=.returned v/\Rel P V (ac U st) (a.put (some d) v) w'):=by
 unfold j0 at h;split at h
 ·rename_i c hc;obtain⟨cw,rfl⟩:=oy hc;obtain⟨cb,aw⟩:=hΓ c cw;refine⟨cb,?_⟩;rw[ig]at h;obtain⟨⟨U0,ys,b⟩,bo,h⟩:=GD.1 h;simp only at h;split at h
  ·rename_i g hg;cases J:bc g.kill&&dO g.frz g.kill&&il st d c.rs&&!(g.see.any λq=>g.lend.any (F2 q))&&Gw g.lend.length 1&&(g.lend.isEmpty||!(c.ps.any PK.isIo))&&((c.fresh&&g.lend.isEmpty)||!(c.rs.any RK.isBv))&&(g.kill.all λk=>!F2 k.1 EPO)&&pQ b g.frz g.kill d with
   |false=>rw[J]at h;cases h
   |true =>
    rw[J]at h;simp only[cond_true]at h;simp only[FL]at J;obtain⟨⟨⟨⟨⟨⟨⟨⟨az,c2⟩,I⟩,b4⟩,M⟩,cp⟩,e7⟩,hE⟩,cx⟩:=J;obtain⟨y,hy,h⟩:=GD.1 h;obtain⟨U',e5,b9⟩:=Ca (P:=P) (V:=V) hV h;refine⟨U',e5,λW a w hr vs eq=>?_⟩;obtain⟨W0,O,c0,ex,hβ0,c5,d5,b5,c4⟩:=pE hV hr c.ps xs vs U0 ys b eq bo;generalize a8:ac U0 st=S0 at O c0 c5 d5 b5 hg;obtain⟨⟨a6,b6,a0⟩,hf,hk,a2⟩:=lj (vU hV hΓ O) c.ps ys vs g c0 hg;have hE:∀ z∈g.kill,z.1≠EPO:=λz hz e0=>by
     have:=List.all_eq_true.1 hE z hz;rw[e0]at this;simp at this
    have M:g.lend.length<=1:=GU M;have b0:g.lend=[]\/c.ps.any PK.isIo=false:=by
     simp only[Hd,HR,F7]at cp;exact cp
    have bn:∀ k,k∈a6.flatten<->k∈g.lend.map W0.β\/k∈aZ W0 g.kill:=λk=>by
     rw[<- FT,<- FT,<- FT,a0 k];omega
    have a5:∀ k,kw V W0 S0 g.frz g.see k->k<w.heap.size/\k∉a6.flatten:=by
     intro k H;refine⟨O.used_lt k (sN hf k H),λZ=>?_⟩;rcases (bn k).1 Z with Z|Z
     ·obtain⟨b',X,rfl⟩:=G0.1 Z;have c6:=O.box b' (a2 b' X);rcases H with H|H|⟨b2,c3,a1,e2⟩|⟨z,hz,H⟩
      ·exact c6.1 H
      ·exact c6.2 H
      ·have:=O.inj b2 b' a1 (a2 b' X) e2;subst this;simp only[F7,GE]at b4;have:=b4 b2 c3;rw[Bool.not_eq_true,GE]at this;have:=this b2 X;simp at this
      ·obtain⟨l,hl,ho⟩:=hf z hz;exact (O.ownb z.1 z.2 l hl ho _ H).2.2 b' (a2 b' X) rfl
     ·obtain⟨z,hz,Y⟩:=gS.1 Z;obtain⟨l,hl,ho⟩:=hk z hz;have a3:=O.ownb z.1 z.2 l hl ho k Y;rcases H with H|H|⟨b2,c3,a1,e2⟩|⟨z',d6,H⟩
      ·exact a3.1 H
      ·exact a3.2.1 H
      ·exact a3.2.2 b2 a1 e2
      ·obtain⟨l',ed,eg⟩:=hf z' d6;obtain⟨e1,e2⟩:=O.sep z.1 z.2 l z'.1 z'.2 l' hl ho ed eg k Y H;exact oU c2 z' d6 (by rw[show z'=z from Hm e1.symm e2.symm];exact hz)
    have ef:a6.flatten.Nodup:=bB.2 λk=>by
     rw[a0 k];have h5:=bB.1 (iv O az hk) k;have h6:(g.lend.map W0.β).count k<=1:=by
      exact GP List.count_le_length (by rw[Gj];exact M)
     by_cases h7:k∈g.lend.map W0.β
     ·have:(aZ W0 g.kill).count k=0:=F8.2 λZ=>by
       obtain⟨b',X,e0⟩:=G0.1 h7;obtain⟨z,hz,Y⟩:=gS.1 Z;obtain⟨l,hl,ho⟩:=hk z hz;exact (O.ownb z.1 z.2 l hl ho k Y).2.2 b' (a2 b' X) e0
      omega
     ·have:(g.lend.map W0.β).count k=0:=F8.2 h7;omega
    have a9:=aw w (br V W0 g.p g.frz) g.val vs a6 y (b6.mono (λ_ h=>h) a5) (λk H=>a5 k (nn hV k H)) ef hy;have ba:il S0 d c.rs=true:=by
     unfold il at I ⊢;split at I
     ·rcases b5 (B0+d) with e0|e0
      ·rw[e0];exact I
      ·exact absurd e0 (by have:=jD.2.1;omega)
     ·exact I
    refine a9.mono λe w' bx=>?_
    obtain⟨v,rfl,W1,a4,ay,cu,bl,_⟩:=AH (Γ:=Γ) hV O c0 hg hf hk a2 az c2 hE M b0 a0 hd cc ba e7 bx;refine⟨v,rfl,?_⟩;refine b9 W1 _ w' ?_ ?_
    ·have e1:=bH (nq S0 c d ys g y) U0 st;rw[a8]at e1;rw[<- e1]at a4;subst a8;unfold nq at a4;simp only[bH,FZ,HV]at a4 ⊢;exact a4
    ·intro q j hb;subst hb;obtain⟨u,ea,em,ej,i,off,p,E,e,es,gg,dc,q1,q2,q3,q4⟩:=c5;have c1:=c4 true q j rfl rfl;have ad:g.lend=[]:=b0.resolve_right (by rw[c1];simp);simp only[pQ,FL,F7]at cx;obtain⟨⟨⟨cy,d1⟩,b1⟩,b3⟩:=cx;have d3:q≠d:=λe0=>by rw[e0]at b1;simp at b1
     have d2:q≠B0+d:=λe0=>by rw[e0]at b3;simp at b3
     have d4:(q,j)∉g.kill:=λZ=>by
      have:=GE.1 cy _ Z;simp[jc]at this
     have en:(q,j)∉g.frz:=λZ=>by
      have:=GE.1 d1 _ Z;simp[jc]at this
     have e4:TMP≠d:=by have:=hV.nt;have:=jD.1;omega
     have e3:TMP≠B0+d:=by have:=jD.2.1;omega
     have hL:=cu q j d3 d2 (by rw[ad];simp) en d4;rw[q1]at hL;have hC:=ay q d3 d2 (by rw[ad];simp);have e1:=bH (nq S0 c d ys g y) U0 st;rw[a8]at e1;have ec:gg<w.heap.size:=O.own_lt q1 trivial gg q3;have eb:gg∉aZ W0 g.kill:=λZ=>by
      obtain⟨z,hz,Y⟩:=gS.1 Z;obtain⟨l,hl,ho⟩:=hk z hz;obtain⟨e1,e2⟩:=O.sep z.1 z.2 l q j _ hl ho q1 trivial gg Y q3;exact d4 (by rw[show (q,j)=z from Hm e1.symm e2.symm];exact hz)
     have bb:w'.cell? ⟨gg,i*e.cells+off,none⟩=some u:=by
      rw[lq (bl gg ec eb (by rw[ad];simp))];exact q4
     have e6:gg∈W1.bs q j:=by
      have h9:=a4.leaf q j _ _ hL (by rw[hC];exact q2);obtain⟨_,ev,et,_,dd,_⟩:=h9;rw[dd];simp[GB]
     refine⟨u,by rw[ay TMP e4 e3 (by rw[ad];simp)];exact ea,em,ej,i,off,p,E,e,es,gg,dc,?_,by rw[hC];exact q2,e6,bb⟩;have a7:=hL;rw[<- e1]at a7;subst a8;unfold nq at a7;simp only[bH,FZ,HV]at a7 ⊢;exact a7
  ·cases h
 ·cases h
end
section
variable {P:Program} {V:Env} {Γ:List Ctr} {T:TypeId->TI} {st:St} {o:Oper} {R:Type} {κ:Upd->Option R} {r:R}
theorem pa {W:Wit}{a:Act}{w:World}(h:ap P V W st a w):∀ (l:List Operand),iB P V W st w (l.map (au st)) (l.map a.eval)
 |[]=>rfl
 |x::l=>by
  obtain⟨u,y,z⟩:=db h x;exact⟨a.eval x,l.map a.eval,u,rfl,y,z,pa h l⟩
theorem oC {W:Wit}{w:World}:∀ {xs z:List (aK×List Leaf)} {y us:List Value},iB P V W st w xs y->iB P V W st w z us->iB P V W st w (xs++z) (y++us)
 |[],_,_,_,I,u=>by rw[show _=_ from I];exact u
 |x::xs,_,_,_,⟨v,X,H,e,J,M,O⟩,u=>by
  subst e;exact⟨v,_,H,rfl,J,M,oC O u⟩
theorem rY {a:Act}{w:World}{c:Call}{x:Operand}{f:FuncId}{caps:Array Value}(z:o.op=.call c)(I:c.callee=.value x)(M:a.eval x=.func (.func f) #[] caps)(J:fR P f){next:Act->World->Prop}{Q:Exit->Act->World->Prop}
  (u:Calls P f (c.args.map a.eval++caps) w (λe H=>∃ v,e=.returned v/\next (a.put o.dst v) H)):o.wp P a w next Q:=by
 unfold Oper.wp;have y:(execOp a.eval o).run P w=.ok (.enter f (c.args.map a.eval++caps)) w:=by
  have:=J (c.args.map a.eval++caps) w;simp[execOp,z,resolve,I,M,Deferred.ofValue,invoke,this]
 rw[y,Oper.upon_enter];refine u.mono λe H=>?_
 rintro⟨v,rfl,hn⟩;exact hn
theorem lV {p:Bool}:∀ {b:Ty} {x:b.den},b.flat=true->aq p b x=cS p b x
 |.int _,_,_=>rfl
 |.bool,_,_=>rfl
 |.str,_,_=>rfl
 |.unit,_,_=>rfl
 |.hdr,_,_=>rfl
 |.pair a b,x,h=>by
  simp only[Ty.flat,FL]at h;simp only[aq,cS,lV h.1,lV h.2]
 |.list _ _ _,_,h=>by simp[Ty.flat]at h
theorem sQ (Z:aA V){W:Wit}{a:Act}{w:World}(h:ap P V W st a w):∀ (J:List Ty) (xs:List (aK×List Leaf)) (X:List Value) (x:Tup J),iB P V W st w xs X->js st J xs=some x ->
  tz w (λk=>k<w.heap.size) J x X
 |[],[],X,_,hx,_=>hx
 |[],_::_,_,_,_,u=>by simp[js]at u
 |_::_,[],_,_,_,u=>by simp[js]at u
 |b::J,x::xs,X,z,⟨v,O,cs,e,hs,hl,I⟩,u=>by
  subst e;simp only[js]at u;cases M:decide (x.1=bk b.isAgg) with
  |false=>simp[M]at u
  |true =>
   simp only[M,cond_true]at u;have M:=of_decide_eq_true M;rw[M]at hs;split at u
   ·rename_i p y hy;simp only[FK]at u;obtain⟨t,ht,rfl⟩:=u;have Y:=eX h hl hy;refine⟨v,cs,O,rfl,ic hs,Y.mono (λk H=>?_),sQ Z h J xs O t I ht⟩;rcases H with (H|⟨_,H⟩)|⟨z,hz,H⟩
    ·exact (h.nwlt k H).1
    ·exact GR (Z.ro k H).1 h.size
    ·obtain⟨l,h1,h2⟩:=eO hl hz;exact h.own_lt h1 h2 k H
   ·cases u
theorem zw (hV:aA V)(hΓ:∀ c∈Γ,bI P c)(J:bU V o){c:Call}{f:Operand}(Y:o.op=.call c)(hc:c.callee=.value f)
  (h:act Γ T o st κ=some r):cd P V o st κ r:=by
 simp only[act,wrU,Y,hc]at h;split at h
 ·cases h
 ·rename_i d X;split at h
  ·rename_i g H Z;obtain⟨he,U,hU,z⟩:=wE hV hΓ (J d X).1 (J d X).2 h;refine⟨U,hU,λW a w I next Q hn=>?_⟩;obtain⟨M,_,_,_,_⟩:=bA I f (by rw[Z];simp);rw[Z]at M;have O:=oC (pa I c.args.toList) (tG (re (P:=P) (V:=V) (W:=W) (w:=w) H M.2));rw[HN]at O;have:=z W a w I _ O;have e:(c.args.toList.map a.eval++H.map λb=>Value.pointer (some ⟨W.β b,0,none⟩)).toArray=c.args.map a.eval++(H.map λb=>Value.pointer (some ⟨W.β b,0,none⟩)).toArray:=by
    apply Hi;simp
   rw[e]at this;refine rY Y hc M.1 he (this.mono λe w'=>?_);rintro⟨v,rfl,hrel⟩;refine⟨v,rfl,hn _ _ ?_⟩;rw[X];exact hrel
  ·rename_i g H Z;obtain⟨he,U,hU,z⟩:=wE hV hΓ (J d X).1 (J d X).2 h;refine⟨U,hU,λW a w I next Q hn=>?_⟩;obtain⟨M,_,_,_,_⟩:=bA I f (by rw[Z];simp);rw[Z]at M;obtain⟨us,M,a1,a0⟩:=M;have O:=oC (pa I c.args.toList) (tG (rW (st:=st) a1 a0));rw[HN]at O;have:=z W a w I _ O;have e:(c.args.toList.map a.eval++us).toArray=c.args.map a.eval++us.toArray:=by
    apply Hi;simp
   rw[e]at this;refine rY Y hc M he (this.mono λe w'=>?_);rintro⟨v,rfl,hrel⟩;refine⟨v,rfl,hn _ _ ?_⟩;rw[X];exact hrel
  ·rename_i As B φ Z;cases hb:B.flat with
   |false=>simp[hb]at h
   |true =>
    simp only[hb,cond_true]at h;split at h
    ·rename_i x hx;obtain⟨y,hy,h⟩:=GD.1 h;simp only[X]at h;refine⟨_,h,λW a w I next Q hn=>?_⟩;obtain⟨M,_,_,_,_⟩:=bA I f (by rw[Z];simp);rw[Z]at M;obtain⟨f',H,M,he,z⟩:=M;have a3:=sQ hV I As _ _ x (pa I c.args.toList) hx;have:=z w I.size I.keep x _ y a3 hy;have e:(c.args.toList.map a.eval).toArray=c.args.map a.eval:=by apply Hi;simp
     rw[e]at this;refine rY Y hc M he (this.mono λe w'=>?_);rintro⟨u,cs,rfl,hvo,hrd,hbelow⟩;refine⟨u,rfl,hn _ _ ?_⟩;rw[X];have a4:=I.below hV hbelow;have a2:=fC (P:=P) (V:=V) (W:=W) (st:=st) (G:=λ_=>False) (p:=false) (λ_ h=>h.elim) hrd;rw[<- lV hb]at a2;exact a4.putLs hV d (J d X).1 (J d X).2 _ _ _ u cs (FV _) (kQ hvo) a2
    ·cases h
  ·cases h
theorem CX (H:aA V)(I:TOk P T)(hΓ:∀ c∈Γ,bI P c)(z:bU V o)(h:act Γ T o st κ=some r):cd P V o st κ r:=by
 cases u:o.op with
 |move x=>exact zO H z u h
 |assign x=>exact wU H z u h
 |pick c x y=>exact zP H z u h
 |alloc t=>exact zn H I z u h
 |box t x=>exact B6 H z u h
 |build t M=>exact ym H I z u h
 |buildSlice t n M=>exact rU H I z u h
 |load t x=>exact zR H I z u h
 |store t x y=>exact zp H I u h
 |nilCheck x=>exact tU H z u h
 |binOp X t x y t'=>exact yi H I z u h
 |unOp X t x=>exact zQ H z u h
 |convert s t x=>exact vS H I z u h
 |makeSlice t n c=>exact tr H I z u h
 |slice t x Z Y mx=>exact zu H I z u h
 |fieldAddr t x f=>exact tn H I z u h
 |field t x f=>exact yl H I z u h
 |indexAddr t x i=>exact tp H I z u h
 |index t x i=>exact yk H I z u h
 |extract x i=>exact vw H z u h
 |makeFunc fn first O=>exact tV H z u h
 |call c =>
  cases J:c.callee with
  |value f=>exact zw H hΓ z u J h
  |builtin b =>
   cases b with
   |len=>exact Bo H I z u J h
   |append=>exact xI H I z u J h
   |min=>exact B7 H z u J h
   |max=>exact B8 H z u J h
   |_ =>
    simp only[act,wrU,u,J]at h;split at h <;> cases h
  |_ =>
   simp only[act,wrU,u,J]at h;split at h <;> cases h
 |_=>simp[act,wrU,u]at h
end
def cO:Ty->Ty->Bool
 |.pair a b,z=>match z with
  |.pair c d=>cO a c&&cO b d
  |_=>false
 |.list m E e,z=>match z with
  |.list n u r=>decide (E=u)&&(bif n then m&&cO e r else decide (e.sh=r.sh))
  |_=>false
 |a,z=>decide (a=z)
theorem gD:∀ {a b:Ty},cO a b=true->a.sh=b.sh
 |.pair a b,z,h=>by
  cases z with
  |pair c d =>
   simp only[cO,FL]at h;simp only[Ty.sh,gD h.1,gD h.2]
  |_=>simp[cO]at h
 |.list m E e,z,h=>by
  cases z with
  |list n r u =>
   simp only[cO,FL,decide_eq_true_eq]at h;obtain⟨rfl,h⟩:=h;cases n with
   |true =>
    simp only[cond_true,FL]at h;simp only[Ty.sh,gD h.2]
   |false =>
    simp only[cond_false,decide_eq_true_eq]at h;simp only[Ty.sh,h]
  |_=>simp[cO]at h
 |.int _,z,h=>by simp only[cO,decide_eq_true_eq]at h;rw[h]
 |.bool,z,h=>by simp only[cO,decide_eq_true_eq]at h;rw[h]
 |.str,z,h=>by simp only[cO,decide_eq_true_eq]at h;rw[h]
 |.unit,z,h=>by simp only[cO,decide_eq_true_eq]at h;rw[h]
 |.hdr,z,h=>by simp only[cO,decide_eq_true_eq]at h;rw[h]
theorem AJ {a b:Ty}(h:cO a b=true):a.isAgg=b.isAgg:=by
 cases a with
 |pair c d=>cases b <;> first|rfl|(simp[cO]at h)
 |list m E e=>cases b <;> first|rfl|(simp[cO]at h)
 |_=>simp only[cO,decide_eq_true_eq]at h;rw[h]
theorem pF {f g h:Nat->List Nat}{k:Nat}:∀ {l:List Nat},(∀ j∈l,(f j).count k=(g j).count k+(h j).count k)->(l.flatMap f).count k=(l.flatMap g).count k+(l.flatMap h).count k
 |[],_=>rfl
 |a::l,H=>by
  have u:=H a (F5 ..);have y:=pF (l:=l) (λj r=>H j (FY _ r));simp only[GV,FO];omega
theorem Mx.thin {w:World}{G:Nat->Prop}:∀ {a b:Ty} {pos:Nat} {x:a.den} {y:b.den} {cs:List Value} {bs:List Nat},cO a b=true->HEq x y->Mx w G a none pos x cs bs ->
  ∃ b1 b2:List Nat,(∀ k,bs.count k=b1.count k+b2.count k)/\Mx w (λk=>G k\/k∈b2) b none pos y cs b1
 |.pair a b,z,pos,x,y,cs,bs,h,r,H=>by
  cases z with
  |pair c d =>
   simp only[cO,FL]at h;obtain⟨c1,c2,ba,bb,rfl,rfl,h1,h2⟩:=H;obtain⟨h3,h4⟩:=tM (ke (gD h.1)) (ke (gD h.2)) r;obtain⟨p1,p2,X,Y⟩:=Mx.thin h.1 h3 h1;obtain⟨r1,r2,s1,s2⟩:=Mx.thin h.2 h4 h2;refine⟨p1++r1,p2++r2,λk=>?_,c1,c2,p1,r1,rfl,rfl,Y.mono (λk M=>M.imp id (FS _)),?_⟩
   ·have:=X k;have:=s1 k;simp only[FO];omega
   ·have:=s2.mono (G':=λk=>G k\/k∈p2++r2) (λk M=>M.imp id (FN _))
    rwa [iP (gD h.1)]at this
  |_=>simp[cO]at h
 |.list m E e,z,pos,xs,Z,cs,bs,h,r,H=>by
  have a1:=gD h;cases z with
  |list n E' e' =>
   simp only[cO,FL,decide_eq_true_eq]at h;obtain⟨rfl,h⟩:=h;cases n with
   |true =>
    simp only[cond_true,FL]at h;obtain⟨rfl,h⟩:=h;rw[bF (by simp)]at H;obtain⟨v,rfl,I,a0,h1,h2,h3⟩:=H;obtain⟨h4,h5⟩:=tN (ke (gD h)) r;have a2:∀ j,∃ q:List Nat×List Nat,j<Z.length->(∀ k,(a0 j).count k=q.1.count k+q.2.count k) /\
      ∀ y,Z[j]?=some y->∃ c,Mx w (λk=>G k\/k∈q.2) e' none 0 y c q.1/\∀ i u,c[i]?=some u->I[j*e'.cells+i]?=some u:=by
     intro j;by_cases J:j<Z.length
     ·have R:=F1 J;obtain⟨x,hx,r⟩:=h5 j _ R;obtain⟨c,hm,hc⟩:=h3 j x hx;obtain⟨b1,b2,X,Y⟩:=Mx.thin h r hm;refine⟨(b1,b2),λ_=>⟨X,λy O=>⟨c,?_,λi u hi=>?_⟩⟩⟩
      ·rw[R]at O;simp only[FJ]at O;subst O;exact Y
      ·rw[<- iP (gD h)];exact hc i u hi
     ·exact⟨([],[]),λh=>absurd h J⟩
    obtain⟨f,hf⟩:=Classical.skolem.1 a2;refine⟨v.ownBlock.toList++(FX Z.length).flatMap (λj=>(f j).1),(FX Z.length).flatMap (λj=>(f j).2),λk=>?_,?_⟩
    ·rw[h2,FO,FO,h4,pF (g:=λj=>(f j).1) (h:=λj=>(f j).2) (λj J=>(hf j (G8.1 J)).1 k)];omega
    ·rw[bF (by simp)];refine⟨v,rfl,I,λj=>(f j).1,by rw[<- h4,<- iP (gD h)];exact h1,rfl,λj y O=>?_⟩;have J:=(FM.1 O).1;obtain⟨c,X,Y⟩:=(hf j J).2 y O;exact⟨c,X.mono (λk M=>M.imp id (λM=>ei.2 ⟨j,J,M⟩)),Y⟩
   |false =>
    refine⟨[],bs,λk=>by simp,?_⟩;rw[cF];exact⟨rfl,Rd.flags a1 r (Mx.rd (S:=λk=>G k\/k∈bs) (λ_=>.inl) (λ_=>.inr) H)⟩
  |_=>simp[cO]at h
 |.int _,z,pos,x,y,cs,bs,h,r,H=>by
  simp only[cO,decide_eq_true_eq]at h;subst h;cases r;exact⟨bs,[],λk=>by simp,H.mono (λ_=>.inl)⟩
 |.bool,z,pos,x,y,cs,bs,h,r,H=>by
  simp only[cO,decide_eq_true_eq]at h;subst h;cases r;exact⟨bs,[],λk=>by simp,H.mono (λ_=>.inl)⟩
 |.str,z,pos,x,y,cs,bs,h,r,H=>by
  simp only[cO,decide_eq_true_eq]at h;subst h;cases r;exact⟨bs,[],λk=>by simp,H.mono (λ_=>.inl)⟩
 |.unit,z,pos,x,y,cs,bs,h,r,H=>by
  simp only[cO,decide_eq_true_eq]at h;subst h;cases r;exact⟨bs,[],λk=>by simp,H.mono (λ_=>.inl)⟩
 |.hdr,z,pos,x,y,cs,bs,h,r,H=>by
  simp only[cO,decide_eq_true_eq]at h;subst h;cases r;exact⟨bs,[],λk=>by simp,H.mono (λ_=>.inl)⟩
theorem kb.mono {w:World}{G G':Nat->Prop}(z:∀ k,G k->G' k){a:Ty}{x:a.den}{ptr:Bool}{v:Value}{bs:List Nat}(h:kb w G a x ptr v bs):kb w G' a x ptr v bs:=by
 unfold kb at h ⊢;split at h
 ·rename_i y;rw[if_pos y];obtain⟨g,c,E,H,r,u,J,M⟩:=h;exact⟨g,c,E,H,r,u,J.mono z,M⟩
 ·rename_i y;rw[if_neg y];obtain⟨I,r,u⟩:=h;exact⟨I,r,u.mono z⟩
theorem bS.mono {w:World}{G G':Nat->Prop}(y:∀ k,G k->G' k):∀ {ps:List PK} {o:ag ps} {z:List Value} {bs:List (List Nat)},bS w G ps o z bs->bS w G' ps o z bs
 |.io _::_,_,_::_,_::_,⟨r,u⟩=>⟨r.mono y,bS.mono y u⟩
 |.iop _::_,_,_::_,_::_,⟨r,u⟩=>⟨r.mono y,bS.mono y u⟩
 |.rd _::_,_,_::_,_::_,⟨r,u⟩=>⟨r,bS.mono y u⟩
 |.own _::_,_,_::_,_::_,⟨r,u⟩=>⟨r,bS.mono y u⟩
 |.rref _::_,_,_::_,_::_,⟨r,u⟩=>⟨r,bS.mono y u⟩
 |.rref2 _::_,_,_::_,_::_,⟨r,u⟩=>⟨r,bS.mono y u⟩
 |.fn _ _::_,_,_::_,_::_,⟨r,u⟩=>⟨r,bS.mono y u⟩
 |.clo _ _::_,_,_::_,_::_,⟨r,u⟩=>⟨r,bS.mono y u⟩
 |.hol _ _ _::_,_,_::_,_::_,⟨r,u⟩=>⟨r,bS.mono y u⟩
 |[],_,[],[],_=>trivial
 |[],_,_::_,_,h=>by simp[bS]at h
 |[],_,[],_::_,h=>by simp[bS]at h
 |p::_,_,[],_,h=>by cases p <;> exact h.elim
 |p::_,_,_::_,[],h=>by cases p <;> exact h.elim
theorem q9.mono {w:World}{G G' ro ro':Nat->Prop}(I:∀ k,G k->G' k)(R:∀ k,G k\/ro k->G' k\/ro' k):∀ {r:RK} {y:r.den} {v:Value} {bs:List Nat},q9 w G ro r y v bs->q9 w G' ro' r y v bs
 |.v _,_,_,_,⟨H,u,z⟩=>⟨H,u,z.mono I⟩
 |.bv _,_,_,_,⟨e,H,u,z⟩=>⟨e,H,u,z.mono R⟩
 |.box _,_,_,_,⟨g,c,E,J,u,z,M,O⟩=>⟨g,c,E,J,u,z,M.mono I,O⟩
theorem ib.mono {w:World}{G G' ro ro':Nat->Prop}(J:∀ k,G k->G' k)(M:∀ k,G k\/ro k->G' k\/ro' k):∀ {H:List RK} {y:ai H} {us:List Value} {r:List (List Nat)},ib w G ro H y us r->ib w G' ro' H y us r
 |[],_,_,_,h=>h
 |_::_,_,_,_,⟨u,I,b,z,O,R,X,Y⟩=>⟨u,I,b,z,O,R,X.mono J M,ib.mono J M Y⟩
theorem bI.thin {P:Program}{f:FuncId}{a a':Ty}{ps:List PK}{rs:List RK}{fr:Bool}{den:ab (.own a::ps)->Option (ai rs×ag (.own a::ps))}{R:ab (.own a'::ps)->Option (ai rs×ag (.own a'::ps))}
  (h:bI P ⟨f,.own a::ps,rs,fr,den⟩) (ht:cO a' a=true) (cv:a'.den->a.den) (ay:∀ x,HEq x (cv x)) (hd:∀ x,R x=den (cv x.1,x.2)):bI P ⟨f,.own a'::ps,rs,fr,R⟩:=by
 refine⟨h.1,λw ro x vs bb y Z a9 a5 hy=>?_⟩;obtain⟨x1,xr⟩:=x;obtain⟨v,aw,b,u,rfl,rfl,⟨cs,b9,hm⟩,a1⟩:=Z;obtain⟨M,O,X,b0⟩:=Mx.thin ht (ay x1) hm;have a0:=hm.lt;rw[bB]at a5;have Y:∀ k,M.count k+O.count k+u.flatten.count k<=1:=λk=>by
  have:=a5 k;rw[F6,FO,X k]at this;exact this
 have hb:∀ k,k∈b<->k∈M\/k∈O:=λk=>by
  rw[<- FT,<- FT,<- FT,X k];omega
 have z:∀ k,k∈(M::u).flatten->k∈(b::u).flatten:=λk r=>by
  rw[F6,FU]at r ⊢;exact r.imp (λh=>(hb k).2 (.inl h)) id
 have a3:∀ k,k∈O->k∉(M::u).flatten:=λk r H=>by
  have h1:=Y k;have h2:=FT.2 r;have h3:=FT.2 H;rw[F6,FO]at h3;omega
 have a4:∀ k,k∈O->k∈(b::u).flatten:=λk r=>by
  rw[F6,FU];exact .inl ((hb k).2 (.inr r))
 have I:dp P w (λk=>ro k\/k∈O) (λk=>k<w.heap.size/\k∉(M::u).flatten) (.own a::ps) (cv x1,xr) (v::aw) (M::u) :=
  ⟨v,aw,M,u,rfl,rfl,⟨cs,by rw[<- AJ ht];exact b9,b0⟩,a1.mono (λ_=>.inl) (λk r=>⟨r.1,λh=>r.2 (z k h)⟩)⟩
 refine (h.2 w _ _ _ _ y I (λk r=>?_) ?_ (by rw[<- hy];exact (hd (x1,xr)).symm)).mono λe w' hp=>?_
 ·rcases r with r|r
  ·exact⟨(a9 k r).1,λh=>(a9 k r).2 (z k h)⟩
  ·exact⟨a0 k ((hb k).2 (.inr r)),a3 k r⟩
 ·rw[bB];intro k;have:=Y k;show ((M::u).flatten).count k<=1;rw[F6,FO];omega
 ·obtain⟨v',us,N,a2,ba,h1,a8,ad,b4,b6,b5,az,hN,hO,a7,a6,J⟩:=hp;have hG:∀ k,(N k\/fr=false/\(ro k\/k∈O))->((N k\/k∈O)\/fr=false/\ro k):=λk r=>by
   rcases r with r|⟨r,H|H⟩
   ·exact .inl (.inl r)
   ·exact .inr ⟨r,H⟩
   ·exact .inl (.inr H)
  refine⟨v',us,λk=>N k\/k∈O,a2,ba,h1,a8,ad,b4,b6,b5,λk r hn=>az k r (λh=>hn (z k h)),λk r=>?_,?_,?_,a6,λk r=>?_⟩
  ·rcases r with r|r
   ·exact⟨(hN k r).1,(hN k r).2.imp id (z k)⟩
   ·exact⟨GR (a0 k ((hb k).2 (.inr r))) ad,.inr (a4 k r)⟩
  ·match a2,hO with
   |b3::a2,hO=>exact⟨hO.1,bS.mono hG hO.2⟩
   |[],hO=>exact hO.elim
  ·refine ib.mono hG (λk r=>?_) a7;rcases r with r|r|r
   ·exact .inl (hG k r)
   ·exact .inr r
   ·exact .inl (.inl (.inr r))
  ·obtain⟨h5,h6⟩:=J k r;refine⟨⟨h5.1,h5.2.imp id (z k)⟩,λh=>h.elim h6 (λh=>?_)⟩;rcases h5.2 with h7|h7
   ·have:=a0 k ((hb k).2 (.inr h));omega
   ·exact a3 k h h7
end Go.Proofs.YtmibehbhnkeaiaaGreatEv
