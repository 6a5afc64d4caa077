/- One operation: boxes made, boxes written. -/
import Derived.Test.YtadlacffdemoiaaGreatE0
import Derived.Deep.MidRow
import Derived.Great.FillDense
set_option linter.unusedVariables false
set_option linter.unusedSimpArgs false
open Array renaming toArray_toList->Bx,length_toList->B4,getElem?_toList->Cr,toList_append->Cy,size_append->C8,toList_map->DH,ext'->DV
open Bool renaming and_eq_true->BC,not_eq_true'->BY,or_eq_false_iff->Cw,or_eq_true->DQ
open Go.Addr.mk renaming injEq->Cd
open Go.Builtin renaming append_->B5,firstCells->Ca,lenOf->Ce,zeroCells->DD
open Go.Instr renaming sliceBounds->DB,storeAt->DX
open Go.Result renaming andThen_ok->Cb
open Go.Sem renaming run_bind->C7
open Go.Value renaming ownBlock->Bw
open Go.Value.slice renaming injEq->B3
open Go.World renaming setCells->Cs,alloc_eq->Cv,drew_eq->Cz,freeze->C9,alloc->DL,drew->DT
open Iff renaming rfl->Cj
open Int renaming toNat_natCast->C6
open List renaming getElem?_eq_some_iff->BD,mem_append_right->BE,count_append->BF,getElem?_append_right->BG,getElem?_append_left->BH,mem_append_left->BJ,count_pos_iff->BK,mem_append->BL,range->BO,mem_cons_of_mem->BP,append_assoc->BQ,length_append->BR,getElem?_eq_getElem->BS,eq_nil_of_length_eq_zero->BV,mem_cons_self->BW,flatten_cons->BX,count_eq_zero->BZ,append_nil->Bu,length_take->Bv,any_eq_false->Bz,getElem?_take->B8,getD_eq_getElem?_getD->B9,nodup_append->CB,replicate->CD,nodup_cons->CF,length_set->CG,flatMap_cons->CI,getElem?_set_ne->CJ,mem_cons->CM,getElem?_drop->CN,getElem?_cons_zero->CO,getElem?_replicate->CP,size_toArray->CQ,getElem?_set_self->CR,any_cons->CU,length_nil->CV,length_map->CW,length_drop->Cf,length_cons->Cg,mem_map->Cm,count_cons->Cn,singleton_append->Cp,length_replicate->Cq,mem_range->Ct,all_cons->C0,map_nil->C5,map_map->DA,isEmpty_iff->DE,flatMap_map->DF,cons_append->DI,length->DM,map_append->DN,nil_append->DR,nodup_nil->DS,take_left->DU,map_cons->DY
open List.cons renaming injEq->CX
open Nat renaming eq_of_beq_eq_true->BI,lt_succ_self->BM,mul_le_mul_right->BN,beq->BT,le_refl->BU,succ_mul->B6,add_zero->CA,le_trans->CC,lt_of_lt_of_le->CE,le_of_ble_eq_true->CH,zero_add->CL,ble_eq_true_of_le->CS,le_add_right->CT,mul_le_mul_left->CY,blt_eq->CZ,add_mul->Cc,le_of_eq->Ch,ble->Ci,mul_comm->Ck,sub_zero->Cl,mul_one->Cu,blt->Cx,eq_zero_or_pos->C4,zero_mul->DC,mod_eq_of_lt->DG,le_succ->DJ,zero_le->DK,mul_add_mod->DO,add_assoc->DW
open Ne renaming symm->CK
open Option renaming map_eq_some_iff->BB,bind_eq_some_iff->By,map_none->Co,toList_some->C3,map_some->DP
open Option.some renaming injEq->BA
open Prod renaming ext->DZ
open Prod.mk renaming injEq->B7
namespace Go.Proofs.YtadlacffdemoiaaGreatEv
open Go Go.RowKit
section
variable {P:Program} {V:Env} {Γ:List Ctr} {T:TypeId->TI} {st:St} {o:Oper} {R:Type} {κ:Upd->Option R} {r:R}
theorem mW {q u:Nat}(h:q≠u)(c y:bS)(st:St):ac [(q,c)] (ac [(u,y)] st)=ac [(u,y)] (ac [(q,c)] st):=by
 funext k;rcases am q k c (ac [(u,y)] st) with ⟨rfl,e⟩|⟨H,e⟩
 ·rw[e,aJ h,bh]
 ·rw[e];rcases am u k y st with ⟨rfl,z⟩|⟨I,z⟩
  ·rw[z,bh]
  ·rw[z,aJ I,aJ H]
theorem ap.boxed (hV:ax V){W:Wit}{a:Act}{w:World}(h:ap P V W st a w)(d:Nat)(hd:d<V.nt)(X:∀ x∈V.fixt,x.1≠d)(M:(st (B0+d)).sh=.off)(ls:List Leaf)
  (y:List Value) (z:Nat->List Nat) (E:TypeId)
  (hl:ls.length=y.length) (h1:∀ u∈y,u.oneCell'=true)
  (H:∀ (j:Nat) (l:Leaf) (u:Value),ls[j]?=some l->y[j]?=some u->aK P V W st w (z j) l u)
  (J:∀ (j:Nat) (l:Leaf),ls[j]?=some l->ao l->∀ k∈z j,¬ W.nw k/\¬ V.prot k/\k<w.heap.size/\(∀ b,live st b->W.β b≠k) /\
   ∀ (r1 Y:Nat) (Z:Leaf),(st r1).ls[Y]?=some Z->ao Z->k∉W.bs r1 Y)
  (I:∀ (j j':Nat) (l l':Leaf),ls[j]?=some l->ao l->ls[j']?=some l'->ao l'->∀ k,k∈z j->k∈z j'->j=j') :
  Rel P V (ac ((B0+d,⟨(st (B0+d)).ver+1,.agg,ls⟩)::[(d,⟨(st d).ver+1,.one,[.bp (B0+d) 0]⟩)]) st) (a.put (some d) (.pointer (some ⟨w.heap.size,0,none⟩))) (w.alloc (.cells y.toArray E)):=by
 have O:B0+d≠d:=by simp[B0]
 have a0:¬ live st (B0+d):=by simp[live,M]
 have h2:=h.setBox hV (B0+d) (CT _ _) ((st (B0+d)).ver+1) ls y z w.heap.size E (w':=w.alloc (.cells y.toArray E)) (BM _) (.inr ⟨a0,BU _⟩)
  (heap_alloc_new w _) (λk hk _=>Go.heap_alloc_old w _ hk) (by simp) rfl rfl rfl hl h1 H (λj l hj ho k hk=>by
   obtain⟨h3,h4,h5,h6,h7⟩:=J j l hj ho k hk;exact⟨h3,h4,h5,h6,λr1 Y Z _=>h7 r1 Y Z⟩) I
 rw[aO,mW O];refine h2.putLs hV d hd X _ .one [.bp (B0+d) 0] _ [.pointer (some ⟨w.heap.size,0,none⟩)] ?_ rfl ⟨⟨⟨CT _ _,by rw[bh],by simp⟩,id,rfl⟩,trivial⟩;rw[aJ (CK O)];omega
theorem uo {t:TypeId}(I:TOk P T)(H:(T t).cells≠0)(w:World):∃ z y,(zeroValue t).run P w=.ok z w/\z.cells=y.toArray/\∀ (V:Env) (W:Wit) (st:St),aC P V W st w (T t).zero y:=by
 have h:=I t;cases u:T t with
 |none=>rw[u]at H;exact absurd rfl H
 |int k=>rw[u]at h;exact⟨_,[.int k 0],gj h.2.2 w,rfl,λV W st=>⟨⟨rfl,id,rfl⟩,trivial⟩⟩
 |bool=>rw[u]at h;exact⟨_,[.bool false],gj h.2.2 w,rfl,λV W st=>⟨⟨rfl,id,rfl⟩,trivial⟩⟩
 |str=>rw[u]at h;exact⟨_,[.string ByteArray.empty],gj h.2.2 w,rfl,λV W st=>⟨⟨rfl,id,rfl⟩,trivial⟩⟩
 |slice E e b=>rw[u]at h;exact⟨_,[.slice none 0 0],gj h.2.2.1 w,rfl,λV W st=>⟨⟨rfl,id,rfl⟩,trivial⟩⟩
 |struct a J=>rw[u]at h;exact⟨_,zeroCells a,gj h.2.2.1 w,rfl,λV W st=>lr a⟩
 |arr e n=>rw[u]at h;exact⟨_,(CD n (zeroCells e)).flatten,gj h.2.2.2 w,rfl,λV W st=>oN e n⟩
 |ptr=>rw[u]at h;exact⟨_,[.pointer none],gj h.2.2 w,rfl,λV W st=>⟨⟨trivial,id,rfl⟩,trivial⟩⟩
 |fn=>rw[u]at h;exact⟨_,[.nilFunc],gj h.2.2 w,rfl,λV W st=>⟨⟨trivial,id,rfl⟩,trivial⟩⟩
theorem xH (hV:ax V)(Y:TOk P T)(y:bL V o){t:TypeId}(H:o.op=.alloc t)(h:act Γ T o st κ=some r):bV P V o st κ r:=by
 simp only[act,H]at h;split at h
 ·rename_i d O;cases J:decide ((st (B0+d)).sh=.off)&&!decide ((T t).cells=0) with
  |false=>simp[J]at h
  |true =>
   simp only[J]at h;simp at J;refine⟨_,h,λW a w hr next Q hn=>?_⟩;obtain⟨z,X,hz,hc,I⟩:=uo Y J.2 w;have I:=I V W st;refine dV (v:=.pointer (some ⟨w.heap.size,0,none⟩)) (w':=w.alloc (.cells X.toArray t)) ?_ ?_
   ·simp[execOp,H,Instr.alloc,hz,newVar,newRow,hc]
   ·rw[O];refine hn _ _ ?_;exact hr.boxed hV d (y d O).1 (y d O).2 J.1 _ X (λ_=>[]) t I.length I.one' (λj l u Z h2=>(I.at_ j l u Z h2).1) (λ_ _ _ _ k M=>by simp at M) (λ_ _ _ _ _ _ _ _ k M=>by simp at M)
 ·grind
theorem Al (hV:ax V)(I:bL V o){t:TypeId}{x:Operand}(Z:o.op=.box t x)(h:act Γ T o st κ=some r):bV P V o st κ r:=by
 simp only[act,Z]at h;split at h
 ·rename_i d M;cases hb:decide ((st (B0+d)).sh=.off)&&decide ((au st x).2.length=(T t).cells)&&decide ((au st x).1=bf (T t).agg)&&hZ st (au st x).2 with
  |false=>simp[hb]at h
  |true =>
   simp only[hb]at h;simp at hb;obtain⟨⟨⟨a0,a2⟩,a1⟩,Y⟩:=hb;have J:∀ (W:Wit) (a:Act) (w:World) (H:List Value),ea (au st x).1 (a.eval x) H->aC P V W st w (au st x).2 H ->
     (execOp a.eval o).run P w=.ok (.value (.pointer (some ⟨w.heap.size,0,none⟩))) (w.alloc (.cells H.toArray t)):=by
    intro W a w H X y;rw[a1]at X;have hc:=gU X y.one';simp[execOp,Z,Instr.box,newVar,newRow,hc]
   cases z:sd st x with
   |true =>
    rw[z]at h;refine⟨_,h,λW a w O next Q hn=>?_⟩;obtain⟨H,X,y⟩:=cS O x;refine dV (J W a w H X y) ?_;rw[M];refine hn _ _ ?_;exact O.boxed hV d (I d M).1 (I d M).2 a0 _ H (λ_=>[]) t y.length y.one' (λj l u h1 h2=>(y.at_ j l u h1 h2).1) (λ_ _ _ _ k hk=>by simp at hk) (λ_ _ _ _ _ _ _ _ k hk=>by simp at hk)
   |false =>
    rw[z]at h;refine⟨_,h,λW a w O next Q hn=>?_⟩;obtain⟨H,X,y⟩:=cS O x;obtain⟨h1,h2,h3,h4,h5⟩:=oL hV O y Y;have h6:=zn hV O y Y;refine dV (J W a w H X y) ?_;rw[M];refine hn _ _ ?_;have:=h1.boxed hV d (I d M).1 (I d M).2 (by rw[(h6 _).1];exact a0) _ H (dq W (au st x).2) t h2 y.one' h3 h4 h5;exact this
 ·grind
theorem jG (b:Nat)(E:TypeId):∀ (u:List Value) (k o:Nat) (w:World) (cur:Array Value) {mk:Nat×Nat},w.heap[b]?=some (.cells cur E mk) ->
  (w.setCells b (o+k) u).heap[b]?=some (.cells ((u.zipIdx k).foldl (λy (x:Value×Nat)=>y.setIfInBounds (o+x.2) x.1) cur) E mk)
 |[],_,_,_,_,_,h=>h
 |v::u,k,o,w,cur,mk,h=>by
  have:=jG b E u (k+1) o (w.setCell ⟨b,o+k,none⟩ v) _ (by rw[setCell_eq_setRow w b (o+k) cur E mk v h];exact setRow_heap w b cur _ E mk h);simpa[Cs,DW]using this
theorem eG (b:Nat):∀ (u:List Value) (o:Nat) (w:World) (k:Nat),k≠b->(w.setCells b o u).heap[k]?=w.heap[k]?
 |[],_,_,_,_=>rfl
 |v::u,o,w,k,h=>by
  rw[Cs,eG b u (o+1) _ k h];exact heap_setCell_other w ⟨b,o,none⟩ k v h
theorem jH (b:Nat):∀ (u:List Value) (o:Nat) (w:World),(w.setCells b o u).os=w.os/\(w.setCells b o u).tape=w.tape/\(w.setCells b o u).output=w.output/\(w.setCells b o u).heap.size=w.heap.size
 |[],_,_=>⟨rfl,rfl,rfl,rfl⟩
 |v::u,o,w=>by
  obtain⟨y,I,H,z⟩:=jH b u (o+1) (w.setCell ⟨b,o,none⟩ v);exact⟨y,I,H,by rw[Cs,z];simp⟩
theorem mX {t:TypeId}{n:Nat}(I:bP P t n){w:World}{b off:Nat}{cur:List Value}{E:TypeId}{mk:Nat×Nat}(J:w.heap[b]?=some (.cells cur.toArray E mk))(H:mk.2=0\/cur.length<=mk.1){v:Value}{cs:List Value}
  (Y:v.cells=cs.toArray) (M:cs.length=n) (X:∀ u∈cs,u.oneCell'=true) (O:off+cs.length<=cur.length) :
  (DX t (.pointer (some ⟨b,off,none⟩)) v).run P w=.ok () (w.setCells b off cs):=by
 have y:∀ j,j<cs.length->(w.cell? ⟨b,off+j,none⟩).isSome=true:=by
  intro j z;rw[cell_of_row w b _ _ E mk J]
  grind
 have h3:=run_storeCells_cells (P:=P) b off cs 0 w (λj z=>y j z) (λj z=>qP J (by simpa using H) (by simp;omega)) X;have Z:=du I w;simp[DX,Instr.sureAddr,storeVar,Z,Y,M,h3]
theorem tn (hV:ax V)(hT:TOk P T){t:TypeId}{x y:Operand}{b off:Nat}(b9:o.op=.store t x y)(hd:o.dst=none)(hx:one st x=.bp b off)
  (c2:(au st y).2.length=(T t).cells) (b2:(au st y).1=bf (T t).agg) (ad:(T t).cells≠0) (b0:(st b).sh=.agg) (c1:off+(au st y).2.length<=(st b).ls.length) (a4:hZ st (au st y).2=true)
  {W:Wit} {a:Act} {w:World} (hr:ap P V W st a w) :
  mD P V o st ((b,⟨(ac (mvU st (au st y).2) st b).ver+1,.agg,js (ac (mvU st (au st y).2) st b).ls (dG st (au st y).2) off⟩)::mvU st (au st y).2) a w:=by
 intro next Q hn;obtain⟨I,hs,hl⟩:=cS hr y;rw[b2]at hs;have hc:=gU hs hl.one';obtain⟨h1,h2,h3,h4,h5⟩:=oL hV hr hl a4;have h6:=zn hV hr hl a4;obtain⟨hp,_,_,_⟩:=bq hr x (by rw[hx];simp);rw[hx]at hp;obtain⟨hB,_,hv⟩:=hp;have ba:T t≠.none:=by intro e;rw[e]at ad;exact ad rfl
 rcases hr.boxes b hB with ⟨h8,_⟩|⟨_,E,h8⟩
 ·rw[b0]at h8;cases h8
 ·have b3:=hl.length;have c4:=hr.len b;have c3:(ac (mvU st (au st y).2) st b).ls.length=(W.cs b).length:=h1.len b;have b1:off+I.length<=(W.cs b).length:=by omega
  have a9:=mX (oM (hT t) ba) h8 (.inl rfl) hc (by omega) hl.one' b1;refine pz (w':=w.setCells (W.β b) off I) (by simp[execOp,b9,hv,a9]) ?_;rw[hd];refine hn _ _ ?_;rw[aO];obtain⟨e1,e2,e3,e4⟩:=jH (W.β b) I off w;have a0:=jG (W.β b) E I 0 off w _ h8;rw[kQ (W.cs b) I off b1]at a0;simp only[CA]at a0;have bn:live (ac (mvU st (au st y).2) st) b:=⟨hB,by rw[(h6 b).1];exact b0⟩;have b4:(dG st (au st y).2).length=I.length:=h2;have M:∀ (j:Nat) (l:Leaf),(js (ac (mvU st (au st y).2) st b).ls (dG st (au st y).2) off)[j]?=some l ->
    (off<=j/\j<off+I.length/\(dG st (au st y).2)[j-off]?=some l)\/((j<off\/off+I.length<=j)/\(ac (mvU st (au st y).2) st b).ls[j]?=some l):=by
   intro j l hj;unfold js at hj;rw[b4]at hj;by_cases Z:j<off
   ·rw[BQ,BH (by simp;omega),B8,if_pos Z]at hj;exact .inr ⟨.inl Z,hj⟩
   ·by_cases J:j<off+I.length
    ·rw[BQ,BG (by simp;omega),BH (by simp;omega)]at hj;refine .inl ⟨by omega,J,?_⟩;rw[<- hj];congr 1;simp;omega
    ·rw[BG (by simp;omega),CN]at hj;refine .inr ⟨.inr (by omega),?_⟩;rw[<- hj];congr 1;simp;omega
  have a2:∀ (j:Nat),((W.cs b).take off++I++(W.cs b).drop (off+I.length))[j]?=if off<=j/\j<off+I.length then I[j-off]? else (W.cs b)[j]?:=by
   intro j;by_cases Z:j<off
   ·rw[BQ,BH (by simp;omega),B8,if_pos Z,if_neg (by omega)]
   ·by_cases J:j<off+I.length
    ·rw[BQ,BG (by simp;omega),BH (by simp;omega),if_pos ⟨by omega,J⟩];congr 1;simp;omega
    ·rw[BG (by simp;omega),CN,if_neg (by omega)];congr 1;simp;omega
  refine⟨_,h1.setBox hV b hB _ _ ((W.cs b).take off++I++(W.cs b).drop (off+I.length)) (λj=>if off<=j/\j<off+I.length then dq W (au st y).2 (j-off) else W.bs b j) (W.β b) E
   (BM _) (.inl ⟨bn,rfl⟩) a0 (λk _ Y=>eG (W.β b) I off w k Y) (Ch e4.symm) e1 e2 e3 ?_ ?_ ?_ ?_ ?_⟩
  ·simp only[js,BR,Bv,Cf];omega
  ·intro u hu;simp only[BL]at hu;rcases hu with (hu|hu)|hu
   ·exact hr.one b u (List.mem_of_mem_take hu)
   ·exact hl.one' u hu
   ·exact hr.one b u (List.mem_of_mem_drop hu)
  ·intro j l u hj hu;rw[a2]at hu;rcases M j l hj with ⟨Z,J,H⟩|⟨Z,H⟩
   ·rw[if_pos ⟨Z,J⟩]at hu;simp only[if_pos (⟨Z,J⟩:off<=j/\j<off+I.length)];exact h3 _ l u H hu
   ·have z:¬ (off<=j/\j<off+I.length):=by omega
    rw[if_neg z]at hu;simp only[if_neg z];exact h1.leaf b j l u H hu
  ·intro j l hj ho k Y;rcases M j l hj with ⟨Z,J,H⟩|⟨Z,H⟩
   ·simp only[if_pos (⟨Z,J⟩:off<=j/\j<off+I.length)]at Y;obtain⟨q1,q2,q3,q4,q5⟩:=h4 _ l H ho k Y;exact⟨q1,q2,q3,q4,λr1 j1 l1 _=>q5 r1 j1 l1⟩
   ·have z:¬ (off<=j/\j<off+I.length):=by omega
    simp only[if_neg z]at Y;obtain⟨q1,q2,q3⟩:=h1.ownb b j l H ho k Y;exact⟨q1,q2,h1.own_lt H ho k Y,q3,λr1 j1 l1 bb c0 b5 bx=>bb (h1.sep b j l r1 j1 l1 H ho c0 b5 k Y bx).1.symm⟩
  ·intro j j' l l' hj ho bl a1 k Y O;rcases M j l hj with ⟨Z,J,H⟩|⟨Z,H⟩ <;> rcases M j' l' bl with ⟨a5,a3,X⟩|⟨a5,X⟩
   ·simp only[if_pos (⟨Z,J⟩:off<=j/\j<off+I.length)]at Y;simp only[if_pos (⟨a5,a3⟩:off<=j'/\j'<off+I.length)]at O;have:=h5 _ _ l l' H ho X a1 k Y O;omega
   ·have z:¬ (off<=j'/\j'<off+I.length):=by omega
    simp only[if_pos (⟨Z,J⟩:off<=j/\j<off+I.length)]at Y;simp only[if_neg z]at O;exact absurd O ((h4 _ l H ho k Y).2.2.2.2 b j' l' X a1)
   ·have z:¬ (off<=j/\j<off+I.length):=by omega
    simp only[if_neg z]at Y;simp only[if_pos (⟨a5,a3⟩:off<=j'/\j'<off+I.length)]at O;exact absurd Y ((h4 _ l' X a1 k O).2.2.2.2 b j l H ho)
   ·have z:¬ (off<=j/\j<off+I.length):=by omega
    have a6:¬ (off<=j'/\j'<off+I.length):=by omega
    simp only[if_neg z]at Y;simp only[if_neg a6]at O;exact (h1.sep b j l b j' l' H ho X a1 k Y O).2
end
theorem br {l:List Nat}:l.Nodup<->∀ k,l.count k<=1:=by
 induction l with
 |nil=>simp
 |cons a l z =>
  rw[CF,z];constructor
  ·rintro⟨r,y⟩ k;rw[Cn];by_cases u:a=k
   ·subst u;have:l.count a=0:=BZ.2 r;simp[this]
   ·have:=y k;simp[u,this]
  ·intro h;refine⟨λH=>?_,λk=>?_⟩
   ·have r:=h a;have y:0<l.count a:=BK.2 H;rw[Cn]at r;simp at r;omega
   ·have:=h k;rw[Cn]at this;omega
theorem pY {n:Nat}(r:Nat->List Nat)(k:Nat):((BO n).flatMap r).count k=((BO n).map λj=>(r j).count k).sum:=by
 generalize BO n=l;induction l with
 |nil=>rfl
 |cons a l u=>simp[BF,u]
theorem kn {n i:Nat}(H:i<n)(r:Nat->List Nat)(b:List Nat)(k:Nat) :
  ((BO n).flatMap λj=>if j=i then b else r j).count k+(r i).count k=((BO n).flatMap r).count k+b.count k:=by
 rw[pY,pY];induction n with
 |zero=>omega
 |succ n y =>
  rw[List.range_succ];simp only[DN,DY,C5,List.sum_append,List.sum_cons,List.sum_nil];by_cases u:i=n
  ·subst u;have:(BO i).map (λj=>List.count k (if j=i then b else r j))=(BO i).map λj=>(r j).count k:=by
    refine List.map_congr_left λj z=>?_
    rw[if_neg (by have:=Ct.1 z;omega)]
   rw[this,if_pos rfl];omega
  ·have:=y (by omega);rw[if_neg (λe=>u e.symm)];omega
theorem mY {bs bs' K:List Nat}(z:bs.Nodup)(y:K.Nodup)(J:∀ k∈K,k∉bs)(h:∀ k,bs'.count k<=bs.count k+K.count k):bs'.Nodup/\∀ k∈bs',k∈bs\/k∈K:=by
 rw[br]at z y;refine⟨br.2 λk=>?_,λk r=>?_⟩
 ·have I:=h k;have H:=z k;have u:=y k;by_cases r:k∈K
  ·have:bs.count k=0:=BZ.2 (J k r);omega
  ·have:K.count k=0:=BZ.2 r;omega
 ·have I:=h k;have H:0<bs'.count k:=BK.2 r;by_cases u:k∈bs
  ·exact .inl u
  ·have:bs.count k=0:=BZ.2 u;exact .inr (BK.1 (by omega))
theorem Mx.pos {w:World}{G:Nat->Prop}:∀ {a:Ty} {pos r:Nat} {x:a.den} {cs:List Value} {bs:List Nat},Mx w G a none pos x cs bs->Mx w G a none r x cs bs
 |.int _,_,_,_,_,_,h=>h
 |.bool,_,_,_,_,_,h=>h
 |.str,_,_,_,_,_,h=>h
 |.unit,_,_,_,_,_,h=>h
 |.hdr,_,_,_,_,_,h=>h
 |.pair _ _,_,_,_,_,_,⟨O,y,I,u,J,R,z,M⟩=>⟨O,y,I,u,J,R,Mx.pos z,Mx.pos M⟩
 |.list m E e,_,_,_,_,_,H=>by
  cases m with
  |false=>rw[cn]at H ⊢;exact H
  |true=>rw[bH (by simp)]at H ⊢;exact H
section
variable {P:Program} {V:Env} {W:Wit} {st:St} {w w':World} {a:Act}
theorem Mx.scalar {G:Nat->Prop}{b:Ty}{hol:Option Nat}{pos:Nat}{x:b.den}{cs:List Value}{S:Nat->Prop}(r:b.flat=true)(h:Rd w S b x cs):Mx w G b hol pos x cs []:=Mx.flat r h
theorem lA (h:ap P V W st a w):∀ (b:Ty) (pos:Nat) (ls:List Leaf) (cs:List Value) (t:cJ b.den),aC P V W st w ls cs->take st b ls=some t ->
  ∃ J M O,cs=J++M/\ls=O++t.rest/\aC P V W st w O J/\aC P V W st w t.rest M/\Mx w (bj V W t.p t.frz) b none pos t.val J (aW W t.kill) /\
   (∀ x∈t.frz,aB st x)/\(∀ x∈t.kill,aB st x)
 |.pair b c,pos,ls,cs,t,H,z=>by
  simp only[take]at z;split at z
  ·rename_i u hb;split at z
   ·rename_i v hc;simp only[BA]at z;subst z;obtain⟨J,M,O,e1,e2,h1,Z,X,h4,h5⟩:=lA h b pos ls cs u H hb;obtain⟨c3,c4,l2,e3,e4,h6,h7,h8,h9,a0⟩:=lA h c (pos+b.cells) u.rest M v Z hc;refine⟨J++c3,c4,O++l2,by rw[e1,e3,BQ],by rw[e2,e4,BQ],h1.append h6,h7,⟨J,c3,_,_,rfl,dH W _ _,?_,?_⟩,?_,?_⟩
    ·refine X.mono λk I=>?_
     rcases I with I|⟨y,hy,I⟩
     ·exact .inl (bT (by intro h;simp[h]) (λ_ h=>h) k I)
     ·exact .inr ⟨y,BJ _ hy,I⟩
    ·refine h8.mono λk I=>?_
     rcases I with I|⟨y,hy,I⟩
     ·exact .inl (bT (by intro h;simp[h]) (λ_ h=>h) k I)
     ·exact .inr ⟨y,BE _ hy,I⟩
    ·intro x R;exact (BL.1 R).elim (h4 x) (h9 x)
    ·intro x R;exact (BL.1 R).elim (h5 x) (a0 x)
   ·cases z
  ·cases z
 |.unit,pos,ls,cs,t,H,z=>by
  simp only[take,BA]at z;subst z;exact⟨[],cs,[],rfl,rfl,trivial,H,⟨rfl,rfl⟩,by simp,by simp⟩
 |.list m E e,pos,ls,cs,t,H,z=>by
  cases ls with
  |nil=>simp[take]at z
  |cons l ls =>
   cases cs with
   |nil=>exact H.elim
   |cons v cs =>
    cases m with
    |false =>
     simp only[take,cond_false]at z;split at z
     ·rename_i p xs ha;simp only[BA]at z;subst z;refine⟨[v],cs,[l],rfl,rfl,⟨H.1,trivial⟩,H.2,cn.2 ⟨rfl,kx h H.1.1 H.1.2.1 ha⟩,λx R=>ei (cs:=[v]) (ls:=[l]) ⟨H.1,trivial⟩ R,by simp⟩
     ·cases z
    |true =>
     simp only[take,cond_true]at z;split at z
     ·rename_i r j n;split at z
      ·rename_i p E' e' xs hd;simp only[BB]at z;obtain⟨ys,hc,rfl⟩:=z;obtain⟨rfl,rfl,rfl⟩:=jD hc;obtain⟨h1,Z,X,h4⟩:=ke h hd H.1.1;refine⟨[v],cs,[_],rfl,rfl,⟨H.1,trivial⟩,H.2,(bH (by simp)).2 ⟨v,rfl,?_⟩,by simp,?_⟩
       ·have:aW W [(r,j)]=W.bs r j:=by simp[aW]
        show OwB w _ none E' e' xs v (aW W [(r,j)]);rw[this];exact Z.2.carry (λk I=>.inl I) (λ_ _=>rfl) (λ_ _=>rfl)
       ·intro x R;simp only[List.mem_singleton]at R;subst R;exact⟨_,X,trivial⟩
      ·cases z
     ·simp only[BA]at z;subst z;have X:v=.slice none 0 0:=H.1.1;refine⟨[v],cs,[_],rfl,rfl,⟨H.1,trivial⟩,H.2,(bH (by simp)).2 ⟨v,rfl,?_⟩,by simp,by simp⟩;rw[X];exact (OwH.nil w _ E e).2
     ·cases z
 |.int k,pos,ls,cs,t,H,z=>take_scalar h (b:=.int k) rfl H z
 |.bool,pos,ls,cs,t,H,z=>take_scalar h (b:=.bool) rfl H z
 |.str,pos,ls,cs,t,H,z=>take_scalar h (b:=.str) rfl H z
 |.hdr,pos,ls,cs,t,H,z=>take_scalar h (b:=.hdr) rfl H z
where
 take_scalar (h:ap P V W st a w) {b:Ty} {pos:Nat} {ls:List Leaf} {cs:List Value} {t:cJ b.den} (hf:b.flat=true) (H:aC P V W st w ls cs) (z:(aZ st b ls).map (λx=>(⟨false,x.2.1,[],[],x.2.2⟩:cJ b.den))=some t) :
   ∃ J M O,cs=J++M/\ls=O++t.rest/\aC P V W st w O J/\aC P V W st w t.rest M/\Mx w (bj V W t.p t.frz) b none pos t.val J (aW W t.kill) /\
    (∀ x∈t.frz,aB st x)/\(∀ x∈t.kill,aB st x):=by
  simp only[BB]at z;obtain⟨⟨p,x,Y⟩,h1,rfl⟩:=z;obtain⟨J,M,O,e1,e2,Z,X,h4⟩:=ky h b ls cs p x Y H h1;exact⟨J,M,O,e1,e2,Z,X,Mx.flat hf h4,by simp,by simp⟩
theorem dN (h:ap P V W st a w){b:Ty}{pos:Nat}{ls:List Leaf}{cs:List Value}{t:cJ b.den}(z:aC P V W st w ls cs)(r:cg st b ls=some t) :
  Mx w (bj V W t.p t.frz) b none pos t.val cs (aW W t.kill)/\(∀ x∈t.frz,aB st x)/\(∀ x∈t.kill,aB st x):=by
 unfold cg at r;split at r
 ·rename_i p x f k I;simp only[BA]at r;subst r;obtain⟨Y,u,X,y,Z,R,O,M,J,H⟩:=lA h b pos ls cs _ z I;have:u=[]:=by
   cases u with
   |nil=>rfl
   |cons=>exact O.elim
  subst this;simp only[Bu]at y;subst y;exact⟨M,J,H⟩
 ·cases r
theorem gP (h:ap P V W st a w):∀ {ks:List (Nat×Nat)},aY ks=true->(∀ x∈ks,aB st x)->(aW W ks).Nodup
 |[],_,_=>DS
 |x::ks,O,M=>by
  simp only[aY,BC,BY,Bz]at O;have ih:=gP h O.2 (λy H=>M y (BP _ H));show (W.bs x.1 x.2++aW W ks).Nodup;rw[CB];obtain⟨l,I,u⟩:=M x (BW ..);refine⟨?_,ih,λk X k' r e=>?_⟩
  ·have R:x.2<(W.cs x.1).length:=by rw[<- h.len];exact (BD.1 I).1
   have:=h.leaf x.1 x.2 l _ I (BS R);cases l <;> simp only[ao]at u;exact OwH.nodup this
  ·subst e;obtain⟨y,H,r⟩:=gh.1 r;obtain⟨Z,J,z⟩:=M y (BP _ H);obtain⟨Y,e2⟩:=h.sep x.1 x.2 l y.1 y.2 Z I u J z k X r;have:=O.1 y H;rw[Y,e2]at this;simp at this
theorem jV:∀ {b:Ty} {S u:Nat->Prop} {I:Option Nat} {pos:Nat} {y:b.den} {c:List Value} {q:List Nat},b.flat=true->Mx w S b I pos y c q->Rd w u b y c
 |.int _,_,_,_,_,_,_,_,_,h=>h.1
 |.bool,_,_,_,_,_,_,_,_,h=>h.1
 |.str,_,_,_,_,_,_,_,_,h=>h.1
 |.unit,_,_,_,_,_,_,_,_,h=>h.1
 |.hdr,_,_,_,_,_,_,_,_,h=>h.1
 |.pair _ _,_,_,_,_,_,_,_,r,⟨O,z,X,R,J,Y,H,M⟩=>by
  simp only[Ty.flat,BC]at r;exact⟨O,z,J,jV r.1 H,jV r.2 M⟩
 |.list _ _ _,_,_,_,_,_,_,_,r,_=>by simp[Ty.flat]at r
theorem mg (h:ap P V W st a w){G:Nat->Prop}{off n:Nat}{hol I:Option Nat}(a5:∀ k,off<=k->k<off+n->I≠some k)(X:∀ k,¬ (off<=k/\k<off+n)->(I=some k<->hol=some k)) :
  ∀ (b:Ty) (pos:Nat) (x:b.den) (ls:List Leaf) (cs:List Value) (t:cJ b.den) (R:List Value) (z:List Nat),aC P V W st w ls cs->da st off n b pos x ls=some t->Mx w G b hol pos x R z ->
  ∃ O c2 c' J,cs=O++c2/\aC P V W st w t.rest c2/\O.length=min (off+n) (pos+b.cells)-max off pos /\
   Mx w (λk=>G k\/bj V W t.p t.frz k) b I pos t.val c' J /\
   (∀ i,i<b.cells->c'[i]?=if off<=pos+i/\pos+i<off+n then O[pos+i-max off pos]? else R[i]?) /\
   (∀ k,J.count k<=z.count k+(aW W t.kill).count k)/\(∀ x∈t.frz,aB st x)/\(∀ x∈t.kill,aB st x)
 |.pair b c,pos,x,ls,cs,t,R,z,M,r,⟨d1,d2,b1,b2,e1,e2,a6,b5⟩=>by
  simp only[da]at r;split at r
  ·rename_i u Y;split at r
   ·rename_i v hc;simp only[BA]at r;subst r;obtain⟨O,c2,c',J,f1,f2,f3,f4,f5,f6,f7,f8⟩:=mg h a5 X b pos x.1 ls cs u d1 b1 M Y a6;obtain⟨c3,c4,ad,a1,g1,g2,g3,g4,g5,g6,g7,g8⟩:=mg h a5 X c (pos+b.cells) x.2 u.rest c2 v d2 b2 f2 hc b5;have b9:=f4.len;have bb:=g4.len;have b4:=a6.len;refine⟨O++c3,c4,c'++ad,J++a1,by rw[f1,g1,BQ],g2,?_,⟨c',ad,J,a1,rfl,rfl,?_,?_⟩,?_,?_,?_,?_⟩
    ·rw[BR,f3,g3];simp only[Ty.cells];omega
    ·refine f4.mono λk H=>?_
     rcases H with H|H|⟨y,hy,H⟩
     ·exact .inl H
     ·exact .inr (.inl (bT (by intro h;simp[h]) (λ_ h=>h) k H))
     ·exact .inr (.inr ⟨y,BJ _ hy,H⟩)
    ·refine g4.mono λk H=>?_
     rcases H with H|H|⟨y,hy,H⟩
     ·exact .inl H
     ·exact .inr (.inl (bT (by intro h;simp[h]) (λ_ h=>h) k H))
     ·exact .inr (.inr ⟨y,BE _ hy,H⟩)
    ·intro i hi;simp only[Ty.cells]at hi;rw[e1];by_cases b3:i<b.cells
     ·rw[BH (by omega),f5 i b3];by_cases hr:off<=pos+i/\pos+i<off+n
      ·rw[if_pos hr,if_pos hr,BH (by omega)]
      ·rw[if_neg hr,if_neg hr,BH (by omega)]
     ·rw[BG (by omega),b9,g5 (i-b.cells) (by omega)];have e3:pos+b.cells+(i-b.cells)=pos+i:=by omega
      rw[e3];by_cases hr:off<=pos+i/\pos+i<off+n
      ·rw[if_pos hr,if_pos hr,BG (by omega)];congr 1;omega
      ·rw[if_neg hr,if_neg hr,BG (by omega),b4]
    ·intro k;rw[e2,BF,BF,dH,BF];have:=f6 k;have:=g6 k;omega
    ·intro y hy;exact (BL.1 hy).elim (f7 y) (g7 y)
    ·intro y hy;exact (BL.1 hy).elim (f8 y) (g8 y)
   ·cases r
  ·cases r
 |.unit,pos,x,ls,cs,t,R,z,M,r,hm=>by
  simp only[da,BA]at r;subst r;refine⟨[],cs,[],[],rfl,M,by simp only[Ty.cells,CV];omega,⟨rfl,rfl⟩,λi hi=>by simp[Ty.cells]at hi,λk=>by simp,by simp,by simp⟩
 |.hdr,pos,x,ls,cs,t,R,z,M,r,hm=>by simp[da]at r
 |.int k,pos,x,ls,cs,t,R,z,M,r,hm=>put_scalar h (b:=.int k) rfl rfl M r hm
 |.bool,pos,x,ls,cs,t,R,z,M,r,hm=>put_scalar h (b:=.bool) rfl rfl M r hm
 |.str,pos,x,ls,cs,t,R,z,M,r,hm=>put_scalar h (b:=.str) rfl rfl M r hm
 |.list m E e,pos,x,ls,cs,t,R,z,M,r,hm=>by
  simp only[da]at r;have ba:=hm.len;have e0:(Ty.list m E e).cells=1:=rfl;cases Y:Ci off pos&&Cx pos (off+n) with
  |true =>
   rw[Y]at r;simp only[cond_true]at r;simp only[BC,CZ]at Y;have b0:=CH Y.1;obtain⟨O,c2,l1,e1,e2,h1,h2,h3,h4,h5⟩:=lA h (.list m E e) pos ls cs t M r;have a3:=h3.len;refine⟨O,c2,O,aW W t.kill,e1,h2,by rw[a3];omega,?_,λi hi=>?_,λk=>by omega,h4,h5⟩
   ·have Z:=h3.mono (G':=λk=>G k\/bj V W t.p t.frz k) (λk H=>.inr H);cases m with
    |false=>rw[cn]at Z ⊢;exact Z
    |true =>
     rw[bH (by simp)]at Z;rw[bH (a5 pos b0 Y.2)];exact Z
   ·rw[if_pos (by omega)];congr 1;omega
  |false =>
   rw[Y]at r;simp only[cond_false,BA]at r;subst r;have a2:¬ (off<=pos/\pos<off+n):=by
    rintro⟨h1,h2⟩;have:(Ci off pos&&Cx pos (off+n))=true:=by
     simp only[BC,CZ];exact⟨CS h1,h2⟩
    rw[Y]at this;cases this
   refine⟨[],cs,R,z,rfl,M,by simp only[CV];omega,?_,λi hi=>?_,λk=>by omega,by simp,by simp⟩
   ·have Z:=hm.mono (G':=λk=>G k\/bj V W false [] k) (λk H=>.inl H);cases m with
    |false=>rw[cn]at Z ⊢;exact Z
    |true =>
     by_cases hp:hol=some pos
     ·have a4:=(X pos a2).2 hp;subst hp;subst a4;rw[iZ]at Z ⊢;exact Z
     ·have a4:I≠some pos:=λe=>hp ((X pos a2).1 e)
      rw[bH hp]at Z;rw[bH a4];exact Z
   ·rw[if_neg (by omega)]
where
 put_scalar (h:ap P V W st a w) {b:Ty} {pos:Nat} {x:b.den} {ls:List Leaf} {cs:List Value} {t:cJ b.den} {R:List Value} {z:List Nat} (hf:b.flat=true) (h1:b.cells=1) (M:aC P V W st w ls cs)
   (r:(bif Ci off pos&&Cx pos (off+n) then take st b ls else some ⟨false,x,[],[],ls⟩)=some t) (hm:Mx w G b hol pos x R z) :
   ∃ O c2 c' J,cs=O++c2/\aC P V W st w t.rest c2/\O.length=min (off+n) (pos+b.cells)-max off pos /\
    Mx w (λk=>G k\/bj V W t.p t.frz k) b I pos t.val c' J /\
    (∀ i,i<b.cells->c'[i]?=if off<=pos+i/\pos+i<off+n then O[pos+i-max off pos]? else R[i]?) /\
    (∀ k,J.count k<=z.count k+(aW W t.kill).count k)/\(∀ x∈t.frz,aB st x)/\(∀ x∈t.kill,aB st x):=by
  have a0:∀ {S S':Nat->Prop} {hh a9:Option Nat} {y:b.den} {c:List Value} {q:List Nat},Mx w S b hh pos y c q->Mx w S' b a9 pos y c []:=by
   intro S S' hh a9 y c q hq;exact Mx.flat (w:=w) (G:=λ_=>True) hf (jV hf hq)
  cases Y:Ci off pos&&Cx pos (off+n) with
  |true =>
   rw[Y]at r;simp only[cond_true]at r;simp only[BC,CZ]at Y;have b0:=CH Y.1;obtain⟨O,c2,l1,e1,e2,h2,h3,h4,h5,Z⟩:=lA h b pos ls cs t M r;have a3:=h4.len;refine⟨O,c2,O,[],e1,h3,by rw[a3];omega,a0 h4,λi hi=>?_,λk=>by simp,h5,Z⟩;rw[if_pos (by omega)];congr 1;omega
  |false =>
   rw[Y]at r;simp only[cond_false,BA]at r;subst r;have a2:¬ (off<=pos/\pos<off+n):=by
    rintro⟨h1,h2⟩;have:(Ci off pos&&Cx pos (off+n))=true:=by
     simp only[BC,CZ];exact⟨CS h1,h2⟩
    rw[Y]at this;cases this
   refine⟨[],cs,R,[],rfl,M,by simp only[CV];omega,a0 hm,λi hi=>?_,λk=>by simp,by simp,by simp⟩;rw[if_neg (by omega)]
end
section
variable {P:Program} {V:Env} {Γ:List Ctr} {T:TypeId->TI} {st st2:St} {o:Oper} {R:Type} {κ:Upd->Option R} {r:R}
def uT (V:Env)(W:Wit)(st:St)(q j k:Nat):Prop :=
 ¬ W.nw k/\¬ V.prot k/\(∀ b,live st b->W.β b≠k)/\∀ (u i:Nat) (l:Leaf),(st u).ls[i]?=some l->ao l->(u,i)≠(q,j)->k∉W.bs u i
structure xI (st st2:St) (q j:Nat) (l':Leaf):Prop where
 sh:∀ r,(st2 r).sh=(st r).sh
 ver:∀ r,(st r).ver<=(st2 r).ver
 epo:(st EPO).ver<(st2 EPO).ver
 len:∀ r,(st2 r).ls.length=(st r).ls.length
 at_:∀ l,(st2 q).ls[j]?=some l->l=l'
 old:∀ r i l,(r,i)≠(q,j)->(st2 r).ls[i]?=some l->(st r).ls[i]?=some l
def Wit.tell (W:Wit)(q j:Nat)(bs:List Nat):Wit:={ W with bs:=λr i=>if (r,i)=(q,j) then bs else W.bs r i }
theorem ap.retell (hV:ax V){W:Wit}{a:Act}{w w':World}(h:ap P V W st a w){q j:Nat}{l l':Leaf}(O:xI st st2 q j l'){v:Value}{bs':List Nat}
  (hl:(st q).ls[j]?=some l) (a5:ao l) (hv:(W.cs q)[j]?=some v) (b4:ao l') (a9:aK P V W st w' bs' l' v)
  (a4:∀ k∈bs',uT V W st q j k)
  (H:∀ k,cd V W st k->k∉W.bs q j->w'.heap[k]?=w.heap[k]?) (ad:w.heap.size<=w'.heap.size) (b3:w'.os=w.os) (ht:w'.tape=w.tape) (ho:w'.output=w.output) :
  ap P V (W.tell q j bs') st2 a w':=by
 have a0:=h.ownb q j _ hl a5;have X:∀ b,live st2 b<->live st b:=iA O.sh;have a1:∀ {y i:Nat},(y,i)≠(q,j)->(W.tell q j bs').bs y i=W.bs y i:=λh=>if_neg h
 have a3:(W.tell q j bs').bs q j=bs':=if_pos rfl;have b0:∀ (y i:Nat) (l:Leaf),(st2 y).ls[i]?=some l->ao l->(y,i)≠(q,j)->(st y).ls[i]?=some l:=λy i l Y _ M=>O.old y i l M Y
 have I:cD V W (W.tell q j bs') st st2 w w':=by
  refine⟨λy=>⟨O.ver y,λ_=>rfl⟩,λb hb=>⟨(X b).2 hb,rfl⟩,λ_ h=>h,λk z=>H k (z.elim .inl (λh=>.inr (.inl h))) (λhm=>?_),λhe=>?_⟩
  ·rcases z with z|z
   ·exact (a0 k hm).1 z
   ·exact (a0 k hm).2.1 z
  ·have:=O.epo;omega
 exact {
  nt:=h.nt,df:=h.df
  slots:=λt b2=>by rw[O.sh];exact h.slots t b2
  boxes:=λb hb=>by
   rw[O.sh];rcases h.boxes b hb with ⟨Y,M⟩|⟨Y,E0,M⟩
   ·refine .inl ⟨Y,BV ?_⟩;rw[O.len,M];rfl
   ·refine .inr ⟨Y,E0,?_⟩;show w'.heap[W.β b]?=_;rw[H _ (.inr (.inr (.inl ⟨b,⟨hb,Y⟩,rfl⟩))) (λhm=>(a0 _ hm).2.2 b ⟨hb,Y⟩ rfl)];exact M
  len:=λy=>by rw[O.len];exact h.len y
  one:=h.one
  leaf:=λy i l1 u Y M=>by
   by_cases J:(y,i)=(q,j)
   ·cases J;obtain rfl:=O.at_ l1 Y;have M:(W.cs q)[j]?=some u:=M;rw[hv]at M;simp only[BA]at M;subst M;rw[a3];have a6:cD V W (W.tell q j bs') st st2 w' w':=⟨I.ver,I.box,I.nw,λ_ _=>rfl,λhe=>by have:=O.epo;omega⟩;exact a9.carry hV.ro a6 (λ_=>⟨rfl,λ_ _=>rfl⟩)
   ·have h3:=O.old y i l1 J Y;rw[a1 J];refine (h.leaf y i l1 u h3 M).carry hV.ro I (λho=>⟨rfl,λk z=>H k (.inr (.inr (.inr ⟨y,i,l1,h3,ho,z⟩))) (λhm=>J ?_)⟩);obtain⟨rfl,rfl⟩:=h.sep y i l1 q j _ h3 ho hl a5 k z hm;rfl
  ownb:=λy i l1 Y M k z=>by
   by_cases J:(y,i)=(q,j)
   ·cases J;rw[a3]at z;obtain⟨q1,q2,q3,_⟩:=a4 k z;exact⟨q1,q2,λb hb=>q3 b ((X b).1 hb)⟩
   ·rw[a1 J]at z;obtain⟨q1,q2,q3⟩:=h.ownb y i l1 (O.old y i l1 J Y) M k z;exact⟨q1,q2,λb hb=>q3 b ((X b).1 hb)⟩
  sep:=λy i l1 r2 i2 l2 Y M h3 h4 k z a2=>by
   by_cases J:(y,i)=(q,j) <;> by_cases Z:(r2,i2)=(q,j)
   ·rw[<- Z]at J;cases J;exact⟨rfl,rfl⟩
   ·cases J;rw[a3]at z;rw[a1 Z]at a2;exact absurd a2 ((a4 k z).2.2.2 r2 i2 l2 (O.old r2 i2 l2 Z h3) h4 Z)
   ·cases Z;rw[a3]at a2;rw[a1 J]at z;exact absurd z ((a4 k a2).2.2.2 y i l1 (O.old y i l1 J Y) M J)
   ·rw[a1 J]at z;rw[a1 Z]at a2;exact h.sep y i l1 r2 i2 l2 (O.old y i l1 J Y) M (O.old r2 i2 l2 Z h3) h4 k z a2
  box:=λb hb=>h.box b ((X b).1 hb)
  inj:=λb b' hb b1=>h.inj b b' ((X b).1 hb) ((X b').1 b1)
  nwlt:=λk z=>⟨CE (h.nwlt k z).1 ad,(h.nwlt k z).2⟩
  os:=b3.trans h.os,tape:=ht.trans h.tape,output:=ho.trans h.output,size:=CC h.size ad
  keep:=λk hp=>by
   rw[H k (.inr (.inl hp)) (λhm=>(a0 k hm).2.1 hp)];exact h.keep k hp
  fixb:=λx hx=>⟨(X _).2 (h.fixb x hx).1,(h.fixb x hx).2⟩
  fixt:=h.fixt }
theorem kI {q:Nat}(st:St):∀ (ks:List (Nat×Nat)),(∀ x∈ks,x.1≠q)->ac (aE st ks) st q=st q
 |[],_=>rfl
 |(r,j)::ks,h=>by
  have e:ac (aE st ((r,j)::ks)) st=ac [(r,fT (ac (aE st ks) st r) j)] (ac (aE st ks) st):=aO _ _ _ _;rw[e,aJ (CK (h (r,j) (BW ..))),kI st ks (λx u=>h x (BP _ u))]
theorem ko {q:Nat}(st:St):∀ (ks:List (Nat×Nat)),(∀ x∈ks,x.1≠q)->ac (aM st ks) st q=st q
 |[],_=>rfl
 |(r,j)::ks,h=>by
  have e:ac (aM st ((r,j)::ks)) st=ac [(r,fY (ac (aM st ks) st r) j)] (ac (aM st ks) st):=aO _ _ _ _;rw[e,aJ (CK (h (r,j) (BW ..))),ko st ks (λx u=>h x (BP _ u))]
theorem OwH.store {w:World}{G G':Nat->Prop}{h h':Option (Nat×Nat)}{E:TypeId}{e:Ty}{xs:List e.den}{g len a3:Nat}{bs K:List Nat}(H:OwH w G h E e xs (.slice (some ⟨g,0,none⟩) len a3) bs)
  (hG:∀ k,G k->G' k) (ba:¬ G' g) (hK:K.Nodup) (cu:∀ k∈K,k∉bs) {i:Nat} {a5 z:e.den} (hi:xs[i]?=some a5) (hh:∀ j,j≠i->cO h' j=cO h j) {off:Nat} {cs:List Value} (e2:off+cs.length<=e.cells)
  (J:∀ c0 c2,Mx w G e (cO h i) 0 a5 c0 c2->∃ c M,Mx w G' e (cO h' i) 0 z c M/\(∀ k,k<e.cells->c[k]?=if off<=k/\k<off+cs.length then cs[k-off]? else c0[k]?)/\∀ k,M.count k<=c2.count k+K.count k) :
  ∃ bb,OwH (w.setCells g (i*e.cells+off) cs) G' h' E e (xs.set i z) (.slice (some ⟨g,0,none⟩) len a3) bb/\∀ k∈bb,k∈bs\/k∈K:=by
 obtain⟨c4,a1,Y,h1,h2,h3⟩:=H;have a9:i<xs.length:=(BD.1 hi).1;obtain⟨c0,b5,cc⟩:=h3 i a5 hi;obtain⟨c,M,hm,cy,b9⟩:=J c0 (Y i) b5;have cw:=h1.1;rcases h1.2 with ⟨h4,_⟩|⟨g',dd,y,mk,h4,hg,b0,cx,cp,a6⟩
 ·simp at h4
 ·simp only[B3,BA,Cd,and_true,true_and]at h4;obtain⟨rfl,rfl,rfl⟩:=h4;have dc:g∈bs:=by rw[h2];simp[Bw]
  have e1:=b5.len;have d1:=hm.len;have c1:(i+1)*e.cells<=xs.length*e.cells:=BN _ a9;rw[B6]at c1;have d3:xs.length*e.cells<=a3*e.cells:=BN _ b0;have d2:y.toList.length=y.size:=by rw[B4]
  have bn:a1=y.toList.take (xs.length*e.cells):=a6.symm;have J:=jG g E cs 0 (i*e.cells+off) w y hg;have b4:=kQ y.toList cs (i*e.cells+off) (by omega);rw[Bx]at b4;rw[b4]at J;simp only[CA]at J;have Z:∀ k,k<xs.length*e.cells->(y.toList.take (i*e.cells+off)++cs++y.toList.drop (i*e.cells+off+cs.length))[k]? =
    if i*e.cells+off<=k/\k<i*e.cells+off+cs.length then cs[k-(i*e.cells+off)]? else a1[k]?:=by
   intro k X;have b2:a1[k]?=y.toList[k]?:=by rw[bn,B8,if_pos X]
   by_cases h9:k<i*e.cells+off
   ·rw[BQ,BH (by simp only[Bv];omega),B8,if_pos h9,if_neg (by omega),b2]
   ·by_cases cb:k<i*e.cells+off+cs.length
    ·rw[BQ,BG (by simp only[Bv];omega),BH (by simp only[Bv];omega),if_pos ⟨by omega,cb⟩];congr 1;simp only[Bv];omega
    ·rw[BG (by simp only[Bv,BR];omega),CN,if_neg (by omega),b2];congr 1;simp only[Bv,BR];omega
  have O:(y.toList.take (i*e.cells+off)++cs++y.toList.drop (i*e.cells+off+cs.length)).length=y.size:=by
   simp only[BR,Bv,Cf];omega
  have a2:∀ k,([g]++(BO xs.length).flatMap λj=>if j=i then M else Y j).count k<=bs.count k+K.count k:=by
   intro k;have h5:=kn a9 Y M k;have h6:=b9 k;rw[h2];simp only[Bw,C3,BF];omega
  have a0:=mY c4 hK cu a2;have b1:∀ j,j<xs.length->∀ k∈(if j=i then M else Y j),k≠g:=by
   intro j hj k X e0;subst e0;have h7:=a0.1;rw[Cp,CF]at h7;exact h7.1 (dU.2 ⟨j,hj,X⟩)
  have I:∀ k,k≠g->(w.setCells g (i*e.cells+off) cs).heap[k]?=w.heap[k]?:=λk X=>eG g cs _ w k X
  refine⟨[g]++(BO xs.length).flatMap λj=>if j=i then M else Y j,⟨a0.1,(y.toList.take (i*e.cells+off)++cs++y.toList.drop (i*e.cells+off+cs.length)).take (xs.length*e.cells),
   λj=>if j=i then M else Y j,⟨?_,.inr ⟨g,a3,_,_,?_,J,?_,by rw[CQ,O];exact cx,?_,?_⟩⟩,?_,?_⟩,a0.2⟩
  ·rw[Bv,O,CG];omega
  ·rw[CG]
  ·rw[CG];exact b0
  ·rw[CQ,O];exact cp
  ·rw[CG]
  ·simp[Bw]
  ·intro j x hj;rcases aR _ _ _ _ _ hj with ⟨rfl,rfl,_⟩|⟨a4,hj⟩
   ·refine⟨c,?_,λk u hu=>?_⟩
    ·simp only[if_true];exact hm.carry (λ_ h=>h) (λk X=>I k (λe0=>ba (e0 ▸ X))) (λk X=>I k (b1 j a9 k (by simpa using X)))
    ·have bl:k<e.cells:=by rw[<- d1];exact (BD.1 hu).1
     rw[B8,if_pos (by omega),Z _ (by omega)];rw[cy k bl]at hu;by_cases b3:off<=k/\k<off+cs.length
     ·rw[if_pos b3]at hu;rw[if_pos (by omega),<- hu];congr 1;omega
     ·rw[if_neg b3]at hu;rw[if_neg (by omega)];exact cc k u hu
   ·obtain⟨c',c3,c6⟩:=h3 j x hj;have bx:j<xs.length:=(BD.1 hj).1;refine⟨c',?_,λk u hu=>?_⟩
    ·rw[hh j a4];simp only[if_neg a4];exact c3.carry hG (λk X=>I k (λe0=>ba (e0 ▸ hG k X))) (λk X=>I k (b1 j bx k (by rw[if_neg a4];exact X)))
    ·have bl:k<e.cells:=by rw[<- c3.len];exact (BD.1 hu).1
     have c5:(j+1)*e.cells<=xs.length*e.cells:=BN _ bx;rw[B6]at c5;rw[B8,if_pos (by omega),Z _ (by omega),if_neg ?_]
     ·exact c6 k u hu
     ·rintro⟨h14,h15⟩;rcases Nat.lt_or_gt_of_ne (λe=>a4 e.symm:i≠j) with ad|ad
      ·have:(i+1)*e.cells<=j*e.cells:=BN _ ad;rw[B6]at this;omega
      ·have:(j+1)*e.cells<=i*e.cells:=BN _ ad;rw[B6]at this;omega
theorem xJ (hV:ax V)(hT:TOk P T){t:TypeId}{x y:Operand}(b1:o.op=.store t x y)(h:act Γ T o st κ=some r):bV P V o st κ r:=by
  simp only[act,wrU,b1]at h;split at h
  · cases h
  · rename_i hd
    cases hb:BT (au st y).2.length (T t).cells&&decide ((au st y).1=bf (T t).agg)&&!decide ((T t).cells=0) with
    |false=>simp[hb]at h
    |true =>
      simp only[hb,cond_true]at h;simp only[BC,decide_eq_true_eq,BY,decide_eq_false_iff_not]at hb;obtain⟨⟨b5,cc⟩,b3⟩:=hb;have b5:=BI b5;split at h
      · rename_i b off hx
        cases Z:decide ((st b).sh=.agg)&&decide (off+(au st y).2.length<=(st b).ls.length)&&hZ st (au st y).2 with
        |false=>simp[Z]at h
        |true =>
          simp only[Z,cond_true]at h;simp only[BC,decide_eq_true_eq]at Z;exact⟨_,h,λW a w hr=>tn hV hT b1 hd hx b5 cc b3 Z.1.1 Z.1.2 Z.2 hr⟩
      · rename_i z j fr i sz off hx
        split at h
        · rename_i p hh E e xs e7
          cases Z:BT sz e.cells&&decide (off+(au st y).2.length<=e.cells)&&rT z with
          |false=>simp[Z]at h
          |true =>
            simp only[Z,cond_true]at h;simp only[BC,decide_eq_true_eq,rT,BY]at Z;obtain⟨⟨b4,fx⟩,fz,ev⟩:=Z;have b4:=BI b4;subst b4;have et:z≠EPO:=λe0=>by subst e0;simp at ev
            unfold gH at h;obtain⟨a0,c6,h⟩:=By.1 h;obtain⟨_,_,h4⟩:=gi c6;simp only[C6]at h4;split at h
            · rename_i u hu
              cases hq:u.rest.isEmpty&&aY u.kill&&dC u.frz u.kill&&!((u.kill++u.frz).any λk=>BT k.1 z) with
              |false=>rw[hq]at h;cases h
              |true =>
                simp only[hq,cond_true]at h;simp only[BC,BY,Bz]at hq;obtain⟨⟨⟨f0,eg⟩,dd⟩,a1⟩:=hq;have a1:∀ k∈u.kill++u.frz,k.1≠z:=λk H e0=>a1 k H (by simp[e0])
                obtain ⟨I, hκ, cw, a4, c5⟩ : ∃ I : Option (Nat × Nat), κ ((z, ⟨(st z).ver, (st z).sh, aS (st z).ls j (.own (p || u.p) I E e (xs.set i u.val))⟩) :: (EPO, bU (ac (aM (ac (aE st u.frz) st) u.kill ++ aE st u.frz) st EPO)) ::
                      (aM (ac (aE st u.frz) st) u.kill++aE st u.frz))=some r /\
                    (∀ k,off<=k->k<off+(au st y).2.length->cO I i≠some k)/\(∀ k,¬ (off<=k/\k<off+(au st y).2.length)->(cO I i=some k<->cO hh i=some k))/\(∀ j',j'≠i->cO I j'=cO hh j'):=by
                  cases hh with
                  |none=>exact⟨none,h,λ_ _ _=>by simp[cO],λ_ _=>Cj,λ_ _=>rfl⟩
                  |some hp =>
                    obtain⟨hi,ho⟩:=hp;simp only at h;cases J:Ci off ho&&Cx ho (off+(au st y).2.length) with
                    |true =>
                      rw[J]at h;simp only[cond_true]at h;simp only[BC,CZ]at J;have fi:=CH J.1;cases b2:BT i hi with
                      |true =>
                        rw[b2]at h;have h9:=h;have:=BI b2;subst this;refine⟨none,h9,λ_ _ _=>by simp[cO],λk H=>?_,λj' ef=>?_⟩
                        · simp only[cO,Nat.beq_refl,cond_true,reduceCtorEq,BA,false_iff]
                          rintro rfl;exact H ⟨fi,J.2⟩
                        · have:BT i j'=false:=by
                            cases e5:BT i j' with
                            |false=>rfl
                            |true=>exact absurd (BI e5).symm ef
                          simp[cO,this]
                      |false=>rw[b2]at h;cases h
                    |false =>
                      rw[J]at h;refine⟨some (hi,ho),h,λk bb dc=>?_,λ_ _=>Cj,λ_ _=>rfl⟩;simp only[cO];cases BT hi i with
                      |false=>simp
                      |true =>
                        simp only[cond_true,ne_eq,BA];rintro rfl;have:(Ci off ho&&Cx ho (off+(au st y).2.length))=true:=by
                          simp only[BC,CZ];exact⟨CS bb,dc⟩
                        rw[J]at this;cases this
                refine⟨_,hκ,λW a w hr next Q hn=>?_⟩;obtain⟨cs,hs,M⟩:=cS hr y;rw[cc]at hs;have en:=gU hs M.one';have bx:=M.length;obtain⟨h5,h6⟩:=eY e7 (by simp);obtain⟨hp,_,_,_⟩:=bq hr x (by rw[hx];simp);rw[hx]at hp;obtain⟨g,fd,ej,a5,fo,hv⟩:=hp.2 h5;have eb:T t≠.none:=by intro e;rw[e]at b3;exact b3 rfl
                have a2:=hr.leaf z j _ _ h6 a5;have fc:∀ c0 X,Mx w (gd V W p) e (cO hh i) 0 a0 c0 X->∃ c a3,Mx w (λk=>gd V W p k\/bj V W u.p u.frz k) e (cO I i) 0 u.val c a3 /\
                    (∀ k,k<e.cells->c[k]?=if off<=k/\k<off+cs.length then cs[k-off]? else c0[k]?)/\∀ k,a3.count k<=X.count k+(aW W u.kill).count k:=by
                  intro c0 X hm;obtain⟨c1,c2,c',bs',f1,f2,f3,f4,f5,f6,f7,f8⟩:=mg hr cw a4 e 0 a0 (au st y).2 cs u c0 X M hu hm;have cx:c2=[]:=by
                    have:=f2.length;rw[DE.1 f0]at this;exact BV this.symm
                  subst cx;rw[Bu]at f1;subst f1;refine⟨c',bs',f4,λk H=>?_,f6⟩;rw[f5 k H,bx];simp only[CL];by_cases J:off<=k/\k<off+cs.length
                  · rw[if_pos J,if_pos J]
                    congr 1;omega
                  · rw[if_neg J,if_neg J]
                have ad:(∀ x∈u.frz,aB st x)/\(∀ x∈u.kill,aB st x):=by
                  obtain⟨_,a9,cp,_,_,c4⟩:=a2;obtain⟨c0,ed,_⟩:=c4 i a0 h4;obtain⟨_,_,_,_,_,_,_,_,_,_,f7,f8⟩:=mg hr cw a4 e 0 a0 (au st y).2 cs u c0 _ M hu ed;exact⟨f7,f8⟩
                obtain⟨k1,k2,k3,k4⟩:=fD hV hr dd ad.2;have O:ac (aM (ac (aE st u.frz) st) u.kill++aE st u.frz) st z=st z:=by
                  rw[bA,ko _ _ (λx hx=>a1 x (BJ _ hx)),kI _ _ (λx hx=>a1 x (BE _ hx))]
                have h7:(ac (aM (ac (aE st u.frz) st) u.kill++aE st u.frz) st z).ls[j]?=some (.own p hh E e xs):=by rw[O];exact h6
                have a6:=k1.ownb z j _ h7 trivial;have d1:∀ k,gd V W p k\/bj V W u.p u.frz k->gd V (W.frz st u.frz) (p||u.p) k:=by
                  rintro k (H|H)
                  · exact bT (W':=W.frz st u.frz) (by intro h;simp[h]) (λ_ h=>Or.inl h) k H
                  · exact bT (W':=W.frz st u.frz) (by intro h;simp[h]) (λ_ h=>h) k (kg ad.1 k H)
                have bl:g∈W.bs z j:=by obtain⟨_,a9,cp,_,d2,_⟩:=a2;rw[d2];simp[Bw]
                have es:¬ gd V (W.frz st u.frz) (p||u.p) g:=by
                  rintro (H|⟨_,H⟩)
                  · exact (a6 g bl).1 H
                  · exact (a6 g bl).2.1 (hV.ro g H)
                have ec:∀ k∈aW W u.kill,k∉W.bs z j:=λk H e6=>(k4 k H).2.2.2.2 z j _ h7 trivial e6
                obtain⟨bs',cu,c3⟩:=OwH.store (G':=gd V (W.frz st u.frz) (p||u.p)) (h':=I) a2 (λk H=>d1 k (.inl H)) es (gP hr eg ad.2) ec h4 c5 (off:=off) (cs:=cs) (by omega)
                  (λc0 X hm=>by
                    obtain⟨c,a3,q1,q2,q3⟩:=fc c0 X hm;exact⟨c,a3,q1.mono d1,q2,q3⟩)
                obtain⟨_,a9,cp,ho,d2,_⟩:=a2;have ex:fd=xs.length:=by
                  obtain⟨A,cb,e0,_⟩:=ho.slice;simp only[B3]at e0;exact e0.2.1
                subst ex;rcases ho.2 with ⟨h8,_⟩|⟨g',cb,cur,mk,h8,hg,d3,em,fv,_⟩
                · simp at h8
                · simp only[B3,BA,Cd,and_true,true_and]at h8
                  obtain⟨rfl,rfl⟩:=h8;have cy:(i+1)*e.cells<=xs.length*e.cells:=BN _ (BD.1 h4).1;rw[B6]at cy;have fl:xs.length*e.cells<=ej*e.cells:=BN _ d3;have ba:cur.toList.length=cur.size:=by rw[B4]
                  have bn:=mX (P:=P) (oM (hT t) eb) (w:=w) (b:=g) (off:=i*e.cells+off) (cur:=cur.toList) (E:=E) (by rw[Bx];exact hg) (by rw[ba];exact zm em) en (by omega) M.one' (by omega);refine pz (w':=w.setCells g (i*e.cells+off) cs) (by simp[execOp,b1,hv,bn]) ?_;rw[hd];refine hn _ _ ?_;obtain⟨e1,e2,e3,e4⟩:=jH g cs (i*e.cells+off) w;refine⟨_,k1.retell hV (l':=.own (p||u.p) I E e (xs.set i u.val)) (w':=w.setCells g (i*e.cells+off) cs) (bs':=bs') ?_ h7 trivial a5 trivial cu (λk H=>?_) (λk _ H=>eG g cs _ w k (λe=>H (e ▸ bl))) (Ch e4.symm) e1 e2 e3⟩
                  · rw[aO z,aO EPO]
                    have Y:EPO≠z:=CK et;generalize aM (ac (aE st u.frz) st) u.kill++aE st u.frz=U at O ⊢;refine⟨λq=>?_,λq=>?_,?_,λq=>?_,λl M=>?_,λq i' l hq M=>?_⟩
                    · rcases am z q ⟨(st z).ver,(st z).sh,aS (st z).ls j (.own (p||u.p) I E e (xs.set i u.val))⟩ (ac [(EPO,bU (ac U st EPO))] (ac U st)) with ⟨rfl,e⟩ | ⟨_,e⟩
                      · rw[e,O]
                      · rw[e]
                        rcases am EPO q (bU (ac U st EPO)) (ac U st) with ⟨rfl,e⟩|⟨_,e⟩ <;> rw[e];rfl
                    · rcases am z q ⟨(st z).ver,(st z).sh,aS (st z).ls j (.own (p||u.p) I E e (xs.set i u.val))⟩ (ac [(EPO,bU (ac U st EPO))] (ac U st)) with ⟨rfl,e⟩ | ⟨_,e⟩
                      · rw[e,O];exact BU _
                      · rw[e]
                        rcases am EPO q (bU (ac U st EPO)) (ac U st) with ⟨rfl,e⟩|⟨_,e⟩ <;> rw[e]
                        · exact DJ _
                        · exact BU _
                    · rw[aJ Y,bh];exact BM _
                    · rcases am z q ⟨(st z).ver,(st z).sh,aS (st z).ls j (.own (p||u.p) I E e (xs.set i u.val))⟩ (ac [(EPO,bU (ac U st EPO))] (ac U st)) with ⟨rfl,e⟩ | ⟨_,e⟩
                      · rw[e,O];simp[aS]
                      · rw[e]
                        rcases am EPO q (bU (ac U st EPO)) (ac U st) with ⟨rfl,e⟩|⟨_,e⟩ <;> rw[e];rfl
                    · rw[bh]at M
                      rcases aR _ _ _ _ _ M with ⟨_,rfl,_⟩|⟨Y,_⟩
                      · rfl
                      · exact absurd rfl Y
                    · rcases am z q ⟨(st z).ver,(st z).sh,aS (st z).ls j (.own (p||u.p) I E e (xs.set i u.val))⟩ (ac [(EPO,bU (ac U st EPO))] (ac U st)) with ⟨rfl,e⟩ | ⟨_,e⟩
                      · rw[e]at M
                        rw[O];rcases aR _ _ _ _ _ M with ⟨rfl,_,_⟩|⟨_,M⟩
                        · exact absurd rfl hq
                        · exact M
                      · rw[e]at M
                        rcases am EPO q (bU (ac U st EPO)) (ac U st) with ⟨rfl,e⟩|⟨_,e⟩ <;> rw[e]at M <;> exact M
                  · rcases c3 k H with H|H
                    · have h9:=k1.ownb z j _ h7 trivial k H
                      exact⟨h9.1,h9.2.1,h9.2.2,λr1 i1 l1 b9 b0 Y bb=>Y (by obtain⟨e1,e2⟩:=k1.sep r1 i1 l1 z j _ b9 b0 h7 trivial k bb H;rw[e1,e2])⟩
                    · have h9:=k4 k H
                      exact⟨h9.1,h9.2.1,h9.2.2.2.1,λr1 i1 l1 b9 b0 _=>h9.2.2.2.2 r1 i1 l1 b9 b0⟩
            · cases h
        · cases h
      · cases h
end
section
variable {P:Program} {V:Env} {Γ:List Ctr} {T:TypeId->TI} {st:St} {o:Oper} {R:Type} {κ:Upd->Option R} {r:R}
theorem ap.putOwn (Y:ax V){W:Wit}{a:Act}{w w':World}(h:ap P V W st a w)(M:w.heap.size<=w'.heap.size)(O:w'.os=w.os)(ht:w'.tape=w.tape)(ho:w'.output=w.output)
  (hk:∀ k,cd V W st k->w'.heap[k]?=w.heap[k]?) (d:Nat) (hd:d<V.nt) (z:∀ x∈V.fixt,x.1≠d) (n:Nat) (hn:(st d).ver<n) {p:Bool} {E:TypeId} {e:Ty} {xs:List e.den} {v:Value} {bs:List Nat}
  (ow:Ow w' (gd V W p) E e xs v bs) (hb:∀ k∈bs,¬ cd V W st k):Rel P V (ac [(d,⟨n,.one,[.own p none E e xs]⟩)] st) (a.put (some d) v) w':=by
 refine⟨_,(h.world Y M O ht ho hk).put Y d hd z n .one [.own p none E e xs] v [v] (λ_=>bs) hn rfl rfl (λu X=>by simp at X;subst X;exact ow.one) ?_ ?_ ?_⟩
 ·intro j l u y H;cases j with
  |zero=>simp at y H;subst y;subst H;exact ow
  |succ j=>simp at y
 ·intro j l y H k J;have:=hb k J;simp only[cd,not_or,not_exists,not_and]at this;exact⟨this.1,this.2.1,this.2.2.1,λr1 j1 l1 _ I Z=>this.2.2.2 r1 j1 l1 I Z⟩
 ·intro j j' l l' y H I Z k h5 h6;have h7:j<1:=(BD.1 y).1;have h8:j'<1:=(BD.1 I).1;omega
theorem dP {W:Wit}{p q:Bool}{z y:List (Nat×Nat)}:(∀ k,bj V W p z k->bj V W (p||q) (z++y) k)/\(∀ k,bj V W q y k->bj V W (p||q) (z++y) k):=by
 constructor
 ·rintro k (u|⟨x,H,u⟩)
  ·exact .inl (bT (W':=W) (by intro h;simp[h]) (λ_ h=>h) k u)
  ·exact .inr ⟨x,BJ _ H,u⟩
 ·rintro k (u|⟨x,H,u⟩)
  ·exact .inl (bT (W':=W) (by intro h;simp[h]) (λ_ h=>h) k u)
  ·exact .inr ⟨x,BE _ H,u⟩
theorem xK (n:Nat)(u:Nat->List Nat):(BO (n+1)).flatMap u=u 0++(BO n).flatMap λj=>u (j+1):=by
 rw[List.range_succ_eq_map,CI,DF]
theorem ot {W:Wit}{a:Act}{w:World}(M:ap P V W st a w){e:Ty}:∀ (ps:List (Nat×Operand)) (k:Nat) (u:cJ (List e.den)),ew st e k ps=some u ->
  ps.map (λx=>(x.1,a.eval x.2))=((ps.map λx=>a.eval x.2).zipIdx k).map (λx=>(x.2,x.1))/\u.val.length=ps.length/\(∀ x∈u.frz,aB st x)/\(∀ x∈u.kill,aB st x) /\
  ∃ z:Nat->List Nat,aW W u.kill=(BO u.val.length).flatMap z /\
   ∀ (j:Nat) (x:e.den),u.val[j]?=some x->∃ v c,(ps.map λx=>a.eval x.2)[j]?=some v/\v.cells=c.toArray/\Mx w (bj V W u.p u.frz) e none 0 x c (z j)
 |[],k,u,h=>by
  simp only[ew,BA]at h;subst h;exact⟨rfl,rfl,by simp,by simp,λ_=>[],rfl,λj x H=>by simp at H⟩
 |(i,y)::ps,k,u,h=>by
  simp only[ew]at h;cases I:BT i k&&decide ((au st y).1=bf e.isAgg) with
  |false=>simp[I]at h
  |true =>
   simp only[I,cond_true]at h;simp only[BC,decide_eq_true_eq]at I;have O:=BI I.1;subst O;split at h
   ·rename_i t1 u1 hg X;simp only[BA]at h;subst h;obtain⟨h1,h2,h3,h4,z,h5,h6⟩:=ot M ps (i+1) u1 X;obtain⟨cs,Z,Y⟩:=cS M y;rw[I.2]at Z;have hc:=gU Z Y.one';obtain⟨g1,g2,g3⟩:=dN (pos:=0) M Y hg;refine⟨by simp[h1],by simp[h2],λx J=>(BL.1 J).elim (g2 x) (h3 x),λx J=>(BL.1 J).elim (g3 x) (h4 x),λj=>match j with|0=>aW W t1.kill|j+1=>z j,?_,?_⟩
    ·rw[dH,h5,Cg,xK]
    ·intro j x H;cases j with
     |zero =>
      simp at H;subst H;exact⟨a.eval y,cs,by simp,hc,g1.mono dP.1⟩
     |succ j =>
      obtain⟨v,c,h7,h8,h9⟩:=h6 j x (by simpa using H);exact⟨v,c,by simpa using h7,h8,h9.mono dP.2⟩
   ·cases h
theorem lB (w:World)(G:Nat->Prop):∀ (b:Ty),Rd w G b b.zero (zeroCells b)
 |.int _=>rfl
 |.bool=>rfl
 |.str=>rfl
 |.unit=>rfl
 |.hdr=>⟨none,0,rfl⟩
 |.pair a b=>⟨_,_,rfl,lB w G a,lB w G b⟩
 |.list m E e=>Rd.nil w G m E e
theorem qz (w:World)(G:Nat->Prop):∀ (b:Ty) (pos:Nat),Mx w G b none pos b.zero (zeroCells b) []
 |.int _,_=>⟨rfl,rfl⟩
 |.bool,_=>⟨rfl,rfl⟩
 |.str,_=>⟨rfl,rfl⟩
 |.unit,_=>⟨rfl,rfl⟩
 |.hdr,_=>⟨⟨none,0,rfl⟩,rfl⟩
 |.pair a b,_=>⟨_,_,[],[],rfl,rfl,qz w G a _,qz w G b _⟩
 |.list m E e,_=>by
  cases m with
  |false=>exact cn.2 ⟨rfl,Rd.nil w G false E e⟩
  |true=>exact (bH (by simp)).2 ⟨_,rfl,(OwH.nil w G E e).2⟩
theorem mh {W:Wit}{k:Nat}(h:¬ W.nw k/\¬ V.prot k/\(∀ b,live st b->W.β b≠k)/\∀ (u i:Nat) (l:Leaf),(st u).ls[i]?=some l->ao l->k∉W.bs u i):¬ cd V W st k:=by
 rintro (y|y|⟨b,J,e⟩|⟨u,i,l,H,z,I⟩)
 ·exact h.1 y
 ·exact h.2.1 y
 ·exact h.2.2.1 b J e
 ·exact h.2.2.2 u i l H z I
theorem mi:(9223372036854775807:Nat)<=maxLen:=by decide
theorem qA (hV:ax V)(hT:TOk P T)(a6:bL V o){t:TypeId}{n:Nat}{y:Array (Nat×Operand)}(a2:o.op=.buildSlice t n y)(h:act Γ T o st κ=some r):bV P V o st κ r:=by
 simp only[act,wrU,a2]at h;cases ht:T t with
 |slice E e c4 =>
  simp only[ht]at h;split at h
  ·rename_i u c5;cases hb:BT u.val.length n&&decide (n*e.cells<=16777216)&&aY u.kill&&dC u.frz u.kill with
   |false=>simp[hb]at h
   |true =>
    simp only[hb,cond_true]at h;simp only[BC,decide_eq_true_eq]at hb;obtain⟨⟨⟨c3,cp⟩,c0⟩,bb⟩:=hb;have bl:=BI c3;subst bl;split at h
    ·rename_i d hd;refine⟨_,h,λW a w hr next Q hn=>?_⟩;have h1:=hT t;rw[ht]at h1;obtain⟨hu,_,_,Y,_,ti,z,a0,O,_,hz,cb⟩:=h1;obtain⟨h2,h3,b2,b4,b9,c6,h5⟩:=ot hr y.toList 0 u c5;generalize cc:u.val=I at *;have a5:∀ v∈(y.toList.map λx=>a.eval x.2),v.cells.size=e.cells:=by
      intro v hv;obtain⟨j,hj,e1⟩:=List.getElem_of_mem hv;have c1:j<I.length:=by rw[h3];simpa using hj
      obtain⟨v',c,X,Z,h8⟩:=h5 j I[j] (BS c1);rw[BS hj]at X;simp only[BA]at X;rw[<- e1,X,Z];simpa using h8.len
     have ba:(y.toList.map λx=>a.eval x.2).length=I.length:=by rw[CW,h3]
     have a4:∀ (j:Nat) (x:e.den),I[j]?=some x->∃ c,Mx w (bj V W u.p u.frz) e none 0 x c (b9 j)/\∀ i u,c[i]?=some u ->
       ((y.toList.map λx=>a.eval x.2).flatMap λv=>v.cells.toList)[j*e.cells+i]?=some u:=by
      intro j x hj;obtain⟨v,c,X,Z,h8⟩:=h5 j x hj;refine⟨c,h8,λi u hi=>?_⟩;have b0:i<e.cells:=by rw[<- h8.len];exact (BD.1 hi).1
      rw[Great.flat_get Y _ a5];have e1:(j*e.cells+i) / e.cells=j:=by
       rw[Ck,Nat.mul_add_div Y,Nat.div_eq_of_lt b0,CA]
      have e2:(j*e.cells+i) % e.cells=i:=by
       rw[Ck,DO,DG b0]
      rw[e1,e2,X];simpa[Z]using hi
     have a3:((y.toList.map λx=>a.eval x.2).flatMap λv=>v.cells.toList).length=I.length*e.cells:=by
      have:∀ (vs:List Value),(∀ v∈vs,v.cells.size=e.cells)->(vs.flatMap λv=>v.cells.toList).length=vs.length*e.cells:=by
       intro vs;induction vs with
       |nil=>intro _;simp
       |cons v vs ih =>
        intro hv;rw[CI,BR,ih (λu hu=>hv u (BP _ hu)),B4,hv v (BW ..),Cg,B6];omega
      rw[this _ a5,ba]
     have H:=Great.fill_whole Y (y.toList.map λx=>a.eval x.2) ((Array.range (I.length*e.cells)).map ((if I.length*e.cells=0 then (#[]:Array Value) else z.cells)[· % (if I.length*e.cells=0 then (#[]:Array Value) else z.cells).size]!)) a5 (by rw[ba];simp);rw[<- h2]at H;have a1:(y.map λ (i,x)=>(i,a.eval x)).toList=y.toList.map λx=>(x.1,a.eval x.2):=by rw[DH]
     have a9:(execOp a.eval o).run P w=.ok (.value (.slice (some ⟨w.heap.size,0,none⟩) I.length I.length)) (w.alloc (.cells ((y.toList.map λx=>a.eval x.2).flatMap λv=>v.cells.toList).toArray E)):=by
      have M:¬ (I.length*e.cells>2 ^ 24):=by omega
      by_cases h0:I.length*e.cells=0
      ·rw[if_pos h0]at H;simp only[execOp,a2,Instr.buildSlice,C7,run_underlying hu,Cb,sizeOf,typeInfo,a0,O,a1];simp[M,h0,newRow,a0,O,a1]at H ⊢;simp[H]
      ·rw[if_neg h0]at H;have:=run_buildSlice (P:=P) w t E I.length (y.map λ (i,x)=>(i,a.eval x)) _ ti z hu a0 hz (by rw[O];exact M) (by rw[O];exact h0) (by rw[O,a1];exact H);simp[execOp,a2,this]
     refine dV a9 ?_;rw[hd];refine hn _ _ ?_;rw[cj,aO];obtain⟨X,_,_,b1⟩:=fD hV hr bb b4;have ad:=X.used_lt;have b5:I.length<=maxLen:=by
      have:=mi;have:I.length*1<=I.length*e.cells:=CY _ Y;omega
     have bn:=World.ownsRow_lit (e:=E) (size:=e.cells) (base:=0) w ((y.toList.map λx=>a.eval x.2).flatMap λv=>v.cells.toList).toArray I.length (DK _) b5 (by simpa using a3);refine X.putOwn hV (w':=w.alloc (.cells ((y.toList.map λx=>a.eval x.2).flatMap λv=>v.cells.toList).toArray E)) (by simp) rfl rfl rfl (λk J=>Go.heap_alloc_old w _ (ad k J)) d (a6 d hd).1 (a6 d hd).2 _ (BM _) (bs:=w.heap.size::aW W u.kill) ?_ (λk J hu=>?_)
     ·refine⟨CF.2 ⟨λhm=>?_,gP hr c0 b4⟩,_,b9,Row.of bn,by rw[c6];rfl,λj x hj=>?_⟩
      ·have:=(b1 _ hm).2.2.1;omega
      ·obtain⟨c,b3,bx⟩:=a4 j x hj;have c2:∀ k,bj V W u.p u.frz k->k<w.heap.size:=λk J=>by
        rcases kg b2 k J with J|⟨_,J⟩
        ·exact (X.nwlt k J).1
        ·exact CE (hV.ro k J).1 X.size
       exact⟨c,b3.carry (kg b2) (λk J=>Go.heap_alloc_old w _ (c2 k J)) (λk J=>Go.heap_alloc_old w _ (b3.lt k J)),λi u hi=>by simpa using bx i u hi⟩
     ·rcases CM.1 J with rfl|J
      ·have:=ad _ hu;omega
      ·have Z:=b1 k J;exact mh ⟨Z.1,Z.2.1,Z.2.2.2.1,Z.2.2.2.2⟩ hu
    ·cases h
  ·cases h
 |_=>simp[ht]at h
theorem xL {w:World}{G:Nat->Prop}{E':TypeId}{y u e:TypeId}(Z:P.underlying y=some (.slice e))(O:P.underlying e=some (.int .u8))(X:P.underlying u=some .string){xs:List Int}{v:Value}
  (h:Rd w G (.list false E' (.int .u8)) xs [v]):(convert y u v).run P w=.ok (.string (gI xs)) w:=by
 obtain⟨A,z,hv,hc,J⟩:=h;simp only[CX,and_true]at hv;subst hv;cases A with
 |none =>
  have hx:xs=[]:=by
   cases xs with
   |nil=>rfl
   |cons x xs=>obtain⟨g,o,M,_⟩:=J (by simp);cases M
  subst hx;show (convert y u (.slice none 0 z)).run P w=_;rw[run_convert_bytes_nil w y e Z O 0 z u X];rfl
 |some ad =>
  cases I:xs with
  |nil =>
   subst I;show (convert y u (.slice (some ad) 0 z)).run P w=_;rw[run_convert_bytes_string w y u e ad 0 z Z O X];simp[Conv.bytesToString,loadCells,loadCellsFrom];rfl
  |cons x0 a0 =>
   rw[<- I];obtain⟨g,o,M,_,hr⟩:=J (by rw[I];simp);simp only[BA]at M;subst M;have:=run_convert_bytes_arg (P:=P) w y e Z O g o xs.length z xs rfl (λi hi=>by
    obtain⟨c,H,Y⟩:=hr i xs[i] (BS hi);have H:c=[.int .u8 xs[i]]:=H;subst H;have:=Y 0 _ rfl;simp only[Ty.cells,Cu,CA]at this;rw[this];simp[List.getD,BS hi]) u X
   rw[this];rfl
theorem uq (hV:ax V)(hT:TOk P T)(J:bL V o){s t:TypeId}{x:Operand}(M:o.op=.convert s t x)(h:act Γ T o st κ=some r):bV P V o st κ r:=by
 simp only[act,wrU,M]at h;have y:=hT t;have z:=hT s;split at h
 ·rename_i k' k a5 n Z X hx;split at h
  ·rename_i d O;refine⟨_,h,λW a w I=>aN hV I O J (v:=.int k (k.wrap n)) ?_ rfl id rfl⟩;rw[X]at y;rw[Z]at z;simp[execOp,M,bD I hx,Go.convert,run_underlying y.1,run_underlying z.1,Conv.intToInt]
  ·cases h
 ·rename_i E b Z X;split at h
  ·rename_i p xs ha;split at h
   ·rename_i d O;refine⟨_,h,λW a w I=>?_⟩;have a4:one st x≠.dead:=by intro e0;rw[e0]at ha;simp[aD,dh]at ha
    obtain⟨h1,h2,_⟩:=bq I x a4;have a2:=kx (m:=false) (E:=E) I h1 h2 ha;rw[X]at y;rw[Z]at z;refine aN hV I O J (v:=.string (gI xs)) ?_ rfl id rfl;have:=xL (P:=P) z.1 (z.2.2.2.2.1.2 rfl) y.1 a2;simp[execOp,M,this]
   ·cases h
  ·cases h
 ·rename_i E b H Z X hx;cases hE:BT E 5 with
  |false=>simp[hE]at h
  |true =>
  simp only[hE,cond_true]at h;have a3:E=5:=BI hE;split at h
  ·rename_i d O;refine⟨_,h,λW a w I next Q hn=>?_⟩;rw[X]at y;rw[Z]at z;have hc:(eq H).length=H.size:=by simp only[eq,CW,B4];rfl
   have Y:=Lib.run_convert_string_bytes (P:=P) w s t E H z.1 y.1 (y.2.2.2.2.1.2 rfl);refine dV (v:=.slice (some ⟨w.heap.size,0,none⟩) H.size (grownCap w H.size 0 E)) (w':=Lib.bytesWorld w E H) (by simp[execOp,M,iz I hx,Y]) ?_;rw[O];refine hn _ _ ?_;have a0:=grownCap_ge w H.size 0 E;have a1:(Lib.bytesCells w E H).size=grownCap w H.size 0 E:=by
    simp only[Lib.bytesCells,C8,Array.size_map,Array.size_replicate];show H.size+_=_;omega
   refine I.putOwn hV (by rw[Lib.bytesWorld_size];omega) (by simp[Lib.bytesWorld,C9,DL,DT,-Cv,-Cz]) (by simp[Lib.bytesWorld,C9,DL,DT,-Cv,-Cz]) (by simp[Lib.bytesWorld,C9,DL,DT,-Cv,-Cz])
    (λk hk=>Lib.bytesWorld_at_old w E H k (I.used_lt k hk)) d (J d O).1 (J d O).2 _ (BM _) (bs:=[w.heap.size])
    ⟨by simp,(eq H).map (Value.int .u8),λ_=>[],⟨by rw[CW];exact (Cu _).symm,.inr ⟨w.heap.size,_,_,_,by rw[hc],Lib.bytesWorld_at_new w E H,by rw[hc];exact a0,.inr ⟨a3,BU _⟩,by rw[a1];exact Ch (Cu _),?_⟩⟩,by simp[Bw],λj x hj=>?_⟩ (λk hk hu=>?_)
   ·simp only[Lib.bytesCells,Cy,DH,Ty.cells,Cu,eq,DA];exact List.take_left' (by simp)
   ·refine⟨[.int .u8 x],⟨rfl,rfl⟩,λi u hi=>?_⟩
    match i,hi with
    |0,hi =>
     simp only[CO,BA]at hi;subst hi;simp[Ty.cells,hj]
   ·simp at hk;have:=I.used_lt k hu;omega
  ·cases h
 ·cases h
theorem rQ (hV:ax V)(hT:TOk P T)(J:bL V o){t:TypeId}{n c:Operand}(M:o.op=.makeSlice t n c)(h:act Γ T o st κ=some r):bV P V o st κ r:=by
 simp only[act,wrU,M]at h;split at h
 ·rename_i E e H k1 m k2 m' ht a1 a0;cases hb:decide (0<=m)&&decide (m=m')&&decide (m*H<=(an:Int)) with
  |false=>simp[hb]at h
  |true =>
   simp only[hb,cond_true]at h;simp only[BC,decide_eq_true_eq]at hb;obtain⟨⟨h0,rfl⟩,a4⟩:=hb;split at h
   ·rename_i d hd;refine⟨_,h,λW a w hr next Q hn=>?_⟩;have h1:=hT t;rw[ht]at h1;obtain⟨hu,_,_,bb,b4,ti,z,a2,b2,ad,hz,Y⟩:=h1;have hm:(m.toNat:Int)=m:=by omega
    have X:m.toNat*H<=an:=by
     have:((m.toNat*H:Nat):Int)<=(an:Int):=by rw[Int.natCast_mul,hm];exact a4
     omega
    have ba:m.toNat*1<=m.toNat*H:=CY _ b4.1;simp only[an]at X;have b5:=mi;obtain⟨w',I,a6,y⟩:=run_make_full (P:=P) w 0 t E ti z e.cells hu a2 hz b2 k1 k2 m.toNat (by rw[ad,Ck];omega) (by omega) (DK _);rw[hm]at I;refine dV (v:=.slice (some ⟨w.heap.size,0,none⟩) m.toNat m.toNat) (w':=w') (by simp[execOp,M,bD hr a1,bD hr a0,I]) ?_;rw[hd];refine hn _ _ ?_;have b0:z.cells.size=e.cells:=by
     have h2:=(lB w (λ_=>False) e).len;rw[<- B4,Y,h2]
    refine hr.putOwn hV y.size y.os y.tape y.output (λk hk=>y.block k (hr.used_lt k hk) (by simp)) d (J d hd).1 (J d hd).2 _ (BM _) (bs:=[w.heap.size])
     ⟨by simp,_,λ_=>[],by rw[Cq];exact Row.of a6,by simp[Bw],λj x O=>?_⟩ (λk hk hu=>?_)
    ·rw[CP]at O;split at O
     ·rename_i b1;simp at O;subst O;refine⟨_,qz w' _ e 0,λi u hi=>?_⟩;have a5:i<e.cells:=by rw[<- (lB w' (λ_=>False) e).len];exact (BD.1 hi).1
      have Z:(j+1)*e.cells<=m.toNat*e.cells:=BN _ b1;rw[B6]at Z;have a9:j*e.cells+i<m.toNat*e.cells:=by omega
      have e2:(j*e.cells+i) % e.cells=i:=by rw[Ck,DO,DG a5]
      have a3:z.cells[i]?=some u:=by rw[<- Cr,Y];exact hi
      obtain⟨b9,b3⟩:=Array.getElem?_eq_some_iff.1 a3;simp only[madeCells,Cr,Array.getElem?_map,Array.getElem?_range,a9,if_true,DP,b0,e2];rw[getElem!_pos z.cells i (by omega),b3]
     ·cases O
    ·simp at hk;have:=hr.used_lt k hu;omega
   ·cases h
 ·cases h
theorem ur (n u:Nat)(z:n<=u)(k y:IntKind)(w:World):(DB true n u none (some (.int k n)) (some (.int y n))).run P w=.ok (0,n,n) w:=by
 simp[DB,Instr.sliceBound,asIntOf,z]
theorem vV (hV:ax V)(hT:TOk P T)(a0:bL V o){t:TypeId}{x m:Operand}{lo hi:Option Operand}(a5:o.op=.slice t x lo hi (some m))(h:act Γ T o st κ=some r):bV P V o st κ r:=by
 simp only[act,wrU,a5]at h;cases hd:o.dst with
 |none=>simp[hd]at h
 |some d =>
  simp only[hd]at h;split at h
  ·rename_i E' e' c6 O j v ht hx;split at h
   ·rename_i p E e J hdr;split at h
    ·rename_i hh k b5 b9;cases hb:hi.isSome&&decide (hh=(J.length:Int))&&decide (k=(J.length:Int))&&BT e'.cells e.cells with
     |false=>rw[hb]at h;cases h
     |true =>
      rw[hb]at h;simp only[cond_true]at h;simp only[BC,decide_eq_true_eq]at hb;obtain⟨⟨⟨a9,rfl⟩,rfl⟩,X⟩:=hb;have X:=BI X;refine⟨_,h,λW a w hr next Q hn=>?_⟩;have h1:=hT t;rw[ht]at h1;obtain⟨hu,_,_,_,_,ti,z,b2,c2,_⟩:=h1;obtain⟨a2,_,_,_,_⟩:=bq hr x (by rw[hx];simp);rw[hx]at a2;obtain⟨h8,a6,b3,cp⟩:=ke hr hdr a2;obtain⟨y,hy,Z,c5⟩:∃ y,hi=some y/\∃ Z,a.eval y=.int Z J.length:=by
       rcases mG hr b5 with ⟨I,_⟩|⟨y,Z,I,u⟩
       ·rw[I]at a9;cases a9
       ·exact⟨y,I,Z,u⟩
      obtain⟨k2,ba⟩:∃ k2,a.eval m=.int k2 J.length:=by
       rcases mG hr b9 with ⟨I,_⟩|⟨y,k2,I,u⟩
       ·cases I
       ·cases I;exact⟨k2,u⟩
      obtain⟨A,bx,hv,a1⟩:=a6.slice;have hE:=du (P:=P) (t:=E') (n:=e.cells) (by simp[bP,b2,c2,X]) w;have a3:(if J.length=0 then A else A.map λx=>x.add (0*e.cells))=A:=by
       cases A with
       |none=>simp
       |some ad =>
        have e0:ad.add 0=ad:=by simp[Addr.add]
        show (if J.length=0 then some ad else some (ad.add (0*e.cells)))=some ad;rw[DC,e0];split <;> rfl
      refine dV (v:=.slice A J.length J.length) (w':=w) ?_ ?_
      ·simp only[execOp,a5,hv,hy,DP,Co,c5,ba,Instr.sliceAt,Instr.slice,C7,run_underlying hu,Cb,ur J.length bx a1 Z k2 w,hE,Sem.run_pure,Cl,a3]
      ·rw[hd];refine hn _ _ ?_;rw[cj,aO];have c1:∀ z∈[(O,j)],aB st z:=λz hz=>by simp at hz;subst hz;exact⟨_,b3,trivial⟩
       obtain⟨h6,_,_,H⟩:=fD (frz:=[]) (kill:=[(O,j)]) hV hr rfl c1;have e1:aM (ac (aE st []) st) [(O,j)]++aE st []=aM st [(O,j)]:=Bu _;rw[e1]at h6 H;have cb:aW W [(O,j)]=W.bs O j:=by simp[aW]
       rw[cb]at H;obtain⟨b1,b0,c3,M,a4,c4⟩:=a6;refine h6.putOwn hV (w':=w) (BU _) rfl rfl rfl (λ_ _=>rfl) d (a0 d hd).1 (a0 d hd).2 _ (BM _) (bs:=W.bs O j) ?_ (λk hk=>mh ⟨(H k hk).1,(H k hk).2.1,(H k hk).2.2.2.1,(H k hk).2.2.2.2⟩);have b4:∀ k,gd V W p k->gd V (W.frz st []) p k:=bT (W':=W.frz st []) (λh=>h) (λ_ h=>Or.inl h);refine OwH.carry (G:=gd V W p) ⟨b1,b0,c3,⟨M.1,?_⟩,?_,c4⟩ b4 (λ_ _=>rfl) (λ_ _=>rfl)
       ·rcases M.2 with ⟨Y,I⟩|⟨g,cc,c0,mk,Y,I,u,bl,bb,bn⟩
        ·rw[hv]at Y;simp only[B3]at Y;exact .inl ⟨by rw[Y.1,I],I⟩
        ·rw[hv]at Y;simp only[B3,true_and]at Y;exact .inr ⟨g,J.length,c0,mk,by rw[Y.1],I,BU _,bl.imp (λh=>⟨h.1,CC u h.2⟩) id,CC (BN _ u) bb,bn⟩
       ·rw[a4,hv];cases A <;> rfl
    ·cases h
   ·cases h
  ·cases h
theorem xM (I:ax V)(z:TOk P T)(u:bL V o){t:TypeId}{x:Operand}{J M H:Option Operand}(y:o.op=.slice t x J M H)(h:act Γ T o st κ=some r):bV P V o st κ r:=by
 cases H with
 |none=>exact vn I z u y h
 |some m=>exact vV I z u y h
theorem Am (hV:ax V)(I:bL V o){c:Call}(H:o.op=.call c)(O:c.callee=.builtin .min)(h:act Γ T o st κ=some r):bV P V o st κ r:=by
 simp only[act,wrU,H,O]at h;split at h
 ·cases h
 ·rename_i d M;simp only[M]at h;split at h
  ·rename_i x y Z;split at h
   ·rename_i X m k2 n Y hn;have u:c.args=#[x,y]:=by rw[<- Bx (xs:=c.args),Z]
    refine⟨_,h,λW a w J=>aN hV J M I (v:=.int X (bif decide (n<m) then n else m)) ?_ rfl id rfl⟩;cases z:decide (n<m) <;> simp[execOp,H,O,resolve,invoke,builtin,u,bD J Y,bD J hn,Builtin.min_,Builtin.min2] <;> simp at z <;> omega
   ·cases h
  ·cases h
theorem An (hV:ax V)(I:bL V o){c:Call}(H:o.op=.call c)(O:c.callee=.builtin .max)(h:act Γ T o st κ=some r):bV P V o st κ r:=by
 simp only[act,wrU,H,O]at h;split at h
 ·cases h
 ·rename_i d M;simp only[M]at h;split at h
  ·rename_i x y Z;split at h
   ·rename_i X m k2 n Y hn;have u:c.args=#[x,y]:=by rw[<- Bx (xs:=c.args),Z]
    refine⟨_,h,λW a w J=>aN hV J M I (v:=.int X (bif decide (m<n) then n else m)) ?_ rfl id rfl⟩;cases z:decide (m<n) <;> simp[execOp,H,O,resolve,invoke,builtin,u,bD J Y,bD J hn,Builtin.max_,Builtin.max2] <;> simp at z <;> omega
   ·cases h
  ·cases h
end
section
variable {P:Program} {V:Env} {W:Wit} {st st':St} {w w':World} {a:Act}
theorem ap.putGhost (hV:ax V)(h:ap P V W st a w)(d:Nat)(hd:GH<=d)(a4:d<B0)(n:Nat)(sh:aI)(ls:List Leaf)
  (X:List Value) (O:Nat->List Nat) (hn:(st d).ver<n) (hl:ls.length=X.length) (h1:∀ u∈X,u.oneCell'=true)
  (a1:∀ (j:Nat) (l:Leaf) (u:Value),ls[j]?=some l->X[j]?=some u->aK P V W st w (O j) l u)
  (Z:∀ (j:Nat) (l:Leaf),ls[j]?=some l->ao l->∀ k∈O j,¬ W.nw k/\¬ V.prot k/\(∀ b,live st b->W.β b≠k) /\
   ∀ (r1 j1:Nat) (l1:Leaf),r1≠d->(st r1).ls[j1]?=some l1->ao l1->k∉W.bs r1 j1)
  (a2:∀ (j j':Nat) (l l':Leaf),ls[j]?=some l->ao l->ls[j']?=some l'->ao l'->∀ k,k∈O j->k∈O j'->j=j') :
  ap P V { W with cs:=λr=>if r=d then X else W.cs r,bs:=λr j=>if r=d then O j else W.bs r j } (ac [(d,⟨n,sh,ls⟩)] st) a w /\
   cD V W { W with cs:=λr=>if r=d then X else W.cs r,bs:=λr j=>if r=d then O j else W.bs r j } st (ac [(d,⟨n,sh,ls⟩)] st) w w:=by
 have J:∀ b,live (ac [(d,⟨n,sh,ls⟩)] st) b<->live st b:=by
  intro b;by_cases Y:B0<=b
  ·rw[live,live,aJ (by omega)]
  ·simp[live,Y]
 have I:cD V W { W with cs:=λr=>if r=d then X else W.cs r,bs:=λr j=>if r=d then O j else W.bs r j } st (ac [(d,⟨n,sh,ls⟩)] st) w w:=by
  refine⟨λq=>?_,λb Y=>⟨(J b).2 Y,rfl⟩,λ_ h=>h,λ_ _=>rfl,λ_ q j' l' M h4 h5=>?_⟩
  ·rcases am d q ⟨n,sh,ls⟩ st with ⟨rfl,e⟩|⟨y,e⟩
   ·rw[e];exact⟨Nat.le_of_lt hn,λe=>absurd e (by show n≠_;omega)⟩
   ·rw[e];exact⟨BU _,λ_=>by simp[y]⟩
  ·rcases am d q ⟨n,sh,ls⟩ st with ⟨rfl,e⟩|⟨y,e⟩
   ·rw[e]at h5;exact absurd h5 (by show n≠_;omega)
   ·rw[e]at M;exact⟨⟨l',M,h4⟩,by simp[y],λ_ _=>rfl⟩
 refine⟨?_,I⟩
 exact {
  nt:=h.nt,df:=h.df
  slots:=λt ht=>by
   have:t≠d:=by omega
   rw[aJ this];simpa[this]using h.slots t ht
  boxes:=λb Y=>by
   have:b≠d:=by omega
   rw[aJ this];simpa[this]using h.boxes b Y
  len:=λq=>by
   rcases am d q ⟨n,sh,ls⟩ st with ⟨rfl,e⟩|⟨y,e⟩
   ·rw[e];simpa using hl
   ·rw[e];simpa[y]using h.len q
  one:=λq u hu=>by
   by_cases hq:q=d
   ·simp only[hq,if_true]at hu;exact h1 u hu
   ·simp only[hq,if_false]at hu;exact h.one q u hu
  leaf:=λq j l u z M=>by
   rcases am d q ⟨n,sh,ls⟩ st with ⟨rfl,e⟩|⟨y,e⟩
   ·rw[e]at z;simp only[if_true]at M;exact (a1 j l u z M).carry hV.ro I (λ_=>⟨by simp,λ_ _=>rfl⟩)
   ·rw[e]at z;simp only[y,if_false]at M;exact (h.leaf q j l u z M).carry hV.ro I (λ_=>⟨by simp[y],λ_ _=>rfl⟩)
  ownb:=λq j l z M k R=>by
   rcases am d q ⟨n,sh,ls⟩ st with ⟨rfl,e⟩|⟨y,e⟩
   ·rw[e]at z;simp only[if_true]at R;have:=Z j l z M k R;exact⟨this.1,this.2.1,λb Y=>this.2.2.1 b ((J b).1 Y)⟩
   ·rw[e]at z;simp only[y,if_false]at R;have:=h.ownb q j l z M k R;exact⟨this.1,this.2.1,λb Y=>this.2.2 b ((J b).1 Y)⟩
  sep:=λq j l q' j' l' z M h4 h5 k R H=>by
   rcases am d q ⟨n,sh,ls⟩ st with ⟨e0,e⟩|⟨y,e⟩ <;> rcases am d q' ⟨n,sh,ls⟩ st with ⟨e1,e'⟩|⟨a0,e'⟩
   ·rw[e]at z;rw[e']at h4;simp only[e0,if_true]at R;simp only[e1,if_true]at H;exact⟨e0.trans e1.symm,a2 j j' l l' z M h4 h5 k R H⟩
   ·rw[e]at z;rw[e']at h4;simp only[e0,if_true]at R;simp only[a0,if_false]at H;exact absurd H ((Z j l z M k R).2.2.2 q' j' l' a0 h4 h5)
   ·rw[e]at z;rw[e']at h4;simp only[y,if_false]at R;simp only[e1,if_true]at H;exact absurd R ((Z j' l' h4 h5 k H).2.2.2 q j l y z M)
   ·rw[e]at z;rw[e']at h4;simp only[y,if_false]at R;simp only[a0,if_false]at H;exact h.sep q j l q' j' l' z M h4 h5 k R H
  box:=λb Y=>h.box b ((J b).1 Y)
  inj:=λb b' Y a3=>h.inj b b' ((J b).1 Y) ((J b').1 a3)
  nwlt:=h.nwlt
  os:=h.os,tape:=h.tape,output:=h.output,size:=h.size,keep:=h.keep
  fixb:=λx hx=>⟨(J _).2 (h.fixb x hx).1,(h.fixb x hx).2⟩
  fixt:=h.fixt }
theorem gy {off:Nat}:∀ {a:Ty} {pos:Nat} {x:a.den} {u:(E:TypeId)×(e:Ty)×List e.den},bc off a pos x=some u->pos<=off/\off<pos+a.cells
 |.pair a b,pos,x,u,h=>by
  simp only[bc]at h;split at h
  ·rename_i v y;have:=gy y;simp only[Ty.cells];omega
  ·have:=gy h;simp only[Ty.cells];omega
 |.list m E e,pos,z,u,h=>by
  simp only[bc]at h;cases r:m&&BT pos off with
  |false=>simp[r]at h
  |true =>
   simp only[BC]at r;have:=BI r.2;simp only[Ty.cells];omega
 |.int _,_,_,_,h=>by simp[bc]at h
 |.bool,_,_,_,h=>by simp[bc]at h
 |.str,_,_,_,h=>by simp[bc]at h
 |.unit,_,_,_,h=>by simp[bc]at h
 |.hdr,_,_,_,h=>by simp[bc]at h
theorem mZ {off:Nat}:∀ {a:Ty} {pos:Nat} {x:a.den} {E:TypeId} {e:Ty} {u:List e.den},bc off a pos x=some ⟨E,e,u⟩->e.shy=true->a.shy=true
 |.pair a b,pos,x,E,e,u,h,r=>by
  simp only[bc]at h;simp only[Ty.shy,DQ];split at h
  ·rename_i v z;simp only[BA]at h;subst h;exact .inl (mZ z r)
  ·exact .inr (mZ h r)
 |.list m J H,pos,I,E,e,u,h,r=>by
  simp only[bc]at h;cases y:m&&BT pos off with
  |false=>simp[y]at h
  |true =>
   rw[y]at h;simp only[cond_true,BA,Sigma.mk.injEq]at h;obtain⟨rfl,h⟩:=h;rw[heq_eq_eq,Sigma.mk.injEq]at h;obtain⟨rfl,_⟩:=h;simp[Ty.shy,r]
 |.int _,_,_,_,_,_,h,_=>by simp[bc]at h
 |.bool,_,_,_,_,_,h,_=>by simp[bc]at h
 |.str,_,_,_,_,_,h,_=>by simp[bc]at h
 |.unit,_,_,_,_,_,h,_=>by simp[bc]at h
 |.hdr,_,_,_,_,_,h,_=>by simp[bc]at h
theorem Mx.hol_out {G:Nat->Prop}{o:Nat}:∀ {a:Ty} {pos:Nat} {x:a.den} {cs:List Value} {bs:List Nat},(o<pos\/pos+a.cells<=o)->(Mx w G a none pos x cs bs<->Mx w G a (some o) pos x cs bs)
 |.int _,_,_,_,_,_=>Cj
 |.bool,_,_,_,_,_=>Cj
 |.str,_,_,_,_,_=>Cj
 |.unit,_,_,_,_,_=>Cj
 |.hdr,_,_,_,_,_=>Cj
 |.pair a b,pos,x,cs,bs,r=>by
  simp only[Ty.cells]at r;constructor
  ·rintro⟨c1,c2,b1,b2,e1,e2,h1,h2⟩;exact⟨c1,c2,b1,b2,e1,e2,(Mx.hol_out (by omega)).1 h1,(Mx.hol_out (by omega)).1 h2⟩
  ·rintro⟨c1,c2,b1,b2,e1,e2,h1,h2⟩;exact⟨c1,c2,b1,b2,e1,e2,(Mx.hol_out (by omega)).2 h1,(Mx.hol_out (by omega)).2 h2⟩
 |.list m E e,pos,u,cs,bs,r=>by
  simp only[Ty.cells]at r;cases m with
  |false=>rw[cn,cn]
  |true=>rw[bH (by simp),bH (by simp only[ne_eq,BA];omega)]
theorem Mx.out {G:Nat->Prop}{off:Nat}{E:TypeId}{e:Ty}{ys:List e.den}:∀ {a:Ty} {pos:Nat} {x:a.den} {cs:List Value} {bs:List Nat},Mx w G a none pos x cs bs->bc off a pos x=some ⟨E,e,ys⟩ ->
  ∃ v z r,OwB w G none E e ys v z/\cs[off-pos]?=some v/\Mx w G a (some off) pos x cs r/\∀ k,bs.count k=r.count k+z.count k
 |.pair a b,pos,x,cs,bs,⟨c1,c2,b1,b2,J,e2,Z,h2⟩,h=>by
  have hl:=Z.len;simp only[bc]at h;split at h
  ·rename_i u M;simp only[BA]at h;subst h;have Y:=gy M;obtain⟨v,z,r,O,X,R,g4⟩:=Mx.out Z M;refine⟨v,z,r++b2,O,?_,⟨c1,c2,r,b2,J,rfl,R,(Mx.hol_out (by omega)).1 h2⟩,λk=>?_⟩
   ·rw[J,BH (by omega)];exact X
   ·rw[e2,BF,BF,g4 k];omega
  ·rename_i M;have Y:=gy h;obtain⟨v,z,r,O,X,R,g4⟩:=Mx.out h2 h;refine⟨v,z,b1++r,O,?_,⟨c1,c2,b1,r,J,rfl,(Mx.hol_out (by omega)).1 Z,R⟩,λk=>?_⟩
   ·rw[J,BG (by omega),hl,show off-pos-a.cells=off-(pos+a.cells) by omega];exact X
   ·rw[e2,BF,BF,g4 k];omega
 |.list m E' e',pos,xs,cs,bs,H,h=>by
  simp only[bc]at h;cases y:m&&BT pos off with
  |false=>simp[y]at h
  |true =>
   rw[y]at h;simp only[cond_true,BA,Sigma.mk.injEq]at h;obtain⟨rfl,h⟩:=h;simp only[BC]at y;obtain⟨rfl,y⟩:=y;have y:=BI y;subst y;rw[heq_eq_eq,Sigma.mk.injEq]at h;obtain⟨rfl,h⟩:=h;rw[heq_eq_eq]at h;subst h;have I:=H.one;rw[bH (by simp)]at H;obtain⟨v,rfl,hO⟩:=H;exact⟨v,bs,[],hO,by simp,iZ.2 ⟨v,rfl,I v (by simp),rfl⟩,λk=>by simp⟩
 |.int _,_,_,_,_,_,h=>by simp[bc]at h
 |.bool,_,_,_,_,_,h=>by simp[bc]at h
 |.str,_,_,_,_,_,h=>by simp[bc]at h
 |.unit,_,_,_,_,_,h=>by simp[bc]at h
 |.hdr,_,_,_,_,_,h=>by simp[bc]at h
theorem Mx.back {G:Nat->Prop}{off:Nat}{E:TypeId}{e:Ty}{R:List e.den}{v:Value}{bn:List Nat}(Z:OwB w G none E e R v bn):∀ {a:Ty} {pos:Nat} {x z:a.den} {cs:List Value} {I:List Nat},Mx w G a (some off) pos x cs I->bK off E e R a pos x=some z ->
  cs[off-pos]?=some v->∃ O,Mx w G a none pos z cs O/\∀ k,O.count k=I.count k+bn.count k
 |.pair a b,pos,x,z,cs,O,⟨c1,c2,b1,b2,X,e2,M,h2⟩,h,J=>by
  have hl:=M.len;simp only[bK]at h;split at h
  ·rename_i u y;simp only[BA]at h;subst h;have a0:=set_in y;obtain⟨I,Y,g2⟩:=Mx.back Z M y (by rw[X,BH (by omega)]at J;exact J);refine⟨I++b2,⟨c1,c2,I,b2,X,rfl,Y,(Mx.hol_out (by omega)).2 h2⟩,λk=>?_⟩;rw[e2,BF,BF,g2 k];omega
  ·rename_i y;simp only[BB]at h;obtain⟨u,y,rfl⟩:=h;have a0:=set_in y;obtain⟨I,Y,g2⟩:=Mx.back Z h2 y (by
    rw[X,BG (by omega),hl]at J;rw[show off-(pos+a.cells)=off-pos-a.cells by omega];exact J)
   refine⟨b1++I,⟨c1,c2,b1,I,X,rfl,(Mx.hol_out (by omega)).2 M,Y⟩,λk=>?_⟩;rw[e2,BF,BF,g2 k];omega
 |.list m E' e',pos,xs,z,cs,O,H,h,J=>by
  simp only[bK]at h;cases r:m&&BT pos off with
  |false=>simp[r]at h
  |true =>
   rw[r]at h;simp only[cond_true]at h;obtain⟨rfl,rfl,rfl⟩:=jD h;simp only[BC]at r;obtain⟨rfl,r⟩:=r;have r:=BI r;subst r;rw[iZ]at H;obtain⟨v',rfl,M,rfl⟩:=H;simp only[Nat.sub_self,CO,BA]at J;subst J;exact⟨bn,(bH (by simp)).2 ⟨v',rfl,Z⟩,λk=>by simp⟩
 |.int _,_,_,_,_,_,_,h,_=>by simp[bK]at h
 |.bool,_,_,_,_,_,_,h,_=>by simp[bK]at h
 |.str,_,_,_,_,_,_,h,_=>by simp[bK]at h
 |.unit,_,_,_,_,_,_,h,_=>by simp[bK]at h
 |.hdr,_,_,_,_,_,_,h,_=>by simp[bK]at h
where
 set_in {off:Nat} {E:TypeId} {e:Ty} {R:List e.den}:∀ {a:Ty} {pos:Nat} {x z:a.den},bK off E e R a pos x=some z->pos<=off/\off<pos+a.cells
  |.pair a b,pos,x,z,h=>by
   simp only[bK]at h;split at h
   ·rename_i u y;have:=set_in y;simp only[Ty.cells];omega
   ·simp only[BB]at h;obtain⟨u,y,_⟩:=h;have:=set_in y;simp only[Ty.cells];omega
  |.list m E' e',pos,xs,z,h=>by
   simp only[bK]at h;cases r:m&&BT pos off with
   |false=>simp[r]at h
   |true =>
    simp only[BC]at r;have:=BI r.2;simp only[Ty.cells];omega
  |.int _,_,_,_,h=>by simp[bK]at h
  |.bool,_,_,_,h=>by simp[bK]at h
  |.str,_,_,_,h=>by simp[bK]at h
  |.unit,_,_,_,h=>by simp[bK]at h
  |.hdr,_,_,_,h=>by simp[bK]at h
end
section
variable {P:Program} {V:Env} {W W' W2:Wit} {st st' st2:St} {w w' w2:World} {a:Act}
theorem cD.trans (h:cD V W W' st st' w w')(u:cD V W' W2 st' st2 w' w2):cD V W W2 st st2 w w2:=by
 refine⟨λr=>⟨CC (h.ver r).1 (u.ver r).1,λe=>?_⟩,λb hb=>?_,λk y=>u.nw k (h.nw k y),λk y=>?_,λhe r j l H z J=>?_⟩
 ·have H:=(h.ver r).1;have z:=(u.ver r).1;rw[(u.ver r).2 (by omega),(h.ver r).2 (by omega)]
 ·obtain⟨H,z⟩:=h.box b hb;obtain⟨J,O⟩:=u.box b H;exact⟨J,O.trans z⟩
 ·rw[u.heap k (y.imp (h.nw k) id),h.heap k y]
 ·have e1:=(h.ver EPO).1;have e2:=(u.ver EPO).1;have e3:=(h.ver r).1;have e4:=(u.ver r).1;obtain⟨⟨Z,M,R⟩,g6,X⟩:=u.epo (by omega) r j l H z (by omega);obtain⟨Y,I,g4⟩:=h.epo (by omega) r j Z M R (by omega);exact⟨Y,g6.trans I,λk y=>(X k (by rw[I];exact y)).trans (g4 k y)⟩
theorem qB {n i:Nat}(z:i<n)(r:Nat->List Nat)(b u:List Nat)(H:∀ k,(r i).count k=b.count k+u.count k)(y:List Nat)(k:Nat) :
  (y++(BO n).flatMap r).count k=(y++(BO n).flatMap λj=>if j=i then b else r j).count k+u.count k:=by
 have:=kn z r b k;have:=H k;rw[BF,BF];omega
theorem OwH.out {G:Nat->Prop}{E E1:TypeId}{e e1:Ty}{xs:List e.den}{v:Value}{bs:List Nat}{i off:Nat}{y:e.den}{ys:List e1.den}(H:Ow w G E e xs v bs)(hy:xs[i]?=some y)(hg:bc off e 0 y=some ⟨E1,e1,ys⟩) :
  ∃ u O Y,OwH w G (some (i,off)) E e xs v Y/\Ow w G E1 e1 ys u O/\(∀ g M,v=.slice (some ⟨g,0,none⟩) xs.length M->w.cell? ⟨g,i*e.cells+off,none⟩=some u)/\∀ k,bs.count k=Y.count k+O.count k:=by
 obtain⟨a0,X,I,h1,h2,h3⟩:=H;have R:i<xs.length:=(BD.1 hy).1;obtain⟨c,hm,hc⟩:=h3 i y hy;have hm:Mx w G e none 0 y c (I i):=hm;obtain⟨u,O,b',g1,g2,g3,g4⟩:=hm.out hg;have r:=qB R I b' O g4 v.ownBlock.toList;rw[<- h2]at r;have z:=br.1 a0;refine⟨u,O,v.ownBlock.toList++(BO xs.length).flatMap λj=>if j=i then b' else I j,⟨br.2 λk=>by have:=z k;have:=r k;omega,X,_,h1,rfl,λj x Z=>?_⟩,
  ⟨br.2 λk=>by have:=z k;have:=r k;omega,g1⟩,λg M hv=>?_,r⟩
 ·by_cases J:j=i
  ·subst J;rw[hy]at Z;simp only[BA]at Z;subst Z;refine⟨c,?_,hc⟩;simp only[cO,Nat.beq_refl,cond_true,if_true];exact g3
  ·obtain⟨c',h4,h5⟩:=h3 j x Z;refine⟨c',?_,h5⟩;have:BT i j=false:=by
    cases hb:BT i j with
    |false=>rfl
    |true=>exact absurd (BI hb).symm J
   simp only[cO,this,cond_false,if_neg J];exact h4
 ·subst hv;have a2:=gy hg;have a1:i*e.cells+off<xs.length*e.cells:=by
   have:=BN e.cells (show i+1<=xs.length from R);rw[Cc,Nat.one_mul]at this;omega
  rw[h1.cellAt _ a1];exact hc off u (by simpa using g2)
theorem OwH.back {G:Nat->Prop}{E E1:TypeId}{e e1:Ty}{xs:List e.den}{v u:Value}{bs bn:List Nat}{i off:Nat}{y z:e.den}{ys:List e1.den}(H:OwH w G (some (i,off)) E e xs v bs)(hn:Ow w G E1 e1 ys u bn)
  (hd:∀ k∈bn,k∉bs) (hy:xs[i]?=some y) (hs:bK off E1 e1 ys e 0 y=some z) (J:∀ g I,v=.slice (some ⟨g,0,none⟩) xs.length I->w.cell? ⟨g,i*e.cells+off,none⟩=some u) :
  ∃ a2,Ow w G E e (xs.set i z) v a2/\∀ k,a2.count k=bs.count k+bn.count k:=by
 obtain⟨a3,a1,R,h1,h2,h3⟩:=H;have a0:i<xs.length:=(BD.1 hy).1;obtain⟨c,hm,hc⟩:=h3 i y hy;have Z:cO (some (i,off)) i=some off:=by simp[cO]
 rw[Z]at hm;have a5:=Mx.back.set_in hs;have a9:=hm.len;have M:c[off-0]?=some u:=by
  rcases h1.2 with ⟨rfl,h0⟩|⟨g,I,a6,_,rfl,_⟩
  ·omega
  ·have O:=J g I rfl;have a4:i*e.cells+off<xs.length*e.cells:=by
    have:=BN e.cells (show i+1<=xs.length from a0);rw[Cc,Nat.one_mul]at this;omega
   rw[h1.cellAt _ a4]at O;have Y:off<c.length:=by omega
   have h6:=hc off _ (BS Y);rw[O]at h6;rw[Cl,BS Y,h6]
 obtain⟨b1,g1,g2⟩:=Mx.back hn.2 hm hs M;have r:∀ k,(v.ownBlock.toList++(BO xs.length).flatMap λj=>if j=i then b1 else R j).count k=bs.count k+bn.count k:=by
  intro k;have O:=kn a0 R b1 k;have Y:=g2 k;rw[h2,BF,BF];omega
 refine⟨_,⟨(mY a3 hn.1 hd (λk=>Ch (r k))).1,a1,_,by rw[CG];exact h1,by rw[CG],λj x hj=>?_⟩,r⟩;rcases aR _ _ _ _ _ hj with ⟨rfl,rfl,_⟩|⟨X,hj⟩
 ·refine⟨c,?_,hc⟩;simp only[if_true];exact g1
 ·obtain⟨c',O,Y⟩:=h3 j x hj;refine⟨c',?_,Y⟩;have:BT i j=false:=by
   cases hb:BT i j with
   |false=>rfl
   |true=>exact absurd (BI hb).symm X
  have e0:cO (some (i,off)) j=none:=by simp[cO,this]
  rw[e0]at O;simp only[if_neg X];exact O
theorem iU:GH<=TMP/\TMP<B0/\TMP≠EPO:=by decide
def tp (W:Wit)(S:St)(w:World)(r j:Nat)(v:Value):Prop :=
 r≠TMP/\r≠EPO/\∃ (i off:Nat) (p:Bool) (E:TypeId) (e:Ty) (y:List e.den) (g u:Nat),(S r).ls[j]?=some (.own p (some (i,off)) E e y)/\(W.cs r)[j]?=some (.slice (some ⟨g,0,none⟩) y.length u) /\
  g∈W.bs r j/\w.cell? ⟨g,i*e.cells+off,none⟩=some v
theorem uU (hV:ax V)(h:ap P V W st a w){l l':Leaf}{U:Upd}{v:Value}(Z:aK P V W st w [] l v)(I:ck st l=some (U,l')) :
  ∃ W0 n p0 E0 e0 bx,ap P V W0 (ac U st) a w/\cD V W W0 st (ac U st) w w/\l'=.al TMP 0 n/\aK P V W0 (ac U st) w [] l' v/\(ac U st TMP).ver=n/\(ac U st TMP).ls=[.own p0 none E0 e0 bx] /\
   W0.nw=W.nw/\W0.β=W.β/\(∀ q,q≠TMP->W0.cs q=W.cs q)/\W0.cs TMP=[v]/\(∀ q,(ac U st q).sh=(st q).sh\/q=TMP)/\tp W0 (ac U st) w (jZ l).1 (jZ l).2 v:=by
 cases l with
 |nal p ks ep cp E e xs =>
  simp only[ck]at I;cases b0:bm st ks ep with
  |false=>simp[b0]at I
  |true =>
   rw[b0]at I;simp only[cond_true]at I;split at I
   ·rename_i r j n0 i sz off;split at I
    ·rename_i M R J z hg;cases hb:!BT r TMP&&!BT r EPO&&BT sz J.cells with
     |false=>simp[hb]at I
     |true =>
      rw[hb]at I;simp only[cond_true]at I;simp only[BC,BY]at hb;obtain⟨⟨c3,c4⟩,ad⟩:=hb;have ad:=BI ad;subst ad;have X:r≠TMP:=λe=>by subst e;simp at c3
      have bb:r≠EPO:=λe=>by subst e;simp at c4
      split at I
      ·rename_i y hy;split at I
       ·rename_i E1 e1 ys b5;simp only[BA,B7]at I;obtain⟨rfl,rfl⟩:=I;have b3:=pw b0 Z;obtain⟨r',j',n',b9,g,c6,ba,a6,cu,cx,O⟩:=b3.at_ i _ off rfl;simp only[CX,B7,and_true]at b9;obtain⟨rfl,rfl,rfl⟩:=b9;have a0:(st r).ls[j]?=some (.own M none R J z):=by
         rw[B9]at hg;cases H:(st r).ls[j]? with
         |none=>rw[H]at hg;simp at hg
         |some l0=>rw[H]at hg;simp at hg;rw[hg]
        have a1:=h.leaf r j _ _ a0 a6;have a1:Ow w (gd V W M) R J z _ (W.bs r j):=a1;have b2:c6=z.length:=by
         obtain⟨A,cb,e0,_⟩:=a1.slice;simp only[B3]at e0;exact e0.2.1
        subst b2;obtain⟨u,bn,bs',g1,g2,g3,g4⟩:=a1.out hy b5;have hu:u=v:=by
         have:=g3 g ba rfl;rw[this]at O;exact Option.some.inj O
        subst hu;have bl:=br.1 a1.1;have b4:∀ k∈bs',k∈W.bs r j:=λk hk=>BK.1 (by have:=g4 k;have:=BK.2 hk;omega)
        have a2:∀ k∈bn,k∈W.bs r j/\k∉bs':=λk hk=>by
         have h5:=g4 k;have h6:=BK.2 hk;have h7:=bl k;refine⟨BK.1 (by omega),λc1=>?_⟩;have:=BK.2 c1;omega
        have a3:∀ k∈W.bs r j,uT V W st r j k:=λk hk=>by
         have h9:=h.ownb r j _ a0 trivial k hk;exact⟨h9.1,h9.2.1,h9.2.2,λr1 i1 l1 b1 a5 a9 Y=>a9 (by obtain⟨e1,e2⟩:=h.sep r1 i1 l1 r j _ b1 a5 a0 trivial k Y hk;rw[e1,e2])⟩
        have hR:xI st (ac [(r,⟨(st r).ver,(st r).sh,aS (st r).ls j (.own M (some (i,off)) R J z)⟩)] (ac [(EPO,bU (st EPO))] st)) r j (.own M (some (i,off)) R J z):=by
         refine⟨λq=>?_,λq=>?_,?_,λq=>?_,λl Z=>?_,λq i' l H Z=>?_⟩
         ·rcases am r q ⟨(st r).ver,(st r).sh,aS (st r).ls j (.own M (some (i,off)) R J z)⟩ (ac [(EPO,bU (st EPO))] st) with ⟨rfl,e⟩|⟨_,e⟩
          ·rw[e]
          ·rw[e];rcases am EPO q (bU (st EPO)) st with ⟨rfl,e⟩|⟨_,e⟩ <;> rw[e];rfl
         ·rcases am r q ⟨(st r).ver,(st r).sh,aS (st r).ls j (.own M (some (i,off)) R J z)⟩ (ac [(EPO,bU (st EPO))] st) with ⟨rfl,e⟩|⟨_,e⟩
          ·rw[e];exact BU _
          ·rw[e];rcases am EPO q (bU (st EPO)) st with ⟨rfl,e⟩|⟨_,e⟩ <;> rw[e]
           ·exact DJ _
           ·exact BU _
         ·rw[aJ (CK bb),bh];exact BM _
         ·rcases am r q ⟨(st r).ver,(st r).sh,aS (st r).ls j (.own M (some (i,off)) R J z)⟩ (ac [(EPO,bU (st EPO))] st) with ⟨rfl,e⟩|⟨_,e⟩
          ·rw[e];simp[aS]
          ·rw[e];rcases am EPO q (bU (st EPO)) st with ⟨rfl,e⟩|⟨_,e⟩ <;> rw[e];rfl
         ·rw[bh]at Z;rcases aR _ _ _ _ _ Z with ⟨_,rfl,_⟩|⟨a9,_⟩
          ·rfl
          ·exact absurd rfl a9
         ·rcases am r q ⟨(st r).ver,(st r).sh,aS (st r).ls j (.own M (some (i,off)) R J z)⟩ (ac [(EPO,bU (st EPO))] st) with ⟨rfl,e⟩|⟨_,e⟩
          ·rw[e]at Z;rcases aR _ _ _ _ _ Z with ⟨rfl,_,_⟩|⟨_,Z⟩
           ·exact absurd rfl H
           ·exact Z
          ·rw[e]at Z;rcases am EPO q (bU (st EPO)) st with ⟨rfl,e⟩|⟨_,e⟩ <;> rw[e]at Z <;> exact Z
        have h1:=h.retell hV hR a0 trivial a6 trivial (bs':=bs') g1 (λk hk=>a3 k (b4 k hk)) (λ_ _ _=>rfl) (BU _) rfl rfl rfl;have c5:cD V W (W.tell r j bs') st (ac [(r,⟨(st r).ver,(st r).sh,aS (st r).ls j (.own M (some (i,off)) R J z)⟩)] (ac [(EPO,bU (st EPO))] st)) w w :=
         ⟨λq=>⟨hR.ver q,λ_=>rfl⟩,λb hb=>⟨(iA hR.sh b).2 hb,rfl⟩,λ_ h=>h,λ_ _=>rfl,λhe=>by have:=hR.epo;omega⟩
        have c0:(ac [(r,⟨(st r).ver,(st r).sh,aS (st r).ls j (.own M (some (i,off)) R J z)⟩)] (ac [(EPO,bU (st EPO))] st) TMP).ver=(st TMP).ver:=by
         rw[aJ (CK X),aJ iU.2.2]
        obtain⟨h2,c2⟩:=h1.putGhost hV TMP iU.1 iU.2.1 ((st TMP).ver+1) .one [.own (M&&J.shy) none E1 e1 ys] [u] (λ_=>bn) (by rw[c0];exact BM _) rfl (λx hx=>by simp at hx;subst hx;exact g2.one)
         (λq l x H hx=>by
          cases q with
          |zero=>simp at H hx;subst H;subst hx;exact⟨g2.1,(OwB.shy g2.2).carry (bT (W':=W) (by intro hh;simp only[BC]at hh ⊢;exact⟨hh.1,mZ b5 hh.2⟩) (λ_ h=>h)) (λ_ _=>rfl) (λ_ _=>rfl)⟩
          |succ q=>simp at H)
         (λq l H _ k hk=>by
          obtain⟨q1,q2,q3,q4⟩:=a3 k (a2 k hk).1;refine⟨q1,q2,λb hb=>q3 b ((iA hR.sh b).1 hb),λr1 i1 l1 _ b1 a5 Y=>?_⟩;by_cases H:(r1,i1)=(r,j)
          ·cases H;rw[show (W.tell r j bs').bs r j=bs' from if_pos rfl]at Y;exact (a2 k hk).2 Y
          ·rw[show (W.tell r j bs').bs r1 i1=W.bs r1 i1 from if_neg H]at Y;exact q4 r1 i1 l1 (hR.old r1 i1 l1 H b1) a5 H Y)
         (λq q' l l2 h1 h2 h3 h4 k h5 h6=>by
          have h7:q<1:=(BD.1 h1).1;have h8:q'<1:=(BD.1 h3).1;omega)
        have a4:ac [(r,⟨(st r).ver,(st r).sh,aS (st r).ls j (.own M (some (i,off)) R J z)⟩),(TMP,⟨(st TMP).ver+1,.one,[.own (M&&J.shy) none E1 e1 ys]⟩),(EPO,bU (st EPO))] st =
          ac [(TMP,⟨(st TMP).ver+1,.one,[.own (M&&J.shy) none E1 e1 ys]⟩)] (ac [(r,⟨(st r).ver,(st r).sh,aS (st r).ls j (.own M (some (i,off)) R J z)⟩)] (ac [(EPO,bU (st EPO))] st)):=by
         rw[aO r,aO TMP,mW X]
        rw[a4];refine⟨_,_,_,_,_,_,h2,c5.trans c2,rfl,⟨by rw[bh];exact BU _,λ_=>by simp⟩,by rw[bh],by rw[bh],rfl,rfl,λq H=>by simp[H,Wit.tell],by simp,λq=>?_,X,bb,i,off,M,R,J,z,g,ba,?_,?_,?_,O⟩
        ·by_cases H:q=TMP
         ·exact .inr H
         ·rw[aJ H];exact .inl (hR.sh q)
        ·show (ac [(TMP,_)] _ r).ls[j]?=_;rw[aJ X,bh];simp only[aS];rw[CR (BD.1 a0).1]
        ·show (if r=TMP then _ else W.cs r)[j]?=_;rw[if_neg X];exact a6
        ·show g∈(if r=TMP then _ else (W.tell r j bs').bs r j);rw[if_neg X,show (W.tell r j bs').bs r j=bs' from if_pos rfl];obtain⟨_,cc,cw,_,q2,_⟩:=g1;rw[q2];simp[Bw]
       ·cases I
      ·cases I
    ·cases I
   ·cases I
 |_=>simp[ck]at I
theorem hH {R:Type}(l:Leaf)(J:Upd->Leaf->Option R):lI st l J=(ck st l).bind λu=>J u.1 u.2:=by
 cases l with
 |nal p X ep M E e Z =>
  simp only[lI,ck];cases bm st X ep with
  |false=>rfl
  |true =>
   simp only[cond_true];split
   ·rename_i r j n i O off;split
    ·rename_i Y E' I z _;cases !BT r TMP&&!BT r EPO&&BT O I.cells with
     |false=>rfl
     |true =>
      simp only[cond_true];have H:idx z (i:Int)=z[i]?:=by
       unfold idx;rw[if_neg (by omega)];simp
      rw[H];cases z[i]? with
      |none=>rfl
      |some y =>
       simp only[Option.bind_some];cases bc off I 0 y with
       |none=>rfl
       |some u=>rfl
    ·rfl
   ·rfl
 |_=>rfl
end
theorem rj {w:World}{α:Type}{s g:Nat}:∀ (M:List α) (o:Nat) (Q:Nat->α->List Value->Prop),(∀ j x c,Q j x c->c.length=s/\∀ u∈c,u.oneCell'=true)->(∀ (j:Nat) (x:α),M[j]?=some x->∃ c,Q j x c/\cV w g (o+j*s) c) ->
  ∃ r:List Value,r.length=M.length*s/\(∀ j u,r[j]?=some u->w.cell? ⟨g,o+j,none⟩=some u)/\(∀ u∈r,u.oneCell'=true) /\
   ∀ (j:Nat) (x:α),M[j]?=some x->∃ c,Q j x c/\∀ i u,c[i]?=some u->r[j*s+i]?=some u
 |[],o,_,_,_=>⟨[],by simp,by simp,by simp,by simp⟩
 |y::M,o,Q,hQ,h=>by
  obtain⟨c,hr,hc⟩:=h 0 y rfl;obtain⟨r,h1,h2,h3,h4⟩:=rj M (o+s) (λj=>Q (j+1)) (λj=>hQ (j+1)) (λj x z=>by
   obtain⟨c',I,H⟩:=h (j+1) x (by simpa using z);refine⟨c',I,?_⟩;rw[B6]at H;have:o+s+j*s=o+(j*s+s):=by omega
   rw[this];exact H)
  obtain⟨Z,R⟩:=hQ 0 y c hr;refine⟨c++r,by rw[BR,h1,Z,Cg,B6];omega,?_,?_,?_⟩
  ·intro j u z;by_cases Y:j<c.length
   ·rw[BH Y]at z;have:=hc j u z
    rwa [DC,CA]at this
   ·rw[BG (by omega)]at z;have:=h2 (j-c.length) u z;have e1:o+s+(j-c.length)=o+j:=by omega
    rwa [e1]at this
  ·intro u J;rcases BL.1 J with J|J
   ·exact R u J
   ·exact h3 u J
  ·intro j x z;cases j with
   |zero =>
    simp at z;subst z;refine⟨c,hr,λi u O=>?_⟩;have X:=(BD.1 O).1;rw[DC,CL,BH X];exact O
   |succ j =>
    obtain⟨c',I,H⟩:=h4 j x (by simpa using z);refine⟨c',I,λi u O=>?_⟩;rw[B6,BG (by omega)];rw[<- H i u O];congr 1;omega
theorem jL {P:Program}(g o:Nat)(t:TypeId)(mk:Nat×Nat):∀ (y:List Value) (i:Nat) (cur:Array Value) (w:World),w.heap[g]?=some (.cells cur t mk)->(mk.2=0\/cur.size<=mk.1)->o+i+y.length<=cur.size->(∀ v∈y,v.oneCell'=true) ->
  (storeCells ⟨g,o,none⟩ y i).run P w=.ok () (w.setRow g (cur.toList.take (o+i)++y++cur.toList.drop (o+i+y.length)).toArray)
 |[],i,cur,w,u,_,_,_=>by
  simp only[storeCells,Bu,CV,CA,List.take_append_drop,Bx];rw[setRow_self w g cur t mk u];rfl
 |v::r,i,cur,w,u,J,H,M=>by
  have O:o+i<cur.size:=by simp at H;omega
  have z:(⟨g,o,none⟩:Addr).add i=⟨g,o+i,none⟩:=by unfold Addr.add;split <;> simp_all
  have I:(store ((⟨g,o,none⟩:Addr).add i) v).run P w=.ok () (w.setRow g (cur.setIfInBounds (o+i) v)):=by
   rw[z,run_store P w _ v _ (M v (by simp)),cell_of_row w g _ cur t mk u,Array.getElem?_eq_getElem O];simp[qP u J O,setCell_eq_setRow w g (o+i) cur t mk v u]
  have X:=jL (P:=P) g o t mk r (i+1) (cur.setIfInBounds (o+i) v) (w.setRow g (cur.setIfInBounds (o+i) v)) (setRow_heap w g cur _ t _ u) (by simpa using J) (by simp at H ⊢;omega) (λx R=>M x (by simp[R]));simp only[storeCells,C7,I,Cb,X,setRow_setRow];congr 3;have e:=list_seg_step cur.toList (o+i) v r (by simp at H ⊢;omega);simpa[Array.toList_setIfInBounds,DW]using e
theorem m7 {P:Program}(w:World)(t ty e:TypeId)(i:TypeInfo)(O:P.underlying t=some (.slice e))(hi:P.info? e=some i)
  (g y z:Nat) (cur:Array Value) (mk:Nat×Nat) (hg:w.heap[g]?=some (.cells cur e mk)) (R:mk.2=0\/cur.size<=mk.1)
  (a:Addr) (m c:Nat) (r:List Value) (X:r.length=m*i.size) (H:∀ j u,r[j]?=some u->w.cell? (a.add j)=some u) (Y:∀ u∈r,u.oneCell'=true)
  (I:y+m<=z) (J:y*i.size+r.length<=cur.size) :
  (B5 #[t,t] ty #[.slice (some ⟨g,0,none⟩) y z,.slice (some a) m c]).run P w =
   .ok (.slice (some ⟨g,0,none⟩) (y+m) z) (w.setRow g (cur.toList.take (y*i.size)++r++cur.toList.drop (y*i.size+r.length)).toArray):=by
 have Z:=run_firstCells_some (P:=P) w i.size m a m c r X H;have M:=jL (P:=P) g (y*i.size) e mk r 0 cur w hg R (by simpa using J) Y;simp only[CA]at M;simp[B5,run_underlying O,sizeOf,typeInfo,hi,Ce,I,Z,Addr.add_lit,M]
theorem ce {P:Program}(w:World)(t ty e:TypeId)(i:TypeInfo)(z:Value)(size a0:Nat)(ht:P.underlying t=some (.slice e))(hi:P.info? e=some i)(hz:i.zero=some z)
  (a5:i.size=size) (b2:i.bytes=a0) (b4:z.cells.size=size)
  (v:Value) (n:Nat) (xs:List Value) (y:Row w e size v n xs)
  (a:Addr) (m c:Nat) (r:List Value) (hl:r.length=m*size) (I:∀ j u,r[j]?=some u->w.cell? (a.add j)=some u) (h1:∀ u∈r,u.oneCell'=true)
  (b0:n+m<=maxLen) (M:(n+m)*a0<=140737488355328) :
  ∃ v' w',(B5 #[t,t] ty #[v,.slice (some a) m c]).run P w=.ok v' w'/\Row w' e size v' (n+m) (xs++r)/\w.grownBy w' v.ownBlock/\(v'.ownBlock=v.ownBlock\/v'.ownBlock=some w.heap.size):=by
 subst a5;subst b2;have b1:n+m<=9223372036854775807:=by simp only[maxLen]at b0;omega
 have O:(xs++r).length=(n+m)*i.size:=by rw[BR,y.1,hl,Cc]
 have Z:∀ (H:Nat),H<n+m->∀ (ad:Option Nat),
   Row (w.drew.alloc (.cells (xs.toArray++r.toArray++DD z.cells (grownCap w (n+m) H e-(n+m))) e)) e i.size
    (.slice (some ⟨w.heap.size,0,none⟩) (n+m) (grownCap w (n+m) H e)) (n+m) (xs++r) /\
   w.grownBy (w.drew.alloc (.cells (xs.toArray++r.toArray++DD z.cells (grownCap w (n+m) H e-(n+m))) e)) ad:=by
  intro H ho ad;have b3:=grownCap_ge w (n+m) H e;have a1:grownCap w (n+m) H e<=maxLen:=grownCap_le_maxLen w (n+m) H e b0;refine⟨⟨O,.inr ⟨w.heap.size,_,_,_,rfl,heap_alloc_new w.drew _,b3,.inl ⟨rfl,a1⟩,?_,?_⟩⟩,⟨rfl,rfl,rfl,by simp,λk hk _=>Go.heap_alloc_old w.drew _ hk⟩⟩
  ·simp only[C8,CQ,size_zeroCells,b4,y.1,hl,<- Cc];exact BN _ (by omega)
  ·simp only[Cy,BQ];rw[<- BQ,<- O];exact DU
 rcases y.2 with ⟨rfl,rfl⟩|⟨g,R,X,mk,rfl,hg,b5,a1,a9,a4⟩
 ·have hx:xs=[]:=BV (by simpa using y.1);subst hx;by_cases hm:m=0
  ·subst hm;have hn:r=[]:=BV (by simpa using hl);subst hn;refine⟨.slice none 0 0,w,?_,Row.nil w e i.size,⟨rfl,rfl,rfl,BU _,λ_ _ _=>rfl⟩,.inl rfl⟩;simp[B5,run_underlying ht,sizeOf,typeInfo,hi,Ce,Ca,loadCells,loadCellsFrom]
  ·have hr:=run_append_nil (P:=P) w t ty e i z ht hi hz a m c r hl I (by omega) (by omega) (by have hb:=M;simp only[CL]at hb;omega);have Y:=Z 0 (by omega) (Bw (.slice none 0 0));simp only[CL,DR,Array.empty_append]at Y ⊢;exact⟨_,_,hr,Y.1,Y.2,.inr rfl⟩
 ·by_cases J:n+m<=R
  ·have a6:n*i.size+r.length<=X.size:=by rw[hl,<- Cc];exact CC (BN _ J) a9
   have hr:=m7 (P:=P) w t ty e i ht hi g n R X mk hg (zm a1) a m c r hl I h1 J a6;have a2:(X.toList.take (n*i.size)++r++X.toList.drop (n*i.size+r.length)).toArray.size=X.size:=by
    simp only[CQ,BR,Bv,Cf,B4];omega
   refine⟨_,_,hr,⟨O,.inr ⟨g,R,_,mk,rfl,setRow_heap w g X _ e _ hg,J,a1.imp id (λh=>⟨h.1,?_⟩),?_,?_⟩⟩,⟨rfl,rfl,rfl,by simp,λk _ hk=>setRow_other w g k _ (λe=>hk (by simp[Bw,e]))⟩,.inl rfl⟩
   ·rw[a2];exact h.2
   ·rw[a2];exact a9
   ·rw[a4,<- O];exact DU
  ·have a3:∀ j u,xs[j]?=some u->w.cell? ((⟨g,0,none⟩:Addr).add j)=some u:=λj u hj=>by
    rw[eU,CL,y.cellAt _ (by rw[<- y.1];exact (BD.1 hj).1)];exact hj
   have hr:=run_append_grow (P:=P) w t ty e i z ht hi hz ⟨g,0,none⟩ n R xs y.1 a3 a m c r hl I (by omega) (by omega) (growslice_fits (by omega) M);have Y:=Z R (by omega) (Bw (.slice (some ⟨g,0,none⟩) n R));exact⟨_,_,hr,Y.1,Y.2,.inr rfl⟩
theorem m8 {P:Program}(w:World)(t ty e:TypeId)(i:TypeInfo)(size c:Nat)(y:P.underlying t=some (.slice e))(z:P.info? e=some i)
  (v:Value) (n:Nat) (xs:List Value) (r:Row w e size v n xs) :
  (B5 #[t,t] ty #[v,.slice none 0 c]).run P w=.ok v w:=by
 rcases r.2 with ⟨rfl,rfl⟩|⟨g,H,I,_,rfl,_,u,_⟩
 ·simp[B5,run_underlying y,sizeOf,typeInfo,z,Ce,Ca]
 ·simp[B5,run_underlying y,sizeOf,typeInfo,z,Ce,Ca,u,storeCells]
theorem jd {α:Type}{f g:α->List Nat}:∀ {l:List α},(∀ x∈l,f x=g x)->l.flatMap f=l.flatMap g
 |[],_=>rfl
 |x::l,h=>by rw[CI,CI,h x (BW ..),jd (λy r=>h y (BP _ r))]
theorem yU (n m:Nat)(f g:Nat->List Nat):(BO (n+m)).flatMap (λj=>if j<n then f j else g (j-n))=(BO n).flatMap f++(BO m).flatMap g:=by
 rw[List.range_add,List.flatMap_append,DF];congr 1
 ·refine jd λj r=>?_
  rw[if_pos (Ct.1 r)]
 ·refine jd λj _=>?_
  rw[if_neg (by omega),show n+j-n=j by omega]
def vW (w:World)(G:Nat->Prop)(e:Ty)(z:List e.den)(u:Value)(r:Nat->List Nat):Prop :=
 ∃ A y,u=.slice A z.length y/\(0<z.length->∃ g o,A=some ⟨g,o,none⟩/\∀ j (x:e.den),z[j]?=some x->∃ c,Mx w G e none 0 x c (r j)/\cV w g (o+j*e.cells) c)
section
variable {P:Program} {V:Env} {Γ:List Ctr} {T:TypeId->TI} {st:St} {o:Oper} {R:Type} {κ:Upd->Option R} {r:R}
theorem vX {w:World}{t ty E:TypeId}{e e':Ty}{J:Nat}(bl:oK P t (.slice E e J))(a9:e'.cells=e.cells){G G2 G':Nat->Prop}{xs H:List e'.den}{v u:Value}{bs:List Nat}{O:Nat->List Nat}(hx:Ow w G E e' xs v bs)
  (hy:vW w G2 e' H u O) (b2:(xs.length+H.length)*J<=an) (hG:∀ k,G k->G' k) (b9:∀ k,G2 k->G' k) (b5:∀ k,G' k->k<w.heap.size/\v.ownBlock≠some k) (c2:∀ j,j<H.length->∀ k∈O j,v.ownBlock≠some k) :
  ∃ v' M I,(B5 #[t,t] ty #[v,u]).run P w=.ok v' M/\w.grownBy M v.ownBlock/\OwB M G' none E e' (xs++H) v' I /\
   ∀ k,I.count k<=bs.count k+(((BO H.length).flatMap O)++[w.heap.size]).count k:=by
 obtain⟨hu,_,_,cc,c6,ti,z,hi,hs,hb,hz,c0⟩:=bl;obtain⟨bb,X,a6,ho,ba,bn⟩:=hx;obtain⟨A,b1,c4,b4⟩:=hy;subst c4;have bx:ti.size=e'.cells:=by rw[a9];exact hs
 have a3:∀ (M:World),w.grownBy M v.ownBlock->∀ k,G' k->M.heap[k]?=w.heap[k]?:=λM Z k Y=>Z.block k (b5 k Y).1 (CK (b5 k Y).2)
 have c3:xs.length+H.length<=maxLen:=by
  have h1:(xs.length+H.length)*1<=(xs.length+H.length)*J:=CY _ c6.1;have:=mi;simp only[an]at b2;omega
 have b3:∀ (y:List Value),(∀ (j:Nat) (x:e'.den),H[j]?=some x->∃ c,Mx w G2 e' none 0 x c (O j)/\∀ i u,c[i]?=some u->y[j*e'.cells+i]?=some u) ->
   ∀ v' M,Row M E e'.cells v' (xs.length+H.length) (X++y)->w.grownBy M v.ownBlock->(v'.ownBlock=v.ownBlock\/v'.ownBlock=some w.heap.size) ->
    ∃ I,OwB M G' none E e' (xs++H) v' I/\∀ k,I.count k<=bs.count k+(((BO H.length).flatMap O)++[w.heap.size]).count k:=by
  intro y hn v' M a5 Z a4;refine⟨v'.ownBlock.toList++(BO (xs.length+H.length)).flatMap (λj=>if j<xs.length then a6 j else O (j-xs.length)),⟨X++y,_,by rw[BR];exact a5,by rw[BR],λj x hj=>?_⟩,λk=>?_⟩
  ·by_cases a1:j<xs.length
   ·rw[BH a1]at hj;obtain⟨c,hr,hc⟩:=bn j x hj;have hr:Mx w G e' none 0 x c (a6 j):=hr;refine⟨c,?_,λi u hi=>?_⟩
    ·rw[if_pos a1];refine hr.carry hG (λk Y=>a3 M Z k (hG k Y)) λk Y=>Z.block k (hr.lt k Y) (λe0=>?_)
     have h5:=br.1 bb k;rw[ba,<- e0,BF]at h5;have h6:0<((BO xs.length).flatMap a6).count k:=BK.2 (dU.2 ⟨j,a1,Y⟩);simp at h5;omega
    ·have:=hc i u hi;rw[BH (BD.1 this).1];exact this
   ·rw[BG (by omega)]at hj;obtain⟨c,hr,hc⟩:=hn _ x hj;have cb:=(BD.1 hj).1;refine⟨c,?_,λi u hi=>?_⟩
    ·rw[if_neg a1];exact hr.carry b9 (λk Y=>a3 M Z k (b9 k Y)) λk Y=>Z.block k (hr.lt k Y) (CK (c2 _ cb k Y))
    ·have:=hc i u hi;have b0:=ho.1;have cp:xs.length*e'.cells<=j*e'.cells:=BN _ (Nat.le_of_not_lt a1);rw[BG (by omega),<- this,b0,Nat.sub_mul];congr 1;omega
  ·rw[yU,ba];simp only[BF];rcases a4 with h5|h5
   ·rw[h5];omega
   ·rw[h5];simp only[C3];omega
 cases A with
 |none =>
  have a2:H.length=0:=by
   rcases C4 H.length with h|h
   ·exact h
   ·obtain⟨g,o,hA,_⟩:=b4 h;cases hA
  have a2:=BV a2;subst a2;have a0:=m8 (P:=P) w t ty E ti e'.cells b1 hu hi v xs.length X ho;have Z:w.grownBy w v.ownBlock:=⟨rfl,rfl,rfl,BU _,λ_ _ _=>rfl⟩;obtain⟨I,h1,h2⟩:=b3 [] (by simp) v w (by simpa using ho) Z (.inl rfl);exact⟨v,w,I,a0,Z,h1,h2⟩
 |some ad =>
  have c1:∃ y:List Value,y.length=H.length*e'.cells/\(∀ j u,y[j]?=some u->w.cell? (ad.add j)=some u)/\(∀ u∈y,u.oneCell'=true) /\
    ∀ (j:Nat) (x:e'.den),H[j]?=some x->∃ c,Mx w G2 e' none 0 x c (O j)/\∀ i u,c[i]?=some u->y[j*e'.cells+i]?=some u:=by
   rcases C4 H.length with h|h
   ·have a2:=BV h;subst a2;exact⟨[],by simp,by simp,by simp,by simp⟩
   ·obtain⟨g,o,hA,he⟩:=b4 h;simp at hA;subst hA;obtain⟨y,h1,h2,h3,h4⟩:=rj H o (λj x c=>Mx w G2 e' none 0 x c (O j)) (λj x c hq=>⟨hq.len,hq.one⟩) he;exact⟨y,h1,λj u hj=>by rw[eU];exact h2 j u hj,h3,h4⟩
  obtain⟨y,h1,h2,h3,h4⟩:=c1;have c5:z.cells.size=e'.cells:=by
   have h2:=(lB w (λ_=>False) e).len;rw[<- B4,c0,h2,a9]
  obtain⟨v',M,a0,a5,Z,a4⟩:=ce (P:=P) w t ty E ti z e'.cells J hu hi hz bx hb c5 v xs.length X ho ad H.length b1 y h1 h2 h3 c3 (by simpa[an]using b2);obtain⟨I,h5,h6⟩:=b3 y h4 v' M a5 Z a4;exact⟨v',M,I,a0,Z,h5,h6⟩
theorem vY {W:Wit}{a:Act}{w:World}(h:ap P V W st a w){E:TypeId}{e:Ty}{y:Leaf}{u:Value}{t:cJ (List e.den)}(hl:aC P V W st w [y] [u])(H:fK st E e y=some t) :
  (∃ I,vW w (bj V W t.p t.frz) e t.val u I/\∀ k,((BO t.val.length).flatMap I).count k<=(aW W t.kill).count k)/\(∀ x∈t.frz,aB st x)/\(∀ x∈t.kill,aB st x):=by
 have z:∀ {p q:Bool} {O:List e.den} {ks:List (Nat×Nat)},dh e (aD st y)=some (p,O)->(∀ (S:Nat->Prop) (x:e.den) (c:List Value),Rd w (bj V W p (bw st [y])) e x c->Mx w (bj V W q ks) e none 0 x c []) ->
   ∃ I,vW w (bj V W q ks) e O u I/\∀ k,((BO O.length).flatMap I).count k<=(aW W []).count k:=by
  intro p q O ks Y hm;obtain⟨A,M,hu,_,hx⟩:=kx (m:=false) (E:=E) h hl.1.1 hl.1.2.1 Y;have hu:u=.slice A O.length M:=by simpa using hu
  refine⟨(λ_=>[]:Nat->List Nat),⟨A,M,hu,λZ=>?_⟩,λk=>by rw[show ((BO O.length).flatMap λ_=>([]:List Nat))=[] from by simp];exact DK _⟩;obtain⟨g,o',hA,_,a0⟩:=hx Z;exact⟨g,o',hA,λj x hj=>by
   obtain⟨c,hr,hc⟩:=a0 j x hj;exact⟨c,hm (λ_=>True) x c hr,hc⟩⟩
 unfold fK at H;cases hf:e.flat with
 |true =>
  rw[hf]at H;simp only[cond_true,BB]at H;obtain⟨⟨p,O⟩,Y,rfl⟩:=H;exact⟨z Y (λ_ x c hr=>Mx.flat hf hr),by simp,by simp⟩
 |false =>
  rw[hf]at H;simp only[cond_false]at H;cases hs:decide (e.sh=e) with
  |true =>
   rw[hs]at H;simp only[cond_true,BB]at H;obtain⟨⟨p,O⟩,Y,rfl⟩:=H;exact⟨z Y (λ_ x c hr=>Mx.shared (of_decide_eq_true hs) hr),λx hx=>ei hl hx,by simp⟩
  |false =>
   rw[hs]at H;simp only[cond_false,BB]at H;obtain⟨J,Y,rfl⟩:=H;obtain⟨h1,h2,h3⟩:=dN (pos:=0) h hl Y;have h1:Mx w (bj V W J.p J.frz) (.list true E e) none 0 J.val [u] (aW W J.kill):=h1;rw[bH (by simp)]at h1;obtain⟨v,hv,a1,X,h4,h5,h6⟩:=h1;simp only[CX,and_true]at hv;subst hv;refine⟨⟨X,?_,λk=>?_⟩,h2,h3⟩
   ·rcases h4.2 with ⟨hn,h0⟩|⟨g,M,a3,_,hv,hg,a2,_⟩
    ·exact⟨none,0,by rw[hn];show _=Value.slice none (DM J.val) 0;rw[h0],λZ=>by have Z:0<DM J.val:=Z;omega⟩
    ·refine⟨some ⟨g,0,none⟩,M,hv,λZ=>⟨g,0,rfl,λj x hj=>?_⟩⟩;obtain⟨c,h7,h8⟩:=h6 j x hj;have h7:Mx w (bj V W J.p J.frz) e none 0 x c (X j):=h7;refine⟨c,h7,λi u hi=>?_⟩;have h9:=h8 i u hi;rw[CL];rw[hv]at h4;rw[h4.cellAt _ (by rw[<- h4.1];exact (BD.1 h9).1)];exact h9
   ·show ((BO (DM J.val)).flatMap X).count k<=(aW W J.kill).count k;rw[h5,BF];omega
theorem Ao {l l':Leaf}{U:Upd}(u:ck st l=some (U,l')):∃ n,l'=.al TMP 0 n:=by
 cases l with
 |nal p O ep I E e Z =>
  simp only[ck]at u;cases y:bm st O ep with
  |false=>simp[y]at u
  |true =>
   rw[y]at u;simp only[cond_true]at u;split at u
   ·rename_i r j X i J off;split at u
    ·rename_i Y E' M H hg;cases z:!BT r TMP&&!BT r EPO&&BT J M.cells with
     |false=>simp[z]at u
     |true =>
      rw[z]at u;simp only[cond_true]at u;split at u
      ·split at u
       ·simp only[BA,B7]at u;exact⟨_,u.2.symm⟩
       ·cases u
      ·cases u
    ·cases u
   ·cases u
 |_=>simp[ck]at u
theorem vZ (hV:ax V)(hT:TOk P T)(c1:bL V o){c:Call}(c4:o.op=.call c)(hc:c.callee=.builtin .append)(h:act Γ T o st κ=some r):bV P V o st κ r:=by
  simp only[act,wrU,c4,hc]at h;split at h
  · cases h
  · rename_i d hd
    split at h
    · rename_i x y t u a0 b0
      split at h
      · rename_i E e a4 ht
        cases a6:BT t u with
        |false=>simp[a6]at h
        |true =>
          simp only[a6,cond_true]at h;have a6:=BI a6;subst a6;have c0:=hT t;rw[ht]at c0;have a0:c.args=#[x,y]:=by rw[<- Bx (xs:=c.args),a0]
          have b0:c.argTypes=#[t,t]:=by rw[<- Bx (xs:=c.argTypes),b0]
          have bl:∀ (a:Act) (w w':World) (v:Value),(B5 #[t,t] o.type #[a.eval x,a.eval y]).run P w=.ok v w'->(execOp a.eval o).run P w=.ok (.value v) w':=by
            intro a w w' v Z;simp[execOp,c4,hc,resolve,invoke,builtin,a0,b0,Z]
          have bx:∀ (I:Upd) (E':TypeId) (e':Ty) (p:Bool) (xs:List e'.den) (ks:List (Nat×Nat)),E'=E->e'.sh=e.sh->dS st (ac I st) I d E' e' a4 p xs ks (one st y) κ=some r ->
              ∃ U,κ U=some r/\∀ (O:Wit) (a:Act) (w:World),ap P V O (ac I st) a w->aC P V O (ac I st) w [one st y] [a.eval y]->(∀ x∈ks,aB (ac I st) x)->Ow w (gd V O p) E' e' xs (a.eval x) (aW O ks)->mD P V o st U a w:=by
            intro I E' e' p xs ks hE he M;subst hE;unfold dS at M;split at M
            · rename_i t1 d3
              cases Y:aY (t1.kill++ks)&&dC t1.frz (t1.kill++ks)&&decide ((xs.length+t1.val.length)*a4<=an) with
              |false=>simp[Y]at M
              |true =>
                simp only[Y,cond_true]at M;simp only[BC,decide_eq_true_eq]at Y;obtain⟨⟨cy,d2⟩,bb⟩:=Y;refine⟨_,M,λO a w Z a1 cx c5 next Q hn=>?_⟩;obtain⟨⟨c3,dc,b5⟩,hf,d1⟩:=vY Z a1 d3;have c6:∀ x∈t1.kill++ks,aB (ac I st) x:=λx hx=>(BL.1 hx).elim (d1 x) (cx x)
                obtain⟨h1,_,_,h4⟩:=fD hV Z d2 c6;have b9:=gP Z cy c6;rw[dH]at b9 h4;have X:∀ k∈aW O t1.kill++aW O ks,¬ cd V (O.frz (ac I st) t1.frz) _ k:=λk H=>mh ⟨(h4 k H).1,(h4 k H).2.1,(h4 k H).2.2.2.1,(h4 k H).2.2.2.2⟩
                rw[CB]at b9;obtain⟨cu,cb,b3⟩:=b9;have ba:∀ k,(a.eval x).ownBlock=some k->k∈aW O ks:=by
                  intro k H;obtain⟨_,dd,e4,_,bb,_⟩:=c5;rw[bb,H];simp
                have cp:∀ k,gd V (O.frz (ac I st) t1.frz) (p||t1.p) k->cd V (O.frz (ac I st) t1.frz) (ac (aM (ac (aE (ac I st) t1.frz) (ac I st)) (t1.kill++ks)++aE (ac I st) t1.frz) (ac I st)) k:=by
                  rintro k (H|⟨_,H⟩)
                  · exact .inl H
                  · exact .inr (.inl (hV.ro k H))
                have a5:∀ k∈(BO t1.val.length).flatMap c3,k∈aW O t1.kill:=λk H=>BK.1 (by have:=b5 k;have:=BK.2 H;omega)
                obtain⟨v',w',e3,c2,hg,cc,bn⟩:=vX (P:=P) (t:=t) (ty:=o.type) c0 (ib he) c5 dc bb (G':=gd V (O.frz (ac I st) t1.frz) (p||t1.p))
                  (bT (W':=O.frz (ac I st) t1.frz) (by intro h;simp[h]) (λ_ h=>Or.inl h))
                  (λk H=>bT (W':=O.frz (ac I st) t1.frz) (by intro h;simp[h]) (λ_ h=>h) k (kg hf k H))
                  (λk H=>⟨h1.used_lt k (cp k H),λe1=>X k (BE _ (ba k e1)) (cp k H)⟩)
                  (λj hj k H e1=>b3 k (a5 k (dU.2 ⟨j,hj,H⟩)) k (ba k e1) rfl)
                have b4:=mY (bs:=aW O ks) (K:=(BO t1.val.length).flatMap c3++[w.heap.size]) cb
                  (br.2 λk=>by
                    rw[BF];have h5:=b5 k;have h6:=br.1 cu k;by_cases H:k=w.heap.size
                    · subst H
                      have:(aW O t1.kill).count w.heap.size=0:=BZ.2 (λhm=>by have:=(h4 _ (BJ _ hm)).2.2.1;omega);simp;omega
                    · have:List.count k [w.heap.size]=0:=BZ.2 (by simp[H])
                      omega)
                  (λk H hm=>by
                    rcases BL.1 H with H|H
                    · exact b3 k (a5 k H) k hm rfl
                    · simp at H
                      subst H;have:=(h4 _ (BE _ hm)).2.2.1;omega) bn
                refine dV (bl a w w' v' c2) ?_;rw[hd];refine hn _ _ ?_;rw[cj,aO,bA];refine h1.putOwn hV hg.size hg.os hg.tape hg.output (λk H=>hg.block k (h1.used_lt k H) (λe1=>X k (BE _ (ba k e1.symm)) H)) d (c1 d hd).1 (c1 d hd).2 _ (BM _) ⟨b4.1,cc⟩ (λk H hu=>?_);rcases b4.2 k H with H|H
                · exact X k (BE _ H) hu
                · rcases BL.1 H with H|H
                  · exact X k (BJ _ (a5 k H)) hu
                  · simp at H
                    have:=h1.used_lt k hu;omega
            · cases M
          have a3:∀ (I:Upd) (x':Leaf),eo st I d E e a4 x' (one st y) κ=some r->one st y≠.dead:=by
            intro I x' h e1;rw[e1]at h;unfold eo at h;split at h
            · split at h
              · rename_i p E' e' b2 b1
                cases Y:BT E' E&&decide (e'.sh=e.sh) with
                |false=>simp[Y]at h
                |true =>
                  simp only[Y,cond_true,dS,fK,aD,dh,Co,cg,take]at h;cases e'.flat <;> cases decide (e'.sh=e') <;> simp at h
              · cases h
            · simp only[dS,fK,aD,dh,Co,cg,take]at h
              cases e.flat <;> cases decide (e.sh=e) <;> simp at h
            · cases h
          simp only[iv]at h;cases hn:jk (one st x) with
          |true =>
            rw[hn]at h;simp only[cond_true]at h;rw[hH]at h;obtain⟨⟨I,x'⟩,a9,h⟩:=By.1 h;have a3:=a3 _ _ h;simp only[eo]at h;split at h
            · rename_i r' j n
              split at h
              · rename_i p' E' e' b2 b1
                cases Y:BT E' E&&decide (e'.sh=e.sh) with
                |false=>simp[Y]at h
                |true =>
                  simp only[Y,cond_true]at h;simp only[BC,decide_eq_true_eq]at Y;obtain⟨U,hU,hg⟩:=bx I E' e' p' b2 [(r',j)] (BI Y.1) Y.2 h;refine⟨U,hU,λW a w Z=>?_⟩;obtain⟨a2,_,_,_,_⟩:=bq Z x (by intro e1;rw[e1]at hn;simp[jk]at hn);obtain⟨O,n0,p0,E0,e0,e2,g1,g2,g3,g4,_⟩:=uU hV Z a2 a9;obtain⟨a1,J,ad,_,_⟩:=bq Z y a3;obtain⟨h5,h6,h7,h8⟩:=ke g1 b1 g4;exact hg O a w g1 ⟨⟨a1.carry hV.ro g2 (λho=>absurd ho J),J,ad⟩,trivial⟩ (λz hz=>by simp at hz;subst hz;exact⟨_,h7,trivial⟩) (by simpa[aW]using h6)
              · cases h
            · exfalso
              obtain⟨n,cw⟩:=Ao a9;cases cw
            · cases h
          |false =>
            rw[hn]at h;simp only[cond_false]at h;have a3:=a3 _ _ h;simp only[eo]at h;split at h
            · rename_i r' j n hx
              split at h
              · rename_i p' E' e' b2 b1
                cases Y:BT E' E&&decide (e'.sh=e.sh) with
                |false=>simp[Y]at h
                |true =>
                  simp only[Y,cond_true]at h;simp only[BC,decide_eq_true_eq]at Y;obtain⟨U,hU,hg⟩:=bx [] E' e' p' b2 [(r',j)] (BI Y.1) Y.2 h;refine⟨U,hU,λW a w Z=>?_⟩;obtain⟨a2,_,_,_,_⟩:=bq Z x (by rw[hx];simp);rw[hx]at a2;obtain⟨a1,J,ad,_,_⟩:=bq Z y a3;obtain⟨h5,h6,h7,h8⟩:=ke Z b1 a2;exact hg W a w Z ⟨⟨a1,J,ad⟩,trivial⟩ (λz hz=>by simp at hz;subst hz;exact⟨_,h7,trivial⟩) (by simpa[aW]using h6)
              · cases h
            · rename_i hx
              obtain⟨U,hU,hg⟩:=bx [] E e false [] [] rfl rfl h;refine⟨U,hU,λW a w Z=>?_⟩;obtain⟨a2,_,_,_,_⟩:=bq Z x (by rw[hx];simp);rw[hx]at a2;obtain⟨a1,J,ad,_,_⟩:=bq Z y a3;exact hg W a w Z ⟨⟨a1,J,ad⟩,trivial⟩ (by simp) (by rw[show a.eval x=_ from a2];exact OwH.nil w _ E e)
            · cases h
      · cases h
    · cases h
end
def gQ (w:World)(ro pr:Nat->Prop)(r:Bool)(a:Ty)(x:a.den)(v:Value):Prop :=
 if r=true then ∃ b u g o c,v=.pointer (some ⟨b,u,none⟩)/\pr b/\w.cell? ⟨b,u,none⟩=some (.pointer (some ⟨g,o,none⟩))/\pr g/\Rd w ro a x c/\cV w g o c
 else ∃ g o c,v=.pointer (some ⟨g,o,none⟩)/\pr g/\Rd w ro a x c/\cV w g o c
def jz (w:World)(ro pr:Nat->Prop):(cs:List (Bool×Ty))->lG cs->List Value->Prop
 |[],_,y=>y=[]
 |c::cs,x,y=>∃ u r,y=u::r/\gQ w ro pr c.1 c.2 x.1 u/\jz w ro pr cs x.2 r
def nS (P:Program)(w:World)(ro pr:Nat->Prop):(pk:PK)->pk.den->Value->List Nat->Prop
 |.rd a,x,v,r=>r=[]/\∃ y,db a.isAgg v y/\Rd w ro a x y
 |.own a,x,v,r=>∃ y,db a.isAgg v y/\Mx w ro a none 0 x y r
 |.io a,x,v,r=>∃ y,db a.isAgg v y/\Mx w ro a none 0 x y r
 |.rref a,x,v,r=>r=[]/\gQ w ro pr false a x v
 |.rref2 a,x,v,r=>r=[]/\gQ w ro pr true a x v
 |.iop a,x,v,r=>∃ g c E z,v=.pointer (some ⟨g,0,none⟩)/\w.heap[g]?=some (.cells c.toArray E (0,0))/\Mx w ro a none 0 x c z/\r=g::z
 |.fn M B,O,v,r=>r=[]/\ic P w pr M B O v
 |.clo f y,x,v,r=>r=[]/\∃ J:List Value,v=.func (.func f) #[] J.toArray/\jz w ro pr y x J
 |.hol a c off,x,v,r=>∃ y u z I E e H,db a.isAgg v y/\Mx w ro a (some c) 0 x.1 y z/\y[c]?=some u/\bc c a 0 x.1=some ⟨E,e,H⟩/\OwB w ro (some (x.2,off)) E e H u I/\∀ k,r.count k=z.count k+I.count k
def c9 (P:Program)(w:World)(ro pr:Nat->Prop):(ps:List PK)->ab ps->List Value->List (List Nat)->Prop
 |[],_,z,u=>z=[]/\u=[]
 |p::ps,x,z,u=>∃ v y b r,z=v::y/\u=b::r/\nS P w ro pr p x.1 v b/\c9 P w ro pr ps x.2 y r
def jo (w:World)(G:Nat->Prop)(a:Ty)(x:a.den)(ptr:Bool)(v:Value)(bs:List Nat):Prop :=
 if ptr=true then ∃ g c E r,v=.pointer (some ⟨g,0,none⟩)/\w.heap[g]?=some (.cells c.toArray E (0,0))/\Mx w G a none 0 x c r/\bs=g::r
 else ∃ u,db a.isAgg v u/\Mx w G a none 0 x u bs
def bJ (w:World)(G:Nat->Prop):(ps:List PK)->ah ps->List Value->List (List Nat)->Prop
 |.io a::ps,o,v::r,b::u=>jo w G a o.1 false v b/\bJ w G ps o.2 r u
 |.iop a::ps,o,v::r,b::u=>jo w G a o.1 true v b/\bJ w G ps o.2 r u
 |.rd _::ps,o,_::r,b::u=>b=[]/\bJ w G ps o r u
 |.own _::ps,o,_::r,b::u=>b=[]/\bJ w G ps o r u
 |.rref _::ps,o,_::r,b::u=>b=[]/\bJ w G ps o r u
 |.rref2 _::ps,o,_::r,b::u=>b=[]/\bJ w G ps o r u
 |.fn _ _::ps,o,_::r,b::u=>b=[]/\bJ w G ps o r u
 |.clo _ _::ps,o,_::r,b::u=>b=[]/\bJ w G ps o r u
 |.hol _ _ _::ps,o,_::r,b::u=>b=[]/\bJ w G ps o r u
 |[],_,[],[]=>True
 |_,_,_,_=>False
def pZ (w:World)(G ro:Nat->Prop):(r:RK)->r.den->Value->List Nat->Prop
 |.v a,y,v,u=>∃ z,db a.isAgg v z/\Mx w G a none 0 y z u
 |.bv a,y,v,u=>u=[]/\∃ z,db a.isAgg v z/\Rd w (λk=>G k\/ro k) a y z
 |.box a,y,v,u=>∃ g c E H,v=.pointer (some ⟨g,0,none⟩)/\w.heap[g]?=some (.cells c.toArray E (0,0))/\Mx w G a none 0 y c H/\u=g::H
def gz (w:World)(G ro:Nat->Prop):(J:List RK)->ai J->List Value->List (List Nat)->Prop
 |[],_,M,H=>M=[]/\H=[]
 |r::J,y,M,H=>∃ u I b z,M=u::I/\H=b::z/\pZ w G ro r y.1 u b/\gz w G ro J y.2 I z
def r9:List Value->Value->Prop
 |[u],v=>v=u
 |r,v=>v=.tuple r.toArray
def p6 (w w':World)(r:List Nat)(k:Nat):Prop:=k<w'.heap.size/\(w.heap.size<=k\/k∈r)
def tq (c:Ctr)(w:World)(ro:Nat->Prop)(I:List Value)(r:List (List Nat))(y:ai c.rs×ah c.ps)(e:Ending)(w':World):Prop :=
 ∃ (v:Value) (H:List Value) (N:Nat->Prop) (z u:List (List Nat)),e=.returned v/\r9 H v/\w.heap.size<=w'.heap.size/\w'.os=w.os/\w'.tape=w.tape/\w'.output=w.output /\
  (∀ k,k<w.heap.size->k∉r.flatten->w'.heap[k]?=w.heap[k]?)/\(∀ k,N k->p6 w w' r.flatten k) /\
  bJ w' (λk=>N k\/(c.fresh=false/\ro k)) c.ps y.2 I z/\gz w' (λk=>N k\/(c.fresh=false/\ro k)) ro c.rs y.1 H u /\
  (z.flatten++u.flatten).Nodup/\∀ k∈z.flatten++u.flatten,p6 w w' r.flatten k/\¬ N k
def bO (P:Program)(c:Ctr):Prop :=
 fO P c.f/\∀ (w:World) (ro:Nat->Prop) (x:ab c.ps) (u:List Value) (r:List (List Nat)) (y:ai c.rs×ah c.ps),
  c9 P w ro (λk=>k<w.heap.size/\k∉r.flatten) c.ps x u r->(∀ k,ro k->k<w.heap.size/\k∉r.flatten)->r.flatten.Nodup->c.den x=some y ->
  Calls P c.f u.toArray w (tq c w ro u r y)
section
variable {P:Program} {V:Env} {Γ:List Ctr} {T:TypeId->TI} {st:St} {o:Oper} {R:Type} {κ:Upd->Option R} {r:R}
theorem ic.mono {w0:World}{S H:Nat->Prop}(O:∀ k,S k->H k){y:List Ty}{B:Ty}{I:Tup y->Option B.den}{v:Value}(h:ic P w0 S y B I v):ic P w0 H y B I v:=by
 obtain⟨f,u,e,J,Y⟩:=h;exact⟨f,u,e,J,λw1 X M=>Y w1 X (λk z=>M k (O k z))⟩
theorem ic.move {w0 w:World}{S I:Nat->Prop}(H:w0.heap.size<=w.heap.size)(M:∀ k,S k->I k/\w.heap[k]?=w0.heap[k]?){z:List Ty}{B:Ty}{J:Tup z->Option B.den}{v:Value}
  (h:ic P w0 S z B J v):ic P w I z B J v:=by
 obtain⟨f,u,e,O,Z⟩:=h;exact⟨f,u,e,O,λw1 Y X=>Z w1 (CC H Y) (λk y=>(X k (M k y).1).trans (M k y).2)⟩
theorem gQ.carry {w w1:World}{ro ro' pr I:Nat->Prop}(y:∀ k,ro k->ro' k/\w1.heap[k]?=w.heap[k]?)(u:∀ k,pr k->I k/\w1.heap[k]?=w.heap[k]?){H:Bool}{a:Ty}{x:a.den}{v:Value}(h:gQ w ro pr H a x v):gQ w1 ro' I H a x v:=by
 unfold gQ at h ⊢;split at h
 ·rename_i Y;rw[if_pos Y];obtain⟨b,ob,g,o,c,X,J,O,M,Z,h8⟩:=h;exact⟨b,ob,g,o,c,X,(u b J).1,by rw[kw (u b J).2];exact O,(u g M).1,Z.carry (λk z=>(y k z).1) (λk z=>(y k z).2),h8.same (u g M).2⟩
 ·rename_i Y;rw[if_neg Y];obtain⟨g,o,c,X,J,O,M⟩:=h;exact⟨g,o,c,X,(u g J).1,O.carry (λk z=>(y k z).1) (λk z=>(y k z).2),M.same (u g J).2⟩
theorem jz.carry {w w1:World}{ro ro' pr H:Nat->Prop}(z:∀ k,ro k->ro' k/\w1.heap[k]?=w.heap[k]?)(y:∀ k,pr k->H k/\w1.heap[k]?=w.heap[k]?):∀ {cs:List (Bool×Ty)} {x:lG cs} {us:List Value},jz w ro pr cs x us->jz w1 ro' H cs x us
 |[],_,_,h=>h
 |_::_,_,_,⟨u,I,e,J,M⟩=>⟨u,I,e,J.carry z y,jz.carry z y M⟩
theorem nS.mono {w:World}{ro ro' pr O:Nat->Prop}(y:∀ k,ro k->ro' k)(J:∀ k,pr k->O k):∀ {pk:PK} {x:pk.den} {v:Value} {bs:List Nat},nS P w ro pr pk x v bs->nS P w ro' O pk x v bs
 |.rd _,_,_,_,⟨e,M,z,I⟩=>⟨e,M,z,I.mono y⟩
 |.own _,_,_,_,⟨M,z,I⟩=>⟨M,z,I.mono y⟩
 |.io _,_,_,_,⟨M,z,I⟩=>⟨M,z,I.mono y⟩
 |.rref _,_,_,_,⟨e,h⟩=>⟨e,h.carry (λk H=>⟨y k H,rfl⟩) (λk H=>⟨J k H,rfl⟩)⟩
 |.rref2 _,_,_,_,⟨e,h⟩=>⟨e,h.carry (λk H=>⟨y k H,rfl⟩) (λk H=>⟨J k H,rfl⟩)⟩
 |.iop _,_,_,_,⟨g,c,E,X,z,I,Z,Y⟩=>⟨g,c,E,X,z,I,Z.mono y,Y⟩
 |.fn _ _,_,_,_,⟨e,h⟩=>⟨e,ic.mono J h⟩
 |.clo _ _,_,_,_,⟨e,us,z,I⟩=>⟨e,us,z,I.carry (λk H=>⟨y k H,rfl⟩) (λk H=>⟨J k H,rfl⟩)⟩
 |.hol _ _ _,_,_,_,⟨M,u,X,b1,E,e,xs,z,I,Z,Y,h5,h6⟩=>⟨M,u,X,b1,E,e,xs,z,I.mono y,Z,Y,h5.carry y (λ_ _=>rfl) (λ_ _=>rfl),h6⟩
theorem c9.mono {w:World}{ro ro' pr I:Nat->Prop}(H:∀ k,ro k->ro' k)(z:∀ k,pr k->I k):∀ {ps:List PK} {x:ab ps} {M:List Value} {u:List (List Nat)},c9 P w ro pr ps x M u->c9 P w ro' I ps x M u
 |[],_,_,_,h=>h
 |_::_,_,_,_,⟨v,J,b,y,X,Z,O,Y⟩=>⟨v,J,b,y,X,Z,O.mono H z,c9.mono H z Y⟩
def jI (V:Env)(W:Wit)(st:St)(ks:List (Nat×Nat))(u:List Nat)(k:Nat):Prop:=W.nw k\/V.prot k\/(∃ b∈u,live st b/\W.β b=k)\/∃ x∈ks,k∈W.bs x.1 x.2
theorem kJ {W:Wit}{H z:List (Nat×Nat)}{I y:List Nat}(h:∀ x∈H,x∈z)(J:∀ b∈I,b∈y):∀ k,jI V W st H I k->jI V W st z y k:=by
 rintro k (u|u|⟨b,O,u⟩|⟨x,M,u⟩)
 ·exact .inl u
 ·exact .inr (.inl u)
 ·exact .inr (.inr (.inl ⟨b,J b O,u⟩))
 ·exact .inr (.inr (.inr ⟨x,h x M,u⟩))
theorem iV {W:Wit}{p q:Bool}{z y:List (Nat×Nat)}(H:p=true->q=true)(h:∀ x∈z,x∈y):∀ k,bj V W p z k->bj V W q y k:=by
 rintro k (u|⟨x,I,u⟩)
 ·exact .inl (bT (W':=W) H (λ_ h=>h) k u)
 ·exact .inr ⟨x,h x I,u⟩
theorem gA {agg:Bool}{v:Value}{cs:List Value}(h:ea (bf agg) v cs):db agg v cs:=by
 cases agg <;> exact h
theorem m9 {W:Wit}{a:Act}{w:World}(h:ap P V W st a w){l:Leaf}{ls:List Leaf}{v:Value}(hl:aK P V W st w [] l v)(y:target st l=some ls)(ks:List (Nat×Nat))(J:List Nat)(O:∀ b∈fe [l],b∈J) :
  ∃ g o cs,v=.pointer (some ⟨g,o,none⟩)/\jI V W st ks J g/\aC P V W st w ls cs/\cV w g o cs:=by
 unfold target at y;split at y
 ·rename_i b;cases Z:decide ((st b).sh=.agg) with
  |false=>simp[Z]at y
  |true =>
   simp only[Z,cond_true,BA]at y;subst y;obtain⟨hB,M,z⟩:=hl;rcases h.boxes b hB with ⟨Y,_⟩|⟨_,E,Y⟩
   ·rw[M]at Y;cases Y
   ·exact⟨W.β b,0,W.cs b,z,.inr (.inr (.inl ⟨b,O b (by simp[fe]),⟨hB,M⟩,rfl⟩)),iy h b,λi v z=>by
     rw[CL,cell_of_row w (W.β b) i _ E (0,0) Y];simpa using z⟩
 ·rename_i p a x;simp only[BA]at y;subst y;obtain⟨g,X,c,z,hg,I,hc⟩:=hl;rw[CA]at z;exact⟨g,X,c,z,hg.elim .inl (λh=>.inr (.inl h)),eT (λ_ h=>h) I,hc⟩
 ·rename_i p a x;simp only[BA]at y;subst y;obtain⟨b,ob,g,X,c,z,Z,H,hg,I,hc⟩:=hl;refine⟨b,ob,[.pointer (some ⟨g,X,none⟩)],z,Z.elim .inl (λh=>.inr (.inl h)),⟨⟨⟨g,X,c,rfl,hg,I,hc⟩,id,rfl⟩,trivial⟩,λi u hi=>?_⟩;cases i with
  |zero=>simp at hi;subst hi;exact H
  |succ i=>simp at hi
 ·cases y
theorem gR {W:Wit}{w:World}{x:aI×List Leaf}{l:Leaf}{v:Value}{cs:List Value}(y:ea x.1 v cs)(z:aC P V W st w x.2 cs)(u:cl x=l)(H:l≠.dead) :
  aK P V W st w [] l v/\v.oneCell'=true:=by
 unfold cl at u;split at u
 ·rename_i I;subst u;have y:cs=[v]:=y;subst y;exact⟨z.1.1,z.1.2.2⟩
 ·exact absurd u.symm H
theorem na {W:Wit}{a:Act}{w:World}(h:ap P V W st a w){c:Bool×Ty}{l:Leaf}{v:Value}(hl:aK P V W st w [] l v){g:Got c.2.den}(H:ff st c l=some g) :
  gQ w (bj V W g.p g.frz) (jI V W st g.frz g.see) c.1 c.2 g.val v/\(∀ z∈g.frz,aB st z)/\g.kill=[]/\g.lend=[]:=by
 unfold ff at H;cases hc:c.1 with
 |true =>
  rw[hc]at H;simp only[cond_true]at H;split at H
  ·rename_i l' ht;split at H
   ·rename_i Z a2;simp only[BB]at H;obtain⟨⟨p,y⟩,hy,rfl⟩:=H;obtain⟨g,o',cs,hv,X,I,Y⟩:=m9 h hl ht (bw st Z) (fe [l,l']) (λb O=>by
     cases l <;> simp[fe]at O ⊢ <;> exact .inl O)
    match cs,I with
    |[u],I =>
     obtain⟨g2,o2,a0,a3,a1,M,a4⟩:=m9 h I.1.1 a2 (bw st Z) (fe [l,l']) (λb O=>by
      cases l <;> cases l' <;> simp[fe]at O ⊢ <;> first|exact O|exact .inr O)
     have J:=Y 0 u rfl;rw[CA,a3]at J;refine⟨?_,λz hz=>ei M hz,rfl,rfl⟩;unfold gQ;rw[if_pos rfl];exact⟨g,o',g2,o2,a0,hv,X,J,a1,ey h M hy,a4⟩
   ·cases H
  ·cases H
 |false =>
  rw[hc]at H;simp only[cond_false]at H;split at H
  ·rename_i Z ht;simp only[BB]at H;obtain⟨⟨p,y⟩,hy,rfl⟩:=H;obtain⟨g,o',cs,hv,X,I,Y⟩:=m9 h hl ht (bw st Z) (fe [l]) (λb O=>O);refine⟨?_,λz hz=>ei I hz,rfl,rfl⟩;unfold gQ;rw[if_neg (by simp)];exact⟨g,o',cs,hv,X,ey h I hy,Y⟩
  ·cases H
theorem mj {W:Wit}{a:Act}{w:World}(h:ap P V W st a w):∀ {cs:List (Bool×Ty)} {ls:List Leaf} {us:List Value} {g:Got (lG cs)},aC P V W st w ls us->cz st cs ls=some g ->
  jz w (bj V W g.p g.frz) (jI V W st g.frz g.see) cs g.val us/\(∀ z∈g.frz,aB st z)/\g.kill=[]/\g.lend=[]
 |[],[],us,g,J,y=>by
  simp only[cz,BA]at y;subst y;cases us with
  |nil=>exact⟨rfl,by simp,rfl,rfl⟩
  |cons=>exact J.elim
 |[],_::_,_,_,_,y=>by simp[cz]at y
 |_::_,[],_,_,_,y=>by simp[cz]at y
 |c::cs,l::ls,us,g,J,y=>by
  cases us with
  |nil=>exact J.elim
  |cons u us =>
   simp only[cz]at y;split at y
   ·rename_i g1 M;split at y
    ·rename_i g2 O;simp only[BA]at y;subst y;obtain⟨Y,h2,h3,h4⟩:=na h J.1.1 M;obtain⟨Z,X,h7,h8⟩:=mj h J.2 O;refine⟨⟨u,us,rfl,Y.carry (λk I=>⟨iV (by intro h;simp[h]) (λx H=>BJ _ H) k I,rfl⟩) (λk I=>⟨kJ (λx H=>BJ _ H) (λx H=>BJ _ H) k I,rfl⟩),
      Z.carry (λk I=>⟨iV (by intro h;simp[h]) (λx H=>BE _ H) k I,rfl⟩) (λk I=>⟨kJ (λx H=>BE _ H) (λx H=>BE _ H) k I,rfl⟩)⟩,?_,rfl,rfl⟩
     intro z hz;exact (BL.1 hz).elim (h2 z) (X z)
    ·cases y
   ·cases y
theorem wa {W:Wit}{w:World}{c:Bool×Bool×(a:Ty)×a.den}{v:Value}(h:iM V W w c v):aK P V W st w [] (eL c) v/\¬ ao (eL c)/\v.oneCell'=true:=by
 unfold iM at h;unfold eL;split at h
 ·rename_i u;rw[u];refine⟨h,id,?_⟩;obtain⟨b,I,g,z,H,y,_⟩:=h;rw[y];rfl
 ·rename_i u;have u:c.2.1=false:=by simpa using u
  rw[u];refine⟨h,id,?_⟩;obtain⟨g,z,H,y,_⟩:=h;rw[y];rfl
theorem qC {W:Wit}{w:World}{caps:List (Bool×Bool×(a:Ty)×a.den)}{us:List Value}(H:us.length=caps.length)(h:∀ (i:Nat) (c:Bool×Bool×(a:Ty)×a.den) (u:Value),caps[i]?=some c->us[i]?=some u->iM V W w c u) :
  aC P V W st w (caps.map eL) us :=
 aC.mk (by simp[H]) λj l v y I=>by
  rw[List.getElem?_map,BB]at y;obtain⟨c,z,rfl⟩:=y;exact wa (h j c v z I)
theorem p7 {W:Wit}{w:World}:∀ (caps:List Nat),(∀ b∈caps,B0<=b/\(st b).sh=.agg)->aC P V W st w (caps.map λb=>Leaf.bp b 0) (caps.map λb=>Value.pointer (some ⟨W.β b,0,none⟩))
 |[],_=>trivial
 |b::caps,h=>⟨⟨⟨(h b (BW ..)).1,(h b (BW ..)).2,rfl⟩,id,rfl⟩,p7 caps (λq u=>h q (BP _ u))⟩
theorem nc {off:Nat}{E:TypeId}{e:Ty}{X:List e.den}:∀ {a:Ty} {pos:Nat} {x z:a.den},bK off E e X a pos x=some z->(∃ H,bc off a pos x=some ⟨E,e,H⟩)/\bc off a pos z=some ⟨E,e,X⟩
 |.pair a b,pos,x,z,h=>by
  simp only[bK]at h;split at h
  ·rename_i u I;simp only[BA]at h;subst h;obtain⟨⟨H,M⟩,O⟩:=nc I;exact⟨⟨H,by simp only[bc,M]⟩,by simp only[bc,O]⟩
  ·rename_i hn;simp only[BB]at h;obtain⟨u,I,rfl⟩:=h;have Y:=Mx.back.set_in I;obtain⟨⟨H,M⟩,O⟩:=nc I;have y:bc off a pos x.1=none:=by
    cases hg:bc off a pos x.1 with
    |none=>rfl
    |some u=>have:=gy hg;omega
   exact⟨⟨H,by simp only[bc,y,M]⟩,by simp only[bc,y,O]⟩
 |.list m E' e',pos,Z,z,h=>by
  simp only[bK]at h;cases J:m&&BT pos off with
  |false=>simp[J]at h
  |true =>
   rw[J]at h;simp only[cond_true]at h;obtain⟨rfl,rfl,rfl⟩:=jD h;exact⟨⟨Z,by simp[bc,J]⟩,by simp[bc,J]⟩
 |.int _,_,_,_,h=>by simp[bK]at h
 |.bool,_,_,_,h=>by simp[bK]at h
 |.str,_,_,_,h=>by simp[bK]at h
 |.unit,_,_,_,h=>by simp[bK]at h
 |.hdr,_,_,_,h=>by simp[bK]at h
theorem Mx.refill {w:World}{G:Nat->Prop}{off:Nat}{E:TypeId}{e:Ty}{ys:List e.den}{u:Value}(X:u.oneCell'=true):∀ {a:Ty} {pos:Nat} {x z:a.den} {cs:List Value} {bs:List Nat},Mx w G a (some off) pos x cs bs->bK off E e ys a pos x=some z ->
  Mx w G a (some off) pos z (cs.set (off-pos) u) bs
 |.pair a b,pos,x,z,cs,bs,⟨c1,c2,b1,Z,e1,e2,M,O⟩,h=>by
  have hl:=M.len;simp only[bK]at h;split at h
  ·rename_i y J;simp only[BA]at h;subst h;have Y:=Mx.back.set_in J;refine⟨c1.set (off-pos) u,c2,b1,Z,?_,e2,Mx.refill X M J,O⟩;rw[e1,List.set_append_left _ _ (by omega)]
  ·simp only[BB]at h;obtain⟨y,J,rfl⟩:=h;have Y:=Mx.back.set_in J;refine⟨c1,c2.set (off-(pos+a.cells)) u,b1,Z,?_,e2,M,Mx.refill X O J⟩;rw[e1,List.set_append_right _ _ (by omega),hl,show off-pos-a.cells=off-(pos+a.cells) by omega]
 |.list m E' e',pos,xs,z,cs,bs,H,h=>by
  simp only[bK]at h;cases I:m&&BT pos off with
  |false=>simp[I]at h
  |true =>
   simp only[BC]at I;obtain⟨rfl,I⟩:=I;have I:=BI I;subst I;rw[iZ]at H ⊢;obtain⟨v,rfl,M,O⟩:=H;exact⟨u,by simp,X,O⟩
 |.int _,_,_,_,_,_,_,h=>by simp[bK]at h
 |.bool,_,_,_,_,_,_,h=>by simp[bK]at h
 |.str,_,_,_,_,_,_,h=>by simp[bK]at h
 |.unit,_,_,_,_,_,_,h=>by simp[bK]at h
 |.hdr,_,_,_,_,_,_,h=>by simp[bK]at h
theorem aC.setNil {W:Wit}{w:World}{ls:List Leaf}{cs:List Value}(I:aC P V W st w ls cs)(c:Nat):aC P V W st w (aS ls c .nil) (cs.set c (.slice none 0 0)):=by
 have u:=I.length;refine aC.mk (by simp[aS,u]) λj l v z y=>?_
 rcases aR _ _ _ _ _ z with ⟨rfl,rfl,J⟩|⟨H,z⟩
 ·rw[CR (by omega)]at y;simp only[BA]at y;subst y;exact⟨rfl,id,rfl⟩
 ·rw[CJ (CK H)]at y;exact I.at_ j l v z y
def wb (P:Program)(V:Env)(W:Wit)(st:St)(w:World)(pk:PK)(v:Value)(g:Got pk.den):Prop :=
 (∃ u,nS P w (bj V W g.p g.frz) (jI V W st g.frz g.see) pk g.val v u/\u=g.lend.map W.β++aW W g.kill)/\(∀ z∈g.frz,aB st z)/\(∀ z∈g.kill,aB st z)/\(∀ b∈g.lend,live st b)
theorem nd (hV:ax V){W:Wit}{a:Act}{w:World}(h:ap P V W st a w){pk:PK}{x:aI×List Leaf}{v:Value}{cs:List Value}(hs:ea x.1 v cs)(hl:aC P V W st w x.2 cs)
  {g:Got pk.den} (u:be st pk x=some g):wb P V W st w pk v g:=by
 obtain⟨sh,ls⟩:=x;have Y:∀ {b:Ty} {g:Got b.den},(bif decide (sh=bf b.isAgg) then (cg st b ls).map (λt=>(⟨t.p,t.val,t.frz,t.kill,[],[]⟩:Got b.den)) else none)=some g ->
   (∃ cs,db b.isAgg v cs/\Mx w (bj V W g.p g.frz) b none 0 g.val cs (aW W g.kill))/\g.lend=[]/\g.see=[]/\(∀ z∈g.frz,aB st z)/\(∀ z∈g.kill,aB st z):=by
  intro b g hq;cases I:decide (sh=bf b.isAgg) with
  |false=>simp[I]at hq
  |true =>
   rw[I]at hq;simp only[cond_true,BB]at hq;have O:=of_decide_eq_true I;subst O;obtain⟨t,ht,rfl⟩:=hq;obtain⟨M,J,X⟩:=dN (pos:=0) h hl ht;exact⟨⟨cs,gA hs,M⟩,rfl,rfl,J,X⟩
 cases pk with
 |rd b =>
  simp only[be]at u;cases I:decide (sh=bf b.isAgg) with
  |false=>simp[I]at u
  |true =>
   rw[I]at u;simp only[cond_true,BB]at u;have O:=of_decide_eq_true I;subst O;obtain⟨⟨p,y⟩,hy,rfl⟩:=u;exact⟨⟨[],⟨rfl,cs,gA hs,ey h hl hy⟩,rfl⟩,λz hz=>ei hl hz,by simp[Got.ofRd],by simp[Got.ofRd]⟩
 |own b =>
  obtain⟨M,J,X,Z,h5⟩:=Y u;exact⟨⟨_,M,by rw[J];rfl⟩,Z,h5,by rw[J];simp⟩
 |io b =>
  obtain⟨M,J,X,Z,h5⟩:=Y u;exact⟨⟨_,M,by rw[J];rfl⟩,Z,h5,by rw[J];simp⟩
 |iop b =>
  simp only[be]at u;split at u
  ·rename_i q hx;cases I:decide ((st q).sh=.agg) with
   |false=>simp[I]at u
   |true =>
    simp only[I,cond_true,BB]at u;obtain⟨t,ht,rfl⟩:=u;obtain⟨H,hv⟩:=gR hs hl hx (by simp);obtain⟨hB,a4,b5⟩:=H;rcases h.boxes q hB with ⟨h8,_⟩|⟨_,E,h8⟩
    ·rw[a4]at h8;cases h8
    ·obtain⟨M,J,X⟩:=dN (pos:=0) h (iy h q) ht;exact⟨⟨_,⟨W.β q,W.cs q,E,_,b5,h8,M,rfl⟩,rfl⟩,J,X,λb' O=>by simp at O;subst O;exact⟨hB,a4⟩⟩
  ·cases u
 |rref b =>
  simp only[be]at u;have hd:cl (sh,ls)≠.dead:=by
   intro e;rw[e]at u;simp[ff,target]at u
  obtain⟨H,hv⟩:=gR hs hl rfl hd;obtain⟨M,J,X,Z⟩:=na (c:=(false,b)) h H u;exact⟨⟨[],⟨rfl,M⟩,by rw[X,Z];rfl⟩,J,by rw[X];simp,by rw[Z];simp⟩
 |rref2 b =>
  simp only[be]at u;have hd:cl (sh,ls)≠.dead:=by
   intro e;rw[e]at u;simp[ff,target]at u
  obtain⟨H,hv⟩:=gR hs hl rfl hd;obtain⟨M,J,X,Z⟩:=na (c:=(true,b)) h H u;exact⟨⟨[],⟨rfl,M⟩,by rw[X,Z];rfl⟩,J,by rw[X];simp,by rw[Z];simp⟩
 |fn As B =>
  simp only[be]at u;split at u
  ·rename_i As' B' φ hx;obtain⟨H,hv⟩:=gR hs hl hx (by simp);split at u
   ·rename_i hh;obtain⟨rfl,rfl⟩:=hh;simp only[BA]at u;subst u;have hf:ic P V.w0 V.prot As' B' φ v:=H;exact⟨⟨[],⟨rfl,ic.move h.size (λk hk=>⟨.inr (.inl hk),h.keep k hk⟩) hf⟩,rfl⟩,by simp,by simp,by simp⟩
   ·cases u
  ·cases u
 |clo f ba =>
  simp only[be]at u;split at u
  ·rename_i f' a2 hx;cases I:BT f' f with
   |false=>simp[I]at u
   |true =>
    simp only[I,cond_true]at u;have I:=BI I;subst I;obtain⟨H,hv⟩:=gR hs hl hx (by simp);obtain⟨M,J⟩:=H;obtain⟨X,Z,h5,h6⟩:=mj h (p7 a2 J) u;exact⟨⟨[],⟨rfl,_,M,X⟩,by rw[h5,h6];rfl⟩,Z,by rw[h5];simp,by rw[h6];simp⟩
  ·rename_i f' a2 hx;cases I:BT f' f with
   |false=>simp[I]at u
   |true =>
    simp only[I,cond_true]at u;have I:=BI I;subst I;obtain⟨H,hv⟩:=gR hs hl hx (by simp);obtain⟨us,M,J,h7⟩:=H;obtain⟨X,Z,h5,h6⟩:=mj h (qC J h7) u;exact⟨⟨[],⟨rfl,us,M,X⟩,by rw[h5,h6];rfl⟩,Z,by rw[h5];simp,by rw[h6];simp⟩
  ·cases u
 |hol b c off =>
  simp only[be]at u;cases I:decide (sh=bf b.isAgg) with
  |false=>simp[I]at u
  |true =>
   rw[I]at u;simp only[cond_true]at u;have O:=of_decide_eq_true I;subst O;split at u
   ·rename_i r' j n a0;split at u
    ·rename_i p i o' E e xs hd;cases a1:BT o' off with
     |false=>simp[a1]at u
     |true =>
      rw[a1]at u;simp only[cond_true]at u;have a1:=BI a1;subst a1;split at u
      ·rename_i t ht;split at u
       ·rename_i y hy;simp only[BA]at u;subst u;have a6:ls[c]?=some (.al r' j n):=by
         rw[B9]at a0;cases hq:ls[c]? with
         |none=>rw[hq]at a0;simp at a0
         |some l0=>rw[hq]at a0;simp at a0;rw[a0]
        have a3:c<cs.length:=by rw[<- hl.length];exact (BD.1 a6).1
        have a9:=BS a3;obtain⟨H,_,a5⟩:=hl.at_ c _ _ a6 a9;obtain⟨_,b1,ad,_⟩:=ke h hd H;obtain⟨M,J,X⟩:=dN (pos:=0) h (hl.setNil c) ht;obtain⟨⟨bl,b3⟩,b4⟩:=nc hy;obtain⟨v0,bn,b0,g1,g2,g3,g4⟩:=M.out b3;have b2:bn=[]:=by
         simp only[Cl,CR a3,BA]at g2;obtain⟨b9,bx,q1,q2,_⟩:=g1;obtain⟨A,bb,q4,_⟩:=q1.slice;rw[<- g2]at q2 q4;simp only[B3]at q4;rw[q2,<- q4.2.1];rfl
        have g5:=Mx.refill a5 g3 hy;simp only[Cl,List.set_set,List.set_getElem_self]at g5;refine⟨⟨_,⟨cs,cs[c],b0,W.bs r' j,E,e,xs,gA hs,g5.mono (iV (by intro h;simp[h]) (λ_ h=>h)),a9,b4,
         b1.2.carry (λk hk=>.inl (bT (W':=W) (by intro h;simp[h]) (λ_ h=>h) k hk)) (λ_ _=>rfl) (λ_ _=>rfl),λk=>?_⟩,rfl⟩,J,?_,by simp⟩
        ·have:=g4 k;rw[b2]at this;simp only[C5,DR];rw[show aW W ((r',j)::t.kill)=W.bs r' j++aW W t.kill from rfl,BF,this];simp;omega
        ·intro z hz;rcases CM.1 hz with rfl|hz
         ·exact⟨_,ad,trivial⟩
         ·exact X z hz
       ·cases u
      ·cases u
    ·cases u
   ·cases u
end
section
variable {P:Program} {V:Env} {Γ:List Ctr} {T:TypeId->TI} {st:St} {o:Oper} {R:Type} {κ:Upd->Option R} {r:R}
def gT (P:Program)(V:Env)(W:Wit)(st:St)(w:World):List (aI×List Leaf)->List Value->Prop
 |[],y=>y=[]
 |x::H,y=>∃ v u z,y=v::u/\ea x.1 v z/\aC P V W st w x.2 z/\gT P V W st w H u
theorem kp {W:Wit}{w:World}{ga:(pk:PK)->aI×List Leaf->Option (Got pk.den)}
  (H:∀ (pk:PK) (x:aI×List Leaf) (v:Value) (cs:List Value) (g:Got pk.den),ea x.1 v cs->aC P V W st w x.2 cs->ga pk x=some g->wb P V W st w pk v g) :
  ∀ (ps:List PK) (xs:List (aI×List Leaf)) (X:List Value) (g:Got (ab ps)),gT P V W st w xs X->a7 ga ps xs=some g ->
   (∃ I,c9 P w (bj V W g.p g.frz) (jI V W st g.frz g.see) ps g.val X I/\∀ k,I.flatten.count k=(g.lend.map W.β).count k+(aW W g.kill).count k) /\
    (∀ z∈g.frz,aB st z)/\(∀ z∈g.kill,aB st z)/\(∀ b∈g.lend,live st b)
 |[],[],X,g,u,y=>by
  simp only[a7,BA]at y;subst y;exact⟨⟨[],⟨u,rfl⟩,λk=>by simp[aW]⟩,by simp,by simp,by simp⟩
 |[],_::_,_,_,_,y=>by simp[a7]at y
 |_::_,[],_,_,_,y=>by simp[a7]at y
 |p::ps,x::xs,X,g,u,y=>by
  obtain⟨v,M,cs,rfl,hs,hl,J⟩:=u;simp only[a7]at y;split at y
  ·rename_i g1 Y;split at y
   ·rename_i g2 Z;simp only[BA]at y;subst y;obtain⟨⟨b,h1,h2⟩,h3,h4,h5⟩:=H p x v cs g1 hs hl Y;obtain⟨⟨I,h6,h7⟩,h8,h9,a0⟩:=kp H ps xs M g2 J Z;refine⟨⟨b::I,⟨v,M,b,I,rfl,rfl,h1.mono (iV (by intro h;simp[h]) (λx u=>BJ _ u)) (kJ (λx u=>BJ _ u) (λx u=>BJ _ u)),
     h6.mono (iV (by intro h;simp[h]) (λx u=>BE _ u)) (kJ (λx u=>BE _ u) (λx u=>BE _ u))⟩,λk=>?_⟩,?_,?_,?_⟩
    ·rw[BX,BF,h7 k,h2,BF,DN,BF,dH,BF];omega
    ·intro z O;exact (BL.1 O).elim (h3 z) (h8 z)
    ·intro z O;exact (BL.1 O).elim (h4 z) (h9 z)
    ·intro z O;exact (BL.1 O).elim (h5 z) (a0 z)
   ·cases y
  ·cases y
theorem ne:∀ {Γ:List Ctr} {f:FuncId} {c:Ctr},lH Γ f=some c->c∈Γ/\c.f=f
 |[],_,_,h=>by simp[lH]at h
 |z::Γ,f,c,h=>by
  simp only[lH]at h;cases u:BT z.f f with
  |true =>
   simp only[u,cond_true,BA]at h;subst h;exact⟨BW ..,BI u⟩
  |false =>
   simp only[u,cond_false]at h;obtain⟨y,H⟩:=ne h;exact⟨BP _ y,H⟩
theorem tr {w:World}{G pr:Nat->Prop}{q:List PK}{z:ab q}{cv:List Value}{H:List (List Nat)}(J:c9 P w G pr q z cv H):∀ (y:List Ty) (x:Tup y) (u:List Value),rV w G y x u ->
  c9 P w G pr (y.map .rd++q) (nD q z y x) (u++cv) (y.map (λ_=>[])++H)
 |[],_,_,h=>by rw[show _=_ from h];exact J
 |a::y,x,_,⟨v,c,I,rfl,M,X,O⟩=>⟨v,I++cv,[],_,rfl,rfl,⟨rfl,c,M,X⟩,tr J y x.2 I O⟩
theorem p8 {w:World}{ro pr:Nat->Prop}:∀ {ps:List PK} {x:ab ps} {I:List Value} {u:List (List Nat)},ps.all PK.reads=true->c9 P w ro pr ps x I u->u.flatten=[]
 |[],_,_,_,_,⟨_,e⟩=>by rw[e];rfl
 |p::ps,_,_,_,h,⟨v,z,b,y,_,e,H,J⟩=>by
  simp only[C0,BC]at h;rw[e,BX,p8 h.2 J,Bu];cases p <;> first|exact H.1|simp[PK.reads]at h
theorem p9 {w w1:World}{ro pr ro' J:Nat->Prop}(u:∀ k,ro k->ro' k/\w1.heap[k]?=w.heap[k]?)(y:∀ k,pr k->J k/\w1.heap[k]?=w.heap[k]?):∀ {ps:List PK} {x:ab ps} {Y:List Value} {z:List (List Nat)},
  ps.all PK.reads=true->c9 P w ro pr ps x Y z->c9 P w1 ro' J ps x Y z
 |[],_,_,_,_,h=>h
 |p::ps,x,_,_,X,⟨v,O,b,H,e,e2,I,h2⟩=>by
  simp only[C0,BC]at X;refine⟨v,O,b,H,e,e2,?_,p9 u y X.2 h2⟩;cases p with
  |rd a =>
   obtain⟨h0,cs,h3,Z⟩:=I;exact⟨h0,cs,h3,Z.carry (λk M=>(u k M).1) (λk M=>(u k M).2)⟩
  |rref a=>exact⟨I.1,I.2.carry u y⟩
  |rref2 a=>exact⟨I.1,I.2.carry u y⟩
  |_=>simp[PK.reads]at X
theorem ml (z:ax V){W:Wit}{p:Bool}{ks:List (Nat×Nat)}{y:List Nat}:∀ k,bj V W p ks k->jI V W st ks y k:=by
 rintro k ((u|⟨_,u⟩)|u)
 ·exact .inl u
 ·exact .inr (.inl (z.ro k u))
 ·exact .inr (.inr (.inr u))
theorem rl {W:Wit}{ks:List (Nat×Nat)}{y:List Nat}(H:∀ z∈ks,aB st z):∀ k,jI V W st ks y k->cd V W st k:=by
 rintro k (u|u|⟨b,_,O,e⟩|⟨x,M,u⟩)
 ·exact .inl u
 ·exact .inr (.inl u)
 ·exact .inr (.inr (.inl ⟨b,O,e⟩))
 ·obtain⟨l,J,I⟩:=H x M;exact .inr (.inr (.inr ⟨x.1,x.2,l,J,I,u⟩))
theorem sa {W:Wit}{w:World}:∀ {ls:List Leaf} {us:List Value},aC P V W st w ls us->gT P V W st w (ls.map λl=>(aI.one,[l])) us
 |[],[],_=>rfl
 |_::_,_::_,h=>⟨_,_,[_],rfl,rfl,⟨h.1,trivial⟩,sa h.2⟩
theorem xN (hV:ax V)(hΓ:∀ c∈Γ,bO P c){W:Wit}{a:Act}{w:World}(h:ap P V W st a w){Z:List Ty}{B:Ty}{f:FuncId}{ls:List Leaf}{us:List Value}{v:Value}(hv:v=.func (.func f) #[] us.toArray)(b5:aC P V W st w ls us)
  {g:Got (Tup Z->Option B.den)} (H:kt Γ st Z B f ls=some g):ic P w (jI V W st g.frz g.see) Z B g.val v/\(∀ z∈g.frz,aB st z)/\g.kill=[]/\g.lend=[]:=by
 unfold kt at H;split at H
 ·rename_i c hc;obtain⟨b0,rfl⟩:=ne hc;obtain⟨a1,I⟩:=hΓ c b0;obtain⟨f',ps,rs,a3,cc⟩:=c;simp only at H a1 I hv;generalize ps.drop Z.length=q at H;unfold rS at H;split at H
  ·rename_i hh;obtain⟨rfl,rfl⟩:=hh;cases hb:q.all PK.reads&&B.flat&&a3 with
   |false=>simp[hb]at H
   |true =>
    simp only[hb,cond_true]at H;simp only[BC]at hb;obtain⟨⟨b2,c0⟩,bb⟩:=hb;subst bb;split at H
    ·rename_i g0 bx;simp only[BA]at H;subst H;obtain⟨⟨a5,h1,h2⟩,h3,h4,h5⟩:=kp (λpk x v cs g hs hl H=>nd hV h hs hl H) q _ _ g0 (sa b5) bx;have bn:=p8 b2 h1;refine⟨⟨f',us.toArray,hv,a1,λw1 c1 Y x M y hx hy=>?_⟩,h3,rfl,rfl⟩;simp only[BB]at hy;obtain⟨y0,b1,rfl⟩:=hy;have J:(Z.map (λ_=>([]:List Nat))++a5).flatten=[]:=by
      rw[List.flatten_append,bn,Bu];clear hx b1;induction Z with
      |nil=>rfl
      |cons a Z ih=>simp
     have a9:∀ k,jI V W st g0.frz g0.see k->k<w1.heap.size:=λk X=>CE (h.used_lt k (rl h3 k X)) c1
     have a2:=tr (P:=P) (pr:=λk=>k<w1.heap.size/\k∉(Z.map (λ_=>([]:List Nat))++a5).flatten)
      (p9 (P:=P) (w1:=w1) (ro':=λk=>k<w1.heap.size) (λk X=>⟨a9 k (ml hV k X),Y k (ml hV k X)⟩)
       (λk X=>⟨⟨a9 k X,by rw[J];simp⟩,Y k X⟩) b2 h1) Z x M hx
     have a0:=I w1 (λk=>k<w1.heap.size) (nD q g0.val Z x) (M++us) (Z.map (λ_=>[])++a5) y0 a2
      (λk X=>⟨X,by rw[J];simp⟩) (by rw[J];exact DS) b1
     have a4:M.toArray++us.toArray=(M++us).toArray:=by simp
     rw[a4];refine a0.mono λe w2 a6=>?_
     obtain⟨u,cb,N,c4,c6,rfl,O,b3,c2,bl,ba,b4,_,_,ad,_,_⟩:=a6;obtain⟨u1,c5,b,c3,e1,e2,⟨cs,b9,hm⟩,e3,e4⟩:=ad;subst e3;subst e1;have O:u=u1:=O;subst O;exact⟨u,cs,rfl,b9,jV c0 hm,⟨c2,bl,ba,b3,λk X=>b4 k X (by rw[J];simp)⟩⟩
    ·cases H
  ·cases H
 ·cases H
theorem ut (X:ax V)(hΓ:∀ c∈Γ,bO P c){W:Wit}{a:Act}{w:World}(h:ap P V W st a w)(pk:PK)(x:aI×List Leaf)(v:Value)(cs:List Value)(g:Got pk.den)(Z:ea x.1 v cs)(O:aC P V W st w x.2 cs)
  (H:ca Γ st pk x=some g):wb P V W st w pk v g:=by
 cases pk with
 |fn As B =>
  simp only[ca]at H;split at H
  ·rename_i Y z;have I:(∃ u,cl x=.clo Y.1 u/\Y.2=u.map λb=>Leaf.bp b 0)\/∃ u,cl x=.clr Y.1 u/\Y.2=u.map eL:=by
    generalize cl x=l at z;cases l <;> simp only[vh,BA,reduceCtorEq]at z
    ·subst z;exact .inl ⟨_,rfl,rfl⟩
    ·subst z;exact .inr ⟨_,rfl,rfl⟩
   rcases I with ⟨u,I,he⟩|⟨u,I,he⟩
   ·obtain⟨y,_⟩:=gR Z O I (by simp);rw[he]at H;obtain⟨h1,h2,M,J⟩:=xN X hΓ h y.1 (p7 u y.2) H;exact⟨⟨[],⟨rfl,h1⟩,by rw[M,J];rfl⟩,h2,by rw[M];simp,by rw[J];simp⟩
   ·obtain⟨y,_⟩:=gR Z O I (by simp);rw[he]at H;obtain⟨us,e1,e2,e3⟩:=y;obtain⟨h1,h2,M,J⟩:=xN X hΓ h e1 (qC e2 e3) H;exact⟨⟨[],⟨rfl,h1⟩,by rw[M,J];rfl⟩,h2,by rw[M];simp,by rw[J];simp⟩
  ·exact nd X h Z O H
 |_=>exact nd X h Z O H
end
section
variable {P:Program} {V:Env} {W:Wit} {st st':St} {w w':World} {a:Act}
theorem iJ {G:Nat->Prop}{p:Bool}(hG:∀ k,G k->gd V W p k):∀ {b:Ty} {pos:Nat} {x:b.den} {cs:List Value} {bs:List Nat},Mx w G b none pos x cs bs->bs.Nodup ->
  ∃ a0:Nat->List Nat,(aq p b x).length=cs.length /\
   (∀ (j:Nat) (l:Leaf) (u:Value),(aq p b x)[j]?=some l->cs[j]?=some u->aK P V W st w (a0 j) l u) /\
   (∀ (j:Nat) (l:Leaf),(aq p b x)[j]?=some l->ao l->∀ k∈a0 j,k∈bs) /\
   (∀ (j M:Nat) (l l':Leaf),(aq p b x)[j]?=some l->ao l->(aq p b x)[M]?=some l'->ao l'->∀ k,k∈a0 j->k∈a0 M->j=M)
 |.int k,_,x,cs,bs,H,_=>by
  obtain⟨rfl,rfl⟩:=H;exact⟨λ_=>[],rfl,λj l u y R=>by cases j with|zero=>simp[aq]at y R;subst y;subst R;rfl|succ j=>simp[aq]at y,λj l y _ k r=>by simp at r,λj M l l' _ _ _ _ k r=>by simp at r⟩
 |.bool,_,x,cs,bs,H,_=>by
  obtain⟨rfl,rfl⟩:=H;exact⟨λ_=>[],rfl,λj l u y R=>by cases j with|zero=>simp[aq]at y R;subst y;subst R;rfl|succ j=>simp[aq]at y,λj l y _ k r=>by simp at r,λj M l l' _ _ _ _ k r=>by simp at r⟩
 |.str,_,x,cs,bs,H,_=>by
  obtain⟨rfl,rfl⟩:=H;exact⟨λ_=>[],rfl,λj l u y R=>by cases j with|zero=>simp[aq]at y R;subst y;subst R;rfl|succ j=>simp[aq]at y,λj l y _ k r=>by simp at r,λj M l l' _ _ _ _ k r=>by simp at r⟩
 |.unit,_,x,cs,bs,H,_=>by
  obtain⟨rfl,rfl⟩:=H;exact⟨λ_=>[],rfl,λj l u y R=>by simp[aq]at y,λj l y _ k r=>by simp at r,λj M l l' _ _ _ _ k r=>by simp at r⟩
 |.hdr,_,x,cs,bs,H,_=>by
  obtain⟨⟨A,a2,rfl⟩,rfl⟩:=H;exact⟨λ_=>[],rfl,λj l u y R=>by cases j with|zero=>simp[aq]at y R;subst y;subst R;exact⟨A,a2,rfl⟩|succ j=>simp[aq]at y,λj l y _ k r=>by simp at r,λj M l l' _ _ _ _ k r=>by simp at r⟩
 |.pair b c,pos,x,cs,bs,⟨c1,c2,b1,b2,e1,e2,y,R⟩,X=>by
  subst e1;subst e2;rw[CB]at X;obtain⟨d1,f1,f2,f3,f4⟩:=iJ hG y X.1;obtain⟨d2,g1,g2,g3,g4⟩:=iJ hG R X.2.1;have a5:=cH p b x.1;have a4:=y.len;have I:∀ (j:Nat) (l:Leaf),(aq p b x.1++aq p c x.2)[j]?=some l->(j<b.cells/\(aq p b x.1)[j]?=some l)\/(b.cells<=j/\(aq p c x.2)[j-b.cells]?=some l):=by
   intro j l z;by_cases J:j<b.cells
   ·rw[BH (by omega)]at z;exact .inl ⟨J,z⟩
   ·rw[BG (by omega),a5]at z;exact .inr ⟨by omega,z⟩
  refine⟨λj=>if j<b.cells then d1 j else d2 (j-b.cells),by simp only[aq,BR];omega,λj l u z hu=>?_,λj l z ho k r=>?_,λj M l l' z ho Y Z k r O=>?_⟩
  ·rcases I j l z with ⟨J,z⟩|⟨a3,z⟩
   ·rw[BH (by omega)]at hu;simp only[if_pos J];exact f2 j l u z hu
   ·rw[BG (by omega),a4]at hu;simp only[if_neg (show ¬ j<b.cells by omega)];exact g2 _ l u z hu
  ·rcases I j l z with ⟨J,z⟩|⟨a3,z⟩
   ·simp only[if_pos J]at r;exact BJ _ (f3 j l z ho k r)
   ·simp only[if_neg (show ¬ j<b.cells by omega)]at r;exact BE _ (g3 _ l z ho k r)
  ·rcases I j l z with ⟨J,z⟩|⟨a3,z⟩ <;> rcases I M l' Y with ⟨a1,Y⟩|⟨a6,Y⟩
   ·simp only[if_pos J]at r;simp only[if_pos a1]at O;exact f4 j M l l' z ho Y Z k r O
   ·simp only[if_pos J]at r;simp only[if_neg (show ¬ M<b.cells by omega)]at O;exact absurd rfl (X.2.2 k (f3 j l z ho k r) k (g3 _ l' Y Z k O))
   ·simp only[if_neg (show ¬ j<b.cells by omega)]at r;simp only[if_pos a1]at O;exact absurd rfl (X.2.2 k (f3 M l' Y Z k O) k (g3 _ l z ho k r))
   ·simp only[if_neg (show ¬ j<b.cells by omega)]at r;simp only[if_neg (show ¬ M<b.cells by omega)]at O;have:=g4 _ _ l l' z ho Y Z k r O;omega
 |.list m E e,pos,xs,cs,bs,H,X=>by
  cases m with
  |false =>
   rw[cn]at H;obtain⟨rfl,A,a2,rfl,R,h3⟩:=H;refine⟨λ_=>[],rfl,λj l u y h4=>?_,λj l y _ k r=>by simp at r,λj M l l' _ _ _ _ k r=>by simp at r⟩;cases j with
   |zero =>
    simp[aq]at y h4;subst y;subst h4;exact Rd.mono hG (⟨A,a2,rfl,R,h3⟩:Rd w G (.list false E e) xs _)
   |succ j=>simp[aq]at y
  |true =>
   rw[bH (by simp)]at H;obtain⟨v,rfl,hO⟩:=H;refine⟨λ_=>bs,rfl,λj l u y h4=>?_,λj l y _ k r=>r,λj M l l' y _ h3 _ k _ _=>?_⟩
   ·cases j with
    |zero =>
     simp[aq]at y h4;subst y;subst h4;exact⟨X,OwB.shy (hO.carry hG (λ_ _=>rfl) (λ_ _=>rfl))⟩
    |succ j=>simp[aq]at y
   ·have h7:j<1:=by simpa[aq]using (BD.1 y).1
    have h8:M<1:=by simpa[aq]using (BD.1 h3).1
    omega
theorem ap.reown (hV:ax V)(h:ap P V W st a w)(r:Nat)(c:bS)(M:Nat->List Nat)(a4:(st r).ver<c.ver)(a1:c.sh=(st r).sh)(a0:c.ls.length=(st r).ls.length)
  (a2:∀ (j:Nat) (l:Leaf) (v:Value),c.ls[j]?=some l->(W.cs r)[j]?=some v->aK P V W st w (M j) l v)
  (X:∀ (j:Nat) (l:Leaf),c.ls[j]?=some l->ao l->∀ k∈M j,¬ W.nw k/\¬ V.prot k/\(∀ b,live st b->W.β b≠k) /\
   ∀ (r1 j1:Nat) (l1:Leaf),r1≠r->(st r1).ls[j1]?=some l1->ao l1->k∉W.bs r1 j1)
  (a3:∀ (j j':Nat) (l l':Leaf),c.ls[j]?=some l->ao l->c.ls[j']?=some l'->ao l'->∀ k,k∈M j->k∈M j'->j=j') :
  ap P V { W with bs:=λr' j=>if r'=r then M j else W.bs r' j } (ac [(r,c)] st) a w:=by
 have I:∀ b,live (ac [(r,c)] st) b<->live st b:=by
  intro b;rcases am r b c st with ⟨rfl,e⟩|⟨_,e⟩
  ·simp[live,e,a1]
  ·simp[live,e]
 have Z:cD V W { W with bs:=λr' j=>if r'=r then M j else W.bs r' j } st (ac [(r,c)] st) w w:=by
  refine⟨λq=>?_,λb R=>⟨(I b).2 R,rfl⟩,λ_ h=>h,λ_ _=>rfl,λ_ q j' l' O h4 h5=>?_⟩
  ·rcases am r q c st with ⟨rfl,e⟩|⟨y,e⟩
   ·rw[e];exact⟨Nat.le_of_lt a4,λ_=>rfl⟩
   ·rw[e];exact⟨BU _,λ_=>rfl⟩
  ·rcases am r q c st with ⟨rfl,e⟩|⟨y,e⟩
   ·rw[e]at h5;omega
   ·rw[e]at O;exact⟨⟨l',O,h4⟩,by simp[y],λ_ _=>rfl⟩
 exact {
  nt:=h.nt,df:=h.df
  slots:=λt ht=>by
   rcases am r t c st with ⟨rfl,e⟩|⟨_,e⟩
   ·rw[e,a1];exact h.slots t ht
   ·rw[e];exact h.slots t ht
  boxes:=λb R=>by
   rcases am r b c st with ⟨rfl,e⟩|⟨_,e⟩
   ·rw[e,a1];rcases h.boxes b R with ⟨h1,z⟩|h1
    ·refine .inl ⟨h1,?_⟩;rw[z]at a0;exact BV a0
    ·exact .inr h1
   ·rw[e];exact h.boxes b R
  len:=λq=>by
   rcases am r q c st with ⟨rfl,e⟩|⟨_,e⟩
   ·rw[e,a0];exact h.len q
   ·rw[e];exact h.len q
  one:=h.one
  leaf:=λq j l u z O=>by
   rcases am r q c st with ⟨rfl,e⟩|⟨y,e⟩
   ·rw[e]at z;exact (a2 j l u z O).carry hV.ro Z (λ_=>⟨by simp,λ_ _=>rfl⟩)
   ·rw[e]at z;exact (h.leaf q j l u z O).carry hV.ro Z (λ_=>⟨by simp[y],λ_ _=>rfl⟩)
  ownb:=λq j l z O k J=>by
   rcases am r q c st with ⟨rfl,e⟩|⟨y,e⟩
   ·rw[e]at z;simp only[if_true]at J;have:=X j l z O k J;exact⟨this.1,this.2.1,λb R=>this.2.2.1 b ((I b).1 R)⟩
   ·rw[e]at z;simp only[y,if_false]at J;have:=h.ownb q j l z O k J;exact⟨this.1,this.2.1,λb R=>this.2.2 b ((I b).1 R)⟩
  sep:=λq j l q' j' l' z O h4 h5 k J H=>by
   rcases am r q c st with ⟨e0,e⟩|⟨y,e⟩ <;> rcases am r q' c st with ⟨e1,e'⟩|⟨Y,e'⟩
   ·rw[e]at z;rw[e']at h4;simp only[e0,if_true]at J;simp only[e1,if_true]at H;exact⟨e0.trans e1.symm,a3 j j' l l' z O h4 h5 k J H⟩
   ·rw[e]at z;rw[e']at h4;simp only[e0,if_true]at J;simp only[Y,if_false]at H;exact absurd H ((X j l z O k J).2.2.2 q' j' l' Y h4 h5)
   ·rw[e]at z;rw[e']at h4;simp only[y,if_false]at J;simp only[e1,if_true]at H;exact absurd J ((X j' l' h4 h5 k H).2.2.2 q j l y z O)
   ·rw[e]at z;rw[e']at h4;simp only[y,if_false]at J;simp only[Y,if_false]at H;exact h.sep q j l q' j' l' z O h4 h5 k J H
  box:=λb R=>h.box b ((I b).1 R)
  inj:=λb b' R a5=>h.inj b b' ((I b).1 R) ((I b').1 a5)
  nwlt:=h.nwlt
  os:=h.os,tape:=h.tape,output:=h.output,size:=h.size,keep:=h.keep
  fixb:=λx hx=>⟨(I _).2 (h.fixb x hx).1,(h.fixb x hx).2⟩
  fixt:=h.fixt }
theorem ap.reownE (hV:ax V)(h:ap P V W st a w)(r:Nat)(c:bS)(M:Nat->List Nat)(a9:r≠EPO)(a2:(st r).ver<=c.ver)(a5:c.sh=(st r).sh)(a4:c.ls.length=(st r).ls.length)
  (a0:∀ (j:Nat) (l:Leaf) (v:Value),c.ls[j]?=some l->(W.cs r)[j]?=some v->aK P V W st w (M j) l v)
  (R:∀ (j:Nat) (l:Leaf),c.ls[j]?=some l->ao l->∀ k∈M j,¬ W.nw k/\¬ V.prot k/\(∀ b,live st b->W.β b≠k) /\
   ∀ (r1 j1:Nat) (l1:Leaf),r1≠r->(st r1).ls[j1]?=some l1->ao l1->k∉W.bs r1 j1)
  (a1:∀ (j j':Nat) (l l':Leaf),c.ls[j]?=some l->ao l->c.ls[j']?=some l'->ao l'->∀ k,k∈M j->k∈M j'->j=j') :
  ap P V { W with bs:=λr' j=>if r'=r then M j else W.bs r' j } (ac [(r,c),(EPO,bU (st EPO))] st) a w /\
   (∀ q,(ac [(r,c),(EPO,bU (st EPO))] st q).sh=(st q).sh/\(st q).ver<=(ac [(r,c),(EPO,bU (st EPO))] st q).ver/\(q≠r->(ac [(r,c),(EPO,bU (st EPO))] st q).ls=(st q).ls))/\ac [(r,c),(EPO,bU (st EPO))] st r=c:=by
 have e0:ac [(r,c),(EPO,bU (st EPO))] st=ac [(r,c)] (ac [(EPO,bU (st EPO))] st):=aO _ _ _ _;generalize hS:ac [(r,c),(EPO,bU (st EPO))] st=S;rw[e0]at hS;have hr:S r=c:=by rw[<- hS,bh]
 have O:∀ q,(S q).sh=(st q).sh/\(st q).ver<=(S q).ver/\(q≠r->(S q).ls=(st q).ls):=by
  intro q;rw[<- hS];rcases am r q c (ac [(EPO,bU (st EPO))] st) with ⟨rfl,e⟩|⟨ad,e⟩
  ·rw[e];exact⟨a5,a2,λh=>absurd rfl h⟩
  ·rw[e];rcases am EPO q (bU (st EPO)) st with ⟨rfl,e⟩|⟨_,e⟩ <;> rw[e]
   ·exact⟨rfl,DJ _,λ_=>rfl⟩
   ·exact⟨rfl,BU _,λ_=>rfl⟩
 have hE:(st EPO).ver<(S EPO).ver:=by
  rw[<- hS,aJ (CK a9),bh];exact BM _
 refine⟨?_,O,hr⟩;have I:∀ b,live S b<->live st b:=λb=>by simp[live,(O b).1]
 have X:cD V W { W with bs:=λr' j=>if r'=r then M j else W.bs r' j } st S w w :=
  ⟨λq=>⟨(O q).2.1,λ_=>rfl⟩,λb Y=>⟨(I b).2 Y,rfl⟩,λ_ h=>h,λ_ _=>rfl,λhe=>by omega⟩
 have a3:∀ q,(S q).ls.length=(st q).ls.length:=λq=>by
  by_cases y:q=r
  ·rw[y,hr,a4]
  ·rw[(O q).2.2 y]
 exact {
  nt:=h.nt,df:=h.df
  slots:=λt ht=>by rw[(O t).1];exact h.slots t ht
  boxes:=λb Y=>by
   rw[(O b).1];rcases h.boxes b Y with ⟨h1,z⟩|h1
   ·refine .inl ⟨h1,BV ?_⟩;rw[a3,z];rfl
   ·exact .inr h1
  len:=λq=>by rw[a3];exact h.len q
  one:=h.one
  leaf:=λq j l u z Z=>by
   by_cases y:q=r
   ·subst y;rw[hr]at z;exact (a0 j l u z Z).carry hV.ro X (λ_=>⟨by simp,λ_ _=>rfl⟩)
   ·rw[(O q).2.2 y]at z;exact (h.leaf q j l u z Z).carry hV.ro X (λ_=>⟨by simp[y],λ_ _=>rfl⟩)
  ownb:=λq j l z Z k J=>by
   by_cases y:q=r
   ·subst y;rw[hr]at z;simp only[if_true]at J;have:=R j l z Z k J;exact⟨this.1,this.2.1,λb Y=>this.2.2.1 b ((I b).1 Y)⟩
   ·rw[(O q).2.2 y]at z;simp only[y,if_false]at J;have:=h.ownb q j l z Z k J;exact⟨this.1,this.2.1,λb Y=>this.2.2 b ((I b).1 Y)⟩
  sep:=λq j l q' j' l' z Z h4 h5 k J H=>by
   by_cases e0:q=r <;> by_cases e1:q'=r
   ·subst e0;subst e1;rw[hr]at z h4;simp only[if_true]at J H;exact⟨rfl,a1 j j' l l' z Z h4 h5 k J H⟩
   ·subst e0;rw[hr]at z;rw[(O q').2.2 e1]at h4;simp only[if_true]at J;simp only[e1,if_false]at H;exact absurd H ((R j l z Z k J).2.2.2 q' j' l' e1 h4 h5)
   ·subst e1;rw[(O q).2.2 e0]at z;rw[hr]at h4;simp only[e0,if_false]at J;simp only[if_true]at H;exact absurd J ((R j' l' h4 h5 k H).2.2.2 q j l e0 z Z)
   ·rw[(O q).2.2 e0]at z;rw[(O q').2.2 e1]at h4;simp only[e0,if_false]at J;simp only[e1,if_false]at H;exact h.sep q j l q' j' l' z Z h4 h5 k J H
  box:=λb Y=>h.box b ((I b).1 Y)
  inj:=λb b' Y a6=>h.inj b b' ((I b).1 Y) ((I b').1 a6)
  nwlt:=h.nwlt
  os:=h.os,tape:=h.tape,output:=h.output,size:=h.size,keep:=h.keep
  fixb:=λx hx=>⟨(I _).2 (h.fixb x hx).1,(h.fixb x hx).2⟩
  fixt:=h.fixt }
theorem ap.nwGrow (R:ax V)(h:ap P V W st a w)(N:Nat->Prop)(M:∀ k,N k->k<w.heap.size/\¬ cd V W st k):ap P V { W with nw:=λk=>W.nw k\/N k } st a w:=by
 have I:cD V W { W with nw:=λk=>W.nw k\/N k } st st w w:=⟨λr=>⟨BU _,λ_=>rfl⟩,λb J=>⟨J,rfl⟩,λ_ h=>.inl h,λ_ _=>rfl,λ_ _ _ l z y _=>⟨⟨l,z,y⟩,rfl,λ_ _=>rfl⟩⟩
 exact {
  nt:=h.nt,df:=h.df,slots:=h.slots,boxes:=h.boxes,len:=h.len,one:=h.one
  leaf:=λr j l v z y=>(h.leaf r j l v z y).carry R.ro I (λ_=>⟨rfl,λ_ _=>rfl⟩)
  ownb:=λr j l z y k u=>⟨λH=>H.elim (h.ownb r j l z y k u).1 (λH=>(M k H).2 (.inr (.inr (.inr ⟨r,j,l,z,y,u⟩)))),(h.ownb r j l z y k u).2⟩
  sep:=h.sep
  box:=λb J=>⟨λH=>H.elim (h.box b J).1 (λH=>(M _ H).2 (.inr (.inr (.inl ⟨b,J,rfl⟩)))),(h.box b J).2⟩
  inj:=h.inj
  nwlt:=λk u=>u.elim (h.nwlt k) (λu=>⟨(M k u).1,λO=>(M k u).2 (.inr (.inl O))⟩)
  os:=h.os,tape:=h.tape,output:=h.output,size:=h.size,keep:=h.keep,fixb:=h.fixb,fixt:=h.fixt }
end
def eJ:List Leaf->List Leaf->List (Nat×Nat)
 |.al r j _::y,l::u=>(match l with|.own _ _ _ _ _=>[(r,j)]|_=>[])++eJ y u
 |_::y,_::u=>eJ y u
 |_,_=>[]
section
variable {P:Program} {V:Env} {st st':St} {w w':World} {a:Act}
theorem nf {x l:Leaf}{xs ls:List Leaf}(h:¬ ao l):eJ (x::xs) (l::ls)=eJ xs ls:=by
 cases x <;> try rfl
 cases l <;> first|exact absurd trivial h|rfl
theorem uV {k:IntKind}{ls:List Leaf}{x:Bool×(Ty.int k).den×List Leaf}(h:aZ st (.int k) ls=some x):∃ l,ls=l::x.2.2:=by
 simp only[aZ]at h;split at h
 ·split at h
  ·simp only[BA]at h;subst h;exact⟨_,rfl⟩
  ·cases h
 ·cases h
theorem tt {ls:List Leaf}{x:Bool×Ty.bool.den×List Leaf}(h:aZ st .bool ls=some x):∃ l,ls=l::x.2.2:=by
 simp only[aZ]at h;split at h
 ·simp only[BA]at h;subst h;exact⟨_,rfl⟩
 ·cases h
theorem uW {ls:List Leaf}{x:Bool×Ty.str.den×List Leaf}(h:aZ st .str ls=some x):∃ l,ls=l::x.2.2:=by
 simp only[aZ]at h;split at h
 ·simp only[BA]at h;subst h;exact⟨_,rfl⟩
 ·cases h
theorem uX {ls:List Leaf}{x:Bool×Ty.hdr.den×List Leaf}(h:aZ st .hdr ls=some x):∃ l,ls=l::x.2.2:=by
 simp only[aZ]at h;split at h
 ·split at h
  ·simp only[BA]at h;subst h;exact⟨_,rfl⟩
  ·cases h
 ·cases h
theorem kY {p:Bool}:∀ (b:Ty) (ls:List Leaf) (t:cJ b.den),take st b ls=some t->∀ (y:b.den) (r:List Leaf),eJ ls (aq p b y++r)=t.kill++eJ t.rest r
 |.pair b c,ls,t,h,y,r=>by
  simp only[take]at h;split at h
  ·rename_i u z;split at h
   ·rename_i v M;simp only[BA]at h;subst h;simp only[aq];rw[BQ,kY b ls u z y.1,kY c u.rest v M y.2,BQ]
   ·cases h
  ·cases h
 |.unit,ls,t,h,y,r=>by
  simp only[take,BA]at h;subst h;rfl
 |.list m E e,ls,t,h,y,r=>by
  cases ls with
  |nil=>simp[take]at h
  |cons l ls =>
   cases m with
   |false =>
    simp only[take,cond_false]at h;split at h
    ·simp only[BA]at h;subst h;exact nf id
    ·cases h
   |true =>
    simp only[take,cond_true]at h;split at h
    ·split at h
     ·simp only[BB]at h;obtain⟨O,_,rfl⟩:=h;rfl
     ·cases h
    ·simp only[BA]at h;subst h;rfl
    ·cases h
 |.int k,ls,t,h,y,r=>scal (b:=.int k) h uV (l':=.int k y) id
 |.bool,ls,t,h,y,r=>scal (b:=.bool) h tt (l':=.bool y) id
 |.str,ls,t,h,y,r=>scal (b:=.str) h uW (l':=.str y) id
 |.hdr,ls,t,h,y,r=>scal (b:=.hdr) h uX (l':=.hdr y) id
where
 scal {b:Ty} {ls:List Leaf} {t:cJ b.den} {l':Leaf} {r:List Leaf} (h:(aZ st b ls).map (λx=>(⟨false,x.2.1,[],[],x.2.2⟩:cJ b.den))=some t)
   (H:∀ {ls:List Leaf} {x:Bool×b.den×List Leaf},aZ st b ls=some x->∃ l,ls=l::x.2.2) (I:¬ ao l'):eJ ls ([l']++r)=t.kill++eJ t.rest r:=by
  simp only[BB]at h;obtain⟨x,J,rfl⟩:=h;obtain⟨l,rfl⟩:=H J;exact nf I
theorem yV {W W':Wit}{bs:List Nat}{l:Leaf}{v:Value}(y:ao l)(u:W'.nw=W.nw)(h:aK P V W st w bs l v):aK P V W' st' w bs l v:=by
 cases l <;> simp only[ao]at y;exact OwH.carry h (λk r=>by
  rcases r with r|r
  ·exact .inl (by rw[u];exact r)
  ·exact .inr r) (λ_ _=>rfl) (λ_ _=>rfl)
theorem wc {S:St}{x l:Leaf}{xs ls:List Leaf}(h:¬ ao l):ac (b8 S (x::xs) (l::ls)) S=ac (b8 S xs ls) S:=by
 cases x <;> try rfl
 cases l <;> first|exact absurd trivial h|rfl
theorem jJ {x:Nat×Nat}{l:List (Nat×Nat)}(h:aY (x::l)=true):x∉l/\aY l=true:=by
 simp only[aY,BC,BY,Bz]at h;exact⟨λr=>by have:=h.1 x r;simp at this,h.2⟩
theorem zv (hV:ax V){W:Wit}{S:St}(h:ap P V W S a w):∀ (xl ls:List Leaf) (cs:List Value) (O:Nat->List Nat),aY (eJ xl ls)=true->(∀ x∈eJ xl ls,x.1≠EPO)->xl.length=cs.length->ls.length=cs.length ->
  (∀ (i r j n:Nat) (l:Leaf) (u:Value),xl[i]?=some (.al r j n)->ls[i]?=some l->ao l->cs[i]?=some u->(W.cs r)[j]?=some u) ->
  (∀ x∈eJ xl ls,∀ l,(S x.1).ls[x.2]?=some l->¬ ao l) ->
  (∀ (i:Nat) (l:Leaf) (u:Value),ls[i]?=some l->cs[i]?=some u->aK P V W S w (O i) l u) ->
  (∀ (i:Nat) (l:Leaf),ls[i]?=some l->ao l->∀ k∈O i,¬ cd V W S k) ->
  (∀ (i i':Nat) (l l':Leaf),ls[i]?=some l->ao l->ls[i']?=some l'->ao l'->∀ k,k∈O i->k∈O i'->i=i') ->
  ∃ W',ap P V W' (ac (b8 S xl ls) S) a w/\W'.cs=W.cs/\W'.β=W.β/\W'.nw=W.nw/\(∀ q,(ac (b8 S xl ls) S q).sh=(S q).sh/\(S q).ver<=(ac (b8 S xl ls) S q).ver) /\
   (∀ (q i:Nat),(q,i)∉eJ xl ls->(ac (b8 S xl ls) S q).ls[i]?=(S q).ls[i]?/\W'.bs q i=W.bs q i) /\
   (∀ k,cd V W' (ac (b8 S xl ls) S) k->cd V W S k\/∃ i l,ls[i]?=some l/\ao l/\k∈O i)
 |[],ls,cs,O,_,_,hx,hl,_,_,_,_,_=>⟨W,h,rfl,rfl,rfl,λ_=>⟨rfl,BU _⟩,λ_ _ _=>⟨rfl,rfl⟩,λk R=>.inl R⟩
 |x::X,[],cs,O,_,_,hx,hl,_,_,_,_,_=>by simp at hx hl;omega
 |x::X,l::ls,[],O,_,_,hx,hl,_,_,_,_,_=>by simp at hx
 |x::X,l::ls,u::cs,O,hd,ba,hx,hl,b9,b5,a3,a5,b0=>by
  have b2:aY (eJ X ls)=true:=by
   cases x with
   |al r j n =>
    cases l with
    |own p hh E e ys=>exact (jJ hd).2
    |_=>exact hd
   |_=>exact hd
  have ad:∀ z∈eJ X ls,z∈eJ (x::X) (l::ls):=by
   intro z hz;cases x with
   |al r j n=>exact BE _ hz
   |_=>exact hz
  obtain⟨W1,h1,e1,e2,e3,e4,e5,e6⟩:=zv hV h X ls cs (λi=>O (i+1)) b2 (λz hz=>ba z (ad z hz)) (by simpa using hx) (by simpa using hl)
   (λi r j n l' u' J I M g4=>b9 (i+1) r j n l' u' (by simpa using J) (by simpa using I) M (by simpa using g4))
   (λz hz=>b5 z (ad z hz)) (λi l' u' J I=>a3 (i+1) l' u' (by simpa using J) (by simpa using I))
   (λi l' J I=>a5 (i+1) l' (by simpa using J) I)
   (λi i' l1 l2 J I M g4 k g5 g6=>by have:=b0 (i+1) (i'+1) l1 l2 (by simpa using J) I (by simpa using M) g4 k g5 g6;omega)
  by_cases hs:¬ ao l\/(∀ r j n,x≠.al r j n)
  ·have a6:ac (b8 S (x::X) (l::ls)) S=ac (b8 S X ls) S/\eJ (x::X) (l::ls)=eJ X ls:=by
    rcases hs with hs|hs
    ·exact⟨wc hs,nf hs⟩
    ·cases x with
     |al r j n=>exact absurd rfl (hs r j n)
     |_=>exact⟨rfl,rfl⟩
   rw[a6.1,a6.2];exact⟨W1,h1,e1,e2,e3,e4,e5,λk R=>(e6 k R).imp id λ⟨i,l',J,I,M⟩=>⟨i+1,l',by simpa using J,I,M⟩⟩
  ·simp only[not_or,Classical.not_not]at hs;obtain⟨bn,bl⟩:=hs;obtain⟨r,j,n,rfl⟩:∃ r j n,x=.al r j n:=by
    cases x with
    |al r j n=>exact⟨r,j,n,rfl⟩
    |_=>exact absurd (λ_ _ _ h=>by cases h) bl
   obtain⟨p,hh,E,e,ys,rfl⟩:∃ p hh E e ys,l=.own p hh E e ys:=by
    cases l <;> simp only[ao]at bn;exact⟨_,_,_,_,_,rfl⟩
   have b1:eJ (.al r j n::X) (.own p hh E e ys::ls)=(r,j)::eJ X ls:=rfl;rw[b1]at hd b5;obtain⟨c0,c1⟩:=jJ hd;have hv:=b9 0 r j n _ u rfl rfl trivial rfl;have a6:ac (b8 S (.al r j n::X) (.own p hh E e ys::ls)) S=ac [(r,⟨(ac (b8 S X ls) S r).ver,(ac (b8 S X ls) S r).sh,aS (ac (b8 S X ls) S r).ls j (.own p hh E e ys)⟩),(EPO,bU (ac (b8 S X ls) S EPO))] (ac (b8 S X ls) S):=bA [_,_] _ _;have a9:aK P V W1 (ac (b8 S X ls) S) w (O 0) (.own p hh E e ys) u:=yV trivial e3 (a3 0 _ u rfl rfl);have Y:∀ k∈O 0,¬ cd V W1 (ac (b8 S X ls) S) k:=λk R hu=>by
    rcases e6 k hu with hu|⟨i,l',J,I,M⟩
    ·exact a5 0 _ rfl trivial k R hu
    ·have:=b0 0 (i+1) _ l' rfl trivial (by simpa using J) I k R M;omega
   have H:∀ (i:Nat) (l':Leaf),i≠j->(aS (ac (b8 S X ls) S r).ls j (.own p hh E e ys))[i]?=some l'->(ac (b8 S X ls) S r).ls[i]?=some l':=by
    intro i l' a2 a0;rcases aR _ _ _ _ _ a0 with ⟨rfl,_,_⟩|⟨_,a0⟩
    ·exact absurd rfl a2
    ·exact a0
   have b4:∀ (l':Leaf),(aS (ac (b8 S X ls) S r).ls j (.own p hh E e ys))[j]?=some l'->l'=.own p hh E e ys:=by
    intro l' a0;rcases aR _ _ _ _ _ a0 with ⟨_,rfl,_⟩|⟨a2,_⟩
    ·rfl
    ·exact absurd rfl a2
   have bx:r≠EPO:=ba (r,j) (by rw[b1];exact BW ..);obtain⟨h2,a4,bb⟩:=h1.reownE hV r ⟨(ac (b8 S X ls) S r).ver,(ac (b8 S X ls) S r).sh,aS (ac (b8 S X ls) S r).ls j (.own p hh E e ys)⟩ (λi=>if i=j then O 0 else W1.bs r i) bx (BU _) rfl (by simp[aS])
    (λi l' v' J I=>by
     by_cases y:i=j
     ·subst y;obtain rfl:=b4 l' J;rw[e1,hv]at I;simp only[BA]at I;subst I;simp only[if_true];exact a9
     ·simp only[if_neg y];exact h1.leaf r i l' v' (H i l' y J) I)
    (λi l' J I k R=>by
     by_cases y:i=j
     ·subst y;simp only[if_true]at R;have hu:=Y k R;simp only[cd,not_or,not_exists,not_and]at hu;exact⟨hu.1,hu.2.1,hu.2.2.1,λr1 j1 l1 _ M g4 g5=>hu.2.2.2 r1 j1 l1 M g4 g5⟩
     ·simp only[if_neg y]at R;have a0:=H i l' y J;have h9:=h1.ownb r i l' a0 I k R;exact⟨h9.1,h9.2.1,h9.2.2,λr1 j1 l1 a2 M g4 g5=>a2 (h1.sep r i l' r1 j1 l1 a0 I M g4 k R g5).1.symm⟩)
    (λi i' l1 l2 J I M g4 k R a1=>by
     by_cases y:i=j <;> by_cases Z:i'=j
     ·omega
     ·subst y;simp only[if_true]at R;simp only[if_neg Z]at a1;exact absurd (.inr (.inr (.inr ⟨r,i',l2,H i' l2 Z M,g4,a1⟩))) (Y k R)
     ·subst Z;simp only[if_true]at a1;simp only[if_neg y]at R;exact absurd (.inr (.inr (.inr ⟨r,i,l1,H i l1 y J,I,R⟩))) (Y k a1)
     ·simp only[if_neg y]at R;simp only[if_neg Z]at a1;exact (h1.sep r i l1 r i' l2 (H i l1 y J) I (H i' l2 Z M) g4 k R a1).2)
   rw[a6];refine⟨_,h2,e1,e2,e3,λq=>?_,λq i hq=>?_,λk R=>?_⟩
   ·exact⟨(a4 q).1.trans (e4 q).1,CC (e4 q).2 (a4 q).2.1⟩
   ·rw[b1]at hq;simp only[CM,not_or]at hq;by_cases b3:q=r
    ·subst b3;rw[bb];have y:j≠i:=λe0=>hq.1 (by rw[e0])
     simp only[aS];rw[CJ y];refine⟨(e5 q i hq.2).1,?_⟩;simp only[if_true,if_neg (CK y)];exact (e5 q i hq.2).2
    ·rw[(a4 q).2.2 b3];refine⟨(e5 q i hq.2).1,?_⟩;show (if q=r then _ else W1.bs q i)=_;rw[if_neg b3];exact (e5 q i hq.2).2
   ·rcases R with R|R|⟨b,hb,R⟩|⟨q,i,l',J,I,M⟩
    ·exact .inl (.inl (by rw[<- e3];exact R))
    ·exact .inl (.inr (.inl R))
    ·refine (e6 k (.inr (.inr (.inl ⟨b,?_,R⟩)))).imp id λ⟨i,l',J,I,M⟩=>⟨i+1,l',by simpa using J,I,M⟩
     exact (iA (λq=>(a4 q).1) b).1 hb
    ·by_cases hq:q=r
     ·subst hq;rw[bb]at J;simp only[if_true]at M;by_cases y:i=j
      ·subst y;simp only[if_true]at M;exact .inr ⟨0,_,rfl,trivial,M⟩
      ·simp only[if_neg y]at M;exact (e6 k (.inr (.inr (.inr ⟨q,i,l',H i l' y J,I,M⟩)))).imp id λ⟨i,l',J,I,M⟩=>⟨i+1,l',by simpa using J,I,M⟩
     ·rw[(a4 q).2.2 hq]at J;simp only[if_neg hq]at M;exact (e6 k (.inr (.inr (.inr ⟨q,i,l',J,I,M⟩)))).imp id λ⟨i,l',J,I,M⟩=>⟨i+1,l',by simpa using J,I,M⟩
end
def PK.isIop:PK->Bool
 |.iop _=>true
 |_=>false
section
variable {P:Program} {V:Env} {Γ:List Ctr} {st st':St} {w w':World} {a:Act}
theorem kK:∀ {a b:List (Nat×Nat)},aY (a++b)=true->aY a=true/\aY b=true/\∀ x∈a,x∉b
 |[],b,h=>⟨rfl,h,by simp⟩
 |x::a,b,h=>by
  obtain⟨u,H⟩:=jJ h;obtain⟨R,O,J⟩:=kK H;refine⟨?_,O,λy r z=>?_⟩
  ·simp only[aY,BC,BY,Bz];refine⟨λy r M=>u (BJ _ ?_),R⟩;obtain⟨I,X⟩:x.1=y.1/\x.2=y.2:=by simpa using M
   rw[show x=y from DZ I X];exact r
  ·rcases CM.1 r with rfl|r
   ·exact u (BE _ z)
   ·exact J y r z
theorem ka {p:Bool}:∀ (b:Ty) (ls:List Leaf) (t:cJ b.den),take st b ls=some t->∀ (y:b.den) (i r j n:Nat) (l:Leaf),ls[i]?=some (.al r j n)->(aq p b y)[i]?=some l->ao l->(st r).ver=n
 |.pair b c,ls,t,h,y,i,r,j,n,l,I,z,J=>by
  simp only[take]at h;split at h
  ·rename_i u M;split at h
   ·rename_i v O;simp only[aq]at z;have X:=cH p b y.1;by_cases hi:i<b.cells
    ·rw[BH (by omega)]at z;exact ka b ls u M y.1 i r j n l I z J
    ·rw[BG (by omega),X]at z;have Z:=take_rest b ls u M;refine ka c u.rest v O y.2 (i-b.cells) r j n l ?_ z J;rw[Z,CN,show b.cells+(i-b.cells)=i by omega];exact I
   ·cases h
  ·cases h
 |.list m E e,ls,t,h,y,i,r,j,n,l,I,z,J=>by
  cases m with
  |false =>
   cases i with
   |zero=>simp[aq]at z;subst z;exact J.elim
   |succ i=>simp[aq]at z
  |true =>
   cases i with
   |succ i=>simp[aq]at z
   |zero =>
    cases ls with
    |nil=>simp at I
    |cons l' ls =>
     simp only[CO,BA]at I;subst I;simp only[take,cond_true]at h;split at h
     ·rename_i Y;exact (eY Y (by simp)).1
     ·cases h
 |.int k,ls,t,h,y,i,r,j,n,l,I,z,J=>by
  cases i with
  |zero=>simp[aq]at z;subst z;exact J.elim
  |succ i=>simp[aq]at z
 |.bool,ls,t,h,y,i,r,j,n,l,I,z,J=>by
  cases i with
  |zero=>simp[aq]at z;subst z;exact J.elim
  |succ i=>simp[aq]at z
 |.str,ls,t,h,y,i,r,j,n,l,I,z,J=>by
  cases i with
  |zero=>simp[aq]at z;subst z;exact J.elim
  |succ i=>simp[aq]at z
 |.hdr,ls,t,h,y,i,r,j,n,l,I,z,J=>by
  cases i with
  |zero=>simp[aq]at z;subst z;exact J.elim
  |succ i=>simp[aq]at z
 |.unit,ls,t,h,y,i,r,j,n,l,I,z,J=>by simp[aq]at z
where
 take_rest:∀ (b:Ty) (ls:List Leaf) (t:cJ b.den),take st b ls=some t->t.rest=ls.drop b.cells
  |.pair b c,ls,t,h=>by
   simp only[take]at h;split at h
   ·rename_i u M;split at h
    ·rename_i v O;simp only[BA]at h;subst h;show v.rest=_;rw[take_rest c u.rest v O,take_rest b ls u M,List.drop_drop];rfl
    ·cases h
   ·cases h
  |.unit,ls,t,h=>by
   simp only[take,BA]at h;subst h;rfl
  |.list m E e,ls,t,h=>by
   cases ls with
   |nil=>simp[take]at h
   |cons l ls =>
    cases m with
    |false =>
     simp only[take,cond_false]at h;split at h
     ·simp only[BA]at h;subst h;rfl
     ·cases h
    |true =>
     simp only[take,cond_true]at h;split at h
     ·split at h
      ·simp only[BB]at h;obtain⟨xs,_,rfl⟩:=h;rfl
      ·cases h
     ·simp only[BA]at h;subst h;rfl
     ·cases h
  |.int k,ls,t,h=>sc (b:=.int k) h uV rfl
  |.bool,ls,t,h=>sc (b:=.bool) h tt rfl
  |.str,ls,t,h=>sc (b:=.str) h uW rfl
  |.hdr,ls,t,h=>sc (b:=.hdr) h uX rfl
 sc {b:Ty} {ls:List Leaf} {t:cJ b.den} (h:(aZ st b ls).map (λx=>(⟨false,x.2.1,[],[],x.2.2⟩:cJ b.den))=some t)
   (H:∀ {ls:List Leaf} {x:Bool×b.den×List Leaf},aZ st b ls=some x->∃ l,ls=l::x.2.2) (I:b.cells=1):t.rest=ls.drop b.cells:=by
  simp only[BB]at h;obtain⟨x,R,rfl⟩:=h;obtain⟨l,rfl⟩:=H R;rw[I];rfl
theorem wd {agg:Bool}{v:Value}{y z:List Value}(u:db agg v y)(r:db agg v z):y=z:=by
 unfold db at u r;cases agg with
 |true =>
  simp only[if_true]at u r;rw[u]at r;simpa using r
 |false =>
  simp only[Bool.false_eq_true,if_false]at u r;rw[u,r]
theorem qD (hV:ax V){W0 W:Wit}{S0 S:St}{w0:World}{G:Nat->Prop}{p:Bool}(a4:W.cs=W0.cs)(hG:∀ k,G k->gd V W p k)(h:ap P V W S a w) :
  ∀ (ps:List PK) (xs:List (aI×List Leaf)) (vs:List Value) (g:Got (ab ps)) (o:ah ps) (y:List (List Nat)),gT P V W0 S0 w0 xs vs->a7 (ca Γ S0) ps xs=some g->ps.any PK.isIop=false ->
  bJ w G ps o vs y->aY g.kill=true->(∀ x∈g.kill,x.1≠EPO)->(∀ x∈g.kill,∀ l,(S x.1).ls[x.2]?=some l->¬ ao l)->(∀ k∈y.flatten,¬ cd V W S k)->y.flatten.Nodup ->
  ∃ W',ap P V W' (ac (aF S p ps xs o) S) a w/\W'.cs=W.cs/\W'.β=W.β/\W'.nw=W.nw/\(∀ q,(ac (aF S p ps xs o) S q).sh=(S q).sh/\(S q).ver<=(ac (aF S p ps xs o) S q).ver) /\
   (∀ q i,(q,i)∉g.kill->(ac (aF S p ps xs o) S q).ls[i]?=(S q).ls[i]?/\W'.bs q i=W.bs q i)/\(∀ k,cd V W' (ac (aF S p ps xs o) S) k->cd V W S k\/k∈y.flatten)
 |[],xs,vs,g,o,y,_,_,_,_,_,_,_,_,_=>⟨W,h,rfl,rfl,rfl,λ_=>⟨rfl,BU _⟩,λ_ _ _=>⟨rfl,rfl⟩,λk O=>.inl O⟩
 |pk::ps,[],vs,g,o,y,_,hg,_,_,_,_,_,_,_=>by simp[a7]at hg
 |pk::ps,x::xs,vs,g,o,y,hx,hg,hp,ho,hd,a5,a3,R,a0=>by
  obtain⟨v,a6,cs,rfl,hs,hl,a1⟩:=hx;simp only[a7]at hg;split at hg
  ·rename_i g1 a2;split at hg
   ·rename_i g2 b3;simp only[BA]at hg;subst hg;simp only[CU,Cw]at hp;obtain⟨bb,b2,bl⟩:=kK hd;have J:∀ (o':ah ps) (b:List Nat) (M:List (List Nat)),y=b::M->b=[]->bJ w G ps o' a6 M->aF S p (pk::ps) (x::xs) o=aF S p ps xs o' ->
      ∃ W',ap P V W' (ac (aF S p (pk::ps) (x::xs) o) S) a w/\W'.cs=W.cs/\W'.β=W.β/\W'.nw=W.nw/\(∀ q,(ac (aF S p (pk::ps) (x::xs) o) S q).sh=(S q).sh/\(S q).ver<=(ac (aF S p (pk::ps) (x::xs) o) S q).ver) /\
       (∀ q i,(q,i)∉g1.kill++g2.kill->(ac (aF S p (pk::ps) (x::xs) o) S q).ls[i]?=(S q).ls[i]?/\W'.bs q i=W.bs q i)/\(∀ k,cd V W' (ac (aF S p (pk::ps) (x::xs) o) S) k->cd V W S k\/k∈y.flatten):=by
     intro o' b M e1 e2 b9 e3;subst e1;subst e2;rw[e3];obtain⟨W1,f1,f2,f3,f4,f5,f6,f7⟩:=qD hV a4 hG h ps xs a6 g2 o' M a1 b3 hp.2 b9 b2 (λz Y=>a5 z (BE _ Y)) (λz Y=>a3 z (BE _ Y)) (λk O=>R k (by simpa using O)) (by simpa using a0);exact⟨W1,f1,f2,f3,f4,f5,λq i hq=>f6 q i (λhm=>hq (BE _ hm)),λk O=>(f7 k O).imp id (λhm=>by simpa using hm)⟩
    cases pk with
    |io b =>
     match y,ho with
     |Z::M,⟨H,I⟩ =>
      simp only[BX]at a0 R;rw[CB]at a0;obtain⟨W1,f1,f2,f3,f4,f5,f6,f7⟩:=qD hV a4 hG h ps xs a6 g2 o.2 M a1 b3 hp.2 I b2 (λz Y=>a5 z (BE _ Y)) (λz Y=>a3 z (BE _ Y)) (λk O=>R k (BE _ O)) a0.2.1;simp only[ca,be]at a2;cases hb:decide (x.1=bf b.isAgg) with
      |false=>simp[hb]at a2
      |true =>
       rw[hb]at a2;simp only[cond_true,BB]at a2;obtain⟨t,ht,rfl⟩:=a2;rw[of_decide_eq_true hb]at hs;unfold jo at H;rw[if_neg (by simp)]at H;obtain⟨a9,b5,hm⟩:=H;have:=wd b5 (gA hs);subst this;obtain⟨ba,m1,m2,m3,m4⟩:=iJ (P:=P) (V:=V) (W:=W1) (st:=ac (aF S p ps xs o.2) S) (p:=p) (λk O=>by
        rcases hG k O with O|O
        ·exact .inl (by rw[f4];exact O)
        ·exact .inr O) hm a0.1
       unfold cg at ht;split at ht
       ·rename_i p0 x0 f0 k0 b0;simp only[BA]at ht;subst ht;have X:=kY (p:=p) b x.2 _ b0 o.1 [];simp only[Bu]at X;have X:eJ x.2 (aq p b o.1)=k0:=by
         rw[X];show k0++eJ [] []=k0;simp[eJ]
        obtain⟨W2,q1,q2,q3,q4,q5,q6,q7⟩:=zv hV f1 x.2 (aq p b o.1) a9 ba (by rw[X];exact bb) (λz Y=>a5 z (BJ _ (by rw[X]at Y;exact Y))) hl.length m1
         (λi r j n l u g3 g4 g5 g6=>by
          have h5:=(hl.at_ i _ u g3 g6).1;rw[f2,a4];exact h5.2 (ka b x.2 _ b0 o.1 i r j n l g3 g4 g5))
         (λz Y l b1=>by
          rw[X]at Y;rw[(f6 z.1 z.2 (bl z Y)).1]at b1;exact a3 z (BJ _ Y) l b1)
         m2
         (λi l g3 g4 k O hu=>by
          have ad:=m3 i l g3 g4 k O;rcases f7 k hu with hu|hu
          ·exact R k (BJ _ ad) hu
          ·exact a0.2.2 k ad k hu rfl) m4
        have b4:ac (aF S p (.io b::ps) (x::xs) o) S=ac (b8 (ac (aF S p ps xs o.2) S) x.2 (aq p b o.1)) (ac (aF S p ps xs o.2) S):=bA _ _ _;rw[b4];rw[X]at q6;refine⟨W2,q1,q2.trans f2,q3.trans f3,q4.trans f4,λq=>⟨(q5 q).1.trans (f5 q).1,CC (f5 q).2 (q5 q).2⟩,λq i hq=>?_,λk O=>?_⟩
        ·simp only[BL,not_or]at hq;exact⟨(q6 q i hq.1).1.trans (f6 q i hq.2).1,(q6 q i hq.1).2.trans (f6 q i hq.2).2⟩
        ·rcases q7 k O with O|⟨i,l,g3,g4,g5⟩
         ·exact (f7 k O).imp id (λhm=>BE _ hm)
         ·exact .inr (BJ _ (m3 i l g3 g4 k g5))
       ·cases ht
    |iop b=>simp[PK.isIop]at hp
    |rd b =>
     match y,ho with
     |Z::M,⟨H,I⟩=>exact J o Z M rfl H I rfl
    |own b =>
     match y,ho with
     |Z::M,⟨H,I⟩=>exact J o Z M rfl H I rfl
    |rref b =>
     match y,ho with
     |Z::M,⟨H,I⟩=>exact J o Z M rfl H I rfl
    |rref2 b =>
     match y,ho with
     |Z::M,⟨H,I⟩=>exact J o Z M rfl H I rfl
    |fn As B =>
     match y,ho with
     |Z::M,⟨H,I⟩=>exact J o Z M rfl H I rfl
    |clo f a9 =>
     match y,ho with
     |Z::M,⟨H,I⟩=>exact J o Z M rfl H I rfl
    |hol b cc off =>
     match y,ho with
     |Z::M,⟨H,I⟩=>exact J o Z M rfl H I rfl
   ·cases hg
  ·cases hg
end
section
variable {P:Program} {V:Env} {W:Wit} {st:St} {w:World} {a:Act}
theorem ou {G ro:Nat->Prop}{p q:Bool}{ks:List (Nat×Nat×Nat)}{ep:Nat}(hG:∀ k,G k->gd V W p k)(d n:Nat) :
  ∀ (O:List RK) (y:ai O) (us:List Value) (a0:List (List Nat)),
  (O.any RK.isBv=true->(∀ k,G k\/ro k->gd V W q k\/∃ x∈ks,k∈W.bs x.1 x.2.1)/\ep<=(st EPO).ver/\(∀ k∈ks,k.2.2<=(st k.1).ver))->gz w G ro O y us a0->O.all RK.isV=true->a0.flatten.Nodup ->
  (bC d n p q ks ep O y).2=[]/\∃ (cs:List Value) (a2:Nat->List Nat),pv ((bC d n p q ks ep O y).1.map λx=>(x.1,x.2.length)) us cs/\(((bC d n p q ks ep O y).1.map (·.2)).flatten).length=cs.length/\(∀ u∈cs,u.oneCell'=true) /\
   (∀ (j:Nat) (l:Leaf) (u:Value),(((bC d n p q ks ep O y).1.map (·.2)).flatten)[j]?=some l->cs[j]?=some u->aK P V W st w (a2 j) l u) /\
   (∀ (j:Nat) (l:Leaf),(((bC d n p q ks ep O y).1.map (·.2)).flatten)[j]?=some l->ao l->∀ k∈a2 j,k∈a0.flatten) /\
   (∀ (j X:Nat) (l l':Leaf),(((bC d n p q ks ep O y).1.map (·.2)).flatten)[j]?=some l->ao l->(((bC d n p q ks ep O y).1.map (·.2)).flatten)[X]?=some l'->ao l'->∀ k,k∈a2 j->k∈a2 X->j=X)
 |[],y,us,a0,_,⟨e1,e2⟩,_,_=>by
  subst e1;subst e2;exact⟨rfl,[],λ_=>[],⟨rfl,rfl⟩,rfl,by simp,λj l u h1 h2=>by simp at h2,λj l h1 h2 k J=>by simp at J,λj X l l' _ _ _ _ k J=>by simp at J⟩
 |r::O,y,us,a0,hB,⟨u0,a9,b,a6,e1,e2,hr,a4⟩,hv,Z=>by
  subst e1;subst e2;simp only[C0,BC]at hv;rw[BX,CB]at Z;obtain⟨f0,a5,d2,f1,f2,ba,f3,f4,f5⟩:=ou (ks:=ks) (q:=q) (ep:=ep) hG d n O y.2 a9 a6 (λhb=>hB (by simp[hb])) a4 hv.2 Z.2.1;obtain⟨agg,L,I,d1,g0,b3,g1,g2,b4,g3,g4,g5⟩:∃ (agg:Bool) (L:List Leaf) (I:List Value) (d1:Nat->List Nat),(po d n p q ks ep r y.1).1=(agg,L)/\(po d n p q ks ep r y.1).2=[]/\db agg u0 I/\L.length=I.length/\(∀ u∈I,u.oneCell'=true) /\
    (∀ (j:Nat) (l:Leaf) (u:Value),L[j]?=some l->I[j]?=some u->aK P V W st w (d1 j) l u)/\(∀ (j:Nat) (l:Leaf),L[j]?=some l->ao l->∀ k∈d1 j,k∈b) /\
    (∀ (j X:Nat) (l l':Leaf),L[j]?=some l->ao l->L[X]?=some l'->ao l'->∀ k,k∈d1 j->k∈d1 X->j=X):=by
   cases r with
   |v c =>
    obtain⟨I,h1,h2⟩:=hr;obtain⟨d1,m1,m2,m3,m4⟩:=iJ (P:=P) (V:=V) (W:=W) (st:=st) (p:=p) hG h2 Z.1;exact⟨c.isAgg,_,I,d1,rfl,rfl,h1,m1,h2.one,m2,m3,m4⟩
   |bv c =>
    obtain⟨_,I,h1,h2⟩:=hr;obtain⟨b1,b9,b5⟩:=hB (by simp[RK.isBv]);have h3:=jO (P:=P) (V:=V) (W:=W) (st:=st) (p:=q) b9 b5 (h2.mono b1);exact⟨c.isAgg,_,I,λ_=>[],rfl,rfl,h1,h3.length,h2.one,λj l u g1 g2=>(h3.at_ j l u g1 g2).1,λj l _ _ k J=>by simp at J,λj X l l' _ _ _ _ k J=>by simp at J⟩
   |box c=>simp[RK.isV]at hv
  have b2:(bC d n p q ks ep (r::O) y).1=(agg,L)::(bC d n p q ks ep O y.2).1:=by simp only[bC,g0]
  have b0:(bC d n p q ks ep (r::O) y).2=[]:=by simp only[bC,b3,f0,Bu]
  rw[b2];simp only[DY,BX];have H:∀ (j:Nat) (l:Leaf),(L++((bC d n p q ks ep O y.2).1.map (·.2)).flatten)[j]?=some l->(j<L.length/\L[j]?=some l)\/(L.length<=j/\(((bC d n p q ks ep O y.2).1.map (·.2)).flatten)[j-L.length]?=some l):=by
   intro j l z;by_cases M:j<L.length
   ·rw[BH M]at z;exact .inl ⟨M,z⟩
   ·rw[BG (by omega)]at z;exact .inr ⟨by omega,z⟩
  refine⟨b0,I++a5,λj=>if j<L.length then d1 j else d2 (j-L.length),⟨u0,a9,I,a5,rfl,rfl,g2.symm,g1,f1⟩,by rw[BR,BR,g2,f2],λu hu=>(BL.1 hu).elim (b4 u) (ba u),λj l u z hu=>?_,λj l z ho k J=>?_,λj X l l' z ho Y a1 k J R=>?_⟩
  ·rcases H j l z with ⟨M,z⟩|⟨ad,z⟩
   ·rw[BH (by omega)]at hu;simp only[if_pos M];exact g3 j l u z hu
   ·rw[BG (by omega),<- g2]at hu;simp only[if_neg (show ¬ j<L.length by omega)];exact f3 _ l u z hu
  ·rcases H j l z with ⟨M,z⟩|⟨ad,z⟩
   ·simp only[if_pos M]at J;exact BJ _ (g4 j l z ho k J)
   ·simp only[if_neg (show ¬ j<L.length by omega)]at J;exact BE _ (f4 _ l z ho k J)
  ·rcases H j l z with ⟨M,z⟩|⟨ad,z⟩ <;> rcases H X l' Y with ⟨a3,Y⟩|⟨bb,Y⟩
   ·simp only[if_pos M]at J;simp only[if_pos a3]at R;exact g5 j X l l' z ho Y a1 k J R
   ·simp only[if_pos M]at J;simp only[if_neg (show ¬ X<L.length by omega)]at R;exact absurd rfl (Z.2.2 k (g4 j l z ho k J) k (f4 _ l' Y a1 k R))
   ·simp only[if_neg (show ¬ j<L.length by omega)]at J;simp only[if_pos a3]at R;exact absurd rfl (Z.2.2 k (g4 X l' Y a1 k R) k (f4 _ l z ho k J))
   ·simp only[if_neg (show ¬ j<L.length by omega)]at J;simp only[if_neg (show ¬ X<L.length by omega)]at R;have:=f5 _ _ l l' z ho Y a1 k J R;omega
theorem Bg {l:List (Bool×List Leaf)}{us cs:List Value}{v:Value}(n:Nat)(h:pv (l.map λx=>(x.1,x.2.length)) us cs)(z:r9 us v) :
  ea (eM n l).sh v cs/\(eM n l).ls=(l.map (·.2)).flatten/\(eM n l).ver=n:=by
 match l,us,h with
 |[],_,⟨y,H⟩ =>
  subst y;subst H;exact⟨⟨[],z,rfl,rfl⟩,rfl,rfl⟩
 |[(agg,L)],_,⟨u,r,c,R,y,H,h1,Y,Z,X⟩ =>
  subst y;subst H;subst Z;subst X;have z:v=u:=z;subst z;refine⟨?_,by simp[eM],rfl⟩;simp only[eM,Bu];exact j0 Y
 |x::x'::l,us,h =>
  refine⟨?_,rfl,rfl⟩;have J:∃ u M r,us=u::M::r:=by
   obtain⟨u,r,_,_,y,_,_,_,O,I,_,_,H,_⟩:=h;exact⟨u,O,I,by rw[y,H]⟩
  obtain⟨u,M,r,rfl⟩:=J;exact⟨_,z,h⟩
end
section
variable {P:Program} {V:Env} {Γ:List Ctr} {st:St} {w:World} {a:Act}
theorem yW {pk:PK}{x:aI×List Leaf}{g:Got pk.den}(r:ca Γ st pk x=some g)(X:pk.isIop=false):g.lend=[]:=by
 cases pk with
 |iop b=>simp[PK.isIop]at X
 |rd b =>
  simp only[ca,be]at r;cases u:decide (x.1=bf b.isAgg) with
  |false=>simp[u]at r
  |true=>rw[u]at r;simp only[cond_true,BB]at r;obtain⟨y,_,rfl⟩:=r;rfl
 |own b =>
  simp only[ca,be]at r;cases u:decide (x.1=bf b.isAgg) with
  |false=>simp[u]at r
  |true=>rw[u]at r;simp only[cond_true,BB]at r;obtain⟨y,_,rfl⟩:=r;rfl
 |io b =>
  simp only[ca,be]at r;cases u:decide (x.1=bf b.isAgg) with
  |false=>simp[u]at r
  |true=>rw[u]at r;simp only[cond_true,BB]at r;obtain⟨y,_,rfl⟩:=r;rfl
 |rref b=>exact cap (c:=(false,b)) r
 |rref2 b=>exact cap (c:=(true,b)) r
 |fn R B =>
  simp only[ca]at r;split at r
  ·unfold kt at r;split at r
   ·unfold rS at r;split at r
    ·rename_i c _ hh;cases u:(c.ps.drop R.length).all PK.reads&&B.flat&&c.fresh with
     |false=>rw[u]at r;cases r
     |true =>
      rw[u]at r;simp only[cond_true]at r;split at r
      ·simp only[BA]at r;subst r;rfl
      ·cases r
    ·cases r
   ·cases r
  ·simp only[be]at r;split at r
   ·split at r
    ·simp only[BA]at r;subst r;rfl
    ·cases r
   ·cases r
 |hol b Z off =>
  simp only[ca,be]at r;cases u:decide (x.1=bf b.isAgg) with
  |false=>simp[u]at r
  |true =>
   rw[u]at r;simp only[cond_true]at r;split at r
   ·split at r
    ·rename_i Y _ _ _ _;cases H:BT Y off with
     |false=>simp[H]at r
     |true =>
      rw[H]at r;simp only[cond_true]at r;split at r
      ·split at r
       ·simp only[BA]at r;subst r;rfl
       ·cases r
      ·cases r
    ·cases r
   ·cases r
 |clo f I =>
  simp only[ca,be]at r;split at r
  ·rename_i J z _;cases u:BT J f with
   |false=>simp[u]at r
   |true=>rw[u]at r;exact caps_ r
  ·rename_i J z _;cases u:BT J f with
   |false=>simp[u]at r
   |true=>rw[u]at r;exact caps_ r
  ·cases r
where
 cap {c:Bool×Ty} {l:Leaf} {g:Got c.2.den} (r:ff st c l=some g):g.lend=[]:=by
  unfold ff at r;cases O:c.1 with
  |true =>
   rw[O]at r;simp only[cond_true]at r;split at r
   ·split at r
    ·simp only[BB]at r;obtain⟨y,_,rfl⟩:=r;rfl
    ·cases r
   ·cases r
  |false =>
   rw[O]at r;simp only[cond_false]at r;split at r
   ·simp only[BB]at r;obtain⟨y,_,rfl⟩:=r;rfl
   ·cases r
 caps_:∀ {I:List (Bool×Ty)} {M:List Leaf} {g:Got (lG I)},cz st I M=some g->g.lend=[]
  |[],[],g,r=>by simp only[cz,BA]at r;subst r;rfl
  |[],_::_,_,r=>by simp[cz]at r
  |_::_,[],_,r=>by simp[cz]at r
  |c::I,l::M,g,r=>by
   simp only[cz]at r;split at r
   ·split at r
    ·simp only[BA]at r;subst r;rfl
    ·cases r
   ·cases r
theorem tu:∀ (ps:List PK) (xs:List (aI×List Leaf)) (g:Got (ab ps)),a7 (ca Γ st) ps xs=some g->g.lend=[]->ps.any PK.isIop=false
 |[],_,_,_,_=>rfl
 |_::_,[],_,u,_=>by simp[a7]at u
 |J::ps,x::xs,g,u,y=>by
  simp only[a7]at u;split at u
  ·rename_i M r;split at u
   ·rename_i I z;simp only[BA]at u;subst u;simp only[List.append_eq_nil_iff]at y;rw[CU,tu ps xs I z y.2,Bool.or_false];cases J with
    |iop b =>
     simp only[ca,be]at r;split at r
     ·rename_i q _;cases H:decide ((st q).sh=.agg) with
      |false=>simp[H]at r
      |true =>
       rw[H]at r;simp only[cond_true,BB]at r;obtain⟨t,_,rfl⟩:=r;simp at y
     ·cases r
    |_=>rfl
   ·cases u
  ·cases u
theorem o8 {W0:Wit}{S0 S:St}{w0:World}{a0:Act}(h0:ap P V W0 S0 a0 w0){G:Nat->Prop}{p:Bool} :
  ∀ (ps:List PK) (xs:List (aI×List Leaf)) (vs:List Value) (g:Got (ab ps)) (o:ah ps) (r:List (List Nat)),gT P V W0 S0 w0 xs vs->a7 (ca Γ S0) ps xs=some g->ps.any PK.isIo=false->bJ w G ps o vs r ->
  (g.lend=[]->aF S p ps xs o=[]/\r.flatten=[]) /\
  (∀ b,g.lend=[b]->∃ (c:Ty) (y:c.den) (cs:List Value) (E:TypeId) (b0:List Nat),aF S p ps xs o=[(b,⟨(S b).ver+2,.agg,aq p c y⟩)]/\w.heap[W0.β b]?=some (.cells cs.toArray E (0,0))/\Mx w G c none 0 y cs b0/\r.flatten=W0.β b::b0/\(S0 b).ls.length=c.cells)
 |[],[],vs,g,o,r,hx,O,_,X=>by
  simp only[a7,BA]at O;subst O;refine⟨λ_=>⟨rfl,?_⟩,λb hb=>by simp at hb⟩
  match vs,r,X with
  |[],[],_=>rfl
 |[],_::_,_,_,_,_,_,O,_,_=>by simp[a7]at O
 |_::_,[],_,_,_,_,_,O,_,_=>by simp[a7]at O
 |pk::ps,x::xs,vs,g,o,r,hx,O,hn,X=>by
  obtain⟨v,a1,cs,rfl,hs,hl,R⟩:=hx;simp only[a7]at O;split at O
  ·rename_i g1 J;split at O
   ·rename_i g2 a2;simp only[BA]at O;subst O;simp only[CU,Cw]at hn;have H:∀ (o':ah ps) (b:List Nat) (I:List (List Nat)),pk.isIop=false->r=b::I->b=[]->bJ w G ps o' a1 I->aF S p (pk::ps) (x::xs) o=aF S p ps xs o' ->
      (g1.lend++g2.lend=[]->aF S p (pk::ps) (x::xs) o=[]/\r.flatten=[]) /\
      (∀ b,g1.lend++g2.lend=[b]->∃ (c:Ty) (y:c.den) (cs:List Value) (E:TypeId) (b0:List Nat),aF S p (pk::ps) (x::xs) o=[(b,⟨(S b).ver+2,.agg,aq p c y⟩)]/\w.heap[W0.β b]?=some (.cells cs.toArray E (0,0))/\Mx w G c none 0 y cs b0/\r.flatten=W0.β b::b0/\(S0 b).ls.length=c.cells):=by
     intro o' b I hi e1 e2 a5 e3;subst e1;subst e2;rw[e3,yW J hi];simpa using o8 h0 (S:=S) (p:=p) ps xs a1 g2 o' I R a2 hn.2 a5
    cases pk with
    |iop b =>
     match r,X with
     |M::I,⟨u,z⟩ =>
      obtain⟨r1,r2⟩:=o8 h0 (S:=S) (p:=p) ps xs a1 g2 o.2 I R a2 hn.2 z;simp only[ca,be]at J;split at J
      ·rename_i q hq;cases hb:decide ((S0 q).sh=.agg) with
       |false=>simp[hb]at J
       |true =>
        rw[hb]at J;simp only[cond_true,BB]at J;obtain⟨t,ht,rfl⟩:=J;refine⟨λhb=>by simp at hb,λb' Y=>?_⟩;simp only[Cp,CX]at Y;obtain⟨rfl,Y⟩:=Y;obtain⟨r3,r4⟩:=r1 Y;obtain⟨a4,_⟩:=gR hs hl hq (by simp);unfold jo at u;rw[if_pos rfl]at u;obtain⟨g',a3,E,b0,hv,Z,hm,rfl⟩:=u;have a6:g'=W0.β q:=by
         have h9:=a4.2.2;rw[hv]at h9;simp only[Value.pointer.injEq,BA,Cd,and_true]at h9;exact h9
        subst a6;refine⟨b,o.1,a3,E,b0,?_,Z,hm,by rw[BX,r4,Bu],?_⟩
        rotate_left
        ·rw[h0.len];exact (dN (pos:=0) h0 (iy h0 q) ht).1.len
        simp only[aF,r3,hq,Bu];rfl
      ·cases J
    |io b=>simp[PK.isIo]at hn
    |rd b =>
     match r,X with
     |M::I,⟨u,z⟩=>exact H o M I rfl rfl u z rfl
    |own b =>
     match r,X with
     |M::I,⟨u,z⟩=>exact H o M I rfl rfl u z rfl
    |rref b =>
     match r,X with
     |M::I,⟨u,z⟩=>exact H o M I rfl rfl u z rfl
    |rref2 b =>
     match r,X with
     |M::I,⟨u,z⟩=>exact H o M I rfl rfl u z rfl
    |fn As B =>
     match r,X with
     |M::I,⟨u,z⟩=>exact H o M I rfl rfl u z rfl
    |clo f a3 =>
     match r,X with
     |M::I,⟨u,z⟩=>exact H o M I rfl rfl u z rfl
    |hol b cc off =>
     match r,X with
     |M::I,⟨u,z⟩=>exact H o M I rfl rfl u z rfl
   ·cases O
  ·cases O
end
section
variable {P:Program} {V:Env}
theorem we (hV:ax V){W:Wit}{S:St}{a:Act}{w:World}(h:ap P V W S a w){M:List RK}{y:ai M}{us:List Value}{Y:List (List Nat)}{v:Value}{p q:Bool}{ks:List (Nat×Nat×Nat)}{ep:Nat}{G ro:Nat->Prop}
  (a0:gz w G ro M y us Y) (hG:∀ k,G k->gd V W p k)
  (hB:M.any RK.isBv=true->(∀ k,G k\/ro k->gd V W q k\/∃ x∈ks,k∈W.bs x.1 x.2.1)/\ep<=(S EPO).ver/\(∀ k∈ks,k.2.2<=(S k.1).ver))
  (H:∀ k∈Y.flatten,¬ cd V W S k) (a2:Y.flatten.Nodup) (I:r9 us v) {d:Nat} (hd:d<V.nt) (Z:∀ x∈V.fixt,x.1≠d) (r:gG S d M=true) :
  ∃ W1,ap P V W1 (ac ((d,eM ((ac (bC d (S (B0+d)).ver p q ks ep M y).2 S d).ver+1) (bC d (S (B0+d)).ver p q ks ep M y).1)::(bC d (S (B0+d)).ver p q ks ep M y).2) S) (a.put (some d) v) w /\
   ∀ z,z≠d->z≠B0+d->W1.cs z=W.cs z:=by
 cases hv:M.all RK.isV with
 |true =>
  obtain⟨m0,cs,a1,m1,m2,m3,m4,m5,m6⟩:=ou (P:=P) (W:=W) (st:=S) (p:=p) (q:=q) (ks:=ks) (ep:=ep) hG d (S (B0+d)).ver M y us Y hB a0 hv a2;rw[m0];obtain⟨s1,s2,s3⟩:=Bg ((S d).ver+1) m1 I;show ∃ W1,ap P V W1 (ac [(d,eM ((S d).ver+1) (bC d (S (B0+d)).ver p q ks ep M y).1)] S) (a.put (some d) v) w/\_;generalize eM ((S d).ver+1) (bC d (S (B0+d)).ver p q ks ep M y).1=rc at s1 s2 s3 ⊢;obtain⟨v0,ad,bb⟩:=rc;simp only at s1 s2 s3;subst s3;subst s2;have a4:=h.put hV d hd Z ((S d).ver+1) ad _ v cs a1 (BM _) s1 m2 m3 m4
   (λj l R ho k X=>by
    have a9:=m5 j l R ho k X;have J:=H k a9;simp only[cd,not_or,not_exists,not_and]at J;exact⟨J.1,J.2.1,J.2.2.1,λr1 j1 l1 _ h8 h9=>J.2.2.2 r1 j1 l1 h8 h9⟩) m6
  refine⟨_,a4,λz hz _=>?_⟩;show (if z=d then cs else W.cs z)=_;rw[if_neg hz]
 |false =>
  have hb:∃ b,M=[.box b]:=by
   unfold gG at r;split at r
   ·exact⟨_,rfl⟩
   ·rw[hv]at r;cases r
  obtain⟨b,rfl⟩:=hb;obtain⟨u0,bl,rb,ba,e1,e2,⟨g',cs,E,b0,b1,b9,hm,b3⟩,e3,e4⟩:=a0;subst e3;subst e4;subst e1;subst e2;subst b3;have I:v=u0:=I;subst I;subst b1;have a3:(S (B0+d)).sh=.off:=by simpa[gG]using r
  have O:(g'::b0).Nodup:=by simpa using a2
  rw[CF]at O;obtain⟨a1,m1,m2,m3,m4⟩:=iJ (P:=P) (V:=V) (W:=W) (st:=S) (p:=p) hG hm O.2;have a5:d≠B0+d:=by simp[B0]
  have b2:=H g' (by simp);have b4:=h.setBoxG hV (B0+d) (CT _ _) ((S (B0+d)).ver+1) (aq p b y.1) cs a1 g' E (w':=w) (BM _)
   (.inr ⟨by simp[live,a3],b2,λj l R ho k X e0=>O.1 (by rw[<- e0];exact m3 j l R ho k X)⟩) b9 (λ_ _ _=>rfl) (λ_ _ _ _ _ _ _=>rfl) (BU _) rfl rfl rfl m1 hm.one m2
   (λj l R ho k X=>by
    have J:=H k (by simp;exact .inr (m3 j l R ho k X));simp only[cd,not_or,not_exists,not_and]at J;exact⟨J.1,J.2.1,J.2.2.1,λr1 j1 l1 _ h8 h9=>J.2.2.2 r1 j1 l1 h8 h9⟩) m4
  have b5:=b4.put hV d hd Z ((S d).ver+1) .one [.bp (B0+d) 0] (.pointer (some ⟨g',0,none⟩)) [.pointer (some ⟨g',0,none⟩)] (λ_=>[]) (by rw[aJ a5];exact BM _) rfl rfl (λu J=>by simp at J;subst J;rfl)
   (λj l u R g9=>by
    cases j with
    |zero=>simp at R g9;subst R;subst g9;exact⟨CT _ _,by rw[bh],by simp⟩
    |succ j=>simp at R)
   (λj l R ho k X=>by simp at X) (λj j' l l' _ _ _ _ k X=>by simp at X)
  have e1:ac (bC d (S (B0+d)).ver p q ks ep [.box b] y).2 S=ac [(B0+d,⟨(S (B0+d)).ver+1,.agg,aq p b y.1⟩)] S:=rfl;rw[aO,e1,aJ a5];refine⟨_,b5,λz hz a6=>?_⟩;show (if z=d then _ else (if z=B0+d then _ else W.cs z))=_;rw[if_neg hz,if_neg a6]
theorem uu (r:Nat)(c u:bS)(S:St):ac [(r,c)] (ac [(r,u)] S)=ac [(r,c)] S:=by
 funext q;rcases am r q c (ac [(r,u)] S) with ⟨rfl,e⟩|⟨h,e⟩
 ·rw[e,bh]
 ·rw[e,aJ h,aJ h]
theorem yX (hV:ax V){W:Wit}{S:St}{a:Act}{w w':World}(h:ap P V W S a w){b:Nat}(hb:live S b){N:Nat->Prop}{cs:List Value}{E:TypeId}{c:Ty}{y:c.den}{b0:List Nat}{G:Nat->Prop}{p:Bool}
  (Z:w'.heap[W.β b]?=some (.cells cs.toArray E (0,0))) (hm:Mx w' G c none 0 y cs b0) (a3:(W.β b::b0).Nodup) (a6:(S b).ls.length=c.cells)
  (a1:∀ k,cd V W S k->k≠W.β b->w'.heap[k]?=w.heap[k]?) (ad:w.heap.size<=w'.heap.size) (b1:w'.os=w.os) (ht:w'.tape=w.tape) (ho:w'.output=w.output)
  (hN:∀ k,N k->k<w'.heap.size/\¬ cd V W S k) (a2:∀ k∈b0,¬ cd V W S k/\¬ N k) (hG:∀ k,G k->gd V { W with nw:=λk=>W.nw k\/N k } p k) :
  ∃ W1,ap P V W1 (ac [(b,⟨(S b).ver+2,.agg,aq p c y⟩)] S) a w'/\W1.β=W.β/\(∀ k,W1.nw k<->W.nw k\/N k)/\(∀ q,q≠b->W1.cs q=W.cs q)/\(∀ q i,q≠b->W1.bs q i=W.bs q i) /\
   (∀ k,cd V W1 (ac [(b,⟨(S b).ver+2,.agg,aq p c y⟩)] S) k->cd V W S k\/N k\/k∈b0):=by
 have J:∀ (q:Nat),(if q=b then W.β b else W.β q)=W.β q:=λq=>by split <;> simp_all
 have h1:=h.setBoxG hV b hb.1 ((S b).ver+1) (CD cs.length .dead) cs (λ_=>[]) (W.β b) E (w':=w') (BM _) (.inl ⟨hb,rfl⟩) Z a1 (λ_ _ _ _ k I=>by simp at I) ad b1 ht ho (by simp) hm.one
  (λj l u H R=>by
   rw[CP]at H;split at H
   ·simp at H;subst H;trivial
   ·cases H)
  (λj l H R k I=>by simp at I) (λj j' l l' _ _ _ _ k I=>by simp at I)
 have a0:∀ (j:Nat) (l:Leaf),(CD cs.length Leaf.dead)[j]?=some l->¬ ao l:=by
  intro j l H;rw[CP]at H;split at H
  ·simp at H;subst H;exact id
  ·cases H
 have a5:∀ z,live (ac [(b,⟨(S b).ver+1,.agg,CD cs.length .dead⟩)] S) z->live S z:=by
  intro z X;rcases am b z ⟨(S b).ver+1,.agg,CD cs.length .dead⟩ S with ⟨rfl,e⟩|⟨_,e⟩
  ·exact hb
  ·exact⟨X.1,by rw[<- e];exact X.2⟩
 have b2:∀ k,cd V { W with β:=λr=>if r=b then W.β b else W.β r,cs:=λr=>if r=b then cs else W.cs r,bs:=λr j=>if r=b then [] else W.bs r j } (ac [(b,⟨(S b).ver+1,.agg,CD cs.length .dead⟩)] S) k->cd V W S k:=by
  rintro k (I|I|⟨z,X,I⟩|⟨z,i,l,H,R,O⟩)
  ·exact .inl I
  ·exact .inr (.inl I)
  ·exact .inr (.inr (.inl ⟨z,a5 z X,by rw[<- I];exact (J z).symm⟩))
  ·by_cases M:z=b
   ·subst M;rw[bh]at H;exact absurd R (a0 i l H)
   ·rw[aJ M]at H;simp only[if_neg M]at O;exact .inr (.inr (.inr ⟨z,i,l,H,R,O⟩))
 have h2:=h1.nwGrow hV N (λk I=>⟨(hN k I).1,λhu=>(hN k I).2 (b2 k hu)⟩);rw[CF]at a3;obtain⟨Y,m1,m2,m3,m4⟩:=iJ (P:=P) (V:=V) (W:={ W with β:=λr=>if r=b then W.β b else W.β r,cs:=λr=>if r=b then cs else W.cs r,bs:=λr j=>if r=b then [] else W.bs r j,nw:=λk=>W.nw k\/N k })
  (st:=ac [(b,⟨(S b).ver+1,.agg,CD cs.length .dead⟩)] S) (p:=p) (λk I=>hG k I) hm a3.2
 have b3:=hm.len;have b4:=cH p c y;have h3:=h2.reown hV b ⟨(S b).ver+2,.agg,aq p c y⟩ Y (by rw[bh];exact BM _) (by rw[bh]) (by rw[bh,Cq];omega)
  (λj l v H R=>m2 j l v H (by simpa using R))
  (λj l H R k I=>by
   have a9:=m3 j l H R k I;obtain⟨q1,q2⟩:=a2 k a9;refine⟨λhn=>hn.elim (λhn=>q1 (.inl hn)) q2,λhp=>q1 (.inr (.inl hp)),λz X e0=>q1 (.inr (.inr (.inl ⟨z,a5 z X,by rw[<- e0];exact (J z).symm⟩))),λr1 j1 l1 a4 O g4 g5=>?_⟩;rw[aJ a4]at O;have g5:k∈(if r1=b then [] else W.bs r1 j1):=g5;rw[if_neg a4]at g5;exact q1 (.inr (.inr (.inr ⟨r1,j1,l1,O,g4,g5⟩)))) m4
 rw[uu]at h3;refine⟨_,h3,funext λq=>J q,λk=>Cj,λq hq=>if_neg hq,λq i hq=>?_,?_⟩
 ·show (if q=b then Y i else if q=b then [] else W.bs q i)=_;rw[if_neg hq,if_neg hq]
 ·rintro k ((I|I)|I|⟨z,X,I⟩|⟨z,i,l,H,R,O⟩)
  ·exact .inl (.inl I)
  ·exact .inr (.inl I)
  ·exact .inl (.inr (.inl I))
  ·refine .inl (.inr (.inr (.inl ⟨z,?_,by rw[<- I];exact (J z).symm⟩)));rcases am b z ⟨(S b).ver+2,.agg,aq p c y⟩ S with ⟨rfl,e⟩|⟨_,e⟩
   ·exact hb
   ·exact⟨X.1,by rw[<- e];exact X.2⟩
  ·by_cases M:z=b
   ·subst M;rw[bh]at H;have O:k∈(if z=z then Y i else _):=O;rw[if_pos rfl]at O;exact .inr (.inr (m3 i l H R k O))
   ·rw[aJ M]at H;have O:k∈(if z=b then Y i else if z=b then [] else W.bs z i):=O;rw[if_neg M,if_neg M]at O;exact .inl (.inr (.inr (.inr ⟨z,i,l,H,R,O⟩)))
end
section
variable {P:Program} {V:Env} {Γ:List Ctr} {st:St} {R:Type}
theorem gB:∀ (ps:List PK) (xs:List (aI×List Leaf)) (r:Upd->List (aI×List Leaf)->Option (Bool×Nat×Nat)->Option R),ku st ps xs r=(cY st ps xs).bind λu=>r u.1 u.2.1 u.2.2
 |[],xs,r=>rfl
 |_::_,[],r=>rfl
 |p::ps,x::xs,r=>by
  simp only[ku,cY];split
  ·rw[hH];cases ck st (x.2.getD _ .dead) <;> rfl
  ·rw[gB ps xs];cases cY st ps xs <;> rfl
theorem kZ {a:Ty}:∀ {ls:List Leaf} {j k:Nat},ll a j ls=some k->j<=k/\∃ l,ls[k-j]?=some l/\jk l=true
 |[],_,_,h=>by simp[ll]at h
 |l::ls,j,k,h=>by
  simp only[ll]at h;cases r:jk l&&pq a j with
  |true =>
   rw[r]at h;simp only[cond_true,BA]at h;subst h;simp only[BC]at r;exact⟨BU _,l,by simp,r.1⟩
  |false =>
   rw[r]at h;obtain⟨H,u,z,y⟩:=kZ h;exact⟨by omega,u,by rw[show k-j=(k-(j+1))+1 by omega];simpa using z,y⟩
theorem rm {p:PK}{ls:List Leaf}{k:Nat}(h:p.nest ls=some k):∃ l,ls[k]?=some l/\jk l=true:=by
 cases p with
 |own a=>obtain⟨_,l,r,u⟩:=kZ h;exact⟨l,by simpa using r,u⟩
 |io a=>obtain⟨_,l,r,u⟩:=kZ h;exact⟨l,by simpa using r,u⟩
 |_=>simp[PK.nest]at h
theorem tv (z:ax V){W W':Wit}{st':St}{w w':World}(y:cD V W W' st st' w w'):∀ {xs:List (aI×List Leaf)} {u:List Value},gT P V W st w xs u->gT P V W' st' w' xs u
 |[],_,h=>h
 |_::_,_,⟨v,r,J,e,H,M,I⟩=>⟨v,r,J,e,H,M.carry z.ro y,tv z y I⟩
theorem aC.setLeaf {W:Wit}{w:World}{ls:List Leaf}{cs:List Value}(z:aC P V W st w ls cs){k:Nat}{l:Leaf}(H:¬ ao l)(h:∀ v,cs[k]?=some v->aK P V W st w [] l v):aC P V W st w (aS ls k l) cs:=by
 have r:=z.length;refine aC.mk (by simp[aS,r]) λj I v u y=>?_
 rcases aR _ _ _ _ _ u with ⟨rfl,rfl,M⟩|⟨J,u⟩
 ·exact⟨h v y,H,z.one' v (List.mem_of_getElem? y)⟩
 ·exact z.at_ j I v u y
def Bh (W:Wit)(S:St)(w:World):Option (Bool×Nat×Nat)->Prop
 |some (_,r,j)=>∃ v,W.cs TMP=[v]/\tp W S w r j v
 |none=>True
theorem ov (Y:ax V){W:Wit}{a:Act}{w:World}(h:ap P V W st a w):∀ (ps:List PK) (xs:List (aI×List Leaf)) (vs:List Value) (U:Upd) (Z:List (aI×List Leaf)) (b:Option (Bool×Nat×Nat)),
  gT P V W st w xs vs->cY st ps xs=some (U,Z,b)->∃ H,ap P V H (ac U st) a w/\gT P V H (ac U st) w Z vs/\H.nw=W.nw/\H.β=W.β/\Bh H (ac U st) w b/\cD V W H st (ac U st) w w/\(∀ q,(ac U st q).sh=(st q).sh\/q=TMP) /\
   (∀ f r j,b=some (f,r,j)->f=true->ps.any PK.isIo=true)
 |[],xs,vs,U,Z,b,hx,y=>by
  simp only[cY,BA,B7]at y;obtain⟨rfl,rfl,rfl⟩:=y;exact⟨W,h,hx,rfl,rfl,trivial,cD.refl V W st w,λ_=>.inl rfl,λ_ _ _ h=>by cases h⟩
 |_::_,[],vs,U,Z,b,hx,y=>by
  simp only[cY,BA,B7]at y;obtain⟨rfl,rfl,rfl⟩:=y;exact⟨W,h,hx,rfl,rfl,trivial,cD.refl V W st w,λ_=>.inl rfl,λ_ _ _ h=>by cases h⟩
 |p::ps,x::xs,vs,U,Z,b,⟨v,M,cs,e,hs,hl,z⟩,y=>by
  subst e;simp only[cY]at y;split at y
  ·rename_i k hk;simp only[BB]at y;obtain⟨u,I,y⟩:=y;simp only[B7]at y;obtain⟨rfl,rfl,rfl⟩:=y;obtain⟨l,J,a1⟩:=rm hk;have hg:x.2.getD k .dead=l:=by rw[B9,J];rfl
   rw[hg]at I ⊢;have a0:k<cs.length:=by rw[<- hl.length];exact (BD.1 J).1
   have O:=BS a0;obtain⟨U,l'⟩:=u;obtain⟨H,n,p0,E0,e0,a2,g1,X,g3,g4,_,_,g5,g6,_,g7,g8,g9⟩:=uU Y h (hl.at_ k l _ J O).1 I;subst g3;refine⟨H,g1,⟨v,M,cs,rfl,hs,(hl.carry Y.ro X).setLeaf id λu I=>?_,tv Y X z⟩,g5,g6,⟨_,g7,g9⟩,X,g8,λf r j hb hf=>?_⟩
   ·rw[O]at I;simp only[BA]at I;subst I;exact g4
   ·simp only[BA,B7]at hb;rw[CU,hb.1,hf];rfl
  ·simp only[BB]at y;obtain⟨u,I,y⟩:=y;simp only[B7]at y;obtain⟨rfl,rfl,rfl⟩:=y;obtain⟨H,g1,X,g3,g4,g5,g6,g7,g8⟩:=ov Y h ps xs M u.1 u.2.1 u.2.2 z I;exact⟨H,g1,⟨v,M,cs,rfl,hs,hl.carry Y.ro g6,X⟩,g3,g4,g5,g6,g7,λf r j hb hf=>by rw[CU,g8 f r j hb hf,Bool.or_true]⟩
end
section
variable {P:Program} {V:Env} {Γ:List Ctr} {st:St}
theorem iK {st:St}{q i:Nat}:∀ {ks:List (Nat×Nat)},(q,i)∉ks->(ac (aE st ks) st q).ls[i]?=(st q).ls[i]?
 |[],_=>rfl
 |(r,j)::ks,h=>by
  simp only[CM,not_or]at h;have e:ac (aE st ((r,j)::ks)) st=ac [(r,fT (ac (aE st ks) st r) j)] (ac (aE st ks) st):=aO _ _ _ _;rw[e];rcases am r q (fT (ac (aE st ks) st r) j) (ac (aE st ks) st) with ⟨rfl,e⟩|⟨_,e⟩
  ·rw[e];simp only[fT,aS];rw[CJ (λu=>h.1 (by rw[u]))];exact iK h.2
  ·rw[e];exact iK h.2
theorem k6 {st:St}{q i:Nat}:∀ {ks:List (Nat×Nat)},(q,i)∉ks->(ac (aM st ks) st q).ls[i]?=(st q).ls[i]?
 |[],_=>rfl
 |(r,j)::ks,h=>by
  simp only[CM,not_or]at h;have e:ac (aM st ((r,j)::ks)) st=ac [(r,fY (ac (aM st ks) st r) j)] (ac (aM st ks) st):=aO _ _ _ _;rw[e];rcases am r q (fY (ac (aM st ks) st r) j) (ac (aM st ks) st) with ⟨rfl,e⟩|⟨_,e⟩
  ·rw[e];simp only[fY,aS];rw[CJ (λu=>h.1 (by rw[u]))];exact k6 h.2
  ·rw[e];exact k6 h.2
theorem ng (d n:Nat)(p q:Bool)(ks:List (Nat×Nat×Nat))(ep:Nat):∀ (z:List RK) (y:ai z),∀ x∈(bC d n p q ks ep z y).2,x.1=B0+d
 |[],_,x,u=>by simp[bC]at u
 |r::z,y,x,u=>by
  simp only[bC,BL]at u;rcases u with u|u
  ·cases r <;> simp[po]at u;rw[u]
  ·exact ng d n p q ks ep z y.2 x u
theorem rq {q:Nat}(st:St):∀ (U:Upd),(∀ x∈U,x.1≠q)->ac U st q=st q
 |[],_=>rfl
 |(r,c)::U,h=>by
  rw[aO,aJ (CK (h (r,c) (BW ..)))];exact rq st U (λx u=>h x (BP _ u))
def mm (u:St)(c:Ctr)(d:Nat)(xs:List (aI×List Leaf))(g:Got (ab c.ps))(y:ai c.rs×ah c.ps):Upd :=
 let H:=(let U:=(bif c.fresh then [] else aE u g.frz);aM (ac U u) g.kill++U);let z:=aF (ac H u) (g.p&&!c.fresh) c.ps xs y.2++H;let r:=bC d (ac z u (B0+d)).ver (g.p&&!c.fresh) g.p (g.frz.map λk=>(k.1,k.2,(ac z u k.1).ver)) (ac z u EPO).ver c.rs y.1
 (d,eM ((ac (r.2++z) u d).ver+1) r.1)::(r.2++z)
theorem yY (hV:ax V){W0:Wit}{u:St}{a:Act}{w:World}(h0:ap P V W0 u a w){c:Ctr}{xs:List (aI×List Leaf)}{vs:List Value}(dc:gT P V W0 u w xs vs){g:Got (ab c.ps)}(hg:a7 (ca Γ u) c.ps xs=some g)
  (hf:∀ z∈g.frz,aB u z) (H:∀ z∈g.kill,aB u z) (ex:∀ b∈g.lend,live u b) (e0:aY g.kill=true) (e5:dC g.frz g.kill=true) (hE:∀ z∈g.kill,z.1≠EPO) (b1:g.lend.length<=1) (es:g.lend=[]\/c.ps.any PK.isIo=false)
  {bb:List (List Nat)} (c1:∀ k,bb.flatten.count k=(g.lend.map W0.β).count k+(aW W0 g.kill).count k)
  {d:Nat} (hd:d<V.nt) (d1:∀ x∈V.fixt,x.1≠d) (a3:gG u d c.rs=true) (dd:((c.fresh&&g.lend.isEmpty)||!(c.rs.any RK.isBv))=true) {y:ai c.rs×ah c.ps} {e:Ending} {w':World} (cx:tq c w (bj V W0 g.p g.frz) vs bb y e w') :
  ∃ v,e=.returned v/\∃ W1,ap P V W1 (ac (mm u c d xs g y) u) (a.put (some d) v) w'/\(∀ q,q≠d->q≠B0+d->q∉g.lend->W1.cs q=W0.cs q) /\
   (∀ q i,q≠d->q≠B0+d->q∉g.lend->(q,i)∉g.frz->(q,i)∉g.kill->(ac (mm u c d xs g y) u q).ls[i]?=(u q).ls[i]?)/\(∀ k,k<w.heap.size->k∉aW W0 g.kill->k∉g.lend.map W0.β->w'.heap[k]?=w.heap[k]?)/\w.heap.size<=w'.heap.size:=by
 obtain⟨v,us,N,c3,ba,rfl,cy,cc,ef,e7,d2,en,hN,bn,e6,R,Z⟩:=cx;have a5:∀ k,k∈bb.flatten<->k∈g.lend.map W0.β\/k∈aW W0 g.kill:=λk=>by
  rw[<- BK,<- BK,<- BK,c1 k];omega
 have a0:∀ k,k<w.heap.size->k∉aW W0 g.kill->k∉g.lend.map W0.β->w'.heap[k]?=w.heap[k]?:=λk h1 h2 h3=>en k h1 (λh=>((a5 k).1 h).elim h3 h2)
 refine⟨v,rfl,?_⟩;unfold mm;generalize b9:(bif c.fresh then [] else g.frz)=O;have hU:(bif c.fresh then [] else aE u g.frz)=aE u O:=by rw[<- b9];cases c.fresh <;> rfl
 have ec:dC O g.kill=true:=by rw[<- b9];cases c.fresh with|true=>rfl|false=>exact e5
 have bx:∀ z∈O,z∈g.frz:=by rw[<- b9];cases c.fresh with|true=>simp|false=>exact λ_ h=>h
 have f3:∀ z∈O,aB u z:=λz hz=>hf z (bx z hz)
 rw[hU];obtain⟨h1,h2,h3,h4⟩:=fD hV h0 ec H;have b5:∀ q i,(q,i)∉g.frz->(q,i)∉g.kill->(ac (aM (ac (aE u O) u) g.kill++aE u O) u q).ls[i]?=(u q).ls[i]?:=λq i q1 q2=>by
  rw[bA,k6 q2,iK (λh=>q1 (bx _ h))]
 generalize f4:aM (ac (aE u O) u) g.kill++aE u O=I at h1 h2 h3 h4 b5;have a2:∀ k∈aW W0 g.kill,¬ cd V (W0.frz u O) (ac I u) k:=λk H=>mh ⟨(h4 k H).1,(h4 k H).2.1,(h4 k H).2.2.2.1,(h4 k H).2.2.2.2⟩
 have a1:∀ k,p6 w w' bb.flatten k->k∉g.lend.map W0.β->k<w'.heap.size/\¬ cd V (W0.frz u O) (ac I u) k:=by
  rintro k ⟨f1,a6⟩ f0;refine⟨f1,λJ=>?_⟩;rcases a6 with a6|a6
  ·have:=h1.used_lt k J;omega
  ·exact ((a5 k).1 a6).elim f0 (λa6=>a2 k a6 J)
 have hG:∀ k,(N k\/(c.fresh=false/\bj V W0 g.p g.frz k))->gd V { W0.frz u O with nw:=λk=>(W0.frz u O).nw k\/N k } (g.p&&!c.fresh) k:=by
  rintro k (H|⟨e4,H⟩)
  ·exact .inl (.inr H)
  ·have e1:O=g.frz:=by rw[<- b9,e4];rfl
   have:=kg (V:=V) (W:=W0) (p:=g.p) hf k H;rw[e4];rw[<- e1]at this;exact bT (W':={ W0.frz u O with nw:=λk=>(W0.frz u O).nw k\/N k }) (by intro h;simp[h]) (λ_ h=>Or.inl h) k this
 rw[CB]at R;have cp:∀ (W2:Wit),ap P V W2 (ac (aF (ac I u) (g.p&&!c.fresh) c.ps xs y.2++I) u) a w'->(∀ k,(N k\/(c.fresh=false/\bj V W0 g.p g.frz k))->gd V W2 (g.p&&!c.fresh) k) ->
   (∀ k∈ba.flatten,¬ cd V W2 (ac (aF (ac I u) (g.p&&!c.fresh) c.ps xs y.2++I) u) k) ->
   (c.rs.any RK.isBv=true->∀ x∈g.frz,∀ k,k∈W0.bs x.1 x.2->k∈W2.bs x.1 x.2)->(c.rs.any RK.isBv=true->∀ k,W0.nw k->W2.nw k) ->
   (∀ q,q∉g.lend->W2.cs q=W0.cs q)->(∀ q i,q∉g.lend->(q,i)∉g.frz->(q,i)∉g.kill->(ac (aF (ac I u) (g.p&&!c.fresh) c.ps xs y.2++I) u q).ls[i]?=(u q).ls[i]?) ->
   (∀ q,(ac (aF (ac I u) (g.p&&!c.fresh) c.ps xs y.2++I) u q).sh=(u q).sh) ->
   ∃ W1,ap P V W1 (ac (let Y:=aF (ac I u) (g.p&&!c.fresh) c.ps xs y.2++I
     let r:=bC d (ac Y u (B0+d)).ver (g.p&&!c.fresh) g.p (g.frz.map λk=>(k.1,k.2,(ac Y u k.1).ver)) (ac Y u EPO).ver c.rs y.1
     (d,eM ((ac (r.2++Y) u d).ver+1) r.1)::(r.2++Y)) u) (a.put (some d) v) w'/\(∀ q,q≠d->q≠B0+d->q∉g.lend->W1.cs q=W0.cs q) /\
    (∀ q i,q≠d->q≠B0+d->q∉g.lend->(q,i)∉g.frz->(q,i)∉g.kill->(ac (let Y:=aF (ac I u) (g.p&&!c.fresh) c.ps xs y.2++I
     let r:=bC d (ac Y u (B0+d)).ver (g.p&&!c.fresh) g.p (g.frz.map λk=>(k.1,k.2,(ac Y u k.1).ver)) (ac Y u EPO).ver c.rs y.1
     (d,eM ((ac (r.2++Y) u d).ver+1) r.1)::(r.2++Y)) u q).ls[i]?=(u q).ls[i]?):=by
  intro W2 g1 em a4 d3 ej eb c2 c0;generalize aF (ac I u) (g.p&&!c.fresh) c.ps xs y.2++I=Y at g1 a4 c2 c0 ⊢;have cb:gG (ac Y u) d c.rs=true:=by
   unfold gG at a3 ⊢;split at a3
   ·rw[c0];exact a3
   ·exact a3
  obtain⟨W1,q1,q2⟩:=we hV g1 (q:=g.p) (ks:=g.frz.map λk=>(k.1,k.2,(ac Y u k.1).ver)) (ep:=(ac Y u EPO).ver) e6 em (λhb=>by
   refine⟨λk H=>?_,BU _,λk H=>?_⟩
   ·rcases H with H|(H|H)|⟨x,hx,H⟩
    ·exact .inl (bT (W':=W2) (by intro h;simp at h;exact h.1) (λ_ h=>h) k (em k H))
    ·exact .inl (.inl (ej hb k H))
    ·exact .inl (.inr H)
    ·exact .inr ⟨(x.1,x.2,(ac Y u x.1).ver),Cm.2 ⟨x,hx,rfl⟩,d3 hb x hx k H⟩
   ·obtain⟨x,hx,rfl⟩:=Cm.1 H;exact BU _) a4 R.2.1 cy hd d1 cb
  have e1:∀ (X:Upd) (C:bS),ac ((d,C)::(X++Y)) u=ac ((d,C)::X) (ac Y u):=λX C=>by
   rw[aO d C (X++Y),aO d C X,bA]
  simp only[e1,bA];refine⟨W1,q1,λq hq c6 c4=>(q2 q hq c6).trans (eb q c4),λq i hq c6 c4 b3 a9=>?_⟩;rw[aO,aJ hq,rq _ _ (λx hx=>by rw[ng _ _ _ _ _ _ _ _ x hx];exact CK c6)];exact c2 q i c4 b3 a9
 refine (?_:∃ W1,_/\_/\_).imp λW1 hh=>⟨hh.1,hh.2.1,hh.2.2,a0,cc⟩
 cases M:g.lend with
 |nil =>
  rw[M]at a5 a0 a1 c1;simp only[C5,List.not_mem_nil,not_false_iff,true_implies,forall_const,false_or]at a5 a0 a1;rw[M]at cp;have h5:=h1.world hV cc ef e7 d2 (λk H=>a0 k (h1.used_lt k H) (λhm=>a2 k hm H));have h6:=h5.nwGrow hV N (λk H=>a1 k (hN k H));have cu:∀ k,cd V { W0.frz u O with nw:=λk=>(W0.frz u O).nw k\/N k } (ac I u) k->cd V (W0.frz u O) (ac I u) k\/N k:=by
   rintro k ((H|H)|H|H|H)
   ·exact .inl (.inl H)
   ·exact .inr H
   ·exact .inl (.inr (.inl H))
   ·exact .inl (.inr (.inr (.inl H)))
   ·exact .inl (.inr (.inr (.inr H)))
  have ad:∀ k∈c3.flatten++ba.flatten,¬ cd V { W0.frz u O with nw:=λk=>(W0.frz u O).nw k\/N k } (ac I u) k:=λk H J=>by
   obtain⟨q1,q2⟩:=Z k H;rcases cu k J with J|J
   ·exact (a1 k q1).2 J
   ·exact q2 J
  obtain⟨W2,g1,g2,g3,g4,g5,g6,g7⟩:=qD (Γ:=Γ) hV (W0:=W0) (W:={ W0.frz u O with nw:=λk=>(W0.frz u O).nw k\/N k }) (p:=g.p&&!c.fresh) rfl hG h6 c.ps xs vs g y.2 c3 dc hg (tu c.ps xs g hg M) bn e0 hE
   (λx hx l hl ho=>(h2 x.1 x.2 l hl ho).2.2 hx) (λk H=>ad k (BJ _ H)) R.1
  rw[<- bA]at g1 g5 g6 g7;refine cp W2 g1 (λk H=>?_) (λk H J=>?_) (λhb x hx k H=>?_) (λhb k H=>?_) (λq _=>by rw[g2];rfl) (λq i _ b3 a9=>(g6 q i a9).1.trans (b5 q i b3 a9)) (λq=>(g5 q).1.trans (h3 q).1)
  ·rcases hG k H with H|H
   ·exact .inl (by rw[g4];exact H)
   ·exact .inr H
  ·rcases g7 k J with J|J
   ·exact ad k (BE _ H) J
   ·exact R.2.2 k J k H rfl
  ·rw[(g6 x.1 x.2 (nF e5 x hx)).2];exact H
  ·rw[g4];exact .inl (.inl H)
 |cons b eg =>
  have c5:eg=[]:=by
   rw[M]at b1;simp at b1;exact b1
  subst c5;have f2:c.ps.any PK.isIo=false:=es.resolve_left (by rw[M];simp);have ed:c.rs.any RK.isBv=false:=by
   rw[M]at dd;simpa using dd
  obtain⟨_,r2⟩:=o8 (Γ:=Γ) h0 (S:=ac I u) (p:=g.p&&!c.fresh) c.ps xs vs g y.2 c3 dc hg f2 bn;obtain⟨cT,yv,cs,E,b0,r3,r4,r5,r6,r7⟩:=r2 b M;rw[r6]at R Z;have hβ:(W0.frz u O).β=W0.β:=rfl;have bl:∀ k,k∈g.lend.map W0.β<->k=W0.β b:=λk=>by rw[M];simp
  have hb:live (ac I u) b:=(iA (λq=>(h3 q).1) b).2 (ex b (by rw[M];simp));have cw:∀ k,k∈(W0.β b::b0)++ba.flatten->¬ N k:=λk H=>(Z k H).2
  obtain⟨W2,g1,g2,g3,g4,g5,g6⟩:=yX hV h1 hb (N:=N) (p:=g.p&&!c.fresh) r4 r5 R.1 (by rw[h1.len b];show (W0.cs b).length=_;rw[<- h0.len b];exact r7)
   (λk J ev=>a0 k (h1.used_lt k J) (λhm=>a2 k hm J) (λhm=>ev ((bl k).1 hm))) cc ef e7 d2
   (λk H=>a1 k (hN k H) (λhm=>cw _ (BJ _ (BW ..)) (by rw[<- (bl k).1 hm];exact H)))
   (λk H=>⟨(a1 k (Z k (BJ _ (BP _ H))).1 (λhm=>by
    have:=(bl k).1 hm;subst this;exact (CF.1 R.1).1 H)).2,cw k (BJ _ (BP _ H))⟩) hG
  have e2:ac (aF (ac I u) (g.p&&!c.fresh) c.ps xs y.2++I) u=ac [(b,⟨(ac I u b).ver+2,.agg,aq (g.p&&!c.fresh) cT yv⟩)] (ac I u):=by rw[bA,r3]
  have et:∀ k∈ba.flatten,k∉g.lend.map W0.β:=λk H hm=>R.2.2 _ (BW ..) k H ((bl k).1 hm).symm
  rw[<- e2]at g1 g6;have b4:=cp W2 g1 (λk H=>?_) (λk H J=>?_) (λb2=>by rw[ed]at b2;cases b2) (λb2=>by rw[ed]at b2;cases b2) (λq hq=>?_) (λq i hq b3 a9=>?_) (λq=>?_)
  ·rw[M]at b4;exact b4
  ·rcases hG k H with H|H
   ·exact .inl ((g3 k).2 H)
   ·exact .inr H
  ·rcases g6 k J with J|J|J
   ·exact (a1 k (Z k (BE _ H)).1 (et k H)).2 J
   ·exact cw k (BE _ H) J
   ·exact R.2.2 k (BP _ J) k H rfl
  ·rw[M]at hq;rw[g4 q (by simpa using hq)];rfl
  ·rw[M]at hq;rw[e2,aJ (by simpa using hq)];exact b5 q i b3 a9
  ·rw[e2];rcases am b q ⟨(ac I u b).ver+2,.agg,aq (g.p&&!c.fresh) cT yv⟩ (ac I u) with ⟨rfl,e3⟩|⟨_,e3⟩
   ·rw[e3];have:=hb.2;rw[(h3 q).1]at this;exact this.symm
   ·rw[e3];exact (h3 q).1
end
section
variable {P:Program} {V:Env} {Γ:List Ctr} {T:TypeId->TI} {st:St} {o:Oper} {R:Type} {κ:Upd->Option R} {r:R}
theorem yZ {ls:List Leaf}{j:Nat}{p:Bool}{y:Option (Nat×Nat)}{E:TypeId}{e:Ty}{xs:List e.den}(h:ls.getD j .dead=.own p y E e xs):ls[j]?=some (.own p y E e xs):=by
 rw[B9]at h;cases u:ls[j]? with
 |none=>rw[u]at h;simp at h
 |some z=>rw[u]at h;simp at h;rw[h]
theorem Ap (hV:ax V){b:Option (Bool×Nat×Nat)}{U:Upd}(h:jM st b U κ=some r) :
  ∃ U',κ U'=some r/\∀ I a w,ap P V I (ac U st) a w->(∀ q j,b=some (true,q,j)->∃ v,I.cs TMP=[v]/\tp I (ac U st) w q j v)->Rel P V (ac U' st) a w:=by
 unfold jM at h;split at h
 ·rename_i q j;split at h
  ·rename_i p i off E' e' xs q' E e ys hq b9;obtain⟨y,hy,h⟩:=By.1 h;obtain⟨_,_,hy⟩:=gi hy;simp only[C6]at hy;split at h
   ·rename_i z hz;refine⟨_,h,λI a w hr hb=>?_⟩;obtain⟨v,bx,a3,c1,i0,bn,p0,E0,e0,c0,g,cb,g1,g2,g3,g4⟩:=hb q j rfl;have hq:=yZ hq;rw[hq]at g1;obtain⟨rfl,b5,rfl,h4⟩:p=p0/\some (i,off)=some (i0,bn)/\E'=E0/\(⟨e',xs⟩:(e:Ty)×List e.den)=⟨e0,c0⟩:=by
     simp only[BA,Leaf.own.injEq]at g1;obtain⟨q1,q2,q3,q4,q5⟩:=g1;subst q4;rw[heq_eq_eq]at q5;subst q5;exact⟨q1,by simpa using q2,q3,rfl⟩
    simp only[BA,B7]at b5;obtain⟨rfl,rfl⟩:=b5;simp only[Sigma.mk.injEq]at h4;obtain⟨rfl,h4⟩:=h4;rw[heq_eq_eq]at h4;subst h4;generalize hS:ac U st=S at hr hq g1 g2 g3 b9 ⊢;have ad:(S TMP).ls[0]?=some (.own q' none E e ys):=by rw[b9];rfl
    have bl:(I.cs TMP)[0]?=some v:=by rw[bx];rfl
    have b1:=hr.leaf q j _ _ hq g2;have b2:=hr.leaf TMP 0 _ _ ad bl;have b1:OwH w (gd V I p) (some (i,off)) E' e' xs _ (I.bs q j):=b1;have b2:Ow w (gd V I q') E e ys v (I.bs TMP 0):=b2;have bb:=b1.carry (G':=gd V I (p||q')) (bT (W':=I) (by intro h;simp[h]) (λ_ h=>h)) (λ_ _=>rfl) (λ_ _=>rfl);have ba:=OwH.carry (G':=gd V I (p||q')) b2 (bT (W':=I) (by intro h;simp[h]) (λ_ h=>h)) (λ_ _=>rfl) (λ_ _=>rfl);have c3:∀ k∈I.bs TMP 0,k∉I.bs q j:=λk M a0=>a3 (hr.sep TMP 0 _ q j _ ad trivial hq trivial k M a0).1.symm
    obtain⟨b3,c2,c4⟩:=bb.back ba c3 hy hz (λg' c6 e1=>by
     simp only[B3,BA,Cd,and_true]at e1;rw[<- e1.1];exact g4)
    have c5:∀ k∈b3,k∈I.bs q j\/k∈I.bs TMP 0:=λk M=>by
     have h5:=c4 k;have h6:=BK.2 M;by_cases h7:k∈I.bs q j
     ·exact .inl h7
     ·have:=BZ.2 h7;exact .inr (BK.1 (by omega))
    obtain⟨h1,cc⟩:=hr.putGhost hV TMP iU.1 iU.2.1 ((S TMP).ver+1) .off [] [] (λ_=>[]) (BM _) rfl (by simp) (λj l u hj=>by simp at hj) (λj l hj=>by simp at hj) (λj j' l l' hj=>by simp at hj);have a6:∀ x,x≠TMP->ac [(TMP,⟨(S TMP).ver+1,.off,[]⟩)] S x=S x:=λx hx=>aJ hx _ _
    have a9:(ac [(TMP,⟨(S TMP).ver+1,.off,[]⟩)] S) q=S q:=a6 q a3;have H:∀ (X:Nat) (l':Leaf),X≠j->(aS (S q).ls j (.own (p||q') none E' e' (xs.set i z)))[X]?=some l'->(S q).ls[X]?=some l':=by
     intro X l' a4 a1;rcases aR _ _ _ _ _ a1 with ⟨rfl,_,_⟩|⟨_,a1⟩
     ·exact absurd rfl a4
     ·exact a1
    have b4:∀ (l':Leaf),(aS (S q).ls j (.own (p||q') none E' e' (xs.set i z)))[j]?=some l'->l'=.own (p||q') none E' e' (xs.set i z):=by
     intro l' a1;rcases aR _ _ _ _ _ a1 with ⟨_,rfl,_⟩|⟨a4,_⟩
     ·rfl
     ·exact absurd rfl a4
    have a5:∀ b,live (ac [(TMP,⟨(S TMP).ver+1,.off,[]⟩)] S) b->live S b:=λb hb=>by
     have:b≠TMP:=by have:=hb.1;have:=iU.2.1;omega
     exact⟨hb.1,by rw[<- a6 b this];exact hb.2⟩
    have b0:∀ k∈b3,¬ I.nw k/\¬ V.prot k/\(∀ b,live S b->I.β b≠k)/\∀ (Y i1:Nat) (l1:Leaf),(S Y).ls[i1]?=some l1->ao l1->(Y,i1)≠(q,j)->Y≠TMP->k∉I.bs Y i1:=λk M=>by
     rcases c5 k M with M|M
     ·have h9:=hr.ownb q j _ hq trivial k M;exact⟨h9.1,h9.2.1,h9.2.2,λY i1 l1 g5 Z g7 _ g8=>g7 (by obtain⟨e1,e2⟩:=hr.sep Y i1 l1 q j _ g5 Z hq trivial k g8 M;rw[e1,e2])⟩
     ·have h9:=hr.ownb TMP 0 _ ad trivial k M;exact⟨h9.1,h9.2.1,h9.2.2,λY i1 l1 g5 Z _ g7 g8=>g7 (hr.sep Y i1 l1 TMP 0 _ g5 Z ad trivial k g8 M).1⟩
    have h2:=(h1.reownE hV q ⟨(S q).ver,(S q).sh,aS (S q).ls j (.own (p||q') none E' e' (xs.set i z))⟩ (λX=>if X=j then b3 else I.bs q X) c1 (by rw[a9];exact BU _) (by rw[a9]) (by rw[a9];simp[aS])
     (λX l' u g5 Z=>by
      have Z:(if q=TMP then [] else I.cs q)[X]?=some u:=Z;rw[if_neg a3]at Z;by_cases J:X=j
      ·subst J;obtain rfl:=b4 l' g5;rw[g2]at Z;simp only[BA]at Z;subst Z;simp only[if_true];exact c2
      ·simp only[if_neg J];have:=h1.leaf q X l' u (by rw[a9];exact H X l' J g5) (by show (if q=TMP then [] else I.cs q)[X]?=_;rw[if_neg a3];exact Z);have e0:(if q=TMP then ([]:List Nat) else I.bs q X)=I.bs q X:=if_neg a3;simp only[e0]at this;exact this)
     (λX l' g5 Z k M=>by
      by_cases J:X=j
      ·subst J;simp only[if_true]at M;obtain⟨q1,q2,q3,q4⟩:=b0 k M;refine⟨q1,q2,λb hb=>q3 b (a5 b hb),λY j1 l1 a4 g7 g8 g9=>?_⟩;by_cases a2:Y=TMP
       ·subst a2;rw[bh]at g7;simp at g7
       ·rw[a6 Y a2]at g7;have g9:k∈(if Y=TMP then [] else I.bs Y j1):=g9;rw[if_neg a2]at g9;exact q4 Y j1 l1 g7 g8 (λe=>a4 (by cases e;rfl)) a2 g9
      ·simp only[if_neg J]at M;have a1:=H X l' J g5;have h9:=hr.ownb q X l' a1 Z k M;refine⟨h9.1,h9.2.1,λb hb=>h9.2.2 b (a5 b hb),λY j1 l1 a4 g7 g8 g9=>?_⟩;by_cases a2:Y=TMP
       ·subst a2;rw[bh]at g7;simp at g7
       ·rw[a6 Y a2]at g7;have g9:k∈(if Y=TMP then [] else I.bs Y j1):=g9;rw[if_neg a2]at g9;exact a4 (hr.sep q X l' Y j1 l1 a1 Z g7 g8 k M g9).1.symm)
     (λi1 i2 l1 l2 g5 Z g7 g8 k M a0=>by
      by_cases J:i1=j <;> by_cases O:i2=j
      ·omega
      ·subst J;simp only[if_true]at M;simp only[if_neg O]at a0;exact absurd a0 ((b0 k M).2.2.2 q i2 l2 (H i2 l2 O g7) g8 (λe=>O (by cases e;rfl)) a3)
      ·subst O;simp only[if_true]at a0;simp only[if_neg J]at M;exact absurd M ((b0 k a0).2.2.2 q i1 l1 (H i1 l1 J g5) Z (λe=>J (by cases e;rfl)) a3)
      ·simp only[if_neg J]at M;simp only[if_neg O]at a0;exact (hr.sep q i1 l1 q i2 l2 (H i1 l1 J g5) Z (H i2 l2 O g7) g8 k M a0).2)).1
    show ∃ W,ap P V W _ a w;have e1:ac ((q,⟨(S q).ver,(S q).sh,aS (S q).ls j (.own (p||q') none E' e' (xs.set i z))⟩)::(TMP,⟨(S TMP).ver+1,.off,[]⟩)::(EPO,bU (S EPO))::U) st =
      ac [(q,⟨(S q).ver,(S q).sh,aS (S q).ls j (.own (p||q') none E' e' (xs.set i z))⟩),(EPO,bU (ac [(TMP,⟨(S TMP).ver+1,.off,[]⟩)] S EPO))] (ac [(TMP,⟨(S TMP).ver+1,.off,[]⟩)] S):=by
     rw[a6 EPO (CK iU.2.2),aO q,aO TMP,aO EPO,hS,aO q _ [(EPO,bU (S EPO))],mW iU.2.2]
    rw[e1];exact⟨_,h2⟩
   ·cases h
  ·cases h
 ·exact⟨_,h,λI a w hr _=>⟨I,hr⟩⟩
theorem uY (hV:ax V)(hΓ:∀ c∈Γ,bO P c){d:Nat}(hd:d<V.nt)(cu:∀ x∈V.fixt,x.1≠d){f:FuncId}{xs:List (aI×List Leaf)}(h:jl Γ st d f xs κ=some r) :
  fO P f/\∃ U,κ U=some r/\∀ W a w,ap P V W st a w->∀ vs,gT P V W st w xs vs->Calls P f vs.toArray w (λe w'=>∃ v,e=.returned v/\Rel P V (ac U st) (a.put (some d) v) w'):=by
 unfold jl at h;split at h
 ·rename_i c hc;obtain⟨d2,rfl⟩:=ne hc;obtain⟨e5,ad⟩:=hΓ c d2;refine⟨e5,?_⟩;rw[gB]at h;obtain⟨⟨U0,ys,b⟩,c2,h⟩:=By.1 h;simp only at h;split at h
  ·rename_i g hg;cases M:aY g.kill&&dC g.frz g.kill&&gG st d c.rs&&!(g.see.any λq=>g.lend.any (BT q))&&Ci g.lend.length 1&&(g.lend.isEmpty||!(c.ps.any PK.isIo))&&((c.fresh&&g.lend.isEmpty)||!(c.rs.any RK.isBv))&&(g.kill.all λk=>!BT k.1 EPO)&&oJ b g.frz g.kill d with
   |false=>rw[M]at h;cases h
   |true =>
    rw[M]at h;simp only[cond_true]at h;simp only[BC]at M;obtain⟨⟨⟨⟨⟨⟨⟨⟨ba,d1⟩,I⟩,b5⟩,J⟩,cw⟩,es⟩,hE⟩,e7⟩:=M;obtain⟨y,hy,h⟩:=By.1 h;obtain⟨U',f7,c1⟩:=Ap (P:=P) (V:=V) hV h;refine⟨U',f7,λW a w hr vs en=>?_⟩;obtain⟨W0,Z,c4,fi,hβ0,eb,e6,bn,cy⟩:=ov hV hr c.ps xs vs U0 ys b en c2;generalize b3:ac U0 st=S0 at Z c4 eb e6 bn hg;obtain⟨⟨b1,c0,a2⟩,hf,hk,a1⟩:=kp (ut hV hΓ Z) c.ps ys vs g c4 hg;have hE:∀ z∈g.kill,z.1≠EPO:=λz hz e0=>by
     have:=List.all_eq_true.1 hE z hz;rw[e0]at this;simp at this
    have J:g.lend.length<=1:=CH J;have b9:g.lend=[]\/c.ps.any PK.isIo=false:=by
     simp only[DQ,DE,BY]at cw;exact cw
    have c5:∀ k,k∈b1.flatten<->k∈g.lend.map W0.β\/k∈aW W0 g.kill:=λk=>by
     rw[<- BK,<- BK,<- BK,a2 k];omega
    have a5:∀ k,jI V W0 S0 g.frz g.see k->k<w.heap.size/\k∉b1.flatten:=by
     intro k H;refine⟨Z.used_lt k (rl hf k H),λY=>?_⟩;rcases (c5 k).1 Y with Y|Y
     ·obtain⟨b',X,rfl⟩:=Cm.1 Y;have cp:=Z.box b' (a1 b' X);rcases H with H|H|⟨b2,e3,a3,e2⟩|⟨z,hz,H⟩
      ·exact cp.1 H
      ·exact cp.2 H
      ·have:=Z.inj b2 b' a3 (a1 b' X) e2;subst this;simp only[BY,Bz]at b5;have:=b5 b2 e3;rw[Bool.not_eq_true,Bz]at this;have:=this b2 X;simp at this
      ·obtain⟨l,hl,ho⟩:=hf z hz;exact (Z.ownb z.1 z.2 l hl ho _ H).2.2 b' (a1 b' X) rfl
     ·obtain⟨z,hz,O⟩:=gh.1 Y;obtain⟨l,hl,ho⟩:=hk z hz;have a4:=Z.ownb z.1 z.2 l hl ho k O;rcases H with H|H|⟨b2,e3,a3,e2⟩|⟨z',dc,H⟩
      ·exact a4.1 H
      ·exact a4.2.1 H
      ·exact a4.2.2 b2 a3 e2
      ·obtain⟨l',ex,f0⟩:=hf z' dc;obtain⟨e1,e2⟩:=Z.sep z.1 z.2 l z'.1 z'.2 l' hl ho ex f0 k O H;exact nF d1 z' dc (by rw[show z'=z from DZ e1.symm e2.symm];exact hz)
    have ef:b1.flatten.Nodup:=br.2 λk=>by
     rw[a2 k];have h5:=br.1 (gP Z ba hk) k;have h6:(g.lend.map W0.β).count k<=1:=by
      exact CC List.count_le_length (by rw[CW];exact J)
     by_cases h7:k∈g.lend.map W0.β
     ·have:(aW W0 g.kill).count k=0:=BZ.2 λY=>by
       obtain⟨b',X,e0⟩:=Cm.1 h7;obtain⟨z,hz,O⟩:=gh.1 Y;obtain⟨l,hl,ho⟩:=hk z hz;exact (Z.ownb z.1 z.2 l hl ho k O).2.2 b' (a1 b' X) e0
      omega
     ·have:(g.lend.map W0.β).count k=0:=BZ.2 h7;omega
    have a6:=ad w (bj V W0 g.p g.frz) g.val vs b1 y (c0.mono (λ_ h=>h) a5) (λk H=>a5 k (ml hV k H)) ef hy;have c6:gG S0 d c.rs=true:=by
     unfold gG at I ⊢;split at I
     ·rcases bn (B0+d) with e0|e0
      ·rw[e0];exact I
      ·exact absurd e0 (by have:=iU.2.1;omega)
     ·exact I
    refine a6.mono λe w' cb=>?_
    obtain⟨v,rfl,W1,a0,b4,ed,bx,_⟩:=yY (Γ:=Γ) hV Z c4 hg hf hk a1 ba d1 hE J b9 a2 hd cu c6 es cb;refine⟨v,rfl,?_⟩;refine c1 W1 _ w' ?_ ?_
    ·have e1:=bA (mm S0 c d ys g y) U0 st;rw[b3]at e1;rw[<- e1]at a0;subst b3;unfold mm at a0;simp only[bA,BQ,DI]at a0 ⊢;exact a0
    ·intro q j hb;subst hb;obtain⟨u,eg,ev,f2,i,off,p,E,e,f3,gg,f4,q1,q2,q3,q4⟩:=eb;have cc:=cy true q j rfl rfl;have b0:g.lend=[]:=b9.resolve_right (by rw[cc];simp);simp only[oJ,BC,BY]at e7;obtain⟨⟨⟨e4,d3⟩,bl⟩,bb⟩:=e7;have cx:q≠d:=λe0=>by rw[e0]at bl;simp at bl
     have dd:q≠B0+d:=λe0=>by rw[e0]at bb;simp at bb
     have ec:(q,j)∉g.kill:=λY=>by
      have:=Bz.1 e4 _ Y;simp[iu]at this
     have f1:(q,j)∉g.frz:=λY=>by
      have:=Bz.1 d3 _ Y;simp[iu]at this
     have em:TMP≠d:=by have:=hV.nt;have:=iU.1;omega
     have ej:TMP≠B0+d:=by have:=iU.2.1;omega
     have hL:=ed q j cx dd (by rw[b0];simp) f1 ec;rw[q1]at hL;have hC:=b4 q cx dd (by rw[b0];simp);have e1:=bA (mm S0 c d ys g y) U0 st;rw[b3]at e1;have f5:gg<w.heap.size:=Z.own_lt q1 trivial gg q3;have f6:gg∉aW W0 g.kill:=λY=>by
      obtain⟨z,hz,O⟩:=gh.1 Y;obtain⟨l,hl,ho⟩:=hk z hz;obtain⟨e1,e2⟩:=Z.sep z.1 z.2 l q j _ hl ho q1 trivial gg O q3;exact ec (by rw[show (q,j)=z from DZ e1.symm e2.symm];exact hz)
     have c3:w'.cell? ⟨gg,i*e.cells+off,none⟩=some u:=by
      rw[kw (bx gg f5 f6 (by rw[b0];simp))];exact q4
     have f8:gg∈W1.bs q j:=by
      have h9:=a0.leaf q j _ _ hL (by rw[hC];exact q2);obtain⟨_,fd,fc,_,et,_⟩:=h9;rw[et];simp[Bw]
     refine⟨u,by rw[b4 TMP em ej (by rw[b0];simp)];exact eg,ev,f2,i,off,p,E,e,f3,gg,f4,?_,by rw[hC];exact q2,f8,c3⟩;have a9:=hL;rw[<- e1]at a9;subst b3;unfold mm at a9;simp only[bA,BQ,DI]at a9 ⊢;exact a9
  ·cases h
 ·cases h
end
section
variable {P:Program} {V:Env} {Γ:List Ctr} {T:TypeId->TI} {st:St} {o:Oper} {R:Type} {κ:Upd->Option R} {r:R}
theorem nT {W:Wit}{a:Act}{w:World}(h:ap P V W st a w):∀ (l:List Operand),gT P V W st w (l.map (au st)) (l.map a.eval)
 |[]=>rfl
 |x::l=>by
  obtain⟨y,u,z⟩:=cS h x;exact⟨a.eval x,l.map a.eval,y,rfl,u,z,nT h l⟩
theorem nh {W:Wit}{w:World}:∀ {xs z:List (aI×List Leaf)} {y us:List Value},gT P V W st w xs y->gT P V W st w z us->gT P V W st w (xs++z) (y++us)
 |[],_,_,_,I,u=>by rw[show _=_ from I];exact u
 |x::xs,_,_,_,⟨v,H,X,e,O,M,J⟩,u=>by
  subst e;exact⟨v,_,X,rfl,O,M,nh J u⟩
theorem qE {a:Act}{w:World}{c:Call}{x:Operand}{f:FuncId}{caps:Array Value}(z:o.op=.call c)(M:c.callee=.value x)(I:a.eval x=.func (.func f) #[] caps)(J:fO P f){next:Act->World->Prop}{Q:Exit->Act->World->Prop}
  (u:Calls P f (c.args.map a.eval++caps) w (λe H=>∃ v,e=.returned v/\next (a.put o.dst v) H)):o.wp P a w next Q:=by
 unfold Oper.wp;have y:(execOp a.eval o).run P w=.ok (.enter f (c.args.map a.eval++caps)) w:=by
  have:=J (c.args.map a.eval++caps) w;simp[execOp,z,resolve,M,I,Deferred.ofValue,invoke,this]
 rw[y,Oper.upon_enter];refine u.mono λe H=>?_
 rintro⟨v,rfl,hn⟩;exact hn
theorem k7 {p:Bool}:∀ {b:Ty} {x:b.den},b.flat=true->aq p b x=cI p b x
 |.int _,_,_=>rfl
 |.bool,_,_=>rfl
 |.str,_,_=>rfl
 |.unit,_,_=>rfl
 |.hdr,_,_=>rfl
 |.pair a b,x,h=>by
  simp only[Ty.flat,BC]at h;simp only[aq,cI,k7 h.1,k7 h.2]
 |.list _ _ _,_,h=>by simp[Ty.flat]at h
theorem rr (hV:ax V){W:Wit}{a:Act}{w:World}(h:ap P V W st a w):∀ (J:List Ty) (xs:List (aI×List Leaf)) (X:List Value) (x:Tup J),gT P V W st w xs X->iL st J xs=some x ->
  rV w (λk=>k<w.heap.size) J x X
 |[],[],X,_,hx,_=>hx
 |[],_::_,_,_,_,u=>by simp[iL]at u
 |_::_,[],_,_,_,u=>by simp[iL]at u
 |b::J,x::xs,X,z,⟨v,M,cs,e,hs,Z,I⟩,u=>by
  subst e;simp only[iL]at u;cases O:decide (x.1=bf b.isAgg) with
  |false=>simp[O]at u
  |true =>
   simp only[O,cond_true]at u;have O:=of_decide_eq_true O;rw[O]at hs;split at u
   ·rename_i p y hy;simp only[BB]at u;obtain⟨t,ht,rfl⟩:=u;have Y:=ey h Z hy;refine⟨v,cs,M,rfl,gA hs,Y.mono (λk H=>?_),rr hV h J xs M t I ht⟩;rcases H with (H|⟨_,H⟩)|⟨z,hz,H⟩
    ·exact (h.nwlt k H).1
    ·exact CE (hV.ro k H).1 h.size
    ·obtain⟨l,h1,h2⟩:=ei Z hz;exact h.own_lt h1 h2 k H
   ·cases u
theorem xO (hV:ax V)(hΓ:∀ c∈Γ,bO P c)(J:bL V o){c:Call}{f:Operand}(Y:o.op=.call c)(hc:c.callee=.value f)
  (h:act Γ T o st κ=some r):bV P V o st κ r:=by
 simp only[act,wrU,Y,hc]at h;split at h
 ·cases h
 ·rename_i d X;split at h
  ·rename_i g H Z;obtain⟨he,U,hU,z⟩:=uY hV hΓ (J d X).1 (J d X).2 h;refine⟨U,hU,λW a w I next Q hn=>?_⟩;obtain⟨M,_,_,_,_⟩:=bq I f (by rw[Z];simp);rw[Z]at M;have O:=nh (nT I c.args.toList) (sa (p7 (P:=P) (V:=V) (W:=W) (w:=w) H M.2));rw[DA]at O;have:=z W a w I _ O;have e:(c.args.toList.map a.eval++H.map λb=>Value.pointer (some ⟨W.β b,0,none⟩)).toArray=c.args.map a.eval++(H.map λb=>Value.pointer (some ⟨W.β b,0,none⟩)).toArray:=by
    apply DV;simp
   rw[e]at this;refine qE Y hc M.1 he (this.mono λe w'=>?_);rintro⟨v,rfl,hrel⟩;refine⟨v,rfl,hn _ _ ?_⟩;rw[X];exact hrel
  ·rename_i g H Z;obtain⟨he,U,hU,z⟩:=uY hV hΓ (J d X).1 (J d X).2 h;refine⟨U,hU,λW a w I next Q hn=>?_⟩;obtain⟨M,_,_,_,_⟩:=bq I f (by rw[Z];simp);rw[Z]at M;obtain⟨us,M,a3,a0⟩:=M;have O:=nh (nT I c.args.toList) (sa (qC (st:=st) a3 a0));rw[DA]at O;have:=z W a w I _ O;have e:(c.args.toList.map a.eval++us).toArray=c.args.map a.eval++us.toArray:=by
    apply DV;simp
   rw[e]at this;refine qE Y hc M he (this.mono λe w'=>?_);rintro⟨v,rfl,hrel⟩;refine⟨v,rfl,hn _ _ ?_⟩;rw[X];exact hrel
  ·rename_i As B φ Z;cases hb:B.flat with
   |false=>simp[hb]at h
   |true =>
    simp only[hb,cond_true]at h;split at h
    ·rename_i x hx;obtain⟨y,hy,h⟩:=By.1 h;simp only[X]at h;refine⟨_,h,λW a w I next Q hn=>?_⟩;obtain⟨M,_,_,_,_⟩:=bq I f (by rw[Z];simp);rw[Z]at M;obtain⟨f',H,M,he,z⟩:=M;have a1:=rr hV I As _ _ x (nT I c.args.toList) hx;have:=z w I.size I.keep x _ y a1 hy;have e:(c.args.toList.map a.eval).toArray=c.args.map a.eval:=by apply DV;simp
     rw[e]at this;refine qE Y hc M he (this.mono λe w'=>?_);rintro⟨u,cs,rfl,hvo,hrd,hbelow⟩;refine⟨u,rfl,hn _ _ ?_⟩;rw[X];have a4:=I.below hV hbelow;have a2:=eT (P:=P) (V:=V) (W:=W) (st:=st) (G:=λ_=>False) (p:=false) (λ_ h=>h.elim) hrd;rw[<- k7 hb]at a2;exact a4.putLs hV d (J d X).1 (J d X).2 _ _ _ u cs (BM _) (j0 hvo) a2
    ·cases h
  ·cases h
theorem Bi (H:ax V)(I:TOk P T)(hΓ:∀ c∈Γ,bO P c)(z:bL V o)(h:act Γ T o st κ=some r):bV P V o st κ r:=by
 cases u:o.op with
 |move x=>exact x4 H z u h
 |assign x=>exact vm H z u h
 |pick c x y=>exact x5 H z u h
 |alloc t=>exact xH H I z u h
 |box t x=>exact Al H z u h
 |build t J=>exact wL H I z u h
 |buildSlice t n J=>exact qA H I z u h
 |load t x=>exact x7 H I z u h
 |store t x y=>exact xJ H I u h
 |nilCheck x=>exact sr H z u h
 |binOp X t x y Y=>exact wH H I z u h
 |unOp X t x=>exact x6 H z u h
 |convert s t x=>exact uq H I z u h
 |makeSlice t n c=>exact rQ H I z u h
 |slice t x lo hi Z=>exact xM H I z u h
 |fieldAddr t x f=>exact rN H I z u h
 |field t x f=>exact wK H I z u h
 |indexAddr t x i=>exact rO H I z u h
 |index t x i=>exact wJ H I z u h
 |extract x i=>exact tT H z u h
 |makeFunc fn first O=>exact su H z u h
 |call c =>
  cases M:c.callee with
  |value f=>exact xO H hΓ z u M h
  |builtin b =>
   cases b with
   |len=>exact zC H I z u M h
   |append=>exact vZ H I z u M h
   |min=>exact Am H z u M h
   |max=>exact An H z u M h
   |_ =>
    simp only[act,wrU,u,M]at h;split at h <;> cases h
  |_ =>
   simp only[act,wrU,u,M]at h;split at h <;> cases h
 |_=>simp[act,wrU,u]at h
end
def cC:Ty->Ty->Bool
 |.pair a b,z=>match z with
  |.pair c d=>cC a c&&cC b d
  |_=>false
 |.list m E e,z=>match z with
  |.list n u r=>decide (E=u)&&(bif n then m&&cC e r else decide (e.sh=r.sh))
  |_=>false
 |a,z=>decide (a=z)
theorem fQ:∀ {a b:Ty},cC a b=true->a.sh=b.sh
 |.pair a b,z,h=>by
  cases z with
  |pair c d =>
   simp only[cC,BC]at h;simp only[Ty.sh,fQ h.1,fQ h.2]
  |_=>simp[cC]at h
 |.list m E e,z,h=>by
  cases z with
  |list n u r =>
   simp only[cC,BC,decide_eq_true_eq]at h;obtain⟨rfl,h⟩:=h;cases n with
   |true =>
    simp only[cond_true,BC]at h;simp only[Ty.sh,fQ h.2]
   |false =>
    simp only[cond_false,decide_eq_true_eq]at h;simp only[Ty.sh,h]
  |_=>simp[cC]at h
 |.int _,z,h=>by simp only[cC,decide_eq_true_eq]at h;rw[h]
 |.bool,z,h=>by simp only[cC,decide_eq_true_eq]at h;rw[h]
 |.str,z,h=>by simp only[cC,decide_eq_true_eq]at h;rw[h]
 |.unit,z,h=>by simp only[cC,decide_eq_true_eq]at h;rw[h]
 |.hdr,z,h=>by simp only[cC,decide_eq_true_eq]at h;rw[h]
theorem za {a b:Ty}(h:cC a b=true):a.isAgg=b.isAgg:=by
 cases a with
 |pair c d=>cases b <;> first|rfl|(simp[cC]at h)
 |list m E e=>cases b <;> first|rfl|(simp[cC]at h)
 |_=>simp only[cC,decide_eq_true_eq]at h;rw[h]
theorem ox {f g h:Nat->List Nat}{k:Nat}:∀ {l:List Nat},(∀ j∈l,(f j).count k=(g j).count k+(h j).count k)->(l.flatMap f).count k=(l.flatMap g).count k+(l.flatMap h).count k
 |[],_=>rfl
 |a::l,H=>by
  have u:=H a (BW ..);have y:=ox (l:=l) (λj r=>H j (BP _ r));simp only[CI,BF];omega
theorem Mx.thin {w:World}{G:Nat->Prop}:∀ {a b:Ty} {pos:Nat} {x:a.den} {y:b.den} {cs:List Value} {bs:List Nat},cC a b=true->HEq x y->Mx w G a none pos x cs bs ->
  ∃ b1 b2:List Nat,(∀ k,bs.count k=b1.count k+b2.count k)/\Mx w (λk=>G k\/k∈b2) b none pos y cs b1
 |.pair a b,z,pos,x,y,cs,bs,h,r,H=>by
  cases z with
  |pair c d =>
   simp only[cC,BC]at h;obtain⟨c1,c2,ba,bb,rfl,rfl,h1,h2⟩:=H;obtain⟨h3,h4⟩:=si (jr (fQ h.1)) (jr (fQ h.2)) r;obtain⟨p1,p2,X,R⟩:=Mx.thin h.1 h3 h1;obtain⟨r1,r2,s1,s2⟩:=Mx.thin h.2 h4 h2;refine⟨p1++r1,p2++r2,λk=>?_,c1,c2,p1,r1,rfl,rfl,R.mono (λk M=>M.imp id (BJ _)),?_⟩
   ·have:=X k;have:=s1 k;simp only[BF];omega
   ·have:=s2.mono (G':=λk=>G k\/k∈p2++r2) (λk M=>M.imp id (BE _))
    rwa [ib (fQ h.1)]at this
  |_=>simp[cC]at h
 |.list m E e,z,pos,xs,Y,cs,bs,h,r,H=>by
  have a1:=fQ h;cases z with
  |list n E' e' =>
   simp only[cC,BC,decide_eq_true_eq]at h;obtain⟨rfl,h⟩:=h;cases n with
   |true =>
    simp only[cond_true,BC]at h;obtain⟨rfl,h⟩:=h;rw[bH (by simp)]at H;obtain⟨v,rfl,I,a0,h1,h2,h3⟩:=H;obtain⟨h4,h5⟩:=sj (jr (fQ h)) r;have a2:∀ j,∃ q:List Nat×List Nat,j<Y.length->(∀ k,(a0 j).count k=q.1.count k+q.2.count k) /\
      ∀ y,Y[j]?=some y->∃ c,Mx w (λk=>G k\/k∈q.2) e' none 0 y c q.1/\∀ i u,c[i]?=some u->I[j*e'.cells+i]?=some u:=by
     intro j;by_cases J:j<Y.length
     ·have Z:=BS J;obtain⟨x,hx,r⟩:=h5 j _ Z;obtain⟨c,hm,hc⟩:=h3 j x hx;obtain⟨b1,b2,X,R⟩:=Mx.thin h r hm;refine⟨(b1,b2),λ_=>⟨X,λy O=>⟨c,?_,λi u hi=>?_⟩⟩⟩
      ·rw[Z]at O;simp only[BA]at O;subst O;exact R
      ·rw[<- ib (fQ h)];exact hc i u hi
     ·exact⟨([],[]),λh=>absurd h J⟩
    obtain⟨f,hf⟩:=Classical.skolem.1 a2;refine⟨v.ownBlock.toList++(BO Y.length).flatMap (λj=>(f j).1),(BO Y.length).flatMap (λj=>(f j).2),λk=>?_,?_⟩
    ·rw[h2,BF,BF,h4,ox (g:=λj=>(f j).1) (h:=λj=>(f j).2) (λj J=>(hf j (Ct.1 J)).1 k)];omega
    ·rw[bH (by simp)];refine⟨v,rfl,I,λj=>(f j).1,by rw[<- h4,<- ib (fQ h)];exact h1,rfl,λj y O=>?_⟩;have J:=(BD.1 O).1;obtain⟨c,X,R⟩:=(hf j J).2 y O;exact⟨c,X.mono (λk M=>M.imp id (λM=>dU.2 ⟨j,J,M⟩)),R⟩
   |false =>
    refine⟨[],bs,λk=>by simp,?_⟩;rw[cn];exact⟨rfl,Rd.flags a1 r (Mx.rd (S:=λk=>G k\/k∈bs) (λ_=>.inl) (λ_=>.inr) H)⟩
  |_=>simp[cC]at h
 |.int _,z,pos,x,y,cs,bs,h,r,H=>by
  simp only[cC,decide_eq_true_eq]at h;subst h;cases r;exact⟨bs,[],λk=>by simp,H.mono (λ_=>.inl)⟩
 |.bool,z,pos,x,y,cs,bs,h,r,H=>by
  simp only[cC,decide_eq_true_eq]at h;subst h;cases r;exact⟨bs,[],λk=>by simp,H.mono (λ_=>.inl)⟩
 |.str,z,pos,x,y,cs,bs,h,r,H=>by
  simp only[cC,decide_eq_true_eq]at h;subst h;cases r;exact⟨bs,[],λk=>by simp,H.mono (λ_=>.inl)⟩
 |.unit,z,pos,x,y,cs,bs,h,r,H=>by
  simp only[cC,decide_eq_true_eq]at h;subst h;cases r;exact⟨bs,[],λk=>by simp,H.mono (λ_=>.inl)⟩
 |.hdr,z,pos,x,y,cs,bs,h,r,H=>by
  simp only[cC,decide_eq_true_eq]at h;subst h;cases r;exact⟨bs,[],λk=>by simp,H.mono (λ_=>.inl)⟩
theorem jo.mono {w:World}{G G':Nat->Prop}(z:∀ k,G k->G' k){a:Ty}{x:a.den}{ptr:Bool}{v:Value}{bs:List Nat}(h:jo w G a x ptr v bs):jo w G' a x ptr v bs:=by
 unfold jo at h ⊢;split at h
 ·rename_i r;rw[if_pos r];obtain⟨g,c,E,H,u,y,J,I⟩:=h;exact⟨g,c,E,H,u,y,J.mono z,I⟩
 ·rename_i r;rw[if_neg r];obtain⟨M,u,y⟩:=h;exact⟨M,u,y.mono z⟩
theorem bJ.mono {w:World}{G G':Nat->Prop}(y:∀ k,G k->G' k):∀ {ps:List PK} {o:ah ps} {z:List Value} {bs:List (List Nat)},bJ w G ps o z bs->bJ w G' ps o z bs
 |.io _::_,_,_::_,_::_,⟨r,u⟩=>⟨r.mono y,bJ.mono y u⟩
 |.iop _::_,_,_::_,_::_,⟨r,u⟩=>⟨r.mono y,bJ.mono y u⟩
 |.rd _::_,_,_::_,_::_,⟨r,u⟩=>⟨r,bJ.mono y u⟩
 |.own _::_,_,_::_,_::_,⟨r,u⟩=>⟨r,bJ.mono y u⟩
 |.rref _::_,_,_::_,_::_,⟨r,u⟩=>⟨r,bJ.mono y u⟩
 |.rref2 _::_,_,_::_,_::_,⟨r,u⟩=>⟨r,bJ.mono y u⟩
 |.fn _ _::_,_,_::_,_::_,⟨r,u⟩=>⟨r,bJ.mono y u⟩
 |.clo _ _::_,_,_::_,_::_,⟨r,u⟩=>⟨r,bJ.mono y u⟩
 |.hol _ _ _::_,_,_::_,_::_,⟨r,u⟩=>⟨r,bJ.mono y u⟩
 |[],_,[],[],_=>trivial
 |[],_,_::_,_,h=>by simp[bJ]at h
 |[],_,[],_::_,h=>by simp[bJ]at h
 |p::_,_,[],_,h=>by cases p <;> exact h.elim
 |p::_,_,_::_,[],h=>by cases p <;> exact h.elim
theorem pZ.mono {w:World}{G G' ro ro':Nat->Prop}(I:∀ k,G k->G' k)(J:∀ k,G k\/ro k->G' k\/ro' k):∀ {r:RK} {y:r.den} {v:Value} {bs:List Nat},pZ w G ro r y v bs->pZ w G' ro' r y v bs
 |.v _,_,_,_,⟨H,u,z⟩=>⟨H,u,z.mono I⟩
 |.bv _,_,_,_,⟨e,H,u,z⟩=>⟨e,H,u,z.mono J⟩
 |.box _,_,_,_,⟨g,c,E,M,u,z,R,O⟩=>⟨g,c,E,M,u,z,R.mono I,O⟩
theorem gz.mono {w:World}{G G' ro ro':Nat->Prop}(M:∀ k,G k->G' k)(J:∀ k,G k\/ro k->G' k\/ro' k):∀ {I:List RK} {y:ai I} {us:List Value} {r:List (List Nat)},gz w G ro I y us r->gz w G' ro' I y us r
 |[],_,_,_,h=>h
 |_::_,_,_,_,⟨u,H,b,z,R,Y,O,X⟩=>⟨u,H,b,z,R,Y,O.mono M J,gz.mono M J X⟩
theorem bO.thin {P:Program}{f:FuncId}{a a':Ty}{ps:List PK}{rs:List RK}{fr:Bool}{b9:ab (.own a::ps)->Option (ai rs×ah (.own a::ps))}{R:ab (.own a'::ps)->Option (ai rs×ah (.own a'::ps))}
  (h:bO P ⟨f,.own a::ps,rs,fr,b9⟩) (ht:cC a' a=true) (cv:a'.den->a.den) (c1:∀ x,HEq x (cv x)) (hd:∀ x,R x=b9 (cv x.1,x.2)):bO P ⟨f,.own a'::ps,rs,fr,R⟩:=by
 refine⟨h.1,λw ro x vs c3 y Z a6 a3 hy=>?_⟩;obtain⟨x1,xr⟩:=x;obtain⟨v,a5,b,u,rfl,rfl,⟨cs,bl,hm⟩,a2⟩:=Z;obtain⟨M,O,X,bb⟩:=Mx.thin ht (c1 x1) hm;have a1:=hm.lt;rw[br]at a3;have Y:∀ k,M.count k+O.count k+u.flatten.count k<=1:=λk=>by
  have:=a3 k;rw[BX,BF,X k]at this;exact this
 have hb:∀ k,k∈b<->k∈M\/k∈O:=λk=>by
  rw[<- BK,<- BK,<- BK,X k];omega
 have H:∀ k,k∈(M::u).flatten->k∈(b::u).flatten:=λk r=>by
  rw[BX,BL]at r ⊢;exact r.imp (λh=>(hb k).2 (.inl h)) id
 have b0:∀ k,k∈O->k∉(M::u).flatten:=λk r z=>by
  have h1:=Y k;have h2:=BK.2 r;have h3:=BK.2 z;rw[BX,BF]at h3;omega
 have ad:∀ k,k∈O->k∈(b::u).flatten:=λk r=>by
  rw[BX,BL];exact .inl ((hb k).2 (.inr r))
 have I:c9 P w (λk=>ro k\/k∈O) (λk=>k<w.heap.size/\k∉(M::u).flatten) (.own a::ps) (cv x1,xr) (v::a5) (M::u) :=
  ⟨v,a5,M,u,rfl,rfl,⟨cs,by rw[<- za ht];exact bl,bb⟩,a2.mono (λ_=>.inl) (λk r=>⟨r.1,λh=>r.2 (H k h)⟩)⟩
 refine (h.2 w _ _ _ _ y I (λk r=>?_) ?_ (by rw[<- hy];exact (hd (x1,xr)).symm)).mono λe w' hp=>?_
 ·rcases r with r|r
  ·exact⟨(a6 k r).1,λh=>(a6 k r).2 (H k h)⟩
  ·exact⟨a1 k ((hb k).2 (.inr r)),b0 k r⟩
 ·rw[br];intro k;have:=Y k;show ((M::u).flatten).count k<=1;rw[BX,BF];omega
 ·obtain⟨v',us,N,a0,c0,h1,a4,b4,c2,bx,bn,ba,hN,hO,a9,b5,J⟩:=hp;have hG:∀ k,(N k\/fr=false/\(ro k\/k∈O))->((N k\/k∈O)\/fr=false/\ro k):=λk r=>by
   rcases r with r|⟨r,z|z⟩
   ·exact .inl (.inl r)
   ·exact .inr ⟨r,z⟩
   ·exact .inl (.inr z)
  refine⟨v',us,λk=>N k\/k∈O,a0,c0,h1,a4,b4,c2,bx,bn,λk r hn=>ba k r (λh=>hn (H k h)),λk r=>?_,?_,?_,b5,λk r=>?_⟩
  ·rcases r with r|r
   ·exact⟨(hN k r).1,(hN k r).2.imp id (H k)⟩
   ·exact⟨CE (a1 k ((hb k).2 (.inr r))) b4,.inr (ad k r)⟩
  ·match a0,hO with
   |b3::a0,hO=>exact⟨hO.1,bJ.mono hG hO.2⟩
   |[],hO=>exact hO.elim
  ·refine gz.mono hG (λk r=>?_) a9;rcases r with r|r|r
   ·exact .inl (hG k r)
   ·exact .inr r
   ·exact .inl (.inl (.inr r))
  ·obtain⟨h5,h6⟩:=J k r;refine⟨⟨h5.1,h5.2.imp id (H k)⟩,λh=>h.elim h6 (λh=>?_)⟩;rcases h5.2 with h7|h7
   ·have:=a1 k ((hb k).2 (.inr h));omega
   ·exact b0 k h h7
end Go.Proofs.YtadlacffdemoiaaGreatEv
