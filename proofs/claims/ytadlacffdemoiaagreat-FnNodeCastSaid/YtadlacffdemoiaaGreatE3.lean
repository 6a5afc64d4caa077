/- One operation: boxes made, boxes written. -/
import Derived.Test.YtadlacffdemoiaaGreatE0
import Derived.Deep.MidRow
import Derived.Great.FillDense
set_option linter.unusedVariables false
set_option linter.unusedSimpArgs false
open Array renaming toArray_toList->B6,length_toList->CA,getElem?_toList->Cx,toList_append->C6,size_append->DE,toList_map->DN,ext'->Db
open Bool renaming and_eq_true->BC,not_eq_true'->BY,or_eq_false_iff->C4,or_eq_true->DW
open Go.Addr.mk renaming injEq->Cj
open Go.Builtin renaming append_->CB,firstCells->Cg,lenOf->Ck,zeroCells->DJ
open Go.Instr renaming sliceBounds->DH,storeAt->Dd
open Go.Result renaming andThen_ok->Ch
open Go.Sem renaming run_bind->DD
open Go.Value renaming ownBlock->B5
open Go.Value.slice renaming injEq->B9
open Go.World renaming setCells->Cy,alloc_eq->C3,drew_eq->C7,freeze->DF,alloc->DR,drew->DZ
open Iff renaming rfl->Cp
open Int renaming toNat_natCast->DC
open List renaming getElem?_eq_some_iff->BD,mem_append_right->BE,count_append->BF,getElem?_append_right->BG,getElem?_append_left->BH,mem_append_left->BJ,count_pos_iff->BK,mem_append->BL,range->BO,mem_cons_of_mem->BP,append_assoc->BQ,length_append->BR,getElem?_eq_getElem->BS,eq_nil_of_length_eq_zero->BV,mem_cons_self->BW,flatten_cons->BX,count_eq_zero->BZ,append_nil->B3,length_take->B4,any_eq_false->B8,getElem?_take->CE,getD_eq_getElem?_getD->CF,nodup_append->CH,replicate->CJ,nodup_cons->CL,length_set->CM,flatMap_cons->CO,getElem?_set_ne->CP,mem_cons->CS,getElem?_drop->CT,getElem?_cons_zero->CU,getElem?_replicate->CV,size_toArray->CW,getElem?_set_self->CX,any_cons->Ca,length_nil->Cb,length_map->Cc,length_drop->Cl,length_cons->Cm,mem_map->Cs,count_cons->Ct,singleton_append->Cv,length_replicate->Cw,mem_range->Cz,all_cons->C8,map_nil->DB,map_map->DG,isEmpty_iff->DK,flatMap_map->DL,cons_append->DO,length->DS,map_append->DT,nil_append->DX,nodup_nil->DY,take_left->Da,map_cons->De
open List.cons renaming injEq->Cd
open Nat renaming eq_of_beq_eq_true->BI,lt_succ_self->BM,mul_le_mul_right->BN,beq->BT,le_refl->BU,succ_mul->CC,add_zero->CG,le_trans->CI,lt_of_lt_of_le->CK,le_of_ble_eq_true->CN,zero_add->CR,ble_eq_true_of_le->CY,le_add_right->CZ,mul_le_mul_left->Ce,blt_eq->Cf,add_mul->Ci,le_of_eq->Cn,ble->Co,mul_comm->Cq,sub_zero->Cr,mul_one->C0,blt->C5,eq_zero_or_pos->DA,zero_mul->DI,mod_eq_of_lt->DM,le_succ->DP,zero_le->DQ,mul_add_mod->DU,add_assoc->Dc
open Ne renaming symm->CQ
open Option renaming map_eq_some_iff->BB,bind_eq_some_iff->B7,map_none->Cu,toList_some->C9,map_some->DV
open Option.some renaming injEq->BA
open Prod renaming ext->Df
open Prod.mk renaming injEq->CD
namespace Go.Proofs.YtadlacffdemoiaaGreatEv
open Go Go.RowKit
section
variable {P:Program} {V:Env} {Γ:List Ctr} {T:TypeId->TI} {st:St} {o:Oper} {R:Type} {κ:Upd->Option R} {r:R}
theorem mZ {q u:Nat}(h:q≠u)(c y:bS)(st:St):ac [(q,c)] (ac [(u,y)] st)=ac [(u,y)] (ac [(q,c)] st):=by
 funext k;rcases am q k c (ac [(u,y)] st) with ⟨rfl,e⟩|⟨I,e⟩
 ·rw[e,aI h,bi]
 ·rw[e];rcases am u k y st with ⟨rfl,z⟩|⟨H,z⟩
  ·rw[z,bi]
  ·rw[z,aI H,aI I]
theorem ap.boxed (hV:ax V){W:Wit}{a:Act}{w:World}(h:ap P V W st a w)(d:Nat)(hd:d<V.nt)(X:∀ x∈V.fixt,x.1≠d)(I:(st (B0+d)).sh=.off)(ls:List Leaf)
  (y:List Value) (z:Nat->List Nat) (E:TypeId)
  (hl:ls.length=y.length) (h1:∀ u∈y,u.oneCell'=true)
  (H:∀ (j:Nat) (l:Leaf) (u:Value),ls[j]?=some l->y[j]?=some u->aK P V W st w (z j) l u)
  (O:∀ (j:Nat) (l:Leaf),ls[j]?=some l->ao l->∀ k∈z j,¬ W.nw k/\¬ V.prot k/\k<w.heap.size/\(∀ b,live st b->W.β b≠k) /\
   ∀ (r1 Z:Nat) (Y:Leaf),(st r1).ls[Z]?=some Y->ao Y->k∉W.bs r1 Z)
  (M:∀ (j j':Nat) (l l':Leaf),ls[j]?=some l->ao l->ls[j']?=some l'->ao l'->∀ k,k∈z j->k∈z j'->j=j') :
  Rel P V (ac ((B0+d,⟨(st (B0+d)).ver+1,.agg,ls⟩)::[(d,⟨(st d).ver+1,.one,[.bp (B0+d) 0]⟩)]) st) (a.put (some d) (.pointer (some ⟨w.heap.size,0,none⟩))) (w.alloc (.cells y.toArray E)):=by
 have J:B0+d≠d:=by simp[B0]
 have a0:¬ live st (B0+d):=by simp[live,I]
 have h2:=h.setBox hV (B0+d) (CZ _ _) ((st (B0+d)).ver+1) ls y z w.heap.size E (w':=w.alloc (.cells y.toArray E)) (BM _) (.inr ⟨a0,BU _⟩)
  (heap_alloc_new w _) (λk hk _=>Go.heap_alloc_old w _ hk) (by simp) rfl rfl rfl hl h1 H (λj l hj ho k hk=>by
   obtain⟨h3,h4,h5,h6,h7⟩:=O j l hj ho k hk;exact⟨h3,h4,h5,h6,λr1 Z Y _=>h7 r1 Z Y⟩) M
 rw[aO,mZ J];refine h2.putLs hV d hd X _ .one [.bp (B0+d) 0] _ [.pointer (some ⟨w.heap.size,0,none⟩)] ?_ rfl ⟨⟨⟨CZ _ _,by rw[bi],by simp⟩,id,rfl⟩,trivial⟩;rw[aI (CQ J)];omega
theorem uv {t:TypeId}(I:TOk P T)(y:(T t).cells≠0)(w:World):∃ z H,(zeroValue t).run P w=.ok z w/\z.cells=H.toArray/\∀ (V:Env) (W:Wit) (st:St),aC P V W st w (T t).zero H:=by
 have h:=I t;cases u:T t with
 |none=>rw[u]at y;exact absurd rfl y
 |int k=>rw[u]at h;exact⟨_,[.int k 0],gn h.2.2 w,rfl,λV W st=>⟨⟨rfl,id,rfl⟩,trivial⟩⟩
 |bool=>rw[u]at h;exact⟨_,[.bool false],gn h.2.2 w,rfl,λV W st=>⟨⟨rfl,id,rfl⟩,trivial⟩⟩
 |str=>rw[u]at h;exact⟨_,[.string ByteArray.empty],gn h.2.2 w,rfl,λV W st=>⟨⟨rfl,id,rfl⟩,trivial⟩⟩
 |slice E e b=>rw[u]at h;exact⟨_,[.slice none 0 0],gn h.2.2.1 w,rfl,λV W st=>⟨⟨rfl,id,rfl⟩,trivial⟩⟩
 |struct a J=>rw[u]at h;exact⟨_,zeroCells a,gn h.2.2.1 w,rfl,λV W st=>lw a⟩
 |arr e n=>rw[u]at h;exact⟨_,(CJ n (zeroCells e)).flatten,gn h.2.2.2 w,rfl,λV W st=>oN e n⟩
 |ptr=>rw[u]at h;exact⟨_,[.pointer none],gn h.2.2 w,rfl,λV W st=>⟨⟨trivial,id,rfl⟩,trivial⟩⟩
 |fn=>rw[u]at h;exact⟨_,[.nilFunc],gn h.2.2 w,rfl,λV W st=>⟨⟨trivial,id,rfl⟩,trivial⟩⟩
theorem xN (hV:ax V)(hT:TOk P T)(H:bM V o){t:TypeId}(I:o.op=.alloc t)(h:act Γ T o st κ=some r):bW P V o st κ r:=by
 simp only[act,I]at h;split at h
 ·rename_i d M;cases y:decide ((st (B0+d)).sh=.off)&&!decide ((T t).cells=0) with
  |false=>simp[y]at h
  |true =>
   simp only[y]at h;simp at y;refine⟨_,h,λW a w hr next Q hn=>?_⟩;obtain⟨z,X,Z,hc,J⟩:=uv hT y.2 w;have J:=J V W st;refine dV (v:=.pointer (some ⟨w.heap.size,0,none⟩)) (w':=w.alloc (.cells X.toArray t)) ?_ ?_
   ·simp[execOp,I,Instr.alloc,Z,newVar,newRow,hc]
   ·rw[M];refine hn _ _ ?_;exact hr.boxed hV d (H d M).1 (H d M).2 y.1 _ X (λ_=>[]) t J.length J.one' (λj l u Y h2=>(J.at_ j l u Y h2).1) (λ_ _ _ _ k O=>by simp at O) (λ_ _ _ _ _ _ _ _ k O=>by simp at O)
 ·grind
theorem Ar (hV:ax V)(I:bM V o){t:TypeId}{x:Operand}(Z:o.op=.box t x)(h:act Γ T o st κ=some r):bW P V o st κ r:=by
 simp only[act,Z]at h;split at h
 ·rename_i d M;cases hb:decide ((st (B0+d)).sh=.off)&&decide ((au st x).2.length=(T t).cells)&&decide ((au st x).1=bg (T t).agg)&&hX st (au st x).2 with
  |false=>simp[hb]at h
  |true =>
   simp only[hb]at h;simp at hb;obtain⟨⟨⟨a0,a2⟩,a1⟩,Y⟩:=hb;have J:∀ (W:Wit) (a:Act) (w:World) (H:List Value),d9 (au st x).1 (a.eval x) H->aC P V W st w (au st x).2 H ->
     (execOp a.eval o).run P w=.ok (.value (.pointer (some ⟨w.heap.size,0,none⟩))) (w.alloc (.cells H.toArray t)):=by
    intro W a w H X z;rw[a1]at X;have hc:=gT X z.one';simp[execOp,Z,Instr.box,newVar,newRow,hc]
   cases y:sj st x with
   |true =>
    rw[y]at h;refine⟨_,h,λW a w O next Q hn=>?_⟩;obtain⟨H,X,z⟩:=cU O x;refine dV (J W a w H X z) ?_;rw[M];refine hn _ _ ?_;exact O.boxed hV d (I d M).1 (I d M).2 a0 _ H (λ_=>[]) t z.length z.one' (λj l u h1 h2=>(z.at_ j l u h1 h2).1) (λ_ _ _ _ k hk=>by simp at hk) (λ_ _ _ _ _ _ _ _ k hk=>by simp at hk)
   |false =>
    rw[y]at h;refine⟨_,h,λW a w O next Q hn=>?_⟩;obtain⟨H,X,z⟩:=cU O x;obtain⟨h1,h2,h3,h4,h5⟩:=oL hV O z Y;have h6:=zv hV O z Y;refine dV (J W a w H X z) ?_;rw[M];refine hn _ _ ?_;have:=h1.boxed hV d (I d M).1 (I d M).2 (by rw[(h6 _).1];exact a0) _ H (dq W (au st x).2) t h2 z.one' h3 h4 h5;exact this
 ·grind
theorem jH (b:Nat)(E:TypeId):∀ (u:List Value) (k o:Nat) (w:World) (cur:Array Value) {mk:Nat×Nat},w.heap[b]?=some (.cells cur E mk) ->
  (w.setCells b (o+k) u).heap[b]?=some (.cells ((u.zipIdx k).foldl (λy (x:Value×Nat)=>y.setIfInBounds (o+x.2) x.1) cur) E mk)
 |[],_,_,_,_,_,h=>h
 |v::u,k,o,w,cur,mk,h=>by
  have:=jH b E u (k+1) o (w.setCell ⟨b,o+k,none⟩ v) _ (by rw[setCell_eq_setRow w b (o+k) cur E mk v h];exact setRow_heap w b cur _ E mk h);simpa[Cy,Dc]using this
theorem eF (b:Nat):∀ (u:List Value) (o:Nat) (w:World) (k:Nat),k≠b->(w.setCells b o u).heap[k]?=w.heap[k]?
 |[],_,_,_,_=>rfl
 |v::u,o,w,k,h=>by
  rw[Cy,eF b u (o+1) _ k h];exact heap_setCell_other w ⟨b,o,none⟩ k v h
theorem jI (b:Nat):∀ (u:List Value) (o:Nat) (w:World),(w.setCells b o u).os=w.os/\(w.setCells b o u).tape=w.tape/\(w.setCells b o u).output=w.output/\(w.setCells b o u).heap.size=w.heap.size
 |[],_,_=>⟨rfl,rfl,rfl,rfl⟩
 |v::u,o,w=>by
  obtain⟨I,z,y,H⟩:=jI b u (o+1) (w.setCell ⟨b,o,none⟩ v);exact⟨I,z,y,by rw[Cy,H];simp⟩
theorem m7 {t:TypeId}{n:Nat}(H:bQ P t n){w:World}{b off:Nat}{cur:List Value}{E:TypeId}{mk:Nat×Nat}(J:w.heap[b]?=some (.cells cur.toArray E mk))(z:mk.2=0\/cur.length<=mk.1){v:Value}{cs:List Value}
  (M:v.cells=cs.toArray) (Y:cs.length=n) (O:∀ u∈cs,u.oneCell'=true) (X:off+cs.length<=cur.length) :
  (Dd t (.pointer (some ⟨b,off,none⟩)) v).run P w=.ok () (w.setCells b off cs):=by
 have y:∀ j,j<cs.length->(w.cell? ⟨b,off+j,none⟩).isSome=true:=by
  intro j I;rw[cell_of_row w b _ _ E mk J]
  grind
 have Z:=run_storeCells_cells (P:=P) b off cs 0 w (λj I=>y j I) (λj I=>qS J (by simpa using z) (by simp;omega)) O;have h4:=dt H w;simp[Dd,Instr.sureAddr,storeVar,h4,M,Y,Z]
theorem tr (hV:ax V)(hT:TOk P T){t:TypeId}{x y:Operand}{b off:Nat}(b5:o.op=.store t x y)(hd:o.dst=none)(hx:one st x=.bp b off)
  (c2:(au st y).2.length=(T t).cells) (bb:(au st y).1=bg (T t).agg) (a9:(T t).cells≠0) (ad:(st b).sh=.agg) (c1:off+(au st y).2.length<=(st b).ls.length) (a4:hX st (au st y).2=true)
  {W:Wit} {a:Act} {w:World} (hr:ap P V W st a w) :
  mH P V o st ((b,⟨(ac (mvU st (au st y).2) st b).ver+1,.agg,jt (ac (mvU st (au st y).2) st b).ls (dH st (au st y).2) off⟩)::mvU st (au st y).2) a w:=by
 intro next Q hn;obtain⟨I,hs,hl⟩:=cU hr y;rw[bb]at hs;have hc:=gT hs hl.one';obtain⟨h1,h2,h3,h4,h5⟩:=oL hV hr hl a4;have h6:=zv hV hr hl a4;obtain⟨hp,_,_,_⟩:=bo hr x (by rw[hx];simp);rw[hx]at hp;obtain⟨hB,_,hv⟩:=hp;have bl:T t≠.none:=by intro e;rw[e]at a9;exact a9 rfl
 rcases hr.boxes b hB with ⟨h8,_⟩|⟨_,E,h8⟩
 ·rw[ad]at h8;cases h8
 ·have b9:=hl.length;have c4:=hr.len b;have c3:(ac (mvU st (au st y).2) st b).ls.length=(W.cs b).length:=h1.len b;have b1:off+I.length<=(W.cs b).length:=by omega
  have b0:=m7 (oM (hT t) bl) h8 (.inl rfl) hc (by omega) hl.one' b1;refine pz (w':=w.setCells (W.β b) off I) (by simp[execOp,b5,hv,b0]) ?_;rw[hd];refine hn _ _ ?_;rw[aO];obtain⟨e1,e2,e3,e4⟩:=jI (W.β b) I off w;have a0:=jH (W.β b) E I 0 off w _ h8;rw[kR (W.cs b) I off b1]at a0;simp only[CG]at a0;have c0:live (ac (mvU st (au st y).2) st) b:=⟨hB,by rw[(h6 b).1];exact ad⟩;have ba:(dH st (au st y).2).length=I.length:=h2;have M:∀ (j:Nat) (l:Leaf),(jt (ac (mvU st (au st y).2) st b).ls (dH st (au st y).2) off)[j]?=some l ->
    (off<=j/\j<off+I.length/\(dH st (au st y).2)[j-off]?=some l)\/((j<off\/off+I.length<=j)/\(ac (mvU st (au st y).2) st b).ls[j]?=some l):=by
   intro j l hj;unfold jt at hj;rw[ba]at hj;by_cases Z:j<off
   ·rw[BQ,BH (by simp;omega),CE,if_pos Z]at hj;exact .inr ⟨.inl Z,hj⟩
   ·by_cases J:j<off+I.length
    ·rw[BQ,BG (by simp;omega),BH (by simp;omega)]at hj;refine .inl ⟨by omega,J,?_⟩;rw[<- hj];congr 1;simp;omega
    ·rw[BG (by simp;omega),CT]at hj;refine .inr ⟨.inr (by omega),?_⟩;rw[<- hj];congr 1;simp;omega
  have a2:∀ (j:Nat),((W.cs b).take off++I++(W.cs b).drop (off+I.length))[j]?=if off<=j/\j<off+I.length then I[j-off]? else (W.cs b)[j]?:=by
   intro j;by_cases Z:j<off
   ·rw[BQ,BH (by simp;omega),CE,if_pos Z,if_neg (by omega)]
   ·by_cases J:j<off+I.length
    ·rw[BQ,BG (by simp;omega),BH (by simp;omega),if_pos ⟨by omega,J⟩];congr 1;simp;omega
    ·rw[BG (by simp;omega),CT,if_neg (by omega)];congr 1;simp;omega
  refine⟨_,h1.setBox hV b hB _ _ ((W.cs b).take off++I++(W.cs b).drop (off+I.length)) (λj=>if off<=j/\j<off+I.length then dq W (au st y).2 (j-off) else W.bs b j) (W.β b) E
   (BM _) (.inl ⟨c0,rfl⟩) a0 (λk _ O=>eF (W.β b) I off w k O) (Cn e4.symm) e1 e2 e3 ?_ ?_ ?_ ?_ ?_⟩
  ·simp only[jt,BR,B4,Cl];omega
  ·intro u hu;simp only[BL]at hu;rcases hu with (hu|hu)|hu
   ·exact hr.one b u (List.mem_of_mem_take hu)
   ·exact hl.one' u hu
   ·exact hr.one b u (List.mem_of_mem_drop hu)
  ·intro j l u hj hu;rw[a2]at hu;rcases M j l hj with ⟨Z,J,H⟩|⟨Z,H⟩
   ·rw[if_pos ⟨Z,J⟩]at hu;simp only[if_pos (⟨Z,J⟩:off<=j/\j<off+I.length)];exact h3 _ l u H hu
   ·have z:¬ (off<=j/\j<off+I.length):=by omega
    rw[if_neg z]at hu;simp only[if_neg z];exact h1.leaf b j l u H hu
  ·intro j l hj ho k O;rcases M j l hj with ⟨Z,J,H⟩|⟨Z,H⟩
   ·simp only[if_pos (⟨Z,J⟩:off<=j/\j<off+I.length)]at O;obtain⟨q1,q2,q3,q4,q5⟩:=h4 _ l H ho k O;exact⟨q1,q2,q3,q4,λr1 j1 l1 _=>q5 r1 j1 l1⟩
   ·have z:¬ (off<=j/\j<off+I.length):=by omega
    simp only[if_neg z]at O;obtain⟨q1,q2,q3⟩:=h1.ownb b j l H ho k O;exact⟨q1,q2,h1.own_lt H ho k O,q3,λr1 j1 l1 b3 bn b2 bx=>b3 (h1.sep b j l r1 j1 l1 H ho bn b2 k O bx).1.symm⟩
  ·intro j j' l l' hj ho b4 a1 k O Y;rcases M j l hj with ⟨Z,J,H⟩|⟨Z,H⟩ <;> rcases M j' l' b4 with ⟨a6,a3,X⟩|⟨a6,X⟩
   ·simp only[if_pos (⟨Z,J⟩:off<=j/\j<off+I.length)]at O;simp only[if_pos (⟨a6,a3⟩:off<=j'/\j'<off+I.length)]at Y;have:=h5 _ _ l l' H ho X a1 k O Y;omega
   ·have z:¬ (off<=j'/\j'<off+I.length):=by omega
    simp only[if_pos (⟨Z,J⟩:off<=j/\j<off+I.length)]at O;simp only[if_neg z]at Y;exact absurd Y ((h4 _ l H ho k O).2.2.2.2 b j' l' X a1)
   ·have z:¬ (off<=j/\j<off+I.length):=by omega
    simp only[if_neg z]at O;simp only[if_pos (⟨a6,a3⟩:off<=j'/\j'<off+I.length)]at Y;exact absurd O ((h4 _ l' X a1 k Y).2.2.2.2 b j l H ho)
   ·have z:¬ (off<=j/\j<off+I.length):=by omega
    have a5:¬ (off<=j'/\j'<off+I.length):=by omega
    simp only[if_neg z]at O;simp only[if_neg a5]at Y;exact (h1.sep b j l b j' l' H ho X a1 k O Y).2
end
theorem br {l:List Nat}:l.Nodup<->∀ k,l.count k<=1:=by
 induction l with
 |nil=>simp
 |cons a l z =>
  rw[CL,z];constructor
  ·rintro⟨r,u⟩ k;rw[Ct];by_cases y:a=k
   ·subst y;have:l.count a=0:=BZ.2 r;simp[this]
   ·have:=u k;simp[y,this]
  ·intro h;refine⟨λH=>?_,λk=>?_⟩
   ·have r:=h a;have u:0<l.count a:=BK.2 H;rw[Ct]at r;simp at r;omega
   ·have:=h k;rw[Ct]at this;omega
theorem pZ {n:Nat}(r:Nat->List Nat)(k:Nat):((BO n).flatMap r).count k=((BO n).map λj=>(r j).count k).sum:=by
 generalize BO n=l;induction l with
 |nil=>rfl
 |cons a l u=>simp[BF,u]
theorem ko {n i:Nat}(H:i<n)(r:Nat->List Nat)(b:List Nat)(k:Nat) :
  ((BO n).flatMap λj=>if j=i then b else r j).count k+(r i).count k=((BO n).flatMap r).count k+b.count k:=by
 rw[pZ,pZ];induction n with
 |zero=>omega
 |succ n z =>
  rw[List.range_succ];simp only[DT,De,DB,List.sum_append,List.sum_cons,List.sum_nil];by_cases u:i=n
  ·subst u;have:(BO i).map (λj=>List.count k (if j=i then b else r j))=(BO i).map λj=>(r j).count k:=by
    refine List.map_congr_left λj y=>?_
    rw[if_neg (by have:=Cz.1 y;omega)]
   rw[this,if_pos rfl];omega
  ·have:=z (by omega);rw[if_neg (λe=>u e.symm)];omega
theorem m8 {bs bs' K:List Nat}(y:bs.Nodup)(z:K.Nodup)(J:∀ k∈K,k∉bs)(h:∀ k,bs'.count k<=bs.count k+K.count k):bs'.Nodup/\∀ k∈bs',k∈bs\/k∈K:=by
 rw[br]at y z;refine⟨br.2 λk=>?_,λk r=>?_⟩
 ·have H:=h k;have I:=y k;have u:=z k;by_cases r:k∈K
  ·have:bs.count k=0:=BZ.2 (J k r);omega
  ·have:K.count k=0:=BZ.2 r;omega
 ·have H:=h k;have I:0<bs'.count k:=BK.2 r;by_cases u:k∈bs
  ·exact .inl u
  ·have:bs.count k=0:=BZ.2 u;exact .inr (BK.1 (by omega))
theorem Mx.pos {w:World}{G:Nat->Prop}:∀ {a:Ty} {pos r:Nat} {x:a.den} {cs:List Value} {bs:List Nat},Mx w G a none pos x cs bs->Mx w G a none r x cs bs
 |.int _,_,_,_,_,_,h=>h
 |.bool,_,_,_,_,_,h=>h
 |.str,_,_,_,_,_,h=>h
 |.unit,_,_,_,_,_,h=>h
 |.hdr,_,_,_,_,_,h=>h
 |.pair _ _,_,_,_,_,_,⟨u,R,J,I,M,y,z,O⟩=>⟨u,R,J,I,M,y,Mx.pos z,Mx.pos O⟩
 |.list m E e,_,_,_,_,_,H=>by
  cases m with
  |false=>rw[cn]at H ⊢;exact H
  |true=>rw[bI (by simp)]at H ⊢;exact H
section
variable {P:Program} {V:Env} {W:Wit} {st:St} {w w':World} {a:Act}
theorem Mx.scalar {G:Nat->Prop}{b:Ty}{hol:Option Nat}{pos:Nat}{x:b.den}{cs:List Value}{S:Nat->Prop}(r:b.flat=true)(h:Rd w S b x cs):Mx w G b hol pos x cs []:=Mx.flat r h
theorem lD (h:ap P V W st a w):∀ (b:Ty) (pos:Nat) (ls:List Leaf) (cs:List Value) (t:cM b.den),aC P V W st w ls cs->take st b ls=some t ->
  ∃ J O M,cs=J++O/\ls=M++t.rest/\aC P V W st w M J/\aC P V W st w t.rest O/\Mx w (bk V W t.p t.frz) b none pos t.val J (aX W t.kill) /\
   (∀ x∈t.frz,aB st x)/\(∀ x∈t.kill,aB st x)
 |.pair b c,pos,ls,cs,t,H,z=>by
  simp only[take]at z;split at z
  ·rename_i u hb;split at z
   ·rename_i v hc;simp only[BA]at z;subst z;obtain⟨J,O,M,e1,e2,h1,Z,X,h4,h5⟩:=lD h b pos ls cs u H hb;obtain⟨c3,c4,l2,e3,e4,h6,h7,h8,h9,a0⟩:=lD h c (pos+b.cells) u.rest O v Z hc;refine⟨J++c3,c4,M++l2,by rw[e1,e3,BQ],by rw[e2,e4,BQ],h1.append h6,h7,⟨J,c3,_,_,rfl,dI W _ _,?_,?_⟩,?_,?_⟩
    ·refine X.mono λk I=>?_
     rcases I with I|⟨y,hy,I⟩
     ·exact .inl (bU (by intro h;simp[h]) (λ_ h=>h) k I)
     ·exact .inr ⟨y,BJ _ hy,I⟩
    ·refine h8.mono λk I=>?_
     rcases I with I|⟨y,hy,I⟩
     ·exact .inl (bU (by intro h;simp[h]) (λ_ h=>h) k I)
     ·exact .inr ⟨y,BE _ hy,I⟩
    ·intro x R;exact (BL.1 R).elim (h4 x) (h9 x)
    ·intro x R;exact (BL.1 R).elim (h5 x) (a0 x)
   ·cases z
  ·cases z
 |.unit,pos,ls,cs,t,H,z=>by
  simp only[take,BA]at z;subst z;exact⟨[],cs,[],rfl,rfl,trivial,H,⟨rfl,rfl⟩,by simp,by simp⟩
 |.list m E e,pos,ls,cs,t,H,z=>by
  cases ls with
  |nil=>simp[take]at z
  |cons l ls =>
   cases cs with
   |nil=>exact H.elim
   |cons v cs =>
    cases m with
    |false =>
     simp only[take,cond_false]at z;split at z
     ·rename_i p xs ha;simp only[BA]at z;subst z;refine⟨[v],cs,[l],rfl,rfl,⟨H.1,trivial⟩,H.2,cn.2 ⟨rfl,ky h H.1.1 H.1.2.1 ha⟩,λx R=>eh (cs:=[v]) (ls:=[l]) ⟨H.1,trivial⟩ R,by simp⟩
     ·cases z
    |true =>
     simp only[take,cond_true]at z;split at z
     ·rename_i r j n;split at z
      ·rename_i p E' e' xs hd;simp only[BB]at z;obtain⟨ys,hc,rfl⟩:=z;obtain⟨rfl,rfl,rfl⟩:=jE hc;obtain⟨h1,Z,X,h4⟩:=ke h hd H.1.1;refine⟨[v],cs,[_],rfl,rfl,⟨H.1,trivial⟩,H.2,(bI (by simp)).2 ⟨v,rfl,?_⟩,by simp,?_⟩
       ·have:aX W [(r,j)]=W.bs r j:=by simp[aX]
        show OwB w _ none E' e' xs v (aX W [(r,j)]);rw[this];exact Z.2.carry (λk I=>.inl I) (λ_ _=>rfl) (λ_ _=>rfl)
       ·intro x R;simp only[List.mem_singleton]at R;subst R;exact⟨_,X,trivial⟩
      ·cases z
     ·simp only[BA]at z;subst z;have X:v=.slice none 0 0:=H.1.1;refine⟨[v],cs,[_],rfl,rfl,⟨H.1,trivial⟩,H.2,(bI (by simp)).2 ⟨v,rfl,?_⟩,by simp,by simp⟩;rw[X];exact (OwH.nil w _ E e).2
     ·cases z
 |.int k,pos,ls,cs,t,H,z=>take_scalar h (b:=.int k) rfl H z
 |.bool,pos,ls,cs,t,H,z=>take_scalar h (b:=.bool) rfl H z
 |.str,pos,ls,cs,t,H,z=>take_scalar h (b:=.str) rfl H z
 |.hdr,pos,ls,cs,t,H,z=>take_scalar h (b:=.hdr) rfl H z
where
 take_scalar (h:ap P V W st a w) {b:Ty} {pos:Nat} {ls:List Leaf} {cs:List Value} {t:cM b.den} (hf:b.flat=true) (H:aC P V W st w ls cs) (z:(aZ st b ls).map (λx=>(⟨false,x.2.1,[],[],x.2.2⟩:cM b.den))=some t) :
   ∃ J O M,cs=J++O/\ls=M++t.rest/\aC P V W st w M J/\aC P V W st w t.rest O/\Mx w (bk V W t.p t.frz) b none pos t.val J (aX W t.kill) /\
    (∀ x∈t.frz,aB st x)/\(∀ x∈t.kill,aB st x):=by
  simp only[BB]at z;obtain⟨⟨p,x,Y⟩,h1,rfl⟩:=z;obtain⟨J,O,M,e1,e2,Z,X,h4⟩:=kz h b ls cs p x Y H h1;exact⟨J,O,M,e1,e2,Z,X,Mx.flat hf h4,by simp,by simp⟩
theorem dN (h:ap P V W st a w){b:Ty}{pos:Nat}{ls:List Leaf}{cs:List Value}{t:cM b.den}(H:aC P V W st w ls cs)(r:cg st b ls=some t) :
  Mx w (bk V W t.p t.frz) b none pos t.val cs (aX W t.kill)/\(∀ x∈t.frz,aB st x)/\(∀ x∈t.kill,aB st x):=by
 unfold cg at r;split at r
 ·rename_i p x f k O;simp only[BA]at r;subst r;obtain⟨R,y,Z,u,X,Y,M,J,z,I⟩:=lD h b pos ls cs _ H O;have:y=[]:=by
   cases y with
   |nil=>rfl
   |cons=>exact M.elim
  subst this;simp only[B3]at u;subst u;exact⟨J,z,I⟩
 ·cases r
theorem gN (h:ap P V W st a w):∀ {ks:List (Nat×Nat)},aY ks=true->(∀ x∈ks,aB st x)->(aX W ks).Nodup
 |[],_,_=>DY
 |x::ks,J,I=>by
  simp only[aY,BC,BY,B8]at J;have Y:=gN h J.2 (λy H=>I y (BP _ H));show (W.bs x.1 x.2++aX W ks).Nodup;rw[CH];obtain⟨l,M,z⟩:=I x (BW ..);refine⟨?_,Y,λk Z k' r e=>?_⟩
  ·have hj:x.2<(W.cs x.1).length:=by rw[<- h.len];exact (BD.1 M).1
   have:=h.leaf x.1 x.2 l _ M (BS hj);cases l <;> simp only[ao]at z;exact OwH.nodup this
  ·subst e;obtain⟨y,H,r⟩:=gl.1 r;obtain⟨X,O,u⟩:=I y (BP _ H);obtain⟨e1,R⟩:=h.sep x.1 x.2 l y.1 y.2 X M z O u k Z r;have:=J.1 y H;rw[e1,R]at this;simp at this
theorem jV:∀ {b:Ty} {S H:Nat->Prop} {I:Option Nat} {pos:Nat} {y:b.den} {c:List Value} {q:List Nat},b.flat=true->Mx w S b I pos y c q->Rd w H b y c
 |.int _,_,_,_,_,_,_,_,_,h=>h.1
 |.bool,_,_,_,_,_,_,_,_,h=>h.1
 |.str,_,_,_,_,_,_,_,_,h=>h.1
 |.unit,_,_,_,_,_,_,_,_,h=>h.1
 |.hdr,_,_,_,_,_,_,_,_,h=>h.1
 |.pair _ _,_,_,_,_,_,_,_,r,⟨u,O,Y,X,J,R,z,M⟩=>by
  simp only[Ty.flat,BC]at r;exact⟨u,O,J,jV r.1 z,jV r.2 M⟩
 |.list _ _ _,_,_,_,_,_,_,_,r,_=>by simp[Ty.flat]at r
theorem ml (h:ap P V W st a w){G:Nat->Prop}{off n:Nat}{hol I:Option Nat}(a5:∀ k,off<=k->k<off+n->I≠some k)(X:∀ k,¬ (off<=k/\k<off+n)->(I=some k<->hol=some k)) :
  ∀ (b:Ty) (pos:Nat) (x:b.den) (ls:List Leaf) (cs:List Value) (t:cM b.den) (R:List Value) (z:List Nat),aC P V W st w ls cs->da st off n b pos x ls=some t->Mx w G b hol pos x R z ->
  ∃ O c2 c' J,cs=O++c2/\aC P V W st w t.rest c2/\O.length=min (off+n) (pos+b.cells)-max off pos /\
   Mx w (λk=>G k\/bk V W t.p t.frz k) b I pos t.val c' J /\
   (∀ i,i<b.cells->c'[i]?=if off<=pos+i/\pos+i<off+n then O[pos+i-max off pos]? else R[i]?) /\
   (∀ k,J.count k<=z.count k+(aX W t.kill).count k)/\(∀ x∈t.frz,aB st x)/\(∀ x∈t.kill,aB st x)
 |.pair b c,pos,x,ls,cs,t,R,z,M,r,⟨d1,d2,b1,b2,e1,e2,ad,b3⟩=>by
  simp only[da]at r;split at r
  ·rename_i u Y;split at r
   ·rename_i v hc;simp only[BA]at r;subst r;obtain⟨O,c2,c',J,f1,f2,f3,f4,f5,f6,f7,f8⟩:=ml h a5 X b pos x.1 ls cs u d1 b1 M Y ad;obtain⟨c3,c4,a6,a1,g1,g2,g3,g4,g5,g6,g7,g8⟩:=ml h a5 X c (pos+b.cells) x.2 u.rest c2 v d2 b2 f2 hc b3;have b4:=f4.len;have bb:=g4.len;have b9:=ad.len;refine⟨O++c3,c4,c'++a6,J++a1,by rw[f1,g1,BQ],g2,?_,⟨c',a6,J,a1,rfl,rfl,?_,?_⟩,?_,?_,?_,?_⟩
    ·rw[BR,f3,g3];simp only[Ty.cells];omega
    ·refine f4.mono λk H=>?_
     rcases H with H|H|⟨y,hy,H⟩
     ·exact .inl H
     ·exact .inr (.inl (bU (by intro h;simp[h]) (λ_ h=>h) k H))
     ·exact .inr (.inr ⟨y,BJ _ hy,H⟩)
    ·refine g4.mono λk H=>?_
     rcases H with H|H|⟨y,hy,H⟩
     ·exact .inl H
     ·exact .inr (.inl (bU (by intro h;simp[h]) (λ_ h=>h) k H))
     ·exact .inr (.inr ⟨y,BE _ hy,H⟩)
    ·intro i hi;simp only[Ty.cells]at hi;rw[e1];by_cases b5:i<b.cells
     ·rw[BH (by omega),f5 i b5];by_cases hr:off<=pos+i/\pos+i<off+n
      ·rw[if_pos hr,if_pos hr,BH (by omega)]
      ·rw[if_neg hr,if_neg hr,BH (by omega)]
     ·rw[BG (by omega),b4,g5 (i-b.cells) (by omega)];have e3:pos+b.cells+(i-b.cells)=pos+i:=by omega
      rw[e3];by_cases hr:off<=pos+i/\pos+i<off+n
      ·rw[if_pos hr,if_pos hr,BG (by omega)];congr 1;omega
      ·rw[if_neg hr,if_neg hr,BG (by omega),b9]
    ·intro k;rw[e2,BF,BF,dI,BF];have:=f6 k;have:=g6 k;omega
    ·intro y hy;exact (BL.1 hy).elim (f7 y) (g7 y)
    ·intro y hy;exact (BL.1 hy).elim (f8 y) (g8 y)
   ·cases r
  ·cases r
 |.unit,pos,x,ls,cs,t,R,z,M,r,hm=>by
  simp only[da,BA]at r;subst r;refine⟨[],cs,[],[],rfl,M,by simp only[Ty.cells,Cb];omega,⟨rfl,rfl⟩,λi hi=>by simp[Ty.cells]at hi,λk=>by simp,by simp,by simp⟩
 |.hdr,pos,x,ls,cs,t,R,z,M,r,hm=>by simp[da]at r
 |.int k,pos,x,ls,cs,t,R,z,M,r,hm=>put_scalar h (b:=.int k) rfl rfl M r hm
 |.bool,pos,x,ls,cs,t,R,z,M,r,hm=>put_scalar h (b:=.bool) rfl rfl M r hm
 |.str,pos,x,ls,cs,t,R,z,M,r,hm=>put_scalar h (b:=.str) rfl rfl M r hm
 |.list m E e,pos,x,ls,cs,t,R,z,M,r,hm=>by
  simp only[da]at r;have ba:=hm.len;have e0:(Ty.list m E e).cells=1:=rfl;cases Y:Co off pos&&C5 pos (off+n) with
  |true =>
   rw[Y]at r;simp only[cond_true]at r;simp only[BC,Cf]at Y;have b0:=CN Y.1;obtain⟨O,c2,l1,e1,e2,h1,h2,h3,h4,h5⟩:=lD h (.list m E e) pos ls cs t M r;have a2:=h3.len;refine⟨O,c2,O,aX W t.kill,e1,h2,by rw[a2];omega,?_,λi hi=>?_,λk=>by omega,h4,h5⟩
   ·have Z:=h3.mono (G':=λk=>G k\/bk V W t.p t.frz k) (λk H=>.inr H);cases m with
    |false=>rw[cn]at Z ⊢;exact Z
    |true =>
     rw[bI (by simp)]at Z;rw[bI (a5 pos b0 Y.2)];exact Z
   ·rw[if_pos (by omega)];congr 1;omega
  |false =>
   rw[Y]at r;simp only[cond_false,BA]at r;subst r;have a3:¬ (off<=pos/\pos<off+n):=by
    rintro⟨h1,h2⟩;have:(Co off pos&&C5 pos (off+n))=true:=by
     simp only[BC,Cf];exact⟨CY h1,h2⟩
    rw[Y]at this;cases this
   refine⟨[],cs,R,z,rfl,M,by simp only[Cb];omega,?_,λi hi=>?_,λk=>by omega,by simp,by simp⟩
   ·have Z:=hm.mono (G':=λk=>G k\/bk V W false [] k) (λk H=>.inl H);cases m with
    |false=>rw[cn]at Z ⊢;exact Z
    |true =>
     by_cases hp:hol=some pos
     ·have a4:=(X pos a3).2 hp;subst hp;subst a4;rw[iZ]at Z ⊢;exact Z
     ·have a4:I≠some pos:=λe=>hp ((X pos a3).1 e)
      rw[bI hp]at Z;rw[bI a4];exact Z
   ·rw[if_neg (by omega)]
where
 put_scalar (h:ap P V W st a w) {b:Ty} {pos:Nat} {x:b.den} {ls:List Leaf} {cs:List Value} {t:cM b.den} {R:List Value} {z:List Nat} (hf:b.flat=true) (h1:b.cells=1) (M:aC P V W st w ls cs)
   (r:(bif Co off pos&&C5 pos (off+n) then take st b ls else some ⟨false,x,[],[],ls⟩)=some t) (hm:Mx w G b hol pos x R z) :
   ∃ O c2 c' J,cs=O++c2/\aC P V W st w t.rest c2/\O.length=min (off+n) (pos+b.cells)-max off pos /\
    Mx w (λk=>G k\/bk V W t.p t.frz k) b I pos t.val c' J /\
    (∀ i,i<b.cells->c'[i]?=if off<=pos+i/\pos+i<off+n then O[pos+i-max off pos]? else R[i]?) /\
    (∀ k,J.count k<=z.count k+(aX W t.kill).count k)/\(∀ x∈t.frz,aB st x)/\(∀ x∈t.kill,aB st x):=by
  have a0:∀ {S S':Nat->Prop} {hh a9:Option Nat} {y:b.den} {c:List Value} {q:List Nat},Mx w S b hh pos y c q->Mx w S' b a9 pos y c []:=by
   intro S S' hh a9 y c q hq;exact Mx.flat (w:=w) (G:=λ_=>True) hf (jV hf hq)
  cases Y:Co off pos&&C5 pos (off+n) with
  |true =>
   rw[Y]at r;simp only[cond_true]at r;simp only[BC,Cf]at Y;have b0:=CN Y.1;obtain⟨O,c2,l1,e1,e2,h2,h3,h4,h5,Z⟩:=lD h b pos ls cs t M r;have a2:=h4.len;refine⟨O,c2,O,[],e1,h3,by rw[a2];omega,a0 h4,λi hi=>?_,λk=>by simp,h5,Z⟩;rw[if_pos (by omega)];congr 1;omega
  |false =>
   rw[Y]at r;simp only[cond_false,BA]at r;subst r;have a3:¬ (off<=pos/\pos<off+n):=by
    rintro⟨h1,h2⟩;have:(Co off pos&&C5 pos (off+n))=true:=by
     simp only[BC,Cf];exact⟨CY h1,h2⟩
    rw[Y]at this;cases this
   refine⟨[],cs,R,[],rfl,M,by simp only[Cb];omega,a0 hm,λi hi=>?_,λk=>by simp,by simp,by simp⟩;rw[if_neg (by omega)]
end
section
variable {P:Program} {V:Env} {Γ:List Ctr} {T:TypeId->TI} {st st2:St} {o:Oper} {R:Type} {κ:Upd->Option R} {r:R}
def uZ (V:Env)(W:Wit)(st:St)(q j k:Nat):Prop :=
 ¬ W.nw k/\¬ V.prot k/\(∀ b,live st b->W.β b≠k)/\∀ (u i:Nat) (l:Leaf),(st u).ls[i]?=some l->ao l->(u,i)≠(q,j)->k∉W.bs u i
structure xO (st st2:St) (q j:Nat) (l':Leaf):Prop where
 sh:∀ r,(st2 r).sh=(st r).sh
 ver:∀ r,(st r).ver<=(st2 r).ver
 epo:(st EPO).ver<(st2 EPO).ver
 len:∀ r,(st2 r).ls.length=(st r).ls.length
 at_:∀ l,(st2 q).ls[j]?=some l->l=l'
 old:∀ r i l,(r,i)≠(q,j)->(st2 r).ls[i]?=some l->(st r).ls[i]?=some l
def Wit.tell (W:Wit)(q j:Nat)(bs:List Nat):Wit:={ W with bs:=λr i=>if (r,i)=(q,j) then bs else W.bs r i }
theorem ap.retell (hV:ax V){W:Wit}{a:Act}{w w':World}(h:ap P V W st a w){q j:Nat}{l l':Leaf}(O:xO st st2 q j l'){v:Value}{bs':List Nat}
  (hl:(st q).ls[j]?=some l) (a6:ao l) (hv:(W.cs q)[j]?=some v) (b4:ao l') (a5:aK P V W st w' bs' l' v)
  (a4:∀ k∈bs',uZ V W st q j k)
  (I:∀ k,cd V W st k->k∉W.bs q j->w'.heap[k]?=w.heap[k]?) (ad:w.heap.size<=w'.heap.size) (b1:w'.os=w.os) (ht:w'.tape=w.tape) (ho:w'.output=w.output) :
  ap P V (W.tell q j bs') st2 a w':=by
 have a0:=h.ownb q j _ hl a6;have Z:∀ b,live st2 b<->live st b:=iy O.sh;have a1:∀ {y i:Nat},(y,i)≠(q,j)->(W.tell q j bs').bs y i=W.bs y i:=λh=>if_neg h
 have a3:(W.tell q j bs').bs q j=bs':=if_pos rfl;have b0:∀ (y i:Nat) (l:Leaf),(st2 y).ls[i]?=some l->ao l->(y,i)≠(q,j)->(st y).ls[i]?=some l:=λy i l Y _ J=>O.old y i l J Y
 have H:cF V W (W.tell q j bs') st st2 w w':=by
  refine⟨λy=>⟨O.ver y,λ_=>rfl⟩,λb hb=>⟨(Z b).2 hb,rfl⟩,λ_ h=>h,λk z=>I k (z.elim .inl (λh=>.inr (.inl h))) (λhm=>?_),λhe=>?_⟩
  ·rcases z with z|z
   ·exact (a0 k hm).1 z
   ·exact (a0 k hm).2.1 z
  ·have:=O.epo;omega
 exact {
  nt:=h.nt,df:=h.df
  slots:=λt b2=>by rw[O.sh];exact h.slots t b2
  boxes:=λb hb=>by
   rw[O.sh];rcases h.boxes b hb with ⟨Y,J⟩|⟨Y,E0,J⟩
   ·refine .inl ⟨Y,BV ?_⟩;rw[O.len,J];rfl
   ·refine .inr ⟨Y,E0,?_⟩;show w'.heap[W.β b]?=_;rw[I _ (.inr (.inr (.inl ⟨b,⟨hb,Y⟩,rfl⟩))) (λhm=>(a0 _ hm).2.2 b ⟨hb,Y⟩ rfl)];exact J
  len:=λy=>by rw[O.len];exact h.len y
  one:=h.one
  leaf:=λy i l1 u Y J=>by
   by_cases M:(y,i)=(q,j)
   ·cases M;obtain rfl:=O.at_ l1 Y;have J:(W.cs q)[j]?=some u:=J;rw[hv]at J;simp only[BA]at J;subst J;rw[a3];have a9:cF V W (W.tell q j bs') st st2 w' w':=⟨H.ver,H.box,H.nw,λ_ _=>rfl,λhe=>by have:=O.epo;omega⟩;exact a5.carry hV.ro a9 (λ_=>⟨rfl,λ_ _=>rfl⟩)
   ·have h3:=O.old y i l1 M Y;rw[a1 M];refine (h.leaf y i l1 u h3 J).carry hV.ro H (λho=>⟨rfl,λk z=>I k (.inr (.inr (.inr ⟨y,i,l1,h3,ho,z⟩))) (λhm=>M ?_)⟩);obtain⟨rfl,rfl⟩:=h.sep y i l1 q j _ h3 ho hl a6 k z hm;rfl
  ownb:=λy i l1 Y J k z=>by
   by_cases M:(y,i)=(q,j)
   ·cases M;rw[a3]at z;obtain⟨q1,q2,q3,_⟩:=a4 k z;exact⟨q1,q2,λb hb=>q3 b ((Z b).1 hb)⟩
   ·rw[a1 M]at z;obtain⟨q1,q2,q3⟩:=h.ownb y i l1 (O.old y i l1 M Y) J k z;exact⟨q1,q2,λb hb=>q3 b ((Z b).1 hb)⟩
  sep:=λy i l1 r2 i2 l2 Y J h3 h4 k z a2=>by
   by_cases M:(y,i)=(q,j) <;> by_cases X:(r2,i2)=(q,j)
   ·rw[<- X]at M;cases M;exact⟨rfl,rfl⟩
   ·cases M;rw[a3]at z;rw[a1 X]at a2;exact absurd a2 ((a4 k z).2.2.2 r2 i2 l2 (O.old r2 i2 l2 X h3) h4 X)
   ·cases X;rw[a3]at a2;rw[a1 M]at z;exact absurd z ((a4 k a2).2.2.2 y i l1 (O.old y i l1 M Y) J M)
   ·rw[a1 M]at z;rw[a1 X]at a2;exact h.sep y i l1 r2 i2 l2 (O.old y i l1 M Y) J (O.old r2 i2 l2 X h3) h4 k z a2
  box:=λb hb=>h.box b ((Z b).1 hb)
  inj:=λb b' hb b3=>h.inj b b' ((Z b).1 hb) ((Z b').1 b3)
  nwlt:=λk z=>⟨CK (h.nwlt k z).1 ad,(h.nwlt k z).2⟩
  os:=b1.trans h.os,tape:=ht.trans h.tape,output:=ho.trans h.output,size:=CI h.size ad
  keep:=λk hp=>by
   rw[I k (.inr (.inl hp)) (λhm=>(a0 k hm).2.1 hp)];exact h.keep k hp
  fixb:=λx hx=>⟨(Z _).2 (h.fixb x hx).1,(h.fixb x hx).2⟩
  fixt:=h.fixt }
theorem kJ {q:Nat}(st:St):∀ (ks:List (Nat×Nat)),(∀ x∈ks,x.1≠q)->ac (aE st ks) st q=st q
 |[],_=>rfl
 |(r,j)::ks,h=>by
  have e:ac (aE st ((r,j)::ks)) st=ac [(r,fU (ac (aE st ks) st r) j)] (ac (aE st ks) st):=aO _ _ _ _;rw[e,aI (CQ (h (r,j) (BW ..))),kJ st ks (λx u=>h x (BP _ u))]
theorem kp {q:Nat}(st:St):∀ (ks:List (Nat×Nat)),(∀ x∈ks,x.1≠q)->ac (aM st ks) st q=st q
 |[],_=>rfl
 |(r,j)::ks,h=>by
  have e:ac (aM st ((r,j)::ks)) st=ac [(r,f9 (ac (aM st ks) st r) j)] (ac (aM st ks) st):=aO _ _ _ _;rw[e,aI (CQ (h (r,j) (BW ..))),kp st ks (λx u=>h x (BP _ u))]
theorem OwH.store {w:World}{G G':Nat->Prop}{h h':Option (Nat×Nat)}{E:TypeId}{e:Ty}{xs:List e.den}{g len a3:Nat}{bs K:List Nat}(H:OwH w G h E e xs (.slice (some ⟨g,0,none⟩) len a3) bs)
  (hG:∀ k,G k->G' k) (b1:¬ G' g) (hK:K.Nodup) (cu:∀ k∈K,k∉bs) {i:Nat} {a6 z:e.den} (hi:xs[i]?=some a6) (hh:∀ j,j≠i->cR h' j=cR h j) {off:Nat} {cs:List Value} (e2:off+cs.length<=e.cells)
  (M:∀ c0 b5,Mx w G e (cR h i) 0 a6 c0 b5->∃ c J,Mx w G' e (cR h' i) 0 z c J/\(∀ k,k<e.cells->c[k]?=if off<=k/\k<off+cs.length then cs[k-off]? else c0[k]?)/\∀ k,J.count k<=b5.count k+K.count k) :
  ∃ c2,OwH (w.setCells g (i*e.cells+off) cs) G' h' E e (xs.set i z) (.slice (some ⟨g,0,none⟩) len a3) c2/\∀ k∈c2,k∈bs\/k∈K:=by
 obtain⟨cw,a1,Y,h1,h2,h3⟩:=H;have ad:i<xs.length:=(BD.1 hi).1;obtain⟨c0,b4,c4⟩:=h3 i a6 hi;obtain⟨c,J,hm,c5,b2⟩:=M c0 (Y i) b4;have d1:=h1.1;rcases h1.2 with ⟨h4,_⟩|⟨g',d3,y,mk,h4,hg,ba,cy,cb,a9⟩
 ·simp at h4
 ·simp only[B9,BA,Cj,and_true,true_and]at h4;obtain⟨rfl,rfl,rfl⟩:=h4;have dd:g∈bs:=by rw[h2];simp[B5]
  have dc:=b4.len;have cp:=hm.len;have b3:(i+1)*e.cells<=xs.length*e.cells:=BN _ ad;rw[CC]at b3;have e1:xs.length*e.cells<=a3*e.cells:=BN _ ba;have d2:y.toList.length=y.size:=by rw[CA]
  have b9:a1=y.toList.take (xs.length*e.cells):=a9.symm;have M:=jH g E cs 0 (i*e.cells+off) w y hg;have bx:=kR y.toList cs (i*e.cells+off) (by omega);rw[B6]at bx;rw[bx]at M;simp only[CG]at M;have a0:∀ k,k<xs.length*e.cells->(y.toList.take (i*e.cells+off)++cs++y.toList.drop (i*e.cells+off+cs.length))[k]? =
    if i*e.cells+off<=k/\k<i*e.cells+off+cs.length then cs[k-(i*e.cells+off)]? else a1[k]?:=by
   intro k X;have c1:a1[k]?=y.toList[k]?:=by rw[b9,CE,if_pos X]
   by_cases h9:k<i*e.cells+off
   ·rw[BQ,BH (by simp only[B4];omega),CE,if_pos h9,if_neg (by omega),c1]
   ·by_cases c6:k<i*e.cells+off+cs.length
    ·rw[BQ,BG (by simp only[B4];omega),BH (by simp only[B4];omega),if_pos ⟨by omega,c6⟩];congr 1;simp only[B4];omega
    ·rw[BG (by simp only[B4,BR];omega),CT,if_neg (by omega),c1];congr 1;simp only[B4,BR];omega
  have O:(y.toList.take (i*e.cells+off)++cs++y.toList.drop (i*e.cells+off+cs.length)).length=y.size:=by
   simp only[BR,B4,Cl];omega
  have a4:∀ k,([g]++(BO xs.length).flatMap λj=>if j=i then J else Y j).count k<=bs.count k+K.count k:=by
   intro k;have h5:=ko ad Y J k;have h6:=b2 k;rw[h2];simp only[B5,C9,BF];omega
  have Z:=m8 cw hK cu a4;have b0:∀ j,j<xs.length->∀ k∈(if j=i then J else Y j),k≠g:=by
   intro j hj k X e0;subst e0;have h7:=Z.1;rw[Cv,CL]at h7;exact h7.1 (dU.2 ⟨j,hj,X⟩)
  have I:∀ k,k≠g->(w.setCells g (i*e.cells+off) cs).heap[k]?=w.heap[k]?:=λk X=>eF g cs _ w k X
  refine⟨[g]++(BO xs.length).flatMap λj=>if j=i then J else Y j,⟨Z.1,(y.toList.take (i*e.cells+off)++cs++y.toList.drop (i*e.cells+off+cs.length)).take (xs.length*e.cells),
   λj=>if j=i then J else Y j,⟨?_,.inr ⟨g,a3,_,_,?_,M,?_,by rw[CW,O];exact cy,?_,?_⟩⟩,?_,?_⟩,Z.2⟩
  ·rw[B4,O,CM];omega
  ·rw[CM]
  ·rw[CM];exact ba
  ·rw[CW,O];exact cb
  ·rw[CM]
  ·simp[B5]
  ·intro j x hj;rcases aR _ _ _ _ _ hj with ⟨rfl,rfl,_⟩|⟨a2,hj⟩
   ·refine⟨c,?_,λk u hu=>?_⟩
    ·simp only[if_true];exact hm.carry (λ_ h=>h) (λk X=>I k (λe0=>b1 (e0 ▸ X))) (λk X=>I k (b0 j ad k (by simpa using X)))
    ·have bn:k<e.cells:=by rw[<- cp];exact (BD.1 hu).1
     rw[CE,if_pos (by omega),a0 _ (by omega)];rw[c5 k bn]at hu;by_cases bl:off<=k/\k<off+cs.length
     ·rw[if_pos bl]at hu;rw[if_pos (by omega),<- hu];congr 1;omega
     ·rw[if_neg bl]at hu;rw[if_neg (by omega)];exact c4 k u hu
   ·obtain⟨c',bb,cc⟩:=h3 j x hj;have c3:j<xs.length:=(BD.1 hj).1;refine⟨c',?_,λk u hu=>?_⟩
    ·rw[hh j a2];simp only[if_neg a2];exact bb.carry hG (λk X=>I k (λe0=>b1 (e0 ▸ hG k X))) (λk X=>I k (b0 j c3 k (by rw[if_neg a2];exact X)))
    ·have bn:k<e.cells:=by rw[<- bb.len];exact (BD.1 hu).1
     have cx:(j+1)*e.cells<=xs.length*e.cells:=BN _ c3;rw[CC]at cx;rw[CE,if_pos (by omega),a0 _ (by omega),if_neg ?_]
     ·exact cc k u hu
     ·rintro⟨h14,h15⟩;rcases Nat.lt_or_gt_of_ne (λe=>a2 e.symm:i≠j) with a5|a5
      ·have:(i+1)*e.cells<=j*e.cells:=BN _ a5;rw[CC]at this;omega
      ·have:(j+1)*e.cells<=i*e.cells:=BN _ a5;rw[CC]at this;omega
theorem xP (hV:ax V)(hT:TOk P T){t:TypeId}{x y:Operand}(b1:o.op=.store t x y)(h:act Γ T o st κ=some r):bW P V o st κ r:=by
  simp only[act,wrU,b1]at h;split at h
  · cases h
  · rename_i hd
    cases hb:BT (au st y).2.length (T t).cells&&decide ((au st y).1=bg (T t).agg)&&!decide ((T t).cells=0) with
    |false=>simp[hb]at h
    |true =>
      simp only[hb,cond_true]at h;simp only[BC,decide_eq_true_eq,BY,decide_eq_false_iff_not]at hb;obtain⟨⟨b5,c3⟩,ad⟩:=hb;have b5:=BI b5;split at h
      · rename_i b off hx
        cases Z:decide ((st b).sh=.agg)&&decide (off+(au st y).2.length<=(st b).ls.length)&&hX st (au st y).2 with
        |false=>simp[Z]at h
        |true =>
          simp only[Z,cond_true]at h;simp only[BC,decide_eq_true_eq]at Z;exact⟨_,h,λW a w hr=>tr hV hT b1 hd hx b5 c3 ad Z.1.1 Z.1.2 Z.2 hr⟩
      · rename_i z j fx i sz off hx
        split at h
        · rename_i p hh E e xs es
          cases Z:BT sz e.cells&&decide (off+(au st y).2.length<=e.cells)&&rY z with
          |false=>simp[Z]at h
          |true =>
            simp only[Z,cond_true]at h;simp only[BC,decide_eq_true_eq,rY,BY]at Z;obtain⟨⟨b3,fr⟩,fv,fd⟩:=Z;have b3:=BI b3;subst b3;have fi:z≠EPO:=λe0=>by subst e0;simp at fd
            unfold gH at h;obtain⟨a1,c6,h⟩:=B7.1 h;obtain⟨_,_,h4⟩:=gm c6;simp only[DC]at h4;split at h
            · rename_i u hu
              cases hq:u.rest.isEmpty&&aY u.kill&&dC u.frz u.kill&&!((u.kill++u.frz).any λk=>BT k.1 z) with
              |false=>rw[hq]at h;cases h
              |true =>
                simp only[hq,cond_true]at h;simp only[BC,BY,B8]at hq;obtain⟨⟨⟨eb,ej⟩,e6⟩,a3⟩:=hq;have a3:∀ k∈u.kill++u.frz,k.1≠z:=λk H e0=>a3 k H (by simp[e0])
                obtain ⟨I, hκ, cy, a4, bn⟩ : ∃ I : Option (Nat × Nat), κ ((z, ⟨(st z).ver, (st z).sh, aS (st z).ls j (.own (p || u.p) I E e (xs.set i u.val))⟩) :: (EPO, bV (ac (aM (ac (aE st u.frz) st) u.kill ++ aE st u.frz) st EPO)) ::
                      (aM (ac (aE st u.frz) st) u.kill++aE st u.frz))=some r /\
                    (∀ k,off<=k->k<off+(au st y).2.length->cR I i≠some k)/\(∀ k,¬ (off<=k/\k<off+(au st y).2.length)->(cR I i=some k<->cR hh i=some k))/\(∀ j',j'≠i->cR I j'=cR hh j'):=by
                  cases hh with
                  |none=>exact⟨none,h,λ_ _ _=>by simp[cR],λ_ _=>Cp,λ_ _=>rfl⟩
                  |some hp =>
                    obtain⟨hi,ho⟩:=hp;simp only at h;cases J:Co off ho&&C5 ho (off+(au st y).2.length) with
                    |true =>
                      rw[J]at h;simp only[cond_true]at h;simp only[BC,Cf]at J;have et:=CN J.1;cases ba:BT i hi with
                      |true =>
                        rw[ba]at h;have h9:=h;have:=BI ba;subst this;refine⟨none,h9,λ_ _ _=>by simp[cR],λk H=>?_,λj' dc=>?_⟩
                        · simp only[cR,Nat.beq_refl,cond_true,reduceCtorEq,BA,false_iff]
                          rintro rfl;exact H ⟨et,J.2⟩
                        · have:BT i j'=false:=by
                            cases en:BT i j' with
                            |false=>rfl
                            |true=>exact absurd (BI en).symm dc
                          simp[cR,this]
                      |false=>rw[ba]at h;cases h
                    |false =>
                      rw[J]at h;refine⟨some (hi,ho),h,λk bb f0=>?_,λ_ _=>Cp,λ_ _=>rfl⟩;simp only[cR];cases BT hi i with
                      |false=>simp
                      |true =>
                        simp only[cond_true,ne_eq,BA];rintro rfl;have:(Co off ho&&C5 ho (off+(au st y).2.length))=true:=by
                          simp only[BC,Cf];exact⟨CY bb,f0⟩
                        rw[J]at this;cases this
                refine⟨_,hκ,λW a w hr next Q hn=>?_⟩;obtain⟨cs,hs,M⟩:=cU hr y;rw[c3]at hs;have e5:=gT hs M.one';have c5:=M.length;obtain⟨h5,h6⟩:=eZ es (by simp);obtain⟨hp,_,_,_⟩:=bo hr x (by rw[hx];simp);rw[hx]at hp;obtain⟨g,d3,ed,a6,fz,hv⟩:=hp.2 h5;have ev:T t≠.none:=by intro e;rw[e]at ad;exact ad rfl
                have a2:=hr.leaf z j _ _ h6 a6;have ex:∀ c0 O,Mx w (gd V W p) e (cR hh i) 0 a1 c0 O->∃ c a0,Mx w (λk=>gd V W p k\/bk V W u.p u.frz k) e (cR I i) 0 u.val c a0 /\
                    (∀ k,k<e.cells->c[k]?=if off<=k/\k<off+cs.length then cs[k-off]? else c0[k]?)/\∀ k,a0.count k<=O.count k+(aX W u.kill).count k:=by
                  intro c0 O hm;obtain⟨c1,c2,c',bs',f1,f2,f3,f4,f5,f6,f7,f8⟩:=ml hr cy a4 e 0 a1 (au st y).2 cs u c0 O M hu hm;have cx:c2=[]:=by
                    have:=f2.length;rw[DK.1 eb]at this;exact BV this.symm
                  subst cx;rw[B3]at f1;subst f1;refine⟨c',bs',f4,λk H=>?_,f6⟩;rw[f5 k H,c5];simp only[CR];by_cases J:off<=k/\k<off+cs.length
                  · rw[if_pos J,if_pos J]
                    congr 1;omega
                  · rw[if_neg J,if_neg J]
                have b9:(∀ x∈u.frz,aB st x)/\(∀ x∈u.kill,aB st x):=by
                  obtain⟨_,a5,d1,_,_,cu⟩:=a2;obtain⟨c0,e7,_⟩:=cu i a1 h4;obtain⟨_,_,_,_,_,_,_,_,_,_,f7,f8⟩:=ml hr cy a4 e 0 a1 (au st y).2 cs u c0 _ M hu e7;exact⟨f7,f8⟩
                obtain⟨k1,k2,k3,k4⟩:=fD hV hr e6 b9.2;have X:ac (aM (ac (aE st u.frz) st) u.kill++aE st u.frz) st z=st z:=by
                  rw[bz,kp _ _ (λx hx=>a3 x (BJ _ hx)),kJ _ _ (λx hx=>a3 x (BE _ hx))]
                have h7:(ac (aM (ac (aE st u.frz) st) u.kill++aE st u.frz) st z).ls[j]?=some (.own p hh E e xs):=by rw[X];exact h6
                have a9:=k1.ownb z j _ h7 trivial;have cc:∀ k,gd V W p k\/bk V W u.p u.frz k->gd V (W.frz st u.frz) (p||u.p) k:=by
                  rintro k (H|H)
                  · exact bU (W':=W.frz st u.frz) (by intro h;simp[h]) (λ_ h=>Or.inl h) k H
                  · exact bU (W':=W.frz st u.frz) (by intro h;simp[h]) (λ_ h=>h) k (kg b9.1 k H)
                have b2:g∈W.bs z j:=by obtain⟨_,a5,d1,_,cb,_⟩:=a2;rw[cb];simp[B5]
                have dd:¬ gd V (W.frz st u.frz) (p||u.p) g:=by
                  rintro (H|⟨_,H⟩)
                  · exact (a9 g b2).1 H
                  · exact (a9 g b2).2.1 (hV.ro g H)
                have ef:∀ k∈aX W u.kill,k∉W.bs z j:=λk H fc=>(k4 k H).2.2.2.2 z j _ h7 trivial fc
                obtain⟨bs',cw,d2⟩:=OwH.store (G':=gd V (W.frz st u.frz) (p||u.p)) (h':=I) a2 (λk H=>cc k (.inl H)) dd (gN hr ej b9.2) ef h4 bn (off:=off) (cs:=cs) (by omega)
                  (λc0 O hm=>by
                    obtain⟨c,a0,q1,q2,q3⟩:=ex c0 O hm;exact⟨c,a0,q1.mono cc,q2,q3⟩)
                obtain⟨_,a5,d1,ho,cb,_⟩:=a2;have eg:d3=xs.length:=by
                  obtain⟨A,c4,e0,_⟩:=ho.slice;simp only[B9]at e0;exact e0.2.1
                subst eg;rcases ho.2 with ⟨h8,_⟩|⟨g',c4,cur,mk,h8,hg,em,ec,fo,_⟩
                · simp at h8
                · simp only[B9,BA,Cj,and_true,true_and]at h8
                  obtain⟨rfl,rfl⟩:=h8;have bx:(i+1)*e.cells<=xs.length*e.cells:=BN _ (BD.1 h4).1;rw[CC]at bx;have fl:xs.length*e.cells<=ed*e.cells:=BN _ em;have bl:cur.toList.length=cur.size:=by rw[CA]
                  have cp:=m7 (P:=P) (oM (hT t) ev) (w:=w) (b:=g) (off:=i*e.cells+off) (cur:=cur.toList) (E:=E) (by rw[B6];exact hg) (by rw[bl];exact zu ec) e5 (by omega) M.one' (by omega);refine pz (w':=w.setCells g (i*e.cells+off) cs) (by simp[execOp,b1,hv,cp]) ?_;rw[hd];refine hn _ _ ?_;obtain⟨e1,e2,e3,e4⟩:=jI g cs (i*e.cells+off) w;refine⟨_,k1.retell hV (l':=.own (p||u.p) I E e (xs.set i u.val)) (w':=w.setCells g (i*e.cells+off) cs) (bs':=bs') ?_ h7 trivial a6 trivial cw (λk H=>?_) (λk _ H=>eF g cs _ w k (λe=>H (e ▸ b2))) (Cn e4.symm) e1 e2 e3⟩
                  · rw[aO z,aO EPO]
                    have Y:EPO≠z:=CQ fi;generalize aM (ac (aE st u.frz) st) u.kill++aE st u.frz=U at X ⊢;refine⟨λq=>?_,λq=>?_,?_,λq=>?_,λl M=>?_,λq i' l hq M=>?_⟩
                    · rcases am z q ⟨(st z).ver,(st z).sh,aS (st z).ls j (.own (p||u.p) I E e (xs.set i u.val))⟩ (ac [(EPO,bV (ac U st EPO))] (ac U st)) with ⟨rfl,e⟩ | ⟨_,e⟩
                      · rw[e,X]
                      · rw[e]
                        rcases am EPO q (bV (ac U st EPO)) (ac U st) with ⟨rfl,e⟩|⟨_,e⟩ <;> rw[e];rfl
                    · rcases am z q ⟨(st z).ver,(st z).sh,aS (st z).ls j (.own (p||u.p) I E e (xs.set i u.val))⟩ (ac [(EPO,bV (ac U st EPO))] (ac U st)) with ⟨rfl,e⟩ | ⟨_,e⟩
                      · rw[e,X];exact BU _
                      · rw[e]
                        rcases am EPO q (bV (ac U st EPO)) (ac U st) with ⟨rfl,e⟩|⟨_,e⟩ <;> rw[e]
                        · exact DP _
                        · exact BU _
                    · rw[aI Y,bi];exact BM _
                    · rcases am z q ⟨(st z).ver,(st z).sh,aS (st z).ls j (.own (p||u.p) I E e (xs.set i u.val))⟩ (ac [(EPO,bV (ac U st EPO))] (ac U st)) with ⟨rfl,e⟩ | ⟨_,e⟩
                      · rw[e,X];simp[aS]
                      · rw[e]
                        rcases am EPO q (bV (ac U st EPO)) (ac U st) with ⟨rfl,e⟩|⟨_,e⟩ <;> rw[e];rfl
                    · rw[bi]at M
                      rcases aR _ _ _ _ _ M with ⟨_,rfl,_⟩|⟨Y,_⟩
                      · rfl
                      · exact absurd rfl Y
                    · rcases am z q ⟨(st z).ver,(st z).sh,aS (st z).ls j (.own (p||u.p) I E e (xs.set i u.val))⟩ (ac [(EPO,bV (ac U st EPO))] (ac U st)) with ⟨rfl,e⟩ | ⟨_,e⟩
                      · rw[e]at M
                        rw[X];rcases aR _ _ _ _ _ M with ⟨rfl,_,_⟩|⟨_,M⟩
                        · exact absurd rfl hq
                        · exact M
                      · rw[e]at M
                        rcases am EPO q (bV (ac U st EPO)) (ac U st) with ⟨rfl,e⟩|⟨_,e⟩ <;> rw[e]at M <;> exact M
                  · rcases d2 k H with H|H
                    · have h9:=k1.ownb z j _ h7 trivial k H
                      exact⟨h9.1,h9.2.1,h9.2.2,λr1 i1 l1 b4 b0 Y bb=>Y (by obtain⟨e1,e2⟩:=k1.sep r1 i1 l1 z j _ b4 b0 h7 trivial k bb H;rw[e1,e2])⟩
                    · have h9:=k4 k H
                      exact⟨h9.1,h9.2.1,h9.2.2.2.1,λr1 i1 l1 b4 b0 _=>h9.2.2.2.2 r1 i1 l1 b4 b0⟩
            · cases h
        · cases h
      · cases h
end
section
variable {P:Program} {V:Env} {Γ:List Ctr} {T:TypeId->TI} {st:St} {o:Oper} {R:Type} {κ:Upd->Option R} {r:R}
theorem ap.putOwn (Y:ax V){W:Wit}{a:Act}{w w':World}(h:ap P V W st a w)(M:w.heap.size<=w'.heap.size)(I:w'.os=w.os)(ht:w'.tape=w.tape)(ho:w'.output=w.output)
  (hk:∀ k,cd V W st k->w'.heap[k]?=w.heap[k]?) (d:Nat) (hd:d<V.nt) (z:∀ x∈V.fixt,x.1≠d) (n:Nat) (hn:(st d).ver<n) {p:Bool} {E:TypeId} {e:Ty} {xs:List e.den} {v:Value} {bs:List Nat}
  (ow:Ow w' (gd V W p) E e xs v bs) (hb:∀ k∈bs,¬ cd V W st k):Rel P V (ac [(d,⟨n,.one,[.own p none E e xs]⟩)] st) (a.put (some d) v) w':=by
 refine⟨_,(h.world Y M I ht ho hk).put Y d hd z n .one [.own p none E e xs] v [v] (λ_=>bs) hn rfl rfl (λu Z=>by simp at Z;subst Z;exact ow.one) ?_ ?_ ?_⟩
 ·intro j l u y H;cases j with
  |zero=>simp at y H;subst y;subst H;exact ow
  |succ j=>simp at y
 ·intro j l y H k J;have:=hb k J;simp only[cd,not_or,not_exists,not_and]at this;exact⟨this.1,this.2.1,this.2.2.1,λr1 j1 l1 _ O X=>this.2.2.2 r1 j1 l1 O X⟩
 ·intro j j' l l' y H O X k h5 h6;have h7:j<1:=(BD.1 y).1;have h8:j'<1:=(BD.1 O).1;omega
theorem dP {W:Wit}{p q:Bool}{z y:List (Nat×Nat)}:(∀ k,bk V W p z k->bk V W (p||q) (z++y) k)/\(∀ k,bk V W q y k->bk V W (p||q) (z++y) k):=by
 constructor
 ·rintro k (u|⟨x,H,u⟩)
  ·exact .inl (bU (W':=W) (by intro h;simp[h]) (λ_ h=>h) k u)
  ·exact .inr ⟨x,BJ _ H,u⟩
 ·rintro k (u|⟨x,H,u⟩)
  ·exact .inl (bU (W':=W) (by intro h;simp[h]) (λ_ h=>h) k u)
  ·exact .inr ⟨x,BE _ H,u⟩
theorem xQ (n:Nat)(u:Nat->List Nat):(BO (n+1)).flatMap u=u 0++(BO n).flatMap λj=>u (j+1):=by
 rw[List.range_succ_eq_map,CO,DL]
theorem ot {W:Wit}{a:Act}{w:World}(M:ap P V W st a w){e:Ty}:∀ (ps:List (Nat×Operand)) (k:Nat) (u:cM (List e.den)),ew st e k ps=some u ->
  ps.map (λx=>(x.1,a.eval x.2))=((ps.map λx=>a.eval x.2).zipIdx k).map (λx=>(x.2,x.1))/\u.val.length=ps.length/\(∀ x∈u.frz,aB st x)/\(∀ x∈u.kill,aB st x) /\
  ∃ z:Nat->List Nat,aX W u.kill=(BO u.val.length).flatMap z /\
   ∀ (j:Nat) (x:e.den),u.val[j]?=some x->∃ v c,(ps.map λx=>a.eval x.2)[j]?=some v/\v.cells=c.toArray/\Mx w (bk V W u.p u.frz) e none 0 x c (z j)
 |[],k,u,h=>by
  simp only[ew,BA]at h;subst h;exact⟨rfl,rfl,by simp,by simp,λ_=>[],rfl,λj x I=>by simp at I⟩
 |(i,y)::ps,k,u,h=>by
  simp only[ew]at h;cases H:BT i k&&decide ((au st y).1=bg e.isAgg) with
  |false=>simp[H]at h
  |true =>
   simp only[H,cond_true]at h;simp only[BC,decide_eq_true_eq]at H;have X:=BI H.1;subst X;split at h
   ·rename_i t1 u1 hg J;simp only[BA]at h;subst h;obtain⟨h1,h2,h3,h4,z,h5,h6⟩:=ot M ps (i+1) u1 J;obtain⟨cs,Y,Z⟩:=cU M y;rw[H.2]at Y;have hc:=gT Y Z.one';obtain⟨g1,g2,g3⟩:=dN (pos:=0) M Z hg;refine⟨by simp[h1],by simp[h2],λx O=>(BL.1 O).elim (g2 x) (h3 x),λx O=>(BL.1 O).elim (g3 x) (h4 x),λj=>match j with|0=>aX W t1.kill|j+1=>z j,?_,?_⟩
    ·rw[dI,h5,Cm,xQ]
    ·intro j x I;cases j with
     |zero =>
      simp at I;subst I;exact⟨a.eval y,cs,by simp,hc,g1.mono dP.1⟩
     |succ j =>
      obtain⟨v,c,h7,h8,h9⟩:=h6 j x (by simpa using I);exact⟨v,c,by simpa using h7,h8,h9.mono dP.2⟩
   ·cases h
theorem lE (w:World)(G:Nat->Prop):∀ (b:Ty),Rd w G b b.zero (zeroCells b)
 |.int _=>rfl
 |.bool=>rfl
 |.str=>rfl
 |.unit=>rfl
 |.hdr=>⟨none,0,rfl⟩
 |.pair a b=>⟨_,_,rfl,lE w G a,lE w G b⟩
 |.list m E e=>Rd.nil w G m E e
theorem qC (w:World)(G:Nat->Prop):∀ (b:Ty) (pos:Nat),Mx w G b none pos b.zero (zeroCells b) []
 |.int _,_=>⟨rfl,rfl⟩
 |.bool,_=>⟨rfl,rfl⟩
 |.str,_=>⟨rfl,rfl⟩
 |.unit,_=>⟨rfl,rfl⟩
 |.hdr,_=>⟨⟨none,0,rfl⟩,rfl⟩
 |.pair a b,_=>⟨_,_,[],[],rfl,rfl,qC w G a _,qC w G b _⟩
 |.list m E e,_=>by
  cases m with
  |false=>exact cn.2 ⟨rfl,Rd.nil w G false E e⟩
  |true=>exact (bI (by simp)).2 ⟨_,rfl,(OwH.nil w G E e).2⟩
theorem mm {W:Wit}{k:Nat}(h:¬ W.nw k/\¬ V.prot k/\(∀ b,live st b->W.β b≠k)/\∀ (u i:Nat) (l:Leaf),(st u).ls[i]?=some l->ao l->k∉W.bs u i):¬ cd V W st k:=by
 rintro (y|y|⟨b,z,e⟩|⟨u,i,l,J,I,H⟩)
 ·exact h.1 y
 ·exact h.2.1 y
 ·exact h.2.2.1 b z e
 ·exact h.2.2.2 u i l J I H
theorem mn:(9223372036854775807:Nat)<=maxLen:=by decide
theorem qD (hV:ax V)(hT:TOk P T)(b0:bM V o){t:TypeId}{n:Nat}{y:Array (Nat×Operand)}(a0:o.op=.buildSlice t n y)(h:act Γ T o st κ=some r):bW P V o st κ r:=by
 simp only[act,wrU,a0]at h;cases ht:T t with
 |slice E e c1 =>
  simp only[ht]at h;split at h
  ·rename_i u bx;cases hb:BT u.val.length n&&decide (n*e.cells<=16777216)&&aY u.kill&&dC u.frz u.kill with
   |false=>simp[hb]at h
   |true =>
    simp only[hb,cond_true]at h;simp only[BC,decide_eq_true_eq]at hb;obtain⟨⟨⟨c5,cc⟩,bb⟩,c6⟩:=hb;have bn:=BI c5;subst bn;split at h
    ·rename_i d hd;refine⟨_,h,λW a w hr next Q hn=>?_⟩;have h1:=hT t;rw[ht]at h1;obtain⟨hu,_,_,Y,_,ti,z,a5,O,_,hz,cb⟩:=h1;obtain⟨h2,h3,b4,ba,b9,c3,h5⟩:=ot hr y.toList 0 u bx;generalize cp:u.val=I at *;have a3:∀ v∈(y.toList.map λx=>a.eval x.2),v.cells.size=e.cells:=by
      intro v hv;obtain⟨j,hj,e1⟩:=List.getElem_of_mem hv;have bl:j<I.length:=by rw[h3];simpa using hj
      obtain⟨v',c,X,Z,h8⟩:=h5 j I[j] (BS bl);rw[BS hj]at X;simp only[BA]at X;rw[<- e1,X,Z];simpa using h8.len
     have b2:(y.toList.map λx=>a.eval x.2).length=I.length:=by rw[Cc,h3]
     have a4:∀ (j:Nat) (x:e.den),I[j]?=some x->∃ c,Mx w (bk V W u.p u.frz) e none 0 x c (b9 j)/\∀ i u,c[i]?=some u ->
       ((y.toList.map λx=>a.eval x.2).flatMap λv=>v.cells.toList)[j*e.cells+i]?=some u:=by
      intro j x hj;obtain⟨v,c,X,Z,h8⟩:=h5 j x hj;refine⟨c,h8,λi u hi=>?_⟩;have b5:i<e.cells:=by rw[<- h8.len];exact (BD.1 hi).1
      rw[Great.flat_get Y _ a3];have e1:(j*e.cells+i) / e.cells=j:=by
       rw[Cq,Nat.mul_add_div Y,Nat.div_eq_of_lt b5,CG]
      have e2:(j*e.cells+i) % e.cells=i:=by
       rw[Cq,DU,DM b5]
      rw[e1,e2,X];simpa[Z]using hi
     have a1:((y.toList.map λx=>a.eval x.2).flatMap λv=>v.cells.toList).length=I.length*e.cells:=by
      have:∀ (vs:List Value),(∀ v∈vs,v.cells.size=e.cells)->(vs.flatMap λv=>v.cells.toList).length=vs.length*e.cells:=by
       intro vs;induction vs with
       |nil=>intro _;simp
       |cons v vs ih =>
        intro hv;rw[CO,BR,ih (λu hu=>hv u (BP _ hu)),CA,hv v (BW ..),Cm,CC];omega
      rw[this _ a3,b2]
     have H:=Great.fill_whole Y (y.toList.map λx=>a.eval x.2) ((Array.range (I.length*e.cells)).map ((if I.length*e.cells=0 then (#[]:Array Value) else z.cells)[· % (if I.length*e.cells=0 then (#[]:Array Value) else z.cells).size]!)) a3 (by rw[b2];simp);rw[<- h2]at H;have a2:(y.map λ (i,x)=>(i,a.eval x)).toList=y.toList.map λx=>(x.1,a.eval x.2):=by rw[DN]
     have ad:(execOp a.eval o).run P w=.ok (.value (.slice (some ⟨w.heap.size,0,none⟩) I.length I.length)) (w.alloc (.cells ((y.toList.map λx=>a.eval x.2).flatMap λv=>v.cells.toList).toArray E)):=by
      have M:¬ (I.length*e.cells>2 ^ 24):=by omega
      by_cases h0:I.length*e.cells=0
      ·rw[if_pos h0]at H;simp only[execOp,a0,Instr.buildSlice,DD,run_underlying hu,Ch,sizeOf,typeInfo,a5,O,a2];simp[M,h0,newRow,a5,O,a2]at H ⊢;simp[H]
      ·rw[if_neg h0]at H;have:=run_buildSlice (P:=P) w t E I.length (y.map λ (i,x)=>(i,a.eval x)) _ ti z hu a5 hz (by rw[O];exact M) (by rw[O];exact h0) (by rw[O,a2];exact H);simp[execOp,a0,this]
     refine dV ad ?_;rw[hd];refine hn _ _ ?_;rw[cj,aO];obtain⟨X,_,_,a6⟩:=fD hV hr c6 ba;have b1:=X.used_lt;have b3:I.length<=maxLen:=by
      have:=mn;have:I.length*1<=I.length*e.cells:=Ce _ Y;omega
     have c4:=World.ownsRow_lit (e:=E) (size:=e.cells) (base:=0) w ((y.toList.map λx=>a.eval x.2).flatMap λv=>v.cells.toList).toArray I.length (DQ _) b3 (by simpa using a1);refine X.putOwn hV (w':=w.alloc (.cells ((y.toList.map λx=>a.eval x.2).flatMap λv=>v.cells.toList).toArray E)) (by simp) rfl rfl rfl (λk J=>Go.heap_alloc_old w _ (b1 k J)) d (b0 d hd).1 (b0 d hd).2 _ (BM _) (bs:=w.heap.size::aX W u.kill) ?_ (λk J hu=>?_)
     ·refine⟨CL.2 ⟨λhm=>?_,gN hr bb ba⟩,_,b9,Row.of c4,by rw[c3];rfl,λj x hj=>?_⟩
      ·have:=(a6 _ hm).2.2.1;omega
      ·obtain⟨c,a9,c2⟩:=a4 j x hj;have c0:∀ k,bk V W u.p u.frz k->k<w.heap.size:=λk J=>by
        rcases kg b4 k J with J|⟨_,J⟩
        ·exact (X.nwlt k J).1
        ·exact CK (hV.ro k J).1 X.size
       exact⟨c,a9.carry (kg b4) (λk J=>Go.heap_alloc_old w _ (c0 k J)) (λk J=>Go.heap_alloc_old w _ (a9.lt k J)),λi u hi=>by simpa using c2 i u hi⟩
     ·rcases CS.1 J with rfl|J
      ·have:=b1 _ hu;omega
      ·have Z:=a6 k J;exact mm ⟨Z.1,Z.2.1,Z.2.2.2.1,Z.2.2.2.2⟩ hu
    ·cases h
  ·cases h
 |_=>simp[ht]at h
theorem xR {w:World}{G:Nat->Prop}{E':TypeId}{y u e:TypeId}(Y:P.underlying y=some (.slice e))(Z:P.underlying e=some (.int .u8))(O:P.underlying u=some .string){xs:List Int}{v:Value}
  (h:Rd w G (.list false E' (.int .u8)) xs [v]):(convert y u v).run P w=.ok (.string (gI xs)) w:=by
 obtain⟨A,z,hv,hc,J⟩:=h;simp only[Cd,and_true]at hv;subst hv;cases A with
 |none =>
  have hx:xs=[]:=by
   cases xs with
   |nil=>rfl
   |cons x xs=>obtain⟨g,o,M,_⟩:=J (by simp);cases M
  subst hx;show (convert y u (.slice none 0 z)).run P w=_;rw[run_convert_bytes_nil w y e Y Z 0 z u O];rfl
 |some ad =>
  cases H:xs with
  |nil =>
   subst H;show (convert y u (.slice (some ad) 0 z)).run P w=_;rw[run_convert_bytes_string w y u e ad 0 z Y Z O];simp[Conv.bytesToString,loadCells,loadCellsFrom];rfl
  |cons x0 a0 =>
   rw[<- H];obtain⟨g,o,M,_,hr⟩:=J (by rw[H];simp);simp only[BA]at M;subst M;have:=run_convert_bytes_arg (P:=P) w y e Y Z g o xs.length z xs rfl (λi hi=>by
    obtain⟨c,I,X⟩:=hr i xs[i] (BS hi);have I:c=[.int .u8 xs[i]]:=I;subst I;have:=X 0 _ rfl;simp only[Ty.cells,C0,CG]at this;rw[this];simp[List.getD,BS hi]) u O
   rw[this];rfl
theorem uw (hV:ax V)(hT:TOk P T)(J:bM V o){s t:TypeId}{x:Operand}(M:o.op=.convert s t x)(h:act Γ T o st κ=some r):bW P V o st κ r:=by
 simp only[act,wrU,M]at h;have z:=hT t;have y:=hT s;split at h
 ·rename_i k' k a5 n Y Z hx;split at h
  ·rename_i d O;refine⟨_,h,λW a w I=>aN hV I O J (v:=.int k (k.wrap n)) ?_ rfl id rfl⟩;rw[Z]at z;rw[Y]at y;simp[execOp,M,bE I hx,Go.convert,run_underlying z.1,run_underlying y.1,Conv.intToInt]
  ·cases h
 ·rename_i E b Y Z;split at h
  ·rename_i p xs ha;split at h
   ·rename_i d O;refine⟨_,h,λW a w I=>?_⟩;have a0:one st x≠.dead:=by intro e0;rw[e0]at ha;simp[aD,dh]at ha
    obtain⟨h1,h2,_⟩:=bo I x a0;have a4:=ky (m:=false) (E:=E) I h1 h2 ha;rw[Z]at z;rw[Y]at y;refine aN hV I O J (v:=.string (gI xs)) ?_ rfl id rfl;have:=xR (P:=P) y.1 (y.2.2.2.2.1.2 rfl) z.1 a4;simp[execOp,M,this]
   ·cases h
  ·cases h
 ·rename_i E b H Y Z hx;cases hE:BT E 5 with
  |false=>simp[hE]at h
  |true =>
  simp only[hE,cond_true]at h;have a3:E=5:=BI hE;split at h
  ·rename_i d O;refine⟨_,h,λW a w I next Q hn=>?_⟩;rw[Z]at z;rw[Y]at y;have hc:(eo H).length=H.size:=by simp only[eo,Cc,CA];rfl
   have X:=Lib.run_convert_string_bytes (P:=P) w s t E H y.1 z.1 (z.2.2.2.2.1.2 rfl);refine dV (v:=.slice (some ⟨w.heap.size,0,none⟩) H.size (grownCap w H.size 0 E)) (w':=Lib.bytesWorld w E H) (by simp[execOp,M,iw I hx,X]) ?_;rw[O];refine hn _ _ ?_;have a2:=grownCap_ge w H.size 0 E;have a1:(Lib.bytesCells w E H).size=grownCap w H.size 0 E:=by
    simp only[Lib.bytesCells,DE,Array.size_map,Array.size_replicate];show H.size+_=_;omega
   refine I.putOwn hV (by rw[Lib.bytesWorld_size];omega) (by simp[Lib.bytesWorld,DF,DR,DZ,-C3,-C7]) (by simp[Lib.bytesWorld,DF,DR,DZ,-C3,-C7]) (by simp[Lib.bytesWorld,DF,DR,DZ,-C3,-C7])
    (λk hk=>Lib.bytesWorld_at_old w E H k (I.used_lt k hk)) d (J d O).1 (J d O).2 _ (BM _) (bs:=[w.heap.size])
    ⟨by simp,(eo H).map (Value.int .u8),λ_=>[],⟨by rw[Cc];exact (C0 _).symm,.inr ⟨w.heap.size,_,_,_,by rw[hc],Lib.bytesWorld_at_new w E H,by rw[hc];exact a2,.inr ⟨a3,BU _⟩,by rw[a1];exact Cn (C0 _),?_⟩⟩,by simp[B5],λj x hj=>?_⟩ (λk hk hu=>?_)
   ·simp only[Lib.bytesCells,C6,DN,Ty.cells,C0,eo,DG];exact List.take_left' (by simp)
   ·refine⟨[.int .u8 x],⟨rfl,rfl⟩,λi u hi=>?_⟩
    match i,hi with
    |0,hi =>
     simp only[CU,BA]at hi;subst hi;simp[Ty.cells,hj]
   ·simp at hk;have:=I.used_lt k hu;omega
  ·cases h
 ·cases h
theorem rV (hV:ax V)(hT:TOk P T)(M:bM V o){t:TypeId}{n c:Operand}(Y:o.op=.makeSlice t n c)(h:act Γ T o st κ=some r):bW P V o st κ r:=by
 simp only[act,wrU,Y]at h;split at h
 ·rename_i E e H k1 m k2 m' ht a6 b2;cases hb:decide (0<=m)&&decide (m=m')&&decide (m*H<=(an:Int)) with
  |false=>simp[hb]at h
  |true =>
   simp only[hb,cond_true]at h;simp only[BC,decide_eq_true_eq]at hb;obtain⟨⟨h0,rfl⟩,a0⟩:=hb;split at h
   ·rename_i d hd;refine⟨_,h,λW a w X next Q hn=>?_⟩;have h1:=hT t;rw[ht]at h1;obtain⟨hu,_,_,bb,b0,ti,z,b3,a9,b4,hz,J⟩:=h1;have hm:(m.toNat:Int)=m:=by omega
    have O:m.toNat*H<=an:=by
     have:((m.toNat*H:Nat):Int)<=(an:Int):=by rw[Int.natCast_mul,hm];exact a0
     omega
    have ba:m.toNat*1<=m.toNat*H:=Ce _ b0.1;simp only[an]at O;have b5:=mn;obtain⟨w',I,a3,y⟩:=run_make_full (P:=P) w 0 t E ti z e.cells hu b3 hz a9 k1 k2 m.toNat (by rw[b4,Cq];omega) (by omega) (DQ _);rw[hm]at I;refine dV (v:=.slice (some ⟨w.heap.size,0,none⟩) m.toNat m.toNat) (w':=w') (by simp[execOp,Y,bE X a6,bE X b2,I]) ?_;rw[hd];refine hn _ _ ?_;have a4:z.cells.size=e.cells:=by
     have h2:=(lE w (λ_=>False) e).len;rw[<- CA,J,h2]
    refine X.putOwn hV y.size y.os y.tape y.output (λk hk=>y.block k (X.used_lt k hk) (by simp)) d (M d hd).1 (M d hd).2 _ (BM _) (bs:=[w.heap.size])
     ⟨by simp,_,λ_=>[],by rw[Cw];exact Row.of a3,by simp[B5],λj x hj=>?_⟩ (λk hk hu=>?_)
    ·rw[CV]at hj;split at hj
     ·rename_i ad;simp at hj;subst hj;refine⟨_,qC w' _ e 0,λi u hi=>?_⟩;have a1:i<e.cells:=by rw[<- (lE w' (λ_=>False) e).len];exact (BD.1 hi).1
      have Z:(j+1)*e.cells<=m.toNat*e.cells:=BN _ ad;rw[CC]at Z;have a2:j*e.cells+i<m.toNat*e.cells:=by omega
      have e2:(j*e.cells+i) % e.cells=i:=by rw[Cq,DU,DM a1]
      have b1:z.cells[i]?=some u:=by rw[<- Cx,J];exact hi
      obtain⟨b9,a5⟩:=Array.getElem?_eq_some_iff.1 b1;simp only[madeCells,Cx,Array.getElem?_map,Array.getElem?_range,a2,if_true,DV,a4,e2];rw[getElem!_pos z.cells i (by omega),a5]
     ·cases hj
    ·simp at hk;have:=X.used_lt k hu;omega
   ·cases h
 ·cases h
theorem ux (n u:Nat)(y:n<=u)(k z:IntKind)(w:World):(DH true n u none (some (.int k n)) (some (.int z n))).run P w=.ok (0,n,n) w:=by
 simp[DH,Instr.sliceBound,asIntOf,y]
theorem wb (hV:ax V)(hT:TOk P T)(a4:bM V o){t:TypeId}{x m:Operand}{lo hi:Option Operand}(Z:o.op=.slice t x lo hi (some m))(h:act Γ T o st κ=some r):bW P V o st κ r:=by
 simp only[act,wrU,Z]at h;cases hd:o.dst with
 |none=>simp[hd]at h
 |some d =>
  simp only[hd]at h;split at h
  ·rename_i E' e' b5 X j v ht hx;split at h
   ·rename_i p E e J hdr;split at h
    ·rename_i hh k bl b4;cases hb:hi.isSome&&decide (hh=(J.length:Int))&&decide (k=(J.length:Int))&&BT e'.cells e.cells with
     |false=>rw[hb]at h;cases h
     |true =>
      rw[hb]at h;simp only[cond_true]at h;simp only[BC,decide_eq_true_eq]at hb;obtain⟨⟨⟨a9,rfl⟩,rfl⟩,O⟩:=hb;have O:=BI O;refine⟨_,h,λW a w hr next Q hn=>?_⟩;have h1:=hT t;rw[ht]at h1;obtain⟨hu,_,_,_,_,ti,z,c6,b0,_⟩:=h1;obtain⟨a2,_,_,_,_⟩:=bo hr x (by rw[hx];simp);rw[hx]at a2;obtain⟨h8,a3,c1,cc⟩:=ke hr hdr a2;obtain⟨y,hy,k1,c3⟩:∃ y,hi=some y/\∃ k1,a.eval y=.int k1 J.length:=by
       rcases mK hr bl with ⟨I,_⟩|⟨y,k1,I,H⟩
       ·rw[I]at a9;cases a9
       ·exact⟨y,I,k1,H⟩
      obtain⟨k2,c4⟩:∃ k2,a.eval m=.int k2 J.length:=by
       rcases mK hr b4 with ⟨I,_⟩|⟨y,k2,I,H⟩
       ·cases I
       ·cases I;exact⟨k2,H⟩
      obtain⟨A,b9,hv,a1⟩:=a3.slice;have hE:=dt (P:=P) (t:=E') (n:=e.cells) (by simp[bQ,c6,b0,O]) w;have a5:(if J.length=0 then A else A.map λx=>x.add (0*e.cells))=A:=by
       cases A with
       |none=>simp
       |some ad =>
        have e0:ad.add 0=ad:=by simp[Addr.add]
        show (if J.length=0 then some ad else some (ad.add (0*e.cells)))=some ad;rw[DI,e0];split <;> rfl
      refine dV (v:=.slice A J.length J.length) (w':=w) ?_ ?_
      ·simp only[execOp,Z,hv,hy,DV,Cu,c3,c4,Instr.sliceAt,Instr.slice,DD,run_underlying hu,Ch,ux J.length b9 a1 k1 k2 w,hE,Sem.run_pure,Cr,a5]
      ·rw[hd];refine hn _ _ ?_;rw[cj,aO];have b1:∀ z∈[(X,j)],aB st z:=λz hz=>by simp at hz;subst hz;exact⟨_,c1,trivial⟩
       obtain⟨h6,_,_,u⟩:=fD (frz:=[]) (kill:=[(X,j)]) hV hr rfl b1;have e1:aM (ac (aE st []) st) [(X,j)]++aE st []=aM st [(X,j)]:=B3 _;rw[e1]at h6 u;have ba:aX W [(X,j)]=W.bs X j:=by simp[aX]
       rw[ba]at u;obtain⟨bb,a0,c5,M,a6,c2⟩:=a3;refine h6.putOwn hV (w':=w) (BU _) rfl rfl rfl (λ_ _=>rfl) d (a4 d hd).1 (a4 d hd).2 _ (BM _) (bs:=W.bs X j) ?_ (λk hk=>mm ⟨(u k hk).1,(u k hk).2.1,(u k hk).2.2.2.1,(u k hk).2.2.2.2⟩);have b3:∀ k,gd V W p k->gd V (W.frz st []) p k:=bU (W':=W.frz st []) (λh=>h) (λ_ h=>Or.inl h);refine OwH.carry (G:=gd V W p) ⟨bb,a0,c5,⟨M.1,?_⟩,?_,c2⟩ b3 (λ_ _=>rfl) (λ_ _=>rfl)
       ·rcases M.2 with ⟨Y,I⟩|⟨g,cb,bx,mk,Y,I,H,bn,c0,b2⟩
        ·rw[hv]at Y;simp only[B9]at Y;exact .inl ⟨by rw[Y.1,I],I⟩
        ·rw[hv]at Y;simp only[B9,true_and]at Y;exact .inr ⟨g,J.length,bx,mk,by rw[Y.1],I,BU _,bn.imp (λh=>⟨h.1,CI H h.2⟩) id,CI (BN _ H) c0,b2⟩
       ·rw[a6,hv];cases A <;> rfl
    ·cases h
   ·cases h
  ·cases h
theorem xS (H:ax V)(I:TOk P T)(y:bM V o){t:TypeId}{x:Operand}{M J z:Option Operand}(u:o.op=.slice t x M J z)(h:act Γ T o st κ=some r):bW P V o st κ r:=by
 cases z with
 |none=>exact vv H I y u h
 |some m=>exact wb H I y u h
theorem At (hV:ax V)(I:bM V o){c:Call}(H:o.op=.call c)(O:c.callee=.builtin .min)(h:act Γ T o st κ=some r):bW P V o st κ r:=by
 simp only[act,wrU,H,O]at h;split at h
 ·cases h
 ·rename_i d M;simp only[M]at h;split at h
  ·rename_i x y hx;split at h
   ·rename_i X m k2 n Y Z;have u:c.args=#[x,y]:=by rw[<- B6 (xs:=c.args),hx]
    refine⟨_,h,λW a w J=>aN hV J M I (v:=.int X (bif decide (n<m) then n else m)) ?_ rfl id rfl⟩;cases z:decide (n<m) <;> simp[execOp,H,O,resolve,invoke,builtin,u,bE J Y,bE J Z,Builtin.min_,Builtin.min2] <;> simp at z <;> omega
   ·cases h
  ·cases h
theorem Au (hV:ax V)(I:bM V o){c:Call}(H:o.op=.call c)(O:c.callee=.builtin .max)(h:act Γ T o st κ=some r):bW P V o st κ r:=by
 simp only[act,wrU,H,O]at h;split at h
 ·cases h
 ·rename_i d M;simp only[M]at h;split at h
  ·rename_i x y hx;split at h
   ·rename_i X m k2 n Y Z;have u:c.args=#[x,y]:=by rw[<- B6 (xs:=c.args),hx]
    refine⟨_,h,λW a w J=>aN hV J M I (v:=.int X (bif decide (m<n) then n else m)) ?_ rfl id rfl⟩;cases z:decide (m<n) <;> simp[execOp,H,O,resolve,invoke,builtin,u,bE J Y,bE J Z,Builtin.max_,Builtin.max2] <;> simp at z <;> omega
   ·cases h
  ·cases h
end
section
variable {P:Program} {V:Env} {W:Wit} {st st':St} {w w':World} {a:Act}
theorem ap.putGhost (hV:ax V)(h:ap P V W st a w)(d:Nat)(hd:GH<=d)(a4:d<B0)(n:Nat)(sh:aH)(ls:List Leaf)
  (X:List Value) (I:Nat->List Nat) (hn:(st d).ver<n) (hl:ls.length=X.length) (h1:∀ u∈X,u.oneCell'=true)
  (a1:∀ (j:Nat) (l:Leaf) (u:Value),ls[j]?=some l->X[j]?=some u->aK P V W st w (I j) l u)
  (a0:∀ (j:Nat) (l:Leaf),ls[j]?=some l->ao l->∀ k∈I j,¬ W.nw k/\¬ V.prot k/\(∀ b,live st b->W.β b≠k) /\
   ∀ (r1 j1:Nat) (l1:Leaf),r1≠d->(st r1).ls[j1]?=some l1->ao l1->k∉W.bs r1 j1)
  (a2:∀ (j j':Nat) (l l':Leaf),ls[j]?=some l->ao l->ls[j']?=some l'->ao l'->∀ k,k∈I j->k∈I j'->j=j') :
  ap P V { W with cs:=λr=>if r=d then X else W.cs r,bs:=λr j=>if r=d then I j else W.bs r j } (ac [(d,⟨n,sh,ls⟩)] st) a w /\
   cF V W { W with cs:=λr=>if r=d then X else W.cs r,bs:=λr j=>if r=d then I j else W.bs r j } st (ac [(d,⟨n,sh,ls⟩)] st) w w:=by
 have O:∀ b,live (ac [(d,⟨n,sh,ls⟩)] st) b<->live st b:=by
  intro b;by_cases R:B0<=b
  ·rw[live,live,aI (by omega)]
  ·simp[live,R]
 have J:cF V W { W with cs:=λr=>if r=d then X else W.cs r,bs:=λr j=>if r=d then I j else W.bs r j } st (ac [(d,⟨n,sh,ls⟩)] st) w w:=by
  refine⟨λq=>?_,λb R=>⟨(O b).2 R,rfl⟩,λ_ h=>h,λ_ _=>rfl,λ_ q j' l' M h4 h5=>?_⟩
  ·rcases am d q ⟨n,sh,ls⟩ st with ⟨rfl,e⟩|⟨y,e⟩
   ·rw[e];exact⟨Nat.le_of_lt hn,λe=>absurd e (by show n≠_;omega)⟩
   ·rw[e];exact⟨BU _,λ_=>by simp[y]⟩
  ·rcases am d q ⟨n,sh,ls⟩ st with ⟨rfl,e⟩|⟨y,e⟩
   ·rw[e]at h5;exact absurd h5 (by show n≠_;omega)
   ·rw[e]at M;exact⟨⟨l',M,h4⟩,by simp[y],λ_ _=>rfl⟩
 refine⟨?_,J⟩
 exact {
  nt:=h.nt,df:=h.df
  slots:=λt ht=>by
   have:t≠d:=by omega
   rw[aI this];simpa[this]using h.slots t ht
  boxes:=λb R=>by
   have:b≠d:=by omega
   rw[aI this];simpa[this]using h.boxes b R
  len:=λq=>by
   rcases am d q ⟨n,sh,ls⟩ st with ⟨rfl,e⟩|⟨y,e⟩
   ·rw[e];simpa using hl
   ·rw[e];simpa[y]using h.len q
  one:=λq u hu=>by
   by_cases hq:q=d
   ·simp only[hq,if_true]at hu;exact h1 u hu
   ·simp only[hq,if_false]at hu;exact h.one q u hu
  leaf:=λq j l u z M=>by
   rcases am d q ⟨n,sh,ls⟩ st with ⟨rfl,e⟩|⟨y,e⟩
   ·rw[e]at z;simp only[if_true]at M;exact (a1 j l u z M).carry hV.ro J (λ_=>⟨by simp,λ_ _=>rfl⟩)
   ·rw[e]at z;simp only[y,if_false]at M;exact (h.leaf q j l u z M).carry hV.ro J (λ_=>⟨by simp[y],λ_ _=>rfl⟩)
  ownb:=λq j l z M k Y=>by
   rcases am d q ⟨n,sh,ls⟩ st with ⟨rfl,e⟩|⟨y,e⟩
   ·rw[e]at z;simp only[if_true]at Y;have:=a0 j l z M k Y;exact⟨this.1,this.2.1,λb R=>this.2.2.1 b ((O b).1 R)⟩
   ·rw[e]at z;simp only[y,if_false]at Y;have:=h.ownb q j l z M k Y;exact⟨this.1,this.2.1,λb R=>this.2.2 b ((O b).1 R)⟩
  sep:=λq j l q' j' l' z M h4 h5 k Y H=>by
   rcases am d q ⟨n,sh,ls⟩ st with ⟨e0,e⟩|⟨y,e⟩ <;> rcases am d q' ⟨n,sh,ls⟩ st with ⟨e1,e'⟩|⟨Z,e'⟩
   ·rw[e]at z;rw[e']at h4;simp only[e0,if_true]at Y;simp only[e1,if_true]at H;exact⟨e0.trans e1.symm,a2 j j' l l' z M h4 h5 k Y H⟩
   ·rw[e]at z;rw[e']at h4;simp only[e0,if_true]at Y;simp only[Z,if_false]at H;exact absurd H ((a0 j l z M k Y).2.2.2 q' j' l' Z h4 h5)
   ·rw[e]at z;rw[e']at h4;simp only[y,if_false]at Y;simp only[e1,if_true]at H;exact absurd Y ((a0 j' l' h4 h5 k H).2.2.2 q j l y z M)
   ·rw[e]at z;rw[e']at h4;simp only[y,if_false]at Y;simp only[Z,if_false]at H;exact h.sep q j l q' j' l' z M h4 h5 k Y H
  box:=λb R=>h.box b ((O b).1 R)
  inj:=λb b' R a3=>h.inj b b' ((O b).1 R) ((O b').1 a3)
  nwlt:=h.nwlt
  os:=h.os,tape:=h.tape,output:=h.output,size:=h.size,keep:=h.keep
  fixb:=λx hx=>⟨(O _).2 (h.fixb x hx).1,(h.fixb x hx).2⟩
  fixt:=h.fixt }
theorem gy {off:Nat}:∀ {a:Ty} {pos:Nat} {x:a.den} {u:(E:TypeId)×(e:Ty)×List e.den},bc off a pos x=some u->pos<=off/\off<pos+a.cells
 |.pair a b,pos,x,u,h=>by
  simp only[bc]at h;split at h
  ·rename_i v y;have:=gy y;simp only[Ty.cells];omega
  ·have:=gy h;simp only[Ty.cells];omega
 |.list m E e,pos,z,u,h=>by
  simp only[bc]at h;cases r:m&&BT pos off with
  |false=>simp[r]at h
  |true =>
   simp only[BC]at r;have:=BI r.2;simp only[Ty.cells];omega
 |.int _,_,_,_,h=>by simp[bc]at h
 |.bool,_,_,_,h=>by simp[bc]at h
 |.str,_,_,_,h=>by simp[bc]at h
 |.unit,_,_,_,h=>by simp[bc]at h
 |.hdr,_,_,_,h=>by simp[bc]at h
theorem m9 {off:Nat}:∀ {a:Ty} {pos:Nat} {x:a.den} {E:TypeId} {e:Ty} {u:List e.den},bc off a pos x=some ⟨E,e,u⟩->e.shy=true->a.shy=true
 |.pair a b,pos,x,E,e,u,h,r=>by
  simp only[bc]at h;simp only[Ty.shy,DW];split at h
  ·rename_i v z;simp only[BA]at h;subst h;exact .inl (m9 z r)
  ·exact .inr (m9 h r)
 |.list m H J,pos,I,E,e,u,h,r=>by
  simp only[bc]at h;cases y:m&&BT pos off with
  |false=>simp[y]at h
  |true =>
   rw[y]at h;simp only[cond_true,BA,Sigma.mk.injEq]at h;obtain⟨rfl,h⟩:=h;rw[heq_eq_eq,Sigma.mk.injEq]at h;obtain⟨rfl,_⟩:=h;simp[Ty.shy,r]
 |.int _,_,_,_,_,_,h,_=>by simp[bc]at h
 |.bool,_,_,_,_,_,h,_=>by simp[bc]at h
 |.str,_,_,_,_,_,h,_=>by simp[bc]at h
 |.unit,_,_,_,_,_,h,_=>by simp[bc]at h
 |.hdr,_,_,_,_,_,h,_=>by simp[bc]at h
theorem Mx.hol_out {G:Nat->Prop}{o:Nat}:∀ {a:Ty} {pos:Nat} {x:a.den} {cs:List Value} {bs:List Nat},(o<pos\/pos+a.cells<=o)->(Mx w G a none pos x cs bs<->Mx w G a (some o) pos x cs bs)
 |.int _,_,_,_,_,_=>Cp
 |.bool,_,_,_,_,_=>Cp
 |.str,_,_,_,_,_=>Cp
 |.unit,_,_,_,_,_=>Cp
 |.hdr,_,_,_,_,_=>Cp
 |.pair a b,pos,x,cs,bs,r=>by
  simp only[Ty.cells]at r;constructor
  ·rintro⟨c1,c2,b1,b2,e1,e2,h1,h2⟩;exact⟨c1,c2,b1,b2,e1,e2,(Mx.hol_out (by omega)).1 h1,(Mx.hol_out (by omega)).1 h2⟩
  ·rintro⟨c1,c2,b1,b2,e1,e2,h1,h2⟩;exact⟨c1,c2,b1,b2,e1,e2,(Mx.hol_out (by omega)).2 h1,(Mx.hol_out (by omega)).2 h2⟩
 |.list m E e,pos,u,cs,bs,r=>by
  simp only[Ty.cells]at r;cases m with
  |false=>rw[cn,cn]
  |true=>rw[bI (by simp),bI (by simp only[ne_eq,BA];omega)]
theorem Mx.out {G:Nat->Prop}{off:Nat}{E:TypeId}{e:Ty}{ys:List e.den}:∀ {a:Ty} {pos:Nat} {x:a.den} {cs:List Value} {bs:List Nat},Mx w G a none pos x cs bs->bc off a pos x=some ⟨E,e,ys⟩ ->
  ∃ v z y,OwB w G none E e ys v z/\cs[off-pos]?=some v/\Mx w G a (some off) pos x cs y/\∀ k,bs.count k=y.count k+z.count k
 |.pair a b,pos,x,cs,bs,⟨c1,c2,b1,b2,J,e2,O,h2⟩,h=>by
  have hl:=O.len;simp only[bc]at h;split at h
  ·rename_i u hu;simp only[BA]at h;subst h;have X:=gy hu;obtain⟨v,z,y,Y,R,Z,M⟩:=Mx.out O hu;refine⟨v,z,y++b2,Y,?_,⟨c1,c2,y,b2,J,rfl,Z,(Mx.hol_out (by omega)).1 h2⟩,λk=>?_⟩
   ·rw[J,BH (by omega)];exact R
   ·rw[e2,BF,BF,M k];omega
  ·rename_i hu;have X:=gy h;obtain⟨v,z,y,Y,R,Z,M⟩:=Mx.out h2 h;refine⟨v,z,b1++y,Y,?_,⟨c1,c2,b1,y,J,rfl,(Mx.hol_out (by omega)).1 O,Z⟩,λk=>?_⟩
   ·rw[J,BG (by omega),hl,show off-pos-a.cells=off-(pos+a.cells) by omega];exact R
   ·rw[e2,BF,BF,M k];omega
 |.list m E' e',pos,xs,cs,bs,H,h=>by
  simp only[bc]at h;cases r:m&&BT pos off with
  |false=>simp[r]at h
  |true =>
   rw[r]at h;simp only[cond_true,BA,Sigma.mk.injEq]at h;obtain⟨rfl,h⟩:=h;simp only[BC]at r;obtain⟨rfl,r⟩:=r;have r:=BI r;subst r;rw[heq_eq_eq,Sigma.mk.injEq]at h;obtain⟨rfl,h⟩:=h;rw[heq_eq_eq]at h;subst h;have I:=H.one;rw[bI (by simp)]at H;obtain⟨v,rfl,hO⟩:=H;exact⟨v,bs,[],hO,by simp,iZ.2 ⟨v,rfl,I v (by simp),rfl⟩,λk=>by simp⟩
 |.int _,_,_,_,_,_,h=>by simp[bc]at h
 |.bool,_,_,_,_,_,h=>by simp[bc]at h
 |.str,_,_,_,_,_,h=>by simp[bc]at h
 |.unit,_,_,_,_,_,h=>by simp[bc]at h
 |.hdr,_,_,_,_,_,h=>by simp[bc]at h
theorem Mx.back {G:Nat->Prop}{off:Nat}{E:TypeId}{e:Ty}{M:List e.den}{v:Value}{Y:List Nat}(hO:OwB w G none E e M v Y):∀ {a:Ty} {pos:Nat} {x z:a.den} {cs:List Value} {I:List Nat},Mx w G a (some off) pos x cs I->bL off E e M a pos x=some z ->
  cs[off-pos]?=some v->∃ O,Mx w G a none pos z cs O/\∀ k,O.count k=I.count k+Y.count k
 |.pair a b,pos,x,z,cs,O,⟨c1,c2,b1,b2,X,e2,R,h2⟩,h,J=>by
  have hl:=R.len;simp only[bL]at h;split at h
  ·rename_i u y;simp only[BA]at h;subst h;have a0:=set_in y;obtain⟨I,g1,Z⟩:=Mx.back hO R y (by rw[X,BH (by omega)]at J;exact J);refine⟨I++b2,⟨c1,c2,I,b2,X,rfl,g1,(Mx.hol_out (by omega)).2 h2⟩,λk=>?_⟩;rw[e2,BF,BF,Z k];omega
  ·rename_i y;simp only[BB]at h;obtain⟨u,y,rfl⟩:=h;have a0:=set_in y;obtain⟨I,g1,Z⟩:=Mx.back hO h2 y (by
    rw[X,BG (by omega),hl]at J;rw[show off-(pos+a.cells)=off-pos-a.cells by omega];exact J)
   refine⟨b1++I,⟨c1,c2,b1,I,X,rfl,(Mx.hol_out (by omega)).2 R,g1⟩,λk=>?_⟩;rw[e2,BF,BF,Z k];omega
 |.list m E' e',pos,xs,z,cs,O,H,h,J=>by
  simp only[bL]at h;cases r:m&&BT pos off with
  |false=>simp[r]at h
  |true =>
   rw[r]at h;simp only[cond_true]at h;obtain⟨rfl,rfl,rfl⟩:=jE h;simp only[BC]at r;obtain⟨rfl,r⟩:=r;have r:=BI r;subst r;rw[iZ]at H;obtain⟨v',rfl,R,rfl⟩:=H;simp only[Nat.sub_self,CU,BA]at J;subst J;exact⟨Y,(bI (by simp)).2 ⟨v',rfl,hO⟩,λk=>by simp⟩
 |.int _,_,_,_,_,_,_,h,_=>by simp[bL]at h
 |.bool,_,_,_,_,_,_,h,_=>by simp[bL]at h
 |.str,_,_,_,_,_,_,h,_=>by simp[bL]at h
 |.unit,_,_,_,_,_,_,h,_=>by simp[bL]at h
 |.hdr,_,_,_,_,_,_,h,_=>by simp[bL]at h
where
 set_in {off:Nat} {E:TypeId} {e:Ty} {M:List e.den}:∀ {a:Ty} {pos:Nat} {x z:a.den},bL off E e M a pos x=some z->pos<=off/\off<pos+a.cells
  |.pair a b,pos,x,z,h=>by
   simp only[bL]at h;split at h
   ·rename_i u y;have:=set_in y;simp only[Ty.cells];omega
   ·simp only[BB]at h;obtain⟨u,y,_⟩:=h;have:=set_in y;simp only[Ty.cells];omega
  |.list m E' e',pos,xs,z,h=>by
   simp only[bL]at h;cases r:m&&BT pos off with
   |false=>simp[r]at h
   |true =>
    simp only[BC]at r;have:=BI r.2;simp only[Ty.cells];omega
  |.int _,_,_,_,h=>by simp[bL]at h
  |.bool,_,_,_,h=>by simp[bL]at h
  |.str,_,_,_,h=>by simp[bL]at h
  |.unit,_,_,_,h=>by simp[bL]at h
  |.hdr,_,_,_,h=>by simp[bL]at h
end
section
variable {P:Program} {V:Env} {W W' W2:Wit} {st st' st2:St} {w w' w2:World} {a:Act}
theorem cF.trans (h:cF V W W' st st' w w')(u:cF V W' W2 st' st2 w' w2):cF V W W2 st st2 w w2:=by
 refine⟨λr=>⟨CI (h.ver r).1 (u.ver r).1,λe=>?_⟩,λb O=>?_,λk y=>u.nw k (h.nw k y),λk y=>?_,λhe r j l z H J=>?_⟩
 ·have z:=(h.ver r).1;have H:=(u.ver r).1;rw[(u.ver r).2 (by omega),(h.ver r).2 (by omega)]
 ·obtain⟨z,H⟩:=h.box b O;obtain⟨J,Z⟩:=u.box b z;exact⟨J,Z.trans H⟩
 ·rw[u.heap k (y.imp (h.nw k) id),h.heap k y]
 ·have e1:=(h.ver EPO).1;have e2:=(u.ver EPO).1;have e3:=(h.ver r).1;have e4:=(u.ver r).1;obtain⟨⟨R,g1,Y⟩,X,g7⟩:=u.epo (by omega) r j l z H (by omega);obtain⟨g5,I,M⟩:=h.epo (by omega) r j R g1 Y (by omega);exact⟨g5,X.trans I,λk y=>(g7 k (by rw[I];exact y)).trans (M k y)⟩
theorem qE {n i:Nat}(z:i<n)(r:Nat->List Nat)(b y:List Nat)(H:∀ k,(r i).count k=b.count k+y.count k)(u:List Nat)(k:Nat) :
  (u++(BO n).flatMap r).count k=(u++(BO n).flatMap λj=>if j=i then b else r j).count k+y.count k:=by
 have:=ko z r b k;have:=H k;rw[BF,BF];omega
theorem OwH.out {G:Nat->Prop}{E E1:TypeId}{e e1:Ty}{xs:List e.den}{v:Value}{bs:List Nat}{i off:Nat}{y:e.den}{ys:List e1.den}(H:Ow w G E e xs v bs)(hy:xs[i]?=some y)(hg:bc off e 0 y=some ⟨E1,e1,ys⟩) :
  ∃ u R X,OwH w G (some (i,off)) E e xs v X/\Ow w G E1 e1 ys u R/\(∀ g Y,v=.slice (some ⟨g,0,none⟩) xs.length Y->w.cell? ⟨g,i*e.cells+off,none⟩=some u)/\∀ k,bs.count k=X.count k+R.count k:=by
 obtain⟨a1,M,I,h1,h2,h3⟩:=H;have O:i<xs.length:=(BD.1 hy).1;obtain⟨c,hm,hc⟩:=h3 i y hy;have hm:Mx w G e none 0 y c (I i):=hm;obtain⟨u,R,b',g1,g2,g3,g4⟩:=hm.out hg;have r:=qE O I b' R g4 v.ownBlock.toList;rw[<- h2]at r;have z:=br.1 a1;refine⟨u,R,v.ownBlock.toList++(BO xs.length).flatMap λj=>if j=i then b' else I j,⟨br.2 λk=>by have:=z k;have:=r k;omega,M,_,h1,rfl,λj x Z=>?_⟩,
  ⟨br.2 λk=>by have:=z k;have:=r k;omega,g1⟩,λg Y hv=>?_,r⟩
 ·by_cases J:j=i
  ·subst J;rw[hy]at Z;simp only[BA]at Z;subst Z;refine⟨c,?_,hc⟩;simp only[cR,Nat.beq_refl,cond_true,if_true];exact g3
  ·obtain⟨c',h4,h5⟩:=h3 j x Z;refine⟨c',?_,h5⟩;have:BT i j=false:=by
    cases hb:BT i j with
    |false=>rfl
    |true=>exact absurd (BI hb).symm J
   simp only[cR,this,cond_false,if_neg J];exact h4
 ·subst hv;have a2:=gy hg;have a0:i*e.cells+off<xs.length*e.cells:=by
   have:=BN e.cells (show i+1<=xs.length from O);rw[Ci,Nat.one_mul]at this;omega
  rw[h1.cellAt _ a0];exact hc off u (by simpa using g2)
theorem OwH.back {G:Nat->Prop}{E E1:TypeId}{e e1:Ty}{xs:List e.den}{v u:Value}{bs bn:List Nat}{i off:Nat}{y z:e.den}{ys:List e1.den}(H:OwH w G (some (i,off)) E e xs v bs)(hn:Ow w G E1 e1 ys u bn)
  (hd:∀ k∈bn,k∉bs) (hy:xs[i]?=some y) (hs:bL off E1 e1 ys e 0 y=some z) (M:∀ g I,v=.slice (some ⟨g,0,none⟩) xs.length I->w.cell? ⟨g,i*e.cells+off,none⟩=some u) :
  ∃ Z,Ow w G E e (xs.set i z) v Z/\∀ k,Z.count k=bs.count k+bn.count k:=by
 obtain⟨a3,R,a0,h1,h2,h3⟩:=H;have Y:i<xs.length:=(BD.1 hy).1;obtain⟨c,hm,hc⟩:=h3 i y hy;have a1:cR (some (i,off)) i=some off:=by simp[cR]
 rw[a1]at hm;have a4:=Mx.back.set_in hs;have a6:=hm.len;have J:c[off-0]?=some u:=by
  rcases h1.2 with ⟨rfl,h0⟩|⟨g,I,a5,_,rfl,_⟩
  ·omega
  ·have O:=M g I rfl;have a2:i*e.cells+off<xs.length*e.cells:=by
    have:=BN e.cells (show i+1<=xs.length from Y);rw[Ci,Nat.one_mul]at this;omega
   rw[h1.cellAt _ a2]at O;have h5:off<c.length:=by omega
   have h6:=hc off _ (BS h5);rw[O]at h6;rw[Cr,BS h5,h6]
 obtain⟨b1,g1,g2⟩:=Mx.back hn.2 hm hs J;have r:∀ k,(v.ownBlock.toList++(BO xs.length).flatMap λj=>if j=i then b1 else a0 j).count k=bs.count k+bn.count k:=by
  intro k;have O:=ko Y a0 b1 k;have h5:=g2 k;rw[h2,BF,BF];omega
 refine⟨_,⟨(m8 a3 hn.1 hd (λk=>Cn (r k))).1,R,_,by rw[CM];exact h1,by rw[CM],λj x hj=>?_⟩,r⟩;rcases aR _ _ _ _ _ hj with ⟨rfl,rfl,_⟩|⟨X,hj⟩
 ·refine⟨c,?_,hc⟩;simp only[if_true];exact g1
 ·obtain⟨c',O,h5⟩:=h3 j x hj;refine⟨c',?_,h5⟩;have:BT i j=false:=by
   cases hb:BT i j with
   |false=>rfl
   |true=>exact absurd (BI hb).symm X
  have e0:cR (some (i,off)) j=none:=by simp[cR,this]
  rw[e0]at O;simp only[if_neg X];exact O
theorem iU:GH<=TMP/\TMP<B0/\TMP≠EPO:=by decide
def tt (W:Wit)(S:St)(w:World)(r j:Nat)(v:Value):Prop :=
 r≠TMP/\r≠EPO/\∃ (i off:Nat) (p:Bool) (E:TypeId) (e:Ty) (y:List e.den) (g u:Nat),(S r).ls[j]?=some (.own p (some (i,off)) E e y)/\(W.cs r)[j]?=some (.slice (some ⟨g,0,none⟩) y.length u) /\
  g∈W.bs r j/\w.cell? ⟨g,i*e.cells+off,none⟩=some v
theorem u5 (hV:ax V)(h:ap P V W st a w){l l':Leaf}{U:Upd}{v:Value}(Z:aK P V W st w [] l v)(I:ck st l=some (U,l')) :
  ∃ W0 n p0 E0 e0 c5,ap P V W0 (ac U st) a w/\cF V W W0 st (ac U st) w w/\l'=.al TMP 0 n/\aK P V W0 (ac U st) w [] l' v/\(ac U st TMP).ver=n/\(ac U st TMP).ls=[.own p0 none E0 e0 c5] /\
   W0.nw=W.nw/\W0.β=W.β/\(∀ q,q≠TMP->W0.cs q=W.cs q)/\W0.cs TMP=[v]/\(∀ q,(ac U st q).sh=(st q).sh\/q=TMP)/\tt W0 (ac U st) w (jZ l).1 (jZ l).2 v:=by
 cases l with
 |nal p ks ep cp E e xs =>
  simp only[ck]at I;cases ad:bm st ks ep with
  |false=>simp[ad]at I
  |true =>
   rw[ad]at I;simp only[cond_true]at I;split at I
   ·rename_i r j n0 i sz off;split at I
    ·rename_i M X J z hg;cases hb:!BT r TMP&&!BT r EPO&&BT sz J.cells with
     |false=>simp[hb]at I
     |true =>
      rw[hb]at I;simp only[cond_true]at I;simp only[BC,BY]at hb;obtain⟨⟨c1,bx⟩,a4⟩:=hb;have a4:=BI a4;subst a4;have R:r≠TMP:=λe=>by subst e;simp at c1
      have ba:r≠EPO:=λe=>by subst e;simp at bx
      split at I
      ·rename_i y hy;split at I
       ·rename_i E1 e1 ys b5;simp only[BA,CD]at I;obtain⟨rfl,rfl⟩:=I;have b9:=pw ad Z;obtain⟨r',j',n',bb,g,bl,b4,a9,cw,cu,O⟩:=b9.at_ i _ off rfl;simp only[Cd,CD,and_true]at bb;obtain⟨rfl,rfl,rfl⟩:=bb;have a0:(st r).ls[j]?=some (.own M none X J z):=by
         rw[CF]at hg;cases H:(st r).ls[j]? with
         |none=>rw[H]at hg;simp at hg
         |some l0=>rw[H]at hg;simp at hg;rw[hg]
        have a2:=h.leaf r j _ _ a0 a9;have a2:Ow w (gd V W M) X J z _ (W.bs r j):=a2;have b3:bl=z.length:=by
         obtain⟨A,cb,e0,_⟩:=a2.slice;simp only[B9]at e0;exact e0.2.1
        subst b3;obtain⟨u,bn,bs',g1,g2,g3,g4⟩:=a2.out hy b5;have hu:u=v:=by
         have:=g3 g b4 rfl;rw[this]at O;exact Option.some.inj O
        subst hu;have c0:=br.1 a2.1;have b2:∀ k∈bs',k∈W.bs r j:=λk hk=>BK.1 (by have:=g4 k;have:=BK.2 hk;omega)
        have a3:∀ k∈bn,k∈W.bs r j/\k∉bs':=λk hk=>by
         have h5:=g4 k;have h6:=BK.2 hk;have h7:=c0 k;refine⟨BK.1 (by omega),λc3=>?_⟩;have:=BK.2 c3;omega
        have a1:∀ k∈W.bs r j,uZ V W st r j k:=λk hk=>by
         have h9:=h.ownb r j _ a0 trivial k hk;exact⟨h9.1,h9.2.1,h9.2.2,λr1 i1 l1 b1 a5 a6 Y=>a6 (by obtain⟨e1,e2⟩:=h.sep r1 i1 l1 r j _ b1 a5 a0 trivial k Y hk;rw[e1,e2])⟩
        have hR:xO st (ac [(r,⟨(st r).ver,(st r).sh,aS (st r).ls j (.own M (some (i,off)) X J z)⟩)] (ac [(EPO,bV (st EPO))] st)) r j (.own M (some (i,off)) X J z):=by
         refine⟨λq=>?_,λq=>?_,?_,λq=>?_,λl Z=>?_,λq i' l H Z=>?_⟩
         ·rcases am r q ⟨(st r).ver,(st r).sh,aS (st r).ls j (.own M (some (i,off)) X J z)⟩ (ac [(EPO,bV (st EPO))] st) with ⟨rfl,e⟩|⟨_,e⟩
          ·rw[e]
          ·rw[e];rcases am EPO q (bV (st EPO)) st with ⟨rfl,e⟩|⟨_,e⟩ <;> rw[e];rfl
         ·rcases am r q ⟨(st r).ver,(st r).sh,aS (st r).ls j (.own M (some (i,off)) X J z)⟩ (ac [(EPO,bV (st EPO))] st) with ⟨rfl,e⟩|⟨_,e⟩
          ·rw[e];exact BU _
          ·rw[e];rcases am EPO q (bV (st EPO)) st with ⟨rfl,e⟩|⟨_,e⟩ <;> rw[e]
           ·exact DP _
           ·exact BU _
         ·rw[aI (CQ ba),bi];exact BM _
         ·rcases am r q ⟨(st r).ver,(st r).sh,aS (st r).ls j (.own M (some (i,off)) X J z)⟩ (ac [(EPO,bV (st EPO))] st) with ⟨rfl,e⟩|⟨_,e⟩
          ·rw[e];simp[aS]
          ·rw[e];rcases am EPO q (bV (st EPO)) st with ⟨rfl,e⟩|⟨_,e⟩ <;> rw[e];rfl
         ·rw[bi]at Z;rcases aR _ _ _ _ _ Z with ⟨_,rfl,_⟩|⟨a6,_⟩
          ·rfl
          ·exact absurd rfl a6
         ·rcases am r q ⟨(st r).ver,(st r).sh,aS (st r).ls j (.own M (some (i,off)) X J z)⟩ (ac [(EPO,bV (st EPO))] st) with ⟨rfl,e⟩|⟨_,e⟩
          ·rw[e]at Z;rcases aR _ _ _ _ _ Z with ⟨rfl,_,_⟩|⟨_,Z⟩
           ·exact absurd rfl H
           ·exact Z
          ·rw[e]at Z;rcases am EPO q (bV (st EPO)) st with ⟨rfl,e⟩|⟨_,e⟩ <;> rw[e]at Z <;> exact Z
        have h1:=h.retell hV hR a0 trivial a9 trivial (bs':=bs') g1 (λk hk=>a1 k (b2 k hk)) (λ_ _ _=>rfl) (BU _) rfl rfl rfl;have c2:cF V W (W.tell r j bs') st (ac [(r,⟨(st r).ver,(st r).sh,aS (st r).ls j (.own M (some (i,off)) X J z)⟩)] (ac [(EPO,bV (st EPO))] st)) w w :=
         ⟨λq=>⟨hR.ver q,λ_=>rfl⟩,λb hb=>⟨(iy hR.sh b).2 hb,rfl⟩,λ_ h=>h,λ_ _=>rfl,λhe=>by have:=hR.epo;omega⟩
        have c4:(ac [(r,⟨(st r).ver,(st r).sh,aS (st r).ls j (.own M (some (i,off)) X J z)⟩)] (ac [(EPO,bV (st EPO))] st) TMP).ver=(st TMP).ver:=by
         rw[aI (CQ R),aI iU.2.2]
        obtain⟨h2,c6⟩:=h1.putGhost hV TMP iU.1 iU.2.1 ((st TMP).ver+1) .one [.own (M&&J.shy) none E1 e1 ys] [u] (λ_=>bn) (by rw[c4];exact BM _) rfl (λx hx=>by simp at hx;subst hx;exact g2.one)
         (λq l x H hx=>by
          cases q with
          |zero=>simp at H hx;subst H;subst hx;exact⟨g2.1,(OwB.shy g2.2).carry (bU (W':=W) (by intro hh;simp only[BC]at hh ⊢;exact⟨hh.1,m9 b5 hh.2⟩) (λ_ h=>h)) (λ_ _=>rfl) (λ_ _=>rfl)⟩
          |succ q=>simp at H)
         (λq l H _ k hk=>by
          obtain⟨q1,q2,q3,q4⟩:=a1 k (a3 k hk).1;refine⟨q1,q2,λb hb=>q3 b ((iy hR.sh b).1 hb),λr1 i1 l1 _ b1 a5 Y=>?_⟩;by_cases H:(r1,i1)=(r,j)
          ·cases H;rw[show (W.tell r j bs').bs r j=bs' from if_pos rfl]at Y;exact (a3 k hk).2 Y
          ·rw[show (W.tell r j bs').bs r1 i1=W.bs r1 i1 from if_neg H]at Y;exact q4 r1 i1 l1 (hR.old r1 i1 l1 H b1) a5 H Y)
         (λq q' l l2 h1 h2 h3 h4 k h5 h6=>by
          have h7:q<1:=(BD.1 h1).1;have h8:q'<1:=(BD.1 h3).1;omega)
        have b0:ac [(r,⟨(st r).ver,(st r).sh,aS (st r).ls j (.own M (some (i,off)) X J z)⟩),(TMP,⟨(st TMP).ver+1,.one,[.own (M&&J.shy) none E1 e1 ys]⟩),(EPO,bV (st EPO))] st =
          ac [(TMP,⟨(st TMP).ver+1,.one,[.own (M&&J.shy) none E1 e1 ys]⟩)] (ac [(r,⟨(st r).ver,(st r).sh,aS (st r).ls j (.own M (some (i,off)) X J z)⟩)] (ac [(EPO,bV (st EPO))] st)):=by
         rw[aO r,aO TMP,mZ R]
        rw[b0];refine⟨_,_,_,_,_,_,h2,c2.trans c6,rfl,⟨by rw[bi];exact BU _,λ_=>by simp⟩,by rw[bi],by rw[bi],rfl,rfl,λq H=>by simp[H,Wit.tell],by simp,λq=>?_,R,ba,i,off,M,X,J,z,g,b4,?_,?_,?_,O⟩
        ·by_cases H:q=TMP
         ·exact .inr H
         ·rw[aI H];exact .inl (hR.sh q)
        ·show (ac [(TMP,_)] _ r).ls[j]?=_;rw[aI R,bi];simp only[aS];rw[CX (BD.1 a0).1]
        ·show (if r=TMP then _ else W.cs r)[j]?=_;rw[if_neg R];exact a9
        ·show g∈(if r=TMP then _ else (W.tell r j bs').bs r j);rw[if_neg R,show (W.tell r j bs').bs r j=bs' from if_pos rfl];obtain⟨_,cc,cx,_,q2,_⟩:=g1;rw[q2];simp[B5]
       ·cases I
      ·cases I
    ·cases I
   ·cases I
 |_=>simp[ck]at I
theorem gY {R:Type}(l:Leaf)(I:Upd->Leaf->Option R):lL st l I=(ck st l).bind λu=>I u.1 u.2:=by
 cases l with
 |nal p X ep M E e xs =>
  simp only[lL,ck];cases bm st X ep with
  |false=>rfl
  |true =>
   simp only[cond_true];split
   ·rename_i r j n i O off;split
    ·rename_i Z Y J z _;cases !BT r TMP&&!BT r EPO&&BT O J.cells with
     |false=>rfl
     |true =>
      simp only[cond_true];have H:idx z (i:Int)=z[i]?:=by
       unfold idx;rw[if_neg (by omega)];simp
      rw[H];cases z[i]? with
      |none=>rfl
      |some y =>
       simp only[Option.bind_some];cases bc off J 0 y with
       |none=>rfl
       |some u=>rfl
    ·rfl
   ·rfl
 |_=>rfl
end
theorem ru {w:World}{α:Type}{s g:Nat}:∀ (J:List α) (o:Nat) (Q:Nat->α->List Value->Prop),(∀ j x c,Q j x c->c.length=s/\∀ u∈c,u.oneCell'=true)->(∀ (j:Nat) (x:α),J[j]?=some x->∃ c,Q j x c/\cV w g (o+j*s) c) ->
  ∃ r:List Value,r.length=J.length*s/\(∀ j u,r[j]?=some u->w.cell? ⟨g,o+j,none⟩=some u)/\(∀ u∈r,u.oneCell'=true) /\
   ∀ (j:Nat) (x:α),J[j]?=some x->∃ c,Q j x c/\∀ i u,c[i]?=some u->r[j*s+i]?=some u
 |[],o,_,_,_=>⟨[],by simp,by simp,by simp,by simp⟩
 |y::J,o,Q,hQ,h=>by
  obtain⟨c,hr,hc⟩:=h 0 y rfl;obtain⟨r,h1,h2,h3,h4⟩:=ru J (o+s) (λj=>Q (j+1)) (λj=>hQ (j+1)) (λj x z=>by
   obtain⟨Y,I,H⟩:=h (j+1) x (by simpa using z);refine⟨Y,I,?_⟩;rw[CC]at H;have:o+s+j*s=o+(j*s+s):=by omega
   rw[this];exact H)
  obtain⟨Z,a0⟩:=hQ 0 y c hr;refine⟨c++r,by rw[BR,h1,Z,Cm,CC];omega,?_,?_,?_⟩
  ·intro j u z;by_cases R:j<c.length
   ·rw[BH R]at z;have:=hc j u z
    rwa [DI,CG]at this
   ·rw[BG (by omega)]at z;have:=h2 (j-c.length) u z;have e1:o+s+(j-c.length)=o+j:=by omega
    rwa [e1]at this
  ·intro u M;rcases BL.1 M with M|M
   ·exact a0 u M
   ·exact h3 u M
  ·intro j x z;cases j with
   |zero =>
    simp at z;subst z;refine⟨c,hr,λi u O=>?_⟩;have X:=(BD.1 O).1;rw[DI,CR,BH X];exact O
   |succ j =>
    obtain⟨Y,I,H⟩:=h4 j x (by simpa using z);refine⟨Y,I,λi u O=>?_⟩;rw[CC,BG (by omega)];rw[<- H i u O];congr 1;omega
theorem jM {P:Program}(g o:Nat)(t:TypeId)(mk:Nat×Nat):∀ (z:List Value) (i:Nat) (cur:Array Value) (w:World),w.heap[g]?=some (.cells cur t mk)->(mk.2=0\/cur.size<=mk.1)->o+i+z.length<=cur.size->(∀ v∈z,v.oneCell'=true) ->
  (storeCells ⟨g,o,none⟩ z i).run P w=.ok () (w.setRow g (cur.toList.take (o+i)++z++cur.toList.drop (o+i+z.length)).toArray)
 |[],i,cur,w,u,_,_,_=>by
  simp only[storeCells,B3,Cb,CG,List.take_append_drop,B6];rw[setRow_self w g cur t mk u];rfl
 |v::r,i,cur,w,u,J,I,M=>by
  have O:o+i<cur.size:=by simp at I;omega
  have y:(⟨g,o,none⟩:Addr).add i=⟨g,o+i,none⟩:=by unfold Addr.add;split <;> simp_all
  have H:(store ((⟨g,o,none⟩:Addr).add i) v).run P w=.ok () (w.setRow g (cur.setIfInBounds (o+i) v)):=by
   rw[y,run_store P w _ v _ (M v (by simp)),cell_of_row w g _ cur t mk u,Array.getElem?_eq_getElem O];simp[qS u J O,setCell_eq_setRow w g (o+i) cur t mk v u]
  have R:=jM (P:=P) g o t mk r (i+1) (cur.setIfInBounds (o+i) v) (w.setRow g (cur.setIfInBounds (o+i) v)) (setRow_heap w g cur _ t _ u) (by simpa using J) (by simp at I ⊢;omega) (λx X=>M x (by simp[X]));simp only[storeCells,DD,H,Ch,R,setRow_setRow];congr 3;have e:=list_seg_step cur.toList (o+i) v r (by simp at I ⊢;omega);simpa[Array.toList_setIfInBounds,Dc]using e
theorem na {P:Program}(w:World)(t ty e:TypeId)(i:TypeInfo)(ht:P.underlying t=some (.slice e))(X:P.info? e=some i)
  (g y z:Nat) (cur:Array Value) (mk:Nat×Nat) (Z:w.heap[g]?=some (.cells cur e mk)) (O:mk.2=0\/cur.size<=mk.1)
  (a:Addr) (m c:Nat) (r:List Value) (hl:r.length=m*i.size) (I:∀ j u,r[j]?=some u->w.cell? (a.add j)=some u) (R:∀ u∈r,u.oneCell'=true)
  (H:y+m<=z) (M:y*i.size+r.length<=cur.size) :
  (CB #[t,t] ty #[.slice (some ⟨g,0,none⟩) y z,.slice (some a) m c]).run P w =
   .ok (.slice (some ⟨g,0,none⟩) (y+m) z) (w.setRow g (cur.toList.take (y*i.size)++r++cur.toList.drop (y*i.size+r.length)).toArray):=by
 have Y:=run_firstCells_some (P:=P) w i.size m a m c r hl I;have J:=jM (P:=P) g (y*i.size) e mk r 0 cur w Z O (by simpa using M) R;simp only[CG]at J;simp[CB,run_underlying ht,sizeOf,typeInfo,X,Ck,H,Y,Addr.add_lit,J]
theorem ce {P:Program}(w:World)(t ty e:TypeId)(i:TypeInfo)(z:Value)(size Z:Nat)(ht:P.underlying t=some (.slice e))(hi:P.info? e=some i)(hz:i.zero=some z)
  (a3:i.size=size) (b2:i.bytes=Z) (b4:z.cells.size=size)
  (v:Value) (n:Nat) (xs:List Value) (y:Row w e size v n xs)
  (a:Addr) (m c:Nat) (r:List Value) (hl:r.length=m*size) (J:∀ j u,r[j]?=some u->w.cell? (a.add j)=some u) (h1:∀ u∈r,u.oneCell'=true)
  (b0:n+m<=maxLen) (O:(n+m)*Z<=140737488355328) :
  ∃ v' w',(CB #[t,t] ty #[v,.slice (some a) m c]).run P w=.ok v' w'/\Row w' e size v' (n+m) (xs++r)/\w.grownBy w' v.ownBlock/\(v'.ownBlock=v.ownBlock\/v'.ownBlock=some w.heap.size):=by
 subst a3;subst b2;have b1:n+m<=9223372036854775807:=by simp only[maxLen]at b0;omega
 have M:(xs++r).length=(n+m)*i.size:=by rw[BR,y.1,hl,Ci]
 have a0:∀ (H:Nat),H<n+m->∀ (a6:Option Nat),
   Row (w.drew.alloc (.cells (xs.toArray++r.toArray++DJ z.cells (grownCap w (n+m) H e-(n+m))) e)) e i.size
    (.slice (some ⟨w.heap.size,0,none⟩) (n+m) (grownCap w (n+m) H e)) (n+m) (xs++r) /\
   w.grownBy (w.drew.alloc (.cells (xs.toArray++r.toArray++DJ z.cells (grownCap w (n+m) H e-(n+m))) e)) a6:=by
  intro H ho a6;have b3:=grownCap_ge w (n+m) H e;have a1:grownCap w (n+m) H e<=maxLen:=grownCap_le_maxLen w (n+m) H e b0;refine⟨⟨M,.inr ⟨w.heap.size,_,_,_,rfl,heap_alloc_new w.drew _,b3,.inl ⟨rfl,a1⟩,?_,?_⟩⟩,⟨rfl,rfl,rfl,by simp,λk hk _=>Go.heap_alloc_old w.drew _ hk⟩⟩
  ·simp only[DE,CW,size_zeroCells,b4,y.1,hl,<- Ci];exact BN _ (by omega)
  ·simp only[C6,BQ];rw[<- BQ,<- M];exact Da
 rcases y.2 with ⟨rfl,rfl⟩|⟨g,R,Y,mk,rfl,hg,b5,a1,a9,a5⟩
 ·have hx:xs=[]:=BV (by simpa using y.1);subst hx;by_cases hm:m=0
  ·subst hm;have hn:r=[]:=BV (by simpa using hl);subst hn;refine⟨.slice none 0 0,w,?_,Row.nil w e i.size,⟨rfl,rfl,rfl,BU _,λ_ _ _=>rfl⟩,.inl rfl⟩;simp[CB,run_underlying ht,sizeOf,typeInfo,hi,Ck,Cg,loadCells,loadCellsFrom]
  ·have hr:=run_append_nil (P:=P) w t ty e i z ht hi hz a m c r hl J (by omega) (by omega) (by have hb:=O;simp only[CR]at hb;omega);have X:=a0 0 (by omega) (B5 (.slice none 0 0));simp only[CR,DX,Array.empty_append]at X ⊢;exact⟨_,_,hr,X.1,X.2,.inr rfl⟩
 ·by_cases I:n+m<=R
  ·have ad:n*i.size+r.length<=Y.size:=by rw[hl,<- Ci];exact CI (BN _ I) a9
   have hr:=na (P:=P) w t ty e i ht hi g n R Y mk hg (zu a1) a m c r hl J h1 I ad;have a2:(Y.toList.take (n*i.size)++r++Y.toList.drop (n*i.size+r.length)).toArray.size=Y.size:=by
    simp only[CW,BR,B4,Cl,CA];omega
   refine⟨_,_,hr,⟨M,.inr ⟨g,R,_,mk,rfl,setRow_heap w g Y _ e _ hg,I,a1.imp id (λh=>⟨h.1,?_⟩),?_,?_⟩⟩,⟨rfl,rfl,rfl,by simp,λk _ hk=>setRow_other w g k _ (λe=>hk (by simp[B5,e]))⟩,.inl rfl⟩
   ·rw[a2];exact h.2
   ·rw[a2];exact a9
   ·rw[a5,<- M];exact Da
  ·have a4:∀ j u,xs[j]?=some u->w.cell? ((⟨g,0,none⟩:Addr).add j)=some u:=λj u hj=>by
    rw[eT,CR,y.cellAt _ (by rw[<- y.1];exact (BD.1 hj).1)];exact hj
   have hr:=run_append_grow (P:=P) w t ty e i z ht hi hz ⟨g,0,none⟩ n R xs y.1 a4 a m c r hl J (by omega) (by omega) (growslice_fits (by omega) O);have X:=a0 R (by omega) (B5 (.slice (some ⟨g,0,none⟩) n R));exact⟨_,_,hr,X.1,X.2,.inr rfl⟩
theorem nc {P:Program}(w:World)(t ty e:TypeId)(i:TypeInfo)(size c:Nat)(z:P.underlying t=some (.slice e))(y:P.info? e=some i)
  (v:Value) (n:Nat) (xs:List Value) (r:Row w e size v n xs) :
  (CB #[t,t] ty #[v,.slice none 0 c]).run P w=.ok v w:=by
 rcases r.2 with ⟨rfl,rfl⟩|⟨g,H,I,_,rfl,_,u,_⟩
 ·simp[CB,run_underlying z,sizeOf,typeInfo,y,Ck,Cg]
 ·simp[CB,run_underlying z,sizeOf,typeInfo,y,Ck,Cg,u,storeCells]
theorem je {α:Type}{f g:α->List Nat}:∀ {l:List α},(∀ x∈l,f x=g x)->l.flatMap f=l.flatMap g
 |[],_=>rfl
 |x::l,h=>by rw[CO,CO,h x (BW ..),je (λy r=>h y (BP _ r))]
theorem zb (n m:Nat)(f g:Nat->List Nat):(BO (n+m)).flatMap (λj=>if j<n then f j else g (j-n))=(BO n).flatMap f++(BO m).flatMap g:=by
 rw[List.range_add,List.flatMap_append,DL];congr 1
 ·refine je λj r=>?_
  rw[if_pos (Cz.1 r)]
 ·refine je λj _=>?_
  rw[if_neg (by omega),show n+j-n=j by omega]
def wc (w:World)(G:Nat->Prop)(e:Ty)(z:List e.den)(u:Value)(y:Nat->List Nat):Prop :=
 ∃ A r,u=.slice A z.length r/\(0<z.length->∃ g o,A=some ⟨g,o,none⟩/\∀ j (x:e.den),z[j]?=some x->∃ c,Mx w G e none 0 x c (y j)/\cV w g (o+j*e.cells) c)
section
variable {P:Program} {V:Env} {Γ:List Ctr} {T:TypeId->TI} {st:St} {o:Oper} {R:Type} {κ:Upd->Option R} {r:R}
theorem wd {w:World}{t ty E:TypeId}{e e':Ty}{I:Nat}(cb:oK P t (.slice E e I))(b9:e'.cells=e.cells){G G2 G':Nat->Prop}{xs H:List e'.den}{v u:Value}{bs:List Nat}{O:Nat->List Nat}(hx:Ow w G E e' xs v bs)
  (hy:wc w G2 e' H u O) (a9:(xs.length+H.length)*I<=an) (hG:∀ k,G k->G' k) (b1:∀ k,G2 k->G' k) (b4:∀ k,G' k->k<w.heap.size/\v.ownBlock≠some k) (c3:∀ j,j<H.length->∀ k∈O j,v.ownBlock≠some k) :
  ∃ Z M J,(CB #[t,t] ty #[v,u]).run P w=.ok Z M/\w.grownBy M v.ownBlock/\OwB M G' none E e' (xs++H) Z J /\
   ∀ k,J.count k<=bs.count k+(((BO H.length).flatMap O)++[w.heap.size]).count k:=by
 obtain⟨hu,_,_,cp,c6,ti,z,hi,hs,hb,hz,bb⟩:=cb;obtain⟨c2,X,a6,ho,b3,bx⟩:=hx;obtain⟨A,b2,bn,ba⟩:=hy;subst bn;have c1:ti.size=e'.cells:=by rw[b9];exact hs
 have a3:∀ (M:World),w.grownBy M v.ownBlock->∀ k,G' k->M.heap[k]?=w.heap[k]?:=λM Y k hk=>Y.block k (b4 k hk).1 (CQ (b4 k hk).2)
 have bl:xs.length+H.length<=maxLen:=by
  have h1:(xs.length+H.length)*1<=(xs.length+H.length)*I:=Ce _ c6.1;have:=mn;simp only[an]at a9;omega
 have b0:∀ (y:List Value),(∀ (j:Nat) (x:e'.den),H[j]?=some x->∃ c,Mx w G2 e' none 0 x c (O j)/\∀ i u,c[i]?=some u->y[j*e'.cells+i]?=some u) ->
   ∀ Z M,Row M E e'.cells Z (xs.length+H.length) (X++y)->w.grownBy M v.ownBlock->(Z.ownBlock=v.ownBlock\/Z.ownBlock=some w.heap.size) ->
    ∃ J,OwB M G' none E e' (xs++H) Z J/\∀ k,J.count k<=bs.count k+(((BO H.length).flatMap O)++[w.heap.size]).count k:=by
  intro y hn Z M a5 Y a4;refine⟨Z.ownBlock.toList++(BO (xs.length+H.length)).flatMap (λj=>if j<xs.length then a6 j else O (j-xs.length)),⟨X++y,_,by rw[BR];exact a5,by rw[BR],λj x hj=>?_⟩,λk=>?_⟩
  ·by_cases a2:j<xs.length
   ·rw[BH a2]at hj;obtain⟨c,hr,hc⟩:=bx j x hj;have hr:Mx w G e' none 0 x c (a6 j):=hr;refine⟨c,?_,λi u hi=>?_⟩
    ·rw[if_pos a2];refine hr.carry hG (λk hk=>a3 M Y k (hG k hk)) λk hk=>Y.block k (hr.lt k hk) (λe0=>?_)
     have h5:=br.1 c2 k;rw[b3,<- e0,BF]at h5;have h6:0<((BO xs.length).flatMap a6).count k:=BK.2 (dU.2 ⟨j,a2,hk⟩);simp at h5;omega
    ·have:=hc i u hi;rw[BH (BD.1 this).1];exact this
   ·rw[BG (by omega)]at hj;obtain⟨c,hr,hc⟩:=hn _ x hj;have c5:=(BD.1 hj).1;refine⟨c,?_,λi u hi=>?_⟩
    ·rw[if_neg a2];exact hr.carry b1 (λk hk=>a3 M Y k (b1 k hk)) λk hk=>Y.block k (hr.lt k hk) (CQ (c3 _ c5 k hk))
    ·have:=hc i u hi;have b5:=ho.1;have cc:xs.length*e'.cells<=j*e'.cells:=BN _ (Nat.le_of_not_lt a2);rw[BG (by omega),<- this,b5,Nat.sub_mul];congr 1;omega
  ·rw[zb,b3];simp only[BF];rcases a4 with h5|h5
   ·rw[h5];omega
   ·rw[h5];simp only[C9];omega
 cases A with
 |none =>
  have a0:H.length=0:=by
   rcases DA H.length with h|h
   ·exact h
   ·obtain⟨g,o,hA,_⟩:=ba h;cases hA
  have a0:=BV a0;subst a0;have a1:=nc (P:=P) w t ty E ti e'.cells b2 hu hi v xs.length X ho;have Y:w.grownBy w v.ownBlock:=⟨rfl,rfl,rfl,BU _,λ_ _ _=>rfl⟩;obtain⟨J,h1,h2⟩:=b0 [] (by simp) v w (by simpa using ho) Y (.inl rfl);exact⟨v,w,J,a1,Y,h1,h2⟩
 |some ad =>
  have c4:∃ y:List Value,y.length=H.length*e'.cells/\(∀ j u,y[j]?=some u->w.cell? (ad.add j)=some u)/\(∀ u∈y,u.oneCell'=true) /\
    ∀ (j:Nat) (x:e'.den),H[j]?=some x->∃ c,Mx w G2 e' none 0 x c (O j)/\∀ i u,c[i]?=some u->y[j*e'.cells+i]?=some u:=by
   rcases DA H.length with h|h
   ·have a0:=BV h;subst a0;exact⟨[],by simp,by simp,by simp,by simp⟩
   ·obtain⟨g,o,hA,he⟩:=ba h;simp at hA;subst hA;obtain⟨y,h1,h2,h3,h4⟩:=ru H o (λj x c=>Mx w G2 e' none 0 x c (O j)) (λj x c hq=>⟨hq.len,hq.one⟩) he;exact⟨y,h1,λj u hj=>by rw[eT];exact h2 j u hj,h3,h4⟩
  obtain⟨y,h1,h2,h3,h4⟩:=c4;have c0:z.cells.size=e'.cells:=by
   have h2:=(lE w (λ_=>False) e).len;rw[<- CA,bb,h2,b9]
  obtain⟨Z,M,a1,a5,Y,a4⟩:=ce (P:=P) w t ty E ti z e'.cells I hu hi hz c1 hb c0 v xs.length X ho ad H.length b2 y h1 h2 h3 bl (by simpa[an]using a9);obtain⟨J,h5,h6⟩:=b0 y h4 Z M a5 Y a4;exact⟨Z,M,J,a1,Y,h5,h6⟩
theorem we {W:Wit}{a:Act}{w:World}(h:ap P V W st a w){E:TypeId}{e:Ty}{y:Leaf}{u:Value}{t:cM (List e.den)}(hl:aC P V W st w [y] [u])(H:fN st E e y=some t) :
  (∃ I,wc w (bk V W t.p t.frz) e t.val u I/\∀ k,((BO t.val.length).flatMap I).count k<=(aX W t.kill).count k)/\(∀ x∈t.frz,aB st x)/\(∀ x∈t.kill,aB st x):=by
 have z:∀ {p q:Bool} {O:List e.den} {ks:List (Nat×Nat)},dh e (aD st y)=some (p,O)->(∀ (S:Nat->Prop) (x:e.den) (c:List Value),Rd w (bk V W p (bu st [y])) e x c->Mx w (bk V W q ks) e none 0 x c []) ->
   ∃ I,wc w (bk V W q ks) e O u I/\∀ k,((BO O.length).flatMap I).count k<=(aX W []).count k:=by
  intro p q O ks X hm;obtain⟨A,M,hu,_,hx⟩:=ky (m:=false) (E:=E) h hl.1.1 hl.1.2.1 X;have hu:u=.slice A O.length M:=by simpa using hu
  refine⟨(λ_=>[]:Nat->List Nat),⟨A,M,hu,λhp=>?_⟩,λk=>by rw[show ((BO O.length).flatMap λ_=>([]:List Nat))=[] from by simp];exact DQ _⟩;obtain⟨g,o',hA,_,a0⟩:=hx hp;exact⟨g,o',hA,λj x hj=>by
   obtain⟨c,hr,hc⟩:=a0 j x hj;exact⟨c,hm (λ_=>True) x c hr,hc⟩⟩
 unfold fN at H;cases hf:e.flat with
 |true =>
  rw[hf]at H;simp only[cond_true,BB]at H;obtain⟨⟨p,O⟩,X,rfl⟩:=H;exact⟨z X (λ_ x c hr=>Mx.flat hf hr),by simp,by simp⟩
 |false =>
  rw[hf]at H;simp only[cond_false]at H;cases hs:decide (e.sh=e) with
  |true =>
   rw[hs]at H;simp only[cond_true,BB]at H;obtain⟨⟨p,O⟩,X,rfl⟩:=H;exact⟨z X (λ_ x c hr=>Mx.shared (of_decide_eq_true hs) hr),λx hx=>eh hl hx,by simp⟩
  |false =>
   rw[hs]at H;simp only[cond_false,BB]at H;obtain⟨J,X,rfl⟩:=H;obtain⟨h1,h2,h3⟩:=dN (pos:=0) h hl X;have h1:Mx w (bk V W J.p J.frz) (.list true E e) none 0 J.val [u] (aX W J.kill):=h1;rw[bI (by simp)]at h1;obtain⟨v,Z,a1,Y,h4,h5,h6⟩:=h1;simp only[Cd,and_true]at Z;subst Z;refine⟨⟨Y,?_,λk=>?_⟩,h2,h3⟩
   ·rcases h4.2 with ⟨hn,h0⟩|⟨g,M,a3,_,Z,hg,a2,_⟩
    ·exact⟨none,0,by rw[hn];show _=Value.slice none (DS J.val) 0;rw[h0],λhp=>by have hp:0<DS J.val:=hp;omega⟩
    ·refine⟨some ⟨g,0,none⟩,M,Z,λhp=>⟨g,0,rfl,λj x hj=>?_⟩⟩;obtain⟨c,h7,h8⟩:=h6 j x hj;have h7:Mx w (bk V W J.p J.frz) e none 0 x c (Y j):=h7;refine⟨c,h7,λi u hi=>?_⟩;have h9:=h8 i u hi;rw[CR];rw[Z]at h4;rw[h4.cellAt _ (by rw[<- h4.1];exact (BD.1 h9).1)];exact h9
   ·show ((BO (DS J.val)).flatMap Y).count k<=(aX W J.kill).count k;rw[h5,BF];omega
theorem Av {l l':Leaf}{U:Upd}(u:ck st l=some (U,l')):∃ n,l'=.al TMP 0 n:=by
 cases l with
 |nal p M ep H E e xs =>
  simp only[ck]at u;cases y:bm st M ep with
  |false=>simp[y]at u
  |true =>
   rw[y]at u;simp only[cond_true]at u;split at u
   ·rename_i r j Y i I off;split at u
    ·rename_i p' X J O Z;cases z:!BT r TMP&&!BT r EPO&&BT I J.cells with
     |false=>simp[z]at u
     |true =>
      rw[z]at u;simp only[cond_true]at u;split at u
      ·split at u
       ·simp only[BA,CD]at u;exact⟨_,u.2.symm⟩
       ·cases u
      ·cases u
    ·cases u
   ·cases u
 |_=>simp[ck]at u
theorem wg (hV:ax V)(hT:TOk P T)(cb:bM V o){c:Call}(c1:o.op=.call c)(hc:c.callee=.builtin .append)(h:act Γ T o st κ=some r):bW P V o st κ r:=by
  simp only[act,wrU,c1,hc]at h;split at h
  · cases h
  · rename_i d hd
    split at h
    · rename_i x y t u a4 a6
      split at h
      · rename_i E e a0 ht
        cases ad:BT t u with
        |false=>simp[ad]at h
        |true =>
          simp only[ad,cond_true]at h;have ad:=BI ad;subst ad;have cu:=hT t;rw[ht]at cu;have a4:c.args=#[x,y]:=by rw[<- B6 (xs:=c.args),a4]
          have a6:c.argTypes=#[t,t]:=by rw[<- B6 (xs:=c.argTypes),a6]
          have bl:∀ (a:Act) (w w':World) (v:Value),(CB #[t,t] o.type #[a.eval x,a.eval y]).run P w=.ok v w'->(execOp a.eval o).run P w=.ok (.value v) w':=by
            intro a w w' v Z;simp[execOp,c1,hc,resolve,invoke,builtin,a4,a6,Z]
          have bb:∀ (I:Upd) (E':TypeId) (e':Ty) (p:Bool) (xs:List e'.den) (ks:List (Nat×Nat)),E'=E->e'.sh=e.sh->dS st (ac I st) I d E' e' a0 p xs ks (one st y) κ=some r ->
              ∃ U,κ U=some r/\∀ (X:Wit) (a:Act) (w:World),ap P V X (ac I st) a w->aC P V X (ac I st) w [one st y] [a.eval y]->(∀ x∈ks,aB (ac I st) x)->Ow w (gd V X p) E' e' xs (a.eval x) (aX X ks)->mH P V o st U a w:=by
            intro I E' e' p xs ks hE he J;subst hE;unfold dS at J;split at J
            · rename_i t1 cy
              cases Y:aY (t1.kill++ks)&&dC t1.frz (t1.kill++ks)&&decide ((xs.length+t1.val.length)*a0<=an) with
              |false=>simp[Y]at J
              |true =>
                simp only[Y,cond_true]at J;simp only[BC,decide_eq_true_eq]at Y;obtain⟨⟨d1,cx⟩,b9⟩:=Y;refine⟨_,J,λX a w Z a1 dc c6 next Q hn=>?_⟩;obtain⟨⟨cc,d3,b3⟩,hf,d2⟩:=we Z a1 cy;have c4:∀ x∈t1.kill++ks,aB (ac I st) x:=λx hx=>(BL.1 hx).elim (d2 x) (dc x)
                obtain⟨h1,_,_,h4⟩:=fD hV Z cx c4;have bx:=gN Z d1 c4;rw[dI]at bx h4;have O:∀ k∈aX X t1.kill++aX X ks,¬ cd V (X.frz (ac I st) t1.frz) _ k:=λk H=>mm ⟨(h4 k H).1,(h4 k H).2.1,(h4 k H).2.2.2.1,(h4 k H).2.2.2.2⟩
                rw[CH]at bx;obtain⟨c3,c2,b5⟩:=bx;have bn:∀ k,(a.eval x).ownBlock=some k->k∈aX X ks:=by
                  intro k H;obtain⟨_,dd,e3,_,b9,_⟩:=c6;rw[b9,H];simp
                have c0:∀ k,gd V (X.frz (ac I st) t1.frz) (p||t1.p) k->cd V (X.frz (ac I st) t1.frz) (ac (aM (ac (aE (ac I st) t1.frz) (ac I st)) (t1.kill++ks)++aE (ac I st) t1.frz) (ac I st)) k:=by
                  rintro k (H|⟨_,H⟩)
                  · exact .inl H
                  · exact .inr (.inl (hV.ro k H))
                have b0:∀ k∈(BO t1.val.length).flatMap cc,k∈aX X t1.kill:=λk H=>BK.1 (by have:=b3 k;have:=BK.2 H;omega)
                obtain⟨v',w',e2,c5,hg,cp,ba⟩:=wd (P:=P) (t:=t) (ty:=o.type) cu (hZ he) c6 d3 b9 (G':=gd V (X.frz (ac I st) t1.frz) (p||t1.p))
                  (bU (W':=X.frz (ac I st) t1.frz) (by intro h;simp[h]) (λ_ h=>Or.inl h))
                  (λk H=>bU (W':=X.frz (ac I st) t1.frz) (by intro h;simp[h]) (λ_ h=>h) k (kg hf k H))
                  (λk H=>⟨h1.used_lt k (c0 k H),λe1=>O k (BE _ (bn k e1)) (c0 k H)⟩)
                  (λj hj k H e1=>b5 k (b0 k (dU.2 ⟨j,hj,H⟩)) k (bn k e1) rfl)
                have b4:=m8 (bs:=aX X ks) (K:=(BO t1.val.length).flatMap cc++[w.heap.size]) c2
                  (br.2 λk=>by
                    rw[BF];have h5:=b3 k;have h6:=br.1 c3 k;by_cases H:k=w.heap.size
                    · subst H
                      have:(aX X t1.kill).count w.heap.size=0:=BZ.2 (λhm=>by have:=(h4 _ (BJ _ hm)).2.2.1;omega);simp;omega
                    · have:List.count k [w.heap.size]=0:=BZ.2 (by simp[H])
                      omega)
                  (λk H hm=>by
                    rcases BL.1 H with H|H
                    · exact b5 k (b0 k H) k hm rfl
                    · simp at H
                      subst H;have:=(h4 _ (BE _ hm)).2.2.1;omega) ba
                refine dV (bl a w w' v' c5) ?_;rw[hd];refine hn _ _ ?_;rw[cj,aO,bz];refine h1.putOwn hV hg.size hg.os hg.tape hg.output (λk H=>hg.block k (h1.used_lt k H) (λe1=>O k (BE _ (bn k e1.symm)) H)) d (cb d hd).1 (cb d hd).2 _ (BM _) ⟨b4.1,cp⟩ (λk H hu=>?_);rcases b4.2 k H with H|H
                · exact O k (BE _ H) hu
                · rcases BL.1 H with H|H
                  · exact O k (BJ _ (b0 k H)) hu
                  · simp at H
                    have:=h1.used_lt k hu;omega
            · cases J
          have a3:∀ (I:Upd) (x':Leaf),el st I d E e a0 x' (one st y) κ=some r->one st y≠.dead:=by
            intro I x' h e1;rw[e1]at h;unfold el at h;split at h
            · split at h
              · rename_i p E' e' b2 b1
                cases Y:BT E' E&&decide (e'.sh=e.sh) with
                |false=>simp[Y]at h
                |true =>
                  simp only[Y,cond_true,dS,fN,aD,dh,Cu,cg,take]at h;cases e'.flat <;> cases decide (e'.sh=e') <;> simp at h
              · cases h
            · simp only[dS,fN,aD,dh,Cu,cg,take]at h
              cases e.flat <;> cases decide (e.sh=e) <;> simp at h
            · cases h
          simp only[it]at h;cases hn:jl (one st x) with
          |true =>
            rw[hn]at h;simp only[cond_true]at h;rw[gY]at h;obtain⟨⟨I,x'⟩,a5,h⟩:=B7.1 h;have a3:=a3 _ _ h;simp only[el]at h;split at h
            · rename_i r' j n
              split at h
              · rename_i p' E' e' b2 b1
                cases Y:BT E' E&&decide (e'.sh=e.sh) with
                |false=>simp[Y]at h
                |true =>
                  simp only[Y,cond_true]at h;simp only[BC,decide_eq_true_eq]at Y;obtain⟨U,hU,hg⟩:=bb I E' e' p' b2 [(r',j)] (BI Y.1) Y.2 h;refine⟨U,hU,λW a w Z=>?_⟩;obtain⟨a2,_,_,_,_⟩:=bo Z x (by intro e1;rw[e1]at hn;simp[jl]at hn);obtain⟨X,n0,p0,E0,e0,e4,g1,g2,g3,g4,_⟩:=u5 hV Z a2 a5;obtain⟨a1,M,a9,_,_⟩:=bo Z y a3;obtain⟨h5,h6,h7,h8⟩:=ke g1 b1 g4;exact hg X a w g1 ⟨⟨a1.carry hV.ro g2 (λho=>absurd ho M),M,a9⟩,trivial⟩ (λz hz=>by simp at hz;subst hz;exact⟨_,h7,trivial⟩) (by simpa[aX]using h6)
              · cases h
            · exfalso
              obtain⟨n,cw⟩:=Av a5;cases cw
            · cases h
          |false =>
            rw[hn]at h;simp only[cond_false]at h;have a3:=a3 _ _ h;simp only[el]at h;split at h
            · rename_i r' j n hx
              split at h
              · rename_i p' E' e' b2 b1
                cases Y:BT E' E&&decide (e'.sh=e.sh) with
                |false=>simp[Y]at h
                |true =>
                  simp only[Y,cond_true]at h;simp only[BC,decide_eq_true_eq]at Y;obtain⟨U,hU,hg⟩:=bb [] E' e' p' b2 [(r',j)] (BI Y.1) Y.2 h;refine⟨U,hU,λW a w Z=>?_⟩;obtain⟨a2,_,_,_,_⟩:=bo Z x (by rw[hx];simp);rw[hx]at a2;obtain⟨a1,M,a9,_,_⟩:=bo Z y a3;obtain⟨h5,h6,h7,h8⟩:=ke Z b1 a2;exact hg W a w Z ⟨⟨a1,M,a9⟩,trivial⟩ (λz hz=>by simp at hz;subst hz;exact⟨_,h7,trivial⟩) (by simpa[aX]using h6)
              · cases h
            · rename_i hx
              obtain⟨U,hU,hg⟩:=bb [] E e false [] [] rfl rfl h;refine⟨U,hU,λW a w Z=>?_⟩;obtain⟨a2,_,_,_,_⟩:=bo Z x (by rw[hx];simp);rw[hx]at a2;obtain⟨a1,M,a9,_,_⟩:=bo Z y a3;exact hg W a w Z ⟨⟨a1,M,a9⟩,trivial⟩ (by simp) (by rw[show a.eval x=_ from a2];exact OwH.nil w _ E e)
            · cases h
      · cases h
    · cases h
end
def gO (w:World)(ro pr:Nat->Prop)(r:Bool)(a:Ty)(x:a.den)(v:Value):Prop :=
 if r=true then ∃ b u g o c,v=.pointer (some ⟨b,u,none⟩)/\pr b/\w.cell? ⟨b,u,none⟩=some (.pointer (some ⟨g,o,none⟩))/\pr g/\Rd w ro a x c/\cV w g o c
 else ∃ g o c,v=.pointer (some ⟨g,o,none⟩)/\pr g/\Rd w ro a x c/\cV w g o c
def jA (w:World)(ro pr:Nat->Prop):(cs:List (Bool×Ty))->lJ cs->List Value->Prop
 |[],_,y=>y=[]
 |c::cs,x,y=>∃ u r,y=u::r/\gO w ro pr c.1 c.2 x.1 u/\jA w ro pr cs x.2 r
def nU (P:Program)(w:World)(ro pr:Nat->Prop):(pk:PK)->pk.den->Value->List Nat->Prop
 |.rd a,x,v,r=>r=[]/\∃ y,db a.isAgg v y/\Rd w ro a x y
 |.own a,x,v,r=>∃ y,db a.isAgg v y/\Mx w ro a none 0 x y r
 |.io a,x,v,r=>∃ y,db a.isAgg v y/\Mx w ro a none 0 x y r
 |.rref a,x,v,r=>r=[]/\gO w ro pr false a x v
 |.rref2 a,x,v,r=>r=[]/\gO w ro pr true a x v
 |.iop a,x,v,r=>∃ g c E z,v=.pointer (some ⟨g,0,none⟩)/\w.heap[g]?=some (.cells c.toArray E (0,0))/\Mx w ro a none 0 x c z/\r=g::z
 |.fn M B,O,v,r=>r=[]/\ia P w pr M B O v
 |.clo f y,x,v,r=>r=[]/\∃ H:List Value,v=.func (.func f) #[] H.toArray/\jA w ro pr y x H
 |.hol a c off,x,v,r=>∃ y u z I E e J,db a.isAgg v y/\Mx w ro a (some c) 0 x.1 y z/\y[c]?=some u/\bc c a 0 x.1=some ⟨E,e,J⟩/\OwB w ro (some (x.2,off)) E e J u I/\∀ k,r.count k=z.count k+I.count k
def c9 (P:Program)(w:World)(ro pr:Nat->Prop):(ps:List PK)->ab ps->List Value->List (List Nat)->Prop
 |[],_,z,u=>z=[]/\u=[]
 |p::ps,x,z,u=>∃ v y b r,z=v::y/\u=b::r/\nU P w ro pr p x.1 v b/\c9 P w ro pr ps x.2 y r
def jp (w:World)(G:Nat->Prop)(a:Ty)(x:a.den)(ptr:Bool)(v:Value)(bs:List Nat):Prop :=
 if ptr=true then ∃ g c E r,v=.pointer (some ⟨g,0,none⟩)/\w.heap[g]?=some (.cells c.toArray E (0,0))/\Mx w G a none 0 x c r/\bs=g::r
 else ∃ u,db a.isAgg v u/\Mx w G a none 0 x u bs
def bK (w:World)(G:Nat->Prop):(ps:List PK)->ah ps->List Value->List (List Nat)->Prop
 |.io a::ps,o,v::r,b::u=>jp w G a o.1 false v b/\bK w G ps o.2 r u
 |.iop a::ps,o,v::r,b::u=>jp w G a o.1 true v b/\bK w G ps o.2 r u
 |.rd _::ps,o,_::r,b::u=>b=[]/\bK w G ps o r u
 |.own _::ps,o,_::r,b::u=>b=[]/\bK w G ps o r u
 |.rref _::ps,o,_::r,b::u=>b=[]/\bK w G ps o r u
 |.rref2 _::ps,o,_::r,b::u=>b=[]/\bK w G ps o r u
 |.fn _ _::ps,o,_::r,b::u=>b=[]/\bK w G ps o r u
 |.clo _ _::ps,o,_::r,b::u=>b=[]/\bK w G ps o r u
 |.hol _ _ _::ps,o,_::r,b::u=>b=[]/\bK w G ps o r u
 |[],_,[],[]=>True
 |_,_,_,_=>False
def p6 (w:World)(G ro:Nat->Prop):(r:RK)->r.den->Value->List Nat->Prop
 |.v a,y,v,z=>∃ u,db a.isAgg v u/\Mx w G a none 0 y u z
 |.bv a,y,v,z=>z=[]/\∃ u,db a.isAgg v u/\Rd w (λk=>G k\/ro k) a y u
 |.box a,y,v,z=>∃ g c E H,v=.pointer (some ⟨g,0,none⟩)/\w.heap[g]?=some (.cells c.toArray E (0,0))/\Mx w G a none 0 y c H/\z=g::H
def gz (w:World)(G ro:Nat->Prop):(J:List RK)->ai J->List Value->List (List Nat)->Prop
 |[],_,M,H=>M=[]/\H=[]
 |r::J,y,M,H=>∃ u I b z,M=u::I/\H=b::z/\p6 w G ro r y.1 u b/\gz w G ro J y.2 I z
def sf:List Value->Value->Prop
 |[u],v=>v=u
 |r,v=>v=.tuple r.toArray
def p7 (w w':World)(r:List Nat)(k:Nat):Prop:=k<w'.heap.size/\(w.heap.size<=k\/k∈r)
def tu (c:Ctr)(w:World)(ro:Nat->Prop)(I:List Value)(r:List (List Nat))(y:ai c.rs×ah c.ps)(e:Ending)(w':World):Prop :=
 ∃ (v:Value) (H:List Value) (N:Nat->Prop) (u z:List (List Nat)),e=.returned v/\sf H v/\w.heap.size<=w'.heap.size/\w'.os=w.os/\w'.tape=w.tape/\w'.output=w.output /\
  (∀ k,k<w.heap.size->k∉r.flatten->w'.heap[k]?=w.heap[k]?)/\(∀ k,N k->p7 w w' r.flatten k) /\
  bK w' (λk=>N k\/(c.fresh=false/\ro k)) c.ps y.2 I u/\gz w' (λk=>N k\/(c.fresh=false/\ro k)) ro c.rs y.1 H z /\
  (u.flatten++z.flatten).Nodup/\∀ k∈u.flatten++z.flatten,p7 w w' r.flatten k/\¬ N k
def bP (P:Program)(c:Ctr):Prop :=
 fP P c.f/\∀ (w:World) (ro:Nat->Prop) (x:ab c.ps) (u:List Value) (r:List (List Nat)) (y:ai c.rs×ah c.ps),
  c9 P w ro (λk=>k<w.heap.size/\k∉r.flatten) c.ps x u r->(∀ k,ro k->k<w.heap.size/\k∉r.flatten)->r.flatten.Nodup->c.den x=some y ->
  Calls P c.f u.toArray w (tu c w ro u r y)
section
variable {P:Program} {V:Env} {Γ:List Ctr} {T:TypeId->TI} {st:St} {o:Oper} {R:Type} {κ:Upd->Option R} {r:R}
theorem ia.mono {w0:World}{S H:Nat->Prop}(X:∀ k,S k->H k){z:List Ty}{B:Ty}{I:Tup z->Option B.den}{v:Value}(h:ia P w0 S z B I v):ia P w0 H z B I v:=by
 obtain⟨f,u,e,Y,J⟩:=h;exact⟨f,u,e,Y,λw1 O M=>J w1 O (λk y=>M k (X k y))⟩
theorem ia.move {w0 w:World}{S I:Nat->Prop}(z:w0.heap.size<=w.heap.size)(J:∀ k,S k->I k/\w.heap[k]?=w0.heap[k]?){H:List Ty}{B:Ty}{M:Tup H->Option B.den}{v:Value}
  (h:ia P w0 S H B M v):ia P w I H B M v:=by
 obtain⟨f,y,e,Z,X⟩:=h;exact⟨f,y,e,Z,λw1 Y O=>X w1 (CI z Y) (λk u=>(O k (J k u).1).trans (J k u).2)⟩
theorem gO.carry {w w1:World}{ro ro' pr I:Nat->Prop}(y:∀ k,ro k->ro' k/\w1.heap[k]?=w.heap[k]?)(u:∀ k,pr k->I k/\w1.heap[k]?=w.heap[k]?){H:Bool}{a:Ty}{x:a.den}{v:Value}(h:gO w ro pr H a x v):gO w1 ro' I H a x v:=by
 unfold gO at h ⊢;split at h
 ·rename_i O;rw[if_pos O];obtain⟨b,ob,g,o,c,Y,J,X,M,h7,Z⟩:=h;exact⟨b,ob,g,o,c,Y,(u b J).1,by rw[kx (u b J).2];exact X,(u g M).1,h7.carry (λk z=>(y k z).1) (λk z=>(y k z).2),Z.same (u g M).2⟩
 ·rename_i O;rw[if_neg O];obtain⟨g,o,c,Y,J,X,M⟩:=h;exact⟨g,o,c,Y,(u g J).1,X.carry (λk z=>(y k z).1) (λk z=>(y k z).2),M.same (u g J).2⟩
theorem jA.carry {w w1:World}{ro ro' pr y:Nat->Prop}(H:∀ k,ro k->ro' k/\w1.heap[k]?=w.heap[k]?)(z:∀ k,pr k->y k/\w1.heap[k]?=w.heap[k]?):∀ {cs:List (Bool×Ty)} {x:lJ cs} {us:List Value},jA w ro pr cs x us->jA w1 ro' y cs x us
 |[],_,_,h=>h
 |_::_,_,_,⟨u,I,e,J,M⟩=>⟨u,I,e,J.carry H z,jA.carry H z M⟩
theorem nU.mono {w:World}{ro ro' pr O:Nat->Prop}(y:∀ k,ro k->ro' k)(J:∀ k,pr k->O k):∀ {pk:PK} {x:pk.den} {v:Value} {bs:List Nat},nU P w ro pr pk x v bs->nU P w ro' O pk x v bs
 |.rd _,_,_,_,⟨e,M,z,I⟩=>⟨e,M,z,I.mono y⟩
 |.own _,_,_,_,⟨M,z,I⟩=>⟨M,z,I.mono y⟩
 |.io _,_,_,_,⟨M,z,I⟩=>⟨M,z,I.mono y⟩
 |.rref _,_,_,_,⟨e,h⟩=>⟨e,h.carry (λk H=>⟨y k H,rfl⟩) (λk H=>⟨J k H,rfl⟩)⟩
 |.rref2 _,_,_,_,⟨e,h⟩=>⟨e,h.carry (λk H=>⟨y k H,rfl⟩) (λk H=>⟨J k H,rfl⟩)⟩
 |.iop _,_,_,_,⟨g,c,E,Y,z,I,Z,X⟩=>⟨g,c,E,Y,z,I,Z.mono y,X⟩
 |.fn _ _,_,_,_,⟨e,h⟩=>⟨e,ia.mono J h⟩
 |.clo _ _,_,_,_,⟨e,us,z,I⟩=>⟨e,us,z,I.carry (λk H=>⟨y k H,rfl⟩) (λk H=>⟨J k H,rfl⟩)⟩
 |.hol _ _ _,_,_,_,⟨M,u,Y,b1,E,e,xs,z,I,Z,X,h5,h6⟩=>⟨M,u,Y,b1,E,e,xs,z,I.mono y,Z,X,h5.carry y (λ_ _=>rfl) (λ_ _=>rfl),h6⟩
theorem c9.mono {w:World}{ro ro' pr y:Nat->Prop}(I:∀ k,ro k->ro' k)(H:∀ k,pr k->y k):∀ {ps:List PK} {x:ab ps} {M:List Value} {z:List (List Nat)},c9 P w ro pr ps x M z->c9 P w ro' y ps x M z
 |[],_,_,_,h=>h
 |_::_,_,_,_,⟨v,J,b,u,Y,O,X,Z⟩=>⟨v,J,b,u,Y,O,X.mono I H,c9.mono I H Z⟩
def jJ (V:Env)(W:Wit)(st:St)(ks:List (Nat×Nat))(u:List Nat)(k:Nat):Prop:=W.nw k\/V.prot k\/(∃ b∈u,live st b/\W.β b=k)\/∃ x∈ks,k∈W.bs x.1 x.2
theorem kK {W:Wit}{y z:List (Nat×Nat)}{I H:List Nat}(h:∀ x∈y,x∈z)(O:∀ b∈I,b∈H):∀ k,jJ V W st y I k->jJ V W st z H k:=by
 rintro k (u|u|⟨b,J,u⟩|⟨x,M,u⟩)
 ·exact .inl u
 ·exact .inr (.inl u)
 ·exact .inr (.inr (.inl ⟨b,O b J,u⟩))
 ·exact .inr (.inr (.inr ⟨x,h x M,u⟩))
theorem iV {W:Wit}{p q:Bool}{z y:List (Nat×Nat)}(H:p=true->q=true)(h:∀ x∈z,x∈y):∀ k,bk V W p z k->bk V W q y k:=by
 rintro k (u|⟨x,I,u⟩)
 ·exact .inl (bU (W':=W) H (λ_ h=>h) k u)
 ·exact .inr ⟨x,h x I,u⟩
theorem gA {agg:Bool}{v:Value}{cs:List Value}(h:d9 (bg agg) v cs):db agg v cs:=by
 cases agg <;> exact h
theorem nd {W:Wit}{a:Act}{w:World}(h:ap P V W st a w){l:Leaf}{ls:List Leaf}{v:Value}(hl:aK P V W st w [] l v)(y:target st l=some ls)(ks:List (Nat×Nat))(O:List Nat)(M:∀ b∈ff [l],b∈O) :
  ∃ g o cs,v=.pointer (some ⟨g,o,none⟩)/\jJ V W st ks O g/\aC P V W st w ls cs/\cV w g o cs:=by
 unfold target at y;split at y
 ·rename_i b;cases X:decide ((st b).sh=.agg) with
  |false=>simp[X]at y
  |true =>
   simp only[X,cond_true,BA]at y;subst y;obtain⟨hB,J,z⟩:=hl;rcases h.boxes b hB with ⟨Y,_⟩|⟨_,E,Y⟩
   ·rw[J]at Y;cases Y
   ·exact⟨W.β b,0,W.cs b,z,.inr (.inr (.inl ⟨b,M b (by simp[ff]),⟨hB,J⟩,rfl⟩)),iv h b,λi v z=>by
     rw[CR,cell_of_row w (W.β b) i _ E (0,0) Y];simpa using z⟩
 ·rename_i p a x;simp only[BA]at y;subst y;obtain⟨g,Z,c,z,hg,I,hc⟩:=hl;rw[CG]at z;exact⟨g,Z,c,z,hg.elim .inl (λh=>.inr (.inl h)),eS (λ_ h=>h) I,hc⟩
 ·rename_i p a x;simp only[BA]at y;subst y;obtain⟨b,ob,g,Z,c,z,X,H,hg,I,hc⟩:=hl;refine⟨b,ob,[.pointer (some ⟨g,Z,none⟩)],z,X.elim .inl (λh=>.inr (.inl h)),⟨⟨⟨g,Z,c,rfl,hg,I,hc⟩,id,rfl⟩,trivial⟩,λi u hi=>?_⟩;cases i with
  |zero=>simp at hi;subst hi;exact H
  |succ i=>simp at hi
 ·cases y
theorem gP {W:Wit}{w:World}{x:aH×List Leaf}{l:Leaf}{v:Value}{cs:List Value}(y:d9 x.1 v cs)(z:aC P V W st w x.2 cs)(u:cl x=l)(H:l≠.dead) :
  aK P V W st w [] l v/\v.oneCell'=true:=by
 unfold cl at u;split at u
 ·rename_i I;subst u;have y:cs=[v]:=y;subst y;exact⟨z.1.1,z.1.2.2⟩
 ·exact absurd u.symm H
theorem ne {W:Wit}{a:Act}{w:World}(h:ap P V W st a w){c:Bool×Ty}{l:Leaf}{v:Value}(hl:aK P V W st w [] l v){g:Got c.2.den}(H:fg st c l=some g) :
  gO w (bk V W g.p g.frz) (jJ V W st g.frz g.see) c.1 c.2 g.val v/\(∀ z∈g.frz,aB st z)/\g.kill=[]/\g.lend=[]:=by
 unfold fg at H;cases hc:c.1 with
 |true =>
  rw[hc]at H;simp only[cond_true]at H;split at H
  ·rename_i l' ht;split at H
   ·rename_i Z a2;simp only[BB]at H;obtain⟨⟨p,y⟩,hy,rfl⟩:=H;obtain⟨g,o',cs,hv,X,I,Y⟩:=nd h hl ht (bu st Z) (ff [l,l']) (λb M=>by
     cases l <;> simp[ff]at M ⊢ <;> exact .inl M)
    match cs,I with
    |[u],I =>
     obtain⟨g2,o2,a4,a0,a3,O,a1⟩:=nd h I.1.1 a2 (bu st Z) (ff [l,l']) (λb M=>by
      cases l <;> cases l' <;> simp[ff]at M ⊢ <;> first|exact M|exact .inr M)
     have J:=Y 0 u rfl;rw[CG,a0]at J;refine⟨?_,λz hz=>eh O hz,rfl,rfl⟩;unfold gO;rw[if_pos rfl];exact⟨g,o',g2,o2,a4,hv,X,J,a3,ey h O hy,a1⟩
   ·cases H
  ·cases H
 |false =>
  rw[hc]at H;simp only[cond_false]at H;split at H
  ·rename_i Z ht;simp only[BB]at H;obtain⟨⟨p,y⟩,hy,rfl⟩:=H;obtain⟨g,o',cs,hv,X,I,Y⟩:=nd h hl ht (bu st Z) (ff [l]) (λb M=>M);refine⟨?_,λz hz=>eh I hz,rfl,rfl⟩;unfold gO;rw[if_neg (by simp)];exact⟨g,o',cs,hv,X,ey h I hy,Y⟩
  ·cases H
theorem mo {W:Wit}{a:Act}{w:World}(h:ap P V W st a w):∀ {cs:List (Bool×Ty)} {ls:List Leaf} {us:List Value} {g:Got (lJ cs)},aC P V W st w ls us->cz st cs ls=some g ->
  jA w (bk V W g.p g.frz) (jJ V W st g.frz g.see) cs g.val us/\(∀ z∈g.frz,aB st z)/\g.kill=[]/\g.lend=[]
 |[],[],us,g,J,y=>by
  simp only[cz,BA]at y;subst y;cases us with
  |nil=>exact⟨rfl,by simp,rfl,rfl⟩
  |cons=>exact J.elim
 |[],_::_,_,_,_,y=>by simp[cz]at y
 |_::_,[],_,_,_,y=>by simp[cz]at y
 |c::cs,l::ls,us,g,J,y=>by
  cases us with
  |nil=>exact J.elim
  |cons u us =>
   simp only[cz]at y;split at y
   ·rename_i g1 M;split at y
    ·rename_i g2 O;simp only[BA]at y;subst y;obtain⟨X,h2,h3,h4⟩:=ne h J.1.1 M;obtain⟨h5,Z,h7,h8⟩:=mo h J.2 O;refine⟨⟨u,us,rfl,X.carry (λk I=>⟨iV (by intro h;simp[h]) (λx H=>BJ _ H) k I,rfl⟩) (λk I=>⟨kK (λx H=>BJ _ H) (λx H=>BJ _ H) k I,rfl⟩),
      h5.carry (λk I=>⟨iV (by intro h;simp[h]) (λx H=>BE _ H) k I,rfl⟩) (λk I=>⟨kK (λx H=>BE _ H) (λx H=>BE _ H) k I,rfl⟩)⟩,?_,rfl,rfl⟩
     intro z Y;exact (BL.1 Y).elim (h2 z) (Z z)
    ·cases y
   ·cases y
theorem wh {W:Wit}{w:World}{c:Bool×Bool×(a:Ty)×a.den}{v:Value}(h:iK V W w c v):aK P V W st w [] (eK c) v/\¬ ao (eK c)/\v.oneCell'=true:=by
 unfold iK at h;unfold eK;split at h
 ·rename_i u;rw[u];refine⟨h,id,?_⟩;obtain⟨b,I,g,H,z,y,_⟩:=h;rw[y];rfl
 ·rename_i u;have u:c.2.1=false:=by simpa using u
  rw[u];refine⟨h,id,?_⟩;obtain⟨g,H,z,y,_⟩:=h;rw[y];rfl
theorem qF {W:Wit}{w:World}{caps:List (Bool×Bool×(a:Ty)×a.den)}{us:List Value}(z:us.length=caps.length)(h:∀ (i:Nat) (c:Bool×Bool×(a:Ty)×a.den) (u:Value),caps[i]?=some c->us[i]?=some u->iK V W w c u) :
  aC P V W st w (caps.map eK) us :=
 aC.mk (by simp[z]) λj l v y H=>by
  rw[List.getElem?_map,BB]at y;obtain⟨c,I,rfl⟩:=y;exact wh (h j c v I H)
theorem p8 {W:Wit}{w:World}:∀ (caps:List Nat),(∀ b∈caps,B0<=b/\(st b).sh=.agg)->aC P V W st w (caps.map λb=>Leaf.bp b 0) (caps.map λb=>Value.pointer (some ⟨W.β b,0,none⟩))
 |[],_=>trivial
 |b::caps,h=>⟨⟨⟨(h b (BW ..)).1,(h b (BW ..)).2,rfl⟩,id,rfl⟩,p8 caps (λq u=>h q (BP _ u))⟩
theorem nf {off:Nat}{E:TypeId}{e:Ty}{X:List e.den}:∀ {a:Ty} {pos:Nat} {x z:a.den},bL off E e X a pos x=some z->(∃ y,bc off a pos x=some ⟨E,e,y⟩)/\bc off a pos z=some ⟨E,e,X⟩
 |.pair a b,pos,x,z,h=>by
  simp only[bL]at h;split at h
  ·rename_i u J;simp only[BA]at h;subst h;obtain⟨⟨y,M⟩,O⟩:=nf J;exact⟨⟨y,by simp only[bc,M]⟩,by simp only[bc,O]⟩
  ·rename_i hn;simp only[BB]at h;obtain⟨u,J,rfl⟩:=h;have Z:=Mx.back.set_in J;obtain⟨⟨y,M⟩,O⟩:=nf J;have H:bc off a pos x.1=none:=by
    cases Y:bc off a pos x.1 with
    |none=>rfl
    |some u=>have:=gy Y;omega
   exact⟨⟨y,by simp only[bc,H,M]⟩,by simp only[bc,H,O]⟩
 |.list m E' e',pos,xs,z,h=>by
  simp only[bL]at h;cases I:m&&BT pos off with
  |false=>simp[I]at h
  |true =>
   rw[I]at h;simp only[cond_true]at h;obtain⟨rfl,rfl,rfl⟩:=jE h;exact⟨⟨xs,by simp[bc,I]⟩,by simp[bc,I]⟩
 |.int _,_,_,_,h=>by simp[bL]at h
 |.bool,_,_,_,h=>by simp[bL]at h
 |.str,_,_,_,h=>by simp[bL]at h
 |.unit,_,_,_,h=>by simp[bL]at h
 |.hdr,_,_,_,h=>by simp[bL]at h
theorem Mx.refill {w:World}{G:Nat->Prop}{off:Nat}{E:TypeId}{e:Ty}{ys:List e.den}{u:Value}(Y:u.oneCell'=true):∀ {a:Ty} {pos:Nat} {x z:a.den} {cs:List Value} {bs:List Nat},Mx w G a (some off) pos x cs bs->bL off E e ys a pos x=some z ->
  Mx w G a (some off) pos z (cs.set (off-pos) u) bs
 |.pair a b,pos,x,z,cs,bs,⟨Z,c2,b1,b2,e1,e2,M,O⟩,h=>by
  have hl:=M.len;simp only[bL]at h;split at h
  ·rename_i y J;simp only[BA]at h;subst h;have X:=Mx.back.set_in J;refine⟨Z.set (off-pos) u,c2,b1,b2,?_,e2,Mx.refill Y M J,O⟩;rw[e1,List.set_append_left _ _ (by omega)]
  ·simp only[BB]at h;obtain⟨y,J,rfl⟩:=h;have X:=Mx.back.set_in J;refine⟨Z,c2.set (off-(pos+a.cells)) u,b1,b2,?_,e2,M,Mx.refill Y O J⟩;rw[e1,List.set_append_right _ _ (by omega),hl,show off-pos-a.cells=off-(pos+a.cells) by omega]
 |.list m E' e',pos,xs,z,cs,bs,H,h=>by
  simp only[bL]at h;cases I:m&&BT pos off with
  |false=>simp[I]at h
  |true =>
   simp only[BC]at I;obtain⟨rfl,I⟩:=I;have I:=BI I;subst I;rw[iZ]at H ⊢;obtain⟨v,rfl,M,O⟩:=H;exact⟨u,by simp,Y,O⟩
 |.int _,_,_,_,_,_,_,h=>by simp[bL]at h
 |.bool,_,_,_,_,_,_,h=>by simp[bL]at h
 |.str,_,_,_,_,_,_,h=>by simp[bL]at h
 |.unit,_,_,_,_,_,_,h=>by simp[bL]at h
 |.hdr,_,_,_,_,_,_,h=>by simp[bL]at h
theorem aC.setNil {W:Wit}{w:World}{ls:List Leaf}{cs:List Value}(I:aC P V W st w ls cs)(c:Nat):aC P V W st w (aS ls c .nil) (cs.set c (.slice none 0 0)):=by
 have u:=I.length;refine aC.mk (by simp[aS,u]) λj l v H y=>?_
 rcases aR _ _ _ _ _ H with ⟨rfl,rfl,J⟩|⟨z,H⟩
 ·rw[CX (by omega)]at y;simp only[BA]at y;subst y;exact⟨rfl,id,rfl⟩
 ·rw[CP (CQ z)]at y;exact I.at_ j l v H y
def wj (P:Program)(V:Env)(W:Wit)(st:St)(w:World)(pk:PK)(v:Value)(g:Got pk.den):Prop :=
 (∃ u,nU P w (bk V W g.p g.frz) (jJ V W st g.frz g.see) pk g.val v u/\u=g.lend.map W.β++aX W g.kill)/\(∀ z∈g.frz,aB st z)/\(∀ z∈g.kill,aB st z)/\(∀ b∈g.lend,live st b)
theorem ng (hV:ax V){W:Wit}{a:Act}{w:World}(h:ap P V W st a w){pk:PK}{x:aH×List Leaf}{v:Value}{cs:List Value}(hs:d9 x.1 v cs)(hl:aC P V W st w x.2 cs)
  {g:Got pk.den} (u:be st pk x=some g):wj P V W st w pk v g:=by
 obtain⟨sh,ls⟩:=x;have Y:∀ {b:Ty} {g:Got b.den},(bif decide (sh=bg b.isAgg) then (cg st b ls).map (λt=>(⟨t.p,t.val,t.frz,t.kill,[],[]⟩:Got b.den)) else none)=some g ->
   (∃ cs,db b.isAgg v cs/\Mx w (bk V W g.p g.frz) b none 0 g.val cs (aX W g.kill))/\g.lend=[]/\g.see=[]/\(∀ z∈g.frz,aB st z)/\(∀ z∈g.kill,aB st z):=by
  intro b g hq;cases I:decide (sh=bg b.isAgg) with
  |false=>simp[I]at hq
  |true =>
   rw[I]at hq;simp only[cond_true,BB]at hq;have X:=of_decide_eq_true I;subst X;obtain⟨t,ht,rfl⟩:=hq;obtain⟨M,J,O⟩:=dN (pos:=0) h hl ht;exact⟨⟨cs,gA hs,M⟩,rfl,rfl,J,O⟩
 cases pk with
 |rd b =>
  simp only[be]at u;cases I:decide (sh=bg b.isAgg) with
  |false=>simp[I]at u
  |true =>
   rw[I]at u;simp only[cond_true,BB]at u;have X:=of_decide_eq_true I;subst X;obtain⟨⟨p,y⟩,hy,rfl⟩:=u;exact⟨⟨[],⟨rfl,cs,gA hs,ey h hl hy⟩,rfl⟩,λz hz=>eh hl hz,by simp[Got.ofRd],by simp[Got.ofRd]⟩
 |own b =>
  obtain⟨M,J,O,h4,h5⟩:=Y u;exact⟨⟨_,M,by rw[J];rfl⟩,h4,h5,by rw[J];simp⟩
 |io b =>
  obtain⟨M,J,O,h4,h5⟩:=Y u;exact⟨⟨_,M,by rw[J];rfl⟩,h4,h5,by rw[J];simp⟩
 |iop b =>
  simp only[be]at u;split at u
  ·rename_i q hx;cases I:decide ((st q).sh=.agg) with
   |false=>simp[I]at u
   |true =>
    simp only[I,cond_true,BB]at u;obtain⟨t,ht,rfl⟩:=u;obtain⟨H,hv⟩:=gP hs hl hx (by simp);obtain⟨hB,a4,b3⟩:=H;rcases h.boxes q hB with ⟨h8,_⟩|⟨_,E,h8⟩
    ·rw[a4]at h8;cases h8
    ·obtain⟨M,J,O⟩:=dN (pos:=0) h (iv h q) ht;exact⟨⟨_,⟨W.β q,W.cs q,E,_,b3,h8,M,rfl⟩,rfl⟩,J,O,λb' X=>by simp at X;subst X;exact⟨hB,a4⟩⟩
  ·cases u
 |rref b =>
  simp only[be]at u;have hd:cl (sh,ls)≠.dead:=by
   intro e;rw[e]at u;simp[fg,target]at u
  obtain⟨H,hv⟩:=gP hs hl rfl hd;obtain⟨M,J,O,h4⟩:=ne (c:=(false,b)) h H u;exact⟨⟨[],⟨rfl,M⟩,by rw[O,h4];rfl⟩,J,by rw[O];simp,by rw[h4];simp⟩
 |rref2 b =>
  simp only[be]at u;have hd:cl (sh,ls)≠.dead:=by
   intro e;rw[e]at u;simp[fg,target]at u
  obtain⟨H,hv⟩:=gP hs hl rfl hd;obtain⟨M,J,O,h4⟩:=ne (c:=(true,b)) h H u;exact⟨⟨[],⟨rfl,M⟩,by rw[O,h4];rfl⟩,J,by rw[O];simp,by rw[h4];simp⟩
 |fn As B =>
  simp only[be]at u;split at u
  ·rename_i As' B' φ hx;obtain⟨H,hv⟩:=gP hs hl hx (by simp);split at u
   ·rename_i hh;obtain⟨rfl,rfl⟩:=hh;simp only[BA]at u;subst u;have hf:ia P V.w0 V.prot As' B' φ v:=H;exact⟨⟨[],⟨rfl,ia.move h.size (λk hk=>⟨.inr (.inl hk),h.keep k hk⟩) hf⟩,rfl⟩,by simp,by simp,by simp⟩
   ·cases u
  ·cases u
 |clo f bl =>
  simp only[be]at u;split at u
  ·rename_i f' a1 hx;cases I:BT f' f with
   |false=>simp[I]at u
   |true =>
    simp only[I,cond_true]at u;have I:=BI I;subst I;obtain⟨H,hv⟩:=gP hs hl hx (by simp);obtain⟨M,J⟩:=H;obtain⟨O,h4,h5,h6⟩:=mo h (p8 a1 J) u;exact⟨⟨[],⟨rfl,_,M,O⟩,by rw[h5,h6];rfl⟩,h4,by rw[h5];simp,by rw[h6];simp⟩
  ·rename_i f' a1 hx;cases I:BT f' f with
   |false=>simp[I]at u
   |true =>
    simp only[I,cond_true]at u;have I:=BI I;subst I;obtain⟨H,hv⟩:=gP hs hl hx (by simp);obtain⟨us,M,J,h7⟩:=H;obtain⟨O,h4,h5,h6⟩:=mo h (qF J h7) u;exact⟨⟨[],⟨rfl,us,M,O⟩,by rw[h5,h6];rfl⟩,h4,by rw[h5];simp,by rw[h6];simp⟩
  ·cases u
 |hol b c off =>
  simp only[be]at u;cases I:decide (sh=bg b.isAgg) with
  |false=>simp[I]at u
  |true =>
   rw[I]at u;simp only[cond_true]at u;have X:=of_decide_eq_true I;subst X;split at u
   ·rename_i r' j n Z;split at u
    ·rename_i p i o' E e xs hd;cases a0:BT o' off with
     |false=>simp[a0]at u
     |true =>
      rw[a0]at u;simp only[cond_true]at u;have a0:=BI a0;subst a0;split at u
      ·rename_i t ht;split at u
       ·rename_i y hy;simp only[BA]at u;subst u;have a5:ls[c]?=some (.al r' j n):=by
         rw[CF]at Z;cases hq:ls[c]? with
         |none=>rw[hq]at Z;simp at Z
         |some l0=>rw[hq]at Z;simp at Z;rw[Z]
        have a6:c<cs.length:=by rw[<- hl.length];exact (BD.1 a5).1
        have a3:=BS a6;obtain⟨H,_,a2⟩:=hl.at_ c _ _ a5 a3;obtain⟨_,b1,b2,_⟩:=ke h hd H;obtain⟨M,J,O⟩:=dN (pos:=0) h (hl.setNil c) ht;obtain⟨⟨ba,ad⟩,b4⟩:=nf hy;obtain⟨v0,bn,b0,g1,g2,g3,g4⟩:=M.out ad;have a9:bn=[]:=by
         simp only[Cr,CX a6,BA]at g2;obtain⟨b5,bb,q1,q2,_⟩:=g1;obtain⟨A,b9,q4,_⟩:=q1.slice;rw[<- g2]at q2 q4;simp only[B9]at q4;rw[q2,<- q4.2.1];rfl
        have g5:=Mx.refill a2 g3 hy;simp only[Cr,List.set_set,List.set_getElem_self]at g5;refine⟨⟨_,⟨cs,cs[c],b0,W.bs r' j,E,e,xs,gA hs,g5.mono (iV (by intro h;simp[h]) (λ_ h=>h)),a3,b4,
         b1.2.carry (λk hk=>.inl (bU (W':=W) (by intro h;simp[h]) (λ_ h=>h) k hk)) (λ_ _=>rfl) (λ_ _=>rfl),λk=>?_⟩,rfl⟩,J,?_,by simp⟩
        ·have:=g4 k;rw[a9]at this;simp only[DB,DX];rw[show aX W ((r',j)::t.kill)=W.bs r' j++aX W t.kill from rfl,BF,this];simp;omega
        ·intro z hz;rcases CS.1 hz with rfl|hz
         ·exact⟨_,b2,trivial⟩
         ·exact O z hz
       ·cases u
      ·cases u
    ·cases u
   ·cases u
end
section
variable {P:Program} {V:Env} {Γ:List Ctr} {T:TypeId->TI} {st:St} {o:Oper} {R:Type} {κ:Upd->Option R} {r:R}
def gS (P:Program)(V:Env)(W:Wit)(st:St)(w:World):List (aH×List Leaf)->List Value->Prop
 |[],y=>y=[]
 |x::H,y=>∃ v u z,y=v::u/\d9 x.1 v z/\aC P V W st w x.2 z/\gS P V W st w H u
theorem kq {W:Wit}{w:World}{ga:(pk:PK)->aH×List Leaf->Option (Got pk.den)}
  (H:∀ (pk:PK) (x:aH×List Leaf) (v:Value) (cs:List Value) (g:Got pk.den),d9 x.1 v cs->aC P V W st w x.2 cs->ga pk x=some g->wj P V W st w pk v g) :
  ∀ (ps:List PK) (xs:List (aH×List Leaf)) (X:List Value) (g:Got (ab ps)),gS P V W st w xs X->a7 ga ps xs=some g ->
   (∃ I,c9 P w (bk V W g.p g.frz) (jJ V W st g.frz g.see) ps g.val X I/\∀ k,I.flatten.count k=(g.lend.map W.β).count k+(aX W g.kill).count k) /\
    (∀ z∈g.frz,aB st z)/\(∀ z∈g.kill,aB st z)/\(∀ b∈g.lend,live st b)
 |[],[],X,g,u,y=>by
  simp only[a7,BA]at y;subst y;exact⟨⟨[],⟨u,rfl⟩,λk=>by simp[aX]⟩,by simp,by simp,by simp⟩
 |[],_::_,_,_,_,y=>by simp[a7]at y
 |_::_,[],_,_,_,y=>by simp[a7]at y
 |p::ps,x::xs,X,g,u,y=>by
  obtain⟨v,O,cs,rfl,hs,hl,J⟩:=u;simp only[a7]at y;split at y
  ·rename_i g1 Z;split at y
   ·rename_i g2 a0;simp only[BA]at y;subst y;obtain⟨⟨b,h1,h2⟩,h3,h4,h5⟩:=H p x v cs g1 hs hl Z;obtain⟨⟨I,h6,h7⟩,h8,h9,Y⟩:=kq H ps xs O g2 J a0;refine⟨⟨b::I,⟨v,O,b,I,rfl,rfl,h1.mono (iV (by intro h;simp[h]) (λx u=>BJ _ u)) (kK (λx u=>BJ _ u) (λx u=>BJ _ u)),
     h6.mono (iV (by intro h;simp[h]) (λx u=>BE _ u)) (kK (λx u=>BE _ u) (λx u=>BE _ u))⟩,λk=>?_⟩,?_,?_,?_⟩
    ·rw[BX,BF,h7 k,h2,BF,DT,BF,dI,BF];omega
    ·intro z M;exact (BL.1 M).elim (h3 z) (h8 z)
    ·intro z M;exact (BL.1 M).elim (h4 z) (h9 z)
    ·intro z M;exact (BL.1 M).elim (h5 z) (Y z)
   ·cases y
  ·cases y
theorem nh:∀ {Γ:List Ctr} {f:FuncId} {c:Ctr},lK Γ f=some c->c∈Γ/\c.f=f
 |[],_,_,h=>by simp[lK]at h
 |z::Γ,f,c,h=>by
  simp only[lK]at h;cases u:BT z.f f with
  |true =>
   simp only[u,cond_true,BA]at h;subst h;exact⟨BW ..,BI u⟩
  |false =>
   simp only[u,cond_false]at h;obtain⟨H,y⟩:=nh h;exact⟨BP _ H,y⟩
theorem tv {w:World}{G pr:Nat->Prop}{q:List PK}{z:ab q}{cv:List Value}{H:List (List Nat)}(J:c9 P w G pr q z cv H):∀ (y:List Ty) (x:Tup y) (u:List Value),r8 w G y x u ->
  c9 P w G pr (y.map .rd++q) (nG q z y x) (u++cv) (y.map (λ_=>[])++H)
 |[],_,_,h=>by rw[show _=_ from h];exact J
 |a::y,x,_,⟨v,c,I,rfl,M,X,O⟩=>⟨v,I++cv,[],_,rfl,rfl,⟨rfl,c,M,X⟩,tv J y x.2 I O⟩
theorem p9 {w:World}{ro pr:Nat->Prop}:∀ {ps:List PK} {x:ab ps} {I:List Value} {u:List (List Nat)},ps.all PK.reads=true->c9 P w ro pr ps x I u->u.flatten=[]
 |[],_,_,_,_,⟨_,e⟩=>by rw[e];rfl
 |p::ps,_,_,_,h,⟨v,z,b,y,_,e,J,H⟩=>by
  simp only[C8,BC]at h;rw[e,BX,p9 h.2 H,B3];cases p <;> first|exact J.1|simp[PK.reads]at h
theorem qa {w w1:World}{ro pr ro' I:Nat->Prop}(u:∀ k,ro k->ro' k/\w1.heap[k]?=w.heap[k]?)(y:∀ k,pr k->I k/\w1.heap[k]?=w.heap[k]?):∀ {ps:List PK} {x:ab ps} {Y:List Value} {J:List (List Nat)},
  ps.all PK.reads=true->c9 P w ro pr ps x Y J->c9 P w1 ro' I ps x Y J
 |[],_,_,_,_,h=>h
 |p::ps,x,_,_,M,⟨v,X,b,H,e,e2,z,h2⟩=>by
  simp only[C8,BC]at M;refine⟨v,X,b,H,e,e2,?_,qa u y M.2 h2⟩;cases p with
  |rd a =>
   obtain⟨Z,cs,h3,h4⟩:=z;exact⟨Z,cs,h3,h4.carry (λk O=>(u k O).1) (λk O=>(u k O).2)⟩
  |rref a=>exact⟨z.1,z.2.carry u y⟩
  |rref2 a=>exact⟨z.1,z.2.carry u y⟩
  |_=>simp[PK.reads]at M
theorem mp (z:ax V){W:Wit}{p:Bool}{ks:List (Nat×Nat)}{y:List Nat}:∀ k,bk V W p ks k->jJ V W st ks y k:=by
 rintro k ((u|⟨_,u⟩)|u)
 ·exact .inl u
 ·exact .inr (.inl (z.ro k u))
 ·exact .inr (.inr (.inr u))
theorem rv {W:Wit}{ks:List (Nat×Nat)}{H:List Nat}(y:∀ z∈ks,aB st z):∀ k,jJ V W st ks H k->cd V W st k:=by
 rintro k (u|u|⟨b,_,I,e⟩|⟨x,M,u⟩)
 ·exact .inl u
 ·exact .inr (.inl u)
 ·exact .inr (.inr (.inl ⟨b,I,e⟩))
 ·obtain⟨l,O,J⟩:=y x M;exact .inr (.inr (.inr ⟨x.1,x.2,l,O,J,u⟩))
theorem sg {W:Wit}{w:World}:∀ {ls:List Leaf} {us:List Value},aC P V W st w ls us->gS P V W st w (ls.map λl=>(aH.one,[l])) us
 |[],[],_=>rfl
 |_::_,_::_,h=>⟨_,_,[_],rfl,rfl,⟨h.1,trivial⟩,sg h.2⟩
theorem xT (hV:ax V)(hΓ:∀ c∈Γ,bP P c){W:Wit}{a:Act}{w:World}(h:ap P V W st a w){O:List Ty}{B:Ty}{f:FuncId}{ls:List Leaf}{us:List Value}{v:Value}(hv:v=.func (.func f) #[] us.toArray)(bx:aC P V W st w ls us)
  {g:Got (Tup O->Option B.den)} (H:ku Γ st O B f ls=some g):ia P w (jJ V W st g.frz g.see) O B g.val v/\(∀ z∈g.frz,aB st z)/\g.kill=[]/\g.lend=[]:=by
 unfold ku at H;split at H
 ·rename_i c hc;obtain⟨b2,rfl⟩:=nh hc;obtain⟨a1,I⟩:=hΓ c b2;obtain⟨f',ps,rs,a2,c6⟩:=c;simp only at H a1 I hv;generalize ps.drop O.length=q at H;unfold rX at H;split at H
  ·rename_i hh;obtain⟨rfl,rfl⟩:=hh;cases hb:q.all PK.reads&&B.flat&&a2 with
   |false=>simp[hb]at H
   |true =>
    simp only[hb,cond_true]at H;simp only[BC]at hb;obtain⟨⟨b1,ba⟩,b4⟩:=hb;subst b4;split at H
    ·rename_i g0 bb;simp only[BA]at H;subst H;obtain⟨⟨a5,h1,h2⟩,h3,h4,h5⟩:=kq (λpk x v cs g hs hl H=>ng hV h hs hl H) q _ _ g0 (sg bx) bb;have c2:=p9 b1 h1;refine⟨⟨f',us.toArray,hv,a1,λw1 b9 Z x M y hx hy=>?_⟩,h3,rfl,rfl⟩;simp only[BB]at hy;obtain⟨y0,ad,rfl⟩:=hy;have J:(O.map (λ_=>([]:List Nat))++a5).flatten=[]:=by
      rw[List.flatten_append,c2,B3];clear hx ad;induction O with
      |nil=>rfl
      |cons a O ih=>simp
     have b3:∀ k,jJ V W st g0.frz g0.see k->k<w1.heap.size:=λk Y=>CK (h.used_lt k (rv h3 k Y)) b9
     have a4:=tv (P:=P) (pr:=λk=>k<w1.heap.size/\k∉(O.map (λ_=>([]:List Nat))++a5).flatten)
      (qa (P:=P) (w1:=w1) (ro':=λk=>k<w1.heap.size) (λk Y=>⟨b3 k (mp hV k Y),Z k (mp hV k Y)⟩)
       (λk Y=>⟨⟨b3 k Y,by rw[J];simp⟩,Z k Y⟩) b1 h1) O x M hx
     have a0:=I w1 (λk=>k<w1.heap.size) (nG q g0.val O x) (M++us) (O.map (λ_=>[])++a5) y0 a4
      (λk Y=>⟨Y,by rw[J];simp⟩) (by rw[J];exact DY) ad
     have a6:M.toArray++us.toArray=(M++us).toArray:=by simp
     rw[a6];refine a0.mono λe w2 a3=>?_
     obtain⟨u,c5,N,c4,cc,rfl,X,a9,c1,c0,bn,bl,_,_,b0,_,_⟩:=a3;obtain⟨u1,cb,b,c3,e1,e2,⟨cs,b5,hm⟩,e3,e4⟩:=b0;subst e3;subst e1;have X:u=u1:=X;subst X;exact⟨u,cs,rfl,b5,jV ba hm,⟨c1,c0,bn,a9,λk Y=>bl k Y (by rw[J];simp)⟩⟩
    ·cases H
  ·cases H
 ·cases H
theorem uy (Z:ax V)(hΓ:∀ c∈Γ,bP P c){W:Wit}{a:Act}{w:World}(h:ap P V W st a w)(pk:PK)(x:aH×List Leaf)(v:Value)(cs:List Value)(g:Got pk.den)(X:d9 x.1 v cs)(Y:aC P V W st w x.2 cs)
  (H:ca Γ st pk x=some g):wj P V W st w pk v g:=by
 cases pk with
 |fn As B =>
  simp only[ca]at H;split at H
  ·rename_i O z;have J:(∃ u,cl x=.clo O.1 u/\O.2=u.map λb=>Leaf.bp b 0)\/∃ u,cl x=.clr O.1 u/\O.2=u.map eK:=by
    generalize cl x=l at z;cases l <;> simp only[vp,BA,reduceCtorEq]at z
    ·subst z;exact .inl ⟨_,rfl,rfl⟩
    ·subst z;exact .inr ⟨_,rfl,rfl⟩
   rcases J with ⟨u,J,he⟩|⟨u,J,he⟩
   ·obtain⟨y,_⟩:=gP X Y J (by simp);rw[he]at H;obtain⟨h1,h2,M,I⟩:=xT Z hΓ h y.1 (p8 u y.2) H;exact⟨⟨[],⟨rfl,h1⟩,by rw[M,I];rfl⟩,h2,by rw[M];simp,by rw[I];simp⟩
   ·obtain⟨y,_⟩:=gP X Y J (by simp);rw[he]at H;obtain⟨us,e1,e2,e3⟩:=y;obtain⟨h1,h2,M,I⟩:=xT Z hΓ h e1 (qF e2 e3) H;exact⟨⟨[],⟨rfl,h1⟩,by rw[M,I];rfl⟩,h2,by rw[M];simp,by rw[I];simp⟩
  ·exact ng Z h X Y H
 |_=>exact ng Z h X Y H
end
section
variable {P:Program} {V:Env} {W:Wit} {st st':St} {w w':World} {a:Act}
theorem iH {G:Nat->Prop}{p:Bool}(hG:∀ k,G k->gd V W p k):∀ {b:Ty} {pos:Nat} {x:b.den} {cs:List Value} {bs:List Nat},Mx w G b none pos x cs bs->bs.Nodup ->
  ∃ Z:Nat->List Nat,(aq p b x).length=cs.length /\
   (∀ (j:Nat) (l:Leaf) (u:Value),(aq p b x)[j]?=some l->cs[j]?=some u->aK P V W st w (Z j) l u) /\
   (∀ (j:Nat) (l:Leaf),(aq p b x)[j]?=some l->ao l->∀ k∈Z j,k∈bs) /\
   (∀ (j O:Nat) (l l':Leaf),(aq p b x)[j]?=some l->ao l->(aq p b x)[O]?=some l'->ao l'->∀ k,k∈Z j->k∈Z O->j=O)
 |.int k,_,x,cs,bs,H,_=>by
  obtain⟨rfl,rfl⟩:=H;exact⟨λ_=>[],rfl,λj l u y R=>by cases j with|zero=>simp[aq]at y R;subst y;subst R;rfl|succ j=>simp[aq]at y,λj l y _ k r=>by simp at r,λj O l l' _ _ _ _ k r=>by simp at r⟩
 |.bool,_,x,cs,bs,H,_=>by
  obtain⟨rfl,rfl⟩:=H;exact⟨λ_=>[],rfl,λj l u y R=>by cases j with|zero=>simp[aq]at y R;subst y;subst R;rfl|succ j=>simp[aq]at y,λj l y _ k r=>by simp at r,λj O l l' _ _ _ _ k r=>by simp at r⟩
 |.str,_,x,cs,bs,H,_=>by
  obtain⟨rfl,rfl⟩:=H;exact⟨λ_=>[],rfl,λj l u y R=>by cases j with|zero=>simp[aq]at y R;subst y;subst R;rfl|succ j=>simp[aq]at y,λj l y _ k r=>by simp at r,λj O l l' _ _ _ _ k r=>by simp at r⟩
 |.unit,_,x,cs,bs,H,_=>by
  obtain⟨rfl,rfl⟩:=H;exact⟨λ_=>[],rfl,λj l u y R=>by simp[aq]at y,λj l y _ k r=>by simp at r,λj O l l' _ _ _ _ k r=>by simp at r⟩
 |.hdr,_,x,cs,bs,H,_=>by
  obtain⟨⟨A,a2,rfl⟩,rfl⟩:=H;exact⟨λ_=>[],rfl,λj l u y R=>by cases j with|zero=>simp[aq]at y R;subst y;subst R;exact⟨A,a2,rfl⟩|succ j=>simp[aq]at y,λj l y _ k r=>by simp at r,λj O l l' _ _ _ _ k r=>by simp at r⟩
 |.pair b c,pos,x,cs,bs,⟨c1,c2,b1,b2,e1,e2,y,R⟩,Y=>by
  subst e1;subst e2;rw[CH]at Y;obtain⟨d1,f1,f2,f3,f4⟩:=iH hG y Y.1;obtain⟨d2,g1,g2,g3,g4⟩:=iH hG R Y.2.1;have a4:=cK p b x.1;have a5:=y.len;have I:∀ (j:Nat) (l:Leaf),(aq p b x.1++aq p c x.2)[j]?=some l->(j<b.cells/\(aq p b x.1)[j]?=some l)\/(b.cells<=j/\(aq p c x.2)[j-b.cells]?=some l):=by
   intro j l z;by_cases J:j<b.cells
   ·rw[BH (by omega)]at z;exact .inl ⟨J,z⟩
   ·rw[BG (by omega),a4]at z;exact .inr ⟨by omega,z⟩
  refine⟨λj=>if j<b.cells then d1 j else d2 (j-b.cells),by simp only[aq,BR];omega,λj l u z hu=>?_,λj l z ho k r=>?_,λj O l l' z ho X a0 k r M=>?_⟩
  ·rcases I j l z with ⟨J,z⟩|⟨a3,z⟩
   ·rw[BH (by omega)]at hu;simp only[if_pos J];exact f2 j l u z hu
   ·rw[BG (by omega),a5]at hu;simp only[if_neg (show ¬ j<b.cells by omega)];exact g2 _ l u z hu
  ·rcases I j l z with ⟨J,z⟩|⟨a3,z⟩
   ·simp only[if_pos J]at r;exact BJ _ (f3 j l z ho k r)
   ·simp only[if_neg (show ¬ j<b.cells by omega)]at r;exact BE _ (g3 _ l z ho k r)
  ·rcases I j l z with ⟨J,z⟩|⟨a3,z⟩ <;> rcases I O l' X with ⟨a1,X⟩|⟨a6,X⟩
   ·simp only[if_pos J]at r;simp only[if_pos a1]at M;exact f4 j O l l' z ho X a0 k r M
   ·simp only[if_pos J]at r;simp only[if_neg (show ¬ O<b.cells by omega)]at M;exact absurd rfl (Y.2.2 k (f3 j l z ho k r) k (g3 _ l' X a0 k M))
   ·simp only[if_neg (show ¬ j<b.cells by omega)]at r;simp only[if_pos a1]at M;exact absurd rfl (Y.2.2 k (f3 O l' X a0 k M) k (g3 _ l z ho k r))
   ·simp only[if_neg (show ¬ j<b.cells by omega)]at r;simp only[if_neg (show ¬ O<b.cells by omega)]at M;have:=g4 _ _ l l' z ho X a0 k r M;omega
 |.list m E e,pos,xs,cs,bs,H,Y=>by
  cases m with
  |false =>
   rw[cn]at H;obtain⟨rfl,A,a2,rfl,R,h3⟩:=H;refine⟨λ_=>[],rfl,λj l u y h4=>?_,λj l y _ k r=>by simp at r,λj O l l' _ _ _ _ k r=>by simp at r⟩;cases j with
   |zero =>
    simp[aq]at y h4;subst y;subst h4;exact Rd.mono hG (⟨A,a2,rfl,R,h3⟩:Rd w G (.list false E e) xs _)
   |succ j=>simp[aq]at y
  |true =>
   rw[bI (by simp)]at H;obtain⟨v,rfl,hO⟩:=H;refine⟨λ_=>bs,rfl,λj l u y h4=>?_,λj l y _ k r=>r,λj O l l' y _ h3 _ k _ _=>?_⟩
   ·cases j with
    |zero =>
     simp[aq]at y h4;subst y;subst h4;exact⟨Y,OwB.shy (hO.carry hG (λ_ _=>rfl) (λ_ _=>rfl))⟩
    |succ j=>simp[aq]at y
   ·have h7:j<1:=by simpa[aq]using (BD.1 y).1
    have h8:O<1:=by simpa[aq]using (BD.1 h3).1
    omega
theorem ap.reown (hV:ax V)(h:ap P V W st a w)(r:Nat)(c:bS)(J:Nat->List Nat)(a4:(st r).ver<c.ver)(a2:c.sh=(st r).sh)(Y:c.ls.length=(st r).ls.length)
  (a1:∀ (j:Nat) (l:Leaf) (v:Value),c.ls[j]?=some l->(W.cs r)[j]?=some v->aK P V W st w (J j) l v)
  (a0:∀ (j:Nat) (l:Leaf),c.ls[j]?=some l->ao l->∀ k∈J j,¬ W.nw k/\¬ V.prot k/\(∀ b,live st b->W.β b≠k) /\
   ∀ (r1 j1:Nat) (l1:Leaf),r1≠r->(st r1).ls[j1]?=some l1->ao l1->k∉W.bs r1 j1)
  (a3:∀ (j j':Nat) (l l':Leaf),c.ls[j]?=some l->ao l->c.ls[j']?=some l'->ao l'->∀ k,k∈J j->k∈J j'->j=j') :
  ap P V { W with bs:=λr' j=>if r'=r then J j else W.bs r' j } (ac [(r,c)] st) a w:=by
 have I:∀ b,live (ac [(r,c)] st) b<->live st b:=by
  intro b;rcases am r b c st with ⟨rfl,e⟩|⟨_,e⟩
  ·simp[live,e,a2]
  ·simp[live,e]
 have Z:cF V W { W with bs:=λr' j=>if r'=r then J j else W.bs r' j } st (ac [(r,c)] st) w w:=by
  refine⟨λq=>?_,λb R=>⟨(I b).2 R,rfl⟩,λ_ h=>h,λ_ _=>rfl,λ_ q j' l' O h4 h5=>?_⟩
  ·rcases am r q c st with ⟨rfl,e⟩|⟨y,e⟩
   ·rw[e];exact⟨Nat.le_of_lt a4,λ_=>rfl⟩
   ·rw[e];exact⟨BU _,λ_=>rfl⟩
  ·rcases am r q c st with ⟨rfl,e⟩|⟨y,e⟩
   ·rw[e]at h5;omega
   ·rw[e]at O;exact⟨⟨l',O,h4⟩,by simp[y],λ_ _=>rfl⟩
 exact {
  nt:=h.nt,df:=h.df
  slots:=λt ht=>by
   rcases am r t c st with ⟨rfl,e⟩|⟨_,e⟩
   ·rw[e,a2];exact h.slots t ht
   ·rw[e];exact h.slots t ht
  boxes:=λb R=>by
   rcases am r b c st with ⟨rfl,e⟩|⟨_,e⟩
   ·rw[e,a2];rcases h.boxes b R with ⟨h1,z⟩|h1
    ·refine .inl ⟨h1,?_⟩;rw[z]at Y;exact BV Y
    ·exact .inr h1
   ·rw[e];exact h.boxes b R
  len:=λq=>by
   rcases am r q c st with ⟨rfl,e⟩|⟨_,e⟩
   ·rw[e,Y];exact h.len q
   ·rw[e];exact h.len q
  one:=h.one
  leaf:=λq j l u z O=>by
   rcases am r q c st with ⟨rfl,e⟩|⟨y,e⟩
   ·rw[e]at z;exact (a1 j l u z O).carry hV.ro Z (λ_=>⟨by simp,λ_ _=>rfl⟩)
   ·rw[e]at z;exact (h.leaf q j l u z O).carry hV.ro Z (λ_=>⟨by simp[y],λ_ _=>rfl⟩)
  ownb:=λq j l z O k M=>by
   rcases am r q c st with ⟨rfl,e⟩|⟨y,e⟩
   ·rw[e]at z;simp only[if_true]at M;have:=a0 j l z O k M;exact⟨this.1,this.2.1,λb R=>this.2.2.1 b ((I b).1 R)⟩
   ·rw[e]at z;simp only[y,if_false]at M;have:=h.ownb q j l z O k M;exact⟨this.1,this.2.1,λb R=>this.2.2 b ((I b).1 R)⟩
  sep:=λq j l q' j' l' z O h4 h5 k M H=>by
   rcases am r q c st with ⟨e0,e⟩|⟨y,e⟩ <;> rcases am r q' c st with ⟨e1,e'⟩|⟨X,e'⟩
   ·rw[e]at z;rw[e']at h4;simp only[e0,if_true]at M;simp only[e1,if_true]at H;exact⟨e0.trans e1.symm,a3 j j' l l' z O h4 h5 k M H⟩
   ·rw[e]at z;rw[e']at h4;simp only[e0,if_true]at M;simp only[X,if_false]at H;exact absurd H ((a0 j l z O k M).2.2.2 q' j' l' X h4 h5)
   ·rw[e]at z;rw[e']at h4;simp only[y,if_false]at M;simp only[e1,if_true]at H;exact absurd M ((a0 j' l' h4 h5 k H).2.2.2 q j l y z O)
   ·rw[e]at z;rw[e']at h4;simp only[y,if_false]at M;simp only[X,if_false]at H;exact h.sep q j l q' j' l' z O h4 h5 k M H
  box:=λb R=>h.box b ((I b).1 R)
  inj:=λb b' R a5=>h.inj b b' ((I b).1 R) ((I b').1 a5)
  nwlt:=h.nwlt
  os:=h.os,tape:=h.tape,output:=h.output,size:=h.size,keep:=h.keep
  fixb:=λx hx=>⟨(I _).2 (h.fixb x hx).1,(h.fixb x hx).2⟩
  fixt:=h.fixt }
theorem ap.reownE (hV:ax V)(h:ap P V W st a w)(r:Nat)(c:bS)(J:Nat->List Nat)(a5:r≠EPO)(a3:(st r).ver<=c.ver)(a6:c.sh=(st r).sh)(a1:c.ls.length=(st r).ls.length)
  (a0:∀ (j:Nat) (l:Leaf) (v:Value),c.ls[j]?=some l->(W.cs r)[j]?=some v->aK P V W st w (J j) l v)
  (Y:∀ (j:Nat) (l:Leaf),c.ls[j]?=some l->ao l->∀ k∈J j,¬ W.nw k/\¬ V.prot k/\(∀ b,live st b->W.β b≠k) /\
   ∀ (r1 j1:Nat) (l1:Leaf),r1≠r->(st r1).ls[j1]?=some l1->ao l1->k∉W.bs r1 j1)
  (a2:∀ (j j':Nat) (l l':Leaf),c.ls[j]?=some l->ao l->c.ls[j']?=some l'->ao l'->∀ k,k∈J j->k∈J j'->j=j') :
  ap P V { W with bs:=λr' j=>if r'=r then J j else W.bs r' j } (ac [(r,c),(EPO,bV (st EPO))] st) a w /\
   (∀ q,(ac [(r,c),(EPO,bV (st EPO))] st q).sh=(st q).sh/\(st q).ver<=(ac [(r,c),(EPO,bV (st EPO))] st q).ver/\(q≠r->(ac [(r,c),(EPO,bV (st EPO))] st q).ls=(st q).ls))/\ac [(r,c),(EPO,bV (st EPO))] st r=c:=by
 have e0:ac [(r,c),(EPO,bV (st EPO))] st=ac [(r,c)] (ac [(EPO,bV (st EPO))] st):=aO _ _ _ _;generalize hS:ac [(r,c),(EPO,bV (st EPO))] st=S;rw[e0]at hS;have hr:S r=c:=by rw[<- hS,bi]
 have O:∀ q,(S q).sh=(st q).sh/\(st q).ver<=(S q).ver/\(q≠r->(S q).ls=(st q).ls):=by
  intro q;rw[<- hS];rcases am r q c (ac [(EPO,bV (st EPO))] st) with ⟨rfl,e⟩|⟨ad,e⟩
  ·rw[e];exact⟨a6,a3,λh=>absurd rfl h⟩
  ·rw[e];rcases am EPO q (bV (st EPO)) st with ⟨rfl,e⟩|⟨_,e⟩ <;> rw[e]
   ·exact⟨rfl,DP _,λ_=>rfl⟩
   ·exact⟨rfl,BU _,λ_=>rfl⟩
 have hE:(st EPO).ver<(S EPO).ver:=by
  rw[<- hS,aI (CQ a5),bi];exact BM _
 refine⟨?_,O,hr⟩;have I:∀ b,live S b<->live st b:=λb=>by simp[live,(O b).1]
 have X:cF V W { W with bs:=λr' j=>if r'=r then J j else W.bs r' j } st S w w :=
  ⟨λq=>⟨(O q).2.1,λ_=>rfl⟩,λb R=>⟨(I b).2 R,rfl⟩,λ_ h=>h,λ_ _=>rfl,λhe=>by omega⟩
 have a4:∀ q,(S q).ls.length=(st q).ls.length:=λq=>by
  by_cases y:q=r
  ·rw[y,hr,a1]
  ·rw[(O q).2.2 y]
 exact {
  nt:=h.nt,df:=h.df
  slots:=λt ht=>by rw[(O t).1];exact h.slots t ht
  boxes:=λb R=>by
   rw[(O b).1];rcases h.boxes b R with ⟨h1,z⟩|h1
   ·refine .inl ⟨h1,BV ?_⟩;rw[a4,z];rfl
   ·exact .inr h1
  len:=λq=>by rw[a4];exact h.len q
  one:=h.one
  leaf:=λq j l u z Z=>by
   by_cases y:q=r
   ·subst y;rw[hr]at z;exact (a0 j l u z Z).carry hV.ro X (λ_=>⟨by simp,λ_ _=>rfl⟩)
   ·rw[(O q).2.2 y]at z;exact (h.leaf q j l u z Z).carry hV.ro X (λ_=>⟨by simp[y],λ_ _=>rfl⟩)
  ownb:=λq j l z Z k M=>by
   by_cases y:q=r
   ·subst y;rw[hr]at z;simp only[if_true]at M;have:=Y j l z Z k M;exact⟨this.1,this.2.1,λb R=>this.2.2.1 b ((I b).1 R)⟩
   ·rw[(O q).2.2 y]at z;simp only[y,if_false]at M;have:=h.ownb q j l z Z k M;exact⟨this.1,this.2.1,λb R=>this.2.2 b ((I b).1 R)⟩
  sep:=λq j l q' j' l' z Z h4 h5 k M H=>by
   by_cases e0:q=r <;> by_cases e1:q'=r
   ·subst e0;subst e1;rw[hr]at z h4;simp only[if_true]at M H;exact⟨rfl,a2 j j' l l' z Z h4 h5 k M H⟩
   ·subst e0;rw[hr]at z;rw[(O q').2.2 e1]at h4;simp only[if_true]at M;simp only[e1,if_false]at H;exact absurd H ((Y j l z Z k M).2.2.2 q' j' l' e1 h4 h5)
   ·subst e1;rw[(O q).2.2 e0]at z;rw[hr]at h4;simp only[e0,if_false]at M;simp only[if_true]at H;exact absurd M ((Y j' l' h4 h5 k H).2.2.2 q j l e0 z Z)
   ·rw[(O q).2.2 e0]at z;rw[(O q').2.2 e1]at h4;simp only[e0,if_false]at M;simp only[e1,if_false]at H;exact h.sep q j l q' j' l' z Z h4 h5 k M H
  box:=λb R=>h.box b ((I b).1 R)
  inj:=λb b' R a9=>h.inj b b' ((I b).1 R) ((I b').1 a9)
  nwlt:=h.nwlt
  os:=h.os,tape:=h.tape,output:=h.output,size:=h.size,keep:=h.keep
  fixb:=λx hx=>⟨(I _).2 (h.fixb x hx).1,(h.fixb x hx).2⟩
  fixt:=h.fixt }
theorem ap.nwGrow (O:ax V)(h:ap P V W st a w)(N:Nat->Prop)(M:∀ k,N k->k<w.heap.size/\¬ cd V W st k):ap P V { W with nw:=λk=>W.nw k\/N k } st a w:=by
 have z:cF V W { W with nw:=λk=>W.nw k\/N k } st st w w:=⟨λr=>⟨BU _,λ_=>rfl⟩,λb J=>⟨J,rfl⟩,λ_ h=>.inl h,λ_ _=>rfl,λ_ _ _ l I H _=>⟨⟨l,I,H⟩,rfl,λ_ _=>rfl⟩⟩
 exact {
  nt:=h.nt,df:=h.df,slots:=h.slots,boxes:=h.boxes,len:=h.len,one:=h.one
  leaf:=λr j l v I H=>(h.leaf r j l v I H).carry O.ro z (λ_=>⟨rfl,λ_ _=>rfl⟩)
  ownb:=λr j l I H k u=>⟨λy=>y.elim (h.ownb r j l I H k u).1 (λy=>(M k y).2 (.inr (.inr (.inr ⟨r,j,l,I,H,u⟩)))),(h.ownb r j l I H k u).2⟩
  sep:=h.sep
  box:=λb J=>⟨λy=>y.elim (h.box b J).1 (λy=>(M _ y).2 (.inr (.inr (.inl ⟨b,J,rfl⟩)))),(h.box b J).2⟩
  inj:=h.inj
  nwlt:=λk u=>u.elim (h.nwlt k) (λu=>⟨(M k u).1,λR=>(M k u).2 (.inr (.inl R))⟩)
  os:=h.os,tape:=h.tape,output:=h.output,size:=h.size,keep:=h.keep,fixb:=h.fixb,fixt:=h.fixt }
end
def eH:List Leaf->List Leaf->List (Nat×Nat)
 |.al r j _::y,l::u=>(match l with|.own _ _ _ _ _=>[(r,j)]|_=>[])++eH y u
 |_::y,_::u=>eH y u
 |_,_=>[]
section
variable {P:Program} {V:Env} {st st':St} {w w':World} {a:Act}
theorem ni {x l:Leaf}{xs ls:List Leaf}(h:¬ ao l):eH (x::xs) (l::ls)=eH xs ls:=by
 cases x <;> try rfl
 cases l <;> first|exact absurd trivial h|rfl
theorem u6 {k:IntKind}{ls:List Leaf}{x:Bool×(Ty.int k).den×List Leaf}(h:aZ st (.int k) ls=some x):∃ l,ls=l::x.2.2:=by
 simp only[aZ]at h;split at h
 ·split at h
  ·simp only[BA]at h;subst h;exact⟨_,rfl⟩
  ·cases h
 ·cases h
theorem tw {ls:List Leaf}{x:Bool×Ty.bool.den×List Leaf}(h:aZ st .bool ls=some x):∃ l,ls=l::x.2.2:=by
 simp only[aZ]at h;split at h
 ·simp only[BA]at h;subst h;exact⟨_,rfl⟩
 ·cases h
theorem u7 {ls:List Leaf}{x:Bool×Ty.str.den×List Leaf}(h:aZ st .str ls=some x):∃ l,ls=l::x.2.2:=by
 simp only[aZ]at h;split at h
 ·simp only[BA]at h;subst h;exact⟨_,rfl⟩
 ·cases h
theorem u9 {ls:List Leaf}{x:Bool×Ty.hdr.den×List Leaf}(h:aZ st .hdr ls=some x):∃ l,ls=l::x.2.2:=by
 simp only[aZ]at h;split at h
 ·split at h
  ·simp only[BA]at h;subst h;exact⟨_,rfl⟩
  ·cases h
 ·cases h
theorem k7 {p:Bool}:∀ (b:Ty) (ls:List Leaf) (t:cM b.den),take st b ls=some t->∀ (y:b.den) (r:List Leaf),eH ls (aq p b y++r)=t.kill++eH t.rest r
 |.pair b c,ls,t,h,y,r=>by
  simp only[take]at h;split at h
  ·rename_i u M;split at h
   ·rename_i v z;simp only[BA]at h;subst h;simp only[aq];rw[BQ,k7 b ls u M y.1,k7 c u.rest v z y.2,BQ]
   ·cases h
  ·cases h
 |.unit,ls,t,h,y,r=>by
  simp only[take,BA]at h;subst h;rfl
 |.list m E e,ls,t,h,y,r=>by
  cases ls with
  |nil=>simp[take]at h
  |cons l ls =>
   cases m with
   |false =>
    simp only[take,cond_false]at h;split at h
    ·simp only[BA]at h;subst h;exact ni id
    ·cases h
   |true =>
    simp only[take,cond_true]at h;split at h
    ·split at h
     ·simp only[BB]at h;obtain⟨O,_,rfl⟩:=h;rfl
     ·cases h
    ·simp only[BA]at h;subst h;rfl
    ·cases h
 |.int k,ls,t,h,y,r=>scal (b:=.int k) h u6 (l':=.int k y) id
 |.bool,ls,t,h,y,r=>scal (b:=.bool) h tw (l':=.bool y) id
 |.str,ls,t,h,y,r=>scal (b:=.str) h u7 (l':=.str y) id
 |.hdr,ls,t,h,y,r=>scal (b:=.hdr) h u9 (l':=.hdr y) id
where
 scal {b:Ty} {ls:List Leaf} {t:cM b.den} {l':Leaf} {r:List Leaf} (h:(aZ st b ls).map (λx=>(⟨false,x.2.1,[],[],x.2.2⟩:cM b.den))=some t)
   (H:∀ {ls:List Leaf} {x:Bool×b.den×List Leaf},aZ st b ls=some x->∃ l,ls=l::x.2.2) (J:¬ ao l'):eH ls ([l']++r)=t.kill++eH t.rest r:=by
  simp only[BB]at h;obtain⟨x,I,rfl⟩:=h;obtain⟨l,rfl⟩:=H I;exact ni J
theorem zc {W W':Wit}{bs:List Nat}{l:Leaf}{v:Value}(y:ao l)(u:W'.nw=W.nw)(h:aK P V W st w bs l v):aK P V W' st' w bs l v:=by
 cases l <;> simp only[ao]at y;exact OwH.carry h (λk r=>by
  rcases r with r|r
  ·exact .inl (by rw[u];exact r)
  ·exact .inr r) (λ_ _=>rfl) (λ_ _=>rfl)
theorem wk {S:St}{x l:Leaf}{xs ls:List Leaf}(h:¬ ao l):ac (b7 S (x::xs) (l::ls)) S=ac (b7 S xs ls) S:=by
 cases x <;> try rfl
 cases l <;> first|exact absurd trivial h|rfl
theorem jK {x:Nat×Nat}{l:List (Nat×Nat)}(h:aY (x::l)=true):x∉l/\aY l=true:=by
 simp only[aY,BC,BY,B8]at h;exact⟨λr=>by have:=h.1 x r;simp at this,h.2⟩
theorem zD (hV:ax V){W:Wit}{S:St}(h:ap P V W S a w):∀ (xl ls:List Leaf) (cs:List Value) (O:Nat->List Nat),aY (eH xl ls)=true->(∀ x∈eH xl ls,x.1≠EPO)->xl.length=cs.length->ls.length=cs.length ->
  (∀ (i r j n:Nat) (l:Leaf) (u:Value),xl[i]?=some (.al r j n)->ls[i]?=some l->ao l->cs[i]?=some u->(W.cs r)[j]?=some u) ->
  (∀ x∈eH xl ls,∀ l,(S x.1).ls[x.2]?=some l->¬ ao l) ->
  (∀ (i:Nat) (l:Leaf) (u:Value),ls[i]?=some l->cs[i]?=some u->aK P V W S w (O i) l u) ->
  (∀ (i:Nat) (l:Leaf),ls[i]?=some l->ao l->∀ k∈O i,¬ cd V W S k) ->
  (∀ (i i':Nat) (l l':Leaf),ls[i]?=some l->ao l->ls[i']?=some l'->ao l'->∀ k,k∈O i->k∈O i'->i=i') ->
  ∃ W',ap P V W' (ac (b7 S xl ls) S) a w/\W'.cs=W.cs/\W'.β=W.β/\W'.nw=W.nw/\(∀ q,(ac (b7 S xl ls) S q).sh=(S q).sh/\(S q).ver<=(ac (b7 S xl ls) S q).ver) /\
   (∀ (q i:Nat),(q,i)∉eH xl ls->(ac (b7 S xl ls) S q).ls[i]?=(S q).ls[i]?/\W'.bs q i=W.bs q i) /\
   (∀ k,cd V W' (ac (b7 S xl ls) S) k->cd V W S k\/∃ i l,ls[i]?=some l/\ao l/\k∈O i)
 |[],ls,cs,O,_,_,hx,hl,_,_,_,_,_=>⟨W,h,rfl,rfl,rfl,λ_=>⟨rfl,BU _⟩,λ_ _ _=>⟨rfl,rfl⟩,λk R=>.inl R⟩
 |x::X,[],cs,O,_,_,hx,hl,_,_,_,_,_=>by simp at hx hl;omega
 |x::X,l::ls,[],O,_,_,hx,hl,_,_,_,_,_=>by simp at hx
 |x::X,l::ls,u::cs,O,hd,b9,hx,hl,b4,ba,a5,a4,b0=>by
  have b3:aY (eH X ls)=true:=by
   cases x with
   |al r j n =>
    cases l with
    |own p hh E e ys=>exact (jK hd).2
    |_=>exact hd
   |_=>exact hd
  have ad:∀ z∈eH X ls,z∈eH (x::X) (l::ls):=by
   intro z hz;cases x with
   |al r j n=>exact BE _ hz
   |_=>exact hz
  obtain⟨W1,h1,e1,e2,e3,e4,e5,e6⟩:=zD hV h X ls cs (λi=>O (i+1)) b3 (λz hz=>b9 z (ad z hz)) (by simpa using hx) (by simpa using hl)
   (λi r j n l' u' J I M g4=>b4 (i+1) r j n l' u' (by simpa using J) (by simpa using I) M (by simpa using g4))
   (λz hz=>ba z (ad z hz)) (λi l' u' J I=>a5 (i+1) l' u' (by simpa using J) (by simpa using I))
   (λi l' J I=>a4 (i+1) l' (by simpa using J) I)
   (λi i' l1 l2 J I M g4 k g5 g6=>by have:=b0 (i+1) (i'+1) l1 l2 (by simpa using J) I (by simpa using M) g4 k g5 g6;omega)
  by_cases hs:¬ ao l\/(∀ r j n,x≠.al r j n)
  ·have a9:ac (b7 S (x::X) (l::ls)) S=ac (b7 S X ls) S/\eH (x::X) (l::ls)=eH X ls:=by
    rcases hs with hs|hs
    ·exact⟨wk hs,ni hs⟩
    ·cases x with
     |al r j n=>exact absurd rfl (hs r j n)
     |_=>exact⟨rfl,rfl⟩
   rw[a9.1,a9.2];exact⟨W1,h1,e1,e2,e3,e4,e5,λk R=>(e6 k R).imp id λ⟨i,l',J,I,M⟩=>⟨i+1,l',by simpa using J,I,M⟩⟩
  ·simp only[not_or,Classical.not_not]at hs;obtain⟨bn,bl⟩:=hs;obtain⟨r,j,n,rfl⟩:∃ r j n,x=.al r j n:=by
    cases x with
    |al r j n=>exact⟨r,j,n,rfl⟩
    |_=>exact absurd (λ_ _ _ h=>by cases h) bl
   obtain⟨p,hh,E,e,ys,rfl⟩:∃ p hh E e ys,l=.own p hh E e ys:=by
    cases l <;> simp only[ao]at bn;exact⟨_,_,_,_,_,rfl⟩
   have b2:eH (.al r j n::X) (.own p hh E e ys::ls)=(r,j)::eH X ls:=rfl;rw[b2]at hd ba;obtain⟨c1,c0⟩:=jK hd;have hv:=b4 0 r j n _ u rfl rfl trivial rfl;have a9:ac (b7 S (.al r j n::X) (.own p hh E e ys::ls)) S=ac [(r,⟨(ac (b7 S X ls) S r).ver,(ac (b7 S X ls) S r).sh,aS (ac (b7 S X ls) S r).ls j (.own p hh E e ys)⟩),(EPO,bV (ac (b7 S X ls) S EPO))] (ac (b7 S X ls) S):=bz [_,_] _ _;have a6:aK P V W1 (ac (b7 S X ls) S) w (O 0) (.own p hh E e ys) u:=zc trivial e3 (a5 0 _ u rfl rfl);have Y:∀ k∈O 0,¬ cd V W1 (ac (b7 S X ls) S) k:=λk R hu=>by
    rcases e6 k hu with hu|⟨i,l',J,I,M⟩
    ·exact a4 0 _ rfl trivial k R hu
    ·have:=b0 0 (i+1) _ l' rfl trivial (by simpa using J) I k R M;omega
   have H:∀ (i:Nat) (l':Leaf),i≠j->(aS (ac (b7 S X ls) S r).ls j (.own p hh E e ys))[i]?=some l'->(ac (b7 S X ls) S r).ls[i]?=some l':=by
    intro i l' a3 Z;rcases aR _ _ _ _ _ Z with ⟨rfl,_,_⟩|⟨_,Z⟩
    ·exact absurd rfl a3
    ·exact Z
   have bb:∀ (l':Leaf),(aS (ac (b7 S X ls) S r).ls j (.own p hh E e ys))[j]?=some l'->l'=.own p hh E e ys:=by
    intro l' Z;rcases aR _ _ _ _ _ Z with ⟨_,rfl,_⟩|⟨a3,_⟩
    ·rfl
    ·exact absurd rfl a3
   have bx:r≠EPO:=b9 (r,j) (by rw[b2];exact BW ..);obtain⟨h2,a2,b5⟩:=h1.reownE hV r ⟨(ac (b7 S X ls) S r).ver,(ac (b7 S X ls) S r).sh,aS (ac (b7 S X ls) S r).ls j (.own p hh E e ys)⟩ (λi=>if i=j then O 0 else W1.bs r i) bx (BU _) rfl (by simp[aS])
    (λi l' v' J I=>by
     by_cases y:i=j
     ·subst y;obtain rfl:=bb l' J;rw[e1,hv]at I;simp only[BA]at I;subst I;simp only[if_true];exact a6
     ·simp only[if_neg y];exact h1.leaf r i l' v' (H i l' y J) I)
    (λi l' J I k R=>by
     by_cases y:i=j
     ·subst y;simp only[if_true]at R;have hu:=Y k R;simp only[cd,not_or,not_exists,not_and]at hu;exact⟨hu.1,hu.2.1,hu.2.2.1,λr1 j1 l1 _ M g4 g5=>hu.2.2.2 r1 j1 l1 M g4 g5⟩
     ·simp only[if_neg y]at R;have Z:=H i l' y J;have h9:=h1.ownb r i l' Z I k R;exact⟨h9.1,h9.2.1,h9.2.2,λr1 j1 l1 a3 M g4 g5=>a3 (h1.sep r i l' r1 j1 l1 Z I M g4 k R g5).1.symm⟩)
    (λi i' l1 l2 J I M g4 k R a1=>by
     by_cases y:i=j <;> by_cases a0:i'=j
     ·omega
     ·subst y;simp only[if_true]at R;simp only[if_neg a0]at a1;exact absurd (.inr (.inr (.inr ⟨r,i',l2,H i' l2 a0 M,g4,a1⟩))) (Y k R)
     ·subst a0;simp only[if_true]at a1;simp only[if_neg y]at R;exact absurd (.inr (.inr (.inr ⟨r,i,l1,H i l1 y J,I,R⟩))) (Y k a1)
     ·simp only[if_neg y]at R;simp only[if_neg a0]at a1;exact (h1.sep r i l1 r i' l2 (H i l1 y J) I (H i' l2 a0 M) g4 k R a1).2)
   rw[a9];refine⟨_,h2,e1,e2,e3,λq=>?_,λq i hq=>?_,λk R=>?_⟩
   ·exact⟨(a2 q).1.trans (e4 q).1,CI (e4 q).2 (a2 q).2.1⟩
   ·rw[b2]at hq;simp only[CS,not_or]at hq;by_cases b1:q=r
    ·subst b1;rw[b5];have y:j≠i:=λe0=>hq.1 (by rw[e0])
     simp only[aS];rw[CP y];refine⟨(e5 q i hq.2).1,?_⟩;simp only[if_true,if_neg (CQ y)];exact (e5 q i hq.2).2
    ·rw[(a2 q).2.2 b1];refine⟨(e5 q i hq.2).1,?_⟩;show (if q=r then _ else W1.bs q i)=_;rw[if_neg b1];exact (e5 q i hq.2).2
   ·rcases R with R|R|⟨b,hb,R⟩|⟨q,i,l',J,I,M⟩
    ·exact .inl (.inl (by rw[<- e3];exact R))
    ·exact .inl (.inr (.inl R))
    ·refine (e6 k (.inr (.inr (.inl ⟨b,?_,R⟩)))).imp id λ⟨i,l',J,I,M⟩=>⟨i+1,l',by simpa using J,I,M⟩
     exact (iy (λq=>(a2 q).1) b).1 hb
    ·by_cases hq:q=r
     ·subst hq;rw[b5]at J;simp only[if_true]at M;by_cases y:i=j
      ·subst y;simp only[if_true]at M;exact .inr ⟨0,_,rfl,trivial,M⟩
      ·simp only[if_neg y]at M;exact (e6 k (.inr (.inr (.inr ⟨q,i,l',H i l' y J,I,M⟩)))).imp id λ⟨i,l',J,I,M⟩=>⟨i+1,l',by simpa using J,I,M⟩
     ·rw[(a2 q).2.2 hq]at J;simp only[if_neg hq]at M;exact (e6 k (.inr (.inr (.inr ⟨q,i,l',J,I,M⟩)))).imp id λ⟨i,l',J,I,M⟩=>⟨i+1,l',by simpa using J,I,M⟩
end
def PK.isIop:PK->Bool
 |.iop _=>true
 |_=>false
section
variable {P:Program} {V:Env} {Γ:List Ctr} {st st':St} {w w':World} {a:Act}
theorem kL:∀ {a b:List (Nat×Nat)},aY (a++b)=true->aY a=true/\aY b=true/\∀ x∈a,x∉b
 |[],b,h=>⟨rfl,h,by simp⟩
 |x::a,b,h=>by
  obtain⟨z,J⟩:=jK h;obtain⟨I,O,R⟩:=kL J;refine⟨?_,O,λy r u=>?_⟩
  ·simp only[aY,BC,BY,B8];refine⟨λy r M=>z (BJ _ ?_),I⟩;obtain⟨H,X⟩:x.1=y.1/\x.2=y.2:=by simpa using M
   rw[show x=y from Df H X];exact r
  ·rcases CS.1 r with rfl|r
   ·exact z (BE _ u)
   ·exact R y r u
theorem ka {p:Bool}:∀ (b:Ty) (ls:List Leaf) (t:cM b.den),take st b ls=some t->∀ (y:b.den) (i r j n:Nat) (l:Leaf),ls[i]?=some (.al r j n)->(aq p b y)[i]?=some l->ao l->(st r).ver=n
 |.pair b c,ls,t,h,y,i,r,j,n,l,I,z,J=>by
  simp only[take]at h;split at h
  ·rename_i u M;split at h
   ·rename_i v O;simp only[aq]at z;have Z:=cK p b y.1;by_cases hi:i<b.cells
    ·rw[BH (by omega)]at z;exact ka b ls u M y.1 i r j n l I z J
    ·rw[BG (by omega),Z]at z;have X:=take_rest b ls u M;refine ka c u.rest v O y.2 (i-b.cells) r j n l ?_ z J;rw[X,CT,show b.cells+(i-b.cells)=i by omega];exact I
   ·cases h
  ·cases h
 |.list m E e,ls,t,h,y,i,r,j,n,l,I,z,J=>by
  cases m with
  |false =>
   cases i with
   |zero=>simp[aq]at z;subst z;exact J.elim
   |succ i=>simp[aq]at z
  |true =>
   cases i with
   |succ i=>simp[aq]at z
   |zero =>
    cases ls with
    |nil=>simp at I
    |cons l' ls =>
     simp only[CU,BA]at I;subst I;simp only[take,cond_true]at h;split at h
     ·rename_i R;exact (eZ R (by simp)).1
     ·cases h
 |.int k,ls,t,h,y,i,r,j,n,l,I,z,J=>by
  cases i with
  |zero=>simp[aq]at z;subst z;exact J.elim
  |succ i=>simp[aq]at z
 |.bool,ls,t,h,y,i,r,j,n,l,I,z,J=>by
  cases i with
  |zero=>simp[aq]at z;subst z;exact J.elim
  |succ i=>simp[aq]at z
 |.str,ls,t,h,y,i,r,j,n,l,I,z,J=>by
  cases i with
  |zero=>simp[aq]at z;subst z;exact J.elim
  |succ i=>simp[aq]at z
 |.hdr,ls,t,h,y,i,r,j,n,l,I,z,J=>by
  cases i with
  |zero=>simp[aq]at z;subst z;exact J.elim
  |succ i=>simp[aq]at z
 |.unit,ls,t,h,y,i,r,j,n,l,I,z,J=>by simp[aq]at z
where
 take_rest:∀ (b:Ty) (ls:List Leaf) (t:cM b.den),take st b ls=some t->t.rest=ls.drop b.cells
  |.pair b c,ls,t,h=>by
   simp only[take]at h;split at h
   ·rename_i u M;split at h
    ·rename_i v O;simp only[BA]at h;subst h;show v.rest=_;rw[take_rest c u.rest v O,take_rest b ls u M,List.drop_drop];rfl
    ·cases h
   ·cases h
  |.unit,ls,t,h=>by
   simp only[take,BA]at h;subst h;rfl
  |.list m E e,ls,t,h=>by
   cases ls with
   |nil=>simp[take]at h
   |cons l ls =>
    cases m with
    |false =>
     simp only[take,cond_false]at h;split at h
     ·simp only[BA]at h;subst h;rfl
     ·cases h
    |true =>
     simp only[take,cond_true]at h;split at h
     ·split at h
      ·simp only[BB]at h;obtain⟨xs,_,rfl⟩:=h;rfl
      ·cases h
     ·simp only[BA]at h;subst h;rfl
     ·cases h
  |.int k,ls,t,h=>sc (b:=.int k) h u6 rfl
  |.bool,ls,t,h=>sc (b:=.bool) h tw rfl
  |.str,ls,t,h=>sc (b:=.str) h u7 rfl
  |.hdr,ls,t,h=>sc (b:=.hdr) h u9 rfl
 sc {b:Ty} {ls:List Leaf} {t:cM b.den} (h:(aZ st b ls).map (λx=>(⟨false,x.2.1,[],[],x.2.2⟩:cM b.den))=some t)
   (H:∀ {ls:List Leaf} {x:Bool×b.den×List Leaf},aZ st b ls=some x->∃ l,ls=l::x.2.2) (I:b.cells=1):t.rest=ls.drop b.cells:=by
  simp only[BB]at h;obtain⟨x,Y,rfl⟩:=h;obtain⟨l,rfl⟩:=H Y;rw[I];rfl
theorem wm {agg:Bool}{v:Value}{z y:List Value}(u:db agg v z)(r:db agg v y):z=y:=by
 unfold db at u r;cases agg with
 |true =>
  simp only[if_true]at u r;rw[u]at r;simpa using r
 |false =>
  simp only[Bool.false_eq_true,if_false]at u r;rw[u,r]
theorem qG (hV:ax V){W0 W:Wit}{S0 S:St}{w0:World}{G:Nat->Prop}{p:Bool}(a4:W.cs=W0.cs)(hG:∀ k,G k->gd V W p k)(h:ap P V W S a w) :
  ∀ (ps:List PK) (xs:List (aH×List Leaf)) (vs:List Value) (g:Got (ab ps)) (o:ah ps) (H:List (List Nat)),gS P V W0 S0 w0 xs vs->a7 (ca Γ S0) ps xs=some g->ps.any PK.isIop=false ->
  bK w G ps o vs H->aY g.kill=true->(∀ x∈g.kill,x.1≠EPO)->(∀ x∈g.kill,∀ l,(S x.1).ls[x.2]?=some l->¬ ao l)->(∀ k∈H.flatten,¬ cd V W S k)->H.flatten.Nodup ->
  ∃ W',ap P V W' (ac (aG S p ps xs o) S) a w/\W'.cs=W.cs/\W'.β=W.β/\W'.nw=W.nw/\(∀ q,(ac (aG S p ps xs o) S q).sh=(S q).sh/\(S q).ver<=(ac (aG S p ps xs o) S q).ver) /\
   (∀ q i,(q,i)∉g.kill->(ac (aG S p ps xs o) S q).ls[i]?=(S q).ls[i]?/\W'.bs q i=W.bs q i)/\(∀ k,cd V W' (ac (aG S p ps xs o) S) k->cd V W S k\/k∈H.flatten)
 |[],xs,vs,g,o,H,_,_,_,_,_,_,_,_,_=>⟨W,h,rfl,rfl,rfl,λ_=>⟨rfl,BU _⟩,λ_ _ _=>⟨rfl,rfl⟩,λk R=>.inl R⟩
 |pk::ps,[],vs,g,o,H,_,hg,_,_,_,_,_,_,_=>by simp[a7]at hg
 |pk::ps,x::xs,vs,g,o,H,hx,hg,hp,ho,hd,a5,a6,O,a0=>by
  obtain⟨v,a3,cs,rfl,hs,hl,a2⟩:=hx;simp only[a7]at hg;split at hg
  ·rename_i g1 a1;split at hg
   ·rename_i g2 b1;simp only[BA]at hg;subst hg;simp only[Ca,C4]at hp;obtain⟨bl,b0,bb⟩:=kL hd;have J:∀ (o':ah ps) (b:List Nat) (M:List (List Nat)),H=b::M->b=[]->bK w G ps o' a3 M->aG S p (pk::ps) (x::xs) o=aG S p ps xs o' ->
      ∃ W',ap P V W' (ac (aG S p (pk::ps) (x::xs) o) S) a w/\W'.cs=W.cs/\W'.β=W.β/\W'.nw=W.nw/\(∀ q,(ac (aG S p (pk::ps) (x::xs) o) S q).sh=(S q).sh/\(S q).ver<=(ac (aG S p (pk::ps) (x::xs) o) S q).ver) /\
       (∀ q i,(q,i)∉g1.kill++g2.kill->(ac (aG S p (pk::ps) (x::xs) o) S q).ls[i]?=(S q).ls[i]?/\W'.bs q i=W.bs q i)/\(∀ k,cd V W' (ac (aG S p (pk::ps) (x::xs) o) S) k->cd V W S k\/k∈H.flatten):=by
     intro o' b M e1 e2 b4 e3;subst e1;subst e2;rw[e3];obtain⟨W1,f1,f2,f3,f4,f5,f6,f7⟩:=qG hV a4 hG h ps xs a3 g2 o' M a2 b1 hp.2 b4 b0 (λz Y=>a5 z (BE _ Y)) (λz Y=>a6 z (BE _ Y)) (λk R=>O k (by simpa using R)) (by simpa using a0);exact⟨W1,f1,f2,f3,f4,f5,λq i hq=>f6 q i (λhm=>hq (BE _ hm)),λk R=>(f7 k R).imp id (λhm=>by simpa using hm)⟩
    cases pk with
    |io b =>
     match H,ho with
     |Z::M,⟨y,I⟩ =>
      simp only[BX]at a0 O;rw[CH]at a0;obtain⟨W1,f1,f2,f3,f4,f5,f6,f7⟩:=qG hV a4 hG h ps xs a3 g2 o.2 M a2 b1 hp.2 I b0 (λz Y=>a5 z (BE _ Y)) (λz Y=>a6 z (BE _ Y)) (λk R=>O k (BE _ R)) a0.2.1;simp only[ca,be]at a1;cases hb:decide (x.1=bg b.isAgg) with
      |false=>simp[hb]at a1
      |true =>
       rw[hb]at a1;simp only[cond_true,BB]at a1;obtain⟨t,ht,rfl⟩:=a1;rw[of_decide_eq_true hb]at hs;unfold jp at y;rw[if_neg (by simp)]at y;obtain⟨b3,b5,hm⟩:=y;have:=wm b5 (gA hs);subst this;obtain⟨b9,m1,m2,m3,m4⟩:=iH (P:=P) (V:=V) (W:=W1) (st:=ac (aG S p ps xs o.2) S) (p:=p) (λk R=>by
        rcases hG k R with R|R
        ·exact .inl (by rw[f4];exact R)
        ·exact .inr R) hm a0.1
       unfold cg at ht;split at ht
       ·rename_i p0 x0 f0 k0 ad;simp only[BA]at ht;subst ht;have X:=k7 (p:=p) b x.2 _ ad o.1 [];simp only[B3]at X;have X:eH x.2 (aq p b o.1)=k0:=by
         rw[X];show k0++eH [] []=k0;simp[eH]
        obtain⟨W2,q1,q2,q3,q4,q5,q6,q7⟩:=zD hV f1 x.2 (aq p b o.1) b3 b9 (by rw[X];exact bl) (λz Y=>a5 z (BJ _ (by rw[X]at Y;exact Y))) hl.length m1
         (λi r j n l u g3 g4 g5 g6=>by
          have h5:=(hl.at_ i _ u g3 g6).1;rw[f2,a4];exact h5.2 (ka b x.2 _ ad o.1 i r j n l g3 g4 g5))
         (λz Y l a9=>by
          rw[X]at Y;rw[(f6 z.1 z.2 (bb z Y)).1]at a9;exact a6 z (BJ _ Y) l a9)
         m2
         (λi l g3 g4 k R hu=>by
          have b2:=m3 i l g3 g4 k R;rcases f7 k hu with hu|hu
          ·exact O k (BJ _ b2) hu
          ·exact a0.2.2 k b2 k hu rfl) m4
        have ba:ac (aG S p (.io b::ps) (x::xs) o) S=ac (b7 (ac (aG S p ps xs o.2) S) x.2 (aq p b o.1)) (ac (aG S p ps xs o.2) S):=bz _ _ _;rw[ba];rw[X]at q6;refine⟨W2,q1,q2.trans f2,q3.trans f3,q4.trans f4,λq=>⟨(q5 q).1.trans (f5 q).1,CI (f5 q).2 (q5 q).2⟩,λq i hq=>?_,λk R=>?_⟩
        ·simp only[BL,not_or]at hq;exact⟨(q6 q i hq.1).1.trans (f6 q i hq.2).1,(q6 q i hq.1).2.trans (f6 q i hq.2).2⟩
        ·rcases q7 k R with R|⟨i,l,g3,g4,g5⟩
         ·exact (f7 k R).imp id (λhm=>BE _ hm)
         ·exact .inr (BJ _ (m3 i l g3 g4 k g5))
       ·cases ht
    |iop b=>simp[PK.isIop]at hp
    |rd b =>
     match H,ho with
     |Z::M,⟨y,I⟩=>exact J o Z M rfl y I rfl
    |own b =>
     match H,ho with
     |Z::M,⟨y,I⟩=>exact J o Z M rfl y I rfl
    |rref b =>
     match H,ho with
     |Z::M,⟨y,I⟩=>exact J o Z M rfl y I rfl
    |rref2 b =>
     match H,ho with
     |Z::M,⟨y,I⟩=>exact J o Z M rfl y I rfl
    |fn As B =>
     match H,ho with
     |Z::M,⟨y,I⟩=>exact J o Z M rfl y I rfl
    |clo f b3 =>
     match H,ho with
     |Z::M,⟨y,I⟩=>exact J o Z M rfl y I rfl
    |hol b cc off =>
     match H,ho with
     |Z::M,⟨y,I⟩=>exact J o Z M rfl y I rfl
   ·cases hg
  ·cases hg
end
section
variable {P:Program} {V:Env} {W:Wit} {st:St} {w:World} {a:Act}
theorem ou {G ro:Nat->Prop}{p q:Bool}{ks:List (Nat×Nat×Nat)}{ep:Nat}(hG:∀ k,G k->gd V W p k)(d n:Nat) :
  ∀ (O:List RK) (y:ai O) (us:List Value) (a0:List (List Nat)),
  (O.any RK.isBv=true->(∀ k,G k\/ro k->gd V W q k\/∃ x∈ks,k∈W.bs x.1 x.2.1)/\ep<=(st EPO).ver/\(∀ k∈ks,k.2.2<=(st k.1).ver))->gz w G ro O y us a0->O.all RK.isV=true->a0.flatten.Nodup ->
  (bD d n p q ks ep O y).2=[]/\∃ (cs:List Value) (a2:Nat->List Nat),pv ((bD d n p q ks ep O y).1.map λx=>(x.1,x.2.length)) us cs/\(((bD d n p q ks ep O y).1.map (·.2)).flatten).length=cs.length/\(∀ u∈cs,u.oneCell'=true) /\
   (∀ (j:Nat) (l:Leaf) (u:Value),(((bD d n p q ks ep O y).1.map (·.2)).flatten)[j]?=some l->cs[j]?=some u->aK P V W st w (a2 j) l u) /\
   (∀ (j:Nat) (l:Leaf),(((bD d n p q ks ep O y).1.map (·.2)).flatten)[j]?=some l->ao l->∀ k∈a2 j,k∈a0.flatten) /\
   (∀ (j Y:Nat) (l l':Leaf),(((bD d n p q ks ep O y).1.map (·.2)).flatten)[j]?=some l->ao l->(((bD d n p q ks ep O y).1.map (·.2)).flatten)[Y]?=some l'->ao l'->∀ k,k∈a2 j->k∈a2 Y->j=Y)
 |[],y,us,a0,_,⟨e1,e2⟩,_,_=>by
  subst e1;subst e2;exact⟨rfl,[],λ_=>[],⟨rfl,rfl⟩,rfl,by simp,λj l u h1 h2=>by simp at h2,λj l h1 h2 k J=>by simp at J,λj Y l l' _ _ _ _ k J=>by simp at J⟩
 |r::O,y,us,a0,hB,⟨u0,a6,b,a9,e1,e2,hr,a4⟩,hv,Z=>by
  subst e1;subst e2;simp only[C8,BC]at hv;rw[BX,CH]at Z;obtain⟨f0,ad,d2,f1,f2,b1,f3,f4,f5⟩:=ou (ks:=ks) (q:=q) (ep:=ep) hG d n O y.2 a6 a9 (λhb=>hB (by simp[hb])) a4 hv.2 Z.2.1;obtain⟨agg,L,I,d1,g0,b3,g1,g2,b2,g3,g4,g5⟩:∃ (agg:Bool) (L:List Leaf) (I:List Value) (d1:Nat->List Nat),(po d n p q ks ep r y.1).1=(agg,L)/\(po d n p q ks ep r y.1).2=[]/\db agg u0 I/\L.length=I.length/\(∀ u∈I,u.oneCell'=true) /\
    (∀ (j:Nat) (l:Leaf) (u:Value),L[j]?=some l->I[j]?=some u->aK P V W st w (d1 j) l u)/\(∀ (j:Nat) (l:Leaf),L[j]?=some l->ao l->∀ k∈d1 j,k∈b) /\
    (∀ (j Y:Nat) (l l':Leaf),L[j]?=some l->ao l->L[Y]?=some l'->ao l'->∀ k,k∈d1 j->k∈d1 Y->j=Y):=by
   cases r with
   |v c =>
    obtain⟨I,h1,h2⟩:=hr;obtain⟨d1,m1,m2,m3,m4⟩:=iH (P:=P) (V:=V) (W:=W) (st:=st) (p:=p) hG h2 Z.1;exact⟨c.isAgg,_,I,d1,rfl,rfl,h1,m1,h2.one,m2,m3,m4⟩
   |bv c =>
    obtain⟨_,I,h1,h2⟩:=hr;obtain⟨b0,b4,b9⟩:=hB (by simp[RK.isBv]);have h3:=jP (P:=P) (V:=V) (W:=W) (st:=st) (p:=q) b4 b9 (h2.mono b0);exact⟨c.isAgg,_,I,λ_=>[],rfl,rfl,h1,h3.length,h2.one,λj l u g1 g2=>(h3.at_ j l u g1 g2).1,λj l _ _ k J=>by simp at J,λj Y l l' _ _ _ _ k J=>by simp at J⟩
   |box c=>simp[RK.isV]at hv
  have ba:(bD d n p q ks ep (r::O) y).1=(agg,L)::(bD d n p q ks ep O y.2).1:=by simp only[bD,g0]
  have b5:(bD d n p q ks ep (r::O) y).2=[]:=by simp only[bD,b3,f0,B3]
  rw[ba];simp only[De,BX];have H:∀ (j:Nat) (l:Leaf),(L++((bD d n p q ks ep O y.2).1.map (·.2)).flatten)[j]?=some l->(j<L.length/\L[j]?=some l)\/(L.length<=j/\(((bD d n p q ks ep O y.2).1.map (·.2)).flatten)[j-L.length]?=some l):=by
   intro j l z;by_cases M:j<L.length
   ·rw[BH M]at z;exact .inl ⟨M,z⟩
   ·rw[BG (by omega)]at z;exact .inr ⟨by omega,z⟩
  refine⟨b5,I++ad,λj=>if j<L.length then d1 j else d2 (j-L.length),⟨u0,a6,I,ad,rfl,rfl,g2.symm,g1,f1⟩,by rw[BR,BR,g2,f2],λu hu=>(BL.1 hu).elim (b2 u) (b1 u),λj l u z hu=>?_,λj l z ho k J=>?_,λj Y l l' z ho X a1 k J R=>?_⟩
  ·rcases H j l z with ⟨M,z⟩|⟨a5,z⟩
   ·rw[BH (by omega)]at hu;simp only[if_pos M];exact g3 j l u z hu
   ·rw[BG (by omega),<- g2]at hu;simp only[if_neg (show ¬ j<L.length by omega)];exact f3 _ l u z hu
  ·rcases H j l z with ⟨M,z⟩|⟨a5,z⟩
   ·simp only[if_pos M]at J;exact BJ _ (g4 j l z ho k J)
   ·simp only[if_neg (show ¬ j<L.length by omega)]at J;exact BE _ (f4 _ l z ho k J)
  ·rcases H j l z with ⟨M,z⟩|⟨a5,z⟩ <;> rcases H Y l' X with ⟨a3,X⟩|⟨bb,X⟩
   ·simp only[if_pos M]at J;simp only[if_pos a3]at R;exact g5 j Y l l' z ho X a1 k J R
   ·simp only[if_pos M]at J;simp only[if_neg (show ¬ Y<L.length by omega)]at R;exact absurd rfl (Z.2.2 k (g4 j l z ho k J) k (f4 _ l' X a1 k R))
   ·simp only[if_neg (show ¬ j<L.length by omega)]at J;simp only[if_pos a3]at R;exact absurd rfl (Z.2.2 k (g4 Y l' X a1 k R) k (f4 _ l z ho k J))
   ·simp only[if_neg (show ¬ j<L.length by omega)]at J;simp only[if_neg (show ¬ Y<L.length by omega)]at R;have:=f5 _ _ l l' z ho X a1 k J R;omega
theorem Bm {l:List (Bool×List Leaf)}{us cs:List Value}{v:Value}(n:Nat)(h:pv (l.map λx=>(x.1,x.2.length)) us cs)(z:sf us v) :
  d9 (eL n l).sh v cs/\(eL n l).ls=(l.map (·.2)).flatten/\(eL n l).ver=n:=by
 match l,us,h with
 |[],_,⟨H,y⟩ =>
  subst H;subst y;exact⟨⟨[],z,rfl,rfl⟩,rfl,rfl⟩
 |[(agg,L)],_,⟨u,r,c,Z,H,y,h1,Y,O,X⟩ =>
  subst H;subst y;subst O;subst X;have z:v=u:=z;subst z;refine⟨?_,by simp[eL],rfl⟩;simp only[eL,B3];exact j0 Y
 |x::x'::l,us,h =>
  refine⟨?_,rfl,rfl⟩;have I:∃ u M r,us=u::M::r:=by
   obtain⟨u,r,_,_,H,_,_,_,R,J,_,_,y,_⟩:=h;exact⟨u,R,J,by rw[H,y]⟩
  obtain⟨u,M,r,rfl⟩:=I;exact⟨_,z,h⟩
end
section
variable {P:Program} {V:Env} {Γ:List Ctr} {st:St} {w:World} {a:Act}
theorem zd {pk:PK}{x:aH×List Leaf}{g:Got pk.den}(r:ca Γ st pk x=some g)(R:pk.isIop=false):g.lend=[]:=by
 cases pk with
 |iop b=>simp[PK.isIop]at R
 |rd b =>
  simp only[ca,be]at r;cases u:decide (x.1=bg b.isAgg) with
  |false=>simp[u]at r
  |true=>rw[u]at r;simp only[cond_true,BB]at r;obtain⟨y,_,rfl⟩:=r;rfl
 |own b =>
  simp only[ca,be]at r;cases u:decide (x.1=bg b.isAgg) with
  |false=>simp[u]at r
  |true=>rw[u]at r;simp only[cond_true,BB]at r;obtain⟨y,_,rfl⟩:=r;rfl
 |io b =>
  simp only[ca,be]at r;cases u:decide (x.1=bg b.isAgg) with
  |false=>simp[u]at r
  |true=>rw[u]at r;simp only[cond_true,BB]at r;obtain⟨y,_,rfl⟩:=r;rfl
 |rref b=>exact cap (c:=(false,b)) r
 |rref2 b=>exact cap (c:=(true,b)) r
 |fn X B =>
  simp only[ca]at r;split at r
  ·unfold ku at r;split at r
   ·unfold rX at r;split at r
    ·rename_i c _ hh;cases u:(c.ps.drop X.length).all PK.reads&&B.flat&&c.fresh with
     |false=>rw[u]at r;cases r
     |true =>
      rw[u]at r;simp only[cond_true]at r;split at r
      ·simp only[BA]at r;subst r;rfl
      ·cases r
    ·cases r
   ·cases r
  ·simp only[be]at r;split at r
   ·split at r
    ·simp only[BA]at r;subst r;rfl
    ·cases r
   ·cases r
 |hol b Z off =>
  simp only[ca,be]at r;cases u:decide (x.1=bg b.isAgg) with
  |false=>simp[u]at r
  |true =>
   rw[u]at r;simp only[cond_true]at r;split at r
   ·split at r
    ·rename_i Y _ _ _ _;cases z:BT Y off with
     |false=>simp[z]at r
     |true =>
      rw[z]at r;simp only[cond_true]at r;split at r
      ·split at r
       ·simp only[BA]at r;subst r;rfl
       ·cases r
      ·cases r
    ·cases r
   ·cases r
 |clo f I =>
  simp only[ca,be]at r;split at r
  ·rename_i J H _;cases u:BT J f with
   |false=>simp[u]at r
   |true=>rw[u]at r;exact caps_ r
  ·rename_i J H _;cases u:BT J f with
   |false=>simp[u]at r
   |true=>rw[u]at r;exact caps_ r
  ·cases r
where
 cap {c:Bool×Ty} {l:Leaf} {g:Got c.2.den} (r:fg st c l=some g):g.lend=[]:=by
  unfold fg at r;cases O:c.1 with
  |true =>
   rw[O]at r;simp only[cond_true]at r;split at r
   ·split at r
    ·simp only[BB]at r;obtain⟨y,_,rfl⟩:=r;rfl
    ·cases r
   ·cases r
  |false =>
   rw[O]at r;simp only[cond_false]at r;split at r
   ·simp only[BB]at r;obtain⟨y,_,rfl⟩:=r;rfl
   ·cases r
 caps_:∀ {I:List (Bool×Ty)} {M:List Leaf} {g:Got (lJ I)},cz st I M=some g->g.lend=[]
  |[],[],g,r=>by simp only[cz,BA]at r;subst r;rfl
  |[],_::_,_,r=>by simp[cz]at r
  |_::_,[],_,r=>by simp[cz]at r
  |c::I,l::M,g,r=>by
   simp only[cz]at r;split at r
   ·split at r
    ·simp only[BA]at r;subst r;rfl
    ·cases r
   ·cases r
theorem tx:∀ (ps:List PK) (xs:List (aH×List Leaf)) (g:Got (ab ps)),a7 (ca Γ st) ps xs=some g->g.lend=[]->ps.any PK.isIop=false
 |[],_,_,_,_=>rfl
 |_::_,[],_,u,_=>by simp[a7]at u
 |I::ps,x::xs,g,u,y=>by
  simp only[a7]at u;split at u
  ·rename_i M r;split at u
   ·rename_i J z;simp only[BA]at u;subst u;simp only[List.append_eq_nil_iff]at y;rw[Ca,tx ps xs J z y.2,Bool.or_false];cases I with
    |iop b =>
     simp only[ca,be]at r;split at r
     ·rename_i q _;cases H:decide ((st q).sh=.agg) with
      |false=>simp[H]at r
      |true =>
       rw[H]at r;simp only[cond_true,BB]at r;obtain⟨t,_,rfl⟩:=r;simp at y
     ·cases r
    |_=>rfl
   ·cases u
  ·cases u
theorem o8 {W0:Wit}{S0 S:St}{w0:World}{a0:Act}(h0:ap P V W0 S0 a0 w0){G:Nat->Prop}{p:Bool} :
  ∀ (ps:List PK) (xs:List (aH×List Leaf)) (vs:List Value) (g:Got (ab ps)) (o:ah ps) (u:List (List Nat)),gS P V W0 S0 w0 xs vs->a7 (ca Γ S0) ps xs=some g->ps.any PK.isIo=false->bK w G ps o vs u ->
  (g.lend=[]->aG S p ps xs o=[]/\u.flatten=[]) /\
  (∀ b,g.lend=[b]->∃ (c:Ty) (y:c.den) (cs:List Value) (E:TypeId) (Z:List Nat),aG S p ps xs o=[(b,⟨(S b).ver+2,.agg,aq p c y⟩)]/\w.heap[W0.β b]?=some (.cells cs.toArray E (0,0))/\Mx w G c none 0 y cs Z/\u.flatten=W0.β b::Z/\(S0 b).ls.length=c.cells)
 |[],[],vs,g,o,u,hx,M,_,X=>by
  simp only[a7,BA]at M;subst M;refine⟨λ_=>⟨rfl,?_⟩,λb hb=>by simp at hb⟩
  match vs,u,X with
  |[],[],_=>rfl
 |[],_::_,_,_,_,_,_,M,_,_=>by simp[a7]at M
 |_::_,[],_,_,_,_,_,M,_,_=>by simp[a7]at M
 |pk::ps,x::xs,vs,g,o,u,hx,M,hn,X=>by
  obtain⟨v,a2,cs,rfl,hs,hl,R⟩:=hx;simp only[a7]at M;split at M
  ·rename_i g1 J;split at M
   ·rename_i g2 a3;simp only[BA]at M;subst M;simp only[Ca,C4]at hn;have z:∀ (o':ah ps) (b:List Nat) (I:List (List Nat)),pk.isIop=false->u=b::I->b=[]->bK w G ps o' a2 I->aG S p (pk::ps) (x::xs) o=aG S p ps xs o' ->
      (g1.lend++g2.lend=[]->aG S p (pk::ps) (x::xs) o=[]/\u.flatten=[]) /\
      (∀ b,g1.lend++g2.lend=[b]->∃ (c:Ty) (y:c.den) (cs:List Value) (E:TypeId) (Z:List Nat),aG S p (pk::ps) (x::xs) o=[(b,⟨(S b).ver+2,.agg,aq p c y⟩)]/\w.heap[W0.β b]?=some (.cells cs.toArray E (0,0))/\Mx w G c none 0 y cs Z/\u.flatten=W0.β b::Z/\(S0 b).ls.length=c.cells):=by
     intro o' b I hi e1 e2 a6 e3;subst e1;subst e2;rw[e3,zd J hi];simpa using o8 h0 (S:=S) (p:=p) ps xs a2 g2 o' I R a3 hn.2 a6
    cases pk with
    |iop b =>
     match u,X with
     |O::I,⟨r,H⟩ =>
      obtain⟨r1,r2⟩:=o8 h0 (S:=S) (p:=p) ps xs a2 g2 o.2 I R a3 hn.2 H;simp only[ca,be]at J;split at J
      ·rename_i q hq;cases hb:decide ((S0 q).sh=.agg) with
       |false=>simp[hb]at J
       |true =>
        rw[hb]at J;simp only[cond_true,BB]at J;obtain⟨t,ht,rfl⟩:=J;refine⟨λhb=>by simp at hb,λb' Y=>?_⟩;simp only[Cv,Cd]at Y;obtain⟨rfl,Y⟩:=Y;obtain⟨r3,r4⟩:=r1 Y;obtain⟨a5,_⟩:=gP hs hl hq (by simp);unfold jp at r;rw[if_pos rfl]at r;obtain⟨g',a4,E,Z,hv,a1,hm,rfl⟩:=r;have a9:g'=W0.β q:=by
         have h9:=a5.2.2;rw[hv]at h9;simp only[Value.pointer.injEq,BA,Cj,and_true]at h9;exact h9
        subst a9;refine⟨b,o.1,a4,E,Z,?_,a1,hm,by rw[BX,r4,B3],?_⟩
        rotate_left
        ·rw[h0.len];exact (dN (pos:=0) h0 (iv h0 q) ht).1.len
        simp only[aG,r3,hq,B3];rfl
      ·cases J
    |io b=>simp[PK.isIo]at hn
    |rd b =>
     match u,X with
     |O::I,⟨r,H⟩=>exact z o O I rfl rfl r H rfl
    |own b =>
     match u,X with
     |O::I,⟨r,H⟩=>exact z o O I rfl rfl r H rfl
    |rref b =>
     match u,X with
     |O::I,⟨r,H⟩=>exact z o O I rfl rfl r H rfl
    |rref2 b =>
     match u,X with
     |O::I,⟨r,H⟩=>exact z o O I rfl rfl r H rfl
    |fn As B =>
     match u,X with
     |O::I,⟨r,H⟩=>exact z o O I rfl rfl r H rfl
    |clo f a4 =>
     match u,X with
     |O::I,⟨r,H⟩=>exact z o O I rfl rfl r H rfl
    |hol b cc off =>
     match u,X with
     |O::I,⟨r,H⟩=>exact z o O I rfl rfl r H rfl
   ·cases M
  ·cases M
end
section
variable {P:Program} {V:Env}
theorem wn (hV:ax V){W:Wit}{S:St}{a:Act}{w:World}(h:ap P V W S a w){M:List RK}{y:ai M}{us:List Value}{Y:List (List Nat)}{v:Value}{p q:Bool}{ks:List (Nat×Nat×Nat)}{ep:Nat}{G ro:Nat->Prop}
  (a0:gz w G ro M y us Y) (hG:∀ k,G k->gd V W p k)
  (hB:M.any RK.isBv=true->(∀ k,G k\/ro k->gd V W q k\/∃ x∈ks,k∈W.bs x.1 x.2.1)/\ep<=(S EPO).ver/\(∀ k∈ks,k.2.2<=(S k.1).ver))
  (H:∀ k∈Y.flatten,¬ cd V W S k) (a4:Y.flatten.Nodup) (J:sf us v) {d:Nat} (hd:d<V.nt) (Z:∀ x∈V.fixt,x.1≠d) (r:gG S d M=true) :
  ∃ W1,ap P V W1 (ac ((d,eL ((ac (bD d (S (B0+d)).ver p q ks ep M y).2 S d).ver+1) (bD d (S (B0+d)).ver p q ks ep M y).1)::(bD d (S (B0+d)).ver p q ks ep M y).2) S) (a.put (some d) v) w /\
   ∀ z,z≠d->z≠B0+d->W1.cs z=W.cs z:=by
 cases hv:M.all RK.isV with
 |true =>
  obtain⟨m0,cs,a1,m1,m2,m3,m4,m5,m6⟩:=ou (P:=P) (W:=W) (st:=S) (p:=p) (q:=q) (ks:=ks) (ep:=ep) hG d (S (B0+d)).ver M y us Y hB a0 hv a4;rw[m0];obtain⟨s1,s2,s3⟩:=Bm ((S d).ver+1) m1 J;show ∃ W1,ap P V W1 (ac [(d,eL ((S d).ver+1) (bD d (S (B0+d)).ver p q ks ep M y).1)] S) (a.put (some d) v) w/\_;generalize eL ((S d).ver+1) (bD d (S (B0+d)).ver p q ks ep M y).1=rc at s1 s2 s3 ⊢;obtain⟨v0,b9,bb⟩:=rc;simp only at s1 s2 s3;subst s3;subst s2;have a5:=h.put hV d hd Z ((S d).ver+1) b9 _ v cs a1 (BM _) s1 m2 m3 m4
   (λj l R ho k X=>by
    have b3:=m5 j l R ho k X;have I:=H k b3;simp only[cd,not_or,not_exists,not_and]at I;exact⟨I.1,I.2.1,I.2.2.1,λr1 j1 l1 _ h8 h9=>I.2.2.2 r1 j1 l1 h8 h9⟩) m6
  refine⟨_,a5,λz hz _=>?_⟩;show (if z=d then cs else W.cs z)=_;rw[if_neg hz]
 |false =>
  have hb:∃ b,M=[.box b]:=by
   unfold gG at r;split at r
   ·exact⟨_,rfl⟩
   ·rw[hv]at r;cases r
  obtain⟨b,rfl⟩:=hb;obtain⟨u0,bl,rb,ba,e1,e2,⟨g',cs,E,b0,ad,b4,hm,b5⟩,e3,e4⟩:=a0;subst e3;subst e4;subst e1;subst e2;subst b5;have J:v=u0:=J;subst J;subst ad;have a2:(S (B0+d)).sh=.off:=by simpa[gG]using r
  have O:(g'::b0).Nodup:=by simpa using a4
  rw[CL]at O;obtain⟨a1,m1,m2,m3,m4⟩:=iH (P:=P) (V:=V) (W:=W) (st:=S) (p:=p) hG hm O.2;have a3:d≠B0+d:=by simp[B0]
  have b1:=H g' (by simp);have a6:=h.setBoxG hV (B0+d) (CZ _ _) ((S (B0+d)).ver+1) (aq p b y.1) cs a1 g' E (w':=w) (BM _)
   (.inr ⟨by simp[live,a2],b1,λj l R ho k X e0=>O.1 (by rw[<- e0];exact m3 j l R ho k X)⟩) b4 (λ_ _ _=>rfl) (λ_ _ _ _ _ _ _=>rfl) (BU _) rfl rfl rfl m1 hm.one m2
   (λj l R ho k X=>by
    have I:=H k (by simp;exact .inr (m3 j l R ho k X));simp only[cd,not_or,not_exists,not_and]at I;exact⟨I.1,I.2.1,I.2.2.1,λr1 j1 l1 _ h8 h9=>I.2.2.2 r1 j1 l1 h8 h9⟩) m4
  have a9:=a6.put hV d hd Z ((S d).ver+1) .one [.bp (B0+d) 0] (.pointer (some ⟨g',0,none⟩)) [.pointer (some ⟨g',0,none⟩)] (λ_=>[]) (by rw[aI a3];exact BM _) rfl rfl (λu I=>by simp at I;subst I;rfl)
   (λj l u R g9=>by
    cases j with
    |zero=>simp at R g9;subst R;subst g9;exact⟨CZ _ _,by rw[bi],by simp⟩
    |succ j=>simp at R)
   (λj l R ho k X=>by simp at X) (λj j' l l' _ _ _ _ k X=>by simp at X)
  have e1:ac (bD d (S (B0+d)).ver p q ks ep [.box b] y).2 S=ac [(B0+d,⟨(S (B0+d)).ver+1,.agg,aq p b y.1⟩)] S:=rfl;rw[aO,e1,aI a3];refine⟨_,a9,λz hz b2=>?_⟩;show (if z=d then _ else (if z=B0+d then _ else W.cs z))=_;rw[if_neg hz,if_neg b2]
theorem uz (r:Nat)(c u:bS)(S:St):ac [(r,c)] (ac [(r,u)] S)=ac [(r,c)] S:=by
 funext q;rcases am r q c (ac [(r,u)] S) with ⟨rfl,e⟩|⟨h,e⟩
 ·rw[e,bi]
 ·rw[e,aI h,aI h]
theorem ze (hV:ax V){W:Wit}{S:St}{a:Act}{w w':World}(h:ap P V W S a w){b:Nat}(hb:live S b){N:Nat->Prop}{cs:List Value}{E:TypeId}{c:Ty}{y:c.den}{b0:List Nat}{G:Nat->Prop}{p:Bool}
  (a2:w'.heap[W.β b]?=some (.cells cs.toArray E (0,0))) (hm:Mx w' G c none 0 y cs b0) (a4:(W.β b::b0).Nodup) (a6:(S b).ls.length=c.cells)
  (a1:∀ k,cd V W S k->k≠W.β b->w'.heap[k]?=w.heap[k]?) (a9:w.heap.size<=w'.heap.size) (b1:w'.os=w.os) (ht:w'.tape=w.tape) (ho:w'.output=w.output)
  (hN:∀ k,N k->k<w'.heap.size/\¬ cd V W S k) (Z:∀ k∈b0,¬ cd V W S k/\¬ N k) (hG:∀ k,G k->gd V { W with nw:=λk=>W.nw k\/N k } p k) :
  ∃ W1,ap P V W1 (ac [(b,⟨(S b).ver+2,.agg,aq p c y⟩)] S) a w'/\W1.β=W.β/\(∀ k,W1.nw k<->W.nw k\/N k)/\(∀ q,q≠b->W1.cs q=W.cs q)/\(∀ q i,q≠b->W1.bs q i=W.bs q i) /\
   (∀ k,cd V W1 (ac [(b,⟨(S b).ver+2,.agg,aq p c y⟩)] S) k->cd V W S k\/N k\/k∈b0):=by
 have J:∀ (q:Nat),(if q=b then W.β b else W.β q)=W.β q:=λq=>by split <;> simp_all
 have h1:=h.setBoxG hV b hb.1 ((S b).ver+1) (CJ cs.length .dead) cs (λ_=>[]) (W.β b) E (w':=w') (BM _) (.inl ⟨hb,rfl⟩) a2 a1 (λ_ _ _ _ k I=>by simp at I) a9 b1 ht ho (by simp) hm.one
  (λj l u H R=>by
   rw[CV]at H;split at H
   ·simp at H;subst H;trivial
   ·cases H)
  (λj l H R k I=>by simp at I) (λj j' l l' _ _ _ _ k I=>by simp at I)
 have a0:∀ (j:Nat) (l:Leaf),(CJ cs.length Leaf.dead)[j]?=some l->¬ ao l:=by
  intro j l H;rw[CV]at H;split at H
  ·simp at H;subst H;exact id
  ·cases H
 have a5:∀ z,live (ac [(b,⟨(S b).ver+1,.agg,CJ cs.length .dead⟩)] S) z->live S z:=by
  intro z X;rcases am b z ⟨(S b).ver+1,.agg,CJ cs.length .dead⟩ S with ⟨rfl,e⟩|⟨_,e⟩
  ·exact hb
  ·exact⟨X.1,by rw[<- e];exact X.2⟩
 have b2:∀ k,cd V { W with β:=λr=>if r=b then W.β b else W.β r,cs:=λr=>if r=b then cs else W.cs r,bs:=λr j=>if r=b then [] else W.bs r j } (ac [(b,⟨(S b).ver+1,.agg,CJ cs.length .dead⟩)] S) k->cd V W S k:=by
  rintro k (I|I|⟨z,X,I⟩|⟨z,i,l,H,R,O⟩)
  ·exact .inl I
  ·exact .inr (.inl I)
  ·exact .inr (.inr (.inl ⟨z,a5 z X,by rw[<- I];exact (J z).symm⟩))
  ·by_cases M:z=b
   ·subst M;rw[bi]at H;exact absurd R (a0 i l H)
   ·rw[aI M]at H;simp only[if_neg M]at O;exact .inr (.inr (.inr ⟨z,i,l,H,R,O⟩))
 have h2:=h1.nwGrow hV N (λk I=>⟨(hN k I).1,λhu=>(hN k I).2 (b2 k hu)⟩);rw[CL]at a4;obtain⟨Y,m1,m2,m3,m4⟩:=iH (P:=P) (V:=V) (W:={ W with β:=λr=>if r=b then W.β b else W.β r,cs:=λr=>if r=b then cs else W.cs r,bs:=λr j=>if r=b then [] else W.bs r j,nw:=λk=>W.nw k\/N k })
  (st:=ac [(b,⟨(S b).ver+1,.agg,CJ cs.length .dead⟩)] S) (p:=p) (λk I=>hG k I) hm a4.2
 have b3:=hm.len;have b4:=cK p c y;have h3:=h2.reown hV b ⟨(S b).ver+2,.agg,aq p c y⟩ Y (by rw[bi];exact BM _) (by rw[bi]) (by rw[bi,Cw];omega)
  (λj l v H R=>m2 j l v H (by simpa using R))
  (λj l H R k I=>by
   have ad:=m3 j l H R k I;obtain⟨q1,q2⟩:=Z k ad;refine⟨λhn=>hn.elim (λhn=>q1 (.inl hn)) q2,λhp=>q1 (.inr (.inl hp)),λz X e0=>q1 (.inr (.inr (.inl ⟨z,a5 z X,by rw[<- e0];exact (J z).symm⟩))),λr1 j1 l1 a3 O g4 g5=>?_⟩;rw[aI a3]at O;have g5:k∈(if r1=b then [] else W.bs r1 j1):=g5;rw[if_neg a3]at g5;exact q1 (.inr (.inr (.inr ⟨r1,j1,l1,O,g4,g5⟩)))) m4
 rw[uz]at h3;refine⟨_,h3,funext λq=>J q,λk=>Cp,λq hq=>if_neg hq,λq i hq=>?_,?_⟩
 ·show (if q=b then Y i else if q=b then [] else W.bs q i)=_;rw[if_neg hq,if_neg hq]
 ·rintro k ((I|I)|I|⟨z,X,I⟩|⟨z,i,l,H,R,O⟩)
  ·exact .inl (.inl I)
  ·exact .inr (.inl I)
  ·exact .inl (.inr (.inl I))
  ·refine .inl (.inr (.inr (.inl ⟨z,?_,by rw[<- I];exact (J z).symm⟩)));rcases am b z ⟨(S b).ver+2,.agg,aq p c y⟩ S with ⟨rfl,e⟩|⟨_,e⟩
   ·exact hb
   ·exact⟨X.1,by rw[<- e];exact X.2⟩
  ·by_cases M:z=b
   ·subst M;rw[bi]at H;have O:k∈(if z=z then Y i else _):=O;rw[if_pos rfl]at O;exact .inr (.inr (m3 i l H R k O))
   ·rw[aI M]at H;have O:k∈(if z=b then Y i else if z=b then [] else W.bs z i):=O;rw[if_neg M,if_neg M]at O;exact .inl (.inr (.inr (.inr ⟨z,i,l,H,R,O⟩)))
end
section
variable {P:Program} {V:Env} {Γ:List Ctr} {st:St} {R:Type}
theorem gB:∀ (ps:List PK) (xs:List (aH×List Leaf)) (r:Upd->List (aH×List Leaf)->Option (Bool×Nat×Nat)->Option R),kv st ps xs r=(cX st ps xs).bind λu=>r u.1 u.2.1 u.2.2
 |[],xs,r=>rfl
 |_::_,[],r=>rfl
 |p::ps,x::xs,r=>by
  simp only[kv,cX];split
  ·rw[gY];cases ck st (x.2.getD _ .dead) <;> rfl
  ·rw[gB ps xs];cases cX st ps xs <;> rfl
theorem k8 {a:Ty}:∀ {ls:List Leaf} {j k:Nat},lp a j ls=some k->j<=k/\∃ l,ls[k-j]?=some l/\jl l=true
 |[],_,_,h=>by simp[lp]at h
 |l::ls,j,k,h=>by
  simp only[lp]at h;cases r:jl l&&pq a j with
  |true =>
   rw[r]at h;simp only[cond_true,BA]at h;subst h;simp only[BC]at r;exact⟨BU _,l,by simp,r.1⟩
  |false =>
   rw[r]at h;obtain⟨H,z,y,u⟩:=k8 h;exact⟨by omega,z,by rw[show k-j=(k-(j+1))+1 by omega];simpa using y,u⟩
theorem rx {p:PK}{ls:List Leaf}{k:Nat}(h:p.nest ls=some k):∃ l,ls[k]?=some l/\jl l=true:=by
 cases p with
 |own a=>obtain⟨_,l,u,r⟩:=k8 h;exact⟨l,by simpa using u,r⟩
 |io a=>obtain⟨_,l,u,r⟩:=k8 h;exact⟨l,by simpa using u,r⟩
 |_=>simp[PK.nest]at h
theorem tz (y:ax V){W W':Wit}{st':St}{w w':World}(u:cF V W W' st st' w w'):∀ {xs:List (aH×List Leaf)} {z:List Value},gS P V W st w xs z->gS P V W' st' w' xs z
 |[],_,h=>h
 |_::_,_,⟨v,r,J,e,M,H,I⟩=>⟨v,r,J,e,M,H.carry y.ro u,tz y u I⟩
theorem aC.setLeaf {W:Wit}{w:World}{ls:List Leaf}{cs:List Value}(z:aC P V W st w ls cs){k:Nat}{l:Leaf}(y:¬ ao l)(h:∀ v,cs[k]?=some v->aK P V W st w [] l v):aC P V W st w (aS ls k l) cs:=by
 have r:=z.length;refine aC.mk (by simp[aS,r]) λj J v H u=>?_
 rcases aR _ _ _ _ _ H with ⟨rfl,rfl,M⟩|⟨I,H⟩
 ·exact⟨h v u,y,z.one' v (List.mem_of_getElem? u)⟩
 ·exact z.at_ j J v H u
def Bn (W:Wit)(S:St)(w:World):Option (Bool×Nat×Nat)->Prop
 |some (_,r,j)=>∃ v,W.cs TMP=[v]/\tt W S w r j v
 |none=>True
theorem ov (Z:ax V){W:Wit}{a:Act}{w:World}(h:ap P V W st a w):∀ (ps:List PK) (xs:List (aH×List Leaf)) (vs:List Value) (U:Upd) (O:List (aH×List Leaf)) (b:Option (Bool×Nat×Nat)),
  gS P V W st w xs vs->cX st ps xs=some (U,O,b)->∃ H,ap P V H (ac U st) a w/\gS P V H (ac U st) w O vs/\H.nw=W.nw/\H.β=W.β/\Bn H (ac U st) w b/\cF V W H st (ac U st) w w/\(∀ q,(ac U st q).sh=(st q).sh\/q=TMP) /\
   (∀ f r j,b=some (f,r,j)->f=true->ps.any PK.isIo=true)
 |[],xs,vs,U,O,b,hx,y=>by
  simp only[cX,BA,CD]at y;obtain⟨rfl,rfl,rfl⟩:=y;exact⟨W,h,hx,rfl,rfl,trivial,cF.refl V W st w,λ_=>.inl rfl,λ_ _ _ h=>by cases h⟩
 |_::_,[],vs,U,O,b,hx,y=>by
  simp only[cX,BA,CD]at y;obtain⟨rfl,rfl,rfl⟩:=y;exact⟨W,h,hx,rfl,rfl,trivial,cF.refl V W st w,λ_=>.inl rfl,λ_ _ _ h=>by cases h⟩
 |p::ps,x::xs,vs,U,O,b,⟨v,J,cs,e,hs,hl,z⟩,y=>by
  subst e;simp only[cX]at y;split at y
  ·rename_i k hk;simp only[BB]at y;obtain⟨u,I,y⟩:=y;simp only[CD]at y;obtain⟨rfl,rfl,rfl⟩:=y;obtain⟨l,M,a1⟩:=rx hk;have hg:x.2.getD k .dead=l:=by rw[CF,M];rfl
   rw[hg]at I ⊢;have a0:k<cs.length:=by rw[<- hl.length];exact (BD.1 M).1
   have X:=BS a0;obtain⟨U,l'⟩:=u;obtain⟨H,n,p0,E0,e0,a2,g1,Y,g3,g4,_,_,g5,g6,_,g7,g8,g9⟩:=u5 Z h (hl.at_ k l _ M X).1 I;subst g3;refine⟨H,g1,⟨v,J,cs,rfl,hs,(hl.carry Z.ro Y).setLeaf id λu I=>?_,tz Z Y z⟩,g5,g6,⟨_,g7,g9⟩,Y,g8,λf r j hb hf=>?_⟩
   ·rw[X]at I;simp only[BA]at I;subst I;exact g4
   ·simp only[BA,CD]at hb;rw[Ca,hb.1,hf];rfl
  ·simp only[BB]at y;obtain⟨u,I,y⟩:=y;simp only[CD]at y;obtain⟨rfl,rfl,rfl⟩:=y;obtain⟨H,g1,Y,g3,g4,g5,g6,g7,g8⟩:=ov Z h ps xs J u.1 u.2.1 u.2.2 z I;exact⟨H,g1,⟨v,J,cs,rfl,hs,hl.carry Z.ro g6,Y⟩,g3,g4,g5,g6,g7,λf r j hb hf=>by rw[Ca,g8 f r j hb hf,Bool.or_true]⟩
end
section
variable {P:Program} {V:Env} {Γ:List Ctr} {st:St}
theorem iI {st:St}{q i:Nat}:∀ {ks:List (Nat×Nat)},(q,i)∉ks->(ac (aE st ks) st q).ls[i]?=(st q).ls[i]?
 |[],_=>rfl
 |(r,j)::ks,h=>by
  simp only[CS,not_or]at h;have e:ac (aE st ((r,j)::ks)) st=ac [(r,fU (ac (aE st ks) st r) j)] (ac (aE st ks) st):=aO _ _ _ _;rw[e];rcases am r q (fU (ac (aE st ks) st r) j) (ac (aE st ks) st) with ⟨rfl,e⟩|⟨_,e⟩
  ·rw[e];simp only[fU,aS];rw[CP (λu=>h.1 (by rw[u]))];exact iI h.2
  ·rw[e];exact iI h.2
theorem k9 {st:St}{q i:Nat}:∀ {ks:List (Nat×Nat)},(q,i)∉ks->(ac (aM st ks) st q).ls[i]?=(st q).ls[i]?
 |[],_=>rfl
 |(r,j)::ks,h=>by
  simp only[CS,not_or]at h;have e:ac (aM st ((r,j)::ks)) st=ac [(r,f9 (ac (aM st ks) st r) j)] (ac (aM st ks) st):=aO _ _ _ _;rw[e];rcases am r q (f9 (ac (aM st ks) st r) j) (ac (aM st ks) st) with ⟨rfl,e⟩|⟨_,e⟩
  ·rw[e];simp only[f9,aS];rw[CP (λu=>h.1 (by rw[u]))];exact k9 h.2
  ·rw[e];exact k9 h.2
theorem nj (d n:Nat)(p q:Bool)(ks:List (Nat×Nat×Nat))(ep:Nat):∀ (z:List RK) (y:ai z),∀ x∈(bD d n p q ks ep z y).2,x.1=B0+d
 |[],_,x,u=>by simp[bD]at u
 |r::z,y,x,u=>by
  simp only[bD,BL]at u;rcases u with u|u
  ·cases r <;> simp[po]at u;rw[u]
  ·exact nj d n p q ks ep z y.2 x u
theorem rz {q:Nat}(st:St):∀ (U:Upd),(∀ x∈U,x.1≠q)->ac U st q=st q
 |[],_=>rfl
 |(r,c)::U,h=>by
  rw[aO,aI (CQ (h (r,c) (BW ..)))];exact rz st U (λx u=>h x (BP _ u))
def mq (u:St)(c:Ctr)(d:Nat)(xs:List (aH×List Leaf))(g:Got (ab c.ps))(y:ai c.rs×ah c.ps):Upd :=
 let H:=(let U:=(bif c.fresh then [] else aE u g.frz);aM (ac U u) g.kill++U);let z:=aG (ac H u) (g.p&&!c.fresh) c.ps xs y.2++H;let r:=bD d (ac z u (B0+d)).ver (g.p&&!c.fresh) g.p (g.frz.map λk=>(k.1,k.2,(ac z u k.1).ver)) (ac z u EPO).ver c.rs y.1
 (d,eL ((ac (r.2++z) u d).ver+1) r.1)::(r.2++z)
theorem zf (hV:ax V){W0:Wit}{u:St}{a:Act}{w:World}(h0:ap P V W0 u a w){c:Ctr}{xs:List (aH×List Leaf)}{vs:List Value}(dc:gS P V W0 u w xs vs){g:Got (ab c.ps)}(hg:a7 (ca Γ u) c.ps xs=some g)
  (hf:∀ z∈g.frz,aB u z) (H:∀ z∈g.kill,aB u z) (f2:∀ b∈g.lend,live u b) (em:aY g.kill=true) (ec:dC g.frz g.kill=true) (hE:∀ z∈g.kill,z.1≠EPO) (ad:g.lend.length<=1) (et:g.lend=[]\/c.ps.any PK.isIo=false)
  {bl:List (List Nat)} (c0:∀ k,bl.flatten.count k=(g.lend.map W0.β).count k+(aX W0 g.kill).count k)
  {d:Nat} (hd:d<V.nt) (e5:∀ x∈V.fixt,x.1≠d) (a5:gG u d c.rs=true) (dd:((c.fresh&&g.lend.isEmpty)||!(c.rs.any RK.isBv))=true) {y:ai c.rs×ah c.ps} {e:Ending} {w':World} (cu:tu c w (bk V W0 g.p g.frz) vs bl y e w') :
  ∃ v,e=.returned v/\∃ W1,ap P V W1 (ac (mq u c d xs g y) u) (a.put (some d) v) w'/\(∀ q,q≠d->q≠B0+d->q∉g.lend->W1.cs q=W0.cs q) /\
   (∀ q i,q≠d->q≠B0+d->q∉g.lend->(q,i)∉g.frz->(q,i)∉g.kill->(ac (mq u c d xs g y) u q).ls[i]?=(u q).ls[i]?)/\(∀ k,k<w.heap.size->k∉aX W0 g.kill->k∉g.lend.map W0.β->w'.heap[k]?=w.heap[k]?)/\w.heap.size<=w'.heap.size:=by
 obtain⟨v,us,N,cc,bb,rfl,e7,c5,eg,ef,e0,es,hN,bn,e6,Y,a0⟩:=cu;have a4:∀ k,k∈bl.flatten<->k∈g.lend.map W0.β\/k∈aX W0 g.kill:=λk=>by
  rw[<- BK,<- BK,<- BK,c0 k];omega
 have Z:∀ k,k<w.heap.size->k∉aX W0 g.kill->k∉g.lend.map W0.β->w'.heap[k]?=w.heap[k]?:=λk h1 h2 h3=>es k h1 (λh=>((a4 k).1 h).elim h3 h2)
 refine⟨v,rfl,?_⟩;unfold mq;generalize b9:(bif c.fresh then [] else g.frz)=O;have hU:(bif c.fresh then [] else aE u g.frz)=aE u O:=by rw[<- b9];cases c.fresh <;> rfl
 have d1:dC O g.kill=true:=by rw[<- b9];cases c.fresh with|true=>rfl|false=>exact ec
 have c2:∀ z∈O,z∈g.frz:=by rw[<- b9];cases c.fresh with|true=>simp|false=>exact λ_ h=>h
 have f4:∀ z∈O,aB u z:=λz hz=>hf z (c2 z hz)
 rw[hU];obtain⟨h1,h2,h3,h4⟩:=fD hV h0 d1 H;have b2:∀ q i,(q,i)∉g.frz->(q,i)∉g.kill->(ac (aM (ac (aE u O) u) g.kill++aE u O) u q).ls[i]?=(u q).ls[i]?:=λq i q1 q2=>by
  rw[bz,k9 q2,iI (λh=>q1 (c2 _ h))]
 generalize f3:aM (ac (aE u O) u) g.kill++aE u O=I at h1 h2 h3 h4 b2;have a1:∀ k∈aX W0 g.kill,¬ cd V (W0.frz u O) (ac I u) k:=λk H=>mm ⟨(h4 k H).1,(h4 k H).2.1,(h4 k H).2.2.2.1,(h4 k H).2.2.2.2⟩
 have a2:∀ k,p7 w w' bl.flatten k->k∉g.lend.map W0.β->k<w'.heap.size/\¬ cd V (W0.frz u O) (ac I u) k:=by
  rintro k ⟨f1,a9⟩ ex;refine⟨f1,λJ=>?_⟩;rcases a9 with a9|a9
  ·have:=h1.used_lt k J;omega
  ·exact ((a4 k).1 a9).elim ex (λa9=>a1 k a9 J)
 have hG:∀ k,(N k\/(c.fresh=false/\bk V W0 g.p g.frz k))->gd V { W0.frz u O with nw:=λk=>(W0.frz u O).nw k\/N k } (g.p&&!c.fresh) k:=by
  rintro k (H|⟨ed,H⟩)
  ·exact .inl (.inr H)
  ·have e1:O=g.frz:=by rw[<- b9,ed];rfl
   have:=kg (V:=V) (W:=W0) (p:=g.p) hf k H;rw[ed];rw[<- e1]at this;exact bU (W':={ W0.frz u O with nw:=λk=>(W0.frz u O).nw k\/N k }) (by intro h;simp[h]) (λ_ h=>Or.inl h) k this
 rw[CH]at Y;have c6:∀ (W2:Wit),ap P V W2 (ac (aG (ac I u) (g.p&&!c.fresh) c.ps xs y.2++I) u) a w'->(∀ k,(N k\/(c.fresh=false/\bk V W0 g.p g.frz k))->gd V W2 (g.p&&!c.fresh) k) ->
   (∀ k∈bb.flatten,¬ cd V W2 (ac (aG (ac I u) (g.p&&!c.fresh) c.ps xs y.2++I) u) k) ->
   (c.rs.any RK.isBv=true->∀ x∈g.frz,∀ k,k∈W0.bs x.1 x.2->k∈W2.bs x.1 x.2)->(c.rs.any RK.isBv=true->∀ k,W0.nw k->W2.nw k) ->
   (∀ q,q∉g.lend->W2.cs q=W0.cs q)->(∀ q i,q∉g.lend->(q,i)∉g.frz->(q,i)∉g.kill->(ac (aG (ac I u) (g.p&&!c.fresh) c.ps xs y.2++I) u q).ls[i]?=(u q).ls[i]?) ->
   (∀ q,(ac (aG (ac I u) (g.p&&!c.fresh) c.ps xs y.2++I) u q).sh=(u q).sh) ->
   ∃ W1,ap P V W1 (ac (let R:=aG (ac I u) (g.p&&!c.fresh) c.ps xs y.2++I
     let r:=bD d (ac R u (B0+d)).ver (g.p&&!c.fresh) g.p (g.frz.map λk=>(k.1,k.2,(ac R u k.1).ver)) (ac R u EPO).ver c.rs y.1
     (d,eL ((ac (r.2++R) u d).ver+1) r.1)::(r.2++R)) u) (a.put (some d) v) w'/\(∀ q,q≠d->q≠B0+d->q∉g.lend->W1.cs q=W0.cs q) /\
    (∀ q i,q≠d->q≠B0+d->q∉g.lend->(q,i)∉g.frz->(q,i)∉g.kill->(ac (let R:=aG (ac I u) (g.p&&!c.fresh) c.ps xs y.2++I
     let r:=bD d (ac R u (B0+d)).ver (g.p&&!c.fresh) g.p (g.frz.map λk=>(k.1,k.2,(ac R u k.1).ver)) (ac R u EPO).ver c.rs y.1
     (d,eL ((ac (r.2++R) u d).ver+1) r.1)::(r.2++R)) u q).ls[i]?=(u q).ls[i]?):=by
  intro W2 g1 d3 a3 ej eb cy bx c1;generalize aG (ac I u) (g.p&&!c.fresh) c.ps xs y.2++I=R at g1 a3 bx c1 ⊢;have c4:gG (ac R u) d c.rs=true:=by
   unfold gG at a5 ⊢;split at a5
   ·rw[c1];exact a5
   ·exact a5
  obtain⟨W1,q1,q2⟩:=wn hV g1 (q:=g.p) (ks:=g.frz.map λk=>(k.1,k.2,(ac R u k.1).ver)) (ep:=(ac R u EPO).ver) e6 d3 (λhb=>by
   refine⟨λk H=>?_,BU _,λk H=>?_⟩
   ·rcases H with H|(H|H)|⟨x,hx,H⟩
    ·exact .inl (bU (W':=W2) (by intro h;simp at h;exact h.1) (λ_ h=>h) k (d3 k H))
    ·exact .inl (.inl (eb hb k H))
    ·exact .inl (.inr H)
    ·exact .inr ⟨(x.1,x.2,(ac R u x.1).ver),Cs.2 ⟨x,hx,rfl⟩,ej hb x hx k H⟩
   ·obtain⟨x,hx,rfl⟩:=Cs.1 H;exact BU _) a3 Y.2.1 e7 hd e5 c4
  have e1:∀ (X:Upd) (C:bS),ac ((d,C)::(X++R)) u=ac ((d,C)::X) (ac R u):=λX C=>by
   rw[aO d C (X++R),aO d C X,bz]
  simp only[e1,bz];refine⟨W1,q1,λq hq cp cw=>(q2 q hq cp).trans (cy q cw),λq i hq cp cw b3 a6=>?_⟩;rw[aO,aI hq,rz _ _ (λx hx=>by rw[nj _ _ _ _ _ _ _ _ x hx];exact CQ cp)];exact bx q i cw b3 a6
 refine (?_:∃ W1,_/\_/\_).imp λW1 hh=>⟨hh.1,hh.2.1,hh.2.2,Z,c5⟩
 cases M:g.lend with
 |nil =>
  rw[M]at a4 Z a2 c0;simp only[DB,List.not_mem_nil,not_false_iff,true_implies,forall_const,false_or]at a4 Z a2;rw[M]at c6;have h5:=h1.world hV c5 eg ef e0 (λk H=>Z k (h1.used_lt k H) (λhm=>a1 k hm H));have h6:=h5.nwGrow hV N (λk H=>a2 k (hN k H));have cb:∀ k,cd V { W0.frz u O with nw:=λk=>(W0.frz u O).nw k\/N k } (ac I u) k->cd V (W0.frz u O) (ac I u) k\/N k:=by
   rintro k ((H|H)|H|H|H)
   ·exact .inl (.inl H)
   ·exact .inr H
   ·exact .inl (.inr (.inl H))
   ·exact .inl (.inr (.inr (.inl H)))
   ·exact .inl (.inr (.inr (.inr H)))
  have b4:∀ k∈cc.flatten++bb.flatten,¬ cd V { W0.frz u O with nw:=λk=>(W0.frz u O).nw k\/N k } (ac I u) k:=λk H J=>by
   obtain⟨q1,q2⟩:=a0 k H;rcases cb k J with J|J
   ·exact (a2 k q1).2 J
   ·exact q2 J
  obtain⟨W2,g1,g2,g3,g4,g5,g6,g7⟩:=qG (Γ:=Γ) hV (W0:=W0) (W:={ W0.frz u O with nw:=λk=>(W0.frz u O).nw k\/N k }) (p:=g.p&&!c.fresh) rfl hG h6 c.ps xs vs g y.2 cc dc hg (tx c.ps xs g hg M) bn em hE
   (λx hx l hl ho=>(h2 x.1 x.2 l hl ho).2.2 hx) (λk H=>b4 k (BJ _ H)) Y.1
  rw[<- bz]at g1 g5 g6 g7;refine c6 W2 g1 (λk H=>?_) (λk H J=>?_) (λhb x hx k H=>?_) (λhb k H=>?_) (λq _=>by rw[g2];rfl) (λq i _ b3 a6=>(g6 q i a6).1.trans (b2 q i b3 a6)) (λq=>(g5 q).1.trans (h3 q).1)
  ·rcases hG k H with H|H
   ·exact .inl (by rw[g4];exact H)
   ·exact .inr H
  ·rcases g7 k J with J|J
   ·exact b4 k (BE _ H) J
   ·exact Y.2.2 k J k H rfl
  ·rw[(g6 x.1 x.2 (nI ec x hx)).2];exact H
  ·rw[g4];exact .inl (.inl H)
 |cons b e4 =>
  have cx:e4=[]:=by
   rw[M]at ad;simp at ad;exact ad
  subst cx;have ev:c.ps.any PK.isIo=false:=et.resolve_left (by rw[M];simp);have d2:c.rs.any RK.isBv=false:=by
   rw[M]at dd;simpa using dd
  obtain⟨_,r2⟩:=o8 (Γ:=Γ) h0 (S:=ac I u) (p:=g.p&&!c.fresh) c.ps xs vs g y.2 cc dc hg ev bn;obtain⟨cT,yv,cs,E,b0,r3,r4,r5,r6,r7⟩:=r2 b M;rw[r6]at Y a0;have hβ:(W0.frz u O).β=W0.β:=rfl;have ba:∀ k,k∈g.lend.map W0.β<->k=W0.β b:=λk=>by rw[M];simp
  have hb:live (ac I u) b:=(iy (λq=>(h3 q).1) b).2 (f2 b (by rw[M];simp));have c3:∀ k,k∈(W0.β b::b0)++bb.flatten->¬ N k:=λk H=>(a0 k H).2
  obtain⟨W2,g1,g2,g3,g4,g5,g6⟩:=ze hV h1 hb (N:=N) (p:=g.p&&!c.fresh) r4 r5 Y.1 (by rw[h1.len b];show (W0.cs b).length=_;rw[<- h0.len b];exact r7)
   (λk J en=>Z k (h1.used_lt k J) (λhm=>a1 k hm J) (λhm=>en ((ba k).1 hm))) c5 eg ef e0
   (λk H=>a2 k (hN k H) (λhm=>c3 _ (BJ _ (BW ..)) (by rw[<- (ba k).1 hm];exact H)))
   (λk H=>⟨(a2 k (a0 k (BJ _ (BP _ H))).1 (λhm=>by
    have:=(ba k).1 hm;subst this;exact (CL.1 Y.1).1 H)).2,c3 k (BJ _ (BP _ H))⟩) hG
  have e2:ac (aG (ac I u) (g.p&&!c.fresh) c.ps xs y.2++I) u=ac [(b,⟨(ac I u b).ver+2,.agg,aq (g.p&&!c.fresh) cT yv⟩)] (ac I u):=by rw[bz,r3]
  have f0:∀ k∈bb.flatten,k∉g.lend.map W0.β:=λk H hm=>Y.2.2 _ (BW ..) k H ((ba k).1 hm).symm
  rw[<- e2]at g1 g6;have b5:=c6 W2 g1 (λk H=>?_) (λk H J=>?_) (λb1=>by rw[d2]at b1;cases b1) (λb1=>by rw[d2]at b1;cases b1) (λq hq=>?_) (λq i hq b3 a6=>?_) (λq=>?_)
  ·rw[M]at b5;exact b5
  ·rcases hG k H with H|H
   ·exact .inl ((g3 k).2 H)
   ·exact .inr H
  ·rcases g6 k J with J|J|J
   ·exact (a2 k (a0 k (BE _ H)).1 (f0 k H)).2 J
   ·exact c3 k (BE _ H) J
   ·exact Y.2.2 k (BP _ J) k H rfl
  ·rw[M]at hq;rw[g4 q (by simpa using hq)];rfl
  ·rw[M]at hq;rw[e2,aI (by simpa using hq)];exact b2 q i b3 a6
  ·rw[e2];rcases am b q ⟨(ac I u b).ver+2,.agg,aq (g.p&&!c.fresh) cT yv⟩ (ac I u) with ⟨rfl,e3⟩|⟨_,e3⟩
   ·rw[e3];have:=hb.2;rw[(h3 q).1]at this;exact this.symm
   ·rw[e3];exact (h3 q).1
end
section
variable {P:Program} {V:Env} {Γ:List Ctr} {T:TypeId->TI} {st:St} {o:Oper} {R:Type} {κ:Upd->Option R} {r:R}
theorem zg {ls:List Leaf}{j:Nat}{p:Bool}{u:Option (Nat×Nat)}{E:TypeId}{e:Ty}{xs:List e.den}(h:ls.getD j .dead=.own p u E e xs):ls[j]?=some (.own p u E e xs):=by
 rw[CF]at h;cases y:ls[j]? with
 |none=>rw[y]at h;simp at h
 |some z=>rw[y]at h;simp at h;rw[h]
theorem Aw (hV:ax V){b:Option (Bool×Nat×Nat)}{U:Upd}(h:jN st b U κ=some r) :
  ∃ U',κ U'=some r/\∀ I a w,ap P V I (ac U st) a w->(∀ q j,b=some (true,q,j)->∃ v,I.cs TMP=[v]/\tt I (ac U st) w q j v)->Rel P V (ac U' st) a w:=by
 unfold jN at h;split at h
 ·rename_i q j;split at h
  ·rename_i p i off E' e' xs q' E e ys hq b4;obtain⟨y,hy,h⟩:=B7.1 h;obtain⟨_,_,hy⟩:=gm hy;simp only[DC]at hy;split at h
   ·rename_i z hz;refine⟨_,h,λI a w hr hb=>?_⟩;obtain⟨v,bn,a3,c0,i0,ba,p0,E0,e0,c4,g,c6,g1,g2,g3,g4⟩:=hb q j rfl;have hq:=zg hq;rw[hq]at g1;obtain⟨rfl,b3,rfl,h4⟩:p=p0/\some (i,off)=some (i0,ba)/\E'=E0/\(⟨e',xs⟩:(e:Ty)×List e.den)=⟨e0,c4⟩:=by
     simp only[BA,Leaf.own.injEq]at g1;obtain⟨q1,q2,q3,q4,q5⟩:=g1;subst q4;rw[heq_eq_eq]at q5;subst q5;exact⟨q1,by simpa using q2,q3,rfl⟩
    simp only[BA,CD]at b3;obtain⟨rfl,rfl⟩:=b3;simp only[Sigma.mk.injEq]at h4;obtain⟨rfl,h4⟩:=h4;rw[heq_eq_eq]at h4;subst h4;generalize hS:ac U st=S at hr hq g1 g2 g3 b4 ⊢;have a9:(S TMP).ls[0]?=some (.own q' none E e ys):=by rw[b4];rfl
    have bl:(I.cs TMP)[0]?=some v:=by rw[bn];rfl
    have b0:=hr.leaf q j _ _ hq g2;have b2:=hr.leaf TMP 0 _ _ a9 bl;have b0:OwH w (gd V I p) (some (i,off)) E' e' xs _ (I.bs q j):=b0;have b2:Ow w (gd V I q') E e ys v (I.bs TMP 0):=b2;have bb:=b0.carry (G':=gd V I (p||q')) (bU (W':=I) (by intro h;simp[h]) (λ_ h=>h)) (λ_ _=>rfl) (λ_ _=>rfl);have b5:=OwH.carry (G':=gd V I (p||q')) b2 (bU (W':=I) (by intro h;simp[h]) (λ_ h=>h)) (λ_ _=>rfl) (λ_ _=>rfl);have c2:∀ k∈I.bs TMP 0,k∉I.bs q j:=λk M a1=>a3 (hr.sep TMP 0 _ q j _ a9 trivial hq trivial k M a1).1.symm
    obtain⟨b1,c1,bx⟩:=bb.back b5 c2 hy hz (λg' c5 e1=>by
     simp only[B9,BA,Cj,and_true]at e1;rw[<- e1.1];exact g4)
    have c3:∀ k∈b1,k∈I.bs q j\/k∈I.bs TMP 0:=λk M=>by
     have h5:=bx k;have h6:=BK.2 M;by_cases h7:k∈I.bs q j
     ·exact .inl h7
     ·have:=BZ.2 h7;exact .inr (BK.1 (by omega))
    obtain⟨h1,cb⟩:=hr.putGhost hV TMP iU.1 iU.2.1 ((S TMP).ver+1) .off [] [] (λ_=>[]) (BM _) rfl (by simp) (λj l u hj=>by simp at hj) (λj l hj=>by simp at hj) (λj j' l l' hj=>by simp at hj);have a4:∀ x,x≠TMP->ac [(TMP,⟨(S TMP).ver+1,.off,[]⟩)] S x=S x:=λx hx=>aI hx _ _
    have a6:(ac [(TMP,⟨(S TMP).ver+1,.off,[]⟩)] S) q=S q:=a4 q a3;have H:∀ (X:Nat) (l':Leaf),X≠j->(aS (S q).ls j (.own (p||q') none E' e' (xs.set i z)))[X]?=some l'->(S q).ls[X]?=some l':=by
     intro X l' a2 a0;rcases aR _ _ _ _ _ a0 with ⟨rfl,_,_⟩|⟨_,a0⟩
     ·exact absurd rfl a2
     ·exact a0
    have b9:∀ (l':Leaf),(aS (S q).ls j (.own (p||q') none E' e' (xs.set i z)))[j]?=some l'->l'=.own (p||q') none E' e' (xs.set i z):=by
     intro l' a0;rcases aR _ _ _ _ _ a0 with ⟨_,rfl,_⟩|⟨a2,_⟩
     ·rfl
     ·exact absurd rfl a2
    have a5:∀ b,live (ac [(TMP,⟨(S TMP).ver+1,.off,[]⟩)] S) b->live S b:=λb hb=>by
     have:b≠TMP:=by have:=hb.1;have:=iU.2.1;omega
     exact⟨hb.1,by rw[<- a4 b this];exact hb.2⟩
    have ad:∀ k∈b1,¬ I.nw k/\¬ V.prot k/\(∀ b,live S b->I.β b≠k)/\∀ (O i1:Nat) (l1:Leaf),(S O).ls[i1]?=some l1->ao l1->(O,i1)≠(q,j)->O≠TMP->k∉I.bs O i1:=λk M=>by
     rcases c3 k M with M|M
     ·have h9:=hr.ownb q j _ hq trivial k M;exact⟨h9.1,h9.2.1,h9.2.2,λO i1 l1 g5 g6 g7 _ g8=>g7 (by obtain⟨e1,e2⟩:=hr.sep O i1 l1 q j _ g5 g6 hq trivial k g8 M;rw[e1,e2])⟩
     ·have h9:=hr.ownb TMP 0 _ a9 trivial k M;exact⟨h9.1,h9.2.1,h9.2.2,λO i1 l1 g5 g6 _ g7 g8=>g7 (hr.sep O i1 l1 TMP 0 _ g5 g6 a9 trivial k g8 M).1⟩
    have h2:=(h1.reownE hV q ⟨(S q).ver,(S q).sh,aS (S q).ls j (.own (p||q') none E' e' (xs.set i z))⟩ (λX=>if X=j then b1 else I.bs q X) c0 (by rw[a6];exact BU _) (by rw[a6]) (by rw[a6];simp[aS])
     (λX l' u g5 g6=>by
      have g6:(if q=TMP then [] else I.cs q)[X]?=some u:=g6;rw[if_neg a3]at g6;by_cases J:X=j
      ·subst J;obtain rfl:=b9 l' g5;rw[g2]at g6;simp only[BA]at g6;subst g6;simp only[if_true];exact c1
      ·simp only[if_neg J];have:=h1.leaf q X l' u (by rw[a6];exact H X l' J g5) (by show (if q=TMP then [] else I.cs q)[X]?=_;rw[if_neg a3];exact g6);have e0:(if q=TMP then ([]:List Nat) else I.bs q X)=I.bs q X:=if_neg a3;simp only[e0]at this;exact this)
     (λX l' g5 g6 k M=>by
      by_cases J:X=j
      ·subst J;simp only[if_true]at M;obtain⟨q1,q2,q3,q4⟩:=ad k M;refine⟨q1,q2,λb hb=>q3 b (a5 b hb),λO j1 l1 a2 g7 g8 g9=>?_⟩;by_cases Z:O=TMP
       ·subst Z;rw[bi]at g7;simp at g7
       ·rw[a4 O Z]at g7;have g9:k∈(if O=TMP then [] else I.bs O j1):=g9;rw[if_neg Z]at g9;exact q4 O j1 l1 g7 g8 (λe=>a2 (by cases e;rfl)) Z g9
      ·simp only[if_neg J]at M;have a0:=H X l' J g5;have h9:=hr.ownb q X l' a0 g6 k M;refine⟨h9.1,h9.2.1,λb hb=>h9.2.2 b (a5 b hb),λO j1 l1 a2 g7 g8 g9=>?_⟩;by_cases Z:O=TMP
       ·subst Z;rw[bi]at g7;simp at g7
       ·rw[a4 O Z]at g7;have g9:k∈(if O=TMP then [] else I.bs O j1):=g9;rw[if_neg Z]at g9;exact a2 (hr.sep q X l' O j1 l1 a0 g6 g7 g8 k M g9).1.symm)
     (λi1 i2 l1 l2 g5 g6 g7 g8 k M a1=>by
      by_cases J:i1=j <;> by_cases Y:i2=j
      ·omega
      ·subst J;simp only[if_true]at M;simp only[if_neg Y]at a1;exact absurd a1 ((ad k M).2.2.2 q i2 l2 (H i2 l2 Y g7) g8 (λe=>Y (by cases e;rfl)) a3)
      ·subst Y;simp only[if_true]at a1;simp only[if_neg J]at M;exact absurd M ((ad k a1).2.2.2 q i1 l1 (H i1 l1 J g5) g6 (λe=>J (by cases e;rfl)) a3)
      ·simp only[if_neg J]at M;simp only[if_neg Y]at a1;exact (hr.sep q i1 l1 q i2 l2 (H i1 l1 J g5) g6 (H i2 l2 Y g7) g8 k M a1).2)).1
    show ∃ W,ap P V W _ a w;have e1:ac ((q,⟨(S q).ver,(S q).sh,aS (S q).ls j (.own (p||q') none E' e' (xs.set i z))⟩)::(TMP,⟨(S TMP).ver+1,.off,[]⟩)::(EPO,bV (S EPO))::U) st =
      ac [(q,⟨(S q).ver,(S q).sh,aS (S q).ls j (.own (p||q') none E' e' (xs.set i z))⟩),(EPO,bV (ac [(TMP,⟨(S TMP).ver+1,.off,[]⟩)] S EPO))] (ac [(TMP,⟨(S TMP).ver+1,.off,[]⟩)] S):=by
     rw[a4 EPO (CQ iU.2.2),aO q,aO TMP,aO EPO,hS,aO q _ [(EPO,bV (S EPO))],mZ iU.2.2]
    rw[e1];exact⟨_,h2⟩
   ·cases h
  ·cases h
 ·exact⟨_,h,λI a w hr _=>⟨I,hr⟩⟩
theorem va (hV:ax V)(hΓ:∀ c∈Γ,bP P c){d:Nat}(hd:d<V.nt)(d3:∀ x∈V.fixt,x.1≠d){f:FuncId}{xs:List (aH×List Leaf)}(h:jm Γ st d f xs κ=some r) :
  fP P f/\∃ U,κ U=some r/\∀ W a w,ap P V W st a w->∀ vs,gS P V W st w xs vs->Calls P f vs.toArray w (λe w'=>∃ v,e=.returned v/\Rel P V (ac U st) (a.put (some d) v) w'):=by
 unfold jm at h;split at h
 ·rename_i c hc;obtain⟨e4,rfl⟩:=nh hc;obtain⟨ec,b0⟩:=hΓ c e4;refine⟨ec,?_⟩;rw[gB]at h;obtain⟨⟨U0,ys,b⟩,c0,h⟩:=B7.1 h;simp only at h;split at h
  ·rename_i g hg;cases M:aY g.kill&&dC g.frz g.kill&&gG st d c.rs&&!(g.see.any λq=>g.lend.any (BT q))&&Co g.lend.length 1&&(g.lend.isEmpty||!(c.ps.any PK.isIo))&&((c.fresh&&g.lend.isEmpty)||!(c.rs.any RK.isBv))&&(g.kill.all λk=>!BT k.1 EPO)&&oJ b g.frz g.kill d with
   |false=>rw[M]at h;cases h
   |true =>
    rw[M]at h;simp only[cond_true]at h;simp only[BC]at M;obtain⟨⟨⟨⟨⟨⟨⟨⟨bn,e6⟩,J⟩,b5⟩,I⟩,d1⟩,ev⟩,hE⟩,cu⟩:=M;obtain⟨y,hy,h⟩:=B7.1 h;obtain⟨U',f6,bx⟩:=Aw (P:=P) (V:=V) hV h;refine⟨U',f6,λW a w hr vs et=>?_⟩;obtain⟨W0,X,cb,fd,hβ0,cy,dc,b9,cx⟩:=ov hV hr c.ps xs vs U0 ys b et c0;generalize a6:ac U0 st=S0 at X cb cy dc b9 hg;obtain⟨⟨b1,c4,a0⟩,hf,hk,a5⟩:=kq (uy hV hΓ X) c.ps ys vs g cb hg;have hE:∀ z∈g.kill,z.1≠EPO:=λz hz e0=>by
     have:=List.all_eq_true.1 hE z hz;rw[e0]at this;simp at this
    have I:g.lend.length<=1:=CN I;have bl:g.lend=[]\/c.ps.any PK.isIo=false:=by
     simp only[DW,DK,BY]at d1;exact d1
    have c6:∀ k,k∈b1.flatten<->k∈g.lend.map W0.β\/k∈aX W0 g.kill:=λk=>by
     rw[<- BK,<- BK,<- BK,a0 k];omega
    have a3:∀ k,jJ V W0 S0 g.frz g.see k->k<w.heap.size/\k∉b1.flatten:=by
     intro k H;refine⟨X.used_lt k (rv hf k H),λO=>?_⟩;rcases (c6 k).1 O with O|O
     ·obtain⟨b',Y,rfl⟩:=Cs.1 O;have e7:=X.box b' (a5 b' Y);rcases H with H|H|⟨b2,cw,a1,e2⟩|⟨z,hz,H⟩
      ·exact e7.1 H
      ·exact e7.2 H
      ·have:=X.inj b2 b' a1 (a5 b' Y) e2;subst this;simp only[BY,B8]at b5;have:=b5 b2 cw;rw[Bool.not_eq_true,B8]at this;have:=this b2 Y;simp at this
      ·obtain⟨l,hl,ho⟩:=hf z hz;exact (X.ownb z.1 z.2 l hl ho _ H).2.2 b' (a5 b' Y) rfl
     ·obtain⟨z,hz,Z⟩:=gl.1 O;obtain⟨l,hl,ho⟩:=hk z hz;have a4:=X.ownb z.1 z.2 l hl ho k Z;rcases H with H|H|⟨b2,cw,a1,e2⟩|⟨z',eb,H⟩
      ·exact a4.1 H
      ·exact a4.2.1 H
      ·exact a4.2.2 b2 a1 e2
      ·obtain⟨l',f2,f0⟩:=hf z' eb;obtain⟨e1,e2⟩:=X.sep z.1 z.2 l z'.1 z'.2 l' hl ho f2 f0 k Z H;exact nI e6 z' eb (by rw[show z'=z from Df e1.symm e2.symm];exact hz)
    have f3:b1.flatten.Nodup:=br.2 λk=>by
     rw[a0 k];have h5:=br.1 (gN X bn hk) k;have h6:(g.lend.map W0.β).count k<=1:=by
      exact CI List.count_le_length (by rw[Cc];exact I)
     by_cases h7:k∈g.lend.map W0.β
     ·have:(aX W0 g.kill).count k=0:=BZ.2 λO=>by
       obtain⟨b',Y,e0⟩:=Cs.1 h7;obtain⟨z,hz,Z⟩:=gl.1 O;obtain⟨l,hl,ho⟩:=hk z hz;exact (X.ownb z.1 z.2 l hl ho k Z).2.2 b' (a5 b' Y) e0
      omega
     ·have:(g.lend.map W0.β).count k=0:=BZ.2 h7;omega
    have ad:=b0 w (bk V W0 g.p g.frz) g.val vs b1 y (c4.mono (λ_ h=>h) a3) (λk H=>a3 k (mp hV k H)) f3 hy;have c3:gG S0 d c.rs=true:=by
     unfold gG at J ⊢;split at J
     ·rcases b9 (B0+d) with e0|e0
      ·rw[e0];exact J
      ·exact absurd e0 (by have:=iU.2.1;omega)
     ·exact J
    refine ad.mono λe w' c2=>?_
    obtain⟨v,rfl,W1,a2,ba,dd,c5,_⟩:=zf (Γ:=Γ) hV X cb hg hf hk a5 bn e6 hE I bl a0 hd d3 c3 ev c2;refine⟨v,rfl,?_⟩;refine bx W1 _ w' ?_ ?_
    ·have e1:=bz (mq S0 c d ys g y) U0 st;rw[a6]at e1;rw[<- e1]at a2;subst a6;unfold mq at a2;simp only[bz,BQ,DO]at a2 ⊢;exact a2
    ·intro q j hb;subst hb;obtain⟨u,ef,f7,es,i,off,p,E,e,f5,gg,en,q1,q2,q3,q4⟩:=cy;have d2:=cx true q j rfl rfl;have a9:g.lend=[]:=bl.resolve_right (by rw[d2];simp);simp only[oJ,BC,BY]at cu;obtain⟨⟨⟨cc,e5⟩,b4⟩,bb⟩:=cu;have ed:q≠d:=λe0=>by rw[e0]at b4;simp at b4
     have e3:q≠B0+d:=λe0=>by rw[e0]at bb;simp at bb
     have cp:(q,j)∉g.kill:=λO=>by
      have:=B8.1 cc _ O;simp[is]at this
     have f4:(q,j)∉g.frz:=λO=>by
      have:=B8.1 e5 _ O;simp[is]at this
     have f8:TMP≠d:=by have:=hV.nt;have:=iU.1;omega
     have ex:TMP≠B0+d:=by have:=iU.2.1;omega
     have hL:=dd q j ed e3 (by rw[a9];simp) f4 cp;rw[q1]at hL;have hC:=ba q ed e3 (by rw[a9];simp);have e1:=bz (mq S0 c d ys g y) U0 st;rw[a6]at e1;have ej:gg<w.heap.size:=X.own_lt q1 trivial gg q3;have em:gg∉aX W0 g.kill:=λO=>by
      obtain⟨z,hz,Z⟩:=gl.1 O;obtain⟨l,hl,ho⟩:=hk z hz;obtain⟨e1,e2⟩:=X.sep z.1 z.2 l q j _ hl ho q1 trivial gg Z q3;exact cp (by rw[show (q,j)=z from Df e1.symm e2.symm];exact hz)
     have c1:w'.cell? ⟨gg,i*e.cells+off,none⟩=some u:=by
      rw[kx (c5 gg ej em (by rw[a9];simp))];exact q4
     have f1:gg∈W1.bs q j:=by
      have h9:=a2.leaf q j _ _ hL (by rw[hC];exact q2);obtain⟨_,fc,fi,_,eg,_⟩:=h9;rw[eg];simp[B5]
     refine⟨u,by rw[ba TMP f8 ex (by rw[a9];simp)];exact ef,f7,es,i,off,p,E,e,f5,gg,en,?_,by rw[hC];exact q2,f1,c1⟩;have b3:=hL;rw[<- e1]at b3;subst a6;unfold mq at b3;simp only[bz,BQ,DO]at b3 ⊢;exact b3
  ·cases h
 ·cases h
end
section
variable {P:Program} {V:Env} {Γ:List Ctr} {T:TypeId->TI} {st:St} {o:Oper} {R:Type} {κ:Upd->Option R} {r:R}
theorem nV {W:Wit}{a:Act}{w:World}(h:ap P V W st a w):∀ (l:List Operand),gS P V W st w (l.map (au st)) (l.map a.eval)
 |[]=>rfl
 |x::l=>by
  obtain⟨y,z,u⟩:=cU h x;exact⟨a.eval x,l.map a.eval,y,rfl,z,u,nV h l⟩
theorem nk {W:Wit}{w:World}:∀ {xs y:List (aH×List Leaf)} {z us:List Value},gS P V W st w xs z->gS P V W st w y us->gS P V W st w (xs++y) (z++us)
 |[],_,_,_,X,u=>by rw[show _=_ from X];exact u
 |x::xs,_,_,_,⟨v,I,M,e,J,H,O⟩,u=>by
  subst e;exact⟨v,_,M,rfl,J,H,nk O u⟩
theorem qH {a:Act}{w:World}{c:Call}{x:Operand}{f:FuncId}{caps:Array Value}(z:o.op=.call c)(I:c.callee=.value x)(M:a.eval x=.func (.func f) #[] caps)(J:fP P f){next:Act->World->Prop}{Q:Exit->Act->World->Prop}
  (u:Calls P f (c.args.map a.eval++caps) w (λe H=>∃ v,e=.returned v/\next (a.put o.dst v) H)):o.wp P a w next Q:=by
 unfold Oper.wp;have y:(execOp a.eval o).run P w=.ok (.enter f (c.args.map a.eval++caps)) w:=by
  have:=J (c.args.map a.eval++caps) w;simp[execOp,z,resolve,I,M,Deferred.ofValue,invoke,this]
 rw[y,Oper.upon_enter];refine u.mono λe H=>?_
 rintro⟨v,rfl,hn⟩;exact hn
theorem la {p:Bool}:∀ {b:Ty} {x:b.den},b.flat=true->aq p b x=cL p b x
 |.int _,_,_=>rfl
 |.bool,_,_=>rfl
 |.str,_,_=>rfl
 |.unit,_,_=>rfl
 |.hdr,_,_=>rfl
 |.pair a b,x,h=>by
  simp only[Ty.flat,BC]at h;simp only[aq,cL,la h.1,la h.2]
 |.list _ _ _,_,h=>by simp[Ty.flat]at h
theorem rA (hV:ax V){W:Wit}{a:Act}{w:World}(h:ap P V W st a w):∀ (M:List Ty) (xs:List (aH×List Leaf)) (X:List Value) (x:Tup M),gS P V W st w xs X->iJ st M xs=some x ->
  r8 w (λk=>k<w.heap.size) M x X
 |[],[],X,_,hx,_=>hx
 |[],_::_,_,_,_,u=>by simp[iJ]at u
 |_::_,[],_,_,_,u=>by simp[iJ]at u
 |b::M,x::xs,X,z,⟨v,O,cs,e,Z,hl,H⟩,u=>by
  subst e;simp only[iJ]at u;cases J:decide (x.1=bg b.isAgg) with
  |false=>simp[J]at u
  |true =>
   simp only[J,cond_true]at u;have J:=of_decide_eq_true J;rw[J]at Z;split at u
   ·rename_i p y hy;simp only[BB]at u;obtain⟨t,ht,rfl⟩:=u;have Y:=ey h hl hy;refine⟨v,cs,O,rfl,gA Z,Y.mono (λk I=>?_),rA hV h M xs O t H ht⟩;rcases I with (I|⟨_,I⟩)|⟨z,hz,I⟩
    ·exact (h.nwlt k I).1
    ·exact CK (hV.ro k I).1 h.size
    ·obtain⟨l,h1,h2⟩:=eh hl hz;exact h.own_lt h1 h2 k I
   ·cases u
theorem xU (hV:ax V)(hΓ:∀ c∈Γ,bP P c)(M:bM V o){c:Call}{f:Operand}(Y:o.op=.call c)(hc:c.callee=.value f)
  (h:act Γ T o st κ=some r):bW P V o st κ r:=by
 simp only[act,wrU,Y,hc]at h;split at h
 ·cases h
 ·rename_i d X;split at h
  ·rename_i g H Z;obtain⟨he,U,hU,z⟩:=va hV hΓ (M d X).1 (M d X).2 h;refine⟨U,hU,λW a w I next Q hn=>?_⟩;obtain⟨J,_,_,_,_⟩:=bo I f (by rw[Z];simp);rw[Z]at J;have O:=nk (nV I c.args.toList) (sg (p8 (P:=P) (V:=V) (W:=W) (w:=w) H J.2));rw[DG]at O;have:=z W a w I _ O;have e:(c.args.toList.map a.eval++H.map λb=>Value.pointer (some ⟨W.β b,0,none⟩)).toArray=c.args.map a.eval++(H.map λb=>Value.pointer (some ⟨W.β b,0,none⟩)).toArray:=by
    apply Db;simp
   rw[e]at this;refine qH Y hc J.1 he (this.mono λe w'=>?_);rintro⟨v,rfl,hrel⟩;refine⟨v,rfl,hn _ _ ?_⟩;rw[X];exact hrel
  ·rename_i g H Z;obtain⟨he,U,hU,z⟩:=va hV hΓ (M d X).1 (M d X).2 h;refine⟨U,hU,λW a w I next Q hn=>?_⟩;obtain⟨J,_,_,_,_⟩:=bo I f (by rw[Z];simp);rw[Z]at J;obtain⟨us,J,a1,a0⟩:=J;have O:=nk (nV I c.args.toList) (sg (qF (st:=st) a1 a0));rw[DG]at O;have:=z W a w I _ O;have e:(c.args.toList.map a.eval++us).toArray=c.args.map a.eval++us.toArray:=by
    apply Db;simp
   rw[e]at this;refine qH Y hc J he (this.mono λe w'=>?_);rintro⟨v,rfl,hrel⟩;refine⟨v,rfl,hn _ _ ?_⟩;rw[X];exact hrel
  ·rename_i As B φ Z;cases hb:B.flat with
   |false=>simp[hb]at h
   |true =>
    simp only[hb,cond_true]at h;split at h
    ·rename_i x hx;obtain⟨y,hy,h⟩:=B7.1 h;simp only[X]at h;refine⟨_,h,λW a w I next Q hn=>?_⟩;obtain⟨J,_,_,_,_⟩:=bo I f (by rw[Z];simp);rw[Z]at J;obtain⟨f',H,J,he,z⟩:=J;have a2:=rA hV I As _ _ x (nV I c.args.toList) hx;have:=z w I.size I.keep x _ y a2 hy;have e:(c.args.toList.map a.eval).toArray=c.args.map a.eval:=by apply Db;simp
     rw[e]at this;refine qH Y hc J he (this.mono λe w'=>?_);rintro⟨u,cs,rfl,hvo,hrd,hbelow⟩;refine⟨u,rfl,hn _ _ ?_⟩;rw[X];have a4:=I.below hV hbelow;have a3:=eS (P:=P) (V:=V) (W:=W) (st:=st) (G:=λ_=>False) (p:=false) (λ_ h=>h.elim) hrd;rw[<- la hb]at a3;exact a4.putLs hV d (M d X).1 (M d X).2 _ _ _ u cs (BM _) (j0 hvo) a3
    ·cases h
  ·cases h
theorem Bo (H:ax V)(I:TOk P T)(hΓ:∀ c∈Γ,bP P c)(z:bM V o)(h:act Γ T o st κ=some r):bW P V o st κ r:=by
 cases u:o.op with
 |move x=>exact ya H z u h
 |assign x=>exact vu H z u h
 |pick c x y=>exact yb H z u h
 |alloc t=>exact xN H I z u h
 |box t x=>exact Ar H z u h
 |build t J=>exact wR H I z u h
 |buildSlice t n J=>exact qD H I z u h
 |load t x=>exact yd H I z u h
 |store t x y=>exact xP H I u h
 |nilCheck x=>exact sy H z u h
 |binOp X t x y t'=>exact wN H I z u h
 |unOp X t x=>exact yc H z u h
 |convert s t x=>exact uw H I z u h
 |makeSlice t n c=>exact rV H I z u h
 |slice t x Z Y mx=>exact xS H I z u h
 |fieldAddr t x f=>exact rS H I z u h
 |field t x f=>exact wQ H I z u h
 |indexAddr t x i=>exact rT H I z u h
 |index t x i=>exact wP H I z u h
 |extract x i=>exact tW H z u h
 |makeFunc fn first O=>exact sA H z u h
 |call c =>
  cases M:c.callee with
  |value f=>exact xU H hΓ z u M h
  |builtin b =>
   cases b with
   |len=>exact zJ H I z u M h
   |append=>exact wg H I z u M h
   |min=>exact At H z u M h
   |max=>exact Au H z u M h
   |_ =>
    simp only[act,wrU,u,M]at h;split at h <;> cases h
  |_ =>
   simp only[act,wrU,u,M]at h;split at h <;> cases h
 |_=>simp[act,wrU,u]at h
end
def cD:Ty->Ty->Bool
 |.pair a b,z=>match z with
  |.pair c d=>cD a c&&cD b d
  |_=>false
 |.list m E e,z=>match z with
  |.list n u r=>decide (E=u)&&(bif n then m&&cD e r else decide (e.sh=r.sh))
  |_=>false
 |a,z=>decide (a=z)
theorem fR:∀ {a b:Ty},cD a b=true->a.sh=b.sh
 |.pair a b,z,h=>by
  cases z with
  |pair c d =>
   simp only[cD,BC]at h;simp only[Ty.sh,fR h.1,fR h.2]
  |_=>simp[cD]at h
 |.list m E e,z,h=>by
  cases z with
  |list n u r =>
   simp only[cD,BC,decide_eq_true_eq]at h;obtain⟨rfl,h⟩:=h;cases n with
   |true =>
    simp only[cond_true,BC]at h;simp only[Ty.sh,fR h.2]
   |false =>
    simp only[cond_false,decide_eq_true_eq]at h;simp only[Ty.sh,h]
  |_=>simp[cD]at h
 |.int _,z,h=>by simp only[cD,decide_eq_true_eq]at h;rw[h]
 |.bool,z,h=>by simp only[cD,decide_eq_true_eq]at h;rw[h]
 |.str,z,h=>by simp only[cD,decide_eq_true_eq]at h;rw[h]
 |.unit,z,h=>by simp only[cD,decide_eq_true_eq]at h;rw[h]
 |.hdr,z,h=>by simp only[cD,decide_eq_true_eq]at h;rw[h]
theorem zh {a b:Ty}(h:cD a b=true):a.isAgg=b.isAgg:=by
 cases a with
 |pair c d=>cases b <;> first|rfl|(simp[cD]at h)
 |list m E e=>cases b <;> first|rfl|(simp[cD]at h)
 |_=>simp only[cD,decide_eq_true_eq]at h;rw[h]
theorem ox {f g h:Nat->List Nat}{k:Nat}:∀ {l:List Nat},(∀ j∈l,(f j).count k=(g j).count k+(h j).count k)->(l.flatMap f).count k=(l.flatMap g).count k+(l.flatMap h).count k
 |[],_=>rfl
 |a::l,H=>by
  have y:=H a (BW ..);have u:=ox (l:=l) (λj r=>H j (BP _ r));simp only[CO,BF];omega
theorem Mx.thin {w:World}{G:Nat->Prop}:∀ {a b:Ty} {pos:Nat} {x:a.den} {y:b.den} {cs:List Value} {bs:List Nat},cD a b=true->HEq x y->Mx w G a none pos x cs bs ->
  ∃ b1 b2:List Nat,(∀ k,bs.count k=b1.count k+b2.count k)/\Mx w (λk=>G k\/k∈b2) b none pos y cs b1
 |.pair a b,z,pos,x,y,cs,bs,h,r,H=>by
  cases z with
  |pair c d =>
   simp only[cD,BC]at h;obtain⟨c1,c2,ba,bb,rfl,rfl,h1,h2⟩:=H;obtain⟨h3,h4⟩:=sn (js (fR h.1)) (js (fR h.2)) r;obtain⟨p1,p2,Z,Y⟩:=Mx.thin h.1 h3 h1;obtain⟨r1,r2,s1,s2⟩:=Mx.thin h.2 h4 h2;refine⟨p1++r1,p2++r2,λk=>?_,c1,c2,p1,r1,rfl,rfl,Y.mono (λk J=>J.imp id (BJ _)),?_⟩
   ·have:=Z k;have:=s1 k;simp only[BF];omega
   ·have:=s2.mono (G':=λk=>G k\/k∈p2++r2) (λk J=>J.imp id (BE _))
    rwa [hZ (fR h.1)]at this
  |_=>simp[cD]at h
 |.list m E e,z,pos,xs,R,cs,bs,h,r,H=>by
  have a2:=fR h;cases z with
  |list n E' e' =>
   simp only[cD,BC,decide_eq_true_eq]at h;obtain⟨rfl,h⟩:=h;cases n with
   |true =>
    simp only[cond_true,BC]at h;obtain⟨rfl,h⟩:=h;rw[bI (by simp)]at H;obtain⟨v,rfl,I,a1,h1,h2,h3⟩:=H;obtain⟨h4,h5⟩:=so (js (fR h)) r;have a0:∀ j,∃ q:List Nat×List Nat,j<R.length->(∀ k,(a1 j).count k=q.1.count k+q.2.count k) /\
      ∀ y,R[j]?=some y->∃ c,Mx w (λk=>G k\/k∈q.2) e' none 0 y c q.1/\∀ i u,c[i]?=some u->I[j*e'.cells+i]?=some u:=by
     intro j;by_cases M:j<R.length
     ·have X:=BS M;obtain⟨x,hx,r⟩:=h5 j _ X;obtain⟨c,hm,hc⟩:=h3 j x hx;obtain⟨b1,b2,Z,Y⟩:=Mx.thin h r hm;refine⟨(b1,b2),λ_=>⟨Z,λy O=>⟨c,?_,λi u hi=>?_⟩⟩⟩
      ·rw[X]at O;simp only[BA]at O;subst O;exact Y
      ·rw[<- hZ (fR h)];exact hc i u hi
     ·exact⟨([],[]),λh=>absurd h M⟩
    obtain⟨f,hf⟩:=Classical.skolem.1 a0;refine⟨v.ownBlock.toList++(BO R.length).flatMap (λj=>(f j).1),(BO R.length).flatMap (λj=>(f j).2),λk=>?_,?_⟩
    ·rw[h2,BF,BF,h4,ox (g:=λj=>(f j).1) (h:=λj=>(f j).2) (λj M=>(hf j (Cz.1 M)).1 k)];omega
    ·rw[bI (by simp)];refine⟨v,rfl,I,λj=>(f j).1,by rw[<- h4,<- hZ (fR h)];exact h1,rfl,λj y O=>?_⟩;have M:=(BD.1 O).1;obtain⟨c,Z,Y⟩:=(hf j M).2 y O;exact⟨c,Z.mono (λk J=>J.imp id (λJ=>dU.2 ⟨j,M,J⟩)),Y⟩
   |false =>
    refine⟨[],bs,λk=>by simp,?_⟩;rw[cn];exact⟨rfl,Rd.flags a2 r (Mx.rd (S:=λk=>G k\/k∈bs) (λ_=>.inl) (λ_=>.inr) H)⟩
  |_=>simp[cD]at h
 |.int _,z,pos,x,y,cs,bs,h,r,H=>by
  simp only[cD,decide_eq_true_eq]at h;subst h;cases r;exact⟨bs,[],λk=>by simp,H.mono (λ_=>.inl)⟩
 |.bool,z,pos,x,y,cs,bs,h,r,H=>by
  simp only[cD,decide_eq_true_eq]at h;subst h;cases r;exact⟨bs,[],λk=>by simp,H.mono (λ_=>.inl)⟩
 |.str,z,pos,x,y,cs,bs,h,r,H=>by
  simp only[cD,decide_eq_true_eq]at h;subst h;cases r;exact⟨bs,[],λk=>by simp,H.mono (λ_=>.inl)⟩
 |.unit,z,pos,x,y,cs,bs,h,r,H=>by
  simp only[cD,decide_eq_true_eq]at h;subst h;cases r;exact⟨bs,[],λk=>by simp,H.mono (λ_=>.inl)⟩
 |.hdr,z,pos,x,y,cs,bs,h,r,H=>by
  simp only[cD,decide_eq_true_eq]at h;subst h;cases r;exact⟨bs,[],λk=>by simp,H.mono (λ_=>.inl)⟩
theorem jp.mono {w:World}{G G':Nat->Prop}(z:∀ k,G k->G' k){a:Ty}{x:a.den}{ptr:Bool}{v:Value}{bs:List Nat}(h:jp w G a x ptr v bs):jp w G' a x ptr v bs:=by
 unfold jp at h ⊢;split at h
 ·rename_i u;rw[if_pos u];obtain⟨g,c,E,I,r,y,J,H⟩:=h;exact⟨g,c,E,I,r,y,J.mono z,H⟩
 ·rename_i u;rw[if_neg u];obtain⟨M,r,y⟩:=h;exact⟨M,r,y.mono z⟩
theorem bK.mono {w:World}{G G':Nat->Prop}(y:∀ k,G k->G' k):∀ {ps:List PK} {o:ah ps} {z:List Value} {bs:List (List Nat)},bK w G ps o z bs->bK w G' ps o z bs
 |.io _::_,_,_::_,_::_,⟨r,u⟩=>⟨r.mono y,bK.mono y u⟩
 |.iop _::_,_,_::_,_::_,⟨r,u⟩=>⟨r.mono y,bK.mono y u⟩
 |.rd _::_,_,_::_,_::_,⟨r,u⟩=>⟨r,bK.mono y u⟩
 |.own _::_,_,_::_,_::_,⟨r,u⟩=>⟨r,bK.mono y u⟩
 |.rref _::_,_,_::_,_::_,⟨r,u⟩=>⟨r,bK.mono y u⟩
 |.rref2 _::_,_,_::_,_::_,⟨r,u⟩=>⟨r,bK.mono y u⟩
 |.fn _ _::_,_,_::_,_::_,⟨r,u⟩=>⟨r,bK.mono y u⟩
 |.clo _ _::_,_,_::_,_::_,⟨r,u⟩=>⟨r,bK.mono y u⟩
 |.hol _ _ _::_,_,_::_,_::_,⟨r,u⟩=>⟨r,bK.mono y u⟩
 |[],_,[],[],_=>trivial
 |[],_,_::_,_,h=>by simp[bK]at h
 |[],_,[],_::_,h=>by simp[bK]at h
 |p::_,_,[],_,h=>by cases p <;> exact h.elim
 |p::_,_,_::_,[],h=>by cases p <;> exact h.elim
theorem p6.mono {w:World}{G G' ro ro':Nat->Prop}(I:∀ k,G k->G' k)(O:∀ k,G k\/ro k->G' k\/ro' k):∀ {r:RK} {y:r.den} {v:Value} {bs:List Nat},p6 w G ro r y v bs->p6 w G' ro' r y v bs
 |.v _,_,_,_,⟨H,u,z⟩=>⟨H,u,z.mono I⟩
 |.bv _,_,_,_,⟨e,H,u,z⟩=>⟨e,H,u,z.mono O⟩
 |.box _,_,_,_,⟨g,c,E,M,u,z,R,J⟩=>⟨g,c,E,M,u,z,R.mono I,J⟩
theorem gz.mono {w:World}{G G' ro ro':Nat->Prop}(M:∀ k,G k->G' k)(J:∀ k,G k\/ro k->G' k\/ro' k):∀ {H:List RK} {y:ai H} {us:List Value} {z:List (List Nat)},gz w G ro H y us z->gz w G' ro' H y us z
 |[],_,_,_,h=>h
 |_::_,_,_,_,⟨u,I,b,r,X,O,R,Y⟩=>⟨u,I,b,r,X,O,R.mono M J,gz.mono M J Y⟩
theorem bP.thin {P:Program}{f:FuncId}{a a':Ty}{ps:List PK}{rs:List RK}{fr:Bool}{b0:ab (.own a::ps)->Option (ai rs×ah (.own a::ps))}{R:ab (.own a'::ps)->Option (ai rs×ah (.own a'::ps))}
  (h:bP P ⟨f,.own a::ps,rs,fr,b0⟩) (ht:cD a' a=true) (cv:a'.den->a.den) (bn:∀ x,HEq x (cv x)) (hd:∀ x,R x=b0 (cv x.1,x.2)):bP P ⟨f,.own a'::ps,rs,fr,R⟩:=by
 refine⟨h.1,λw ro x vs c3 y a0 a5 a9 hy=>?_⟩;obtain⟨x1,xr⟩:=x;obtain⟨v,ad,b,u,rfl,rfl,⟨cs,ba,hm⟩,a1⟩:=a0;obtain⟨O,Y,M,bx⟩:=Mx.thin ht (bn x1) hm;have a2:=hm.lt;rw[br]at a9;have X:∀ k,O.count k+Y.count k+u.flatten.count k<=1:=λk=>by
  have:=a9 k;rw[BX,BF,M k]at this;exact this
 have hb:∀ k,k∈b<->k∈O\/k∈Y:=λk=>by
  rw[<- BK,<- BK,<- BK,M k];omega
 have H:∀ k,k∈(O::u).flatten->k∈(b::u).flatten:=λk r=>by
  rw[BX,BL]at r ⊢;exact r.imp (λh=>(hb k).2 (.inl h)) id
 have a6:∀ k,k∈Y->k∉(O::u).flatten:=λk r z=>by
  have h1:=X k;have h2:=BK.2 r;have h3:=BK.2 z;rw[BX,BF]at h3;omega
 have a3:∀ k,k∈Y->k∈(b::u).flatten:=λk r=>by
  rw[BX,BL];exact .inl ((hb k).2 (.inr r))
 have J:c9 P w (λk=>ro k\/k∈Y) (λk=>k<w.heap.size/\k∉(O::u).flatten) (.own a::ps) (cv x1,xr) (v::ad) (O::u) :=
  ⟨v,ad,O,u,rfl,rfl,⟨cs,by rw[<- zh ht];exact ba,bx⟩,a1.mono (λ_=>.inl) (λk r=>⟨r.1,λh=>r.2 (H k h)⟩)⟩
 refine (h.2 w _ _ _ _ y J (λk r=>?_) ?_ (by rw[<- hy];exact (hd (x1,xr)).symm)).mono λe w' hp=>?_
 ·rcases r with r|r
  ·exact⟨(a5 k r).1,λh=>(a5 k r).2 (H k h)⟩
  ·exact⟨a2 k ((hb k).2 (.inr r)),a6 k r⟩
 ·rw[br];intro k;have:=X k;show ((O::u).flatten).count k<=1;rw[BX,BF];omega
 ·obtain⟨v',us,N,Z,c0,h1,b9,a4,c2,c1,bl,bb,hN,hO,b5,b4,I⟩:=hp;have hG:∀ k,(N k\/fr=false/\(ro k\/k∈Y))->((N k\/k∈Y)\/fr=false/\ro k):=λk r=>by
   rcases r with r|⟨r,z|z⟩
   ·exact .inl (.inl r)
   ·exact .inr ⟨r,z⟩
   ·exact .inl (.inr z)
  refine⟨v',us,λk=>N k\/k∈Y,Z,c0,h1,b9,a4,c2,c1,bl,λk r hn=>bb k r (λh=>hn (H k h)),λk r=>?_,?_,?_,b4,λk r=>?_⟩
  ·rcases r with r|r
   ·exact⟨(hN k r).1,(hN k r).2.imp id (H k)⟩
   ·exact⟨CK (a2 k ((hb k).2 (.inr r))) a4,.inr (a3 k r)⟩
  ·match Z,hO with
   |b3::Z,hO=>exact⟨hO.1,bK.mono hG hO.2⟩
   |[],hO=>exact hO.elim
  ·refine gz.mono hG (λk r=>?_) b5;rcases r with r|r|r
   ·exact .inl (hG k r)
   ·exact .inr r
   ·exact .inl (.inl (.inr r))
  ·obtain⟨h5,h6⟩:=I k r;refine⟨⟨h5.1,h5.2.imp id (H k)⟩,λh=>h.elim h6 (λh=>?_)⟩;rcases h5.2 with h7|h7
   ·have:=a2 k ((hb k).2 (.inr h));omega
   ·exact a6 k h h7
end Go.Proofs.YtadlacffdemoiaaGreatEv
