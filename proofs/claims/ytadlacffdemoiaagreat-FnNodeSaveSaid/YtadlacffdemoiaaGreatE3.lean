/- One operation: boxes made, boxes written. -/
import Derived.Test.YtadlacffdemoiaaGreatE0
import Derived.Deep.MidRow
import Derived.Great.FillDense
set_option linter.unusedVariables false
set_option linter.unusedSimpArgs false
open Array renaming toArray_toList->CW,length_toList->Ca,getElem?_toList->DP,toList_append->DW,size_append->De,toList_map->Dn,ext'->D1
open Bool renaming and_eq_true->B5,not_eq_true'->CR,or_eq_false_iff->DU,or_eq_true->Dw
open Go.Addr.mk renaming injEq->DB
open Go.Builtin renaming append_->Cb,firstCells->C8,lenOf->DC,zeroCells->Dj
open Go.Instr renaming sliceBounds->Dh,storeAt->D3
open Go.Result renaming andThen_ok->C9
open Go.Sem renaming run_bind->Dd
open Go.Value renaming ownBlock->CV
open Go.Value.slice renaming injEq->CZ
open Go.World renaming setCells->DQ,alloc_eq->DT,drew_eq->DX,freeze->Df,alloc->Dr,drew->Dz
open Iff renaming rfl->DH
open Int renaming toNat_natCast->Dc
open List renaming getElem?_eq_some_iff->B6,mem_append_right->B7,count_append->B8,getElem?_append_right->B9,getElem?_append_left->CA,mem_append_left->CC,count_pos_iff->CD,mem_append->CE,range->CH,mem_cons_of_mem->CI,append_assoc->CJ,length_append->CK,getElem?_eq_getElem->CL,eq_nil_of_length_eq_zero->CO,mem_cons_self->CP,flatten_cons->CQ,count_eq_zero->CS,append_nil->CT,length_take->CU,any_eq_false->CY,getElem?_take->Ce,getD_eq_getElem?_getD->Cf,nodup_append->Ch,replicate->Cj,nodup_cons->Cl,length_set->Cm,flatMap_cons->Co,getElem?_set_ne->Cp,mem_cons->Cs,getElem?_drop->Ct,getElem?_cons_zero->Cu,getElem?_replicate->Cv,size_toArray->Cw,getElem?_set_self->Cx,any_cons->C0,length_nil->C3,length_map->C4,length_drop->DD,length_cons->DE,mem_map->DK,count_cons->DL,singleton_append->DN,length_replicate->DO,mem_range->DR,all_cons->DY,map_nil->Db,map_map->Dg,isEmpty_iff->Dk,flatMap_map->Dl,cons_append->Do,length->Ds,map_append->Dt,nil_append->Dx,nodup_nil->Dy,take_left->D0,map_cons->D4
open List.cons renaming injEq->C5
open Nat renaming eq_of_beq_eq_true->CB,lt_succ_self->CF,mul_le_mul_right->CG,beq->CM,le_refl->CN,succ_mul->Cc,add_zero->Cg,le_trans->Ci,lt_of_lt_of_le->Ck,le_of_ble_eq_true->Cn,zero_add->Cr,ble_eq_true_of_le->Cy,le_add_right->Cz,mul_le_mul_left->C6,blt_eq->C7,add_mul->DA,le_of_eq->DF,ble->DG,mul_comm->DI,sub_zero->DJ,mul_one->DS,blt->DV,eq_zero_or_pos->Da,zero_mul->Di,mod_eq_of_lt->Dm,le_succ->Dp,zero_le->Dq,mul_add_mod->Du,add_assoc->D2
open Ne renaming symm->Cq
open Option renaming map_eq_some_iff->B4,bind_eq_some_iff->CX,map_none->DM,toList_some->DZ,map_some->Dv
open Option.some renaming injEq->B3
open Prod renaming ext->D5
open Prod.mk renaming injEq->Cd
namespace Go.Proofs.YtadlacffdemoiaaGreatEv
open Go Go.RowKit
section
variable {P:Program} {V:Env} {Γ:List Ctr} {T:TypeId->TI} {st:St} {o:Oper} {R:Type} {κ:Upd->Option R} {r:R}
theorem nn {q u:Nat}(h:q≠u)(c y:bX)(st:St):ac [(q,c)] (ac [(u,y)] st)=ac [(u,y)] (ac [(q,c)] st):=by
 funext k;rcases ak q k c (ac [(u,y)] st) with ⟨rfl,e⟩|⟨H,e⟩
 ·rw[e,aJ h,bo]
 ·rw[e];rcases ak u k y st with ⟨rfl,z⟩|⟨I,z⟩
  ·rw[z,bo]
  ·rw[z,aJ I,aJ H]
theorem ap.boxed (hV:ay V){W:Wit}{a:Act}{w:World}(h:ap P V W st a w)(d:Nat)(hd:d<V.nt)(X:∀ x∈V.fixt,x.1≠d)(O:(st (B0+d)).sh=.off)(ls:List Leaf)
  (y:List Value) (z:Nat->List Nat) (E:TypeId)
  (hl:ls.length=y.length) (h1:∀ u∈y,u.oneCell'=true)
  (H:∀ (j:Nat) (l:Leaf) (u:Value),ls[j]?=some l->y[j]?=some u->aK P V W st w (z j) l u)
  (M:∀ (j:Nat) (l:Leaf),ls[j]?=some l->ao l->∀ k∈z j,¬ W.nw k/\¬ V.prot k/\k<w.heap.size/\(∀ b,live st b->W.β b≠k) /\
   ∀ (Y Z:Nat) (l1:Leaf),(st Y).ls[Z]?=some l1->ao l1->k∉W.bs Y Z)
  (I:∀ (j j':Nat) (l l':Leaf),ls[j]?=some l->ao l->ls[j']?=some l'->ao l'->∀ k,k∈z j->k∈z j'->j=j') :
  Rel P V (ac ((B0+d,⟨(st (B0+d)).ver+1,.agg,ls⟩)::[(d,⟨(st d).ver+1,.one,[.bp (B0+d) 0]⟩)]) st) (a.put (some d) (.pointer (some ⟨w.heap.size,0,none⟩))) (w.alloc (.cells y.toArray E)):=by
 have J:B0+d≠d:=by simp[B0]
 have a0:¬ live st (B0+d):=by simp[live,O]
 have h2:=h.setBox hV (B0+d) (Cz _ _) ((st (B0+d)).ver+1) ls y z w.heap.size E (w':=w.alloc (.cells y.toArray E)) (CF _) (.inr ⟨a0,CN _⟩)
  (heap_alloc_new w _) (λk hk _=>Go.heap_alloc_old w _ hk) (by simp) rfl rfl rfl hl h1 H (λj l hj ho k hk=>by
   obtain⟨h3,h4,h5,h6,h7⟩:=M j l hj ho k hk;exact⟨h3,h4,h5,h6,λY Z l1 _=>h7 Y Z l1⟩) I
 rw[aP,nn J];refine h2.putLs hV d hd X _ .one [.bp (B0+d) 0] _ [.pointer (some ⟨w.heap.size,0,none⟩)] ?_ rfl ⟨⟨⟨Cz _ _,by rw[bo],by simp⟩,id,rfl⟩,trivial⟩;rw[aJ (Cq J)];omega
theorem uS {t:TypeId}(I:TOk P T)(y:(T t).cells≠0)(w:World):∃ z H,(zeroValue t).run P w=.ok z w/\z.cells=H.toArray/\∀ (V:Env) (W:Wit) (st:St),aD P V W st w (T t).zero H:=by
 have h:=I t;cases u:T t with
 |none=>rw[u]at y;exact absurd rfl y
 |int k=>rw[u]at h;exact⟨_,[.int k 0],gD h.2.2 w,rfl,λV W st=>⟨⟨rfl,id,rfl⟩,trivial⟩⟩
 |bool=>rw[u]at h;exact⟨_,[.bool false],gD h.2.2 w,rfl,λV W st=>⟨⟨rfl,id,rfl⟩,trivial⟩⟩
 |str=>rw[u]at h;exact⟨_,[.string ByteArray.empty],gD h.2.2 w,rfl,λV W st=>⟨⟨rfl,id,rfl⟩,trivial⟩⟩
 |slice E e b=>rw[u]at h;exact⟨_,[.slice none 0 0],gD h.2.2.1 w,rfl,λV W st=>⟨⟨rfl,id,rfl⟩,trivial⟩⟩
 |struct a J=>rw[u]at h;exact⟨_,zeroCells a,gD h.2.2.1 w,rfl,λV W st=>lR a⟩
 |arr e n=>rw[u]at h;exact⟨_,(Cj n (zeroCells e)).flatten,gD h.2.2.2 w,rfl,λV W st=>o9 e n⟩
 |ptr=>rw[u]at h;exact⟨_,[.pointer none],gD h.2.2 w,rfl,λV W st=>⟨⟨trivial,id,rfl⟩,trivial⟩⟩
 |fn=>rw[u]at h;exact⟨_,[.nilFunc],gD h.2.2 w,rfl,λV W st=>⟨⟨trivial,id,rfl⟩,trivial⟩⟩
theorem yu (hV:ay V)(hT:TOk P T)(H:bU V o){t:TypeId}(J:o.op=.alloc t)(h:act Γ T o st κ=some r):b8 P V o st κ r:=by
 simp only[act,J]at h;split at h
 ·rename_i d O;cases y:decide ((st (B0+d)).sh=.off)&&!decide ((T t).cells=0) with
  |false=>simp[y]at h
  |true =>
   simp only[y]at h;simp at y;refine⟨_,h,λW a w Z next Q hn=>?_⟩;obtain⟨z,X,hz,hc,I⟩:=uS hT y.2 w;have I:=I V W st;refine eh (v:=.pointer (some ⟨w.heap.size,0,none⟩)) (w':=w.alloc (.cells X.toArray t)) ?_ ?_
   ·simp[execOp,J,Instr.alloc,hz,newVar,newRow,hc]
   ·rw[O];refine hn _ _ ?_;exact Z.boxed hV d (H d O).1 (H d O).2 y.1 _ X (λ_=>[]) t I.length I.one' (λj l u Y h2=>(I.at_ j l u Y h2).1) (λ_ _ _ _ k M=>by simp at M) (λ_ _ _ _ _ _ _ _ k M=>by simp at M)
 ·grind
theorem AV (hV:ay V)(I:bU V o){t:TypeId}{x:Operand}(a0:o.op=.box t x)(h:act Γ T o st κ=some r):b8 P V o st κ r:=by
 simp only[act,a0]at h;split at h
 ·rename_i d O;cases hb:decide ((st (B0+d)).sh=.off)&&decide ((au st x).2.length=(T t).cells)&&decide ((au st x).1=bm (T t).agg)&&iz st (au st x).2 with
  |false=>simp[hb]at h
  |true =>
   simp only[hb]at h;simp at hb;obtain⟨⟨⟨Z,a2⟩,a1⟩,Y⟩:=hb;have J:∀ (W:Wit) (a:Act) (w:World) (H:List Value),ey (au st x).1 (a.eval x) H->aD P V W st w (au st x).2 H ->
     (execOp a.eval o).run P w=.ok (.value (.pointer (some ⟨w.heap.size,0,none⟩))) (w.alloc (.cells H.toArray t)):=by
    intro W a w H X z;rw[a1]at X;have hc:=il X z.one';simp[execOp,a0,Instr.box,newVar,newRow,hc]
   cases y:sP st x with
   |true =>
    rw[y]at h;refine⟨_,h,λW a w M next Q hn=>?_⟩;obtain⟨H,X,z⟩:=c8 M x;refine eh (J W a w H X z) ?_;rw[O];refine hn _ _ ?_;exact M.boxed hV d (I d O).1 (I d O).2 Z _ H (λ_=>[]) t z.length z.one' (λj l u h1 h2=>(z.at_ j l u h1 h2).1) (λ_ _ _ _ k hk=>by simp at hk) (λ_ _ _ _ _ _ _ _ k hk=>by simp at hk)
   |false =>
    rw[y]at h;refine⟨_,h,λW a w M next Q hn=>?_⟩;obtain⟨H,X,z⟩:=c8 M x;obtain⟨h1,h2,h3,h4,h5⟩:=o7 hV M z Y;have h6:=z9 hV M z Y;refine eh (J W a w H X z) ?_;rw[O];refine hn _ _ ?_;have:=h1.boxed hV d (I d O).1 (I d O).2 (by rw[(h6 _).1];exact Z) _ H (dA W (au st x).2) t h2 z.one' h3 h4 h5;exact this
 ·grind
theorem kd (b:Nat)(E:TypeId):∀ (u:List Value) (k o:Nat) (w:World) (cur:Array Value) {mk:Nat×Nat},w.heap[b]?=some (.cells cur E mk) ->
  (w.setCells b (o+k) u).heap[b]?=some (.cells ((u.zipIdx k).foldl (λy (x:Value×Nat)=>y.setIfInBounds (o+x.2) x.1) cur) E mk)
 |[],_,_,_,_,_,h=>h
 |v::u,k,o,w,cur,mk,h=>by
  have:=kd b E u (k+1) o (w.setCell ⟨b,o+k,none⟩ v) _ (by rw[setCell_eq_setRow w b (o+k) cur E mk v h];exact setRow_heap w b cur _ E mk h);simpa[DQ,D2]using this
theorem eY (b:Nat):∀ (u:List Value) (o:Nat) (w:World) (k:Nat),k≠b->(w.setCells b o u).heap[k]?=w.heap[k]?
 |[],_,_,_,_=>rfl
 |v::u,o,w,k,h=>by
  rw[DQ,eY b u (o+1) _ k h];exact heap_setCell_other w ⟨b,o,none⟩ k v h
theorem ke (b:Nat):∀ (u:List Value) (o:Nat) (w:World),(w.setCells b o u).os=w.os/\(w.setCells b o u).tape=w.tape/\(w.setCells b o u).output=w.output/\(w.setCells b o u).heap.size=w.heap.size
 |[],_,_=>⟨rfl,rfl,rfl,rfl⟩
 |v::u,o,w=>by
  obtain⟨y,z,H,I⟩:=ke b u (o+1) (w.setCell ⟨b,o,none⟩ v);exact⟨y,z,H,by rw[DQ,I];simp⟩
theorem nq {t:TypeId}{n:Nat}(I:bW P t n){w:World}{b off:Nat}{cur:List Value}{E:TypeId}{mk:Nat×Nat}(J:w.heap[b]?=some (.cells cur.toArray E mk))(z:mk.2=0\/cur.length<=mk.1){v:Value}{cs:List Value}
  (Z:v.cells=cs.toArray) (X:cs.length=n) (M:∀ u∈cs,u.oneCell'=true) (O:off+cs.length<=cur.length) :
  (D3 t (.pointer (some ⟨b,off,none⟩)) v).run P w=.ok () (w.setCells b off cs):=by
 have y:∀ j,j<cs.length->(w.cell? ⟨b,off+j,none⟩).isSome=true:=by
  intro j H;rw[cell_of_row w b _ _ E mk J]
  grind
 have Y:=run_storeCells_cells (P:=P) b off cs 0 w (λj H=>y j H) (λj H=>rB J (by simpa using z) (by simp;omega)) M;have h4:=dE I w;simp[D3,Instr.sureAddr,storeVar,h4,Z,X,Y]
theorem tU (hV:ay V)(hT:TOk P T){t:TypeId}{x y:Operand}{b off:Nat}(b4:o.op=.store t x y)(hd:o.dst=none)(hx:one st x=.bp b off)
  (bn:(au st y).2.length=(T t).cells) (ba:(au st y).1=bm (T t).agg) (ad:(T t).cells≠0) (a9:(st b).sh=.agg) (c0:off+(au st y).2.length<=(st b).ls.length) (a3:iz st (au st y).2=true)
  {W:Wit} {a:Act} {w:World} (hr:ap P V W st a w) :
  mW P V o st ((b,⟨(ac (mvU st (au st y).2) st b).ver+1,.agg,jP (ac (mvU st (au st y).2) st b).ls (dS st (au st y).2) off⟩)::mvU st (au st y).2) a w:=by
 intro next Q hn;obtain⟨I,hs,hl⟩:=c8 hr y;rw[ba]at hs;have hc:=il hs hl.one';obtain⟨h1,h2,h3,h4,h5⟩:=o7 hV hr hl a3;have h6:=z9 hV hr hl a3;obtain⟨hp,_,_,_⟩:=bA hr x (by rw[hx];simp);rw[hx]at hp;obtain⟨hB,_,hv⟩:=hp;have b2:T t≠.none:=by intro e;rw[e]at ad;exact ad rfl
 rcases hr.boxes b hB with ⟨h8,_⟩|⟨_,E,h8⟩
 ·rw[a9]at h8;cases h8
 ·have bb:=hl.length;have c1:=hr.len b;have bx:(ac (mvU st (au st y).2) st b).ls.length=(W.cs b).length:=h1.len b;have a8:off+I.length<=(W.cs b).length:=by omega
  have a7:=nq (o8 (hT t) b2) h8 (.inl rfl) hc (by omega) hl.one' a8;refine pP (w':=w.setCells (W.β b) off I) (by simp[execOp,b4,hv,a7]) ?_;rw[hd];refine hn _ _ ?_;rw[aP];obtain⟨e1,e2,e3,e4⟩:=ke (W.β b) I off w;have a0:=kd (W.β b) E I 0 off w _ h8;rw[lq (W.cs b) I off a8]at a0;simp only[Cg]at a0;have b9:live (ac (mvU st (au st y).2) st) b:=⟨hB,by rw[(h6 b).1];exact a9⟩;have b3:(dS st (au st y).2).length=I.length:=h2;have M:∀ (j:Nat) (l:Leaf),(jP (ac (mvU st (au st y).2) st b).ls (dS st (au st y).2) off)[j]?=some l ->
    (off<=j/\j<off+I.length/\(dS st (au st y).2)[j-off]?=some l)\/((j<off\/off+I.length<=j)/\(ac (mvU st (au st y).2) st b).ls[j]?=some l):=by
   intro j l hj;unfold jP at hj;rw[b3]at hj;by_cases Z:j<off
   ·rw[CJ,CA (by simp;omega),Ce,if_pos Z]at hj;exact .inr ⟨.inl Z,hj⟩
   ·by_cases J:j<off+I.length
    ·rw[CJ,B9 (by simp;omega),CA (by simp;omega)]at hj;refine .inl ⟨by omega,J,?_⟩;rw[<- hj];congr 1;simp;omega
    ·rw[B9 (by simp;omega),Ct]at hj;refine .inr ⟨.inr (by omega),?_⟩;rw[<- hj];congr 1;simp;omega
  have a2:∀ (j:Nat),((W.cs b).take off++I++(W.cs b).drop (off+I.length))[j]?=if off<=j/\j<off+I.length then I[j-off]? else (W.cs b)[j]?:=by
   intro j;by_cases Z:j<off
   ·rw[CJ,CA (by simp;omega),Ce,if_pos Z,if_neg (by omega)]
   ·by_cases J:j<off+I.length
    ·rw[CJ,B9 (by simp;omega),CA (by simp;omega),if_pos ⟨by omega,J⟩];congr 1;simp;omega
    ·rw[B9 (by simp;omega),Ct,if_neg (by omega)];congr 1;simp;omega
  refine⟨_,h1.setBox hV b hB _ _ ((W.cs b).take off++I++(W.cs b).drop (off+I.length)) (λj=>if off<=j/\j<off+I.length then dA W (au st y).2 (j-off) else W.bs b j) (W.β b) E
   (CF _) (.inl ⟨b9,rfl⟩) a0 (λk _ X=>eY (W.β b) I off w k X) (DF e4.symm) e1 e2 e3 ?_ ?_ ?_ ?_ ?_⟩
  ·simp only[jP,CK,CU,DD];omega
  ·intro u hu;simp only[CE]at hu;rcases hu with (hu|hu)|hu
   ·exact hr.one b u (List.mem_of_mem_take hu)
   ·exact hl.one' u hu
   ·exact hr.one b u (List.mem_of_mem_drop hu)
  ·intro j l u hj hu;rw[a2]at hu;rcases M j l hj with ⟨Z,J,H⟩|⟨Z,H⟩
   ·rw[if_pos ⟨Z,J⟩]at hu;simp only[if_pos (⟨Z,J⟩:off<=j/\j<off+I.length)];exact h3 _ l u H hu
   ·have z:¬ (off<=j/\j<off+I.length):=by omega
    rw[if_neg z]at hu;simp only[if_neg z];exact h1.leaf b j l u H hu
  ·intro j l hj ho k X;rcases M j l hj with ⟨Z,J,H⟩|⟨Z,H⟩
   ·simp only[if_pos (⟨Z,J⟩:off<=j/\j<off+I.length)]at X;obtain⟨q1,q2,q3,q4,q5⟩:=h4 _ l H ho k X;exact⟨q1,q2,q3,q4,λr1 j1 l1 _=>q5 r1 j1 l1⟩
   ·have z:¬ (off<=j/\j<off+I.length):=by omega
    simp only[if_neg z]at X;obtain⟨q1,q2,q3⟩:=h1.ownb b j l H ho k X;exact⟨q1,q2,h1.own_lt H ho k X,q3,λr1 j1 l1 b5 b6 b0 bl=>b5 (h1.sep b j l r1 j1 l1 H ho b6 b0 k X bl).1.symm⟩
  ·intro j j' l l' hj ho b1 a1 k X Y;rcases M j l hj with ⟨Z,J,H⟩|⟨Z,H⟩ <;> rcases M j' l' b1 with ⟨a5,a4,O⟩|⟨a5,O⟩
   ·simp only[if_pos (⟨Z,J⟩:off<=j/\j<off+I.length)]at X;simp only[if_pos (⟨a5,a4⟩:off<=j'/\j'<off+I.length)]at Y;have:=h5 _ _ l l' H ho O a1 k X Y;omega
   ·have z:¬ (off<=j'/\j'<off+I.length):=by omega
    simp only[if_pos (⟨Z,J⟩:off<=j/\j<off+I.length)]at X;simp only[if_neg z]at Y;exact absurd Y ((h4 _ l H ho k X).2.2.2.2 b j' l' O a1)
   ·have z:¬ (off<=j/\j<off+I.length):=by omega
    simp only[if_neg z]at X;simp only[if_pos (⟨a5,a4⟩:off<=j'/\j'<off+I.length)]at Y;exact absurd X ((h4 _ l' O a1 k Y).2.2.2.2 b j l H ho)
   ·have z:¬ (off<=j/\j<off+I.length):=by omega
    have a6:¬ (off<=j'/\j'<off+I.length):=by omega
    simp only[if_neg z]at X;simp only[if_neg a6]at Y;exact (h1.sep b j l b j' l' H ho O a1 k X Y).2
end
theorem bB {l:List Nat}:l.Nodup<->∀ k,l.count k<=1:=by
 induction l with
 |nil=>simp
 |cons a l z =>
  rw[Cl,z];constructor
  ·rintro⟨r,u⟩ k;rw[DL];by_cases y:a=k
   ·subst y;have:l.count a=0:=CS.2 r;simp[this]
   ·have:=u k;simp[y,this]
  ·intro h;refine⟨λH=>?_,λk=>?_⟩
   ·have r:=h a;have u:0<l.count a:=CD.2 H;rw[DL]at r;simp at r;omega
   ·have:=h k;rw[DL]at this;omega
theorem qo {n:Nat}(r:Nat->List Nat)(k:Nat):((CH n).flatMap r).count k=((CH n).map λj=>(r j).count k).sum:=by
 generalize CH n=l;induction l with
 |nil=>rfl
 |cons a l u=>simp[B8,u]
theorem kQ {n i:Nat}(H:i<n)(r:Nat->List Nat)(b:List Nat)(k:Nat) :
  ((CH n).flatMap λj=>if j=i then b else r j).count k+(r i).count k=((CH n).flatMap r).count k+b.count k:=by
 rw[qo,qo];induction n with
 |zero=>omega
 |succ n z =>
  rw[List.range_succ];simp only[Dt,D4,Db,List.sum_append,List.sum_cons,List.sum_nil];by_cases u:i=n
  ·subst u;have:(CH i).map (λj=>List.count k (if j=i then b else r j))=(CH i).map λj=>(r j).count k:=by
    refine List.map_congr_left λj y=>?_
    rw[if_neg (by have:=DR.1 y;omega)]
   rw[this,if_pos rfl];omega
  ·have:=z (by omega);rw[if_neg (λe=>u e.symm)];omega
theorem nr {bs bs' K:List Nat}(y:bs.Nodup)(z:K.Nodup)(J:∀ k∈K,k∉bs)(h:∀ k,bs'.count k<=bs.count k+K.count k):bs'.Nodup/\∀ k∈bs',k∈bs\/k∈K:=by
 rw[bB]at y z;refine⟨bB.2 λk=>?_,λk r=>?_⟩
 ·have H:=h k;have I:=y k;have u:=z k;by_cases r:k∈K
  ·have:bs.count k=0:=CS.2 (J k r);omega
  ·have:K.count k=0:=CS.2 r;omega
 ·have H:=h k;have I:0<bs'.count k:=CD.2 r;by_cases u:k∈bs
  ·exact .inl u
  ·have:bs.count k=0:=CS.2 u;exact .inr (CD.1 (by omega))
theorem Mx.pos {w:World}{G:Nat->Prop}:∀ {a:Ty} {pos r:Nat} {x:a.den} {cs:List Value} {bs:List Nat},Mx w G a none pos x cs bs->Mx w G a none r x cs bs
 |.int _,_,_,_,_,_,h=>h
 |.bool,_,_,_,_,_,h=>h
 |.str,_,_,_,_,_,h=>h
 |.unit,_,_,_,_,_,h=>h
 |.hdr,_,_,_,_,_,h=>h
 |.pair _ _,_,_,_,_,_,⟨J,y,M,O,u,R,z,I⟩=>⟨J,y,M,O,u,R,Mx.pos z,Mx.pos I⟩
 |.list m E e,_,_,_,_,_,H=>by
  cases m with
  |false=>rw[cB]at H ⊢;exact H
  |true=>rw[bP (by simp)]at H ⊢;exact H
section
variable {P:Program} {V:Env} {W:Wit} {st:St} {w w':World} {a:Act}
theorem Mx.scalar {G:Nat->Prop}{b:Ty}{hol:Option Nat}{pos:Nat}{x:b.den}{cs:List Value}{S:Nat->Prop}(r:b.flat=true)(h:Rd w S b x cs):Mx w G b hol pos x cs []:=Mx.flat r h
theorem lY (h:ap P V W st a w):∀ (b:Ty) (pos:Nat) (ls:List Leaf) (cs:List Value) (t:cS b.den),aD P V W st w ls cs->take st b ls=some t ->
  ∃ J M O,cs=J++M/\ls=O++t.rest/\aD P V W st w O J/\aD P V W st w t.rest M/\Mx w (br V W t.p t.frz) b none pos t.val J (aY W t.kill) /\
   (∀ x∈t.frz,aC st x)/\(∀ x∈t.kill,aC st x)
 |.pair b c,pos,ls,cs,t,H,z=>by
  simp only[take]at z;split at z
  ·rename_i u hb;split at z
   ·rename_i v hc;simp only[B3]at z;subst z;obtain⟨J,M,O,e1,e2,h1,Y,X,h4,h5⟩:=lY h b pos ls cs u H hb;obtain⟨c3,c4,l2,e3,e4,h6,h7,h8,h9,a0⟩:=lY h c (pos+b.cells) u.rest M v Y hc;refine⟨J++c3,c4,O++l2,by rw[e1,e3,CJ],by rw[e2,e4,CJ],h1.append h6,h7,⟨J,c3,_,_,rfl,dU W _ _,?_,?_⟩,?_,?_⟩
    ·refine X.mono λk I=>?_
     rcases I with I|⟨y,hy,I⟩
     ·exact .inl (bZ (by intro h;simp[h]) (λ_ h=>h) k I)
     ·exact .inr ⟨y,CC _ hy,I⟩
    ·refine h8.mono λk I=>?_
     rcases I with I|⟨y,hy,I⟩
     ·exact .inl (bZ (by intro h;simp[h]) (λ_ h=>h) k I)
     ·exact .inr ⟨y,B7 _ hy,I⟩
    ·intro x R;exact (CE.1 R).elim (h4 x) (h9 x)
    ·intro x R;exact (CE.1 R).elim (h5 x) (a0 x)
   ·cases z
  ·cases z
 |.unit,pos,ls,cs,t,H,z=>by
  simp only[take,B3]at z;subst z;exact⟨[],cs,[],rfl,rfl,trivial,H,⟨rfl,rfl⟩,by simp,by simp⟩
 |.list m E e,pos,ls,cs,t,H,z=>by
  cases ls with
  |nil=>simp[take]at z
  |cons l ls =>
   cases cs with
   |nil=>exact H.elim
   |cons v cs =>
    cases m with
    |false =>
     simp only[take,cond_false]at z;split at z
     ·rename_i p xs ha;simp only[B3]at z;subst z;refine⟨[v],cs,[l],rfl,rfl,⟨H.1,trivial⟩,H.2,cB.2 ⟨rfl,kZ h H.1.1 H.1.2.1 ha⟩,λx R=>eC (cs:=[v]) (ls:=[l]) ⟨H.1,trivial⟩ R,by simp⟩
     ·cases z
    |true =>
     simp only[take,cond_true]at z;split at z
     ·rename_i r j n;split at z
      ·rename_i p E' e' xs hd;simp only[B4]at z;obtain⟨ys,hc,rfl⟩:=z;obtain⟨rfl,rfl,rfl⟩:=kb hc;obtain⟨h1,Y,X,h4⟩:=kG h hd H.1.1;refine⟨[v],cs,[_],rfl,rfl,⟨H.1,trivial⟩,H.2,(bP (by simp)).2 ⟨v,rfl,?_⟩,by simp,?_⟩
       ·have:aY W [(r,j)]=W.bs r j:=by simp[aY]
        show OwB w _ none E' e' xs v (aY W [(r,j)]);rw[this];exact Y.2.carry (λk I=>.inl I) (λ_ _=>rfl) (λ_ _=>rfl)
       ·intro x R;simp only[List.mem_singleton]at R;subst R;exact⟨_,X,trivial⟩
      ·cases z
     ·simp only[B3]at z;subst z;have X:v=.slice none 0 0:=H.1.1;refine⟨[v],cs,[_],rfl,rfl,⟨H.1,trivial⟩,H.2,(bP (by simp)).2 ⟨v,rfl,?_⟩,by simp,by simp⟩;rw[X];exact (OwH.nil w _ E e).2
     ·cases z
 |.int k,pos,ls,cs,t,H,z=>take_scalar h (b:=.int k) rfl H z
 |.bool,pos,ls,cs,t,H,z=>take_scalar h (b:=.bool) rfl H z
 |.str,pos,ls,cs,t,H,z=>take_scalar h (b:=.str) rfl H z
 |.hdr,pos,ls,cs,t,H,z=>take_scalar h (b:=.hdr) rfl H z
where
 take_scalar (h:ap P V W st a w) {b:Ty} {pos:Nat} {ls:List Leaf} {cs:List Value} {t:cS b.den} (hf:b.flat=true) (H:aD P V W st w ls cs) (z:(be st b ls).map (λx=>(⟨false,x.2.1,[],[],x.2.2⟩:cS b.den))=some t) :
   ∃ J M O,cs=J++M/\ls=O++t.rest/\aD P V W st w O J/\aD P V W st w t.rest M/\Mx w (br V W t.p t.frz) b none pos t.val J (aY W t.kill) /\
    (∀ x∈t.frz,aC st x)/\(∀ x∈t.kill,aC st x):=by
  simp only[B4]at z;obtain⟨⟨p,x,Z⟩,h1,rfl⟩:=z;obtain⟨J,M,O,e1,e2,Y,X,h4⟩:=k6 h b ls cs p x Z H h1;exact⟨J,M,O,e1,e2,Y,X,Mx.flat hf h4,by simp,by simp⟩
theorem d5 (h:ap P V W st a w){b:Ty}{pos:Nat}{ls:List Leaf}{cs:List Value}{t:cS b.den}(H:aD P V W st w ls cs)(r:co st b ls=some t) :
  Mx w (br V W t.p t.frz) b none pos t.val cs (aY W t.kill)/\(∀ x∈t.frz,aC st x)/\(∀ x∈t.kill,aC st x):=by
 unfold co at r;split at r
 ·rename_i p x f k M;simp only[B3]at r;subst r;obtain⟨X,y,Y,u,Z,R,z,I,O,J⟩:=lY h b pos ls cs _ H M;have:y=[]:=by
   cases y with
   |nil=>rfl
   |cons=>exact z.elim
  subst this;simp only[CT]at u;subst u;exact⟨I,O,J⟩
 ·cases r
theorem ia (h:ap P V W st a w):∀ {ks:List (Nat×Nat)},bc ks=true->(∀ x∈ks,aC st x)->(aY W ks).Nodup
 |[],_,_=>Dy
 |x::ks,M,I=>by
  simp only[bc,B5,CR,CY]at M;have Z:=ia h M.2 (λy H=>I y (CI _ H));show (W.bs x.1 x.2++aY W ks).Nodup;rw[Ch];obtain⟨l,J,z⟩:=I x (CP ..);refine⟨?_,Z,λk Y k' r e=>?_⟩
  ·have hj:x.2<(W.cs x.1).length:=by rw[<- h.len];exact (B6.1 J).1
   have:=h.leaf x.1 x.2 l _ J (CL hj);cases l <;> simp only[ao]at z;exact OwH.nodup this
  ·subst e;obtain⟨y,H,r⟩:=gB.1 r;obtain⟨X,O,u⟩:=I y (CI _ H);obtain⟨R,e2⟩:=h.sep x.1 x.2 l y.1 y.2 X J z O u k Y r;have:=M.1 y H;rw[R,e2]at this;simp at this
theorem kt:∀ {b:Ty} {S J:Nat->Prop} {M:Option Nat} {pos:Nat} {y:b.den} {c:List Value} {q:List Nat},b.flat=true->Mx w S b M pos y c q->Rd w J b y c
 |.int _,_,_,_,_,_,_,_,_,h=>h.1
 |.bool,_,_,_,_,_,_,_,_,h=>h.1
 |.str,_,_,_,_,_,_,_,_,h=>h.1
 |.unit,_,_,_,_,_,_,_,_,h=>h.1
 |.hdr,_,_,_,_,_,_,_,_,h=>h.1
 |.pair _ _,_,_,_,_,_,_,_,r,⟨O,H,R,X,u,Y,z,I⟩=>by
  simp only[Ty.flat,B5]at r;exact⟨O,H,u,kt r.1 z,kt r.2 I⟩
 |.list _ _ _,_,_,_,_,_,_,_,r,_=>by simp[Ty.flat]at r
theorem mC (h:ap P V W st a w){G:Nat->Prop}{off n:Nat}{hol J:Option Nat}(a3:∀ k,off<=k->k<off+n->J≠some k)(Y:∀ k,¬ (off<=k/\k<off+n)->(J=some k<->hol=some k)) :
  ∀ (b:Ty) (pos:Nat) (x:b.den) (ls:List Leaf) (cs:List Value) (t:cS b.den) (R:List Value) (z:List Nat),aD P V W st w ls cs->dm st off n b pos x ls=some t->Mx w G b hol pos x R z ->
  ∃ O c2 c' I,cs=O++c2/\aD P V W st w t.rest c2/\O.length=min (off+n) (pos+b.cells)-max off pos /\
   Mx w (λk=>G k\/br V W t.p t.frz k) b J pos t.val c' I /\
   (∀ i,i<b.cells->c'[i]?=if off<=pos+i/\pos+i<off+n then O[pos+i-max off pos]? else R[i]?) /\
   (∀ k,I.count k<=z.count k+(aY W t.kill).count k)/\(∀ x∈t.frz,aC st x)/\(∀ x∈t.kill,aC st x)
 |.pair b c,pos,x,ls,cs,t,R,z,M,r,⟨d1,d2,b1,b2,e1,e2,a9,b3⟩=>by
  simp only[dm]at r;split at r
  ·rename_i u X;split at r
   ·rename_i v hc;simp only[B3]at r;subst r;obtain⟨O,c2,c',I,f1,f2,f3,f4,f5,f6,f7,f8⟩:=mC h a3 Y b pos x.1 ls cs u d1 b1 M X a9;obtain⟨c3,c4,a7,a1,g1,g2,g3,g4,g5,g6,g7,g8⟩:=mC h a3 Y c (pos+b.cells) x.2 u.rest c2 v d2 b2 f2 hc b3;have b0:=f4.len;have b6:=g4.len;have b4:=a9.len;refine⟨O++c3,c4,c'++a7,I++a1,by rw[f1,g1,CJ],g2,?_,⟨c',a7,I,a1,rfl,rfl,?_,?_⟩,?_,?_,?_,?_⟩
    ·rw[CK,f3,g3];simp only[Ty.cells];omega
    ·refine f4.mono λk H=>?_
     rcases H with H|H|⟨y,hy,H⟩
     ·exact .inl H
     ·exact .inr (.inl (bZ (by intro h;simp[h]) (λ_ h=>h) k H))
     ·exact .inr (.inr ⟨y,CC _ hy,H⟩)
    ·refine g4.mono λk H=>?_
     rcases H with H|H|⟨y,hy,H⟩
     ·exact .inl H
     ·exact .inr (.inl (bZ (by intro h;simp[h]) (λ_ h=>h) k H))
     ·exact .inr (.inr ⟨y,B7 _ hy,H⟩)
    ·intro i hi;simp only[Ty.cells]at hi;rw[e1];by_cases ad:i<b.cells
     ·rw[CA (by omega),f5 i ad];by_cases hr:off<=pos+i/\pos+i<off+n
      ·rw[if_pos hr,if_pos hr,CA (by omega)]
      ·rw[if_neg hr,if_neg hr,CA (by omega)]
     ·rw[B9 (by omega),b0,g5 (i-b.cells) (by omega)];have e3:pos+b.cells+(i-b.cells)=pos+i:=by omega
      rw[e3];by_cases hr:off<=pos+i/\pos+i<off+n
      ·rw[if_pos hr,if_pos hr,B9 (by omega)];congr 1;omega
      ·rw[if_neg hr,if_neg hr,B9 (by omega),b4]
    ·intro k;rw[e2,B8,B8,dU,B8];have:=f6 k;have:=g6 k;omega
    ·intro y hy;exact (CE.1 hy).elim (f7 y) (g7 y)
    ·intro y hy;exact (CE.1 hy).elim (f8 y) (g8 y)
   ·cases r
  ·cases r
 |.unit,pos,x,ls,cs,t,R,z,M,r,hm=>by
  simp only[dm,B3]at r;subst r;refine⟨[],cs,[],[],rfl,M,by simp only[Ty.cells,C3];omega,⟨rfl,rfl⟩,λi hi=>by simp[Ty.cells]at hi,λk=>by simp,by simp,by simp⟩
 |.hdr,pos,x,ls,cs,t,R,z,M,r,hm=>by simp[dm]at r
 |.int k,pos,x,ls,cs,t,R,z,M,r,hm=>put_scalar h (b:=.int k) rfl rfl M r hm
 |.bool,pos,x,ls,cs,t,R,z,M,r,hm=>put_scalar h (b:=.bool) rfl rfl M r hm
 |.str,pos,x,ls,cs,t,R,z,M,r,hm=>put_scalar h (b:=.str) rfl rfl M r hm
 |.list m E e,pos,x,ls,cs,t,R,z,M,r,hm=>by
  simp only[dm]at r;have b5:=hm.len;have e0:(Ty.list m E e).cells=1:=rfl;cases X:DG off pos&&DV pos (off+n) with
  |true =>
   rw[X]at r;simp only[cond_true]at r;simp only[B5,C7]at X;have a8:=Cn X.1;obtain⟨O,c2,l1,e1,e2,h1,h2,h3,h4,h5⟩:=lY h (.list m E e) pos ls cs t M r;have a4:=h3.len;refine⟨O,c2,O,aY W t.kill,e1,h2,by rw[a4];omega,?_,λi hi=>?_,λk=>by omega,h4,h5⟩
   ·have Z:=h3.mono (G':=λk=>G k\/br V W t.p t.frz k) (λk H=>.inr H);cases m with
    |false=>rw[cB]at Z ⊢;exact Z
    |true =>
     rw[bP (by simp)]at Z;rw[bP (a3 pos a8 X.2)];exact Z
   ·rw[if_pos (by omega)];congr 1;omega
  |false =>
   rw[X]at r;simp only[cond_false,B3]at r;subst r;have a5:¬ (off<=pos/\pos<off+n):=by
    rintro⟨h1,h2⟩;have:(DG off pos&&DV pos (off+n))=true:=by
     simp only[B5,C7];exact⟨Cy h1,h2⟩
    rw[X]at this;cases this
   refine⟨[],cs,R,z,rfl,M,by simp only[C3];omega,?_,λi hi=>?_,λk=>by omega,by simp,by simp⟩
   ·have Z:=hm.mono (G':=λk=>G k\/br V W false [] k) (λk H=>.inl H);cases m with
    |false=>rw[cB]at Z ⊢;exact Z
    |true =>
     by_cases hp:hol=some pos
     ·have a2:=(Y pos a5).2 hp;subst hp;subst a2;rw[jq]at Z ⊢;exact Z
     ·have a2:J≠some pos:=λe=>hp ((Y pos a5).1 e)
      rw[bP hp]at Z;rw[bP a2];exact Z
   ·rw[if_neg (by omega)]
where
 put_scalar (h:ap P V W st a w) {b:Ty} {pos:Nat} {x:b.den} {ls:List Leaf} {cs:List Value} {t:cS b.den} {R:List Value} {z:List Nat} (hf:b.flat=true) (h1:b.cells=1) (M:aD P V W st w ls cs)
   (r:(bif DG off pos&&DV pos (off+n) then take st b ls else some ⟨false,x,[],[],ls⟩)=some t) (hm:Mx w G b hol pos x R z) :
   ∃ O c2 c' I,cs=O++c2/\aD P V W st w t.rest c2/\O.length=min (off+n) (pos+b.cells)-max off pos /\
    Mx w (λk=>G k\/br V W t.p t.frz k) b J pos t.val c' I /\
    (∀ i,i<b.cells->c'[i]?=if off<=pos+i/\pos+i<off+n then O[pos+i-max off pos]? else R[i]?) /\
    (∀ k,I.count k<=z.count k+(aY W t.kill).count k)/\(∀ x∈t.frz,aC st x)/\(∀ x∈t.kill,aC st x):=by
  have a0:∀ {S S':Nat->Prop} {hh a6:Option Nat} {y:b.den} {c:List Value} {q:List Nat},Mx w S b hh pos y c q->Mx w S' b a6 pos y c []:=by
   intro S S' hh a6 y c q hq;exact Mx.flat (w:=w) (G:=λ_=>True) hf (kt hf hq)
  cases X:DG off pos&&DV pos (off+n) with
  |true =>
   rw[X]at r;simp only[cond_true]at r;simp only[B5,C7]at X;have a8:=Cn X.1;obtain⟨O,c2,l1,e1,e2,h2,h3,h4,h5,Z⟩:=lY h b pos ls cs t M r;have a4:=h4.len;refine⟨O,c2,O,[],e1,h3,by rw[a4];omega,a0 h4,λi hi=>?_,λk=>by simp,h5,Z⟩;rw[if_pos (by omega)];congr 1;omega
  |false =>
   rw[X]at r;simp only[cond_false,B3]at r;subst r;have a5:¬ (off<=pos/\pos<off+n):=by
    rintro⟨h1,h2⟩;have:(DG off pos&&DV pos (off+n))=true:=by
     simp only[B5,C7];exact⟨Cy h1,h2⟩
    rw[X]at this;cases this
   refine⟨[],cs,R,[],rfl,M,by simp only[C3];omega,a0 hm,λi hi=>?_,λk=>by simp,by simp,by simp⟩;rw[if_neg (by omega)]
end
section
variable {P:Program} {V:Env} {Γ:List Ctr} {T:TypeId->TI} {st st2:St} {o:Oper} {R:Type} {κ:Upd->Option R} {r:R}
def vz (V:Env)(W:Wit)(st:St)(q j k:Nat):Prop :=
 ¬ W.nw k/\¬ V.prot k/\(∀ b,live st b->W.β b≠k)/\∀ (u i:Nat) (l:Leaf),(st u).ls[i]?=some l->ao l->(u,i)≠(q,j)->k∉W.bs u i
structure yw (st st2:St) (q j:Nat) (l':Leaf):Prop where
 sh:∀ r,(st2 r).sh=(st r).sh
 ver:∀ r,(st r).ver<=(st2 r).ver
 epo:(st EPO).ver<(st2 EPO).ver
 len:∀ r,(st2 r).ls.length=(st r).ls.length
 at_:∀ l,(st2 q).ls[j]?=some l->l=l'
 old:∀ r i l,(r,i)≠(q,j)->(st2 r).ls[i]?=some l->(st r).ls[i]?=some l
def Wit.tell (W:Wit)(q j:Nat)(bs:List Nat):Wit:={ W with bs:=λr i=>if (r,i)=(q,j) then bs else W.bs r i }
theorem ap.retell (hV:ay V){W:Wit}{a:Act}{w w':World}(h:ap P V W st a w){q j:Nat}{l l':Leaf}(O:yw st st2 q j l'){v:Value}{bs':List Nat}
  (hl:(st q).ls[j]?=some l) (a6:ao l) (hv:(W.cs q)[j]?=some v) (b2:ao l') (a5:aK P V W st w' bs' l' v)
  (a4:∀ k∈bs',vz V W st q j k)
  (H:∀ k,ck V W st k->k∉W.bs q j->w'.heap[k]?=w.heap[k]?) (a8:w.heap.size<=w'.heap.size) (b1:w'.os=w.os) (ht:w'.tape=w.tape) (ho:w'.output=w.output) :
  ap P V (W.tell q j bs') st2 a w':=by
 have a0:=h.ownb q j _ hl a6;have Y:∀ b,live st2 b<->live st b:=iS O.sh;have a2:∀ {y i:Nat},(y,i)≠(q,j)->(W.tell q j bs').bs y i=W.bs y i:=λh=>if_neg h
 have a3:(W.tell q j bs').bs q j=bs':=if_pos rfl;have ad:∀ (y i:Nat) (l:Leaf),(st2 y).ls[i]?=some l->ao l->(y,i)≠(q,j)->(st y).ls[i]?=some l:=λy i l X _ J=>O.old y i l J X
 have I:cL V W (W.tell q j bs') st st2 w w':=by
  refine⟨λy=>⟨O.ver y,λ_=>rfl⟩,λb hb=>⟨(Y b).2 hb,rfl⟩,λ_ h=>h,λk z=>H k (z.elim .inl (λh=>.inr (.inl h))) (λhm=>?_),λhe=>?_⟩
  ·rcases z with z|z
   ·exact (a0 k hm).1 z
   ·exact (a0 k hm).2.1 z
  ·have:=O.epo;omega
 exact {
  nt:=h.nt,df:=h.df
  slots:=λt b0=>by rw[O.sh];exact h.slots t b0
  boxes:=λb hb=>by
   rw[O.sh];rcases h.boxes b hb with ⟨X,J⟩|⟨X,E0,J⟩
   ·refine .inl ⟨X,CO ?_⟩;rw[O.len,J];rfl
   ·refine .inr ⟨X,E0,?_⟩;show w'.heap[W.β b]?=_;rw[H _ (.inr (.inr (.inl ⟨b,⟨hb,X⟩,rfl⟩))) (λhm=>(a0 _ hm).2.2 b ⟨hb,X⟩ rfl)];exact J
  len:=λy=>by rw[O.len];exact h.len y
  one:=h.one
  leaf:=λy i l1 u X J=>by
   by_cases M:(y,i)=(q,j)
   ·cases M;obtain rfl:=O.at_ l1 X;have J:(W.cs q)[j]?=some u:=J;rw[hv]at J;simp only[B3]at J;subst J;rw[a3];have a7:cL V W (W.tell q j bs') st st2 w' w':=⟨I.ver,I.box,I.nw,λ_ _=>rfl,λhe=>by have:=O.epo;omega⟩;exact a5.carry hV.ro a7 (λ_=>⟨rfl,λ_ _=>rfl⟩)
   ·have h3:=O.old y i l1 M X;rw[a2 M];refine (h.leaf y i l1 u h3 J).carry hV.ro I (λho=>⟨rfl,λk z=>H k (.inr (.inr (.inr ⟨y,i,l1,h3,ho,z⟩))) (λhm=>M ?_)⟩);obtain⟨rfl,rfl⟩:=h.sep y i l1 q j _ h3 ho hl a6 k z hm;rfl
  ownb:=λy i l1 X J k z=>by
   by_cases M:(y,i)=(q,j)
   ·cases M;rw[a3]at z;obtain⟨q1,q2,q3,_⟩:=a4 k z;exact⟨q1,q2,λb hb=>q3 b ((Y b).1 hb)⟩
   ·rw[a2 M]at z;obtain⟨q1,q2,q3⟩:=h.ownb y i l1 (O.old y i l1 M X) J k z;exact⟨q1,q2,λb hb=>q3 b ((Y b).1 hb)⟩
  sep:=λy i l1 r2 i2 l2 X J h3 h4 k z a1=>by
   by_cases M:(y,i)=(q,j) <;> by_cases Z:(r2,i2)=(q,j)
   ·rw[<- Z]at M;cases M;exact⟨rfl,rfl⟩
   ·cases M;rw[a3]at z;rw[a2 Z]at a1;exact absurd a1 ((a4 k z).2.2.2 r2 i2 l2 (O.old r2 i2 l2 Z h3) h4 Z)
   ·cases Z;rw[a3]at a1;rw[a2 M]at z;exact absurd z ((a4 k a1).2.2.2 y i l1 (O.old y i l1 M X) J M)
   ·rw[a2 M]at z;rw[a2 Z]at a1;exact h.sep y i l1 r2 i2 l2 (O.old y i l1 M X) J (O.old r2 i2 l2 Z h3) h4 k z a1
  box:=λb hb=>h.box b ((Y b).1 hb)
  inj:=λb b' hb a9=>h.inj b b' ((Y b).1 hb) ((Y b').1 a9)
  nwlt:=λk z=>⟨Ck (h.nwlt k z).1 a8,(h.nwlt k z).2⟩
  os:=b1.trans h.os,tape:=ht.trans h.tape,output:=ho.trans h.output,size:=Ci h.size a8
  keep:=λk hp=>by
   rw[H k (.inr (.inl hp)) (λhm=>(a0 k hm).2.1 hp)];exact h.keep k hp
  fixb:=λx hx=>⟨(Y _).2 (h.fixb x hx).1,(h.fixb x hx).2⟩
  fixt:=h.fixt }
theorem lg {q:Nat}(st:St):∀ (ks:List (Nat×Nat)),(∀ x∈ks,x.1≠q)->ac (aF st ks) st q=st q
 |[],_=>rfl
 |(r,j)::ks,h=>by
  have e:ac (aF st ((r,j)::ks)) st=ac [(r,gj (ac (aF st ks) st r) j)] (ac (aF st ks) st):=aP _ _ _ _;rw[e,aJ (Cq (h (r,j) (CP ..))),lg st ks (λx u=>h x (CI _ u))]
theorem kR {q:Nat}(st:St):∀ (ks:List (Nat×Nat)),(∀ x∈ks,x.1≠q)->ac (aN st ks) st q=st q
 |[],_=>rfl
 |(r,j)::ks,h=>by
  have e:ac (aN st ((r,j)::ks)) st=ac [(r,gq (ac (aN st ks) st r) j)] (ac (aN st ks) st):=aP _ _ _ _;rw[e,aJ (Cq (h (r,j) (CP ..))),kR st ks (λx u=>h x (CI _ u))]
theorem OwH.store {w:World}{G G':Nat->Prop}{h h':Option (Nat×Nat)}{E:TypeId}{e:Ty}{xs:List e.den}{g len a3:Nat}{bs K:List Nat}(H:OwH w G h E e xs (.slice (some ⟨g,0,none⟩) len a3) bs)
  (hG:∀ k,G k->G' k) (a9:¬ G' g) (hK:K.Nodup) (cw:∀ k∈K,k∉bs) {i:Nat} {a8 z:e.den} (hi:xs[i]?=some a8) (hh:∀ j,j≠i->cZ h' j=cZ h j) {off:Nat} {cs:List Value} (e1:off+cs.length<=e.cells)
  (J:∀ c0 bx,Mx w G e (cZ h i) 0 a8 c0 bx->∃ c M,Mx w G' e (cZ h' i) 0 z c M/\(∀ k,k<e.cells->c[k]?=if off<=k/\k<off+cs.length then cs[k-off]? else c0[k]?)/\∀ k,M.count k<=bx.count k+K.count k) :
  ∃ b0,OwH (w.setCells g (i*e.cells+off) cs) G' h' E e (xs.set i z) (.slice (some ⟨g,0,none⟩) len a3) b0/\∀ k∈b0,k∈bs\/k∈K:=by
 obtain⟨d1,a1,X,h1,h2,h3⟩:=H;have a5:i<xs.length:=(B6.1 hi).1;obtain⟨c0,ba,cb⟩:=h3 i a8 hi;obtain⟨c,M,hm,cy,b3⟩:=J c0 (X i) ba;have cp:=h1.1;rcases h1.2 with ⟨h4,_⟩|⟨g',d3,y,mk,h4,hg,bn,c1,cu,a7⟩
 ·simp at h4
 ·simp only[CZ,B3,DB,and_true,true_and]at h4;obtain⟨rfl,rfl,rfl⟩:=h4;have dc:g∈bs:=by rw[h2];simp[CV]
  have d2:=ba.len;have cx:=hm.len;have b1:(i+1)*e.cells<=xs.length*e.cells:=CG _ a5;rw[Cc]at b1;have dd:xs.length*e.cells<=a3*e.cells:=CG _ bn;have c2:y.toList.length=y.size:=by rw[Ca]
  have b9:a1=y.toList.take (xs.length*e.cells):=a7.symm;have J:=kd g E cs 0 (i*e.cells+off) w y hg;have bb:=lq y.toList cs (i*e.cells+off) (by omega);rw[CW]at bb;rw[bb]at J;simp only[Cg]at J;have a0:∀ k,k<xs.length*e.cells->(y.toList.take (i*e.cells+off)++cs++y.toList.drop (i*e.cells+off+cs.length))[k]? =
    if i*e.cells+off<=k/\k<i*e.cells+off+cs.length then cs[k-(i*e.cells+off)]? else a1[k]?:=by
   intro k Y;have b4:a1[k]?=y.toList[k]?:=by rw[b9,Ce,if_pos Y]
   by_cases h9:k<i*e.cells+off
   ·rw[CJ,CA (by simp only[CU];omega),Ce,if_pos h9,if_neg (by omega),b4]
   ·by_cases c3:k<i*e.cells+off+cs.length
    ·rw[CJ,B9 (by simp only[CU];omega),CA (by simp only[CU];omega),if_pos ⟨by omega,c3⟩];congr 1;simp only[CU];omega
    ·rw[B9 (by simp only[CU,CK];omega),Ct,if_neg (by omega),b4];congr 1;simp only[CU,CK];omega
  have O:(y.toList.take (i*e.cells+off)++cs++y.toList.drop (i*e.cells+off+cs.length)).length=y.size:=by
   simp only[CK,CU,DD];omega
  have a2:∀ k,([g]++(CH xs.length).flatMap λj=>if j=i then M else X j).count k<=bs.count k+K.count k:=by
   intro k;have h5:=kQ a5 X M k;have h6:=b3 k;rw[h2];simp only[CV,DZ,B8];omega
  have Z:=nr d1 hK cw a2;have b5:∀ j,j<xs.length->∀ k∈(if j=i then M else X j),k≠g:=by
   intro j hj k Y e0;subst e0;have h7:=Z.1;rw[DN,Cl]at h7;exact h7.1 (ee.2 ⟨j,hj,Y⟩)
  have I:∀ k,k≠g->(w.setCells g (i*e.cells+off) cs).heap[k]?=w.heap[k]?:=λk Y=>eY g cs _ w k Y
  refine⟨[g]++(CH xs.length).flatMap λj=>if j=i then M else X j,⟨Z.1,(y.toList.take (i*e.cells+off)++cs++y.toList.drop (i*e.cells+off+cs.length)).take (xs.length*e.cells),
   λj=>if j=i then M else X j,⟨?_,.inr ⟨g,a3,_,_,?_,J,?_,by rw[Cw,O];exact c1,?_,?_⟩⟩,?_,?_⟩,Z.2⟩
  ·rw[CU,O,Cm];omega
  ·rw[Cm]
  ·rw[Cm];exact bn
  ·rw[Cw,O];exact cu
  ·rw[Cm]
  ·simp[CV]
  ·intro j x hj;rcases aR _ _ _ _ _ hj with ⟨rfl,rfl,_⟩|⟨a4,hj⟩
   ·refine⟨c,?_,λk u hu=>?_⟩
    ·simp only[if_true];exact hm.carry (λ_ h=>h) (λk Y=>I k (λe0=>a9 (e0 ▸ Y))) (λk Y=>I k (b5 j a5 k (by simpa using Y)))
    ·have ad:k<e.cells:=by rw[<- cx];exact (B6.1 hu).1
     rw[Ce,if_pos (by omega),a0 _ (by omega)];rw[cy k ad]at hu;by_cases b2:off<=k/\k<off+cs.length
     ·rw[if_pos b2]at hu;rw[if_pos (by omega),<- hu];congr 1;omega
     ·rw[if_neg b2]at hu;rw[if_neg (by omega)];exact cb k u hu
   ·obtain⟨c',b6,cc⟩:=h3 j x hj;have bl:j<xs.length:=(B6.1 hj).1;refine⟨c',?_,λk u hu=>?_⟩
    ·rw[hh j a4];simp only[if_neg a4];exact b6.carry hG (λk Y=>I k (λe0=>a9 (e0 ▸ hG k Y))) (λk Y=>I k (b5 j bl k (by rw[if_neg a4];exact Y)))
    ·have ad:k<e.cells:=by rw[<- b6.len];exact (B6.1 hu).1
     have c4:(j+1)*e.cells<=xs.length*e.cells:=CG _ bl;rw[Cc]at c4;rw[Ce,if_pos (by omega),a0 _ (by omega),if_neg ?_]
     ·exact cc k u hu
     ·rintro⟨h14,h15⟩;rcases Nat.lt_or_gt_of_ne (λe=>a4 e.symm:i≠j) with a6|a6
      ·have:(i+1)*e.cells<=j*e.cells:=CG _ a6;rw[Cc]at this;omega
      ·have:(j+1)*e.cells<=i*e.cells:=CG _ a6;rw[Cc]at this;omega
theorem yx (hV:ay V)(hT:TOk P T){t:TypeId}{x y:Operand}(b4:o.op=.store t x y)(h:act Γ T o st κ=some r):b8 P V o st κ r:=by
  simp only[act,wrU,b4]at h;split at h
  · cases h
  · rename_i hd
    cases hb:CM (au st y).2.length (T t).cells&&decide ((au st y).1=bm (T t).agg)&&!decide ((T t).cells=0) with
    |false=>simp[hb]at h
    |true =>
      simp only[hb,cond_true]at h;simp only[B5,decide_eq_true_eq,CR,decide_eq_false_iff_not]at hb;obtain⟨⟨b1,cy⟩,b5⟩:=hb;have b1:=CB b1;split at h
      · rename_i b off hx
        cases Y:decide ((st b).sh=.agg)&&decide (off+(au st y).2.length<=(st b).ls.length)&&iz st (au st y).2 with
        |false=>simp[Y]at h
        |true =>
          simp only[Y,cond_true]at h;simp only[B5,decide_eq_true_eq]at Y;exact⟨_,h,λW a w hr=>tU hV hT b4 hd hx b1 cy b5 Y.1.1 Y.1.2 Y.2 hr⟩
      · rename_i z j fl i sz off hx
        split at h
        · rename_i p hh E e xs ej
          cases Y:CM sz e.cells&&decide (off+(au st y).2.length<=e.cells)&&sC z with
          |false=>simp[Y]at h
          |true =>
            simp only[Y,cond_true]at h;simp only[B5,decide_eq_true_eq,sC,CR]at Y;obtain⟨⟨ad,fr⟩,fv,e5⟩:=Y;have ad:=CB ad;subst ad;have ec:z≠EPO:=λe0=>by subst e0;simp at e5
            unfold gX at h;obtain⟨a3,cx,h⟩:=CX.1 h;obtain⟨_,_,h4⟩:=gC cx;simp only[Dc]at h4;split at h
            · rename_i u hu
              cases hq:u.rest.isEmpty&&bc u.kill&&dN u.frz u.kill&&!((u.kill++u.frz).any λk=>CM k.1 z) with
              |false=>rw[hq]at h;cases h
              |true =>
                simp only[hq,cond_true]at h;simp only[B5,CR,CY]at hq;obtain⟨⟨⟨eg,ev⟩,fc⟩,a1⟩:=hq;have a1:∀ k∈u.kill++u.frz,k.1≠z:=λk H e0=>a1 k H (by simp[e0])
                obtain ⟨I, hκ, cu, a4, cb⟩ : ∃ I : Option (Nat × Nat), κ ((z, ⟨(st z).ver, (st z).sh, aT (st z).ls j (.own (p || u.p) I E e (xs.set i u.val))⟩) :: (EPO, b7 (ac (aN (ac (aF st u.frz) st) u.kill ++ aF st u.frz) st EPO)) ::
                      (aN (ac (aF st u.frz) st) u.kill++aF st u.frz))=some r /\
                    (∀ k,off<=k->k<off+(au st y).2.length->cZ I i≠some k)/\(∀ k,¬ (off<=k/\k<off+(au st y).2.length)->(cZ I i=some k<->cZ hh i=some k))/\(∀ j',j'≠i->cZ I j'=cZ hh j'):=by
                  cases hh with
                  |none=>exact⟨none,h,λ_ _ _=>by simp[cZ],λ_ _=>DH,λ_ _=>rfl⟩
                  |some hp =>
                    obtain⟨hi,ho⟩:=hp;simp only at h;cases J:DG off ho&&DV ho (off+(au st y).2.length) with
                    |true =>
                      rw[J]at h;simp only[cond_true]at h;simp only[B5,C7]at J;have dd:=Cn J.1;cases a9:CM i hi with
                      |true =>
                        rw[a9]at h;have h9:=h;have:=CB a9;subst this;refine⟨none,h9,λ_ _ _=>by simp[cZ],λk H=>?_,λj' d3=>?_⟩
                        · simp only[cZ,Nat.beq_refl,cond_true,reduceCtorEq,B3,false_iff]
                          rintro rfl;exact H ⟨dd,J.2⟩
                        · have:CM i j'=false:=by
                            cases fd:CM i j' with
                            |false=>rfl
                            |true=>exact absurd (CB fd).symm d3
                          simp[cZ,this]
                      |false=>rw[a9]at h;cases h
                    |false =>
                      rw[J]at h;refine⟨some (hi,ho),h,λk b9 ef=>?_,λ_ _=>DH,λ_ _=>rfl⟩;simp only[cZ];cases CM hi i with
                      |false=>simp
                      |true =>
                        simp only[cond_true,ne_eq,B3];rintro rfl;have:(DG off ho&&DV ho (off+(au st y).2.length))=true:=by
                          simp only[B5,C7];exact⟨Cy b9,ef⟩
                        rw[J]at this;cases this
                refine⟨_,hκ,λW a w hr next Q hn=>?_⟩;obtain⟨cs,hs,M⟩:=c8 hr y;rw[cy]at hs;have en:=il hs M.one';have bl:=M.length;obtain⟨h5,h6⟩:=fC ej (by simp);obtain⟨hp,_,_,_⟩:=bA hr x (by rw[hx];simp);rw[hx]at hp;obtain⟨g,eb,es,a5,fo,hv⟩:=hp.2 h5;have e7:T t≠.none:=by intro e;rw[e]at b5;exact b5 rfl
                have a0:=hr.leaf z j _ _ h6 a5;have ed:∀ c0 X,Mx w (gd V W p) e (cZ hh i) 0 a3 c0 X->∃ c a2,Mx w (λk=>gd V W p k\/br V W u.p u.frz k) e (cZ I i) 0 u.val c a2 /\
                    (∀ k,k<e.cells->c[k]?=if off<=k/\k<off+cs.length then cs[k-off]? else c0[k]?)/\∀ k,a2.count k<=X.count k+(aY W u.kill).count k:=by
                  intro c0 X hm;obtain⟨c1,c2,c',bs',f1,f2,f3,f4,f5,f6,f7,f8⟩:=mC hr cu a4 e 0 a3 (au st y).2 cs u c0 X M hu hm;have d1:c2=[]:=by
                    have:=f2.length;rw[Dk.1 eg]at this;exact CO this.symm
                  subst d1;rw[CT]at f1;subst f1;refine⟨c',bs',f4,λk H=>?_,f6⟩;rw[f5 k H,bl];simp only[Cr];by_cases J:off<=k/\k<off+cs.length
                  · rw[if_pos J,if_pos J]
                    congr 1;omega
                  · rw[if_neg J,if_neg J]
                have b3:(∀ x∈u.frz,aC st x)/\(∀ x∈u.kill,aC st x):=by
                  obtain⟨_,a7,cw,_,_,cp⟩:=a0;obtain⟨c0,et,_⟩:=cp i a3 h4;obtain⟨_,_,_,_,_,_,_,_,_,_,f7,f8⟩:=mC hr cu a4 e 0 a3 (au st y).2 cs u c0 _ M hu et;exact⟨f7,f8⟩
                obtain⟨k1,k2,k3,k4⟩:=fX hV hr fc b3.2;have O:ac (aN (ac (aF st u.frz) st) u.kill++aF st u.frz) st z=st z:=by
                  rw[bG,kR _ _ (λx hx=>a1 x (CC _ hx)),lg _ _ (λx hx=>a1 x (B7 _ hx))]
                have h7:(ac (aN (ac (aF st u.frz) st) u.kill++aF st u.frz) st z).ls[j]?=some (.own p hh E e xs):=by rw[O];exact h6
                have a6:=k1.ownb z j _ h7 trivial;have bn:∀ k,gd V W p k\/br V W u.p u.frz k->gd V (W.frz st u.frz) (p||u.p) k:=by
                  rintro k (H|H)
                  · exact bZ (W':=W.frz st u.frz) (by intro h;simp[h]) (λ_ h=>Or.inl h) k H
                  · exact bZ (W':=W.frz st u.frz) (by intro h;simp[h]) (λ_ h=>h) k (kI b3.1 k H)
                have b6:g∈W.bs z j:=by obtain⟨_,a7,cw,_,cc,_⟩:=a0;rw[cc];simp[CV]
                have dc:¬ gd V (W.frz st u.frz) (p||u.p) g:=by
                  rintro (H|⟨_,H⟩)
                  · exact (a6 g b6).1 H
                  · exact (a6 g b6).2.1 (hV.ro g H)
                have em:∀ k∈aY W u.kill,k∉W.bs z j:=λk H f0=>(k4 k H).2.2.2.2 z j _ h7 trivial f0
                obtain⟨bs',c3,c4⟩:=OwH.store (G':=gd V (W.frz st u.frz) (p||u.p)) (h':=I) a0 (λk H=>bn k (.inl H)) dc (ia hr ev b3.2) em h4 cb (off:=off) (cs:=cs) (by omega)
                  (λc0 X hm=>by
                    obtain⟨c,a2,q1,q2,q3⟩:=ed c0 X hm;exact⟨c,a2,q1.mono bn,q2,q3⟩)
                obtain⟨_,a7,cw,ho,cc,_⟩:=a0;have d2:eb=xs.length:=by
                  obtain⟨A,bx,e0,_⟩:=ho.slice;simp only[CZ]at e0;exact e0.2.1
                subst d2;rcases ho.2 with ⟨h8,_⟩|⟨g',bx,cur,mk,h8,hg,ex,e6,fx,_⟩
                · simp at h8
                · simp only[CZ,B3,DB,and_true,true_and]at h8
                  obtain⟨rfl,rfl⟩:=h8;have ba:(i+1)*e.cells<=xs.length*e.cells:=CG _ (B6.1 h4).1;rw[Cc]at ba;have fi:xs.length*e.cells<=es*e.cells:=CG _ ex;have b0:cur.toList.length=cur.size:=by rw[Ca]
                  have bb:=nq (P:=P) (o8 (hT t) e7) (w:=w) (b:=g) (off:=i*e.cells+off) (cur:=cur.toList) (E:=E) (by rw[CW];exact hg) (by rw[b0];exact z8 e6) en (by omega) M.one' (by omega);refine pP (w':=w.setCells g (i*e.cells+off) cs) (by simp[execOp,b4,hv,bb]) ?_;rw[hd];refine hn _ _ ?_;obtain⟨e1,e2,e3,e4⟩:=ke g cs (i*e.cells+off) w;refine⟨_,k1.retell hV (l':=.own (p||u.p) I E e (xs.set i u.val)) (w':=w.setCells g (i*e.cells+off) cs) (bs':=bs') ?_ h7 trivial a5 trivial c3 (λk H=>?_) (λk _ H=>eY g cs _ w k (λe=>H (e ▸ b6))) (DF e4.symm) e1 e2 e3⟩
                  · rw[aP z,aP EPO]
                    have Z:EPO≠z:=Cq ec;generalize aN (ac (aF st u.frz) st) u.kill++aF st u.frz=U at O ⊢;refine⟨λq=>?_,λq=>?_,?_,λq=>?_,λl M=>?_,λq i' l hq M=>?_⟩
                    · rcases ak z q ⟨(st z).ver,(st z).sh,aT (st z).ls j (.own (p||u.p) I E e (xs.set i u.val))⟩ (ac [(EPO,b7 (ac U st EPO))] (ac U st)) with ⟨rfl,e⟩ | ⟨_,e⟩
                      · rw[e,O]
                      · rw[e]
                        rcases ak EPO q (b7 (ac U st EPO)) (ac U st) with ⟨rfl,e⟩|⟨_,e⟩ <;> rw[e];rfl
                    · rcases ak z q ⟨(st z).ver,(st z).sh,aT (st z).ls j (.own (p||u.p) I E e (xs.set i u.val))⟩ (ac [(EPO,b7 (ac U st EPO))] (ac U st)) with ⟨rfl,e⟩ | ⟨_,e⟩
                      · rw[e,O];exact CN _
                      · rw[e]
                        rcases ak EPO q (b7 (ac U st EPO)) (ac U st) with ⟨rfl,e⟩|⟨_,e⟩ <;> rw[e]
                        · exact Dp _
                        · exact CN _
                    · rw[aJ Z,bo];exact CF _
                    · rcases ak z q ⟨(st z).ver,(st z).sh,aT (st z).ls j (.own (p||u.p) I E e (xs.set i u.val))⟩ (ac [(EPO,b7 (ac U st EPO))] (ac U st)) with ⟨rfl,e⟩ | ⟨_,e⟩
                      · rw[e,O];simp[aT]
                      · rw[e]
                        rcases ak EPO q (b7 (ac U st EPO)) (ac U st) with ⟨rfl,e⟩|⟨_,e⟩ <;> rw[e];rfl
                    · rw[bo]at M
                      rcases aR _ _ _ _ _ M with ⟨_,rfl,_⟩|⟨Z,_⟩
                      · rfl
                      · exact absurd rfl Z
                    · rcases ak z q ⟨(st z).ver,(st z).sh,aT (st z).ls j (.own (p||u.p) I E e (xs.set i u.val))⟩ (ac [(EPO,b7 (ac U st EPO))] (ac U st)) with ⟨rfl,e⟩ | ⟨_,e⟩
                      · rw[e]at M
                        rw[O];rcases aR _ _ _ _ _ M with ⟨rfl,_,_⟩|⟨_,M⟩
                        · exact absurd rfl hq
                        · exact M
                      · rw[e]at M
                        rcases ak EPO q (b7 (ac U st EPO)) (ac U st) with ⟨rfl,e⟩|⟨_,e⟩ <;> rw[e]at M <;> exact M
                  · rcases c4 k H with H|H
                    · have h9:=k1.ownb z j _ h7 trivial k H
                      exact⟨h9.1,h9.2.1,h9.2.2,λr1 i1 l1 b2 a8 Z b9=>Z (by obtain⟨e1,e2⟩:=k1.sep r1 i1 l1 z j _ b2 a8 h7 trivial k b9 H;rw[e1,e2])⟩
                    · have h9:=k4 k H
                      exact⟨h9.1,h9.2.1,h9.2.2.2.1,λr1 i1 l1 b2 a8 _=>h9.2.2.2.2 r1 i1 l1 b2 a8⟩
            · cases h
        · cases h
      · cases h
end
section
variable {P:Program} {V:Env} {Γ:List Ctr} {T:TypeId->TI} {st:St} {o:Oper} {R:Type} {κ:Upd->Option R} {r:R}
theorem ap.putOwn (X:ay V){W:Wit}{a:Act}{w w':World}(h:ap P V W st a w)(O:w.heap.size<=w'.heap.size)(M:w'.os=w.os)(ht:w'.tape=w.tape)(ho:w'.output=w.output)
  (hk:∀ k,ck V W st k->w'.heap[k]?=w.heap[k]?) (d:Nat) (hd:d<V.nt) (z:∀ x∈V.fixt,x.1≠d) (n:Nat) (hn:(st d).ver<n) {p:Bool} {E:TypeId} {e:Ty} {xs:List e.den} {v:Value} {bs:List Nat}
  (Z:Ow w' (gd V W p) E e xs v bs) (hb:∀ k∈bs,¬ ck V W st k):Rel P V (ac [(d,⟨n,.one,[.own p none E e xs]⟩)] st) (a.put (some d) v) w':=by
 refine⟨_,(h.world X O M ht ho hk).put X d hd z n .one [.own p none E e xs] v [v] (λ_=>bs) hn rfl rfl (λu Y=>by simp at Y;subst Y;exact Z.one) ?_ ?_ ?_⟩
 ·intro j l u y H;cases j with
  |zero=>simp at y H;subst y;subst H;exact Z
  |succ j=>simp at y
 ·intro j l y H k J;have:=hb k J;simp only[ck,not_or,not_exists,not_and]at this;exact⟨this.1,this.2.1,this.2.2.1,λr1 j1 l1 _ I h4=>this.2.2.2 r1 j1 l1 I h4⟩
 ·intro j j' l l' y H I h4 k h5 h6;have h7:j<1:=(B6.1 y).1;have h8:j'<1:=(B6.1 I).1;omega
theorem d7 {W:Wit}{p q:Bool}{H y:List (Nat×Nat)}:(∀ k,br V W p H k->br V W (p||q) (H++y) k)/\(∀ k,br V W q y k->br V W (p||q) (H++y) k):=by
 constructor
 ·rintro k (u|⟨x,z,u⟩)
  ·exact .inl (bZ (W':=W) (by intro h;simp[h]) (λ_ h=>h) k u)
  ·exact .inr ⟨x,CC _ z,u⟩
 ·rintro k (u|⟨x,z,u⟩)
  ·exact .inl (bZ (W':=W) (by intro h;simp[h]) (λ_ h=>h) k u)
  ·exact .inr ⟨x,B7 _ z,u⟩
theorem yy (n:Nat)(u:Nat->List Nat):(CH (n+1)).flatMap u=u 0++(CH n).flatMap λj=>u (j+1):=by
 rw[List.range_succ_eq_map,Co,Dl]
theorem oK {W:Wit}{a:Act}{w:World}(J:ap P V W st a w){e:Ty}:∀ (ps:List (Nat×Operand)) (k:Nat) (u:cS (List e.den)),eN st e k ps=some u ->
  ps.map (λx=>(x.1,a.eval x.2))=((ps.map λx=>a.eval x.2).zipIdx k).map (λx=>(x.2,x.1))/\u.val.length=ps.length/\(∀ x∈u.frz,aC st x)/\(∀ x∈u.kill,aC st x) /\
  ∃ z:Nat->List Nat,aY W u.kill=(CH u.val.length).flatMap z /\
   ∀ (j:Nat) (x:e.den),u.val[j]?=some x->∃ v c,(ps.map λx=>a.eval x.2)[j]?=some v/\v.cells=c.toArray/\Mx w (br V W u.p u.frz) e none 0 x c (z j)
 |[],k,u,h=>by
  simp only[eN,B3]at h;subst h;exact⟨rfl,rfl,by simp,by simp,λ_=>[],rfl,λj x I=>by simp at I⟩
 |(i,y)::ps,k,u,h=>by
  simp only[eN]at h;cases H:CM i k&&decide ((au st y).1=bm e.isAgg) with
  |false=>simp[H]at h
  |true =>
   simp only[H,cond_true]at h;simp only[B5,decide_eq_true_eq]at H;have M:=CB H.1;subst M;split at h
   ·rename_i t1 u1 hg O;simp only[B3]at h;subst h;obtain⟨h1,h2,h3,h4,z,h5,h6⟩:=oK J ps (i+1) u1 O;obtain⟨cs,Z,Y⟩:=c8 J y;rw[H.2]at Z;have hc:=il Z Y.one';obtain⟨g1,g2,g3⟩:=d5 (pos:=0) J Y hg;refine⟨by simp[h1],by simp[h2],λx X=>(CE.1 X).elim (g2 x) (h3 x),λx X=>(CE.1 X).elim (g3 x) (h4 x),λj=>match j with|0=>aY W t1.kill|j+1=>z j,?_,?_⟩
    ·rw[dU,h5,DE,yy]
    ·intro j x I;cases j with
     |zero =>
      simp at I;subst I;exact⟨a.eval y,cs,by simp,hc,g1.mono d7.1⟩
     |succ j =>
      obtain⟨v,c,h7,h8,h9⟩:=h6 j x (by simpa using I);exact⟨v,c,by simpa using h7,h8,h9.mono d7.2⟩
   ·cases h
theorem lZ (w:World)(G:Nat->Prop):∀ (b:Ty),Rd w G b b.zero (zeroCells b)
 |.int _=>rfl
 |.bool=>rfl
 |.str=>rfl
 |.unit=>rfl
 |.hdr=>⟨none,0,rfl⟩
 |.pair a b=>⟨_,_,rfl,lZ w G a,lZ w G b⟩
 |.list m E e=>Rd.nil w G m E e
theorem q9 (w:World)(G:Nat->Prop):∀ (b:Ty) (pos:Nat),Mx w G b none pos b.zero (zeroCells b) []
 |.int _,_=>⟨rfl,rfl⟩
 |.bool,_=>⟨rfl,rfl⟩
 |.str,_=>⟨rfl,rfl⟩
 |.unit,_=>⟨rfl,rfl⟩
 |.hdr,_=>⟨⟨none,0,rfl⟩,rfl⟩
 |.pair a b,_=>⟨_,_,[],[],rfl,rfl,q9 w G a _,q9 w G b _⟩
 |.list m E e,_=>by
  cases m with
  |false=>exact cB.2 ⟨rfl,Rd.nil w G false E e⟩
  |true=>exact (bP (by simp)).2 ⟨_,rfl,(OwH.nil w G E e).2⟩
theorem mD {W:Wit}{k:Nat}(h:¬ W.nw k/\¬ V.prot k/\(∀ b,live st b->W.β b≠k)/\∀ (u i:Nat) (l:Leaf),(st u).ls[i]?=some l->ao l->k∉W.bs u i):¬ ck V W st k:=by
 rintro (y|y|⟨b,I,e⟩|⟨u,i,l,z,H,J⟩)
 ·exact h.1 y
 ·exact h.2.1 y
 ·exact h.2.2.1 b I e
 ·exact h.2.2.2 u i l z H J
theorem mE:(9223372036854775807:Nat)<=maxLen:=by decide
theorem ra (hV:ay V)(hT:TOk P T)(b3:bU V o){t:TypeId}{n:Nat}{y:Array (Nat×Operand)}(a2:o.op=.buildSlice t n y)(h:act Γ T o st κ=some r):b8 P V o st κ r:=by
 simp only[act,wrU,a2]at h;cases ht:T t with
 |slice E e bb =>
  simp only[ht]at h;split at h
  ·rename_i u c2;cases hb:CM u.val.length n&&decide (n*e.cells<=16777216)&&bc u.kill&&dN u.frz u.kill with
   |false=>simp[hb]at h
   |true =>
    simp only[hb,cond_true]at h;simp only[B5,decide_eq_true_eq]at hb;obtain⟨⟨⟨bl,cb⟩,c1⟩,b9⟩:=hb;have c3:=CB bl;subst c3;split at h
    ·rename_i d hd;refine⟨_,h,λW a w hr next Q hn=>?_⟩;have h1:=hT t;rw[ht]at h1;obtain⟨hu,_,_,Y,_,ti,z,a5,O,_,hz,cc⟩:=h1;obtain⟨h2,h3,a6,a8,b4,c0,h5⟩:=oK hr y.toList 0 u c2;generalize c4:u.val=I at *;have a0:∀ v∈(y.toList.map λx=>a.eval x.2),v.cells.size=e.cells:=by
      intro v hv;obtain⟨j,hj,e1⟩:=List.getElem_of_mem hv;have ba:j<I.length:=by rw[h3];simpa using hj
      obtain⟨v',c,X,Z,h8⟩:=h5 j I[j] (CL ba);rw[CL hj]at X;simp only[B3]at X;rw[<- e1,X,Z];simpa using h8.len
     have a9:(y.toList.map λx=>a.eval x.2).length=I.length:=by rw[C4,h3]
     have a4:∀ (j:Nat) (x:e.den),I[j]?=some x->∃ c,Mx w (br V W u.p u.frz) e none 0 x c (b4 j)/\∀ i u,c[i]?=some u ->
       ((y.toList.map λx=>a.eval x.2).flatMap λv=>v.cells.toList)[j*e.cells+i]?=some u:=by
      intro j x hj;obtain⟨v,c,X,Z,h8⟩:=h5 j x hj;refine⟨c,h8,λi u hi=>?_⟩;have b2:i<e.cells:=by rw[<- h8.len];exact (B6.1 hi).1
      rw[Great.flat_get Y _ a0];have e1:(j*e.cells+i) / e.cells=j:=by
       rw[DI,Nat.mul_add_div Y,Nat.div_eq_of_lt b2,Cg]
      have e2:(j*e.cells+i) % e.cells=i:=by
       rw[DI,Du,Dm b2]
      rw[e1,e2,X];simpa[Z]using hi
     have a3:((y.toList.map λx=>a.eval x.2).flatMap λv=>v.cells.toList).length=I.length*e.cells:=by
      have:∀ (vs:List Value),(∀ v∈vs,v.cells.size=e.cells)->(vs.flatMap λv=>v.cells.toList).length=vs.length*e.cells:=by
       intro vs;induction vs with
       |nil=>intro _;simp
       |cons v vs ih =>
        intro hv;rw[Co,CK,ih (λu hu=>hv u (CI _ hu)),Ca,hv v (CP ..),DE,Cc];omega
      rw[this _ a0,a9]
     have H:=Great.fill_whole Y (y.toList.map λx=>a.eval x.2) ((Array.range (I.length*e.cells)).map ((if I.length*e.cells=0 then (#[]:Array Value) else z.cells)[· % (if I.length*e.cells=0 then (#[]:Array Value) else z.cells).size]!)) a0 (by rw[a9];simp);rw[<- h2]at H;have a1:(y.map λ (i,x)=>(i,a.eval x)).toList=y.toList.map λx=>(x.1,a.eval x.2):=by rw[Dn]
     have ad:(execOp a.eval o).run P w=.ok (.value (.slice (some ⟨w.heap.size,0,none⟩) I.length I.length)) (w.alloc (.cells ((y.toList.map λx=>a.eval x.2).flatMap λv=>v.cells.toList).toArray E)):=by
      have M:¬ (I.length*e.cells>2 ^ 24):=by omega
      by_cases h0:I.length*e.cells=0
      ·rw[if_pos h0]at H;simp only[execOp,a2,Instr.buildSlice,Dd,run_underlying hu,C9,sizeOf,typeInfo,a5,O,a1];simp[M,h0,newRow,a5,O,a1]at H ⊢;simp[H]
      ·rw[if_neg h0]at H;have:=run_buildSlice (P:=P) w t E I.length (y.map λ (i,x)=>(i,a.eval x)) _ ti z hu a5 hz (by rw[O];exact M) (by rw[O];exact h0) (by rw[O,a1];exact H);simp[execOp,a2,this]
     refine eh ad ?_;rw[hd];refine hn _ _ ?_;rw[cn,aP];obtain⟨X,_,_,b1⟩:=fX hV hr b9 a8;have b5:=X.used_lt;have b0:I.length<=maxLen:=by
      have:=mE;have:I.length*1<=I.length*e.cells:=C6 _ Y;omega
     have bn:=World.ownsRow_lit (e:=E) (size:=e.cells) (base:=0) w ((y.toList.map λx=>a.eval x.2).flatMap λv=>v.cells.toList).toArray I.length (Dq _) b0 (by simpa using a3);refine X.putOwn hV (w':=w.alloc (.cells ((y.toList.map λx=>a.eval x.2).flatMap λv=>v.cells.toList).toArray E)) (by simp) rfl rfl rfl (λk J=>Go.heap_alloc_old w _ (b5 k J)) d (b3 d hd).1 (b3 d hd).2 _ (CF _) (bs:=w.heap.size::aY W u.kill) ?_ (λk J hu=>?_)
     ·refine⟨Cl.2 ⟨λhm=>?_,ia hr c1 a8⟩,_,b4,Row.of bn,by rw[c0];rfl,λj x hj=>?_⟩
      ·have:=(b1 _ hm).2.2.1;omega
      ·obtain⟨c,a7,bx⟩:=a4 j x hj;have b6:∀ k,br V W u.p u.frz k->k<w.heap.size:=λk J=>by
        rcases kI a6 k J with J|⟨_,J⟩
        ·exact (X.nwlt k J).1
        ·exact Ck (hV.ro k J).1 X.size
       exact⟨c,a7.carry (kI a6) (λk J=>Go.heap_alloc_old w _ (b6 k J)) (λk J=>Go.heap_alloc_old w _ (a7.lt k J)),λi u hi=>by simpa using bx i u hi⟩
     ·rcases Cs.1 J with rfl|J
      ·have:=b5 _ hu;omega
      ·have Z:=b1 k J;exact mD ⟨Z.1,Z.2.1,Z.2.2.2.1,Z.2.2.2.2⟩ hu
    ·cases h
  ·cases h
 |_=>simp[ht]at h
theorem yz {w:World}{G:Nat->Prop}{E':TypeId}{u y e:TypeId}(Y:P.underlying u=some (.slice e))(Z:P.underlying e=some (.int .u8))(X:P.underlying y=some .string){xs:List Int}{v:Value}
  (h:Rd w G (.list false E' (.int .u8)) xs [v]):(convert u y v).run P w=.ok (.string (gY xs)) w:=by
 obtain⟨A,z,hv,hc,J⟩:=h;simp only[C5,and_true]at hv;subst hv;cases A with
 |none =>
  have hx:xs=[]:=by
   cases xs with
   |nil=>rfl
   |cons x xs=>obtain⟨g,o,M,_⟩:=J (by simp);cases M
  subst hx;show (convert u y (.slice none 0 z)).run P w=_;rw[run_convert_bytes_nil w u e Y Z 0 z y X];rfl
 |some ad =>
  cases I:xs with
  |nil =>
   subst I;show (convert u y (.slice (some ad) 0 z)).run P w=_;rw[run_convert_bytes_string w u y e ad 0 z Y Z X];simp[Conv.bytesToString,loadCells,loadCellsFrom];rfl
  |cons x0 a0 =>
   rw[<- I];obtain⟨g,o,M,_,hr⟩:=J (by rw[I];simp);simp only[B3]at M;subst M;have:=run_convert_bytes_arg (P:=P) w u e Y Z g o xs.length z xs rfl (λi hi=>by
    obtain⟨c,H,O⟩:=hr i xs[i] (CL hi);have H:c=[.int .u8 xs[i]]:=H;subst H;have:=O 0 _ rfl;simp only[Ty.cells,DS,Cg]at this;rw[this];simp[List.getD,CL hi]) y X
   rw[this];rfl
theorem uT (hV:ay V)(hT:TOk P T)(J:bU V o){s t:TypeId}{x:Operand}(M:o.op=.convert s t x)(h:act Γ T o st κ=some r):b8 P V o st κ r:=by
 simp only[act,wrU,M]at h;have z:=hT t;have y:=hT s;split at h
 ·rename_i k' k a5 n Z Y hx;split at h
  ·rename_i d O;refine⟨_,h,λW a w I=>aO hV I O J (v:=.int k (k.wrap n)) ?_ rfl id rfl⟩;rw[Y]at z;rw[Z]at y;simp[execOp,M,bI I hx,Go.convert,run_underlying z.1,run_underlying y.1,Conv.intToInt]
  ·cases h
 ·rename_i E b Z Y;split at h
  ·rename_i p xs ha;split at h
   ·rename_i d O;refine⟨_,h,λW a w I=>?_⟩;have a4:one st x≠.dead:=by intro e0;rw[e0]at ha;simp[aE,dt]at ha
    obtain⟨h1,h2,_⟩:=bA I x a4;have a3:=kZ (m:=false) (E:=E) I h1 h2 ha;rw[Y]at z;rw[Z]at y;refine aO hV I O J (v:=.string (gY xs)) ?_ rfl id rfl;have:=yz (P:=P) y.1 (y.2.2.2.2.1.2 rfl) z.1 a3;simp[execOp,M,this]
   ·cases h
  ·cases h
 ·rename_i E b H Z Y hx;cases hE:CM E 5 with
  |false=>simp[hE]at h
  |true =>
  simp only[hE,cond_true]at h;have a2:E=5:=CB hE;split at h
  ·rename_i d O;refine⟨_,h,λW a w I next Q hn=>?_⟩;rw[Y]at z;rw[Z]at y;have hc:(eJ H).length=H.size:=by simp only[eJ,C4,Ca];rfl
   have X:=Lib.run_convert_string_bytes (P:=P) w s t E H y.1 z.1 (z.2.2.2.2.1.2 rfl);refine eh (v:=.slice (some ⟨w.heap.size,0,none⟩) H.size (grownCap w H.size 0 E)) (w':=Lib.bytesWorld w E H) (by simp[execOp,M,iR I hx,X]) ?_;rw[O];refine hn _ _ ?_;have a0:=grownCap_ge w H.size 0 E;have a1:(Lib.bytesCells w E H).size=grownCap w H.size 0 E:=by
    simp only[Lib.bytesCells,De,Array.size_map,Array.size_replicate];show H.size+_=_;omega
   refine I.putOwn hV (by rw[Lib.bytesWorld_size];omega) (by simp[Lib.bytesWorld,Df,Dr,Dz,-DT,-DX]) (by simp[Lib.bytesWorld,Df,Dr,Dz,-DT,-DX]) (by simp[Lib.bytesWorld,Df,Dr,Dz,-DT,-DX])
    (λk hk=>Lib.bytesWorld_at_old w E H k (I.used_lt k hk)) d (J d O).1 (J d O).2 _ (CF _) (bs:=[w.heap.size])
    ⟨by simp,(eJ H).map (Value.int .u8),λ_=>[],⟨by rw[C4];exact (DS _).symm,.inr ⟨w.heap.size,_,_,_,by rw[hc],Lib.bytesWorld_at_new w E H,by rw[hc];exact a0,.inr ⟨a2,CN _⟩,by rw[a1];exact DF (DS _),?_⟩⟩,by simp[CV],λj x hj=>?_⟩ (λk hk hu=>?_)
   ·simp only[Lib.bytesCells,DW,Dn,Ty.cells,DS,eJ,Dg];exact List.take_left' (by simp)
   ·refine⟨[.int .u8 x],⟨rfl,rfl⟩,λi u hi=>?_⟩
    match i,hi with
    |0,hi =>
     simp only[Cu,B3]at hi;subst hi;simp[Ty.cells,hj]
   ·simp at hk;have:=I.used_lt k hu;omega
  ·cases h
 ·cases h
theorem sx (hV:ay V)(hT:TOk P T)(M:bU V o){t:TypeId}{n c:Operand}(O:o.op=.makeSlice t n c)(h:act Γ T o st κ=some r):b8 P V o st κ r:=by
 simp only[act,wrU,O]at h;split at h
 ·rename_i E e H k1 m k2 m' ht a8 a3;cases hb:decide (0<=m)&&decide (m=m')&&decide (m*H<=(am:Int)) with
  |false=>simp[hb]at h
  |true =>
   simp only[hb,cond_true]at h;simp only[B5,decide_eq_true_eq]at hb;obtain⟨⟨h0,rfl⟩,a4⟩:=hb;split at h
   ·rename_i d hd;refine⟨_,h,λW a w J next Q hn=>?_⟩;have h1:=hT t;rw[ht]at h1;obtain⟨hu,_,_,b5,b3,ti,z,ad,b1,a9,hz,X⟩:=h1;have hm:(m.toNat:Int)=m:=by omega
    have Y:m.toNat*H<=am:=by
     have:((m.toNat*H:Nat):Int)<=(am:Int):=by rw[Int.natCast_mul,hm];exact a4
     omega
    have b9:m.toNat*1<=m.toNat*H:=C6 _ b3.1;simp only[am]at Y;have b4:=mE;obtain⟨w',I,b2,y⟩:=run_make_full (P:=P) w 0 t E ti z e.cells hu ad hz b1 k1 k2 m.toNat (by rw[a9,DI];omega) (by omega) (Dq _);rw[hm]at I;refine eh (v:=.slice (some ⟨w.heap.size,0,none⟩) m.toNat m.toNat) (w':=w') (by simp[execOp,O,bI J a8,bI J a3,I]) ?_;rw[hd];refine hn _ _ ?_;have a2:z.cells.size=e.cells:=by
     have h2:=(lZ w (λ_=>False) e).len;rw[<- Ca,X,h2]
    refine J.putOwn hV y.size y.os y.tape y.output (λk hk=>y.block k (J.used_lt k hk) (by simp)) d (M d hd).1 (M d hd).2 _ (CF _) (bs:=[w.heap.size])
     ⟨by simp,_,λ_=>[],by rw[DO];exact Row.of b2,by simp[CV],λj x Z=>?_⟩ (λk hk hu=>?_)
    ·rw[Cv]at Z;split at Z
     ·rename_i a1;simp at Z;subst Z;refine⟨_,q9 w' _ e 0,λi u hi=>?_⟩;have b0:i<e.cells:=by rw[<- (lZ w' (λ_=>False) e).len];exact (B6.1 hi).1
      have a0:(j+1)*e.cells<=m.toNat*e.cells:=CG _ a1;rw[Cc]at a0;have a7:j*e.cells+i<m.toNat*e.cells:=by omega
      have e2:(j*e.cells+i) % e.cells=i:=by rw[DI,Du,Dm b0]
      have a5:z.cells[i]?=some u:=by rw[<- DP,X];exact hi
      obtain⟨b6,a6⟩:=Array.getElem?_eq_some_iff.1 a5;simp only[madeCells,DP,Array.getElem?_map,Array.getElem?_range,a7,if_true,Dv,a2,e2];rw[getElem!_pos z.cells i (by omega),a6]
     ·cases Z
    ·simp at hk;have:=J.used_lt k hu;omega
   ·cases h
 ·cases h
theorem uU (n u:Nat)(y:n<=u)(k z:IntKind)(w:World):(Dh true n u none (some (.int k n)) (some (.int z n))).run P w=.ok (0,n,n) w:=by
 simp[Dh,Instr.sliceBound,asIntOf,y]
theorem wH (hV:ay V)(hT:TOk P T)(a4:bU V o){t:TypeId}{x m:Operand}{lo hi:Option Operand}(a0:o.op=.slice t x lo hi (some m))(h:act Γ T o st κ=some r):b8 P V o st κ r:=by
 simp only[act,wrU,a0]at h;cases hd:o.dst with
 |none=>simp[hd]at h
 |some d =>
  simp only[hd]at h;split at h
  ·rename_i E' e' a8 Y j v ht hx;split at h
   ·rename_i p E e J hdr;split at h
    ·rename_i hh k b4 b2;cases hb:hi.isSome&&decide (hh=(J.length:Int))&&decide (k=(J.length:Int))&&CM e'.cells e.cells with
     |false=>rw[hb]at h;cases h
     |true =>
      rw[hb]at h;simp only[cond_true]at h;simp only[B5,decide_eq_true_eq]at hb;obtain⟨⟨⟨a3,rfl⟩,rfl⟩,O⟩:=hb;have O:=CB O;refine⟨_,h,λW a w hr next Q hn=>?_⟩;have h1:=hT t;rw[ht]at h1;obtain⟨hu,_,_,_,_,ti,z,bx,b6,_⟩:=h1;obtain⟨a6,_,_,_,_⟩:=bA hr x (by rw[hx];simp);rw[hx]at a6;obtain⟨h8,a2,b1,cb⟩:=kG hr hdr a6;obtain⟨y,hy,k1,c2⟩:∃ y,hi=some y/\∃ k1,a.eval y=.int k1 J.length:=by
       rcases mZ hr b4 with ⟨I,_⟩|⟨y,k1,I,u⟩
       ·rw[I]at a3;cases a3
       ·exact⟨y,I,k1,u⟩
      obtain⟨k2,b9⟩:∃ k2,a.eval m=.int k2 J.length:=by
       rcases mZ hr b2 with ⟨I,_⟩|⟨y,k2,I,u⟩
       ·cases I
       ·cases I;exact⟨k2,u⟩
      obtain⟨A,c0,hv,a5⟩:=a2.slice;have hE:=dE (P:=P) (t:=E') (n:=e.cells) (by simp[bW,bx,b6,O]) w;have Z:(if J.length=0 then A else A.map λx=>x.add (0*e.cells))=A:=by
       cases A with
       |none=>simp
       |some ad =>
        have e0:ad.add 0=ad:=by simp[Addr.add]
        show (if J.length=0 then some ad else some (ad.add (0*e.cells)))=some ad;rw[Di,e0];split <;> rfl
      refine eh (v:=.slice A J.length J.length) (w':=w) ?_ ?_
      ·simp only[execOp,a0,hv,hy,Dv,DM,c2,b9,Instr.sliceAt,Instr.slice,Dd,run_underlying hu,C9,uU J.length c0 a5 k1 k2 w,hE,Sem.run_pure,DJ,Z]
      ·rw[hd];refine hn _ _ ?_;rw[cn,aP];have a9:∀ z∈[(Y,j)],aC st z:=λz hz=>by simp at hz;subst hz;exact⟨_,b1,trivial⟩
       obtain⟨h6,_,_,H⟩:=fX (frz:=[]) (kill:=[(Y,j)]) hV hr rfl a9;have e1:aN (ac (aF st []) st) [(Y,j)]++aF st []=aN st [(Y,j)]:=CT _;rw[e1]at h6 H;have ba:aY W [(Y,j)]=W.bs Y j:=by simp[aY]
       rw[ba]at H;obtain⟨c1,a7,bn,M,a1,b3⟩:=a2;refine h6.putOwn hV (w':=w) (CN _) rfl rfl rfl (λ_ _=>rfl) d (a4 d hd).1 (a4 d hd).2 _ (CF _) (bs:=W.bs Y j) ?_ (λk hk=>mD ⟨(H k hk).1,(H k hk).2.1,(H k hk).2.2.2.1,(H k hk).2.2.2.2⟩);have bb:∀ k,gd V W p k->gd V (W.frz st []) p k:=bZ (W':=W.frz st []) (λh=>h) (λ_ h=>Or.inl h);refine OwH.carry (G:=gd V W p) ⟨c1,a7,bn,⟨M.1,?_⟩,?_,b3⟩ bb (λ_ _=>rfl) (λ_ _=>rfl)
       ·rcases M.2 with ⟨X,I⟩|⟨g,c4,bl,mk,X,I,u,b0,b5,c3⟩
        ·rw[hv]at X;simp only[CZ]at X;exact .inl ⟨by rw[X.1,I],I⟩
        ·rw[hv]at X;simp only[CZ,true_and]at X;exact .inr ⟨g,J.length,bl,mk,by rw[X.1],I,CN _,b0.imp (λh=>⟨h.1,Ci u h.2⟩) id,Ci (CG _ u) b5,c3⟩
       ·rw[a1,hv];cases A <;> rfl
    ·cases h
   ·cases h
  ·cases h
theorem yA (H:ay V)(z:TOk P T)(y:bU V o){t:TypeId}{x:Operand}{J M I:Option Operand}(u:o.op=.slice t x J M I)(h:act Γ T o st κ=some r):b8 P V o st κ r:=by
 cases I with
 |none=>exact vV H z y u h
 |some m=>exact wH H z y u h
theorem AW (X:ay V)(J:bU V o){c:Call}(H:o.op=.call c)(O:c.callee=.builtin .min)(h:act Γ T o st κ=some r):b8 P V o st κ r:=by
 simp only[act,wrU,H,O]at h;split at h
 ·cases h
 ·rename_i d M;simp only[M]at h;split at h
  ·rename_i x y hx;split at h
   ·rename_i k1 m k2 n Y Z;have u:c.args=#[x,y]:=by rw[<- CW (xs:=c.args),hx]
    refine⟨_,h,λW a w I=>aO X I M J (v:=.int k1 (bif decide (n<m) then n else m)) ?_ rfl id rfl⟩;cases z:decide (n<m) <;> simp[execOp,H,O,resolve,invoke,builtin,u,bI I Y,bI I Z,Builtin.min_,Builtin.min2] <;> simp at z <;> omega
   ·cases h
  ·cases h
theorem AX (X:ay V)(J:bU V o){c:Call}(H:o.op=.call c)(O:c.callee=.builtin .max)(h:act Γ T o st κ=some r):b8 P V o st κ r:=by
 simp only[act,wrU,H,O]at h;split at h
 ·cases h
 ·rename_i d M;simp only[M]at h;split at h
  ·rename_i x y hx;split at h
   ·rename_i k1 m k2 n Y Z;have u:c.args=#[x,y]:=by rw[<- CW (xs:=c.args),hx]
    refine⟨_,h,λW a w I=>aO X I M J (v:=.int k1 (bif decide (m<n) then n else m)) ?_ rfl id rfl⟩;cases z:decide (m<n) <;> simp[execOp,H,O,resolve,invoke,builtin,u,bI I Y,bI I Z,Builtin.max_,Builtin.max2] <;> simp at z <;> omega
   ·cases h
  ·cases h
end
section
variable {P:Program} {V:Env} {W:Wit} {st st':St} {w w':World} {a:Act}
theorem ap.putGhost (hV:ay V)(h:ap P V W st a w)(d:Nat)(hd:GH<=d)(a4:d<B0)(n:Nat)(sh:aI)(ls:List Leaf)
  (Y:List Value) (J:Nat->List Nat) (hn:(st d).ver<n) (hl:ls.length=Y.length) (h1:∀ u∈Y,u.oneCell'=true)
  (a1:∀ (j:Nat) (l:Leaf) (u:Value),ls[j]?=some l->Y[j]?=some u->aK P V W st w (J j) l u)
  (Z:∀ (j:Nat) (l:Leaf),ls[j]?=some l->ao l->∀ k∈J j,¬ W.nw k/\¬ V.prot k/\(∀ b,live st b->W.β b≠k) /\
   ∀ (r1 j1:Nat) (l1:Leaf),r1≠d->(st r1).ls[j1]?=some l1->ao l1->k∉W.bs r1 j1)
  (a2:∀ (j j':Nat) (l l':Leaf),ls[j]?=some l->ao l->ls[j']?=some l'->ao l'->∀ k,k∈J j->k∈J j'->j=j') :
  ap P V { W with cs:=λr=>if r=d then Y else W.cs r,bs:=λr j=>if r=d then J j else W.bs r j } (ac [(d,⟨n,sh,ls⟩)] st) a w /\
   cL V W { W with cs:=λr=>if r=d then Y else W.cs r,bs:=λr j=>if r=d then J j else W.bs r j } st (ac [(d,⟨n,sh,ls⟩)] st) w w:=by
 have I:∀ b,live (ac [(d,⟨n,sh,ls⟩)] st) b<->live st b:=by
  intro b;by_cases R:B0<=b
  ·rw[live,live,aJ (by omega)]
  ·simp[live,R]
 have O:cL V W { W with cs:=λr=>if r=d then Y else W.cs r,bs:=λr j=>if r=d then J j else W.bs r j } st (ac [(d,⟨n,sh,ls⟩)] st) w w:=by
  refine⟨λq=>?_,λb R=>⟨(I b).2 R,rfl⟩,λ_ h=>h,λ_ _=>rfl,λ_ q j' l' M h4 h5=>?_⟩
  ·rcases ak d q ⟨n,sh,ls⟩ st with ⟨rfl,e⟩|⟨y,e⟩
   ·rw[e];exact⟨Nat.le_of_lt hn,λe=>absurd e (by show n≠_;omega)⟩
   ·rw[e];exact⟨CN _,λ_=>by simp[y]⟩
  ·rcases ak d q ⟨n,sh,ls⟩ st with ⟨rfl,e⟩|⟨y,e⟩
   ·rw[e]at h5;exact absurd h5 (by show n≠_;omega)
   ·rw[e]at M;exact⟨⟨l',M,h4⟩,by simp[y],λ_ _=>rfl⟩
 refine⟨?_,O⟩
 exact {
  nt:=h.nt,df:=h.df
  slots:=λt ht=>by
   have:t≠d:=by omega
   rw[aJ this];simpa[this]using h.slots t ht
  boxes:=λb R=>by
   have:b≠d:=by omega
   rw[aJ this];simpa[this]using h.boxes b R
  len:=λq=>by
   rcases ak d q ⟨n,sh,ls⟩ st with ⟨rfl,e⟩|⟨y,e⟩
   ·rw[e];simpa using hl
   ·rw[e];simpa[y]using h.len q
  one:=λq u hu=>by
   by_cases hq:q=d
   ·simp only[hq,if_true]at hu;exact h1 u hu
   ·simp only[hq,if_false]at hu;exact h.one q u hu
  leaf:=λq j l u z M=>by
   rcases ak d q ⟨n,sh,ls⟩ st with ⟨rfl,e⟩|⟨y,e⟩
   ·rw[e]at z;simp only[if_true]at M;exact (a1 j l u z M).carry hV.ro O (λ_=>⟨by simp,λ_ _=>rfl⟩)
   ·rw[e]at z;simp only[y,if_false]at M;exact (h.leaf q j l u z M).carry hV.ro O (λ_=>⟨by simp[y],λ_ _=>rfl⟩)
  ownb:=λq j l z M k X=>by
   rcases ak d q ⟨n,sh,ls⟩ st with ⟨rfl,e⟩|⟨y,e⟩
   ·rw[e]at z;simp only[if_true]at X;have:=Z j l z M k X;exact⟨this.1,this.2.1,λb R=>this.2.2.1 b ((I b).1 R)⟩
   ·rw[e]at z;simp only[y,if_false]at X;have:=h.ownb q j l z M k X;exact⟨this.1,this.2.1,λb R=>this.2.2 b ((I b).1 R)⟩
  sep:=λq j l q' j' l' z M h4 h5 k X H=>by
   rcases ak d q ⟨n,sh,ls⟩ st with ⟨e0,e⟩|⟨y,e⟩ <;> rcases ak d q' ⟨n,sh,ls⟩ st with ⟨e1,e'⟩|⟨a0,e'⟩
   ·rw[e]at z;rw[e']at h4;simp only[e0,if_true]at X;simp only[e1,if_true]at H;exact⟨e0.trans e1.symm,a2 j j' l l' z M h4 h5 k X H⟩
   ·rw[e]at z;rw[e']at h4;simp only[e0,if_true]at X;simp only[a0,if_false]at H;exact absurd H ((Z j l z M k X).2.2.2 q' j' l' a0 h4 h5)
   ·rw[e]at z;rw[e']at h4;simp only[y,if_false]at X;simp only[e1,if_true]at H;exact absurd X ((Z j' l' h4 h5 k H).2.2.2 q j l y z M)
   ·rw[e]at z;rw[e']at h4;simp only[y,if_false]at X;simp only[a0,if_false]at H;exact h.sep q j l q' j' l' z M h4 h5 k X H
  box:=λb R=>h.box b ((I b).1 R)
  inj:=λb b' R a3=>h.inj b b' ((I b).1 R) ((I b').1 a3)
  nwlt:=h.nwlt
  os:=h.os,tape:=h.tape,output:=h.output,size:=h.size,keep:=h.keep
  fixb:=λx hx=>⟨(I _).2 (h.fixb x hx).1,(h.fixb x hx).2⟩
  fixt:=h.fixt }
theorem gO {off:Nat}:∀ {a:Ty} {pos:Nat} {x:a.den} {u:(E:TypeId)×(e:Ty)×List e.den},bg off a pos x=some u->pos<=off/\off<pos+a.cells
 |.pair a b,pos,x,u,h=>by
  simp only[bg]at h;split at h
  ·rename_i v y;have:=gO y;simp only[Ty.cells];omega
  ·have:=gO h;simp only[Ty.cells];omega
 |.list m E e,pos,z,u,h=>by
  simp only[bg]at h;cases r:m&&CM pos off with
  |false=>simp[r]at h
  |true =>
   simp only[B5]at r;have:=CB r.2;simp only[Ty.cells];omega
 |.int _,_,_,_,h=>by simp[bg]at h
 |.bool,_,_,_,h=>by simp[bg]at h
 |.str,_,_,_,h=>by simp[bg]at h
 |.unit,_,_,_,h=>by simp[bg]at h
 |.hdr,_,_,_,h=>by simp[bg]at h
theorem nu {off:Nat}:∀ {a:Ty} {pos:Nat} {x:a.den} {E:TypeId} {e:Ty} {u:List e.den},bg off a pos x=some ⟨E,e,u⟩->e.shy=true->a.shy=true
 |.pair a b,pos,x,E,e,u,h,r=>by
  simp only[bg]at h;simp only[Ty.shy,Dw];split at h
  ·rename_i v z;simp only[B3]at h;subst h;exact .inl (nu z r)
  ·exact .inr (nu h r)
 |.list m I J,pos,H,E,e,u,h,r=>by
  simp only[bg]at h;cases y:m&&CM pos off with
  |false=>simp[y]at h
  |true =>
   rw[y]at h;simp only[cond_true,B3,Sigma.mk.injEq]at h;obtain⟨rfl,h⟩:=h;rw[heq_eq_eq,Sigma.mk.injEq]at h;obtain⟨rfl,_⟩:=h;simp[Ty.shy,r]
 |.int _,_,_,_,_,_,h,_=>by simp[bg]at h
 |.bool,_,_,_,_,_,h,_=>by simp[bg]at h
 |.str,_,_,_,_,_,h,_=>by simp[bg]at h
 |.unit,_,_,_,_,_,h,_=>by simp[bg]at h
 |.hdr,_,_,_,_,_,h,_=>by simp[bg]at h
theorem Mx.hol_out {G:Nat->Prop}{o:Nat}:∀ {a:Ty} {pos:Nat} {x:a.den} {cs:List Value} {bs:List Nat},(o<pos\/pos+a.cells<=o)->(Mx w G a none pos x cs bs<->Mx w G a (some o) pos x cs bs)
 |.int _,_,_,_,_,_=>DH
 |.bool,_,_,_,_,_=>DH
 |.str,_,_,_,_,_=>DH
 |.unit,_,_,_,_,_=>DH
 |.hdr,_,_,_,_,_=>DH
 |.pair a b,pos,x,cs,bs,r=>by
  simp only[Ty.cells]at r;constructor
  ·rintro⟨c1,c2,b1,b2,e1,e2,h1,h2⟩;exact⟨c1,c2,b1,b2,e1,e2,(Mx.hol_out (by omega)).1 h1,(Mx.hol_out (by omega)).1 h2⟩
  ·rintro⟨c1,c2,b1,b2,e1,e2,h1,h2⟩;exact⟨c1,c2,b1,b2,e1,e2,(Mx.hol_out (by omega)).2 h1,(Mx.hol_out (by omega)).2 h2⟩
 |.list m E e,pos,u,cs,bs,r=>by
  simp only[Ty.cells]at r;cases m with
  |false=>rw[cB,cB]
  |true=>rw[bP (by simp),bP (by simp only[ne_eq,B3];omega)]
theorem Mx.out {G:Nat->Prop}{off:Nat}{E:TypeId}{e:Ty}{ys:List e.den}:∀ {a:Ty} {pos:Nat} {x:a.den} {cs:List Value} {bs:List Nat},Mx w G a none pos x cs bs->bg off a pos x=some ⟨E,e,ys⟩ ->
  ∃ v z y,OwB w G none E e ys v z/\cs[off-pos]?=some v/\Mx w G a (some off) pos x cs y/\∀ k,bs.count k=y.count k+z.count k
 |.pair a b,pos,x,cs,bs,⟨c1,c2,b1,b2,J,e2,M,h2⟩,h=>by
  have hl:=M.len;simp only[bg]at h;split at h
  ·rename_i u X;simp only[B3]at h;subst h;have Z:=gO X;obtain⟨v,z,y,g1,Y,O,R⟩:=Mx.out M X;refine⟨v,z,y++b2,g1,?_,⟨c1,c2,y,b2,J,rfl,O,(Mx.hol_out (by omega)).1 h2⟩,λk=>?_⟩
   ·rw[J,CA (by omega)];exact Y
   ·rw[e2,B8,B8,R k];omega
  ·rename_i X;have Z:=gO h;obtain⟨v,z,y,g1,Y,O,R⟩:=Mx.out h2 h;refine⟨v,z,b1++y,g1,?_,⟨c1,c2,b1,y,J,rfl,(Mx.hol_out (by omega)).1 M,O⟩,λk=>?_⟩
   ·rw[J,B9 (by omega),hl,show off-pos-a.cells=off-(pos+a.cells) by omega];exact Y
   ·rw[e2,B8,B8,R k];omega
 |.list m E' e',pos,xs,cs,bs,H,h=>by
  simp only[bg]at h;cases r:m&&CM pos off with
  |false=>simp[r]at h
  |true =>
   rw[r]at h;simp only[cond_true,B3,Sigma.mk.injEq]at h;obtain⟨rfl,h⟩:=h;simp only[B5]at r;obtain⟨rfl,r⟩:=r;have r:=CB r;subst r;rw[heq_eq_eq,Sigma.mk.injEq]at h;obtain⟨rfl,h⟩:=h;rw[heq_eq_eq]at h;subst h;have I:=H.one;rw[bP (by simp)]at H;obtain⟨v,rfl,hO⟩:=H;exact⟨v,bs,[],hO,by simp,jq.2 ⟨v,rfl,I v (by simp),rfl⟩,λk=>by simp⟩
 |.int _,_,_,_,_,_,h=>by simp[bg]at h
 |.bool,_,_,_,_,_,h=>by simp[bg]at h
 |.str,_,_,_,_,_,h=>by simp[bg]at h
 |.unit,_,_,_,_,_,h=>by simp[bg]at h
 |.hdr,_,_,_,_,_,h=>by simp[bg]at h
theorem Mx.back {G:Nat->Prop}{off:Nat}{E:TypeId}{e:Ty}{R:List e.den}{v:Value}{bn:List Nat}(Y:OwB w G none E e R v bn):∀ {a:Ty} {pos:Nat} {x z:a.den} {cs:List Value} {I:List Nat},Mx w G a (some off) pos x cs I->bT off E e R a pos x=some z ->
  cs[off-pos]?=some v->∃ X,Mx w G a none pos z cs X/\∀ k,X.count k=I.count k+bn.count k
 |.pair a b,pos,x,z,cs,X,⟨c1,c2,b1,b2,O,e2,M,h2⟩,h,J=>by
  have hl:=M.len;simp only[bT]at h;split at h
  ·rename_i u y;simp only[B3]at h;subst h;have a0:=set_in y;obtain⟨I,g1,Z⟩:=Mx.back Y M y (by rw[O,CA (by omega)]at J;exact J);refine⟨I++b2,⟨c1,c2,I,b2,O,rfl,g1,(Mx.hol_out (by omega)).2 h2⟩,λk=>?_⟩;rw[e2,B8,B8,Z k];omega
  ·rename_i y;simp only[B4]at h;obtain⟨u,y,rfl⟩:=h;have a0:=set_in y;obtain⟨I,g1,Z⟩:=Mx.back Y h2 y (by
    rw[O,B9 (by omega),hl]at J;rw[show off-(pos+a.cells)=off-pos-a.cells by omega];exact J)
   refine⟨b1++I,⟨c1,c2,b1,I,O,rfl,(Mx.hol_out (by omega)).2 M,g1⟩,λk=>?_⟩;rw[e2,B8,B8,Z k];omega
 |.list m E' e',pos,xs,z,cs,X,H,h,J=>by
  simp only[bT]at h;cases r:m&&CM pos off with
  |false=>simp[r]at h
  |true =>
   rw[r]at h;simp only[cond_true]at h;obtain⟨rfl,rfl,rfl⟩:=kb h;simp only[B5]at r;obtain⟨rfl,r⟩:=r;have r:=CB r;subst r;rw[jq]at H;obtain⟨v',rfl,M,rfl⟩:=H;simp only[Nat.sub_self,Cu,B3]at J;subst J;exact⟨bn,(bP (by simp)).2 ⟨v',rfl,Y⟩,λk=>by simp⟩
 |.int _,_,_,_,_,_,_,h,_=>by simp[bT]at h
 |.bool,_,_,_,_,_,_,h,_=>by simp[bT]at h
 |.str,_,_,_,_,_,_,h,_=>by simp[bT]at h
 |.unit,_,_,_,_,_,_,h,_=>by simp[bT]at h
 |.hdr,_,_,_,_,_,_,h,_=>by simp[bT]at h
where
 set_in {off:Nat} {E:TypeId} {e:Ty} {R:List e.den}:∀ {a:Ty} {pos:Nat} {x z:a.den},bT off E e R a pos x=some z->pos<=off/\off<pos+a.cells
  |.pair a b,pos,x,z,h=>by
   simp only[bT]at h;split at h
   ·rename_i u y;have:=set_in y;simp only[Ty.cells];omega
   ·simp only[B4]at h;obtain⟨u,y,_⟩:=h;have:=set_in y;simp only[Ty.cells];omega
  |.list m E' e',pos,xs,z,h=>by
   simp only[bT]at h;cases r:m&&CM pos off with
   |false=>simp[r]at h
   |true =>
    simp only[B5]at r;have:=CB r.2;simp only[Ty.cells];omega
  |.int _,_,_,_,h=>by simp[bT]at h
  |.bool,_,_,_,h=>by simp[bT]at h
  |.str,_,_,_,h=>by simp[bT]at h
  |.unit,_,_,_,h=>by simp[bT]at h
  |.hdr,_,_,_,h=>by simp[bT]at h
end
section
variable {P:Program} {V:Env} {W W' W2:Wit} {st st' st2:St} {w w' w2:World} {a:Act}
theorem cL.trans (h:cL V W W' st st' w w')(u:cL V W' W2 st' st2 w' w2):cL V W W2 st st2 w w2:=by
 refine⟨λr=>⟨Ci (h.ver r).1 (u.ver r).1,λe=>?_⟩,λb O=>?_,λk y=>u.nw k (h.nw k y),λk y=>?_,λhe r j l z H J=>?_⟩
 ·have z:=(h.ver r).1;have H:=(u.ver r).1;rw[(u.ver r).2 (by omega),(h.ver r).2 (by omega)]
 ·obtain⟨z,H⟩:=h.box b O;obtain⟨J,h6⟩:=u.box b z;exact⟨J,h6.trans H⟩
 ·rw[u.heap k (y.imp (h.nw k) id),h.heap k y]
 ·have e1:=(h.ver EPO).1;have e2:=(u.ver EPO).1;have e3:=(h.ver r).1;have e4:=(u.ver r).1;obtain⟨⟨R,g1,Y⟩,g6,M⟩:=u.epo (by omega) r j l z H (by omega);obtain⟨Z,I,X⟩:=h.epo (by omega) r j R g1 Y (by omega);exact⟨Z,g6.trans I,λk y=>(M k (by rw[I];exact y)).trans (X k y)⟩
theorem re {n i:Nat}(H:i<n)(r:Nat->List Nat)(b u:List Nat)(z:∀ k,(r i).count k=b.count k+u.count k)(y:List Nat)(k:Nat) :
  (y++(CH n).flatMap r).count k=(y++(CH n).flatMap λj=>if j=i then b else r j).count k+u.count k:=by
 have:=kQ H r b k;have:=z k;rw[B8,B8];omega
theorem OwH.out {G:Nat->Prop}{E E1:TypeId}{e e1:Ty}{xs:List e.den}{v:Value}{bs:List Nat}{i off:Nat}{y:e.den}{ys:List e1.den}(H:Ow w G E e xs v bs)(hy:xs[i]?=some y)(hg:bg off e 0 y=some ⟨E1,e1,ys⟩) :
  ∃ u R O,OwH w G (some (i,off)) E e xs v O/\Ow w G E1 e1 ys u R/\(∀ g M,v=.slice (some ⟨g,0,none⟩) xs.length M->w.cell? ⟨g,i*e.cells+off,none⟩=some u)/\∀ k,bs.count k=O.count k+R.count k:=by
 obtain⟨a0,X,J,h1,h2,h3⟩:=H;have Y:i<xs.length:=(B6.1 hy).1;obtain⟨c,hm,hc⟩:=h3 i y hy;have hm:Mx w G e none 0 y c (J i):=hm;obtain⟨u,R,b',g1,g2,g3,g4⟩:=hm.out hg;have r:=re Y J b' R g4 v.ownBlock.toList;rw[<- h2]at r;have z:=bB.1 a0;refine⟨u,R,v.ownBlock.toList++(CH xs.length).flatMap λj=>if j=i then b' else J j,⟨bB.2 λk=>by have:=z k;have:=r k;omega,X,_,h1,rfl,λj x Z=>?_⟩,
  ⟨bB.2 λk=>by have:=z k;have:=r k;omega,g1⟩,λg M hv=>?_,r⟩
 ·by_cases I:j=i
  ·subst I;rw[hy]at Z;simp only[B3]at Z;subst Z;refine⟨c,?_,hc⟩;simp only[cZ,Nat.beq_refl,cond_true,if_true];exact g3
  ·obtain⟨c',h4,h5⟩:=h3 j x Z;refine⟨c',?_,h5⟩;have:CM i j=false:=by
    cases hb:CM i j with
    |false=>rfl
    |true=>exact absurd (CB hb).symm I
   simp only[cZ,this,cond_false,if_neg I];exact h4
 ·subst hv;have a2:=gO hg;have a1:i*e.cells+off<xs.length*e.cells:=by
   have:=CG e.cells (show i+1<=xs.length from Y);rw[DA,Nat.one_mul]at this;omega
  rw[h1.cellAt _ a1];exact hc off u (by simpa using g2)
theorem OwH.back {G:Nat->Prop}{E E1:TypeId}{e e1:Ty}{xs:List e.den}{v u:Value}{bs bn:List Nat}{i off:Nat}{y z:e.den}{ys:List e1.den}(H:OwH w G (some (i,off)) E e xs v bs)(hn:Ow w G E1 e1 ys u bn)
  (hd:∀ k∈bn,k∉bs) (hy:xs[i]?=some y) (hs:bT off E1 e1 ys e 0 y=some z) (J:∀ g I,v=.slice (some ⟨g,0,none⟩) xs.length I->w.cell? ⟨g,i*e.cells+off,none⟩=some u) :
  ∃ Y,Ow w G E e (xs.set i z) v Y/\∀ k,Y.count k=bs.count k+bn.count k:=by
 obtain⟨a3,Z,R,h1,h2,h3⟩:=H;have a1:i<xs.length:=(B6.1 hy).1;obtain⟨c,hm,hc⟩:=h3 i y hy;have a2:cZ (some (i,off)) i=some off:=by simp[cZ]
 rw[a2]at hm;have a6:=Mx.back.set_in hs;have a7:=hm.len;have M:c[off-0]?=some u:=by
  rcases h1.2 with ⟨rfl,h0⟩|⟨g,I,a5,_,rfl,_⟩
  ·omega
  ·have O:=J g I rfl;have a4:i*e.cells+off<xs.length*e.cells:=by
    have:=CG e.cells (show i+1<=xs.length from a1);rw[DA,Nat.one_mul]at this;omega
   rw[h1.cellAt _ a4]at O;have X:off<c.length:=by omega
   have h6:=hc off _ (CL X);rw[O]at h6;rw[DJ,CL X,h6]
 obtain⟨b1,g1,g2⟩:=Mx.back hn.2 hm hs M;have r:∀ k,(v.ownBlock.toList++(CH xs.length).flatMap λj=>if j=i then b1 else R j).count k=bs.count k+bn.count k:=by
  intro k;have O:=kQ a1 R b1 k;have X:=g2 k;rw[h2,B8,B8];omega
 refine⟨_,⟨(nr a3 hn.1 hd (λk=>DF (r k))).1,Z,_,by rw[Cm];exact h1,by rw[Cm],λj x hj=>?_⟩,r⟩;rcases aR _ _ _ _ _ hj with ⟨rfl,rfl,_⟩|⟨a0,hj⟩
 ·refine⟨c,?_,hc⟩;simp only[if_true];exact g1
 ·obtain⟨c',O,X⟩:=h3 j x hj;refine⟨c',?_,X⟩;have:CM i j=false:=by
   cases hb:CM i j with
   |false=>rfl
   |true=>exact absurd (CB hb).symm a0
  have e0:cZ (some (i,off)) j=none:=by simp[cZ,this]
  rw[e0]at O;simp only[if_neg a0];exact O
theorem jl:GH<=TMP/\TMP<B0/\TMP≠EPO:=by decide
def tV (W:Wit)(S:St)(w:World)(r j:Nat)(v:Value):Prop :=
 r≠TMP/\r≠EPO/\∃ (i off:Nat) (p:Bool) (E:TypeId) (e:Ty) (y:List e.den) (g u:Nat),(S r).ls[j]?=some (.own p (some (i,off)) E e y)/\(W.cs r)[j]?=some (.slice (some ⟨g,0,none⟩) y.length u) /\
  g∈W.bs r j/\w.cell? ⟨g,i*e.cells+off,none⟩=some v
theorem vA (hV:ay V)(h:ap P V W st a w){l l':Leaf}{U:Upd}{v:Value}(Z:aK P V W st w [] l v)(I:ct st l=some (U,l')) :
  ∃ W0 n p0 E0 e0 ba,ap P V W0 (ac U st) a w/\cL V W W0 st (ac U st) w w/\l'=.al TMP 0 n/\aK P V W0 (ac U st) w [] l' v/\(ac U st TMP).ver=n/\(ac U st TMP).ls=[.own p0 none E0 e0 ba] /\
   W0.nw=W.nw/\W0.β=W.β/\(∀ q,q≠TMP->W0.cs q=W.cs q)/\W0.cs TMP=[v]/\(∀ q,(ac U st q).sh=(st q).sh\/q=TMP)/\tV W0 (ac U st) w (kx l).1 (kx l).2 v:=by
 cases l with
 |nal p ks ep cc E e xs =>
  simp only[ct]at I;cases ad:bw st ks ep with
  |false=>simp[ad]at I
  |true =>
   rw[ad]at I;simp only[cond_true]at I;split at I
   ·rename_i r j n0 i sz off;split at I
    ·rename_i M R J z hg;cases hb:!CM r TMP&&!CM r EPO&&CM sz J.cells with
     |false=>simp[hb]at I
     |true =>
      rw[hb]at I;simp only[cond_true]at I;simp only[B5,CR]at hb;obtain⟨⟨bb,c2⟩,a8⟩:=hb;have a8:=CB a8;subst a8;have X:r≠TMP:=λe=>by subst e;simp at bb
      have b3:r≠EPO:=λe=>by subst e;simp at c2
      split at I
      ·rename_i y hy;split at I
       ·rename_i E1 e1 ys b0;simp only[B3,Cd]at I;obtain⟨rfl,rfl⟩:=I;have b4:=pO ad Z;obtain⟨r',j',n',b6,g,bl,b5,a9,cp,cw,O⟩:=b4.at_ i _ off rfl;simp only[C5,Cd,and_true]at b6;obtain⟨rfl,rfl,rfl⟩:=b6;have a3:(st r).ls[j]?=some (.own M none R J z):=by
         rw[Cf]at hg;cases H:(st r).ls[j]? with
         |none=>rw[H]at hg;simp at hg
         |some l0=>rw[H]at hg;simp at hg;rw[hg]
        have a1:=h.leaf r j _ _ a3 a9;have a1:Ow w (gd V W M) R J z _ (W.bs r j):=a1;have b1:bl=z.length:=by
         obtain⟨A,c4,e0,_⟩:=a1.slice;simp only[CZ]at e0;exact e0.2.1
        subst b1;obtain⟨u,bn,bs',g1,g2,g3,g4⟩:=a1.out hy b0;have hu:u=v:=by
         have:=g3 g b5 rfl;rw[this]at O;exact Option.some.inj O
        subst hu;have c1:=bB.1 a1.1;have b2:∀ k∈bs',k∈W.bs r j:=λk hk=>CD.1 (by have:=g4 k;have:=CD.2 hk;omega)
        have a2:∀ k∈bn,k∈W.bs r j/\k∉bs':=λk hk=>by
         have h5:=g4 k;have h6:=CD.2 hk;have h7:=c1 k;refine⟨CD.1 (by omega),λc3=>?_⟩;have:=CD.2 c3;omega
        have a0:∀ k∈W.bs r j,vz V W st r j k:=λk hk=>by
         have h9:=h.ownb r j _ a3 trivial k hk;exact⟨h9.1,h9.2.1,h9.2.2,λr1 i1 l1 a6 a5 a7 Y=>a7 (by obtain⟨e1,e2⟩:=h.sep r1 i1 l1 r j _ a6 a5 a3 trivial k Y hk;rw[e1,e2])⟩
        have hR:yw st (ac [(r,⟨(st r).ver,(st r).sh,aT (st r).ls j (.own M (some (i,off)) R J z)⟩)] (ac [(EPO,b7 (st EPO))] st)) r j (.own M (some (i,off)) R J z):=by
         refine⟨λq=>?_,λq=>?_,?_,λq=>?_,λl Z=>?_,λq i' l H Z=>?_⟩
         ·rcases ak r q ⟨(st r).ver,(st r).sh,aT (st r).ls j (.own M (some (i,off)) R J z)⟩ (ac [(EPO,b7 (st EPO))] st) with ⟨rfl,e⟩|⟨_,e⟩
          ·rw[e]
          ·rw[e];rcases ak EPO q (b7 (st EPO)) st with ⟨rfl,e⟩|⟨_,e⟩ <;> rw[e];rfl
         ·rcases ak r q ⟨(st r).ver,(st r).sh,aT (st r).ls j (.own M (some (i,off)) R J z)⟩ (ac [(EPO,b7 (st EPO))] st) with ⟨rfl,e⟩|⟨_,e⟩
          ·rw[e];exact CN _
          ·rw[e];rcases ak EPO q (b7 (st EPO)) st with ⟨rfl,e⟩|⟨_,e⟩ <;> rw[e]
           ·exact Dp _
           ·exact CN _
         ·rw[aJ (Cq b3),bo];exact CF _
         ·rcases ak r q ⟨(st r).ver,(st r).sh,aT (st r).ls j (.own M (some (i,off)) R J z)⟩ (ac [(EPO,b7 (st EPO))] st) with ⟨rfl,e⟩|⟨_,e⟩
          ·rw[e];simp[aT]
          ·rw[e];rcases ak EPO q (b7 (st EPO)) st with ⟨rfl,e⟩|⟨_,e⟩ <;> rw[e];rfl
         ·rw[bo]at Z;rcases aR _ _ _ _ _ Z with ⟨_,rfl,_⟩|⟨a7,_⟩
          ·rfl
          ·exact absurd rfl a7
         ·rcases ak r q ⟨(st r).ver,(st r).sh,aT (st r).ls j (.own M (some (i,off)) R J z)⟩ (ac [(EPO,b7 (st EPO))] st) with ⟨rfl,e⟩|⟨_,e⟩
          ·rw[e]at Z;rcases aR _ _ _ _ _ Z with ⟨rfl,_,_⟩|⟨_,Z⟩
           ·exact absurd rfl H
           ·exact Z
          ·rw[e]at Z;rcases ak EPO q (b7 (st EPO)) st with ⟨rfl,e⟩|⟨_,e⟩ <;> rw[e]at Z <;> exact Z
        have h1:=h.retell hV hR a3 trivial a9 trivial (bs':=bs') g1 (λk hk=>a0 k (b2 k hk)) (λ_ _ _=>rfl) (CN _) rfl rfl rfl;have b9:cL V W (W.tell r j bs') st (ac [(r,⟨(st r).ver,(st r).sh,aT (st r).ls j (.own M (some (i,off)) R J z)⟩)] (ac [(EPO,b7 (st EPO))] st)) w w :=
         ⟨λq=>⟨hR.ver q,λ_=>rfl⟩,λb hb=>⟨(iS hR.sh b).2 hb,rfl⟩,λ_ h=>h,λ_ _=>rfl,λhe=>by have:=hR.epo;omega⟩
        have bx:(ac [(r,⟨(st r).ver,(st r).sh,aT (st r).ls j (.own M (some (i,off)) R J z)⟩)] (ac [(EPO,b7 (st EPO))] st) TMP).ver=(st TMP).ver:=by
         rw[aJ (Cq X),aJ jl.2.2]
        obtain⟨h2,c0⟩:=h1.putGhost hV TMP jl.1 jl.2.1 ((st TMP).ver+1) .one [.own (M&&J.shy) none E1 e1 ys] [u] (λ_=>bn) (by rw[bx];exact CF _) rfl (λx hx=>by simp at hx;subst hx;exact g2.one)
         (λq l x H hx=>by
          cases q with
          |zero=>simp at H hx;subst H;subst hx;exact⟨g2.1,(OwB.shy g2.2).carry (bZ (W':=W) (by intro hh;simp only[B5]at hh ⊢;exact⟨hh.1,nu b0 hh.2⟩) (λ_ h=>h)) (λ_ _=>rfl) (λ_ _=>rfl)⟩
          |succ q=>simp at H)
         (λq l H _ k hk=>by
          obtain⟨q1,q2,q3,q4⟩:=a0 k (a2 k hk).1;refine⟨q1,q2,λb hb=>q3 b ((iS hR.sh b).1 hb),λr1 i1 l1 _ a6 a5 Y=>?_⟩;by_cases H:(r1,i1)=(r,j)
          ·cases H;rw[show (W.tell r j bs').bs r j=bs' from if_pos rfl]at Y;exact (a2 k hk).2 Y
          ·rw[show (W.tell r j bs').bs r1 i1=W.bs r1 i1 from if_neg H]at Y;exact q4 r1 i1 l1 (hR.old r1 i1 l1 H a6) a5 H Y)
         (λq q' l l2 h1 h2 h3 h4 k h5 h6=>by
          have h7:q<1:=(B6.1 h1).1;have h8:q'<1:=(B6.1 h3).1;omega)
        have a4:ac [(r,⟨(st r).ver,(st r).sh,aT (st r).ls j (.own M (some (i,off)) R J z)⟩),(TMP,⟨(st TMP).ver+1,.one,[.own (M&&J.shy) none E1 e1 ys]⟩),(EPO,b7 (st EPO))] st =
          ac [(TMP,⟨(st TMP).ver+1,.one,[.own (M&&J.shy) none E1 e1 ys]⟩)] (ac [(r,⟨(st r).ver,(st r).sh,aT (st r).ls j (.own M (some (i,off)) R J z)⟩)] (ac [(EPO,b7 (st EPO))] st)):=by
         rw[aP r,aP TMP,nn X]
        rw[a4];refine⟨_,_,_,_,_,_,h2,b9.trans c0,rfl,⟨by rw[bo];exact CN _,λ_=>by simp⟩,by rw[bo],by rw[bo],rfl,rfl,λq H=>by simp[H,Wit.tell],by simp,λq=>?_,X,b3,i,off,M,R,J,z,g,b5,?_,?_,?_,O⟩
        ·by_cases H:q=TMP
         ·exact .inr H
         ·rw[aJ H];exact .inl (hR.sh q)
        ·show (ac [(TMP,_)] _ r).ls[j]?=_;rw[aJ X,bo];simp only[aT];rw[Cx (B6.1 a3).1]
        ·show (if r=TMP then _ else W.cs r)[j]?=_;rw[if_neg X];exact a9
        ·show g∈(if r=TMP then _ else (W.tell r j bs').bs r j);rw[if_neg X,show (W.tell r j bs').bs r j=bs' from if_pos rfl];obtain⟨_,cb,cu,_,q2,_⟩:=g1;rw[q2];simp[CV]
       ·cases I
      ·cases I
    ·cases I
   ·cases I
 |_=>simp[ct]at I
theorem it {R:Type}(l:Leaf)(I:Upd->Leaf->Option R):mc st l I=(ct st l).bind λu=>I u.1 u.2:=by
 cases l with
 |nal p O ep X E e Y =>
  simp only[mc,ct];cases bw st O ep with
  |false=>rfl
  |true =>
   simp only[cond_true];split
   ·rename_i r j n i M off;split
    ·rename_i p' Z J z _;cases !CM r TMP&&!CM r EPO&&CM M J.cells with
     |false=>rfl
     |true =>
      simp only[cond_true];have H:idx z (i:Int)=z[i]?:=by
       unfold idx;rw[if_neg (by omega)];simp
      rw[H];cases z[i]? with
      |none=>rfl
      |some y =>
       simp only[Option.bind_some];cases bg off J 0 y with
       |none=>rfl
       |some u=>rfl
    ·rfl
   ·rfl
 |_=>rfl
end
theorem rV {w:World}{α:Type}{s g:Nat}:∀ (J:List α) (o:Nat) (Q:Nat->α->List Value->Prop),(∀ j x c,Q j x c->c.length=s/\∀ u∈c,u.oneCell'=true)->(∀ (j:Nat) (x:α),J[j]?=some x->∃ c,Q j x c/\de w g (o+j*s) c) ->
  ∃ r:List Value,r.length=J.length*s/\(∀ j u,r[j]?=some u->w.cell? ⟨g,o+j,none⟩=some u)/\(∀ u∈r,u.oneCell'=true) /\
   ∀ (j:Nat) (x:α),J[j]?=some x->∃ c,Q j x c/\∀ i u,c[i]?=some u->r[j*s+i]?=some u
 |[],o,_,_,_=>⟨[],by simp,by simp,by simp,by simp⟩
 |y::J,o,Q,hQ,h=>by
  obtain⟨c,hr,hc⟩:=h 0 y rfl;obtain⟨r,h1,h2,h3,h4⟩:=rV J (o+s) (λj=>Q (j+1)) (λj=>hQ (j+1)) (λj x z=>by
   obtain⟨c',I,H⟩:=h (j+1) x (by simpa using z);refine⟨c',I,?_⟩;rw[Cc]at H;have:o+s+j*s=o+(j*s+s):=by omega
   rw[this];exact H)
  obtain⟨Y,X⟩:=hQ 0 y c hr;refine⟨c++r,by rw[CK,h1,Y,DE,Cc];omega,?_,?_,?_⟩
  ·intro j u z;by_cases R:j<c.length
   ·rw[CA R]at z;have:=hc j u z
    rwa [Di,Cg]at this
   ·rw[B9 (by omega)]at z;have:=h2 (j-c.length) u z;have e1:o+s+(j-c.length)=o+j:=by omega
    rwa [e1]at this
  ·intro u M;rcases CE.1 M with M|M
   ·exact X u M
   ·exact h3 u M
  ·intro j x z;cases j with
   |zero =>
    simp at z;subst z;refine⟨c,hr,λi u O=>?_⟩;have Z:=(B6.1 O).1;rw[Di,Cr,CA Z];exact O
   |succ j =>
    obtain⟨c',I,H⟩:=h4 j x (by simpa using z);refine⟨c',I,λi u O=>?_⟩;rw[Cc,B9 (by omega)];rw[<- H i u O];congr 1;omega
theorem ki {P:Program}(g o:Nat)(t:TypeId)(mk:Nat×Nat):∀ (z:List Value) (i:Nat) (cur:Array Value) (w:World),w.heap[g]?=some (.cells cur t mk)->(mk.2=0\/cur.size<=mk.1)->o+i+z.length<=cur.size->(∀ v∈z,v.oneCell'=true) ->
  (storeCells ⟨g,o,none⟩ z i).run P w=.ok () (w.setRow g (cur.toList.take (o+i)++z++cur.toList.drop (o+i+z.length)).toArray)
 |[],i,cur,w,u,_,_,_=>by
  simp only[storeCells,CT,C3,Cg,List.take_append_drop,CW];rw[setRow_self w g cur t mk u];rfl
 |v::r,i,cur,w,u,M,I,J=>by
  have O:o+i<cur.size:=by simp at I;omega
  have y:(⟨g,o,none⟩:Addr).add i=⟨g,o+i,none⟩:=by unfold Addr.add;split <;> simp_all
  have H:(store ((⟨g,o,none⟩:Addr).add i) v).run P w=.ok () (w.setRow g (cur.setIfInBounds (o+i) v)):=by
   rw[y,run_store P w _ v _ (J v (by simp)),cell_of_row w g _ cur t mk u,Array.getElem?_eq_getElem O];simp[rB u M O,setCell_eq_setRow w g (o+i) cur t mk v u]
  have R:=ki (P:=P) g o t mk r (i+1) (cur.setIfInBounds (o+i) v) (w.setRow g (cur.setIfInBounds (o+i) v)) (setRow_heap w g cur _ t _ u) (by simpa using M) (by simp at I ⊢;omega) (λx X=>J x (by simp[X]));simp only[storeCells,Dd,H,C9,R,setRow_setRow];congr 3;have e:=list_seg_step cur.toList (o+i) v r (by simp at I ⊢;omega);simpa[Array.toList_setIfInBounds,D2]using e
theorem nv {P:Program}(w:World)(t ty e:TypeId)(i:TypeInfo)(ht:P.underlying t=some (.slice e))(hi:P.info? e=some i)
  (g y z:Nat) (cur:Array Value) (mk:Nat×Nat) (Y:w.heap[g]?=some (.cells cur e mk)) (R:mk.2=0\/cur.size<=mk.1)
  (a:Addr) (m c:Nat) (r:List Value) (Z:r.length=m*i.size) (I:∀ j u,r[j]?=some u->w.cell? (a.add j)=some u) (O:∀ u∈r,u.oneCell'=true)
  (H:y+m<=z) (J:y*i.size+r.length<=cur.size) :
  (Cb #[t,t] ty #[.slice (some ⟨g,0,none⟩) y z,.slice (some a) m c]).run P w =
   .ok (.slice (some ⟨g,0,none⟩) (y+m) z) (w.setRow g (cur.toList.take (y*i.size)++r++cur.toList.drop (y*i.size+r.length)).toArray):=by
 have X:=run_firstCells_some (P:=P) w i.size m a m c r Z I;have M:=ki (P:=P) g (y*i.size) e mk r 0 cur w Y R (by simpa using J) O;simp only[Cg]at M;simp[Cb,run_underlying ht,sizeOf,typeInfo,hi,DC,H,X,Addr.add_lit,M]
theorem cm {P:Program}(w:World)(t ty e:TypeId)(i:TypeInfo)(z:Value)(size a0:Nat)(ht:P.underlying t=some (.slice e))(hi:P.info? e=some i)(hz:i.zero=some z)
  (a3:i.size=size) (b1:i.bytes=a0) (b0:z.cells.size=size)
  (v:Value) (n:Nat) (xs:List Value) (y:Row w e size v n xs)
  (a:Addr) (m c:Nat) (r:List Value) (hl:r.length=m*size) (J:∀ j u,r[j]?=some u->w.cell? (a.add j)=some u) (h1:∀ u∈r,u.oneCell'=true)
  (a9:n+m<=maxLen) (O:(n+m)*a0<=140737488355328) :
  ∃ v' w',(Cb #[t,t] ty #[v,.slice (some a) m c]).run P w=.ok v' w'/\Row w' e size v' (n+m) (xs++r)/\w.grownBy w' v.ownBlock/\(v'.ownBlock=v.ownBlock\/v'.ownBlock=some w.heap.size):=by
 subst a3;subst b1;have ad:n+m<=9223372036854775807:=by simp only[maxLen]at a9;omega
 have M:(xs++r).length=(n+m)*i.size:=by rw[CK,y.1,hl,DA]
 have Z:∀ (H:Nat),H<n+m->∀ (a8:Option Nat),
   Row (w.drew.alloc (.cells (xs.toArray++r.toArray++Dj z.cells (grownCap w (n+m) H e-(n+m))) e)) e i.size
    (.slice (some ⟨w.heap.size,0,none⟩) (n+m) (grownCap w (n+m) H e)) (n+m) (xs++r) /\
   w.grownBy (w.drew.alloc (.cells (xs.toArray++r.toArray++Dj z.cells (grownCap w (n+m) H e-(n+m))) e)) a8:=by
  intro H ho a8;have b2:=grownCap_ge w (n+m) H e;have a1:grownCap w (n+m) H e<=maxLen:=grownCap_le_maxLen w (n+m) H e a9;refine⟨⟨M,.inr ⟨w.heap.size,_,_,_,rfl,heap_alloc_new w.drew _,b2,.inl ⟨rfl,a1⟩,?_,?_⟩⟩,⟨rfl,rfl,rfl,by simp,λk hk _=>Go.heap_alloc_old w.drew _ hk⟩⟩
  ·simp only[De,Cw,size_zeroCells,b0,y.1,hl,<- DA];exact CG _ (by omega)
  ·simp only[DW,CJ];rw[<- CJ,<- M];exact D0
 rcases y.2 with ⟨rfl,rfl⟩|⟨g,R,X,mk,rfl,hg,b3,a1,a7,a5⟩
 ·have hx:xs=[]:=CO (by simpa using y.1);subst hx;by_cases hm:m=0
  ·subst hm;have hn:r=[]:=CO (by simpa using hl);subst hn;refine⟨.slice none 0 0,w,?_,Row.nil w e i.size,⟨rfl,rfl,rfl,CN _,λ_ _ _=>rfl⟩,.inl rfl⟩;simp[Cb,run_underlying ht,sizeOf,typeInfo,hi,DC,C8,loadCells,loadCellsFrom]
  ·have hr:=run_append_nil (P:=P) w t ty e i z ht hi hz a m c r hl J (by omega) (by omega) (by have hb:=O;simp only[Cr]at hb;omega);have Y:=Z 0 (by omega) (CV (.slice none 0 0));simp only[Cr,Dx,Array.empty_append]at Y ⊢;exact⟨_,_,hr,Y.1,Y.2,.inr rfl⟩
 ·by_cases I:n+m<=R
  ·have a6:n*i.size+r.length<=X.size:=by rw[hl,<- DA];exact Ci (CG _ I) a7
   have hr:=nv (P:=P) w t ty e i ht hi g n R X mk hg (z8 a1) a m c r hl J h1 I a6;have a2:(X.toList.take (n*i.size)++r++X.toList.drop (n*i.size+r.length)).toArray.size=X.size:=by
    simp only[Cw,CK,CU,DD,Ca];omega
   refine⟨_,_,hr,⟨M,.inr ⟨g,R,_,mk,rfl,setRow_heap w g X _ e _ hg,I,a1.imp id (λh=>⟨h.1,?_⟩),?_,?_⟩⟩,⟨rfl,rfl,rfl,by simp,λk _ hk=>setRow_other w g k _ (λe=>hk (by simp[CV,e]))⟩,.inl rfl⟩
   ·rw[a2];exact h.2
   ·rw[a2];exact a7
   ·rw[a5,<- M];exact D0
  ·have a4:∀ j u,xs[j]?=some u->w.cell? ((⟨g,0,none⟩:Addr).add j)=some u:=λj u hj=>by
    rw[fp,Cr,y.cellAt _ (by rw[<- y.1];exact (B6.1 hj).1)];exact hj
   have hr:=run_append_grow (P:=P) w t ty e i z ht hi hz ⟨g,0,none⟩ n R xs y.1 a4 a m c r hl J (by omega) (by omega) (growslice_fits (by omega) O);have Y:=Z R (by omega) (CV (.slice (some ⟨g,0,none⟩) n R));exact⟨_,_,hr,Y.1,Y.2,.inr rfl⟩
theorem ny {P:Program}(w:World)(t ty e:TypeId)(i:TypeInfo)(size c:Nat)(y:P.underlying t=some (.slice e))(z:P.info? e=some i)
  (v:Value) (n:Nat) (xs:List Value) (r:Row w e size v n xs) :
  (Cb #[t,t] ty #[v,.slice none 0 c]).run P w=.ok v w:=by
 rcases r.2 with ⟨rfl,rfl⟩|⟨g,H,I,_,rfl,_,u,_⟩
 ·simp[Cb,run_underlying y,sizeOf,typeInfo,z,DC,C8]
 ·simp[Cb,run_underlying y,sizeOf,typeInfo,z,DC,C8,u,storeCells]
theorem jz {α:Type}{f g:α->List Nat}:∀ {l:List α},(∀ x∈l,f x=g x)->l.flatMap f=l.flatMap g
 |[],_=>rfl
 |x::l,h=>by rw[Co,Co,h x (CP ..),jz (λy r=>h y (CI _ r))]
theorem zJ (n m:Nat)(f g:Nat->List Nat):(CH (n+m)).flatMap (λj=>if j<n then f j else g (j-n))=(CH n).flatMap f++(CH m).flatMap g:=by
 rw[List.range_add,List.flatMap_append,Dl];congr 1
 ·refine jz λj r=>?_
  rw[if_pos (DR.1 r)]
 ·refine jz λj _=>?_
  rw[if_neg (by omega),show n+j-n=j by omega]
def wI (w:World)(G:Nat->Prop)(e:Ty)(y:List e.den)(u:Value)(z:Nat->List Nat):Prop :=
 ∃ A r,u=.slice A y.length r/\(0<y.length->∃ g o,A=some ⟨g,o,none⟩/\∀ j (x:e.den),y[j]?=some x->∃ c,Mx w G e none 0 x c (z j)/\de w g (o+j*e.cells) c)
section
variable {P:Program} {V:Env} {Γ:List Ctr} {T:TypeId->TI} {st:St} {o:Oper} {R:Type} {κ:Upd->Option R} {r:R}
theorem wJ {w:World}{t ty E:TypeId}{e e':Ty}{I:Nat}(bb:o6 P t (.slice E e I))(b3:e'.cells=e.cells){G G2 G':Nat->Prop}{xs H:List e'.den}{v u:Value}{bs:List Nat}{O:Nat->List Nat}(hx:Ow w G E e' xs v bs)
  (hy:wI w G2 e' H u O) (b0:(xs.length+H.length)*I<=am) (hG:∀ k,G k->G' k) (a7:∀ k,G2 k->G' k) (b1:∀ k,G' k->k<w.heap.size/\v.ownBlock≠some k) (bx:∀ j,j<H.length->∀ k∈O j,v.ownBlock≠some k) :
  ∃ Y M J,(Cb #[t,t] ty #[v,u]).run P w=.ok Y M/\w.grownBy M v.ownBlock/\OwB M G' none E e' (xs++H) Y J /\
   ∀ k,J.count k<=bs.count k+(((CH H.length).flatMap O)++[w.heap.size]).count k:=by
 obtain⟨hu,_,_,cc,c4,ti,z,hi,hs,hb,hz,c2⟩:=bb;obtain⟨c0,X,a5,ho,b2,c3⟩:=hx;obtain⟨A,b4,ba,a9⟩:=hy;subst ba;have b6:ti.size=e'.cells:=by rw[b3];exact hs
 have a3:∀ (M:World),w.grownBy M v.ownBlock->∀ k,G' k->M.heap[k]?=w.heap[k]?:=λM Z k hk=>Z.block k (b1 k hk).1 (Cq (b1 k hk).2)
 have b9:xs.length+H.length<=maxLen:=by
  have h1:(xs.length+H.length)*1<=(xs.length+H.length)*I:=C6 _ c4.1;have:=mE;simp only[am]at b0;omega
 have b5:∀ (y:List Value),(∀ (j:Nat) (x:e'.den),H[j]?=some x->∃ c,Mx w G2 e' none 0 x c (O j)/\∀ i u,c[i]?=some u->y[j*e'.cells+i]?=some u) ->
   ∀ Y M,Row M E e'.cells Y (xs.length+H.length) (X++y)->w.grownBy M v.ownBlock->(Y.ownBlock=v.ownBlock\/Y.ownBlock=some w.heap.size) ->
    ∃ J,OwB M G' none E e' (xs++H) Y J/\∀ k,J.count k<=bs.count k+(((CH H.length).flatMap O)++[w.heap.size]).count k:=by
  intro y hn Y M a4 Z a6;refine⟨Y.ownBlock.toList++(CH (xs.length+H.length)).flatMap (λj=>if j<xs.length then a5 j else O (j-xs.length)),⟨X++y,_,by rw[CK];exact a4,by rw[CK],λj x hj=>?_⟩,λk=>?_⟩
  ·by_cases a2:j<xs.length
   ·rw[CA a2]at hj;obtain⟨c,hr,hc⟩:=c3 j x hj;have hr:Mx w G e' none 0 x c (a5 j):=hr;refine⟨c,?_,λi u hi=>?_⟩
    ·rw[if_pos a2];refine hr.carry hG (λk hk=>a3 M Z k (hG k hk)) λk hk=>Z.block k (hr.lt k hk) (λe0=>?_)
     have h5:=bB.1 c0 k;rw[b2,<- e0,B8]at h5;have h6:0<((CH xs.length).flatMap a5).count k:=CD.2 (ee.2 ⟨j,a2,hk⟩);simp at h5;omega
    ·have:=hc i u hi;rw[CA (B6.1 this).1];exact this
   ·rw[B9 (by omega)]at hj;obtain⟨c,hr,hc⟩:=hn _ x hj;have bn:=(B6.1 hj).1;refine⟨c,?_,λi u hi=>?_⟩
    ·rw[if_neg a2];exact hr.carry a7 (λk hk=>a3 M Z k (a7 k hk)) λk hk=>Z.block k (hr.lt k hk) (Cq (bx _ bn k hk))
    ·have:=hc i u hi;have a8:=ho.1;have cb:xs.length*e'.cells<=j*e'.cells:=CG _ (Nat.le_of_not_lt a2);rw[B9 (by omega),<- this,a8,Nat.sub_mul];congr 1;omega
  ·rw[zJ,b2];simp only[B8];rcases a6 with h5|h5
   ·rw[h5];omega
   ·rw[h5];simp only[DZ];omega
 cases A with
 |none =>
  have a0:H.length=0:=by
   rcases Da H.length with h|h
   ·exact h
   ·obtain⟨g,o,hA,_⟩:=a9 h;cases hA
  have a0:=CO a0;subst a0;have a1:=ny (P:=P) w t ty E ti e'.cells b4 hu hi v xs.length X ho;have Z:w.grownBy w v.ownBlock:=⟨rfl,rfl,rfl,CN _,λ_ _ _=>rfl⟩;obtain⟨J,h1,h2⟩:=b5 [] (by simp) v w (by simpa using ho) Z (.inl rfl);exact⟨v,w,J,a1,Z,h1,h2⟩
 |some ad =>
  have c1:∃ y:List Value,y.length=H.length*e'.cells/\(∀ j u,y[j]?=some u->w.cell? (ad.add j)=some u)/\(∀ u∈y,u.oneCell'=true) /\
    ∀ (j:Nat) (x:e'.den),H[j]?=some x->∃ c,Mx w G2 e' none 0 x c (O j)/\∀ i u,c[i]?=some u->y[j*e'.cells+i]?=some u:=by
   rcases Da H.length with h|h
   ·have a0:=CO h;subst a0;exact⟨[],by simp,by simp,by simp,by simp⟩
   ·obtain⟨g,o,hA,he⟩:=a9 h;simp at hA;subst hA;obtain⟨y,h1,h2,h3,h4⟩:=rV H o (λj x c=>Mx w G2 e' none 0 x c (O j)) (λj x c hq=>⟨hq.len,hq.one⟩) he;exact⟨y,h1,λj u hj=>by rw[fp];exact h2 j u hj,h3,h4⟩
  obtain⟨y,h1,h2,h3,h4⟩:=c1;have bl:z.cells.size=e'.cells:=by
   have h2:=(lZ w (λ_=>False) e).len;rw[<- Ca,c2,h2,b3]
  obtain⟨Y,M,a1,a4,Z,a6⟩:=cm (P:=P) w t ty E ti z e'.cells I hu hi hz b6 hb bl v xs.length X ho ad H.length b4 y h1 h2 h3 b9 (by simpa[am]using b0);obtain⟨J,h5,h6⟩:=b5 y h4 Y M a4 Z a6;exact⟨Y,M,J,a1,Z,h5,h6⟩
theorem wK {W:Wit}{a:Act}{w:World}(h:ap P V W st a w){E:TypeId}{e:Ty}{y:Leaf}{u:Value}{t:cS (List e.den)}(hl:aD P V W st w [y] [u])(H:gb st E e y=some t) :
  (∃ I,wI w (br V W t.p t.frz) e t.val u I/\∀ k,((CH t.val.length).flatMap I).count k<=(aY W t.kill).count k)/\(∀ x∈t.frz,aC st x)/\(∀ x∈t.kill,aC st x):=by
 have z:∀ {p q:Bool} {O:List e.den} {ks:List (Nat×Nat)},dt e (aE st y)=some (p,O)->(∀ (S:Nat->Prop) (x:e.den) (c:List Value),Rd w (br V W p (bE st [y])) e x c->Mx w (br V W q ks) e none 0 x c []) ->
   ∃ I,wI w (br V W q ks) e O u I/\∀ k,((CH O.length).flatMap I).count k<=(aY W []).count k:=by
  intro p q O ks X hm;obtain⟨A,M,hu,_,hx⟩:=kZ (m:=false) (E:=E) h hl.1.1 hl.1.2.1 X;have hu:u=.slice A O.length M:=by simpa using hu
  refine⟨(λ_=>[]:Nat->List Nat),⟨A,M,hu,λhp=>?_⟩,λk=>by rw[show ((CH O.length).flatMap λ_=>([]:List Nat))=[] from by simp];exact Dq _⟩;obtain⟨g,o',hA,_,a0⟩:=hx hp;exact⟨g,o',hA,λj x hj=>by
   obtain⟨c,Z,hc⟩:=a0 j x hj;exact⟨c,hm (λ_=>True) x c Z,hc⟩⟩
 unfold gb at H;cases hf:e.flat with
 |true =>
  rw[hf]at H;simp only[cond_true,B4]at H;obtain⟨⟨p,O⟩,X,rfl⟩:=H;exact⟨z X (λ_ x c Z=>Mx.flat hf Z),by simp,by simp⟩
 |false =>
  rw[hf]at H;simp only[cond_false]at H;cases hs:decide (e.sh=e) with
  |true =>
   rw[hs]at H;simp only[cond_true,B4]at H;obtain⟨⟨p,O⟩,X,rfl⟩:=H;exact⟨z X (λ_ x c Z=>Mx.shared (of_decide_eq_true hs) Z),λx hx=>eC hl hx,by simp⟩
  |false =>
   rw[hs]at H;simp only[cond_false,B4]at H;obtain⟨J,X,rfl⟩:=H;obtain⟨h1,h2,h3⟩:=d5 (pos:=0) h hl X;have h1:Mx w (br V W J.p J.frz) (.list true E e) none 0 J.val [u] (aY W J.kill):=h1;rw[bP (by simp)]at h1;obtain⟨v,hv,a1,Y,h4,h5,h6⟩:=h1;simp only[C5,and_true]at hv;subst hv;refine⟨⟨Y,?_,λk=>?_⟩,h2,h3⟩
   ·rcases h4.2 with ⟨hn,h0⟩|⟨g,M,a2,_,hv,hg,a3,_⟩
    ·exact⟨none,0,by rw[hn];show _=Value.slice none (Ds J.val) 0;rw[h0],λhp=>by have hp:0<Ds J.val:=hp;omega⟩
    ·refine⟨some ⟨g,0,none⟩,M,hv,λhp=>⟨g,0,rfl,λj x hj=>?_⟩⟩;obtain⟨c,h7,h8⟩:=h6 j x hj;have h7:Mx w (br V W J.p J.frz) e none 0 x c (Y j):=h7;refine⟨c,h7,λi u hi=>?_⟩;have h9:=h8 i u hi;rw[Cr];rw[hv]at h4;rw[h4.cellAt _ (by rw[<- h4.1];exact (B6.1 h9).1)];exact h9
   ·show ((CH (Ds J.val)).flatMap Y).count k<=(aY W J.kill).count k;rw[h5,B8];omega
theorem AY {l l':Leaf}{U:Upd}(u:ct st l=some (U,l')):∃ n,l'=.al TMP 0 n:=by
 cases l with
 |nal p M ep O E e X =>
  simp only[ct]at u;cases y:bw st M ep with
  |false=>simp[y]at u
  |true =>
   rw[y]at u;simp only[cond_true]at u;split at u
   ·rename_i r j n0 i J off;split at u
    ·rename_i p' Y I H Z;cases z:!CM r TMP&&!CM r EPO&&CM J I.cells with
     |false=>simp[z]at u
     |true =>
      rw[z]at u;simp only[cond_true]at u;split at u
      ·split at u
       ·simp only[B3,Cd]at u;exact⟨_,u.2.symm⟩
       ·cases u
      ·cases u
    ·cases u
   ·cases u
 |_=>simp[ct]at u
theorem wL (hV:ay V)(hT:TOk P T)(c3:bU V o){c:Call}(c0:o.op=.call c)(hc:c.callee=.builtin .append)(h:act Γ T o st κ=some r):b8 P V o st κ r:=by
  simp only[act,wrU,c0,hc]at h;split at h
  · cases h
  · rename_i d hd
    split at h
    · rename_i x y t u a4 a6
      split at h
      · rename_i E e a0 ht
        cases a8:CM t u with
        |false=>simp[a8]at h
        |true =>
          simp only[a8,cond_true]at h;have a8:=CB a8;subst a8;have cb:=hT t;rw[ht]at cb;have a4:c.args=#[x,y]:=by rw[<- CW (xs:=c.args),a4]
          have a6:c.argTypes=#[t,t]:=by rw[<- CW (xs:=c.argTypes),a6]
          have b6:∀ (a:Act) (w w':World) (v:Value),(Cb #[t,t] o.type #[a.eval x,a.eval y]).run P w=.ok v w'->(execOp a.eval o).run P w=.ok (.value v) w':=by
            intro a w w' v Z;simp[execOp,c0,hc,resolve,invoke,builtin,a4,a6,Z]
          have ba:∀ (I:Upd) (E':TypeId) (e':Ty) (p:Bool) (xs:List e'.den) (ks:List (Nat×Nat)),E'=E->e'.sh=e.sh->ea st (ac I st) I d E' e' a0 p xs ks (one st y) κ=some r ->
              ∃ U,κ U=some r/\∀ (O:Wit) (a:Act) (w:World),ap P V O (ac I st) a w->aD P V O (ac I st) w [one st y] [a.eval y]->(∀ x∈ks,aC (ac I st) x)->Ow w (gd V O p) E' e' xs (a.eval x) (aY O ks)->mW P V o st U a w:=by
            intro I E' e' p xs ks hE he M;subst hE;unfold ea at M;split at M
            · rename_i t1 cy
              cases Y:bc (t1.kill++ks)&&dN t1.frz (t1.kill++ks)&&decide ((xs.length+t1.val.length)*a0<=am) with
              |false=>simp[Y]at M
              |true =>
                simp only[Y,cond_true]at M;simp only[B5,decide_eq_true_eq]at Y;obtain⟨⟨cw,d2⟩,b5⟩:=Y;refine⟨_,M,λO a w Z a1 d3 c1 next Q hn=>?_⟩;obtain⟨⟨c2,cx,b3⟩,hf,cu⟩:=wK Z a1 cy;have c4:∀ x∈t1.kill++ks,aC (ac I st) x:=λx hx=>(CE.1 hx).elim (cu x) (d3 x)
                obtain⟨h1,_,_,h4⟩:=fX hV Z d2 c4;have b9:=ia Z cw c4;rw[dU]at b9 h4;have X:∀ k∈aY O t1.kill++aY O ks,¬ ck V (O.frz (ac I st) t1.frz) _ k:=λk H=>mD ⟨(h4 k H).1,(h4 k H).2.1,(h4 k H).2.2.2.1,(h4 k H).2.2.2.2⟩
                rw[Ch]at b9;obtain⟨bn,cp,b1⟩:=b9;have bb:∀ k,(a.eval x).ownBlock=some k->k∈aY O ks:=by
                  intro k H;obtain⟨_,dc,e3,_,b5,_⟩:=c1;rw[b5,H];simp
                have cc:∀ k,gd V (O.frz (ac I st) t1.frz) (p||t1.p) k->ck V (O.frz (ac I st) t1.frz) (ac (aN (ac (aF (ac I st) t1.frz) (ac I st)) (t1.kill++ks)++aF (ac I st) t1.frz) (ac I st)) k:=by
                  rintro k (H|⟨_,H⟩)
                  · exact .inl H
                  · exact .inr (.inl (hV.ro k H))
                have a9:∀ k∈(CH t1.val.length).flatMap c2,k∈aY O t1.kill:=λk H=>CD.1 (by have:=b3 k;have:=CD.2 H;omega)
                obtain⟨v',w',dd,bx,hg,bl,b4⟩:=wJ (P:=P) (t:=t) (ty:=o.type) cb (iB he) c1 cx b5 (G':=gd V (O.frz (ac I st) t1.frz) (p||t1.p))
                  (bZ (W':=O.frz (ac I st) t1.frz) (by intro h;simp[h]) (λ_ h=>Or.inl h))
                  (λk H=>bZ (W':=O.frz (ac I st) t1.frz) (by intro h;simp[h]) (λ_ h=>h) k (kI hf k H))
                  (λk H=>⟨h1.used_lt k (cc k H),λe1=>X k (B7 _ (bb k e1)) (cc k H)⟩)
                  (λj hj k H e1=>b1 k (a9 k (ee.2 ⟨j,hj,H⟩)) k (bb k e1) rfl)
                have b2:=nr (bs:=aY O ks) (K:=(CH t1.val.length).flatMap c2++[w.heap.size]) cp
                  (bB.2 λk=>by
                    rw[B8];have h5:=b3 k;have h6:=bB.1 bn k;by_cases H:k=w.heap.size
                    · subst H
                      have:(aY O t1.kill).count w.heap.size=0:=CS.2 (λhm=>by have:=(h4 _ (CC _ hm)).2.2.1;omega);simp;omega
                    · have:List.count k [w.heap.size]=0:=CS.2 (by simp[H])
                      omega)
                  (λk H hm=>by
                    rcases CE.1 H with H|H
                    · exact b1 k (a9 k H) k hm rfl
                    · simp at H
                      subst H;have:=(h4 _ (B7 _ hm)).2.2.1;omega) b4
                refine eh (b6 a w w' v' bx) ?_;rw[hd];refine hn _ _ ?_;rw[cn,aP,bG];refine h1.putOwn hV hg.size hg.os hg.tape hg.output (λk H=>hg.block k (h1.used_lt k H) (λe1=>X k (B7 _ (bb k e1.symm)) H)) d (c3 d hd).1 (c3 d hd).2 _ (CF _) ⟨b2.1,bl⟩ (λk H hu=>?_);rcases b2.2 k H with H|H
                · exact X k (B7 _ H) hu
                · rcases CE.1 H with H|H
                  · exact X k (CC _ (a9 k H)) hu
                  · simp at H
                    have:=h1.used_lt k hu;omega
            · cases M
          have a3:∀ (I:Upd) (x':Leaf),eH st I d E e a0 x' (one st y) κ=some r->one st y≠.dead:=by
            intro I x' h e1;rw[e1]at h;unfold eH at h;split at h
            · split at h
              · rename_i p E' e' b0 ad
                cases Y:CM E' E&&decide (e'.sh=e.sh) with
                |false=>simp[Y]at h
                |true =>
                  simp only[Y,cond_true,ea,gb,aE,dt,DM,co,take]at h;cases e'.flat <;> cases decide (e'.sh=e') <;> simp at h
              · cases h
            · simp only[ea,gb,aE,dt,DM,co,take]at h
              cases e.flat <;> cases decide (e.sh=e) <;> simp at h
            · cases h
          simp only[iO]at h;cases hn:jG (one st x) with
          |true =>
            rw[hn]at h;simp only[cond_true]at h;rw[it]at h;obtain⟨⟨I,x'⟩,a7,h⟩:=CX.1 h;have a3:=a3 _ _ h;simp only[eH]at h;split at h
            · rename_i r' j n
              split at h
              · rename_i p' E' e' b0 ad
                cases Y:CM E' E&&decide (e'.sh=e.sh) with
                |false=>simp[Y]at h
                |true =>
                  simp only[Y,cond_true]at h;simp only[B5,decide_eq_true_eq]at Y;obtain⟨U,hU,hg⟩:=ba I E' e' p' b0 [(r',j)] (CB Y.1) Y.2 h;refine⟨U,hU,λW a w Z=>?_⟩;obtain⟨a2,_,_,_,_⟩:=bA Z x (by intro e1;rw[e1]at hn;simp[jG]at hn);obtain⟨O,n0,p0,E0,e0,e2,g1,g2,g3,g4,_⟩:=vA hV Z a2 a7;obtain⟨a1,J,a5,_,_⟩:=bA Z y a3;obtain⟨h5,h6,h7,h8⟩:=kG g1 ad g4;exact hg O a w g1 ⟨⟨a1.carry hV.ro g2 (λho=>absurd ho J),J,a5⟩,trivial⟩ (λz hz=>by simp at hz;subst hz;exact⟨_,h7,trivial⟩) (by simpa[aY]using h6)
              · cases h
            · exfalso
              obtain⟨n,d1⟩:=AY a7;cases d1
            · cases h
          |false =>
            rw[hn]at h;simp only[cond_false]at h;have a3:=a3 _ _ h;simp only[eH]at h;split at h
            · rename_i r' j n hx
              split at h
              · rename_i p' E' e' b0 ad
                cases Y:CM E' E&&decide (e'.sh=e.sh) with
                |false=>simp[Y]at h
                |true =>
                  simp only[Y,cond_true]at h;simp only[B5,decide_eq_true_eq]at Y;obtain⟨U,hU,hg⟩:=ba [] E' e' p' b0 [(r',j)] (CB Y.1) Y.2 h;refine⟨U,hU,λW a w Z=>?_⟩;obtain⟨a2,_,_,_,_⟩:=bA Z x (by rw[hx];simp);rw[hx]at a2;obtain⟨a1,J,a5,_,_⟩:=bA Z y a3;obtain⟨h5,h6,h7,h8⟩:=kG Z ad a2;exact hg W a w Z ⟨⟨a1,J,a5⟩,trivial⟩ (λz hz=>by simp at hz;subst hz;exact⟨_,h7,trivial⟩) (by simpa[aY]using h6)
              · cases h
            · rename_i hx
              obtain⟨U,hU,hg⟩:=ba [] E e false [] [] rfl rfl h;refine⟨U,hU,λW a w Z=>?_⟩;obtain⟨a2,_,_,_,_⟩:=bA Z x (by rw[hx];simp);rw[hx]at a2;obtain⟨a1,J,a5,_,_⟩:=bA Z y a3;exact hg W a w Z ⟨⟨a1,J,a5⟩,trivial⟩ (by simp) (by rw[show a.eval x=_ from a2];exact OwH.nil w _ E e)
            · cases h
      · cases h
    · cases h
end
def ib (w:World)(ro pr:Nat->Prop)(r:Bool)(a:Ty)(x:a.den)(v:Value):Prop :=
 if r=true then ∃ b u g o c,v=.pointer (some ⟨b,u,none⟩)/\pr b/\w.cell? ⟨b,u,none⟩=some (.pointer (some ⟨g,o,none⟩))/\pr g/\Rd w ro a x c/\de w g o c
 else ∃ g o c,v=.pointer (some ⟨g,o,none⟩)/\pr g/\Rd w ro a x c/\de w g o c
def jZ (w:World)(ro pr:Nat->Prop):(cs:List (Bool×Ty))->ma cs->List Value->Prop
 |[],_,y=>y=[]
 |c::cs,x,y=>∃ u r,y=u::r/\ib w ro pr c.1 c.2 x.1 u/\jZ w ro pr cs x.2 r
def ol (P:Program)(w:World)(ro pr:Nat->Prop):(pk:PK)->pk.den->Value->List Nat->Prop
 |.rd a,x,v,r=>r=[]/\∃ y,dn a.isAgg v y/\Rd w ro a x y
 |.own a,x,v,r=>∃ y,dn a.isAgg v y/\Mx w ro a none 0 x y r
 |.io a,x,v,r=>∃ y,dn a.isAgg v y/\Mx w ro a none 0 x y r
 |.rref a,x,v,r=>r=[]/\ib w ro pr false a x v
 |.rref2 a,x,v,r=>r=[]/\ib w ro pr true a x v
 |.iop a,x,v,r=>∃ g c E z,v=.pointer (some ⟨g,0,none⟩)/\w.heap[g]?=some (.cells c.toArray E (0,0))/\Mx w ro a none 0 x c z/\r=g::z
 |.fn M B,O,v,r=>r=[]/\iC P w pr M B O v
 |.clo f y,x,v,r=>r=[]/\∃ J:List Value,v=.func (.func f) #[] J.toArray/\jZ w ro pr y x J
 |.hol a c off,x,v,r=>∃ y u z I E e H,dn a.isAgg v y/\Mx w ro a (some c) 0 x.1 y z/\y[c]?=some u/\bg c a 0 x.1=some ⟨E,e,H⟩/\OwB w ro (some (x.2,off)) E e H u I/\∀ k,r.count k=z.count k+I.count k
def dl (P:Program)(w:World)(ro pr:Nat->Prop):(ps:List PK)->ab ps->List Value->List (List Nat)->Prop
 |[],_,z,u=>z=[]/\u=[]
 |p::ps,x,z,u=>∃ v y b r,z=v::y/\u=b::r/\ol P w ro pr p x.1 v b/\dl P w ro pr ps x.2 y r
def jL (w:World)(G:Nat->Prop)(a:Ty)(x:a.den)(ptr:Bool)(v:Value)(bs:List Nat):Prop :=
 if ptr=true then ∃ g c E r,v=.pointer (some ⟨g,0,none⟩)/\w.heap[g]?=some (.cells c.toArray E (0,0))/\Mx w G a none 0 x c r/\bs=g::r
 else ∃ u,dn a.isAgg v u/\Mx w G a none 0 x u bs
def bS (w:World)(G:Nat->Prop):(ps:List PK)->ah ps->List Value->List (List Nat)->Prop
 |.io a::ps,o,v::u,b::r=>jL w G a o.1 false v b/\bS w G ps o.2 u r
 |.iop a::ps,o,v::u,b::r=>jL w G a o.1 true v b/\bS w G ps o.2 u r
 |.rd _::ps,o,_::u,b::r=>b=[]/\bS w G ps o u r
 |.own _::ps,o,_::u,b::r=>b=[]/\bS w G ps o u r
 |.rref _::ps,o,_::u,b::r=>b=[]/\bS w G ps o u r
 |.rref2 _::ps,o,_::u,b::r=>b=[]/\bS w G ps o u r
 |.fn _ _::ps,o,_::u,b::r=>b=[]/\bS w G ps o u r
 |.clo _ _::ps,o,_::u,b::r=>b=[]/\bS w G ps o u r
 |.hol _ _ _::ps,o,_::u,b::r=>b=[]/\bS w G ps o u r
 |[],_,[],[]=>True
 |_,_,_,_=>False
def qp (w:World)(G ro:Nat->Prop):(r:RK)->r.den->Value->List Nat->Prop
 |.v a,y,v,u=>∃ z,dn a.isAgg v z/\Mx w G a none 0 y z u
 |.bv a,y,v,u=>u=[]/\∃ z,dn a.isAgg v z/\Rd w (λk=>G k\/ro k) a y z
 |.box a,y,v,u=>∃ g c E H,v=.pointer (some ⟨g,0,none⟩)/\w.heap[g]?=some (.cells c.toArray E (0,0))/\Mx w G a none 0 y c H/\u=g::H
def gP (w:World)(G ro:Nat->Prop):(J:List RK)->ai J->List Value->List (List Nat)->Prop
 |[],_,M,H=>M=[]/\H=[]
 |r::J,y,M,H=>∃ u I b z,M=u::I/\H=b::z/\qp w G ro r y.1 u b/\gP w G ro J y.2 I z
def sM:List Value->Value->Prop
 |[u],v=>v=u
 |r,v=>v=.tuple r.toArray
def qq (w w':World)(r:List Nat)(k:Nat):Prop:=k<w'.heap.size/\(w.heap.size<=k\/k∈r)
def tW (c:Ctr)(w:World)(ro:Nat->Prop)(I:List Value)(z:List (List Nat))(y:ai c.rs×ah c.ps)(e:Ending)(w':World):Prop :=
 ∃ (v:Value) (H:List Value) (N:Nat->Prop) (u r:List (List Nat)),e=.returned v/\sM H v/\w.heap.size<=w'.heap.size/\w'.os=w.os/\w'.tape=w.tape/\w'.output=w.output /\
  (∀ k,k<w.heap.size->k∉z.flatten->w'.heap[k]?=w.heap[k]?)/\(∀ k,N k->qq w w' z.flatten k) /\
  bS w' (λk=>N k\/(c.fresh=false/\ro k)) c.ps y.2 I u/\gP w' (λk=>N k\/(c.fresh=false/\ro k)) ro c.rs y.1 H r /\
  (u.flatten++r.flatten).Nodup/\∀ k∈u.flatten++r.flatten,qq w w' z.flatten k/\¬ N k
def bN (P:Program)(c:Ctr):Prop :=
 gf P c.f/\∀ (w:World) (ro:Nat->Prop) (x:ab c.ps) (u:List Value) (r:List (List Nat)) (y:ai c.rs×ah c.ps),
  dl P w ro (λk=>k<w.heap.size/\k∉r.flatten) c.ps x u r->(∀ k,ro k->k<w.heap.size/\k∉r.flatten)->r.flatten.Nodup->c.den x=some y ->
  Calls P c.f u.toArray w (tW c w ro u r y)
section
variable {P:Program} {V:Env} {Γ:List Ctr} {T:TypeId->TI} {st:St} {o:Oper} {R:Type} {κ:Upd->Option R} {r:R}
theorem iC.mono {w0:World}{S H:Nat->Prop}(J:∀ k,S k->H k){y:List Ty}{B:Ty}{I:Tup y->Option B.den}{v:Value}(h:iC P w0 S y B I v):iC P w0 H y B I v:=by
 obtain⟨f,u,e,Y,O⟩:=h;exact⟨f,u,e,Y,λw1 X M=>O w1 X (λk z=>M k (J k z))⟩
theorem iC.move {w0 w:World}{S I:Nat->Prop}(H:w0.heap.size<=w.heap.size)(M:∀ k,S k->I k/\w.heap[k]?=w0.heap[k]?){z:List Ty}{B:Ty}{J:Tup z->Option B.den}{v:Value}
  (h:iC P w0 S z B J v):iC P w I z B J v:=by
 obtain⟨f,y,e,Z,X⟩:=h;exact⟨f,y,e,Z,λw1 Y O=>X w1 (Ci H Y) (λk u=>(O k (M k u).1).trans (M k u).2)⟩
theorem ib.carry {w w1:World}{ro ro' pr H:Nat->Prop}(y:∀ k,ro k->ro' k/\w1.heap[k]?=w.heap[k]?)(u:∀ k,pr k->H k/\w1.heap[k]?=w.heap[k]?){J:Bool}{a:Ty}{x:a.den}{v:Value}(h:ib w ro pr J a x v):ib w1 ro' H J a x v:=by
 unfold ib at h ⊢;split at h
 ·rename_i O;rw[if_pos O];obtain⟨b,ob,g,o,c,X,I,Y,M,h7,Z⟩:=h;exact⟨b,ob,g,o,c,X,(u b I).1,by rw[kY (u b I).2];exact Y,(u g M).1,h7.carry (λk z=>(y k z).1) (λk z=>(y k z).2),Z.same (u g M).2⟩
 ·rename_i O;rw[if_neg O];obtain⟨g,o,c,X,I,Y,M⟩:=h;exact⟨g,o,c,X,(u g I).1,Y.carry (λk z=>(y k z).1) (λk z=>(y k z).2),M.same (u g I).2⟩
theorem jZ.carry {w w1:World}{ro ro' pr H:Nat->Prop}(y:∀ k,ro k->ro' k/\w1.heap[k]?=w.heap[k]?)(z:∀ k,pr k->H k/\w1.heap[k]?=w.heap[k]?):∀ {cs:List (Bool×Ty)} {x:ma cs} {us:List Value},jZ w ro pr cs x us->jZ w1 ro' H cs x us
 |[],_,_,h=>h
 |_::_,_,_,⟨u,I,e,J,M⟩=>⟨u,I,e,J.carry y z,jZ.carry y z M⟩
theorem ol.mono {w:World}{ro ro' pr O:Nat->Prop}(y:∀ k,ro k->ro' k)(J:∀ k,pr k->O k):∀ {pk:PK} {x:pk.den} {v:Value} {bs:List Nat},ol P w ro pr pk x v bs->ol P w ro' O pk x v bs
 |.rd _,_,_,_,⟨e,M,z,H⟩=>⟨e,M,z,H.mono y⟩
 |.own _,_,_,_,⟨M,z,H⟩=>⟨M,z,H.mono y⟩
 |.io _,_,_,_,⟨M,z,H⟩=>⟨M,z,H.mono y⟩
 |.rref _,_,_,_,⟨e,h⟩=>⟨e,h.carry (λk I=>⟨y k I,rfl⟩) (λk I=>⟨J k I,rfl⟩)⟩
 |.rref2 _,_,_,_,⟨e,h⟩=>⟨e,h.carry (λk I=>⟨y k I,rfl⟩) (λk I=>⟨J k I,rfl⟩)⟩
 |.iop _,_,_,_,⟨g,c,E,X,z,H,Y,Z⟩=>⟨g,c,E,X,z,H,Y.mono y,Z⟩
 |.fn _ _,_,_,_,⟨e,h⟩=>⟨e,iC.mono J h⟩
 |.clo _ _,_,_,_,⟨e,us,z,H⟩=>⟨e,us,z,H.carry (λk I=>⟨y k I,rfl⟩) (λk I=>⟨J k I,rfl⟩)⟩
 |.hol _ _ _,_,_,_,⟨M,u,X,b1,E,e,xs,z,H,Y,Z,h5,h6⟩=>⟨M,u,X,b1,E,e,xs,z,H.mono y,Y,Z,h5.carry y (λ_ _=>rfl) (λ_ _=>rfl),h6⟩
theorem dl.mono {w:World}{ro ro' pr I:Nat->Prop}(y:∀ k,ro k->ro' k)(z:∀ k,pr k->I k):∀ {ps:List PK} {x:ab ps} {M:List Value} {u:List (List Nat)},dl P w ro pr ps x M u->dl P w ro' I ps x M u
 |[],_,_,_,h=>h
 |_::_,_,_,_,⟨v,J,b,H,O,Z,X,Y⟩=>⟨v,J,b,H,O,Z,X.mono y z,dl.mono y z Y⟩
def kf (V:Env)(W:Wit)(st:St)(ks:List (Nat×Nat))(u:List Nat)(k:Nat):Prop:=W.nw k\/V.prot k\/(∃ b∈u,live st b/\W.β b=k)\/∃ x∈ks,k∈W.bs x.1 x.2
theorem lh {W:Wit}{I y:List (Nat×Nat)}{H z:List Nat}(h:∀ x∈I,x∈y)(J:∀ b∈H,b∈z):∀ k,kf V W st I H k->kf V W st y z k:=by
 rintro k (u|u|⟨b,O,u⟩|⟨x,M,u⟩)
 ·exact .inl u
 ·exact .inr (.inl u)
 ·exact .inr (.inr (.inl ⟨b,J b O,u⟩))
 ·exact .inr (.inr (.inr ⟨x,h x M,u⟩))
theorem jm {W:Wit}{p q:Bool}{z y:List (Nat×Nat)}(I:p=true->q=true)(h:∀ x∈z,x∈y):∀ k,br V W p z k->br V W q y k:=by
 rintro k (u|⟨x,H,u⟩)
 ·exact .inl (bZ (W':=W) I (λ_ h=>h) k u)
 ·exact .inr ⟨x,h x H,u⟩
theorem gQ {agg:Bool}{v:Value}{cs:List Value}(h:ey (bm agg) v cs):dn agg v cs:=by
 cases agg <;> exact h
theorem nz {W:Wit}{a:Act}{w:World}(h:ap P V W st a w){l:Leaf}{ls:List Leaf}{v:Value}(hl:aK P V W st w [] l v)(y:target st l=some ls)(ks:List (Nat×Nat))(O:List Nat)(J:∀ b∈fJ [l],b∈O) :
  ∃ g o cs,v=.pointer (some ⟨g,o,none⟩)/\kf V W st ks O g/\aD P V W st w ls cs/\de w g o cs:=by
 unfold target at y;split at y
 ·rename_i b;cases Y:decide ((st b).sh=.agg) with
  |false=>simp[Y]at y
  |true =>
   simp only[Y,cond_true,B3]at y;subst y;obtain⟨hB,M,z⟩:=hl;rcases h.boxes b hB with ⟨X,_⟩|⟨_,E,X⟩
   ·rw[M]at X;cases X
   ·exact⟨W.β b,0,W.cs b,z,.inr (.inr (.inl ⟨b,J b (by simp[fJ]),⟨hB,M⟩,rfl⟩)),iQ h b,λi v z=>by
     rw[Cr,cell_of_row w (W.β b) i _ E (0,0) X];simpa using z⟩
 ·rename_i p a x;simp only[B3]at y;subst y;obtain⟨g,Z,c,z,hg,I,hc⟩:=hl;rw[Cg]at z;exact⟨g,Z,c,z,hg.elim .inl (λh=>.inr (.inl h)),fm (λ_ h=>h) I,hc⟩
 ·rename_i p a x;simp only[B3]at y;subst y;obtain⟨b,ob,g,Z,c,z,Y,H,hg,I,hc⟩:=hl;refine⟨b,ob,[.pointer (some ⟨g,Z,none⟩)],z,Y.elim .inl (λh=>.inr (.inl h)),⟨⟨⟨g,Z,c,rfl,hg,I,hc⟩,id,rfl⟩,trivial⟩,λi u hi=>?_⟩;cases i with
  |zero=>simp at hi;subst hi;exact H
  |succ i=>simp at hi
 ·cases y
theorem ic {W:Wit}{w:World}{x:aI×List Leaf}{l:Leaf}{v:Value}{cs:List Value}(y:ey x.1 v cs)(z:aD P V W st w x.2 cs)(u:cz x=l)(H:l≠.dead) :
  aK P V W st w [] l v/\v.oneCell'=true:=by
 unfold cz at u;split at u
 ·rename_i I;subst u;have y:cs=[v]:=y;subst y;exact⟨z.1.1,z.1.2.2⟩
 ·exact absurd u.symm H
theorem nA {W:Wit}{a:Act}{w:World}(h:ap P V W st a w){c:Bool×Ty}{l:Leaf}{v:Value}(hl:aK P V W st w [] l v){g:Got c.2.den}(H:fK st c l=some g) :
  ib w (br V W g.p g.frz) (kf V W st g.frz g.see) c.1 c.2 g.val v/\(∀ z∈g.frz,aC st z)/\g.kill=[]/\g.lend=[]:=by
 unfold fK at H;cases hc:c.1 with
 |true =>
  rw[hc]at H;simp only[cond_true]at H;split at H
  ·rename_i l' ht;split at H
   ·rename_i Z a2;simp only[B4]at H;obtain⟨⟨p,y⟩,hy,rfl⟩:=H;obtain⟨g,o',cs,hv,X,I,Y⟩:=nz h hl ht (bE st Z) (fJ [l,l']) (λb M=>by
     cases l <;> simp[fJ]at M ⊢ <;> exact .inl M)
    match cs,I with
    |[u],I =>
     obtain⟨g2,o2,a3,a4,a0,O,a1⟩:=nz h I.1.1 a2 (bE st Z) (fJ [l,l']) (λb M=>by
      cases l <;> cases l' <;> simp[fJ]at M ⊢ <;> first|exact M|exact .inr M)
     have J:=Y 0 u rfl;rw[Cg,a4]at J;refine⟨?_,λz hz=>eC O hz,rfl,rfl⟩;unfold ib;rw[if_pos rfl];exact⟨g,o',g2,o2,a3,hv,X,J,a0,eO h O hy,a1⟩
   ·cases H
  ·cases H
 |false =>
  rw[hc]at H;simp only[cond_false]at H;split at H
  ·rename_i Z ht;simp only[B4]at H;obtain⟨⟨p,y⟩,hy,rfl⟩:=H;obtain⟨g,o',cs,hv,X,I,Y⟩:=nz h hl ht (bE st Z) (fJ [l]) (λb M=>M);refine⟨?_,λz hz=>eC I hz,rfl,rfl⟩;unfold ib;rw[if_neg (by simp)];exact⟨g,o',cs,hv,X,eO h I hy,Y⟩
  ·cases H
theorem mF {W:Wit}{a:Act}{w:World}(h:ap P V W st a w):∀ {cs:List (Bool×Ty)} {ls:List Leaf} {us:List Value} {g:Got (ma cs)},aD P V W st w ls us->cG st cs ls=some g ->
  jZ w (br V W g.p g.frz) (kf V W st g.frz g.see) cs g.val us/\(∀ z∈g.frz,aC st z)/\g.kill=[]/\g.lend=[]
 |[],[],us,g,J,y=>by
  simp only[cG,B3]at y;subst y;cases us with
  |nil=>exact⟨rfl,by simp,rfl,rfl⟩
  |cons=>exact J.elim
 |[],_::_,_,_,_,y=>by simp[cG]at y
 |_::_,[],_,_,_,y=>by simp[cG]at y
 |c::cs,l::ls,us,g,J,y=>by
  cases us with
  |nil=>exact J.elim
  |cons u us =>
   simp only[cG]at y;split at y
   ·rename_i g1 O;split at y
    ·rename_i g2 M;simp only[B3]at y;subst y;obtain⟨X,Y,h3,h4⟩:=nA h J.1.1 O;obtain⟨Z,h6,h7,h8⟩:=mF h J.2 M;refine⟨⟨u,us,rfl,X.carry (λk I=>⟨jm (by intro h;simp[h]) (λx H=>CC _ H) k I,rfl⟩) (λk I=>⟨lh (λx H=>CC _ H) (λx H=>CC _ H) k I,rfl⟩),
      Z.carry (λk I=>⟨jm (by intro h;simp[h]) (λx H=>B7 _ H) k I,rfl⟩) (λk I=>⟨lh (λx H=>B7 _ H) (λx H=>B7 _ H) k I,rfl⟩)⟩,?_,rfl,rfl⟩
     intro z hz;exact (CE.1 hz).elim (Y z) (h6 z)
    ·cases y
   ·cases y
theorem wM {W:Wit}{w:World}{c:Bool×Bool×(a:Ty)×a.den}{v:Value}(h:jd V W w c v):aK P V W st w [] (e9 c) v/\¬ ao (e9 c)/\v.oneCell'=true:=by
 unfold jd at h;unfold e9;split at h
 ·rename_i u;rw[u];refine⟨h,id,?_⟩;obtain⟨b,I,g,z,H,y,_⟩:=h;rw[y];rfl
 ·rename_i u;have u:c.2.1=false:=by simpa using u
  rw[u];refine⟨h,id,?_⟩;obtain⟨g,z,H,y,_⟩:=h;rw[y];rfl
theorem rg {W:Wit}{w:World}{caps:List (Bool×Bool×(a:Ty)×a.den)}{us:List Value}(H:us.length=caps.length)(h:∀ (i:Nat) (c:Bool×Bool×(a:Ty)×a.den) (u:Value),caps[i]?=some c->us[i]?=some u->jd V W w c u) :
  aD P V W st w (caps.map e9) us :=
 aD.mk (by simp[H]) λj l v y z=>by
  rw[List.getElem?_map,B4]at y;obtain⟨c,I,rfl⟩:=y;exact wM (h j c v I z)
theorem qr {W:Wit}{w:World}:∀ (caps:List Nat),(∀ b∈caps,B0<=b/\(st b).sh=.agg)->aD P V W st w (caps.map λb=>Leaf.bp b 0) (caps.map λb=>Value.pointer (some ⟨W.β b,0,none⟩))
 |[],_=>trivial
 |b::caps,h=>⟨⟨⟨(h b (CP ..)).1,(h b (CP ..)).2,rfl⟩,id,rfl⟩,qr caps (λq u=>h q (CI _ u))⟩
theorem nB {off:Nat}{E:TypeId}{e:Ty}{X:List e.den}:∀ {a:Ty} {pos:Nat} {x z:a.den},bT off E e X a pos x=some z->(∃ y,bg off a pos x=some ⟨E,e,y⟩)/\bg off a pos z=some ⟨E,e,X⟩
 |.pair a b,pos,x,z,h=>by
  simp only[bT]at h;split at h
  ·rename_i u J;simp only[B3]at h;subst h;obtain⟨⟨y,M⟩,O⟩:=nB J;exact⟨⟨y,by simp only[bg,M]⟩,by simp only[bg,O]⟩
  ·rename_i hn;simp only[B4]at h;obtain⟨u,J,rfl⟩:=h;have a0:=Mx.back.set_in J;obtain⟨⟨y,M⟩,O⟩:=nB J;have H:bg off a pos x.1=none:=by
    cases Z:bg off a pos x.1 with
    |none=>rfl
    |some u=>have:=gO Z;omega
   exact⟨⟨y,by simp only[bg,H,M]⟩,by simp only[bg,H,O]⟩
 |.list m E' e',pos,Y,z,h=>by
  simp only[bT]at h;cases I:m&&CM pos off with
  |false=>simp[I]at h
  |true =>
   rw[I]at h;simp only[cond_true]at h;obtain⟨rfl,rfl,rfl⟩:=kb h;exact⟨⟨Y,by simp[bg,I]⟩,by simp[bg,I]⟩
 |.int _,_,_,_,h=>by simp[bT]at h
 |.bool,_,_,_,h=>by simp[bT]at h
 |.str,_,_,_,h=>by simp[bT]at h
 |.unit,_,_,_,h=>by simp[bT]at h
 |.hdr,_,_,_,h=>by simp[bT]at h
theorem Mx.refill {w:World}{G:Nat->Prop}{off:Nat}{E:TypeId}{e:Ty}{ys:List e.den}{u:Value}(X:u.oneCell'=true):∀ {a:Ty} {pos:Nat} {x z:a.den} {cs:List Value} {bs:List Nat},Mx w G a (some off) pos x cs bs->bT off E e ys a pos x=some z ->
  Mx w G a (some off) pos z (cs.set (off-pos) u) bs
 |.pair a b,pos,x,z,cs,bs,⟨c1,Z,b1,b2,e1,e2,M,O⟩,h=>by
  have hl:=M.len;simp only[bT]at h;split at h
  ·rename_i y J;simp only[B3]at h;subst h;have Y:=Mx.back.set_in J;refine⟨c1.set (off-pos) u,Z,b1,b2,?_,e2,Mx.refill X M J,O⟩;rw[e1,List.set_append_left _ _ (by omega)]
  ·simp only[B4]at h;obtain⟨y,J,rfl⟩:=h;have Y:=Mx.back.set_in J;refine⟨c1,Z.set (off-(pos+a.cells)) u,b1,b2,?_,e2,M,Mx.refill X O J⟩;rw[e1,List.set_append_right _ _ (by omega),hl,show off-pos-a.cells=off-(pos+a.cells) by omega]
 |.list m E' e',pos,xs,z,cs,bs,H,h=>by
  simp only[bT]at h;cases I:m&&CM pos off with
  |false=>simp[I]at h
  |true =>
   simp only[B5]at I;obtain⟨rfl,I⟩:=I;have I:=CB I;subst I;rw[jq]at H ⊢;obtain⟨v,rfl,M,O⟩:=H;exact⟨u,by simp,X,O⟩
 |.int _,_,_,_,_,_,_,h=>by simp[bT]at h
 |.bool,_,_,_,_,_,_,h=>by simp[bT]at h
 |.str,_,_,_,_,_,_,h=>by simp[bT]at h
 |.unit,_,_,_,_,_,_,h=>by simp[bT]at h
 |.hdr,_,_,_,_,_,_,h=>by simp[bT]at h
theorem aD.setNil {W:Wit}{w:World}{ls:List Leaf}{cs:List Value}(I:aD P V W st w ls cs)(c:Nat):aD P V W st w (aT ls c .nil) (cs.set c (.slice none 0 0)):=by
 have y:=I.length;refine aD.mk (by simp[aT,y]) λj l v z u=>?_
 rcases aR _ _ _ _ _ z with ⟨rfl,rfl,J⟩|⟨H,z⟩
 ·rw[Cx (by omega)]at u;simp only[B3]at u;subst u;exact⟨rfl,id,rfl⟩
 ·rw[Cp (Cq H)]at u;exact I.at_ j l v z u
def wN (P:Program)(V:Env)(W:Wit)(st:St)(w:World)(pk:PK)(v:Value)(g:Got pk.den):Prop :=
 (∃ u,ol P w (br V W g.p g.frz) (kf V W st g.frz g.see) pk g.val v u/\u=g.lend.map W.β++aY W g.kill)/\(∀ z∈g.frz,aC st z)/\(∀ z∈g.kill,aC st z)/\(∀ b∈g.lend,live st b)
theorem nC (hV:ay V){W:Wit}{a:Act}{w:World}(h:ap P V W st a w){pk:PK}{x:aI×List Leaf}{v:Value}{cs:List Value}(hs:ey x.1 v cs)(hl:aD P V W st w x.2 cs)
  {g:Got pk.den} (u:bj st pk x=some g):wN P V W st w pk v g:=by
 obtain⟨sh,ls⟩:=x;have Y:∀ {b:Ty} {g:Got b.den},(bif decide (sh=bm b.isAgg) then (co st b ls).map (λt=>(⟨t.p,t.val,t.frz,t.kill,[],[]⟩:Got b.den)) else none)=some g ->
   (∃ cs,dn b.isAgg v cs/\Mx w (br V W g.p g.frz) b none 0 g.val cs (aY W g.kill))/\g.lend=[]/\g.see=[]/\(∀ z∈g.frz,aC st z)/\(∀ z∈g.kill,aC st z):=by
  intro b g hq;cases I:decide (sh=bm b.isAgg) with
  |false=>simp[I]at hq
  |true =>
   rw[I]at hq;simp only[cond_true,B4]at hq;have X:=of_decide_eq_true I;subst X;obtain⟨t,ht,rfl⟩:=hq;obtain⟨O,J,M⟩:=d5 (pos:=0) h hl ht;exact⟨⟨cs,gQ hs,O⟩,rfl,rfl,J,M⟩
 cases pk with
 |rd b =>
  simp only[bj]at u;cases I:decide (sh=bm b.isAgg) with
  |false=>simp[I]at u
  |true =>
   rw[I]at u;simp only[cond_true,B4]at u;have X:=of_decide_eq_true I;subst X;obtain⟨⟨p,y⟩,hy,rfl⟩:=u;exact⟨⟨[],⟨rfl,cs,gQ hs,eO h hl hy⟩,rfl⟩,λz hz=>eC hl hz,by simp[Got.ofRd],by simp[Got.ofRd]⟩
 |own b =>
  obtain⟨O,J,M,Z,h5⟩:=Y u;exact⟨⟨_,O,by rw[J];rfl⟩,Z,h5,by rw[J];simp⟩
 |io b =>
  obtain⟨O,J,M,Z,h5⟩:=Y u;exact⟨⟨_,O,by rw[J];rfl⟩,Z,h5,by rw[J];simp⟩
 |iop b =>
  simp only[bj]at u;split at u
  ·rename_i q hx;cases I:decide ((st q).sh=.agg) with
   |false=>simp[I]at u
   |true =>
    simp only[I,cond_true,B4]at u;obtain⟨t,ht,rfl⟩:=u;obtain⟨H,hv⟩:=ic hs hl hx (by simp);obtain⟨hB,a6,ad⟩:=H;rcases h.boxes q hB with ⟨h8,_⟩|⟨_,E,h8⟩
    ·rw[a6]at h8;cases h8
    ·obtain⟨O,J,M⟩:=d5 (pos:=0) h (iQ h q) ht;exact⟨⟨_,⟨W.β q,W.cs q,E,_,ad,h8,O,rfl⟩,rfl⟩,J,M,λb' X=>by simp at X;subst X;exact⟨hB,a6⟩⟩
  ·cases u
 |rref b =>
  simp only[bj]at u;have hd:cz (sh,ls)≠.dead:=by
   intro e;rw[e]at u;simp[fK,target]at u
  obtain⟨H,hv⟩:=ic hs hl rfl hd;obtain⟨O,J,M,Z⟩:=nA (c:=(false,b)) h H u;exact⟨⟨[],⟨rfl,O⟩,by rw[M,Z];rfl⟩,J,by rw[M];simp,by rw[Z];simp⟩
 |rref2 b =>
  simp only[bj]at u;have hd:cz (sh,ls)≠.dead:=by
   intro e;rw[e]at u;simp[fK,target]at u
  obtain⟨H,hv⟩:=ic hs hl rfl hd;obtain⟨O,J,M,Z⟩:=nA (c:=(true,b)) h H u;exact⟨⟨[],⟨rfl,O⟩,by rw[M,Z];rfl⟩,J,by rw[M];simp,by rw[Z];simp⟩
 |fn As B =>
  simp only[bj]at u;split at u
  ·rename_i As' B' φ hx;obtain⟨H,hv⟩:=ic hs hl hx (by simp);split at u
   ·rename_i hh;obtain⟨rfl,rfl⟩:=hh;simp only[B3]at u;subst u;have hf:iC P V.w0 V.prot As' B' φ v:=H;exact⟨⟨[],⟨rfl,iC.move h.size (λk hk=>⟨.inr (.inl hk),h.keep k hk⟩) hf⟩,rfl⟩,by simp,by simp,by simp⟩
   ·cases u
  ·cases u
 |clo f b6 =>
  simp only[bj]at u;split at u
  ·rename_i f' a2 hx;cases I:CM f' f with
   |false=>simp[I]at u
   |true =>
    simp only[I,cond_true]at u;have I:=CB I;subst I;obtain⟨H,hv⟩:=ic hs hl hx (by simp);obtain⟨O,J⟩:=H;obtain⟨M,Z,h5,h6⟩:=mF h (qr a2 J) u;exact⟨⟨[],⟨rfl,_,O,M⟩,by rw[h5,h6];rfl⟩,Z,by rw[h5];simp,by rw[h6];simp⟩
  ·rename_i f' a2 hx;cases I:CM f' f with
   |false=>simp[I]at u
   |true =>
    simp only[I,cond_true]at u;have I:=CB I;subst I;obtain⟨H,hv⟩:=ic hs hl hx (by simp);obtain⟨us,O,J,h7⟩:=H;obtain⟨M,Z,h5,h6⟩:=mF h (rg J h7) u;exact⟨⟨[],⟨rfl,us,O,M⟩,by rw[h5,h6];rfl⟩,Z,by rw[h5];simp,by rw[h6];simp⟩
  ·cases u
 |hol b c off =>
  simp only[bj]at u;cases I:decide (sh=bm b.isAgg) with
  |false=>simp[I]at u
  |true =>
   rw[I]at u;simp only[cond_true]at u;have X:=of_decide_eq_true I;subst X;split at u
   ·rename_i r' j n a0;split at u
    ·rename_i p i o' E e xs hd;cases a1:CM o' off with
     |false=>simp[a1]at u
     |true =>
      rw[a1]at u;simp only[cond_true]at u;have a1:=CB a1;subst a1;split at u
      ·rename_i t ht;split at u
       ·rename_i y hy;simp only[B3]at u;subst u;have a5:ls[c]?=some (.al r' j n):=by
         rw[Cf]at a0;cases hq:ls[c]? with
         |none=>rw[hq]at a0;simp at a0
         |some l0=>rw[hq]at a0;simp at a0;rw[a0]
        have a7:c<cs.length:=by rw[<- hl.length];exact (B6.1 a5).1
        have a3:=CL a7;obtain⟨H,_,a4⟩:=hl.at_ c _ _ a5 a3;obtain⟨_,b1,a9,_⟩:=kG h hd H;obtain⟨O,J,M⟩:=d5 (pos:=0) h (hl.setNil c) ht;obtain⟨⟨b5,b3⟩,a8⟩:=nB hy;obtain⟨v0,bn,b0,g1,g2,g3,g4⟩:=O.out b3;have b2:bn=[]:=by
         simp only[DJ,Cx a7,B3]at g2;obtain⟨b4,b9,q1,q2,_⟩:=g1;obtain⟨A,ba,q4,_⟩:=q1.slice;rw[<- g2]at q2 q4;simp only[CZ]at q4;rw[q2,<- q4.2.1];rfl
        have g5:=Mx.refill a4 g3 hy;simp only[DJ,List.set_set,List.set_getElem_self]at g5;refine⟨⟨_,⟨cs,cs[c],b0,W.bs r' j,E,e,xs,gQ hs,g5.mono (jm (by intro h;simp[h]) (λ_ h=>h)),a3,a8,
         b1.2.carry (λk hk=>.inl (bZ (W':=W) (by intro h;simp[h]) (λ_ h=>h) k hk)) (λ_ _=>rfl) (λ_ _=>rfl),λk=>?_⟩,rfl⟩,J,?_,by simp⟩
        ·have:=g4 k;rw[b2]at this;simp only[Db,Dx];rw[show aY W ((r',j)::t.kill)=W.bs r' j++aY W t.kill from rfl,B8,this];simp;omega
        ·intro z hz;rcases Cs.1 hz with rfl|hz
         ·exact⟨_,a9,trivial⟩
         ·exact M z hz
       ·cases u
      ·cases u
    ·cases u
   ·cases u
end
section
variable {P:Program} {V:Env} {Γ:List Ctr} {T:TypeId->TI} {st:St} {o:Oper} {R:Type} {κ:Upd->Option R} {r:R}
def ik (P:Program)(V:Env)(W:Wit)(st:St)(w:World):List (aI×List Leaf)->List Value->Prop
 |[],y=>y=[]
 |x::H,y=>∃ v u z,y=v::u/\ey x.1 v z/\aD P V W st w x.2 z/\ik P V W st w H u
theorem kS {W:Wit}{w:World}{ga:(pk:PK)->aI×List Leaf->Option (Got pk.den)}
  (H:∀ (pk:PK) (x:aI×List Leaf) (v:Value) (cs:List Value) (g:Got pk.den),ey x.1 v cs->aD P V W st w x.2 cs->ga pk x=some g->wN P V W st w pk v g) :
  ∀ (ps:List PK) (xs:List (aI×List Leaf)) (X:List Value) (g:Got (ab ps)),ik P V W st w xs X->bf ga ps xs=some g ->
   (∃ I,dl P w (br V W g.p g.frz) (kf V W st g.frz g.see) ps g.val X I/\∀ k,I.flatten.count k=(g.lend.map W.β).count k+(aY W g.kill).count k) /\
    (∀ z∈g.frz,aC st z)/\(∀ z∈g.kill,aC st z)/\(∀ b∈g.lend,live st b)
 |[],[],X,g,u,y=>by
  simp only[bf,B3]at y;subst y;exact⟨⟨[],⟨u,rfl⟩,λk=>by simp[aY]⟩,by simp,by simp,by simp⟩
 |[],_::_,_,_,_,y=>by simp[bf]at y
 |_::_,[],_,_,_,y=>by simp[bf]at y
 |p::ps,x::xs,X,g,u,y=>by
  obtain⟨v,O,cs,rfl,hs,hl,J⟩:=u;simp only[bf]at y;split at y
  ·rename_i g1 a0;split at y
   ·rename_i g2 Z;simp only[B3]at y;subst y;obtain⟨⟨b,h1,h2⟩,h3,h4,h5⟩:=H p x v cs g1 hs hl a0;obtain⟨⟨I,h6,h7⟩,h8,h9,Y⟩:=kS H ps xs O g2 J Z;refine⟨⟨b::I,⟨v,O,b,I,rfl,rfl,h1.mono (jm (by intro h;simp[h]) (λx u=>CC _ u)) (lh (λx u=>CC _ u) (λx u=>CC _ u)),
     h6.mono (jm (by intro h;simp[h]) (λx u=>B7 _ u)) (lh (λx u=>B7 _ u) (λx u=>B7 _ u))⟩,λk=>?_⟩,?_,?_,?_⟩
    ·rw[CQ,B8,h7 k,h2,B8,Dt,B8,dU,B8];omega
    ·intro z M;exact (CE.1 M).elim (h3 z) (h8 z)
    ·intro z M;exact (CE.1 M).elim (h4 z) (h9 z)
    ·intro z M;exact (CE.1 M).elim (h5 z) (Y z)
   ·cases y
  ·cases y
theorem nD:∀ {Γ:List Ctr} {f:FuncId} {c:Ctr},mb Γ f=some c->c∈Γ/\c.f=f
 |[],_,_,h=>by simp[mb]at h
 |H::Γ,f,c,h=>by
  simp only[mb]at h;cases u:CM H.f f with
  |true =>
   simp only[u,cond_true,B3]at h;subst h;exact⟨CP ..,CB u⟩
  |false =>
   simp only[u,cond_false]at h;obtain⟨z,y⟩:=nD h;exact⟨CI _ z,y⟩
theorem tX {w:World}{G pr:Nat->Prop}{q:List PK}{z:ab q}{cv:List Value}{H:List (List Nat)}(J:dl P w G pr q z cv H):∀ (y:List Ty) (x:Tup y) (u:List Value),sE w G y x u ->
  dl P w G pr (y.map .rd++q) (nV q z y x) (u++cv) (y.map (λ_=>[])++H)
 |[],_,_,h=>by rw[show _=_ from h];exact J
 |a::y,x,_,⟨v,c,I,rfl,M,O,X⟩=>⟨v,I++cv,[],_,rfl,rfl,⟨rfl,c,M,O⟩,tX J y x.2 I X⟩
theorem qs {w:World}{ro pr:Nat->Prop}:∀ {ps:List PK} {x:ab ps} {J:List Value} {u:List (List Nat)},ps.all PK.reads=true->dl P w ro pr ps x J u->u.flatten=[]
 |[],_,_,_,_,⟨_,e⟩=>by rw[e];rfl
 |p::ps,_,_,_,h,⟨v,z,b,y,_,e,H,I⟩=>by
  simp only[DY,B5]at h;rw[e,CQ,qs h.2 I,CT];cases p <;> first|exact H.1|simp[PK.reads]at h
theorem qt {w w1:World}{ro pr ro' J:Nat->Prop}(u:∀ k,ro k->ro' k/\w1.heap[k]?=w.heap[k]?)(y:∀ k,pr k->J k/\w1.heap[k]?=w.heap[k]?):∀ {ps:List PK} {x:ab ps} {Y:List Value} {H:List (List Nat)},
  ps.all PK.reads=true->dl P w ro pr ps x Y H->dl P w1 ro' J ps x Y H
 |[],_,_,_,_,h=>h
 |p::ps,x,_,_,M,⟨v,X,b,I,e,e2,z,Z⟩=>by
  simp only[DY,B5]at M;refine⟨v,X,b,I,e,e2,?_,qt u y M.2 Z⟩;cases p with
  |rd a =>
   obtain⟨h0,cs,h3,h4⟩:=z;exact⟨h0,cs,h3,h4.carry (λk O=>(u k O).1) (λk O=>(u k O).2)⟩
  |rref a=>exact⟨z.1,z.2.carry u y⟩
  |rref2 a=>exact⟨z.1,z.2.carry u y⟩
  |_=>simp[PK.reads]at M
theorem mG (z:ay V){W:Wit}{p:Bool}{ks:List (Nat×Nat)}{y:List Nat}:∀ k,br V W p ks k->kf V W st ks y k:=by
 rintro k ((u|⟨_,u⟩)|u)
 ·exact .inl u
 ·exact .inr (.inl (z.ro k u))
 ·exact .inr (.inr (.inr u))
theorem rW {W:Wit}{ks:List (Nat×Nat)}{H:List Nat}(y:∀ z∈ks,aC st z):∀ k,kf V W st ks H k->ck V W st k:=by
 rintro k (u|u|⟨b,_,M,e⟩|⟨x,I,u⟩)
 ·exact .inl u
 ·exact .inr (.inl u)
 ·exact .inr (.inr (.inl ⟨b,M,e⟩))
 ·obtain⟨l,J,O⟩:=y x I;exact .inr (.inr (.inr ⟨x.1,x.2,l,J,O,u⟩))
theorem sN {W:Wit}{w:World}:∀ {ls:List Leaf} {us:List Value},aD P V W st w ls us->ik P V W st w (ls.map λl=>(aI.one,[l])) us
 |[],[],_=>rfl
 |_::_,_::_,h=>⟨_,_,[_],rfl,rfl,⟨h.1,trivial⟩,sN h.2⟩
theorem yB (hV:ay V)(hΓ:∀ c∈Γ,bN P c){W:Wit}{a:Act}{w:World}(h:ap P V W st a w){Y:List Ty}{B:Ty}{f:FuncId}{ls:List Leaf}{us:List Value}{v:Value}(hv:v=.func (.func f) #[] us.toArray)(b4:aD P V W st w ls us)
  {g:Got (Tup Y->Option B.den)} (H:kV Γ st Y B f ls=some g):iC P w (kf V W st g.frz g.see) Y B g.val v/\(∀ z∈g.frz,aC st z)/\g.kill=[]/\g.lend=[]:=by
 unfold kV at H;split at H
 ·rename_i c hc;obtain⟨a9,rfl⟩:=nD hc;obtain⟨a1,J⟩:=hΓ c a9;obtain⟨f',ps,rs,a4,c3⟩:=c;simp only at H a1 J hv;generalize ps.drop Y.length=q at H;unfold sA at H;split at H
  ·rename_i hh;obtain⟨rfl,rfl⟩:=hh;cases hb:q.all PK.reads&&B.flat&&a4 with
   |false=>simp[hb]at H
   |true =>
    simp only[hb,cond_true]at H;simp only[B5]at hb;obtain⟨⟨a8,bl⟩,ba⟩:=hb;subst ba;split at H
    ·rename_i g0 bn;simp only[B3]at H;subst H;obtain⟨⟨a5,h1,h2⟩,h3,h4,h5⟩:=kS (λpk x v cs g hs hl H=>nC hV h hs hl H) q _ _ g0 (sN b4) bn;have b9:=qs a8 h1;refine⟨⟨f',us.toArray,hv,a1,λw1 b6 X x M y hx hy=>?_⟩,h3,rfl,rfl⟩;simp only[B4]at hy;obtain⟨y0,a7,rfl⟩:=hy;have I:(Y.map (λ_=>([]:List Nat))++a5).flatten=[]:=by
      rw[List.flatten_append,b9,CT];clear hx a7;induction Y with
      |nil=>rfl
      |cons a Y ih=>simp
     have ad:∀ k,kf V W st g0.frz g0.see k->k<w1.heap.size:=λk Z=>Ck (h.used_lt k (rW h3 k Z)) b6
     have a6:=tX (P:=P) (pr:=λk=>k<w1.heap.size/\k∉(Y.map (λ_=>([]:List Nat))++a5).flatten)
      (qt (P:=P) (w1:=w1) (ro':=λk=>k<w1.heap.size) (λk Z=>⟨ad k (mG hV k Z),X k (mG hV k Z)⟩)
       (λk Z=>⟨⟨ad k Z,by rw[I];simp⟩,X k Z⟩) a8 h1) Y x M hx
     have a0:=J w1 (λk=>k<w1.heap.size) (nV q g0.val Y x) (M++us) (Y.map (λ_=>[])++a5) y0 a6
      (λk Z=>⟨Z,by rw[I];simp⟩) (by rw[I];exact Dy) a7
     have a2:M.toArray++us.toArray=(M++us).toArray:=by simp
     rw[a2];refine a0.mono λe w2 a3=>?_
     obtain⟨u,cb,N,c1,c2,rfl,O,b1,bb,b5,b3,b2,_,_,b0,_,_⟩:=a3;obtain⟨u1,c4,b,c0,e1,e2,⟨cs,bx,hm⟩,e3,e4⟩:=b0;subst e3;subst e1;have O:u=u1:=O;subst O;exact⟨u,cs,rfl,bx,kt bl hm,⟨bb,b5,b3,b1,λk Z=>b2 k Z (by rw[I];simp)⟩⟩
    ·cases H
  ·cases H
 ·cases H
theorem uV (O:ay V)(hΓ:∀ c∈Γ,bN P c){W:Wit}{a:Act}{w:World}(h:ap P V W st a w)(pk:PK)(x:aI×List Leaf)(v:Value)(cs:List Value)(g:Got pk.den)(Y:ey x.1 v cs)(X:aD P V W st w x.2 cs)
  (H:cj Γ st pk x=some g):wN P V W st w pk v g:=by
 cases pk with
 |fn As B =>
  simp only[cj]at H;split at H
  ·rename_i Z z;have J:(∃ u,cz x=.clo Z.1 u/\Z.2=u.map λb=>Leaf.bp b 0)\/∃ u,cz x=.clr Z.1 u/\Z.2=u.map e9:=by
    generalize cz x=l at z;cases l <;> simp only[vQ,B3,reduceCtorEq]at z
    ·subst z;exact .inl ⟨_,rfl,rfl⟩
    ·subst z;exact .inr ⟨_,rfl,rfl⟩
   rcases J with ⟨u,J,he⟩|⟨u,J,he⟩
   ·obtain⟨y,_⟩:=ic Y X J (by simp);rw[he]at H;obtain⟨h1,h2,I,M⟩:=yB O hΓ h y.1 (qr u y.2) H;exact⟨⟨[],⟨rfl,h1⟩,by rw[I,M];rfl⟩,h2,by rw[I];simp,by rw[M];simp⟩
   ·obtain⟨y,_⟩:=ic Y X J (by simp);rw[he]at H;obtain⟨us,e1,e2,e3⟩:=y;obtain⟨h1,h2,I,M⟩:=yB O hΓ h e1 (rg e2 e3) H;exact⟨⟨[],⟨rfl,h1⟩,by rw[I,M];rfl⟩,h2,by rw[I];simp,by rw[M];simp⟩
  ·exact nC O h Y X H
 |_=>exact nC O h Y X H
end
section
variable {P:Program} {V:Env} {W:Wit} {st st':St} {w w':World} {a:Act}
theorem ja {G:Nat->Prop}{p:Bool}(hG:∀ k,G k->gd V W p k):∀ {b:Ty} {pos:Nat} {x:b.den} {cs:List Value} {bs:List Nat},Mx w G b none pos x cs bs->bs.Nodup ->
  ∃ Z:Nat->List Nat,(aq p b x).length=cs.length /\
   (∀ (j:Nat) (l:Leaf) (u:Value),(aq p b x)[j]?=some l->cs[j]?=some u->aK P V W st w (Z j) l u) /\
   (∀ (j:Nat) (l:Leaf),(aq p b x)[j]?=some l->ao l->∀ k∈Z j,k∈bs) /\
   (∀ (j O:Nat) (l l':Leaf),(aq p b x)[j]?=some l->ao l->(aq p b x)[O]?=some l'->ao l'->∀ k,k∈Z j->k∈Z O->j=O)
 |.int k,_,x,cs,bs,H,_=>by
  obtain⟨rfl,rfl⟩:=H;exact⟨λ_=>[],rfl,λj l u y R=>by cases j with|zero=>simp[aq]at y R;subst y;subst R;rfl|succ j=>simp[aq]at y,λj l y _ k r=>by simp at r,λj O l l' _ _ _ _ k r=>by simp at r⟩
 |.bool,_,x,cs,bs,H,_=>by
  obtain⟨rfl,rfl⟩:=H;exact⟨λ_=>[],rfl,λj l u y R=>by cases j with|zero=>simp[aq]at y R;subst y;subst R;rfl|succ j=>simp[aq]at y,λj l y _ k r=>by simp at r,λj O l l' _ _ _ _ k r=>by simp at r⟩
 |.str,_,x,cs,bs,H,_=>by
  obtain⟨rfl,rfl⟩:=H;exact⟨λ_=>[],rfl,λj l u y R=>by cases j with|zero=>simp[aq]at y R;subst y;subst R;rfl|succ j=>simp[aq]at y,λj l y _ k r=>by simp at r,λj O l l' _ _ _ _ k r=>by simp at r⟩
 |.unit,_,x,cs,bs,H,_=>by
  obtain⟨rfl,rfl⟩:=H;exact⟨λ_=>[],rfl,λj l u y R=>by simp[aq]at y,λj l y _ k r=>by simp at r,λj O l l' _ _ _ _ k r=>by simp at r⟩
 |.hdr,_,x,cs,bs,H,_=>by
  obtain⟨⟨A,a2,rfl⟩,rfl⟩:=H;exact⟨λ_=>[],rfl,λj l u y R=>by cases j with|zero=>simp[aq]at y R;subst y;subst R;exact⟨A,a2,rfl⟩|succ j=>simp[aq]at y,λj l y _ k r=>by simp at r,λj O l l' _ _ _ _ k r=>by simp at r⟩
 |.pair b c,pos,x,cs,bs,⟨c1,c2,b1,b2,e1,e2,y,R⟩,X=>by
  subst e1;subst e2;rw[Ch]at X;obtain⟨d1,f1,f2,f3,f4⟩:=ja hG y X.1;obtain⟨d2,g1,g2,g3,g4⟩:=ja hG R X.2.1;have a5:=cQ p b x.1;have a4:=y.len;have z:∀ (j:Nat) (l:Leaf),(aq p b x.1++aq p c x.2)[j]?=some l->(j<b.cells/\(aq p b x.1)[j]?=some l)\/(b.cells<=j/\(aq p c x.2)[j-b.cells]?=some l):=by
   intro j l I;by_cases J:j<b.cells
   ·rw[CA (by omega)]at I;exact .inl ⟨J,I⟩
   ·rw[B9 (by omega),a5]at I;exact .inr ⟨by omega,I⟩
  refine⟨λj=>if j<b.cells then d1 j else d2 (j-b.cells),by simp only[aq,CK];omega,λj l u I hu=>?_,λj l I ho k r=>?_,λj O l l' I ho Y a0 k r M=>?_⟩
  ·rcases z j l I with ⟨J,I⟩|⟨a3,I⟩
   ·rw[CA (by omega)]at hu;simp only[if_pos J];exact f2 j l u I hu
   ·rw[B9 (by omega),a4]at hu;simp only[if_neg (show ¬ j<b.cells by omega)];exact g2 _ l u I hu
  ·rcases z j l I with ⟨J,I⟩|⟨a3,I⟩
   ·simp only[if_pos J]at r;exact CC _ (f3 j l I ho k r)
   ·simp only[if_neg (show ¬ j<b.cells by omega)]at r;exact B7 _ (g3 _ l I ho k r)
  ·rcases z j l I with ⟨J,I⟩|⟨a3,I⟩ <;> rcases z O l' Y with ⟨a1,Y⟩|⟨a6,Y⟩
   ·simp only[if_pos J]at r;simp only[if_pos a1]at M;exact f4 j O l l' I ho Y a0 k r M
   ·simp only[if_pos J]at r;simp only[if_neg (show ¬ O<b.cells by omega)]at M;exact absurd rfl (X.2.2 k (f3 j l I ho k r) k (g3 _ l' Y a0 k M))
   ·simp only[if_neg (show ¬ j<b.cells by omega)]at r;simp only[if_pos a1]at M;exact absurd rfl (X.2.2 k (f3 O l' Y a0 k M) k (g3 _ l I ho k r))
   ·simp only[if_neg (show ¬ j<b.cells by omega)]at r;simp only[if_neg (show ¬ O<b.cells by omega)]at M;have:=g4 _ _ l l' I ho Y a0 k r M;omega
 |.list m E e,pos,xs,cs,bs,H,X=>by
  cases m with
  |false =>
   rw[cB]at H;obtain⟨rfl,A,a2,rfl,R,h3⟩:=H;refine⟨λ_=>[],rfl,λj l u y h4=>?_,λj l y _ k r=>by simp at r,λj O l l' _ _ _ _ k r=>by simp at r⟩;cases j with
   |zero =>
    simp[aq]at y h4;subst y;subst h4;exact Rd.mono hG (⟨A,a2,rfl,R,h3⟩:Rd w G (.list false E e) xs _)
   |succ j=>simp[aq]at y
  |true =>
   rw[bP (by simp)]at H;obtain⟨v,rfl,hO⟩:=H;refine⟨λ_=>bs,rfl,λj l u y h4=>?_,λj l y _ k r=>r,λj O l l' y _ h3 _ k _ _=>?_⟩
   ·cases j with
    |zero =>
     simp[aq]at y h4;subst y;subst h4;exact⟨X,OwB.shy (hO.carry hG (λ_ _=>rfl) (λ_ _=>rfl))⟩
    |succ j=>simp[aq]at y
   ·have h7:j<1:=by simpa[aq]using (B6.1 y).1
    have h8:O<1:=by simpa[aq]using (B6.1 h3).1
    omega
theorem ap.reown (hV:ay V)(h:ap P V W st a w)(r:Nat)(c:bX)(O:Nat->List Nat)(a3:(st r).ver<c.ver)(a1:c.sh=(st r).sh)(X:c.ls.length=(st r).ls.length)
  (a2:∀ (j:Nat) (l:Leaf) (v:Value),c.ls[j]?=some l->(W.cs r)[j]?=some v->aK P V W st w (O j) l v)
  (Y:∀ (j:Nat) (l:Leaf),c.ls[j]?=some l->ao l->∀ k∈O j,¬ W.nw k/\¬ V.prot k/\(∀ b,live st b->W.β b≠k) /\
   ∀ (r1 j1:Nat) (l1:Leaf),r1≠r->(st r1).ls[j1]?=some l1->ao l1->k∉W.bs r1 j1)
  (a4:∀ (j j':Nat) (l l':Leaf),c.ls[j]?=some l->ao l->c.ls[j']?=some l'->ao l'->∀ k,k∈O j->k∈O j'->j=j') :
  ap P V { W with bs:=λr' j=>if r'=r then O j else W.bs r' j } (ac [(r,c)] st) a w:=by
 have I:∀ b,live (ac [(r,c)] st) b<->live st b:=by
  intro b;rcases ak r b c st with ⟨rfl,e⟩|⟨_,e⟩
  ·simp[live,e,a1]
  ·simp[live,e]
 have a0:cL V W { W with bs:=λr' j=>if r'=r then O j else W.bs r' j } st (ac [(r,c)] st) w w:=by
  refine⟨λq=>?_,λb R=>⟨(I b).2 R,rfl⟩,λ_ h=>h,λ_ _=>rfl,λ_ q j' l' J h4 h5=>?_⟩
  ·rcases ak r q c st with ⟨rfl,e⟩|⟨y,e⟩
   ·rw[e];exact⟨Nat.le_of_lt a3,λ_=>rfl⟩
   ·rw[e];exact⟨CN _,λ_=>rfl⟩
  ·rcases ak r q c st with ⟨rfl,e⟩|⟨y,e⟩
   ·rw[e]at h5;omega
   ·rw[e]at J;exact⟨⟨l',J,h4⟩,by simp[y],λ_ _=>rfl⟩
 exact {
  nt:=h.nt,df:=h.df
  slots:=λt ht=>by
   rcases ak r t c st with ⟨rfl,e⟩|⟨_,e⟩
   ·rw[e,a1];exact h.slots t ht
   ·rw[e];exact h.slots t ht
  boxes:=λb R=>by
   rcases ak r b c st with ⟨rfl,e⟩|⟨_,e⟩
   ·rw[e,a1];rcases h.boxes b R with ⟨h1,z⟩|h1
    ·refine .inl ⟨h1,?_⟩;rw[z]at X;exact CO X
    ·exact .inr h1
   ·rw[e];exact h.boxes b R
  len:=λq=>by
   rcases ak r q c st with ⟨rfl,e⟩|⟨_,e⟩
   ·rw[e,X];exact h.len q
   ·rw[e];exact h.len q
  one:=h.one
  leaf:=λq j l u z J=>by
   rcases ak r q c st with ⟨rfl,e⟩|⟨y,e⟩
   ·rw[e]at z;exact (a2 j l u z J).carry hV.ro a0 (λ_=>⟨by simp,λ_ _=>rfl⟩)
   ·rw[e]at z;exact (h.leaf q j l u z J).carry hV.ro a0 (λ_=>⟨by simp[y],λ_ _=>rfl⟩)
  ownb:=λq j l z J k M=>by
   rcases ak r q c st with ⟨rfl,e⟩|⟨y,e⟩
   ·rw[e]at z;simp only[if_true]at M;have:=Y j l z J k M;exact⟨this.1,this.2.1,λb R=>this.2.2.1 b ((I b).1 R)⟩
   ·rw[e]at z;simp only[y,if_false]at M;have:=h.ownb q j l z J k M;exact⟨this.1,this.2.1,λb R=>this.2.2 b ((I b).1 R)⟩
  sep:=λq j l q' j' l' z J h4 h5 k M H=>by
   rcases ak r q c st with ⟨e0,e⟩|⟨y,e⟩ <;> rcases ak r q' c st with ⟨e1,e'⟩|⟨Z,e'⟩
   ·rw[e]at z;rw[e']at h4;simp only[e0,if_true]at M;simp only[e1,if_true]at H;exact⟨e0.trans e1.symm,a4 j j' l l' z J h4 h5 k M H⟩
   ·rw[e]at z;rw[e']at h4;simp only[e0,if_true]at M;simp only[Z,if_false]at H;exact absurd H ((Y j l z J k M).2.2.2 q' j' l' Z h4 h5)
   ·rw[e]at z;rw[e']at h4;simp only[y,if_false]at M;simp only[e1,if_true]at H;exact absurd M ((Y j' l' h4 h5 k H).2.2.2 q j l y z J)
   ·rw[e]at z;rw[e']at h4;simp only[y,if_false]at M;simp only[Z,if_false]at H;exact h.sep q j l q' j' l' z J h4 h5 k M H
  box:=λb R=>h.box b ((I b).1 R)
  inj:=λb b' R a5=>h.inj b b' ((I b).1 R) ((I b').1 a5)
  nwlt:=h.nwlt
  os:=h.os,tape:=h.tape,output:=h.output,size:=h.size,keep:=h.keep
  fixb:=λx hx=>⟨(I _).2 (h.fixb x hx).1,(h.fixb x hx).2⟩
  fixt:=h.fixt }
theorem ap.reownE (hV:ay V)(h:ap P V W st a w)(r:Nat)(c:bX)(M:Nat->List Nat)(a7:r≠EPO)(a2:(st r).ver<=c.ver)(a6:c.sh=(st r).sh)(a1:c.ls.length=(st r).ls.length)
  (a0:∀ (j:Nat) (l:Leaf) (v:Value),c.ls[j]?=some l->(W.cs r)[j]?=some v->aK P V W st w (M j) l v)
  (X:∀ (j:Nat) (l:Leaf),c.ls[j]?=some l->ao l->∀ k∈M j,¬ W.nw k/\¬ V.prot k/\(∀ b,live st b->W.β b≠k) /\
   ∀ (r1 j1:Nat) (l1:Leaf),r1≠r->(st r1).ls[j1]?=some l1->ao l1->k∉W.bs r1 j1)
  (a3:∀ (j j':Nat) (l l':Leaf),c.ls[j]?=some l->ao l->c.ls[j']?=some l'->ao l'->∀ k,k∈M j->k∈M j'->j=j') :
  ap P V { W with bs:=λr' j=>if r'=r then M j else W.bs r' j } (ac [(r,c),(EPO,b7 (st EPO))] st) a w /\
   (∀ q,(ac [(r,c),(EPO,b7 (st EPO))] st q).sh=(st q).sh/\(st q).ver<=(ac [(r,c),(EPO,b7 (st EPO))] st q).ver/\(q≠r->(ac [(r,c),(EPO,b7 (st EPO))] st q).ls=(st q).ls))/\ac [(r,c),(EPO,b7 (st EPO))] st r=c:=by
 have e0:ac [(r,c),(EPO,b7 (st EPO))] st=ac [(r,c)] (ac [(EPO,b7 (st EPO))] st):=aP _ _ _ _;generalize hS:ac [(r,c),(EPO,b7 (st EPO))] st=S;rw[e0]at hS;have hr:S r=c:=by rw[<- hS,bo]
 have O:∀ q,(S q).sh=(st q).sh/\(st q).ver<=(S q).ver/\(q≠r->(S q).ls=(st q).ls):=by
  intro q;rw[<- hS];rcases ak r q c (ac [(EPO,b7 (st EPO))] st) with ⟨rfl,e⟩|⟨a8,e⟩
  ·rw[e];exact⟨a6,a2,λh=>absurd rfl h⟩
  ·rw[e];rcases ak EPO q (b7 (st EPO)) st with ⟨rfl,e⟩|⟨_,e⟩ <;> rw[e]
   ·exact⟨rfl,Dp _,λ_=>rfl⟩
   ·exact⟨rfl,CN _,λ_=>rfl⟩
 have hE:(st EPO).ver<(S EPO).ver:=by
  rw[<- hS,aJ (Cq a7),bo];exact CF _
 refine⟨?_,O,hr⟩;have I:∀ b,live S b<->live st b:=λb=>by simp[live,(O b).1]
 have Y:cL V W { W with bs:=λr' j=>if r'=r then M j else W.bs r' j } st S w w :=
  ⟨λq=>⟨(O q).2.1,λ_=>rfl⟩,λb R=>⟨(I b).2 R,rfl⟩,λ_ h=>h,λ_ _=>rfl,λhe=>by omega⟩
 have a4:∀ q,(S q).ls.length=(st q).ls.length:=λq=>by
  by_cases y:q=r
  ·rw[y,hr,a1]
  ·rw[(O q).2.2 y]
 exact {
  nt:=h.nt,df:=h.df
  slots:=λt ht=>by rw[(O t).1];exact h.slots t ht
  boxes:=λb R=>by
   rw[(O b).1];rcases h.boxes b R with ⟨h1,z⟩|h1
   ·refine .inl ⟨h1,CO ?_⟩;rw[a4,z];rfl
   ·exact .inr h1
  len:=λq=>by rw[a4];exact h.len q
  one:=h.one
  leaf:=λq j l u z Z=>by
   by_cases y:q=r
   ·subst y;rw[hr]at z;exact (a0 j l u z Z).carry hV.ro Y (λ_=>⟨by simp,λ_ _=>rfl⟩)
   ·rw[(O q).2.2 y]at z;exact (h.leaf q j l u z Z).carry hV.ro Y (λ_=>⟨by simp[y],λ_ _=>rfl⟩)
  ownb:=λq j l z Z k J=>by
   by_cases y:q=r
   ·subst y;rw[hr]at z;simp only[if_true]at J;have:=X j l z Z k J;exact⟨this.1,this.2.1,λb R=>this.2.2.1 b ((I b).1 R)⟩
   ·rw[(O q).2.2 y]at z;simp only[y,if_false]at J;have:=h.ownb q j l z Z k J;exact⟨this.1,this.2.1,λb R=>this.2.2 b ((I b).1 R)⟩
  sep:=λq j l q' j' l' z Z h4 h5 k J H=>by
   by_cases e0:q=r <;> by_cases e1:q'=r
   ·subst e0;subst e1;rw[hr]at z h4;simp only[if_true]at J H;exact⟨rfl,a3 j j' l l' z Z h4 h5 k J H⟩
   ·subst e0;rw[hr]at z;rw[(O q').2.2 e1]at h4;simp only[if_true]at J;simp only[e1,if_false]at H;exact absurd H ((X j l z Z k J).2.2.2 q' j' l' e1 h4 h5)
   ·subst e1;rw[(O q).2.2 e0]at z;rw[hr]at h4;simp only[e0,if_false]at J;simp only[if_true]at H;exact absurd J ((X j' l' h4 h5 k H).2.2.2 q j l e0 z Z)
   ·rw[(O q).2.2 e0]at z;rw[(O q').2.2 e1]at h4;simp only[e0,if_false]at J;simp only[e1,if_false]at H;exact h.sep q j l q' j' l' z Z h4 h5 k J H
  box:=λb R=>h.box b ((I b).1 R)
  inj:=λb b' R a5=>h.inj b b' ((I b).1 R) ((I b').1 a5)
  nwlt:=h.nwlt
  os:=h.os,tape:=h.tape,output:=h.output,size:=h.size,keep:=h.keep
  fixb:=λx hx=>⟨(I _).2 (h.fixb x hx).1,(h.fixb x hx).2⟩
  fixt:=h.fixt }
theorem ap.nwGrow (O:ay V)(h:ap P V W st a w)(N:Nat->Prop)(M:∀ k,N k->k<w.heap.size/\¬ ck V W st k):ap P V { W with nw:=λk=>W.nw k\/N k } st a w:=by
 have I:cL V W { W with nw:=λk=>W.nw k\/N k } st st w w:=⟨λr=>⟨CN _,λ_=>rfl⟩,λb J=>⟨J,rfl⟩,λ_ h=>.inl h,λ_ _=>rfl,λ_ _ _ l y z _=>⟨⟨l,y,z⟩,rfl,λ_ _=>rfl⟩⟩
 exact {
  nt:=h.nt,df:=h.df,slots:=h.slots,boxes:=h.boxes,len:=h.len,one:=h.one
  leaf:=λr j l v y z=>(h.leaf r j l v y z).carry O.ro I (λ_=>⟨rfl,λ_ _=>rfl⟩)
  ownb:=λr j l y z k u=>⟨λH=>H.elim (h.ownb r j l y z k u).1 (λH=>(M k H).2 (.inr (.inr (.inr ⟨r,j,l,y,z,u⟩)))),(h.ownb r j l y z k u).2⟩
  sep:=h.sep
  box:=λb J=>⟨λH=>H.elim (h.box b J).1 (λH=>(M _ H).2 (.inr (.inr (.inl ⟨b,J,rfl⟩)))),(h.box b J).2⟩
  inj:=h.inj
  nwlt:=λk u=>u.elim (h.nwlt k) (λu=>⟨(M k u).1,λR=>(M k u).2 (.inr (.inl R))⟩)
  os:=h.os,tape:=h.tape,output:=h.output,size:=h.size,keep:=h.keep,fixb:=h.fixb,fixt:=h.fixt }
end
def eZ:List Leaf->List Leaf->List (Nat×Nat)
 |.al r j _::u,l::y=>(match l with|.own _ _ _ _ _=>[(r,j)]|_=>[])++eZ u y
 |_::u,_::y=>eZ u y
 |_,_=>[]
section
variable {P:Program} {V:Env} {st st':St} {w w':World} {a:Act}
theorem nE {x l:Leaf}{xs ls:List Leaf}(h:¬ ao l):eZ (x::xs) (l::ls)=eZ xs ls:=by
 cases x <;> try rfl
 cases l <;> first|exact absurd trivial h|rfl
theorem vB {k:IntKind}{ls:List Leaf}{x:Bool×(Ty.int k).den×List Leaf}(h:be st (.int k) ls=some x):∃ l,ls=l::x.2.2:=by
 simp only[be]at h;split at h
 ·split at h
  ·simp only[B3]at h;subst h;exact⟨_,rfl⟩
  ·cases h
 ·cases h
theorem tY {ls:List Leaf}{x:Bool×Ty.bool.den×List Leaf}(h:be st .bool ls=some x):∃ l,ls=l::x.2.2:=by
 simp only[be]at h;split at h
 ·simp only[B3]at h;subst h;exact⟨_,rfl⟩
 ·cases h
theorem vC {ls:List Leaf}{x:Bool×Ty.str.den×List Leaf}(h:be st .str ls=some x):∃ l,ls=l::x.2.2:=by
 simp only[be]at h;split at h
 ·simp only[B3]at h;subst h;exact⟨_,rfl⟩
 ·cases h
theorem vD {ls:List Leaf}{x:Bool×Ty.hdr.den×List Leaf}(h:be st .hdr ls=some x):∃ l,ls=l::x.2.2:=by
 simp only[be]at h;split at h
 ·split at h
  ·simp only[B3]at h;subst h;exact⟨_,rfl⟩
  ·cases h
 ·cases h
theorem lz {p:Bool}:∀ (b:Ty) (ls:List Leaf) (t:cS b.den),take st b ls=some t->∀ (y:b.den) (r:List Leaf),eZ ls (aq p b y++r)=t.kill++eZ t.rest r
 |.pair b c,ls,t,h,y,r=>by
  simp only[take]at h;split at h
  ·rename_i u z;split at h
   ·rename_i v J;simp only[B3]at h;subst h;simp only[aq];rw[CJ,lz b ls u z y.1,lz c u.rest v J y.2,CJ]
   ·cases h
  ·cases h
 |.unit,ls,t,h,y,r=>by
  simp only[take,B3]at h;subst h;rfl
 |.list m E e,ls,t,h,y,r=>by
  cases ls with
  |nil=>simp[take]at h
  |cons l ls =>
   cases m with
   |false =>
    simp only[take,cond_false]at h;split at h
    ·simp only[B3]at h;subst h;exact nE id
    ·cases h
   |true =>
    simp only[take,cond_true]at h;split at h
    ·split at h
     ·simp only[B4]at h;obtain⟨O,_,rfl⟩:=h;rfl
     ·cases h
    ·simp only[B3]at h;subst h;rfl
    ·cases h
 |.int k,ls,t,h,y,r=>scal (b:=.int k) h vB (l':=.int k y) id
 |.bool,ls,t,h,y,r=>scal (b:=.bool) h tY (l':=.bool y) id
 |.str,ls,t,h,y,r=>scal (b:=.str) h vC (l':=.str y) id
 |.hdr,ls,t,h,y,r=>scal (b:=.hdr) h vD (l':=.hdr y) id
where
 scal {b:Ty} {ls:List Leaf} {t:cS b.den} {l':Leaf} {r:List Leaf} (h:(be st b ls).map (λx=>(⟨false,x.2.1,[],[],x.2.2⟩:cS b.den))=some t)
   (H:∀ {ls:List Leaf} {x:Bool×b.den×List Leaf},be st b ls=some x->∃ l,ls=l::x.2.2) (I:¬ ao l'):eZ ls ([l']++r)=t.kill++eZ t.rest r:=by
  simp only[B4]at h;obtain⟨x,M,rfl⟩:=h;obtain⟨l,rfl⟩:=H M;exact nE I
theorem zK {W W':Wit}{bs:List Nat}{l:Leaf}{v:Value}(y:ao l)(u:W'.nw=W.nw)(h:aK P V W st w bs l v):aK P V W' st' w bs l v:=by
 cases l <;> simp only[ao]at y;exact OwH.carry h (λk r=>by
  rcases r with r|r
  ·exact .inl (by rw[u];exact r)
  ·exact .inr r) (λ_ _=>rfl) (λ_ _=>rfl)
theorem wO {S:St}{x l:Leaf}{xs ls:List Leaf}(h:¬ ao l):ac (ci S (x::xs) (l::ls)) S=ac (ci S xs ls) S:=by
 cases x <;> try rfl
 cases l <;> first|exact absurd trivial h|rfl
theorem kg {x:Nat×Nat}{l:List (Nat×Nat)}(h:bc (x::l)=true):x∉l/\bc l=true:=by
 simp only[bc,B5,CR,CY]at h;exact⟨λr=>by have:=h.1 x r;simp at this,h.2⟩
theorem Af (hV:ay V){W:Wit}{S:St}(h:ap P V W S a w):∀ (xl ls:List Leaf) (cs:List Value) (O:Nat->List Nat),bc (eZ xl ls)=true->(∀ x∈eZ xl ls,x.1≠EPO)->xl.length=cs.length->ls.length=cs.length ->
  (∀ (i r j n:Nat) (l:Leaf) (u:Value),xl[i]?=some (.al r j n)->ls[i]?=some l->ao l->cs[i]?=some u->(W.cs r)[j]?=some u) ->
  (∀ x∈eZ xl ls,∀ l,(S x.1).ls[x.2]?=some l->¬ ao l) ->
  (∀ (i:Nat) (l:Leaf) (u:Value),ls[i]?=some l->cs[i]?=some u->aK P V W S w (O i) l u) ->
  (∀ (i:Nat) (l:Leaf),ls[i]?=some l->ao l->∀ k∈O i,¬ ck V W S k) ->
  (∀ (i i':Nat) (l l':Leaf),ls[i]?=some l->ao l->ls[i']?=some l'->ao l'->∀ k,k∈O i->k∈O i'->i=i') ->
  ∃ W',ap P V W' (ac (ci S xl ls) S) a w/\W'.cs=W.cs/\W'.β=W.β/\W'.nw=W.nw/\(∀ q,(ac (ci S xl ls) S q).sh=(S q).sh/\(S q).ver<=(ac (ci S xl ls) S q).ver) /\
   (∀ (q i:Nat),(q,i)∉eZ xl ls->(ac (ci S xl ls) S q).ls[i]?=(S q).ls[i]?/\W'.bs q i=W.bs q i) /\
   (∀ k,ck V W' (ac (ci S xl ls) S) k->ck V W S k\/∃ i l,ls[i]?=some l/\ao l/\k∈O i)
 |[],ls,cs,O,_,_,hx,hl,_,_,_,_,_=>⟨W,h,rfl,rfl,rfl,λ_=>⟨rfl,CN _⟩,λ_ _ _=>⟨rfl,rfl⟩,λk R=>.inl R⟩
 |x::X,[],cs,O,_,_,hx,hl,_,_,_,_,_=>by simp at hx hl;omega
 |x::X,l::ls,[],O,_,_,hx,hl,_,_,_,_,_=>by simp at hx
 |x::X,l::ls,u::cs,O,hd,b2,hx,hl,b6,b3,a2,a3,a8=>by
  have b1:bc (eZ X ls)=true:=by
   cases x with
   |al r j n =>
    cases l with
    |own p hh E e ys=>exact (kg hd).2
    |_=>exact hd
   |_=>exact hd
  have a9:∀ z∈eZ X ls,z∈eZ (x::X) (l::ls):=by
   intro z hz;cases x with
   |al r j n=>exact B7 _ hz
   |_=>exact hz
  obtain⟨W1,h1,e1,e2,e3,e4,e5,e6⟩:=Af hV h X ls cs (λi=>O (i+1)) b1 (λz hz=>b2 z (a9 z hz)) (by simpa using hx) (by simpa using hl)
   (λi r j n l' u' J I M g4=>b6 (i+1) r j n l' u' (by simpa using J) (by simpa using I) M (by simpa using g4))
   (λz hz=>b3 z (a9 z hz)) (λi l' u' J I=>a2 (i+1) l' u' (by simpa using J) (by simpa using I))
   (λi l' J I=>a3 (i+1) l' (by simpa using J) I)
   (λi i' l1 l2 J I M g4 k g5 g6=>by have:=a8 (i+1) (i'+1) l1 l2 (by simpa using J) I (by simpa using M) g4 k g5 g6;omega)
  by_cases hs:¬ ao l\/(∀ r j n,x≠.al r j n)
  ·have a7:ac (ci S (x::X) (l::ls)) S=ac (ci S X ls) S/\eZ (x::X) (l::ls)=eZ X ls:=by
    rcases hs with hs|hs
    ·exact⟨wO hs,nE hs⟩
    ·cases x with
     |al r j n=>exact absurd rfl (hs r j n)
     |_=>exact⟨rfl,rfl⟩
   rw[a7.1,a7.2];exact⟨W1,h1,e1,e2,e3,e4,e5,λk R=>(e6 k R).imp id λ⟨i,l',J,I,M⟩=>⟨i+1,l',by simpa using J,I,M⟩⟩
  ·simp only[not_or,Classical.not_not]at hs;obtain⟨bb,b9⟩:=hs;obtain⟨r,j,n,rfl⟩:∃ r j n,x=.al r j n:=by
    cases x with
    |al r j n=>exact⟨r,j,n,rfl⟩
    |_=>exact absurd (λ_ _ _ h=>by cases h) b9
   obtain⟨p,hh,E,e,ys,rfl⟩:∃ p hh E e ys,l=.own p hh E e ys:=by
    cases l <;> simp only[ao]at bb;exact⟨_,_,_,_,_,rfl⟩
   have b0:eZ (.al r j n::X) (.own p hh E e ys::ls)=(r,j)::eZ X ls:=rfl;rw[b0]at hd b3;obtain⟨bn,bl⟩:=kg hd;have hv:=b6 0 r j n _ u rfl rfl trivial rfl;have a7:ac (ci S (.al r j n::X) (.own p hh E e ys::ls)) S=ac [(r,⟨(ac (ci S X ls) S r).ver,(ac (ci S X ls) S r).sh,aT (ac (ci S X ls) S r).ls j (.own p hh E e ys)⟩),(EPO,b7 (ac (ci S X ls) S EPO))] (ac (ci S X ls) S):=bG [_,_] _ _;have a6:aK P V W1 (ac (ci S X ls) S) w (O 0) (.own p hh E e ys) u:=zK trivial e3 (a2 0 _ u rfl rfl);have Y:∀ k∈O 0,¬ ck V W1 (ac (ci S X ls) S) k:=λk R hu=>by
    rcases e6 k hu with hu|⟨i,l',J,I,M⟩
    ·exact a3 0 _ rfl trivial k R hu
    ·have:=a8 0 (i+1) _ l' rfl trivial (by simpa using J) I k R M;omega
   have H:∀ (i:Nat) (l':Leaf),i≠j->(aT (ac (ci S X ls) S r).ls j (.own p hh E e ys))[i]?=some l'->(ac (ci S X ls) S r).ls[i]?=some l':=by
    intro i l' a5 Z;rcases aR _ _ _ _ _ Z with ⟨rfl,_,_⟩|⟨_,Z⟩
    ·exact absurd rfl a5
    ·exact Z
   have b4:∀ (l':Leaf),(aT (ac (ci S X ls) S r).ls j (.own p hh E e ys))[j]?=some l'->l'=.own p hh E e ys:=by
    intro l' Z;rcases aR _ _ _ _ _ Z with ⟨_,rfl,_⟩|⟨a5,_⟩
    ·rfl
    ·exact absurd rfl a5
   have ba:r≠EPO:=b2 (r,j) (by rw[b0];exact CP ..);obtain⟨h2,a4,b5⟩:=h1.reownE hV r ⟨(ac (ci S X ls) S r).ver,(ac (ci S X ls) S r).sh,aT (ac (ci S X ls) S r).ls j (.own p hh E e ys)⟩ (λi=>if i=j then O 0 else W1.bs r i) ba (CN _) rfl (by simp[aT])
    (λi l' v' J I=>by
     by_cases y:i=j
     ·subst y;obtain rfl:=b4 l' J;rw[e1,hv]at I;simp only[B3]at I;subst I;simp only[if_true];exact a6
     ·simp only[if_neg y];exact h1.leaf r i l' v' (H i l' y J) I)
    (λi l' J I k R=>by
     by_cases y:i=j
     ·subst y;simp only[if_true]at R;have hu:=Y k R;simp only[ck,not_or,not_exists,not_and]at hu;exact⟨hu.1,hu.2.1,hu.2.2.1,λr1 j1 l1 _ M g4 g5=>hu.2.2.2 r1 j1 l1 M g4 g5⟩
     ·simp only[if_neg y]at R;have Z:=H i l' y J;have h9:=h1.ownb r i l' Z I k R;exact⟨h9.1,h9.2.1,h9.2.2,λr1 j1 l1 a5 M g4 g5=>a5 (h1.sep r i l' r1 j1 l1 Z I M g4 k R g5).1.symm⟩)
    (λi i' l1 l2 J I M g4 k R a1=>by
     by_cases y:i=j <;> by_cases a0:i'=j
     ·omega
     ·subst y;simp only[if_true]at R;simp only[if_neg a0]at a1;exact absurd (.inr (.inr (.inr ⟨r,i',l2,H i' l2 a0 M,g4,a1⟩))) (Y k R)
     ·subst a0;simp only[if_true]at a1;simp only[if_neg y]at R;exact absurd (.inr (.inr (.inr ⟨r,i,l1,H i l1 y J,I,R⟩))) (Y k a1)
     ·simp only[if_neg y]at R;simp only[if_neg a0]at a1;exact (h1.sep r i l1 r i' l2 (H i l1 y J) I (H i' l2 a0 M) g4 k R a1).2)
   rw[a7];refine⟨_,h2,e1,e2,e3,λq=>?_,λq i hq=>?_,λk R=>?_⟩
   ·exact⟨(a4 q).1.trans (e4 q).1,Ci (e4 q).2 (a4 q).2.1⟩
   ·rw[b0]at hq;simp only[Cs,not_or]at hq;by_cases ad:q=r
    ·subst ad;rw[b5];have y:j≠i:=λe0=>hq.1 (by rw[e0])
     simp only[aT];rw[Cp y];refine⟨(e5 q i hq.2).1,?_⟩;simp only[if_true,if_neg (Cq y)];exact (e5 q i hq.2).2
    ·rw[(a4 q).2.2 ad];refine⟨(e5 q i hq.2).1,?_⟩;show (if q=r then _ else W1.bs q i)=_;rw[if_neg ad];exact (e5 q i hq.2).2
   ·rcases R with R|R|⟨b,hb,R⟩|⟨q,i,l',J,I,M⟩
    ·exact .inl (.inl (by rw[<- e3];exact R))
    ·exact .inl (.inr (.inl R))
    ·refine (e6 k (.inr (.inr (.inl ⟨b,?_,R⟩)))).imp id λ⟨i,l',J,I,M⟩=>⟨i+1,l',by simpa using J,I,M⟩
     exact (iS (λq=>(a4 q).1) b).1 hb
    ·by_cases hq:q=r
     ·subst hq;rw[b5]at J;simp only[if_true]at M;by_cases y:i=j
      ·subst y;simp only[if_true]at M;exact .inr ⟨0,_,rfl,trivial,M⟩
      ·simp only[if_neg y]at M;exact (e6 k (.inr (.inr (.inr ⟨q,i,l',H i l' y J,I,M⟩)))).imp id λ⟨i,l',J,I,M⟩=>⟨i+1,l',by simpa using J,I,M⟩
     ·rw[(a4 q).2.2 hq]at J;simp only[if_neg hq]at M;exact (e6 k (.inr (.inr (.inr ⟨q,i,l',J,I,M⟩)))).imp id λ⟨i,l',J,I,M⟩=>⟨i+1,l',by simpa using J,I,M⟩
end
def PK.isIop:PK->Bool
 |.iop _=>true
 |_=>false
section
variable {P:Program} {V:Env} {Γ:List Ctr} {st st':St} {w w':World} {a:Act}
theorem li:∀ {a b:List (Nat×Nat)},bc (a++b)=true->bc a=true/\bc b=true/\∀ x∈a,x∉b
 |[],b,h=>⟨rfl,h,by simp⟩
 |x::a,b,h=>by
  obtain⟨u,H⟩:=kg h;obtain⟨J,O,R⟩:=li H;refine⟨?_,O,λy r z=>?_⟩
  ·simp only[bc,B5,CR,CY];refine⟨λy r I=>u (CC _ ?_),J⟩;obtain⟨M,X⟩:x.1=y.1/\x.2=y.2:=by simpa using I
   rw[show x=y from D5 M X];exact r
  ·rcases Cs.1 r with rfl|r
   ·exact u (B7 _ z)
   ·exact R y r z
theorem kA {p:Bool}:∀ (b:Ty) (ls:List Leaf) (t:cS b.den),take st b ls=some t->∀ (y:b.den) (i r j n:Nat) (l:Leaf),ls[i]?=some (.al r j n)->(aq p b y)[i]?=some l->ao l->(st r).ver=n
 |.pair b c,ls,t,h,y,i,r,j,n,l,I,z,J=>by
  simp only[take]at h;split at h
  ·rename_i u M;split at h
   ·rename_i v O;simp only[aq]at z;have X:=cQ p b y.1;by_cases hi:i<b.cells
    ·rw[CA (by omega)]at z;exact kA b ls u M y.1 i r j n l I z J
    ·rw[B9 (by omega),X]at z;have R:=take_rest b ls u M;refine kA c u.rest v O y.2 (i-b.cells) r j n l ?_ z J;rw[R,Ct,show b.cells+(i-b.cells)=i by omega];exact I
   ·cases h
  ·cases h
 |.list m E e,ls,t,h,y,i,r,j,n,l,I,z,J=>by
  cases m with
  |false =>
   cases i with
   |zero=>simp[aq]at z;subst z;exact J.elim
   |succ i=>simp[aq]at z
  |true =>
   cases i with
   |succ i=>simp[aq]at z
   |zero =>
    cases ls with
    |nil=>simp at I
    |cons l' ls =>
     simp only[Cu,B3]at I;subst I;simp only[take,cond_true]at h;split at h
     ·rename_i Y;exact (fC Y (by simp)).1
     ·cases h
 |.int k,ls,t,h,y,i,r,j,n,l,I,z,J=>by
  cases i with
  |zero=>simp[aq]at z;subst z;exact J.elim
  |succ i=>simp[aq]at z
 |.bool,ls,t,h,y,i,r,j,n,l,I,z,J=>by
  cases i with
  |zero=>simp[aq]at z;subst z;exact J.elim
  |succ i=>simp[aq]at z
 |.str,ls,t,h,y,i,r,j,n,l,I,z,J=>by
  cases i with
  |zero=>simp[aq]at z;subst z;exact J.elim
  |succ i=>simp[aq]at z
 |.hdr,ls,t,h,y,i,r,j,n,l,I,z,J=>by
  cases i with
  |zero=>simp[aq]at z;subst z;exact J.elim
  |succ i=>simp[aq]at z
 |.unit,ls,t,h,y,i,r,j,n,l,I,z,J=>by simp[aq]at z
where
 take_rest:∀ (b:Ty) (ls:List Leaf) (t:cS b.den),take st b ls=some t->t.rest=ls.drop b.cells
  |.pair b c,ls,t,h=>by
   simp only[take]at h;split at h
   ·rename_i u M;split at h
    ·rename_i v O;simp only[B3]at h;subst h;show v.rest=_;rw[take_rest c u.rest v O,take_rest b ls u M,List.drop_drop];rfl
    ·cases h
   ·cases h
  |.unit,ls,t,h=>by
   simp only[take,B3]at h;subst h;rfl
  |.list m E e,ls,t,h=>by
   cases ls with
   |nil=>simp[take]at h
   |cons l ls =>
    cases m with
    |false =>
     simp only[take,cond_false]at h;split at h
     ·simp only[B3]at h;subst h;rfl
     ·cases h
    |true =>
     simp only[take,cond_true]at h;split at h
     ·split at h
      ·simp only[B4]at h;obtain⟨xs,_,rfl⟩:=h;rfl
      ·cases h
     ·simp only[B3]at h;subst h;rfl
     ·cases h
  |.int k,ls,t,h=>sc (b:=.int k) h vB rfl
  |.bool,ls,t,h=>sc (b:=.bool) h tY rfl
  |.str,ls,t,h=>sc (b:=.str) h vC rfl
  |.hdr,ls,t,h=>sc (b:=.hdr) h vD rfl
 sc {b:Ty} {ls:List Leaf} {t:cS b.den} (h:(be st b ls).map (λx=>(⟨false,x.2.1,[],[],x.2.2⟩:cS b.den))=some t)
   (H:∀ {ls:List Leaf} {x:Bool×b.den×List Leaf},be st b ls=some x->∃ l,ls=l::x.2.2) (I:b.cells=1):t.rest=ls.drop b.cells:=by
  simp only[B4]at h;obtain⟨x,Z,rfl⟩:=h;obtain⟨l,rfl⟩:=H Z;rw[I];rfl
theorem wP {agg:Bool}{v:Value}{y z:List Value}(u:dn agg v y)(r:dn agg v z):y=z:=by
 unfold dn at u r;cases agg with
 |true =>
  simp only[if_true]at u r;rw[u]at r;simpa using r
 |false =>
  simp only[Bool.false_eq_true,if_false]at u r;rw[u,r]
theorem rh (hV:ay V){W0 W:Wit}{S0 S:St}{w0:World}{G:Nat->Prop}{p:Bool}(a6:W.cs=W0.cs)(hG:∀ k,G k->gd V W p k)(h:ap P V W S a w) :
  ∀ (ps:List PK) (xs:List (aI×List Leaf)) (vs:List Value) (g:Got (ab ps)) (o:ah ps) (H:List (List Nat)),ik P V W0 S0 w0 xs vs->bf (cj Γ S0) ps xs=some g->ps.any PK.isIop=false ->
  bS w G ps o vs H->bc g.kill=true->(∀ x∈g.kill,x.1≠EPO)->(∀ x∈g.kill,∀ l,(S x.1).ls[x.2]?=some l->¬ ao l)->(∀ k∈H.flatten,¬ ck V W S k)->H.flatten.Nodup ->
  ∃ W',ap P V W' (ac (aH S p ps xs o) S) a w/\W'.cs=W.cs/\W'.β=W.β/\W'.nw=W.nw/\(∀ q,(ac (aH S p ps xs o) S q).sh=(S q).sh/\(S q).ver<=(ac (aH S p ps xs o) S q).ver) /\
   (∀ q i,(q,i)∉g.kill->(ac (aH S p ps xs o) S q).ls[i]?=(S q).ls[i]?/\W'.bs q i=W.bs q i)/\(∀ k,ck V W' (ac (aH S p ps xs o) S) k->ck V W S k\/k∈H.flatten)
 |[],xs,vs,g,o,H,_,_,_,_,_,_,_,_,_=>⟨W,h,rfl,rfl,rfl,λ_=>⟨rfl,CN _⟩,λ_ _ _=>⟨rfl,rfl⟩,λk R=>.inl R⟩
 |pk::ps,[],vs,g,o,H,_,hg,_,_,_,_,_,_,_=>by simp[bf]at hg
 |pk::ps,x::xs,vs,g,o,H,hx,hg,hp,ho,hd,a3,a4,O,a0=>by
  obtain⟨v,a5,cs,rfl,hs,hl,a1⟩:=hx;simp only[bf]at hg;split at hg
  ·rename_i g1 a2;split at hg
   ·rename_i g2 a8;simp only[B3]at hg;subst hg;simp only[C0,DU]at hp;obtain⟨b9,a7,b6⟩:=li hd;have J:∀ (o':ah ps) (b:List Nat) (M:List (List Nat)),H=b::M->b=[]->bS w G ps o' a5 M->aH S p (pk::ps) (x::xs) o=aH S p ps xs o' ->
      ∃ W',ap P V W' (ac (aH S p (pk::ps) (x::xs) o) S) a w/\W'.cs=W.cs/\W'.β=W.β/\W'.nw=W.nw/\(∀ q,(ac (aH S p (pk::ps) (x::xs) o) S q).sh=(S q).sh/\(S q).ver<=(ac (aH S p (pk::ps) (x::xs) o) S q).ver) /\
       (∀ q i,(q,i)∉g1.kill++g2.kill->(ac (aH S p (pk::ps) (x::xs) o) S q).ls[i]?=(S q).ls[i]?/\W'.bs q i=W.bs q i)/\(∀ k,ck V W' (ac (aH S p (pk::ps) (x::xs) o) S) k->ck V W S k\/k∈H.flatten):=by
     intro o' b M e1 e2 b3 e3;subst e1;subst e2;rw[e3];obtain⟨W1,f1,f2,f3,f4,f5,f6,f7⟩:=rh hV a6 hG h ps xs a5 g2 o' M a1 a8 hp.2 b3 a7 (λz Z=>a3 z (B7 _ Z)) (λz Z=>a4 z (B7 _ Z)) (λk R=>O k (by simpa using R)) (by simpa using a0);exact⟨W1,f1,f2,f3,f4,f5,λq i hq=>f6 q i (λhm=>hq (B7 _ hm)),λk R=>(f7 k R).imp id (λhm=>by simpa using hm)⟩
    cases pk with
    |io b =>
     match H,ho with
     |Y::M,⟨y,I⟩ =>
      simp only[CQ]at a0 O;rw[Ch]at a0;obtain⟨W1,f1,f2,f3,f4,f5,f6,f7⟩:=rh hV a6 hG h ps xs a5 g2 o.2 M a1 a8 hp.2 I a7 (λz Z=>a3 z (B7 _ Z)) (λz Z=>a4 z (B7 _ Z)) (λk R=>O k (B7 _ R)) a0.2.1;simp only[cj,bj]at a2;cases hb:decide (x.1=bm b.isAgg) with
      |false=>simp[hb]at a2
      |true =>
       rw[hb]at a2;simp only[cond_true,B4]at a2;obtain⟨t,ht,rfl⟩:=a2;rw[of_decide_eq_true hb]at hs;unfold jL at y;rw[if_neg (by simp)]at y;obtain⟨a9,b2,hm⟩:=y;have:=wP b2 (gQ hs);subst this;obtain⟨b4,m1,m2,m3,m4⟩:=ja (P:=P) (V:=V) (W:=W1) (st:=ac (aH S p ps xs o.2) S) (p:=p) (λk R=>by
        rcases hG k R with R|R
        ·exact .inl (by rw[f4];exact R)
        ·exact .inr R) hm a0.1
       unfold co at ht;split at ht
       ·rename_i p0 x0 f0 k0 b0;simp only[B3]at ht;subst ht;have X:=lz (p:=p) b x.2 _ b0 o.1 [];simp only[CT]at X;have X:eZ x.2 (aq p b o.1)=k0:=by
         rw[X];show k0++eZ [] []=k0;simp[eZ]
        obtain⟨W2,q1,q2,q3,q4,q5,q6,q7⟩:=Af hV f1 x.2 (aq p b o.1) a9 b4 (by rw[X];exact b9) (λz Z=>a3 z (CC _ (by rw[X]at Z;exact Z))) hl.length m1
         (λi r j n l u g3 g4 g5 g6=>by
          have h5:=(hl.at_ i _ u g3 g6).1;rw[f2,a6];exact h5.2 (kA b x.2 _ b0 o.1 i r j n l g3 g4 g5))
         (λz Z l b1=>by
          rw[X]at Z;rw[(f6 z.1 z.2 (b6 z Z)).1]at b1;exact a4 z (CC _ Z) l b1)
         m2
         (λi l g3 g4 k R hu=>by
          have ad:=m3 i l g3 g4 k R;rcases f7 k hu with hu|hu
          ·exact O k (CC _ ad) hu
          ·exact a0.2.2 k ad k hu rfl) m4
        have b5:ac (aH S p (.io b::ps) (x::xs) o) S=ac (ci (ac (aH S p ps xs o.2) S) x.2 (aq p b o.1)) (ac (aH S p ps xs o.2) S):=bG _ _ _;rw[b5];rw[X]at q6;refine⟨W2,q1,q2.trans f2,q3.trans f3,q4.trans f4,λq=>⟨(q5 q).1.trans (f5 q).1,Ci (f5 q).2 (q5 q).2⟩,λq i hq=>?_,λk R=>?_⟩
        ·simp only[CE,not_or]at hq;exact⟨(q6 q i hq.1).1.trans (f6 q i hq.2).1,(q6 q i hq.1).2.trans (f6 q i hq.2).2⟩
        ·rcases q7 k R with R|⟨i,l,g3,g4,g5⟩
         ·exact (f7 k R).imp id (λhm=>B7 _ hm)
         ·exact .inr (CC _ (m3 i l g3 g4 k g5))
       ·cases ht
    |iop b=>simp[PK.isIop]at hp
    |rd b =>
     match H,ho with
     |Y::M,⟨y,I⟩=>exact J o Y M rfl y I rfl
    |own b =>
     match H,ho with
     |Y::M,⟨y,I⟩=>exact J o Y M rfl y I rfl
    |rref b =>
     match H,ho with
     |Y::M,⟨y,I⟩=>exact J o Y M rfl y I rfl
    |rref2 b =>
     match H,ho with
     |Y::M,⟨y,I⟩=>exact J o Y M rfl y I rfl
    |fn As B =>
     match H,ho with
     |Y::M,⟨y,I⟩=>exact J o Y M rfl y I rfl
    |clo f a9 =>
     match H,ho with
     |Y::M,⟨y,I⟩=>exact J o Y M rfl y I rfl
    |hol b cc off =>
     match H,ho with
     |Y::M,⟨y,I⟩=>exact J o Y M rfl y I rfl
   ·cases hg
  ·cases hg
end
section
variable {P:Program} {V:Env} {W:Wit} {st:St} {w:World} {a:Act}
theorem oL {G ro:Nat->Prop}{p q:Bool}{ks:List (Nat×Nat×Nat)}{ep:Nat}(hG:∀ k,G k->gd V W p k)(d n:Nat) :
  ∀ (O:List RK) (y:ai O) (us:List Value) (Z:List (List Nat)),
  (O.any RK.isBv=true->(∀ k,G k\/ro k->gd V W q k\/∃ x∈ks,k∈W.bs x.1 x.2.1)/\ep<=(st EPO).ver/\(∀ k∈ks,k.2.2<=(st k.1).ver))->gP w G ro O y us Z->O.all RK.isV=true->Z.flatten.Nodup ->
  (bH d n p q ks ep O y).2=[]/\∃ (cs:List Value) (a2:Nat->List Nat),pN ((bH d n p q ks ep O y).1.map λx=>(x.1,x.2.length)) us cs/\(((bH d n p q ks ep O y).1.map (·.2)).flatten).length=cs.length/\(∀ u∈cs,u.oneCell'=true) /\
   (∀ (j:Nat) (l:Leaf) (u:Value),(((bH d n p q ks ep O y).1.map (·.2)).flatten)[j]?=some l->cs[j]?=some u->aK P V W st w (a2 j) l u) /\
   (∀ (j:Nat) (l:Leaf),(((bH d n p q ks ep O y).1.map (·.2)).flatten)[j]?=some l->ao l->∀ k∈a2 j,k∈Z.flatten) /\
   (∀ (j Y:Nat) (l l':Leaf),(((bH d n p q ks ep O y).1.map (·.2)).flatten)[j]?=some l->ao l->(((bH d n p q ks ep O y).1.map (·.2)).flatten)[Y]?=some l'->ao l'->∀ k,k∈a2 j->k∈a2 Y->j=Y)
 |[],y,us,Z,_,⟨e1,e2⟩,_,_=>by
  subst e1;subst e2;exact⟨rfl,[],λ_=>[],⟨rfl,rfl⟩,rfl,by simp,λj l u h1 h2=>by simp at h2,λj l h1 h2 k J=>by simp at J,λj Y l l' _ _ _ _ k J=>by simp at J⟩
 |r::O,y,us,Z,hB,⟨u0,a7,b,a8,e1,e2,hr,a4⟩,hv,a0=>by
  subst e1;subst e2;simp only[DY,B5]at hv;rw[CQ,Ch]at a0;obtain⟨f0,a5,d2,f1,f2,b4,f3,f4,f5⟩:=oL (ks:=ks) (q:=q) (ep:=ep) hG d n O y.2 a7 a8 (λhb=>hB (by simp[hb])) a4 hv.2 a0.2.1;obtain⟨agg,L,I,d1,g0,b0,g1,g2,ad,g3,g4,g5⟩:∃ (agg:Bool) (L:List Leaf) (I:List Value) (d1:Nat->List Nat),(pJ d n p q ks ep r y.1).1=(agg,L)/\(pJ d n p q ks ep r y.1).2=[]/\dn agg u0 I/\L.length=I.length/\(∀ u∈I,u.oneCell'=true) /\
    (∀ (j:Nat) (l:Leaf) (u:Value),L[j]?=some l->I[j]?=some u->aK P V W st w (d1 j) l u)/\(∀ (j:Nat) (l:Leaf),L[j]?=some l->ao l->∀ k∈d1 j,k∈b) /\
    (∀ (j Y:Nat) (l l':Leaf),L[j]?=some l->ao l->L[Y]?=some l'->ao l'->∀ k,k∈d1 j->k∈d1 Y->j=Y):=by
   cases r with
   |v c =>
    obtain⟨I,h1,h2⟩:=hr;obtain⟨d1,m1,m2,m3,m4⟩:=ja (P:=P) (V:=V) (W:=W) (st:=st) (p:=p) hG h2 a0.1;exact⟨c.isAgg,_,I,d1,rfl,rfl,h1,m1,h2.one,m2,m3,m4⟩
   |bv c =>
    obtain⟨_,I,h1,h2⟩:=hr;obtain⟨b1,b3,b5⟩:=hB (by simp[RK.isBv]);have h3:=km (P:=P) (V:=V) (W:=W) (st:=st) (p:=q) b3 b5 (h2.mono b1);exact⟨c.isAgg,_,I,λ_=>[],rfl,rfl,h1,h3.length,h2.one,λj l u g1 g2=>(h3.at_ j l u g1 g2).1,λj l _ _ k J=>by simp at J,λj Y l l' _ _ _ _ k J=>by simp at J⟩
   |box c=>simp[RK.isV]at hv
  have b2:(bH d n p q ks ep (r::O) y).1=(agg,L)::(bH d n p q ks ep O y.2).1:=by simp only[bH,g0]
  have a9:(bH d n p q ks ep (r::O) y).2=[]:=by simp only[bH,b0,f0,CT]
  rw[b2];simp only[D4,CQ];have z:∀ (j:Nat) (l:Leaf),(L++((bH d n p q ks ep O y.2).1.map (·.2)).flatten)[j]?=some l->(j<L.length/\L[j]?=some l)\/(L.length<=j/\(((bH d n p q ks ep O y.2).1.map (·.2)).flatten)[j-L.length]?=some l):=by
   intro j l H;by_cases M:j<L.length
   ·rw[CA M]at H;exact .inl ⟨M,H⟩
   ·rw[B9 (by omega)]at H;exact .inr ⟨by omega,H⟩
  refine⟨a9,I++a5,λj=>if j<L.length then d1 j else d2 (j-L.length),⟨u0,a7,I,a5,rfl,rfl,g2.symm,g1,f1⟩,by rw[CK,CK,g2,f2],λu hu=>(CE.1 hu).elim (ad u) (b4 u),λj l u H hu=>?_,λj l H ho k J=>?_,λj Y l l' H ho X a1 k J R=>?_⟩
  ·rcases z j l H with ⟨M,H⟩|⟨a6,H⟩
   ·rw[CA (by omega)]at hu;simp only[if_pos M];exact g3 j l u H hu
   ·rw[B9 (by omega),<- g2]at hu;simp only[if_neg (show ¬ j<L.length by omega)];exact f3 _ l u H hu
  ·rcases z j l H with ⟨M,H⟩|⟨a6,H⟩
   ·simp only[if_pos M]at J;exact CC _ (g4 j l H ho k J)
   ·simp only[if_neg (show ¬ j<L.length by omega)]at J;exact B7 _ (f4 _ l H ho k J)
  ·rcases z j l H with ⟨M,H⟩|⟨a6,H⟩ <;> rcases z Y l' X with ⟨a3,X⟩|⟨b6,X⟩
   ·simp only[if_pos M]at J;simp only[if_pos a3]at R;exact g5 j Y l l' H ho X a1 k J R
   ·simp only[if_pos M]at J;simp only[if_neg (show ¬ Y<L.length by omega)]at R;exact absurd rfl (a0.2.2 k (g4 j l H ho k J) k (f4 _ l' X a1 k R))
   ·simp only[if_neg (show ¬ j<L.length by omega)]at J;simp only[if_pos a3]at R;exact absurd rfl (a0.2.2 k (g4 Y l' X a1 k R) k (f4 _ l H ho k J))
   ·simp only[if_neg (show ¬ j<L.length by omega)]at J;simp only[if_neg (show ¬ Y<L.length by omega)]at R;have:=f5 _ _ l l' H ho X a1 k J R;omega
theorem BN {l:List (Bool×List Leaf)}{us cs:List Value}{v:Value}(n:Nat)(h:pN (l.map λx=>(x.1,x.2.length)) us cs)(z:sM us v) :
  ey (fa n l).sh v cs/\(fa n l).ls=(l.map (·.2)).flatten/\(fa n l).ver=n:=by
 match l,us,h with
 |[],_,⟨y,H⟩ =>
  subst y;subst H;exact⟨⟨[],z,rfl,rfl⟩,rfl,rfl⟩
 |[(agg,L)],_,⟨u,r,c,Z,y,H,h1,O,X,Y⟩ =>
  subst y;subst H;subst X;subst Y;have z:v=u:=z;subst z;refine⟨?_,by simp[fa],rfl⟩;simp only[fa,CT];exact ky O
 |x::x'::l,us,h =>
  refine⟨?_,rfl,rfl⟩;have I:∃ u M r,us=u::M::r:=by
   obtain⟨u,r,_,_,y,_,_,_,R,J,_,_,H,_⟩:=h;exact⟨u,R,J,by rw[y,H]⟩
  obtain⟨u,M,r,rfl⟩:=I;exact⟨_,z,h⟩
end
section
variable {P:Program} {V:Env} {Γ:List Ctr} {st:St} {w:World} {a:Act}
theorem zL {pk:PK}{x:aI×List Leaf}{g:Got pk.den}(r:cj Γ st pk x=some g)(X:pk.isIop=false):g.lend=[]:=by
 cases pk with
 |iop b=>simp[PK.isIop]at X
 |rd b =>
  simp only[cj,bj]at r;cases u:decide (x.1=bm b.isAgg) with
  |false=>simp[u]at r
  |true=>rw[u]at r;simp only[cond_true,B4]at r;obtain⟨y,_,rfl⟩:=r;rfl
 |own b =>
  simp only[cj,bj]at r;cases u:decide (x.1=bm b.isAgg) with
  |false=>simp[u]at r
  |true=>rw[u]at r;simp only[cond_true,B4]at r;obtain⟨y,_,rfl⟩:=r;rfl
 |io b =>
  simp only[cj,bj]at r;cases u:decide (x.1=bm b.isAgg) with
  |false=>simp[u]at r
  |true=>rw[u]at r;simp only[cond_true,B4]at r;obtain⟨y,_,rfl⟩:=r;rfl
 |rref b=>exact cap (c:=(false,b)) r
 |rref2 b=>exact cap (c:=(true,b)) r
 |fn R B =>
  simp only[cj]at r;split at r
  ·unfold kV at r;split at r
   ·unfold sA at r;split at r
    ·rename_i c _ hh;cases u:(c.ps.drop R.length).all PK.reads&&B.flat&&c.fresh with
     |false=>rw[u]at r;cases r
     |true =>
      rw[u]at r;simp only[cond_true]at r;split at r
      ·simp only[B3]at r;subst r;rfl
      ·cases r
    ·cases r
   ·cases r
  ·simp only[bj]at r;split at r
   ·split at r
    ·simp only[B3]at r;subst r;rfl
    ·cases r
   ·cases r
 |hol b Z off =>
  simp only[cj,bj]at r;cases u:decide (x.1=bm b.isAgg) with
  |false=>simp[u]at r
  |true =>
   rw[u]at r;simp only[cond_true]at r;split at r
   ·split at r
    ·rename_i Y _ _ _ _;cases z:CM Y off with
     |false=>simp[z]at r
     |true =>
      rw[z]at r;simp only[cond_true]at r;split at r
      ·split at r
       ·simp only[B3]at r;subst r;rfl
       ·cases r
      ·cases r
    ·cases r
   ·cases r
 |clo f I =>
  simp only[cj,bj]at r;split at r
  ·rename_i J H _;cases u:CM J f with
   |false=>simp[u]at r
   |true=>rw[u]at r;exact caps_ r
  ·rename_i J H _;cases u:CM J f with
   |false=>simp[u]at r
   |true=>rw[u]at r;exact caps_ r
  ·cases r
where
 cap {c:Bool×Ty} {l:Leaf} {g:Got c.2.den} (r:fK st c l=some g):g.lend=[]:=by
  unfold fK at r;cases O:c.1 with
  |true =>
   rw[O]at r;simp only[cond_true]at r;split at r
   ·split at r
    ·simp only[B4]at r;obtain⟨y,_,rfl⟩:=r;rfl
    ·cases r
   ·cases r
  |false =>
   rw[O]at r;simp only[cond_false]at r;split at r
   ·simp only[B4]at r;obtain⟨y,_,rfl⟩:=r;rfl
   ·cases r
 caps_:∀ {I:List (Bool×Ty)} {M:List Leaf} {g:Got (ma I)},cG st I M=some g->g.lend=[]
  |[],[],g,r=>by simp only[cG,B3]at r;subst r;rfl
  |[],_::_,_,r=>by simp[cG]at r
  |_::_,[],_,r=>by simp[cG]at r
  |c::I,l::M,g,r=>by
   simp only[cG]at r;split at r
   ·split at r
    ·simp only[B3]at r;subst r;rfl
    ·cases r
   ·cases r
theorem tZ:∀ (ps:List PK) (xs:List (aI×List Leaf)) (g:Got (ab ps)),bf (cj Γ st) ps xs=some g->g.lend=[]->ps.any PK.isIop=false
 |[],_,_,_,_=>rfl
 |_::_,[],_,u,_=>by simp[bf]at u
 |I::ps,x::xs,g,u,z=>by
  simp only[bf]at u;split at u
  ·rename_i M r;split at u
   ·rename_i J y;simp only[B3]at u;subst u;simp only[List.append_eq_nil_iff]at z;rw[C0,tZ ps xs J y z.2,Bool.or_false];cases I with
    |iop b =>
     simp only[cj,bj]at r;split at r
     ·rename_i q _;cases H:decide ((st q).sh=.agg) with
      |false=>simp[H]at r
      |true =>
       rw[H]at r;simp only[cond_true,B4]at r;obtain⟨t,_,rfl⟩:=r;simp at z
     ·cases r
    |_=>rfl
   ·cases u
  ·cases u
theorem pt {W0:Wit}{S0 S:St}{w0:World}{a0:Act}(h0:ap P V W0 S0 a0 w0){G:Nat->Prop}{p:Bool} :
  ∀ (ps:List PK) (xs:List (aI×List Leaf)) (vs:List Value) (g:Got (ab ps)) (o:ah ps) (u:List (List Nat)),ik P V W0 S0 w0 xs vs->bf (cj Γ S0) ps xs=some g->ps.any PK.isIo=false->bS w G ps o vs u ->
  (g.lend=[]->aH S p ps xs o=[]/\u.flatten=[]) /\
  (∀ b,g.lend=[b]->∃ (c:Ty) (y:c.den) (cs:List Value) (E:TypeId) (b0:List Nat),aH S p ps xs o=[(b,⟨(S b).ver+2,.agg,aq p c y⟩)]/\w.heap[W0.β b]?=some (.cells cs.toArray E (0,0))/\Mx w G c none 0 y cs b0/\u.flatten=W0.β b::b0/\(S0 b).ls.length=c.cells)
 |[],[],vs,g,o,u,hx,M,_,X=>by
  simp only[bf,B3]at M;subst M;refine⟨λ_=>⟨rfl,?_⟩,λb hb=>by simp at hb⟩
  match vs,u,X with
  |[],[],_=>rfl
 |[],_::_,_,_,_,_,_,M,_,_=>by simp[bf]at M
 |_::_,[],_,_,_,_,_,M,_,_=>by simp[bf]at M
 |pk::ps,x::xs,vs,g,o,u,hx,M,hn,X=>by
  obtain⟨v,a1,cs,rfl,hs,hl,R⟩:=hx;simp only[bf]at M;split at M
  ·rename_i g1 J;split at M
   ·rename_i g2 a2;simp only[B3]at M;subst M;simp only[C0,DU]at hn;have H:∀ (o':ah ps) (b:List Nat) (I:List (List Nat)),pk.isIop=false->u=b::I->b=[]->bS w G ps o' a1 I->aH S p (pk::ps) (x::xs) o=aH S p ps xs o' ->
      (g1.lend++g2.lend=[]->aH S p (pk::ps) (x::xs) o=[]/\u.flatten=[]) /\
      (∀ b,g1.lend++g2.lend=[b]->∃ (c:Ty) (y:c.den) (cs:List Value) (E:TypeId) (b0:List Nat),aH S p (pk::ps) (x::xs) o=[(b,⟨(S b).ver+2,.agg,aq p c y⟩)]/\w.heap[W0.β b]?=some (.cells cs.toArray E (0,0))/\Mx w G c none 0 y cs b0/\u.flatten=W0.β b::b0/\(S0 b).ls.length=c.cells):=by
     intro o' b I hi e1 e2 a6 e3;subst e1;subst e2;rw[e3,zL J hi];simpa using pt h0 (S:=S) (p:=p) ps xs a1 g2 o' I R a2 hn.2 a6
    cases pk with
    |iop b =>
     match u,X with
     |O::I,⟨r,z⟩ =>
      obtain⟨r1,r2⟩:=pt h0 (S:=S) (p:=p) ps xs a1 g2 o.2 I R a2 hn.2 z;simp only[cj,bj]at J;split at J
      ·rename_i q hq;cases hb:decide ((S0 q).sh=.agg) with
       |false=>simp[hb]at J
       |true =>
        rw[hb]at J;simp only[cond_true,B4]at J;obtain⟨t,ht,rfl⟩:=J;refine⟨λhb=>by simp at hb,λb' Y=>?_⟩;simp only[DN,C5]at Y;obtain⟨rfl,Y⟩:=Y;obtain⟨r3,r4⟩:=r1 Y;obtain⟨a4,_⟩:=ic hs hl hq (by simp);unfold jL at r;rw[if_pos rfl]at r;obtain⟨g',a3,E,b0,hv,Z,hm,rfl⟩:=r;have a5:g'=W0.β q:=by
         have h9:=a4.2.2;rw[hv]at h9;simp only[Value.pointer.injEq,B3,DB,and_true]at h9;exact h9
        subst a5;refine⟨b,o.1,a3,E,b0,?_,Z,hm,by rw[CQ,r4,CT],?_⟩
        rotate_left
        ·rw[h0.len];exact (d5 (pos:=0) h0 (iQ h0 q) ht).1.len
        simp only[aH,r3,hq,CT];rfl
      ·cases J
    |io b=>simp[PK.isIo]at hn
    |rd b =>
     match u,X with
     |O::I,⟨r,z⟩=>exact H o O I rfl rfl r z rfl
    |own b =>
     match u,X with
     |O::I,⟨r,z⟩=>exact H o O I rfl rfl r z rfl
    |rref b =>
     match u,X with
     |O::I,⟨r,z⟩=>exact H o O I rfl rfl r z rfl
    |rref2 b =>
     match u,X with
     |O::I,⟨r,z⟩=>exact H o O I rfl rfl r z rfl
    |fn As B =>
     match u,X with
     |O::I,⟨r,z⟩=>exact H o O I rfl rfl r z rfl
    |clo f a3 =>
     match u,X with
     |O::I,⟨r,z⟩=>exact H o O I rfl rfl r z rfl
    |hol b cc off =>
     match u,X with
     |O::I,⟨r,z⟩=>exact H o O I rfl rfl r z rfl
   ·cases M
  ·cases M
end
section
variable {P:Program} {V:Env}
theorem wQ (hV:ay V){W:Wit}{S:St}{a:Act}{w:World}(h:ap P V W S a w){M:List RK}{y:ai M}{us:List Value}{X:List (List Nat)}{v:Value}{p q:Bool}{ks:List (Nat×Nat×Nat)}{ep:Nat}{G ro:Nat->Prop}
  (a0:gP w G ro M y us X) (hG:∀ k,G k->gd V W p k)
  (hB:M.any RK.isBv=true->(∀ k,G k\/ro k->gd V W q k\/∃ x∈ks,k∈W.bs x.1 x.2.1)/\ep<=(S EPO).ver/\(∀ k∈ks,k.2.2<=(S k.1).ver))
  (H:∀ k∈X.flatten,¬ ck V W S k) (a5:X.flatten.Nodup) (I:sM us v) {d:Nat} (hd:d<V.nt) (Z:∀ x∈V.fixt,x.1≠d) (r:gW S d M=true) :
  ∃ W1,ap P V W1 (ac ((d,fa ((ac (bH d (S (B0+d)).ver p q ks ep M y).2 S d).ver+1) (bH d (S (B0+d)).ver p q ks ep M y).1)::(bH d (S (B0+d)).ver p q ks ep M y).2) S) (a.put (some d) v) w /\
   ∀ z,z≠d->z≠B0+d->W1.cs z=W.cs z:=by
 cases hv:M.all RK.isV with
 |true =>
  obtain⟨m0,cs,a1,m1,m2,m3,m4,m5,m6⟩:=oL (P:=P) (W:=W) (st:=S) (p:=p) (q:=q) (ks:=ks) (ep:=ep) hG d (S (B0+d)).ver M y us X hB a0 hv a5;rw[m0];obtain⟨s1,s2,s3⟩:=BN ((S d).ver+1) m1 I;show ∃ W1,ap P V W1 (ac [(d,fa ((S d).ver+1) (bH d (S (B0+d)).ver p q ks ep M y).1)] S) (a.put (some d) v) w/\_;generalize fa ((S d).ver+1) (bH d (S (B0+d)).ver p q ks ep M y).1=rc at s1 s2 s3 ⊢;obtain⟨v0,b3,b6⟩:=rc;simp only at s1 s2 s3;subst s3;subst s2;have a2:=h.put hV d hd Z ((S d).ver+1) b3 _ v cs a1 (CF _) s1 m2 m3 m4
   (λj l R ho k Y=>by
    have b2:=m5 j l R ho k Y;have J:=H k b2;simp only[ck,not_or,not_exists,not_and]at J;exact⟨J.1,J.2.1,J.2.2.1,λr1 j1 l1 _ h8 h9=>J.2.2.2 r1 j1 l1 h8 h9⟩) m6
  refine⟨_,a2,λz hz _=>?_⟩;show (if z=d then cs else W.cs z)=_;rw[if_neg hz]
 |false =>
  have hb:∃ b,M=[.box b]:=by
   unfold gW at r;split at r
   ·exact⟨_,rfl⟩
   ·rw[hv]at r;cases r
  obtain⟨b,rfl⟩:=hb;obtain⟨u0,b9,rb,b5,e1,e2,⟨g',cs,E,b0,a7,a6,hm,b1⟩,e3,e4⟩:=a0;subst e3;subst e4;subst e1;subst e2;subst b1;have I:v=u0:=I;subst I;subst a7;have a3:(S (B0+d)).sh=.off:=by simpa[gW]using r
  have O:(g'::b0).Nodup:=by simpa using a5
  rw[Cl]at O;obtain⟨a1,m1,m2,m3,m4⟩:=ja (P:=P) (V:=V) (W:=W) (st:=S) (p:=p) hG hm O.2;have a4:d≠B0+d:=by simp[B0]
  have ad:=H g' (by simp);have b4:=h.setBoxG hV (B0+d) (Cz _ _) ((S (B0+d)).ver+1) (aq p b y.1) cs a1 g' E (w':=w) (CF _)
   (.inr ⟨by simp[live,a3],ad,λj l R ho k Y e0=>O.1 (by rw[<- e0];exact m3 j l R ho k Y)⟩) a6 (λ_ _ _=>rfl) (λ_ _ _ _ _ _ _=>rfl) (CN _) rfl rfl rfl m1 hm.one m2
   (λj l R ho k Y=>by
    have J:=H k (by simp;exact .inr (m3 j l R ho k Y));simp only[ck,not_or,not_exists,not_and]at J;exact⟨J.1,J.2.1,J.2.2.1,λr1 j1 l1 _ h8 h9=>J.2.2.2 r1 j1 l1 h8 h9⟩) m4
  have a9:=b4.put hV d hd Z ((S d).ver+1) .one [.bp (B0+d) 0] (.pointer (some ⟨g',0,none⟩)) [.pointer (some ⟨g',0,none⟩)] (λ_=>[]) (by rw[aJ a4];exact CF _) rfl rfl (λu J=>by simp at J;subst J;rfl)
   (λj l u R g9=>by
    cases j with
    |zero=>simp at R g9;subst R;subst g9;exact⟨Cz _ _,by rw[bo],by simp⟩
    |succ j=>simp at R)
   (λj l R ho k Y=>by simp at Y) (λj j' l l' _ _ _ _ k Y=>by simp at Y)
  have e1:ac (bH d (S (B0+d)).ver p q ks ep [.box b] y).2 S=ac [(B0+d,⟨(S (B0+d)).ver+1,.agg,aq p b y.1⟩)] S:=rfl;rw[aP,e1,aJ a4];refine⟨_,a9,λz hz a8=>?_⟩;show (if z=d then _ else (if z=B0+d then _ else W.cs z))=_;rw[if_neg hz,if_neg a8]
theorem uW (r:Nat)(c u:bX)(S:St):ac [(r,c)] (ac [(r,u)] S)=ac [(r,c)] S:=by
 funext q;rcases ak r q c (ac [(r,u)] S) with ⟨rfl,e⟩|⟨h,e⟩
 ·rw[e,bo]
 ·rw[e,aJ h,aJ h]
theorem zM (hV:ay V){W:Wit}{S:St}{a:Act}{w w':World}(h:ap P V W S a w){b:Nat}(hb:live S b){N:Nat->Prop}{cs:List Value}{E:TypeId}{c:Ty}{y:c.den}{b0:List Nat}{G:Nat->Prop}{p:Bool}
  (a1:w'.heap[W.β b]?=some (.cells cs.toArray E (0,0))) (hm:Mx w' G c none 0 y cs b0) (a5:(W.β b::b0).Nodup) (a6:(S b).ls.length=c.cells)
  (a2:∀ k,ck V W S k->k≠W.β b->w'.heap[k]?=w.heap[k]?) (a7:w.heap.size<=w'.heap.size) (a9:w'.os=w.os) (ht:w'.tape=w.tape) (ho:w'.output=w.output)
  (hN:∀ k,N k->k<w'.heap.size/\¬ ck V W S k) (a0:∀ k∈b0,¬ ck V W S k/\¬ N k) (hG:∀ k,G k->gd V { W with nw:=λk=>W.nw k\/N k } p k) :
  ∃ W1,ap P V W1 (ac [(b,⟨(S b).ver+2,.agg,aq p c y⟩)] S) a w'/\W1.β=W.β/\(∀ k,W1.nw k<->W.nw k\/N k)/\(∀ q,q≠b->W1.cs q=W.cs q)/\(∀ q i,q≠b->W1.bs q i=W.bs q i) /\
   (∀ k,ck V W1 (ac [(b,⟨(S b).ver+2,.agg,aq p c y⟩)] S) k->ck V W S k\/N k\/k∈b0):=by
 have J:∀ (q:Nat),(if q=b then W.β b else W.β q)=W.β q:=λq=>by split <;> simp_all
 have h1:=h.setBoxG hV b hb.1 ((S b).ver+1) (Cj cs.length .dead) cs (λ_=>[]) (W.β b) E (w':=w') (CF _) (.inl ⟨hb,rfl⟩) a1 a2 (λ_ _ _ _ k I=>by simp at I) a7 a9 ht ho (by simp) hm.one
  (λj l u H R=>by
   rw[Cv]at H;split at H
   ·simp at H;subst H;trivial
   ·cases H)
  (λj l H R k I=>by simp at I) (λj j' l l' _ _ _ _ k I=>by simp at I)
 have Z:∀ (j:Nat) (l:Leaf),(Cj cs.length Leaf.dead)[j]?=some l->¬ ao l:=by
  intro j l H;rw[Cv]at H;split at H
  ·simp at H;subst H;exact id
  ·cases H
 have a4:∀ z,live (ac [(b,⟨(S b).ver+1,.agg,Cj cs.length .dead⟩)] S) z->live S z:=by
  intro z Y;rcases ak b z ⟨(S b).ver+1,.agg,Cj cs.length .dead⟩ S with ⟨rfl,e⟩|⟨_,e⟩
  ·exact hb
  ·exact⟨Y.1,by rw[<- e];exact Y.2⟩
 have ad:∀ k,ck V { W with β:=λr=>if r=b then W.β b else W.β r,cs:=λr=>if r=b then cs else W.cs r,bs:=λr j=>if r=b then [] else W.bs r j } (ac [(b,⟨(S b).ver+1,.agg,Cj cs.length .dead⟩)] S) k->ck V W S k:=by
  rintro k (I|I|⟨z,Y,I⟩|⟨z,i,l,H,R,O⟩)
  ·exact .inl I
  ·exact .inr (.inl I)
  ·exact .inr (.inr (.inl ⟨z,a4 z Y,by rw[<- I];exact (J z).symm⟩))
  ·by_cases M:z=b
   ·subst M;rw[bo]at H;exact absurd R (Z i l H)
   ·rw[aJ M]at H;simp only[if_neg M]at O;exact .inr (.inr (.inr ⟨z,i,l,H,R,O⟩))
 have h2:=h1.nwGrow hV N (λk I=>⟨(hN k I).1,λhu=>(hN k I).2 (ad k hu)⟩);rw[Cl]at a5;obtain⟨X,m1,m2,m3,m4⟩:=ja (P:=P) (V:=V) (W:={ W with β:=λr=>if r=b then W.β b else W.β r,cs:=λr=>if r=b then cs else W.cs r,bs:=λr j=>if r=b then [] else W.bs r j,nw:=λk=>W.nw k\/N k })
  (st:=ac [(b,⟨(S b).ver+1,.agg,Cj cs.length .dead⟩)] S) (p:=p) (λk I=>hG k I) hm a5.2
 have b1:=hm.len;have b2:=cQ p c y;have h3:=h2.reown hV b ⟨(S b).ver+2,.agg,aq p c y⟩ X (by rw[bo];exact CF _) (by rw[bo]) (by rw[bo,DO];omega)
  (λj l v H R=>m2 j l v H (by simpa using R))
  (λj l H R k I=>by
   have a8:=m3 j l H R k I;obtain⟨q1,q2⟩:=a0 k a8;refine⟨λhn=>hn.elim (λhn=>q1 (.inl hn)) q2,λhp=>q1 (.inr (.inl hp)),λz Y e0=>q1 (.inr (.inr (.inl ⟨z,a4 z Y,by rw[<- e0];exact (J z).symm⟩))),λr1 j1 l1 a3 O g4 g5=>?_⟩;rw[aJ a3]at O;have g5:k∈(if r1=b then [] else W.bs r1 j1):=g5;rw[if_neg a3]at g5;exact q1 (.inr (.inr (.inr ⟨r1,j1,l1,O,g4,g5⟩)))) m4
 rw[uW]at h3;refine⟨_,h3,funext λq=>J q,λk=>DH,λq hq=>if_neg hq,λq i hq=>?_,?_⟩
 ·show (if q=b then X i else if q=b then [] else W.bs q i)=_;rw[if_neg hq,if_neg hq]
 ·rintro k ((I|I)|I|⟨z,Y,I⟩|⟨z,i,l,H,R,O⟩)
  ·exact .inl (.inl I)
  ·exact .inr (.inl I)
  ·exact .inl (.inr (.inl I))
  ·refine .inl (.inr (.inr (.inl ⟨z,?_,by rw[<- I];exact (J z).symm⟩)));rcases ak b z ⟨(S b).ver+2,.agg,aq p c y⟩ S with ⟨rfl,e⟩|⟨_,e⟩
   ·exact hb
   ·exact⟨Y.1,by rw[<- e];exact Y.2⟩
  ·by_cases M:z=b
   ·subst M;rw[bo]at H;have O:k∈(if z=z then X i else _):=O;rw[if_pos rfl]at O;exact .inr (.inr (m3 i l H R k O))
   ·rw[aJ M]at H;have O:k∈(if z=b then X i else if z=b then [] else W.bs z i):=O;rw[if_neg M,if_neg M]at O;exact .inl (.inr (.inr (.inr ⟨z,i,l,H,R,O⟩)))
end
section
variable {P:Program} {V:Env} {Γ:List Ctr} {st:St} {R:Type}
theorem gR:∀ (ps:List PK) (xs:List (aI×List Leaf)) (r:Upd->List (aI×List Leaf)->Option (Bool×Nat×Nat)->Option R),kW st ps xs r=(dh st ps xs).bind λu=>r u.1 u.2.1 u.2.2
 |[],xs,r=>rfl
 |_::_,[],r=>rfl
 |p::ps,x::xs,r=>by
  simp only[kW,dh];split
  ·rw[it];cases ct st (x.2.getD _ .dead) <;> rfl
  ·rw[gR ps xs];cases dh st ps xs <;> rfl
theorem lA {a:Ty}:∀ {ls:List Leaf} {j k:Nat},lM a j ls=some k->j<=k/\∃ l,ls[k-j]?=some l/\jG l=true
 |[],_,_,h=>by simp[lM]at h
 |l::ls,j,k,h=>by
  simp only[lM]at h;cases r:jG l&&pK a j with
  |true =>
   rw[r]at h;simp only[cond_true,B3]at h;subst h;simp only[B5]at r;exact⟨CN _,l,by simp,r.1⟩
  |false =>
   rw[r]at h;obtain⟨H,z,u,y⟩:=lA h;exact⟨by omega,z,by rw[show k-j=(k-(j+1))+1 by omega];simpa using u,y⟩
theorem rX {p:PK}{ls:List Leaf}{k:Nat}(h:p.nest ls=some k):∃ l,ls[k]?=some l/\jG l=true:=by
 cases p with
 |own a=>obtain⟨_,l,r,u⟩:=lA h;exact⟨l,by simpa using r,u⟩
 |io a=>obtain⟨_,l,r,u⟩:=lA h;exact⟨l,by simpa using r,u⟩
 |_=>simp[PK.nest]at h
theorem ua (y:ay V){W W':Wit}{st':St}{w w':World}(u:cL V W W' st st' w w'):∀ {xs:List (aI×List Leaf)} {z:List Value},ik P V W st w xs z->ik P V W' st' w' xs z
 |[],_,h=>h
 |_::_,_,⟨v,r,M,e,H,I,J⟩=>⟨v,r,M,e,H,I.carry y.ro u,ua y u J⟩
theorem aD.setLeaf {W:Wit}{w:World}{ls:List Leaf}{cs:List Value}(z:aD P V W st w ls cs){k:Nat}{l:Leaf}(H:¬ ao l)(h:∀ v,cs[k]?=some v->aK P V W st w [] l v):aD P V W st w (aT ls k l) cs:=by
 have r:=z.length;refine aD.mk (by simp[aT,r]) λj I v u y=>?_
 rcases aR _ _ _ _ _ u with ⟨rfl,rfl,M⟩|⟨J,u⟩
 ·exact⟨h v y,H,z.one' v (List.mem_of_getElem? y)⟩
 ·exact z.at_ j I v u y
def BO (W:Wit)(S:St)(w:World):Option (Bool×Nat×Nat)->Prop
 |some (_,r,j)=>∃ v,W.cs TMP=[v]/\tV W S w r j v
 |none=>True
theorem oM (O:ay V){W:Wit}{a:Act}{w:World}(h:ap P V W st a w):∀ (ps:List PK) (xs:List (aI×List Leaf)) (vs:List Value) (U:Upd) (X:List (aI×List Leaf)) (b:Option (Bool×Nat×Nat)),
  ik P V W st w xs vs->dh st ps xs=some (U,X,b)->∃ H,ap P V H (ac U st) a w/\ik P V H (ac U st) w X vs/\H.nw=W.nw/\H.β=W.β/\BO H (ac U st) w b/\cL V W H st (ac U st) w w/\(∀ q,(ac U st q).sh=(st q).sh\/q=TMP) /\
   (∀ f r j,b=some (f,r,j)->f=true->ps.any PK.isIo=true)
 |[],xs,vs,U,X,b,hx,y=>by
  simp only[dh,B3,Cd]at y;obtain⟨rfl,rfl,rfl⟩:=y;exact⟨W,h,hx,rfl,rfl,trivial,cL.refl V W st w,λ_=>.inl rfl,λ_ _ _ h=>by cases h⟩
 |_::_,[],vs,U,X,b,hx,y=>by
  simp only[dh,B3,Cd]at y;obtain⟨rfl,rfl,rfl⟩:=y;exact⟨W,h,hx,rfl,rfl,trivial,cL.refl V W st w,λ_=>.inl rfl,λ_ _ _ h=>by cases h⟩
 |p::ps,x::xs,vs,U,X,b,⟨v,M,cs,e,hs,hl,z⟩,y=>by
  subst e;simp only[dh]at y;split at y
  ·rename_i k hk;simp only[B4]at y;obtain⟨u,I,y⟩:=y;simp only[Cd]at y;obtain⟨rfl,rfl,rfl⟩:=y;obtain⟨l,J,a1⟩:=rX hk;have hg:x.2.getD k .dead=l:=by rw[Cf,J];rfl
   rw[hg]at I ⊢;have a0:k<cs.length:=by rw[<- hl.length];exact (B6.1 J).1
   have Z:=CL a0;obtain⟨U,l'⟩:=u;obtain⟨H,n,p0,E0,e0,a2,g1,Y,g3,g4,_,_,g5,g6,_,g7,g8,g9⟩:=vA O h (hl.at_ k l _ J Z).1 I;subst g3;refine⟨H,g1,⟨v,M,cs,rfl,hs,(hl.carry O.ro Y).setLeaf id λu I=>?_,ua O Y z⟩,g5,g6,⟨_,g7,g9⟩,Y,g8,λf r j hb hf=>?_⟩
   ·rw[Z]at I;simp only[B3]at I;subst I;exact g4
   ·simp only[B3,Cd]at hb;rw[C0,hb.1,hf];rfl
  ·simp only[B4]at y;obtain⟨u,I,y⟩:=y;simp only[Cd]at y;obtain⟨rfl,rfl,rfl⟩:=y;obtain⟨H,g1,Y,g3,g4,g5,g6,g7,g8⟩:=oM O h ps xs M u.1 u.2.1 u.2.2 z I;exact⟨H,g1,⟨v,M,cs,rfl,hs,hl.carry O.ro g6,Y⟩,g3,g4,g5,g6,g7,λf r j hb hf=>by rw[C0,g8 f r j hb hf,Bool.or_true]⟩
end
section
variable {P:Program} {V:Env} {Γ:List Ctr} {st:St}
theorem jb {st:St}{q i:Nat}:∀ {ks:List (Nat×Nat)},(q,i)∉ks->(ac (aF st ks) st q).ls[i]?=(st q).ls[i]?
 |[],_=>rfl
 |(r,j)::ks,h=>by
  simp only[Cs,not_or]at h;have e:ac (aF st ((r,j)::ks)) st=ac [(r,gj (ac (aF st ks) st r) j)] (ac (aF st ks) st):=aP _ _ _ _;rw[e];rcases ak r q (gj (ac (aF st ks) st r) j) (ac (aF st ks) st) with ⟨rfl,e⟩|⟨_,e⟩
  ·rw[e];simp only[gj,aT];rw[Cp (λu=>h.1 (by rw[u]))];exact jb h.2
  ·rw[e];exact jb h.2
theorem lB {st:St}{q i:Nat}:∀ {ks:List (Nat×Nat)},(q,i)∉ks->(ac (aN st ks) st q).ls[i]?=(st q).ls[i]?
 |[],_=>rfl
 |(r,j)::ks,h=>by
  simp only[Cs,not_or]at h;have e:ac (aN st ((r,j)::ks)) st=ac [(r,gq (ac (aN st ks) st r) j)] (ac (aN st ks) st):=aP _ _ _ _;rw[e];rcases ak r q (gq (ac (aN st ks) st r) j) (ac (aN st ks) st) with ⟨rfl,e⟩|⟨_,e⟩
  ·rw[e];simp only[gq,aT];rw[Cp (λu=>h.1 (by rw[u]))];exact lB h.2
  ·rw[e];exact lB h.2
theorem nF (d n:Nat)(p q:Bool)(ks:List (Nat×Nat×Nat))(ep:Nat):∀ (z:List RK) (y:ai z),∀ x∈(bH d n p q ks ep z y).2,x.1=B0+d
 |[],_,x,u=>by simp[bH]at u
 |r::z,y,x,u=>by
  simp only[bH,CE]at u;rcases u with u|u
  ·cases r <;> simp[pJ]at u;rw[u]
  ·exact nF d n p q ks ep z y.2 x u
theorem rY {q:Nat}(st:St):∀ (U:Upd),(∀ x∈U,x.1≠q)->ac U st q=st q
 |[],_=>rfl
 |(r,c)::U,h=>by
  rw[aP,aJ (Cq (h (r,c) (CP ..)))];exact rY st U (λx u=>h x (CI _ u))
def mH (u:St)(c:Ctr)(d:Nat)(xs:List (aI×List Leaf))(g:Got (ab c.ps))(y:ai c.rs×ah c.ps):Upd :=
 let H:=(let U:=(bif c.fresh then [] else aF u g.frz);aN (ac U u) g.kill++U);let z:=aH (ac H u) (g.p&&!c.fresh) c.ps xs y.2++H;let r:=bH d (ac z u (B0+d)).ver (g.p&&!c.fresh) g.p (g.frz.map λk=>(k.1,k.2,(ac z u k.1).ver)) (ac z u EPO).ver c.rs y.1
 (d,fa ((ac (r.2++z) u d).ver+1) r.1)::(r.2++z)
theorem zN (hV:ay V){W0:Wit}{u:St}{a:Act}{w:World}(h0:ap P V W0 u a w){c:Ctr}{xs:List (aI×List Leaf)}{vs:List Value}(e5:ik P V W0 u w xs vs){g:Got (ab c.ps)}(hg:bf (cj Γ u) c.ps xs=some g)
  (hf:∀ z∈g.frz,aC u z) (H:∀ z∈g.kill,aC u z) (ex:∀ b∈g.lend,live u b) (dd:bc g.kill=true) (eg:dN g.frz g.kill=true) (hE:∀ z∈g.kill,z.1≠EPO) (a9:g.lend.length<=1) (en:g.lend=[]\/c.ps.any PK.isIo=false)
  {b6:List (List Nat)} (bl:∀ k,b6.flatten.count k=(g.lend.map W0.β).count k+(aY W0 g.kill).count k)
  {d:Nat} (hd:d<V.nt) (ef:∀ x∈V.fixt,x.1≠d) (a4:gW u d c.rs=true) (d1:((c.fresh&&g.lend.isEmpty)||!(c.rs.any RK.isBv))=true) {y:ai c.rs×ah c.ps} {e:Ending} {w':World} (c4:tW c w (br V W0 g.p g.frz) vs b6 y e w') :
  ∃ v,e=.returned v/\∃ W1,ap P V W1 (ac (mH u c d xs g y) u) (a.put (some d) v) w'/\(∀ q,q≠d->q≠B0+d->q∉g.lend->W1.cs q=W0.cs q) /\
   (∀ q i,q≠d->q≠B0+d->q∉g.lend->(q,i)∉g.frz->(q,i)∉g.kill->(ac (mH u c d xs g y) u q).ls[i]?=(u q).ls[i]?)/\(∀ k,k<w.heap.size->k∉aY W0 g.kill->k∉g.lend.map W0.β->w'.heap[k]?=w.heap[k]?)/\w.heap.size<=w'.heap.size:=by
 obtain⟨v,us,N,c0,b4,rfl,e0,c3,ec,e4,d3,em,hN,bb,ej,Y,Z⟩:=c4;have a5:∀ k,k∈b6.flatten<->k∈g.lend.map W0.β\/k∈aY W0 g.kill:=λk=>by
  rw[<- CD,<- CD,<- CD,bl k];omega
 have a0:∀ k,k<w.heap.size->k∉aY W0 g.kill->k∉g.lend.map W0.β->w'.heap[k]?=w.heap[k]?:=λk h1 h2 h3=>em k h1 (λh=>((a5 k).1 h).elim h3 h2)
 refine⟨v,rfl,?_⟩;unfold mH;generalize b5:(bif c.fresh then [] else g.frz)=O;have hU:(bif c.fresh then [] else aF u g.frz)=aF u O:=by rw[<- b5];cases c.fresh <;> rfl
 have cy:dN O g.kill=true:=by rw[<- b5];cases c.fresh with|true=>rfl|false=>exact eg
 have bn:∀ z∈O,z∈g.frz:=by rw[<- b5];cases c.fresh with|true=>simp|false=>exact λ_ h=>h
 have f3:∀ z∈O,aC u z:=λz hz=>hf z (bn z hz)
 rw[hU];obtain⟨h1,h2,h3,h4⟩:=fX hV h0 cy H;have b3:∀ q i,(q,i)∉g.frz->(q,i)∉g.kill->(ac (aN (ac (aF u O) u) g.kill++aF u O) u q).ls[i]?=(u q).ls[i]?:=λq i q1 q2=>by
  rw[bG,lB q2,jb (λh=>q1 (bn _ h))]
 generalize f2:aN (ac (aF u O) u) g.kill++aF u O=I at h1 h2 h3 h4 b3;have a1:∀ k∈aY W0 g.kill,¬ ck V (W0.frz u O) (ac I u) k:=λk H=>mD ⟨(h4 k H).1,(h4 k H).2.1,(h4 k H).2.2.2.1,(h4 k H).2.2.2.2⟩
 have a2:∀ k,qq w w' b6.flatten k->k∉g.lend.map W0.β->k<w'.heap.size/\¬ ck V (W0.frz u O) (ac I u) k:=by
  rintro k ⟨f0,a6⟩ es;refine⟨f0,λM=>?_⟩;rcases a6 with a6|a6
  ·have:=h1.used_lt k M;omega
  ·exact ((a5 k).1 a6).elim es (λa6=>a1 k a6 M)
 have hG:∀ k,(N k\/(c.fresh=false/\br V W0 g.p g.frz k))->gd V { W0.frz u O with nw:=λk=>(W0.frz u O).nw k\/N k } (g.p&&!c.fresh) k:=by
  rintro k (H|⟨d2,H⟩)
  ·exact .inl (.inr H)
  ·have e1:O=g.frz:=by rw[<- b5,d2];rfl
   have:=kI (V:=V) (W:=W0) (p:=g.p) hf k H;rw[d2];rw[<- e1]at this;exact bZ (W':={ W0.frz u O with nw:=λk=>(W0.frz u O).nw k\/N k }) (by intro h;simp[h]) (λ_ h=>Or.inl h) k this
 rw[Ch]at Y;have cw:∀ (W2:Wit),ap P V W2 (ac (aH (ac I u) (g.p&&!c.fresh) c.ps xs y.2++I) u) a w'->(∀ k,(N k\/(c.fresh=false/\br V W0 g.p g.frz k))->gd V W2 (g.p&&!c.fresh) k) ->
   (∀ k∈b4.flatten,¬ ck V W2 (ac (aH (ac I u) (g.p&&!c.fresh) c.ps xs y.2++I) u) k) ->
   (c.rs.any RK.isBv=true->∀ x∈g.frz,∀ k,k∈W0.bs x.1 x.2->k∈W2.bs x.1 x.2)->(c.rs.any RK.isBv=true->∀ k,W0.nw k->W2.nw k) ->
   (∀ q,q∉g.lend->W2.cs q=W0.cs q)->(∀ q i,q∉g.lend->(q,i)∉g.frz->(q,i)∉g.kill->(ac (aH (ac I u) (g.p&&!c.fresh) c.ps xs y.2++I) u q).ls[i]?=(u q).ls[i]?) ->
   (∀ q,(ac (aH (ac I u) (g.p&&!c.fresh) c.ps xs y.2++I) u q).sh=(u q).sh) ->
   ∃ W1,ap P V W1 (ac (let R:=aH (ac I u) (g.p&&!c.fresh) c.ps xs y.2++I
     let r:=bH d (ac R u (B0+d)).ver (g.p&&!c.fresh) g.p (g.frz.map λk=>(k.1,k.2,(ac R u k.1).ver)) (ac R u EPO).ver c.rs y.1
     (d,fa ((ac (r.2++R) u d).ver+1) r.1)::(r.2++R)) u) (a.put (some d) v) w'/\(∀ q,q≠d->q≠B0+d->q∉g.lend->W1.cs q=W0.cs q) /\
    (∀ q i,q≠d->q≠B0+d->q∉g.lend->(q,i)∉g.frz->(q,i)∉g.kill->(ac (let R:=aH (ac I u) (g.p&&!c.fresh) c.ps xs y.2++I
     let r:=bH d (ac R u (B0+d)).ver (g.p&&!c.fresh) g.p (g.frz.map λk=>(k.1,k.2,(ac R u k.1).ver)) (ac R u EPO).ver c.rs y.1
     (d,fa ((ac (r.2++R) u d).ver+1) r.1)::(r.2++R)) u q).ls[i]?=(u q).ls[i]?):=by
  intro W2 g1 cx a3 e6 dc ed bx ba;generalize aH (ac I u) (g.p&&!c.fresh) c.ps xs y.2++I=R at g1 a3 bx ba ⊢;have cb:gW (ac R u) d c.rs=true:=by
   unfold gW at a4 ⊢;split at a4
   ·rw[ba];exact a4
   ·exact a4
  obtain⟨W1,q1,q2⟩:=wQ hV g1 (q:=g.p) (ks:=g.frz.map λk=>(k.1,k.2,(ac R u k.1).ver)) (ep:=(ac R u EPO).ver) ej cx (λhb=>by
   refine⟨λk H=>?_,CN _,λk H=>?_⟩
   ·rcases H with H|(H|H)|⟨x,hx,H⟩
    ·exact .inl (bZ (W':=W2) (by intro h;simp at h;exact h.1) (λ_ h=>h) k (cx k H))
    ·exact .inl (.inl (dc hb k H))
    ·exact .inl (.inr H)
    ·exact .inr ⟨(x.1,x.2,(ac R u x.1).ver),DK.2 ⟨x,hx,rfl⟩,e6 hb x hx k H⟩
   ·obtain⟨x,hx,rfl⟩:=DK.1 H;exact CN _) a3 Y.2.1 e0 hd ef cb
  have e1:∀ (X:Upd) (C:bX),ac ((d,C)::(X++R)) u=ac ((d,C)::X) (ac R u):=λX C=>by
   rw[aP d C (X++R),aP d C X,bG]
  simp only[e1,bG];refine⟨W1,q1,λq hq cu c1=>(q2 q hq cu).trans (ed q c1),λq i hq cu c1 b1 a7=>?_⟩;rw[aP,aJ hq,rY _ _ (λx hx=>by rw[nF _ _ _ _ _ _ _ _ x hx];exact Cq cu)];exact bx q i c1 b1 a7
 refine (?_:∃ W1,_/\_/\_).imp λW1 hh=>⟨hh.1,hh.2.1,hh.2.2,a0,c3⟩
 cases J:g.lend with
 |nil =>
  rw[J]at a5 a0 a2 bl;simp only[Db,List.not_mem_nil,not_false_iff,true_implies,forall_const,false_or]at a5 a0 a2;rw[J]at cw;have h5:=h1.world hV c3 ec e4 d3 (λk H=>a0 k (h1.used_lt k H) (λhm=>a1 k hm H));have h6:=h5.nwGrow hV N (λk H=>a2 k (hN k H));have cp:∀ k,ck V { W0.frz u O with nw:=λk=>(W0.frz u O).nw k\/N k } (ac I u) k->ck V (W0.frz u O) (ac I u) k\/N k:=by
   rintro k ((H|H)|H|H|H)
   ·exact .inl (.inl H)
   ·exact .inr H
   ·exact .inl (.inr (.inl H))
   ·exact .inl (.inr (.inr (.inl H)))
   ·exact .inl (.inr (.inr (.inr H)))
  have ad:∀ k∈c0.flatten++b4.flatten,¬ ck V { W0.frz u O with nw:=λk=>(W0.frz u O).nw k\/N k } (ac I u) k:=λk H M=>by
   obtain⟨q1,q2⟩:=Z k H;rcases cp k M with M|M
   ·exact (a2 k q1).2 M
   ·exact q2 M
  obtain⟨W2,g1,g2,g3,g4,g5,g6,g7⟩:=rh (Γ:=Γ) hV (W0:=W0) (W:={ W0.frz u O with nw:=λk=>(W0.frz u O).nw k\/N k }) (p:=g.p&&!c.fresh) rfl hG h6 c.ps xs vs g y.2 c0 e5 hg (tZ c.ps xs g hg J) bb dd hE
   (λx hx l hl ho=>(h2 x.1 x.2 l hl ho).2.2 hx) (λk H=>ad k (CC _ H)) Y.1
  rw[<- bG]at g1 g5 g6 g7;refine cw W2 g1 (λk H=>?_) (λk H M=>?_) (λhb x hx k H=>?_) (λhb k H=>?_) (λq _=>by rw[g2];rfl) (λq i _ b1 a7=>(g6 q i a7).1.trans (b3 q i b1 a7)) (λq=>(g5 q).1.trans (h3 q).1)
  ·rcases hG k H with H|H
   ·exact .inl (by rw[g4];exact H)
   ·exact .inr H
  ·rcases g7 k M with M|M
   ·exact ad k (B7 _ H) M
   ·exact Y.2.2 k M k H rfl
  ·rw[(g6 x.1 x.2 (nX eg x hx)).2];exact H
  ·rw[g4];exact .inl (.inl H)
 |cons b e7 =>
  have cc:e7=[]:=by
   rw[J]at a9;simp at a9;exact a9
  subst cc;have f1:c.ps.any PK.isIo=false:=en.resolve_left (by rw[J];simp);have eb:c.rs.any RK.isBv=false:=by
   rw[J]at d1;simpa using d1
  obtain⟨_,r2⟩:=pt (Γ:=Γ) h0 (S:=ac I u) (p:=g.p&&!c.fresh) c.ps xs vs g y.2 c0 e5 hg f1 bb;obtain⟨cT,yv,cs,E,b0,r3,r4,r5,r6,r7⟩:=r2 b J;rw[r6]at Y Z;have hβ:(W0.frz u O).β=W0.β:=rfl;have b9:∀ k,k∈g.lend.map W0.β<->k=W0.β b:=λk=>by rw[J];simp
  have hb:live (ac I u) b:=(iS (λq=>(h3 q).1) b).2 (ex b (by rw[J];simp));have c2:∀ k,k∈(W0.β b::b0)++b4.flatten->¬ N k:=λk H=>(Z k H).2
  obtain⟨W2,g1,g2,g3,g4,g5,g6⟩:=zM hV h1 hb (N:=N) (p:=g.p&&!c.fresh) r4 r5 Y.1 (by rw[h1.len b];show (W0.cs b).length=_;rw[<- h0.len b];exact r7)
   (λk M ev=>a0 k (h1.used_lt k M) (λhm=>a1 k hm M) (λhm=>ev ((b9 k).1 hm))) c3 ec e4 d3
   (λk H=>a2 k (hN k H) (λhm=>c2 _ (CC _ (CP ..)) (by rw[<- (b9 k).1 hm];exact H)))
   (λk H=>⟨(a2 k (Z k (CC _ (CI _ H))).1 (λhm=>by
    have:=(b9 k).1 hm;subst this;exact (Cl.1 Y.1).1 H)).2,c2 k (CC _ (CI _ H))⟩) hG
  have e2:ac (aH (ac I u) (g.p&&!c.fresh) c.ps xs y.2++I) u=ac [(b,⟨(ac I u b).ver+2,.agg,aq (g.p&&!c.fresh) cT yv⟩)] (ac I u):=by rw[bG,r3]
  have et:∀ k∈b4.flatten,k∉g.lend.map W0.β:=λk H hm=>Y.2.2 _ (CP ..) k H ((b9 k).1 hm).symm
  rw[<- e2]at g1 g6;have a8:=cw W2 g1 (λk H=>?_) (λk H M=>?_) (λb2=>by rw[eb]at b2;cases b2) (λb2=>by rw[eb]at b2;cases b2) (λq hq=>?_) (λq i hq b1 a7=>?_) (λq=>?_)
  ·rw[J]at a8;exact a8
  ·rcases hG k H with H|H
   ·exact .inl ((g3 k).2 H)
   ·exact .inr H
  ·rcases g6 k M with M|M|M
   ·exact (a2 k (Z k (B7 _ H)).1 (et k H)).2 M
   ·exact c2 k (B7 _ H) M
   ·exact Y.2.2 k (CI _ M) k H rfl
  ·rw[J]at hq;rw[g4 q (by simpa using hq)];rfl
  ·rw[J]at hq;rw[e2,aJ (by simpa using hq)];exact b3 q i b1 a7
  ·rw[e2];rcases ak b q ⟨(ac I u b).ver+2,.agg,aq (g.p&&!c.fresh) cT yv⟩ (ac I u) with ⟨rfl,e3⟩|⟨_,e3⟩
   ·rw[e3];have:=hb.2;rw[(h3 q).1]at this;exact this.symm
   ·rw[e3];exact (h3 q).1
end
section
variable {P:Program} {V:Env} {Γ:List Ctr} {T:TypeId->TI} {st:St} {o:Oper} {R:Type} {κ:Upd->Option R} {r:R}
theorem zO {ls:List Leaf}{j:Nat}{p:Bool}{u:Option (Nat×Nat)}{E:TypeId}{e:Ty}{xs:List e.den}(h:ls.getD j .dead=.own p u E e xs):ls[j]?=some (.own p u E e xs):=by
 rw[Cf]at h;cases y:ls[j]? with
 |none=>rw[y]at h;simp at h
 |some z=>rw[y]at h;simp at h;rw[h]
theorem qZ (hV:ay V){b:Option (Bool×Nat×Nat)}{U:Upd}(h:kj st b U κ=some r) :
  ∃ U',κ U'=some r/\∀ I a w,ap P V I (ac U st) a w->(∀ q j,b=some (true,q,j)->∃ v,I.cs TMP=[v]/\tV I (ac U st) w q j v)->Rel P V (ac U' st) a w:=by
 unfold kj at h;split at h
 ·rename_i q j;split at h
  ·rename_i p i off E' e' xs q' E e ys hq b9;obtain⟨y,hy,h⟩:=CX.1 h;obtain⟨_,_,hy⟩:=gC hy;simp only[Dc]at hy;split at h
   ·rename_i z hz;refine⟨_,h,λI a w hr hb=>?_⟩;obtain⟨v,ba,a2,c0,i0,b5,p0,E0,e0,bb,g,c4,g1,g2,g3,g4⟩:=hb q j rfl;have hq:=zO hq;rw[hq]at g1;obtain⟨rfl,b2,rfl,h4⟩:p=p0/\some (i,off)=some (i0,b5)/\E'=E0/\(⟨e',xs⟩:(e:Ty)×List e.den)=⟨e0,bb⟩:=by
     simp only[B3,Leaf.own.injEq]at g1;obtain⟨q1,q2,q3,q4,q5⟩:=g1;subst q4;rw[heq_eq_eq]at q5;subst q5;exact⟨q1,by simpa using q2,q3,rfl⟩
    simp only[B3,Cd]at b2;obtain⟨rfl,rfl⟩:=b2;simp only[Sigma.mk.injEq]at h4;obtain⟨rfl,h4⟩:=h4;rw[heq_eq_eq]at h4;subst h4;generalize hS:ac U st=S at hr hq g1 g2 g3 b9 ⊢;have a6:(S TMP).ls[0]?=some (.own q' none E e ys):=by rw[b9];rfl
    have b4:(I.cs TMP)[0]?=some v:=by rw[ba];rfl
    have ad:=hr.leaf q j _ _ hq g2;have b0:=hr.leaf TMP 0 _ _ a6 b4;have ad:OwH w (gd V I p) (some (i,off)) E' e' xs _ (I.bs q j):=ad;have b0:Ow w (gd V I q') E e ys v (I.bs TMP 0):=b0;have b1:=ad.carry (G':=gd V I (p||q')) (bZ (W':=I) (by intro h;simp[h]) (λ_ h=>h)) (λ_ _=>rfl) (λ_ _=>rfl);have b6:=OwH.carry (G':=gd V I (p||q')) b0 (bZ (W':=I) (by intro h;simp[h]) (λ_ h=>h)) (λ_ _=>rfl) (λ_ _=>rfl);have bx:∀ k∈I.bs TMP 0,k∉I.bs q j:=λk M a1=>a2 (hr.sep TMP 0 _ q j _ a6 trivial hq trivial k M a1).1.symm
    obtain⟨a9,bl,c1⟩:=b1.back b6 bx hy hz (λg' c2 e1=>by
     simp only[CZ,B3,DB,and_true]at e1;rw[<- e1.1];exact g4)
    have bn:∀ k∈a9,k∈I.bs q j\/k∈I.bs TMP 0:=λk M=>by
     have h5:=c1 k;have h6:=CD.2 M;by_cases h7:k∈I.bs q j
     ·exact .inl h7
     ·have:=CS.2 h7;exact .inr (CD.1 (by omega))
    obtain⟨h1,c3⟩:=hr.putGhost hV TMP jl.1 jl.2.1 ((S TMP).ver+1) .off [] [] (λ_=>[]) (CF _) rfl (by simp) (λj l u hj=>by simp at hj) (λj l hj=>by simp at hj) (λj j' l l' hj=>by simp at hj);have a5:∀ x,x≠TMP->ac [(TMP,⟨(S TMP).ver+1,.off,[]⟩)] S x=S x:=λx hx=>aJ hx _ _
    have a7:(ac [(TMP,⟨(S TMP).ver+1,.off,[]⟩)] S) q=S q:=a5 q a2;have H:∀ (Y:Nat) (l':Leaf),Y≠j->(aT (S q).ls j (.own (p||q') none E' e' (xs.set i z)))[Y]?=some l'->(S q).ls[Y]?=some l':=by
     intro Y l' a3 Z;rcases aR _ _ _ _ _ Z with ⟨rfl,_,_⟩|⟨_,Z⟩
     ·exact absurd rfl a3
     ·exact Z
    have b3:∀ (l':Leaf),(aT (S q).ls j (.own (p||q') none E' e' (xs.set i z)))[j]?=some l'->l'=.own (p||q') none E' e' (xs.set i z):=by
     intro l' Z;rcases aR _ _ _ _ _ Z with ⟨_,rfl,_⟩|⟨a3,_⟩
     ·rfl
     ·exact absurd rfl a3
    have a4:∀ b,live (ac [(TMP,⟨(S TMP).ver+1,.off,[]⟩)] S) b->live S b:=λb hb=>by
     have:b≠TMP:=by have:=hb.1;have:=jl.2.1;omega
     exact⟨hb.1,by rw[<- a5 b this];exact hb.2⟩
    have a8:∀ k∈a9,¬ I.nw k/\¬ V.prot k/\(∀ b,live S b->I.β b≠k)/\∀ (O i1:Nat) (l1:Leaf),(S O).ls[i1]?=some l1->ao l1->(O,i1)≠(q,j)->O≠TMP->k∉I.bs O i1:=λk M=>by
     rcases bn k M with M|M
     ·have h9:=hr.ownb q j _ hq trivial k M;exact⟨h9.1,h9.2.1,h9.2.2,λO i1 l1 g5 g6 g7 _ g8=>g7 (by obtain⟨e1,e2⟩:=hr.sep O i1 l1 q j _ g5 g6 hq trivial k g8 M;rw[e1,e2])⟩
     ·have h9:=hr.ownb TMP 0 _ a6 trivial k M;exact⟨h9.1,h9.2.1,h9.2.2,λO i1 l1 g5 g6 _ g7 g8=>g7 (hr.sep O i1 l1 TMP 0 _ g5 g6 a6 trivial k g8 M).1⟩
    have h2:=(h1.reownE hV q ⟨(S q).ver,(S q).sh,aT (S q).ls j (.own (p||q') none E' e' (xs.set i z))⟩ (λY=>if Y=j then a9 else I.bs q Y) c0 (by rw[a7];exact CN _) (by rw[a7]) (by rw[a7];simp[aT])
     (λY l' u g5 g6=>by
      have g6:(if q=TMP then [] else I.cs q)[Y]?=some u:=g6;rw[if_neg a2]at g6;by_cases J:Y=j
      ·subst J;obtain rfl:=b3 l' g5;rw[g2]at g6;simp only[B3]at g6;subst g6;simp only[if_true];exact bl
      ·simp only[if_neg J];have:=h1.leaf q Y l' u (by rw[a7];exact H Y l' J g5) (by show (if q=TMP then [] else I.cs q)[Y]?=_;rw[if_neg a2];exact g6);have e0:(if q=TMP then ([]:List Nat) else I.bs q Y)=I.bs q Y:=if_neg a2;simp only[e0]at this;exact this)
     (λY l' g5 g6 k M=>by
      by_cases J:Y=j
      ·subst J;simp only[if_true]at M;obtain⟨q1,q2,q3,q4⟩:=a8 k M;refine⟨q1,q2,λb hb=>q3 b (a4 b hb),λO j1 l1 a3 g7 g8 g9=>?_⟩;by_cases a0:O=TMP
       ·subst a0;rw[bo]at g7;simp at g7
       ·rw[a5 O a0]at g7;have g9:k∈(if O=TMP then [] else I.bs O j1):=g9;rw[if_neg a0]at g9;exact q4 O j1 l1 g7 g8 (λe=>a3 (by cases e;rfl)) a0 g9
      ·simp only[if_neg J]at M;have Z:=H Y l' J g5;have h9:=hr.ownb q Y l' Z g6 k M;refine⟨h9.1,h9.2.1,λb hb=>h9.2.2 b (a4 b hb),λO j1 l1 a3 g7 g8 g9=>?_⟩;by_cases a0:O=TMP
       ·subst a0;rw[bo]at g7;simp at g7
       ·rw[a5 O a0]at g7;have g9:k∈(if O=TMP then [] else I.bs O j1):=g9;rw[if_neg a0]at g9;exact a3 (hr.sep q Y l' O j1 l1 Z g6 g7 g8 k M g9).1.symm)
     (λi1 i2 l1 l2 g5 g6 g7 g8 k M a1=>by
      by_cases J:i1=j <;> by_cases X:i2=j
      ·omega
      ·subst J;simp only[if_true]at M;simp only[if_neg X]at a1;exact absurd a1 ((a8 k M).2.2.2 q i2 l2 (H i2 l2 X g7) g8 (λe=>X (by cases e;rfl)) a2)
      ·subst X;simp only[if_true]at a1;simp only[if_neg J]at M;exact absurd M ((a8 k a1).2.2.2 q i1 l1 (H i1 l1 J g5) g6 (λe=>J (by cases e;rfl)) a2)
      ·simp only[if_neg J]at M;simp only[if_neg X]at a1;exact (hr.sep q i1 l1 q i2 l2 (H i1 l1 J g5) g6 (H i2 l2 X g7) g8 k M a1).2)).1
    show ∃ W,ap P V W _ a w;have e1:ac ((q,⟨(S q).ver,(S q).sh,aT (S q).ls j (.own (p||q') none E' e' (xs.set i z))⟩)::(TMP,⟨(S TMP).ver+1,.off,[]⟩)::(EPO,b7 (S EPO))::U) st =
      ac [(q,⟨(S q).ver,(S q).sh,aT (S q).ls j (.own (p||q') none E' e' (xs.set i z))⟩),(EPO,b7 (ac [(TMP,⟨(S TMP).ver+1,.off,[]⟩)] S EPO))] (ac [(TMP,⟨(S TMP).ver+1,.off,[]⟩)] S):=by
     rw[a5 EPO (Cq jl.2.2),aP q,aP TMP,aP EPO,hS,aP q _ [(EPO,b7 (S EPO))],nn jl.2.2]
    rw[e1];exact⟨_,h2⟩
   ·cases h
  ·cases h
 ·exact⟨_,h,λI a w hr _=>⟨I,hr⟩⟩
theorem vE (hV:ay V)(hΓ:∀ c∈Γ,bN P c){d:Nat}(hd:d<V.nt)(dd:∀ x∈V.fixt,x.1≠d){f:FuncId}{xs:List (aI×List Leaf)}(h:jH Γ st d f xs κ=some r) :
  gf P f/\∃ U,κ U=some r/\∀ W a w,ap P V W st a w->∀ vs,ik P V W st w xs vs->Calls P f vs.toArray w (λe w'=>∃ v,e=.returned v/\Rel P V (ac U st) (a.put (some d) v) w'):=by
 unfold jH at h;split at h
 ·rename_i c hc;obtain⟨e7,rfl⟩:=nD hc;obtain⟨cy,ad⟩:=hΓ c e7;refine⟨cy,?_⟩;rw[gR]at h;obtain⟨⟨U0,ys,b⟩,c2,h⟩:=CX.1 h;simp only at h;split at h
  ·rename_i g hg;cases J:bc g.kill&&dN g.frz g.kill&&gW st d c.rs&&!(g.see.any λq=>g.lend.any (CM q))&&DG g.lend.length 1&&(g.lend.isEmpty||!(c.ps.any PK.isIo))&&((c.fresh&&g.lend.isEmpty)||!(c.rs.any RK.isBv))&&(g.kill.all λk=>!CM k.1 EPO)&&oY b g.frz g.kill d with
   |false=>rw[J]at h;cases h
   |true =>
    rw[J]at h;simp only[cond_true]at h;simp only[B5]at J;obtain⟨⟨⟨⟨⟨⟨⟨⟨b4,e4⟩,M⟩,b1⟩,I⟩,cp⟩,eg⟩,hE⟩,dc⟩:=J;obtain⟨y,hy,h⟩:=CX.1 h;obtain⟨U',f2,bn⟩:=qZ (P:=P) (V:=V) hV h;refine⟨U',f2,λW a w hr vs et=>?_⟩;obtain⟨W0,X,c3,f8,hβ0,d1,eb,b6,cx⟩:=oM hV hr c.ps xs vs U0 ys b et c2;generalize a8:ac U0 st=S0 at X c3 d1 eb b6 hg;obtain⟨⟨b0,c4,a1⟩,hf,hk,a2⟩:=kS (uV hV hΓ X) c.ps ys vs g c3 hg;have hE:∀ z∈g.kill,z.1≠EPO:=λz hz e0=>by
     have:=List.all_eq_true.1 hE z hz;rw[e0]at this;simp at this
    have I:g.lend.length<=1:=Cn I;have b9:g.lend=[]\/c.ps.any PK.isIo=false:=by
     simp only[Dw,Dk,CR]at cp;exact cp
    have bl:∀ k,k∈b0.flatten<->k∈g.lend.map W0.β\/k∈aY W0 g.kill:=λk=>by
     rw[<- CD,<- CD,<- CD,a1 k];omega
    have a4:∀ k,kf V W0 S0 g.frz g.see k->k<w.heap.size/\k∉b0.flatten:=by
     intro k H;refine⟨X.used_lt k (rW hf k H),λO=>?_⟩;rcases (bl k).1 O with O|O
     ·obtain⟨b',Z,rfl⟩:=DK.1 O;have e6:=X.box b' (a2 b' Z);rcases H with H|H|⟨b2,e5,a3,e2⟩|⟨z,hz,H⟩
      ·exact e6.1 H
      ·exact e6.2 H
      ·have:=X.inj b2 b' a3 (a2 b' Z) e2;subst this;simp only[CR,CY]at b1;have:=b1 b2 e5;rw[Bool.not_eq_true,CY]at this;have:=this b2 Z;simp at this
      ·obtain⟨l,hl,ho⟩:=hf z hz;exact (X.ownb z.1 z.2 l hl ho _ H).2.2 b' (a2 b' Z) rfl
     ·obtain⟨z,hz,Y⟩:=gB.1 O;obtain⟨l,hl,ho⟩:=hk z hz;have a5:=X.ownb z.1 z.2 l hl ho k Y;rcases H with H|H|⟨b2,e5,a3,e2⟩|⟨z',d2,H⟩
      ·exact a5.1 H
      ·exact a5.2.1 H
      ·exact a5.2.2 b2 a3 e2
      ·obtain⟨l',ev,ej⟩:=hf z' d2;obtain⟨e1,e2⟩:=X.sep z.1 z.2 l z'.1 z'.2 l' hl ho ev ej k Y H;exact nX e4 z' d2 (by rw[show z'=z from D5 e1.symm e2.symm];exact hz)
    have f7:b0.flatten.Nodup:=bB.2 λk=>by
     rw[a1 k];have h5:=bB.1 (ia X b4 hk) k;have h6:(g.lend.map W0.β).count k<=1:=by
      exact Ci List.count_le_length (by rw[C4];exact I)
     by_cases h7:k∈g.lend.map W0.β
     ·have:(aY W0 g.kill).count k=0:=CS.2 λO=>by
       obtain⟨b',Z,e0⟩:=DK.1 h7;obtain⟨z,hz,Y⟩:=gB.1 O;obtain⟨l,hl,ho⟩:=hk z hz;exact (X.ownb z.1 z.2 l hl ho k Y).2.2 b' (a2 b' Z) e0
      omega
     ·have:(g.lend.map W0.β).count k=0:=CS.2 h7;omega
    have a9:=ad w (br V W0 g.p g.frz) g.val vs b0 y (c4.mono (λ_ h=>h) a4) (λk H=>a4 k (mG hV k H)) f7 hy;have bb:gW S0 d c.rs=true:=by
     unfold gW at M ⊢;split at M
     ·rcases b6 (B0+d) with e0|e0
      ·rw[e0];exact M
      ·exact absurd e0 (by have:=jl.2.1;omega)
     ·exact M
    refine a9.mono λe w' c0=>?_
    obtain⟨v,rfl,W1,a0,ba,ec,bx,_⟩:=zN (Γ:=Γ) hV X c3 hg hf hk a2 b4 e4 hE I b9 a1 hd dd bb eg c0;refine⟨v,rfl,?_⟩;refine bn W1 _ w' ?_ ?_
    ·have e1:=bG (mH S0 c d ys g y) U0 st;rw[a8]at e1;rw[<- e1]at a0;subst a8;unfold mH at a0;simp only[bG,CJ,Do]at a0 ⊢;exact a0
    ·intro q j hb;subst hb;obtain⟨u,en,es,f4,i,off,p,E,e,f5,gg,f3,q1,q2,q3,q4⟩:=d1;have cb:=cx true q j rfl rfl;have a6:g.lend=[]:=b9.resolve_right (by rw[cb];simp);simp only[oY,B5,CR]at dc;obtain⟨⟨⟨cw,cc⟩,b3⟩,b5⟩:=dc;have cu:q≠d:=λe0=>by rw[e0]at b3;simp at b3
     have e3:q≠B0+d:=λe0=>by rw[e0]at b5;simp at b5
     have d3:(q,j)∉g.kill:=λO=>by
      have:=CY.1 cw _ O;simp[iN]at this
     have f1:(q,j)∉g.frz:=λO=>by
      have:=CY.1 cc _ O;simp[iN]at this
     have f0:TMP≠d:=by have:=hV.nt;have:=jl.1;omega
     have f6:TMP≠B0+d:=by have:=jl.2.1;omega
     have hL:=ec q j cu e3 (by rw[a6];simp) f1 d3;rw[q1]at hL;have hC:=ba q cu e3 (by rw[a6];simp);have e1:=bG (mH S0 c d ys g y) U0 st;rw[a8]at e1;have ed:gg<w.heap.size:=X.own_lt q1 trivial gg q3;have ef:gg∉aY W0 g.kill:=λO=>by
      obtain⟨z,hz,Y⟩:=gB.1 O;obtain⟨l,hl,ho⟩:=hk z hz;obtain⟨e1,e2⟩:=X.sep z.1 z.2 l q j _ hl ho q1 trivial gg Y q3;exact d3 (by rw[show (q,j)=z from D5 e1.symm e2.symm];exact hz)
     have c1:w'.cell? ⟨gg,i*e.cells+off,none⟩=some u:=by
      rw[kY (bx gg ed ef (by rw[a6];simp))];exact q4
     have ex:gg∈W1.bs q j:=by
      have h9:=a0.leaf q j _ _ hL (by rw[hC];exact q2);obtain⟨_,fd,fc,_,em,_⟩:=h9;rw[em];simp[CV]
     refine⟨u,by rw[ba TMP f0 f6 (by rw[a6];simp)];exact en,es,f4,i,off,p,E,e,f5,gg,f3,?_,by rw[hC];exact q2,ex,c1⟩;have a7:=hL;rw[<- e1]at a7;subst a8;unfold mH at a7;simp only[bG,CJ,Do]at a7 ⊢;exact a7
  ·cases h
 ·cases h
end
section
variable {P:Program} {V:Env} {Γ:List Ctr} {T:TypeId->TI} {st:St} {o:Oper} {R:Type} {κ:Upd->Option R} {r:R}
theorem om {W:Wit}{a:Act}{w:World}(h:ap P V W st a w):∀ (l:List Operand),ik P V W st w (l.map (au st)) (l.map a.eval)
 |[]=>rfl
 |x::l=>by
  obtain⟨z,u,y⟩:=c8 h x;exact⟨a.eval x,l.map a.eval,z,rfl,u,y,om h l⟩
theorem nG {W:Wit}{w:World}:∀ {xs y:List (aI×List Leaf)} {z us:List Value},ik P V W st w xs z->ik P V W st w y us->ik P V W st w (xs++y) (z++us)
 |[],_,_,_,H,u=>by rw[show _=_ from H];exact u
 |x::xs,_,_,_,⟨v,I,X,e,J,M,O⟩,u=>by
  subst e;exact⟨v,_,X,rfl,J,M,nG O u⟩
theorem ri {a:Act}{w:World}{c:Call}{x:Operand}{f:FuncId}{caps:Array Value}(z:o.op=.call c)(M:c.callee=.value x)(I:a.eval x=.func (.func f) #[] caps)(J:gf P f){next:Act->World->Prop}{Q:Exit->Act->World->Prop}
  (u:Calls P f (c.args.map a.eval++caps) w (λe H=>∃ v,e=.returned v/\next (a.put o.dst v) H)):o.wp P a w next Q:=by
 unfold Oper.wp;have y:(execOp a.eval o).run P w=.ok (.enter f (c.args.map a.eval++caps)) w:=by
  have:=J (c.args.map a.eval++caps) w;simp[execOp,z,resolve,M,I,Deferred.ofValue,invoke,this]
 rw[y,Oper.upon_enter];refine u.mono λe H=>?_
 rintro⟨v,rfl,hn⟩;exact hn
theorem lC {p:Bool}:∀ {b:Ty} {x:b.den},b.flat=true->aq p b x=cR p b x
 |.int _,_,_=>rfl
 |.bool,_,_=>rfl
 |.str,_,_=>rfl
 |.unit,_,_=>rfl
 |.hdr,_,_=>rfl
 |.pair a b,x,h=>by
  simp only[Ty.flat,B5]at h;simp only[aq,cR,lC h.1,lC h.2]
 |.list _ _ _,_,h=>by simp[Ty.flat]at h
theorem rZ (Z:ay V){W:Wit}{a:Act}{w:World}(h:ap P V W st a w):∀ (M:List Ty) (xs:List (aI×List Leaf)) (X:List Value) (x:Tup M),ik P V W st w xs X->jc st M xs=some x ->
  sE w (λk=>k<w.heap.size) M x X
 |[],[],X,_,hx,_=>hx
 |[],_::_,_,_,_,u=>by simp[jc]at u
 |_::_,[],_,_,_,u=>by simp[jc]at u
 |b::M,x::xs,X,z,⟨v,O,cs,e,hs,hl,I⟩,u=>by
  subst e;simp only[jc]at u;cases J:decide (x.1=bm b.isAgg) with
  |false=>simp[J]at u
  |true =>
   simp only[J,cond_true]at u;have J:=of_decide_eq_true J;rw[J]at hs;split at u
   ·rename_i p y hy;simp only[B4]at u;obtain⟨t,ht,rfl⟩:=u;have Y:=eO h hl hy;refine⟨v,cs,O,rfl,gQ hs,Y.mono (λk H=>?_),rZ Z h M xs O t I ht⟩;rcases H with (H|⟨_,H⟩)|⟨z,hz,H⟩
    ·exact (h.nwlt k H).1
    ·exact Ck (Z.ro k H).1 h.size
    ·obtain⟨l,h1,h2⟩:=eC hl hz;exact h.own_lt h1 h2 k H
   ·cases u
theorem yC (hV:ay V)(hΓ:∀ c∈Γ,bN P c)(J:bU V o){c:Call}{f:Operand}(Y:o.op=.call c)(hc:c.callee=.value f)
  (h:act Γ T o st κ=some r):b8 P V o st κ r:=by
 simp only[act,wrU,Y,hc]at h;split at h
 ·cases h
 ·rename_i d X;split at h
  ·rename_i g H Z;obtain⟨he,U,hU,z⟩:=vE hV hΓ (J d X).1 (J d X).2 h;refine⟨U,hU,λW a w I next Q hn=>?_⟩;obtain⟨M,_,_,_,_⟩:=bA I f (by rw[Z];simp);rw[Z]at M;have O:=nG (om I c.args.toList) (sN (qr (P:=P) (V:=V) (W:=W) (w:=w) H M.2));rw[Dg]at O;have:=z W a w I _ O;have e:(c.args.toList.map a.eval++H.map λb=>Value.pointer (some ⟨W.β b,0,none⟩)).toArray=c.args.map a.eval++(H.map λb=>Value.pointer (some ⟨W.β b,0,none⟩)).toArray:=by
    apply D1;simp
   rw[e]at this;refine ri Y hc M.1 he (this.mono λe w'=>?_);rintro⟨v,rfl,hrel⟩;refine⟨v,rfl,hn _ _ ?_⟩;rw[X];exact hrel
  ·rename_i g H Z;obtain⟨he,U,hU,z⟩:=vE hV hΓ (J d X).1 (J d X).2 h;refine⟨U,hU,λW a w I next Q hn=>?_⟩;obtain⟨M,_,_,_,_⟩:=bA I f (by rw[Z];simp);rw[Z]at M;obtain⟨us,M,a0,a1⟩:=M;have O:=nG (om I c.args.toList) (sN (rg (st:=st) a0 a1));rw[Dg]at O;have:=z W a w I _ O;have e:(c.args.toList.map a.eval++us).toArray=c.args.map a.eval++us.toArray:=by
    apply D1;simp
   rw[e]at this;refine ri Y hc M he (this.mono λe w'=>?_);rintro⟨v,rfl,hrel⟩;refine⟨v,rfl,hn _ _ ?_⟩;rw[X];exact hrel
  ·rename_i As B φ Z;cases hb:B.flat with
   |false=>simp[hb]at h
   |true =>
    simp only[hb,cond_true]at h;split at h
    ·rename_i x hx;obtain⟨y,hy,h⟩:=CX.1 h;simp only[X]at h;refine⟨_,h,λW a w I next Q hn=>?_⟩;obtain⟨M,_,_,_,_⟩:=bA I f (by rw[Z];simp);rw[Z]at M;obtain⟨f',H,M,he,z⟩:=M;have a2:=rZ hV I As _ _ x (om I c.args.toList) hx;have:=z w I.size I.keep x _ y a2 hy;have e:(c.args.toList.map a.eval).toArray=c.args.map a.eval:=by apply D1;simp
     rw[e]at this;refine ri Y hc M he (this.mono λe w'=>?_);rintro⟨u,cs,rfl,hvo,hrd,hbelow⟩;refine⟨u,rfl,hn _ _ ?_⟩;rw[X];have a4:=I.below hV hbelow;have a3:=fm (P:=P) (V:=V) (W:=W) (st:=st) (G:=λ_=>False) (p:=false) (λ_ h=>h.elim) hrd;rw[<- lC hb]at a3;exact a4.putLs hV d (J d X).1 (J d X).2 _ _ _ u cs (CF _) (ky hvo) a3
    ·cases h
  ·cases h
theorem BP (H:ay V)(I:TOk P T)(hΓ:∀ c∈Γ,bN P c)(z:bU V o)(h:act Γ T o st κ=some r):b8 P V o st κ r:=by
 cases u:o.op with
 |move x=>exact yP H z u h
 |assign x=>exact vU H z u h
 |pick c x y=>exact yQ H z u h
 |alloc t=>exact yu H I z u h
 |box t x=>exact AV H z u h
 |build t M=>exact xp H I z u h
 |buildSlice t n M=>exact ra H I z u h
 |load t x=>exact yS H I z u h
 |store t x y=>exact yx H I u h
 |nilCheck x=>exact te H z u h
 |binOp X t x y Y=>exact xk H I z u h
 |unOp X t x=>exact yR H z u h
 |convert s t x=>exact uT H I z u h
 |makeSlice t n c=>exact sx H I z u h
 |slice t x Z hi mx=>exact yA H I z u h
 |fieldAddr t x f=>exact sr H I z u h
 |field t x f=>exact xo H I z u h
 |indexAddr t x i=>exact su H I z u h
 |index t x i=>exact xn H I z u h
 |extract x i=>exact uA H z u h
 |makeFunc fn first O=>exact tf H z u h
 |call c =>
  cases J:c.callee with
  |value f=>exact yC H hΓ z u J h
  |builtin b =>
   cases b with
   |len=>exact Ak H I z u J h
   |append=>exact wL H I z u J h
   |min=>exact AW H z u J h
   |max=>exact AX H z u J h
   |_ =>
    simp only[act,wrU,u,J]at h;split at h <;> cases h
  |_ =>
   simp only[act,wrU,u,J]at h;split at h <;> cases h
 |_=>simp[act,wrU,u]at h
end
def cJ:Ty->Ty->Bool
 |.pair a b,z=>match z with
  |.pair c d=>cJ a c&&cJ b d
  |_=>false
 |.list m E e,z=>match z with
  |.list n u r=>decide (E=u)&&(bif n then m&&cJ e r else decide (e.sh=r.sh))
  |_=>false
 |a,z=>decide (a=z)
theorem gh:∀ {a b:Ty},cJ a b=true->a.sh=b.sh
 |.pair a b,z,h=>by
  cases z with
  |pair c d =>
   simp only[cJ,B5]at h;simp only[Ty.sh,gh h.1,gh h.2]
  |_=>simp[cJ]at h
 |.list m E e,z,h=>by
  cases z with
  |list n r u =>
   simp only[cJ,B5,decide_eq_true_eq]at h;obtain⟨rfl,h⟩:=h;cases n with
   |true =>
    simp only[cond_true,B5]at h;simp only[Ty.sh,gh h.2]
   |false =>
    simp only[cond_false,decide_eq_true_eq]at h;simp only[Ty.sh,h]
  |_=>simp[cJ]at h
 |.int _,z,h=>by simp only[cJ,decide_eq_true_eq]at h;rw[h]
 |.bool,z,h=>by simp only[cJ,decide_eq_true_eq]at h;rw[h]
 |.str,z,h=>by simp only[cJ,decide_eq_true_eq]at h;rw[h]
 |.unit,z,h=>by simp only[cJ,decide_eq_true_eq]at h;rw[h]
 |.hdr,z,h=>by simp only[cJ,decide_eq_true_eq]at h;rw[h]
theorem zP {a b:Ty}(h:cJ a b=true):a.isAgg=b.isAgg:=by
 cases a with
 |pair c d=>cases b <;> first|rfl|(simp[cJ]at h)
 |list m E e=>cases b <;> first|rfl|(simp[cJ]at h)
 |_=>simp only[cJ,decide_eq_true_eq]at h;rw[h]
theorem oN {f g h:Nat->List Nat}{k:Nat}:∀ {l:List Nat},(∀ j∈l,(f j).count k=(g j).count k+(h j).count k)->(l.flatMap f).count k=(l.flatMap g).count k+(l.flatMap h).count k
 |[],_=>rfl
 |a::l,H=>by
  have u:=H a (CP ..);have y:=oN (l:=l) (λj r=>H j (CI _ r));simp only[Co,B8];omega
theorem Mx.thin {w:World}{G:Nat->Prop}:∀ {a b:Ty} {pos:Nat} {x:a.den} {y:b.den} {cs:List Value} {bs:List Nat},cJ a b=true->HEq x y->Mx w G a none pos x cs bs ->
  ∃ b1 b2:List Nat,(∀ k,bs.count k=b1.count k+b2.count k)/\Mx w (λk=>G k\/k∈b2) b none pos y cs b1
 |.pair a b,z,pos,x,y,cs,bs,h,r,H=>by
  cases z with
  |pair c d =>
   simp only[cJ,B5]at h;obtain⟨c1,c2,ba,bb,rfl,rfl,h1,h2⟩:=H;obtain⟨h3,h4⟩:=sU (jO (gh h.1)) (jO (gh h.2)) r;obtain⟨p1,p2,X,R⟩:=Mx.thin h.1 h3 h1;obtain⟨r1,r2,s1,s2⟩:=Mx.thin h.2 h4 h2;refine⟨p1++r1,p2++r2,λk=>?_,c1,c2,p1,r1,rfl,rfl,R.mono (λk J=>J.imp id (CC _)),?_⟩
   ·have:=X k;have:=s1 k;simp only[B8];omega
   ·have:=s2.mono (G':=λk=>G k\/k∈p2++r2) (λk J=>J.imp id (B7 _))
    rwa [iB (gh h.1)]at this
  |_=>simp[cJ]at h
 |.list m E e,z,pos,xs,Y,cs,bs,h,r,H=>by
  have a1:=gh h;cases z with
  |list n E' e' =>
   simp only[cJ,B5,decide_eq_true_eq]at h;obtain⟨rfl,h⟩:=h;cases n with
   |true =>
    simp only[cond_true,B5]at h;obtain⟨rfl,h⟩:=h;rw[bP (by simp)]at H;obtain⟨v,rfl,I,a2,h1,h2,h3⟩:=H;obtain⟨h4,h5⟩:=sW (jO (gh h)) r;have a0:∀ j,∃ q:List Nat×List Nat,j<Y.length->(∀ k,(a2 j).count k=q.1.count k+q.2.count k) /\
      ∀ y,Y[j]?=some y->∃ c,Mx w (λk=>G k\/k∈q.2) e' none 0 y c q.1/\∀ i u,c[i]?=some u->I[j*e'.cells+i]?=some u:=by
     intro j;by_cases M:j<Y.length
     ·have Z:=CL M;obtain⟨x,hx,r⟩:=h5 j _ Z;obtain⟨c,hm,hc⟩:=h3 j x hx;obtain⟨b1,b2,X,R⟩:=Mx.thin h r hm;refine⟨(b1,b2),λ_=>⟨X,λy O=>⟨c,?_,λi u hi=>?_⟩⟩⟩
      ·rw[Z]at O;simp only[B3]at O;subst O;exact R
      ·rw[<- iB (gh h)];exact hc i u hi
     ·exact⟨([],[]),λh=>absurd h M⟩
    obtain⟨f,hf⟩:=Classical.skolem.1 a0;refine⟨v.ownBlock.toList++(CH Y.length).flatMap (λj=>(f j).1),(CH Y.length).flatMap (λj=>(f j).2),λk=>?_,?_⟩
    ·rw[h2,B8,B8,h4,oN (g:=λj=>(f j).1) (h:=λj=>(f j).2) (λj M=>(hf j (DR.1 M)).1 k)];omega
    ·rw[bP (by simp)];refine⟨v,rfl,I,λj=>(f j).1,by rw[<- h4,<- iB (gh h)];exact h1,rfl,λj y O=>?_⟩;have M:=(B6.1 O).1;obtain⟨c,X,R⟩:=(hf j M).2 y O;exact⟨c,X.mono (λk J=>J.imp id (λJ=>ee.2 ⟨j,M,J⟩)),R⟩
   |false =>
    refine⟨[],bs,λk=>by simp,?_⟩;rw[cB];exact⟨rfl,Rd.flags a1 r (Mx.rd (S:=λk=>G k\/k∈bs) (λ_=>.inl) (λ_=>.inr) H)⟩
  |_=>simp[cJ]at h
 |.int _,z,pos,x,y,cs,bs,h,r,H=>by
  simp only[cJ,decide_eq_true_eq]at h;subst h;cases r;exact⟨bs,[],λk=>by simp,H.mono (λ_=>.inl)⟩
 |.bool,z,pos,x,y,cs,bs,h,r,H=>by
  simp only[cJ,decide_eq_true_eq]at h;subst h;cases r;exact⟨bs,[],λk=>by simp,H.mono (λ_=>.inl)⟩
 |.str,z,pos,x,y,cs,bs,h,r,H=>by
  simp only[cJ,decide_eq_true_eq]at h;subst h;cases r;exact⟨bs,[],λk=>by simp,H.mono (λ_=>.inl)⟩
 |.unit,z,pos,x,y,cs,bs,h,r,H=>by
  simp only[cJ,decide_eq_true_eq]at h;subst h;cases r;exact⟨bs,[],λk=>by simp,H.mono (λ_=>.inl)⟩
 |.hdr,z,pos,x,y,cs,bs,h,r,H=>by
  simp only[cJ,decide_eq_true_eq]at h;subst h;cases r;exact⟨bs,[],λk=>by simp,H.mono (λ_=>.inl)⟩
theorem jL.mono {w:World}{G G':Nat->Prop}(z:∀ k,G k->G' k){a:Ty}{x:a.den}{ptr:Bool}{v:Value}{bs:List Nat}(h:jL w G a x ptr v bs):jL w G' a x ptr v bs:=by
 unfold jL at h ⊢;split at h
 ·rename_i y;rw[if_pos y];obtain⟨g,c,E,I,r,u,J,M⟩:=h;exact⟨g,c,E,I,r,u,J.mono z,M⟩
 ·rename_i y;rw[if_neg y];obtain⟨H,r,u⟩:=h;exact⟨H,r,u.mono z⟩
theorem bS.mono {w:World}{G G':Nat->Prop}(y:∀ k,G k->G' k):∀ {ps:List PK} {o:ah ps} {z:List Value} {bs:List (List Nat)},bS w G ps o z bs->bS w G' ps o z bs
 |.io _::_,_,_::_,_::_,⟨r,u⟩=>⟨r.mono y,bS.mono y u⟩
 |.iop _::_,_,_::_,_::_,⟨r,u⟩=>⟨r.mono y,bS.mono y u⟩
 |.rd _::_,_,_::_,_::_,⟨r,u⟩=>⟨r,bS.mono y u⟩
 |.own _::_,_,_::_,_::_,⟨r,u⟩=>⟨r,bS.mono y u⟩
 |.rref _::_,_,_::_,_::_,⟨r,u⟩=>⟨r,bS.mono y u⟩
 |.rref2 _::_,_,_::_,_::_,⟨r,u⟩=>⟨r,bS.mono y u⟩
 |.fn _ _::_,_,_::_,_::_,⟨r,u⟩=>⟨r,bS.mono y u⟩
 |.clo _ _::_,_,_::_,_::_,⟨r,u⟩=>⟨r,bS.mono y u⟩
 |.hol _ _ _::_,_,_::_,_::_,⟨r,u⟩=>⟨r,bS.mono y u⟩
 |[],_,[],[],_=>trivial
 |[],_,_::_,_,h=>by simp[bS]at h
 |[],_,[],_::_,h=>by simp[bS]at h
 |p::_,_,[],_,h=>by cases p <;> exact h.elim
 |p::_,_,_::_,[],h=>by cases p <;> exact h.elim
theorem qp.mono {w:World}{G G' ro ro':Nat->Prop}(I:∀ k,G k->G' k)(J:∀ k,G k\/ro k->G' k\/ro' k):∀ {r:RK} {y:r.den} {v:Value} {bs:List Nat},qp w G ro r y v bs->qp w G' ro' r y v bs
 |.v _,_,_,_,⟨H,u,z⟩=>⟨H,u,z.mono I⟩
 |.bv _,_,_,_,⟨e,H,u,z⟩=>⟨e,H,u,z.mono J⟩
 |.box _,_,_,_,⟨g,c,E,M,u,z,O,R⟩=>⟨g,c,E,M,u,z,O.mono I,R⟩
theorem gP.mono {w:World}{G G' ro ro':Nat->Prop}(M:∀ k,G k->G' k)(J:∀ k,G k\/ro k->G' k\/ro' k):∀ {I:List RK} {y:ai I} {us:List Value} {r:List (List Nat)},gP w G ro I y us r->gP w G' ro' I y us r
 |[],_,_,_,h=>h
 |_::_,_,_,_,⟨u,H,b,z,O,Y,R,X⟩=>⟨u,H,b,z,O,Y,R.mono M J,gP.mono M J X⟩
theorem bN.thin {P:Program}{f:FuncId}{a a':Ty}{ps:List PK}{rs:List RK}{fr:Bool}{a5:ab (.own a::ps)->Option (ai rs×ah (.own a::ps))}{Y:ab (.own a'::ps)->Option (ai rs×ah (.own a'::ps))}
  (h:bN P ⟨f,.own a::ps,rs,fr,a5⟩) (ht:cJ a' a=true) (cv:a'.den->a.den) (bn:∀ x,HEq x (cv x)) (hd:∀ x,Y x=a5 (cv x.1,x.2)):bN P ⟨f,.own a'::ps,rs,fr,Y⟩:=by
 refine⟨h.1,λw ro x vs c0 y a1 a4 a9 hy=>?_⟩;obtain⟨x1,xr⟩:=x;obtain⟨v,b4,b,u,rfl,rfl,⟨cs,bx,hm⟩,a0⟩:=a1;obtain⟨M,O,R,bb⟩:=Mx.thin ht (bn x1) hm;have a2:=hm.lt;rw[bB]at a9;have X:∀ k,M.count k+O.count k+u.flatten.count k<=1:=λk=>by
  have:=a9 k;rw[CQ,B8,R k]at this;exact this
 have hb:∀ k,k∈b<->k∈M\/k∈O:=λk=>by
  rw[<- CD,<- CD,<- CD,R k];omega
 have H:∀ k,k∈(M::u).flatten->k∈(b::u).flatten:=λk r=>by
  rw[CQ,CE]at r ⊢;exact r.imp (λh=>(hb k).2 (.inl h)) id
 have ad:∀ k,k∈O->k∉(M::u).flatten:=λk r z=>by
  have h1:=X k;have h2:=CD.2 r;have h3:=CD.2 z;rw[CQ,B8]at h3;omega
 have a7:∀ k,k∈O->k∈(b::u).flatten:=λk r=>by
  rw[CQ,CE];exact .inl ((hb k).2 (.inr r))
 have I:dl P w (λk=>ro k\/k∈O) (λk=>k<w.heap.size/\k∉(M::u).flatten) (.own a::ps) (cv x1,xr) (v::b4) (M::u) :=
  ⟨v,b4,M,u,rfl,rfl,⟨cs,by rw[<- zP ht];exact bx,bb⟩,a0.mono (λ_=>.inl) (λk r=>⟨r.1,λh=>r.2 (H k h)⟩)⟩
 refine (h.2 w _ _ _ _ y I (λk r=>?_) ?_ (by rw[<- hy];exact (hd (x1,xr)).symm)).mono λe w' hp=>?_
 ·rcases r with r|r
  ·exact⟨(a4 k r).1,λh=>(a4 k r).2 (H k h)⟩
  ·exact⟨a2 k ((hb k).2 (.inr r)),ad k r⟩
 ·rw[bB];intro k;have:=X k;show ((M::u).flatten).count k<=1;rw[CQ,B8];omega
 ·obtain⟨v',us,N,Z,b5,h1,a3,a6,bl,ba,b9,b6,hN,hO,b0,a8,J⟩:=hp;have hG:∀ k,(N k\/fr=false/\(ro k\/k∈O))->((N k\/k∈O)\/fr=false/\ro k):=λk r=>by
   rcases r with r|⟨r,z|z⟩
   ·exact .inl (.inl r)
   ·exact .inr ⟨r,z⟩
   ·exact .inl (.inr z)
  refine⟨v',us,λk=>N k\/k∈O,Z,b5,h1,a3,a6,bl,ba,b9,λk r hn=>b6 k r (λh=>hn (H k h)),λk r=>?_,?_,?_,a8,λk r=>?_⟩
  ·rcases r with r|r
   ·exact⟨(hN k r).1,(hN k r).2.imp id (H k)⟩
   ·exact⟨Ck (a2 k ((hb k).2 (.inr r))) a6,.inr (a7 k r)⟩
  ·match Z,hO with
   |b3::Z,hO=>exact⟨hO.1,bS.mono hG hO.2⟩
   |[],hO=>exact hO.elim
  ·refine gP.mono hG (λk r=>?_) b0;rcases r with r|r|r
   ·exact .inl (hG k r)
   ·exact .inr r
   ·exact .inl (.inl (.inr r))
  ·obtain⟨h5,h6⟩:=J k r;refine⟨⟨h5.1,h5.2.imp id (H k)⟩,λh=>h.elim h6 (λh=>?_)⟩;rcases h5.2 with h7|h7
   ·have:=a2 k ((hb k).2 (.inr h));omega
   ·exact ad k h h7
end Go.Proofs.YtadlacffdemoiaaGreatEv
