/- One operation: boxes made, boxes written. -/
import Derived.Test.YtaegajachoklkaaGreatE0
import Derived.Deep.MidRow
import Derived.Great.FillDense
set_option linter.unusedVariables false
set_option linter.unusedSimpArgs false
open Array renaming toArray_toList->CG,length_toList->CK,getElem?_toList->C9,toList_append->DG,size_append->DO,toList_map->DX,ext'->Dl
open Bool renaming and_eq_true->BM,not_eq_true'->CB,or_eq_false_iff->DE,or_eq_true->Dg
open Go.Addr.mk renaming injEq->Ct
open Go.Builtin renaming append_->CL,firstCells->Cq,lenOf->Cu,zeroCells->DT
open Go.Instr renaming sliceBounds->DR,storeAt->Dn
open Go.Result renaming andThen_ok->Cr
open Go.Sem renaming run_bind->DN
open Go.Value renaming ownBlock->CF
open Go.Value.slice renaming injEq->CJ
open Go.World renaming setCells->DA,alloc_eq->DD,drew_eq->DH,freeze->DP,alloc->Db,drew->Dj
open Iff renaming rfl->Cz
open Int renaming toNat_natCast->DM
open List renaming getElem?_eq_some_iff->BN,mem_append_right->BO,count_append->BP,getElem?_append_right->BQ,getElem?_append_left->BR,mem_append_left->BS,count_pos_iff->BU,mem_append->BV,range->BY,mem_cons_of_mem->BZ,append_assoc->B3,length_append->B4,getElem?_eq_getElem->B5,eq_nil_of_length_eq_zero->B7,mem_cons_self->B9,flatten_cons->CA,count_eq_zero->CC,append_nil->CD,length_take->CE,any_eq_false->CI,getElem?_take->CO,getD_eq_getElem?_getD->CP,nodup_append->CR,replicate->CT,nodup_cons->CV,length_set->CW,flatMap_cons->CY,getElem?_set_ne->CZ,mem_cons->Cc,getElem?_drop->Cd,getElem?_cons_zero->Ce,getElem?_replicate->Cf,size_toArray->Cg,getElem?_set_self->Ch,any_cons->Ck,length_nil->Cl,length_map->Cm,length_drop->Cv,length_cons->Cw,mem_map->C4,count_cons->C5,singleton_append->C7,length_replicate->C8,mem_range->DB,all_cons->DI,map_nil->DL,map_map->DQ,isEmpty_iff->DU,flatMap_map->DV,cons_append->DY,length->Dc,map_append->Dd,nil_append->Dh,nodup_nil->Di,take_left->Dk,map_cons->Do
open List.cons renaming injEq->Cn
open Nat renaming eq_of_beq_eq_true->BT,lt_succ_self->BW,mul_le_mul_right->BX,le_refl->B6,beq->B8,succ_mul->CM,add_zero->CQ,le_trans->CS,lt_of_lt_of_le->CU,le_of_ble_eq_true->CX,zero_add->Cb,ble_eq_true_of_le->Ci,le_add_right->Cj,mul_le_mul_left->Co,blt_eq->Cp,add_mul->Cs,le_of_eq->Cx,ble->Cy,mul_comm->C0,sub_zero->C3,mul_one->DC,blt->DF,eq_zero_or_pos->DK,zero_mul->DS,mod_eq_of_lt->DW,le_succ->DZ,zero_le->Da,mul_add_mod->De,add_assoc->Dm
open Ne renaming symm->Ca
open Option renaming map_eq_some_iff->BL,bind_eq_some_iff->CH,map_none->C6,toList_some->DJ,map_some->Df
open Option.some renaming injEq->BK
open Prod renaming ext->Dp
open Prod.mk renaming injEq->CN
namespace Go.Proofs.YtaegajachoklkaaGreatEv
open Go Go.RowKit
section
variable {P:Program} {V:Env} {Γ:List Ctr} {T:TypeId->TI} {st:St} {o:Oper} {R:Type} {κ:Upd->Option R} {r:R}
theorem nf {q u:Nat}(h:q≠u)(c y:bQ)(st:St):ac [(q,c)] (ac [(u,y)] st)=ac [(u,y)] (ac [(q,c)] st):=by
 funext k;rcases aj q k c (ac [(u,y)] st) with ⟨rfl,e⟩|⟨H,e⟩
 ·rw[e,aJ h,bm]
 ·rw[e];rcases aj u k y st with ⟨rfl,z⟩|⟨I,z⟩
  ·rw[z,bm]
  ·rw[z,aJ I,aJ H]
theorem an.boxed (hV:ay V){W:Wit}{a:Act}{w:World}(h:an P V W st a w)(d:Nat)(hd:d<V.nt)(I:∀ x∈V.fixt,x.1≠d)(J:(st (B0+d)).sh=.off)(ls:List Leaf)
  (y:List Value) (z:Nat->List Nat) (E:TypeId)
  (hl:ls.length=y.length) (h1:∀ u∈y,u.oneCell'=true)
  (H:∀ (j:Nat) (l:Leaf) (u:Value),ls[j]?=some l->y[j]?=some u->aK P V W st w (z j) l u)
  (O:∀ (j:Nat) (l:Leaf),ls[j]?=some l->am l->∀ k∈z j,¬ W.nw k/\¬ V.prot k/\k<w.heap.size/\(∀ b,live st b->W.β b≠k) /\
   ∀ (r1 Z:Nat) (Y:Leaf),(st r1).ls[Z]?=some Y->am Y->k∉W.bs r1 Z)
  (X:∀ (j j':Nat) (l l':Leaf),ls[j]?=some l->am l->ls[j']?=some l'->am l'->∀ k,k∈z j->k∈z j'->j=j') :
  Rel P V (ac ((B0+d,⟨(st (B0+d)).ver+1,.agg,ls⟩)::[(d,⟨(st d).ver+1,.one,[.bp (B0+d) 0]⟩)]) st) (a.put (some d) (.pointer (some ⟨w.heap.size,0,none⟩))) (w.alloc (.cells y.toArray E)):=by
 have M:B0+d≠d:=by simp[B0]
 have a0:¬ live st (B0+d):=by simp[live,J]
 have h2:=h.setBox hV (B0+d) (Cj _ _) ((st (B0+d)).ver+1) ls y z w.heap.size E (w':=w.alloc (.cells y.toArray E)) (BW _) (.inr ⟨a0,B6 _⟩)
  (heap_alloc_new w _) (λk hk _=>Go.heap_alloc_old w _ hk) (by simp) rfl rfl rfl hl h1 H (λj l hj ho k hk=>by
   obtain⟨h3,h4,h5,h6,h7⟩:=O j l hj ho k hk;exact⟨h3,h4,h5,h6,λr1 Z Y _=>h7 r1 Z Y⟩) X
 rw[aQ,nf M];refine h2.putLs hV d hd I _ .one [.bp (B0+d) 0] _ [.pointer (some ⟨w.heap.size,0,none⟩)] ?_ rfl ⟨⟨⟨Cj _ _,by rw[bm],by simp⟩,id,rfl⟩,trivial⟩;rw[aJ (Ca M)];omega
theorem uE {t:TypeId}(I:TOk P T)(H:(T t).cells≠0)(w:World):∃ z y,(zeroValue t).run P w=.ok z w/\z.cells=y.toArray/\∀ (V:Env) (W:Wit) (st:St),aD P V W st w (T t).zero y:=by
 have h:=I t;cases u:T t with
 |none=>rw[u]at H;exact absurd rfl H
 |int k=>rw[u]at h;exact⟨_,[.int k 0],gp h.2.2 w,rfl,λV W st=>⟨⟨rfl,id,rfl⟩,trivial⟩⟩
 |bool=>rw[u]at h;exact⟨_,[.bool false],gp h.2.2 w,rfl,λV W st=>⟨⟨rfl,id,rfl⟩,trivial⟩⟩
 |str=>rw[u]at h;exact⟨_,[.string ByteArray.empty],gp h.2.2 w,rfl,λV W st=>⟨⟨rfl,id,rfl⟩,trivial⟩⟩
 |slice E e b=>rw[u]at h;exact⟨_,[.slice none 0 0],gp h.2.2.1 w,rfl,λV W st=>⟨⟨rfl,id,rfl⟩,trivial⟩⟩
 |struct a J=>rw[u]at h;exact⟨_,zeroCells a,gp h.2.2.1 w,rfl,λV W st=>lH a⟩
 |arr e n=>rw[u]at h;exact⟨_,(CT n (zeroCells e)).flatten,gp h.2.2.2 w,rfl,λV W st=>oQ e n⟩
 |ptr=>rw[u]at h;exact⟨_,[.pointer none],gp h.2.2 w,rfl,λV W st=>⟨⟨trivial,id,rfl⟩,trivial⟩⟩
 |fn=>rw[u]at h;exact⟨_,[.nilFunc],gp h.2.2 w,rfl,λV W st=>⟨⟨trivial,id,rfl⟩,trivial⟩⟩
theorem ya (hV:ay V)(hT:TOk P T)(y:bN V o){t:TypeId}(J:o.op=.alloc t)(h:act Γ T o st κ=some r):bV P V o st κ r:=by
 simp only[act,J]at h;split at h
 ·rename_i d O;cases I:decide ((st (B0+d)).sh=.off)&&!decide ((T t).cells=0) with
  |false=>simp[I]at h
  |true =>
   simp only[I]at h;simp at I;refine⟨_,h,λW a w hr next Q hn=>?_⟩;obtain⟨z,X,Y,Z,H⟩:=uE hT I.2 w;have H:=H V W st;refine dW (v:=.pointer (some ⟨w.heap.size,0,none⟩)) (w':=w.alloc (.cells X.toArray t)) ?_ ?_
   ·simp[execOp,J,Instr.alloc,Y,newVar,newRow,Z]
   ·rw[O];refine hn _ _ ?_;exact hr.boxed hV d (y d O).1 (y d O).2 I.1 _ X (λ_=>[]) t H.length H.one' (λj l u h1 h2=>(H.at_ j l u h1 h2).1) (λ_ _ _ _ k M=>by simp at M) (λ_ _ _ _ _ _ _ _ k M=>by simp at M)
 ·grind
theorem AI (hV:ay V)(I:bN V o){t:TypeId}{x:Operand}(Y:o.op=.box t x)(h:act Γ T o st κ=some r):bV P V o st κ r:=by
 simp only[act,Y]at h;split at h
 ·rename_i d O;cases hb:decide ((st (B0+d)).sh=.off)&&decide ((au st x).2.length=(T t).cells)&&decide ((au st x).1=bi (T t).agg)&&ig st (au st x).2 with
  |false=>simp[hb]at h
  |true =>
   simp only[hb]at h;simp at hb;obtain⟨⟨⟨Z,a2⟩,a1⟩,a0⟩:=hb;have J:∀ (W:Wit) (a:Act) (w:World) (H:List Value),eh (au st x).1 (a.eval x) H->aD P V W st w (au st x).2 H ->
     (execOp a.eval o).run P w=.ok (.value (.pointer (some ⟨w.heap.size,0,none⟩))) (w.alloc (.cells H.toArray t)):=by
    intro W a w H X y;rw[a1]at X;have hc:=gY X y.one';simp[execOp,Y,Instr.box,newVar,newRow,hc]
   cases z:sq st x with
   |true =>
    rw[z]at h;refine⟨_,h,λW a w M next Q hn=>?_⟩;obtain⟨H,X,y⟩:=cS M x;refine dW (J W a w H X y) ?_;rw[O];refine hn _ _ ?_;exact M.boxed hV d (I d O).1 (I d O).2 Z _ H (λ_=>[]) t y.length y.one' (λj l u h1 h2=>(y.at_ j l u h1 h2).1) (λ_ _ _ _ k hk=>by simp at hk) (λ_ _ _ _ _ _ _ _ k hk=>by simp at hk)
   |false =>
    rw[z]at h;refine⟨_,h,λW a w M next Q hn=>?_⟩;obtain⟨H,X,y⟩:=cS M x;obtain⟨h1,h2,h3,h4,h5⟩:=oO hV M y a0;have h6:=zM hV M y a0;refine dW (J W a w H X y) ?_;rw[O];refine hn _ _ ?_;have:=h1.boxed hV d (I d O).1 (I d O).2 (by rw[(h6 _).1];exact Z) _ H (dm W (au st x).2) t h2 y.one' h3 h4 h5;exact this
 ·grind
theorem jW (b:Nat)(E:TypeId):∀ (u:List Value) (k o:Nat) (w:World) (cur:Array Value) {mk:Nat×Nat},w.heap[b]?=some (.cells cur E mk) ->
  (w.setCells b (o+k) u).heap[b]?=some (.cells ((u.zipIdx k).foldl (λy (x:Value×Nat)=>y.setIfInBounds (o+x.2) x.1) cur) E mk)
 |[],_,_,_,_,_,h=>h
 |v::u,k,o,w,cur,mk,h=>by
  have:=jW b E u (k+1) o (w.setCell ⟨b,o+k,none⟩ v) _ (by rw[setCell_eq_setRow w b (o+k) cur E mk v h];exact setRow_heap w b cur _ E mk h);simpa[DA,Dm]using this
theorem eQ (b:Nat):∀ (u:List Value) (o:Nat) (w:World) (k:Nat),k≠b->(w.setCells b o u).heap[k]?=w.heap[k]?
 |[],_,_,_,_=>rfl
 |v::u,o,w,k,h=>by
  rw[DA,eQ b u (o+1) _ k h];exact heap_setCell_other w ⟨b,o,none⟩ k v h
theorem jX (b:Nat):∀ (u:List Value) (o:Nat) (w:World),(w.setCells b o u).os=w.os/\(w.setCells b o u).tape=w.tape/\(w.setCells b o u).output=w.output/\(w.setCells b o u).heap.size=w.heap.size
 |[],_,_=>⟨rfl,rfl,rfl,rfl⟩
 |v::u,o,w=>by
  obtain⟨I,H,y,z⟩:=jX b u (o+1) (w.setCell ⟨b,o,none⟩ v);exact⟨I,H,y,by rw[DA,z];simp⟩
theorem ng {t:TypeId}{n:Nat}(z:bP P t n){w:World}{b off:Nat}{cur:List Value}{E:TypeId}{mk:Nat×Nat}(J:w.heap[b]?=some (.cells cur.toArray E mk))(I:mk.2=0\/cur.length<=mk.1){v:Value}{cs:List Value}
  (O:v.cells=cs.toArray) (Y:cs.length=n) (X:∀ u∈cs,u.oneCell'=true) (M:off+cs.length<=cur.length) :
  (Dn t (.pointer (some ⟨b,off,none⟩)) v).run P w=.ok () (w.setCells b off cs):=by
 have y:∀ j,j<cs.length->(w.cell? ⟨b,off+j,none⟩).isSome=true:=by
  intro j H;rw[cell_of_row w b _ _ E mk J]
  grind
 have Z:=run_storeCells_cells (P:=P) b off cs 0 w (λj H=>y j H) (λj H=>qY J (by simpa using I) (by simp;omega)) X;have h4:=dq z w;simp[Dn,Instr.sureAddr,storeVar,h4,O,Y,Z]
theorem tB (hV:ay V)(hT:TOk P T){t:TypeId}{x y:Operand}{b off:Nat}(b9:o.op=.store t x y)(hd:o.dst=none)(hx:one st x=.bp b off)
  (c2:(au st y).2.length=(T t).cells) (c0:(au st y).1=bi (T t).agg) (b1:(T t).cells≠0) (ad:(st b).sh=.agg) (c1:off+(au st y).2.length<=(st b).ls.length) (a4:ig st (au st y).2=true)
  {W:Wit} {a:Act} {w:World} (hr:an P V W st a w) :
  mP P V o st ((b,⟨(ac (mvU st (au st y).2) st b).ver+1,.agg,jH (ac (mvU st (au st y).2) st b).ls (dG st (au st y).2) off⟩)::mvU st (au st y).2) a w:=by
 intro next Q hn;obtain⟨I,hs,hl⟩:=cS hr y;rw[c0]at hs;have hc:=gY hs hl.one';obtain⟨h1,h2,h3,h4,h5⟩:=oO hV hr hl a4;have h6:=zM hV hr hl a4;obtain⟨hp,_,_,_⟩:=bt hr x (by rw[hx];simp);rw[hx]at hp;obtain⟨hB,_,hv⟩:=hp;have bl:T t≠.none:=by intro e;rw[e]at b1;exact b1 rfl
 rcases hr.boxes b hB with ⟨h8,_⟩|⟨_,E,h8⟩
 ·rw[ad]at h8;cases h8
 ·have bb:=hl.length;have c4:=hr.len b;have c3:(ac (mvU st (au st y).2) st b).ls.length=(W.cs b).length:=h1.len b;have a9:off+I.length<=(W.cs b).length:=by omega
  have b0:=ng (oP (hT t) bl) h8 (.inl rfl) hc (by omega) hl.one' a9;refine pA (w':=w.setCells (W.β b) off I) (by simp[execOp,b9,hv,b0]) ?_;rw[hd];refine hn _ _ ?_;rw[aQ];obtain⟨e1,e2,e3,e4⟩:=jX (W.β b) I off w;have a0:=jW (W.β b) E I 0 off w _ h8;rw[lf (W.cs b) I off a9]at a0;simp only[CQ]at a0;have b5:live (ac (mvU st (au st y).2) st) b:=⟨hB,by rw[(h6 b).1];exact ad⟩;have b2:(dG st (au st y).2).length=I.length:=h2;have M:∀ (j:Nat) (l:Leaf),(jH (ac (mvU st (au st y).2) st b).ls (dG st (au st y).2) off)[j]?=some l ->
    (off<=j/\j<off+I.length/\(dG st (au st y).2)[j-off]?=some l)\/((j<off\/off+I.length<=j)/\(ac (mvU st (au st y).2) st b).ls[j]?=some l):=by
   intro j l hj;unfold jH at hj;rw[b2]at hj;by_cases Z:j<off
   ·rw[B3,BR (by simp;omega),CO,if_pos Z]at hj;exact .inr ⟨.inl Z,hj⟩
   ·by_cases J:j<off+I.length
    ·rw[B3,BQ (by simp;omega),BR (by simp;omega)]at hj;refine .inl ⟨by omega,J,?_⟩;rw[<- hj];congr 1;simp;omega
    ·rw[BQ (by simp;omega),Cd]at hj;refine .inr ⟨.inr (by omega),?_⟩;rw[<- hj];congr 1;simp;omega
  have a1:∀ (j:Nat),((W.cs b).take off++I++(W.cs b).drop (off+I.length))[j]?=if off<=j/\j<off+I.length then I[j-off]? else (W.cs b)[j]?:=by
   intro j;by_cases Z:j<off
   ·rw[B3,BR (by simp;omega),CO,if_pos Z,if_neg (by omega)]
   ·by_cases J:j<off+I.length
    ·rw[B3,BQ (by simp;omega),BR (by simp;omega),if_pos ⟨by omega,J⟩];congr 1;simp;omega
    ·rw[BQ (by simp;omega),Cd,if_neg (by omega)];congr 1;simp;omega
  refine⟨_,h1.setBox hV b hB _ _ ((W.cs b).take off++I++(W.cs b).drop (off+I.length)) (λj=>if off<=j/\j<off+I.length then dm W (au st y).2 (j-off) else W.bs b j) (W.β b) E
   (BW _) (.inl ⟨b5,rfl⟩) a0 (λk _ X=>eQ (W.β b) I off w k X) (Cx e4.symm) e1 e2 e3 ?_ ?_ ?_ ?_ ?_⟩
  ·simp only[jH,B4,CE,Cv];omega
  ·intro u hu;simp only[BV]at hu;rcases hu with (hu|hu)|hu
   ·exact hr.one b u (List.mem_of_mem_take hu)
   ·exact hl.one' u hu
   ·exact hr.one b u (List.mem_of_mem_drop hu)
  ·intro j l u hj hu;rw[a1]at hu;rcases M j l hj with ⟨Z,J,H⟩|⟨Z,H⟩
   ·rw[if_pos ⟨Z,J⟩]at hu;simp only[if_pos (⟨Z,J⟩:off<=j/\j<off+I.length)];exact h3 _ l u H hu
   ·have z:¬ (off<=j/\j<off+I.length):=by omega
    rw[if_neg z]at hu;simp only[if_neg z];exact h1.leaf b j l u H hu
  ·intro j l hj ho k X;rcases M j l hj with ⟨Z,J,H⟩|⟨Z,H⟩
   ·simp only[if_pos (⟨Z,J⟩:off<=j/\j<off+I.length)]at X;obtain⟨q1,q2,q3,q4,q5⟩:=h4 _ l H ho k X;exact⟨q1,q2,q3,q4,λr1 j1 l1 _=>q5 r1 j1 l1⟩
   ·have z:¬ (off<=j/\j<off+I.length):=by omega
    simp only[if_neg z]at X;obtain⟨q1,q2,q3⟩:=h1.ownb b j l H ho k X;exact⟨q1,q2,h1.own_lt H ho k X,q3,λr1 j1 l1 bx bn ba b4=>bx (h1.sep b j l r1 j1 l1 H ho bn ba k X b4).1.symm⟩
  ·intro j j' l l' hj ho b3 a2 k X O;rcases M j l hj with ⟨Z,J,H⟩|⟨Z,H⟩ <;> rcases M j' l' b3 with ⟨a6,a3,Y⟩|⟨a6,Y⟩
   ·simp only[if_pos (⟨Z,J⟩:off<=j/\j<off+I.length)]at X;simp only[if_pos (⟨a6,a3⟩:off<=j'/\j'<off+I.length)]at O;have:=h5 _ _ l l' H ho Y a2 k X O;omega
   ·have z:¬ (off<=j'/\j'<off+I.length):=by omega
    simp only[if_pos (⟨Z,J⟩:off<=j/\j<off+I.length)]at X;simp only[if_neg z]at O;exact absurd O ((h4 _ l H ho k X).2.2.2.2 b j' l' Y a2)
   ·have z:¬ (off<=j/\j<off+I.length):=by omega
    simp only[if_neg z]at X;simp only[if_pos (⟨a6,a3⟩:off<=j'/\j'<off+I.length)]at O;exact absurd X ((h4 _ l' Y a2 k O).2.2.2.2 b j l H ho)
   ·have z:¬ (off<=j/\j<off+I.length):=by omega
    have a5:¬ (off<=j'/\j'<off+I.length):=by omega
    simp only[if_neg z]at X;simp only[if_neg a5]at O;exact (h1.sep b j l b j' l' H ho Y a2 k X O).2
end
theorem bu {l:List Nat}:l.Nodup<->∀ k,l.count k<=1:=by
 induction l with
 |nil=>simp
 |cons a l z =>
  rw[CV,z];constructor
  ·rintro⟨r,y⟩ k;rw[C5];by_cases u:a=k
   ·subst u;have:l.count a=0:=CC.2 r;simp[this]
   ·have:=y k;simp[u,this]
  ·intro h;refine⟨λH=>?_,λk=>?_⟩
   ·have r:=h a;have y:0<l.count a:=BU.2 H;rw[C5]at r;simp at r;omega
   ·have:=h k;rw[C5]at this;omega
theorem p7 {n:Nat}(r:Nat->List Nat)(k:Nat):((BY n).flatMap r).count k=((BY n).map λj=>(r j).count k).sum:=by
 generalize BY n=l;induction l with
 |nil=>rfl
 |cons a l u=>simp[BP,u]
theorem kF {n i:Nat}(H:i<n)(r:Nat->List Nat)(b:List Nat)(k:Nat) :
  ((BY n).flatMap λj=>if j=i then b else r j).count k+(r i).count k=((BY n).flatMap r).count k+b.count k:=by
 rw[p7,p7];induction n with
 |zero=>omega
 |succ n y =>
  rw[List.range_succ];simp only[Dd,Do,DL,List.sum_append,List.sum_cons,List.sum_nil];by_cases u:i=n
  ·subst u;have:(BY i).map (λj=>List.count k (if j=i then b else r j))=(BY i).map λj=>(r j).count k:=by
    refine List.map_congr_left λj z=>?_
    rw[if_neg (by have:=DB.1 z;omega)]
   rw[this,if_pos rfl];omega
  ·have:=y (by omega);rw[if_neg (λe=>u e.symm)];omega
theorem nh {bs bs' K:List Nat}(z:bs.Nodup)(y:K.Nodup)(H:∀ k∈K,k∉bs)(h:∀ k,bs'.count k<=bs.count k+K.count k):bs'.Nodup/\∀ k∈bs',k∈bs\/k∈K:=by
 rw[bu]at z y;refine⟨bu.2 λk=>?_,λk r=>?_⟩
 ·have J:=h k;have I:=z k;have u:=y k;by_cases r:k∈K
  ·have:bs.count k=0:=CC.2 (H k r);omega
  ·have:K.count k=0:=CC.2 r;omega
 ·have J:=h k;have I:0<bs'.count k:=BU.2 r;by_cases u:k∈bs
  ·exact .inl u
  ·have:bs.count k=0:=CC.2 u;exact .inr (BU.1 (by omega))
theorem Mx.pos {w:World}{G:Nat->Prop}:∀ {a:Ty} {pos r:Nat} {x:a.den} {cs:List Value} {bs:List Nat},Mx w G a none pos x cs bs->Mx w G a none r x cs bs
 |.int _,_,_,_,_,_,h=>h
 |.bool,_,_,_,_,_,h=>h
 |.str,_,_,_,_,_,h=>h
 |.unit,_,_,_,_,_,h=>h
 |.hdr,_,_,_,_,_,h=>h
 |.pair _ _,_,_,_,_,_,⟨y,M,O,u,R,I,z,J⟩=>⟨y,M,O,u,R,I,Mx.pos z,Mx.pos J⟩
 |.list m E e,_,_,_,_,_,H=>by
  cases m with
  |false=>rw[cm]at H ⊢;exact H
  |true=>rw[bJ (by simp)]at H ⊢;exact H
section
variable {P:Program} {V:Env} {W:Wit} {st:St} {w w':World} {a:Act}
theorem Mx.scalar {G:Nat->Prop}{b:Ty}{hol:Option Nat}{pos:Nat}{x:b.den}{cs:List Value}{S:Nat->Prop}(r:b.flat=true)(h:Rd w S b x cs):Mx w G b hol pos x cs []:=Mx.flat r h
theorem lO (h:an P V W st a w):∀ (b:Ty) (pos:Nat) (ls:List Leaf) (cs:List Value) (t:cI b.den),aD P V W st w ls cs->take st b ls=some t ->
  ∃ J O M,cs=J++O/\ls=M++t.rest/\aD P V W st w M J/\aD P V W st w t.rest O/\Mx w (bq V W t.p t.frz) b none pos t.val J (aY W t.kill) /\
   (∀ x∈t.frz,aB st x)/\(∀ x∈t.kill,aB st x)
 |.pair b c,pos,ls,cs,t,H,z=>by
  simp only[take]at z;split at z
  ·rename_i u hb;split at z
   ·rename_i v hc;simp only[BK]at z;subst z;obtain⟨J,O,M,e1,e2,h1,Z,X,h4,h5⟩:=lO h b pos ls cs u H hb;obtain⟨c3,c4,l2,e3,e4,h6,h7,h8,h9,a0⟩:=lO h c (pos+b.cells) u.rest O v Z hc;refine⟨J++c3,c4,M++l2,by rw[e1,e3,B3],by rw[e2,e4,B3],h1.append h6,h7,⟨J,c3,_,_,rfl,dH W _ _,?_,?_⟩,?_,?_⟩
    ·refine X.mono λk I=>?_
     rcases I with I|⟨y,hy,I⟩
     ·exact .inl (bT (by intro h;simp[h]) (λ_ h=>h) k I)
     ·exact .inr ⟨y,BS _ hy,I⟩
    ·refine h8.mono λk I=>?_
     rcases I with I|⟨y,hy,I⟩
     ·exact .inl (bT (by intro h;simp[h]) (λ_ h=>h) k I)
     ·exact .inr ⟨y,BO _ hy,I⟩
    ·intro x R;exact (BV.1 R).elim (h4 x) (h9 x)
    ·intro x R;exact (BV.1 R).elim (h5 x) (a0 x)
   ·cases z
  ·cases z
 |.unit,pos,ls,cs,t,H,z=>by
  simp only[take,BK]at z;subst z;exact⟨[],cs,[],rfl,rfl,trivial,H,⟨rfl,rfl⟩,by simp,by simp⟩
 |.list m E e,pos,ls,cs,t,H,z=>by
  cases ls with
  |nil=>simp[take]at z
  |cons l ls =>
   cases cs with
   |nil=>exact H.elim
   |cons v cs =>
    cases m with
    |false =>
     simp only[take,cond_false]at z;split at z
     ·rename_i p xs ha;simp only[BK]at z;subst z;refine⟨[v],cs,[l],rfl,rfl,⟨H.1,trivial⟩,H.2,cm.2 ⟨rfl,kP h H.1.1 H.1.2.1 ha⟩,λx R=>el (cs:=[v]) (ls:=[l]) ⟨H.1,trivial⟩ R,by simp⟩
     ·cases z
    |true =>
     simp only[take,cond_true]at z;split at z
     ·rename_i r j n;split at z
      ·rename_i p E' e' xs hd;simp only[BL]at z;obtain⟨ys,hc,rfl⟩:=z;obtain⟨rfl,rfl,rfl⟩:=jU hc;obtain⟨h1,Z,X,h4⟩:=kt h hd H.1.1;refine⟨[v],cs,[_],rfl,rfl,⟨H.1,trivial⟩,H.2,(bJ (by simp)).2 ⟨v,rfl,?_⟩,by simp,?_⟩
       ·have:aY W [(r,j)]=W.bs r j:=by simp[aY]
        show OwB w _ none E' e' xs v (aY W [(r,j)]);rw[this];exact Z.2.carry (λk I=>.inl I) (λ_ _=>rfl) (λ_ _=>rfl)
       ·intro x R;simp only[List.mem_singleton]at R;subst R;exact⟨_,X,trivial⟩
      ·cases z
     ·simp only[BK]at z;subst z;have X:v=.slice none 0 0:=H.1.1;refine⟨[v],cs,[_],rfl,rfl,⟨H.1,trivial⟩,H.2,(bJ (by simp)).2 ⟨v,rfl,?_⟩,by simp,by simp⟩;rw[X];exact (OwH.nil w _ E e).2
     ·cases z
 |.int k,pos,ls,cs,t,H,z=>take_scalar h (b:=.int k) rfl H z
 |.bool,pos,ls,cs,t,H,z=>take_scalar h (b:=.bool) rfl H z
 |.str,pos,ls,cs,t,H,z=>take_scalar h (b:=.str) rfl H z
 |.hdr,pos,ls,cs,t,H,z=>take_scalar h (b:=.hdr) rfl H z
where
 take_scalar (h:an P V W st a w) {b:Ty} {pos:Nat} {ls:List Leaf} {cs:List Value} {t:cI b.den} (hf:b.flat=true) (H:aD P V W st w ls cs) (z:(bc st b ls).map (λx=>(⟨false,x.2.1,[],[],x.2.2⟩:cI b.den))=some t) :
   ∃ J O M,cs=J++O/\ls=M++t.rest/\aD P V W st w M J/\aD P V W st w t.rest O/\Mx w (bq V W t.p t.frz) b none pos t.val J (aY W t.kill) /\
    (∀ x∈t.frz,aB st x)/\(∀ x∈t.kill,aB st x):=by
  simp only[BL]at z;obtain⟨⟨p,x,Y⟩,h1,rfl⟩:=z;obtain⟨J,O,M,e1,e2,Z,X,h4⟩:=kQ h b ls cs p x Y H h1;exact⟨J,O,M,e1,e2,Z,X,Mx.flat hf h4,by simp,by simp⟩
theorem dN (h:an P V W st a w){b:Ty}{pos:Nat}{ls:List Leaf}{cs:List Value}{t:cI b.den}(H:aD P V W st w ls cs)(r:ch st b ls=some t) :
  Mx w (bq V W t.p t.frz) b none pos t.val cs (aY W t.kill)/\(∀ x∈t.frz,aB st x)/\(∀ x∈t.kill,aB st x):=by
 unfold ch at r;split at r
 ·rename_i p x f k I;simp only[BK]at r;subst r;obtain⟨X,u,R,y,Z,Y,J,M,O,z⟩:=lO h b pos ls cs _ H I;have:u=[]:=by
   cases u with
   |nil=>rfl
   |cons=>exact J.elim
  subst this;simp only[CD]at y;subst y;exact⟨M,O,z⟩
 ·cases r
theorem gR (h:an P V W st a w):∀ {ks:List (Nat×Nat)},a7 ks=true->(∀ x∈ks,aB st x)->(aY W ks).Nodup
 |[],_,_=>Di
 |x::ks,M,J=>by
  simp only[a7,BM,CB,CI]at M;have R:=gR h M.2 (λy H=>J y (BZ _ H));show (W.bs x.1 x.2++aY W ks).Nodup;rw[CR];obtain⟨l,O,z⟩:=J x (B9 ..);refine⟨?_,R,λk X k' r e=>?_⟩
  ·have Z:x.2<(W.cs x.1).length:=by rw[<- h.len];exact (BN.1 O).1
   have:=h.leaf x.1 x.2 l _ O (B5 Z);cases l <;> simp only[am]at z;exact OwH.nodup this
  ·subst e;obtain⟨y,H,r⟩:=gm.1 r;obtain⟨l',I,u⟩:=J y (BZ _ H);obtain⟨e1,Y⟩:=h.sep x.1 x.2 l y.1 y.2 l' O z I u k X r;have:=M.1 y H;rw[e1,Y]at this;simp at this
theorem kh:∀ {b:Ty} {S M:Nat->Prop} {u:Option Nat} {pos:Nat} {y:b.den} {c:List Value} {q:List Nat},b.flat=true->Mx w S b u pos y c q->Rd w M b y c
 |.int _,_,_,_,_,_,_,_,_,h=>h.1
 |.bool,_,_,_,_,_,_,_,_,h=>h.1
 |.str,_,_,_,_,_,_,_,_,h=>h.1
 |.unit,_,_,_,_,_,_,_,_,h=>h.1
 |.hdr,_,_,_,_,_,_,_,_,h=>h.1
 |.pair _ _,_,_,_,_,_,_,_,r,⟨z,I,Y,R,O,X,H,J⟩=>by
  simp only[Ty.flat,BM]at r;exact⟨z,I,O,kh r.1 H,kh r.2 J⟩
 |.list _ _ _,_,_,_,_,_,_,_,r,_=>by simp[Ty.flat]at r
theorem mu (h:an P V W st a w){G:Nat->Prop}{off n:Nat}{hol I:Option Nat}(a2:∀ k,off<=k->k<off+n->I≠some k)(X:∀ k,¬ (off<=k/\k<off+n)->(I=some k<->hol=some k)) :
  ∀ (b:Ty) (pos:Nat) (x:b.den) (ls:List Leaf) (cs:List Value) (t:cI b.den) (Y:List Value) (z:List Nat),aD P V W st w ls cs->da st off n b pos x ls=some t->Mx w G b hol pos x Y z ->
  ∃ O c2 c' J,cs=O++c2/\aD P V W st w t.rest c2/\O.length=min (off+n) (pos+b.cells)-max off pos /\
   Mx w (λk=>G k\/bq V W t.p t.frz k) b I pos t.val c' J /\
   (∀ i,i<b.cells->c'[i]?=if off<=pos+i/\pos+i<off+n then O[pos+i-max off pos]? else Y[i]?) /\
   (∀ k,J.count k<=z.count k+(aY W t.kill).count k)/\(∀ x∈t.frz,aB st x)/\(∀ x∈t.kill,aB st x)
 |.pair b c,pos,x,ls,cs,t,Y,z,M,r,⟨d1,d2,b1,b2,e1,e2,ad,b3⟩=>by
  simp only[da]at r;split at r
  ·rename_i u R;split at r
   ·rename_i v hc;simp only[BK]at r;subst r;obtain⟨O,c2,c',J,f1,f2,f3,f4,f5,f6,f7,f8⟩:=mu h a2 X b pos x.1 ls cs u d1 b1 M R ad;obtain⟨c3,c4,b0,a1,g1,g2,g3,g4,g5,g6,g7,g8⟩:=mu h a2 X c (pos+b.cells) x.2 u.rest c2 v d2 b2 f2 hc b3;have b4:=f4.len;have bb:=g4.len;have b5:=ad.len;refine⟨O++c3,c4,c'++b0,J++a1,by rw[f1,g1,B3],g2,?_,⟨c',b0,J,a1,rfl,rfl,?_,?_⟩,?_,?_,?_,?_⟩
    ·rw[B4,f3,g3];simp only[Ty.cells];omega
    ·refine f4.mono λk H=>?_
     rcases H with H|H|⟨y,hy,H⟩
     ·exact .inl H
     ·exact .inr (.inl (bT (by intro h;simp[h]) (λ_ h=>h) k H))
     ·exact .inr (.inr ⟨y,BS _ hy,H⟩)
    ·refine g4.mono λk H=>?_
     rcases H with H|H|⟨y,hy,H⟩
     ·exact .inl H
     ·exact .inr (.inl (bT (by intro h;simp[h]) (λ_ h=>h) k H))
     ·exact .inr (.inr ⟨y,BO _ hy,H⟩)
    ·intro i hi;simp only[Ty.cells]at hi;rw[e1];by_cases b9:i<b.cells
     ·rw[BR (by omega),f5 i b9];by_cases hr:off<=pos+i/\pos+i<off+n
      ·rw[if_pos hr,if_pos hr,BR (by omega)]
      ·rw[if_neg hr,if_neg hr,BR (by omega)]
     ·rw[BQ (by omega),b4,g5 (i-b.cells) (by omega)];have e3:pos+b.cells+(i-b.cells)=pos+i:=by omega
      rw[e3];by_cases hr:off<=pos+i/\pos+i<off+n
      ·rw[if_pos hr,if_pos hr,BQ (by omega)];congr 1;omega
      ·rw[if_neg hr,if_neg hr,BQ (by omega),b5]
    ·intro k;rw[e2,BP,BP,dH,BP];have:=f6 k;have:=g6 k;omega
    ·intro y hy;exact (BV.1 hy).elim (f7 y) (g7 y)
    ·intro y hy;exact (BV.1 hy).elim (f8 y) (g8 y)
   ·cases r
  ·cases r
 |.unit,pos,x,ls,cs,t,Y,z,M,r,hm=>by
  simp only[da,BK]at r;subst r;refine⟨[],cs,[],[],rfl,M,by simp only[Ty.cells,Cl];omega,⟨rfl,rfl⟩,λi hi=>by simp[Ty.cells]at hi,λk=>by simp,by simp,by simp⟩
 |.hdr,pos,x,ls,cs,t,Y,z,M,r,hm=>by simp[da]at r
 |.int k,pos,x,ls,cs,t,Y,z,M,r,hm=>put_scalar h (b:=.int k) rfl rfl M r hm
 |.bool,pos,x,ls,cs,t,Y,z,M,r,hm=>put_scalar h (b:=.bool) rfl rfl M r hm
 |.str,pos,x,ls,cs,t,Y,z,M,r,hm=>put_scalar h (b:=.str) rfl rfl M r hm
 |.list m E e,pos,x,ls,cs,t,Y,z,M,r,hm=>by
  simp only[da]at r;have ba:=hm.len;have e0:(Ty.list m E e).cells=1:=rfl;cases R:Cy off pos&&DF pos (off+n) with
  |true =>
   rw[R]at r;simp only[cond_true]at r;simp only[BM,Cp]at R;have a6:=CX R.1;obtain⟨O,c2,l1,e1,e2,h1,h2,h3,h4,h5⟩:=lO h (.list m E e) pos ls cs t M r;have a5:=h3.len;refine⟨O,c2,O,aY W t.kill,e1,h2,by rw[a5];omega,?_,λi hi=>?_,λk=>by omega,h4,h5⟩
   ·have Z:=h3.mono (G':=λk=>G k\/bq V W t.p t.frz k) (λk H=>.inr H);cases m with
    |false=>rw[cm]at Z ⊢;exact Z
    |true =>
     rw[bJ (by simp)]at Z;rw[bJ (a2 pos a6 R.2)];exact Z
   ·rw[if_pos (by omega)];congr 1;omega
  |false =>
   rw[R]at r;simp only[cond_false,BK]at r;subst r;have a4:¬ (off<=pos/\pos<off+n):=by
    rintro⟨h1,h2⟩;have:(Cy off pos&&DF pos (off+n))=true:=by
     simp only[BM,Cp];exact⟨Ci h1,h2⟩
    rw[R]at this;cases this
   refine⟨[],cs,Y,z,rfl,M,by simp only[Cl];omega,?_,λi hi=>?_,λk=>by omega,by simp,by simp⟩
   ·have Z:=hm.mono (G':=λk=>G k\/bq V W false [] k) (λk H=>.inl H);cases m with
    |false=>rw[cm]at Z ⊢;exact Z
    |true =>
     by_cases hp:hol=some pos
     ·have a3:=(X pos a4).2 hp;subst hp;subst a3;rw[jh]at Z ⊢;exact Z
     ·have a3:I≠some pos:=λe=>hp ((X pos a4).1 e)
      rw[bJ hp]at Z;rw[bJ a3];exact Z
   ·rw[if_neg (by omega)]
where
 put_scalar (h:an P V W st a w) {b:Ty} {pos:Nat} {x:b.den} {ls:List Leaf} {cs:List Value} {t:cI b.den} {Y:List Value} {z:List Nat} (hf:b.flat=true) (h1:b.cells=1) (M:aD P V W st w ls cs)
   (r:(bif Cy off pos&&DF pos (off+n) then take st b ls else some ⟨false,x,[],[],ls⟩)=some t) (hm:Mx w G b hol pos x Y z) :
   ∃ O c2 c' J,cs=O++c2/\aD P V W st w t.rest c2/\O.length=min (off+n) (pos+b.cells)-max off pos /\
    Mx w (λk=>G k\/bq V W t.p t.frz k) b I pos t.val c' J /\
    (∀ i,i<b.cells->c'[i]?=if off<=pos+i/\pos+i<off+n then O[pos+i-max off pos]? else Y[i]?) /\
    (∀ k,J.count k<=z.count k+(aY W t.kill).count k)/\(∀ x∈t.frz,aB st x)/\(∀ x∈t.kill,aB st x):=by
  have a0:∀ {S S':Nat->Prop} {hh a9:Option Nat} {y:b.den} {c:List Value} {q:List Nat},Mx w S b hh pos y c q->Mx w S' b a9 pos y c []:=by
   intro S S' hh a9 y c q hq;exact Mx.flat (w:=w) (G:=λ_=>True) hf (kh hf hq)
  cases R:Cy off pos&&DF pos (off+n) with
  |true =>
   rw[R]at r;simp only[cond_true]at r;simp only[BM,Cp]at R;have a6:=CX R.1;obtain⟨O,c2,l1,e1,e2,h2,h3,h4,h5,Z⟩:=lO h b pos ls cs t M r;have a5:=h4.len;refine⟨O,c2,O,[],e1,h3,by rw[a5];omega,a0 h4,λi hi=>?_,λk=>by simp,h5,Z⟩;rw[if_pos (by omega)];congr 1;omega
  |false =>
   rw[R]at r;simp only[cond_false,BK]at r;subst r;have a4:¬ (off<=pos/\pos<off+n):=by
    rintro⟨h1,h2⟩;have:(Cy off pos&&DF pos (off+n))=true:=by
     simp only[BM,Cp];exact⟨Ci h1,h2⟩
    rw[R]at this;cases this
   refine⟨[],cs,Y,[],rfl,M,by simp only[Cl];omega,a0 hm,λi hi=>?_,λk=>by simp,by simp,by simp⟩;rw[if_neg (by omega)]
end
section
variable {P:Program} {V:Env} {Γ:List Ctr} {T:TypeId->TI} {st st2:St} {o:Oper} {R:Type} {κ:Upd->Option R} {r:R}
def vh (V:Env)(W:Wit)(st:St)(q j k:Nat):Prop :=
 ¬ W.nw k/\¬ V.prot k/\(∀ b,live st b->W.β b≠k)/\∀ (u i:Nat) (l:Leaf),(st u).ls[i]?=some l->am l->(u,i)≠(q,j)->k∉W.bs u i
structure yb (st st2:St) (q j:Nat) (l':Leaf):Prop where
 sh:∀ r,(st2 r).sh=(st r).sh
 ver:∀ r,(st r).ver<=(st2 r).ver
 epo:(st EPO).ver<(st2 EPO).ver
 len:∀ r,(st2 r).ls.length=(st r).ls.length
 at_:∀ l,(st2 q).ls[j]?=some l->l=l'
 old:∀ r i l,(r,i)≠(q,j)->(st2 r).ls[i]?=some l->(st r).ls[i]?=some l
def Wit.tell (W:Wit)(q j:Nat)(bs:List Nat):Wit:={ W with bs:=λr i=>if (r,i)=(q,j) then bs else W.bs r i }
theorem an.retell (hV:ay V){W:Wit}{a:Act}{w w':World}(h:an P V W st a w){q j:Nat}{l l':Leaf}(O:yb st st2 q j l'){v:Value}{bs':List Nat}
  (hl:(st q).ls[j]?=some l) (a9:am l) (hv:(W.cs q)[j]?=some v) (b4:am l') (ad:aK P V W st w' bs' l' v)
  (a4:∀ k∈bs',vh V W st q j k)
  (H:∀ k,cd V W st k->k∉W.bs q j->w'.heap[k]?=w.heap[k]?) (a5:w.heap.size<=w'.heap.size) (b2:w'.os=w.os) (ht:w'.tape=w.tape) (ho:w'.output=w.output) :
  an P V (W.tell q j bs') st2 a w':=by
 have a0:=h.ownb q j _ hl a9;have Y:∀ b,live st2 b<->live st b:=iE O.sh;have a1:∀ {y i:Nat},(y,i)≠(q,j)->(W.tell q j bs').bs y i=W.bs y i:=λh=>if_neg h
 have a3:(W.tell q j bs').bs q j=bs':=if_pos rfl;have b0:∀ (y i:Nat) (l:Leaf),(st2 y).ls[i]?=some l->am l->(y,i)≠(q,j)->(st y).ls[i]?=some l:=λy i l X _ M=>O.old y i l M X
 have I:cB V W (W.tell q j bs') st st2 w w':=by
  refine⟨λy=>⟨O.ver y,λ_=>rfl⟩,λb hb=>⟨(Y b).2 hb,rfl⟩,λ_ h=>h,λk z=>H k (z.elim .inl (λh=>.inr (.inl h))) (λhm=>?_),λhe=>?_⟩
  ·rcases z with z|z
   ·exact (a0 k hm).1 z
   ·exact (a0 k hm).2.1 z
  ·have:=O.epo;omega
 exact {
  nt:=h.nt,df:=h.df
  slots:=λt b1=>by rw[O.sh];exact h.slots t b1
  boxes:=λb hb=>by
   rw[O.sh];rcases h.boxes b hb with ⟨X,M⟩|⟨X,E0,M⟩
   ·refine .inl ⟨X,B7 ?_⟩;rw[O.len,M];rfl
   ·refine .inr ⟨X,E0,?_⟩;show w'.heap[W.β b]?=_;rw[H _ (.inr (.inr (.inl ⟨b,⟨hb,X⟩,rfl⟩))) (λhm=>(a0 _ hm).2.2 b ⟨hb,X⟩ rfl)];exact M
  len:=λy=>by rw[O.len];exact h.len y
  one:=h.one
  leaf:=λy i l1 u X M=>by
   by_cases J:(y,i)=(q,j)
   ·cases J;obtain rfl:=O.at_ l1 X;have M:(W.cs q)[j]?=some u:=M;rw[hv]at M;simp only[BK]at M;subst M;rw[a3];have a6:cB V W (W.tell q j bs') st st2 w' w':=⟨I.ver,I.box,I.nw,λ_ _=>rfl,λhe=>by have:=O.epo;omega⟩;exact ad.carry hV.ro a6 (λ_=>⟨rfl,λ_ _=>rfl⟩)
   ·have h3:=O.old y i l1 J X;rw[a1 J];refine (h.leaf y i l1 u h3 M).carry hV.ro I (λho=>⟨rfl,λk z=>H k (.inr (.inr (.inr ⟨y,i,l1,h3,ho,z⟩))) (λhm=>J ?_)⟩);obtain⟨rfl,rfl⟩:=h.sep y i l1 q j _ h3 ho hl a9 k z hm;rfl
  ownb:=λy i l1 X M k z=>by
   by_cases J:(y,i)=(q,j)
   ·cases J;rw[a3]at z;obtain⟨q1,q2,q3,_⟩:=a4 k z;exact⟨q1,q2,λb hb=>q3 b ((Y b).1 hb)⟩
   ·rw[a1 J]at z;obtain⟨q1,q2,q3⟩:=h.ownb y i l1 (O.old y i l1 J X) M k z;exact⟨q1,q2,λb hb=>q3 b ((Y b).1 hb)⟩
  sep:=λy i l1 r2 i2 l2 X M h3 h4 k z a2=>by
   by_cases J:(y,i)=(q,j) <;> by_cases Z:(r2,i2)=(q,j)
   ·rw[<- Z]at J;cases J;exact⟨rfl,rfl⟩
   ·cases J;rw[a3]at z;rw[a1 Z]at a2;exact absurd a2 ((a4 k z).2.2.2 r2 i2 l2 (O.old r2 i2 l2 Z h3) h4 Z)
   ·cases Z;rw[a3]at a2;rw[a1 J]at z;exact absurd z ((a4 k a2).2.2.2 y i l1 (O.old y i l1 J X) M J)
   ·rw[a1 J]at z;rw[a1 Z]at a2;exact h.sep y i l1 r2 i2 l2 (O.old y i l1 J X) M (O.old r2 i2 l2 Z h3) h4 k z a2
  box:=λb hb=>h.box b ((Y b).1 hb)
  inj:=λb b' hb b3=>h.inj b b' ((Y b).1 hb) ((Y b').1 b3)
  nwlt:=λk z=>⟨CU (h.nwlt k z).1 a5,(h.nwlt k z).2⟩
  os:=b2.trans h.os,tape:=ht.trans h.tape,output:=ho.trans h.output,size:=CS h.size a5
  keep:=λk hp=>by
   rw[H k (.inr (.inl hp)) (λhm=>(a0 k hm).2.1 hp)];exact h.keep k hp
  fixb:=λx hx=>⟨(Y _).2 (h.fixb x hx).1,(h.fixb x hx).2⟩
  fixt:=h.fixt }
theorem kW {q:Nat}(st:St):∀ (ks:List (Nat×Nat)),(∀ x∈ks,x.1≠q)->ac (aF st ks) st q=st q
 |[],_=>rfl
 |(r,j)::ks,h=>by
  have e:ac (aF st ((r,j)::ks)) st=ac [(r,fW (ac (aF st ks) st r) j)] (ac (aF st ks) st):=aQ _ _ _ _;rw[e,aJ (Ca (h (r,j) (B9 ..))),kW st ks (λx u=>h x (BZ _ u))]
theorem kG {q:Nat}(st:St):∀ (ks:List (Nat×Nat)),(∀ x∈ks,x.1≠q)->ac (aN st ks) st q=st q
 |[],_=>rfl
 |(r,j)::ks,h=>by
  have e:ac (aN st ((r,j)::ks)) st=ac [(r,f9 (ac (aN st ks) st r) j)] (ac (aN st ks) st):=aQ _ _ _ _;rw[e,aJ (Ca (h (r,j) (B9 ..))),kG st ks (λx u=>h x (BZ _ u))]
theorem OwH.store {w:World}{G G':Nat->Prop}{h h':Option (Nat×Nat)}{E:TypeId}{e:Ty}{xs:List e.den}{g len a3:Nat}{bs K:List Nat}(H:OwH w G h E e xs (.slice (some ⟨g,0,none⟩) len a3) bs)
  (hG:∀ k,G k->G' k) (c1:¬ G' g) (hK:K.Nodup) (cy:∀ k∈K,k∉bs) {i:Nat} {a6 z:e.den} (hi:xs[i]?=some a6) (hh:∀ j,j≠i->cP h' j=cP h j) {off:Nat} {cs:List Value} (e3:off+cs.length<=e.cells)
  (M:∀ c0 b1,Mx w G e (cP h i) 0 a6 c0 b1->∃ c J,Mx w G' e (cP h' i) 0 z c J/\(∀ k,k<e.cells->c[k]?=if off<=k/\k<off+cs.length then cs[k-off]? else c0[k]?)/\∀ k,J.count k<=b1.count k+K.count k) :
  ∃ bn,OwH (w.setCells g (i*e.cells+off) cs) G' h' E e (xs.set i z) (.slice (some ⟨g,0,none⟩) len a3) bn/\∀ k∈bn,k∈bs\/k∈K:=by
 obtain⟨cu,a0,X,h1,h2,h3⟩:=H;have ad:i<xs.length:=(BN.1 hi).1;obtain⟨c0,b5,d3⟩:=h3 i a6 hi;obtain⟨c,J,hm,d1,b9⟩:=M c0 (X i) b5;have c4:=h1.1;rcases h1.2 with ⟨h4,_⟩|⟨g',e1,y,mk,h4,hg,bx,cb,cc,a9⟩
 ·simp at h4
 ·simp only[CJ,BK,Ct,and_true,true_and]at h4;obtain⟨rfl,rfl,rfl⟩:=h4;have e2:g∈bs:=by rw[h2];simp[CF]
  have dc:=b5.len;have cw:=hm.len;have bl:(i+1)*e.cells<=xs.length*e.cells:=BX _ ad;rw[CM]at bl;have dd:xs.length*e.cells<=a3*e.cells:=BX _ bx;have cx:y.toList.length=y.size:=by rw[CK]
  have b0:a0=y.toList.take (xs.length*e.cells):=a9.symm;have M:=jW g E cs 0 (i*e.cells+off) w y hg;have ba:=lf y.toList cs (i*e.cells+off) (by omega);rw[CG]at ba;rw[ba]at M;simp only[CQ]at M;have Z:∀ k,k<xs.length*e.cells->(y.toList.take (i*e.cells+off)++cs++y.toList.drop (i*e.cells+off+cs.length))[k]? =
    if i*e.cells+off<=k/\k<i*e.cells+off+cs.length then cs[k-(i*e.cells+off)]? else a0[k]?:=by
   intro k Y;have bb:a0[k]?=y.toList[k]?:=by rw[b0,CO,if_pos Y]
   by_cases h9:k<i*e.cells+off
   ·rw[B3,BR (by simp only[CE];omega),CO,if_pos h9,if_neg (by omega),bb]
   ·by_cases d2:k<i*e.cells+off+cs.length
    ·rw[B3,BQ (by simp only[CE];omega),BR (by simp only[CE];omega),if_pos ⟨by omega,d2⟩];congr 1;simp only[CE];omega
    ·rw[BQ (by simp only[CE,B4];omega),Cd,if_neg (by omega),bb];congr 1;simp only[CE,B4];omega
  have O:(y.toList.take (i*e.cells+off)++cs++y.toList.drop (i*e.cells+off+cs.length)).length=y.size:=by
   simp only[B4,CE,Cv];omega
  have a2:∀ k,([g]++(BY xs.length).flatMap λj=>if j=i then J else X j).count k<=bs.count k+K.count k:=by
   intro k;have h5:=kF ad X J k;have h6:=b9 k;rw[h2];simp only[CF,DJ,BP];omega
  have a1:=nh cu hK cy a2;have c3:∀ j,j<xs.length->∀ k∈(if j=i then J else X j),k≠g:=by
   intro j hj k Y e0;subst e0;have h7:=a1.1;rw[C7,CV]at h7;exact h7.1 (dV.2 ⟨j,hj,Y⟩)
  have I:∀ k,k≠g->(w.setCells g (i*e.cells+off) cs).heap[k]?=w.heap[k]?:=λk Y=>eQ g cs _ w k Y
  refine⟨[g]++(BY xs.length).flatMap λj=>if j=i then J else X j,⟨a1.1,(y.toList.take (i*e.cells+off)++cs++y.toList.drop (i*e.cells+off+cs.length)).take (xs.length*e.cells),
   λj=>if j=i then J else X j,⟨?_,.inr ⟨g,a3,_,_,?_,M,?_,by rw[Cg,O];exact cb,?_,?_⟩⟩,?_,?_⟩,a1.2⟩
  ·rw[CE,O,CW];omega
  ·rw[CW]
  ·rw[CW];exact bx
  ·rw[Cg,O];exact cc
  ·rw[CW]
  ·simp[CF]
  ·intro j x hj;rcases aS _ _ _ _ _ hj with ⟨rfl,rfl,_⟩|⟨a4,hj⟩
   ·refine⟨c,?_,λk u hu=>?_⟩
    ·simp only[if_true];exact hm.carry (λ_ h=>h) (λk Y=>I k (λe0=>c1 (e0 ▸ Y))) (λk Y=>I k (c3 j ad k (by simpa using Y)))
    ·have c2:k<e.cells:=by rw[<- cw];exact (BN.1 hu).1
     rw[CO,if_pos (by omega),Z _ (by omega)];rw[d1 k c2]at hu;by_cases b2:off<=k/\k<off+cs.length
     ·rw[if_pos b2]at hu;rw[if_pos (by omega),<- hu];congr 1;omega
     ·rw[if_neg b2]at hu;rw[if_neg (by omega)];exact d3 k u hu
   ·obtain⟨c',b3,cp⟩:=h3 j x hj;have b4:j<xs.length:=(BN.1 hj).1;refine⟨c',?_,λk u hu=>?_⟩
    ·rw[hh j a4];simp only[if_neg a4];exact b3.carry hG (λk Y=>I k (λe0=>c1 (e0 ▸ hG k Y))) (λk Y=>I k (c3 j b4 k (by rw[if_neg a4];exact Y)))
    ·have c2:k<e.cells:=by rw[<- b3.len];exact (BN.1 hu).1
     have d4:(j+1)*e.cells<=xs.length*e.cells:=BX _ b4;rw[CM]at d4;rw[CO,if_pos (by omega),Z _ (by omega),if_neg ?_]
     ·exact cp k u hu
     ·rintro⟨h14,h15⟩;rcases Nat.lt_or_gt_of_ne (λe=>a4 e.symm:i≠j) with a5|a5
      ·have:(i+1)*e.cells<=j*e.cells:=BX _ a5;rw[CM]at this;omega
      ·have:(j+1)*e.cells<=i*e.cells:=BX _ a5;rw[CM]at this;omega
theorem yc (hV:ay V)(hT:TOk P T){t:TypeId}{x y:Operand}(b2:o.op=.store t x y)(h:act Γ T o st κ=some r):bV P V o st κ r:=by
  simp only[act,wrU,b2]at h;split at h
  · cases h
  · rename_i hd
    cases hb:B8 (au st y).2.length (T t).cells&&decide ((au st y).1=bi (T t).agg)&&!decide ((T t).cells=0) with
    |false=>simp[hb]at h
    |true =>
      simp only[hb,cond_true]at h;simp only[BM,decide_eq_true_eq,CB,decide_eq_false_iff_not]at hb;obtain⟨⟨ad,cb⟩,b0⟩:=hb;have ad:=BT ad;split at h
      · rename_i b off hx
        cases Y:decide ((st b).sh=.agg)&&decide (off+(au st y).2.length<=(st b).ls.length)&&ig st (au st y).2 with
        |false=>simp[Y]at h
        |true =>
          simp only[Y,cond_true]at h;simp only[BM,decide_eq_true_eq]at Y;exact⟨_,h,λW a w hr=>tB hV hT b2 hd hx ad cb b0 Y.1.1 Y.1.2 Y.2 hr⟩
      · rename_i z j fz i sz off hx
        split at h
        · rename_i p hh E e xs ex
          cases Y:B8 sz e.cells&&decide (off+(au st y).2.length<=e.cells)&&sb z with
          |false=>simp[Y]at h
          |true =>
            simp only[Y,cond_true]at h;simp only[BM,decide_eq_true_eq,sb,CB]at Y;obtain⟨⟨ba,fv⟩,fx,e7⟩:=Y;have ba:=BT ba;subst ba;have es:z≠EPO:=λe0=>by subst e0;simp at e7
            unfold gH at h;obtain⟨a0,d1,h⟩:=CH.1 h;obtain⟨_,_,h4⟩:=gn d1;simp only[DM]at h4;split at h
            · rename_i u hu
              cases hq:u.rest.isEmpty&&a7 u.kill&&dz u.frz u.kill&&!((u.kill++u.frz).any λk=>B8 k.1 z) with
              |false=>rw[hq]at h;cases h
              |true =>
                simp only[hq,cond_true]at h;simp only[BM,CB,CI]at hq;obtain⟨⟨⟨dd,e6⟩,fd⟩,a2⟩:=hq;have a2:∀ k∈u.kill++u.frz,k.1≠z:=λk H e0=>a2 k H (by simp[e0])
                obtain ⟨I, hκ, bx, a4, cw⟩ : ∃ I : Option (Nat × Nat), κ ((z, ⟨(st z).ver, (st z).sh, aT (st z).ls j (.own (p || u.p) I E e (xs.set i u.val))⟩) :: (EPO, bU (ac (aN (ac (aF st u.frz) st) u.kill ++ aF st u.frz) st EPO)) ::
                      (aN (ac (aF st u.frz) st) u.kill++aF st u.frz))=some r /\
                    (∀ k,off<=k->k<off+(au st y).2.length->cP I i≠some k)/\(∀ k,¬ (off<=k/\k<off+(au st y).2.length)->(cP I i=some k<->cP hh i=some k))/\(∀ j',j'≠i->cP I j'=cP hh j'):=by
                  cases hh with
                  |none=>exact⟨none,h,λ_ _ _=>by simp[cP],λ_ _=>Cz,λ_ _=>rfl⟩
                  |some hp =>
                    obtain⟨hi,ho⟩:=hp;simp only at h;cases J:Cy off ho&&DF ho (off+(au st y).2.length) with
                    |true =>
                      rw[J]at h;simp only[cond_true]at h;simp only[BM,Cp]at J;have dc:=CX J.1;cases bb:B8 i hi with
                      |true =>
                        rw[bb]at h;have h9:=h;have:=BT bb;subst this;refine⟨none,h9,λ_ _ _=>by simp[cP],λk H=>?_,λj' ed=>?_⟩
                        · simp only[cP,Nat.beq_refl,cond_true,reduceCtorEq,BK,false_iff]
                          rintro rfl;exact H ⟨dc,J.2⟩
                        · have:B8 i j'=false:=by
                            cases fi:B8 i j' with
                            |false=>rfl
                            |true=>exact absurd (BT fi).symm ed
                          simp[cP,this]
                      |false=>rw[bb]at h;cases h
                    |false =>
                      rw[J]at h;refine⟨some (hi,ho),h,λk b1 eg=>?_,λ_ _=>Cz,λ_ _=>rfl⟩;simp only[cP];cases B8 hi i with
                      |false=>simp
                      |true =>
                        simp only[cond_true,ne_eq,BK];rintro rfl;have:(Cy off ho&&DF ho (off+(au st y).2.length))=true:=by
                          simp only[BM,Cp];exact⟨Ci b1,eg⟩
                        rw[J]at this;cases this
                refine⟨_,hκ,λW a w hr next Q hn=>?_⟩;obtain⟨cs,hs,M⟩:=cS hr y;rw[cb]at hs;have em:=gY hs M.one';have cp:=M.length;obtain⟨h5,h6⟩:=fj ex (by simp);obtain⟨hp,_,_,_⟩:=bt hr x (by rw[hx];simp);rw[hx]at hp;obtain⟨g,e5,f0,a5,g1,hv⟩:=hp.2 h5;have fc:T t≠.none:=by intro e;rw[e]at b0;exact b0 rfl
                have a3:=hr.leaf z j _ _ h6 a5;have en:∀ c0 X,Mx w (gd V W p) e (cP hh i) 0 a0 c0 X->∃ c a1,Mx w (λk=>gd V W p k\/bq V W u.p u.frz k) e (cP I i) 0 u.val c a1 /\
                    (∀ k,k<e.cells->c[k]?=if off<=k/\k<off+cs.length then cs[k-off]? else c0[k]?)/\∀ k,a1.count k<=X.count k+(aY W u.kill).count k:=by
                  intro c0 X hm;obtain⟨c1,c2,c',bs',f1,f2,f3,f4,f5,f6,f7,f8⟩:=mu hr bx a4 e 0 a0 (au st y).2 cs u c0 X M hu hm;have bn:c2=[]:=by
                    have:=f2.length;rw[DU.1 dd]at this;exact B7 this.symm
                  subst bn;rw[CD]at f1;subst f1;refine⟨c',bs',f4,λk H=>?_,f6⟩;rw[f5 k H,cp];simp only[Cb];by_cases J:off<=k/\k<off+cs.length
                  · rw[if_pos J,if_pos J]
                    congr 1;omega
                  · rw[if_neg J,if_neg J]
                have bl:(∀ x∈u.frz,aB st x)/\(∀ x∈u.kill,aB st x):=by
                  obtain⟨_,a6,c3,_,_,cc⟩:=a3;obtain⟨c0,ec,_⟩:=cc i a0 h4;obtain⟨_,_,_,_,_,_,_,_,_,_,f7,f8⟩:=mu hr bx a4 e 0 a0 (au st y).2 cs u c0 _ M hu ec;exact⟨f7,f8⟩
                obtain⟨k1,k2,k3,k4⟩:=fJ hV hr fd bl.2;have O:ac (aN (ac (aF st u.frz) st) u.kill++aF st u.frz) st z=st z:=by
                  rw[bD,kG _ _ (λx hx=>a2 x (BS _ hx)),kW _ _ (λx hx=>a2 x (BO _ hx))]
                have h7:(ac (aN (ac (aF st u.frz) st) u.kill++aF st u.frz) st z).ls[j]?=some (.own p hh E e xs):=by rw[O];exact h6
                have a9:=k1.ownb z j _ h7 trivial;have cy:∀ k,gd V W p k\/bq V W u.p u.frz k->gd V (W.frz st u.frz) (p||u.p) k:=by
                  rintro k (H|H)
                  · exact bT (W':=W.frz st u.frz) (by intro h;simp[h]) (λ_ h=>Or.inl h) k H
                  · exact bT (W':=W.frz st u.frz) (by intro h;simp[h]) (λ_ h=>h) k (kv bl.1 k H)
                have b9:g∈W.bs z j:=by obtain⟨_,a6,c3,_,d2,_⟩:=a3;rw[d2];simp[CF]
                have ev:¬ gd V (W.frz st u.frz) (p||u.p) g:=by
                  rintro (H|⟨_,H⟩)
                  · exact (a9 g b9).1 H
                  · exact (a9 g b9).2.1 (hV.ro g H)
                have ej:∀ k∈aY W u.kill,k∉W.bs z j:=λk H ef=>(k4 k H).2.2.2.2 z j _ h7 trivial ef
                obtain⟨bs',c4,d4⟩:=OwH.store (G':=gd V (W.frz st u.frz) (p||u.p)) (h':=I) a3 (λk H=>cy k (.inl H)) ev (gR hr e6 bl.2) ej h4 cw (off:=off) (cs:=cs) (by omega)
                  (λc0 X hm=>by
                    obtain⟨c,a1,q1,q2,q3⟩:=en c0 X hm;exact⟨c,a1,q1.mono cy,q2,q3⟩)
                obtain⟨_,a6,c3,ho,d2,_⟩:=a3;have eb:e5=xs.length:=by
                  obtain⟨A,cx,e0,_⟩:=ho.slice;simp only[CJ]at e0;exact e0.2.1
                subst eb;rcases ho.2 with ⟨h8,_⟩|⟨g',cx,cur,mk,h8,hg,et,fl,fr,_⟩
                · simp at h8
                · simp only[CJ,BK,Ct,and_true,true_and]at h8
                  obtain⟨rfl,rfl⟩:=h8;have cu:(i+1)*e.cells<=xs.length*e.cells:=BX _ (BN.1 h4).1;rw[CM]at cu;have fo:xs.length*e.cells<=f0*e.cells:=BX _ et;have b4:cur.toList.length=cur.size:=by rw[CK]
                  have d3:=ng (P:=P) (oP (hT t) fc) (w:=w) (b:=g) (off:=i*e.cells+off) (cur:=cur.toList) (E:=E) (by rw[CG];exact hg) (by rw[b4];exact zL fl) em (by omega) M.one' (by omega);refine pA (w':=w.setCells g (i*e.cells+off) cs) (by simp[execOp,b2,hv,d3]) ?_;rw[hd];refine hn _ _ ?_;obtain⟨e1,e2,e3,e4⟩:=jX g cs (i*e.cells+off) w;refine⟨_,k1.retell hV (l':=.own (p||u.p) I E e (xs.set i u.val)) (w':=w.setCells g (i*e.cells+off) cs) (bs':=bs') ?_ h7 trivial a5 trivial c4 (λk H=>?_) (λk _ H=>eQ g cs _ w k (λe=>H (e ▸ b9))) (Cx e4.symm) e1 e2 e3⟩
                  · rw[aQ z,aQ EPO]
                    have Z:EPO≠z:=Ca es;generalize aN (ac (aF st u.frz) st) u.kill++aF st u.frz=U at O ⊢;refine⟨λq=>?_,λq=>?_,?_,λq=>?_,λl M=>?_,λq i' l hq M=>?_⟩
                    · rcases aj z q ⟨(st z).ver,(st z).sh,aT (st z).ls j (.own (p||u.p) I E e (xs.set i u.val))⟩ (ac [(EPO,bU (ac U st EPO))] (ac U st)) with ⟨rfl,e⟩ | ⟨_,e⟩
                      · rw[e,O]
                      · rw[e]
                        rcases aj EPO q (bU (ac U st EPO)) (ac U st) with ⟨rfl,e⟩|⟨_,e⟩ <;> rw[e];rfl
                    · rcases aj z q ⟨(st z).ver,(st z).sh,aT (st z).ls j (.own (p||u.p) I E e (xs.set i u.val))⟩ (ac [(EPO,bU (ac U st EPO))] (ac U st)) with ⟨rfl,e⟩ | ⟨_,e⟩
                      · rw[e,O];exact B6 _
                      · rw[e]
                        rcases aj EPO q (bU (ac U st EPO)) (ac U st) with ⟨rfl,e⟩|⟨_,e⟩ <;> rw[e]
                        · exact DZ _
                        · exact B6 _
                    · rw[aJ Z,bm];exact BW _
                    · rcases aj z q ⟨(st z).ver,(st z).sh,aT (st z).ls j (.own (p||u.p) I E e (xs.set i u.val))⟩ (ac [(EPO,bU (ac U st EPO))] (ac U st)) with ⟨rfl,e⟩ | ⟨_,e⟩
                      · rw[e,O];simp[aT]
                      · rw[e]
                        rcases aj EPO q (bU (ac U st EPO)) (ac U st) with ⟨rfl,e⟩|⟨_,e⟩ <;> rw[e];rfl
                    · rw[bm]at M
                      rcases aS _ _ _ _ _ M with ⟨_,rfl,_⟩|⟨Z,_⟩
                      · rfl
                      · exact absurd rfl Z
                    · rcases aj z q ⟨(st z).ver,(st z).sh,aT (st z).ls j (.own (p||u.p) I E e (xs.set i u.val))⟩ (ac [(EPO,bU (ac U st EPO))] (ac U st)) with ⟨rfl,e⟩ | ⟨_,e⟩
                      · rw[e]at M
                        rw[O];rcases aS _ _ _ _ _ M with ⟨rfl,_,_⟩|⟨_,M⟩
                        · exact absurd rfl hq
                        · exact M
                      · rw[e]at M
                        rcases aj EPO q (bU (ac U st EPO)) (ac U st) with ⟨rfl,e⟩|⟨_,e⟩ <;> rw[e]at M <;> exact M
                  · rcases d4 k H with H|H
                    · have h9:=k1.ownb z j _ h7 trivial k H
                      exact⟨h9.1,h9.2.1,h9.2.2,λr1 i1 l1 b5 b3 Z b1=>Z (by obtain⟨e1,e2⟩:=k1.sep r1 i1 l1 z j _ b5 b3 h7 trivial k b1 H;rw[e1,e2])⟩
                    · have h9:=k4 k H
                      exact⟨h9.1,h9.2.1,h9.2.2.2.1,λr1 i1 l1 b5 b3 _=>h9.2.2.2.2 r1 i1 l1 b5 b3⟩
            · cases h
        · cases h
      · cases h
end
section
variable {P:Program} {V:Env} {Γ:List Ctr} {T:TypeId->TI} {st:St} {o:Oper} {R:Type} {κ:Upd->Option R} {r:R}
theorem an.putOwn (hV:ay V){W:Wit}{a:Act}{w w':World}(h:an P V W st a w)(O:w.heap.size<=w'.heap.size)(I:w'.os=w.os)(ht:w'.tape=w.tape)(ho:w'.output=w.output)
  (hk:∀ k,cd V W st k->w'.heap[k]?=w.heap[k]?) (d:Nat) (hd:d<V.nt) (z:∀ x∈V.fixt,x.1≠d) (n:Nat) (hn:(st d).ver<n) {p:Bool} {E:TypeId} {e:Ty} {xs:List e.den} {v:Value} {bs:List Nat}
  (X:Ow w' (gd V W p) E e xs v bs) (hb:∀ k∈bs,¬ cd V W st k):Rel P V (ac [(d,⟨n,.one,[.own p none E e xs]⟩)] st) (a.put (some d) v) w':=by
 refine⟨_,(h.world hV O I ht ho hk).put hV d hd z n .one [.own p none E e xs] v [v] (λ_=>bs) hn rfl rfl (λu Y=>by simp at Y;subst Y;exact X.one) ?_ ?_ ?_⟩
 ·intro j l u y H;cases j with
  |zero=>simp at y H;subst y;subst H;exact X
  |succ j=>simp at y
 ·intro j l y H k J;have:=hb k J;simp only[cd,not_or,not_exists,not_and]at this;exact⟨this.1,this.2.1,this.2.2.1,λr1 j1 l1 _ M Z=>this.2.2.2 r1 j1 l1 M Z⟩
 ·intro j j' l l' y H M Z k h5 h6;have h7:j<1:=(BN.1 y).1;have h8:j'<1:=(BN.1 M).1;omega
theorem dP {W:Wit}{p q:Bool}{H z:List (Nat×Nat)}:(∀ k,bq V W p H k->bq V W (p||q) (H++z) k)/\(∀ k,bq V W q z k->bq V W (p||q) (H++z) k):=by
 constructor
 ·rintro k (u|⟨x,y,u⟩)
  ·exact .inl (bT (W':=W) (by intro h;simp[h]) (λ_ h=>h) k u)
  ·exact .inr ⟨x,BS _ y,u⟩
 ·rintro k (u|⟨x,y,u⟩)
  ·exact .inl (bT (W':=W) (by intro h;simp[h]) (λ_ h=>h) k u)
  ·exact .inr ⟨x,BO _ y,u⟩
theorem yd (n:Nat)(u:Nat->List Nat):(BY (n+1)).flatMap u=u 0++(BY n).flatMap λj=>u (j+1):=by
 rw[List.range_succ_eq_map,CY,DV]
theorem ov {W:Wit}{a:Act}{w:World}(O:an P V W st a w){e:Ty}:∀ (ps:List (Nat×Operand)) (k:Nat) (u:cI (List e.den)),eG st e k ps=some u ->
  ps.map (λx=>(x.1,a.eval x.2))=((ps.map λx=>a.eval x.2).zipIdx k).map (λx=>(x.2,x.1))/\u.val.length=ps.length/\(∀ x∈u.frz,aB st x)/\(∀ x∈u.kill,aB st x) /\
  ∃ z:Nat->List Nat,aY W u.kill=(BY u.val.length).flatMap z /\
   ∀ (j:Nat) (x:e.den),u.val[j]?=some x->∃ v c,(ps.map λx=>a.eval x.2)[j]?=some v/\v.cells=c.toArray/\Mx w (bq V W u.p u.frz) e none 0 x c (z j)
 |[],k,u,h=>by
  simp only[eG,BK]at h;subst h;exact⟨rfl,rfl,by simp,by simp,λ_=>[],rfl,λj x I=>by simp at I⟩
 |(i,y)::ps,k,u,h=>by
  simp only[eG]at h;cases H:B8 i k&&decide ((au st y).1=bi e.isAgg) with
  |false=>simp[H]at h
  |true =>
   simp only[H,cond_true]at h;simp only[BM,decide_eq_true_eq]at H;have M:=BT H.1;subst M;split at h
   ·rename_i t1 u1 hg X;simp only[BK]at h;subst h;obtain⟨h1,h2,h3,h4,z,h5,h6⟩:=ov O ps (i+1) u1 X;obtain⟨cs,Z,Y⟩:=cS O y;rw[H.2]at Z;have hc:=gY Z Y.one';obtain⟨g1,g2,g3⟩:=dN (pos:=0) O Y hg;refine⟨by simp[h1],by simp[h2],λx J=>(BV.1 J).elim (g2 x) (h3 x),λx J=>(BV.1 J).elim (g3 x) (h4 x),λj=>match j with|0=>aY W t1.kill|j+1=>z j,?_,?_⟩
    ·rw[dH,h5,Cw,yd]
    ·intro j x I;cases j with
     |zero =>
      simp at I;subst I;exact⟨a.eval y,cs,by simp,hc,g1.mono dP.1⟩
     |succ j =>
      obtain⟨v,c,h7,h8,h9⟩:=h6 j x (by simpa using I);exact⟨v,c,by simpa using h7,h8,h9.mono dP.2⟩
   ·cases h
theorem lP (w:World)(G:Nat->Prop):∀ (b:Ty),Rd w G b b.zero (zeroCells b)
 |.int _=>rfl
 |.bool=>rfl
 |.str=>rfl
 |.unit=>rfl
 |.hdr=>⟨none,0,rfl⟩
 |.pair a b=>⟨_,_,rfl,lP w G a,lP w G b⟩
 |.list m E e=>Rd.nil w G m E e
theorem qH (w:World)(G:Nat->Prop):∀ (b:Ty) (pos:Nat),Mx w G b none pos b.zero (zeroCells b) []
 |.int _,_=>⟨rfl,rfl⟩
 |.bool,_=>⟨rfl,rfl⟩
 |.str,_=>⟨rfl,rfl⟩
 |.unit,_=>⟨rfl,rfl⟩
 |.hdr,_=>⟨⟨none,0,rfl⟩,rfl⟩
 |.pair a b,_=>⟨_,_,[],[],rfl,rfl,qH w G a _,qH w G b _⟩
 |.list m E e,_=>by
  cases m with
  |false=>exact cm.2 ⟨rfl,Rd.nil w G false E e⟩
  |true=>exact (bJ (by simp)).2 ⟨_,rfl,(OwH.nil w G E e).2⟩
theorem mv {W:Wit}{k:Nat}(h:¬ W.nw k/\¬ V.prot k/\(∀ b,live st b->W.β b≠k)/\∀ (u i:Nat) (l:Leaf),(st u).ls[i]?=some l->am l->k∉W.bs u i):¬ cd V W st k:=by
 rintro (y|y|⟨b,I,e⟩|⟨u,i,l,z,J,H⟩)
 ·exact h.1 y
 ·exact h.2.1 y
 ·exact h.2.2.1 b I e
 ·exact h.2.2.2 u i l z J H
theorem mw:(9223372036854775807:Nat)<=maxLen:=by decide
theorem qI (hV:ay V)(hT:TOk P T)(b4:bN V o){t:TypeId}{n:Nat}{y:Array (Nat×Operand)}(a2:o.op=.buildSlice t n y)(h:act Γ T o st κ=some r):bV P V o st κ r:=by
 simp only[act,wrU,a2]at h;cases ht:T t with
 |slice E e cc =>
  simp only[ht]at h;split at h
  ·rename_i u c2;cases hb:B8 u.val.length n&&decide (n*e.cells<=16777216)&&a7 u.kill&&dz u.frz u.kill with
   |false=>simp[hb]at h
   |true =>
    simp only[hb,cond_true]at h;simp only[BM,decide_eq_true_eq]at hb;obtain⟨⟨⟨bl,cp⟩,c0⟩,c3⟩:=hb;have bb:=BT bl;subst bb;split at h
    ·rename_i d hd;refine⟨_,h,λW a w hr next Q hn=>?_⟩;have h1:=hT t;rw[ht]at h1;obtain⟨hu,_,_,Y,_,ti,z,a1,O,_,hz,cw⟩:=h1;obtain⟨h2,h3,b9,b1,a9,cb,h5⟩:=ov hr y.toList 0 u c2;generalize cu:u.val=I at *;have a4:∀ v∈(y.toList.map λx=>a.eval x.2),v.cells.size=e.cells:=by
      intro v hv;obtain⟨j,hj,e1⟩:=List.getElem_of_mem hv;have bx:j<I.length:=by rw[h3];simpa using hj
      obtain⟨v',c,X,Z,h8⟩:=h5 j I[j] (B5 bx);rw[B5 hj]at X;simp only[BK]at X;rw[<- e1,X,Z];simpa using h8.len
     have b0:(y.toList.map λx=>a.eval x.2).length=I.length:=by rw[Cm,h3]
     have a0:∀ (j:Nat) (x:e.den),I[j]?=some x->∃ c,Mx w (bq V W u.p u.frz) e none 0 x c (a9 j)/\∀ i u,c[i]?=some u ->
       ((y.toList.map λx=>a.eval x.2).flatMap λv=>v.cells.toList)[j*e.cells+i]?=some u:=by
      intro j x hj;obtain⟨v,c,X,Z,h8⟩:=h5 j x hj;refine⟨c,h8,λi u hi=>?_⟩;have ba:i<e.cells:=by rw[<- h8.len];exact (BN.1 hi).1
      rw[Great.flat_get Y _ a4];have e1:(j*e.cells+i) / e.cells=j:=by
       rw[C0,Nat.mul_add_div Y,Nat.div_eq_of_lt ba,CQ]
      have e2:(j*e.cells+i) % e.cells=i:=by
       rw[C0,De,DW ba]
      rw[e1,e2,X];simpa[Z]using hi
     have a3:((y.toList.map λx=>a.eval x.2).flatMap λv=>v.cells.toList).length=I.length*e.cells:=by
      have:∀ (vs:List Value),(∀ v∈vs,v.cells.size=e.cells)->(vs.flatMap λv=>v.cells.toList).length=vs.length*e.cells:=by
       intro vs;induction vs with
       |nil=>intro _;simp
       |cons v vs ih =>
        intro hv;rw[CY,B4,ih (λu hu=>hv u (BZ _ hu)),CK,hv v (B9 ..),Cw,CM];omega
      rw[this _ a4,b0]
     have H:=Great.fill_whole Y (y.toList.map λx=>a.eval x.2) ((Array.range (I.length*e.cells)).map ((if I.length*e.cells=0 then (#[]:Array Value) else z.cells)[· % (if I.length*e.cells=0 then (#[]:Array Value) else z.cells).size]!)) a4 (by rw[b0];simp);rw[<- h2]at H;have a5:(y.map λ (i,x)=>(i,a.eval x)).toList=y.toList.map λx=>(x.1,a.eval x.2):=by rw[DX]
     have b5:(execOp a.eval o).run P w=.ok (.value (.slice (some ⟨w.heap.size,0,none⟩) I.length I.length)) (w.alloc (.cells ((y.toList.map λx=>a.eval x.2).flatMap λv=>v.cells.toList).toArray E)):=by
      have M:¬ (I.length*e.cells>2 ^ 24):=by omega
      by_cases h0:I.length*e.cells=0
      ·rw[if_pos h0]at H;simp only[execOp,a2,Instr.buildSlice,DN,run_underlying hu,Cr,sizeOf,typeInfo,a1,O,a5];simp[M,h0,newRow,a1,O,a5]at H ⊢;simp[H]
      ·rw[if_neg h0]at H;have:=run_buildSlice (P:=P) w t E I.length (y.map λ (i,x)=>(i,a.eval x)) _ ti z hu a1 hz (by rw[O];exact M) (by rw[O];exact h0) (by rw[O,a5];exact H);simp[execOp,a2,this]
     refine dW b5 ?_;rw[hd];refine hn _ _ ?_;rw[cg,aQ];obtain⟨X,_,_,a6⟩:=fJ hV hr c3 b1;have b3:=X.used_lt;have ad:I.length<=maxLen:=by
      have:=mw;have:I.length*1<=I.length*e.cells:=Co _ Y;omega
     have c4:=World.ownsRow_lit (e:=E) (size:=e.cells) (base:=0) w ((y.toList.map λx=>a.eval x.2).flatMap λv=>v.cells.toList).toArray I.length (Da _) ad (by simpa using a3);refine X.putOwn hV (w':=w.alloc (.cells ((y.toList.map λx=>a.eval x.2).flatMap λv=>v.cells.toList).toArray E)) (by simp) rfl rfl rfl (λk J=>Go.heap_alloc_old w _ (b3 k J)) d (b4 d hd).1 (b4 d hd).2 _ (BW _) (bs:=w.heap.size::aY W u.kill) ?_ (λk J hu=>?_)
     ·refine⟨CV.2 ⟨λhm=>?_,gR hr c0 b1⟩,_,a9,Row.of c4,by rw[cb];rfl,λj x hj=>?_⟩
      ·have:=(a6 _ hm).2.2.1;omega
      ·obtain⟨c,b2,bn⟩:=a0 j x hj;have c1:∀ k,bq V W u.p u.frz k->k<w.heap.size:=λk J=>by
        rcases kv b9 k J with J|⟨_,J⟩
        ·exact (X.nwlt k J).1
        ·exact CU (hV.ro k J).1 X.size
       exact⟨c,b2.carry (kv b9) (λk J=>Go.heap_alloc_old w _ (c1 k J)) (λk J=>Go.heap_alloc_old w _ (b2.lt k J)),λi u hi=>by simpa using bn i u hi⟩
     ·rcases Cc.1 J with rfl|J
      ·have:=b3 _ hu;omega
      ·have Z:=a6 k J;exact mv ⟨Z.1,Z.2.1,Z.2.2.2.1,Z.2.2.2.2⟩ hu
    ·cases h
  ·cases h
 |_=>simp[ht]at h
theorem ye {w:World}{G:Nat->Prop}{E':TypeId}{y u e:TypeId}(Y:P.underlying y=some (.slice e))(Z:P.underlying e=some (.int .u8))(X:P.underlying u=some .string){xs:List Int}{v:Value}
  (h:Rd w G (.list false E' (.int .u8)) xs [v]):(convert y u v).run P w=.ok (.string (gI xs)) w:=by
 obtain⟨A,z,hv,hc,J⟩:=h;simp only[Cn,and_true]at hv;subst hv;cases A with
 |none =>
  have hx:xs=[]:=by
   cases xs with
   |nil=>rfl
   |cons x xs=>obtain⟨g,o,M,_⟩:=J (by simp);cases M
  subst hx;show (convert y u (.slice none 0 z)).run P w=_;rw[run_convert_bytes_nil w y e Y Z 0 z u X];rfl
 |some ad =>
  cases I:xs with
  |nil =>
   subst I;show (convert y u (.slice (some ad) 0 z)).run P w=_;rw[run_convert_bytes_string w y u e ad 0 z Y Z X];simp[Conv.bytesToString,loadCells,loadCellsFrom];rfl
  |cons x0 a0 =>
   rw[<- I];obtain⟨g,o,M,_,hr⟩:=J (by rw[I];simp);simp only[BK]at M;subst M;have:=run_convert_bytes_arg (P:=P) w y e Y Z g o xs.length z xs rfl (λi hi=>by
    obtain⟨c,H,O⟩:=hr i xs[i] (B5 hi);have H:c=[.int .u8 xs[i]]:=H;subst H;have:=O 0 _ rfl;simp only[Ty.cells,DC,CQ]at this;rw[this];simp[List.getD,B5 hi]) u X
   rw[this];rfl
theorem uF (hV:ay V)(hT:TOk P T)(J:bN V o){s t:TypeId}{x:Operand}(M:o.op=.convert s t x)(h:act Γ T o st κ=some r):bV P V o st κ r:=by
 simp only[act,wrU,M]at h;have y:=hT t;have z:=hT s;split at h
 ·rename_i k' k a4 n Z X hx;split at h
  ·rename_i d O;refine⟨_,h,λW a w I=>aO hV I O J (v:=.int k (k.wrap n)) ?_ rfl id rfl⟩;rw[X]at y;rw[Z]at z;simp[execOp,M,bG I hx,Go.convert,run_underlying y.1,run_underlying z.1,Conv.intToInt]
  ·cases h
 ·rename_i E b Z X;split at h
  ·rename_i p xs ha;split at h
   ·rename_i d O;refine⟨_,h,λW a w I=>?_⟩;have a1:one st x≠.dead:=by intro e0;rw[e0]at ha;simp[aE,dg]at ha
    obtain⟨h1,h2,_⟩:=bt I x a1;have a2:=kP (m:=false) (E:=E) I h1 h2 ha;rw[X]at y;rw[Z]at z;refine aO hV I O J (v:=.string (gI xs)) ?_ rfl id rfl;have:=ye (P:=P) z.1 (z.2.2.2.2.1.2 rfl) y.1 a2;simp[execOp,M,this]
   ·cases h
  ·cases h
 ·rename_i E b H Z X hx;split at h
  ·rename_i d O;refine⟨_,h,λW a w I next Q hn=>?_⟩;rw[X]at y;rw[Z]at z;have hc:(ew H).length=H.size:=by simp only[ew,Cm,CK];rfl
   have Y:=Lib.run_convert_string_bytes (P:=P) w s t E H z.1 y.1 (y.2.2.2.2.1.2 rfl);refine dW (v:=.slice (some ⟨w.heap.size,0,none⟩) H.size (grownCap w H.size 0 E)) (w':=Lib.bytesWorld w E H) (by simp[execOp,M,iD I hx,Y]) ?_;rw[O];refine hn _ _ ?_;have a3:=grownCap_ge w H.size 0 E;have a0:(Lib.bytesCells w E H).size=grownCap w H.size 0 E:=by
    simp only[Lib.bytesCells,DO,Array.size_map,Array.size_replicate];show H.size+_=_;omega
   refine I.putOwn hV (by rw[Lib.bytesWorld_size];omega) (by simp[Lib.bytesWorld,DP,Db,Dj,-DD,-DH]) (by simp[Lib.bytesWorld,DP,Db,Dj,-DD,-DH]) (by simp[Lib.bytesWorld,DP,Db,Dj,-DD,-DH])
    (λk hk=>Lib.bytesWorld_at_old w E H k (I.used_lt k hk)) d (J d O).1 (J d O).2 _ (BW _) (bs:=[w.heap.size])
    ⟨by simp,(ew H).map (Value.int .u8),λ_=>[],⟨by rw[Cm];exact (DC _).symm,.inr ⟨w.heap.size,_,_,_,by rw[hc],Lib.bytesWorld_at_new w E H,by rw[hc];exact a3,.inr ⟨rfl,B6 _⟩,by rw[a0];exact Cx (DC _),?_⟩⟩,by simp[CF],λj x hj=>?_⟩ (λk hk hu=>?_)
   ·simp only[Lib.bytesCells,DG,DX,Ty.cells,DC,ew,DQ];exact List.take_left' (by simp)
   ·refine⟨[.int .u8 x],⟨rfl,rfl⟩,λi u hi=>?_⟩
    match i,hi with
    |0,hi =>
     simp only[Ce,BK]at hi;subst hi;simp[Ty.cells,hj]
   ·simp at hk;have:=I.used_lt k hu;omega
  ·cases h
 ·cases h
theorem r8 (hV:ay V)(hT:TOk P T)(M:bN V o){t:TypeId}{n c:Operand}(X:o.op=.makeSlice t n c)(h:act Γ T o st κ=some r):bV P V o st κ r:=by
 simp only[act,wrU,X]at h;split at h
 ·rename_i E e H k1 m k2 m' ht b2 a5;cases hb:decide (0<=m)&&decide (m=m')&&decide (m*H<=(ak:Int)) with
  |false=>simp[hb]at h
  |true =>
   simp only[hb,cond_true]at h;simp only[BM,decide_eq_true_eq]at hb;obtain⟨⟨h0,rfl⟩,a6⟩:=hb;split at h
   ·rename_i d hd;refine⟨_,h,λW a w O next Q hn=>?_⟩;have h1:=hT t;rw[ht]at h1;obtain⟨hu,_,_,b9,a2,ti,z,a0,a3,a4,hz,Y⟩:=h1;have hm:(m.toNat:Int)=m:=by omega
    have Z:m.toNat*H<=ak:=by
     have:((m.toNat*H:Nat):Int)<=(ak:Int):=by rw[Int.natCast_mul,hm];exact a6
     omega
    have bb:m.toNat*1<=m.toNat*H:=Co _ a2.1;simp only[ak]at Z;have b5:=mw;obtain⟨w',I,b3,y⟩:=run_make_full (P:=P) w 0 t E ti z e.cells hu a0 hz a3 k1 k2 m.toNat (by rw[a4,C0];omega) (by omega) (Da _);rw[hm]at I;refine dW (v:=.slice (some ⟨w.heap.size,0,none⟩) m.toNat m.toNat) (w':=w') (by simp[execOp,X,bG O b2,bG O a5,I]) ?_;rw[hd];refine hn _ _ ?_;have ad:z.cells.size=e.cells:=by
     have h2:=(lP w (λ_=>False) e).len;rw[<- CK,Y,h2]
    refine O.putOwn hV y.size y.os y.tape y.output (λk hk=>y.block k (O.used_lt k hk) (by simp)) d (M d hd).1 (M d hd).2 _ (BW _) (bs:=[w.heap.size])
     ⟨by simp,_,λ_=>[],by rw[C8];exact Row.of b3,by simp[CF],λj x hj=>?_⟩ (λk hk hu=>?_)
    ·rw[Cf]at hj;split at hj
     ·rename_i a1;simp at hj;subst hj;refine⟨_,qH w' _ e 0,λi u hi=>?_⟩;have b4:i<e.cells:=by rw[<- (lP w' (λ_=>False) e).len];exact (BN.1 hi).1
      have J:(j+1)*e.cells<=m.toNat*e.cells:=BX _ a1;rw[CM]at J;have a9:j*e.cells+i<m.toNat*e.cells:=by omega
      have e2:(j*e.cells+i) % e.cells=i:=by rw[C0,De,DW b4]
      have b1:z.cells[i]?=some u:=by rw[<- C9,Y];exact hi
      obtain⟨ba,b0⟩:=Array.getElem?_eq_some_iff.1 b1;simp only[madeCells,C9,Array.getElem?_map,Array.getElem?_range,a9,if_true,Df,ad,e2];rw[getElem!_pos z.cells i (by omega),b0]
     ·cases hj
    ·simp at hk;have:=O.used_lt k hu;omega
   ·cases h
 ·cases h
theorem uG (n u:Nat)(z:n<=u)(k y:IntKind)(w:World):(DR true n u none (some (.int k n)) (some (.int y n))).run P w=.ok (0,n,n) w:=by
 simp[DR,Instr.sliceBound,asIntOf,z]
theorem wo (hV:ay V)(hT:TOk P T)(a6:bN V o){t:TypeId}{x m:Operand}{lo hi:Option Operand}(a1:o.op=.slice t x lo hi (some m))(h:act Γ T o st κ=some r):bV P V o st κ r:=by
 simp only[act,wrU,a1]at h;cases hd:o.dst with
 |none=>simp[hd]at h
 |some d =>
  simp only[hd]at h;split at h
  ·rename_i E' e' cc X j v ht hx;split at h
   ·rename_i p E e J hdr;split at h
    ·rename_i hh k b1 c0;cases hb:hi.isSome&&decide (hh=(J.length:Int))&&decide (k=(J.length:Int))&&B8 e'.cells e.cells with
     |false=>rw[hb]at h;cases h
     |true =>
      rw[hb]at h;simp only[cond_true]at h;simp only[BM,decide_eq_true_eq]at hb;obtain⟨⟨⟨a0,rfl⟩,rfl⟩,O⟩:=hb;have O:=BT O;refine⟨_,h,λW a w hr next Q hn=>?_⟩;have h1:=hT t;rw[ht]at h1;obtain⟨hu,_,_,_,_,ti,z,b4,c1,_⟩:=h1;obtain⟨a5,_,_,_,_⟩:=bt hr x (by rw[hx];simp);rw[hx]at a5;obtain⟨h8,a4,cp,cw⟩:=kt hr hdr a5;obtain⟨y,hy,Z,ba⟩:∃ y,hi=some y/\∃ Z,a.eval y=.int Z J.length:=by
       rcases mS hr b1 with ⟨I,_⟩|⟨y,Z,I,H⟩
       ·rw[I]at a0;cases a0
       ·exact⟨y,I,Z,H⟩
      obtain⟨k2,bb⟩:∃ k2,a.eval m=.int k2 J.length:=by
       rcases mS hr c0 with ⟨I,_⟩|⟨y,k2,I,H⟩
       ·cases I
       ·cases I;exact⟨k2,H⟩
      obtain⟨A,c2,hv,a2⟩:=a4.slice;have hE:=dq (P:=P) (t:=E') (n:=e.cells) (by simp[bP,b4,c1,O]) w;have a9:(if J.length=0 then A else A.map λx=>x.add (0*e.cells))=A:=by
       cases A with
       |none=>simp
       |some ad =>
        have e0:ad.add 0=ad:=by simp[Addr.add]
        show (if J.length=0 then some ad else some (ad.add (0*e.cells)))=some ad;rw[DS,e0];split <;> rfl
      refine dW (v:=.slice A J.length J.length) (w':=w) ?_ ?_
      ·simp only[execOp,a1,hv,hy,Df,C6,ba,bb,Instr.sliceAt,Instr.slice,DN,run_underlying hu,Cr,uG J.length c2 a2 Z k2 w,hE,Sem.run_pure,C3,a9]
      ·rw[hd];refine hn _ _ ?_;rw[cg,aQ];have bn:∀ z∈[(X,j)],aB st z:=λz hz=>by simp at hz;subst hz;exact⟨_,cp,trivial⟩
       obtain⟨h6,_,_,u⟩:=fJ (frz:=[]) (kill:=[(X,j)]) hV hr rfl bn;have e1:aN (ac (aF st []) st) [(X,j)]++aF st []=aN st [(X,j)]:=CD _;rw[e1]at h6 u;have c3:aY W [(X,j)]=W.bs X j:=by simp[aY]
       rw[c3]at u;obtain⟨b5,a3,b2,M,b0,bl⟩:=a4;refine h6.putOwn hV (w':=w) (B6 _) rfl rfl rfl (λ_ _=>rfl) d (a6 d hd).1 (a6 d hd).2 _ (BW _) (bs:=W.bs X j) ?_ (λk hk=>mv ⟨(u k hk).1,(u k hk).2.1,(u k hk).2.2.2.1,(u k hk).2.2.2.2⟩);have b9:∀ k,gd V W p k->gd V (W.frz st []) p k:=bT (W':=W.frz st []) (λh=>h) (λ_ h=>Or.inl h);refine OwH.carry (G:=gd V W p) ⟨b5,a3,b2,⟨M.1,?_⟩,?_,bl⟩ b9 (λ_ _=>rfl) (λ_ _=>rfl)
       ·rcases M.2 with ⟨Y,I⟩|⟨g,cu,bx,mk,Y,I,H,b3,c4,cb⟩
        ·rw[hv]at Y;simp only[CJ]at Y;exact .inl ⟨by rw[Y.1,I],I⟩
        ·rw[hv]at Y;simp only[CJ,true_and]at Y;exact .inr ⟨g,J.length,bx,mk,by rw[Y.1],I,B6 _,b3.imp (λh=>⟨h.1,CS H h.2⟩) id,CS (BX _ H) c4,cb⟩
       ·rw[b0,hv];cases A <;> rfl
    ·cases h
   ·cases h
  ·cases h
theorem yf (H:ay V)(z:TOk P T)(y:bN V o){t:TypeId}{x:Operand}{M J I:Option Operand}(u:o.op=.slice t x M J I)(h:act Γ T o st κ=some r):bV P V o st κ r:=by
 cases I with
 |none=>exact vH H z y u h
 |some m=>exact wo H z y u h
theorem AJ (hV:ay V)(I:bN V o){c:Call}(z:o.op=.call c)(M:c.callee=.builtin .min)(h:act Γ T o st κ=some r):bV P V o st κ r:=by
 simp only[act,wrU,z,M]at h;split at h
 ·cases h
 ·rename_i d O;simp only[O]at h;split at h
  ·rename_i x y X;split at h
   ·rename_i Z m k2 n Y hn;have u:c.args=#[x,y]:=by rw[<- CG (xs:=c.args),X]
    refine⟨_,h,λW a w J=>aO hV J O I (v:=.int Z (bif decide (n<m) then n else m)) ?_ rfl id rfl⟩;cases H:decide (n<m) <;> simp[execOp,z,M,resolve,invoke,builtin,u,bG J Y,bG J hn,Builtin.min_,Builtin.min2] <;> simp at H <;> omega
   ·cases h
  ·cases h
theorem AK (hV:ay V)(I:bN V o){c:Call}(z:o.op=.call c)(M:c.callee=.builtin .max)(h:act Γ T o st κ=some r):bV P V o st κ r:=by
 simp only[act,wrU,z,M]at h;split at h
 ·cases h
 ·rename_i d O;simp only[O]at h;split at h
  ·rename_i x y X;split at h
   ·rename_i Z m k2 n Y hn;have u:c.args=#[x,y]:=by rw[<- CG (xs:=c.args),X]
    refine⟨_,h,λW a w J=>aO hV J O I (v:=.int Z (bif decide (m<n) then n else m)) ?_ rfl id rfl⟩;cases H:decide (m<n) <;> simp[execOp,z,M,resolve,invoke,builtin,u,bG J Y,bG J hn,Builtin.max_,Builtin.max2] <;> simp at H <;> omega
   ·cases h
  ·cases h
end
section
variable {P:Program} {V:Env} {W:Wit} {st st':St} {w w':World} {a:Act}
theorem an.putGhost (hV:ay V)(h:an P V W st a w)(d:Nat)(hd:GH<=d)(a4:d<B0)(n:Nat)(sh:aI)(ls:List Leaf)
  (X:List Value) (M:Nat->List Nat) (hn:(st d).ver<n) (hl:ls.length=X.length) (h1:∀ u∈X,u.oneCell'=true)
  (a1:∀ (j:Nat) (l:Leaf) (u:Value),ls[j]?=some l->X[j]?=some u->aK P V W st w (M j) l u)
  (a0:∀ (j:Nat) (l:Leaf),ls[j]?=some l->am l->∀ k∈M j,¬ W.nw k/\¬ V.prot k/\(∀ b,live st b->W.β b≠k) /\
   ∀ (r1 j1:Nat) (l1:Leaf),r1≠d->(st r1).ls[j1]?=some l1->am l1->k∉W.bs r1 j1)
  (a2:∀ (j j':Nat) (l l':Leaf),ls[j]?=some l->am l->ls[j']?=some l'->am l'->∀ k,k∈M j->k∈M j'->j=j') :
  an P V { W with cs:=λr=>if r=d then X else W.cs r,bs:=λr j=>if r=d then M j else W.bs r j } (ac [(d,⟨n,sh,ls⟩)] st) a w /\
   cB V W { W with cs:=λr=>if r=d then X else W.cs r,bs:=λr j=>if r=d then M j else W.bs r j } st (ac [(d,⟨n,sh,ls⟩)] st) w w:=by
 have I:∀ b,live (ac [(d,⟨n,sh,ls⟩)] st) b<->live st b:=by
  intro b;by_cases Y:B0<=b
  ·rw[live,live,aJ (by omega)]
  ·simp[live,Y]
 have J:cB V W { W with cs:=λr=>if r=d then X else W.cs r,bs:=λr j=>if r=d then M j else W.bs r j } st (ac [(d,⟨n,sh,ls⟩)] st) w w:=by
  refine⟨λq=>?_,λb Y=>⟨(I b).2 Y,rfl⟩,λ_ h=>h,λ_ _=>rfl,λ_ q j' l' O h4 h5=>?_⟩
  ·rcases aj d q ⟨n,sh,ls⟩ st with ⟨rfl,e⟩|⟨y,e⟩
   ·rw[e];exact⟨Nat.le_of_lt hn,λe=>absurd e (by show n≠_;omega)⟩
   ·rw[e];exact⟨B6 _,λ_=>by simp[y]⟩
  ·rcases aj d q ⟨n,sh,ls⟩ st with ⟨rfl,e⟩|⟨y,e⟩
   ·rw[e]at h5;exact absurd h5 (by show n≠_;omega)
   ·rw[e]at O;exact⟨⟨l',O,h4⟩,by simp[y],λ_ _=>rfl⟩
 refine⟨?_,J⟩
 exact {
  nt:=h.nt,df:=h.df
  slots:=λt ht=>by
   have:t≠d:=by omega
   rw[aJ this];simpa[this]using h.slots t ht
  boxes:=λb Y=>by
   have:b≠d:=by omega
   rw[aJ this];simpa[this]using h.boxes b Y
  len:=λq=>by
   rcases aj d q ⟨n,sh,ls⟩ st with ⟨rfl,e⟩|⟨y,e⟩
   ·rw[e];simpa using hl
   ·rw[e];simpa[y]using h.len q
  one:=λq u hu=>by
   by_cases hq:q=d
   ·simp only[hq,if_true]at hu;exact h1 u hu
   ·simp only[hq,if_false]at hu;exact h.one q u hu
  leaf:=λq j l u z O=>by
   rcases aj d q ⟨n,sh,ls⟩ st with ⟨rfl,e⟩|⟨y,e⟩
   ·rw[e]at z;simp only[if_true]at O;exact (a1 j l u z O).carry hV.ro J (λ_=>⟨by simp,λ_ _=>rfl⟩)
   ·rw[e]at z;simp only[y,if_false]at O;exact (h.leaf q j l u z O).carry hV.ro J (λ_=>⟨by simp[y],λ_ _=>rfl⟩)
  ownb:=λq j l z O k R=>by
   rcases aj d q ⟨n,sh,ls⟩ st with ⟨rfl,e⟩|⟨y,e⟩
   ·rw[e]at z;simp only[if_true]at R;have:=a0 j l z O k R;exact⟨this.1,this.2.1,λb Y=>this.2.2.1 b ((I b).1 Y)⟩
   ·rw[e]at z;simp only[y,if_false]at R;have:=h.ownb q j l z O k R;exact⟨this.1,this.2.1,λb Y=>this.2.2 b ((I b).1 Y)⟩
  sep:=λq j l q' j' l' z O h4 h5 k R H=>by
   rcases aj d q ⟨n,sh,ls⟩ st with ⟨e0,e⟩|⟨y,e⟩ <;> rcases aj d q' ⟨n,sh,ls⟩ st with ⟨e1,e'⟩|⟨Z,e'⟩
   ·rw[e]at z;rw[e']at h4;simp only[e0,if_true]at R;simp only[e1,if_true]at H;exact⟨e0.trans e1.symm,a2 j j' l l' z O h4 h5 k R H⟩
   ·rw[e]at z;rw[e']at h4;simp only[e0,if_true]at R;simp only[Z,if_false]at H;exact absurd H ((a0 j l z O k R).2.2.2 q' j' l' Z h4 h5)
   ·rw[e]at z;rw[e']at h4;simp only[y,if_false]at R;simp only[e1,if_true]at H;exact absurd R ((a0 j' l' h4 h5 k H).2.2.2 q j l y z O)
   ·rw[e]at z;rw[e']at h4;simp only[y,if_false]at R;simp only[Z,if_false]at H;exact h.sep q j l q' j' l' z O h4 h5 k R H
  box:=λb Y=>h.box b ((I b).1 Y)
  inj:=λb b' Y a3=>h.inj b b' ((I b).1 Y) ((I b').1 a3)
  nwlt:=h.nwlt
  os:=h.os,tape:=h.tape,output:=h.output,size:=h.size,keep:=h.keep
  fixb:=λx hx=>⟨(I _).2 (h.fixb x hx).1,(h.fixb x hx).2⟩
  fixt:=h.fixt }
theorem gy {off:Nat}:∀ {a:Ty} {pos:Nat} {x:a.den} {u:(E:TypeId)×(e:Ty)×List e.den},be off a pos x=some u->pos<=off/\off<pos+a.cells
 |.pair a b,pos,x,u,h=>by
  simp only[be]at h;split at h
  ·rename_i v y;have:=gy y;simp only[Ty.cells];omega
  ·have:=gy h;simp only[Ty.cells];omega
 |.list m E e,pos,z,u,h=>by
  simp only[be]at h;cases r:m&&B8 pos off with
  |false=>simp[r]at h
  |true =>
   simp only[BM]at r;have:=BT r.2;simp only[Ty.cells];omega
 |.int _,_,_,_,h=>by simp[be]at h
 |.bool,_,_,_,h=>by simp[be]at h
 |.str,_,_,_,h=>by simp[be]at h
 |.unit,_,_,_,h=>by simp[be]at h
 |.hdr,_,_,_,h=>by simp[be]at h
theorem ni {off:Nat}:∀ {a:Ty} {pos:Nat} {x:a.den} {E:TypeId} {e:Ty} {u:List e.den},be off a pos x=some ⟨E,e,u⟩->e.shy=true->a.shy=true
 |.pair a b,pos,x,E,e,u,h,r=>by
  simp only[be]at h;simp only[Ty.shy,Dg];split at h
  ·rename_i v z;simp only[BK]at h;subst h;exact .inl (ni z r)
  ·exact .inr (ni h r)
 |.list m J I,pos,H,E,e,u,h,r=>by
  simp only[be]at h;cases y:m&&B8 pos off with
  |false=>simp[y]at h
  |true =>
   rw[y]at h;simp only[cond_true,BK,Sigma.mk.injEq]at h;obtain⟨rfl,h⟩:=h;rw[heq_eq_eq,Sigma.mk.injEq]at h;obtain⟨rfl,_⟩:=h;simp[Ty.shy,r]
 |.int _,_,_,_,_,_,h,_=>by simp[be]at h
 |.bool,_,_,_,_,_,h,_=>by simp[be]at h
 |.str,_,_,_,_,_,h,_=>by simp[be]at h
 |.unit,_,_,_,_,_,h,_=>by simp[be]at h
 |.hdr,_,_,_,_,_,h,_=>by simp[be]at h
theorem Mx.hol_out {G:Nat->Prop}{o:Nat}:∀ {a:Ty} {pos:Nat} {x:a.den} {cs:List Value} {bs:List Nat},(o<pos\/pos+a.cells<=o)->(Mx w G a none pos x cs bs<->Mx w G a (some o) pos x cs bs)
 |.int _,_,_,_,_,_=>Cz
 |.bool,_,_,_,_,_=>Cz
 |.str,_,_,_,_,_=>Cz
 |.unit,_,_,_,_,_=>Cz
 |.hdr,_,_,_,_,_=>Cz
 |.pair a b,pos,x,cs,bs,r=>by
  simp only[Ty.cells]at r;constructor
  ·rintro⟨c1,c2,b1,b2,e1,e2,h1,h2⟩;exact⟨c1,c2,b1,b2,e1,e2,(Mx.hol_out (by omega)).1 h1,(Mx.hol_out (by omega)).1 h2⟩
  ·rintro⟨c1,c2,b1,b2,e1,e2,h1,h2⟩;exact⟨c1,c2,b1,b2,e1,e2,(Mx.hol_out (by omega)).2 h1,(Mx.hol_out (by omega)).2 h2⟩
 |.list m E e,pos,u,cs,bs,r=>by
  simp only[Ty.cells]at r;cases m with
  |false=>rw[cm,cm]
  |true=>rw[bJ (by simp),bJ (by simp only[ne_eq,BK];omega)]
theorem Mx.out {G:Nat->Prop}{off:Nat}{E:TypeId}{e:Ty}{ys:List e.den}:∀ {a:Ty} {pos:Nat} {x:a.den} {cs:List Value} {bs:List Nat},Mx w G a none pos x cs bs->be off a pos x=some ⟨E,e,ys⟩ ->
  ∃ v z r,OwB w G none E e ys v z/\cs[off-pos]?=some v/\Mx w G a (some off) pos x cs r/\∀ k,bs.count k=r.count k+z.count k
 |.pair a b,pos,x,cs,bs,⟨c1,c2,b1,b2,J,e2,O,h2⟩,h=>by
  have hl:=O.len;simp only[be]at h;split at h
  ·rename_i u Z;simp only[BK]at h;subst h;have M:=gy Z;obtain⟨v,z,r,R,g2,X,Y⟩:=Mx.out O Z;refine⟨v,z,r++b2,R,?_,⟨c1,c2,r,b2,J,rfl,X,(Mx.hol_out (by omega)).1 h2⟩,λk=>?_⟩
   ·rw[J,BR (by omega)];exact g2
   ·rw[e2,BP,BP,Y k];omega
  ·rename_i Z;have M:=gy h;obtain⟨v,z,r,R,g2,X,Y⟩:=Mx.out h2 h;refine⟨v,z,b1++r,R,?_,⟨c1,c2,b1,r,J,rfl,(Mx.hol_out (by omega)).1 O,X⟩,λk=>?_⟩
   ·rw[J,BQ (by omega),hl,show off-pos-a.cells=off-(pos+a.cells) by omega];exact g2
   ·rw[e2,BP,BP,Y k];omega
 |.list m E' e',pos,xs,cs,bs,H,h=>by
  simp only[be]at h;cases y:m&&B8 pos off with
  |false=>simp[y]at h
  |true =>
   rw[y]at h;simp only[cond_true,BK,Sigma.mk.injEq]at h;obtain⟨rfl,h⟩:=h;simp only[BM]at y;obtain⟨rfl,y⟩:=y;have y:=BT y;subst y;rw[heq_eq_eq,Sigma.mk.injEq]at h;obtain⟨rfl,h⟩:=h;rw[heq_eq_eq]at h;subst h;have I:=H.one;rw[bJ (by simp)]at H;obtain⟨v,rfl,hO⟩:=H;exact⟨v,bs,[],hO,by simp,jh.2 ⟨v,rfl,I v (by simp),rfl⟩,λk=>by simp⟩
 |.int _,_,_,_,_,_,h=>by simp[be]at h
 |.bool,_,_,_,_,_,h=>by simp[be]at h
 |.str,_,_,_,_,_,h=>by simp[be]at h
 |.unit,_,_,_,_,_,h=>by simp[be]at h
 |.hdr,_,_,_,_,_,h=>by simp[be]at h
theorem Mx.back {G:Nat->Prop}{off:Nat}{E:TypeId}{e:Ty}{M:List e.den}{v:Value}{bn:List Nat}(Y:OwB w G none E e M v bn):∀ {a:Ty} {pos:Nat} {x z:a.den} {cs:List Value} {I:List Nat},Mx w G a (some off) pos x cs I->bM off E e M a pos x=some z ->
  cs[off-pos]?=some v->∃ R,Mx w G a none pos z cs R/\∀ k,R.count k=I.count k+bn.count k
 |.pair a b,pos,x,z,cs,R,⟨c1,c2,b1,b2,X,e2,O,h2⟩,h,J=>by
  have hl:=O.len;simp only[bM]at h;split at h
  ·rename_i u y;simp only[BK]at h;subst h;have Z:=set_in y;obtain⟨I,g1,g2⟩:=Mx.back Y O y (by rw[X,BR (by omega)]at J;exact J);refine⟨I++b2,⟨c1,c2,I,b2,X,rfl,g1,(Mx.hol_out (by omega)).2 h2⟩,λk=>?_⟩;rw[e2,BP,BP,g2 k];omega
  ·rename_i y;simp only[BL]at h;obtain⟨u,y,rfl⟩:=h;have Z:=set_in y;obtain⟨I,g1,g2⟩:=Mx.back Y h2 y (by
    rw[X,BQ (by omega),hl]at J;rw[show off-(pos+a.cells)=off-pos-a.cells by omega];exact J)
   refine⟨b1++I,⟨c1,c2,b1,I,X,rfl,(Mx.hol_out (by omega)).2 O,g1⟩,λk=>?_⟩;rw[e2,BP,BP,g2 k];omega
 |.list m E' e',pos,xs,z,cs,R,H,h,J=>by
  simp only[bM]at h;cases r:m&&B8 pos off with
  |false=>simp[r]at h
  |true =>
   rw[r]at h;simp only[cond_true]at h;obtain⟨rfl,rfl,rfl⟩:=jU h;simp only[BM]at r;obtain⟨rfl,r⟩:=r;have r:=BT r;subst r;rw[jh]at H;obtain⟨v',rfl,O,rfl⟩:=H;simp only[Nat.sub_self,Ce,BK]at J;subst J;exact⟨bn,(bJ (by simp)).2 ⟨v',rfl,Y⟩,λk=>by simp⟩
 |.int _,_,_,_,_,_,_,h,_=>by simp[bM]at h
 |.bool,_,_,_,_,_,_,h,_=>by simp[bM]at h
 |.str,_,_,_,_,_,_,h,_=>by simp[bM]at h
 |.unit,_,_,_,_,_,_,h,_=>by simp[bM]at h
 |.hdr,_,_,_,_,_,_,h,_=>by simp[bM]at h
where
 set_in {off:Nat} {E:TypeId} {e:Ty} {M:List e.den}:∀ {a:Ty} {pos:Nat} {x z:a.den},bM off E e M a pos x=some z->pos<=off/\off<pos+a.cells
  |.pair a b,pos,x,z,h=>by
   simp only[bM]at h;split at h
   ·rename_i u y;have:=set_in y;simp only[Ty.cells];omega
   ·simp only[BL]at h;obtain⟨u,y,_⟩:=h;have:=set_in y;simp only[Ty.cells];omega
  |.list m E' e',pos,xs,z,h=>by
   simp only[bM]at h;cases r:m&&B8 pos off with
   |false=>simp[r]at h
   |true =>
    simp only[BM]at r;have:=BT r.2;simp only[Ty.cells];omega
  |.int _,_,_,_,h=>by simp[bM]at h
  |.bool,_,_,_,h=>by simp[bM]at h
  |.str,_,_,_,h=>by simp[bM]at h
  |.unit,_,_,_,h=>by simp[bM]at h
  |.hdr,_,_,_,h=>by simp[bM]at h
end
section
variable {P:Program} {V:Env} {W W' W2:Wit} {st st' st2:St} {w w' w2:World} {a:Act}
theorem cB.trans (h:cB V W W' st st' w w')(u:cB V W' W2 st' st2 w' w2):cB V W W2 st st2 w w2:=by
 refine⟨λr=>⟨CS (h.ver r).1 (u.ver r).1,λe=>?_⟩,λb X=>?_,λk y=>u.nw k (h.nw k y),λk y=>?_,λhe r j l z H I=>?_⟩
 ·have z:=(h.ver r).1;have H:=(u.ver r).1;rw[(u.ver r).2 (by omega),(h.ver r).2 (by omega)]
 ·obtain⟨z,H⟩:=h.box b X;obtain⟨I,h6⟩:=u.box b z;exact⟨I,h6.trans H⟩
 ·rw[u.heap k (y.imp (h.nw k) id),h.heap k y]
 ·have e1:=(h.ver EPO).1;have e2:=(u.ver EPO).1;have e3:=(h.ver r).1;have e4:=(u.ver r).1;obtain⟨⟨l',O,g2⟩,M,Y⟩:=u.epo (by omega) r j l z H (by omega);obtain⟨R,J,Z⟩:=h.epo (by omega) r j l' O g2 (by omega);exact⟨R,M.trans J,λk y=>(Y k (by rw[J];exact y)).trans (Z k y)⟩
theorem qJ {n i:Nat}(z:i<n)(r:Nat->List Nat)(b u:List Nat)(H:∀ k,(r i).count k=b.count k+u.count k)(y:List Nat)(k:Nat) :
  (y++(BY n).flatMap r).count k=(y++(BY n).flatMap λj=>if j=i then b else r j).count k+u.count k:=by
 have:=kF z r b k;have:=H k;rw[BP,BP];omega
theorem OwH.out {G:Nat->Prop}{E E1:TypeId}{e e1:Ty}{xs:List e.den}{v:Value}{bs:List Nat}{i off:Nat}{y:e.den}{ys:List e1.den}(H:Ow w G E e xs v bs)(hy:xs[i]?=some y)(hg:be off e 0 y=some ⟨E1,e1,ys⟩) :
  ∃ u X O,OwH w G (some (i,off)) E e xs v O/\Ow w G E1 e1 ys u X/\(∀ g M,v=.slice (some ⟨g,0,none⟩) xs.length M->w.cell? ⟨g,i*e.cells+off,none⟩=some u)/\∀ k,bs.count k=O.count k+X.count k:=by
 obtain⟨a0,Y,J,h1,h2,h3⟩:=H;have R:i<xs.length:=(BN.1 hy).1;obtain⟨c,hm,hc⟩:=h3 i y hy;have hm:Mx w G e none 0 y c (J i):=hm;obtain⟨u,X,b',g1,g2,g3,g4⟩:=hm.out hg;have r:=qJ R J b' X g4 v.ownBlock.toList;rw[<- h2]at r;have z:=bu.1 a0;refine⟨u,X,v.ownBlock.toList++(BY xs.length).flatMap λj=>if j=i then b' else J j,⟨bu.2 λk=>by have:=z k;have:=r k;omega,Y,_,h1,rfl,λj x Z=>?_⟩,
  ⟨bu.2 λk=>by have:=z k;have:=r k;omega,g1⟩,λg M hv=>?_,r⟩
 ·by_cases I:j=i
  ·subst I;rw[hy]at Z;simp only[BK]at Z;subst Z;refine⟨c,?_,hc⟩;simp only[cP,Nat.beq_refl,cond_true,if_true];exact g3
  ·obtain⟨c',h4,h5⟩:=h3 j x Z;refine⟨c',?_,h5⟩;have:B8 i j=false:=by
    cases hb:B8 i j with
    |false=>rfl
    |true=>exact absurd (BT hb).symm I
   simp only[cP,this,cond_false,if_neg I];exact h4
 ·subst hv;have a2:=gy hg;have a1:i*e.cells+off<xs.length*e.cells:=by
   have:=BX e.cells (show i+1<=xs.length from R);rw[Cs,Nat.one_mul]at this;omega
  rw[h1.cellAt _ a1];exact hc off u (by simpa using g2)
theorem OwH.back {G:Nat->Prop}{E E1:TypeId}{e e1:Ty}{xs:List e.den}{v u:Value}{bs bn:List Nat}{i off:Nat}{y z:e.den}{ys:List e1.den}(H:OwH w G (some (i,off)) E e xs v bs)(hn:Ow w G E1 e1 ys u bn)
  (hd:∀ k∈bn,k∉bs) (hy:xs[i]?=some y) (hs:bM off E1 e1 ys e 0 y=some z) (I:∀ g J,v=.slice (some ⟨g,0,none⟩) xs.length J->w.cell? ⟨g,i*e.cells+off,none⟩=some u) :
  ∃ R,Ow w G E e (xs.set i z) v R/\∀ k,R.count k=bs.count k+bn.count k:=by
 obtain⟨a3,a1,Z,h1,h2,h3⟩:=H;have X:i<xs.length:=(BN.1 hy).1;obtain⟨c,hm,hc⟩:=h3 i y hy;have a2:cP (some (i,off)) i=some off:=by simp[cP]
 rw[a2]at hm;have a5:=Mx.back.set_in hs;have a9:=hm.len;have M:c[off-0]?=some u:=by
  rcases h1.2 with ⟨rfl,h0⟩|⟨g,J,a6,_,rfl,_⟩
  ·omega
  ·have O:=I g J rfl;have a4:i*e.cells+off<xs.length*e.cells:=by
    have:=BX e.cells (show i+1<=xs.length from X);rw[Cs,Nat.one_mul]at this;omega
   rw[h1.cellAt _ a4]at O;have Y:off<c.length:=by omega
   have h6:=hc off _ (B5 Y);rw[O]at h6;rw[C3,B5 Y,h6]
 obtain⟨b1,g1,g2⟩:=Mx.back hn.2 hm hs M;have r:∀ k,(v.ownBlock.toList++(BY xs.length).flatMap λj=>if j=i then b1 else Z j).count k=bs.count k+bn.count k:=by
  intro k;have O:=kF X Z b1 k;have Y:=g2 k;rw[h2,BP,BP];omega
 refine⟨_,⟨(nh a3 hn.1 hd (λk=>Cx (r k))).1,a1,_,by rw[CW];exact h1,by rw[CW],λj x hj=>?_⟩,r⟩;rcases aS _ _ _ _ _ hj with ⟨rfl,rfl,_⟩|⟨a0,hj⟩
 ·refine⟨c,?_,hc⟩;simp only[if_true];exact g1
 ·obtain⟨c',O,Y⟩:=h3 j x hj;refine⟨c',?_,Y⟩;have:B8 i j=false:=by
   cases hb:B8 i j with
   |false=>rfl
   |true=>exact absurd (BT hb).symm a0
  have e0:cP (some (i,off)) j=none:=by simp[cP,this]
  rw[e0]at O;simp only[if_neg a0];exact O
theorem jb:GH<=TMP/\TMP<B0/\TMP≠EPO:=by decide
def tC (W:Wit)(S:St)(w:World)(r j:Nat)(v:Value):Prop :=
 r≠TMP/\r≠EPO/\∃ (i off:Nat) (p:Bool) (E:TypeId) (e:Ty) (y:List e.den) (g u:Nat),(S r).ls[j]?=some (.own p (some (i,off)) E e y)/\(W.cs r)[j]?=some (.slice (some ⟨g,0,none⟩) y.length u) /\
  g∈W.bs r j/\w.cell? ⟨g,i*e.cells+off,none⟩=some v
theorem vi (hV:ay V)(h:an P V W st a w){l l':Leaf}{U:Upd}{v:Value}(Z:aK P V W st w [] l v)(I:cj st l=some (U,l')) :
  ∃ W0 n p0 E0 e0 bl,an P V W0 (ac U st) a w/\cB V W W0 st (ac U st) w w/\l'=.al TMP 0 n/\aK P V W0 (ac U st) w [] l' v/\(ac U st TMP).ver=n/\(ac U st TMP).ls=[.own p0 none E0 e0 bl] /\
   W0.nw=W.nw/\W0.β=W.β/\(∀ q,q≠TMP->W0.cs q=W.cs q)/\W0.cs TMP=[v]/\(∀ q,(ac U st q).sh=(st q).sh\/q=TMP)/\tC W0 (ac U st) w (kl l).1 (kl l).2 v:=by
 cases l with
 |nal p ks ep cx E e xs =>
  simp only[cj]at I;cases a5:br st ks ep with
  |false=>simp[a5]at I
  |true =>
   rw[a5]at I;simp only[cond_true]at I;split at I
   ·rename_i r j n0 i sz off;split at I
    ·rename_i M Y J z hg;cases hb:!B8 r TMP&&!B8 r EPO&&B8 sz J.cells with
     |false=>simp[hb]at I
     |true =>
      rw[hb]at I;simp only[cond_true]at I;simp only[BM,CB]at hb;obtain⟨⟨c0,c4⟩,a9⟩:=hb;have a9:=BT a9;subst a9;have R:r≠TMP:=λe=>by subst e;simp at c0
      have b9:r≠EPO:=λe=>by subst e;simp at c4
      split at I
      ·rename_i y hy;split at I
       ·rename_i E1 e1 ys b3;simp only[BK,CN]at I;obtain⟨rfl,rfl⟩:=I;have b5:=pz a5 Z;obtain⟨r',j',n',b2,g,bx,ba,a4,d1,cy,O⟩:=b5.at_ i _ off rfl;simp only[Cn,CN,and_true]at b2;obtain⟨rfl,rfl,rfl⟩:=b2;have a3:(st r).ls[j]?=some (.own M none Y J z):=by
         rw[CP]at hg;cases H:(st r).ls[j]? with
         |none=>rw[H]at hg;simp at hg
         |some l0=>rw[H]at hg;simp at hg;rw[hg]
        have a2:=h.leaf r j _ _ a3 a4;have a2:Ow w (gd V W M) Y J z _ (W.bs r j):=a2;have b4:bx=z.length:=by
         obtain⟨A,cu,e0,_⟩:=a2.slice;simp only[CJ]at e0;exact e0.2.1
        subst b4;obtain⟨u,bn,bs',g1,g2,g3,g4⟩:=a2.out hy b3;have hu:u=v:=by
         have:=g3 g ba rfl;rw[this]at O;exact Option.some.inj O
        subst hu;have c2:=bu.1 a2.1;have bb:∀ k∈bs',k∈W.bs r j:=λk hk=>BU.1 (by have:=g4 k;have:=BU.2 hk;omega)
        have a1:∀ k∈bn,k∈W.bs r j/\k∉bs':=λk hk=>by
         have h5:=g4 k;have h6:=BU.2 hk;have h7:=c2 k;refine⟨BU.1 (by omega),λc3=>?_⟩;have:=BU.2 c3;omega
        have a0:∀ k∈W.bs r j,vh V W st r j k:=λk hk=>by
         have h9:=h.ownb r j _ a3 trivial k hk;exact⟨h9.1,h9.2.1,h9.2.2,λr1 i1 l1 b0 ad b1 X=>b1 (by obtain⟨e1,e2⟩:=h.sep r1 i1 l1 r j _ b0 ad a3 trivial k X hk;rw[e1,e2])⟩
        have hR:yb st (ac [(r,⟨(st r).ver,(st r).sh,aT (st r).ls j (.own M (some (i,off)) Y J z)⟩)] (ac [(EPO,bU (st EPO))] st)) r j (.own M (some (i,off)) Y J z):=by
         refine⟨λq=>?_,λq=>?_,?_,λq=>?_,λl Z=>?_,λq i' l H Z=>?_⟩
         ·rcases aj r q ⟨(st r).ver,(st r).sh,aT (st r).ls j (.own M (some (i,off)) Y J z)⟩ (ac [(EPO,bU (st EPO))] st) with ⟨rfl,e⟩|⟨_,e⟩
          ·rw[e]
          ·rw[e];rcases aj EPO q (bU (st EPO)) st with ⟨rfl,e⟩|⟨_,e⟩ <;> rw[e];rfl
         ·rcases aj r q ⟨(st r).ver,(st r).sh,aT (st r).ls j (.own M (some (i,off)) Y J z)⟩ (ac [(EPO,bU (st EPO))] st) with ⟨rfl,e⟩|⟨_,e⟩
          ·rw[e];exact B6 _
          ·rw[e];rcases aj EPO q (bU (st EPO)) st with ⟨rfl,e⟩|⟨_,e⟩ <;> rw[e]
           ·exact DZ _
           ·exact B6 _
         ·rw[aJ (Ca b9),bm];exact BW _
         ·rcases aj r q ⟨(st r).ver,(st r).sh,aT (st r).ls j (.own M (some (i,off)) Y J z)⟩ (ac [(EPO,bU (st EPO))] st) with ⟨rfl,e⟩|⟨_,e⟩
          ·rw[e];simp[aT]
          ·rw[e];rcases aj EPO q (bU (st EPO)) st with ⟨rfl,e⟩|⟨_,e⟩ <;> rw[e];rfl
         ·rw[bm]at Z;rcases aS _ _ _ _ _ Z with ⟨_,rfl,_⟩|⟨b1,_⟩
          ·rfl
          ·exact absurd rfl b1
         ·rcases aj r q ⟨(st r).ver,(st r).sh,aT (st r).ls j (.own M (some (i,off)) Y J z)⟩ (ac [(EPO,bU (st EPO))] st) with ⟨rfl,e⟩|⟨_,e⟩
          ·rw[e]at Z;rcases aS _ _ _ _ _ Z with ⟨rfl,_,_⟩|⟨_,Z⟩
           ·exact absurd rfl H
           ·exact Z
          ·rw[e]at Z;rcases aj EPO q (bU (st EPO)) st with ⟨rfl,e⟩|⟨_,e⟩ <;> rw[e]at Z <;> exact Z
        have h1:=h.retell hV hR a3 trivial a4 trivial (bs':=bs') g1 (λk hk=>a0 k (bb k hk)) (λ_ _ _=>rfl) (B6 _) rfl rfl rfl;have cc:cB V W (W.tell r j bs') st (ac [(r,⟨(st r).ver,(st r).sh,aT (st r).ls j (.own M (some (i,off)) Y J z)⟩)] (ac [(EPO,bU (st EPO))] st)) w w :=
         ⟨λq=>⟨hR.ver q,λ_=>rfl⟩,λb hb=>⟨(iE hR.sh b).2 hb,rfl⟩,λ_ h=>h,λ_ _=>rfl,λhe=>by have:=hR.epo;omega⟩
        have cb:(ac [(r,⟨(st r).ver,(st r).sh,aT (st r).ls j (.own M (some (i,off)) Y J z)⟩)] (ac [(EPO,bU (st EPO))] st) TMP).ver=(st TMP).ver:=by
         rw[aJ (Ca R),aJ jb.2.2]
        obtain⟨h2,c1⟩:=h1.putGhost hV TMP jb.1 jb.2.1 ((st TMP).ver+1) .one [.own (M&&J.shy) none E1 e1 ys] [u] (λ_=>bn) (by rw[cb];exact BW _) rfl (λx hx=>by simp at hx;subst hx;exact g2.one)
         (λq l x H hx=>by
          cases q with
          |zero=>simp at H hx;subst H;subst hx;exact⟨g2.1,(OwB.shy g2.2).carry (bT (W':=W) (by intro hh;simp only[BM]at hh ⊢;exact⟨hh.1,ni b3 hh.2⟩) (λ_ h=>h)) (λ_ _=>rfl) (λ_ _=>rfl)⟩
          |succ q=>simp at H)
         (λq l H _ k hk=>by
          obtain⟨q1,q2,q3,q4⟩:=a0 k (a1 k hk).1;refine⟨q1,q2,λb hb=>q3 b ((iE hR.sh b).1 hb),λr1 i1 l1 _ b0 ad X=>?_⟩;by_cases H:(r1,i1)=(r,j)
          ·cases H;rw[show (W.tell r j bs').bs r j=bs' from if_pos rfl]at X;exact (a1 k hk).2 X
          ·rw[show (W.tell r j bs').bs r1 i1=W.bs r1 i1 from if_neg H]at X;exact q4 r1 i1 l1 (hR.old r1 i1 l1 H b0) ad H X)
         (λq q' l l2 h1 h2 h3 h4 k h5 h6=>by
          have h7:q<1:=(BN.1 h1).1;have h8:q'<1:=(BN.1 h3).1;omega)
        have a6:ac [(r,⟨(st r).ver,(st r).sh,aT (st r).ls j (.own M (some (i,off)) Y J z)⟩),(TMP,⟨(st TMP).ver+1,.one,[.own (M&&J.shy) none E1 e1 ys]⟩),(EPO,bU (st EPO))] st =
          ac [(TMP,⟨(st TMP).ver+1,.one,[.own (M&&J.shy) none E1 e1 ys]⟩)] (ac [(r,⟨(st r).ver,(st r).sh,aT (st r).ls j (.own M (some (i,off)) Y J z)⟩)] (ac [(EPO,bU (st EPO))] st)):=by
         rw[aQ r,aQ TMP,nf R]
        rw[a6];refine⟨_,_,_,_,_,_,h2,cc.trans c1,rfl,⟨by rw[bm];exact B6 _,λ_=>by simp⟩,by rw[bm],by rw[bm],rfl,rfl,λq H=>by simp[H,Wit.tell],by simp,λq=>?_,R,b9,i,off,M,Y,J,z,g,ba,?_,?_,?_,O⟩
        ·by_cases H:q=TMP
         ·exact .inr H
         ·rw[aJ H];exact .inl (hR.sh q)
        ·show (ac [(TMP,_)] _ r).ls[j]?=_;rw[aJ R,bm];simp only[aT];rw[Ch (BN.1 a3).1]
        ·show (if r=TMP then _ else W.cs r)[j]?=_;rw[if_neg R];exact a4
        ·show g∈(if r=TMP then _ else (W.tell r j bs').bs r j);rw[if_neg R,show (W.tell r j bs').bs r j=bs' from if_pos rfl];obtain⟨_,cp,cw,_,q2,_⟩:=g1;rw[q2];simp[CF]
       ·cases I
      ·cases I
    ·cases I
   ·cases I
 |_=>simp[cj]at I
theorem hZ {R:Type}(l:Leaf)(I:Upd->Leaf->Option R):lX st l I=(cj st l).bind λu=>I u.1 u.2:=by
 cases l with
 |nal p O ep X E e Y =>
  simp only[lX,cj];cases br st O ep with
  |false=>rfl
  |true =>
   simp only[cond_true];split
   ·rename_i r j n i M off;split
    ·rename_i Z E' J z _;cases !B8 r TMP&&!B8 r EPO&&B8 M J.cells with
     |false=>rfl
     |true =>
      simp only[cond_true];have H:idx z (i:Int)=z[i]?:=by
       unfold idx;rw[if_neg (by omega)];simp
      rw[H];cases z[i]? with
      |none=>rfl
      |some y =>
       simp only[Option.bind_some];cases be off J 0 y with
       |none=>rfl
       |some u=>rfl
    ·rfl
   ·rfl
 |_=>rfl
end
theorem rA {w:World}{α:Type}{s g:Nat}:∀ (J:List α) (o:Nat) (Q:Nat->α->List Value->Prop),(∀ j x c,Q j x c->c.length=s/\∀ u∈c,u.oneCell'=true)->(∀ (j:Nat) (x:α),J[j]?=some x->∃ c,Q j x c/\cY w g (o+j*s) c) ->
  ∃ r:List Value,r.length=J.length*s/\(∀ j u,r[j]?=some u->w.cell? ⟨g,o+j,none⟩=some u)/\(∀ u∈r,u.oneCell'=true) /\
   ∀ (j:Nat) (x:α),J[j]?=some x->∃ c,Q j x c/\∀ i u,c[i]?=some u->r[j*s+i]?=some u
 |[],o,_,_,_=>⟨[],by simp,by simp,by simp,by simp⟩
 |y::J,o,Q,hQ,h=>by
  obtain⟨c,hr,hc⟩:=h 0 y rfl;obtain⟨r,h1,h2,h3,h4⟩:=rA J (o+s) (λj=>Q (j+1)) (λj=>hQ (j+1)) (λj x z=>by
   obtain⟨c',I,H⟩:=h (j+1) x (by simpa using z);refine⟨c',I,?_⟩;rw[CM]at H;have:o+s+j*s=o+(j*s+s):=by omega
   rw[this];exact H)
  obtain⟨Y,R⟩:=hQ 0 y c hr;refine⟨c++r,by rw[B4,h1,Y,Cw,CM];omega,?_,?_,?_⟩
  ·intro j u z;by_cases X:j<c.length
   ·rw[BR X]at z;have:=hc j u z
    rwa [DS,CQ]at this
   ·rw[BQ (by omega)]at z;have:=h2 (j-c.length) u z;have e1:o+s+(j-c.length)=o+j:=by omega
    rwa [e1]at this
  ·intro u M;rcases BV.1 M with M|M
   ·exact R u M
   ·exact h3 u M
  ·intro j x z;cases j with
   |zero =>
    simp at z;subst z;refine⟨c,hr,λi u O=>?_⟩;have Z:=(BN.1 O).1;rw[DS,Cb,BR Z];exact O
   |succ j =>
    obtain⟨c',I,H⟩:=h4 j x (by simpa using z);refine⟨c',I,λi u O=>?_⟩;rw[CM,BQ (by omega)];rw[<- H i u O];congr 1;omega
theorem j8 {P:Program}(g o:Nat)(t:TypeId)(mk:Nat×Nat):∀ (y:List Value) (i:Nat) (cur:Array Value) (w:World),w.heap[g]?=some (.cells cur t mk)->(mk.2=0\/cur.size<=mk.1)->o+i+y.length<=cur.size->(∀ v∈y,v.oneCell'=true) ->
  (storeCells ⟨g,o,none⟩ y i).run P w=.ok () (w.setRow g (cur.toList.take (o+i)++y++cur.toList.drop (o+i+y.length)).toArray)
 |[],i,cur,w,u,_,_,_=>by
  simp only[storeCells,CD,Cl,CQ,List.take_append_drop,CG];rw[setRow_self w g cur t mk u];rfl
 |v::r,i,cur,w,u,J,I,M=>by
  have O:o+i<cur.size:=by simp at I;omega
  have z:(⟨g,o,none⟩:Addr).add i=⟨g,o+i,none⟩:=by unfold Addr.add;split <;> simp_all
  have H:(store ((⟨g,o,none⟩:Addr).add i) v).run P w=.ok () (w.setRow g (cur.setIfInBounds (o+i) v)):=by
   rw[z,run_store P w _ v _ (M v (by simp)),cell_of_row w g _ cur t mk u,Array.getElem?_eq_getElem O];simp[qY u J O,setCell_eq_setRow w g (o+i) cur t mk v u]
  have X:=j8 (P:=P) g o t mk r (i+1) (cur.setIfInBounds (o+i) v) (w.setRow g (cur.setIfInBounds (o+i) v)) (setRow_heap w g cur _ t _ u) (by simpa using J) (by simp at I ⊢;omega) (λx R=>M x (by simp[R]));simp only[storeCells,DN,H,Cr,X,setRow_setRow];congr 3;have e:=list_seg_step cur.toList (o+i) v r (by simp at I ⊢;omega);simpa[Array.toList_setIfInBounds,Dm]using e
theorem nj {P:Program}(w:World)(t ty e:TypeId)(i:TypeInfo)(O:P.underlying t=some (.slice e))(hi:P.info? e=some i)
  (g y z:Nat) (cur:Array Value) (mk:Nat×Nat) (R:w.heap[g]?=some (.cells cur e mk)) (Y:mk.2=0\/cur.size<=mk.1)
  (a:Addr) (m c:Nat) (r:List Value) (hl:r.length=m*i.size) (H:∀ j u,r[j]?=some u->w.cell? (a.add j)=some u) (Z:∀ u∈r,u.oneCell'=true)
  (I:y+m<=z) (M:y*i.size+r.length<=cur.size) :
  (CL #[t,t] ty #[.slice (some ⟨g,0,none⟩) y z,.slice (some a) m c]).run P w =
   .ok (.slice (some ⟨g,0,none⟩) (y+m) z) (w.setRow g (cur.toList.take (y*i.size)++r++cur.toList.drop (y*i.size+r.length)).toArray):=by
 have X:=run_firstCells_some (P:=P) w i.size m a m c r hl H;have J:=j8 (P:=P) g (y*i.size) e mk r 0 cur w R Y (by simpa using M) Z;simp only[CQ]at J;simp[CL,run_underlying O,sizeOf,typeInfo,hi,Cu,I,X,Addr.add_lit,J]
theorem dF {P:Program}(w:World)(t ty e:TypeId)(i:TypeInfo)(z:Value)(size a0:Nat)(ht:P.underlying t=some (.slice e))(hi:P.info? e=some i)(hz:i.zero=some z)
  (a5:i.size=size) (b2:i.bytes=a0) (b3:z.cells.size=size)
  (v:Value) (n:Nat) (xs:List Value) (y:Row w e size v n xs)
  (a:Addr) (m c:Nat) (r:List Value) (hl:r.length=m*size) (I:∀ j u,r[j]?=some u->w.cell? (a.add j)=some u) (h1:∀ u∈r,u.oneCell'=true)
  (a9:n+m<=maxLen) (M:(n+m)*a0<=140737488355328) :
  ∃ v' w',(CL #[t,t] ty #[v,.slice (some a) m c]).run P w=.ok v' w'/\Row w' e size v' (n+m) (xs++r)/\w.grownBy w' v.ownBlock/\(v'.ownBlock=v.ownBlock\/v'.ownBlock=some w.heap.size):=by
 subst a5;subst b2;have b1:n+m<=9223372036854775807:=by simp only[maxLen]at a9;omega
 have O:(xs++r).length=(n+m)*i.size:=by rw[B4,y.1,hl,Cs]
 have Z:∀ (H:Nat),H<n+m->∀ (a6:Option Nat),
   Row (w.drew.alloc (.cells (xs.toArray++r.toArray++DT z.cells (grownCap w (n+m) H e-(n+m))) e)) e i.size
    (.slice (some ⟨w.heap.size,0,none⟩) (n+m) (grownCap w (n+m) H e)) (n+m) (xs++r) /\
   w.grownBy (w.drew.alloc (.cells (xs.toArray++r.toArray++DT z.cells (grownCap w (n+m) H e-(n+m))) e)) a6:=by
  intro H ho a6;have b4:=grownCap_ge w (n+m) H e;have a1:grownCap w (n+m) H e<=maxLen:=grownCap_le_maxLen w (n+m) H e a9;refine⟨⟨O,.inr ⟨w.heap.size,_,_,_,rfl,heap_alloc_new w.drew _,b4,.inl ⟨rfl,a1⟩,?_,?_⟩⟩,⟨rfl,rfl,rfl,by simp,λk hk _=>Go.heap_alloc_old w.drew _ hk⟩⟩
  ·simp only[DO,Cg,size_zeroCells,b3,y.1,hl,<- Cs];exact BX _ (by omega)
  ·simp only[DG,B3];rw[<- B3,<- O];exact Dk
 rcases y.2 with ⟨rfl,rfl⟩|⟨g,R,Y,mk,rfl,hg,b5,a1,ad,a3⟩
 ·have hx:xs=[]:=B7 (by simpa using y.1);subst hx;by_cases hm:m=0
  ·subst hm;have hn:r=[]:=B7 (by simpa using hl);subst hn;refine⟨.slice none 0 0,w,?_,Row.nil w e i.size,⟨rfl,rfl,rfl,B6 _,λ_ _ _=>rfl⟩,.inl rfl⟩;simp[CL,run_underlying ht,sizeOf,typeInfo,hi,Cu,Cq,loadCells,loadCellsFrom]
  ·have hr:=run_append_nil (P:=P) w t ty e i z ht hi hz a m c r hl I (by omega) (by omega) (by have hb:=M;simp only[Cb]at hb;omega);have X:=Z 0 (by omega) (CF (.slice none 0 0));simp only[Cb,Dh,Array.empty_append]at X ⊢;exact⟨_,_,hr,X.1,X.2,.inr rfl⟩
 ·by_cases J:n+m<=R
  ·have b0:n*i.size+r.length<=Y.size:=by rw[hl,<- Cs];exact CS (BX _ J) ad
   have hr:=nj (P:=P) w t ty e i ht hi g n R Y mk hg (zL a1) a m c r hl I h1 J b0;have a2:(Y.toList.take (n*i.size)++r++Y.toList.drop (n*i.size+r.length)).toArray.size=Y.size:=by
    simp only[Cg,B4,CE,Cv,CK];omega
   refine⟨_,_,hr,⟨O,.inr ⟨g,R,_,mk,rfl,setRow_heap w g Y _ e _ hg,J,a1.imp id (λh=>⟨h.1,?_⟩),?_,?_⟩⟩,⟨rfl,rfl,rfl,by simp,λk _ hk=>setRow_other w g k _ (λe=>hk (by simp[CF,e]))⟩,.inl rfl⟩
   ·rw[a2];exact h.2
   ·rw[a2];exact ad
   ·rw[a3,<- O];exact Dk
  ·have a4:∀ j u,xs[j]?=some u->w.cell? ((⟨g,0,none⟩:Addr).add j)=some u:=λj u hj=>by
    rw[fb,Cb,y.cellAt _ (by rw[<- y.1];exact (BN.1 hj).1)];exact hj
   have hr:=run_append_grow (P:=P) w t ty e i z ht hi hz ⟨g,0,none⟩ n R xs y.1 a4 a m c r hl I (by omega) (by omega) (growslice_fits (by omega) M);have X:=Z R (by omega) (CF (.slice (some ⟨g,0,none⟩) n R));exact⟨_,_,hr,X.1,X.2,.inr rfl⟩
theorem nk {P:Program}(w:World)(t ty e:TypeId)(i:TypeInfo)(size c:Nat)(y:P.underlying t=some (.slice e))(z:P.info? e=some i)
  (v:Value) (n:Nat) (xs:List Value) (r:Row w e size v n xs) :
  (CL #[t,t] ty #[v,.slice none 0 c]).run P w=.ok v w:=by
 rcases r.2 with ⟨rfl,rfl⟩|⟨g,H,I,_,rfl,_,u,_⟩
 ·simp[CL,run_underlying y,sizeOf,typeInfo,z,Cu,Cq]
 ·simp[CL,run_underlying y,sizeOf,typeInfo,z,Cu,Cq,u,storeCells]
theorem jq {α:Type}{f g:α->List Nat}:∀ {l:List α},(∀ x∈l,f x=g x)->l.flatMap f=l.flatMap g
 |[],_=>rfl
 |x::l,h=>by rw[CY,CY,h x (B9 ..),jq (λy r=>h y (BZ _ r))]
theorem zr (n m:Nat)(f g:Nat->List Nat):(BY (n+m)).flatMap (λj=>if j<n then f j else g (j-n))=(BY n).flatMap f++(BY m).flatMap g:=by
 rw[List.range_add,List.flatMap_append,DV];congr 1
 ·refine jq λj r=>?_
  rw[if_pos (DB.1 r)]
 ·refine jq λj _=>?_
  rw[if_neg (by omega),show n+j-n=j by omega]
def wq (w:World)(G:Nat->Prop)(e:Ty)(z:List e.den)(u:Value)(y:Nat->List Nat):Prop :=
 ∃ A r,u=.slice A z.length r/\(0<z.length->∃ g o,A=some ⟨g,o,none⟩/\∀ j (x:e.den),z[j]?=some x->∃ c,Mx w G e none 0 x c (y j)/\cY w g (o+j*e.cells) c)
section
variable {P:Program} {V:Env} {Γ:List Ctr} {T:TypeId->TI} {st:St} {o:Oper} {R:Type} {κ:Upd->Option R} {r:R}
theorem wt {w:World}{t ty E:TypeId}{e e':Ty}{J:Nat}(c0:oN P t (.slice E e J))(ba:e'.cells=e.cells){G G2 G':Nat->Prop}{xs H:List e'.den}{v u:Value}{bs:List Nat}{O:Nat->List Nat}(hx:Ow w G E e' xs v bs)
  (hy:wq w G2 e' H u O) (b2:(xs.length+H.length)*J<=ak) (hG:∀ k,G k->G' k) (a9:∀ k,G2 k->G' k) (b5:∀ k,G' k->k<w.heap.size/\v.ownBlock≠some k) (c3:∀ j,j<H.length->∀ k∈O j,v.ownBlock≠some k) :
  ∃ Y M I,(CL #[t,t] ty #[v,u]).run P w=.ok Y M/\w.grownBy M v.ownBlock/\OwB M G' none E e' (xs++H) Y I /\
   ∀ k,I.count k<=bs.count k+(((BY H.length).flatMap O)++[w.heap.size]).count k:=by
 obtain⟨hu,_,_,cu,c1,ti,z,hi,hs,hb,hz,cp⟩:=c0;obtain⟨c2,X,a4,ho,b4,cc⟩:=hx;obtain⟨A,b3,bb,b0⟩:=hy;subst bb;have bn:ti.size=e'.cells:=by rw[ba];exact hs
 have a3:∀ (M:World),w.grownBy M v.ownBlock->∀ k,G' k->M.heap[k]?=w.heap[k]?:=λM Z k hk=>Z.block k (b5 k hk).1 (Ca (b5 k hk).2)
 have c4:xs.length+H.length<=maxLen:=by
  have h1:(xs.length+H.length)*1<=(xs.length+H.length)*J:=Co _ c1.1;have:=mw;simp only[ak]at b2;omega
 have b9:∀ (y:List Value),(∀ (j:Nat) (x:e'.den),H[j]?=some x->∃ c,Mx w G2 e' none 0 x c (O j)/\∀ i u,c[i]?=some u->y[j*e'.cells+i]?=some u) ->
   ∀ Y M,Row M E e'.cells Y (xs.length+H.length) (X++y)->w.grownBy M v.ownBlock->(Y.ownBlock=v.ownBlock\/Y.ownBlock=some w.heap.size) ->
    ∃ I,OwB M G' none E e' (xs++H) Y I/\∀ k,I.count k<=bs.count k+(((BY H.length).flatMap O)++[w.heap.size]).count k:=by
  intro y hn Y M a6 Z a5;refine⟨Y.ownBlock.toList++(BY (xs.length+H.length)).flatMap (λj=>if j<xs.length then a4 j else O (j-xs.length)),⟨X++y,_,by rw[B4];exact a6,by rw[B4],λj x hj=>?_⟩,λk=>?_⟩
  ·by_cases a0:j<xs.length
   ·rw[BR a0]at hj;obtain⟨c,hr,hc⟩:=cc j x hj;have hr:Mx w G e' none 0 x c (a4 j):=hr;refine⟨c,?_,λi u hi=>?_⟩
    ·rw[if_pos a0];refine hr.carry hG (λk hk=>a3 M Z k (hG k hk)) λk hk=>Z.block k (hr.lt k hk) (λe0=>?_)
     have h5:=bu.1 c2 k;rw[b4,<- e0,BP]at h5;have h6:0<((BY xs.length).flatMap a4).count k:=BU.2 (dV.2 ⟨j,a0,hk⟩);simp at h5;omega
    ·have:=hc i u hi;rw[BR (BN.1 this).1];exact this
   ·rw[BQ (by omega)]at hj;obtain⟨c,hr,hc⟩:=hn _ x hj;have bx:=(BN.1 hj).1;refine⟨c,?_,λi u hi=>?_⟩
    ·rw[if_neg a0];exact hr.carry a9 (λk hk=>a3 M Z k (a9 k hk)) λk hk=>Z.block k (hr.lt k hk) (Ca (c3 _ bx k hk))
    ·have:=hc i u hi;have b1:=ho.1;have cw:xs.length*e'.cells<=j*e'.cells:=BX _ (Nat.le_of_not_lt a0);rw[BQ (by omega),<- this,b1,Nat.sub_mul];congr 1;omega
  ·rw[zr,b4];simp only[BP];rcases a5 with h5|h5
   ·rw[h5];omega
   ·rw[h5];simp only[DJ];omega
 cases A with
 |none =>
  have a1:H.length=0:=by
   rcases DK H.length with h|h
   ·exact h
   ·obtain⟨g,o,hA,_⟩:=b0 h;cases hA
  have a1:=B7 a1;subst a1;have a2:=nk (P:=P) w t ty E ti e'.cells b3 hu hi v xs.length X ho;have Z:w.grownBy w v.ownBlock:=⟨rfl,rfl,rfl,B6 _,λ_ _ _=>rfl⟩;obtain⟨I,h1,h2⟩:=b9 [] (by simp) v w (by simpa using ho) Z (.inl rfl);exact⟨v,w,I,a2,Z,h1,h2⟩
 |some ad =>
  have cb:∃ y:List Value,y.length=H.length*e'.cells/\(∀ j u,y[j]?=some u->w.cell? (ad.add j)=some u)/\(∀ u∈y,u.oneCell'=true) /\
    ∀ (j:Nat) (x:e'.den),H[j]?=some x->∃ c,Mx w G2 e' none 0 x c (O j)/\∀ i u,c[i]?=some u->y[j*e'.cells+i]?=some u:=by
   rcases DK H.length with h|h
   ·have a1:=B7 h;subst a1;exact⟨[],by simp,by simp,by simp,by simp⟩
   ·obtain⟨g,o,hA,he⟩:=b0 h;simp at hA;subst hA;obtain⟨y,h1,h2,h3,h4⟩:=rA H o (λj x c=>Mx w G2 e' none 0 x c (O j)) (λj x c hq=>⟨hq.len,hq.one⟩) he;exact⟨y,h1,λj u hj=>by rw[fb];exact h2 j u hj,h3,h4⟩
  obtain⟨y,h1,h2,h3,h4⟩:=cb;have bl:z.cells.size=e'.cells:=by
   have h2:=(lP w (λ_=>False) e).len;rw[<- CK,cp,h2,ba]
  obtain⟨Y,M,a2,a6,Z,a5⟩:=dF (P:=P) w t ty E ti z e'.cells J hu hi hz bn hb bl v xs.length X ho ad H.length b3 y h1 h2 h3 c4 (by simpa[ak]using b2);obtain⟨I,h5,h6⟩:=b9 y h4 Y M a6 Z a5;exact⟨Y,M,I,a2,Z,h5,h6⟩
theorem wu {W:Wit}{a:Act}{w:World}(h:an P V W st a w){E:TypeId}{e:Ty}{y:Leaf}{u:Value}{t:cI (List e.den)}(hl:aD P V W st w [y] [u])(H:fR st E e y=some t) :
  (∃ I,wq w (bq V W t.p t.frz) e t.val u I/\∀ k,((BY t.val.length).flatMap I).count k<=(aY W t.kill).count k)/\(∀ x∈t.frz,aB st x)/\(∀ x∈t.kill,aB st x):=by
 have z:∀ {p q:Bool} {O:List e.den} {ks:List (Nat×Nat)},dg e (aE st y)=some (p,O)->(∀ (S:Nat->Prop) (x:e.den) (c:List Value),Rd w (bq V W p (bz st [y])) e x c->Mx w (bq V W q ks) e none 0 x c []) ->
   ∃ I,wq w (bq V W q ks) e O u I/\∀ k,((BY O.length).flatMap I).count k<=(aY W []).count k:=by
  intro p q O ks Y hm;obtain⟨A,M,hu,_,hx⟩:=kP (m:=false) (E:=E) h hl.1.1 hl.1.2.1 Y;have hu:u=.slice A O.length M:=by simpa using hu
  refine⟨(λ_=>[]:Nat->List Nat),⟨A,M,hu,λhp=>?_⟩,λk=>by rw[show ((BY O.length).flatMap λ_=>([]:List Nat))=[] from by simp];exact Da _⟩;obtain⟨g,o',hA,_,a0⟩:=hx hp;exact⟨g,o',hA,λj x hj=>by
   obtain⟨c,hr,hc⟩:=a0 j x hj;exact⟨c,hm (λ_=>True) x c hr,hc⟩⟩
 unfold fR at H;cases hf:e.flat with
 |true =>
  rw[hf]at H;simp only[cond_true,BL]at H;obtain⟨⟨p,O⟩,Y,rfl⟩:=H;exact⟨z Y (λ_ x c hr=>Mx.flat hf hr),by simp,by simp⟩
 |false =>
  rw[hf]at H;simp only[cond_false]at H;cases hs:decide (e.sh=e) with
  |true =>
   rw[hs]at H;simp only[cond_true,BL]at H;obtain⟨⟨p,O⟩,Y,rfl⟩:=H;exact⟨z Y (λ_ x c hr=>Mx.shared (of_decide_eq_true hs) hr),λx hx=>el hl hx,by simp⟩
  |false =>
   rw[hs]at H;simp only[cond_false,BL]at H;obtain⟨J,Y,rfl⟩:=H;obtain⟨h1,h2,h3⟩:=dN (pos:=0) h hl Y;have h1:Mx w (bq V W J.p J.frz) (.list true E e) none 0 J.val [u] (aY W J.kill):=h1;rw[bJ (by simp)]at h1;obtain⟨v,Z,a1,X,h4,h5,h6⟩:=h1;simp only[Cn,and_true]at Z;subst Z;refine⟨⟨X,?_,λk=>?_⟩,h2,h3⟩
   ·rcases h4.2 with ⟨hn,h0⟩|⟨g,M,a2,_,Z,hg,a3,_⟩
    ·exact⟨none,0,by rw[hn];show _=Value.slice none (Dc J.val) 0;rw[h0],λhp=>by have hp:0<Dc J.val:=hp;omega⟩
    ·refine⟨some ⟨g,0,none⟩,M,Z,λhp=>⟨g,0,rfl,λj x hj=>?_⟩⟩;obtain⟨c,h7,h8⟩:=h6 j x hj;have h7:Mx w (bq V W J.p J.frz) e none 0 x c (X j):=h7;refine⟨c,h7,λi u hi=>?_⟩;have h9:=h8 i u hi;rw[Cb];rw[Z]at h4;rw[h4.cellAt _ (by rw[<- h4.1];exact (BN.1 h9).1)];exact h9
   ·show ((BY (Dc J.val)).flatMap X).count k<=(aY W J.kill).count k;rw[h5,BP];omega
theorem AL {l l':Leaf}{U:Upd}(u:cj st l=some (U,l')):∃ n,l'=.al TMP 0 n:=by
 cases l with
 |nal p I ep M E e X =>
  simp only[cj]at u;cases y:br st I ep with
  |false=>simp[y]at u
  |true =>
   rw[y]at u;simp only[cond_true]at u;split at u
   ·rename_i r j Z i H off;split at u
    ·rename_i p' E' J O Y;cases z:!B8 r TMP&&!B8 r EPO&&B8 H J.cells with
     |false=>simp[z]at u
     |true =>
      rw[z]at u;simp only[cond_true]at u;split at u
      ·split at u
       ·simp only[BK,CN]at u;exact⟨_,u.2.symm⟩
       ·cases u
      ·cases u
    ·cases u
   ·cases u
 |_=>simp[cj]at u
theorem wv (hV:ay V)(hT:TOk P T)(cw:bN V o){c:Call}(c4:o.op=.call c)(hc:c.callee=.builtin .append)(h:act Γ T o st κ=some r):bV P V o st κ r:=by
  simp only[act,wrU,c4,hc]at h;split at h
  · cases h
  · rename_i d hd
    split at h
    · rename_i x y t u a0 ad
      split at h
      · rename_i E e a4 ht
        cases a5:B8 t u with
        |false=>simp[a5]at h
        |true =>
          simp only[a5,cond_true]at h;have a5:=BT a5;subst a5;have c2:=hT t;rw[ht]at c2;have a0:c.args=#[x,y]:=by rw[<- CG (xs:=c.args),a0]
          have ad:c.argTypes=#[t,t]:=by rw[<- CG (xs:=c.argTypes),ad]
          have bl:∀ (a:Act) (w w':World) (v:Value),(CL #[t,t] o.type #[a.eval x,a.eval y]).run P w=.ok v w'->(execOp a.eval o).run P w=.ok (.value v) w':=by
            intro a w w' v Z;simp[execOp,c4,hc,resolve,invoke,builtin,a0,ad,Z]
          have bn:∀ (I:Upd) (E':TypeId) (e':Ty) (p:Bool) (xs:List e'.den) (ks:List (Nat×Nat)),E'=E->e'.sh=e.sh->dU st (ac I st) I d E' e' a4 p xs ks (one st y) κ=some r ->
              ∃ U,κ U=some r/\∀ (X:Wit) (a:Act) (w:World),an P V X (ac I st) a w->aD P V X (ac I st) w [one st y] [a.eval y]->(∀ x∈ks,aB (ac I st) x)->Ow w (gd V X p) E' e' xs (a.eval x) (aY X ks)->mP P V o st U a w:=by
            intro I E' e' p xs ks hE he J;subst hE;unfold dU at J;split at J
            · rename_i t1 cy
              cases Y:a7 (t1.kill++ks)&&dz t1.frz (t1.kill++ks)&&decide ((xs.length+t1.val.length)*a4<=ak) with
              |false=>simp[Y]at J
              |true =>
                simp only[Y,cond_true]at J;simp only[BM,decide_eq_true_eq]at Y;obtain⟨⟨d1,d3⟩,bb⟩:=Y;refine⟨_,J,λX a w Z a1 d2 cc next Q hn=>?_⟩;obtain⟨⟨cp,d4,b3⟩,hf,dd⟩:=wu Z a1 cy;have cb:∀ x∈t1.kill++ks,aB (ac I st) x:=λx hx=>(BV.1 hx).elim (dd x) (d2 x)
                obtain⟨h1,_,_,h4⟩:=fJ hV Z d3 cb;have ba:=gR Z d1 cb;rw[dH]at ba h4;have O:∀ k∈aY X t1.kill++aY X ks,¬ cd V (X.frz (ac I st) t1.frz) _ k:=λk H=>mv ⟨(h4 k H).1,(h4 k H).2.1,(h4 k H).2.2.2.1,(h4 k H).2.2.2.2⟩
                rw[CR]at ba;obtain⟨cu,c3,b4⟩:=ba;have bx:∀ k,(a.eval x).ownBlock=some k->k∈aY X ks:=by
                  intro k H;obtain⟨_,e2,e4,_,bb,_⟩:=cc;rw[bb,H];simp
                have c0:∀ k,gd V (X.frz (ac I st) t1.frz) (p||t1.p) k->cd V (X.frz (ac I st) t1.frz) (ac (aN (ac (aF (ac I st) t1.frz) (ac I st)) (t1.kill++ks)++aF (ac I st) t1.frz) (ac I st)) k:=by
                  rintro k (H|⟨_,H⟩)
                  · exact .inl H
                  · exact .inr (.inl (hV.ro k H))
                have a6:∀ k∈(BY t1.val.length).flatMap cp,k∈aY X t1.kill:=λk H=>BU.1 (by have:=b3 k;have:=BU.2 H;omega)
                obtain⟨v',w',e5,cx,hg,c1,b9⟩:=wt (P:=P) (t:=t) (ty:=o.type) c2 (ij he) cc d4 bb (G':=gd V (X.frz (ac I st) t1.frz) (p||t1.p))
                  (bT (W':=X.frz (ac I st) t1.frz) (by intro h;simp[h]) (λ_ h=>Or.inl h))
                  (λk H=>bT (W':=X.frz (ac I st) t1.frz) (by intro h;simp[h]) (λ_ h=>h) k (kv hf k H))
                  (λk H=>⟨h1.used_lt k (c0 k H),λe1=>O k (BO _ (bx k e1)) (c0 k H)⟩)
                  (λj hj k H e1=>b4 k (a6 k (dV.2 ⟨j,hj,H⟩)) k (bx k e1) rfl)
                have b5:=nh (bs:=aY X ks) (K:=(BY t1.val.length).flatMap cp++[w.heap.size]) c3
                  (bu.2 λk=>by
                    rw[BP];have h5:=b3 k;have h6:=bu.1 cu k;by_cases H:k=w.heap.size
                    · subst H
                      have:(aY X t1.kill).count w.heap.size=0:=CC.2 (λhm=>by have:=(h4 _ (BS _ hm)).2.2.1;omega);simp;omega
                    · have:List.count k [w.heap.size]=0:=CC.2 (by simp[H])
                      omega)
                  (λk H hm=>by
                    rcases BV.1 H with H|H
                    · exact b4 k (a6 k H) k hm rfl
                    · simp at H
                      subst H;have:=(h4 _ (BO _ hm)).2.2.1;omega) b9
                refine dW (bl a w w' v' cx) ?_;rw[hd];refine hn _ _ ?_;rw[cg,aQ,bD];refine h1.putOwn hV hg.size hg.os hg.tape hg.output (λk H=>hg.block k (h1.used_lt k H) (λe1=>O k (BO _ (bx k e1.symm)) H)) d (cw d hd).1 (cw d hd).2 _ (BW _) ⟨b5.1,c1⟩ (λk H hu=>?_);rcases b5.2 k H with H|H
                · exact O k (BO _ H) hu
                · rcases BV.1 H with H|H
                  · exact O k (BS _ (a6 k H)) hu
                  · simp at H
                    have:=h1.used_lt k hu;omega
            · cases J
          have a2:∀ (I:Upd) (x':Leaf),eu st I d E e a4 x' (one st y) κ=some r->one st y≠.dead:=by
            intro I x' h e1;rw[e1]at h;unfold eu at h;split at h
            · split at h
              · rename_i p E' e' b2 b1
                cases Y:B8 E' E&&decide (e'.sh=e.sh) with
                |false=>simp[Y]at h
                |true =>
                  simp only[Y,cond_true,dU,fR,aE,dg,C6,ch,take]at h;cases e'.flat <;> cases decide (e'.sh=e') <;> simp at h
              · cases h
            · simp only[dU,fR,aE,dg,C6,ch,take]at h
              cases e.flat <;> cases decide (e.sh=e) <;> simp at h
            · cases h
          simp only[iz]at h;cases hn:jx (one st x) with
          |true =>
            rw[hn]at h;simp only[cond_true]at h;rw[hZ]at h;obtain⟨⟨I,x'⟩,a9,h⟩:=CH.1 h;have a2:=a2 _ _ h;simp only[eu]at h;split at h
            · rename_i r' j n
              split at h
              · rename_i p' E' e' b2 b1
                cases Y:B8 E' E&&decide (e'.sh=e.sh) with
                |false=>simp[Y]at h
                |true =>
                  simp only[Y,cond_true]at h;simp only[BM,decide_eq_true_eq]at Y;obtain⟨U,hU,hg⟩:=bn I E' e' p' b2 [(r',j)] (BT Y.1) Y.2 h;refine⟨U,hU,λW a w Z=>?_⟩;obtain⟨a3,_,_,_,_⟩:=bt Z x (by intro e1;rw[e1]at hn;simp[jx]at hn);obtain⟨X,n0,p0,E0,e0,e3,g1,g2,g3,g4,_⟩:=vi hV Z a3 a9;obtain⟨a1,M,b0,_,_⟩:=bt Z y a2;obtain⟨h5,h6,h7,h8⟩:=kt g1 b1 g4;exact hg X a w g1 ⟨⟨a1.carry hV.ro g2 (λho=>absurd ho M),M,b0⟩,trivial⟩ (λz hz=>by simp at hz;subst hz;exact⟨_,h7,trivial⟩) (by simpa[aY]using h6)
              · cases h
            · exfalso
              obtain⟨n,dc⟩:=AL a9;cases dc
            · cases h
          |false =>
            rw[hn]at h;simp only[cond_false]at h;have a2:=a2 _ _ h;simp only[eu]at h;split at h
            · rename_i r' j n hx
              split at h
              · rename_i p' E' e' b2 b1
                cases Y:B8 E' E&&decide (e'.sh=e.sh) with
                |false=>simp[Y]at h
                |true =>
                  simp only[Y,cond_true]at h;simp only[BM,decide_eq_true_eq]at Y;obtain⟨U,hU,hg⟩:=bn [] E' e' p' b2 [(r',j)] (BT Y.1) Y.2 h;refine⟨U,hU,λW a w Z=>?_⟩;obtain⟨a3,_,_,_,_⟩:=bt Z x (by rw[hx];simp);rw[hx]at a3;obtain⟨a1,M,b0,_,_⟩:=bt Z y a2;obtain⟨h5,h6,h7,h8⟩:=kt Z b1 a3;exact hg W a w Z ⟨⟨a1,M,b0⟩,trivial⟩ (λz hz=>by simp at hz;subst hz;exact⟨_,h7,trivial⟩) (by simpa[aY]using h6)
              · cases h
            · rename_i hx
              obtain⟨U,hU,hg⟩:=bn [] E e false [] [] rfl rfl h;refine⟨U,hU,λW a w Z=>?_⟩;obtain⟨a3,_,_,_,_⟩:=bt Z x (by rw[hx];simp);rw[hx]at a3;obtain⟨a1,M,b0,_,_⟩:=bt Z y a2;exact hg W a w Z ⟨⟨a1,M,b0⟩,trivial⟩ (by simp) (by rw[show a.eval x=_ from a3];exact OwH.nil w _ E e)
            · cases h
      · cases h
    · cases h
end
def gS (w:World)(ro pr:Nat->Prop)(r:Bool)(a:Ty)(x:a.den)(v:Value):Prop :=
 if r=true then ∃ b u g o c,v=.pointer (some ⟨b,u,none⟩)/\pr b/\w.cell? ⟨b,u,none⟩=some (.pointer (some ⟨g,o,none⟩))/\pr g/\Rd w ro a x c/\cY w g o c
 else ∃ g o c,v=.pointer (some ⟨g,o,none⟩)/\pr g/\Rd w ro a x c/\cY w g o c
def jP (w:World)(ro pr:Nat->Prop):(cs:List (Bool×Ty))->lV cs->List Value->Prop
 |[],_,y=>y=[]
 |c::cs,x,y=>∃ u r,y=u::r/\gS w ro pr c.1 c.2 x.1 u/\jP w ro pr cs x.2 r
def nW (P:Program)(w:World)(ro pr:Nat->Prop):(pk:PK)->pk.den->Value->List Nat->Prop
 |.rd a,x,v,r=>r=[]/\∃ y,db a.isAgg v y/\Rd w ro a x y
 |.own a,x,v,r=>∃ y,db a.isAgg v y/\Mx w ro a none 0 x y r
 |.io a,x,v,r=>∃ y,db a.isAgg v y/\Mx w ro a none 0 x y r
 |.rref a,x,v,r=>r=[]/\gS w ro pr false a x v
 |.rref2 a,x,v,r=>r=[]/\gS w ro pr true a x v
 |.iop a,x,v,r=>∃ g c E z,v=.pointer (some ⟨g,0,none⟩)/\w.heap[g]?=some (.cells c.toArray E (0,0))/\Mx w ro a none 0 x c z/\r=g::z
 |.fn O B,M,v,r=>r=[]/\ik P w pr O B M v
 |.clo f y,x,v,r=>r=[]/\∃ I:List Value,v=.func (.func f) #[] I.toArray/\jP w ro pr y x I
 |.hol a c off,x,v,r=>∃ y u z J E e H,db a.isAgg v y/\Mx w ro a (some c) 0 x.1 y z/\y[c]?=some u/\be c a 0 x.1=some ⟨E,e,H⟩/\OwB w ro (some (x.2,off)) E e H u J/\∀ k,r.count k=z.count k+J.count k
def c9 (P:Program)(w:World)(ro pr:Nat->Prop):(ps:List PK)->ab ps->List Value->List (List Nat)->Prop
 |[],_,z,u=>z=[]/\u=[]
 |p::ps,x,z,u=>∃ v y b r,z=v::y/\u=b::r/\nW P w ro pr p x.1 v b/\c9 P w ro pr ps x.2 y r
def jD (w:World)(G:Nat->Prop)(a:Ty)(x:a.den)(ptr:Bool)(v:Value)(bs:List Nat):Prop :=
 if ptr=true then ∃ g c E u,v=.pointer (some ⟨g,0,none⟩)/\w.heap[g]?=some (.cells c.toArray E (0,0))/\Mx w G a none 0 x c u/\bs=g::u
 else ∃ r,db a.isAgg v r/\Mx w G a none 0 x r bs
def bL (w:World)(G:Nat->Prop):(ps:List PK)->ah ps->List Value->List (List Nat)->Prop
 |.io a::ps,o,v::r,b::u=>jD w G a o.1 false v b/\bL w G ps o.2 r u
 |.iop a::ps,o,v::r,b::u=>jD w G a o.1 true v b/\bL w G ps o.2 r u
 |.rd _::ps,o,_::r,b::u=>b=[]/\bL w G ps o r u
 |.own _::ps,o,_::r,b::u=>b=[]/\bL w G ps o r u
 |.rref _::ps,o,_::r,b::u=>b=[]/\bL w G ps o r u
 |.rref2 _::ps,o,_::r,b::u=>b=[]/\bL w G ps o r u
 |.fn _ _::ps,o,_::r,b::u=>b=[]/\bL w G ps o r u
 |.clo _ _::ps,o,_::r,b::u=>b=[]/\bL w G ps o r u
 |.hol _ _ _::ps,o,_::r,b::u=>b=[]/\bL w G ps o r u
 |[],_,[],[]=>True
 |_,_,_,_=>False
def p8 (w:World)(G ro:Nat->Prop):(r:RK)->r.den->Value->List Nat->Prop
 |.v a,y,v,u=>∃ z,db a.isAgg v z/\Mx w G a none 0 y z u
 |.bv a,y,v,u=>u=[]/\∃ z,db a.isAgg v z/\Rd w (λk=>G k\/ro k) a y z
 |.box a,y,v,u=>∃ g c E H,v=.pointer (some ⟨g,0,none⟩)/\w.heap[g]?=some (.cells c.toArray E (0,0))/\Mx w G a none 0 y c H/\u=g::H
def gz (w:World)(G ro:Nat->Prop):(J:List RK)->ai J->List Value->List (List Nat)->Prop
 |[],_,M,H=>M=[]/\H=[]
 |r::J,y,M,H=>∃ u I b z,M=u::I/\H=b::z/\p8 w G ro r y.1 u b/\gz w G ro J y.2 I z
def sm:List Value->Value->Prop
 |[u],v=>v=u
 |r,v=>v=.tuple r.toArray
def p9 (w w':World)(r:List Nat)(k:Nat):Prop:=k<w'.heap.size/\(w.heap.size<=k\/k∈r)
def tD (c:Ctr)(w:World)(ro:Nat->Prop)(I:List Value)(z:List (List Nat))(y:ai c.rs×ah c.ps)(e:Ending)(w':World):Prop :=
 ∃ (v:Value) (H:List Value) (N:Nat->Prop) (u r:List (List Nat)),e=.returned v/\sm H v/\w.heap.size<=w'.heap.size/\w'.os=w.os/\w'.tape=w.tape/\w'.output=w.output /\
  (∀ k,k<w.heap.size->k∉z.flatten->w'.heap[k]?=w.heap[k]?)/\(∀ k,N k->p9 w w' z.flatten k) /\
  bL w' (λk=>N k\/(c.fresh=false/\ro k)) c.ps y.2 I u/\gz w' (λk=>N k\/(c.fresh=false/\ro k)) ro c.rs y.1 H r /\
  (u.flatten++r.flatten).Nodup/\∀ k∈u.flatten++r.flatten,p9 w w' z.flatten k/\¬ N k
def bO (P:Program)(c:Ctr):Prop :=
 fT P c.f/\∀ (w:World) (ro:Nat->Prop) (x:ab c.ps) (u:List Value) (r:List (List Nat)) (y:ai c.rs×ah c.ps),
  c9 P w ro (λk=>k<w.heap.size/\k∉r.flatten) c.ps x u r->(∀ k,ro k->k<w.heap.size/\k∉r.flatten)->r.flatten.Nodup->c.den x=some y ->
  Calls P c.f u.toArray w (tD c w ro u r y)
section
variable {P:Program} {V:Env} {Γ:List Ctr} {T:TypeId->TI} {st:St} {o:Oper} {R:Type} {κ:Upd->Option R} {r:R}
theorem ik.mono {w0:World}{S I:Nat->Prop}(J:∀ k,S k->I k){y:List Ty}{B:Ty}{H:Tup y->Option B.den}{v:Value}(h:ik P w0 S y B H v):ik P w0 I y B H v:=by
 obtain⟨f,u,e,Y,M⟩:=h;exact⟨f,u,e,Y,λw1 X O=>M w1 X (λk z=>O k (J k z))⟩
theorem ik.move {w0 w:World}{S M:Nat->Prop}(z:w0.heap.size<=w.heap.size)(J:∀ k,S k->M k/\w.heap[k]?=w0.heap[k]?){H:List Ty}{B:Ty}{I:Tup H->Option B.den}{v:Value}
  (h:ik P w0 S H B I v):ik P w M H B I v:=by
 obtain⟨f,y,e,Z,O⟩:=h;exact⟨f,y,e,Z,λw1 Y X=>O w1 (CS z Y) (λk u=>(X k (J k u).1).trans (J k u).2)⟩
theorem gS.carry {w w1:World}{ro ro' pr I:Nat->Prop}(y:∀ k,ro k->ro' k/\w1.heap[k]?=w.heap[k]?)(u:∀ k,pr k->I k/\w1.heap[k]?=w.heap[k]?){H:Bool}{a:Ty}{x:a.den}{v:Value}(h:gS w ro pr H a x v):gS w1 ro' I H a x v:=by
 unfold gS at h ⊢;split at h
 ·rename_i X;rw[if_pos X];obtain⟨b,ob,g,o,c,Y,J,O,M,Z,h8⟩:=h;exact⟨b,ob,g,o,c,Y,(u b J).1,by rw[kO (u b J).2];exact O,(u g M).1,Z.carry (λk z=>(y k z).1) (λk z=>(y k z).2),h8.same (u g M).2⟩
 ·rename_i X;rw[if_neg X];obtain⟨g,o,c,Y,J,O,M⟩:=h;exact⟨g,o,c,Y,(u g J).1,O.carry (λk z=>(y k z).1) (λk z=>(y k z).2),M.same (u g J).2⟩
theorem jP.carry {w w1:World}{ro ro' pr z:Nat->Prop}(y:∀ k,ro k->ro' k/\w1.heap[k]?=w.heap[k]?)(H:∀ k,pr k->z k/\w1.heap[k]?=w.heap[k]?):∀ {cs:List (Bool×Ty)} {x:lV cs} {us:List Value},jP w ro pr cs x us->jP w1 ro' z cs x us
 |[],_,_,h=>h
 |_::_,_,_,⟨u,I,e,J,M⟩=>⟨u,I,e,J.carry y H,jP.carry y H M⟩
theorem nW.mono {w:World}{ro ro' pr O:Nat->Prop}(y:∀ k,ro k->ro' k)(J:∀ k,pr k->O k):∀ {pk:PK} {x:pk.den} {v:Value} {bs:List Nat},nW P w ro pr pk x v bs->nW P w ro' O pk x v bs
 |.rd _,_,_,_,⟨e,M,H,I⟩=>⟨e,M,H,I.mono y⟩
 |.own _,_,_,_,⟨M,H,I⟩=>⟨M,H,I.mono y⟩
 |.io _,_,_,_,⟨M,H,I⟩=>⟨M,H,I.mono y⟩
 |.rref _,_,_,_,⟨e,h⟩=>⟨e,h.carry (λk z=>⟨y k z,rfl⟩) (λk z=>⟨J k z,rfl⟩)⟩
 |.rref2 _,_,_,_,⟨e,h⟩=>⟨e,h.carry (λk z=>⟨y k z,rfl⟩) (λk z=>⟨J k z,rfl⟩)⟩
 |.iop _,_,_,_,⟨g,c,E,X,H,I,Y,Z⟩=>⟨g,c,E,X,H,I,Y.mono y,Z⟩
 |.fn _ _,_,_,_,⟨e,h⟩=>⟨e,ik.mono J h⟩
 |.clo _ _,_,_,_,⟨e,us,H,I⟩=>⟨e,us,H,I.carry (λk z=>⟨y k z,rfl⟩) (λk z=>⟨J k z,rfl⟩)⟩
 |.hol _ _ _,_,_,_,⟨M,u,X,b1,E,e,xs,H,I,Y,Z,h5,h6⟩=>⟨M,u,X,b1,E,e,xs,H,I.mono y,Y,Z,h5.carry y (λ_ _=>rfl) (λ_ _=>rfl),h6⟩
theorem c9.mono {w:World}{ro ro' pr z:Nat->Prop}(u:∀ k,ro k->ro' k)(I:∀ k,pr k->z k):∀ {ps:List PK} {x:ab ps} {M:List Value} {H:List (List Nat)},c9 P w ro pr ps x M H->c9 P w ro' z ps x M H
 |[],_,_,_,h=>h
 |_::_,_,_,_,⟨v,J,b,y,Z,X,O,Y⟩=>⟨v,J,b,y,Z,X,O.mono u I,c9.mono u I Y⟩
def jY (V:Env)(W:Wit)(st:St)(ks:List (Nat×Nat))(u:List Nat)(k:Nat):Prop:=W.nw k\/V.prot k\/(∃ b∈u,live st b/\W.β b=k)\/∃ x∈ks,k∈W.bs x.1 x.2
theorem kX {W:Wit}{H y:List (Nat×Nat)}{z I:List Nat}(h:∀ x∈H,x∈y)(M:∀ b∈z,b∈I):∀ k,jY V W st H z k->jY V W st y I k:=by
 rintro k (u|u|⟨b,O,u⟩|⟨x,J,u⟩)
 ·exact .inl u
 ·exact .inr (.inl u)
 ·exact .inr (.inr (.inl ⟨b,M b O,u⟩))
 ·exact .inr (.inr (.inr ⟨x,h x J,u⟩))
theorem jc {W:Wit}{p q:Bool}{z y:List (Nat×Nat)}(I:p=true->q=true)(h:∀ x∈z,x∈y):∀ k,bq V W p z k->bq V W q y k:=by
 rintro k (u|⟨x,H,u⟩)
 ·exact .inl (bT (W':=W) I (λ_ h=>h) k u)
 ·exact .inr ⟨x,h x H,u⟩
theorem gA {agg:Bool}{v:Value}{cs:List Value}(h:eh (bi agg) v cs):db agg v cs:=by
 cases agg <;> exact h
theorem nl {W:Wit}{a:Act}{w:World}(h:an P V W st a w){l:Leaf}{ls:List Leaf}{v:Value}(hl:aK P V W st w [] l v)(y:target st l=some ls)(ks:List (Nat×Nat))(J:List Nat)(O:∀ b∈ft [l],b∈J) :
  ∃ g o cs,v=.pointer (some ⟨g,o,none⟩)/\jY V W st ks J g/\aD P V W st w ls cs/\cY w g o cs:=by
 unfold target at y;split at y
 ·rename_i b;cases Y:decide ((st b).sh=.agg) with
  |false=>simp[Y]at y
  |true =>
   simp only[Y,cond_true,BK]at y;subst y;obtain⟨hB,M,z⟩:=hl;rcases h.boxes b hB with ⟨Z,_⟩|⟨_,E,Z⟩
   ·rw[M]at Z;cases Z
   ·exact⟨W.β b,0,W.cs b,z,.inr (.inr (.inl ⟨b,O b (by simp[ft]),⟨hB,M⟩,rfl⟩)),iC h b,λi v z=>by
     rw[Cb,cell_of_row w (W.β b) i _ E (0,0) Z];simpa using z⟩
 ·rename_i p a x;simp only[BK]at y;subst y;obtain⟨g,X,c,z,hg,I,hc⟩:=hl;rw[CQ]at z;exact⟨g,X,c,z,hg.elim .inl (λh=>.inr (.inl h)),fa (λ_ h=>h) I,hc⟩
 ·rename_i p a x;simp only[BK]at y;subst y;obtain⟨b,ob,g,X,c,z,Y,H,hg,I,hc⟩:=hl;refine⟨b,ob,[.pointer (some ⟨g,X,none⟩)],z,Y.elim .inl (λh=>.inr (.inl h)),⟨⟨⟨g,X,c,rfl,hg,I,hc⟩,id,rfl⟩,trivial⟩,λi u hi=>?_⟩;cases i with
  |zero=>simp at hi;subst hi;exact H
  |succ i=>simp at hi
 ·cases y
theorem gT {W:Wit}{w:World}{x:aI×List Leaf}{l:Leaf}{v:Value}{cs:List Value}(y:eh x.1 v cs)(z:aD P V W st w x.2 cs)(u:ck x=l)(H:l≠.dead) :
  aK P V W st w [] l v/\v.oneCell'=true:=by
 unfold ck at u;split at u
 ·rename_i I;subst u;have y:cs=[v]:=y;subst y;exact⟨z.1.1,z.1.2.2⟩
 ·exact absurd u.symm H
theorem nm {W:Wit}{a:Act}{w:World}(h:an P V W st a w){c:Bool×Ty}{l:Leaf}{v:Value}(hl:aK P V W st w [] l v){g:Got c.2.den}(H:fu st c l=some g) :
  gS w (bq V W g.p g.frz) (jY V W st g.frz g.see) c.1 c.2 g.val v/\(∀ z∈g.frz,aB st z)/\g.kill=[]/\g.lend=[]:=by
 unfold fu at H;cases hc:c.1 with
 |true =>
  rw[hc]at H;simp only[cond_true]at H;split at H
  ·rename_i l' ht;split at H
   ·rename_i Z a1;simp only[BL]at H;obtain⟨⟨p,y⟩,hy,rfl⟩:=H;obtain⟨g,o',cs,hv,Y,I,X⟩:=nl h hl ht (bz st Z) (ft [l,l']) (λb M=>by
     cases l <;> simp[ft]at M ⊢ <;> exact .inl M)
    match cs,I with
    |[u],I =>
     obtain⟨g2,o2,a4,a3,a2,O,a0⟩:=nl h I.1.1 a1 (bz st Z) (ft [l,l']) (λb M=>by
      cases l <;> cases l' <;> simp[ft]at M ⊢ <;> first|exact M|exact .inr M)
     have J:=X 0 u rfl;rw[CQ,a3]at J;refine⟨?_,λz hz=>el O hz,rfl,rfl⟩;unfold gS;rw[if_pos rfl];exact⟨g,o',g2,o2,a4,hv,Y,J,a2,eH h O hy,a0⟩
   ·cases H
  ·cases H
 |false =>
  rw[hc]at H;simp only[cond_false]at H;split at H
  ·rename_i Z ht;simp only[BL]at H;obtain⟨⟨p,y⟩,hy,rfl⟩:=H;obtain⟨g,o',cs,hv,Y,I,X⟩:=nl h hl ht (bz st Z) (ft [l]) (λb M=>M);refine⟨?_,λz hz=>el I hz,rfl,rfl⟩;unfold gS;rw[if_neg (by simp)];exact⟨g,o',cs,hv,Y,eH h I hy,X⟩
  ·cases H
theorem my {W:Wit}{a:Act}{w:World}(h:an P V W st a w):∀ {cs:List (Bool×Ty)} {ls:List Leaf} {us:List Value} {g:Got (lV cs)},aD P V W st w ls us->cr st cs ls=some g ->
  jP w (bq V W g.p g.frz) (jY V W st g.frz g.see) cs g.val us/\(∀ z∈g.frz,aB st z)/\g.kill=[]/\g.lend=[]
 |[],[],us,g,J,y=>by
  simp only[cr,BK]at y;subst y;cases us with
  |nil=>exact⟨rfl,by simp,rfl,rfl⟩
  |cons=>exact J.elim
 |[],_::_,_,_,_,y=>by simp[cr]at y
 |_::_,[],_,_,_,y=>by simp[cr]at y
 |c::cs,l::ls,us,g,J,y=>by
  cases us with
  |nil=>exact J.elim
  |cons u us =>
   simp only[cr]at y;split at y
   ·rename_i g1 M;split at y
    ·rename_i g2 O;simp only[BK]at y;subst y;obtain⟨Z,h2,h3,h4⟩:=nm h J.1.1 M;obtain⟨Y,h6,h7,h8⟩:=my h J.2 O;refine⟨⟨u,us,rfl,Z.carry (λk I=>⟨jc (by intro h;simp[h]) (λx H=>BS _ H) k I,rfl⟩) (λk I=>⟨kX (λx H=>BS _ H) (λx H=>BS _ H) k I,rfl⟩),
      Y.carry (λk I=>⟨jc (by intro h;simp[h]) (λx H=>BO _ H) k I,rfl⟩) (λk I=>⟨kX (λx H=>BO _ H) (λx H=>BO _ H) k I,rfl⟩)⟩,?_,rfl,rfl⟩
     intro z X;exact (BV.1 X).elim (h2 z) (h6 z)
    ·cases y
   ·cases y
theorem ww {W:Wit}{w:World}{c:Bool×Bool×(a:Ty)×a.den}{v:Value}(h:iR V W w c v):aK P V W st w [] (eT c) v/\¬ am (eT c)/\v.oneCell'=true:=by
 unfold iR at h;unfold eT;split at h
 ·rename_i u;rw[u];refine⟨h,id,?_⟩;obtain⟨b,I,g,z,H,y,_⟩:=h;rw[y];rfl
 ·rename_i u;have u:c.2.1=false:=by simpa using u
  rw[u];refine⟨h,id,?_⟩;obtain⟨g,z,H,y,_⟩:=h;rw[y];rfl
theorem qK {W:Wit}{w:World}{caps:List (Bool×Bool×(a:Ty)×a.den)}{us:List Value}(z:us.length=caps.length)(h:∀ (i:Nat) (c:Bool×Bool×(a:Ty)×a.den) (u:Value),caps[i]?=some c->us[i]?=some u->iR V W w c u) :
  aD P V W st w (caps.map eT) us :=
 aD.mk (by simp[z]) λj l v y I=>by
  rw[List.getElem?_map,BL]at y;obtain⟨c,H,rfl⟩:=y;exact ww (h j c v H I)
theorem qa {W:Wit}{w:World}:∀ (caps:List Nat),(∀ b∈caps,B0<=b/\(st b).sh=.agg)->aD P V W st w (caps.map λb=>Leaf.bp b 0) (caps.map λb=>Value.pointer (some ⟨W.β b,0,none⟩))
 |[],_=>trivial
 |b::caps,h=>⟨⟨⟨(h b (B9 ..)).1,(h b (B9 ..)).2,rfl⟩,id,rfl⟩,qa caps (λq u=>h q (BZ _ u))⟩
theorem nn {off:Nat}{E:TypeId}{e:Ty}{X:List e.den}:∀ {a:Ty} {pos:Nat} {x z:a.den},bM off E e X a pos x=some z->(∃ y,be off a pos x=some ⟨E,e,y⟩)/\be off a pos z=some ⟨E,e,X⟩
 |.pair a b,pos,x,z,h=>by
  simp only[bM]at h;split at h
  ·rename_i u J;simp only[BK]at h;subst h;obtain⟨⟨y,M⟩,O⟩:=nn J;exact⟨⟨y,by simp only[be,M]⟩,by simp only[be,O]⟩
  ·rename_i hn;simp only[BL]at h;obtain⟨u,J,rfl⟩:=h;have Y:=Mx.back.set_in J;obtain⟨⟨y,M⟩,O⟩:=nn J;have H:be off a pos x.1=none:=by
    cases hg:be off a pos x.1 with
    |none=>rfl
    |some u=>have:=gy hg;omega
   exact⟨⟨y,by simp only[be,H,M]⟩,by simp only[be,H,O]⟩
 |.list m E' e',pos,Z,z,h=>by
  simp only[bM]at h;cases I:m&&B8 pos off with
  |false=>simp[I]at h
  |true =>
   rw[I]at h;simp only[cond_true]at h;obtain⟨rfl,rfl,rfl⟩:=jU h;exact⟨⟨Z,by simp[be,I]⟩,by simp[be,I]⟩
 |.int _,_,_,_,h=>by simp[bM]at h
 |.bool,_,_,_,h=>by simp[bM]at h
 |.str,_,_,_,h=>by simp[bM]at h
 |.unit,_,_,_,h=>by simp[bM]at h
 |.hdr,_,_,_,h=>by simp[bM]at h
theorem Mx.refill {w:World}{G:Nat->Prop}{off:Nat}{E:TypeId}{e:Ty}{ys:List e.den}{u:Value}(Y:u.oneCell'=true):∀ {a:Ty} {pos:Nat} {x z:a.den} {cs:List Value} {bs:List Nat},Mx w G a (some off) pos x cs bs->bM off E e ys a pos x=some z ->
  Mx w G a (some off) pos z (cs.set (off-pos) u) bs
 |.pair a b,pos,x,z,cs,bs,⟨c1,c2,b1,Z,e1,e2,M,O⟩,h=>by
  have hl:=M.len;simp only[bM]at h;split at h
  ·rename_i y J;simp only[BK]at h;subst h;have X:=Mx.back.set_in J;refine⟨c1.set (off-pos) u,c2,b1,Z,?_,e2,Mx.refill Y M J,O⟩;rw[e1,List.set_append_left _ _ (by omega)]
  ·simp only[BL]at h;obtain⟨y,J,rfl⟩:=h;have X:=Mx.back.set_in J;refine⟨c1,c2.set (off-(pos+a.cells)) u,b1,Z,?_,e2,M,Mx.refill Y O J⟩;rw[e1,List.set_append_right _ _ (by omega),hl,show off-pos-a.cells=off-(pos+a.cells) by omega]
 |.list m E' e',pos,xs,z,cs,bs,H,h=>by
  simp only[bM]at h;cases I:m&&B8 pos off with
  |false=>simp[I]at h
  |true =>
   simp only[BM]at I;obtain⟨rfl,I⟩:=I;have I:=BT I;subst I;rw[jh]at H ⊢;obtain⟨v,rfl,M,O⟩:=H;exact⟨u,by simp,Y,O⟩
 |.int _,_,_,_,_,_,_,h=>by simp[bM]at h
 |.bool,_,_,_,_,_,_,h=>by simp[bM]at h
 |.str,_,_,_,_,_,_,h=>by simp[bM]at h
 |.unit,_,_,_,_,_,_,h=>by simp[bM]at h
 |.hdr,_,_,_,_,_,_,h=>by simp[bM]at h
theorem aD.setNil {W:Wit}{w:World}{ls:List Leaf}{cs:List Value}(I:aD P V W st w ls cs)(c:Nat):aD P V W st w (aT ls c .nil) (cs.set c (.slice none 0 0)):=by
 have y:=I.length;refine aD.mk (by simp[aT,y]) λj l v z u=>?_
 rcases aS _ _ _ _ _ z with ⟨rfl,rfl,J⟩|⟨H,z⟩
 ·rw[Ch (by omega)]at u;simp only[BK]at u;subst u;exact⟨rfl,id,rfl⟩
 ·rw[CZ (Ca H)]at u;exact I.at_ j l v z u
def wz (P:Program)(V:Env)(W:Wit)(st:St)(w:World)(pk:PK)(v:Value)(g:Got pk.den):Prop :=
 (∃ u,nW P w (bq V W g.p g.frz) (jY V W st g.frz g.see) pk g.val v u/\u=g.lend.map W.β++aY W g.kill)/\(∀ z∈g.frz,aB st z)/\(∀ z∈g.kill,aB st z)/\(∀ b∈g.lend,live st b)
theorem nq (hV:ay V){W:Wit}{a:Act}{w:World}(h:an P V W st a w){pk:PK}{x:aI×List Leaf}{v:Value}{cs:List Value}(hs:eh x.1 v cs)(hl:aD P V W st w x.2 cs)
  {g:Got pk.den} (u:bg st pk x=some g):wz P V W st w pk v g:=by
 obtain⟨sh,ls⟩:=x;have Y:∀ {b:Ty} {g:Got b.den},(bif decide (sh=bi b.isAgg) then (ch st b ls).map (λt=>(⟨t.p,t.val,t.frz,t.kill,[],[]⟩:Got b.den)) else none)=some g ->
   (∃ cs,db b.isAgg v cs/\Mx w (bq V W g.p g.frz) b none 0 g.val cs (aY W g.kill))/\g.lend=[]/\g.see=[]/\(∀ z∈g.frz,aB st z)/\(∀ z∈g.kill,aB st z):=by
  intro b g hq;cases I:decide (sh=bi b.isAgg) with
  |false=>simp[I]at hq
  |true =>
   rw[I]at hq;simp only[cond_true,BL]at hq;have M:=of_decide_eq_true I;subst M;obtain⟨t,ht,rfl⟩:=hq;obtain⟨X,J,O⟩:=dN (pos:=0) h hl ht;exact⟨⟨cs,gA hs,X⟩,rfl,rfl,J,O⟩
 cases pk with
 |rd b =>
  simp only[bg]at u;cases I:decide (sh=bi b.isAgg) with
  |false=>simp[I]at u
  |true =>
   rw[I]at u;simp only[cond_true,BL]at u;have M:=of_decide_eq_true I;subst M;obtain⟨⟨p,y⟩,hy,rfl⟩:=u;exact⟨⟨[],⟨rfl,cs,gA hs,eH h hl hy⟩,rfl⟩,λz hz=>el hl hz,by simp[Got.ofRd],by simp[Got.ofRd]⟩
 |own b =>
  obtain⟨X,J,O,h4,h5⟩:=Y u;exact⟨⟨_,X,by rw[J];rfl⟩,h4,h5,by rw[J];simp⟩
 |io b =>
  obtain⟨X,J,O,h4,h5⟩:=Y u;exact⟨⟨_,X,by rw[J];rfl⟩,h4,h5,by rw[J];simp⟩
 |iop b =>
  simp only[bg]at u;split at u
  ·rename_i q hx;cases I:decide ((st q).sh=.agg) with
   |false=>simp[I]at u
   |true =>
    simp only[I,cond_true,BL]at u;obtain⟨t,ht,rfl⟩:=u;obtain⟨H,hv⟩:=gT hs hl hx (by simp);obtain⟨hB,a5,b2⟩:=H;rcases h.boxes q hB with ⟨h8,_⟩|⟨_,E,h8⟩
    ·rw[a5]at h8;cases h8
    ·obtain⟨X,J,O⟩:=dN (pos:=0) h (iC h q) ht;exact⟨⟨_,⟨W.β q,W.cs q,E,_,b2,h8,X,rfl⟩,rfl⟩,J,O,λb' M=>by simp at M;subst M;exact⟨hB,a5⟩⟩
  ·cases u
 |rref b =>
  simp only[bg]at u;have hd:ck (sh,ls)≠.dead:=by
   intro e;rw[e]at u;simp[fu,target]at u
  obtain⟨H,hv⟩:=gT hs hl rfl hd;obtain⟨X,J,O,h4⟩:=nm (c:=(false,b)) h H u;exact⟨⟨[],⟨rfl,X⟩,by rw[O,h4];rfl⟩,J,by rw[O];simp,by rw[h4];simp⟩
 |rref2 b =>
  simp only[bg]at u;have hd:ck (sh,ls)≠.dead:=by
   intro e;rw[e]at u;simp[fu,target]at u
  obtain⟨H,hv⟩:=gT hs hl rfl hd;obtain⟨X,J,O,h4⟩:=nm (c:=(true,b)) h H u;exact⟨⟨[],⟨rfl,X⟩,by rw[O,h4];rfl⟩,J,by rw[O];simp,by rw[h4];simp⟩
 |fn As B =>
  simp only[bg]at u;split at u
  ·rename_i As' B' φ hx;obtain⟨H,hv⟩:=gT hs hl hx (by simp);split at u
   ·rename_i hh;obtain⟨rfl,rfl⟩:=hh;simp only[BK]at u;subst u;have hf:ik P V.w0 V.prot As' B' φ v:=H;exact⟨⟨[],⟨rfl,ik.move h.size (λk hk=>⟨.inr (.inl hk),h.keep k hk⟩) hf⟩,rfl⟩,by simp,by simp,by simp⟩
   ·cases u
  ·cases u
 |clo f b9 =>
  simp only[bg]at u;split at u
  ·rename_i f' a1 hx;cases I:B8 f' f with
   |false=>simp[I]at u
   |true =>
    simp only[I,cond_true]at u;have I:=BT I;subst I;obtain⟨H,hv⟩:=gT hs hl hx (by simp);obtain⟨X,J⟩:=H;obtain⟨O,h4,h5,h6⟩:=my h (qa a1 J) u;exact⟨⟨[],⟨rfl,_,X,O⟩,by rw[h5,h6];rfl⟩,h4,by rw[h5];simp,by rw[h6];simp⟩
  ·rename_i f' a1 hx;cases I:B8 f' f with
   |false=>simp[I]at u
   |true =>
    simp only[I,cond_true]at u;have I:=BT I;subst I;obtain⟨H,hv⟩:=gT hs hl hx (by simp);obtain⟨us,X,J,h7⟩:=H;obtain⟨O,h4,h5,h6⟩:=my h (qK J h7) u;exact⟨⟨[],⟨rfl,us,X,O⟩,by rw[h5,h6];rfl⟩,h4,by rw[h5];simp,by rw[h6];simp⟩
  ·cases u
 |hol b c off =>
  simp only[bg]at u;cases I:decide (sh=bi b.isAgg) with
  |false=>simp[I]at u
  |true =>
   rw[I]at u;simp only[cond_true]at u;have M:=of_decide_eq_true I;subst M;split at u
   ·rename_i r' j n Z;split at u
    ·rename_i p i o' E e xs hd;cases a0:B8 o' off with
     |false=>simp[a0]at u
     |true =>
      rw[a0]at u;simp only[cond_true]at u;have a0:=BT a0;subst a0;split at u
      ·rename_i t ht;split at u
       ·rename_i y hy;simp only[BK]at u;subst u;have a2:ls[c]?=some (.al r' j n):=by
         rw[CP]at Z;cases hq:ls[c]? with
         |none=>rw[hq]at Z;simp at Z
         |some l0=>rw[hq]at Z;simp at Z;rw[Z]
        have a3:c<cs.length:=by rw[<- hl.length];exact (BN.1 a2).1
        have a4:=B5 a3;obtain⟨H,_,a6⟩:=hl.at_ c _ _ a2 a4;obtain⟨_,b1,b4,_⟩:=kt h hd H;obtain⟨X,J,O⟩:=dN (pos:=0) h (hl.setNil c) ht;obtain⟨⟨bl,b3⟩,ad⟩:=nn hy;obtain⟨v0,bn,b0,g1,g2,g3,g4⟩:=X.out b3;have a9:bn=[]:=by
         simp only[C3,Ch a3,BK]at g2;obtain⟨b5,ba,q1,q2,_⟩:=g1;obtain⟨A,bb,q4,_⟩:=q1.slice;rw[<- g2]at q2 q4;simp only[CJ]at q4;rw[q2,<- q4.2.1];rfl
        have g5:=Mx.refill a6 g3 hy;simp only[C3,List.set_set,List.set_getElem_self]at g5;refine⟨⟨_,⟨cs,cs[c],b0,W.bs r' j,E,e,xs,gA hs,g5.mono (jc (by intro h;simp[h]) (λ_ h=>h)),a4,ad,
         b1.2.carry (λk hk=>.inl (bT (W':=W) (by intro h;simp[h]) (λ_ h=>h) k hk)) (λ_ _=>rfl) (λ_ _=>rfl),λk=>?_⟩,rfl⟩,J,?_,by simp⟩
        ·have:=g4 k;rw[a9]at this;simp only[DL,Dh];rw[show aY W ((r',j)::t.kill)=W.bs r' j++aY W t.kill from rfl,BP,this];simp;omega
        ·intro z hz;rcases Cc.1 hz with rfl|hz
         ·exact⟨_,b4,trivial⟩
         ·exact O z hz
       ·cases u
      ·cases u
    ·cases u
   ·cases u
end
section
variable {P:Program} {V:Env} {Γ:List Ctr} {T:TypeId->TI} {st:St} {o:Oper} {R:Type} {κ:Upd->Option R} {r:R}
def gX (P:Program)(V:Env)(W:Wit)(st:St)(w:World):List (aI×List Leaf)->List Value->Prop
 |[],y=>y=[]
 |x::H,y=>∃ v u z,y=v::u/\eh x.1 v z/\aD P V W st w x.2 z/\gX P V W st w H u
theorem kH {W:Wit}{w:World}{ga:(pk:PK)->aI×List Leaf->Option (Got pk.den)}
  (H:∀ (pk:PK) (x:aI×List Leaf) (v:Value) (cs:List Value) (g:Got pk.den),eh x.1 v cs->aD P V W st w x.2 cs->ga pk x=some g->wz P V W st w pk v g) :
  ∀ (ps:List PK) (xs:List (aI×List Leaf)) (X:List Value) (g:Got (ab ps)),gX P V W st w xs X->bd ga ps xs=some g ->
   (∃ I,c9 P w (bq V W g.p g.frz) (jY V W st g.frz g.see) ps g.val X I/\∀ k,I.flatten.count k=(g.lend.map W.β).count k+(aY W g.kill).count k) /\
    (∀ z∈g.frz,aB st z)/\(∀ z∈g.kill,aB st z)/\(∀ b∈g.lend,live st b)
 |[],[],X,g,u,y=>by
  simp only[bd,BK]at y;subst y;exact⟨⟨[],⟨u,rfl⟩,λk=>by simp[aY]⟩,by simp,by simp,by simp⟩
 |[],_::_,_,_,_,y=>by simp[bd]at y
 |_::_,[],_,_,_,y=>by simp[bd]at y
 |p::ps,x::xs,X,g,u,y=>by
  obtain⟨v,O,cs,rfl,hs,hl,J⟩:=u;simp only[bd]at y;split at y
  ·rename_i g1 Y;split at y
   ·rename_i g2 Z;simp only[BK]at y;subst y;obtain⟨⟨b,h1,h2⟩,h3,h4,h5⟩:=H p x v cs g1 hs hl Y;obtain⟨⟨I,h6,h7⟩,h8,h9,a0⟩:=kH H ps xs O g2 J Z;refine⟨⟨b::I,⟨v,O,b,I,rfl,rfl,h1.mono (jc (by intro h;simp[h]) (λx u=>BS _ u)) (kX (λx u=>BS _ u) (λx u=>BS _ u)),
     h6.mono (jc (by intro h;simp[h]) (λx u=>BO _ u)) (kX (λx u=>BO _ u) (λx u=>BO _ u))⟩,λk=>?_⟩,?_,?_,?_⟩
    ·rw[CA,BP,h7 k,h2,BP,Dd,BP,dH,BP];omega
    ·intro z M;exact (BV.1 M).elim (h3 z) (h8 z)
    ·intro z M;exact (BV.1 M).elim (h4 z) (h9 z)
    ·intro z M;exact (BV.1 M).elim (h5 z) (a0 z)
   ·cases y
  ·cases y
theorem nr:∀ {Γ:List Ctr} {f:FuncId} {c:Ctr},lW Γ f=some c->c∈Γ/\c.f=f
 |[],_,_,h=>by simp[lW]at h
 |H::Γ,f,c,h=>by
  simp only[lW]at h;cases u:B8 H.f f with
  |true =>
   simp only[u,cond_true,BK]at h;subst h;exact⟨B9 ..,BT u⟩
  |false =>
   simp only[u,cond_false]at h;obtain⟨z,y⟩:=nr h;exact⟨BZ _ z,y⟩
theorem tE {w:World}{G pr:Nat->Prop}{q:List PK}{z:ab q}{cv:List Value}{H:List (List Nat)}(J:c9 P w G pr q z cv H):∀ (y:List Ty) (x:Tup y) (u:List Value),se w G y x u ->
  c9 P w G pr (y.map .rd++q) (nN q z y x) (u++cv) (y.map (λ_=>[])++H)
 |[],_,_,h=>by rw[show _=_ from h];exact J
 |a::y,x,_,⟨v,c,I,rfl,M,O,X⟩=>⟨v,I++cv,[],_,rfl,rfl,⟨rfl,c,M,O⟩,tE J y x.2 I X⟩
theorem qb {w:World}{ro pr:Nat->Prop}:∀ {ps:List PK} {x:ab ps} {z:List Value} {u:List (List Nat)},ps.all PK.reads=true->c9 P w ro pr ps x z u->u.flatten=[]
 |[],_,_,_,_,⟨_,e⟩=>by rw[e];rfl
 |p::ps,_,_,_,h,⟨v,I,b,y,_,e,J,H⟩=>by
  simp only[DI,BM]at h;rw[e,CA,qb h.2 H,CD];cases p <;> first|exact J.1|simp[PK.reads]at h
theorem qc {w w1:World}{ro pr ro' H:Nat->Prop}(u:∀ k,ro k->ro' k/\w1.heap[k]?=w.heap[k]?)(y:∀ k,pr k->H k/\w1.heap[k]?=w.heap[k]?):∀ {ps:List PK} {x:ab ps} {Y:List Value} {J:List (List Nat)},
  ps.all PK.reads=true->c9 P w ro pr ps x Y J->c9 P w1 ro' H ps x Y J
 |[],_,_,_,_,h=>h
 |p::ps,x,_,_,O,⟨v,X,b,z,e,e2,I,h2⟩=>by
  simp only[DI,BM]at O;refine⟨v,X,b,z,e,e2,?_,qc u y O.2 h2⟩;cases p with
  |rd a =>
   obtain⟨Z,cs,h3,h4⟩:=I;exact⟨Z,cs,h3,h4.carry (λk M=>(u k M).1) (λk M=>(u k M).2)⟩
  |rref a=>exact⟨I.1,I.2.carry u y⟩
  |rref2 a=>exact⟨I.1,I.2.carry u y⟩
  |_=>simp[PK.reads]at O
theorem mz (z:ay V){W:Wit}{p:Bool}{ks:List (Nat×Nat)}{y:List Nat}:∀ k,bq V W p ks k->jY V W st ks y k:=by
 rintro k ((u|⟨_,u⟩)|u)
 ·exact .inl u
 ·exact .inr (.inl (z.ro k u))
 ·exact .inr (.inr (.inr u))
theorem rB {W:Wit}{ks:List (Nat×Nat)}{y:List Nat}(H:∀ z∈ks,aB st z):∀ k,jY V W st ks y k->cd V W st k:=by
 rintro k (u|u|⟨b,_,M,e⟩|⟨x,J,u⟩)
 ·exact .inl u
 ·exact .inr (.inl u)
 ·exact .inr (.inr (.inl ⟨b,M,e⟩))
 ·obtain⟨l,I,O⟩:=H x J;exact .inr (.inr (.inr ⟨x.1,x.2,l,I,O,u⟩))
theorem sn {W:Wit}{w:World}:∀ {ls:List Leaf} {us:List Value},aD P V W st w ls us->gX P V W st w (ls.map λl=>(aI.one,[l])) us
 |[],[],_=>rfl
 |_::_,_::_,h=>⟨_,_,[_],rfl,rfl,⟨h.1,trivial⟩,sn h.2⟩
theorem yg (hV:ay V)(hΓ:∀ c∈Γ,bO P c){W:Wit}{a:Act}{w:World}(h:an P V W st a w){X:List Ty}{B:Ty}{f:FuncId}{ls:List Leaf}{us:List Value}{v:Value}(hv:v=.func (.func f) #[] us.toArray)(c0:aD P V W st w ls us)
  {g:Got (Tup X->Option B.den)} (H:kL Γ st X B f ls=some g):ik P w (jY V W st g.frz g.see) X B g.val v/\(∀ z∈g.frz,aB st z)/\g.kill=[]/\g.lend=[]:=by
 unfold kL at H;split at H
 ·rename_i c hc;obtain⟨b2,rfl⟩:=nr hc;obtain⟨a1,J⟩:=hΓ c b2;obtain⟨f',ps,rs,a5,cb⟩:=c;simp only at H a1 J hv;generalize ps.drop X.length=q at H;unfold sa at H;split at H
  ·rename_i hh;obtain⟨rfl,rfl⟩:=hh;cases hb:q.all PK.reads&&B.flat&&a5 with
   |false=>simp[hb]at H
   |true =>
    simp only[hb,cond_true]at H;simp only[BM]at hb;obtain⟨⟨a9,ba⟩,b9⟩:=hb;subst b9;split at H
    ·rename_i g0 c2;simp only[BK]at H;subst H;obtain⟨⟨a3,h1,h2⟩,h3,h4,h5⟩:=kH (λpk x v cs g hs hl H=>nq hV h hs hl H) q _ _ g0 (sn c0) c2;have b5:=qb a9 h1;refine⟨⟨f',us.toArray,hv,a1,λw1 bx Y x I y hx hy=>?_⟩,h3,rfl,rfl⟩;simp only[BL]at hy;obtain⟨y0,b1,rfl⟩:=hy;have M:(X.map (λ_=>([]:List Nat))++a3).flatten=[]:=by
      rw[List.flatten_append,b5,CD];clear hx b1;induction X with
      |nil=>rfl
      |cons a X ih=>simp
     have ad:∀ k,jY V W st g0.frz g0.see k->k<w1.heap.size:=λk Z=>CU (h.used_lt k (rB h3 k Z)) bx
     have a2:=tE (P:=P) (pr:=λk=>k<w1.heap.size/\k∉(X.map (λ_=>([]:List Nat))++a3).flatten)
      (qc (P:=P) (w1:=w1) (ro':=λk=>k<w1.heap.size) (λk Z=>⟨ad k (mz hV k Z),Y k (mz hV k Z)⟩)
       (λk Z=>⟨⟨ad k Z,by rw[M];simp⟩,Y k Z⟩) a9 h1) X x I hx
     have a0:=J w1 (λk=>k<w1.heap.size) (nN q g0.val X x) (I++us) (X.map (λ_=>[])++a3) y0 a2
      (λk Z=>⟨Z,by rw[M];simp⟩) (by rw[M];exact Di) b1
     have a4:I.toArray++us.toArray=(I++us).toArray:=by simp
     rw[a4];refine a0.mono λe w2 a6=>?_
     obtain⟨u,cc,N,c4,cp,rfl,O,b3,bl,b4,bb,bn,_,_,b0,_,_⟩:=a6;obtain⟨u1,cu,b,c3,e1,e2,⟨cs,c1,hm⟩,e3,e4⟩:=b0;subst e3;subst e1;have O:u=u1:=O;subst O;exact⟨u,cs,rfl,c1,kh ba hm,⟨bl,b4,bb,b3,λk Z=>bn k Z (by rw[M];simp)⟩⟩
    ·cases H
  ·cases H
 ·cases H
theorem uH (Z:ay V)(hΓ:∀ c∈Γ,bO P c){W:Wit}{a:Act}{w:World}(h:an P V W st a w)(pk:PK)(x:aI×List Leaf)(v:Value)(cs:List Value)(g:Got pk.den)(Y:eh x.1 v cs)(X:aD P V W st w x.2 cs)
  (H:ca Γ st pk x=some g):wz P V W st w pk v g:=by
 cases pk with
 |fn As B =>
  simp only[ca]at H;split at H
  ·rename_i O y;have I:(∃ u,ck x=.clo O.1 u/\O.2=u.map λb=>Leaf.bp b 0)\/∃ u,ck x=.clr O.1 u/\O.2=u.map eT:=by
    generalize ck x=l at y;cases l <;> simp only[vC,BK,reduceCtorEq]at y
    ·subst y;exact .inl ⟨_,rfl,rfl⟩
    ·subst y;exact .inr ⟨_,rfl,rfl⟩
   rcases I with ⟨u,I,he⟩|⟨u,I,he⟩
   ·obtain⟨z,_⟩:=gT Y X I (by simp);rw[he]at H;obtain⟨h1,h2,J,M⟩:=yg Z hΓ h z.1 (qa u z.2) H;exact⟨⟨[],⟨rfl,h1⟩,by rw[J,M];rfl⟩,h2,by rw[J];simp,by rw[M];simp⟩
   ·obtain⟨z,_⟩:=gT Y X I (by simp);rw[he]at H;obtain⟨us,e1,e2,e3⟩:=z;obtain⟨h1,h2,J,M⟩:=yg Z hΓ h e1 (qK e2 e3) H;exact⟨⟨[],⟨rfl,h1⟩,by rw[J,M];rfl⟩,h2,by rw[J];simp,by rw[M];simp⟩
  ·exact nq Z h Y X H
 |_=>exact nq Z h Y X H
end
section
variable {P:Program} {V:Env} {W:Wit} {st st':St} {w w':World} {a:Act}
theorem iO {G:Nat->Prop}{p:Bool}(hG:∀ k,G k->gd V W p k):∀ {b:Ty} {pos:Nat} {x:b.den} {cs:List Value} {bs:List Nat},Mx w G b none pos x cs bs->bs.Nodup ->
  ∃ Z:Nat->List Nat,(ap p b x).length=cs.length /\
   (∀ (j:Nat) (l:Leaf) (u:Value),(ap p b x)[j]?=some l->cs[j]?=some u->aK P V W st w (Z j) l u) /\
   (∀ (j:Nat) (l:Leaf),(ap p b x)[j]?=some l->am l->∀ k∈Z j,k∈bs) /\
   (∀ (j J:Nat) (l l':Leaf),(ap p b x)[j]?=some l->am l->(ap p b x)[J]?=some l'->am l'->∀ k,k∈Z j->k∈Z J->j=J)
 |.int k,_,x,cs,bs,H,_=>by
  obtain⟨rfl,rfl⟩:=H;exact⟨λ_=>[],rfl,λj l u y R=>by cases j with|zero=>simp[ap]at y R;subst y;subst R;rfl|succ j=>simp[ap]at y,λj l y _ k r=>by simp at r,λj J l l' _ _ _ _ k r=>by simp at r⟩
 |.bool,_,x,cs,bs,H,_=>by
  obtain⟨rfl,rfl⟩:=H;exact⟨λ_=>[],rfl,λj l u y R=>by cases j with|zero=>simp[ap]at y R;subst y;subst R;rfl|succ j=>simp[ap]at y,λj l y _ k r=>by simp at r,λj J l l' _ _ _ _ k r=>by simp at r⟩
 |.str,_,x,cs,bs,H,_=>by
  obtain⟨rfl,rfl⟩:=H;exact⟨λ_=>[],rfl,λj l u y R=>by cases j with|zero=>simp[ap]at y R;subst y;subst R;rfl|succ j=>simp[ap]at y,λj l y _ k r=>by simp at r,λj J l l' _ _ _ _ k r=>by simp at r⟩
 |.unit,_,x,cs,bs,H,_=>by
  obtain⟨rfl,rfl⟩:=H;exact⟨λ_=>[],rfl,λj l u y R=>by simp[ap]at y,λj l y _ k r=>by simp at r,λj J l l' _ _ _ _ k r=>by simp at r⟩
 |.hdr,_,x,cs,bs,H,_=>by
  obtain⟨⟨A,a2,rfl⟩,rfl⟩:=H;exact⟨λ_=>[],rfl,λj l u y R=>by cases j with|zero=>simp[ap]at y R;subst y;subst R;exact⟨A,a2,rfl⟩|succ j=>simp[ap]at y,λj l y _ k r=>by simp at r,λj J l l' _ _ _ _ k r=>by simp at r⟩
 |.pair b c,pos,x,cs,bs,⟨c1,c2,b1,b2,e1,e2,y,R⟩,X=>by
  subst e1;subst e2;rw[CR]at X;obtain⟨d1,f1,f2,f3,f4⟩:=iO hG y X.1;obtain⟨d2,g1,g2,g3,g4⟩:=iO hG R X.2.1;have a5:=cG p b x.1;have a4:=y.len;have z:∀ (j:Nat) (l:Leaf),(ap p b x.1++ap p c x.2)[j]?=some l->(j<b.cells/\(ap p b x.1)[j]?=some l)\/(b.cells<=j/\(ap p c x.2)[j-b.cells]?=some l):=by
   intro j l I;by_cases M:j<b.cells
   ·rw[BR (by omega)]at I;exact .inl ⟨M,I⟩
   ·rw[BQ (by omega),a5]at I;exact .inr ⟨by omega,I⟩
  refine⟨λj=>if j<b.cells then d1 j else d2 (j-b.cells),by simp only[ap,B4];omega,λj l u I hu=>?_,λj l I ho k r=>?_,λj J l l' I ho Y a0 k r O=>?_⟩
  ·rcases z j l I with ⟨M,I⟩|⟨a3,I⟩
   ·rw[BR (by omega)]at hu;simp only[if_pos M];exact f2 j l u I hu
   ·rw[BQ (by omega),a4]at hu;simp only[if_neg (show ¬ j<b.cells by omega)];exact g2 _ l u I hu
  ·rcases z j l I with ⟨M,I⟩|⟨a3,I⟩
   ·simp only[if_pos M]at r;exact BS _ (f3 j l I ho k r)
   ·simp only[if_neg (show ¬ j<b.cells by omega)]at r;exact BO _ (g3 _ l I ho k r)
  ·rcases z j l I with ⟨M,I⟩|⟨a3,I⟩ <;> rcases z J l' Y with ⟨a1,Y⟩|⟨a6,Y⟩
   ·simp only[if_pos M]at r;simp only[if_pos a1]at O;exact f4 j J l l' I ho Y a0 k r O
   ·simp only[if_pos M]at r;simp only[if_neg (show ¬ J<b.cells by omega)]at O;exact absurd rfl (X.2.2 k (f3 j l I ho k r) k (g3 _ l' Y a0 k O))
   ·simp only[if_neg (show ¬ j<b.cells by omega)]at r;simp only[if_pos a1]at O;exact absurd rfl (X.2.2 k (f3 J l' Y a0 k O) k (g3 _ l I ho k r))
   ·simp only[if_neg (show ¬ j<b.cells by omega)]at r;simp only[if_neg (show ¬ J<b.cells by omega)]at O;have:=g4 _ _ l l' I ho Y a0 k r O;omega
 |.list m E e,pos,xs,cs,bs,H,X=>by
  cases m with
  |false =>
   rw[cm]at H;obtain⟨rfl,A,a2,rfl,R,h3⟩:=H;refine⟨λ_=>[],rfl,λj l u y h4=>?_,λj l y _ k r=>by simp at r,λj J l l' _ _ _ _ k r=>by simp at r⟩;cases j with
   |zero =>
    simp[ap]at y h4;subst y;subst h4;exact Rd.mono hG (⟨A,a2,rfl,R,h3⟩:Rd w G (.list false E e) xs _)
   |succ j=>simp[ap]at y
  |true =>
   rw[bJ (by simp)]at H;obtain⟨v,rfl,hO⟩:=H;refine⟨λ_=>bs,rfl,λj l u y h4=>?_,λj l y _ k r=>r,λj J l l' y _ h3 _ k _ _=>?_⟩
   ·cases j with
    |zero =>
     simp[ap]at y h4;subst y;subst h4;exact⟨X,OwB.shy (hO.carry hG (λ_ _=>rfl) (λ_ _=>rfl))⟩
    |succ j=>simp[ap]at y
   ·have h7:j<1:=by simpa[ap]using (BN.1 y).1
    have h8:J<1:=by simpa[ap]using (BN.1 h3).1
    omega
theorem an.reown (hV:ay V)(h:an P V W st a w)(r:Nat)(c:bQ)(M:Nat->List Nat)(a3:(st r).ver<c.ver)(a2:c.sh=(st r).sh)(a0:c.ls.length=(st r).ls.length)
  (a1:∀ (j:Nat) (l:Leaf) (v:Value),c.ls[j]?=some l->(W.cs r)[j]?=some v->aK P V W st w (M j) l v)
  (Z:∀ (j:Nat) (l:Leaf),c.ls[j]?=some l->am l->∀ k∈M j,¬ W.nw k/\¬ V.prot k/\(∀ b,live st b->W.β b≠k) /\
   ∀ (r1 j1:Nat) (l1:Leaf),r1≠r->(st r1).ls[j1]?=some l1->am l1->k∉W.bs r1 j1)
  (a4:∀ (j j':Nat) (l l':Leaf),c.ls[j]?=some l->am l->c.ls[j']?=some l'->am l'->∀ k,k∈M j->k∈M j'->j=j') :
  an P V { W with bs:=λr' j=>if r'=r then M j else W.bs r' j } (ac [(r,c)] st) a w:=by
 have I:∀ b,live (ac [(r,c)] st) b<->live st b:=by
  intro b;rcases aj r b c st with ⟨rfl,e⟩|⟨_,e⟩
  ·simp[live,e,a2]
  ·simp[live,e]
 have X:cB V W { W with bs:=λr' j=>if r'=r then M j else W.bs r' j } st (ac [(r,c)] st) w w:=by
  refine⟨λq=>?_,λb R=>⟨(I b).2 R,rfl⟩,λ_ h=>h,λ_ _=>rfl,λ_ q j' l' O h4 h5=>?_⟩
  ·rcases aj r q c st with ⟨rfl,e⟩|⟨y,e⟩
   ·rw[e];exact⟨Nat.le_of_lt a3,λ_=>rfl⟩
   ·rw[e];exact⟨B6 _,λ_=>rfl⟩
  ·rcases aj r q c st with ⟨rfl,e⟩|⟨y,e⟩
   ·rw[e]at h5;omega
   ·rw[e]at O;exact⟨⟨l',O,h4⟩,by simp[y],λ_ _=>rfl⟩
 exact {
  nt:=h.nt,df:=h.df
  slots:=λt ht=>by
   rcases aj r t c st with ⟨rfl,e⟩|⟨_,e⟩
   ·rw[e,a2];exact h.slots t ht
   ·rw[e];exact h.slots t ht
  boxes:=λb R=>by
   rcases aj r b c st with ⟨rfl,e⟩|⟨_,e⟩
   ·rw[e,a2];rcases h.boxes b R with ⟨h1,z⟩|h1
    ·refine .inl ⟨h1,?_⟩;rw[z]at a0;exact B7 a0
    ·exact .inr h1
   ·rw[e];exact h.boxes b R
  len:=λq=>by
   rcases aj r q c st with ⟨rfl,e⟩|⟨_,e⟩
   ·rw[e,a0];exact h.len q
   ·rw[e];exact h.len q
  one:=h.one
  leaf:=λq j l u z O=>by
   rcases aj r q c st with ⟨rfl,e⟩|⟨y,e⟩
   ·rw[e]at z;exact (a1 j l u z O).carry hV.ro X (λ_=>⟨by simp,λ_ _=>rfl⟩)
   ·rw[e]at z;exact (h.leaf q j l u z O).carry hV.ro X (λ_=>⟨by simp[y],λ_ _=>rfl⟩)
  ownb:=λq j l z O k J=>by
   rcases aj r q c st with ⟨rfl,e⟩|⟨y,e⟩
   ·rw[e]at z;simp only[if_true]at J;have:=Z j l z O k J;exact⟨this.1,this.2.1,λb R=>this.2.2.1 b ((I b).1 R)⟩
   ·rw[e]at z;simp only[y,if_false]at J;have:=h.ownb q j l z O k J;exact⟨this.1,this.2.1,λb R=>this.2.2 b ((I b).1 R)⟩
  sep:=λq j l q' j' l' z O h4 h5 k J H=>by
   rcases aj r q c st with ⟨e0,e⟩|⟨y,e⟩ <;> rcases aj r q' c st with ⟨e1,e'⟩|⟨Y,e'⟩
   ·rw[e]at z;rw[e']at h4;simp only[e0,if_true]at J;simp only[e1,if_true]at H;exact⟨e0.trans e1.symm,a4 j j' l l' z O h4 h5 k J H⟩
   ·rw[e]at z;rw[e']at h4;simp only[e0,if_true]at J;simp only[Y,if_false]at H;exact absurd H ((Z j l z O k J).2.2.2 q' j' l' Y h4 h5)
   ·rw[e]at z;rw[e']at h4;simp only[y,if_false]at J;simp only[e1,if_true]at H;exact absurd J ((Z j' l' h4 h5 k H).2.2.2 q j l y z O)
   ·rw[e]at z;rw[e']at h4;simp only[y,if_false]at J;simp only[Y,if_false]at H;exact h.sep q j l q' j' l' z O h4 h5 k J H
  box:=λb R=>h.box b ((I b).1 R)
  inj:=λb b' R a5=>h.inj b b' ((I b).1 R) ((I b').1 a5)
  nwlt:=h.nwlt
  os:=h.os,tape:=h.tape,output:=h.output,size:=h.size,keep:=h.keep
  fixb:=λx hx=>⟨(I _).2 (h.fixb x hx).1,(h.fixb x hx).2⟩
  fixt:=h.fixt }
theorem an.reownE (hV:ay V)(h:an P V W st a w)(r:Nat)(c:bQ)(M:Nat->List Nat)(a9:r≠EPO)(a2:(st r).ver<=c.ver)(a6:c.sh=(st r).sh)(a3:c.ls.length=(st r).ls.length)
  (a0:∀ (j:Nat) (l:Leaf) (v:Value),c.ls[j]?=some l->(W.cs r)[j]?=some v->aK P V W st w (M j) l v)
  (Y:∀ (j:Nat) (l:Leaf),c.ls[j]?=some l->am l->∀ k∈M j,¬ W.nw k/\¬ V.prot k/\(∀ b,live st b->W.β b≠k) /\
   ∀ (r1 j1:Nat) (l1:Leaf),r1≠r->(st r1).ls[j1]?=some l1->am l1->k∉W.bs r1 j1)
  (a4:∀ (j j':Nat) (l l':Leaf),c.ls[j]?=some l->am l->c.ls[j']?=some l'->am l'->∀ k,k∈M j->k∈M j'->j=j') :
  an P V { W with bs:=λr' j=>if r'=r then M j else W.bs r' j } (ac [(r,c),(EPO,bU (st EPO))] st) a w /\
   (∀ q,(ac [(r,c),(EPO,bU (st EPO))] st q).sh=(st q).sh/\(st q).ver<=(ac [(r,c),(EPO,bU (st EPO))] st q).ver/\(q≠r->(ac [(r,c),(EPO,bU (st EPO))] st q).ls=(st q).ls))/\ac [(r,c),(EPO,bU (st EPO))] st r=c:=by
 have e0:ac [(r,c),(EPO,bU (st EPO))] st=ac [(r,c)] (ac [(EPO,bU (st EPO))] st):=aQ _ _ _ _;generalize hS:ac [(r,c),(EPO,bU (st EPO))] st=S;rw[e0]at hS;have hr:S r=c:=by rw[<- hS,bm]
 have O:∀ q,(S q).sh=(st q).sh/\(st q).ver<=(S q).ver/\(q≠r->(S q).ls=(st q).ls):=by
  intro q;rw[<- hS];rcases aj r q c (ac [(EPO,bU (st EPO))] st) with ⟨rfl,e⟩|⟨ad,e⟩
  ·rw[e];exact⟨a6,a2,λh=>absurd rfl h⟩
  ·rw[e];rcases aj EPO q (bU (st EPO)) st with ⟨rfl,e⟩|⟨_,e⟩ <;> rw[e]
   ·exact⟨rfl,DZ _,λ_=>rfl⟩
   ·exact⟨rfl,B6 _,λ_=>rfl⟩
 have hE:(st EPO).ver<(S EPO).ver:=by
  rw[<- hS,aJ (Ca a9),bm];exact BW _
 refine⟨?_,O,hr⟩;have I:∀ b,live S b<->live st b:=λb=>by simp[live,(O b).1]
 have R:cB V W { W with bs:=λr' j=>if r'=r then M j else W.bs r' j } st S w w :=
  ⟨λq=>⟨(O q).2.1,λ_=>rfl⟩,λb X=>⟨(I b).2 X,rfl⟩,λ_ h=>h,λ_ _=>rfl,λhe=>by omega⟩
 have a1:∀ q,(S q).ls.length=(st q).ls.length:=λq=>by
  by_cases y:q=r
  ·rw[y,hr,a3]
  ·rw[(O q).2.2 y]
 exact {
  nt:=h.nt,df:=h.df
  slots:=λt ht=>by rw[(O t).1];exact h.slots t ht
  boxes:=λb X=>by
   rw[(O b).1];rcases h.boxes b X with ⟨h1,z⟩|h1
   ·refine .inl ⟨h1,B7 ?_⟩;rw[a1,z];rfl
   ·exact .inr h1
  len:=λq=>by rw[a1];exact h.len q
  one:=h.one
  leaf:=λq j l u z Z=>by
   by_cases y:q=r
   ·subst y;rw[hr]at z;exact (a0 j l u z Z).carry hV.ro R (λ_=>⟨by simp,λ_ _=>rfl⟩)
   ·rw[(O q).2.2 y]at z;exact (h.leaf q j l u z Z).carry hV.ro R (λ_=>⟨by simp[y],λ_ _=>rfl⟩)
  ownb:=λq j l z Z k J=>by
   by_cases y:q=r
   ·subst y;rw[hr]at z;simp only[if_true]at J;have:=Y j l z Z k J;exact⟨this.1,this.2.1,λb X=>this.2.2.1 b ((I b).1 X)⟩
   ·rw[(O q).2.2 y]at z;simp only[y,if_false]at J;have:=h.ownb q j l z Z k J;exact⟨this.1,this.2.1,λb X=>this.2.2 b ((I b).1 X)⟩
  sep:=λq j l q' j' l' z Z h4 h5 k J H=>by
   by_cases e0:q=r <;> by_cases e1:q'=r
   ·subst e0;subst e1;rw[hr]at z h4;simp only[if_true]at J H;exact⟨rfl,a4 j j' l l' z Z h4 h5 k J H⟩
   ·subst e0;rw[hr]at z;rw[(O q').2.2 e1]at h4;simp only[if_true]at J;simp only[e1,if_false]at H;exact absurd H ((Y j l z Z k J).2.2.2 q' j' l' e1 h4 h5)
   ·subst e1;rw[(O q).2.2 e0]at z;rw[hr]at h4;simp only[e0,if_false]at J;simp only[if_true]at H;exact absurd J ((Y j' l' h4 h5 k H).2.2.2 q j l e0 z Z)
   ·rw[(O q).2.2 e0]at z;rw[(O q').2.2 e1]at h4;simp only[e0,if_false]at J;simp only[e1,if_false]at H;exact h.sep q j l q' j' l' z Z h4 h5 k J H
  box:=λb X=>h.box b ((I b).1 X)
  inj:=λb b' X a5=>h.inj b b' ((I b).1 X) ((I b').1 a5)
  nwlt:=h.nwlt
  os:=h.os,tape:=h.tape,output:=h.output,size:=h.size,keep:=h.keep
  fixb:=λx hx=>⟨(I _).2 (h.fixb x hx).1,(h.fixb x hx).2⟩
  fixt:=h.fixt }
theorem an.nwGrow (R:ay V)(h:an P V W st a w)(N:Nat->Prop)(M:∀ k,N k->k<w.heap.size/\¬ cd V W st k):an P V { W with nw:=λk=>W.nw k\/N k } st a w:=by
 have y:cB V W { W with nw:=λk=>W.nw k\/N k } st st w w:=⟨λr=>⟨B6 _,λ_=>rfl⟩,λb J=>⟨J,rfl⟩,λ_ h=>.inl h,λ_ _=>rfl,λ_ _ _ l I H _=>⟨⟨l,I,H⟩,rfl,λ_ _=>rfl⟩⟩
 exact {
  nt:=h.nt,df:=h.df,slots:=h.slots,boxes:=h.boxes,len:=h.len,one:=h.one
  leaf:=λr j l v I H=>(h.leaf r j l v I H).carry R.ro y (λ_=>⟨rfl,λ_ _=>rfl⟩)
  ownb:=λr j l I H k u=>⟨λz=>z.elim (h.ownb r j l I H k u).1 (λz=>(M k z).2 (.inr (.inr (.inr ⟨r,j,l,I,H,u⟩)))),(h.ownb r j l I H k u).2⟩
  sep:=h.sep
  box:=λb J=>⟨λz=>z.elim (h.box b J).1 (λz=>(M _ z).2 (.inr (.inr (.inl ⟨b,J,rfl⟩)))),(h.box b J).2⟩
  inj:=h.inj
  nwlt:=λk u=>u.elim (h.nwlt k) (λu=>⟨(M k u).1,λO=>(M k u).2 (.inr (.inl O))⟩)
  os:=h.os,tape:=h.tape,output:=h.output,size:=h.size,keep:=h.keep,fixb:=h.fixb,fixt:=h.fixt }
end
def eR:List Leaf->List Leaf->List (Nat×Nat)
 |.al r j _::u,l::y=>(match l with|.own _ _ _ _ _=>[(r,j)]|_=>[])++eR u y
 |_::u,_::y=>eR u y
 |_,_=>[]
section
variable {P:Program} {V:Env} {st st':St} {w w':World} {a:Act}
theorem nu {x l:Leaf}{xs ls:List Leaf}(h:¬ am l):eR (x::xs) (l::ls)=eR xs ls:=by
 cases x <;> try rfl
 cases l <;> first|exact absurd trivial h|rfl
theorem vj {k:IntKind}{ls:List Leaf}{x:Bool×(Ty.int k).den×List Leaf}(h:bc st (.int k) ls=some x):∃ l,ls=l::x.2.2:=by
 simp only[bc]at h;split at h
 ·split at h
  ·simp only[BK]at h;subst h;exact⟨_,rfl⟩
  ·cases h
 ·cases h
theorem tF {ls:List Leaf}{x:Bool×Ty.bool.den×List Leaf}(h:bc st .bool ls=some x):∃ l,ls=l::x.2.2:=by
 simp only[bc]at h;split at h
 ·simp only[BK]at h;subst h;exact⟨_,rfl⟩
 ·cases h
theorem vk {ls:List Leaf}{x:Bool×Ty.str.den×List Leaf}(h:bc st .str ls=some x):∃ l,ls=l::x.2.2:=by
 simp only[bc]at h;split at h
 ·simp only[BK]at h;subst h;exact⟨_,rfl⟩
 ·cases h
theorem vm {ls:List Leaf}{x:Bool×Ty.hdr.den×List Leaf}(h:bc st .hdr ls=some x):∃ l,ls=l::x.2.2:=by
 simp only[bc]at h;split at h
 ·split at h
  ·simp only[BK]at h;subst h;exact⟨_,rfl⟩
  ·cases h
 ·cases h
theorem lm {p:Bool}:∀ (b:Ty) (ls:List Leaf) (t:cI b.den),take st b ls=some t->∀ (y:b.den) (r:List Leaf),eR ls (ap p b y++r)=t.kill++eR t.rest r
 |.pair b c,ls,t,h,y,r=>by
  simp only[take]at h;split at h
  ·rename_i u M;split at h
   ·rename_i v I;simp only[BK]at h;subst h;simp only[ap];rw[B3,lm b ls u M y.1,lm c u.rest v I y.2,B3]
   ·cases h
  ·cases h
 |.unit,ls,t,h,y,r=>by
  simp only[take,BK]at h;subst h;rfl
 |.list m E e,ls,t,h,y,r=>by
  cases ls with
  |nil=>simp[take]at h
  |cons l ls =>
   cases m with
   |false =>
    simp only[take,cond_false]at h;split at h
    ·simp only[BK]at h;subst h;exact nu id
    ·cases h
   |true =>
    simp only[take,cond_true]at h;split at h
    ·split at h
     ·simp only[BL]at h;obtain⟨O,_,rfl⟩:=h;rfl
     ·cases h
    ·simp only[BK]at h;subst h;rfl
    ·cases h
 |.int k,ls,t,h,y,r=>scal (b:=.int k) h vj (l':=.int k y) id
 |.bool,ls,t,h,y,r=>scal (b:=.bool) h tF (l':=.bool y) id
 |.str,ls,t,h,y,r=>scal (b:=.str) h vk (l':=.str y) id
 |.hdr,ls,t,h,y,r=>scal (b:=.hdr) h vm (l':=.hdr y) id
where
 scal {b:Ty} {ls:List Leaf} {t:cI b.den} {l':Leaf} {r:List Leaf} (h:(bc st b ls).map (λx=>(⟨false,x.2.1,[],[],x.2.2⟩:cI b.den))=some t)
   (H:∀ {ls:List Leaf} {x:Bool×b.den×List Leaf},bc st b ls=some x->∃ l,ls=l::x.2.2) (J:¬ am l'):eR ls ([l']++r)=t.kill++eR t.rest r:=by
  simp only[BL]at h;obtain⟨x,z,rfl⟩:=h;obtain⟨l,rfl⟩:=H z;exact nu J
theorem zt {W W':Wit}{bs:List Nat}{l:Leaf}{v:Value}(y:am l)(u:W'.nw=W.nw)(h:aK P V W st w bs l v):aK P V W' st' w bs l v:=by
 cases l <;> simp only[am]at y;exact OwH.carry h (λk r=>by
  rcases r with r|r
  ·exact .inl (by rw[u];exact r)
  ·exact .inr r) (λ_ _=>rfl) (λ_ _=>rfl)
theorem wA {S:St}{x l:Leaf}{xs ls:List Leaf}(h:¬ am l):ac (b6 S (x::xs) (l::ls)) S=ac (b6 S xs ls) S:=by
 cases x <;> try rfl
 cases l <;> first|exact absurd trivial h|rfl
theorem jZ {x:Nat×Nat}{l:List (Nat×Nat)}(h:a7 (x::l)=true):x∉l/\a7 l=true:=by
 simp only[a7,BM,CB,CI]at h;exact⟨λr=>by have:=h.1 x r;simp at this,h.2⟩
theorem zU (hV:ay V){W:Wit}{S:St}(h:an P V W S a w):∀ (xl ls:List Leaf) (cs:List Value) (O:Nat->List Nat),a7 (eR xl ls)=true->(∀ x∈eR xl ls,x.1≠EPO)->xl.length=cs.length->ls.length=cs.length ->
  (∀ (i r j n:Nat) (l:Leaf) (u:Value),xl[i]?=some (.al r j n)->ls[i]?=some l->am l->cs[i]?=some u->(W.cs r)[j]?=some u) ->
  (∀ x∈eR xl ls,∀ l,(S x.1).ls[x.2]?=some l->¬ am l) ->
  (∀ (i:Nat) (l:Leaf) (u:Value),ls[i]?=some l->cs[i]?=some u->aK P V W S w (O i) l u) ->
  (∀ (i:Nat) (l:Leaf),ls[i]?=some l->am l->∀ k∈O i,¬ cd V W S k) ->
  (∀ (i i':Nat) (l l':Leaf),ls[i]?=some l->am l->ls[i']?=some l'->am l'->∀ k,k∈O i->k∈O i'->i=i') ->
  ∃ W',an P V W' (ac (b6 S xl ls) S) a w/\W'.cs=W.cs/\W'.β=W.β/\W'.nw=W.nw/\(∀ q,(ac (b6 S xl ls) S q).sh=(S q).sh/\(S q).ver<=(ac (b6 S xl ls) S q).ver) /\
   (∀ (q i:Nat),(q,i)∉eR xl ls->(ac (b6 S xl ls) S q).ls[i]?=(S q).ls[i]?/\W'.bs q i=W.bs q i) /\
   (∀ k,cd V W' (ac (b6 S xl ls) S) k->cd V W S k\/∃ i l,ls[i]?=some l/\am l/\k∈O i)
 |[],ls,cs,O,_,_,hx,hl,_,_,_,_,_=>⟨W,h,rfl,rfl,rfl,λ_=>⟨rfl,B6 _⟩,λ_ _ _=>⟨rfl,rfl⟩,λk R=>.inl R⟩
 |x::X,[],cs,O,_,_,hx,hl,_,_,_,_,_=>by simp at hx hl;omega
 |x::X,l::ls,[],O,_,_,hx,hl,_,_,_,_,_=>by simp at hx
 |x::X,l::ls,u::cs,O,hd,b5,hx,hl,b4,bb,a4,a2,ad=>by
  have b2:a7 (eR X ls)=true:=by
   cases x with
   |al r j n =>
    cases l with
    |own p hh E e ys=>exact (jZ hd).2
    |_=>exact hd
   |_=>exact hd
  have b0:∀ z∈eR X ls,z∈eR (x::X) (l::ls):=by
   intro z hz;cases x with
   |al r j n=>exact BO _ hz
   |_=>exact hz
  obtain⟨W1,h1,e1,e2,e3,e4,e5,e6⟩:=zU hV h X ls cs (λi=>O (i+1)) b2 (λz hz=>b5 z (b0 z hz)) (by simpa using hx) (by simpa using hl)
   (λi r j n l' u' J I M g4=>b4 (i+1) r j n l' u' (by simpa using J) (by simpa using I) M (by simpa using g4))
   (λz hz=>bb z (b0 z hz)) (λi l' u' J I=>a4 (i+1) l' u' (by simpa using J) (by simpa using I))
   (λi l' J I=>a2 (i+1) l' (by simpa using J) I)
   (λi i' l1 l2 J I M g4 k g5 g6=>by have:=ad (i+1) (i'+1) l1 l2 (by simpa using J) I (by simpa using M) g4 k g5 g6;omega)
  by_cases hs:¬ am l\/(∀ r j n,x≠.al r j n)
  ·have a9:ac (b6 S (x::X) (l::ls)) S=ac (b6 S X ls) S/\eR (x::X) (l::ls)=eR X ls:=by
    rcases hs with hs|hs
    ·exact⟨wA hs,nu hs⟩
    ·cases x with
     |al r j n=>exact absurd rfl (hs r j n)
     |_=>exact⟨rfl,rfl⟩
   rw[a9.1,a9.2];exact⟨W1,h1,e1,e2,e3,e4,e5,λk R=>(e6 k R).imp id λ⟨i,l',J,I,M⟩=>⟨i+1,l',by simpa using J,I,M⟩⟩
  ·simp only[not_or,Classical.not_not]at hs;obtain⟨bn,bl⟩:=hs;obtain⟨r,j,n,rfl⟩:∃ r j n,x=.al r j n:=by
    cases x with
    |al r j n=>exact⟨r,j,n,rfl⟩
    |_=>exact absurd (λ_ _ _ h=>by cases h) bl
   obtain⟨p,hh,E,e,ys,rfl⟩:∃ p hh E e ys,l=.own p hh E e ys:=by
    cases l <;> simp only[am]at bn;exact⟨_,_,_,_,_,rfl⟩
   have b3:eR (.al r j n::X) (.own p hh E e ys::ls)=(r,j)::eR X ls:=rfl;rw[b3]at hd bb;obtain⟨c0,c1⟩:=jZ hd;have hv:=b4 0 r j n _ u rfl rfl trivial rfl;have a9:ac (b6 S (.al r j n::X) (.own p hh E e ys::ls)) S=ac [(r,⟨(ac (b6 S X ls) S r).ver,(ac (b6 S X ls) S r).sh,aT (ac (b6 S X ls) S r).ls j (.own p hh E e ys)⟩),(EPO,bU (ac (b6 S X ls) S EPO))] (ac (b6 S X ls) S):=bD [_,_] _ _;have a6:aK P V W1 (ac (b6 S X ls) S) w (O 0) (.own p hh E e ys) u:=zt trivial e3 (a4 0 _ u rfl rfl);have Y:∀ k∈O 0,¬ cd V W1 (ac (b6 S X ls) S) k:=λk R hu=>by
    rcases e6 k hu with hu|⟨i,l',J,I,M⟩
    ·exact a2 0 _ rfl trivial k R hu
    ·have:=ad 0 (i+1) _ l' rfl trivial (by simpa using J) I k R M;omega
   have H:∀ (i:Nat) (l':Leaf),i≠j->(aT (ac (b6 S X ls) S r).ls j (.own p hh E e ys))[i]?=some l'->(ac (b6 S X ls) S r).ls[i]?=some l':=by
    intro i l' a5 a0;rcases aS _ _ _ _ _ a0 with ⟨rfl,_,_⟩|⟨_,a0⟩
    ·exact absurd rfl a5
    ·exact a0
   have b9:∀ (l':Leaf),(aT (ac (b6 S X ls) S r).ls j (.own p hh E e ys))[j]?=some l'->l'=.own p hh E e ys:=by
    intro l' a0;rcases aS _ _ _ _ _ a0 with ⟨_,rfl,_⟩|⟨a5,_⟩
    ·rfl
    ·exact absurd rfl a5
   have bx:r≠EPO:=b5 (r,j) (by rw[b3];exact B9 ..);obtain⟨h2,a3,ba⟩:=h1.reownE hV r ⟨(ac (b6 S X ls) S r).ver,(ac (b6 S X ls) S r).sh,aT (ac (b6 S X ls) S r).ls j (.own p hh E e ys)⟩ (λi=>if i=j then O 0 else W1.bs r i) bx (B6 _) rfl (by simp[aT])
    (λi l' v' J I=>by
     by_cases y:i=j
     ·subst y;obtain rfl:=b9 l' J;rw[e1,hv]at I;simp only[BK]at I;subst I;simp only[if_true];exact a6
     ·simp only[if_neg y];exact h1.leaf r i l' v' (H i l' y J) I)
    (λi l' J I k R=>by
     by_cases y:i=j
     ·subst y;simp only[if_true]at R;have hu:=Y k R;simp only[cd,not_or,not_exists,not_and]at hu;exact⟨hu.1,hu.2.1,hu.2.2.1,λr1 j1 l1 _ M g4 g5=>hu.2.2.2 r1 j1 l1 M g4 g5⟩
     ·simp only[if_neg y]at R;have a0:=H i l' y J;have h9:=h1.ownb r i l' a0 I k R;exact⟨h9.1,h9.2.1,h9.2.2,λr1 j1 l1 a5 M g4 g5=>a5 (h1.sep r i l' r1 j1 l1 a0 I M g4 k R g5).1.symm⟩)
    (λi i' l1 l2 J I M g4 k R a1=>by
     by_cases y:i=j <;> by_cases Z:i'=j
     ·omega
     ·subst y;simp only[if_true]at R;simp only[if_neg Z]at a1;exact absurd (.inr (.inr (.inr ⟨r,i',l2,H i' l2 Z M,g4,a1⟩))) (Y k R)
     ·subst Z;simp only[if_true]at a1;simp only[if_neg y]at R;exact absurd (.inr (.inr (.inr ⟨r,i,l1,H i l1 y J,I,R⟩))) (Y k a1)
     ·simp only[if_neg y]at R;simp only[if_neg Z]at a1;exact (h1.sep r i l1 r i' l2 (H i l1 y J) I (H i' l2 Z M) g4 k R a1).2)
   rw[a9];refine⟨_,h2,e1,e2,e3,λq=>?_,λq i hq=>?_,λk R=>?_⟩
   ·exact⟨(a3 q).1.trans (e4 q).1,CS (e4 q).2 (a3 q).2.1⟩
   ·rw[b3]at hq;simp only[Cc,not_or]at hq;by_cases b1:q=r
    ·subst b1;rw[ba];have y:j≠i:=λe0=>hq.1 (by rw[e0])
     simp only[aT];rw[CZ y];refine⟨(e5 q i hq.2).1,?_⟩;simp only[if_true,if_neg (Ca y)];exact (e5 q i hq.2).2
    ·rw[(a3 q).2.2 b1];refine⟨(e5 q i hq.2).1,?_⟩;show (if q=r then _ else W1.bs q i)=_;rw[if_neg b1];exact (e5 q i hq.2).2
   ·rcases R with R|R|⟨b,hb,R⟩|⟨q,i,l',J,I,M⟩
    ·exact .inl (.inl (by rw[<- e3];exact R))
    ·exact .inl (.inr (.inl R))
    ·refine (e6 k (.inr (.inr (.inl ⟨b,?_,R⟩)))).imp id λ⟨i,l',J,I,M⟩=>⟨i+1,l',by simpa using J,I,M⟩
     exact (iE (λq=>(a3 q).1) b).1 hb
    ·by_cases hq:q=r
     ·subst hq;rw[ba]at J;simp only[if_true]at M;by_cases y:i=j
      ·subst y;simp only[if_true]at M;exact .inr ⟨0,_,rfl,trivial,M⟩
      ·simp only[if_neg y]at M;exact (e6 k (.inr (.inr (.inr ⟨q,i,l',H i l' y J,I,M⟩)))).imp id λ⟨i,l',J,I,M⟩=>⟨i+1,l',by simpa using J,I,M⟩
     ·rw[(a3 q).2.2 hq]at J;simp only[if_neg hq]at M;exact (e6 k (.inr (.inr (.inr ⟨q,i,l',J,I,M⟩)))).imp id λ⟨i,l',J,I,M⟩=>⟨i+1,l',by simpa using J,I,M⟩
end
def PK.isIop:PK->Bool
 |.iop _=>true
 |_=>false
section
variable {P:Program} {V:Env} {Γ:List Ctr} {st st':St} {w w':World} {a:Act}
theorem kY:∀ {a b:List (Nat×Nat)},a7 (a++b)=true->a7 a=true/\a7 b=true/\∀ x∈a,x∉b
 |[],b,h=>⟨rfl,h,by simp⟩
 |x::a,b,h=>by
  obtain⟨z,O⟩:=jZ h;obtain⟨J,M,R⟩:=kY O;refine⟨?_,M,λy r u=>?_⟩
  ·simp only[a7,BM,CB,CI];refine⟨λy r H=>z (BS _ ?_),J⟩;obtain⟨X,I⟩:x.1=y.1/\x.2=y.2:=by simpa using H
   rw[show x=y from Dp X I];exact r
  ·rcases Cc.1 r with rfl|r
   ·exact z (BO _ u)
   ·exact R y r u
theorem ko {p:Bool}:∀ (b:Ty) (ls:List Leaf) (t:cI b.den),take st b ls=some t->∀ (y:b.den) (i r j n:Nat) (l:Leaf),ls[i]?=some (.al r j n)->(ap p b y)[i]?=some l->am l->(st r).ver=n
 |.pair b c,ls,t,h,y,i,r,j,n,l,I,z,J=>by
  simp only[take]at h;split at h
  ·rename_i u M;split at h
   ·rename_i v O;simp only[ap]at z;have Z:=cG p b y.1;by_cases hi:i<b.cells
    ·rw[BR (by omega)]at z;exact ko b ls u M y.1 i r j n l I z J
    ·rw[BQ (by omega),Z]at z;have X:=take_rest b ls u M;refine ko c u.rest v O y.2 (i-b.cells) r j n l ?_ z J;rw[X,Cd,show b.cells+(i-b.cells)=i by omega];exact I
   ·cases h
  ·cases h
 |.list m E e,ls,t,h,y,i,r,j,n,l,I,z,J=>by
  cases m with
  |false =>
   cases i with
   |zero=>simp[ap]at z;subst z;exact J.elim
   |succ i=>simp[ap]at z
  |true =>
   cases i with
   |succ i=>simp[ap]at z
   |zero =>
    cases ls with
    |nil=>simp at I
    |cons l' ls =>
     simp only[Ce,BK]at I;subst I;simp only[take,cond_true]at h;split at h
     ·rename_i Y;exact (fj Y (by simp)).1
     ·cases h
 |.int k,ls,t,h,y,i,r,j,n,l,I,z,J=>by
  cases i with
  |zero=>simp[ap]at z;subst z;exact J.elim
  |succ i=>simp[ap]at z
 |.bool,ls,t,h,y,i,r,j,n,l,I,z,J=>by
  cases i with
  |zero=>simp[ap]at z;subst z;exact J.elim
  |succ i=>simp[ap]at z
 |.str,ls,t,h,y,i,r,j,n,l,I,z,J=>by
  cases i with
  |zero=>simp[ap]at z;subst z;exact J.elim
  |succ i=>simp[ap]at z
 |.hdr,ls,t,h,y,i,r,j,n,l,I,z,J=>by
  cases i with
  |zero=>simp[ap]at z;subst z;exact J.elim
  |succ i=>simp[ap]at z
 |.unit,ls,t,h,y,i,r,j,n,l,I,z,J=>by simp[ap]at z
where
 take_rest:∀ (b:Ty) (ls:List Leaf) (t:cI b.den),take st b ls=some t->t.rest=ls.drop b.cells
  |.pair b c,ls,t,h=>by
   simp only[take]at h;split at h
   ·rename_i u M;split at h
    ·rename_i v O;simp only[BK]at h;subst h;show v.rest=_;rw[take_rest c u.rest v O,take_rest b ls u M,List.drop_drop];rfl
    ·cases h
   ·cases h
  |.unit,ls,t,h=>by
   simp only[take,BK]at h;subst h;rfl
  |.list m E e,ls,t,h=>by
   cases ls with
   |nil=>simp[take]at h
   |cons l ls =>
    cases m with
    |false =>
     simp only[take,cond_false]at h;split at h
     ·simp only[BK]at h;subst h;rfl
     ·cases h
    |true =>
     simp only[take,cond_true]at h;split at h
     ·split at h
      ·simp only[BL]at h;obtain⟨xs,_,rfl⟩:=h;rfl
      ·cases h
     ·simp only[BK]at h;subst h;rfl
     ·cases h
  |.int k,ls,t,h=>sc (b:=.int k) h vj rfl
  |.bool,ls,t,h=>sc (b:=.bool) h tF rfl
  |.str,ls,t,h=>sc (b:=.str) h vk rfl
  |.hdr,ls,t,h=>sc (b:=.hdr) h vm rfl
 sc {b:Ty} {ls:List Leaf} {t:cI b.den} (h:(bc st b ls).map (λx=>(⟨false,x.2.1,[],[],x.2.2⟩:cI b.den))=some t)
   (H:∀ {ls:List Leaf} {x:Bool×b.den×List Leaf},bc st b ls=some x->∃ l,ls=l::x.2.2) (I:b.cells=1):t.rest=ls.drop b.cells:=by
  simp only[BL]at h;obtain⟨x,R,rfl⟩:=h;obtain⟨l,rfl⟩:=H R;rw[I];rfl
theorem wB {agg:Bool}{v:Value}{y z:List Value}(u:db agg v y)(r:db agg v z):y=z:=by
 unfold db at u r;cases agg with
 |true =>
  simp only[if_true]at u r;rw[u]at r;simpa using r
 |false =>
  simp only[Bool.false_eq_true,if_false]at u r;rw[u,r]
theorem qL (hV:ay V){W0 W:Wit}{S0 S:St}{w0:World}{G:Nat->Prop}{p:Bool}(a3:W.cs=W0.cs)(hG:∀ k,G k->gd V W p k)(h:an P V W S a w) :
  ∀ (ps:List PK) (xs:List (aI×List Leaf)) (vs:List Value) (g:Got (ab ps)) (o:ah ps) (y:List (List Nat)),gX P V W0 S0 w0 xs vs->bd (ca Γ S0) ps xs=some g->ps.any PK.isIop=false ->
  bL w G ps o vs y->a7 g.kill=true->(∀ x∈g.kill,x.1≠EPO)->(∀ x∈g.kill,∀ l,(S x.1).ls[x.2]?=some l->¬ am l)->(∀ k∈y.flatten,¬ cd V W S k)->y.flatten.Nodup ->
  ∃ W',an P V W' (ac (aG S p ps xs o) S) a w/\W'.cs=W.cs/\W'.β=W.β/\W'.nw=W.nw/\(∀ q,(ac (aG S p ps xs o) S q).sh=(S q).sh/\(S q).ver<=(ac (aG S p ps xs o) S q).ver) /\
   (∀ q i,(q,i)∉g.kill->(ac (aG S p ps xs o) S q).ls[i]?=(S q).ls[i]?/\W'.bs q i=W.bs q i)/\(∀ k,cd V W' (ac (aG S p ps xs o) S) k->cd V W S k\/k∈y.flatten)
 |[],xs,vs,g,o,y,_,_,_,_,_,_,_,_,_=>⟨W,h,rfl,rfl,rfl,λ_=>⟨rfl,B6 _⟩,λ_ _ _=>⟨rfl,rfl⟩,λk R=>.inl R⟩
 |pk::ps,[],vs,g,o,y,_,hg,_,_,_,_,_,_,_=>by simp[bd]at hg
 |pk::ps,x::xs,vs,g,o,y,hx,hg,hp,ho,hd,a4,a5,O,a0=>by
  obtain⟨v,a6,cs,rfl,hs,hl,a1⟩:=hx;simp only[bd]at hg;split at hg
  ·rename_i g1 a2;split at hg
   ·rename_i g2 b1;simp only[BK]at hg;subst hg;simp only[Ck,DE]at hp;obtain⟨ba,b3,b9⟩:=kY hd;have I:∀ (o':ah ps) (b:List Nat) (M:List (List Nat)),y=b::M->b=[]->bL w G ps o' a6 M->aG S p (pk::ps) (x::xs) o=aG S p ps xs o' ->
      ∃ W',an P V W' (ac (aG S p (pk::ps) (x::xs) o) S) a w/\W'.cs=W.cs/\W'.β=W.β/\W'.nw=W.nw/\(∀ q,(ac (aG S p (pk::ps) (x::xs) o) S q).sh=(S q).sh/\(S q).ver<=(ac (aG S p (pk::ps) (x::xs) o) S q).ver) /\
       (∀ q i,(q,i)∉g1.kill++g2.kill->(ac (aG S p (pk::ps) (x::xs) o) S q).ls[i]?=(S q).ls[i]?/\W'.bs q i=W.bs q i)/\(∀ k,cd V W' (ac (aG S p (pk::ps) (x::xs) o) S) k->cd V W S k\/k∈y.flatten):=by
     intro o' b M e1 e2 bl e3;subst e1;subst e2;rw[e3];obtain⟨W1,f1,f2,f3,f4,f5,f6,f7⟩:=qL hV a3 hG h ps xs a6 g2 o' M a1 b1 hp.2 bl b3 (λz Y=>a4 z (BO _ Y)) (λz Y=>a5 z (BO _ Y)) (λk R=>O k (by simpa using R)) (by simpa using a0);exact⟨W1,f1,f2,f3,f4,f5,λq i hq=>f6 q i (λhm=>hq (BO _ hm)),λk R=>(f7 k R).imp id (λhm=>by simpa using hm)⟩
    cases pk with
    |io b =>
     match y,ho with
     |Z::M,⟨H,J⟩ =>
      simp only[CA]at a0 O;rw[CR]at a0;obtain⟨W1,f1,f2,f3,f4,f5,f6,f7⟩:=qL hV a3 hG h ps xs a6 g2 o.2 M a1 b1 hp.2 J b3 (λz Y=>a4 z (BO _ Y)) (λz Y=>a5 z (BO _ Y)) (λk R=>O k (BO _ R)) a0.2.1;simp only[ca,bg]at a2;cases hb:decide (x.1=bi b.isAgg) with
      |false=>simp[hb]at a2
      |true =>
       rw[hb]at a2;simp only[cond_true,BL]at a2;obtain⟨t,ht,rfl⟩:=a2;rw[of_decide_eq_true hb]at hs;unfold jD at H;rw[if_neg (by simp)]at H;obtain⟨ad,b5,hm⟩:=H;have:=wB b5 (gA hs);subst this;obtain⟨b4,m1,m2,m3,m4⟩:=iO (P:=P) (V:=V) (W:=W1) (st:=ac (aG S p ps xs o.2) S) (p:=p) (λk R=>by
        rcases hG k R with R|R
        ·exact .inl (by rw[f4];exact R)
        ·exact .inr R) hm a0.1
       unfold ch at ht;split at ht
       ·rename_i p0 x0 f0 k0 a9;simp only[BK]at ht;subst ht;have X:=lm (p:=p) b x.2 _ a9 o.1 [];simp only[CD]at X;have X:eR x.2 (ap p b o.1)=k0:=by
         rw[X];show k0++eR [] []=k0;simp[eR]
        obtain⟨W2,q1,q2,q3,q4,q5,q6,q7⟩:=zU hV f1 x.2 (ap p b o.1) ad b4 (by rw[X];exact ba) (λz Y=>a4 z (BS _ (by rw[X]at Y;exact Y))) hl.length m1
         (λi r j n l u g3 g4 g5 g6=>by
          have h5:=(hl.at_ i _ u g3 g6).1;rw[f2,a3];exact h5.2 (ko b x.2 _ a9 o.1 i r j n l g3 g4 g5))
         (λz Y l b2=>by
          rw[X]at Y;rw[(f6 z.1 z.2 (b9 z Y)).1]at b2;exact a5 z (BS _ Y) l b2)
         m2
         (λi l g3 g4 k R hu=>by
          have b0:=m3 i l g3 g4 k R;rcases f7 k hu with hu|hu
          ·exact O k (BS _ b0) hu
          ·exact a0.2.2 k b0 k hu rfl) m4
        have bb:ac (aG S p (.io b::ps) (x::xs) o) S=ac (b6 (ac (aG S p ps xs o.2) S) x.2 (ap p b o.1)) (ac (aG S p ps xs o.2) S):=bD _ _ _;rw[bb];rw[X]at q6;refine⟨W2,q1,q2.trans f2,q3.trans f3,q4.trans f4,λq=>⟨(q5 q).1.trans (f5 q).1,CS (f5 q).2 (q5 q).2⟩,λq i hq=>?_,λk R=>?_⟩
        ·simp only[BV,not_or]at hq;exact⟨(q6 q i hq.1).1.trans (f6 q i hq.2).1,(q6 q i hq.1).2.trans (f6 q i hq.2).2⟩
        ·rcases q7 k R with R|⟨i,l,g3,g4,g5⟩
         ·exact (f7 k R).imp id (λhm=>BO _ hm)
         ·exact .inr (BS _ (m3 i l g3 g4 k g5))
       ·cases ht
    |iop b=>simp[PK.isIop]at hp
    |rd b =>
     match y,ho with
     |Z::M,⟨H,J⟩=>exact I o Z M rfl H J rfl
    |own b =>
     match y,ho with
     |Z::M,⟨H,J⟩=>exact I o Z M rfl H J rfl
    |rref b =>
     match y,ho with
     |Z::M,⟨H,J⟩=>exact I o Z M rfl H J rfl
    |rref2 b =>
     match y,ho with
     |Z::M,⟨H,J⟩=>exact I o Z M rfl H J rfl
    |fn As B =>
     match y,ho with
     |Z::M,⟨H,J⟩=>exact I o Z M rfl H J rfl
    |clo f ad =>
     match y,ho with
     |Z::M,⟨H,J⟩=>exact I o Z M rfl H J rfl
    |hol b cc off =>
     match y,ho with
     |Z::M,⟨H,J⟩=>exact I o Z M rfl H J rfl
   ·cases hg
  ·cases hg
end
section
variable {P:Program} {V:Env} {W:Wit} {st:St} {w:World} {a:Act}
theorem ox {G ro:Nat->Prop}{p q:Bool}{ks:List (Nat×Nat×Nat)}{ep:Nat}(hG:∀ k,G k->gd V W p k)(d n:Nat) :
  ∀ (O:List RK) (y:ai O) (us:List Value) (a0:List (List Nat)),
  (O.any RK.isBv=true->(∀ k,G k\/ro k->gd V W q k\/∃ x∈ks,k∈W.bs x.1 x.2.1)/\ep<=(st EPO).ver/\(∀ k∈ks,k.2.2<=(st k.1).ver))->gz w G ro O y us a0->O.all RK.isV=true->a0.flatten.Nodup ->
  (bF d n p q ks ep O y).2=[]/\∃ (cs:List Value) (a1:Nat->List Nat),pw ((bF d n p q ks ep O y).1.map λx=>(x.1,x.2.length)) us cs/\(((bF d n p q ks ep O y).1.map (·.2)).flatten).length=cs.length/\(∀ u∈cs,u.oneCell'=true) /\
   (∀ (j:Nat) (l:Leaf) (u:Value),(((bF d n p q ks ep O y).1.map (·.2)).flatten)[j]?=some l->cs[j]?=some u->aK P V W st w (a1 j) l u) /\
   (∀ (j:Nat) (l:Leaf),(((bF d n p q ks ep O y).1.map (·.2)).flatten)[j]?=some l->am l->∀ k∈a1 j,k∈a0.flatten) /\
   (∀ (j Y:Nat) (l l':Leaf),(((bF d n p q ks ep O y).1.map (·.2)).flatten)[j]?=some l->am l->(((bF d n p q ks ep O y).1.map (·.2)).flatten)[Y]?=some l'->am l'->∀ k,k∈a1 j->k∈a1 Y->j=Y)
 |[],y,us,a0,_,⟨e1,e2⟩,_,_=>by
  subst e1;subst e2;exact⟨rfl,[],λ_=>[],⟨rfl,rfl⟩,rfl,by simp,λj l u h1 h2=>by simp at h2,λj l h1 h2 k J=>by simp at J,λj Y l l' _ _ _ _ k J=>by simp at J⟩
 |r::O,y,us,a0,hB,⟨u0,a9,b,a6,e1,e2,hr,a4⟩,hv,Z=>by
  subst e1;subst e2;simp only[DI,BM]at hv;rw[CA,CR]at Z;obtain⟨f0,a5,d2,f1,f2,b9,f3,f4,f5⟩:=ox (ks:=ks) (q:=q) (ep:=ep) hG d n O y.2 a9 a6 (λhb=>hB (by simp[hb])) a4 hv.2 Z.2.1;obtain⟨agg,L,I,d1,g0,b2,g1,g2,b1,g3,g4,g5⟩:∃ (agg:Bool) (L:List Leaf) (I:List Value) (d1:Nat->List Nat),(pq d n p q ks ep r y.1).1=(agg,L)/\(pq d n p q ks ep r y.1).2=[]/\db agg u0 I/\L.length=I.length/\(∀ u∈I,u.oneCell'=true) /\
    (∀ (j:Nat) (l:Leaf) (u:Value),L[j]?=some l->I[j]?=some u->aK P V W st w (d1 j) l u)/\(∀ (j:Nat) (l:Leaf),L[j]?=some l->am l->∀ k∈d1 j,k∈b) /\
    (∀ (j Y:Nat) (l l':Leaf),L[j]?=some l->am l->L[Y]?=some l'->am l'->∀ k,k∈d1 j->k∈d1 Y->j=Y):=by
   cases r with
   |v c =>
    obtain⟨I,h1,h2⟩:=hr;obtain⟨d1,m1,m2,m3,m4⟩:=iO (P:=P) (V:=V) (W:=W) (st:=st) (p:=p) hG h2 Z.1;exact⟨c.isAgg,_,I,d1,rfl,rfl,h1,m1,h2.one,m2,m3,m4⟩
   |bv c =>
    obtain⟨_,I,h1,h2⟩:=hr;obtain⟨b0,b5,b3⟩:=hB (by simp[RK.isBv]);have h3:=kc (P:=P) (V:=V) (W:=W) (st:=st) (p:=q) b5 b3 (h2.mono b0);exact⟨c.isAgg,_,I,λ_=>[],rfl,rfl,h1,h3.length,h2.one,λj l u g1 g2=>(h3.at_ j l u g1 g2).1,λj l _ _ k J=>by simp at J,λj Y l l' _ _ _ _ k J=>by simp at J⟩
   |box c=>simp[RK.isV]at hv
  have b4:(bF d n p q ks ep (r::O) y).1=(agg,L)::(bF d n p q ks ep O y.2).1:=by simp only[bF,g0]
  have ba:(bF d n p q ks ep (r::O) y).2=[]:=by simp only[bF,b2,f0,CD]
  rw[b4];simp only[Do,CA];have H:∀ (j:Nat) (l:Leaf),(L++((bF d n p q ks ep O y.2).1.map (·.2)).flatten)[j]?=some l->(j<L.length/\L[j]?=some l)\/(L.length<=j/\(((bF d n p q ks ep O y.2).1.map (·.2)).flatten)[j-L.length]?=some l):=by
   intro j l z;by_cases M:j<L.length
   ·rw[BR M]at z;exact .inl ⟨M,z⟩
   ·rw[BQ (by omega)]at z;exact .inr ⟨by omega,z⟩
  refine⟨ba,I++a5,λj=>if j<L.length then d1 j else d2 (j-L.length),⟨u0,a9,I,a5,rfl,rfl,g2.symm,g1,f1⟩,by rw[B4,B4,g2,f2],λu hu=>(BV.1 hu).elim (b1 u) (b9 u),λj l u z hu=>?_,λj l z ho k J=>?_,λj Y l l' z ho X a2 k J R=>?_⟩
  ·rcases H j l z with ⟨M,z⟩|⟨ad,z⟩
   ·rw[BR (by omega)]at hu;simp only[if_pos M];exact g3 j l u z hu
   ·rw[BQ (by omega),<- g2]at hu;simp only[if_neg (show ¬ j<L.length by omega)];exact f3 _ l u z hu
  ·rcases H j l z with ⟨M,z⟩|⟨ad,z⟩
   ·simp only[if_pos M]at J;exact BS _ (g4 j l z ho k J)
   ·simp only[if_neg (show ¬ j<L.length by omega)]at J;exact BO _ (f4 _ l z ho k J)
  ·rcases H j l z with ⟨M,z⟩|⟨ad,z⟩ <;> rcases H Y l' X with ⟨a3,X⟩|⟨bb,X⟩
   ·simp only[if_pos M]at J;simp only[if_pos a3]at R;exact g5 j Y l l' z ho X a2 k J R
   ·simp only[if_pos M]at J;simp only[if_neg (show ¬ Y<L.length by omega)]at R;exact absurd rfl (Z.2.2 k (g4 j l z ho k J) k (f4 _ l' X a2 k R))
   ·simp only[if_neg (show ¬ j<L.length by omega)]at J;simp only[if_pos a3]at R;exact absurd rfl (Z.2.2 k (g4 Y l' X a2 k R) k (f4 _ l z ho k J))
   ·simp only[if_neg (show ¬ j<L.length by omega)]at J;simp only[if_neg (show ¬ Y<L.length by omega)]at R;have:=f5 _ _ l l' z ho X a2 k J R;omega
theorem Bx {l:List (Bool×List Leaf)}{us cs:List Value}{v:Value}(n:Nat)(h:pw (l.map λx=>(x.1,x.2.length)) us cs)(y:sm us v) :
  eh (eU n l).sh v cs/\(eU n l).ls=(l.map (·.2)).flatten/\(eU n l).ver=n:=by
 match l,us,h with
 |[],_,⟨H,z⟩ =>
  subst H;subst z;exact⟨⟨[],y,rfl,rfl⟩,rfl,rfl⟩
 |[(agg,L)],_,⟨u,r,c,R,H,z,h1,X,O,Z⟩ =>
  subst H;subst z;subst O;subst Z;have y:v=u:=y;subst y;refine⟨?_,by simp[eU],rfl⟩;simp only[eU,CD];exact km X
 |x::x'::l,us,h =>
  refine⟨?_,rfl,rfl⟩;have J:∃ u M r,us=u::M::r:=by
   obtain⟨u,r,_,_,H,_,_,_,Y,I,_,_,z,_⟩:=h;exact⟨u,Y,I,by rw[H,z]⟩
  obtain⟨u,M,r,rfl⟩:=J;exact⟨_,y,h⟩
end
section
variable {P:Program} {V:Env} {Γ:List Ctr} {st:St} {w:World} {a:Act}
theorem zu {pk:PK}{x:aI×List Leaf}{g:Got pk.den}(r:ca Γ st pk x=some g)(Y:pk.isIop=false):g.lend=[]:=by
 cases pk with
 |iop b=>simp[PK.isIop]at Y
 |rd b =>
  simp only[ca,bg]at r;cases u:decide (x.1=bi b.isAgg) with
  |false=>simp[u]at r
  |true=>rw[u]at r;simp only[cond_true,BL]at r;obtain⟨y,_,rfl⟩:=r;rfl
 |own b =>
  simp only[ca,bg]at r;cases u:decide (x.1=bi b.isAgg) with
  |false=>simp[u]at r
  |true=>rw[u]at r;simp only[cond_true,BL]at r;obtain⟨y,_,rfl⟩:=r;rfl
 |io b =>
  simp only[ca,bg]at r;cases u:decide (x.1=bi b.isAgg) with
  |false=>simp[u]at r
  |true=>rw[u]at r;simp only[cond_true,BL]at r;obtain⟨y,_,rfl⟩:=r;rfl
 |rref b=>exact cap (c:=(false,b)) r
 |rref2 b=>exact cap (c:=(true,b)) r
 |fn X B =>
  simp only[ca]at r;split at r
  ·unfold kL at r;split at r
   ·unfold sa at r;split at r
    ·rename_i c _ hh;cases u:(c.ps.drop X.length).all PK.reads&&B.flat&&c.fresh with
     |false=>rw[u]at r;cases r
     |true =>
      rw[u]at r;simp only[cond_true]at r;split at r
      ·simp only[BK]at r;subst r;rfl
      ·cases r
    ·cases r
   ·cases r
  ·simp only[bg]at r;split at r
   ·split at r
    ·simp only[BK]at r;subst r;rfl
    ·cases r
   ·cases r
 |hol b Z off =>
  simp only[ca,bg]at r;cases u:decide (x.1=bi b.isAgg) with
  |false=>simp[u]at r
  |true =>
   rw[u]at r;simp only[cond_true]at r;split at r
   ·split at r
    ·rename_i R _ _ _ _;cases z:B8 R off with
     |false=>simp[z]at r
     |true =>
      rw[z]at r;simp only[cond_true]at r;split at r
      ·split at r
       ·simp only[BK]at r;subst r;rfl
       ·cases r
      ·cases r
    ·cases r
   ·cases r
 |clo f I =>
  simp only[ca,bg]at r;split at r
  ·rename_i J H _;cases u:B8 J f with
   |false=>simp[u]at r
   |true=>rw[u]at r;exact caps_ r
  ·rename_i J H _;cases u:B8 J f with
   |false=>simp[u]at r
   |true=>rw[u]at r;exact caps_ r
  ·cases r
where
 cap {c:Bool×Ty} {l:Leaf} {g:Got c.2.den} (r:fu st c l=some g):g.lend=[]:=by
  unfold fu at r;cases M:c.1 with
  |true =>
   rw[M]at r;simp only[cond_true]at r;split at r
   ·split at r
    ·simp only[BL]at r;obtain⟨y,_,rfl⟩:=r;rfl
    ·cases r
   ·cases r
  |false =>
   rw[M]at r;simp only[cond_false]at r;split at r
   ·simp only[BL]at r;obtain⟨y,_,rfl⟩:=r;rfl
   ·cases r
 caps_:∀ {I:List (Bool×Ty)} {O:List Leaf} {g:Got (lV I)},cr st I O=some g->g.lend=[]
  |[],[],g,r=>by simp only[cr,BK]at r;subst r;rfl
  |[],_::_,_,r=>by simp[cr]at r
  |_::_,[],_,r=>by simp[cr]at r
  |c::I,l::O,g,r=>by
   simp only[cr]at r;split at r
   ·split at r
    ·simp only[BK]at r;subst r;rfl
    ·cases r
   ·cases r
theorem tG:∀ (ps:List PK) (xs:List (aI×List Leaf)) (g:Got (ab ps)),bd (ca Γ st) ps xs=some g->g.lend=[]->ps.any PK.isIop=false
 |[],_,_,_,_=>rfl
 |_::_,[],_,u,_=>by simp[bd]at u
 |I::ps,x::xs,g,u,z=>by
  simp only[bd]at u;split at u
  ·rename_i M r;split at u
   ·rename_i J y;simp only[BK]at u;subst u;simp only[List.append_eq_nil_iff]at z;rw[Ck,tG ps xs J y z.2,Bool.or_false];cases I with
    |iop b =>
     simp only[ca,bg]at r;split at r
     ·rename_i q _;cases H:decide ((st q).sh=.agg) with
      |false=>simp[H]at r
      |true =>
       rw[H]at r;simp only[cond_true,BL]at r;obtain⟨t,_,rfl⟩:=r;simp at z
     ·cases r
    |_=>rfl
   ·cases u
  ·cases u
theorem o9 {W0:Wit}{S0 S:St}{w0:World}{a0:Act}(h0:an P V W0 S0 a0 w0){G:Nat->Prop}{p:Bool} :
  ∀ (ps:List PK) (xs:List (aI×List Leaf)) (vs:List Value) (g:Got (ab ps)) (o:ah ps) (r:List (List Nat)),gX P V W0 S0 w0 xs vs->bd (ca Γ S0) ps xs=some g->ps.any PK.isIo=false->bL w G ps o vs r ->
  (g.lend=[]->aG S p ps xs o=[]/\r.flatten=[]) /\
  (∀ b,g.lend=[b]->∃ (c:Ty) (y:c.den) (cs:List Value) (E:TypeId) (b0:List Nat),aG S p ps xs o=[(b,⟨(S b).ver+2,.agg,ap p c y⟩)]/\w.heap[W0.β b]?=some (.cells cs.toArray E (0,0))/\Mx w G c none 0 y cs b0/\r.flatten=W0.β b::b0/\(S0 b).ls.length=c.cells)
 |[],[],vs,g,o,r,hx,M,_,X=>by
  simp only[bd,BK]at M;subst M;refine⟨λ_=>⟨rfl,?_⟩,λb hb=>by simp at hb⟩
  match vs,r,X with
  |[],[],_=>rfl
 |[],_::_,_,_,_,_,_,M,_,_=>by simp[bd]at M
 |_::_,[],_,_,_,_,_,M,_,_=>by simp[bd]at M
 |pk::ps,x::xs,vs,g,o,r,hx,M,hn,X=>by
  obtain⟨v,a1,cs,rfl,hs,hl,R⟩:=hx;simp only[bd]at M;split at M
  ·rename_i g1 J;split at M
   ·rename_i g2 a2;simp only[BK]at M;subst M;simp only[Ck,DE]at hn;have H:∀ (o':ah ps) (b:List Nat) (I:List (List Nat)),pk.isIop=false->r=b::I->b=[]->bL w G ps o' a1 I->aG S p (pk::ps) (x::xs) o=aG S p ps xs o' ->
      (g1.lend++g2.lend=[]->aG S p (pk::ps) (x::xs) o=[]/\r.flatten=[]) /\
      (∀ b,g1.lend++g2.lend=[b]->∃ (c:Ty) (y:c.den) (cs:List Value) (E:TypeId) (b0:List Nat),aG S p (pk::ps) (x::xs) o=[(b,⟨(S b).ver+2,.agg,ap p c y⟩)]/\w.heap[W0.β b]?=some (.cells cs.toArray E (0,0))/\Mx w G c none 0 y cs b0/\r.flatten=W0.β b::b0/\(S0 b).ls.length=c.cells):=by
     intro o' b I hi e1 e2 a5 e3;subst e1;subst e2;rw[e3,zu J hi];simpa using o9 h0 (S:=S) (p:=p) ps xs a1 g2 o' I R a2 hn.2 a5
    cases pk with
    |iop b =>
     match r,X with
     |O::I,⟨u,z⟩ =>
      obtain⟨r1,r2⟩:=o9 h0 (S:=S) (p:=p) ps xs a1 g2 o.2 I R a2 hn.2 z;simp only[ca,bg]at J;split at J
      ·rename_i q hq;cases hb:decide ((S0 q).sh=.agg) with
       |false=>simp[hb]at J
       |true =>
        rw[hb]at J;simp only[cond_true,BL]at J;obtain⟨t,ht,rfl⟩:=J;refine⟨λhb=>by simp at hb,λb' Y=>?_⟩;simp only[C7,Cn]at Y;obtain⟨rfl,Y⟩:=Y;obtain⟨r3,r4⟩:=r1 Y;obtain⟨a6,_⟩:=gT hs hl hq (by simp);unfold jD at u;rw[if_pos rfl]at u;obtain⟨g',a3,E,b0,hv,Z,hm,rfl⟩:=u;have a4:g'=W0.β q:=by
         have h9:=a6.2.2;rw[hv]at h9;simp only[Value.pointer.injEq,BK,Ct,and_true]at h9;exact h9
        subst a4;refine⟨b,o.1,a3,E,b0,?_,Z,hm,by rw[CA,r4,CD],?_⟩
        rotate_left
        ·rw[h0.len];exact (dN (pos:=0) h0 (iC h0 q) ht).1.len
        simp only[aG,r3,hq,CD];rfl
      ·cases J
    |io b=>simp[PK.isIo]at hn
    |rd b =>
     match r,X with
     |O::I,⟨u,z⟩=>exact H o O I rfl rfl u z rfl
    |own b =>
     match r,X with
     |O::I,⟨u,z⟩=>exact H o O I rfl rfl u z rfl
    |rref b =>
     match r,X with
     |O::I,⟨u,z⟩=>exact H o O I rfl rfl u z rfl
    |rref2 b =>
     match r,X with
     |O::I,⟨u,z⟩=>exact H o O I rfl rfl u z rfl
    |fn As B =>
     match r,X with
     |O::I,⟨u,z⟩=>exact H o O I rfl rfl u z rfl
    |clo f a3 =>
     match r,X with
     |O::I,⟨u,z⟩=>exact H o O I rfl rfl u z rfl
    |hol b cc off =>
     match r,X with
     |O::I,⟨u,z⟩=>exact H o O I rfl rfl u z rfl
   ·cases M
  ·cases M
end
section
variable {P:Program} {V:Env}
theorem wC (hV:ay V){W:Wit}{S:St}{a:Act}{w:World}(h:an P V W S a w){M:List RK}{y:ai M}{us:List Value}{X:List (List Nat)}{v:Value}{p q:Bool}{ks:List (Nat×Nat×Nat)}{ep:Nat}{G ro:Nat->Prop}
  (Z:gz w G ro M y us X) (hG:∀ k,G k->gd V W p k)
  (hB:M.any RK.isBv=true->(∀ k,G k\/ro k->gd V W q k\/∃ x∈ks,k∈W.bs x.1 x.2.1)/\ep<=(S EPO).ver/\(∀ k∈ks,k.2.2<=(S k.1).ver))
  (H:∀ k∈X.flatten,¬ cd V W S k) (a4:X.flatten.Nodup) (I:sm us v) {d:Nat} (hd:d<V.nt) (a0:∀ x∈V.fixt,x.1≠d) (r:gG S d M=true) :
  ∃ W1,an P V W1 (ac ((d,eU ((ac (bF d (S (B0+d)).ver p q ks ep M y).2 S d).ver+1) (bF d (S (B0+d)).ver p q ks ep M y).1)::(bF d (S (B0+d)).ver p q ks ep M y).2) S) (a.put (some d) v) w /\
   ∀ z,z≠d->z≠B0+d->W1.cs z=W.cs z:=by
 cases hv:M.all RK.isV with
 |true =>
  obtain⟨m0,cs,a1,m1,m2,m3,m4,m5,m6⟩:=ox (P:=P) (W:=W) (st:=S) (p:=p) (q:=q) (ks:=ks) (ep:=ep) hG d (S (B0+d)).ver M y us X hB Z hv a4;rw[m0];obtain⟨s1,s2,s3⟩:=Bx ((S d).ver+1) m1 I;show ∃ W1,an P V W1 (ac [(d,eU ((S d).ver+1) (bF d (S (B0+d)).ver p q ks ep M y).1)] S) (a.put (some d) v) w/\_;generalize eU ((S d).ver+1) (bF d (S (B0+d)).ver p q ks ep M y).1=rc at s1 s2 s3 ⊢;obtain⟨v0,a9,bb⟩:=rc;simp only at s1 s2 s3;subst s3;subst s2;have a3:=h.put hV d hd a0 ((S d).ver+1) a9 _ v cs a1 (BW _) s1 m2 m3 m4
   (λj l R ho k Y=>by
    have b1:=m5 j l R ho k Y;have J:=H k b1;simp only[cd,not_or,not_exists,not_and]at J;exact⟨J.1,J.2.1,J.2.2.1,λr1 j1 l1 _ h8 h9=>J.2.2.2 r1 j1 l1 h8 h9⟩) m6
  refine⟨_,a3,λz hz _=>?_⟩;show (if z=d then cs else W.cs z)=_;rw[if_neg hz]
 |false =>
  have hb:∃ b,M=[.box b]:=by
   unfold gG at r;split at r
   ·exact⟨_,rfl⟩
   ·rw[hv]at r;cases r
  obtain⟨b,rfl⟩:=hb;obtain⟨u0,bl,rb,ba,e1,e2,⟨g',cs,E,b0,b4,b9,hm,ad⟩,e3,e4⟩:=Z;subst e3;subst e4;subst e1;subst e2;subst ad;have I:v=u0:=I;subst I;subst b4;have a2:(S (B0+d)).sh=.off:=by simpa[gG]using r
  have O:(g'::b0).Nodup:=by simpa using a4
  rw[CV]at O;obtain⟨a1,m1,m2,m3,m4⟩:=iO (P:=P) (V:=V) (W:=W) (st:=S) (p:=p) hG hm O.2;have a5:d≠B0+d:=by simp[B0]
  have a6:=H g' (by simp);have b2:=h.setBoxG hV (B0+d) (Cj _ _) ((S (B0+d)).ver+1) (ap p b y.1) cs a1 g' E (w':=w) (BW _)
   (.inr ⟨by simp[live,a2],a6,λj l R ho k Y e0=>O.1 (by rw[<- e0];exact m3 j l R ho k Y)⟩) b9 (λ_ _ _=>rfl) (λ_ _ _ _ _ _ _=>rfl) (B6 _) rfl rfl rfl m1 hm.one m2
   (λj l R ho k Y=>by
    have J:=H k (by simp;exact .inr (m3 j l R ho k Y));simp only[cd,not_or,not_exists,not_and]at J;exact⟨J.1,J.2.1,J.2.2.1,λr1 j1 l1 _ h8 h9=>J.2.2.2 r1 j1 l1 h8 h9⟩) m4
  have b3:=b2.put hV d hd a0 ((S d).ver+1) .one [.bp (B0+d) 0] (.pointer (some ⟨g',0,none⟩)) [.pointer (some ⟨g',0,none⟩)] (λ_=>[]) (by rw[aJ a5];exact BW _) rfl rfl (λu J=>by simp at J;subst J;rfl)
   (λj l u R g9=>by
    cases j with
    |zero=>simp at R g9;subst R;subst g9;exact⟨Cj _ _,by rw[bm],by simp⟩
    |succ j=>simp at R)
   (λj l R ho k Y=>by simp at Y) (λj j' l l' _ _ _ _ k Y=>by simp at Y)
  have e1:ac (bF d (S (B0+d)).ver p q ks ep [.box b] y).2 S=ac [(B0+d,⟨(S (B0+d)).ver+1,.agg,ap p b y.1⟩)] S:=rfl;rw[aQ,e1,aJ a5];refine⟨_,b3,λz hz b5=>?_⟩;show (if z=d then _ else (if z=B0+d then _ else W.cs z))=_;rw[if_neg hz,if_neg b5]
theorem uI (r:Nat)(c u:bQ)(S:St):ac [(r,c)] (ac [(r,u)] S)=ac [(r,c)] S:=by
 funext q;rcases aj r q c (ac [(r,u)] S) with ⟨rfl,e⟩|⟨h,e⟩
 ·rw[e,bm]
 ·rw[e,aJ h,aJ h]
theorem zv (hV:ay V){W:Wit}{S:St}{a:Act}{w w':World}(h:an P V W S a w){b:Nat}(hb:live S b){N:Nat->Prop}{cs:List Value}{E:TypeId}{c:Ty}{y:c.den}{b0:List Nat}{G:Nat->Prop}{p:Bool}
  (a0:w'.heap[W.β b]?=some (.cells cs.toArray E (0,0))) (hm:Mx w' G c none 0 y cs b0) (a3:(W.β b::b0).Nodup) (a6:(S b).ls.length=c.cells)
  (a2:∀ k,cd V W S k->k≠W.β b->w'.heap[k]?=w.heap[k]?) (b1:w.heap.size<=w'.heap.size) (ad:w'.os=w.os) (ht:w'.tape=w.tape) (ho:w'.output=w.output)
  (hN:∀ k,N k->k<w'.heap.size/\¬ cd V W S k) (Z:∀ k∈b0,¬ cd V W S k/\¬ N k) (hG:∀ k,G k->gd V { W with nw:=λk=>W.nw k\/N k } p k) :
  ∃ W1,an P V W1 (ac [(b,⟨(S b).ver+2,.agg,ap p c y⟩)] S) a w'/\W1.β=W.β/\(∀ k,W1.nw k<->W.nw k\/N k)/\(∀ q,q≠b->W1.cs q=W.cs q)/\(∀ q i,q≠b->W1.bs q i=W.bs q i) /\
   (∀ k,cd V W1 (ac [(b,⟨(S b).ver+2,.agg,ap p c y⟩)] S) k->cd V W S k\/N k\/k∈b0):=by
 have J:∀ (q:Nat),(if q=b then W.β b else W.β q)=W.β q:=λq=>by split <;> simp_all
 have h1:=h.setBoxG hV b hb.1 ((S b).ver+1) (CT cs.length .dead) cs (λ_=>[]) (W.β b) E (w':=w') (BW _) (.inl ⟨hb,rfl⟩) a0 a2 (λ_ _ _ _ k H=>by simp at H) b1 ad ht ho (by simp) hm.one
  (λj l u I R=>by
   rw[Cf]at I;split at I
   ·simp at I;subst I;trivial
   ·cases I)
  (λj l I R k H=>by simp at H) (λj j' l l' _ _ _ _ k H=>by simp at H)
 have a1:∀ (j:Nat) (l:Leaf),(CT cs.length Leaf.dead)[j]?=some l->¬ am l:=by
  intro j l I;rw[Cf]at I;split at I
  ·simp at I;subst I;exact id
  ·cases I
 have a4:∀ z,live (ac [(b,⟨(S b).ver+1,.agg,CT cs.length .dead⟩)] S) z->live S z:=by
  intro z X;rcases aj b z ⟨(S b).ver+1,.agg,CT cs.length .dead⟩ S with ⟨rfl,e⟩|⟨_,e⟩
  ·exact hb
  ·exact⟨X.1,by rw[<- e];exact X.2⟩
 have b2:∀ k,cd V { W with β:=λr=>if r=b then W.β b else W.β r,cs:=λr=>if r=b then cs else W.cs r,bs:=λr j=>if r=b then [] else W.bs r j } (ac [(b,⟨(S b).ver+1,.agg,CT cs.length .dead⟩)] S) k->cd V W S k:=by
  rintro k (H|H|⟨z,X,H⟩|⟨z,i,l,I,R,O⟩)
  ·exact .inl H
  ·exact .inr (.inl H)
  ·exact .inr (.inr (.inl ⟨z,a4 z X,by rw[<- H];exact (J z).symm⟩))
  ·by_cases M:z=b
   ·subst M;rw[bm]at I;exact absurd R (a1 i l I)
   ·rw[aJ M]at I;simp only[if_neg M]at O;exact .inr (.inr (.inr ⟨z,i,l,I,R,O⟩))
 have h2:=h1.nwGrow hV N (λk H=>⟨(hN k H).1,λhu=>(hN k H).2 (b2 k hu)⟩);rw[CV]at a3;obtain⟨Y,m1,m2,m3,m4⟩:=iO (P:=P) (V:=V) (W:={ W with β:=λr=>if r=b then W.β b else W.β r,cs:=λr=>if r=b then cs else W.cs r,bs:=λr j=>if r=b then [] else W.bs r j,nw:=λk=>W.nw k\/N k })
  (st:=ac [(b,⟨(S b).ver+1,.agg,CT cs.length .dead⟩)] S) (p:=p) (λk H=>hG k H) hm a3.2
 have b4:=hm.len;have b3:=cG p c y;have h3:=h2.reown hV b ⟨(S b).ver+2,.agg,ap p c y⟩ Y (by rw[bm];exact BW _) (by rw[bm]) (by rw[bm,C8];omega)
  (λj l v I R=>m2 j l v I (by simpa using R))
  (λj l I R k H=>by
   have a9:=m3 j l I R k H;obtain⟨q1,q2⟩:=Z k a9;refine⟨λhn=>hn.elim (λhn=>q1 (.inl hn)) q2,λhp=>q1 (.inr (.inl hp)),λz X e0=>q1 (.inr (.inr (.inl ⟨z,a4 z X,by rw[<- e0];exact (J z).symm⟩))),λr1 j1 l1 a5 O g4 g5=>?_⟩;rw[aJ a5]at O;have g5:k∈(if r1=b then [] else W.bs r1 j1):=g5;rw[if_neg a5]at g5;exact q1 (.inr (.inr (.inr ⟨r1,j1,l1,O,g4,g5⟩)))) m4
 rw[uI]at h3;refine⟨_,h3,funext λq=>J q,λk=>Cz,λq hq=>if_neg hq,λq i hq=>?_,?_⟩
 ·show (if q=b then Y i else if q=b then [] else W.bs q i)=_;rw[if_neg hq,if_neg hq]
 ·rintro k ((H|H)|H|⟨z,X,H⟩|⟨z,i,l,I,R,O⟩)
  ·exact .inl (.inl H)
  ·exact .inr (.inl H)
  ·exact .inl (.inr (.inl H))
  ·refine .inl (.inr (.inr (.inl ⟨z,?_,by rw[<- H];exact (J z).symm⟩)));rcases aj b z ⟨(S b).ver+2,.agg,ap p c y⟩ S with ⟨rfl,e⟩|⟨_,e⟩
   ·exact hb
   ·exact⟨X.1,by rw[<- e];exact X.2⟩
  ·by_cases M:z=b
   ·subst M;rw[bm]at I;have O:k∈(if z=z then Y i else _):=O;rw[if_pos rfl]at O;exact .inr (.inr (m3 i l I R k O))
   ·rw[aJ M]at I;have O:k∈(if z=b then Y i else if z=b then [] else W.bs z i):=O;rw[if_neg M,if_neg M]at O;exact .inl (.inr (.inr (.inr ⟨z,i,l,I,R,O⟩)))
end
section
variable {P:Program} {V:Env} {Γ:List Ctr} {st:St} {R:Type}
theorem gB:∀ (ps:List PK) (xs:List (aI×List Leaf)) (r:Upd->List (aI×List Leaf)->Option (Bool×Nat×Nat)->Option R),kM st ps xs r=(c5 st ps xs).bind λu=>r u.1 u.2.1 u.2.2
 |[],xs,r=>rfl
 |_::_,[],r=>rfl
 |p::ps,x::xs,r=>by
  simp only[kM,c5];split
  ·rw[hZ];cases cj st (x.2.getD _ .dead) <;> rfl
  ·rw[gB ps xs];cases c5 st ps xs <;> rfl
theorem ln {a:Ty}:∀ {ls:List Leaf} {j k:Nat},lC a j ls=some k->j<=k/\∃ l,ls[k-j]?=some l/\jx l=true
 |[],_,_,h=>by simp[lC]at h
 |l::ls,j,k,h=>by
  simp only[lC]at h;cases r:jx l&&pt a j with
  |true =>
   rw[r]at h;simp only[cond_true,BK]at h;subst h;simp only[BM]at r;exact⟨B6 _,l,by simp,r.1⟩
  |false =>
   rw[r]at h;obtain⟨H,z,y,u⟩:=ln h;exact⟨by omega,z,by rw[show k-j=(k-(j+1))+1 by omega];simpa using y,u⟩
theorem rD {p:PK}{ls:List Leaf}{k:Nat}(h:p.nest ls=some k):∃ l,ls[k]?=some l/\jx l=true:=by
 cases p with
 |own a=>obtain⟨_,l,u,r⟩:=ln h;exact⟨l,by simpa using u,r⟩
 |io a=>obtain⟨_,l,u,r⟩:=ln h;exact⟨l,by simpa using u,r⟩
 |_=>simp[PK.nest]at h
theorem tH (z:ay V){W W':Wit}{st':St}{w w':World}(y:cB V W W' st st' w w'):∀ {xs:List (aI×List Leaf)} {u:List Value},gX P V W st w xs u->gX P V W' st' w' xs u
 |[],_,h=>h
 |_::_,_,⟨v,r,I,e,M,J,H⟩=>⟨v,r,I,e,M,J.carry z.ro y,tH z y H⟩
theorem aD.setLeaf {W:Wit}{w:World}{ls:List Leaf}{cs:List Value}(u:aD P V W st w ls cs){k:Nat}{l:Leaf}(z:¬ am l)(h:∀ v,cs[k]?=some v->aK P V W st w [] l v):aD P V W st w (aT ls k l) cs:=by
 have r:=u.length;refine aD.mk (by simp[aT,r]) λj J v H y=>?_
 rcases aS _ _ _ _ _ H with ⟨rfl,rfl,M⟩|⟨I,H⟩
 ·exact⟨h v y,z,u.one' v (List.mem_of_getElem? y)⟩
 ·exact u.at_ j J v H y
def By (W:Wit)(S:St)(w:World):Option (Bool×Nat×Nat)->Prop
 |some (_,r,j)=>∃ v,W.cs TMP=[v]/\tC W S w r j v
 |none=>True
theorem oy (Z:ay V){W:Wit}{a:Act}{w:World}(h:an P V W st a w):∀ (ps:List PK) (xs:List (aI×List Leaf)) (O:List Value) (U:Upd) (X:List (aI×List Leaf)) (b:Option (Bool×Nat×Nat)),
  gX P V W st w xs O->c5 st ps xs=some (U,X,b)->∃ H,an P V H (ac U st) a w/\gX P V H (ac U st) w X O/\H.nw=W.nw/\H.β=W.β/\By H (ac U st) w b/\cB V W H st (ac U st) w w/\(∀ q,(ac U st q).sh=(st q).sh\/q=TMP) /\
   (∀ f r j,b=some (f,r,j)->f=true->ps.any PK.isIo=true)
 |[],xs,O,U,X,b,hx,y=>by
  simp only[c5,BK,CN]at y;obtain⟨rfl,rfl,rfl⟩:=y;exact⟨W,h,hx,rfl,rfl,trivial,cB.refl V W st w,λ_=>.inl rfl,λ_ _ _ h=>by cases h⟩
 |_::_,[],O,U,X,b,hx,y=>by
  simp only[c5,BK,CN]at y;obtain⟨rfl,rfl,rfl⟩:=y;exact⟨W,h,hx,rfl,rfl,trivial,cB.refl V W st w,λ_=>.inl rfl,λ_ _ _ h=>by cases h⟩
 |p::ps,x::xs,O,U,X,b,⟨v,M,cs,e,hs,hl,z⟩,y=>by
  subst e;simp only[c5]at y;split at y
  ·rename_i k hk;simp only[BL]at y;obtain⟨u,I,y⟩:=y;simp only[CN]at y;obtain⟨rfl,rfl,rfl⟩:=y;obtain⟨l,J,a1⟩:=rD hk;have hg:x.2.getD k .dead=l:=by rw[CP,J];rfl
   rw[hg]at I ⊢;have a0:k<cs.length:=by rw[<- hl.length];exact (BN.1 J).1
   have Y:=B5 a0;obtain⟨U,l'⟩:=u;obtain⟨H,n,p0,E0,e0,a2,g1,g2,g3,g4,_,_,g5,g6,_,g7,g8,g9⟩:=vi Z h (hl.at_ k l _ J Y).1 I;subst g3;refine⟨H,g1,⟨v,M,cs,rfl,hs,(hl.carry Z.ro g2).setLeaf id λu I=>?_,tH Z g2 z⟩,g5,g6,⟨_,g7,g9⟩,g2,g8,λf r j hb hf=>?_⟩
   ·rw[Y]at I;simp only[BK]at I;subst I;exact g4
   ·simp only[BK,CN]at hb;rw[Ck,hb.1,hf];rfl
  ·simp only[BL]at y;obtain⟨u,I,y⟩:=y;simp only[CN]at y;obtain⟨rfl,rfl,rfl⟩:=y;obtain⟨H,g1,g2,g3,g4,g5,g6,g7,g8⟩:=oy Z h ps xs M u.1 u.2.1 u.2.2 z I;exact⟨H,g1,⟨v,M,cs,rfl,hs,hl.carry Z.ro g6,g2⟩,g3,g4,g5,g6,g7,λf r j hb hf=>by rw[Ck,g8 f r j hb hf,Bool.or_true]⟩
end
section
variable {P:Program} {V:Env} {Γ:List Ctr} {st:St}
theorem iP {st:St}{q i:Nat}:∀ {ks:List (Nat×Nat)},(q,i)∉ks->(ac (aF st ks) st q).ls[i]?=(st q).ls[i]?
 |[],_=>rfl
 |(r,j)::ks,h=>by
  simp only[Cc,not_or]at h;have e:ac (aF st ((r,j)::ks)) st=ac [(r,fW (ac (aF st ks) st r) j)] (ac (aF st ks) st):=aQ _ _ _ _;rw[e];rcases aj r q (fW (ac (aF st ks) st r) j) (ac (aF st ks) st) with ⟨rfl,e⟩|⟨_,e⟩
  ·rw[e];simp only[fW,aT];rw[CZ (λu=>h.1 (by rw[u]))];exact iP h.2
  ·rw[e];exact iP h.2
theorem lp {st:St}{q i:Nat}:∀ {ks:List (Nat×Nat)},(q,i)∉ks->(ac (aN st ks) st q).ls[i]?=(st q).ls[i]?
 |[],_=>rfl
 |(r,j)::ks,h=>by
  simp only[Cc,not_or]at h;have e:ac (aN st ((r,j)::ks)) st=ac [(r,f9 (ac (aN st ks) st r) j)] (ac (aN st ks) st):=aQ _ _ _ _;rw[e];rcases aj r q (f9 (ac (aN st ks) st r) j) (ac (aN st ks) st) with ⟨rfl,e⟩|⟨_,e⟩
  ·rw[e];simp only[f9,aT];rw[CZ (λu=>h.1 (by rw[u]))];exact lp h.2
  ·rw[e];exact lp h.2
theorem nv (d n:Nat)(p q:Bool)(ks:List (Nat×Nat×Nat))(ep:Nat):∀ (z:List RK) (y:ai z),∀ x∈(bF d n p q ks ep z y).2,x.1=B0+d
 |[],_,x,u=>by simp[bF]at u
 |r::z,y,x,u=>by
  simp only[bF,BV]at u;rcases u with u|u
  ·cases r <;> simp[pq]at u;rw[u]
  ·exact nv d n p q ks ep z y.2 x u
theorem rE {q:Nat}(st:St):∀ (U:Upd),(∀ x∈U,x.1≠q)->ac U st q=st q
 |[],_=>rfl
 |(r,c)::U,h=>by
  rw[aQ,aJ (Ca (h (r,c) (B9 ..)))];exact rE st U (λx u=>h x (BZ _ u))
def mA (u:St)(c:Ctr)(d:Nat)(xs:List (aI×List Leaf))(g:Got (ab c.ps))(y:ai c.rs×ah c.ps):Upd :=
 let H:=(let U:=(bif c.fresh then [] else aF u g.frz);aN (ac U u) g.kill++U);let z:=aG (ac H u) (g.p&&!c.fresh) c.ps xs y.2++H;let r:=bF d (ac z u (B0+d)).ver (g.p&&!c.fresh) g.p (g.frz.map λk=>(k.1,k.2,(ac z u k.1).ver)) (ac z u EPO).ver c.rs y.1
 (d,eU ((ac (r.2++z) u d).ver+1) r.1)::(r.2++z)
theorem zw (hV:ay V){W0:Wit}{u:St}{a:Act}{w:World}(h0:an P V W0 u a w){c:Ctr}{xs:List (aI×List Leaf)}{vs:List Value}(e7:gX P V W0 u w xs vs){g:Got (ab c.ps)}(hg:bd (ca Γ u) c.ps xs=some g)
  (hf:∀ z∈g.frz,aB u z) (H:∀ z∈g.kill,aB u z) (ev:∀ b∈g.lend,live u b) (eb:a7 g.kill=true) (em:dz g.frz g.kill=true) (hE:∀ z∈g.kill,z.1≠EPO) (b1:g.lend.length<=1) (f1:g.lend=[]\/c.ps.any PK.isIo=false)
  {b9:List (List Nat)} (c2:∀ k,b9.flatten.count k=(g.lend.map W0.β).count k+(aY W0 g.kill).count k)
  {d:Nat} (hd:d<V.nt) (ed:∀ x∈V.fixt,x.1≠d) (a4:gG u d c.rs=true) (ej:((c.fresh&&g.lend.isEmpty)||!(c.rs.any RK.isBv))=true) {y:ai c.rs×ah c.ps} {e:Ending} {w':World} (d1:tD c w (bq V W0 g.p g.frz) vs b9 y e w') :
  ∃ v,e=.returned v/\∃ W1,an P V W1 (ac (mA u c d xs g y) u) (a.put (some d) v) w'/\(∀ q,q≠d->q≠B0+d->q∉g.lend->W1.cs q=W0.cs q) /\
   (∀ q i,q≠d->q≠B0+d->q∉g.lend->(q,i)∉g.frz->(q,i)∉g.kill->(ac (mA u c d xs g y) u q).ls[i]?=(u q).ls[i]?)/\(∀ k,k<w.heap.size->k∉aY W0 g.kill->k∉g.lend.map W0.β->w'.heap[k]?=w.heap[k]?)/\w.heap.size<=w'.heap.size:=by
 obtain⟨v,us,N,c4,bb,rfl,d3,cw,e6,dd,e4,f0,hN,c0,e5,Y,a0⟩:=d1;have a5:∀ k,k∈b9.flatten<->k∈g.lend.map W0.β\/k∈aY W0 g.kill:=λk=>by
  rw[<- BU,<- BU,<- BU,c2 k];omega
 have Z:∀ k,k<w.heap.size->k∉aY W0 g.kill->k∉g.lend.map W0.β->w'.heap[k]?=w.heap[k]?:=λk h1 h2 h3=>f0 k h1 (λh=>((a5 k).1 h).elim h3 h2)
 refine⟨v,rfl,?_⟩;unfold mA;generalize bl:(bif c.fresh then [] else g.frz)=O;have hU:(bif c.fresh then [] else aF u g.frz)=aF u O:=by rw[<- bl];cases c.fresh <;> rfl
 have eg:dz O g.kill=true:=by rw[<- bl];cases c.fresh with|true=>rfl|false=>exact em
 have c1:∀ z∈O,z∈g.frz:=by rw[<- bl];cases c.fresh with|true=>simp|false=>exact λ_ h=>h
 have f4:∀ z∈O,aB u z:=λz hz=>hf z (c1 z hz)
 rw[hU];obtain⟨h1,h2,h3,h4⟩:=fJ hV h0 eg H;have b4:∀ q i,(q,i)∉g.frz->(q,i)∉g.kill->(ac (aN (ac (aF u O) u) g.kill++aF u O) u q).ls[i]?=(u q).ls[i]?:=λq i q1 q2=>by
  rw[bD,lp q2,iP (λh=>q1 (c1 _ h))]
 generalize f5:aN (ac (aF u O) u) g.kill++aF u O=I at h1 h2 h3 h4 b4;have a1:∀ k∈aY W0 g.kill,¬ cd V (W0.frz u O) (ac I u) k:=λk H=>mv ⟨(h4 k H).1,(h4 k H).2.1,(h4 k H).2.2.2.1,(h4 k H).2.2.2.2⟩
 have a2:∀ k,p9 w w' b9.flatten k->k∉g.lend.map W0.β->k<w'.heap.size/\¬ cd V (W0.frz u O) (ac I u) k:=by
  rintro k ⟨et,a9⟩ f2;refine⟨et,λM=>?_⟩;rcases a9 with a9|a9
  ·have:=h1.used_lt k M;omega
  ·exact ((a5 k).1 a9).elim f2 (λa9=>a1 k a9 M)
 have hG:∀ k,(N k\/(c.fresh=false/\bq V W0 g.p g.frz k))->gd V { W0.frz u O with nw:=λk=>(W0.frz u O).nw k\/N k } (g.p&&!c.fresh) k:=by
  rintro k (H|⟨e0,H⟩)
  ·exact .inl (.inr H)
  ·have e1:O=g.frz:=by rw[<- bl,e0];rfl
   have:=kv (V:=V) (W:=W0) (p:=g.p) hf k H;rw[e0];rw[<- e1]at this;exact bT (W':={ W0.frz u O with nw:=λk=>(W0.frz u O).nw k\/N k }) (by intro h;simp[h]) (λ_ h=>Or.inl h) k this
 rw[CR]at Y;have cy:∀ (W2:Wit),an P V W2 (ac (aG (ac I u) (g.p&&!c.fresh) c.ps xs y.2++I) u) a w'->(∀ k,(N k\/(c.fresh=false/\bq V W0 g.p g.frz k))->gd V W2 (g.p&&!c.fresh) k) ->
   (∀ k∈bb.flatten,¬ cd V W2 (ac (aG (ac I u) (g.p&&!c.fresh) c.ps xs y.2++I) u) k) ->
   (c.rs.any RK.isBv=true->∀ x∈g.frz,∀ k,k∈W0.bs x.1 x.2->k∈W2.bs x.1 x.2)->(c.rs.any RK.isBv=true->∀ k,W0.nw k->W2.nw k) ->
   (∀ q,q∉g.lend->W2.cs q=W0.cs q)->(∀ q i,q∉g.lend->(q,i)∉g.frz->(q,i)∉g.kill->(ac (aG (ac I u) (g.p&&!c.fresh) c.ps xs y.2++I) u q).ls[i]?=(u q).ls[i]?) ->
   (∀ q,(ac (aG (ac I u) (g.p&&!c.fresh) c.ps xs y.2++I) u q).sh=(u q).sh) ->
   ∃ W1,an P V W1 (ac (let R:=aG (ac I u) (g.p&&!c.fresh) c.ps xs y.2++I
     let r:=bF d (ac R u (B0+d)).ver (g.p&&!c.fresh) g.p (g.frz.map λk=>(k.1,k.2,(ac R u k.1).ver)) (ac R u EPO).ver c.rs y.1
     (d,eU ((ac (r.2++R) u d).ver+1) r.1)::(r.2++R)) u) (a.put (some d) v) w'/\(∀ q,q≠d->q≠B0+d->q∉g.lend->W1.cs q=W0.cs q) /\
    (∀ q i,q≠d->q≠B0+d->q∉g.lend->(q,i)∉g.frz->(q,i)∉g.kill->(ac (let R:=aG (ac I u) (g.p&&!c.fresh) c.ps xs y.2++I
     let r:=bF d (ac R u (B0+d)).ver (g.p&&!c.fresh) g.p (g.frz.map λk=>(k.1,k.2,(ac R u k.1).ver)) (ac R u EPO).ver c.rs y.1
     (d,eU ((ac (r.2++R) u d).ver+1) r.1)::(r.2++R)) u q).ls[i]?=(u q).ls[i]?):=by
  intro W2 g1 d4 a3 en ef ec bn bx;generalize aG (ac I u) (g.p&&!c.fresh) c.ps xs y.2++I=R at g1 a3 bn bx ⊢;have cp:gG (ac R u) d c.rs=true:=by
   unfold gG at a4 ⊢;split at a4
   ·rw[bx];exact a4
   ·exact a4
  obtain⟨W1,q1,q2⟩:=wC hV g1 (q:=g.p) (ks:=g.frz.map λk=>(k.1,k.2,(ac R u k.1).ver)) (ep:=(ac R u EPO).ver) e5 d4 (λhb=>by
   refine⟨λk H=>?_,B6 _,λk H=>?_⟩
   ·rcases H with H|(H|H)|⟨x,hx,H⟩
    ·exact .inl (bT (W':=W2) (by intro h;simp at h;exact h.1) (λ_ h=>h) k (d4 k H))
    ·exact .inl (.inl (ef hb k H))
    ·exact .inl (.inr H)
    ·exact .inr ⟨(x.1,x.2,(ac R u x.1).ver),C4.2 ⟨x,hx,rfl⟩,en hb x hx k H⟩
   ·obtain⟨x,hx,rfl⟩:=C4.1 H;exact B6 _) a3 Y.2.1 d3 hd ed cp
  have e1:∀ (X:Upd) (C:bQ),ac ((d,C)::(X++R)) u=ac ((d,C)::X) (ac R u):=λX C=>by
   rw[aQ d C (X++R),aQ d C X,bD]
  simp only[e1,bD];refine⟨W1,q1,λq hq cb cu=>(q2 q hq cb).trans (ec q cu),λq i hq cb cu b2 a6=>?_⟩;rw[aQ,aJ hq,rE _ _ (λx hx=>by rw[nv _ _ _ _ _ _ _ _ x hx];exact Ca cb)];exact bn q i cu b2 a6
 refine (?_:∃ W1,_/\_/\_).imp λW1 hh=>⟨hh.1,hh.2.1,hh.2.2,Z,cw⟩
 cases J:g.lend with
 |nil =>
  rw[J]at a5 Z a2 c2;simp only[DL,List.not_mem_nil,not_false_iff,true_implies,forall_const,false_or]at a5 Z a2;rw[J]at cy;have h5:=h1.world hV cw e6 dd e4 (λk H=>Z k (h1.used_lt k H) (λhm=>a1 k hm H));have h6:=h5.nwGrow hV N (λk H=>a2 k (hN k H));have cx:∀ k,cd V { W0.frz u O with nw:=λk=>(W0.frz u O).nw k\/N k } (ac I u) k->cd V (W0.frz u O) (ac I u) k\/N k:=by
   rintro k ((H|H)|H|H|H)
   ·exact .inl (.inl H)
   ·exact .inr H
   ·exact .inl (.inr (.inl H))
   ·exact .inl (.inr (.inr (.inl H)))
   ·exact .inl (.inr (.inr (.inr H)))
  have b3:∀ k∈c4.flatten++bb.flatten,¬ cd V { W0.frz u O with nw:=λk=>(W0.frz u O).nw k\/N k } (ac I u) k:=λk H M=>by
   obtain⟨q1,q2⟩:=a0 k H;rcases cx k M with M|M
   ·exact (a2 k q1).2 M
   ·exact q2 M
  obtain⟨W2,g1,g2,g3,g4,g5,g6,g7⟩:=qL (Γ:=Γ) hV (W0:=W0) (W:={ W0.frz u O with nw:=λk=>(W0.frz u O).nw k\/N k }) (p:=g.p&&!c.fresh) rfl hG h6 c.ps xs vs g y.2 c4 e7 hg (tG c.ps xs g hg J) c0 eb hE
   (λx hx l hl ho=>(h2 x.1 x.2 l hl ho).2.2 hx) (λk H=>b3 k (BS _ H)) Y.1
  rw[<- bD]at g1 g5 g6 g7;refine cy W2 g1 (λk H=>?_) (λk H M=>?_) (λhb x hx k H=>?_) (λhb k H=>?_) (λq _=>by rw[g2];rfl) (λq i _ b2 a6=>(g6 q i a6).1.trans (b4 q i b2 a6)) (λq=>(g5 q).1.trans (h3 q).1)
  ·rcases hG k H with H|H
   ·exact .inl (by rw[g4];exact H)
   ·exact .inr H
  ·rcases g7 k M with M|M
   ·exact b3 k (BO _ H) M
   ·exact Y.2.2 k M k H rfl
  ·rw[(g6 x.1 x.2 (nP em x hx)).2];exact H
  ·rw[g4];exact .inl (.inl H)
 |cons b d2 =>
  have c3:d2=[]:=by
   rw[J]at b1;simp at b1;exact b1
  subst c3;have ex:c.ps.any PK.isIo=false:=f1.resolve_left (by rw[J];simp);have dc:c.rs.any RK.isBv=false:=by
   rw[J]at ej;simpa using ej
  obtain⟨_,r2⟩:=o9 (Γ:=Γ) h0 (S:=ac I u) (p:=g.p&&!c.fresh) c.ps xs vs g y.2 c4 e7 hg ex c0;obtain⟨cT,yv,cs,E,b0,r3,r4,r5,r6,r7⟩:=r2 b J;rw[r6]at Y a0;have hβ:(W0.frz u O).β=W0.β:=rfl;have ba:∀ k,k∈g.lend.map W0.β<->k=W0.β b:=λk=>by rw[J];simp
  have hb:live (ac I u) b:=(iE (λq=>(h3 q).1) b).2 (ev b (by rw[J];simp));have cc:∀ k,k∈(W0.β b::b0)++bb.flatten->¬ N k:=λk H=>(a0 k H).2
  obtain⟨W2,g1,g2,g3,g4,g5,g6⟩:=zv hV h1 hb (N:=N) (p:=g.p&&!c.fresh) r4 r5 Y.1 (by rw[h1.len b];show (W0.cs b).length=_;rw[<- h0.len b];exact r7)
   (λk M f3=>Z k (h1.used_lt k M) (λhm=>a1 k hm M) (λhm=>f3 ((ba k).1 hm))) cw e6 dd e4
   (λk H=>a2 k (hN k H) (λhm=>cc _ (BS _ (B9 ..)) (by rw[<- (ba k).1 hm];exact H)))
   (λk H=>⟨(a2 k (a0 k (BS _ (BZ _ H))).1 (λhm=>by
    have:=(ba k).1 hm;subst this;exact (CV.1 Y.1).1 H)).2,cc k (BS _ (BZ _ H))⟩) hG
  have e2:ac (aG (ac I u) (g.p&&!c.fresh) c.ps xs y.2++I) u=ac [(b,⟨(ac I u b).ver+2,.agg,ap (g.p&&!c.fresh) cT yv⟩)] (ac I u):=by rw[bD,r3]
  have es:∀ k∈bb.flatten,k∉g.lend.map W0.β:=λk H hm=>Y.2.2 _ (B9 ..) k H ((ba k).1 hm).symm
  rw[<- e2]at g1 g6;have ad:=cy W2 g1 (λk H=>?_) (λk H M=>?_) (λb5=>by rw[dc]at b5;cases b5) (λb5=>by rw[dc]at b5;cases b5) (λq hq=>?_) (λq i hq b2 a6=>?_) (λq=>?_)
  ·rw[J]at ad;exact ad
  ·rcases hG k H with H|H
   ·exact .inl ((g3 k).2 H)
   ·exact .inr H
  ·rcases g6 k M with M|M|M
   ·exact (a2 k (a0 k (BO _ H)).1 (es k H)).2 M
   ·exact cc k (BO _ H) M
   ·exact Y.2.2 k (BZ _ M) k H rfl
  ·rw[J]at hq;rw[g4 q (by simpa using hq)];rfl
  ·rw[J]at hq;rw[e2,aJ (by simpa using hq)];exact b4 q i b2 a6
  ·rw[e2];rcases aj b q ⟨(ac I u b).ver+2,.agg,ap (g.p&&!c.fresh) cT yv⟩ (ac I u) with ⟨rfl,e3⟩|⟨_,e3⟩
   ·rw[e3];have:=hb.2;rw[(h3 q).1]at this;exact this.symm
   ·rw[e3];exact (h3 q).1
end
section
variable {P:Program} {V:Env} {Γ:List Ctr} {T:TypeId->TI} {st:St} {o:Oper} {R:Type} {κ:Upd->Option R} {r:R}
theorem zx {ls:List Leaf}{j:Nat}{p:Bool}{y:Option (Nat×Nat)}{E:TypeId}{e:Ty}{xs:List e.den}(h:ls.getD j .dead=.own p y E e xs):ls[j]?=some (.own p y E e xs):=by
 rw[CP]at h;cases u:ls[j]? with
 |none=>rw[u]at h;simp at h
 |some z=>rw[u]at h;simp at h;rw[h]
theorem AM (hV:ay V){b:Option (Bool×Nat×Nat)}{U:Upd}(h:j9 st b U κ=some r) :
  ∃ U',κ U'=some r/\∀ I a w,an P V I (ac U st) a w->(∀ q j,b=some (true,q,j)->∃ v,I.cs TMP=[v]/\tC I (ac U st) w q j v)->Rel P V (ac U' st) a w:=by
 unfold j9 at h;split at h
 ·rename_i q j;split at h
  ·rename_i p i off E' e' xs q' E e ys hq b5;obtain⟨y,hy,h⟩:=CH.1 h;obtain⟨_,_,hy⟩:=gn hy;simp only[DM]at hy;split at h
   ·rename_i z hz;refine⟨_,h,λI a w hr hb=>?_⟩;obtain⟨v,c2,a2,c4,i0,bl,p0,E0,e0,c0,g,cc,g1,g2,g3,g4⟩:=hb q j rfl;have hq:=zx hq;rw[hq]at g1;obtain⟨rfl,bb,rfl,h4⟩:p=p0/\some (i,off)=some (i0,bl)/\E'=E0/\(⟨e',xs⟩:(e:Ty)×List e.den)=⟨e0,c0⟩:=by
     simp only[BK,Leaf.own.injEq]at g1;obtain⟨q1,q2,q3,q4,q5⟩:=g1;subst q4;rw[heq_eq_eq]at q5;subst q5;exact⟨q1,by simpa using q2,q3,rfl⟩
    simp only[BK,CN]at bb;obtain⟨rfl,rfl⟩:=bb;simp only[Sigma.mk.injEq]at h4;obtain⟨rfl,h4⟩:=h4;rw[heq_eq_eq]at h4;subst h4;generalize hS:ac U st=S at hr hq g1 g2 g3 b5 ⊢;have a6:(S TMP).ls[0]?=some (.own q' none E e ys):=by rw[b5];rfl
    have b4:(I.cs TMP)[0]?=some v:=by rw[c2];rfl
    have b2:=hr.leaf q j _ _ hq g2;have ad:=hr.leaf TMP 0 _ _ a6 b4;have b2:OwH w (gd V I p) (some (i,off)) E' e' xs _ (I.bs q j):=b2;have ad:Ow w (gd V I q') E e ys v (I.bs TMP 0):=ad;have b3:=b2.carry (G':=gd V I (p||q')) (bT (W':=I) (by intro h;simp[h]) (λ_ h=>h)) (λ_ _=>rfl) (λ_ _=>rfl);have ba:=OwH.carry (G':=gd V I (p||q')) ad (bT (W':=I) (by intro h;simp[h]) (λ_ h=>h)) (λ_ _=>rfl) (λ_ _=>rfl);have bx:∀ k∈I.bs TMP 0,k∉I.bs q j:=λk M a0=>a2 (hr.sep TMP 0 _ q j _ a6 trivial hq trivial k M a0).1.symm
    obtain⟨b0,c1,c3⟩:=b3.back ba bx hy hz (λg' cb e1=>by
     simp only[CJ,BK,Ct,and_true]at e1;rw[<- e1.1];exact g4)
    have bn:∀ k∈b0,k∈I.bs q j\/k∈I.bs TMP 0:=λk M=>by
     have h5:=c3 k;have h6:=BU.2 M;by_cases h7:k∈I.bs q j
     ·exact .inl h7
     ·have:=CC.2 h7;exact .inr (BU.1 (by omega))
    obtain⟨h1,cp⟩:=hr.putGhost hV TMP jb.1 jb.2.1 ((S TMP).ver+1) .off [] [] (λ_=>[]) (BW _) rfl (by simp) (λj l u hj=>by simp at hj) (λj l hj=>by simp at hj) (λj j' l l' hj=>by simp at hj);have a4:∀ x,x≠TMP->ac [(TMP,⟨(S TMP).ver+1,.off,[]⟩)] S x=S x:=λx hx=>aJ hx _ _
    have a9:(ac [(TMP,⟨(S TMP).ver+1,.off,[]⟩)] S) q=S q:=a4 q a2;have H:∀ (X:Nat) (l':Leaf),X≠j->(aT (S q).ls j (.own (p||q') none E' e' (xs.set i z)))[X]?=some l'->(S q).ls[X]?=some l':=by
     intro X l' a3 a1;rcases aS _ _ _ _ _ a1 with ⟨rfl,_,_⟩|⟨_,a1⟩
     ·exact absurd rfl a3
     ·exact a1
    have b9:∀ (l':Leaf),(aT (S q).ls j (.own (p||q') none E' e' (xs.set i z)))[j]?=some l'->l'=.own (p||q') none E' e' (xs.set i z):=by
     intro l' a1;rcases aS _ _ _ _ _ a1 with ⟨_,rfl,_⟩|⟨a3,_⟩
     ·rfl
     ·exact absurd rfl a3
    have a5:∀ b,live (ac [(TMP,⟨(S TMP).ver+1,.off,[]⟩)] S) b->live S b:=λb hb=>by
     have:b≠TMP:=by have:=hb.1;have:=jb.2.1;omega
     exact⟨hb.1,by rw[<- a4 b this];exact hb.2⟩
    have b1:∀ k∈b0,¬ I.nw k/\¬ V.prot k/\(∀ b,live S b->I.β b≠k)/\∀ (Y i1:Nat) (l1:Leaf),(S Y).ls[i1]?=some l1->am l1->(Y,i1)≠(q,j)->Y≠TMP->k∉I.bs Y i1:=λk M=>by
     rcases bn k M with M|M
     ·have h9:=hr.ownb q j _ hq trivial k M;exact⟨h9.1,h9.2.1,h9.2.2,λY i1 l1 g5 g6 g7 _ g8=>g7 (by obtain⟨e1,e2⟩:=hr.sep Y i1 l1 q j _ g5 g6 hq trivial k g8 M;rw[e1,e2])⟩
     ·have h9:=hr.ownb TMP 0 _ a6 trivial k M;exact⟨h9.1,h9.2.1,h9.2.2,λY i1 l1 g5 g6 _ g7 g8=>g7 (hr.sep Y i1 l1 TMP 0 _ g5 g6 a6 trivial k g8 M).1⟩
    have h2:=(h1.reownE hV q ⟨(S q).ver,(S q).sh,aT (S q).ls j (.own (p||q') none E' e' (xs.set i z))⟩ (λX=>if X=j then b0 else I.bs q X) c4 (by rw[a9];exact B6 _) (by rw[a9]) (by rw[a9];simp[aT])
     (λX l' u g5 g6=>by
      have g6:(if q=TMP then [] else I.cs q)[X]?=some u:=g6;rw[if_neg a2]at g6;by_cases J:X=j
      ·subst J;obtain rfl:=b9 l' g5;rw[g2]at g6;simp only[BK]at g6;subst g6;simp only[if_true];exact c1
      ·simp only[if_neg J];have:=h1.leaf q X l' u (by rw[a9];exact H X l' J g5) (by show (if q=TMP then [] else I.cs q)[X]?=_;rw[if_neg a2];exact g6);have e0:(if q=TMP then ([]:List Nat) else I.bs q X)=I.bs q X:=if_neg a2;simp only[e0]at this;exact this)
     (λX l' g5 g6 k M=>by
      by_cases J:X=j
      ·subst J;simp only[if_true]at M;obtain⟨q1,q2,q3,q4⟩:=b1 k M;refine⟨q1,q2,λb hb=>q3 b (a5 b hb),λY j1 l1 a3 g7 g8 g9=>?_⟩;by_cases Z:Y=TMP
       ·subst Z;rw[bm]at g7;simp at g7
       ·rw[a4 Y Z]at g7;have g9:k∈(if Y=TMP then [] else I.bs Y j1):=g9;rw[if_neg Z]at g9;exact q4 Y j1 l1 g7 g8 (λe=>a3 (by cases e;rfl)) Z g9
      ·simp only[if_neg J]at M;have a1:=H X l' J g5;have h9:=hr.ownb q X l' a1 g6 k M;refine⟨h9.1,h9.2.1,λb hb=>h9.2.2 b (a5 b hb),λY j1 l1 a3 g7 g8 g9=>?_⟩;by_cases Z:Y=TMP
       ·subst Z;rw[bm]at g7;simp at g7
       ·rw[a4 Y Z]at g7;have g9:k∈(if Y=TMP then [] else I.bs Y j1):=g9;rw[if_neg Z]at g9;exact a3 (hr.sep q X l' Y j1 l1 a1 g6 g7 g8 k M g9).1.symm)
     (λi1 i2 l1 l2 g5 g6 g7 g8 k M a0=>by
      by_cases J:i1=j <;> by_cases O:i2=j
      ·omega
      ·subst J;simp only[if_true]at M;simp only[if_neg O]at a0;exact absurd a0 ((b1 k M).2.2.2 q i2 l2 (H i2 l2 O g7) g8 (λe=>O (by cases e;rfl)) a2)
      ·subst O;simp only[if_true]at a0;simp only[if_neg J]at M;exact absurd M ((b1 k a0).2.2.2 q i1 l1 (H i1 l1 J g5) g6 (λe=>J (by cases e;rfl)) a2)
      ·simp only[if_neg J]at M;simp only[if_neg O]at a0;exact (hr.sep q i1 l1 q i2 l2 (H i1 l1 J g5) g6 (H i2 l2 O g7) g8 k M a0).2)).1
    show ∃ W,an P V W _ a w;have e1:ac ((q,⟨(S q).ver,(S q).sh,aT (S q).ls j (.own (p||q') none E' e' (xs.set i z))⟩)::(TMP,⟨(S TMP).ver+1,.off,[]⟩)::(EPO,bU (S EPO))::U) st =
      ac [(q,⟨(S q).ver,(S q).sh,aT (S q).ls j (.own (p||q') none E' e' (xs.set i z))⟩),(EPO,bU (ac [(TMP,⟨(S TMP).ver+1,.off,[]⟩)] S EPO))] (ac [(TMP,⟨(S TMP).ver+1,.off,[]⟩)] S):=by
     rw[a4 EPO (Ca jb.2.2),aQ q,aQ TMP,aQ EPO,hS,aQ q _ [(EPO,bU (S EPO))],nf jb.2.2]
    rw[e1];exact⟨_,h2⟩
   ·cases h
  ·cases h
 ·exact⟨_,h,λI a w hr _=>⟨I,hr⟩⟩
theorem vn (hV:ay V)(hΓ:∀ c∈Γ,bO P c){d:Nat}(hd:d<V.nt)(e7:∀ x∈V.fixt,x.1≠d){f:FuncId}{xs:List (aI×List Leaf)}(h:jy Γ st d f xs κ=some r) :
  fT P f/\∃ U,κ U=some r/\∀ W a w,an P V W st a w->∀ vs,gX P V W st w xs vs->Calls P f vs.toArray w (λe w'=>∃ v,e=.returned v/\Rel P V (ac U st) (a.put (some d) v) w'):=by
 unfold jy at h;split at h
 ·rename_i c hc;obtain⟨eb,rfl⟩:=nr hc;obtain⟨dd,b3⟩:=hΓ c eb;refine⟨dd,?_⟩;rw[gB]at h;obtain⟨⟨U0,ys,b⟩,c3,h⟩:=CH.1 h;simp only at h;split at h
  ·rename_i g hg;cases M:a7 g.kill&&dz g.frz g.kill&&gG st d c.rs&&!(g.see.any λq=>g.lend.any (B8 q))&&Cy g.lend.length 1&&(g.lend.isEmpty||!(c.ps.any PK.isIo))&&((c.fresh&&g.lend.isEmpty)||!(c.rs.any RK.isBv))&&(g.kill.all λk=>!B8 k.1 EPO)&&oL b g.frz g.kill d with
   |false=>rw[M]at h;cases h
   |true =>
    rw[M]at h;simp only[cond_true]at h;simp only[BM]at M;obtain⟨⟨⟨⟨⟨⟨⟨⟨ba,ed⟩,I⟩,bl⟩,J⟩,e6⟩,fc⟩,hE⟩,d2⟩:=M;obtain⟨y,hy,h⟩:=CH.1 h;obtain⟨U',ej,c4⟩:=AM (P:=P) (V:=V) hV h;refine⟨U',ej,λW a w hr vs f0=>?_⟩;obtain⟨W0,Y,cc,fl,hβ0,d1,d4,b4,ec⟩:=oy hV hr c.ps xs vs U0 ys b f0 c3;generalize a6:ac U0 st=S0 at Y cc d1 d4 b4 hg;obtain⟨⟨a9,bx,a1⟩,hf,hk,a2⟩:=kH (uH hV hΓ Y) c.ps ys vs g cc hg;have hE:∀ z∈g.kill,z.1≠EPO:=λz hz e0=>by
     have:=List.all_eq_true.1 hE z hz;rw[e0]at this;simp at this
    have J:g.lend.length<=1:=CX J;have b9:g.lend=[]\/c.ps.any PK.isIo=false:=by
     simp only[Dg,DU,CB]at e6;exact e6
    have c0:∀ k,k∈a9.flatten<->k∈g.lend.map W0.β\/k∈aY W0 g.kill:=λk=>by
     rw[<- BU,<- BU,<- BU,a1 k];omega
    have a0:∀ k,jY V W0 S0 g.frz g.see k->k<w.heap.size/\k∉a9.flatten:=by
     intro k H;refine⟨Y.used_lt k (rB hf k H),λZ=>?_⟩;rcases (c0 k).1 Z with Z|Z
     ·obtain⟨b',O,rfl⟩:=C4.1 Z;have cu:=Y.box b' (a2 b' O);rcases H with H|H|⟨b2,e3,a3,e2⟩|⟨z,hz,H⟩
      ·exact cu.1 H
      ·exact cu.2 H
      ·have:=Y.inj b2 b' a3 (a2 b' O) e2;subst this;simp only[CB,CI]at bl;have:=bl b2 e3;rw[Bool.not_eq_true,CI]at this;have:=this b2 O;simp at this
      ·obtain⟨l,hl,ho⟩:=hf z hz;exact (Y.ownb z.1 z.2 l hl ho _ H).2.2 b' (a2 b' O) rfl
     ·obtain⟨z,hz,X⟩:=gm.1 Z;obtain⟨l,hl,ho⟩:=hk z hz;have a4:=Y.ownb z.1 z.2 l hl ho k X;rcases H with H|H|⟨b2,e3,a3,e2⟩|⟨z',cy,H⟩
      ·exact a4.1 H
      ·exact a4.2.1 H
      ·exact a4.2.2 b2 a3 e2
      ·obtain⟨l',f4,f8⟩:=hf z' cy;obtain⟨e1,e2⟩:=Y.sep z.1 z.2 l z'.1 z'.2 l' hl ho f4 f8 k X H;exact nP ed z' cy (by rw[show z'=z from Dp e1.symm e2.symm];exact hz)
    have es:a9.flatten.Nodup:=bu.2 λk=>by
     rw[a1 k];have h5:=bu.1 (gR Y ba hk) k;have h6:(g.lend.map W0.β).count k<=1:=by
      exact CS List.count_le_length (by rw[Cm];exact J)
     by_cases h7:k∈g.lend.map W0.β
     ·have:(aY W0 g.kill).count k=0:=CC.2 λZ=>by
       obtain⟨b',O,e0⟩:=C4.1 h7;obtain⟨z,hz,X⟩:=gm.1 Z;obtain⟨l,hl,ho⟩:=hk z hz;exact (Y.ownb z.1 z.2 l hl ho k X).2.2 b' (a2 b' O) e0
      omega
     ·have:(g.lend.map W0.β).count k=0:=CC.2 h7;omega
    have b0:=b3 w (bq V W0 g.p g.frz) g.val vs a9 y (bx.mono (λ_ h=>h) a0) (λk H=>a0 k (mz hV k H)) es hy;have cb:gG S0 d c.rs=true:=by
     unfold gG at I ⊢;split at I
     ·rcases b4 (B0+d) with e0|e0
      ·rw[e0];exact I
      ·exact absurd e0 (by have:=jb.2.1;omega)
     ·exact I
    refine b0.mono λe w' cp=>?_
    obtain⟨v,rfl,W1,a5,bn,ef,c1,_⟩:=zw (Γ:=Γ) hV Y cc hg hf hk a2 ba ed hE J b9 a1 hd e7 cb fc cp;refine⟨v,rfl,?_⟩;refine c4 W1 _ w' ?_ ?_
    ·have e1:=bD (mA S0 c d ys g y) U0 st;rw[a6]at e1;rw[<- e1]at a5;subst a6;unfold mA at a5;simp only[bD,B3,DY]at a5 ⊢;exact a5
    ·intro q j hb;subst hb;obtain⟨u,en,f2,f7,i,off,p,E,e,eg,gg,f3,q1,q2,q3,q4⟩:=d1;have cw:=ec true q j rfl rfl;have ad:g.lend=[]:=b9.resolve_right (by rw[cw];simp);simp only[oL,BM,CB]at d2;obtain⟨⟨⟨e5,d3⟩,b5⟩,bb⟩:=d2;have cx:q≠d:=λe0=>by rw[e0]at b5;simp at b5
     have e4:q≠B0+d:=λe0=>by rw[e0]at bb;simp at bb
     have dc:(q,j)∉g.kill:=λZ=>by
      have:=CI.1 e5 _ Z;simp[iy]at this
     have f5:(q,j)∉g.frz:=λZ=>by
      have:=CI.1 d3 _ Z;simp[iy]at this
     have em:TMP≠d:=by have:=hV.nt;have:=jb.1;omega
     have f1:TMP≠B0+d:=by have:=jb.2.1;omega
     have hL:=ef q j cx e4 (by rw[ad];simp) f5 dc;rw[q1]at hL;have hC:=bn q cx e4 (by rw[ad];simp);have e1:=bD (mA S0 c d ys g y) U0 st;rw[a6]at e1;have et:gg<w.heap.size:=Y.own_lt q1 trivial gg q3;have ex:gg∉aY W0 g.kill:=λZ=>by
      obtain⟨z,hz,X⟩:=gm.1 Z;obtain⟨l,hl,ho⟩:=hk z hz;obtain⟨e1,e2⟩:=Y.sep z.1 z.2 l q j _ hl ho q1 trivial gg X q3;exact dc (by rw[show (q,j)=z from Dp e1.symm e2.symm];exact hz)
     have c2:w'.cell? ⟨gg,i*e.cells+off,none⟩=some u:=by
      rw[kO (c1 gg et ex (by rw[ad];simp))];exact q4
     have f6:gg∈W1.bs q j:=by
      have h9:=a5.leaf q j _ _ hL (by rw[hC];exact q2);obtain⟨_,fi,fd,_,ev,_⟩:=h9;rw[ev];simp[CF]
     refine⟨u,by rw[bn TMP em f1 (by rw[ad];simp)];exact en,f2,f7,i,off,p,E,e,eg,gg,f3,?_,by rw[hC];exact q2,f6,c2⟩;have b1:=hL;rw[<- e1]at b1;subst a6;unfold mA at b1;simp only[bD,B3,DY]at b1 ⊢;exact b1
  ·cases h
 ·cases h
end
section
variable {P:Program} {V:Env} {Γ:List Ctr} {T:TypeId->TI} {st:St} {o:Oper} {R:Type} {κ:Upd->Option R} {r:R}
theorem nX {W:Wit}{a:Act}{w:World}(h:an P V W st a w):∀ (l:List Operand),gX P V W st w (l.map (au st)) (l.map a.eval)
 |[]=>rfl
 |x::l=>by
  obtain⟨u,z,y⟩:=cS h x;exact⟨a.eval x,l.map a.eval,u,rfl,z,y,nX h l⟩
theorem ny {W:Wit}{w:World}:∀ {xs z:List (aI×List Leaf)} {y us:List Value},gX P V W st w xs y->gX P V W st w z us->gX P V W st w (xs++z) (y++us)
 |[],_,_,_,X,u=>by rw[show _=_ from X];exact u
 |x::xs,_,_,_,⟨v,O,I,e,H,J,M⟩,u=>by
  subst e;exact⟨v,_,I,rfl,H,J,ny M u⟩
theorem qM {a:Act}{w:World}{c:Call}{x:Operand}{f:FuncId}{caps:Array Value}(z:o.op=.call c)(J:c.callee=.value x)(M:a.eval x=.func (.func f) #[] caps)(I:fT P f){next:Act->World->Prop}{Q:Exit->Act->World->Prop}
  (u:Calls P f (c.args.map a.eval++caps) w (λe H=>∃ v,e=.returned v/\next (a.put o.dst v) H)):o.wp P a w next Q:=by
 unfold Oper.wp;have y:(execOp a.eval o).run P w=.ok (.enter f (c.args.map a.eval++caps)) w:=by
  have:=I (c.args.map a.eval++caps) w;simp[execOp,z,resolve,J,M,Deferred.ofValue,invoke,this]
 rw[y,Oper.upon_enter];refine u.mono λe H=>?_
 rintro⟨v,rfl,hn⟩;exact hn
theorem lq {p:Bool}:∀ {b:Ty} {x:b.den},b.flat=true->ap p b x=cH p b x
 |.int _,_,_=>rfl
 |.bool,_,_=>rfl
 |.str,_,_=>rfl
 |.unit,_,_=>rfl
 |.hdr,_,_=>rfl
 |.pair a b,x,h=>by
  simp only[Ty.flat,BM]at h;simp only[ap,cH,lq h.1,lq h.2]
 |.list _ _ _,_,h=>by simp[Ty.flat]at h
theorem rF (hV:ay V){W:Wit}{a:Act}{w:World}(h:an P V W st a w):∀ (J:List Ty) (xs:List (aI×List Leaf)) (X:List Value) (x:Tup J),gX P V W st w xs X->iQ st J xs=some x ->
  se w (λk=>k<w.heap.size) J x X
 |[],[],X,_,hx,_=>hx
 |[],_::_,_,_,_,u=>by simp[iQ]at u
 |_::_,[],_,_,_,u=>by simp[iQ]at u
 |b::J,x::xs,X,z,⟨v,O,cs,e,hs,Z,H⟩,u=>by
  subst e;simp only[iQ]at u;cases M:decide (x.1=bi b.isAgg) with
  |false=>simp[M]at u
  |true =>
   simp only[M,cond_true]at u;have M:=of_decide_eq_true M;rw[M]at hs;split at u
   ·rename_i p y hy;simp only[BL]at u;obtain⟨t,ht,rfl⟩:=u;have Y:=eH h Z hy;refine⟨v,cs,O,rfl,gA hs,Y.mono (λk I=>?_),rF hV h J xs O t H ht⟩;rcases I with (I|⟨_,I⟩)|⟨z,hz,I⟩
    ·exact (h.nwlt k I).1
    ·exact CU (hV.ro k I).1 h.size
    ·obtain⟨l,h1,h2⟩:=el Z hz;exact h.own_lt h1 h2 k I
   ·cases u
theorem yh (hV:ay V)(hΓ:∀ c∈Γ,bO P c)(M:bN V o){c:Call}{f:Operand}(Y:o.op=.call c)(hc:c.callee=.value f)
  (h:act Γ T o st κ=some r):bV P V o st κ r:=by
 simp only[act,wrU,Y,hc]at h;split at h
 ·cases h
 ·rename_i d X;split at h
  ·rename_i g H Z;obtain⟨he,U,hU,z⟩:=vn hV hΓ (M d X).1 (M d X).2 h;refine⟨U,hU,λW a w I next Q hn=>?_⟩;obtain⟨J,_,_,_,_⟩:=bt I f (by rw[Z];simp);rw[Z]at J;have O:=ny (nX I c.args.toList) (sn (qa (P:=P) (V:=V) (W:=W) (w:=w) H J.2));rw[DQ]at O;have:=z W a w I _ O;have e:(c.args.toList.map a.eval++H.map λb=>Value.pointer (some ⟨W.β b,0,none⟩)).toArray=c.args.map a.eval++(H.map λb=>Value.pointer (some ⟨W.β b,0,none⟩)).toArray:=by
    apply Dl;simp
   rw[e]at this;refine qM Y hc J.1 he (this.mono λe w'=>?_);rintro⟨v,rfl,hrel⟩;refine⟨v,rfl,hn _ _ ?_⟩;rw[X];exact hrel
  ·rename_i g H Z;obtain⟨he,U,hU,z⟩:=vn hV hΓ (M d X).1 (M d X).2 h;refine⟨U,hU,λW a w I next Q hn=>?_⟩;obtain⟨J,_,_,_,_⟩:=bt I f (by rw[Z];simp);rw[Z]at J;obtain⟨us,J,a3,a2⟩:=J;have O:=ny (nX I c.args.toList) (sn (qK (st:=st) a3 a2));rw[DQ]at O;have:=z W a w I _ O;have e:(c.args.toList.map a.eval++us).toArray=c.args.map a.eval++us.toArray:=by
    apply Dl;simp
   rw[e]at this;refine qM Y hc J he (this.mono λe w'=>?_);rintro⟨v,rfl,hrel⟩;refine⟨v,rfl,hn _ _ ?_⟩;rw[X];exact hrel
  ·rename_i As B φ Z;cases hb:B.flat with
   |false=>simp[hb]at h
   |true =>
    simp only[hb,cond_true]at h;split at h
    ·rename_i x hx;obtain⟨y,hy,h⟩:=CH.1 h;simp only[X]at h;refine⟨_,h,λW a w I next Q hn=>?_⟩;obtain⟨J,_,_,_,_⟩:=bt I f (by rw[Z];simp);rw[Z]at J;obtain⟨f',H,J,he,z⟩:=J;have a0:=rF hV I As _ _ x (nX I c.args.toList) hx;have:=z w I.size I.keep x _ y a0 hy;have e:(c.args.toList.map a.eval).toArray=c.args.map a.eval:=by apply Dl;simp
     rw[e]at this;refine qM Y hc J he (this.mono λe w'=>?_);rintro⟨u,cs,rfl,hvo,hrd,hbelow⟩;refine⟨u,rfl,hn _ _ ?_⟩;rw[X];have a4:=I.below hV hbelow;have a1:=fa (P:=P) (V:=V) (W:=W) (st:=st) (G:=λ_=>False) (p:=false) (λ_ h=>h.elim) hrd;rw[<- lq hb]at a1;exact a4.putLs hV d (M d X).1 (M d X).2 _ _ _ u cs (BW _) (km hvo) a1
    ·cases h
  ·cases h
theorem Bz (H:ay V)(I:TOk P T)(hΓ:∀ c∈Γ,bO P c)(z:bN V o)(h:act Γ T o st κ=some r):bV P V o st κ r:=by
 cases u:o.op with
 |move x=>exact yy H z u h
 |assign x=>exact vG H z u h
 |pick c x y=>exact yz H z u h
 |alloc t=>exact ya H I z u h
 |box t x=>exact AI H z u h
 |build t M=>exact xa H I z u h
 |buildSlice t n M=>exact qI H I z u h
 |load t x=>exact yB H I z u h
 |store t x y=>exact yc H I u h
 |nilCheck x=>exact sH H z u h
 |binOp X t x y Y=>exact wX H I z u h
 |unOp X t x=>exact yA H z u h
 |convert s t x=>exact uF H I z u h
 |makeSlice t n c=>exact r8 H I z u h
 |slice t x lo Z mx=>exact yf H I z u h
 |fieldAddr t x f=>exact rW H I z u h
 |field t x f=>exact w8 H I z u h
 |indexAddr t x i=>exact rX H I z u h
 |index t x i=>exact wZ H I z u h
 |extract x i=>exact uf H z u h
 |makeFunc fn first O=>exact sI H z u h
 |call c =>
  cases J:c.callee with
  |value f=>exact yh H hΓ z u J h
  |builtin b =>
   cases b with
   |len=>exact zZ H I z u J h
   |append=>exact wv H I z u J h
   |min=>exact AJ H z u J h
   |max=>exact AK H z u J h
   |_ =>
    simp only[act,wrU,u,J]at h;split at h <;> cases h
  |_ =>
   simp only[act,wrU,u,J]at h;split at h <;> cases h
 |_=>simp[act,wrU,u]at h
end
def cz:Ty->Ty->Bool
 |.pair a b,z=>match z with
  |.pair c d=>cz a c&&cz b d
  |_=>false
 |.list m E e,z=>match z with
  |.list n u r=>decide (E=u)&&(bif n then m&&cz e r else decide (e.sh=r.sh))
  |_=>false
 |a,z=>decide (a=z)
theorem fU:∀ {a b:Ty},cz a b=true->a.sh=b.sh
 |.pair a b,z,h=>by
  cases z with
  |pair c d =>
   simp only[cz,BM]at h;simp only[Ty.sh,fU h.1,fU h.2]
  |_=>simp[cz]at h
 |.list m E e,z,h=>by
  cases z with
  |list n r u =>
   simp only[cz,BM,decide_eq_true_eq]at h;obtain⟨rfl,h⟩:=h;cases n with
   |true =>
    simp only[cond_true,BM]at h;simp only[Ty.sh,fU h.2]
   |false =>
    simp only[cond_false,decide_eq_true_eq]at h;simp only[Ty.sh,h]
  |_=>simp[cz]at h
 |.int _,z,h=>by simp only[cz,decide_eq_true_eq]at h;rw[h]
 |.bool,z,h=>by simp only[cz,decide_eq_true_eq]at h;rw[h]
 |.str,z,h=>by simp only[cz,decide_eq_true_eq]at h;rw[h]
 |.unit,z,h=>by simp only[cz,decide_eq_true_eq]at h;rw[h]
 |.hdr,z,h=>by simp only[cz,decide_eq_true_eq]at h;rw[h]
theorem zy {a b:Ty}(h:cz a b=true):a.isAgg=b.isAgg:=by
 cases a with
 |pair c d=>cases b <;> first|rfl|(simp[cz]at h)
 |list m E e=>cases b <;> first|rfl|(simp[cz]at h)
 |_=>simp only[cz,decide_eq_true_eq]at h;rw[h]
theorem oz {f g h:Nat->List Nat}{k:Nat}:∀ {l:List Nat},(∀ j∈l,(f j).count k=(g j).count k+(h j).count k)->(l.flatMap f).count k=(l.flatMap g).count k+(l.flatMap h).count k
 |[],_=>rfl
 |a::l,H=>by
  have u:=H a (B9 ..);have y:=oz (l:=l) (λj r=>H j (BZ _ r));simp only[CY,BP];omega
theorem Mx.thin {w:World}{G:Nat->Prop}:∀ {a b:Ty} {pos:Nat} {x:a.den} {y:b.den} {cs:List Value} {bs:List Nat},cz a b=true->HEq x y->Mx w G a none pos x cs bs ->
  ∃ b1 b2:List Nat,(∀ k,bs.count k=b1.count k+b2.count k)/\Mx w (λk=>G k\/k∈b2) b none pos y cs b1
 |.pair a b,z,pos,x,y,cs,bs,h,r,H=>by
  cases z with
  |pair c d =>
   simp only[cz,BM]at h;obtain⟨c1,c2,ba,bb,rfl,rfl,h1,h2⟩:=H;obtain⟨h3,h4⟩:=sw (jG (fU h.1)) (jG (fU h.2)) r;obtain⟨p1,p2,Z,R⟩:=Mx.thin h.1 h3 h1;obtain⟨r1,r2,s1,s2⟩:=Mx.thin h.2 h4 h2;refine⟨p1++r1,p2++r2,λk=>?_,c1,c2,p1,r1,rfl,rfl,R.mono (λk J=>J.imp id (BS _)),?_⟩
   ·have:=Z k;have:=s1 k;simp only[BP];omega
   ·have:=s2.mono (G':=λk=>G k\/k∈p2++r2) (λk J=>J.imp id (BO _))
    rwa [ij (fU h.1)]at this
  |_=>simp[cz]at h
 |.list m E e,z,pos,xs,X,cs,bs,h,r,H=>by
  have a2:=fU h;cases z with
  |list n E' e' =>
   simp only[cz,BM,decide_eq_true_eq]at h;obtain⟨rfl,h⟩:=h;cases n with
   |true =>
    simp only[cond_true,BM]at h;obtain⟨rfl,h⟩:=h;rw[bJ (by simp)]at H;obtain⟨v,rfl,I,a1,h1,h2,h3⟩:=H;obtain⟨h4,h5⟩:=sx (jG (fU h)) r;have a0:∀ j,∃ q:List Nat×List Nat,j<X.length->(∀ k,(a1 j).count k=q.1.count k+q.2.count k) /\
      ∀ y,X[j]?=some y->∃ c,Mx w (λk=>G k\/k∈q.2) e' none 0 y c q.1/\∀ i u,c[i]?=some u->I[j*e'.cells+i]?=some u:=by
     intro j;by_cases M:j<X.length
     ·have Y:=B5 M;obtain⟨x,hx,r⟩:=h5 j _ Y;obtain⟨c,hm,hc⟩:=h3 j x hx;obtain⟨b1,b2,Z,R⟩:=Mx.thin h r hm;refine⟨(b1,b2),λ_=>⟨Z,λy O=>⟨c,?_,λi u hi=>?_⟩⟩⟩
      ·rw[Y]at O;simp only[BK]at O;subst O;exact R
      ·rw[<- ij (fU h)];exact hc i u hi
     ·exact⟨([],[]),λh=>absurd h M⟩
    obtain⟨f,hf⟩:=Classical.skolem.1 a0;refine⟨v.ownBlock.toList++(BY X.length).flatMap (λj=>(f j).1),(BY X.length).flatMap (λj=>(f j).2),λk=>?_,?_⟩
    ·rw[h2,BP,BP,h4,oz (g:=λj=>(f j).1) (h:=λj=>(f j).2) (λj M=>(hf j (DB.1 M)).1 k)];omega
    ·rw[bJ (by simp)];refine⟨v,rfl,I,λj=>(f j).1,by rw[<- h4,<- ij (fU h)];exact h1,rfl,λj y O=>?_⟩;have M:=(BN.1 O).1;obtain⟨c,Z,R⟩:=(hf j M).2 y O;exact⟨c,Z.mono (λk J=>J.imp id (λJ=>dV.2 ⟨j,M,J⟩)),R⟩
   |false =>
    refine⟨[],bs,λk=>by simp,?_⟩;rw[cm];exact⟨rfl,Rd.flags a2 r (Mx.rd (S:=λk=>G k\/k∈bs) (λ_=>.inl) (λ_=>.inr) H)⟩
  |_=>simp[cz]at h
 |.int _,z,pos,x,y,cs,bs,h,r,H=>by
  simp only[cz,decide_eq_true_eq]at h;subst h;cases r;exact⟨bs,[],λk=>by simp,H.mono (λ_=>.inl)⟩
 |.bool,z,pos,x,y,cs,bs,h,r,H=>by
  simp only[cz,decide_eq_true_eq]at h;subst h;cases r;exact⟨bs,[],λk=>by simp,H.mono (λ_=>.inl)⟩
 |.str,z,pos,x,y,cs,bs,h,r,H=>by
  simp only[cz,decide_eq_true_eq]at h;subst h;cases r;exact⟨bs,[],λk=>by simp,H.mono (λ_=>.inl)⟩
 |.unit,z,pos,x,y,cs,bs,h,r,H=>by
  simp only[cz,decide_eq_true_eq]at h;subst h;cases r;exact⟨bs,[],λk=>by simp,H.mono (λ_=>.inl)⟩
 |.hdr,z,pos,x,y,cs,bs,h,r,H=>by
  simp only[cz,decide_eq_true_eq]at h;subst h;cases r;exact⟨bs,[],λk=>by simp,H.mono (λ_=>.inl)⟩
theorem jD.mono {w:World}{G G':Nat->Prop}(z:∀ k,G k->G' k){a:Ty}{x:a.den}{ptr:Bool}{v:Value}{bs:List Nat}(h:jD w G a x ptr v bs):jD w G' a x ptr v bs:=by
 unfold jD at h ⊢;split at h
 ·rename_i r;rw[if_pos r];obtain⟨g,c,E,I,u,y,J,M⟩:=h;exact⟨g,c,E,I,u,y,J.mono z,M⟩
 ·rename_i r;rw[if_neg r];obtain⟨H,u,y⟩:=h;exact⟨H,u,y.mono z⟩
theorem bL.mono {w:World}{G G':Nat->Prop}(y:∀ k,G k->G' k):∀ {ps:List PK} {o:ah ps} {z:List Value} {bs:List (List Nat)},bL w G ps o z bs->bL w G' ps o z bs
 |.io _::_,_,_::_,_::_,⟨u,r⟩=>⟨u.mono y,bL.mono y r⟩
 |.iop _::_,_,_::_,_::_,⟨u,r⟩=>⟨u.mono y,bL.mono y r⟩
 |.rd _::_,_,_::_,_::_,⟨u,r⟩=>⟨u,bL.mono y r⟩
 |.own _::_,_,_::_,_::_,⟨u,r⟩=>⟨u,bL.mono y r⟩
 |.rref _::_,_,_::_,_::_,⟨u,r⟩=>⟨u,bL.mono y r⟩
 |.rref2 _::_,_,_::_,_::_,⟨u,r⟩=>⟨u,bL.mono y r⟩
 |.fn _ _::_,_,_::_,_::_,⟨u,r⟩=>⟨u,bL.mono y r⟩
 |.clo _ _::_,_,_::_,_::_,⟨u,r⟩=>⟨u,bL.mono y r⟩
 |.hol _ _ _::_,_,_::_,_::_,⟨u,r⟩=>⟨u,bL.mono y r⟩
 |[],_,[],[],_=>trivial
 |[],_,_::_,_,h=>by simp[bL]at h
 |[],_,[],_::_,h=>by simp[bL]at h
 |p::_,_,[],_,h=>by cases p <;> exact h.elim
 |p::_,_,_::_,[],h=>by cases p <;> exact h.elim
theorem p8.mono {w:World}{G G' ro ro':Nat->Prop}(I:∀ k,G k->G' k)(J:∀ k,G k\/ro k->G' k\/ro' k):∀ {r:RK} {y:r.den} {v:Value} {bs:List Nat},p8 w G ro r y v bs->p8 w G' ro' r y v bs
 |.v _,_,_,_,⟨H,u,z⟩=>⟨H,u,z.mono I⟩
 |.bv _,_,_,_,⟨e,H,u,z⟩=>⟨e,H,u,z.mono J⟩
 |.box _,_,_,_,⟨g,c,E,M,u,z,O,R⟩=>⟨g,c,E,M,u,z,O.mono I,R⟩
theorem gz.mono {w:World}{G G' ro ro':Nat->Prop}(M:∀ k,G k->G' k)(J:∀ k,G k\/ro k->G' k\/ro' k):∀ {I:List RK} {y:ai I} {us:List Value} {z:List (List Nat)},gz w G ro I y us z->gz w G' ro' I y us z
 |[],_,_,_,h=>h
 |_::_,_,_,_,⟨u,H,b,r,Y,R,O,X⟩=>⟨u,H,b,r,Y,R,O.mono M J,gz.mono M J X⟩
theorem bO.thin {P:Program}{f:FuncId}{a a':Ty}{ps:List PK}{rs:List RK}{fr:Bool}{a5:ab (.own a::ps)->Option (ai rs×ah (.own a::ps))}{X:ab (.own a'::ps)->Option (ai rs×ah (.own a'::ps))}
  (h:bO P ⟨f,.own a::ps,rs,fr,a5⟩) (ht:cz a' a=true) (cv:a'.den->a.den) (ba:∀ x,HEq x (cv x)) (hd:∀ x,X x=a5 (cv x.1,x.2)):bO P ⟨f,.own a'::ps,rs,fr,X⟩:=by
 refine⟨h.1,λw ro x vs c3 y Z a3 a6 hy=>?_⟩;obtain⟨x1,xr⟩:=x;obtain⟨v,b5,b,u,rfl,rfl,⟨cs,c2,hm⟩,a0⟩:=Z;obtain⟨R,M,O,bn⟩:=Mx.thin ht (ba x1) hm;have a2:=hm.lt;rw[bu]at a6;have Y:∀ k,R.count k+M.count k+u.flatten.count k<=1:=λk=>by
  have:=a6 k;rw[CA,BP,O k]at this;exact this
 have hb:∀ k,k∈b<->k∈R\/k∈M:=λk=>by
  rw[<- BU,<- BU,<- BU,O k];omega
 have z:∀ k,k∈(R::u).flatten->k∈(b::u).flatten:=λk r=>by
  rw[CA,BV]at r ⊢;exact r.imp (λh=>(hb k).2 (.inl h)) id
 have ad:∀ k,k∈M->k∉(R::u).flatten:=λk r H=>by
  have h1:=Y k;have h2:=BU.2 r;have h3:=BU.2 H;rw[CA,BP]at h3;omega
 have b0:∀ k,k∈M->k∈(b::u).flatten:=λk r=>by
  rw[CA,BV];exact .inl ((hb k).2 (.inr r))
 have J:c9 P w (λk=>ro k\/k∈M) (λk=>k<w.heap.size/\k∉(R::u).flatten) (.own a::ps) (cv x1,xr) (v::b5) (R::u) :=
  ⟨v,b5,R,u,rfl,rfl,⟨cs,by rw[<- zy ht];exact c2,bn⟩,a0.mono (λ_=>.inl) (λk r=>⟨r.1,λh=>r.2 (z k h)⟩)⟩
 refine (h.2 w _ _ _ _ y J (λk r=>?_) ?_ (by rw[<- hy];exact (hd (x1,xr)).symm)).mono λe w' hp=>?_
 ·rcases r with r|r
  ·exact⟨(a3 k r).1,λh=>(a3 k r).2 (z k h)⟩
  ·exact⟨a2 k ((hb k).2 (.inr r)),ad k r⟩
 ·rw[bu];intro k;have:=Y k;show ((R::u).flatten).count k<=1;rw[CA,BP];omega
 ·obtain⟨v',us,N,a1,bl,h1,a4,b9,c0,bb,bx,c1,hN,hO,b4,a9,I⟩:=hp;have hG:∀ k,(N k\/fr=false/\(ro k\/k∈M))->((N k\/k∈M)\/fr=false/\ro k):=λk r=>by
   rcases r with r|⟨r,H|H⟩
   ·exact .inl (.inl r)
   ·exact .inr ⟨r,H⟩
   ·exact .inl (.inr H)
  refine⟨v',us,λk=>N k\/k∈M,a1,bl,h1,a4,b9,c0,bb,bx,λk r hn=>c1 k r (λh=>hn (z k h)),λk r=>?_,?_,?_,a9,λk r=>?_⟩
  ·rcases r with r|r
   ·exact⟨(hN k r).1,(hN k r).2.imp id (z k)⟩
   ·exact⟨CU (a2 k ((hb k).2 (.inr r))) b9,.inr (b0 k r)⟩
  ·match a1,hO with
   |b3::a1,hO=>exact⟨hO.1,bL.mono hG hO.2⟩
   |[],hO=>exact hO.elim
  ·refine gz.mono hG (λk r=>?_) b4;rcases r with r|r|r
   ·exact .inl (hG k r)
   ·exact .inr r
   ·exact .inl (.inl (.inr r))
  ·obtain⟨h5,h6⟩:=I k r;refine⟨⟨h5.1,h5.2.imp id (z k)⟩,λh=>h.elim h6 (λh=>?_)⟩;rcases h5.2 with h7|h7
   ·have:=a2 k ((hb k).2 (.inr h));omega
   ·exact ad k h h7
end Go.Proofs.YtaegajachoklkaaGreatEv
