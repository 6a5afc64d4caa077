/- One operation: boxes made, boxes written. -/
import Derived.Test.YtaegajachoklkaaGreatE0
import Derived.Deep.MidRow
import Derived.Great.FillDense
set_option linter.unusedVariables false
set_option linter.unusedSimpArgs false
open Array renaming toArray_toList->BW,length_toList->Ba,getElem?_toList->CQ,toList_append->CX,size_append->Cf,toList_map->Co,ext'->C4
open Bool renaming and_eq_true->AV,not_eq_true'->BR,or_eq_false_iff->CV,or_eq_true->Cx
open Go.Addr.mk renaming injEq->CC
open Go.Builtin renaming append_->Bb,firstCells->B9,lenOf->CD,zeroCells->Ck
open Go.Instr renaming sliceBounds->Ci,storeAt->C6
open Go.Result renaming andThen_ok->CA
open Go.Sem renaming run_bind->Ce
open Go.Value renaming ownBlock->BV
open Go.Value.slice renaming injEq->BZ
open Go.World renaming setCells->CR,alloc_eq->CU,drew_eq->CY,freeze->Cg,alloc->Cs,drew->C0
open Iff renaming rfl->CI
open Int renaming toNat_natCast->Cd
open List renaming getElem?_eq_some_iff->AW,mem_append_right->AX,count_append->AY,getElem?_append_right->AZ,getElem?_append_left->BA,mem_append_left->BC,count_pos_iff->BD,mem_append->BE,range->BH,mem_cons_of_mem->BI,append_assoc->BJ,length_append->BK,getElem?_eq_getElem->BL,eq_nil_of_length_eq_zero->BO,mem_cons_self->BP,flatten_cons->BQ,count_eq_zero->BS,append_nil->BT,length_take->BU,any_eq_false->BY,getElem?_take->Be,getD_eq_getElem?_getD->Bf,nodup_append->Bh,replicate->Bj,nodup_cons->Bl,length_set->Bm,flatMap_cons->Bo,getElem?_set_ne->Bp,mem_cons->Bs,getElem?_drop->Bt,getElem?_cons_zero->Bu,getElem?_replicate->Bv,size_toArray->Bw,getElem?_set_self->Bx,any_cons->B3,length_nil->B4,length_map->B5,length_drop->CE,length_cons->CF,mem_map->CL,count_cons->CM,singleton_append->CO,length_replicate->CP,mem_range->CS,all_cons->CZ,map_nil->Cc,map_map->Ch,isEmpty_iff->Cl,flatMap_map->Cm,cons_append->Cp,length->Ct,map_append->Cu,nil_append->Cy,nodup_nil->Cz,take_left->C3,map_cons->C7
open List.cons renaming injEq->B6
open Nat renaming eq_of_beq_eq_true->BB,lt_succ_self->BF,mul_le_mul_right->BG,beq->BM,le_refl->BN,succ_mul->Bc,add_zero->Bg,le_trans->Bi,lt_of_lt_of_le->Bk,le_of_ble_eq_true->Bn,zero_add->Br,ble_eq_true_of_le->By,le_add_right->Bz,mul_le_mul_left->B7,blt_eq->B8,add_mul->CB,le_of_eq->CG,ble->CH,mul_comm->CJ,sub_zero->CK,mul_one->CT,blt->CW,eq_zero_or_pos->Cb,zero_mul->Cj,mod_eq_of_lt->Cn,le_succ->Cq,zero_le->Cr,mul_add_mod->Cv,add_assoc->C5
open Ne renaming symm->Bq
open Option renaming map_eq_some_iff->AU,bind_eq_some_iff->BX,map_none->CN,toList_some->Ca,map_some->Cw
open Option.some renaming injEq->AT
open Prod renaming ext->C8
open Prod.mk renaming injEq->Bd
namespace Go.Proofs.YtaegajachoklkaaGreatEv
open Go Go.RowKit
section
variable {P:Program} {V:Env} {Γ:List Ctr} {T:TypeId->TI} {st:St} {o:Oper} {R:Type} {κ:Upd->Option R} {r:R}
theorem mK {q u:Nat}(h:q≠u)(c y:bL)(st:St):ac [(q,c)] (ac [(u,y)] st)=ac [(u,y)] (ac [(q,c)] st):=by
 funext k;rcases aj q k c (ac [(u,y)] st) with ⟨rfl,e⟩|⟨I,e⟩
 ·rw[e,aH h,bg]
 ·rw[e];rcases aj u k y st with ⟨rfl,z⟩|⟨H,z⟩
  ·rw[z,bg]
  ·rw[z,aH H,aH I]
theorem an.boxed (hV:ax V){W:Wit}{a:Act}{w:World}(h:an P V W st a w)(d:Nat)(hd:d<V.nt)(I:∀ x∈V.fixt,x.1≠d)(J:(st (B0+d)).sh=.off)(ls:List Leaf)
  (y:List Value) (z:Nat->List Nat) (E:TypeId)
  (hl:ls.length=y.length) (h1:∀ u∈y,u.oneCell'=true)
  (H:∀ (j:Nat) (l:Leaf) (u:Value),ls[j]?=some l->y[j]?=some u->aI P V W st w (z j) l u)
  (M:∀ (j:Nat) (l:Leaf),ls[j]?=some l->am l->∀ k∈z j,¬ W.nw k/\¬ V.prot k/\k<w.heap.size/\(∀ b,live st b->W.β b≠k) /\
   ∀ (r1 Y:Nat) (Z:Leaf),(st r1).ls[Y]?=some Z->am Z->k∉W.bs r1 Y)
  (O:∀ (j j':Nat) (l l':Leaf),ls[j]?=some l->am l->ls[j']?=some l'->am l'->∀ k,k∈z j->k∈z j'->j=j') :
  Rel P V (ac ((B0+d,⟨(st (B0+d)).ver+1,.agg,ls⟩)::[(d,⟨(st d).ver+1,.one,[.bp (B0+d) 0]⟩)]) st) (a.put (some d) (.pointer (some ⟨w.heap.size,0,none⟩))) (w.alloc (.cells y.toArray E)):=by
 have X:B0+d≠d:=by simp[B0]
 have a0:¬ live st (B0+d):=by simp[live,J]
 have h2:=h.setBox hV (B0+d) (Bz _ _) ((st (B0+d)).ver+1) ls y z w.heap.size E (w':=w.alloc (.cells y.toArray E)) (BF _) (.inr ⟨a0,BN _⟩)
  (heap_alloc_new w _) (λk hk _=>Go.heap_alloc_old w _ hk) (by simp) rfl rfl rfl hl h1 H (λj l hj ho k hk=>by
   obtain⟨h3,h4,h5,h6,h7⟩:=M j l hj ho k hk;exact⟨h3,h4,h5,h6,λr1 Y Z _=>h7 r1 Y Z⟩) O
 rw[aN,mK X];refine h2.putLs hV d hd I _ .one [.bp (B0+d) 0] _ [.pointer (some ⟨w.heap.size,0,none⟩)] ?_ rfl ⟨⟨⟨Bz _ _,by rw[bg],by simp⟩,id,rfl⟩,trivial⟩;rw[aH (Bq X)];omega
theorem tY {t:TypeId}(I:TOk P T)(H:(T t).cells≠0)(w:World):∃ z y,(zeroValue t).run P w=.ok z w/\z.cells=y.toArray/\∀ (V:Env) (W:Wit) (st:St),aC P V W st w (T t).zero y:=by
 have h:=I t;cases u:T t with
 |none=>rw[u]at H;exact absurd rfl H
 |int k=>rw[u]at h;exact⟨_,[.int k 0],fX h.2.2 w,rfl,λV W st=>⟨⟨rfl,id,rfl⟩,trivial⟩⟩
 |bool=>rw[u]at h;exact⟨_,[.bool false],fX h.2.2 w,rfl,λV W st=>⟨⟨rfl,id,rfl⟩,trivial⟩⟩
 |str=>rw[u]at h;exact⟨_,[.string ByteArray.empty],fX h.2.2 w,rfl,λV W st=>⟨⟨rfl,id,rfl⟩,trivial⟩⟩
 |slice E e b=>rw[u]at h;exact⟨_,[.slice none 0 0],fX h.2.2.1 w,rfl,λV W st=>⟨⟨rfl,id,rfl⟩,trivial⟩⟩
 |struct a J=>rw[u]at h;exact⟨_,zeroCells a,fX h.2.2.1 w,rfl,λV W st=>lh a⟩
 |arr e n=>rw[u]at h;exact⟨_,(Bj n (zeroCells e)).flatten,fX h.2.2.2 w,rfl,λV W st=>ot e n⟩
 |ptr=>rw[u]at h;exact⟨_,[.pointer none],fX h.2.2 w,rfl,λV W st=>⟨⟨trivial,id,rfl⟩,trivial⟩⟩
 |fn=>rw[u]at h;exact⟨_,[.nilFunc],fX h.2.2 w,rfl,λV W st=>⟨⟨trivial,id,rfl⟩,trivial⟩⟩
theorem xg (hV:ax V)(hT:TOk P T)(y:bH V o){t:TypeId}(J:o.op=.alloc t)(h:act Γ T o st κ=some r):bR P V o st κ r:=by
 simp only[act,J]at h;split at h
 ·rename_i d M;cases H:decide ((st (B0+d)).sh=.off)&&!decide ((T t).cells=0) with
  |false=>simp[H]at h
  |true =>
   simp only[H]at h;simp at H;refine⟨_,h,λW a w hr next Q Z=>?_⟩;obtain⟨z,X,hz,hc,I⟩:=tY hT H.2 w;have I:=I V W st;refine dH (v:=.pointer (some ⟨w.heap.size,0,none⟩)) (w':=w.alloc (.cells X.toArray t)) ?_ ?_
   ·simp[execOp,J,Instr.alloc,hz,newVar,newRow,hc]
   ·rw[M];refine Z _ _ ?_;exact hr.boxed hV d (y d M).1 (y d M).2 H.1 _ X (λ_=>[]) t I.length I.one' (λj l u h1 Y=>(I.at_ j l u h1 Y).1) (λ_ _ _ _ k O=>by simp at O) (λ_ _ _ _ _ _ _ _ k O=>by simp at O)
 ·grind
theorem zM (hV:ax V)(I:bH V o){t:TypeId}{x:Operand}(a0:o.op=.box t x)(h:act Γ T o st κ=some r):bR P V o st κ r:=by
 simp only[act,a0]at h;split at h
 ·rename_i d M;cases hb:decide ((st (B0+d)).sh=.off)&&decide ((ar st x).2.length=(T t).cells)&&decide ((ar st x).1=be (T t).agg)&&gQ st (ar st x).2 with
  |false=>simp[hb]at h
  |true =>
   simp only[hb]at h;simp at hb;obtain⟨⟨⟨Z,a2⟩,a1⟩,Y⟩:=hb;have J:∀ (W:Wit) (a:Act) (w:World) (H:List Value),dP (ar st x).1 (a.eval x) H->aC P V W st w (ar st x).2 H ->
     (execOp a.eval o).run P w=.ok (.value (.pointer (some ⟨w.heap.size,0,none⟩))) (w.alloc (.cells H.toArray t)):=by
    intro W a w H O z;rw[a1]at O;have hc:=gF O z.one';simp[execOp,a0,Instr.box,newVar,newRow,hc]
   cases y:rV st x with
   |true =>
    rw[y]at h;refine⟨_,h,λW a w X next Q hn=>?_⟩;obtain⟨H,O,z⟩:=cC X x;refine dH (J W a w H O z) ?_;rw[M];refine hn _ _ ?_;exact X.boxed hV d (I d M).1 (I d M).2 Z _ H (λ_=>[]) t z.length z.one' (λj l u h1 h2=>(z.at_ j l u h1 h2).1) (λ_ _ _ _ k hk=>by simp at hk) (λ_ _ _ _ _ _ _ _ k hk=>by simp at hk)
   |false =>
    rw[y]at h;refine⟨_,h,λW a w X next Q hn=>?_⟩;obtain⟨H,O,z⟩:=cC X x;obtain⟨h1,h2,h3,h4,h5⟩:=om hV X z Y;have h6:=yN hV X z Y;refine dH (J W a w H O z) ?_;rw[M];refine hn _ _ ?_;have:=h1.boxed hV d (I d M).1 (I d M).2 (by rw[(h6 _).1];exact Z) _ H (c9 W (ar st x).2) t h2 z.one' h3 h4 h5;exact this
 ·grind
theorem jq (b:Nat)(E:TypeId):∀ (u:List Value) (k o:Nat) (w:World) (cur:Array Value) {mk:Nat×Nat},w.heap[b]?=some (.cells cur E mk) ->
  (w.setCells b (o+k) u).heap[b]?=some (.cells ((u.zipIdx k).foldl (λy (x:Value×Nat)=>y.setIfInBounds (o+x.2) x.1) cur) E mk)
 |[],_,_,_,_,_,h=>h
 |v::u,k,o,w,cur,mk,h=>by
  have:=jq b E u (k+1) o (w.setCell ⟨b,o+k,none⟩ v) _ (by rw[setCell_eq_setRow w b (o+k) cur E mk v h];exact setRow_heap w b cur _ E mk h);simpa[CR,C5]using this
theorem el (b:Nat):∀ (u:List Value) (o:Nat) (w:World) (k:Nat),k≠b->(w.setCells b o u).heap[k]?=w.heap[k]?
 |[],_,_,_,_=>rfl
 |v::u,o,w,k,h=>by
  rw[CR,el b u (o+1) _ k h];exact heap_setCell_other w ⟨b,o,none⟩ k v h
theorem jr (b:Nat):∀ (u:List Value) (o:Nat) (w:World),(w.setCells b o u).os=w.os/\(w.setCells b o u).tape=w.tape/\(w.setCells b o u).output=w.output/\(w.setCells b o u).heap.size=w.heap.size
 |[],_,_=>⟨rfl,rfl,rfl,rfl⟩
 |v::u,o,w=>by
  obtain⟨I,z,y,H⟩:=jr b u (o+1) (w.setCell ⟨b,o,none⟩ v);exact⟨I,z,y,by rw[CR,H];simp⟩
theorem mL {t:TypeId}{n:Nat}(z:bJ P t n){w:World}{b off:Nat}{cur:List Value}{E:TypeId}{mk:Nat×Nat}(J:w.heap[b]?=some (.cells cur.toArray E mk))(I:mk.2=0\/cur.length<=mk.1){v:Value}{cs:List Value}
  (Y:v.cells=cs.toArray) (Z:cs.length=n) (O:∀ u∈cs,u.oneCell'=true) (a0:off+cs.length<=cur.length) :
  (C6 t (.pointer (some ⟨b,off,none⟩)) v).run P w=.ok () (w.setCells b off cs):=by
 have y:∀ j,j<cs.length->(w.cell? ⟨b,off+j,none⟩).isSome=true:=by
  intro j H;rw[cell_of_row w b _ _ E mk J]
  grind
 have M:=run_storeCells_cells (P:=P) b off cs 0 w (λj H=>y j H) (λj H=>qA J (by simpa using I) (by simp;omega)) O;have X:=da z w;simp[C6,Instr.sureAddr,storeVar,X,Y,Z,M]
theorem sZ (hV:ax V)(hT:TOk P T){t:TypeId}{x y:Operand}{b off:Nat}(bb:o.op=.store t x y)(hd:o.dst=none)(hx:one st x=.bp b off)
  (c2:(ar st y).2.length=(T t).cells) (b9:(ar st y).1=be (T t).agg) (b0:(T t).cells≠0) (a9:(st b).sh=.agg) (c3:off+(ar st y).2.length<=(st b).ls.length) (a3:gQ st (ar st y).2=true)
  {W:Wit} {a:Act} {w:World} (hr:an P V W st a w) :
  mr P V o st ((b,⟨(ac (mvU st (ar st y).2) st b).ver+1,.agg,jf (ac (mvU st (ar st y).2) st b).ls (dt st (ar st y).2) off⟩)::mvU st (ar st y).2) a w:=by
 intro next Q hn;obtain⟨I,hs,hl⟩:=cC hr y;rw[b9]at hs;have hc:=gF hs hl.one';obtain⟨h1,h2,h3,h4,h5⟩:=om hV hr hl a3;have h6:=yN hV hr hl a3;obtain⟨hp,_,_,_⟩:=bk hr x (by rw[hx];simp);rw[hx]at hp;obtain⟨hB,_,hv⟩:=hp;have bn:T t≠.none:=by intro e;rw[e]at b0;exact b0 rfl
 rcases hr.boxes b hB with ⟨h8,_⟩|⟨_,E,h8⟩
 ·rw[a9]at h8;cases h8
 ·have b5:=hl.length;have c4:=hr.len b;have c1:(ac (mvU st (ar st y).2) st b).ls.length=(W.cs b).length:=h1.len b;have ad:off+I.length<=(W.cs b).length:=by omega
  have b1:=mL (oo (hT t) bn) h8 (.inl rfl) hc (by omega) hl.one' ad;refine o9 (w':=w.setCells (W.β b) off I) (by simp[execOp,bb,hv,b1]) ?_;rw[hd];refine hn _ _ ?_;rw[aN];obtain⟨e1,e2,e3,e4⟩:=jr (W.β b) I off w;have a0:=jq (W.β b) E I 0 off w _ h8;rw[kI (W.cs b) I off ad]at a0;simp only[Bg]at a0;have bl:live (ac (mvU st (ar st y).2) st) b:=⟨hB,by rw[(h6 b).1];exact a9⟩;have b4:(dt st (ar st y).2).length=I.length:=h2;have M:∀ (j:Nat) (l:Leaf),(jf (ac (mvU st (ar st y).2) st b).ls (dt st (ar st y).2) off)[j]?=some l ->
    (off<=j/\j<off+I.length/\(dt st (ar st y).2)[j-off]?=some l)\/((j<off\/off+I.length<=j)/\(ac (mvU st (ar st y).2) st b).ls[j]?=some l):=by
   intro j l hj;unfold jf at hj;rw[b4]at hj;by_cases Z:j<off
   ·rw[BJ,BA (by simp;omega),Be,if_pos Z]at hj;exact .inr ⟨.inl Z,hj⟩
   ·by_cases J:j<off+I.length
    ·rw[BJ,AZ (by simp;omega),BA (by simp;omega)]at hj;refine .inl ⟨by omega,J,?_⟩;rw[<- hj];congr 1;simp;omega
    ·rw[AZ (by simp;omega),Bt]at hj;refine .inr ⟨.inr (by omega),?_⟩;rw[<- hj];congr 1;simp;omega
  have a2:∀ (j:Nat),((W.cs b).take off++I++(W.cs b).drop (off+I.length))[j]?=if off<=j/\j<off+I.length then I[j-off]? else (W.cs b)[j]?:=by
   intro j;by_cases Z:j<off
   ·rw[BJ,BA (by simp;omega),Be,if_pos Z,if_neg (by omega)]
   ·by_cases J:j<off+I.length
    ·rw[BJ,AZ (by simp;omega),BA (by simp;omega),if_pos ⟨by omega,J⟩];congr 1;simp;omega
    ·rw[AZ (by simp;omega),Bt,if_neg (by omega)];congr 1;simp;omega
  refine⟨_,h1.setBox hV b hB _ _ ((W.cs b).take off++I++(W.cs b).drop (off+I.length)) (λj=>if off<=j/\j<off+I.length then c9 W (ar st y).2 (j-off) else W.bs b j) (W.β b) E
   (BF _) (.inl ⟨bl,rfl⟩) a0 (λk _ X=>el (W.β b) I off w k X) (CG e4.symm) e1 e2 e3 ?_ ?_ ?_ ?_ ?_⟩
  ·simp only[jf,BK,BU,CE];omega
  ·intro u hu;simp only[BE]at hu;rcases hu with (hu|hu)|hu
   ·exact hr.one b u (List.mem_of_mem_take hu)
   ·exact hl.one' u hu
   ·exact hr.one b u (List.mem_of_mem_drop hu)
  ·intro j l u hj hu;rw[a2]at hu;rcases M j l hj with ⟨Z,J,H⟩|⟨Z,H⟩
   ·rw[if_pos ⟨Z,J⟩]at hu;simp only[if_pos (⟨Z,J⟩:off<=j/\j<off+I.length)];exact h3 _ l u H hu
   ·have z:¬ (off<=j/\j<off+I.length):=by omega
    rw[if_neg z]at hu;simp only[if_neg z];exact h1.leaf b j l u H hu
  ·intro j l hj ho k X;rcases M j l hj with ⟨Z,J,H⟩|⟨Z,H⟩
   ·simp only[if_pos (⟨Z,J⟩:off<=j/\j<off+I.length)]at X;obtain⟨q1,q2,q3,q4,q5⟩:=h4 _ l H ho k X;exact⟨q1,q2,q3,q4,λr1 j1 l1 _=>q5 r1 j1 l1⟩
   ·have z:¬ (off<=j/\j<off+I.length):=by omega
    simp only[if_neg z]at X;obtain⟨q1,q2,q3⟩:=h1.ownb b j l H ho k X;exact⟨q1,q2,h1.own_lt H ho k X,q3,λr1 j1 l1 ba c0 b3 b2=>ba (h1.sep b j l r1 j1 l1 H ho c0 b3 k X b2).1.symm⟩
  ·intro j j' l l' hj ho bx a1 k X Y;rcases M j l hj with ⟨Z,J,H⟩|⟨Z,H⟩ <;> rcases M j' l' bx with ⟨a5,a4,O⟩|⟨a5,O⟩
   ·simp only[if_pos (⟨Z,J⟩:off<=j/\j<off+I.length)]at X;simp only[if_pos (⟨a5,a4⟩:off<=j'/\j'<off+I.length)]at Y;have:=h5 _ _ l l' H ho O a1 k X Y;omega
   ·have z:¬ (off<=j'/\j'<off+I.length):=by omega
    simp only[if_pos (⟨Z,J⟩:off<=j/\j<off+I.length)]at X;simp only[if_neg z]at Y;exact absurd Y ((h4 _ l H ho k X).2.2.2.2 b j' l' O a1)
   ·have z:¬ (off<=j/\j<off+I.length):=by omega
    simp only[if_neg z]at X;simp only[if_pos (⟨a5,a4⟩:off<=j'/\j'<off+I.length)]at Y;exact absurd X ((h4 _ l' O a1 k Y).2.2.2.2 b j l H ho)
   ·have z:¬ (off<=j/\j<off+I.length):=by omega
    have a6:¬ (off<=j'/\j'<off+I.length):=by omega
    simp only[if_neg z]at X;simp only[if_neg a6]at Y;exact (h1.sep b j l b j' l' H ho O a1 k X Y).2
end
theorem bm {l:List Nat}:l.Nodup<->∀ k,l.count k<=1:=by
 induction l with
 |nil=>simp
 |cons a l z =>
  rw[Bl,z];constructor
  ·rintro⟨r,u⟩ k;rw[CM];by_cases y:a=k
   ·subst y;have:l.count a=0:=BS.2 r;simp[this]
   ·have:=u k;simp[y,this]
  ·intro h;refine⟨λH=>?_,λk=>?_⟩
   ·have r:=h a;have u:0<l.count a:=BD.2 H;rw[CM]at r;simp at r;omega
   ·have:=h k;rw[CM]at this;omega
theorem pG {n:Nat}(r:Nat->List Nat)(k:Nat):((BH n).flatMap r).count k=((BH n).map λj=>(r j).count k).sum:=by
 generalize BH n=l;induction l with
 |nil=>rfl
 |cons a l u=>simp[AY,u]
theorem ka {n i:Nat}(H:i<n)(r:Nat->List Nat)(b:List Nat)(k:Nat) :
  ((BH n).flatMap λj=>if j=i then b else r j).count k+(r i).count k=((BH n).flatMap r).count k+b.count k:=by
 rw[pG,pG];induction n with
 |zero=>omega
 |succ n y =>
  rw[List.range_succ];simp only[Cu,C7,Cc,List.sum_append,List.sum_cons,List.sum_nil];by_cases u:i=n
  ·subst u;have:(BH i).map (λj=>List.count k (if j=i then b else r j))=(BH i).map λj=>(r j).count k:=by
    refine List.map_congr_left λj z=>?_
    rw[if_neg (by have:=CS.1 z;omega)]
   rw[this,if_pos rfl];omega
  ·have:=y (by omega);rw[if_neg (λe=>u e.symm)];omega
theorem mM {bs bs' K:List Nat}(z:bs.Nodup)(y:K.Nodup)(I:∀ k∈K,k∉bs)(h:∀ k,bs'.count k<=bs.count k+K.count k):bs'.Nodup/\∀ k∈bs',k∈bs\/k∈K:=by
 rw[bm]at z y;refine⟨bm.2 λk=>?_,λk r=>?_⟩
 ·have J:=h k;have H:=z k;have u:=y k;by_cases r:k∈K
  ·have:bs.count k=0:=BS.2 (I k r);omega
  ·have:K.count k=0:=BS.2 r;omega
 ·have J:=h k;have H:0<bs'.count k:=BD.2 r;by_cases u:k∈bs
  ·exact .inl u
  ·have:bs.count k=0:=BS.2 u;exact .inr (BD.1 (by omega))
theorem Mx.pos {w:World}{G:Nat->Prop}:∀ {a:Ty} {pos r:Nat} {x:a.den} {cs:List Value} {bs:List Nat},Mx w G a none pos x cs bs->Mx w G a none r x cs bs
 |.int _,_,_,_,_,_,h=>h
 |.bool,_,_,_,_,_,h=>h
 |.str,_,_,_,_,_,h=>h
 |.unit,_,_,_,_,_,h=>h
 |.hdr,_,_,_,_,_,h=>h
 |.pair _ _,_,_,_,_,_,⟨J,O,z,y,R,M,I,u⟩=>⟨J,O,z,y,R,M,Mx.pos I,Mx.pos u⟩
 |.list m E e,_,_,_,_,_,H=>by
  cases m with
  |false=>rw[cg]at H ⊢;exact H
  |true=>rw[bB (by simp)]at H ⊢;exact H
section
variable {P:Program} {V:Env} {W:Wit} {st:St} {w w':World} {a:Act}
theorem Mx.scalar {G:Nat->Prop}{b:Ty}{hol:Option Nat}{pos:Nat}{x:b.den}{cs:List Value}{S:Nat->Prop}(r:b.flat=true)(h:Rd w S b x cs):Mx w G b hol pos x cs []:=Mx.flat r h
theorem lr (h:an P V W st a w):∀ (b:Ty) (pos:Nat) (ls:List Leaf) (cs:List Value) (t:ct b.den),aC P V W st w ls cs->take st b ls=some t ->
  ∃ J O M,cs=J++O/\ls=M++t.rest/\aC P V W st w M J/\aC P V W st w t.rest O/\Mx w (bi V W t.p t.frz) b none pos t.val J (aS W t.kill) /\
   (∀ x∈t.frz,aB st x)/\(∀ x∈t.kill,aB st x)
 |.pair b c,pos,ls,cs,t,H,z=>by
  simp only[take]at z;split at z
  ·rename_i u hb;split at z
   ·rename_i v hc;simp only[AT]at z;subst z;obtain⟨J,O,M,e1,e2,h1,Y,X,h4,h5⟩:=lr h b pos ls cs u H hb;obtain⟨c3,c4,l2,e3,e4,h6,h7,h8,h9,a0⟩:=lr h c (pos+b.cells) u.rest O v Y hc;refine⟨J++c3,c4,M++l2,by rw[e1,e3,BJ],by rw[e2,e4,BJ],h1.append h6,h7,⟨J,c3,_,_,rfl,du W _ _,?_,?_⟩,?_,?_⟩
    ·refine X.mono λk I=>?_
     rcases I with I|⟨y,hy,I⟩
     ·exact .inl (bP (by intro h;simp[h]) (λ_ h=>h) k I)
     ·exact .inr ⟨y,BC _ hy,I⟩
    ·refine h8.mono λk I=>?_
     rcases I with I|⟨y,hy,I⟩
     ·exact .inl (bP (by intro h;simp[h]) (λ_ h=>h) k I)
     ·exact .inr ⟨y,AX _ hy,I⟩
    ·intro x R;exact (BE.1 R).elim (h4 x) (h9 x)
    ·intro x R;exact (BE.1 R).elim (h5 x) (a0 x)
   ·cases z
  ·cases z
 |.unit,pos,ls,cs,t,H,z=>by
  simp only[take,AT]at z;subst z;exact⟨[],cs,[],rfl,rfl,trivial,H,⟨rfl,rfl⟩,by simp,by simp⟩
 |.list m E e,pos,ls,cs,t,H,z=>by
  cases ls with
  |nil=>simp[take]at z
  |cons l ls =>
   cases cs with
   |nil=>exact H.elim
   |cons v cs =>
    cases m with
    |false =>
     simp only[take,cond_false]at z;split at z
     ·rename_i p xs ha;simp only[AT]at z;subst z;refine⟨[v],cs,[l],rfl,rfl,⟨H.1,trivial⟩,H.2,cg.2 ⟨rfl,kk h H.1.1 H.1.2.1 ha⟩,λx R=>dU (cs:=[v]) (ls:=[l]) ⟨H.1,trivial⟩ R,by simp⟩
     ·cases z
    |true =>
     simp only[take,cond_true]at z;split at z
     ·rename_i r j n;split at z
      ·rename_i p E' e' xs hd;simp only[AU]at z;obtain⟨ys,hc,rfl⟩:=z;obtain⟨rfl,rfl,rfl⟩:=jo hc;obtain⟨h1,Y,X,h4⟩:=jQ h hd H.1.1;refine⟨[v],cs,[_],rfl,rfl,⟨H.1,trivial⟩,H.2,(bB (by simp)).2 ⟨v,rfl,?_⟩,by simp,?_⟩
       ·have:aS W [(r,j)]=W.bs r j:=by simp[aS]
        show OwB w _ none E' e' xs v (aS W [(r,j)]);rw[this];exact Y.2.carry (λk I=>.inl I) (λ_ _=>rfl) (λ_ _=>rfl)
       ·intro x R;simp only[List.mem_singleton]at R;subst R;exact⟨_,X,trivial⟩
      ·cases z
     ·simp only[AT]at z;subst z;have X:v=.slice none 0 0:=H.1.1;refine⟨[v],cs,[_],rfl,rfl,⟨H.1,trivial⟩,H.2,(bB (by simp)).2 ⟨v,rfl,?_⟩,by simp,by simp⟩;rw[X];exact (OwH.nil w _ E e).2
     ·cases z
 |.int k,pos,ls,cs,t,H,z=>take_scalar h (b:=.int k) rfl H z
 |.bool,pos,ls,cs,t,H,z=>take_scalar h (b:=.bool) rfl H z
 |.str,pos,ls,cs,t,H,z=>take_scalar h (b:=.str) rfl H z
 |.hdr,pos,ls,cs,t,H,z=>take_scalar h (b:=.hdr) rfl H z
where
 take_scalar (h:an P V W st a w) {b:Ty} {pos:Nat} {ls:List Leaf} {cs:List Value} {t:ct b.den} (hf:b.flat=true) (H:aC P V W st w ls cs) (z:(aX st b ls).map (λx=>(⟨false,x.2.1,[],[],x.2.2⟩:ct b.den))=some t) :
   ∃ J O M,cs=J++O/\ls=M++t.rest/\aC P V W st w M J/\aC P V W st w t.rest O/\Mx w (bi V W t.p t.frz) b none pos t.val J (aS W t.kill) /\
    (∀ x∈t.frz,aB st x)/\(∀ x∈t.kill,aB st x):=by
  simp only[AU]at z;obtain⟨⟨p,x,Z⟩,h1,rfl⟩:=z;obtain⟨J,O,M,e1,e2,Y,X,h4⟩:=kl h b ls cs p x Z H h1;exact⟨J,O,M,e1,e2,Y,X,Mx.flat hf h4,by simp,by simp⟩
theorem dw (h:an P V W st a w){b:Ty}{pos:Nat}{ls:List Leaf}{cs:List Value}{t:ct b.den}(O:aC P V W st w ls cs)(r:b7 st b ls=some t) :
  Mx w (bi V W t.p t.frz) b none pos t.val cs (aS W t.kill)/\(∀ x∈t.frz,aB st x)/\(∀ x∈t.kill,aB st x):=by
 unfold b7 at r;split at r
 ·rename_i p x f k J;simp only[AT]at r;subst r;obtain⟨Y,u,X,y,Z,R,z,I,M,H⟩:=lr h b pos ls cs _ O J;have:u=[]:=by
   cases u with
   |nil=>rfl
   |cons=>exact z.elim
  subst this;simp only[BT]at y;subst y;exact⟨I,M,H⟩
 ·cases r
theorem gA (h:an P V W st a w):∀ {ks:List (Nat×Nat)},aU ks=true->(∀ x∈ks,aB st x)->(aS W ks).Nodup
 |[],_,_=>Cz
 |x::ks,J,M=>by
  simp only[aU,AV,BR,BY]at J;have R:=gA h J.2 (λy H=>M y (BI _ H));show (W.bs x.1 x.2++aS W ks).Nodup;rw[Bh];obtain⟨l,O,z⟩:=M x (BP ..);refine⟨?_,R,λk hk k' r e=>?_⟩
  ·have Y:x.2<(W.cs x.1).length:=by rw[<- h.len];exact (AW.1 O).1
   have:=h.leaf x.1 x.2 l _ O (BL Y);cases l <;> simp only[am]at z;exact OwH.nodup this
  ·subst e;obtain⟨y,H,r⟩:=fV.1 r;obtain⟨X,I,u⟩:=M y (BI _ H);obtain⟨e1,Z⟩:=h.sep x.1 x.2 l y.1 y.2 X O z I u k hk r;have:=J.1 y H;rw[e1,Z]at this;simp at this
theorem jE:∀ {b:Ty} {S H:Nat->Prop} {u:Option Nat} {pos:Nat} {y:b.den} {c:List Value} {q:List Nat},b.flat=true->Mx w S b u pos y c q->Rd w H b y c
 |.int _,_,_,_,_,_,_,_,_,h=>h.1
 |.bool,_,_,_,_,_,_,_,_,h=>h.1
 |.str,_,_,_,_,_,_,_,_,h=>h.1
 |.unit,_,_,_,_,_,_,_,_,h=>h.1
 |.hdr,_,_,_,_,_,_,_,_,h=>h.1
 |.pair _ _,_,_,_,_,_,_,_,r,⟨J,M,X,R,O,Y,I,z⟩=>by
  simp only[Ty.flat,AV]at r;exact⟨J,M,O,jE r.1 I,jE r.2 z⟩
 |.list _ _ _,_,_,_,_,_,_,_,r,_=>by simp[Ty.flat]at r
theorem l6 (h:an P V W st a w){G:Nat->Prop}{off n:Nat}{hol I:Option Nat}(a3:∀ k,off<=k->k<off+n->I≠some k)(R:∀ k,¬ (off<=k/\k<off+n)->(I=some k<->hol=some k)) :
  ∀ (b:Ty) (pos:Nat) (x:b.den) (ls:List Leaf) (cs:List Value) (t:ct b.den) (Y:List Value) (z:List Nat),aC P V W st w ls cs->cP st off n b pos x ls=some t->Mx w G b hol pos x Y z ->
  ∃ O c2 c' J,cs=O++c2/\aC P V W st w t.rest c2/\O.length=min (off+n) (pos+b.cells)-max off pos /\
   Mx w (λk=>G k\/bi V W t.p t.frz k) b I pos t.val c' J /\
   (∀ i,i<b.cells->c'[i]?=if off<=pos+i/\pos+i<off+n then O[pos+i-max off pos]? else Y[i]?) /\
   (∀ k,J.count k<=z.count k+(aS W t.kill).count k)/\(∀ x∈t.frz,aB st x)/\(∀ x∈t.kill,aB st x)
 |.pair b c,pos,x,ls,cs,t,Y,z,M,r,⟨d1,d2,b1,b2,e1,e2,a6,b9⟩=>by
  simp only[cP]at r;split at r
  ·rename_i u X;split at r
   ·rename_i v hc;simp only[AT]at r;subst r;obtain⟨O,c2,c',J,f1,f2,f3,f4,f5,f6,f7,f8⟩:=l6 h a3 R b pos x.1 ls cs u d1 b1 M X a6;obtain⟨c3,c4,b0,a1,g1,g2,g3,g4,g5,g6,g7,g8⟩:=l6 h a3 R c (pos+b.cells) x.2 u.rest c2 v d2 b2 f2 hc b9;have b4:=f4.len;have bb:=g4.len;have b3:=a6.len;refine⟨O++c3,c4,c'++b0,J++a1,by rw[f1,g1,BJ],g2,?_,⟨c',b0,J,a1,rfl,rfl,?_,?_⟩,?_,?_,?_,?_⟩
    ·rw[BK,f3,g3];simp only[Ty.cells];omega
    ·refine f4.mono λk H=>?_
     rcases H with H|H|⟨y,hy,H⟩
     ·exact .inl H
     ·exact .inr (.inl (bP (by intro h;simp[h]) (λ_ h=>h) k H))
     ·exact .inr (.inr ⟨y,BC _ hy,H⟩)
    ·refine g4.mono λk H=>?_
     rcases H with H|H|⟨y,hy,H⟩
     ·exact .inl H
     ·exact .inr (.inl (bP (by intro h;simp[h]) (λ_ h=>h) k H))
     ·exact .inr (.inr ⟨y,AX _ hy,H⟩)
    ·intro i hi;simp only[Ty.cells]at hi;rw[e1];by_cases b5:i<b.cells
     ·rw[BA (by omega),f5 i b5];by_cases hr:off<=pos+i/\pos+i<off+n
      ·rw[if_pos hr,if_pos hr,BA (by omega)]
      ·rw[if_neg hr,if_neg hr,BA (by omega)]
     ·rw[AZ (by omega),b4,g5 (i-b.cells) (by omega)];have e3:pos+b.cells+(i-b.cells)=pos+i:=by omega
      rw[e3];by_cases hr:off<=pos+i/\pos+i<off+n
      ·rw[if_pos hr,if_pos hr,AZ (by omega)];congr 1;omega
      ·rw[if_neg hr,if_neg hr,AZ (by omega),b3]
    ·intro k;rw[e2,AY,AY,du,AY];have:=f6 k;have:=g6 k;omega
    ·intro y hy;exact (BE.1 hy).elim (f7 y) (g7 y)
    ·intro y hy;exact (BE.1 hy).elim (f8 y) (g8 y)
   ·cases r
  ·cases r
 |.unit,pos,x,ls,cs,t,Y,z,M,r,hm=>by
  simp only[cP,AT]at r;subst r;refine⟨[],cs,[],[],rfl,M,by simp only[Ty.cells,B4];omega,⟨rfl,rfl⟩,λi hi=>by simp[Ty.cells]at hi,λk=>by simp,by simp,by simp⟩
 |.hdr,pos,x,ls,cs,t,Y,z,M,r,hm=>by simp[cP]at r
 |.int k,pos,x,ls,cs,t,Y,z,M,r,hm=>put_scalar h (b:=.int k) rfl rfl M r hm
 |.bool,pos,x,ls,cs,t,Y,z,M,r,hm=>put_scalar h (b:=.bool) rfl rfl M r hm
 |.str,pos,x,ls,cs,t,Y,z,M,r,hm=>put_scalar h (b:=.str) rfl rfl M r hm
 |.list m E e,pos,x,ls,cs,t,Y,z,M,r,hm=>by
  simp only[cP]at r;have ba:=hm.len;have e0:(Ty.list m E e).cells=1:=rfl;cases X:CH off pos&&CW pos (off+n) with
  |true =>
   rw[X]at r;simp only[cond_true]at r;simp only[AV,B8]at X;have a9:=Bn X.1;obtain⟨O,c2,l1,e1,e2,h1,h2,h3,h4,h5⟩:=lr h (.list m E e) pos ls cs t M r;have a5:=h3.len;refine⟨O,c2,O,aS W t.kill,e1,h2,by rw[a5];omega,?_,λi hi=>?_,λk=>by omega,h4,h5⟩
   ·have Z:=h3.mono (G':=λk=>G k\/bi V W t.p t.frz k) (λk H=>.inr H);cases m with
    |false=>rw[cg]at Z ⊢;exact Z
    |true =>
     rw[bB (by simp)]at Z;rw[bB (a3 pos a9 X.2)];exact Z
   ·rw[if_pos (by omega)];congr 1;omega
  |false =>
   rw[X]at r;simp only[cond_false,AT]at r;subst r;have a2:¬ (off<=pos/\pos<off+n):=by
    rintro⟨h1,h2⟩;have:(CH off pos&&CW pos (off+n))=true:=by
     simp only[AV,B8];exact⟨By h1,h2⟩
    rw[X]at this;cases this
   refine⟨[],cs,Y,z,rfl,M,by simp only[B4];omega,?_,λi hi=>?_,λk=>by omega,by simp,by simp⟩
   ·have Z:=hm.mono (G':=λk=>G k\/bi V W false [] k) (λk H=>.inl H);cases m with
    |false=>rw[cg]at Z ⊢;exact Z
    |true =>
     by_cases hp:hol=some pos
     ·have a4:=(R pos a2).2 hp;subst hp;subst a4;rw[iF]at Z ⊢;exact Z
     ·have a4:I≠some pos:=λe=>hp ((R pos a2).1 e)
      rw[bB hp]at Z;rw[bB a4];exact Z
   ·rw[if_neg (by omega)]
where
 put_scalar (h:an P V W st a w) {b:Ty} {pos:Nat} {x:b.den} {ls:List Leaf} {cs:List Value} {t:ct b.den} {Y:List Value} {z:List Nat} (hf:b.flat=true) (h1:b.cells=1) (M:aC P V W st w ls cs)
   (r:(bif CH off pos&&CW pos (off+n) then take st b ls else some ⟨false,x,[],[],ls⟩)=some t) (hm:Mx w G b hol pos x Y z) :
   ∃ O c2 c' J,cs=O++c2/\aC P V W st w t.rest c2/\O.length=min (off+n) (pos+b.cells)-max off pos /\
    Mx w (λk=>G k\/bi V W t.p t.frz k) b I pos t.val c' J /\
    (∀ i,i<b.cells->c'[i]?=if off<=pos+i/\pos+i<off+n then O[pos+i-max off pos]? else Y[i]?) /\
    (∀ k,J.count k<=z.count k+(aS W t.kill).count k)/\(∀ x∈t.frz,aB st x)/\(∀ x∈t.kill,aB st x):=by
  have a0:∀ {S S':Nat->Prop} {hh ad:Option Nat} {y:b.den} {c:List Value} {q:List Nat},Mx w S b hh pos y c q->Mx w S' b ad pos y c []:=by
   intro S S' hh ad y c q hq;exact Mx.flat (w:=w) (G:=λ_=>True) hf (jE hf hq)
  cases X:CH off pos&&CW pos (off+n) with
  |true =>
   rw[X]at r;simp only[cond_true]at r;simp only[AV,B8]at X;have a9:=Bn X.1;obtain⟨O,c2,l1,e1,e2,h2,h3,h4,h5,Z⟩:=lr h b pos ls cs t M r;have a5:=h4.len;refine⟨O,c2,O,[],e1,h3,by rw[a5];omega,a0 h4,λi hi=>?_,λk=>by simp,h5,Z⟩;rw[if_pos (by omega)];congr 1;omega
  |false =>
   rw[X]at r;simp only[cond_false,AT]at r;subst r;have a2:¬ (off<=pos/\pos<off+n):=by
    rintro⟨h1,h2⟩;have:(CH off pos&&CW pos (off+n))=true:=by
     simp only[AV,B8];exact⟨By h1,h2⟩
    rw[X]at this;cases this
   refine⟨[],cs,Y,[],rfl,M,by simp only[B4];omega,a0 hm,λi hi=>?_,λk=>by simp,by simp,by simp⟩;rw[if_neg (by omega)]
end
section
variable {P:Program} {V:Env} {Γ:List Ctr} {T:TypeId->TI} {st st2:St} {o:Oper} {R:Type} {κ:Upd->Option R} {r:R}
def uz (V:Env)(W:Wit)(st:St)(q j k:Nat):Prop :=
 ¬ W.nw k/\¬ V.prot k/\(∀ b,live st b->W.β b≠k)/\∀ (u i:Nat) (l:Leaf),(st u).ls[i]?=some l->am l->(u,i)≠(q,j)->k∉W.bs u i
structure xh (st st2:St) (q j:Nat) (l':Leaf):Prop where
 sh:∀ r,(st2 r).sh=(st r).sh
 ver:∀ r,(st r).ver<=(st2 r).ver
 epo:(st EPO).ver<(st2 EPO).ver
 len:∀ r,(st2 r).ls.length=(st r).ls.length
 at_:∀ l,(st2 q).ls[j]?=some l->l=l'
 old:∀ r i l,(r,i)≠(q,j)->(st2 r).ls[i]?=some l->(st r).ls[i]?=some l
def Wit.tell (W:Wit)(q j:Nat)(bs:List Nat):Wit:={ W with bs:=λr i=>if (r,i)=(q,j) then bs else W.bs r i }
theorem an.retell (hV:ax V){W:Wit}{a:Act}{w w':World}(h:an P V W st a w){q j:Nat}{l l':Leaf}(O:xh st st2 q j l'){v:Value}{bs':List Nat}
  (hl:(st q).ls[j]?=some l) (ad:am l) (hv:(W.cs q)[j]?=some v) (b4:am l') (a9:aI P V W st w' bs' l' v)
  (a4:∀ k∈bs',uz V W st q j k)
  (H:∀ k,bX V W st k->k∉W.bs q j->w'.heap[k]?=w.heap[k]?) (a6:w.heap.size<=w'.heap.size) (b0:w'.os=w.os) (ht:w'.tape=w.tape) (ho:w'.output=w.output) :
  an P V (W.tell q j bs') st2 a w':=by
 have a0:=h.ownb q j _ hl ad;have Y:∀ b,live st2 b<->live st b:=ic O.sh;have a1:∀ {y i:Nat},(y,i)≠(q,j)->(W.tell q j bs').bs y i=W.bs y i:=λh=>if_neg h
 have a3:(W.tell q j bs').bs q j=bs':=if_pos rfl;have b3:∀ (y i:Nat) (l:Leaf),(st2 y).ls[i]?=some l->am l->(y,i)≠(q,j)->(st y).ls[i]?=some l:=λy i l Z _ J=>O.old y i l J Z
 have I:cl V W (W.tell q j bs') st st2 w w':=by
  refine⟨λy=>⟨O.ver y,λ_=>rfl⟩,λb hb=>⟨(Y b).2 hb,rfl⟩,λ_ h=>h,λk z=>H k (z.elim .inl (λh=>.inr (.inl h))) (λhm=>?_),λhe=>?_⟩
  ·rcases z with z|z
   ·exact (a0 k hm).1 z
   ·exact (a0 k hm).2.1 z
  ·have:=O.epo;omega
 exact {
  nt:=h.nt,df:=h.df
  slots:=λt b1=>by rw[O.sh];exact h.slots t b1
  boxes:=λb hb=>by
   rw[O.sh];rcases h.boxes b hb with ⟨Z,J⟩|⟨Z,E0,J⟩
   ·refine .inl ⟨Z,BO ?_⟩;rw[O.len,J];rfl
   ·refine .inr ⟨Z,E0,?_⟩;show w'.heap[W.β b]?=_;rw[H _ (.inr (.inr (.inl ⟨b,⟨hb,Z⟩,rfl⟩))) (λhm=>(a0 _ hm).2.2 b ⟨hb,Z⟩ rfl)];exact J
  len:=λy=>by rw[O.len];exact h.len y
  one:=h.one
  leaf:=λy i l1 u Z J=>by
   by_cases M:(y,i)=(q,j)
   ·cases M;obtain rfl:=O.at_ l1 Z;have J:(W.cs q)[j]?=some u:=J;rw[hv]at J;simp only[AT]at J;subst J;rw[a3];have a5:cl V W (W.tell q j bs') st st2 w' w':=⟨I.ver,I.box,I.nw,λ_ _=>rfl,λhe=>by have:=O.epo;omega⟩;exact a9.carry hV.ro a5 (λ_=>⟨rfl,λ_ _=>rfl⟩)
   ·have h3:=O.old y i l1 M Z;rw[a1 M];refine (h.leaf y i l1 u h3 J).carry hV.ro I (λho=>⟨rfl,λk z=>H k (.inr (.inr (.inr ⟨y,i,l1,h3,ho,z⟩))) (λhm=>M ?_)⟩);obtain⟨rfl,rfl⟩:=h.sep y i l1 q j _ h3 ho hl ad k z hm;rfl
  ownb:=λy i l1 Z J k z=>by
   by_cases M:(y,i)=(q,j)
   ·cases M;rw[a3]at z;obtain⟨q1,q2,q3,_⟩:=a4 k z;exact⟨q1,q2,λb hb=>q3 b ((Y b).1 hb)⟩
   ·rw[a1 M]at z;obtain⟨q1,q2,q3⟩:=h.ownb y i l1 (O.old y i l1 M Z) J k z;exact⟨q1,q2,λb hb=>q3 b ((Y b).1 hb)⟩
  sep:=λy i l1 r2 i2 l2 Z J h3 h4 k z a2=>by
   by_cases M:(y,i)=(q,j) <;> by_cases X:(r2,i2)=(q,j)
   ·rw[<- X]at M;cases M;exact⟨rfl,rfl⟩
   ·cases M;rw[a3]at z;rw[a1 X]at a2;exact absurd a2 ((a4 k z).2.2.2 r2 i2 l2 (O.old r2 i2 l2 X h3) h4 X)
   ·cases X;rw[a3]at a2;rw[a1 M]at z;exact absurd z ((a4 k a2).2.2.2 y i l1 (O.old y i l1 M Z) J M)
   ·rw[a1 M]at z;rw[a1 X]at a2;exact h.sep y i l1 r2 i2 l2 (O.old y i l1 M Z) J (O.old r2 i2 l2 X h3) h4 k z a2
  box:=λb hb=>h.box b ((Y b).1 hb)
  inj:=λb b' hb b2=>h.inj b b' ((Y b).1 hb) ((Y b').1 b2)
  nwlt:=λk z=>⟨Bk (h.nwlt k z).1 a6,(h.nwlt k z).2⟩
  os:=b0.trans h.os,tape:=ht.trans h.tape,output:=ho.trans h.output,size:=Bi h.size a6
  keep:=λk hp=>by
   rw[H k (.inr (.inl hp)) (λhm=>(a0 k hm).2.1 hp)];exact h.keep k hp
  fixb:=λx hx=>⟨(Y _).2 (h.fixb x hx).1,(h.fixb x hx).2⟩
  fixt:=h.fixt }
theorem kx {q:Nat}(st:St):∀ (ks:List (Nat×Nat)),(∀ x∈ks,x.1≠q)->ac (aE st ks) st q=st q
 |[],_=>rfl
 |(r,j)::ks,h=>by
  have e:ac (aE st ((r,j)::ks)) st=ac [(r,fJ (ac (aE st ks) st r) j)] (ac (aE st ks) st):=aN _ _ _ _;rw[e,aH (Bq (h (r,j) (BP ..))),kx st ks (λx u=>h x (BI _ u))]
theorem kb {q:Nat}(st:St):∀ (ks:List (Nat×Nat)),(∀ x∈ks,x.1≠q)->ac (aL st ks) st q=st q
 |[],_=>rfl
 |(r,j)::ks,h=>by
  have e:ac (aL st ((r,j)::ks)) st=ac [(r,fO (ac (aL st ks) st r) j)] (ac (aL st ks) st):=aN _ _ _ _;rw[e,aH (Bq (h (r,j) (BP ..))),kb st ks (λx u=>h x (BI _ u))]
theorem OwH.store {w:World}{G G':Nat->Prop}{h h':Option (Nat×Nat)}{E:TypeId}{e:Ty}{xs:List e.den}{g len a3:Nat}{bs K:List Nat}(H:OwH w G h E e xs (.slice (some ⟨g,0,none⟩) len a3) bs)
  (hG:∀ k,G k->G' k) (c1:¬ G' g) (hK:K.Nodup) (c6:∀ k∈K,k∉bs) {i:Nat} {a5 z:e.den} (hi:xs[i]?=some a5) (hh:∀ j,j≠i->cB h' j=cB h j) {off:Nat} {cs:List Value} (dc:off+cs.length<=e.cells)
  (M:∀ c0 b0,Mx w G e (cB h i) 0 a5 c0 b0->∃ c J,Mx w G' e (cB h' i) 0 z c J/\(∀ k,k<e.cells->c[k]?=if off<=k/\k<off+cs.length then cs[k-off]? else c0[k]?)/\∀ k,J.count k<=b0.count k+K.count k) :
  ∃ b5,OwH (w.setCells g (i*e.cells+off) cs) G' h' E e (xs.set i z) (.slice (some ⟨g,0,none⟩) len a3) b5/\∀ k∈b5,k∈bs\/k∈K:=by
 obtain⟨cy,Z,Y,h1,h2,h3⟩:=H;have a6:i<xs.length:=(AW.1 hi).1;obtain⟨c0,ba,cb⟩:=h3 i a5 hi;obtain⟨c,J,hm,cx,b4⟩:=M c0 (Y i) ba;have d2:=h1.1;rcases h1.2 with ⟨h4,_⟩|⟨g',d6,y,mk,h4,hg,c2,c5,cu,ad⟩
 ·simp at h4
 ·simp only[BZ,AT,CC,and_true,true_and]at h4;obtain⟨rfl,rfl,rfl⟩:=h4;have d4:g∈bs:=by rw[h2];simp[BV]
  have d5:=ba.len;have c4:=hm.len;have bb:(i+1)*e.cells<=xs.length*e.cells:=BG _ a6;rw[Bc]at bb;have d3:xs.length*e.cells<=a3*e.cells:=BG _ c2;have cp:y.toList.length=y.size:=by rw[Ba]
  have b2:Z=y.toList.take (xs.length*e.cells):=ad.symm;have M:=jq g E cs 0 (i*e.cells+off) w y hg;have b1:=kI y.toList cs (i*e.cells+off) (by omega);rw[BW]at b1;rw[b1]at M;simp only[Bg]at M;have a1:∀ k,k<xs.length*e.cells->(y.toList.take (i*e.cells+off)++cs++y.toList.drop (i*e.cells+off+cs.length))[k]? =
    if i*e.cells+off<=k/\k<i*e.cells+off+cs.length then cs[k-(i*e.cells+off)]? else Z[k]?:=by
   intro k X;have c3:Z[k]?=y.toList[k]?:=by rw[b2,Be,if_pos X]
   by_cases h9:k<i*e.cells+off
   ·rw[BJ,BA (by simp only[BU];omega),Be,if_pos h9,if_neg (by omega),c3]
   ·by_cases cc:k<i*e.cells+off+cs.length
    ·rw[BJ,AZ (by simp only[BU];omega),BA (by simp only[BU];omega),if_pos ⟨by omega,cc⟩];congr 1;simp only[BU];omega
    ·rw[AZ (by simp only[BU,BK];omega),Bt,if_neg (by omega),c3];congr 1;simp only[BU,BK];omega
  have O:(y.toList.take (i*e.cells+off)++cs++y.toList.drop (i*e.cells+off+cs.length)).length=y.size:=by
   simp only[BK,BU,CE];omega
  have a2:∀ k,([g]++(BH xs.length).flatMap λj=>if j=i then J else Y j).count k<=bs.count k+K.count k:=by
   intro k;have h5:=ka a6 Y J k;have h6:=b4 k;rw[h2];simp only[BV,Ca,AY];omega
  have a0:=mM cy hK c6 a2;have bn:∀ j,j<xs.length->∀ k∈(if j=i then J else Y j),k≠g:=by
   intro j hj k X e0;subst e0;have h7:=a0.1;rw[CO,Bl]at h7;exact h7.1 (dG.2 ⟨j,hj,X⟩)
  have I:∀ k,k≠g->(w.setCells g (i*e.cells+off) cs).heap[k]?=w.heap[k]?:=λk X=>el g cs _ w k X
  refine⟨[g]++(BH xs.length).flatMap λj=>if j=i then J else Y j,⟨a0.1,(y.toList.take (i*e.cells+off)++cs++y.toList.drop (i*e.cells+off+cs.length)).take (xs.length*e.cells),
   λj=>if j=i then J else Y j,⟨?_,.inr ⟨g,a3,_,_,?_,M,?_,by rw[Bw,O];exact c5,?_,?_⟩⟩,?_,?_⟩,a0.2⟩
  ·rw[BU,O,Bm];omega
  ·rw[Bm]
  ·rw[Bm];exact c2
  ·rw[Bw,O];exact cu
  ·rw[Bm]
  ·simp[BV]
  ·intro j x hj;rcases aO _ _ _ _ _ hj with ⟨rfl,rfl,_⟩|⟨a4,hj⟩
   ·refine⟨c,?_,λk u hu=>?_⟩
    ·simp only[if_true];exact hm.carry (λ_ h=>h) (λk X=>I k (λe0=>c1 (e0 ▸ X))) (λk X=>I k (bn j a6 k (by simpa using X)))
    ·have bl:k<e.cells:=by rw[<- c4];exact (AW.1 hu).1
     rw[Be,if_pos (by omega),a1 _ (by omega)];rw[cx k bl]at hu;by_cases bx:off<=k/\k<off+cs.length
     ·rw[if_pos bx]at hu;rw[if_pos (by omega),<- hu];congr 1;omega
     ·rw[if_neg bx]at hu;rw[if_neg (by omega)];exact cb k u hu
   ·obtain⟨c',b3,d1⟩:=h3 j x hj;have b9:j<xs.length:=(AW.1 hj).1;refine⟨c',?_,λk u hu=>?_⟩
    ·rw[hh j a4];simp only[if_neg a4];exact b3.carry hG (λk X=>I k (λe0=>c1 (e0 ▸ hG k X))) (λk X=>I k (bn j b9 k (by rw[if_neg a4];exact X)))
    ·have bl:k<e.cells:=by rw[<- b3.len];exact (AW.1 hu).1
     have cw:(j+1)*e.cells<=xs.length*e.cells:=BG _ b9;rw[Bc]at cw;rw[Be,if_pos (by omega),a1 _ (by omega),if_neg ?_]
     ·exact d1 k u hu
     ·rintro⟨h14,h15⟩;rcases Nat.lt_or_gt_of_ne (λe=>a4 e.symm:i≠j) with a9|a9
      ·have:(i+1)*e.cells<=j*e.cells:=BG _ a9;rw[Bc]at this;omega
      ·have:(j+1)*e.cells<=i*e.cells:=BG _ a9;rw[Bc]at this;omega
theorem xi (hV:ax V)(hT:TOk P T){t:TypeId}{x y:Operand}(ba:o.op=.store t x y)(h:act Γ T o st κ=some r):bR P V o st κ r:=by
  simp only[act,wrU,ba]at h;split at h
  · cases h
  · rename_i hd
    cases hb:BM (ar st y).2.length (T t).cells&&decide ((ar st y).1=be (T t).agg)&&!decide ((T t).cells=0) with
    |false=>simp[hb]at h
    |true =>
      simp only[hb,cond_true]at h;simp only[AV,decide_eq_true_eq,BR,decide_eq_false_iff_not]at hb;obtain⟨⟨bl,c3⟩,bb⟩:=hb;have bl:=BB bl;split at h
      · rename_i b off hx
        cases Z:decide ((st b).sh=.agg)&&decide (off+(ar st y).2.length<=(st b).ls.length)&&gQ st (ar st y).2 with
        |false=>simp[Z]at h
        |true =>
          simp only[Z,cond_true]at h;simp only[AV,decide_eq_true_eq]at Z;exact⟨_,h,λW a w hr=>sZ hV hT ba hd hx bl c3 bb Z.1.1 Z.1.2 Z.2 hr⟩
      · rename_i z j fo i sz off hx
        split at h
        · rename_i p hh E e xs dd
          cases Z:BM sz e.cells&&decide (off+(ar st y).2.length<=e.cells)&&rJ z with
          |false=>simp[Z]at h
          |true =>
            simp only[Z,cond_true]at h;simp only[AV,decide_eq_true_eq,rJ,BR]at Z;obtain⟨⟨b9,fl⟩,fr,d5⟩:=Z;have b9:=BB b9;subst b9;have ed:z≠EPO:=λe0=>by subst e0;simp at d5
            unfold gq at h;obtain⟨a1,bn,h⟩:=BX.1 h;obtain⟨_,_,h4⟩:=fW bn;simp only[Cd]at h4;split at h
            · rename_i u hu
              cases hq:u.rest.isEmpty&&aU u.kill&&dk u.frz u.kill&&!((u.kill++u.frz).any λk=>BM k.1 z) with
              |false=>rw[hq]at h;cases h
              |true =>
                simp only[hq,cond_true]at h;simp only[AV,BR,BY]at hq;obtain⟨⟨⟨dc,ej⟩,d4⟩,a3⟩:=hq;have a3:∀ k∈u.kill++u.frz,k.1≠z:=λk H e0=>a3 k H (by simp[e0])
                obtain ⟨I, hκ, cc, a6, cw⟩ : ∃ I : Option (Nat × Nat), κ ((z, ⟨(st z).ver, (st z).sh, aP (st z).ls j (.own (p || u.p) I E e (xs.set i u.val))⟩) :: (EPO, bQ (ac (aL (ac (aE st u.frz) st) u.kill ++ aE st u.frz) st EPO)) ::
                      (aL (ac (aE st u.frz) st) u.kill++aE st u.frz))=some r /\
                    (∀ k,off<=k->k<off+(ar st y).2.length->cB I i≠some k)/\(∀ k,¬ (off<=k/\k<off+(ar st y).2.length)->(cB I i=some k<->cB hh i=some k))/\(∀ j',j'≠i->cB I j'=cB hh j'):=by
                  cases hh with
                  |none=>exact⟨none,h,λ_ _ _=>by simp[cB],λ_ _=>CI,λ_ _=>rfl⟩
                  |some hp =>
                    obtain⟨hi,ho⟩:=hp;simp only at h;cases J:CH off ho&&CW ho (off+(ar st y).2.length) with
                    |true =>
                      rw[J]at h;simp only[cond_true]at h;simp only[AV,B8]at J;have eb:=Bn J.1;cases b2:BM i hi with
                      |true =>
                        rw[b2]at h;have h9:=h;have:=BB b2;subst this;refine⟨none,h9,λ_ _ _=>by simp[cB],λk H=>?_,λj' es=>?_⟩
                        · simp only[cB,Nat.beq_refl,cond_true,reduceCtorEq,AT,false_iff]
                          rintro rfl;exact H ⟨eb,J.2⟩
                        · have:BM i j'=false:=by
                            cases en:BM i j' with
                            |false=>rfl
                            |true=>exact absurd (BB en).symm es
                          simp[cB,this]
                      |false=>rw[b2]at h;cases h
                    |false =>
                      rw[J]at h;refine⟨some (hi,ho),h,λk ad f0=>?_,λ_ _=>CI,λ_ _=>rfl⟩;simp only[cB];cases BM hi i with
                      |false=>simp
                      |true =>
                        simp only[cond_true,ne_eq,AT];rintro rfl;have:(CH off ho&&CW ho (off+(ar st y).2.length))=true:=by
                          simp only[AV,B8];exact⟨By ad,f0⟩
                        rw[J]at this;cases this
                refine⟨_,hκ,λW a w hr next Q hn=>?_⟩;obtain⟨cs,hs,M⟩:=cC hr y;rw[c3]at hs;have e6:=gF hs M.one';have c5:=M.length;obtain⟨h5,h6⟩:=eL dd (by simp);obtain⟨hp,_,_,_⟩:=bk hr x (by rw[hx];simp);rw[hx]at hp;obtain⟨g,e5,d6,a4,fi,hv⟩:=hp.2 h5;have ef:T t≠.none:=by intro e;rw[e]at bb;exact bb rfl
                have a2:=hr.leaf z j _ _ h6 a4;have ex:∀ c0 O,Mx w (gd V W p) e (cB hh i) 0 a1 c0 O->∃ c a0,Mx w (λk=>gd V W p k\/bi V W u.p u.frz k) e (cB I i) 0 u.val c a0 /\
                    (∀ k,k<e.cells->c[k]?=if off<=k/\k<off+cs.length then cs[k-off]? else c0[k]?)/\∀ k,a0.count k<=O.count k+(aS W u.kill).count k:=by
                  intro c0 O hm;obtain⟨c1,c2,c',bs',f1,f2,f3,f4,f5,f6,f7,f8⟩:=l6 hr cc a6 e 0 a1 (ar st y).2 cs u c0 O M hu hm;have c4:c2=[]:=by
                    have:=f2.length;rw[Cl.1 dc]at this;exact BO this.symm
                  subst c4;rw[BT]at f1;subst f1;refine⟨c',bs',f4,λk H=>?_,f6⟩;rw[f5 k H,c5];simp only[Br];by_cases J:off<=k/\k<off+cs.length
                  · rw[if_pos J,if_pos J]
                    congr 1;omega
                  · rw[if_neg J,if_neg J]
                have b4:(∀ x∈u.frz,aB st x)/\(∀ x∈u.kill,aB st x):=by
                  obtain⟨_,a5,cu,_,_,cx⟩:=a2;obtain⟨c0,ec,_⟩:=cx i a1 h4;obtain⟨_,_,_,_,_,_,_,_,_,_,f7,f8⟩:=l6 hr cc a6 e 0 a1 (ar st y).2 cs u c0 _ M hu ec;exact⟨f7,f8⟩
                obtain⟨k1,k2,k3,k4⟩:=fm hV hr d4 b4.2;have X:ac (aL (ac (aE st u.frz) st) u.kill++aE st u.frz) st z=st z:=by
                  rw[br,kb _ _ (λx hx=>a3 x (BC _ hx)),kx _ _ (λx hx=>a3 x (AX _ hx))]
                have h7:(ac (aL (ac (aE st u.frz) st) u.kill++aE st u.frz) st z).ls[j]?=some (.own p hh E e xs):=by rw[X];exact h6
                have a9:=k1.ownb z j _ h7 trivial;have cb:∀ k,gd V W p k\/bi V W u.p u.frz k->gd V (W.frz st u.frz) (p||u.p) k:=by
                  rintro k (H|H)
                  · exact bP (W':=W.frz st u.frz) (by intro h;simp[h]) (λ_ h=>Or.inl h) k H
                  · exact bP (W':=W.frz st u.frz) (by intro h;simp[h]) (λ_ h=>h) k (jS b4.1 k H)
                have b1:g∈W.bs z j:=by obtain⟨_,a5,cu,_,c6,_⟩:=a2;rw[c6];simp[BV]
                have em:¬ gd V (W.frz st u.frz) (p||u.p) g:=by
                  rintro (H|⟨_,H⟩)
                  · exact (a9 g b1).1 H
                  · exact (a9 g b1).2.1 (hV.ro g H)
                have d3:∀ k∈aS W u.kill,k∉W.bs z j:=λk H eg=>(k4 k H).2.2.2.2 z j _ h7 trivial eg
                obtain⟨bs',bx,cy⟩:=OwH.store (G':=gd V (W.frz st u.frz) (p||u.p)) (h':=I) a2 (λk H=>cb k (.inl H)) em (gA hr ej b4.2) d3 h4 cw (off:=off) (cs:=cs) (by omega)
                  (λc0 O hm=>by
                    obtain⟨c,a0,q1,q2,q3⟩:=ex c0 O hm;exact⟨c,a0,q1.mono cb,q2,q3⟩)
                obtain⟨_,a5,cu,ho,c6,_⟩:=a2;have e7:e5=xs.length:=by
                  obtain⟨A,d1,e0,_⟩:=ho.slice;simp only[BZ]at e0;exact e0.2.1
                subst e7;rcases ho.2 with ⟨h8,_⟩|⟨g',d1,cur,mk,h8,hg,et,ev,fd,_⟩
                · simp at h8
                · simp only[BZ,AT,CC,and_true,true_and]at h8
                  obtain⟨rfl,rfl⟩:=h8;have cp:(i+1)*e.cells<=xs.length*e.cells:=BG _ (AW.1 h4).1;rw[Bc]at cp;have fc:xs.length*e.cells<=d6*e.cells:=BG _ et;have b3:cur.toList.length=cur.size:=by rw[Ba]
                  have d2:=mL (P:=P) (oo (hT t) ef) (w:=w) (b:=g) (off:=i*e.cells+off) (cur:=cur.toList) (E:=E) (by rw[BW];exact hg) (by rw[b3];exact yM ev) e6 (by omega) M.one' (by omega);refine o9 (w':=w.setCells g (i*e.cells+off) cs) (by simp[execOp,ba,hv,d2]) ?_;rw[hd];refine hn _ _ ?_;obtain⟨e1,e2,e3,e4⟩:=jr g cs (i*e.cells+off) w;refine⟨_,k1.retell hV (l':=.own (p||u.p) I E e (xs.set i u.val)) (w':=w.setCells g (i*e.cells+off) cs) (bs':=bs') ?_ h7 trivial a4 trivial bx (λk H=>?_) (λk _ H=>el g cs _ w k (λe=>H (e ▸ b1))) (CG e4.symm) e1 e2 e3⟩
                  · rw[aN z,aN EPO]
                    have Y:EPO≠z:=Bq ed;generalize aL (ac (aE st u.frz) st) u.kill++aE st u.frz=U at X ⊢;refine⟨λq=>?_,λq=>?_,?_,λq=>?_,λl M=>?_,λq i' l hq M=>?_⟩
                    · rcases aj z q ⟨(st z).ver,(st z).sh,aP (st z).ls j (.own (p||u.p) I E e (xs.set i u.val))⟩ (ac [(EPO,bQ (ac U st EPO))] (ac U st)) with ⟨rfl,e⟩ | ⟨_,e⟩
                      · rw[e,X]
                      · rw[e]
                        rcases aj EPO q (bQ (ac U st EPO)) (ac U st) with ⟨rfl,e⟩|⟨_,e⟩ <;> rw[e];rfl
                    · rcases aj z q ⟨(st z).ver,(st z).sh,aP (st z).ls j (.own (p||u.p) I E e (xs.set i u.val))⟩ (ac [(EPO,bQ (ac U st EPO))] (ac U st)) with ⟨rfl,e⟩ | ⟨_,e⟩
                      · rw[e,X];exact BN _
                      · rw[e]
                        rcases aj EPO q (bQ (ac U st EPO)) (ac U st) with ⟨rfl,e⟩|⟨_,e⟩ <;> rw[e]
                        · exact Cq _
                        · exact BN _
                    · rw[aH Y,bg];exact BF _
                    · rcases aj z q ⟨(st z).ver,(st z).sh,aP (st z).ls j (.own (p||u.p) I E e (xs.set i u.val))⟩ (ac [(EPO,bQ (ac U st EPO))] (ac U st)) with ⟨rfl,e⟩ | ⟨_,e⟩
                      · rw[e,X];simp[aP]
                      · rw[e]
                        rcases aj EPO q (bQ (ac U st EPO)) (ac U st) with ⟨rfl,e⟩|⟨_,e⟩ <;> rw[e];rfl
                    · rw[bg]at M
                      rcases aO _ _ _ _ _ M with ⟨_,rfl,_⟩|⟨Y,_⟩
                      · rfl
                      · exact absurd rfl Y
                    · rcases aj z q ⟨(st z).ver,(st z).sh,aP (st z).ls j (.own (p||u.p) I E e (xs.set i u.val))⟩ (ac [(EPO,bQ (ac U st EPO))] (ac U st)) with ⟨rfl,e⟩ | ⟨_,e⟩
                      · rw[e]at M
                        rw[X];rcases aO _ _ _ _ _ M with ⟨rfl,_,_⟩|⟨_,M⟩
                        · exact absurd rfl hq
                        · exact M
                      · rw[e]at M
                        rcases aj EPO q (bQ (ac U st EPO)) (ac U st) with ⟨rfl,e⟩|⟨_,e⟩ <;> rw[e]at M <;> exact M
                  · rcases cy k H with H|H
                    · have h9:=k1.ownb z j _ h7 trivial k H
                      exact⟨h9.1,h9.2.1,h9.2.2,λr1 i1 l1 b5 b0 Y ad=>Y (by obtain⟨e1,e2⟩:=k1.sep r1 i1 l1 z j _ b5 b0 h7 trivial k ad H;rw[e1,e2])⟩
                    · have h9:=k4 k H
                      exact⟨h9.1,h9.2.1,h9.2.2.2.1,λr1 i1 l1 b5 b0 _=>h9.2.2.2.2 r1 i1 l1 b5 b0⟩
            · cases h
        · cases h
      · cases h
end
section
variable {P:Program} {V:Env} {Γ:List Ctr} {T:TypeId->TI} {st:St} {o:Oper} {R:Type} {κ:Upd->Option R} {r:R}
theorem an.putOwn (hV:ax V){W:Wit}{a:Act}{w w':World}(h:an P V W st a w)(M:w.heap.size<=w'.heap.size)(I:w'.os=w.os)(ht:w'.tape=w.tape)(ho:w'.output=w.output)
  (hk:∀ k,bX V W st k->w'.heap[k]?=w.heap[k]?) (d:Nat) (hd:d<V.nt) (z:∀ x∈V.fixt,x.1≠d) (n:Nat) (hn:(st d).ver<n) {p:Bool} {E:TypeId} {e:Ty} {xs:List e.den} {v:Value} {bs:List Nat}
  (Z:Ow w' (gd V W p) E e xs v bs) (hb:∀ k∈bs,¬ bX V W st k):Rel P V (ac [(d,⟨n,.one,[.own p none E e xs]⟩)] st) (a.put (some d) v) w':=by
 refine⟨_,(h.world hV M I ht ho hk).put hV d hd z n .one [.own p none E e xs] v [v] (λ_=>bs) hn rfl rfl (λu X=>by simp at X;subst X;exact Z.one) ?_ ?_ ?_⟩
 ·intro j l u y H;cases j with
  |zero=>simp at y H;subst y;subst H;exact Z
  |succ j=>simp at y
 ·intro j l y H k O;have:=hb k O;simp only[bX,not_or,not_exists,not_and]at this;exact⟨this.1,this.2.1,this.2.2.1,λr1 j1 l1 _ J Y=>this.2.2.2 r1 j1 l1 J Y⟩
 ·intro j j' l l' y H J Y k h5 h6;have h7:j<1:=(AW.1 y).1;have h8:j'<1:=(AW.1 J).1;omega
theorem dA {W:Wit}{p q:Bool}{z H:List (Nat×Nat)}:(∀ k,bi V W p z k->bi V W (p||q) (z++H) k)/\(∀ k,bi V W q H k->bi V W (p||q) (z++H) k):=by
 constructor
 ·rintro k (u|⟨x,y,u⟩)
  ·exact .inl (bP (W':=W) (by intro h;simp[h]) (λ_ h=>h) k u)
  ·exact .inr ⟨x,BC _ y,u⟩
 ·rintro k (u|⟨x,y,u⟩)
  ·exact .inl (bP (W':=W) (by intro h;simp[h]) (λ_ h=>h) k u)
  ·exact .inr ⟨x,AX _ y,u⟩
theorem xj (n:Nat)(u:Nat->List Nat):(BH (n+1)).flatMap u=u 0++(BH n).flatMap λj=>u (j+1):=by
 rw[List.range_succ_eq_map,Bo,Cm]
theorem nS {W:Wit}{a:Act}{w:World}(X:an P V W st a w){e:Ty}:∀ (ps:List (Nat×Operand)) (k:Nat) (u:ct (List e.den)),d9 st e k ps=some u ->
  ps.map (λx=>(x.1,a.eval x.2))=((ps.map λx=>a.eval x.2).zipIdx k).map (λx=>(x.2,x.1))/\u.val.length=ps.length/\(∀ x∈u.frz,aB st x)/\(∀ x∈u.kill,aB st x) /\
  ∃ z:Nat->List Nat,aS W u.kill=(BH u.val.length).flatMap z /\
   ∀ (j:Nat) (x:e.den),u.val[j]?=some x->∃ v c,(ps.map λx=>a.eval x.2)[j]?=some v/\v.cells=c.toArray/\Mx w (bi V W u.p u.frz) e none 0 x c (z j)
 |[],k,u,h=>by
  simp only[d9,AT]at h;subst h;exact⟨rfl,rfl,by simp,by simp,λ_=>[],rfl,λj x I=>by simp at I⟩
 |(i,y)::ps,k,u,h=>by
  simp only[d9]at h;cases H:BM i k&&decide ((ar st y).1=be e.isAgg) with
  |false=>simp[H]at h
  |true =>
   simp only[H,cond_true]at h;simp only[AV,decide_eq_true_eq]at H;have O:=BB H.1;subst O;split at h
   ·rename_i t1 u1 hg J;simp only[AT]at h;subst h;obtain⟨h1,h2,h3,h4,z,h5,h6⟩:=nS X ps (i+1) u1 J;obtain⟨cs,Y,Z⟩:=cC X y;rw[H.2]at Y;have hc:=gF Y Z.one';obtain⟨g1,g2,g3⟩:=dw (pos:=0) X Z hg;refine⟨by simp[h1],by simp[h2],λx M=>(BE.1 M).elim (g2 x) (h3 x),λx M=>(BE.1 M).elim (g3 x) (h4 x),λj=>match j with|0=>aS W t1.kill|j+1=>z j,?_,?_⟩
    ·rw[du,h5,CF,xj]
    ·intro j x I;cases j with
     |zero =>
      simp at I;subst I;exact⟨a.eval y,cs,by simp,hc,g1.mono dA.1⟩
     |succ j =>
      obtain⟨v,c,h7,h8,h9⟩:=h6 j x (by simpa using I);exact⟨v,c,by simpa using h7,h8,h9.mono dA.2⟩
   ·cases h
theorem lu (w:World)(G:Nat->Prop):∀ (b:Ty),Rd w G b b.zero (zeroCells b)
 |.int _=>rfl
 |.bool=>rfl
 |.str=>rfl
 |.unit=>rfl
 |.hdr=>⟨none,0,rfl⟩
 |.pair a b=>⟨_,_,rfl,lu w G a,lu w G b⟩
 |.list m E e=>Rd.nil w G m E e
theorem qk (w:World)(G:Nat->Prop):∀ (b:Ty) (pos:Nat),Mx w G b none pos b.zero (zeroCells b) []
 |.int _,_=>⟨rfl,rfl⟩
 |.bool,_=>⟨rfl,rfl⟩
 |.str,_=>⟨rfl,rfl⟩
 |.unit,_=>⟨rfl,rfl⟩
 |.hdr,_=>⟨⟨none,0,rfl⟩,rfl⟩
 |.pair a b,_=>⟨_,_,[],[],rfl,rfl,qk w G a _,qk w G b _⟩
 |.list m E e,_=>by
  cases m with
  |false=>exact cg.2 ⟨rfl,Rd.nil w G false E e⟩
  |true=>exact (bB (by simp)).2 ⟨_,rfl,(OwH.nil w G E e).2⟩
theorem l7 {W:Wit}{k:Nat}(h:¬ W.nw k/\¬ V.prot k/\(∀ b,live st b->W.β b≠k)/\∀ (u i:Nat) (l:Leaf),(st u).ls[i]?=some l->am l->k∉W.bs u i):¬ bX V W st k:=by
 rintro (y|y|⟨b,I,e⟩|⟨u,i,l,J,H,z⟩)
 ·exact h.1 y
 ·exact h.2.1 y
 ·exact h.2.2.1 b I e
 ·exact h.2.2.2 u i l J H z
theorem l8:(9223372036854775807:Nat)<=maxLen:=by decide
theorem ql (hV:ax V)(hT:TOk P T)(a9:bH V o){t:TypeId}{n:Nat}{y:Array (Nat×Operand)}(a1:o.op=.buildSlice t n y)(h:act Γ T o st κ=some r):bR P V o st κ r:=by
 simp only[act,wrU,a1]at h;cases ht:T t with
 |slice E e bx =>
  simp only[ht]at h;split at h
  ·rename_i u bn;cases hb:BM u.val.length n&&decide (n*e.cells<=16777216)&&aU u.kill&&dk u.frz u.kill with
   |false=>simp[hb]at h
   |true =>
    simp only[hb,cond_true]at h;simp only[AV,decide_eq_true_eq]at hb;obtain⟨⟨⟨c3,cb⟩,c2⟩,bb⟩:=hb;have c1:=BB c3;subst c1;split at h
    ·rename_i d hd;refine⟨_,h,λW a w hr next Q hn=>?_⟩;have h1:=hT t;rw[ht]at h1;obtain⟨hu,_,_,Y,_,ti,z,a2,O,_,hz,cc⟩:=h1;obtain⟨h2,h3,b0,b3,b4,c0,h5⟩:=nS hr y.toList 0 u bn;generalize cp:u.val=I at *;have a4:∀ v∈(y.toList.map λx=>a.eval x.2),v.cells.size=e.cells:=by
      intro v hv;obtain⟨j,hj,e1⟩:=List.getElem_of_mem hv;have c5:j<I.length:=by rw[h3];simpa using hj
      obtain⟨v',c,X,Z,h8⟩:=h5 j I[j] (BL c5);rw[BL hj]at X;simp only[AT]at X;rw[<- e1,X,Z];simpa using h8.len
     have ba:(y.toList.map λx=>a.eval x.2).length=I.length:=by rw[B5,h3]
     have a5:∀ (j:Nat) (x:e.den),I[j]?=some x->∃ c,Mx w (bi V W u.p u.frz) e none 0 x c (b4 j)/\∀ i u,c[i]?=some u ->
       ((y.toList.map λx=>a.eval x.2).flatMap λv=>v.cells.toList)[j*e.cells+i]?=some u:=by
      intro j x hj;obtain⟨v,c,X,Z,h8⟩:=h5 j x hj;refine⟨c,h8,λi u hi=>?_⟩;have b2:i<e.cells:=by rw[<- h8.len];exact (AW.1 hi).1
      rw[Great.flat_get Y _ a4];have e1:(j*e.cells+i) / e.cells=j:=by
       rw[CJ,Nat.mul_add_div Y,Nat.div_eq_of_lt b2,Bg]
      have e2:(j*e.cells+i) % e.cells=i:=by
       rw[CJ,Cv,Cn b2]
      rw[e1,e2,X];simpa[Z]using hi
     have a3:((y.toList.map λx=>a.eval x.2).flatMap λv=>v.cells.toList).length=I.length*e.cells:=by
      have:∀ (vs:List Value),(∀ v∈vs,v.cells.size=e.cells)->(vs.flatMap λv=>v.cells.toList).length=vs.length*e.cells:=by
       intro vs;induction vs with
       |nil=>intro _;simp
       |cons v vs ih =>
        intro hv;rw[Bo,BK,ih (λu hu=>hv u (BI _ hu)),Ba,hv v (BP ..),CF,Bc];omega
      rw[this _ a4,ba]
     have H:=Great.fill_whole Y (y.toList.map λx=>a.eval x.2) ((Array.range (I.length*e.cells)).map ((if I.length*e.cells=0 then (#[]:Array Value) else z.cells)[· % (if I.length*e.cells=0 then (#[]:Array Value) else z.cells).size]!)) a4 (by rw[ba];simp);rw[<- h2]at H;have a0:(y.map λ (i,x)=>(i,a.eval x)).toList=y.toList.map λx=>(x.1,a.eval x.2):=by rw[Co]
     have b9:(execOp a.eval o).run P w=.ok (.value (.slice (some ⟨w.heap.size,0,none⟩) I.length I.length)) (w.alloc (.cells ((y.toList.map λx=>a.eval x.2).flatMap λv=>v.cells.toList).toArray E)):=by
      have M:¬ (I.length*e.cells>2 ^ 24):=by omega
      by_cases h0:I.length*e.cells=0
      ·rw[if_pos h0]at H;simp only[execOp,a1,Instr.buildSlice,Ce,run_underlying hu,CA,sizeOf,typeInfo,a2,O,a0];simp[M,h0,newRow,a2,O,a0]at H ⊢;simp[H]
      ·rw[if_neg h0]at H;have:=run_buildSlice (P:=P) w t E I.length (y.map λ (i,x)=>(i,a.eval x)) _ ti z hu a2 hz (by rw[O];exact M) (by rw[O];exact h0) (by rw[O,a0];exact H);simp[execOp,a1,this]
     refine dH b9 ?_;rw[hd];refine hn _ _ ?_;rw[bZ,aN];obtain⟨X,_,_,b5⟩:=fm hV hr bb b3;have ad:=X.used_lt;have a6:I.length<=maxLen:=by
      have:=l8;have:I.length*1<=I.length*e.cells:=B7 _ Y;omega
     have bl:=World.ownsRow_lit (e:=E) (size:=e.cells) (base:=0) w ((y.toList.map λx=>a.eval x.2).flatMap λv=>v.cells.toList).toArray I.length (Cr _) a6 (by simpa using a3);refine X.putOwn hV (w':=w.alloc (.cells ((y.toList.map λx=>a.eval x.2).flatMap λv=>v.cells.toList).toArray E)) (by simp) rfl rfl rfl (λk J=>Go.heap_alloc_old w _ (ad k J)) d (a9 d hd).1 (a9 d hd).2 _ (BF _) (bs:=w.heap.size::aS W u.kill) ?_ (λk J hu=>?_)
     ·refine⟨Bl.2 ⟨λhm=>?_,gA hr c2 b3⟩,_,b4,Row.of bl,by rw[c0];rfl,λj x hj=>?_⟩
      ·have:=(b5 _ hm).2.2.1;omega
      ·obtain⟨c,b1,c4⟩:=a5 j x hj;have c6:∀ k,bi V W u.p u.frz k->k<w.heap.size:=λk J=>by
        rcases jS b0 k J with J|⟨_,J⟩
        ·exact (X.nwlt k J).1
        ·exact Bk (hV.ro k J).1 X.size
       exact⟨c,b1.carry (jS b0) (λk J=>Go.heap_alloc_old w _ (c6 k J)) (λk J=>Go.heap_alloc_old w _ (b1.lt k J)),λi u hi=>by simpa using c4 i u hi⟩
     ·rcases Bs.1 J with rfl|J
      ·have:=ad _ hu;omega
      ·have Z:=b5 k J;exact l7 ⟨Z.1,Z.2.1,Z.2.2.2.1,Z.2.2.2.2⟩ hu
    ·cases h
  ·cases h
 |_=>simp[ht]at h
theorem xk {w:World}{G:Nat->Prop}{E':TypeId}{y u e:TypeId}(Y:P.underlying y=some (.slice e))(X:P.underlying e=some (.int .u8))(O:P.underlying u=some .string){xs:List Int}{v:Value}
  (h:Rd w G (.list false E' (.int .u8)) xs [v]):(convert y u v).run P w=.ok (.string (gr xs)) w:=by
 obtain⟨A,z,hv,hc,J⟩:=h;simp only[B6,and_true]at hv;subst hv;cases A with
 |none =>
  have hx:xs=[]:=by
   cases xs with
   |nil=>rfl
   |cons x xs=>obtain⟨g,o,M,_⟩:=J (by simp);cases M
  subst hx;show (convert y u (.slice none 0 z)).run P w=_;rw[run_convert_bytes_nil w y e Y X 0 z u O];rfl
 |some ad =>
  cases H:xs with
  |nil =>
   subst H;show (convert y u (.slice (some ad) 0 z)).run P w=_;rw[run_convert_bytes_string w y u e ad 0 z Y X O];simp[Conv.bytesToString,loadCells,loadCellsFrom];rfl
  |cons x0 a0 =>
   rw[<- H];obtain⟨g,o,M,_,hr⟩:=J (by rw[H];simp);simp only[AT]at M;subst M;have:=run_convert_bytes_arg (P:=P) w y e Y X g o xs.length z xs rfl (λi hi=>by
    obtain⟨c,I,Z⟩:=hr i xs[i] (BL hi);have I:c=[.int .u8 xs[i]]:=I;subst I;have:=Z 0 _ rfl;simp only[Ty.cells,CT,Bg]at this;rw[this];simp[List.getD,BL hi]) u O
   rw[this];rfl
theorem tZ (hV:ax V)(hT:TOk P T)(J:bH V o){s t:TypeId}{x:Operand}(M:o.op=.convert s t x)(h:act Γ T o st κ=some r):bR P V o st κ r:=by
 simp only[act,wrU,M]at h;have z:=hT t;have y:=hT s;split at h
 ·rename_i k' k a5 n X Z hx;split at h
  ·rename_i d O;refine⟨_,h,λW a w I=>aM hV I O J (v:=.int k (k.wrap n)) ?_ rfl id rfl⟩;rw[Z]at z;rw[X]at y;simp[execOp,M,bw I hx,Go.convert,run_underlying z.1,run_underlying y.1,Conv.intToInt]
  ·cases h
 ·rename_i E b X Z;split at h
  ·rename_i p xs ha;split at h
   ·rename_i d O;refine⟨_,h,λW a w I=>?_⟩;have a3:one st x≠.dead:=by intro e0;rw[e0]at ha;simp[aD,cV]at ha
    obtain⟨h1,h2,_⟩:=bk I x a3;have a4:=kk (m:=false) (E:=E) I h1 h2 ha;rw[Z]at z;rw[X]at y;refine aM hV I O J (v:=.string (gr xs)) ?_ rfl id rfl;have:=xk (P:=P) y.1 (y.2.2.2.2.1.2 rfl) z.1 a4;simp[execOp,M,this]
   ·cases h
  ·cases h
 ·rename_i E b H X Z hx;cases hE:BM E 5 with
  |false=>simp[hE]at h
  |true =>
  simp only[hE,cond_true]at h;have a0:E=5:=BB hE;split at h
  ·rename_i d O;refine⟨_,h,λW a w I next Q hn=>?_⟩;rw[Z]at z;rw[X]at y;have hc:(dY H).length=H.size:=by simp only[dY,B5,Ba];rfl
   have Y:=Lib.run_convert_string_bytes (P:=P) w s t E H y.1 z.1 (z.2.2.2.2.1.2 rfl);refine dH (v:=.slice (some ⟨w.heap.size,0,none⟩) H.size (grownCap w H.size 0 E)) (w':=Lib.bytesWorld w E H) (by simp[execOp,M,ib I hx,Y]) ?_;rw[O];refine hn _ _ ?_;have a1:=grownCap_ge w H.size 0 E;have a2:(Lib.bytesCells w E H).size=grownCap w H.size 0 E:=by
    simp only[Lib.bytesCells,Cf,Array.size_map,Array.size_replicate];show H.size+_=_;omega
   refine I.putOwn hV (by rw[Lib.bytesWorld_size];omega) (by simp[Lib.bytesWorld,Cg,Cs,C0,-CU,-CY]) (by simp[Lib.bytesWorld,Cg,Cs,C0,-CU,-CY]) (by simp[Lib.bytesWorld,Cg,Cs,C0,-CU,-CY])
    (λk hk=>Lib.bytesWorld_at_old w E H k (I.used_lt k hk)) d (J d O).1 (J d O).2 _ (BF _) (bs:=[w.heap.size])
    ⟨by simp,(dY H).map (Value.int .u8),λ_=>[],⟨by rw[B5];exact (CT _).symm,.inr ⟨w.heap.size,_,_,_,by rw[hc],Lib.bytesWorld_at_new w E H,by rw[hc];exact a1,.inr ⟨a0,BN _⟩,by rw[a2];exact CG (CT _),?_⟩⟩,by simp[BV],λj x hj=>?_⟩ (λk hk hu=>?_)
   ·simp only[Lib.bytesCells,CX,Co,Ty.cells,CT,dY,Ch];exact List.take_left' (by simp)
   ·refine⟨[.int .u8 x],⟨rfl,rfl⟩,λi u hi=>?_⟩
    match i,hi with
    |0,hi =>
     simp only[Bu,AT]at hi;subst hi;simp[Ty.cells,hj]
   ·simp at hk;have:=I.used_lt k hu;omega
  ·cases h
 ·cases h
theorem rF (hV:ax V)(hT:TOk P T)(O:bH V o){t:TypeId}{n c:Operand}(a0:o.op=.makeSlice t n c)(h:act Γ T o st κ=some r):bR P V o st κ r:=by
 simp only[act,wrU,a0]at h;split at h
 ·rename_i E e H k1 m k2 m' ht a5 b1;cases hb:decide (0<=m)&&decide (m=m')&&decide (m*H<=(ak:Int)) with
  |false=>simp[hb]at h
  |true =>
   simp only[hb,cond_true]at h;simp only[AV,decide_eq_true_eq]at hb;obtain⟨⟨h0,rfl⟩,a3⟩:=hb;split at h
   ·rename_i d hd;refine⟨_,h,λW a w Y next Q hn=>?_⟩;have h1:=hT t;rw[ht]at h1;obtain⟨hu,_,_,bb,a4,ti,z,a9,a6,a2,hz,Z⟩:=h1;have hm:(m.toNat:Int)=m:=by omega
    have J:m.toNat*H<=ak:=by
     have:((m.toNat*H:Nat):Int)<=(ak:Int):=by rw[Int.natCast_mul,hm];exact a3
     omega
    have ba:m.toNat*1<=m.toNat*H:=B7 _ a4.1;simp only[ak]at J;have b9:=l8;obtain⟨w',I,b2,y⟩:=run_make_full (P:=P) w 0 t E ti z e.cells hu a9 hz a6 k1 k2 m.toNat (by rw[a2,CJ];omega) (by omega) (Cr _);rw[hm]at I;refine dH (v:=.slice (some ⟨w.heap.size,0,none⟩) m.toNat m.toNat) (w':=w') (by simp[execOp,a0,bw Y a5,bw Y b1,I]) ?_;rw[hd];refine hn _ _ ?_;have b5:z.cells.size=e.cells:=by
     have h2:=(lu w (λ_=>False) e).len;rw[<- Ba,Z,h2]
    refine Y.putOwn hV y.size y.os y.tape y.output (λk hk=>y.block k (Y.used_lt k hk) (by simp)) d (O d hd).1 (O d hd).2 _ (BF _) (bs:=[w.heap.size])
     ⟨by simp,_,λ_=>[],by rw[CP];exact Row.of b2,by simp[BV],λj x X=>?_⟩ (λk hk hu=>?_)
    ·rw[Bv]at X;split at X
     ·rename_i b3;simp at X;subst X;refine⟨_,qk w' _ e 0,λi u hi=>?_⟩;have b4:i<e.cells:=by rw[<- (lu w' (λ_=>False) e).len];exact (AW.1 hi).1
      have M:(j+1)*e.cells<=m.toNat*e.cells:=BG _ b3;rw[Bc]at M;have a1:j*e.cells+i<m.toNat*e.cells:=by omega
      have e2:(j*e.cells+i) % e.cells=i:=by rw[CJ,Cv,Cn b4]
      have ad:z.cells[i]?=some u:=by rw[<- CQ,Z];exact hi
      obtain⟨bl,b0⟩:=Array.getElem?_eq_some_iff.1 ad;simp only[madeCells,CQ,Array.getElem?_map,Array.getElem?_range,a1,if_true,Cw,b5,e2];rw[getElem!_pos z.cells i (by omega),b0]
     ·cases X
    ·simp at hk;have:=Y.used_lt k hu;omega
   ·cases h
 ·cases h
theorem ua (n u:Nat)(z:n<=u)(k y:IntKind)(w:World):(Ci true n u none (some (.int k n)) (some (.int y n))).run P w=.ok (0,n,n) w:=by
 simp[Ci,Instr.sliceBound,asIntOf,z]
theorem vA (hV:ax V)(hT:TOk P T)(a0:bH V o){t:TypeId}{x m:Operand}{lo hi:Option Operand}(a4:o.op=.slice t x lo hi (some m))(h:act Γ T o st κ=some r):bR P V o st κ r:=by
 simp only[act,wrU,a4]at h;cases Z:o.dst with
 |none=>simp[Z]at h
 |some d =>
  simp only[Z]at h;split at h
  ·rename_i E' e' b9 O j v ht hx;split at h
   ·rename_i p E e J hdr;split at h
    ·rename_i hh k c1 bn;cases hb:hi.isSome&&decide (hh=(J.length:Int))&&decide (k=(J.length:Int))&&BM e'.cells e.cells with
     |false=>rw[hb]at h;cases h
     |true =>
      rw[hb]at h;simp only[cond_true]at h;simp only[AV,decide_eq_true_eq]at hb;obtain⟨⟨⟨a6,rfl⟩,rfl⟩,Y⟩:=hb;have Y:=BB Y;refine⟨_,h,λW a w hr next Q hn=>?_⟩;have h1:=hT t;rw[ht]at h1;obtain⟨hu,_,_,_,_,ti,z,c0,b5,_⟩:=h1;obtain⟨b0,_,_,_,_⟩:=bk hr x (by rw[hx];simp);rw[hx]at b0;obtain⟨h8,a2,b3,cp⟩:=jQ hr hdr b0;obtain⟨y,hy,k1,b1⟩:∃ y,hi=some y/\∃ k1,a.eval y=.int k1 J.length:=by
       rcases mv hr c1 with ⟨I,_⟩|⟨y,k1,I,u⟩
       ·rw[I]at a6;cases a6
       ·exact⟨y,I,k1,u⟩
      obtain⟨k2,cb⟩:∃ k2,a.eval m=.int k2 J.length:=by
       rcases mv hr bn with ⟨I,_⟩|⟨y,k2,I,u⟩
       ·cases I
       ·cases I;exact⟨k2,u⟩
      obtain⟨A,b2,hv,a1⟩:=a2.slice;have hE:=da (P:=P) (t:=E') (n:=e.cells) (by simp[bJ,c0,b5,Y]) w;have a5:(if J.length=0 then A else A.map λx=>x.add (0*e.cells))=A:=by
       cases A with
       |none=>simp
       |some ad =>
        have e0:ad.add 0=ad:=by simp[Addr.add]
        show (if J.length=0 then some ad else some (ad.add (0*e.cells)))=some ad;rw[Cj,e0];split <;> rfl
      refine dH (v:=.slice A J.length J.length) (w':=w) ?_ ?_
      ·simp only[execOp,a4,hv,hy,Cw,CN,b1,cb,Instr.sliceAt,Instr.slice,Ce,run_underlying hu,CA,ua J.length b2 a1 k1 k2 w,hE,Sem.run_pure,CK,a5]
      ·rw[Z];refine hn _ _ ?_;rw[bZ,aN];have c4:∀ z∈[(O,j)],aB st z:=λz hz=>by simp at hz;subst hz;exact⟨_,b3,trivial⟩
       obtain⟨h6,_,_,H⟩:=fm (frz:=[]) (kill:=[(O,j)]) hV hr rfl c4;have e1:aL (ac (aE st []) st) [(O,j)]++aE st []=aL st [(O,j)]:=BT _;rw[e1]at h6 H;have ba:aS W [(O,j)]=W.bs O j:=by simp[aS]
       rw[ba]at H;obtain⟨bb,a3,bx,M,a9,c6⟩:=a2;refine h6.putOwn hV (w':=w) (BN _) rfl rfl rfl (λ_ _=>rfl) d (a0 d Z).1 (a0 d Z).2 _ (BF _) (bs:=W.bs O j) ?_ (λk hk=>l7 ⟨(H k hk).1,(H k hk).2.1,(H k hk).2.2.2.1,(H k hk).2.2.2.2⟩);have b4:∀ k,gd V W p k->gd V (W.frz st []) p k:=bP (W':=W.frz st []) (λh=>h) (λ_ h=>Or.inl h);refine OwH.carry (G:=gd V W p) ⟨bb,a3,bx,⟨M.1,?_⟩,?_,c6⟩ b4 (λ_ _=>rfl) (λ_ _=>rfl)
       ·rcases M.2 with ⟨X,I⟩|⟨g,cc,bl,mk,X,I,u,c2,c3,c5⟩
        ·rw[hv]at X;simp only[BZ]at X;exact .inl ⟨by rw[X.1,I],I⟩
        ·rw[hv]at X;simp only[BZ,true_and]at X;exact .inr ⟨g,J.length,bl,mk,by rw[X.1],I,BN _,c2.imp (λh=>⟨h.1,Bi u h.2⟩) id,Bi (BG _ u) c3,c5⟩
       ·rw[a9,hv];cases A <;> rfl
    ·cases h
   ·cases h
  ·cases h
theorem xm (I:ax V)(H:TOk P T)(u:bH V o){t:TypeId}{x:Operand}{J M z:Option Operand}(y:o.op=.slice t x J M z)(h:act Γ T o st κ=some r):bR P V o st κ r:=by
 cases z with
 |none=>exact uW I H u y h
 |some m=>exact vA I H u y h
theorem zN (hV:ax V)(I:bH V o){c:Call}(H:o.op=.call c)(M:c.callee=.builtin .min)(h:act Γ T o st κ=some r):bR P V o st κ r:=by
 simp only[act,wrU,H,M]at h;split at h
 ·cases h
 ·rename_i d O;simp only[O]at h;split at h
  ·rename_i x y Y;split at h
   ·rename_i Z m k2 n hm X;have u:c.args=#[x,y]:=by rw[<- BW (xs:=c.args),Y]
    refine⟨_,h,λW a w J=>aM hV J O I (v:=.int Z (bif decide (n<m) then n else m)) ?_ rfl id rfl⟩;cases z:decide (n<m) <;> simp[execOp,H,M,resolve,invoke,builtin,u,bw J hm,bw J X,Builtin.min_,Builtin.min2] <;> simp at z <;> omega
   ·cases h
  ·cases h
theorem zO (hV:ax V)(I:bH V o){c:Call}(H:o.op=.call c)(M:c.callee=.builtin .max)(h:act Γ T o st κ=some r):bR P V o st κ r:=by
 simp only[act,wrU,H,M]at h;split at h
 ·cases h
 ·rename_i d O;simp only[O]at h;split at h
  ·rename_i x y Y;split at h
   ·rename_i Z m k2 n hm X;have u:c.args=#[x,y]:=by rw[<- BW (xs:=c.args),Y]
    refine⟨_,h,λW a w J=>aM hV J O I (v:=.int Z (bif decide (m<n) then n else m)) ?_ rfl id rfl⟩;cases z:decide (m<n) <;> simp[execOp,H,M,resolve,invoke,builtin,u,bw J hm,bw J X,Builtin.max_,Builtin.max2] <;> simp at z <;> omega
   ·cases h
  ·cases h
end
section
variable {P:Program} {V:Env} {W:Wit} {st st':St} {w w':World} {a:Act}
theorem an.putGhost (hV:ax V)(h:an P V W st a w)(d:Nat)(hd:GH<=d)(a4:d<B0)(n:Nat)(sh:aG)(ls:List Leaf)
  (R:List Value) (J:Nat->List Nat) (hn:(st d).ver<n) (hl:ls.length=R.length) (h1:∀ u∈R,u.oneCell'=true)
  (a1:∀ (j:Nat) (l:Leaf) (u:Value),ls[j]?=some l->R[j]?=some u->aI P V W st w (J j) l u)
  (Z:∀ (j:Nat) (l:Leaf),ls[j]?=some l->am l->∀ k∈J j,¬ W.nw k/\¬ V.prot k/\(∀ b,live st b->W.β b≠k) /\
   ∀ (r1 j1:Nat) (l1:Leaf),r1≠d->(st r1).ls[j1]?=some l1->am l1->k∉W.bs r1 j1)
  (a2:∀ (j j':Nat) (l l':Leaf),ls[j]?=some l->am l->ls[j']?=some l'->am l'->∀ k,k∈J j->k∈J j'->j=j') :
  an P V { W with cs:=λr=>if r=d then R else W.cs r,bs:=λr j=>if r=d then J j else W.bs r j } (ac [(d,⟨n,sh,ls⟩)] st) a w /\
   cl V W { W with cs:=λr=>if r=d then R else W.cs r,bs:=λr j=>if r=d then J j else W.bs r j } st (ac [(d,⟨n,sh,ls⟩)] st) w w:=by
 have I:∀ b,live (ac [(d,⟨n,sh,ls⟩)] st) b<->live st b:=by
  intro b;by_cases X:B0<=b
  ·rw[live,live,aH (by omega)]
  ·simp[live,X]
 have O:cl V W { W with cs:=λr=>if r=d then R else W.cs r,bs:=λr j=>if r=d then J j else W.bs r j } st (ac [(d,⟨n,sh,ls⟩)] st) w w:=by
  refine⟨λq=>?_,λb X=>⟨(I b).2 X,rfl⟩,λ_ h=>h,λ_ _=>rfl,λ_ q j' l' M h4 h5=>?_⟩
  ·rcases aj d q ⟨n,sh,ls⟩ st with ⟨rfl,e⟩|⟨y,e⟩
   ·rw[e];exact⟨Nat.le_of_lt hn,λe=>absurd e (by show n≠_;omega)⟩
   ·rw[e];exact⟨BN _,λ_=>by simp[y]⟩
  ·rcases aj d q ⟨n,sh,ls⟩ st with ⟨rfl,e⟩|⟨y,e⟩
   ·rw[e]at h5;exact absurd h5 (by show n≠_;omega)
   ·rw[e]at M;exact⟨⟨l',M,h4⟩,by simp[y],λ_ _=>rfl⟩
 refine⟨?_,O⟩
 exact {
  nt:=h.nt,df:=h.df
  slots:=λt ht=>by
   have:t≠d:=by omega
   rw[aH this];simpa[this]using h.slots t ht
  boxes:=λb X=>by
   have:b≠d:=by omega
   rw[aH this];simpa[this]using h.boxes b X
  len:=λq=>by
   rcases aj d q ⟨n,sh,ls⟩ st with ⟨rfl,e⟩|⟨y,e⟩
   ·rw[e];simpa using hl
   ·rw[e];simpa[y]using h.len q
  one:=λq u hu=>by
   by_cases hq:q=d
   ·simp only[hq,if_true]at hu;exact h1 u hu
   ·simp only[hq,if_false]at hu;exact h.one q u hu
  leaf:=λq j l u z M=>by
   rcases aj d q ⟨n,sh,ls⟩ st with ⟨rfl,e⟩|⟨y,e⟩
   ·rw[e]at z;simp only[if_true]at M;exact (a1 j l u z M).carry hV.ro O (λ_=>⟨by simp,λ_ _=>rfl⟩)
   ·rw[e]at z;simp only[y,if_false]at M;exact (h.leaf q j l u z M).carry hV.ro O (λ_=>⟨by simp[y],λ_ _=>rfl⟩)
  ownb:=λq j l z M k Y=>by
   rcases aj d q ⟨n,sh,ls⟩ st with ⟨rfl,e⟩|⟨y,e⟩
   ·rw[e]at z;simp only[if_true]at Y;have:=Z j l z M k Y;exact⟨this.1,this.2.1,λb X=>this.2.2.1 b ((I b).1 X)⟩
   ·rw[e]at z;simp only[y,if_false]at Y;have:=h.ownb q j l z M k Y;exact⟨this.1,this.2.1,λb X=>this.2.2 b ((I b).1 X)⟩
  sep:=λq j l q' j' l' z M h4 h5 k Y H=>by
   rcases aj d q ⟨n,sh,ls⟩ st with ⟨e0,e⟩|⟨y,e⟩ <;> rcases aj d q' ⟨n,sh,ls⟩ st with ⟨e1,e'⟩|⟨a0,e'⟩
   ·rw[e]at z;rw[e']at h4;simp only[e0,if_true]at Y;simp only[e1,if_true]at H;exact⟨e0.trans e1.symm,a2 j j' l l' z M h4 h5 k Y H⟩
   ·rw[e]at z;rw[e']at h4;simp only[e0,if_true]at Y;simp only[a0,if_false]at H;exact absurd H ((Z j l z M k Y).2.2.2 q' j' l' a0 h4 h5)
   ·rw[e]at z;rw[e']at h4;simp only[y,if_false]at Y;simp only[e1,if_true]at H;exact absurd Y ((Z j' l' h4 h5 k H).2.2.2 q j l y z M)
   ·rw[e]at z;rw[e']at h4;simp only[y,if_false]at Y;simp only[a0,if_false]at H;exact h.sep q j l q' j' l' z M h4 h5 k Y H
  box:=λb X=>h.box b ((I b).1 X)
  inj:=λb b' X a3=>h.inj b b' ((I b).1 X) ((I b').1 a3)
  nwlt:=h.nwlt
  os:=h.os,tape:=h.tape,output:=h.output,size:=h.size,keep:=h.keep
  fixb:=λx hx=>⟨(I _).2 (h.fixb x hx).1,(h.fixb x hx).2⟩
  fixt:=h.fixt }
theorem gb {off:Nat}:∀ {a:Ty} {pos:Nat} {x:a.den} {u:(E:TypeId)×(e:Ty)×List e.den},a7 off a pos x=some u->pos<=off/\off<pos+a.cells
 |.pair a b,pos,x,u,h=>by
  simp only[a7]at h;split at h
  ·rename_i v y;have:=gb y;simp only[Ty.cells];omega
  ·have:=gb h;simp only[Ty.cells];omega
 |.list m E e,pos,z,u,h=>by
  simp only[a7]at h;cases r:m&&BM pos off with
  |false=>simp[r]at h
  |true =>
   simp only[AV]at r;have:=BB r.2;simp only[Ty.cells];omega
 |.int _,_,_,_,h=>by simp[a7]at h
 |.bool,_,_,_,h=>by simp[a7]at h
 |.str,_,_,_,h=>by simp[a7]at h
 |.unit,_,_,_,h=>by simp[a7]at h
 |.hdr,_,_,_,h=>by simp[a7]at h
theorem mN {off:Nat}:∀ {a:Ty} {pos:Nat} {x:a.den} {E:TypeId} {e:Ty} {u:List e.den},a7 off a pos x=some ⟨E,e,u⟩->e.shy=true->a.shy=true
 |.pair a b,pos,x,E,e,u,h,r=>by
  simp only[a7]at h;simp only[Ty.shy,Cx];split at h
  ·rename_i v z;simp only[AT]at h;subst h;exact .inl (mN z r)
  ·exact .inr (mN h r)
 |.list m I H,pos,J,E,e,u,h,r=>by
  simp only[a7]at h;cases y:m&&BM pos off with
  |false=>simp[y]at h
  |true =>
   rw[y]at h;simp only[cond_true,AT,Sigma.mk.injEq]at h;obtain⟨rfl,h⟩:=h;rw[heq_eq_eq,Sigma.mk.injEq]at h;obtain⟨rfl,_⟩:=h;simp[Ty.shy,r]
 |.int _,_,_,_,_,_,h,_=>by simp[a7]at h
 |.bool,_,_,_,_,_,h,_=>by simp[a7]at h
 |.str,_,_,_,_,_,h,_=>by simp[a7]at h
 |.unit,_,_,_,_,_,h,_=>by simp[a7]at h
 |.hdr,_,_,_,_,_,h,_=>by simp[a7]at h
theorem Mx.hol_out {G:Nat->Prop}{o:Nat}:∀ {a:Ty} {pos:Nat} {x:a.den} {cs:List Value} {bs:List Nat},(o<pos\/pos+a.cells<=o)->(Mx w G a none pos x cs bs<->Mx w G a (some o) pos x cs bs)
 |.int _,_,_,_,_,_=>CI
 |.bool,_,_,_,_,_=>CI
 |.str,_,_,_,_,_=>CI
 |.unit,_,_,_,_,_=>CI
 |.hdr,_,_,_,_,_=>CI
 |.pair a b,pos,x,cs,bs,r=>by
  simp only[Ty.cells]at r;constructor
  ·rintro⟨c1,c2,b1,b2,e1,e2,h1,h2⟩;exact⟨c1,c2,b1,b2,e1,e2,(Mx.hol_out (by omega)).1 h1,(Mx.hol_out (by omega)).1 h2⟩
  ·rintro⟨c1,c2,b1,b2,e1,e2,h1,h2⟩;exact⟨c1,c2,b1,b2,e1,e2,(Mx.hol_out (by omega)).2 h1,(Mx.hol_out (by omega)).2 h2⟩
 |.list m E e,pos,u,cs,bs,r=>by
  simp only[Ty.cells]at r;cases m with
  |false=>rw[cg,cg]
  |true=>rw[bB (by simp),bB (by simp only[ne_eq,AT];omega)]
theorem Mx.out {G:Nat->Prop}{off:Nat}{E:TypeId}{e:Ty}{ys:List e.den}:∀ {a:Ty} {pos:Nat} {x:a.den} {cs:List Value} {bs:List Nat},Mx w G a none pos x cs bs->a7 off a pos x=some ⟨E,e,ys⟩ ->
  ∃ v z r,OwB w G none E e ys v z/\cs[off-pos]?=some v/\Mx w G a (some off) pos x cs r/\∀ k,bs.count k=r.count k+z.count k
 |.pair a b,pos,x,cs,bs,⟨c1,c2,b1,b2,J,e2,R,h2⟩,h=>by
  have hl:=R.len;simp only[a7]at h;split at h
  ·rename_i u hu;simp only[AT]at h;subst h;have Z:=gb hu;obtain⟨v,z,r,M,O,X,Y⟩:=Mx.out R hu;refine⟨v,z,r++b2,M,?_,⟨c1,c2,r,b2,J,rfl,X,(Mx.hol_out (by omega)).1 h2⟩,λk=>?_⟩
   ·rw[J,BA (by omega)];exact O
   ·rw[e2,AY,AY,Y k];omega
  ·rename_i hu;have Z:=gb h;obtain⟨v,z,r,M,O,X,Y⟩:=Mx.out h2 h;refine⟨v,z,b1++r,M,?_,⟨c1,c2,b1,r,J,rfl,(Mx.hol_out (by omega)).1 R,X⟩,λk=>?_⟩
   ·rw[J,AZ (by omega),hl,show off-pos-a.cells=off-(pos+a.cells) by omega];exact O
   ·rw[e2,AY,AY,Y k];omega
 |.list m E' e',pos,xs,cs,bs,H,h=>by
  simp only[a7]at h;cases y:m&&BM pos off with
  |false=>simp[y]at h
  |true =>
   rw[y]at h;simp only[cond_true,AT,Sigma.mk.injEq]at h;obtain⟨rfl,h⟩:=h;simp only[AV]at y;obtain⟨rfl,y⟩:=y;have y:=BB y;subst y;rw[heq_eq_eq,Sigma.mk.injEq]at h;obtain⟨rfl,h⟩:=h;rw[heq_eq_eq]at h;subst h;have I:=H.one;rw[bB (by simp)]at H;obtain⟨v,rfl,hO⟩:=H;exact⟨v,bs,[],hO,by simp,iF.2 ⟨v,rfl,I v (by simp),rfl⟩,λk=>by simp⟩
 |.int _,_,_,_,_,_,h=>by simp[a7]at h
 |.bool,_,_,_,_,_,h=>by simp[a7]at h
 |.str,_,_,_,_,_,h=>by simp[a7]at h
 |.unit,_,_,_,_,_,h=>by simp[a7]at h
 |.hdr,_,_,_,_,_,h=>by simp[a7]at h
theorem Mx.back {G:Nat->Prop}{off:Nat}{E:TypeId}{e:Ty}{X:List e.den}{v:Value}{Z:List Nat}(hO:OwB w G none E e X v Z):∀ {a:Ty} {pos:Nat} {x z:a.den} {cs:List Value} {I:List Nat},Mx w G a (some off) pos x cs I->bG off E e X a pos x=some z ->
  cs[off-pos]?=some v->∃ O,Mx w G a none pos z cs O/\∀ k,O.count k=I.count k+Z.count k
 |.pair a b,pos,x,z,cs,O,⟨c1,c2,b1,b2,R,e2,M,h2⟩,h,J=>by
  have hl:=M.len;simp only[bG]at h;split at h
  ·rename_i u y;simp only[AT]at h;subst h;have a0:=set_in y;obtain⟨I,Y,g2⟩:=Mx.back hO M y (by rw[R,BA (by omega)]at J;exact J);refine⟨I++b2,⟨c1,c2,I,b2,R,rfl,Y,(Mx.hol_out (by omega)).2 h2⟩,λk=>?_⟩;rw[e2,AY,AY,g2 k];omega
  ·rename_i y;simp only[AU]at h;obtain⟨u,y,rfl⟩:=h;have a0:=set_in y;obtain⟨I,Y,g2⟩:=Mx.back hO h2 y (by
    rw[R,AZ (by omega),hl]at J;rw[show off-(pos+a.cells)=off-pos-a.cells by omega];exact J)
   refine⟨b1++I,⟨c1,c2,b1,I,R,rfl,(Mx.hol_out (by omega)).2 M,Y⟩,λk=>?_⟩;rw[e2,AY,AY,g2 k];omega
 |.list m E' e',pos,xs,z,cs,O,H,h,J=>by
  simp only[bG]at h;cases r:m&&BM pos off with
  |false=>simp[r]at h
  |true =>
   rw[r]at h;simp only[cond_true]at h;obtain⟨rfl,rfl,rfl⟩:=jo h;simp only[AV]at r;obtain⟨rfl,r⟩:=r;have r:=BB r;subst r;rw[iF]at H;obtain⟨v',rfl,M,rfl⟩:=H;simp only[Nat.sub_self,Bu,AT]at J;subst J;exact⟨Z,(bB (by simp)).2 ⟨v',rfl,hO⟩,λk=>by simp⟩
 |.int _,_,_,_,_,_,_,h,_=>by simp[bG]at h
 |.bool,_,_,_,_,_,_,h,_=>by simp[bG]at h
 |.str,_,_,_,_,_,_,h,_=>by simp[bG]at h
 |.unit,_,_,_,_,_,_,h,_=>by simp[bG]at h
 |.hdr,_,_,_,_,_,_,h,_=>by simp[bG]at h
where
 set_in {off:Nat} {E:TypeId} {e:Ty} {X:List e.den}:∀ {a:Ty} {pos:Nat} {x z:a.den},bG off E e X a pos x=some z->pos<=off/\off<pos+a.cells
  |.pair a b,pos,x,z,h=>by
   simp only[bG]at h;split at h
   ·rename_i u y;have:=set_in y;simp only[Ty.cells];omega
   ·simp only[AU]at h;obtain⟨u,y,_⟩:=h;have:=set_in y;simp only[Ty.cells];omega
  |.list m E' e',pos,xs,z,h=>by
   simp only[bG]at h;cases r:m&&BM pos off with
   |false=>simp[r]at h
   |true =>
    simp only[AV]at r;have:=BB r.2;simp only[Ty.cells];omega
  |.int _,_,_,_,h=>by simp[bG]at h
  |.bool,_,_,_,h=>by simp[bG]at h
  |.str,_,_,_,h=>by simp[bG]at h
  |.unit,_,_,_,h=>by simp[bG]at h
  |.hdr,_,_,_,h=>by simp[bG]at h
end
section
variable {P:Program} {V:Env} {W W' W2:Wit} {st st' st2:St} {w w' w2:World} {a:Act}
theorem cl.trans (h:cl V W W' st st' w w')(u:cl V W' W2 st' st2 w' w2):cl V W W2 st st2 w w2:=by
 refine⟨λr=>⟨Bi (h.ver r).1 (u.ver r).1,λe=>?_⟩,λb hb=>?_,λk y=>u.nw k (h.nw k y),λk y=>?_,λhe r j l z H I=>?_⟩
 ·have z:=(h.ver r).1;have H:=(u.ver r).1;rw[(u.ver r).2 (by omega),(h.ver r).2 (by omega)]
 ·obtain⟨z,H⟩:=h.box b hb;obtain⟨I,O⟩:=u.box b z;exact⟨I,O.trans H⟩
 ·rw[u.heap k (y.imp (h.nw k) id),h.heap k y]
 ·have e1:=(h.ver EPO).1;have e2:=(u.ver EPO).1;have e3:=(h.ver r).1;have e4:=(u.ver r).1;obtain⟨⟨Y,R,X⟩,Z,M⟩:=u.epo (by omega) r j l z H (by omega);obtain⟨g5,J,g4⟩:=h.epo (by omega) r j Y R X (by omega);exact⟨g5,Z.trans J,λk y=>(M k (by rw[J];exact y)).trans (g4 k y)⟩
theorem qm {n i:Nat}(z:i<n)(r:Nat->List Nat)(b u:List Nat)(H:∀ k,(r i).count k=b.count k+u.count k)(y:List Nat)(k:Nat) :
  (y++(BH n).flatMap r).count k=(y++(BH n).flatMap λj=>if j=i then b else r j).count k+u.count k:=by
 have:=ka z r b k;have:=H k;rw[AY,AY];omega
theorem OwH.out {G:Nat->Prop}{E E1:TypeId}{e e1:Ty}{xs:List e.den}{v:Value}{bs:List Nat}{i off:Nat}{y:e.den}{ys:List e1.den}(H:Ow w G E e xs v bs)(hy:xs[i]?=some y)(hg:a7 off e 0 y=some ⟨E1,e1,ys⟩) :
  ∃ u R M,OwH w G (some (i,off)) E e xs v M/\Ow w G E1 e1 ys u R/\(∀ g O,v=.slice (some ⟨g,0,none⟩) xs.length O->w.cell? ⟨g,i*e.cells+off,none⟩=some u)/\∀ k,bs.count k=M.count k+R.count k:=by
 obtain⟨a1,X,I,h1,h2,h3⟩:=H;have Y:i<xs.length:=(AW.1 hy).1;obtain⟨c,hm,hc⟩:=h3 i y hy;have hm:Mx w G e none 0 y c (I i):=hm;obtain⟨u,R,b',g1,g2,g3,g4⟩:=hm.out hg;have r:=qm Y I b' R g4 v.ownBlock.toList;rw[<- h2]at r;have z:=bm.1 a1;refine⟨u,R,v.ownBlock.toList++(BH xs.length).flatMap λj=>if j=i then b' else I j,⟨bm.2 λk=>by have:=z k;have:=r k;omega,X,_,h1,rfl,λj x Z=>?_⟩,
  ⟨bm.2 λk=>by have:=z k;have:=r k;omega,g1⟩,λg O hv=>?_,r⟩
 ·by_cases J:j=i
  ·subst J;rw[hy]at Z;simp only[AT]at Z;subst Z;refine⟨c,?_,hc⟩;simp only[cB,Nat.beq_refl,cond_true,if_true];exact g3
  ·obtain⟨c',h4,h5⟩:=h3 j x Z;refine⟨c',?_,h5⟩;have:BM i j=false:=by
    cases hb:BM i j with
    |false=>rfl
    |true=>exact absurd (BB hb).symm J
   simp only[cB,this,cond_false,if_neg J];exact h4
 ·subst hv;have a2:=gb hg;have a0:i*e.cells+off<xs.length*e.cells:=by
   have:=BG e.cells (show i+1<=xs.length from Y);rw[CB,Nat.one_mul]at this;omega
  rw[h1.cellAt _ a0];exact hc off u (by simpa using g2)
theorem OwH.back {G:Nat->Prop}{E E1:TypeId}{e e1:Ty}{xs:List e.den}{v u:Value}{bs bn:List Nat}{i off:Nat}{y z:e.den}{ys:List e1.den}(H:OwH w G (some (i,off)) E e xs v bs)(hn:Ow w G E1 e1 ys u bn)
  (hd:∀ k∈bn,k∉bs) (hy:xs[i]?=some y) (hs:bG off E1 e1 ys e 0 y=some z) (J:∀ g M,v=.slice (some ⟨g,0,none⟩) xs.length M->w.cell? ⟨g,i*e.cells+off,none⟩=some u) :
  ∃ R,Ow w G E e (xs.set i z) v R/\∀ k,R.count k=bs.count k+bn.count k:=by
 obtain⟨a4,Z,Y,h1,h2,h3⟩:=H;have a2:i<xs.length:=(AW.1 hy).1;obtain⟨c,hm,hc⟩:=h3 i y hy;have a1:cB (some (i,off)) i=some off:=by simp[cB]
 rw[a1]at hm;have a9:=Mx.back.set_in hs;have a5:=hm.len;have I:c[off-0]?=some u:=by
  rcases h1.2 with ⟨rfl,h0⟩|⟨g,M,a6,_,rfl,_⟩
  ·omega
  ·have O:=J g M rfl;have a3:i*e.cells+off<xs.length*e.cells:=by
    have:=BG e.cells (show i+1<=xs.length from a2);rw[CB,Nat.one_mul]at this;omega
   rw[h1.cellAt _ a3]at O;have X:off<c.length:=by omega
   have h6:=hc off _ (BL X);rw[O]at h6;rw[CK,BL X,h6]
 obtain⟨b1,g1,g2⟩:=Mx.back hn.2 hm hs I;have r:∀ k,(v.ownBlock.toList++(BH xs.length).flatMap λj=>if j=i then b1 else Y j).count k=bs.count k+bn.count k:=by
  intro k;have O:=ka a2 Y b1 k;have X:=g2 k;rw[h2,AY,AY];omega
 refine⟨_,⟨(mM a4 hn.1 hd (λk=>CG (r k))).1,Z,_,by rw[Bm];exact h1,by rw[Bm],λj x hj=>?_⟩,r⟩;rcases aO _ _ _ _ _ hj with ⟨rfl,rfl,_⟩|⟨a0,hj⟩
 ·refine⟨c,?_,hc⟩;simp only[if_true];exact g1
 ·obtain⟨c',O,X⟩:=h3 j x hj;refine⟨c',?_,X⟩;have:BM i j=false:=by
   cases hb:BM i j with
   |false=>rfl
   |true=>exact absurd (BB hb).symm a0
  have e0:cB (some (i,off)) j=none:=by simp[cB,this]
  rw[e0]at O;simp only[if_neg a0];exact O
theorem iA:GH<=TMP/\TMP<B0/\TMP≠EPO:=by decide
def ta (W:Wit)(S:St)(w:World)(r j:Nat)(v:Value):Prop :=
 r≠TMP/\r≠EPO/\∃ (i off:Nat) (p:Bool) (E:TypeId) (e:Ty) (y:List e.den) (g u:Nat),(S r).ls[j]?=some (.own p (some (i,off)) E e y)/\(W.cs r)[j]?=some (.slice (some ⟨g,0,none⟩) y.length u) /\
  g∈W.bs r j/\w.cell? ⟨g,i*e.cells+off,none⟩=some v
theorem uA (hV:ax V)(h:an P V W st a w){l l':Leaf}{U:Upd}{v:Value}(Z:aI P V W st w [] l v)(I:cd st l=some (U,l')) :
  ∃ W0 n p0 E0 e0 c2,an P V W0 (ac U st) a w/\cl V W W0 st (ac U st) w w/\l'=.al TMP 0 n/\aI P V W0 (ac U st) w [] l' v/\(ac U st TMP).ver=n/\(ac U st TMP).ls=[.own p0 none E0 e0 c2] /\
   W0.nw=W.nw/\W0.β=W.β/\(∀ q,q≠TMP->W0.cs q=W.cs q)/\W0.cs TMP=[v]/\(∀ q,(ac U st q).sh=(st q).sh\/q=TMP)/\ta W0 (ac U st) w (jI l).1 (jI l).2 v:=by
 cases l with
 |nal p ks ep cx E e xs =>
  simp only[cd]at I;cases b0:bj st ks ep with
  |false=>simp[b0]at I
  |true =>
   rw[b0]at I;simp only[cond_true]at I;split at I
   ·rename_i r j n0 i sz off;split at I
    ·rename_i M X J z hg;cases hb:!BM r TMP&&!BM r EPO&&BM sz J.cells with
     |false=>simp[hb]at I
     |true =>
      rw[hb]at I;simp only[cond_true]at I;simp only[AV,BR]at hb;obtain⟨⟨c5,bx⟩,b1⟩:=hb;have b1:=BB b1;subst b1;have Y:r≠TMP:=λe=>by subst e;simp at c5
      have ba:r≠EPO:=λe=>by subst e;simp at bx
      split at I
      ·rename_i y hy;split at I
       ·rename_i E1 e1 ys b9;simp only[AT,Bd]at I;obtain⟨rfl,rfl⟩:=I;have bb:=o8 b0 Z;obtain⟨r',j',n',b2,g,c0,b3,a6,cu,cp,O⟩:=bb.at_ i _ off rfl;simp only[B6,Bd,and_true]at b2;obtain⟨rfl,rfl,rfl⟩:=b2;have a3:(st r).ls[j]?=some (.own M none X J z):=by
         rw[Bf]at hg;cases H:(st r).ls[j]? with
         |none=>rw[H]at hg;simp at hg
         |some l0=>rw[H]at hg;simp at hg;rw[hg]
        have a1:=h.leaf r j _ _ a3 a6;have a1:Ow w (gd V W M) X J z _ (W.bs r j):=a1;have b4:c0=z.length:=by
         obtain⟨A,cc,e0,_⟩:=a1.slice;simp only[BZ]at e0;exact e0.2.1
        subst b4;obtain⟨u,bn,bs',g1,g2,g3,g4⟩:=a1.out hy b9;have hu:u=v:=by
         have:=g3 g b3 rfl;rw[this]at O;exact Option.some.inj O
        subst hu;have c3:=bm.1 a1.1;have b5:∀ k∈bs',k∈W.bs r j:=λk hk=>BD.1 (by have:=g4 k;have:=BD.2 hk;omega)
        have a0:∀ k∈bn,k∈W.bs r j/\k∉bs':=λk hk=>by
         have h5:=g4 k;have h6:=BD.2 hk;have h7:=c3 k;refine⟨BD.1 (by omega),λc6=>?_⟩;have:=BD.2 c6;omega
        have a2:∀ k∈W.bs r j,uz V W st r j k:=λk hk=>by
         have h9:=h.ownb r j _ a3 trivial k hk;exact⟨h9.1,h9.2.1,h9.2.2,λr1 i1 l1 a9 a4 ad R=>ad (by obtain⟨e1,e2⟩:=h.sep r1 i1 l1 r j _ a9 a4 a3 trivial k R hk;rw[e1,e2])⟩
        have hR:xh st (ac [(r,⟨(st r).ver,(st r).sh,aP (st r).ls j (.own M (some (i,off)) X J z)⟩)] (ac [(EPO,bQ (st EPO))] st)) r j (.own M (some (i,off)) X J z):=by
         refine⟨λq=>?_,λq=>?_,?_,λq=>?_,λl Z=>?_,λq i' l H Z=>?_⟩
         ·rcases aj r q ⟨(st r).ver,(st r).sh,aP (st r).ls j (.own M (some (i,off)) X J z)⟩ (ac [(EPO,bQ (st EPO))] st) with ⟨rfl,e⟩|⟨_,e⟩
          ·rw[e]
          ·rw[e];rcases aj EPO q (bQ (st EPO)) st with ⟨rfl,e⟩|⟨_,e⟩ <;> rw[e];rfl
         ·rcases aj r q ⟨(st r).ver,(st r).sh,aP (st r).ls j (.own M (some (i,off)) X J z)⟩ (ac [(EPO,bQ (st EPO))] st) with ⟨rfl,e⟩|⟨_,e⟩
          ·rw[e];exact BN _
          ·rw[e];rcases aj EPO q (bQ (st EPO)) st with ⟨rfl,e⟩|⟨_,e⟩ <;> rw[e]
           ·exact Cq _
           ·exact BN _
         ·rw[aH (Bq ba),bg];exact BF _
         ·rcases aj r q ⟨(st r).ver,(st r).sh,aP (st r).ls j (.own M (some (i,off)) X J z)⟩ (ac [(EPO,bQ (st EPO))] st) with ⟨rfl,e⟩|⟨_,e⟩
          ·rw[e];simp[aP]
          ·rw[e];rcases aj EPO q (bQ (st EPO)) st with ⟨rfl,e⟩|⟨_,e⟩ <;> rw[e];rfl
         ·rw[bg]at Z;rcases aO _ _ _ _ _ Z with ⟨_,rfl,_⟩|⟨ad,_⟩
          ·rfl
          ·exact absurd rfl ad
         ·rcases aj r q ⟨(st r).ver,(st r).sh,aP (st r).ls j (.own M (some (i,off)) X J z)⟩ (ac [(EPO,bQ (st EPO))] st) with ⟨rfl,e⟩|⟨_,e⟩
          ·rw[e]at Z;rcases aO _ _ _ _ _ Z with ⟨rfl,_,_⟩|⟨_,Z⟩
           ·exact absurd rfl H
           ·exact Z
          ·rw[e]at Z;rcases aj EPO q (bQ (st EPO)) st with ⟨rfl,e⟩|⟨_,e⟩ <;> rw[e]at Z <;> exact Z
        have h1:=h.retell hV hR a3 trivial a6 trivial (bs':=bs') g1 (λk hk=>a2 k (b5 k hk)) (λ_ _ _=>rfl) (BN _) rfl rfl rfl;have bl:cl V W (W.tell r j bs') st (ac [(r,⟨(st r).ver,(st r).sh,aP (st r).ls j (.own M (some (i,off)) X J z)⟩)] (ac [(EPO,bQ (st EPO))] st)) w w :=
         ⟨λq=>⟨hR.ver q,λ_=>rfl⟩,λb hb=>⟨(ic hR.sh b).2 hb,rfl⟩,λ_ h=>h,λ_ _=>rfl,λhe=>by have:=hR.epo;omega⟩
        have c1:(ac [(r,⟨(st r).ver,(st r).sh,aP (st r).ls j (.own M (some (i,off)) X J z)⟩)] (ac [(EPO,bQ (st EPO))] st) TMP).ver=(st TMP).ver:=by
         rw[aH (Bq Y),aH iA.2.2]
        obtain⟨h2,c4⟩:=h1.putGhost hV TMP iA.1 iA.2.1 ((st TMP).ver+1) .one [.own (M&&J.shy) none E1 e1 ys] [u] (λ_=>bn) (by rw[c1];exact BF _) rfl (λx hx=>by simp at hx;subst hx;exact g2.one)
         (λq l x H hx=>by
          cases q with
          |zero=>simp at H hx;subst H;subst hx;exact⟨g2.1,(OwB.shy g2.2).carry (bP (W':=W) (by intro hh;simp only[AV]at hh ⊢;exact⟨hh.1,mN b9 hh.2⟩) (λ_ h=>h)) (λ_ _=>rfl) (λ_ _=>rfl)⟩
          |succ q=>simp at H)
         (λq l H _ k hk=>by
          obtain⟨q1,q2,q3,q4⟩:=a2 k (a0 k hk).1;refine⟨q1,q2,λb hb=>q3 b ((ic hR.sh b).1 hb),λr1 i1 l1 _ a9 a4 R=>?_⟩;by_cases H:(r1,i1)=(r,j)
          ·cases H;rw[show (W.tell r j bs').bs r j=bs' from if_pos rfl]at R;exact (a0 k hk).2 R
          ·rw[show (W.tell r j bs').bs r1 i1=W.bs r1 i1 from if_neg H]at R;exact q4 r1 i1 l1 (hR.old r1 i1 l1 H a9) a4 H R)
         (λq q' l l2 h1 h2 h3 h4 k h5 h6=>by
          have h7:q<1:=(AW.1 h1).1;have h8:q'<1:=(AW.1 h3).1;omega)
        have a5:ac [(r,⟨(st r).ver,(st r).sh,aP (st r).ls j (.own M (some (i,off)) X J z)⟩),(TMP,⟨(st TMP).ver+1,.one,[.own (M&&J.shy) none E1 e1 ys]⟩),(EPO,bQ (st EPO))] st =
          ac [(TMP,⟨(st TMP).ver+1,.one,[.own (M&&J.shy) none E1 e1 ys]⟩)] (ac [(r,⟨(st r).ver,(st r).sh,aP (st r).ls j (.own M (some (i,off)) X J z)⟩)] (ac [(EPO,bQ (st EPO))] st)):=by
         rw[aN r,aN TMP,mK Y]
        rw[a5];refine⟨_,_,_,_,_,_,h2,bl.trans c4,rfl,⟨by rw[bg];exact BN _,λ_=>by simp⟩,by rw[bg],by rw[bg],rfl,rfl,λq H=>by simp[H,Wit.tell],by simp,λq=>?_,Y,ba,i,off,M,X,J,z,g,b3,?_,?_,?_,O⟩
        ·by_cases H:q=TMP
         ·exact .inr H
         ·rw[aH H];exact .inl (hR.sh q)
        ·show (ac [(TMP,_)] _ r).ls[j]?=_;rw[aH Y,bg];simp only[aP];rw[Bx (AW.1 a3).1]
        ·show (if r=TMP then _ else W.cs r)[j]?=_;rw[if_neg Y];exact a6
        ·show g∈(if r=TMP then _ else (W.tell r j bs').bs r j);rw[if_neg Y,show (W.tell r j bs').bs r j=bs' from if_pos rfl];obtain⟨_,cb,cw,_,q2,_⟩:=g1;rw[q2];simp[BV]
       ·cases I
      ·cases I
    ·cases I
   ·cases I
 |_=>simp[cd]at I
theorem gK {R:Type}(l:Leaf)(I:Upd->Leaf->Option R):lC st l I=(cd st l).bind λu=>I u.1 u.2:=by
 cases l with
 |nal p X ep O E e xs =>
  simp only[lC,cd];cases bj st X ep with
  |false=>rfl
  |true =>
   simp only[cond_true];split
   ·rename_i r j n i M off;split
    ·rename_i Y Z J z _;cases !BM r TMP&&!BM r EPO&&BM M J.cells with
     |false=>rfl
     |true =>
      simp only[cond_true];have H:idx z (i:Int)=z[i]?:=by
       unfold idx;rw[if_neg (by omega)];simp
      rw[H];cases z[i]? with
      |none=>rfl
      |some y =>
       simp only[Option.bind_some];cases a7 off J 0 y with
       |none=>rfl
       |some u=>rfl
    ·rfl
   ·rfl
 |_=>rfl
end
theorem qW {w:World}{α:Type}{s g:Nat}:∀ (M:List α) (o:Nat) (Q:Nat->α->List Value->Prop),(∀ j x c,Q j x c->c.length=s/\∀ u∈c,u.oneCell'=true)->(∀ (j:Nat) (x:α),M[j]?=some x->∃ c,Q j x c/\cF w g (o+j*s) c) ->
  ∃ r:List Value,r.length=M.length*s/\(∀ j u,r[j]?=some u->w.cell? ⟨g,o+j,none⟩=some u)/\(∀ u∈r,u.oneCell'=true) /\
   ∀ (j:Nat) (x:α),M[j]?=some x->∃ c,Q j x c/\∀ i u,c[i]?=some u->r[j*s+i]?=some u
 |[],o,_,_,_=>⟨[],by simp,by simp,by simp,by simp⟩
 |y::M,o,Q,hQ,h=>by
  obtain⟨c,hr,hc⟩:=h 0 y rfl;obtain⟨r,h1,h2,h3,h4⟩:=qW M (o+s) (λj=>Q (j+1)) (λj=>hQ (j+1)) (λj x z=>by
   obtain⟨c',I,H⟩:=h (j+1) x (by simpa using z);refine⟨c',I,?_⟩;rw[Bc]at H;have:o+s+j*s=o+(j*s+s):=by omega
   rw[this];exact H)
  obtain⟨X,Y⟩:=hQ 0 y c hr;refine⟨c++r,by rw[BK,h1,X,CF,Bc];omega,?_,?_,?_⟩
  ·intro j u z;by_cases R:j<c.length
   ·rw[BA R]at z;have:=hc j u z
    rwa [Cj,Bg]at this
   ·rw[AZ (by omega)]at z;have:=h2 (j-c.length) u z;have e1:o+s+(j-c.length)=o+j:=by omega
    rwa [e1]at this
  ·intro u J;rcases BE.1 J with J|J
   ·exact Y u J
   ·exact h3 u J
  ·intro j x z;cases j with
   |zero =>
    simp at z;subst z;refine⟨c,hr,λi u O=>?_⟩;have Z:=(AW.1 O).1;rw[Cj,Br,BA Z];exact O
   |succ j =>
    obtain⟨c',I,H⟩:=h4 j x (by simpa using z);refine⟨c',I,λi u O=>?_⟩;rw[Bc,AZ (by omega)];rw[<- H i u O];congr 1;omega
theorem jv {P:Program}(g o:Nat)(t:TypeId)(mk:Nat×Nat):∀ (z:List Value) (i:Nat) (cur:Array Value) (w:World),w.heap[g]?=some (.cells cur t mk)->(mk.2=0\/cur.size<=mk.1)->o+i+z.length<=cur.size->(∀ v∈z,v.oneCell'=true) ->
  (storeCells ⟨g,o,none⟩ z i).run P w=.ok () (w.setRow g (cur.toList.take (o+i)++z++cur.toList.drop (o+i+z.length)).toArray)
 |[],i,cur,w,u,_,_,_=>by
  simp only[storeCells,BT,B4,Bg,List.take_append_drop,BW];rw[setRow_self w g cur t mk u];rfl
 |v::r,i,cur,w,u,O,H,J=>by
  have M:o+i<cur.size:=by simp at H;omega
  have y:(⟨g,o,none⟩:Addr).add i=⟨g,o+i,none⟩:=by unfold Addr.add;split <;> simp_all
  have I:(store ((⟨g,o,none⟩:Addr).add i) v).run P w=.ok () (w.setRow g (cur.setIfInBounds (o+i) v)):=by
   rw[y,run_store P w _ v _ (J v (by simp)),cell_of_row w g _ cur t mk u,Array.getElem?_eq_getElem M];simp[qA u O M,setCell_eq_setRow w g (o+i) cur t mk v u]
  have R:=jv (P:=P) g o t mk r (i+1) (cur.setIfInBounds (o+i) v) (w.setRow g (cur.setIfInBounds (o+i) v)) (setRow_heap w g cur _ t _ u) (by simpa using O) (by simp at H ⊢;omega) (λx X=>J x (by simp[X]));simp only[storeCells,Ce,I,CA,R,setRow_setRow];congr 3;have e:=list_seg_step cur.toList (o+i) v r (by simp at H ⊢;omega);simpa[Array.toList_setIfInBounds,C5]using e
theorem mO {P:Program}(w:World)(t ty e:TypeId)(i:TypeInfo)(R:P.underlying t=some (.slice e))(Z:P.info? e=some i)
  (g y z:Nat) (cur:Array Value) (mk:Nat×Nat) (X:w.heap[g]?=some (.cells cur e mk)) (hm:mk.2=0\/cur.size<=mk.1)
  (a:Addr) (m c:Nat) (r:List Value) (hl:r.length=m*i.size) (H:∀ j u,r[j]?=some u->w.cell? (a.add j)=some u) (O:∀ u∈r,u.oneCell'=true)
  (I:y+m<=z) (J:y*i.size+r.length<=cur.size) :
  (Bb #[t,t] ty #[.slice (some ⟨g,0,none⟩) y z,.slice (some a) m c]).run P w =
   .ok (.slice (some ⟨g,0,none⟩) (y+m) z) (w.setRow g (cur.toList.take (y*i.size)++r++cur.toList.drop (y*i.size+r.length)).toArray):=by
 have Y:=run_firstCells_some (P:=P) w i.size m a m c r hl H;have M:=jv (P:=P) g (y*i.size) e mk r 0 cur w X hm (by simpa using J) O;simp only[Bg]at M;simp[Bb,run_underlying R,sizeOf,typeInfo,Z,CD,I,Y,Addr.add_lit,M]
theorem dr {P:Program}(w:World)(t ty e:TypeId)(i:TypeInfo)(z:Value)(size a0:Nat)(ht:P.underlying t=some (.slice e))(hi:P.info? e=some i)(hz:i.zero=some z)
  (a3:i.size=size) (b2:i.bytes=a0) (b4:z.cells.size=size)
  (v:Value) (n:Nat) (xs:List Value) (y:Row w e size v n xs)
  (a:Addr) (m c:Nat) (r:List Value) (hl:r.length=m*size) (I:∀ j u,r[j]?=some u->w.cell? (a.add j)=some u) (h1:∀ u∈r,u.oneCell'=true)
  (a9:n+m<=maxLen) (O:(n+m)*a0<=140737488355328) :
  ∃ v' w',(Bb #[t,t] ty #[v,.slice (some a) m c]).run P w=.ok v' w'/\Row w' e size v' (n+m) (xs++r)/\w.grownBy w' v.ownBlock/\(v'.ownBlock=v.ownBlock\/v'.ownBlock=some w.heap.size):=by
 subst a3;subst b2;have b1:n+m<=9223372036854775807:=by simp only[maxLen]at a9;omega
 have M:(xs++r).length=(n+m)*i.size:=by rw[BK,y.1,hl,CB]
 have Z:∀ (H:Nat),H<n+m->∀ (a6:Option Nat),
   Row (w.drew.alloc (.cells (xs.toArray++r.toArray++Ck z.cells (grownCap w (n+m) H e-(n+m))) e)) e i.size
    (.slice (some ⟨w.heap.size,0,none⟩) (n+m) (grownCap w (n+m) H e)) (n+m) (xs++r) /\
   w.grownBy (w.drew.alloc (.cells (xs.toArray++r.toArray++Ck z.cells (grownCap w (n+m) H e-(n+m))) e)) a6:=by
  intro H ho a6;have b3:=grownCap_ge w (n+m) H e;have a1:grownCap w (n+m) H e<=maxLen:=grownCap_le_maxLen w (n+m) H e a9;refine⟨⟨M,.inr ⟨w.heap.size,_,_,_,rfl,heap_alloc_new w.drew _,b3,.inl ⟨rfl,a1⟩,?_,?_⟩⟩,⟨rfl,rfl,rfl,by simp,λk hk _=>Go.heap_alloc_old w.drew _ hk⟩⟩
  ·simp only[Cf,Bw,size_zeroCells,b4,y.1,hl,<- CB];exact BG _ (by omega)
  ·simp only[CX,BJ];rw[<- BJ,<- M];exact C3
 rcases y.2 with ⟨rfl,rfl⟩|⟨g,R,Y,mk,rfl,hg,b5,a1,ad,a5⟩
 ·have hx:xs=[]:=BO (by simpa using y.1);subst hx;by_cases hm:m=0
  ·subst hm;have hn:r=[]:=BO (by simpa using hl);subst hn;refine⟨.slice none 0 0,w,?_,Row.nil w e i.size,⟨rfl,rfl,rfl,BN _,λ_ _ _=>rfl⟩,.inl rfl⟩;simp[Bb,run_underlying ht,sizeOf,typeInfo,hi,CD,B9,loadCells,loadCellsFrom]
  ·have hr:=run_append_nil (P:=P) w t ty e i z ht hi hz a m c r hl I (by omega) (by omega) (by have hb:=O;simp only[Br]at hb;omega);have X:=Z 0 (by omega) (BV (.slice none 0 0));simp only[Br,Cy,Array.empty_append]at X ⊢;exact⟨_,_,hr,X.1,X.2,.inr rfl⟩
 ·by_cases J:n+m<=R
  ·have b0:n*i.size+r.length<=Y.size:=by rw[hl,<- CB];exact Bi (BG _ J) ad
   have hr:=mO (P:=P) w t ty e i ht hi g n R Y mk hg (yM a1) a m c r hl I h1 J b0;have a2:(Y.toList.take (n*i.size)++r++Y.toList.drop (n*i.size+r.length)).toArray.size=Y.size:=by
    simp only[Bw,BK,BU,CE,Ba];omega
   refine⟨_,_,hr,⟨M,.inr ⟨g,R,_,mk,rfl,setRow_heap w g Y _ e _ hg,J,a1.imp id (λh=>⟨h.1,?_⟩),?_,?_⟩⟩,⟨rfl,rfl,rfl,by simp,λk _ hk=>setRow_other w g k _ (λe=>hk (by simp[BV,e]))⟩,.inl rfl⟩
   ·rw[a2];exact h.2
   ·rw[a2];exact ad
   ·rw[a5,<- M];exact C3
  ·have a4:∀ j u,xs[j]?=some u->w.cell? ((⟨g,0,none⟩:Addr).add j)=some u:=λj u hj=>by
    rw[eF,Br,y.cellAt _ (by rw[<- y.1];exact (AW.1 hj).1)];exact hj
   have hr:=run_append_grow (P:=P) w t ty e i z ht hi hz ⟨g,0,none⟩ n R xs y.1 a4 a m c r hl I (by omega) (by omega) (growslice_fits (by omega) O);have X:=Z R (by omega) (BV (.slice (some ⟨g,0,none⟩) n R));exact⟨_,_,hr,X.1,X.2,.inr rfl⟩
theorem mP {P:Program}(w:World)(t ty e:TypeId)(i:TypeInfo)(size c:Nat)(y:P.underlying t=some (.slice e))(z:P.info? e=some i)
  (v:Value) (n:Nat) (xs:List Value) (r:Row w e size v n xs) :
  (Bb #[t,t] ty #[v,.slice none 0 c]).run P w=.ok v w:=by
 rcases r.2 with ⟨rfl,rfl⟩|⟨g,H,I,_,rfl,_,u,_⟩
 ·simp[Bb,run_underlying y,sizeOf,typeInfo,z,CD,B9]
 ·simp[Bb,run_underlying y,sizeOf,typeInfo,z,CD,B9,u,storeCells]
theorem iP {α:Type}{f g:α->List Nat}:∀ {l:List α},(∀ x∈l,f x=g x)->l.flatMap f=l.flatMap g
 |[],_=>rfl
 |x::l,h=>by rw[Bo,Bo,h x (BP ..),iP (λy r=>h y (BI _ r))]
theorem yt (n m:Nat)(f g:Nat->List Nat):(BH (n+m)).flatMap (λj=>if j<n then f j else g (j-n))=(BH n).flatMap f++(BH m).flatMap g:=by
 rw[List.range_add,List.flatMap_append,Cm];congr 1
 ·refine iP λj r=>?_
  rw[if_pos (CS.1 r)]
 ·refine iP λj _=>?_
  rw[if_neg (by omega),show n+j-n=j by omega]
def vB (w:World)(G:Nat->Prop)(e:Ty)(z:List e.den)(u:Value)(y:Nat->List Nat):Prop :=
 ∃ A r,u=.slice A z.length r/\(0<z.length->∃ g o,A=some ⟨g,o,none⟩/\∀ j (x:e.den),z[j]?=some x->∃ c,Mx w G e none 0 x c (y j)/\cF w g (o+j*e.cells) c)
section
variable {P:Program} {V:Env} {Γ:List Ctr} {T:TypeId->TI} {st:St} {o:Oper} {R:Type} {κ:Upd->Option R} {r:R}
theorem vC {w:World}{t ty E:TypeId}{e e':Ty}{I:Nat}(c5:ol P t (.slice E e I))(b3:e'.cells=e.cells){G G2 G':Nat->Prop}{xs H:List e'.den}{v u:Value}{bs:List Nat}{M:Nat->List Nat}(hx:Ow w G E e' xs v bs)
  (hy:vB w G2 e' H u M) (b2:(xs.length+H.length)*I<=ak) (hG:∀ k,G k->G' k) (b0:∀ k,G2 k->G' k) (a9:∀ k,G' k->k<w.heap.size/\v.ownBlock≠some k) (c6:∀ j,j<H.length->∀ k∈M j,v.ownBlock≠some k) :
  ∃ v' O J,(Bb #[t,t] ty #[v,u]).run P w=.ok v' O/\w.grownBy O v.ownBlock/\OwB O G' none E e' (xs++H) v' J /\
   ∀ k,J.count k<=bs.count k+(((BH H.length).flatMap M)++[w.heap.size]).count k:=by
 obtain⟨hu,_,_,cp,c3,ti,z,hi,hs,hb,hz,bn⟩:=c5;obtain⟨c0,X,a6,ho,b4,c2⟩:=hx;obtain⟨A,b1,c4,ba⟩:=hy;subst c4;have cb:ti.size=e'.cells:=by rw[b3];exact hs
 have a3:∀ (O:World),w.grownBy O v.ownBlock->∀ k,G' k->O.heap[k]?=w.heap[k]?:=λO Y k Z=>Y.block k (a9 k Z).1 (Bq (a9 k Z).2)
 have bb:xs.length+H.length<=maxLen:=by
  have h1:(xs.length+H.length)*1<=(xs.length+H.length)*I:=B7 _ c3.1;have:=l8;simp only[ak]at b2;omega
 have b9:∀ (y:List Value),(∀ (j:Nat) (x:e'.den),H[j]?=some x->∃ c,Mx w G2 e' none 0 x c (M j)/\∀ i u,c[i]?=some u->y[j*e'.cells+i]?=some u) ->
   ∀ v' O,Row O E e'.cells v' (xs.length+H.length) (X++y)->w.grownBy O v.ownBlock->(v'.ownBlock=v.ownBlock\/v'.ownBlock=some w.heap.size) ->
    ∃ J,OwB O G' none E e' (xs++H) v' J/\∀ k,J.count k<=bs.count k+(((BH H.length).flatMap M)++[w.heap.size]).count k:=by
  intro y hn v' O a5 Y a4;refine⟨v'.ownBlock.toList++(BH (xs.length+H.length)).flatMap (λj=>if j<xs.length then a6 j else M (j-xs.length)),⟨X++y,_,by rw[BK];exact a5,by rw[BK],λj x hj=>?_⟩,λk=>?_⟩
  ·by_cases a0:j<xs.length
   ·rw[BA a0]at hj;obtain⟨c,hr,hc⟩:=c2 j x hj;have hr:Mx w G e' none 0 x c (a6 j):=hr;refine⟨c,?_,λi u hi=>?_⟩
    ·rw[if_pos a0];refine hr.carry hG (λk Z=>a3 O Y k (hG k Z)) λk Z=>Y.block k (hr.lt k Z) (λe0=>?_)
     have h5:=bm.1 c0 k;rw[b4,<- e0,AY]at h5;have h6:0<((BH xs.length).flatMap a6).count k:=BD.2 (dG.2 ⟨j,a0,Z⟩);simp at h5;omega
    ·have:=hc i u hi;rw[BA (AW.1 this).1];exact this
   ·rw[AZ (by omega)]at hj;obtain⟨c,hr,hc⟩:=hn _ x hj;have c1:=(AW.1 hj).1;refine⟨c,?_,λi u hi=>?_⟩
    ·rw[if_neg a0];exact hr.carry b0 (λk Z=>a3 O Y k (b0 k Z)) λk Z=>Y.block k (hr.lt k Z) (Bq (c6 _ c1 k Z))
    ·have:=hc i u hi;have b5:=ho.1;have cc:xs.length*e'.cells<=j*e'.cells:=BG _ (Nat.le_of_not_lt a0);rw[AZ (by omega),<- this,b5,Nat.sub_mul];congr 1;omega
  ·rw[yt,b4];simp only[AY];rcases a4 with h5|h5
   ·rw[h5];omega
   ·rw[h5];simp only[Ca];omega
 cases A with
 |none =>
  have a1:H.length=0:=by
   rcases Cb H.length with h|h
   ·exact h
   ·obtain⟨g,o,hA,_⟩:=ba h;cases hA
  have a1:=BO a1;subst a1;have a2:=mP (P:=P) w t ty E ti e'.cells b1 hu hi v xs.length X ho;have Y:w.grownBy w v.ownBlock:=⟨rfl,rfl,rfl,BN _,λ_ _ _=>rfl⟩;obtain⟨J,h1,h2⟩:=b9 [] (by simp) v w (by simpa using ho) Y (.inl rfl);exact⟨v,w,J,a2,Y,h1,h2⟩
 |some ad =>
  have bx:∃ y:List Value,y.length=H.length*e'.cells/\(∀ j u,y[j]?=some u->w.cell? (ad.add j)=some u)/\(∀ u∈y,u.oneCell'=true) /\
    ∀ (j:Nat) (x:e'.den),H[j]?=some x->∃ c,Mx w G2 e' none 0 x c (M j)/\∀ i u,c[i]?=some u->y[j*e'.cells+i]?=some u:=by
   rcases Cb H.length with h|h
   ·have a1:=BO h;subst a1;exact⟨[],by simp,by simp,by simp,by simp⟩
   ·obtain⟨g,o,hA,he⟩:=ba h;simp at hA;subst hA;obtain⟨y,h1,h2,h3,h4⟩:=qW H o (λj x c=>Mx w G2 e' none 0 x c (M j)) (λj x c hq=>⟨hq.len,hq.one⟩) he;exact⟨y,h1,λj u hj=>by rw[eF];exact h2 j u hj,h3,h4⟩
  obtain⟨y,h1,h2,h3,h4⟩:=bx;have bl:z.cells.size=e'.cells:=by
   have h2:=(lu w (λ_=>False) e).len;rw[<- Ba,bn,h2,b3]
  obtain⟨v',O,a2,a5,Y,a4⟩:=dr (P:=P) w t ty E ti z e'.cells I hu hi hz cb hb bl v xs.length X ho ad H.length b1 y h1 h2 h3 bb (by simpa[ak]using b2);obtain⟨J,h5,h6⟩:=b9 y h4 v' O a5 Y a4;exact⟨v',O,J,a2,Y,h5,h6⟩
theorem vD {W:Wit}{a:Act}{w:World}(h:an P V W st a w){E:TypeId}{e:Ty}{y:Leaf}{u:Value}{t:ct (List e.den)}(hl:aC P V W st w [y] [u])(H:fF st E e y=some t) :
  (∃ I,vB w (bi V W t.p t.frz) e t.val u I/\∀ k,((BH t.val.length).flatMap I).count k<=(aS W t.kill).count k)/\(∀ x∈t.frz,aB st x)/\(∀ x∈t.kill,aB st x):=by
 have z:∀ {p q:Bool} {O:List e.den} {ks:List (Nat×Nat)},cV e (aD st y)=some (p,O)->(∀ (S:Nat->Prop) (x:e.den) (c:List Value),Rd w (bi V W p (bq st [y])) e x c->Mx w (bi V W q ks) e none 0 x c []) ->
   ∃ I,vB w (bi V W q ks) e O u I/\∀ k,((BH O.length).flatMap I).count k<=(aS W []).count k:=by
  intro p q O ks Y hm;obtain⟨A,M,hu,_,hx⟩:=kk (m:=false) (E:=E) h hl.1.1 hl.1.2.1 Y;have hu:u=.slice A O.length M:=by simpa using hu
  refine⟨(λ_=>[]:Nat->List Nat),⟨A,M,hu,λZ=>?_⟩,λk=>by rw[show ((BH O.length).flatMap λ_=>([]:List Nat))=[] from by simp];exact Cr _⟩;obtain⟨g,o',hA,_,a0⟩:=hx Z;exact⟨g,o',hA,λj x hj=>by
   obtain⟨c,hr,hc⟩:=a0 j x hj;exact⟨c,hm (λ_=>True) x c hr,hc⟩⟩
 unfold fF at H;cases hf:e.flat with
 |true =>
  rw[hf]at H;simp only[cond_true,AU]at H;obtain⟨⟨p,O⟩,Y,rfl⟩:=H;exact⟨z Y (λ_ x c hr=>Mx.flat hf hr),by simp,by simp⟩
 |false =>
  rw[hf]at H;simp only[cond_false]at H;cases hs:decide (e.sh=e) with
  |true =>
   rw[hs]at H;simp only[cond_true,AU]at H;obtain⟨⟨p,O⟩,Y,rfl⟩:=H;exact⟨z Y (λ_ x c hr=>Mx.shared (of_decide_eq_true hs) hr),λx hx=>dU hl hx,by simp⟩
  |false =>
   rw[hs]at H;simp only[cond_false,AU]at H;obtain⟨J,Y,rfl⟩:=H;obtain⟨h1,h2,h3⟩:=dw (pos:=0) h hl Y;have h1:Mx w (bi V W J.p J.frz) (.list true E e) none 0 J.val [u] (aS W J.kill):=h1;rw[bB (by simp)]at h1;obtain⟨v,hv,a1,X,h4,h5,h6⟩:=h1;simp only[B6,and_true]at hv;subst hv;refine⟨⟨X,?_,λk=>?_⟩,h2,h3⟩
   ·rcases h4.2 with ⟨hn,h0⟩|⟨g,M,a3,_,hv,hg,a2,_⟩
    ·exact⟨none,0,by rw[hn];show _=Value.slice none (Ct J.val) 0;rw[h0],λZ=>by have Z:0<Ct J.val:=Z;omega⟩
    ·refine⟨some ⟨g,0,none⟩,M,hv,λZ=>⟨g,0,rfl,λj x hj=>?_⟩⟩;obtain⟨c,h7,h8⟩:=h6 j x hj;have h7:Mx w (bi V W J.p J.frz) e none 0 x c (X j):=h7;refine⟨c,h7,λi u hi=>?_⟩;have h9:=h8 i u hi;rw[Br];rw[hv]at h4;rw[h4.cellAt _ (by rw[<- h4.1];exact (AW.1 h9).1)];exact h9
   ·show ((BH (Ct J.val)).flatMap X).count k<=(aS W J.kill).count k;rw[h5,AY];omega
theorem zP {l l':Leaf}{U:Upd}(u:cd st l=some (U,l')):∃ n,l'=.al TMP 0 n:=by
 cases l with
 |nal p M ep J E e xs =>
  simp only[cd]at u;cases y:bj st M ep with
  |false=>simp[y]at u
  |true =>
   rw[y]at u;simp only[cond_true]at u;split at u
   ·rename_i r j Y i H off;split at u
    ·rename_i X Z I O hg;cases z:!BM r TMP&&!BM r EPO&&BM H I.cells with
     |false=>simp[z]at u
     |true =>
      rw[z]at u;simp only[cond_true]at u;split at u
      ·split at u
       ·simp only[AT,Bd]at u;exact⟨_,u.2.symm⟩
       ·cases u
      ·cases u
    ·cases u
   ·cases u
 |_=>simp[cd]at u
theorem vE (hV:ax V)(hT:TOk P T)(c0:bH V o){c:Call}(c4:o.op=.call c)(hc:c.callee=.builtin .append)(h:act Γ T o st κ=some r):bR P V o st κ r:=by
  simp only[act,wrU,c4,hc]at h;split at h
  · cases h
  · rename_i d hd
    split at h
    · rename_i x y t u a1 b0
      split at h
      · rename_i E e a2 ht
        cases ad:BM t u with
        |false=>simp[ad]at h
        |true =>
          simp only[ad,cond_true]at h;have ad:=BB ad;subst ad;have c6:=hT t;rw[ht]at c6;have a1:c.args=#[x,y]:=by rw[<- BW (xs:=c.args),a1]
          have b0:c.argTypes=#[t,t]:=by rw[<- BW (xs:=c.argTypes),b0]
          have bb:∀ (a:Act) (w w':World) (v:Value),(Bb #[t,t] o.type #[a.eval x,a.eval y]).run P w=.ok v w'->(execOp a.eval o).run P w=.ok (.value v) w':=by
            intro a w w' v Z;simp[execOp,c4,hc,resolve,invoke,builtin,a1,b0,Z]
          have bx:∀ (I:Upd) (E':TypeId) (e':Ty) (p:Bool) (xs:List e'.den) (ks:List (Nat×Nat)),E'=E->e'.sh=e.sh->dF st (ac I st) I d E' e' a2 p xs ks (one st y) κ=some r ->
              ∃ U,κ U=some r/\∀ (X:Wit) (a:Act) (w:World),an P V X (ac I st) a w->aC P V X (ac I st) w [one st y] [a.eval y]->(∀ x∈ks,aB (ac I st) x)->Ow w (gd V X p) E' e' xs (a.eval x) (aS X ks)->mr P V o st U a w:=by
            intro I E' e' p xs ks hE he J;subst hE;unfold dF at J;split at J
            · rename_i t1 d1
              cases O:aU (t1.kill++ks)&&dk t1.frz (t1.kill++ks)&&decide ((xs.length+t1.val.length)*a2<=ak) with
              |false=>simp[O]at J
              |true =>
                simp only[O,cond_true]at J;simp only[AV,decide_eq_true_eq]at O;obtain⟨⟨d3,cw⟩,bl⟩:=O;refine⟨_,J,λX a w Z a3 cy c1 next Q hn=>?_⟩;obtain⟨⟨cb,d4,b5⟩,hf,d2⟩:=vD Z a3 d1;have cc:∀ x∈t1.kill++ks,aB (ac I st) x:=λx hx=>(BE.1 hx).elim (d2 x) (cy x)
                obtain⟨h1,_,_,h4⟩:=fm hV Z cw cc;have ba:=gA Z d3 cc;rw[du]at ba h4;have Y:∀ k∈aS X t1.kill++aS X ks,¬ bX V (X.frz (ac I st) t1.frz) _ k:=λk H=>l7 ⟨(h4 k H).1,(h4 k H).2.1,(h4 k H).2.2.2.1,(h4 k H).2.2.2.2⟩
                rw[Bh]at ba;obtain⟨c3,cu,b3⟩:=ba;have bn:∀ k,(a.eval x).ownBlock=some k->k∈aS X ks:=by
                  intro k H;obtain⟨_,d5,dd,_,bl,_⟩:=c1;rw[bl,H];simp
                have c5:∀ k,gd V (X.frz (ac I st) t1.frz) (p||t1.p) k->bX V (X.frz (ac I st) t1.frz) (ac (aL (ac (aE (ac I st) t1.frz) (ac I st)) (t1.kill++ks)++aE (ac I st) t1.frz) (ac I st)) k:=by
                  rintro k (H|⟨_,H⟩)
                  · exact .inl H
                  · exact .inr (.inl (hV.ro k H))
                have a5:∀ k∈(BH t1.val.length).flatMap cb,k∈aS X t1.kill:=λk H=>BD.1 (by have:=b5 k;have:=BD.2 H;omega)
                obtain⟨v',w',dc,cp,hg,c2,b9⟩:=vC (P:=P) (t:=t) (ty:=o.type) c6 (gS he) c1 d4 bl (G':=gd V (X.frz (ac I st) t1.frz) (p||t1.p))
                  (bP (W':=X.frz (ac I st) t1.frz) (by intro h;simp[h]) (λ_ h=>Or.inl h))
                  (λk H=>bP (W':=X.frz (ac I st) t1.frz) (by intro h;simp[h]) (λ_ h=>h) k (jS hf k H))
                  (λk H=>⟨h1.used_lt k (c5 k H),λe1=>Y k (AX _ (bn k e1)) (c5 k H)⟩)
                  (λj hj k H e1=>b3 k (a5 k (dG.2 ⟨j,hj,H⟩)) k (bn k e1) rfl)
                have b4:=mM (bs:=aS X ks) (K:=(BH t1.val.length).flatMap cb++[w.heap.size]) cu
                  (bm.2 λk=>by
                    rw[AY];have h5:=b5 k;have h6:=bm.1 c3 k;by_cases H:k=w.heap.size
                    · subst H
                      have:(aS X t1.kill).count w.heap.size=0:=BS.2 (λhm=>by have:=(h4 _ (BC _ hm)).2.2.1;omega);simp;omega
                    · have:List.count k [w.heap.size]=0:=BS.2 (by simp[H])
                      omega)
                  (λk H hm=>by
                    rcases BE.1 H with H|H
                    · exact b3 k (a5 k H) k hm rfl
                    · simp at H
                      subst H;have:=(h4 _ (AX _ hm)).2.2.1;omega) b9
                refine dH (bb a w w' v' cp) ?_;rw[hd];refine hn _ _ ?_;rw[bZ,aN,br];refine h1.putOwn hV hg.size hg.os hg.tape hg.output (λk H=>hg.block k (h1.used_lt k H) (λe1=>Y k (AX _ (bn k e1.symm)) H)) d (c0 d hd).1 (c0 d hd).2 _ (BF _) ⟨b4.1,c2⟩ (λk H hu=>?_);rcases b4.2 k H with H|H
                · exact Y k (AX _ H) hu
                · rcases BE.1 H with H|H
                  · exact Y k (BC _ (a5 k H)) hu
                  · simp at H
                    have:=h1.used_lt k hu;omega
            · cases J
          have a0:∀ (I:Upd) (x':Leaf),dX st I d E e a2 x' (one st y) κ=some r->one st y≠.dead:=by
            intro I x' h e1;rw[e1]at h;unfold dX at h;split at h
            · split at h
              · rename_i p E' e' b1 b2
                cases O:BM E' E&&decide (e'.sh=e.sh) with
                |false=>simp[O]at h
                |true =>
                  simp only[O,cond_true,dF,fF,aD,cV,CN,b7,take]at h;cases e'.flat <;> cases decide (e'.sh=e') <;> simp at h
              · cases h
            · simp only[dF,fF,aD,cV,CN,b7,take]at h
              cases e.flat <;> cases decide (e.sh=e) <;> simp at h
            · cases h
          simp only[hY]at h;cases hn:iV (one st x) with
          |true =>
            rw[hn]at h;simp only[cond_true]at h;rw[gK]at h;obtain⟨⟨I,x'⟩,a9,h⟩:=BX.1 h;have a0:=a0 _ _ h;simp only[dX]at h;split at h
            · rename_i r' j n
              split at h
              · rename_i p' E' e' b1 b2
                cases O:BM E' E&&decide (e'.sh=e.sh) with
                |false=>simp[O]at h
                |true =>
                  simp only[O,cond_true]at h;simp only[AV,decide_eq_true_eq]at O;obtain⟨U,hU,hg⟩:=bx I E' e' p' b1 [(r',j)] (BB O.1) O.2 h;refine⟨U,hU,λW a w Z=>?_⟩;obtain⟨a4,_,_,_,_⟩:=bk Z x (by intro e1;rw[e1]at hn;simp[iV]at hn);obtain⟨X,n0,p0,E0,e0,d6,g1,g2,g3,g4,_⟩:=uA hV Z a4 a9;obtain⟨a3,M,a6,_,_⟩:=bk Z y a0;obtain⟨h5,h6,h7,h8⟩:=jQ g1 b2 g4;exact hg X a w g1 ⟨⟨a3.carry hV.ro g2 (λho=>absurd ho M),M,a6⟩,trivial⟩ (λz hz=>by simp at hz;subst hz;exact⟨_,h7,trivial⟩) (by simpa[aS]using h6)
              · cases h
            · exfalso
              obtain⟨n,cx⟩:=zP a9;cases cx
            · cases h
          |false =>
            rw[hn]at h;simp only[cond_false]at h;have a0:=a0 _ _ h;simp only[dX]at h;split at h
            · rename_i r' j n hx
              split at h
              · rename_i p' E' e' b1 b2
                cases O:BM E' E&&decide (e'.sh=e.sh) with
                |false=>simp[O]at h
                |true =>
                  simp only[O,cond_true]at h;simp only[AV,decide_eq_true_eq]at O;obtain⟨U,hU,hg⟩:=bx [] E' e' p' b1 [(r',j)] (BB O.1) O.2 h;refine⟨U,hU,λW a w Z=>?_⟩;obtain⟨a4,_,_,_,_⟩:=bk Z x (by rw[hx];simp);rw[hx]at a4;obtain⟨a3,M,a6,_,_⟩:=bk Z y a0;obtain⟨h5,h6,h7,h8⟩:=jQ Z b2 a4;exact hg W a w Z ⟨⟨a3,M,a6⟩,trivial⟩ (λz hz=>by simp at hz;subst hz;exact⟨_,h7,trivial⟩) (by simpa[aS]using h6)
              · cases h
            · rename_i hx
              obtain⟨U,hU,hg⟩:=bx [] E e false [] [] rfl rfl h;refine⟨U,hU,λW a w Z=>?_⟩;obtain⟨a4,_,_,_,_⟩:=bk Z x (by rw[hx];simp);rw[hx]at a4;obtain⟨a3,M,a6,_,_⟩:=bk Z y a0;exact hg W a w Z ⟨⟨a3,M,a6⟩,trivial⟩ (by simp) (by rw[show a.eval x=_ from a4];exact OwH.nil w _ E e)
            · cases h
      · cases h
    · cases h
end
def gB (w:World)(ro pr:Nat->Prop)(r:Bool)(a:Ty)(x:a.den)(v:Value):Prop :=
 if r=true then ∃ b u g o c,v=.pointer (some ⟨b,u,none⟩)/\pr b/\w.cell? ⟨b,u,none⟩=some (.pointer (some ⟨g,o,none⟩))/\pr g/\Rd w ro a x c/\cF w g o c
 else ∃ g o c,v=.pointer (some ⟨g,o,none⟩)/\pr g/\Rd w ro a x c/\cF w g o c
def jj (w:World)(ro pr:Nat->Prop):(cs:List (Bool×Ty))->lA cs->List Value->Prop
 |[],_,y=>y=[]
 |c::cs,x,y=>∃ u r,y=u::r/\gB w ro pr c.1 c.2 x.1 u/\jj w ro pr cs x.2 r
def nD (P:Program)(w:World)(ro pr:Nat->Prop):(pk:PK)->pk.den->Value->List Nat->Prop
 |.rd a,x,v,r=>r=[]/\∃ y,cQ a.isAgg v y/\Rd w ro a x y
 |.own a,x,v,r=>∃ y,cQ a.isAgg v y/\Mx w ro a none 0 x y r
 |.io a,x,v,r=>∃ y,cQ a.isAgg v y/\Mx w ro a none 0 x y r
 |.rref a,x,v,r=>r=[]/\gB w ro pr false a x v
 |.rref2 a,x,v,r=>r=[]/\gB w ro pr true a x v
 |.iop a,x,v,r=>∃ g c E z,v=.pointer (some ⟨g,0,none⟩)/\w.heap[g]?=some (.cells c.toArray E (0,0))/\Mx w ro a none 0 x c z/\r=g::z
 |.fn O B,M,v,r=>r=[]/\gT P w pr O B M v
 |.clo f y,x,v,r=>r=[]/\∃ H:List Value,v=.func (.func f) #[] H.toArray/\jj w ro pr y x H
 |.hol a c off,x,v,r=>∃ y u z I E e J,cQ a.isAgg v y/\Mx w ro a (some c) 0 x.1 y z/\y[c]?=some u/\a7 c a 0 x.1=some ⟨E,e,J⟩/\OwB w ro (some (x.2,off)) E e J u I/\∀ k,r.count k=z.count k+I.count k
def cO (P:Program)(w:World)(ro pr:Nat->Prop):(ps:List PK)->ab ps->List Value->List (List Nat)->Prop
 |[],_,z,u=>z=[]/\u=[]
 |p::ps,x,z,u=>∃ v y b r,z=v::y/\u=b::r/\nD P w ro pr p x.1 v b/\cO P w ro pr ps x.2 y r
def ja (w:World)(G:Nat->Prop)(a:Ty)(x:a.den)(ptr:Bool)(v:Value)(bs:List Nat):Prop :=
 if ptr=true then ∃ g c E r,v=.pointer (some ⟨g,0,none⟩)/\w.heap[g]?=some (.cells c.toArray E (0,0))/\Mx w G a none 0 x c r/\bs=g::r
 else ∃ u,cQ a.isAgg v u/\Mx w G a none 0 x u bs
def bF (w:World)(G:Nat->Prop):(ps:List PK)->ag ps->List Value->List (List Nat)->Prop
 |.io a::ps,o,v::u,b::r=>ja w G a o.1 false v b/\bF w G ps o.2 u r
 |.iop a::ps,o,v::u,b::r=>ja w G a o.1 true v b/\bF w G ps o.2 u r
 |.rd _::ps,o,_::u,b::r=>b=[]/\bF w G ps o u r
 |.own _::ps,o,_::u,b::r=>b=[]/\bF w G ps o u r
 |.rref _::ps,o,_::u,b::r=>b=[]/\bF w G ps o u r
 |.rref2 _::ps,o,_::u,b::r=>b=[]/\bF w G ps o u r
 |.fn _ _::ps,o,_::u,b::r=>b=[]/\bF w G ps o u r
 |.clo _ _::ps,o,_::u,b::r=>b=[]/\bF w G ps o u r
 |.hol _ _ _::ps,o,_::u,b::r=>b=[]/\bF w G ps o u r
 |[],_,[],[]=>True
 |_,_,_,_=>False
def pH (w:World)(G ro:Nat->Prop):(r:RK)->r.den->Value->List Nat->Prop
 |.v a,y,v,u=>∃ z,cQ a.isAgg v z/\Mx w G a none 0 y z u
 |.bv a,y,v,u=>u=[]/\∃ z,cQ a.isAgg v z/\Rd w (λk=>G k\/ro k) a y z
 |.box a,y,v,u=>∃ g c E H,v=.pointer (some ⟨g,0,none⟩)/\w.heap[g]?=some (.cells c.toArray E (0,0))/\Mx w G a none 0 y c H/\u=g::H
def ge (w:World)(G ro:Nat->Prop):(M:List RK)->ah M->List Value->List (List Nat)->Prop
 |[],_,J,H=>J=[]/\H=[]
 |r::M,y,J,H=>∃ u I b z,J=u::I/\H=b::z/\pH w G ro r y.1 u b/\ge w G ro M y.2 I z
def rS:List Value->Value->Prop
 |[u],v=>v=u
 |r,v=>v=.tuple r.toArray
def pI (w w':World)(r:List Nat)(k:Nat):Prop:=k<w'.heap.size/\(w.heap.size<=k\/k∈r)
def tc (c:Ctr)(w:World)(ro:Nat->Prop)(I:List Value)(u:List (List Nat))(y:ah c.rs×ag c.ps)(e:Ending)(w':World):Prop :=
 ∃ (v:Value) (H:List Value) (N:Nat->Prop) (r z:List (List Nat)),e=.returned v/\rS H v/\w.heap.size<=w'.heap.size/\w'.os=w.os/\w'.tape=w.tape/\w'.output=w.output /\
  (∀ k,k<w.heap.size->k∉u.flatten->w'.heap[k]?=w.heap[k]?)/\(∀ k,N k->pI w w' u.flatten k) /\
  bF w' (λk=>N k\/(c.fresh=false/\ro k)) c.ps y.2 I r/\ge w' (λk=>N k\/(c.fresh=false/\ro k)) ro c.rs y.1 H z /\
  (r.flatten++z.flatten).Nodup/\∀ k∈r.flatten++z.flatten,pI w w' u.flatten k/\¬ N k
def bT (P:Program)(c:Ctr):Prop :=
 gv P c.f/\∀ (w:World) (ro:Nat->Prop) (x:ab c.ps) (u:List Value) (r:List (List Nat)) (y:ah c.rs×ag c.ps),
  cO P w ro (λk=>k<w.heap.size/\k∉r.flatten) c.ps x u r->(∀ k,ro k->k<w.heap.size/\k∉r.flatten)->r.flatten.Nodup->c.den x=some y ->
  Calls P c.f u.toArray w (tc c w ro u r y)
section
variable {P:Program} {V:Env} {Γ:List Ctr} {T:TypeId->TI} {st:St} {o:Oper} {R:Type} {κ:Upd->Option R} {r:R}
theorem gT.mono {w0:World}{S I:Nat->Prop}(X:∀ k,S k->I k){y:List Ty}{B:Ty}{H:Tup y->Option B.den}{v:Value}(h:gT P w0 S y B H v):gT P w0 I y B H v:=by
 obtain⟨f,u,e,M,J⟩:=h;exact⟨f,u,e,M,λw1 O Y=>J w1 O (λk z=>Y k (X k z))⟩
theorem gT.move {w0 w:World}{S J:Nat->Prop}(z:w0.heap.size<=w.heap.size)(M:∀ k,S k->J k/\w.heap[k]?=w0.heap[k]?){H:List Ty}{B:Ty}{I:Tup H->Option B.den}{v:Value}
  (h:gT P w0 S H B I v):gT P w J H B I v:=by
 obtain⟨f,y,e,X,O⟩:=h;exact⟨f,y,e,X,λw1 Y Z=>O w1 (Bi z Y) (λk u=>(Z k (M k u).1).trans (M k u).2)⟩
theorem gB.carry {w w1:World}{ro ro' pr H:Nat->Prop}(y:∀ k,ro k->ro' k/\w1.heap[k]?=w.heap[k]?)(u:∀ k,pr k->H k/\w1.heap[k]?=w.heap[k]?){J:Bool}{a:Ty}{x:a.den}{v:Value}(h:gB w ro pr J a x v):gB w1 ro' H J a x v:=by
 unfold gB at h ⊢;split at h
 ·rename_i Y;rw[if_pos Y];obtain⟨b,Z,g,o,c,X,I,O,M,h7,h8⟩:=h;exact⟨b,Z,g,o,c,X,(u b I).1,by rw[kj (u b I).2];exact O,(u g M).1,h7.carry (λk z=>(y k z).1) (λk z=>(y k z).2),h8.same (u g M).2⟩
 ·rename_i Y;rw[if_neg Y];obtain⟨g,o,c,X,I,O,M⟩:=h;exact⟨g,o,c,X,(u g I).1,O.carry (λk z=>(y k z).1) (λk z=>(y k z).2),M.same (u g I).2⟩
theorem jj.carry {w w1:World}{ro ro' pr H:Nat->Prop}(z:∀ k,ro k->ro' k/\w1.heap[k]?=w.heap[k]?)(y:∀ k,pr k->H k/\w1.heap[k]?=w.heap[k]?):∀ {cs:List (Bool×Ty)} {x:lA cs} {us:List Value},jj w ro pr cs x us->jj w1 ro' H cs x us
 |[],_,_,h=>h
 |_::_,_,_,⟨u,I,e,M,J⟩=>⟨u,I,e,M.carry z y,jj.carry z y J⟩
theorem nD.mono {w:World}{ro ro' pr O:Nat->Prop}(y:∀ k,ro k->ro' k)(J:∀ k,pr k->O k):∀ {pk:PK} {x:pk.den} {v:Value} {bs:List Nat},nD P w ro pr pk x v bs->nD P w ro' O pk x v bs
 |.rd _,_,_,_,⟨e,M,H,z⟩=>⟨e,M,H,z.mono y⟩
 |.own _,_,_,_,⟨M,H,z⟩=>⟨M,H,z.mono y⟩
 |.io _,_,_,_,⟨M,H,z⟩=>⟨M,H,z.mono y⟩
 |.rref _,_,_,_,⟨e,h⟩=>⟨e,h.carry (λk I=>⟨y k I,rfl⟩) (λk I=>⟨J k I,rfl⟩)⟩
 |.rref2 _,_,_,_,⟨e,h⟩=>⟨e,h.carry (λk I=>⟨y k I,rfl⟩) (λk I=>⟨J k I,rfl⟩)⟩
 |.iop _,_,_,_,⟨g,c,E,Y,H,z,X,Z⟩=>⟨g,c,E,Y,H,z,X.mono y,Z⟩
 |.fn _ _,_,_,_,⟨e,h⟩=>⟨e,gT.mono J h⟩
 |.clo _ _,_,_,_,⟨e,us,H,z⟩=>⟨e,us,H,z.carry (λk I=>⟨y k I,rfl⟩) (λk I=>⟨J k I,rfl⟩)⟩
 |.hol _ _ _,_,_,_,⟨M,u,Y,b1,E,e,xs,H,z,X,Z,h5,h6⟩=>⟨M,u,Y,b1,E,e,xs,H,z.mono y,X,Z,h5.carry y (λ_ _=>rfl) (λ_ _=>rfl),h6⟩
theorem cO.mono {w:World}{ro ro' pr I:Nat->Prop}(H:∀ k,ro k->ro' k)(z:∀ k,pr k->I k):∀ {ps:List PK} {x:ab ps} {M:List Value} {y:List (List Nat)},cO P w ro pr ps x M y->cO P w ro' I ps x M y
 |[],_,_,_,h=>h
 |_::_,_,_,_,⟨v,J,b,u,Z,Y,X,O⟩=>⟨v,J,b,u,Z,Y,X.mono H z,cO.mono H z O⟩
def js (V:Env)(W:Wit)(st:St)(ks:List (Nat×Nat))(u:List Nat)(k:Nat):Prop:=W.nw k\/V.prot k\/(∃ b∈u,live st b/\W.β b=k)\/∃ x∈ks,k∈W.bs x.1 x.2
theorem ky {W:Wit}{z H:List (Nat×Nat)}{I y:List Nat}(h:∀ x∈z,x∈H)(M:∀ b∈I,b∈y):∀ k,js V W st z I k->js V W st H y k:=by
 rintro k (u|u|⟨b,O,u⟩|⟨x,J,u⟩)
 ·exact .inl u
 ·exact .inr (.inl u)
 ·exact .inr (.inr (.inl ⟨b,M b O,u⟩))
 ·exact .inr (.inr (.inr ⟨x,h x J,u⟩))
theorem iB {W:Wit}{p q:Bool}{y z:List (Nat×Nat)}(I:p=true->q=true)(h:∀ x∈y,x∈z):∀ k,bi V W p y k->bi V W q z k:=by
 rintro k (u|⟨x,H,u⟩)
 ·exact .inl (bP (W':=W) I (λ_ h=>h) k u)
 ·exact .inr ⟨x,h x H,u⟩
theorem gf {agg:Bool}{v:Value}{cs:List Value}(h:dP (be agg) v cs):cQ agg v cs:=by
 cases agg <;> exact h
theorem mQ {W:Wit}{a:Act}{w:World}(h:an P V W st a w){l:Leaf}{ls:List Leaf}{v:Value}(hl:aI P V W st w [] l v)(y:target st l=some ls)(ks:List (Nat×Nat))(O:List Nat)(J:∀ b∈eS [l],b∈O) :
  ∃ g o cs,v=.pointer (some ⟨g,o,none⟩)/\js V W st ks O g/\aC P V W st w ls cs/\cF w g o cs:=by
 unfold target at y;split at y
 ·rename_i b;cases Z:decide ((st b).sh=.agg) with
  |false=>simp[Z]at y
  |true =>
   simp only[Z,cond_true,AT]at y;subst y;obtain⟨hB,M,z⟩:=hl;rcases h.boxes b hB with ⟨X,_⟩|⟨_,E,X⟩
   ·rw[M]at X;cases X
   ·exact⟨W.β b,0,W.cs b,z,.inr (.inr (.inl ⟨b,J b (by simp[eS]),⟨hB,M⟩,rfl⟩)),ia h b,λi v z=>by
     rw[Br,cell_of_row w (W.β b) i _ E (0,0) X];simpa using z⟩
 ·rename_i p a x;simp only[AT]at y;subst y;obtain⟨g,Y,c,z,hg,I,hc⟩:=hl;rw[Bg]at z;exact⟨g,Y,c,z,hg.elim .inl (λh=>.inr (.inl h)),eE (λ_ h=>h) I,hc⟩
 ·rename_i p a x;simp only[AT]at y;subst y;obtain⟨b,ob,g,Y,c,z,Z,H,hg,I,hc⟩:=hl;refine⟨b,ob,[.pointer (some ⟨g,Y,none⟩)],z,Z.elim .inl (λh=>.inr (.inl h)),⟨⟨⟨g,Y,c,rfl,hg,I,hc⟩,id,rfl⟩,trivial⟩,λi u hi=>?_⟩;cases i with
  |zero=>simp at hi;subst hi;exact H
  |succ i=>simp at hi
 ·cases y
theorem gC {W:Wit}{w:World}{x:aG×List Leaf}{l:Leaf}{v:Value}{cs:List Value}(y:dP x.1 v cs)(z:aC P V W st w x.2 cs)(u:ce x=l)(H:l≠.dead) :
  aI P V W st w [] l v/\v.oneCell'=true:=by
 unfold ce at u;split at u
 ·rename_i I;subst u;have y:cs=[v]:=y;subst y;exact⟨z.1.1,z.1.2.2⟩
 ·exact absurd u.symm H
theorem mR {W:Wit}{a:Act}{w:World}(h:an P V W st a w){c:Bool×Ty}{l:Leaf}{v:Value}(hl:aI P V W st w [] l v){g:Got c.2.den}(H:eT st c l=some g) :
  gB w (bi V W g.p g.frz) (js V W st g.frz g.see) c.1 c.2 g.val v/\(∀ z∈g.frz,aB st z)/\g.kill=[]/\g.lend=[]:=by
 unfold eT at H;cases hc:c.1 with
 |true =>
  rw[hc]at H;simp only[cond_true]at H;split at H
  ·rename_i l' ht;split at H
   ·rename_i Z a2;simp only[AU]at H;obtain⟨⟨p,y⟩,hy,rfl⟩:=H;obtain⟨g,o',cs,hv,Y,I,X⟩:=mQ h hl ht (bq st Z) (eS [l,l']) (λb M=>by
     cases l <;> simp[eS]at M ⊢ <;> exact .inl M)
    match cs,I with
    |[u],I =>
     obtain⟨g2,o2,a1,a0,a3,O,a4⟩:=mQ h I.1.1 a2 (bq st Z) (eS [l,l']) (λb M=>by
      cases l <;> cases l' <;> simp[eS]at M ⊢ <;> first|exact M|exact .inr M)
     have J:=X 0 u rfl;rw[Bg,a0]at J;refine⟨?_,λz hz=>dU O hz,rfl,rfl⟩;unfold gB;rw[if_pos rfl];exact⟨g,o',g2,o2,a1,hv,Y,J,a3,ea h O hy,a4⟩
   ·cases H
  ·cases H
 |false =>
  rw[hc]at H;simp only[cond_false]at H;split at H
  ·rename_i Z ht;simp only[AU]at H;obtain⟨⟨p,y⟩,hy,rfl⟩:=H;obtain⟨g,o',cs,hv,Y,I,X⟩:=mQ h hl ht (bq st Z) (eS [l]) (λb M=>M);refine⟨?_,λz hz=>dU I hz,rfl,rfl⟩;unfold gB;rw[if_neg (by simp)];exact⟨g,o',cs,hv,Y,ea h I hy,X⟩
  ·cases H
theorem l9 {W:Wit}{a:Act}{w:World}(h:an P V W st a w):∀ {cs:List (Bool×Ty)} {ls:List Leaf} {us:List Value} {g:Got (lA cs)},aC P V W st w ls us->ch st cs ls=some g ->
  jj w (bi V W g.p g.frz) (js V W st g.frz g.see) cs g.val us/\(∀ z∈g.frz,aB st z)/\g.kill=[]/\g.lend=[]
 |[],[],us,g,J,y=>by
  simp only[ch,AT]at y;subst y;cases us with
  |nil=>exact⟨rfl,by simp,rfl,rfl⟩
  |cons=>exact J.elim
 |[],_::_,_,_,_,y=>by simp[ch]at y
 |_::_,[],_,_,_,y=>by simp[ch]at y
 |c::cs,l::ls,us,g,J,y=>by
  cases us with
  |nil=>exact J.elim
  |cons u us =>
   simp only[ch]at y;split at y
   ·rename_i g1 O;split at y
    ·rename_i g2 M;simp only[AT]at y;subst y;obtain⟨h1,X,h3,h4⟩:=mR h J.1.1 O;obtain⟨Z,Y,h7,h8⟩:=l9 h J.2 M;refine⟨⟨u,us,rfl,h1.carry (λk I=>⟨iB (by intro h;simp[h]) (λx H=>BC _ H) k I,rfl⟩) (λk I=>⟨ky (λx H=>BC _ H) (λx H=>BC _ H) k I,rfl⟩),
      Z.carry (λk I=>⟨iB (by intro h;simp[h]) (λx H=>AX _ H) k I,rfl⟩) (λk I=>⟨ky (λx H=>AX _ H) (λx H=>AX _ H) k I,rfl⟩)⟩,?_,rfl,rfl⟩
     intro z hz;exact (BE.1 hz).elim (X z) (Y z)
    ·cases y
   ·cases y
theorem vF {W:Wit}{w:World}{c:Bool×Bool×(a:Ty)×a.den}{v:Value}(h:iq V W w c v):aI P V W st w [] (eu c) v/\¬ am (eu c)/\v.oneCell'=true:=by
 unfold iq at h;unfold eu;split at h
 ·rename_i u;rw[u];refine⟨h,id,?_⟩;obtain⟨b,I,g,H,z,y,_⟩:=h;rw[y];rfl
 ·rename_i u;have u:c.2.1=false:=by simpa using u
  rw[u];refine⟨h,id,?_⟩;obtain⟨g,H,z,y,_⟩:=h;rw[y];rfl
theorem qn {W:Wit}{w:World}{caps:List (Bool×Bool×(a:Ty)×a.den)}{us:List Value}(I:us.length=caps.length)(h:∀ (i:Nat) (c:Bool×Bool×(a:Ty)×a.den) (u:Value),caps[i]?=some c->us[i]?=some u->iq V W w c u) :
  aC P V W st w (caps.map eu) us :=
 aC.mk (by simp[I]) λj l v y H=>by
  rw[List.getElem?_map,AU]at y;obtain⟨c,z,rfl⟩:=y;exact vF (h j c v z H)
theorem pJ {W:Wit}{w:World}:∀ (caps:List Nat),(∀ b∈caps,B0<=b/\(st b).sh=.agg)->aC P V W st w (caps.map λb=>Leaf.bp b 0) (caps.map λb=>Value.pointer (some ⟨W.β b,0,none⟩))
 |[],_=>trivial
 |b::caps,h=>⟨⟨⟨(h b (BP ..)).1,(h b (BP ..)).2,rfl⟩,id,rfl⟩,pJ caps (λq u=>h q (BI _ u))⟩
theorem mS {off:Nat}{E:TypeId}{e:Ty}{X:List e.den}:∀ {a:Ty} {pos:Nat} {x z:a.den},bG off E e X a pos x=some z->(∃ H,a7 off a pos x=some ⟨E,e,H⟩)/\a7 off a pos z=some ⟨E,e,X⟩
 |.pair a b,pos,x,z,h=>by
  simp only[bG]at h;split at h
  ·rename_i u J;simp only[AT]at h;subst h;obtain⟨⟨H,O⟩,M⟩:=mS J;exact⟨⟨H,by simp only[a7,O]⟩,by simp only[a7,M]⟩
  ·rename_i hn;simp only[AU]at h;obtain⟨u,J,rfl⟩:=h;have a0:=Mx.back.set_in J;obtain⟨⟨H,O⟩,M⟩:=mS J;have y:a7 off a pos x.1=none:=by
    cases Y:a7 off a pos x.1 with
    |none=>rfl
    |some u=>have:=gb Y;omega
   exact⟨⟨H,by simp only[a7,y,O]⟩,by simp only[a7,y,M]⟩
 |.list m E' e',pos,Z,z,h=>by
  simp only[bG]at h;cases I:m&&BM pos off with
  |false=>simp[I]at h
  |true =>
   rw[I]at h;simp only[cond_true]at h;obtain⟨rfl,rfl,rfl⟩:=jo h;exact⟨⟨Z,by simp[a7,I]⟩,by simp[a7,I]⟩
 |.int _,_,_,_,h=>by simp[bG]at h
 |.bool,_,_,_,h=>by simp[bG]at h
 |.str,_,_,_,h=>by simp[bG]at h
 |.unit,_,_,_,h=>by simp[bG]at h
 |.hdr,_,_,_,h=>by simp[bG]at h
theorem Mx.refill {w:World}{G:Nat->Prop}{off:Nat}{E:TypeId}{e:Ty}{ys:List e.den}{u:Value}(Y:u.oneCell'=true):∀ {a:Ty} {pos:Nat} {x z:a.den} {cs:List Value} {bs:List Nat},Mx w G a (some off) pos x cs bs->bG off E e ys a pos x=some z ->
  Mx w G a (some off) pos z (cs.set (off-pos) u) bs
 |.pair a b,pos,x,z,cs,bs,⟨c1,c2,b1,Z,e1,e2,O,M⟩,h=>by
  have hl:=O.len;simp only[bG]at h;split at h
  ·rename_i y J;simp only[AT]at h;subst h;have X:=Mx.back.set_in J;refine⟨c1.set (off-pos) u,c2,b1,Z,?_,e2,Mx.refill Y O J,M⟩;rw[e1,List.set_append_left _ _ (by omega)]
  ·simp only[AU]at h;obtain⟨y,J,rfl⟩:=h;have X:=Mx.back.set_in J;refine⟨c1,c2.set (off-(pos+a.cells)) u,b1,Z,?_,e2,O,Mx.refill Y M J⟩;rw[e1,List.set_append_right _ _ (by omega),hl,show off-pos-a.cells=off-(pos+a.cells) by omega]
 |.list m E' e',pos,xs,z,cs,bs,H,h=>by
  simp only[bG]at h;cases I:m&&BM pos off with
  |false=>simp[I]at h
  |true =>
   simp only[AV]at I;obtain⟨rfl,I⟩:=I;have I:=BB I;subst I;rw[iF]at H ⊢;obtain⟨v,rfl,O,M⟩:=H;exact⟨u,by simp,Y,M⟩
 |.int _,_,_,_,_,_,_,h=>by simp[bG]at h
 |.bool,_,_,_,_,_,_,h=>by simp[bG]at h
 |.str,_,_,_,_,_,_,h=>by simp[bG]at h
 |.unit,_,_,_,_,_,_,h=>by simp[bG]at h
 |.hdr,_,_,_,_,_,_,h=>by simp[bG]at h
theorem aC.setNil {W:Wit}{w:World}{ls:List Leaf}{cs:List Value}(I:aC P V W st w ls cs)(c:Nat):aC P V W st w (aP ls c .nil) (cs.set c (.slice none 0 0)):=by
 have u:=I.length;refine aC.mk (by simp[aP,u]) λj l v z y=>?_
 rcases aO _ _ _ _ _ z with ⟨rfl,rfl,J⟩|⟨H,z⟩
 ·rw[Bx (by omega)]at y;simp only[AT]at y;subst y;exact⟨rfl,id,rfl⟩
 ·rw[Bp (Bq H)]at y;exact I.at_ j l v z y
def vG (P:Program)(V:Env)(W:Wit)(st:St)(w:World)(pk:PK)(v:Value)(g:Got pk.den):Prop :=
 (∃ u,nD P w (bi V W g.p g.frz) (js V W st g.frz g.see) pk g.val v u/\u=g.lend.map W.β++aS W g.kill)/\(∀ z∈g.frz,aB st z)/\(∀ z∈g.kill,aB st z)/\(∀ b∈g.lend,live st b)
theorem mT (hV:ax V){W:Wit}{a:Act}{w:World}(h:an P V W st a w){pk:PK}{x:aG×List Leaf}{v:Value}{cs:List Value}(hs:dP x.1 v cs)(hl:aC P V W st w x.2 cs)
  {g:Got pk.den} (u:bc st pk x=some g):vG P V W st w pk v g:=by
 obtain⟨sh,ls⟩:=x;have Y:∀ {b:Ty} {g:Got b.den},(bif decide (sh=be b.isAgg) then (b7 st b ls).map (λt=>(⟨t.p,t.val,t.frz,t.kill,[],[]⟩:Got b.den)) else none)=some g ->
   (∃ cs,cQ b.isAgg v cs/\Mx w (bi V W g.p g.frz) b none 0 g.val cs (aS W g.kill))/\g.lend=[]/\g.see=[]/\(∀ z∈g.frz,aB st z)/\(∀ z∈g.kill,aB st z):=by
  intro b g hq;cases I:decide (sh=be b.isAgg) with
  |false=>simp[I]at hq
  |true =>
   rw[I]at hq;simp only[cond_true,AU]at hq;have O:=of_decide_eq_true I;subst O;obtain⟨t,ht,rfl⟩:=hq;obtain⟨M,J,X⟩:=dw (pos:=0) h hl ht;exact⟨⟨cs,gf hs,M⟩,rfl,rfl,J,X⟩
 cases pk with
 |rd b =>
  simp only[bc]at u;cases I:decide (sh=be b.isAgg) with
  |false=>simp[I]at u
  |true =>
   rw[I]at u;simp only[cond_true,AU]at u;have O:=of_decide_eq_true I;subst O;obtain⟨⟨p,y⟩,hy,rfl⟩:=u;exact⟨⟨[],⟨rfl,cs,gf hs,ea h hl hy⟩,rfl⟩,λz hz=>dU hl hz,by simp[Got.ofRd],by simp[Got.ofRd]⟩
 |own b =>
  obtain⟨M,J,X,h4,h5⟩:=Y u;exact⟨⟨_,M,by rw[J];rfl⟩,h4,h5,by rw[J];simp⟩
 |io b =>
  obtain⟨M,J,X,h4,h5⟩:=Y u;exact⟨⟨_,M,by rw[J];rfl⟩,h4,h5,by rw[J];simp⟩
 |iop b =>
  simp only[bc]at u;split at u
  ·rename_i q hx;cases I:decide ((st q).sh=.agg) with
   |false=>simp[I]at u
   |true =>
    simp only[I,cond_true,AU]at u;obtain⟨t,ht,rfl⟩:=u;obtain⟨H,hv⟩:=gC hs hl hx (by simp);obtain⟨hB,a5,a9⟩:=H;rcases h.boxes q hB with ⟨h8,_⟩|⟨_,E,h8⟩
    ·rw[a5]at h8;cases h8
    ·obtain⟨M,J,X⟩:=dw (pos:=0) h (ia h q) ht;exact⟨⟨_,⟨W.β q,W.cs q,E,_,a9,h8,M,rfl⟩,rfl⟩,J,X,λb' O=>by simp at O;subst O;exact⟨hB,a5⟩⟩
  ·cases u
 |rref b =>
  simp only[bc]at u;have hd:ce (sh,ls)≠.dead:=by
   intro e;rw[e]at u;simp[eT,target]at u
  obtain⟨H,hv⟩:=gC hs hl rfl hd;obtain⟨M,J,X,h4⟩:=mR (c:=(false,b)) h H u;exact⟨⟨[],⟨rfl,M⟩,by rw[X,h4];rfl⟩,J,by rw[X];simp,by rw[h4];simp⟩
 |rref2 b =>
  simp only[bc]at u;have hd:ce (sh,ls)≠.dead:=by
   intro e;rw[e]at u;simp[eT,target]at u
  obtain⟨H,hv⟩:=gC hs hl rfl hd;obtain⟨M,J,X,h4⟩:=mR (c:=(true,b)) h H u;exact⟨⟨[],⟨rfl,M⟩,by rw[X,h4];rfl⟩,J,by rw[X];simp,by rw[h4];simp⟩
 |fn As B =>
  simp only[bc]at u;split at u
  ·rename_i As' B' φ hx;obtain⟨H,hv⟩:=gC hs hl hx (by simp);split at u
   ·rename_i hh;obtain⟨rfl,rfl⟩:=hh;simp only[AT]at u;subst u;have hf:gT P V.w0 V.prot As' B' φ v:=H;exact⟨⟨[],⟨rfl,gT.move h.size (λk hk=>⟨.inr (.inl hk),h.keep k hk⟩) hf⟩,rfl⟩,by simp,by simp,by simp⟩
   ·cases u
  ·cases u
 |clo f bb =>
  simp only[bc]at u;split at u
  ·rename_i f' a1 hx;cases I:BM f' f with
   |false=>simp[I]at u
   |true =>
    simp only[I,cond_true]at u;have I:=BB I;subst I;obtain⟨H,hv⟩:=gC hs hl hx (by simp);obtain⟨M,J⟩:=H;obtain⟨X,h4,h5,h6⟩:=l9 h (pJ a1 J) u;exact⟨⟨[],⟨rfl,_,M,X⟩,by rw[h5,h6];rfl⟩,h4,by rw[h5];simp,by rw[h6];simp⟩
  ·rename_i f' a1 hx;cases I:BM f' f with
   |false=>simp[I]at u
   |true =>
    simp only[I,cond_true]at u;have I:=BB I;subst I;obtain⟨H,hv⟩:=gC hs hl hx (by simp);obtain⟨us,M,J,h7⟩:=H;obtain⟨X,h4,h5,h6⟩:=l9 h (qn J h7) u;exact⟨⟨[],⟨rfl,us,M,X⟩,by rw[h5,h6];rfl⟩,h4,by rw[h5];simp,by rw[h6];simp⟩
  ·cases u
 |hol b c off =>
  simp only[bc]at u;cases I:decide (sh=be b.isAgg) with
  |false=>simp[I]at u
  |true =>
   rw[I]at u;simp only[cond_true]at u;have O:=of_decide_eq_true I;subst O;split at u
   ·rename_i r' j n Z;split at u
    ·rename_i p i o' E e xs hd;cases a0:BM o' off with
     |false=>simp[a0]at u
     |true =>
      rw[a0]at u;simp only[cond_true]at u;have a0:=BB a0;subst a0;split at u
      ·rename_i t ht;split at u
       ·rename_i y hy;simp only[AT]at u;subst u;have a6:ls[c]?=some (.al r' j n):=by
         rw[Bf]at Z;cases hq:ls[c]? with
         |none=>rw[hq]at Z;simp at Z
         |some l0=>rw[hq]at Z;simp at Z;rw[Z]
        have a2:c<cs.length:=by rw[<- hl.length];exact (AW.1 a6).1
        have a4:=BL a2;obtain⟨H,_,a3⟩:=hl.at_ c _ _ a6 a4;obtain⟨_,ad,b1,_⟩:=jQ h hd H;obtain⟨M,J,X⟩:=dw (pos:=0) h (hl.setNil c) ht;obtain⟨⟨b9,b2⟩,b3⟩:=mS hy;obtain⟨v0,bn,b0,g1,g2,g3,g4⟩:=M.out b2;have b4:bn=[]:=by
         simp only[CK,Bx a2,AT]at g2;obtain⟨b5,bl,q1,q2,_⟩:=g1;obtain⟨A,ba,q4,_⟩:=q1.slice;rw[<- g2]at q2 q4;simp only[BZ]at q4;rw[q2,<- q4.2.1];rfl
        have g5:=Mx.refill a3 g3 hy;simp only[CK,List.set_set,List.set_getElem_self]at g5;refine⟨⟨_,⟨cs,cs[c],b0,W.bs r' j,E,e,xs,gf hs,g5.mono (iB (by intro h;simp[h]) (λ_ h=>h)),a4,b3,
         ad.2.carry (λk hk=>.inl (bP (W':=W) (by intro h;simp[h]) (λ_ h=>h) k hk)) (λ_ _=>rfl) (λ_ _=>rfl),λk=>?_⟩,rfl⟩,J,?_,by simp⟩
        ·have:=g4 k;rw[b4]at this;simp only[Cc,Cy];rw[show aS W ((r',j)::t.kill)=W.bs r' j++aS W t.kill from rfl,AY,this];simp;omega
        ·intro z hz;rcases Bs.1 hz with rfl|hz
         ·exact⟨_,b1,trivial⟩
         ·exact X z hz
       ·cases u
      ·cases u
    ·cases u
   ·cases u
end
section
variable {P:Program} {V:Env} {Γ:List Ctr} {T:TypeId->TI} {st:St} {o:Oper} {R:Type} {κ:Upd->Option R} {r:R}
def gE (P:Program)(V:Env)(W:Wit)(st:St)(w:World):List (aG×List Leaf)->List Value->Prop
 |[],y=>y=[]
 |x::H,y=>∃ v u z,y=v::u/\dP x.1 v z/\aC P V W st w x.2 z/\gE P V W st w H u
theorem kc {W:Wit}{w:World}{ga:(pk:PK)->aG×List Leaf->Option (Got pk.den)}
  (H:∀ (pk:PK) (x:aG×List Leaf) (v:Value) (cs:List Value) (g:Got pk.den),dP x.1 v cs->aC P V W st w x.2 cs->ga pk x=some g->vG P V W st w pk v g) :
  ∀ (ps:List PK) (xs:List (aG×List Leaf)) (X:List Value) (g:Got (ab ps)),gE P V W st w xs X->aY ga ps xs=some g ->
   (∃ I,cO P w (bi V W g.p g.frz) (js V W st g.frz g.see) ps g.val X I/\∀ k,I.flatten.count k=(g.lend.map W.β).count k+(aS W g.kill).count k) /\
    (∀ z∈g.frz,aB st z)/\(∀ z∈g.kill,aB st z)/\(∀ b∈g.lend,live st b)
 |[],[],X,g,u,y=>by
  simp only[aY,AT]at y;subst y;exact⟨⟨[],⟨u,rfl⟩,λk=>by simp[aS]⟩,by simp,by simp,by simp⟩
 |[],_::_,_,_,_,y=>by simp[aY]at y
 |_::_,[],_,_,_,y=>by simp[aY]at y
 |p::ps,x::xs,X,g,u,y=>by
  obtain⟨v,M,cs,rfl,hs,hl,J⟩:=u;simp only[aY]at y;split at y
  ·rename_i g1 a0;split at y
   ·rename_i g2 Y;simp only[AT]at y;subst y;obtain⟨⟨b,h1,h2⟩,h3,h4,h5⟩:=H p x v cs g1 hs hl a0;obtain⟨⟨I,h6,h7⟩,h8,h9,Z⟩:=kc H ps xs M g2 J Y;refine⟨⟨b::I,⟨v,M,b,I,rfl,rfl,h1.mono (iB (by intro h;simp[h]) (λx u=>BC _ u)) (ky (λx u=>BC _ u) (λx u=>BC _ u)),
     h6.mono (iB (by intro h;simp[h]) (λx u=>AX _ u)) (ky (λx u=>AX _ u) (λx u=>AX _ u))⟩,λk=>?_⟩,?_,?_,?_⟩
    ·rw[BQ,AY,h7 k,h2,AY,Cu,AY,du,AY];omega
    ·intro z O;exact (BE.1 O).elim (h3 z) (h8 z)
    ·intro z O;exact (BE.1 O).elim (h4 z) (h9 z)
    ·intro z O;exact (BE.1 O).elim (h5 z) (Z z)
   ·cases y
  ·cases y
theorem mU:∀ {Γ:List Ctr} {f:FuncId} {c:Ctr},lB Γ f=some c->c∈Γ/\c.f=f
 |[],_,_,h=>by simp[lB]at h
 |z::Γ,f,c,h=>by
  simp only[lB]at h;cases u:BM z.f f with
  |true =>
   simp only[u,cond_true,AT]at h;subst h;exact⟨BP ..,BB u⟩
  |false =>
   simp only[u,cond_false]at h;obtain⟨H,y⟩:=mU h;exact⟨BI _ H,y⟩
theorem td {w:World}{G pr:Nat->Prop}{q:List PK}{z:ab q}{cv:List Value}{I:List (List Nat)}(J:cO P w G pr q z cv I):∀ (y:List Ty) (x:Tup y) (u:List Value),rL w G y x u ->
  cO P w G pr (y.map .rd++q) (nj q z y x) (u++cv) (y.map (λ_=>[])++I)
 |[],_,_,h=>by rw[show _=_ from h];exact J
 |a::y,x,_,⟨v,c,H,rfl,X,M,O⟩=>⟨v,H++cv,[],_,rfl,rfl,⟨rfl,c,X,M⟩,td J y x.2 H O⟩
theorem pK {w:World}{ro pr:Nat->Prop}:∀ {ps:List PK} {x:ab ps} {J:List Value} {u:List (List Nat)},ps.all PK.reads=true->cO P w ro pr ps x J u->u.flatten=[]
 |[],_,_,_,_,⟨_,e⟩=>by rw[e];rfl
 |p::ps,_,_,_,h,⟨v,z,b,y,_,e,I,H⟩=>by
  simp only[CZ,AV]at h;rw[e,BQ,pK h.2 H,BT];cases p <;> first|exact I.1|simp[PK.reads]at h
theorem pL {w w1:World}{ro pr ro' J:Nat->Prop}(u:∀ k,ro k->ro' k/\w1.heap[k]?=w.heap[k]?)(y:∀ k,pr k->J k/\w1.heap[k]?=w.heap[k]?):∀ {ps:List PK} {x:ab ps} {Y:List Value} {H:List (List Nat)},
  ps.all PK.reads=true->cO P w ro pr ps x Y H->cO P w1 ro' J ps x Y H
 |[],_,_,_,_,h=>h
 |p::ps,x,_,_,O,⟨v,M,b,z,e,e2,I,h2⟩=>by
  simp only[CZ,AV]at O;refine⟨v,M,b,z,e,e2,?_,pL u y O.2 h2⟩;cases p with
  |rd a =>
   obtain⟨Z,cs,h3,h4⟩:=I;exact⟨Z,cs,h3,h4.carry (λk X=>(u k X).1) (λk X=>(u k X).2)⟩
  |rref a=>exact⟨I.1,I.2.carry u y⟩
  |rref2 a=>exact⟨I.1,I.2.carry u y⟩
  |_=>simp[PK.reads]at O
theorem ma (z:ax V){W:Wit}{p:Bool}{ks:List (Nat×Nat)}{y:List Nat}:∀ k,bi V W p ks k->js V W st ks y k:=by
 rintro k ((u|⟨_,u⟩)|u)
 ·exact .inl u
 ·exact .inr (.inl (z.ro k u))
 ·exact .inr (.inr (.inr u))
theorem qX {W:Wit}{ks:List (Nat×Nat)}{y:List Nat}(H:∀ z∈ks,aB st z):∀ k,js V W st ks y k->bX V W st k:=by
 rintro k (u|u|⟨b,_,M,e⟩|⟨x,I,u⟩)
 ·exact .inl u
 ·exact .inr (.inl u)
 ·exact .inr (.inr (.inl ⟨b,M,e⟩))
 ·obtain⟨l,O,J⟩:=H x I;exact .inr (.inr (.inr ⟨x.1,x.2,l,O,J,u⟩))
theorem rT {W:Wit}{w:World}:∀ {ls:List Leaf} {us:List Value},aC P V W st w ls us->gE P V W st w (ls.map λl=>(aG.one,[l])) us
 |[],[],_=>rfl
 |_::_,_::_,h=>⟨_,_,[_],rfl,rfl,⟨h.1,trivial⟩,rT h.2⟩
theorem xn (hV:ax V)(hΓ:∀ c∈Γ,bT P c){W:Wit}{a:Act}{w:World}(h:an P V W st a w){Z:List Ty}{B:Ty}{f:FuncId}{ls:List Leaf}{us:List Value}{v:Value}(hv:v=.func (.func f) #[] us.toArray)(c2:aC P V W st w ls us)
  {g:Got (Tup Z->Option B.den)} (H:kg Γ st Z B f ls=some g):gT P w (js V W st g.frz g.see) Z B g.val v/\(∀ z∈g.frz,aB st z)/\g.kill=[]/\g.lend=[]:=by
 unfold kg at H;split at H
 ·rename_i c hc;obtain⟨b1,rfl⟩:=mU hc;obtain⟨a1,J⟩:=hΓ c b1;obtain⟨f',ps,rs,a4,c6⟩:=c;simp only at H a1 J hv;generalize ps.drop Z.length=q at H;unfold rI at H;split at H
  ·rename_i hh;obtain⟨rfl,rfl⟩:=hh;cases hb:q.all PK.reads&&B.flat&&a4 with
   |false=>simp[hb]at H
   |true =>
    simp only[hb,cond_true]at H;simp only[AV]at hb;obtain⟨⟨b3,b4⟩,c1⟩:=hb;subst c1;split at H
    ·rename_i g0 bx;simp only[AT]at H;subst H;obtain⟨⟨a6,h1,h2⟩,h3,h4,h5⟩:=kc (λpk x v cs g hs hl H=>mT hV h hs hl H) q _ _ g0 (rT c2) bx;have c0:=pK b3 h1;refine⟨⟨f',us.toArray,hv,a1,λw1 bl O x I y hx hy=>?_⟩,h3,rfl,rfl⟩;simp only[AU]at hy;obtain⟨y0,b2,rfl⟩:=hy;have M:(Z.map (λ_=>([]:List Nat))++a6).flatten=[]:=by
      rw[List.flatten_append,c0,BT];clear hx b2;induction Z with
      |nil=>rfl
      |cons a Z ih=>simp
     have a9:∀ k,js V W st g0.frz g0.see k->k<w1.heap.size:=λk X=>Bk (h.used_lt k (qX h3 k X)) bl
     have a5:=td (P:=P) (pr:=λk=>k<w1.heap.size/\k∉(Z.map (λ_=>([]:List Nat))++a6).flatten)
      (pL (P:=P) (w1:=w1) (ro':=λk=>k<w1.heap.size) (λk X=>⟨a9 k (ma hV k X),O k (ma hV k X)⟩)
       (λk X=>⟨⟨a9 k X,by rw[M];simp⟩,O k X⟩) b3 h1) Z x I hx
     have a0:=J w1 (λk=>k<w1.heap.size) (nj q g0.val Z x) (I++us) (Z.map (λ_=>[])++a6) y0 a5
      (λk X=>⟨X,by rw[M];simp⟩) (by rw[M];exact Cz) b2
     have a3:I.toArray++us.toArray=(I++us).toArray:=by simp
     rw[a3];refine a0.mono λe w2 a2=>?_
     obtain⟨u,cc,N,c4,cb,rfl,Y,b0,b9,b5,bn,bb,_,_,ad,_,_⟩:=a2;obtain⟨u1,c5,b,c3,e1,e2,⟨cs,ba,hm⟩,e3,e4⟩:=ad;subst e3;subst e1;have Y:u=u1:=Y;subst Y;exact⟨u,cs,rfl,ba,jE b4 hm,⟨b9,b5,bn,b0,λk X=>bb k X (by rw[M];simp)⟩⟩
    ·cases H
  ·cases H
 ·cases H
theorem ub (Z:ax V)(hΓ:∀ c∈Γ,bT P c){W:Wit}{a:Act}{w:World}(h:an P V W st a w)(pk:PK)(x:aG×List Leaf)(v:Value)(cs:List Value)(g:Got pk.den)(X:dP x.1 v cs)(Y:aC P V W st w x.2 cs)
  (H:bW Γ st pk x=some g):vG P V W st w pk v g:=by
 cases pk with
 |fn As B =>
  simp only[bW]at H;split at H
  ·rename_i O y;have J:(∃ u,ce x=.clo O.1 u/\O.2=u.map λb=>Leaf.bp b 0)\/∃ u,ce x=.clr O.1 u/\O.2=u.map eu:=by
    generalize ce x=l at y;cases l <;> simp only[uR,AT,reduceCtorEq]at y
    ·subst y;exact .inl ⟨_,rfl,rfl⟩
    ·subst y;exact .inr ⟨_,rfl,rfl⟩
   rcases J with ⟨u,J,he⟩|⟨u,J,he⟩
   ·obtain⟨z,_⟩:=gC X Y J (by simp);rw[he]at H;obtain⟨h1,h2,I,M⟩:=xn Z hΓ h z.1 (pJ u z.2) H;exact⟨⟨[],⟨rfl,h1⟩,by rw[I,M];rfl⟩,h2,by rw[I];simp,by rw[M];simp⟩
   ·obtain⟨z,_⟩:=gC X Y J (by simp);rw[he]at H;obtain⟨us,e1,e2,e3⟩:=z;obtain⟨h1,h2,I,M⟩:=xn Z hΓ h e1 (qn e2 e3) H;exact⟨⟨[],⟨rfl,h1⟩,by rw[I,M];rfl⟩,h2,by rw[I];simp,by rw[M];simp⟩
  ·exact mT Z h X Y H
 |_=>exact mT Z h X Y H
end
section
variable {P:Program} {V:Env} {W:Wit} {st st':St} {w w':World} {a:Act}
theorem il {G:Nat->Prop}{p:Bool}(hG:∀ k,G k->gd V W p k):∀ {b:Ty} {pos:Nat} {x:b.den} {cs:List Value} {bs:List Nat},Mx w G b none pos x cs bs->bs.Nodup ->
  ∃ a0:Nat->List Nat,(aq p b x).length=cs.length /\
   (∀ (j:Nat) (l:Leaf) (u:Value),(aq p b x)[j]?=some l->cs[j]?=some u->aI P V W st w (a0 j) l u) /\
   (∀ (j:Nat) (l:Leaf),(aq p b x)[j]?=some l->am l->∀ k∈a0 j,k∈bs) /\
   (∀ (j M:Nat) (l l':Leaf),(aq p b x)[j]?=some l->am l->(aq p b x)[M]?=some l'->am l'->∀ k,k∈a0 j->k∈a0 M->j=M)
 |.int k,_,x,cs,bs,H,_=>by
  obtain⟨rfl,rfl⟩:=H;exact⟨λ_=>[],rfl,λj l u y R=>by cases j with|zero=>simp[aq]at y R;subst y;subst R;rfl|succ j=>simp[aq]at y,λj l y _ k r=>by simp at r,λj M l l' _ _ _ _ k r=>by simp at r⟩
 |.bool,_,x,cs,bs,H,_=>by
  obtain⟨rfl,rfl⟩:=H;exact⟨λ_=>[],rfl,λj l u y R=>by cases j with|zero=>simp[aq]at y R;subst y;subst R;rfl|succ j=>simp[aq]at y,λj l y _ k r=>by simp at r,λj M l l' _ _ _ _ k r=>by simp at r⟩
 |.str,_,x,cs,bs,H,_=>by
  obtain⟨rfl,rfl⟩:=H;exact⟨λ_=>[],rfl,λj l u y R=>by cases j with|zero=>simp[aq]at y R;subst y;subst R;rfl|succ j=>simp[aq]at y,λj l y _ k r=>by simp at r,λj M l l' _ _ _ _ k r=>by simp at r⟩
 |.unit,_,x,cs,bs,H,_=>by
  obtain⟨rfl,rfl⟩:=H;exact⟨λ_=>[],rfl,λj l u y R=>by simp[aq]at y,λj l y _ k r=>by simp at r,λj M l l' _ _ _ _ k r=>by simp at r⟩
 |.hdr,_,x,cs,bs,H,_=>by
  obtain⟨⟨A,a2,rfl⟩,rfl⟩:=H;exact⟨λ_=>[],rfl,λj l u y R=>by cases j with|zero=>simp[aq]at y R;subst y;subst R;exact⟨A,a2,rfl⟩|succ j=>simp[aq]at y,λj l y _ k r=>by simp at r,λj M l l' _ _ _ _ k r=>by simp at r⟩
 |.pair b c,pos,x,cs,bs,⟨c1,c2,b1,b2,e1,e2,y,R⟩,X=>by
  subst e1;subst e2;rw[Bh]at X;obtain⟨d1,f1,f2,f3,f4⟩:=il hG y X.1;obtain⟨d2,g1,g2,g3,g4⟩:=il hG R X.2.1;have a4:=cq p b x.1;have a5:=y.len;have I:∀ (j:Nat) (l:Leaf),(aq p b x.1++aq p c x.2)[j]?=some l->(j<b.cells/\(aq p b x.1)[j]?=some l)\/(b.cells<=j/\(aq p c x.2)[j-b.cells]?=some l):=by
   intro j l z;by_cases J:j<b.cells
   ·rw[BA (by omega)]at z;exact .inl ⟨J,z⟩
   ·rw[AZ (by omega),a4]at z;exact .inr ⟨by omega,z⟩
  refine⟨λj=>if j<b.cells then d1 j else d2 (j-b.cells),by simp only[aq,BK];omega,λj l u z hu=>?_,λj l z ho k r=>?_,λj M l l' z ho Y Z k r O=>?_⟩
  ·rcases I j l z with ⟨J,z⟩|⟨a3,z⟩
   ·rw[BA (by omega)]at hu;simp only[if_pos J];exact f2 j l u z hu
   ·rw[AZ (by omega),a5]at hu;simp only[if_neg (show ¬ j<b.cells by omega)];exact g2 _ l u z hu
  ·rcases I j l z with ⟨J,z⟩|⟨a3,z⟩
   ·simp only[if_pos J]at r;exact BC _ (f3 j l z ho k r)
   ·simp only[if_neg (show ¬ j<b.cells by omega)]at r;exact AX _ (g3 _ l z ho k r)
  ·rcases I j l z with ⟨J,z⟩|⟨a3,z⟩ <;> rcases I M l' Y with ⟨a1,Y⟩|⟨a6,Y⟩
   ·simp only[if_pos J]at r;simp only[if_pos a1]at O;exact f4 j M l l' z ho Y Z k r O
   ·simp only[if_pos J]at r;simp only[if_neg (show ¬ M<b.cells by omega)]at O;exact absurd rfl (X.2.2 k (f3 j l z ho k r) k (g3 _ l' Y Z k O))
   ·simp only[if_neg (show ¬ j<b.cells by omega)]at r;simp only[if_pos a1]at O;exact absurd rfl (X.2.2 k (f3 M l' Y Z k O) k (g3 _ l z ho k r))
   ·simp only[if_neg (show ¬ j<b.cells by omega)]at r;simp only[if_neg (show ¬ M<b.cells by omega)]at O;have:=g4 _ _ l l' z ho Y Z k r O;omega
 |.list m E e,pos,xs,cs,bs,H,X=>by
  cases m with
  |false =>
   rw[cg]at H;obtain⟨rfl,A,a2,rfl,R,h3⟩:=H;refine⟨λ_=>[],rfl,λj l u y h4=>?_,λj l y _ k r=>by simp at r,λj M l l' _ _ _ _ k r=>by simp at r⟩;cases j with
   |zero =>
    simp[aq]at y h4;subst y;subst h4;exact Rd.mono hG (⟨A,a2,rfl,R,h3⟩:Rd w G (.list false E e) xs _)
   |succ j=>simp[aq]at y
  |true =>
   rw[bB (by simp)]at H;obtain⟨v,rfl,hO⟩:=H;refine⟨λ_=>bs,rfl,λj l u y h4=>?_,λj l y _ k r=>r,λj M l l' y _ h3 _ k _ _=>?_⟩
   ·cases j with
    |zero =>
     simp[aq]at y h4;subst y;subst h4;exact⟨X,OwB.shy (hO.carry hG (λ_ _=>rfl) (λ_ _=>rfl))⟩
    |succ j=>simp[aq]at y
   ·have h7:j<1:=by simpa[aq]using (AW.1 y).1
    have h8:M<1:=by simpa[aq]using (AW.1 h3).1
    omega
theorem an.reown (hV:ax V)(h:an P V W st a w)(r:Nat)(c:bL)(M:Nat->List Nat)(a3:(st r).ver<c.ver)(a2:c.sh=(st r).sh)(X:c.ls.length=(st r).ls.length)
  (a1:∀ (j:Nat) (l:Leaf) (v:Value),c.ls[j]?=some l->(W.cs r)[j]?=some v->aI P V W st w (M j) l v)
  (Z:∀ (j:Nat) (l:Leaf),c.ls[j]?=some l->am l->∀ k∈M j,¬ W.nw k/\¬ V.prot k/\(∀ b,live st b->W.β b≠k) /\
   ∀ (r1 j1:Nat) (l1:Leaf),r1≠r->(st r1).ls[j1]?=some l1->am l1->k∉W.bs r1 j1)
  (a4:∀ (j j':Nat) (l l':Leaf),c.ls[j]?=some l->am l->c.ls[j']?=some l'->am l'->∀ k,k∈M j->k∈M j'->j=j') :
  an P V { W with bs:=λr' j=>if r'=r then M j else W.bs r' j } (ac [(r,c)] st) a w:=by
 have I:∀ b,live (ac [(r,c)] st) b<->live st b:=by
  intro b;rcases aj r b c st with ⟨rfl,e⟩|⟨_,e⟩
  ·simp[live,e,a2]
  ·simp[live,e]
 have Y:cl V W { W with bs:=λr' j=>if r'=r then M j else W.bs r' j } st (ac [(r,c)] st) w w:=by
  refine⟨λq=>?_,λb R=>⟨(I b).2 R,rfl⟩,λ_ h=>h,λ_ _=>rfl,λ_ q j' l' J h4 h5=>?_⟩
  ·rcases aj r q c st with ⟨rfl,e⟩|⟨y,e⟩
   ·rw[e];exact⟨Nat.le_of_lt a3,λ_=>rfl⟩
   ·rw[e];exact⟨BN _,λ_=>rfl⟩
  ·rcases aj r q c st with ⟨rfl,e⟩|⟨y,e⟩
   ·rw[e]at h5;omega
   ·rw[e]at J;exact⟨⟨l',J,h4⟩,by simp[y],λ_ _=>rfl⟩
 exact {
  nt:=h.nt,df:=h.df
  slots:=λt ht=>by
   rcases aj r t c st with ⟨rfl,e⟩|⟨_,e⟩
   ·rw[e,a2];exact h.slots t ht
   ·rw[e];exact h.slots t ht
  boxes:=λb R=>by
   rcases aj r b c st with ⟨rfl,e⟩|⟨_,e⟩
   ·rw[e,a2];rcases h.boxes b R with ⟨h1,z⟩|h1
    ·refine .inl ⟨h1,?_⟩;rw[z]at X;exact BO X
    ·exact .inr h1
   ·rw[e];exact h.boxes b R
  len:=λq=>by
   rcases aj r q c st with ⟨rfl,e⟩|⟨_,e⟩
   ·rw[e,X];exact h.len q
   ·rw[e];exact h.len q
  one:=h.one
  leaf:=λq j l u z J=>by
   rcases aj r q c st with ⟨rfl,e⟩|⟨y,e⟩
   ·rw[e]at z;exact (a1 j l u z J).carry hV.ro Y (λ_=>⟨by simp,λ_ _=>rfl⟩)
   ·rw[e]at z;exact (h.leaf q j l u z J).carry hV.ro Y (λ_=>⟨by simp[y],λ_ _=>rfl⟩)
  ownb:=λq j l z J k O=>by
   rcases aj r q c st with ⟨rfl,e⟩|⟨y,e⟩
   ·rw[e]at z;simp only[if_true]at O;have:=Z j l z J k O;exact⟨this.1,this.2.1,λb R=>this.2.2.1 b ((I b).1 R)⟩
   ·rw[e]at z;simp only[y,if_false]at O;have:=h.ownb q j l z J k O;exact⟨this.1,this.2.1,λb R=>this.2.2 b ((I b).1 R)⟩
  sep:=λq j l q' j' l' z J h4 h5 k O H=>by
   rcases aj r q c st with ⟨e0,e⟩|⟨y,e⟩ <;> rcases aj r q' c st with ⟨e1,e'⟩|⟨a0,e'⟩
   ·rw[e]at z;rw[e']at h4;simp only[e0,if_true]at O;simp only[e1,if_true]at H;exact⟨e0.trans e1.symm,a4 j j' l l' z J h4 h5 k O H⟩
   ·rw[e]at z;rw[e']at h4;simp only[e0,if_true]at O;simp only[a0,if_false]at H;exact absurd H ((Z j l z J k O).2.2.2 q' j' l' a0 h4 h5)
   ·rw[e]at z;rw[e']at h4;simp only[y,if_false]at O;simp only[e1,if_true]at H;exact absurd O ((Z j' l' h4 h5 k H).2.2.2 q j l y z J)
   ·rw[e]at z;rw[e']at h4;simp only[y,if_false]at O;simp only[a0,if_false]at H;exact h.sep q j l q' j' l' z J h4 h5 k O H
  box:=λb R=>h.box b ((I b).1 R)
  inj:=λb b' R a5=>h.inj b b' ((I b).1 R) ((I b').1 a5)
  nwlt:=h.nwlt
  os:=h.os,tape:=h.tape,output:=h.output,size:=h.size,keep:=h.keep
  fixb:=λx hx=>⟨(I _).2 (h.fixb x hx).1,(h.fixb x hx).2⟩
  fixt:=h.fixt }
theorem an.reownE (hV:ax V)(h:an P V W st a w)(r:Nat)(c:bL)(J:Nat->List Nat)(a5:r≠EPO)(a1:(st r).ver<=c.ver)(a9:c.sh=(st r).sh)(a2:c.ls.length=(st r).ls.length)
  (a0:∀ (j:Nat) (l:Leaf) (v:Value),c.ls[j]?=some l->(W.cs r)[j]?=some v->aI P V W st w (J j) l v)
  (X:∀ (j:Nat) (l:Leaf),c.ls[j]?=some l->am l->∀ k∈J j,¬ W.nw k/\¬ V.prot k/\(∀ b,live st b->W.β b≠k) /\
   ∀ (r1 j1:Nat) (l1:Leaf),r1≠r->(st r1).ls[j1]?=some l1->am l1->k∉W.bs r1 j1)
  (a3:∀ (j j':Nat) (l l':Leaf),c.ls[j]?=some l->am l->c.ls[j']?=some l'->am l'->∀ k,k∈J j->k∈J j'->j=j') :
  an P V { W with bs:=λr' j=>if r'=r then J j else W.bs r' j } (ac [(r,c),(EPO,bQ (st EPO))] st) a w /\
   (∀ q,(ac [(r,c),(EPO,bQ (st EPO))] st q).sh=(st q).sh/\(st q).ver<=(ac [(r,c),(EPO,bQ (st EPO))] st q).ver/\(q≠r->(ac [(r,c),(EPO,bQ (st EPO))] st q).ls=(st q).ls))/\ac [(r,c),(EPO,bQ (st EPO))] st r=c:=by
 have e0:ac [(r,c),(EPO,bQ (st EPO))] st=ac [(r,c)] (ac [(EPO,bQ (st EPO))] st):=aN _ _ _ _;generalize hS:ac [(r,c),(EPO,bQ (st EPO))] st=S;rw[e0]at hS;have hr:S r=c:=by rw[<- hS,bg]
 have O:∀ q,(S q).sh=(st q).sh/\(st q).ver<=(S q).ver/\(q≠r->(S q).ls=(st q).ls):=by
  intro q;rw[<- hS];rcases aj r q c (ac [(EPO,bQ (st EPO))] st) with ⟨rfl,e⟩|⟨ad,e⟩
  ·rw[e];exact⟨a9,a1,λh=>absurd rfl h⟩
  ·rw[e];rcases aj EPO q (bQ (st EPO)) st with ⟨rfl,e⟩|⟨_,e⟩ <;> rw[e]
   ·exact⟨rfl,Cq _,λ_=>rfl⟩
   ·exact⟨rfl,BN _,λ_=>rfl⟩
 have hE:(st EPO).ver<(S EPO).ver:=by
  rw[<- hS,aH (Bq a5),bg];exact BF _
 refine⟨?_,O,hr⟩;have I:∀ b,live S b<->live st b:=λb=>by simp[live,(O b).1]
 have R:cl V W { W with bs:=λr' j=>if r'=r then J j else W.bs r' j } st S w w :=
  ⟨λq=>⟨(O q).2.1,λ_=>rfl⟩,λb Y=>⟨(I b).2 Y,rfl⟩,λ_ h=>h,λ_ _=>rfl,λhe=>by omega⟩
 have a4:∀ q,(S q).ls.length=(st q).ls.length:=λq=>by
  by_cases y:q=r
  ·rw[y,hr,a2]
  ·rw[(O q).2.2 y]
 exact {
  nt:=h.nt,df:=h.df
  slots:=λt ht=>by rw[(O t).1];exact h.slots t ht
  boxes:=λb Y=>by
   rw[(O b).1];rcases h.boxes b Y with ⟨h1,z⟩|h1
   ·refine .inl ⟨h1,BO ?_⟩;rw[a4,z];rfl
   ·exact .inr h1
  len:=λq=>by rw[a4];exact h.len q
  one:=h.one
  leaf:=λq j l u z Z=>by
   by_cases y:q=r
   ·subst y;rw[hr]at z;exact (a0 j l u z Z).carry hV.ro R (λ_=>⟨by simp,λ_ _=>rfl⟩)
   ·rw[(O q).2.2 y]at z;exact (h.leaf q j l u z Z).carry hV.ro R (λ_=>⟨by simp[y],λ_ _=>rfl⟩)
  ownb:=λq j l z Z k M=>by
   by_cases y:q=r
   ·subst y;rw[hr]at z;simp only[if_true]at M;have:=X j l z Z k M;exact⟨this.1,this.2.1,λb Y=>this.2.2.1 b ((I b).1 Y)⟩
   ·rw[(O q).2.2 y]at z;simp only[y,if_false]at M;have:=h.ownb q j l z Z k M;exact⟨this.1,this.2.1,λb Y=>this.2.2 b ((I b).1 Y)⟩
  sep:=λq j l q' j' l' z Z h4 h5 k M H=>by
   by_cases e0:q=r <;> by_cases e1:q'=r
   ·subst e0;subst e1;rw[hr]at z h4;simp only[if_true]at M H;exact⟨rfl,a3 j j' l l' z Z h4 h5 k M H⟩
   ·subst e0;rw[hr]at z;rw[(O q').2.2 e1]at h4;simp only[if_true]at M;simp only[e1,if_false]at H;exact absurd H ((X j l z Z k M).2.2.2 q' j' l' e1 h4 h5)
   ·subst e1;rw[(O q).2.2 e0]at z;rw[hr]at h4;simp only[e0,if_false]at M;simp only[if_true]at H;exact absurd M ((X j' l' h4 h5 k H).2.2.2 q j l e0 z Z)
   ·rw[(O q).2.2 e0]at z;rw[(O q').2.2 e1]at h4;simp only[e0,if_false]at M;simp only[e1,if_false]at H;exact h.sep q j l q' j' l' z Z h4 h5 k M H
  box:=λb Y=>h.box b ((I b).1 Y)
  inj:=λb b' Y a6=>h.inj b b' ((I b).1 Y) ((I b').1 a6)
  nwlt:=h.nwlt
  os:=h.os,tape:=h.tape,output:=h.output,size:=h.size,keep:=h.keep
  fixb:=λx hx=>⟨(I _).2 (h.fixb x hx).1,(h.fixb x hx).2⟩
  fixt:=h.fixt }
theorem an.nwGrow (R:ax V)(h:an P V W st a w)(N:Nat->Prop)(M:∀ k,N k->k<w.heap.size/\¬ bX V W st k):an P V { W with nw:=λk=>W.nw k\/N k } st a w:=by
 have y:cl V W { W with nw:=λk=>W.nw k\/N k } st st w w:=⟨λr=>⟨BN _,λ_=>rfl⟩,λb J=>⟨J,rfl⟩,λ_ h=>.inl h,λ_ _=>rfl,λ_ _ _ l I z _=>⟨⟨l,I,z⟩,rfl,λ_ _=>rfl⟩⟩
 exact {
  nt:=h.nt,df:=h.df,slots:=h.slots,boxes:=h.boxes,len:=h.len,one:=h.one
  leaf:=λr j l v I z=>(h.leaf r j l v I z).carry R.ro y (λ_=>⟨rfl,λ_ _=>rfl⟩)
  ownb:=λr j l I z k u=>⟨λH=>H.elim (h.ownb r j l I z k u).1 (λH=>(M k H).2 (.inr (.inr (.inr ⟨r,j,l,I,z,u⟩)))),(h.ownb r j l I z k u).2⟩
  sep:=h.sep
  box:=λb J=>⟨λH=>H.elim (h.box b J).1 (λH=>(M _ H).2 (.inr (.inr (.inl ⟨b,J,rfl⟩)))),(h.box b J).2⟩
  inj:=h.inj
  nwlt:=λk u=>u.elim (h.nwlt k) (λu=>⟨(M k u).1,λO=>(M k u).2 (.inr (.inl O))⟩)
  os:=h.os,tape:=h.tape,output:=h.output,size:=h.size,keep:=h.keep,fixb:=h.fixb,fixt:=h.fixt }
end
def eq:List Leaf->List Leaf->List (Nat×Nat)
 |.al r j _::y,l::u=>(match l with|.own _ _ _ _ _=>[(r,j)]|_=>[])++eq y u
 |_::y,_::u=>eq y u
 |_,_=>[]
section
variable {P:Program} {V:Env} {st st':St} {w w':World} {a:Act}
theorem mV {x l:Leaf}{xs ls:List Leaf}(h:¬ am l):eq (x::xs) (l::ls)=eq xs ls:=by
 cases x <;> try rfl
 cases l <;> first|exact absurd trivial h|rfl
theorem uB {k:IntKind}{ls:List Leaf}{x:Bool×(Ty.int k).den×List Leaf}(h:aX st (.int k) ls=some x):∃ l,ls=l::x.2.2:=by
 simp only[aX]at h;split at h
 ·split at h
  ·simp only[AT]at h;subst h;exact⟨_,rfl⟩
  ·cases h
 ·cases h
theorem te {ls:List Leaf}{x:Bool×Ty.bool.den×List Leaf}(h:aX st .bool ls=some x):∃ l,ls=l::x.2.2:=by
 simp only[aX]at h;split at h
 ·simp only[AT]at h;subst h;exact⟨_,rfl⟩
 ·cases h
theorem uC {ls:List Leaf}{x:Bool×Ty.str.den×List Leaf}(h:aX st .str ls=some x):∃ l,ls=l::x.2.2:=by
 simp only[aX]at h;split at h
 ·simp only[AT]at h;subst h;exact⟨_,rfl⟩
 ·cases h
theorem uD {ls:List Leaf}{x:Bool×Ty.hdr.den×List Leaf}(h:aX st .hdr ls=some x):∃ l,ls=l::x.2.2:=by
 simp only[aX]at h;split at h
 ·split at h
  ·simp only[AT]at h;subst h;exact⟨_,rfl⟩
  ·cases h
 ·cases h
theorem kO {p:Bool}:∀ (b:Ty) (ls:List Leaf) (t:ct b.den),take st b ls=some t->∀ (y:b.den) (r:List Leaf),eq ls (aq p b y++r)=t.kill++eq t.rest r
 |.pair b c,ls,t,h,y,r=>by
  simp only[take]at h;split at h
  ·rename_i u M;split at h
   ·rename_i v I;simp only[AT]at h;subst h;simp only[aq];rw[BJ,kO b ls u M y.1,kO c u.rest v I y.2,BJ]
   ·cases h
  ·cases h
 |.unit,ls,t,h,y,r=>by
  simp only[take,AT]at h;subst h;rfl
 |.list m E e,ls,t,h,y,r=>by
  cases ls with
  |nil=>simp[take]at h
  |cons l ls =>
   cases m with
   |false =>
    simp only[take,cond_false]at h;split at h
    ·simp only[AT]at h;subst h;exact mV id
    ·cases h
   |true =>
    simp only[take,cond_true]at h;split at h
    ·split at h
     ·simp only[AU]at h;obtain⟨O,_,rfl⟩:=h;rfl
     ·cases h
    ·simp only[AT]at h;subst h;rfl
    ·cases h
 |.int k,ls,t,h,y,r=>scal (b:=.int k) h uB (l':=.int k y) id
 |.bool,ls,t,h,y,r=>scal (b:=.bool) h te (l':=.bool y) id
 |.str,ls,t,h,y,r=>scal (b:=.str) h uC (l':=.str y) id
 |.hdr,ls,t,h,y,r=>scal (b:=.hdr) h uD (l':=.hdr y) id
where
 scal {b:Ty} {ls:List Leaf} {t:ct b.den} {l':Leaf} {r:List Leaf} (h:(aX st b ls).map (λx=>(⟨false,x.2.1,[],[],x.2.2⟩:ct b.den))=some t)
   (H:∀ {ls:List Leaf} {x:Bool×b.den×List Leaf},aX st b ls=some x->∃ l,ls=l::x.2.2) (J:¬ am l'):eq ls ([l']++r)=t.kill++eq t.rest r:=by
  simp only[AU]at h;obtain⟨x,z,rfl⟩:=h;obtain⟨l,rfl⟩:=H z;exact mV J
theorem yu {W W':Wit}{bs:List Nat}{l:Leaf}{v:Value}(y:am l)(u:W'.nw=W.nw)(h:aI P V W st w bs l v):aI P V W' st' w bs l v:=by
 cases l <;> simp only[am]at y;exact OwH.carry h (λk r=>by
  rcases r with r|r
  ·exact .inl (by rw[u];exact r)
  ·exact .inr r) (λ_ _=>rfl) (λ_ _=>rfl)
theorem vH {S:St}{x l:Leaf}{xs ls:List Leaf}(h:¬ am l):ac (bV S (x::xs) (l::ls)) S=ac (bV S xs ls) S:=by
 cases x <;> try rfl
 cases l <;> first|exact absurd trivial h|rfl
theorem jt {x:Nat×Nat}{l:List (Nat×Nat)}(h:aU (x::l)=true):x∉l/\aU l=true:=by
 simp only[aU,AV,BR,BY]at h;exact⟨λr=>by have:=h.1 x r;simp at this,h.2⟩
theorem yT (hV:ax V){W:Wit}{S:St}(h:an P V W S a w):∀ (xl ls:List Leaf) (cs:List Value) (O:Nat->List Nat),aU (eq xl ls)=true->(∀ x∈eq xl ls,x.1≠EPO)->xl.length=cs.length->ls.length=cs.length ->
  (∀ (i r j n:Nat) (l:Leaf) (u:Value),xl[i]?=some (.al r j n)->ls[i]?=some l->am l->cs[i]?=some u->(W.cs r)[j]?=some u) ->
  (∀ x∈eq xl ls,∀ l,(S x.1).ls[x.2]?=some l->¬ am l) ->
  (∀ (i:Nat) (l:Leaf) (u:Value),ls[i]?=some l->cs[i]?=some u->aI P V W S w (O i) l u) ->
  (∀ (i:Nat) (l:Leaf),ls[i]?=some l->am l->∀ k∈O i,¬ bX V W S k) ->
  (∀ (i i':Nat) (l l':Leaf),ls[i]?=some l->am l->ls[i']?=some l'->am l'->∀ k,k∈O i->k∈O i'->i=i') ->
  ∃ W',an P V W' (ac (bV S xl ls) S) a w/\W'.cs=W.cs/\W'.β=W.β/\W'.nw=W.nw/\(∀ q,(ac (bV S xl ls) S q).sh=(S q).sh/\(S q).ver<=(ac (bV S xl ls) S q).ver) /\
   (∀ (q i:Nat),(q,i)∉eq xl ls->(ac (bV S xl ls) S q).ls[i]?=(S q).ls[i]?/\W'.bs q i=W.bs q i) /\
   (∀ k,bX V W' (ac (bV S xl ls) S) k->bX V W S k\/∃ i l,ls[i]?=some l/\am l/\k∈O i)
 |[],ls,cs,O,_,_,hx,hl,_,_,_,_,_=>⟨W,h,rfl,rfl,rfl,λ_=>⟨rfl,BN _⟩,λ_ _ _=>⟨rfl,rfl⟩,λk R=>.inl R⟩
 |x::X,[],cs,O,_,_,hx,hl,_,_,_,_,_=>by simp at hx hl;omega
 |x::X,l::ls,[],O,_,_,hx,hl,_,_,_,_,_=>by simp at hx
 |x::X,l::ls,u::cs,O,hd,bb,hx,hl,b9,ba,a2,a5,b0=>by
  have b2:aU (eq X ls)=true:=by
   cases x with
   |al r j n =>
    cases l with
    |own p hh E e ys=>exact (jt hd).2
    |_=>exact hd
   |_=>exact hd
  have ad:∀ z∈eq X ls,z∈eq (x::X) (l::ls):=by
   intro z hz;cases x with
   |al r j n=>exact AX _ hz
   |_=>exact hz
  obtain⟨W1,h1,e1,e2,e3,e4,e5,e6⟩:=yT hV h X ls cs (λi=>O (i+1)) b2 (λz hz=>bb z (ad z hz)) (by simpa using hx) (by simpa using hl)
   (λi r j n l' u' J I M g4=>b9 (i+1) r j n l' u' (by simpa using J) (by simpa using I) M (by simpa using g4))
   (λz hz=>ba z (ad z hz)) (λi l' u' J I=>a2 (i+1) l' u' (by simpa using J) (by simpa using I))
   (λi l' J I=>a5 (i+1) l' (by simpa using J) I)
   (λi i' l1 l2 J I M g4 k g5 g6=>by have:=b0 (i+1) (i'+1) l1 l2 (by simpa using J) I (by simpa using M) g4 k g5 g6;omega)
  by_cases hs:¬ am l\/(∀ r j n,x≠.al r j n)
  ·have a6:ac (bV S (x::X) (l::ls)) S=ac (bV S X ls) S/\eq (x::X) (l::ls)=eq X ls:=by
    rcases hs with hs|hs
    ·exact⟨vH hs,mV hs⟩
    ·cases x with
     |al r j n=>exact absurd rfl (hs r j n)
     |_=>exact⟨rfl,rfl⟩
   rw[a6.1,a6.2];exact⟨W1,h1,e1,e2,e3,e4,e5,λk R=>(e6 k R).imp id λ⟨i,l',J,I,M⟩=>⟨i+1,l',by simpa using J,I,M⟩⟩
  ·simp only[not_or,Classical.not_not]at hs;obtain⟨bn,bl⟩:=hs;obtain⟨r,j,n,rfl⟩:∃ r j n,x=.al r j n:=by
    cases x with
    |al r j n=>exact⟨r,j,n,rfl⟩
    |_=>exact absurd (λ_ _ _ h=>by cases h) bl
   obtain⟨p,hh,E,e,ys,rfl⟩:∃ p hh E e ys,l=.own p hh E e ys:=by
    cases l <;> simp only[am]at bn;exact⟨_,_,_,_,_,rfl⟩
   have b1:eq (.al r j n::X) (.own p hh E e ys::ls)=(r,j)::eq X ls:=rfl;rw[b1]at hd ba;obtain⟨c0,c1⟩:=jt hd;have hv:=b9 0 r j n _ u rfl rfl trivial rfl;have a6:ac (bV S (.al r j n::X) (.own p hh E e ys::ls)) S=ac [(r,⟨(ac (bV S X ls) S r).ver,(ac (bV S X ls) S r).sh,aP (ac (bV S X ls) S r).ls j (.own p hh E e ys)⟩),(EPO,bQ (ac (bV S X ls) S EPO))] (ac (bV S X ls) S):=br [_,_] _ _;have a9:aI P V W1 (ac (bV S X ls) S) w (O 0) (.own p hh E e ys) u:=yu trivial e3 (a2 0 _ u rfl rfl);have Y:∀ k∈O 0,¬ bX V W1 (ac (bV S X ls) S) k:=λk R hu=>by
    rcases e6 k hu with hu|⟨i,l',J,I,M⟩
    ·exact a5 0 _ rfl trivial k R hu
    ·have:=b0 0 (i+1) _ l' rfl trivial (by simpa using J) I k R M;omega
   have H:∀ (i:Nat) (l':Leaf),i≠j->(aP (ac (bV S X ls) S r).ls j (.own p hh E e ys))[i]?=some l'->(ac (bV S X ls) S r).ls[i]?=some l':=by
    intro i l' a3 a0;rcases aO _ _ _ _ _ a0 with ⟨rfl,_,_⟩|⟨_,a0⟩
    ·exact absurd rfl a3
    ·exact a0
   have b4:∀ (l':Leaf),(aP (ac (bV S X ls) S r).ls j (.own p hh E e ys))[j]?=some l'->l'=.own p hh E e ys:=by
    intro l' a0;rcases aO _ _ _ _ _ a0 with ⟨_,rfl,_⟩|⟨a3,_⟩
    ·rfl
    ·exact absurd rfl a3
   have bx:r≠EPO:=bb (r,j) (by rw[b1];exact BP ..);obtain⟨h2,a4,b5⟩:=h1.reownE hV r ⟨(ac (bV S X ls) S r).ver,(ac (bV S X ls) S r).sh,aP (ac (bV S X ls) S r).ls j (.own p hh E e ys)⟩ (λi=>if i=j then O 0 else W1.bs r i) bx (BN _) rfl (by simp[aP])
    (λi l' v' J I=>by
     by_cases y:i=j
     ·subst y;obtain rfl:=b4 l' J;rw[e1,hv]at I;simp only[AT]at I;subst I;simp only[if_true];exact a9
     ·simp only[if_neg y];exact h1.leaf r i l' v' (H i l' y J) I)
    (λi l' J I k R=>by
     by_cases y:i=j
     ·subst y;simp only[if_true]at R;have hu:=Y k R;simp only[bX,not_or,not_exists,not_and]at hu;exact⟨hu.1,hu.2.1,hu.2.2.1,λr1 j1 l1 _ M g4 g5=>hu.2.2.2 r1 j1 l1 M g4 g5⟩
     ·simp only[if_neg y]at R;have a0:=H i l' y J;have h9:=h1.ownb r i l' a0 I k R;exact⟨h9.1,h9.2.1,h9.2.2,λr1 j1 l1 a3 M g4 g5=>a3 (h1.sep r i l' r1 j1 l1 a0 I M g4 k R g5).1.symm⟩)
    (λi i' l1 l2 J I M g4 k R a1=>by
     by_cases y:i=j <;> by_cases Z:i'=j
     ·omega
     ·subst y;simp only[if_true]at R;simp only[if_neg Z]at a1;exact absurd (.inr (.inr (.inr ⟨r,i',l2,H i' l2 Z M,g4,a1⟩))) (Y k R)
     ·subst Z;simp only[if_true]at a1;simp only[if_neg y]at R;exact absurd (.inr (.inr (.inr ⟨r,i,l1,H i l1 y J,I,R⟩))) (Y k a1)
     ·simp only[if_neg y]at R;simp only[if_neg Z]at a1;exact (h1.sep r i l1 r i' l2 (H i l1 y J) I (H i' l2 Z M) g4 k R a1).2)
   rw[a6];refine⟨_,h2,e1,e2,e3,λq=>?_,λq i hq=>?_,λk R=>?_⟩
   ·exact⟨(a4 q).1.trans (e4 q).1,Bi (e4 q).2 (a4 q).2.1⟩
   ·rw[b1]at hq;simp only[Bs,not_or]at hq;by_cases b3:q=r
    ·subst b3;rw[b5];have y:j≠i:=λe0=>hq.1 (by rw[e0])
     simp only[aP];rw[Bp y];refine⟨(e5 q i hq.2).1,?_⟩;simp only[if_true,if_neg (Bq y)];exact (e5 q i hq.2).2
    ·rw[(a4 q).2.2 b3];refine⟨(e5 q i hq.2).1,?_⟩;show (if q=r then _ else W1.bs q i)=_;rw[if_neg b3];exact (e5 q i hq.2).2
   ·rcases R with R|R|⟨b,hb,R⟩|⟨q,i,l',J,I,M⟩
    ·exact .inl (.inl (by rw[<- e3];exact R))
    ·exact .inl (.inr (.inl R))
    ·refine (e6 k (.inr (.inr (.inl ⟨b,?_,R⟩)))).imp id λ⟨i,l',J,I,M⟩=>⟨i+1,l',by simpa using J,I,M⟩
     exact (ic (λq=>(a4 q).1) b).1 hb
    ·by_cases hq:q=r
     ·subst hq;rw[b5]at J;simp only[if_true]at M;by_cases y:i=j
      ·subst y;simp only[if_true]at M;exact .inr ⟨0,_,rfl,trivial,M⟩
      ·simp only[if_neg y]at M;exact (e6 k (.inr (.inr (.inr ⟨q,i,l',H i l' y J,I,M⟩)))).imp id λ⟨i,l',J,I,M⟩=>⟨i+1,l',by simpa using J,I,M⟩
     ·rw[(a4 q).2.2 hq]at J;simp only[if_neg hq]at M;exact (e6 k (.inr (.inr (.inr ⟨q,i,l',J,I,M⟩)))).imp id λ⟨i,l',J,I,M⟩=>⟨i+1,l',by simpa using J,I,M⟩
end
def PK.isIop:PK->Bool
 |.iop _=>true
 |_=>false
section
variable {P:Program} {V:Env} {Γ:List Ctr} {st st':St} {w w':World} {a:Act}
theorem kz:∀ {a b:List (Nat×Nat)},aU (a++b)=true->aU a=true/\aU b=true/\∀ x∈a,x∉b
 |[],b,h=>⟨rfl,h,by simp⟩
 |x::a,b,h=>by
  obtain⟨z,M⟩:=jt h;obtain⟨I,O,X⟩:=kz M;refine⟨?_,O,λy r u=>?_⟩
  ·simp only[aU,AV,BR,BY];refine⟨λy r H=>z (BC _ ?_),I⟩;obtain⟨R,J⟩:x.1=y.1/\x.2=y.2:=by simpa using H
   rw[show x=y from C8 R J];exact r
  ·rcases Bs.1 r with rfl|r
   ·exact z (AX _ u)
   ·exact X y r u
theorem jM {p:Bool}:∀ (b:Ty) (ls:List Leaf) (t:ct b.den),take st b ls=some t->∀ (y:b.den) (i r j n:Nat) (l:Leaf),ls[i]?=some (.al r j n)->(aq p b y)[i]?=some l->am l->(st r).ver=n
 |.pair b c,ls,t,h,y,i,r,j,n,l,J,z,I=>by
  simp only[take]at h;split at h
  ·rename_i u M;split at h
   ·rename_i v O;simp only[aq]at z;have Y:=cq p b y.1;by_cases hi:i<b.cells
    ·rw[BA (by omega)]at z;exact jM b ls u M y.1 i r j n l J z I
    ·rw[AZ (by omega),Y]at z;have Z:=take_rest b ls u M;refine jM c u.rest v O y.2 (i-b.cells) r j n l ?_ z I;rw[Z,Bt,show b.cells+(i-b.cells)=i by omega];exact J
   ·cases h
  ·cases h
 |.list m E e,ls,t,h,y,i,r,j,n,l,J,z,I=>by
  cases m with
  |false =>
   cases i with
   |zero=>simp[aq]at z;subst z;exact I.elim
   |succ i=>simp[aq]at z
  |true =>
   cases i with
   |succ i=>simp[aq]at z
   |zero =>
    cases ls with
    |nil=>simp at J
    |cons l' ls =>
     simp only[Bu,AT]at J;subst J;simp only[take,cond_true]at h;split at h
     ·rename_i R;exact (eL R (by simp)).1
     ·cases h
 |.int k,ls,t,h,y,i,r,j,n,l,J,z,I=>by
  cases i with
  |zero=>simp[aq]at z;subst z;exact I.elim
  |succ i=>simp[aq]at z
 |.bool,ls,t,h,y,i,r,j,n,l,J,z,I=>by
  cases i with
  |zero=>simp[aq]at z;subst z;exact I.elim
  |succ i=>simp[aq]at z
 |.str,ls,t,h,y,i,r,j,n,l,J,z,I=>by
  cases i with
  |zero=>simp[aq]at z;subst z;exact I.elim
  |succ i=>simp[aq]at z
 |.hdr,ls,t,h,y,i,r,j,n,l,J,z,I=>by
  cases i with
  |zero=>simp[aq]at z;subst z;exact I.elim
  |succ i=>simp[aq]at z
 |.unit,ls,t,h,y,i,r,j,n,l,J,z,I=>by simp[aq]at z
where
 take_rest:∀ (b:Ty) (ls:List Leaf) (t:ct b.den),take st b ls=some t->t.rest=ls.drop b.cells
  |.pair b c,ls,t,h=>by
   simp only[take]at h;split at h
   ·rename_i u M;split at h
    ·rename_i v O;simp only[AT]at h;subst h;show v.rest=_;rw[take_rest c u.rest v O,take_rest b ls u M,List.drop_drop];rfl
    ·cases h
   ·cases h
  |.unit,ls,t,h=>by
   simp only[take,AT]at h;subst h;rfl
  |.list m E e,ls,t,h=>by
   cases ls with
   |nil=>simp[take]at h
   |cons l ls =>
    cases m with
    |false =>
     simp only[take,cond_false]at h;split at h
     ·simp only[AT]at h;subst h;rfl
     ·cases h
    |true =>
     simp only[take,cond_true]at h;split at h
     ·split at h
      ·simp only[AU]at h;obtain⟨xs,_,rfl⟩:=h;rfl
      ·cases h
     ·simp only[AT]at h;subst h;rfl
     ·cases h
  |.int k,ls,t,h=>sc (b:=.int k) h uB rfl
  |.bool,ls,t,h=>sc (b:=.bool) h te rfl
  |.str,ls,t,h=>sc (b:=.str) h uC rfl
  |.hdr,ls,t,h=>sc (b:=.hdr) h uD rfl
 sc {b:Ty} {ls:List Leaf} {t:ct b.den} (h:(aX st b ls).map (λx=>(⟨false,x.2.1,[],[],x.2.2⟩:ct b.den))=some t)
   (H:∀ {ls:List Leaf} {x:Bool×b.den×List Leaf},aX st b ls=some x->∃ l,ls=l::x.2.2) (J:b.cells=1):t.rest=ls.drop b.cells:=by
  simp only[AU]at h;obtain⟨x,X,rfl⟩:=h;obtain⟨l,rfl⟩:=H X;rw[J];rfl
theorem vI {agg:Bool}{v:Value}{z y:List Value}(u:cQ agg v z)(r:cQ agg v y):z=y:=by
 unfold cQ at u r;cases agg with
 |true =>
  simp only[if_true]at u r;rw[u]at r;simpa using r
 |false =>
  simp only[Bool.false_eq_true,if_false]at u r;rw[u,r]
theorem qo (hV:ax V){W0 W:Wit}{S0 S:St}{w0:World}{G:Nat->Prop}{p:Bool}(a4:W.cs=W0.cs)(hG:∀ k,G k->gd V W p k)(h:an P V W S a w) :
  ∀ (ps:List PK) (xs:List (aG×List Leaf)) (vs:List Value) (g:Got (ab ps)) (o:ag ps) (y:List (List Nat)),gE P V W0 S0 w0 xs vs->aY (bW Γ S0) ps xs=some g->ps.any PK.isIop=false ->
  bF w G ps o vs y->aU g.kill=true->(∀ x∈g.kill,x.1≠EPO)->(∀ x∈g.kill,∀ l,(S x.1).ls[x.2]?=some l->¬ am l)->(∀ k∈y.flatten,¬ bX V W S k)->y.flatten.Nodup ->
  ∃ W',an P V W' (ac (aF S p ps xs o) S) a w/\W'.cs=W.cs/\W'.β=W.β/\W'.nw=W.nw/\(∀ q,(ac (aF S p ps xs o) S q).sh=(S q).sh/\(S q).ver<=(ac (aF S p ps xs o) S q).ver) /\
   (∀ q i,(q,i)∉g.kill->(ac (aF S p ps xs o) S q).ls[i]?=(S q).ls[i]?/\W'.bs q i=W.bs q i)/\(∀ k,bX V W' (ac (aF S p ps xs o) S) k->bX V W S k\/k∈y.flatten)
 |[],xs,vs,g,o,y,_,_,_,_,_,_,_,_,_=>⟨W,h,rfl,rfl,rfl,λ_=>⟨rfl,BN _⟩,λ_ _ _=>⟨rfl,rfl⟩,λk O=>.inl O⟩
 |pk::ps,[],vs,g,o,y,_,hg,_,_,_,_,_,_,_=>by simp[aY]at hg
 |pk::ps,x::xs,vs,g,o,y,hx,hg,hp,ho,hd,a6,a5,R,a0=>by
  obtain⟨v,a3,cs,rfl,hs,hl,a2⟩:=hx;simp only[aY]at hg;split at hg
  ·rename_i g1 a1;split at hg
   ·rename_i g2 b1;simp only[AT]at hg;subst hg;simp only[B3,CV]at hp;obtain⟨b4,a9,bl⟩:=kz hd;have J:∀ (o':ag ps) (b:List Nat) (M:List (List Nat)),y=b::M->b=[]->bF w G ps o' a3 M->aF S p (pk::ps) (x::xs) o=aF S p ps xs o' ->
      ∃ W',an P V W' (ac (aF S p (pk::ps) (x::xs) o) S) a w/\W'.cs=W.cs/\W'.β=W.β/\W'.nw=W.nw/\(∀ q,(ac (aF S p (pk::ps) (x::xs) o) S q).sh=(S q).sh/\(S q).ver<=(ac (aF S p (pk::ps) (x::xs) o) S q).ver) /\
       (∀ q i,(q,i)∉g1.kill++g2.kill->(ac (aF S p (pk::ps) (x::xs) o) S q).ls[i]?=(S q).ls[i]?/\W'.bs q i=W.bs q i)/\(∀ k,bX V W' (ac (aF S p (pk::ps) (x::xs) o) S) k->bX V W S k\/k∈y.flatten):=by
     intro o' b M e1 e2 bb e3;subst e1;subst e2;rw[e3];obtain⟨W1,f1,f2,f3,f4,f5,f6,f7⟩:=qo hV a4 hG h ps xs a3 g2 o' M a2 b1 hp.2 bb a9 (λz Y=>a6 z (AX _ Y)) (λz Y=>a5 z (AX _ Y)) (λk O=>R k (by simpa using O)) (by simpa using a0);exact⟨W1,f1,f2,f3,f4,f5,λq i hq=>f6 q i (λhm=>hq (AX _ hm)),λk O=>(f7 k O).imp id (λhm=>by simpa using hm)⟩
    cases pk with
    |io b =>
     match y,ho with
     |Z::M,⟨H,I⟩ =>
      simp only[BQ]at a0 R;rw[Bh]at a0;obtain⟨W1,f1,f2,f3,f4,f5,f6,f7⟩:=qo hV a4 hG h ps xs a3 g2 o.2 M a2 b1 hp.2 I a9 (λz Y=>a6 z (AX _ Y)) (λz Y=>a5 z (AX _ Y)) (λk O=>R k (AX _ O)) a0.2.1;simp only[bW,bc]at a1;cases hb:decide (x.1=be b.isAgg) with
      |false=>simp[hb]at a1
      |true =>
       rw[hb]at a1;simp only[cond_true,AU]at a1;obtain⟨t,ht,rfl⟩:=a1;rw[of_decide_eq_true hb]at hs;unfold ja at H;rw[if_neg (by simp)]at H;obtain⟨ad,ba,hm⟩:=H;have:=vI ba (gf hs);subst this;obtain⟨b9,m1,m2,m3,m4⟩:=il (P:=P) (V:=V) (W:=W1) (st:=ac (aF S p ps xs o.2) S) (p:=p) (λk O=>by
        rcases hG k O with O|O
        ·exact .inl (by rw[f4];exact O)
        ·exact .inr O) hm a0.1
       unfold b7 at ht;split at ht
       ·rename_i p0 x0 f0 k0 b2;simp only[AT]at ht;subst ht;have X:=kO (p:=p) b x.2 _ b2 o.1 [];simp only[BT]at X;have X:eq x.2 (aq p b o.1)=k0:=by
         rw[X];show k0++eq [] []=k0;simp[eq]
        obtain⟨W2,q1,q2,q3,q4,q5,q6,q7⟩:=yT hV f1 x.2 (aq p b o.1) ad b9 (by rw[X];exact b4) (λz Y=>a6 z (BC _ (by rw[X]at Y;exact Y))) hl.length m1
         (λi r j n l u g3 g4 g5 g6=>by
          have h5:=(hl.at_ i _ u g3 g6).1;rw[f2,a4];exact h5.2 (jM b x.2 _ b2 o.1 i r j n l g3 g4 g5))
         (λz Y l b0=>by
          rw[X]at Y;rw[(f6 z.1 z.2 (bl z Y)).1]at b0;exact a5 z (BC _ Y) l b0)
         m2
         (λi l g3 g4 k O hu=>by
          have b3:=m3 i l g3 g4 k O;rcases f7 k hu with hu|hu
          ·exact R k (BC _ b3) hu
          ·exact a0.2.2 k b3 k hu rfl) m4
        have b5:ac (aF S p (.io b::ps) (x::xs) o) S=ac (bV (ac (aF S p ps xs o.2) S) x.2 (aq p b o.1)) (ac (aF S p ps xs o.2) S):=br _ _ _;rw[b5];rw[X]at q6;refine⟨W2,q1,q2.trans f2,q3.trans f3,q4.trans f4,λq=>⟨(q5 q).1.trans (f5 q).1,Bi (f5 q).2 (q5 q).2⟩,λq i hq=>?_,λk O=>?_⟩
        ·simp only[BE,not_or]at hq;exact⟨(q6 q i hq.1).1.trans (f6 q i hq.2).1,(q6 q i hq.1).2.trans (f6 q i hq.2).2⟩
        ·rcases q7 k O with O|⟨i,l,g3,g4,g5⟩
         ·exact (f7 k O).imp id (λhm=>AX _ hm)
         ·exact .inr (BC _ (m3 i l g3 g4 k g5))
       ·cases ht
    |iop b=>simp[PK.isIop]at hp
    |rd b =>
     match y,ho with
     |Z::M,⟨H,I⟩=>exact J o Z M rfl H I rfl
    |own b =>
     match y,ho with
     |Z::M,⟨H,I⟩=>exact J o Z M rfl H I rfl
    |rref b =>
     match y,ho with
     |Z::M,⟨H,I⟩=>exact J o Z M rfl H I rfl
    |rref2 b =>
     match y,ho with
     |Z::M,⟨H,I⟩=>exact J o Z M rfl H I rfl
    |fn As B =>
     match y,ho with
     |Z::M,⟨H,I⟩=>exact J o Z M rfl H I rfl
    |clo f ad =>
     match y,ho with
     |Z::M,⟨H,I⟩=>exact J o Z M rfl H I rfl
    |hol b cc off =>
     match y,ho with
     |Z::M,⟨H,I⟩=>exact J o Z M rfl H I rfl
   ·cases hg
  ·cases hg
end
section
variable {P:Program} {V:Env} {W:Wit} {st:St} {w:World} {a:Act}
theorem nT {G ro:Nat->Prop}{p q:Bool}{ks:List (Nat×Nat×Nat)}{ep:Nat}(hG:∀ k,G k->gd V W p k)(d n:Nat) :
  ∀ (O:List RK) (y:ah O) (us:List Value) (Z:List (List Nat)),
  (O.any RK.isBv=true->(∀ k,G k\/ro k->gd V W q k\/∃ x∈ks,k∈W.bs x.1 x.2.1)/\ep<=(st EPO).ver/\(∀ k∈ks,k.2.2<=(st k.1).ver))->ge w G ro O y us Z->O.all RK.isV=true->Z.flatten.Nodup ->
  (bu d n p q ks ep O y).2=[]/\∃ (cs:List Value) (a1:Nat->List Nat),o7 ((bu d n p q ks ep O y).1.map λx=>(x.1,x.2.length)) us cs/\(((bu d n p q ks ep O y).1.map (·.2)).flatten).length=cs.length/\(∀ u∈cs,u.oneCell'=true) /\
   (∀ (j:Nat) (l:Leaf) (u:Value),(((bu d n p q ks ep O y).1.map (·.2)).flatten)[j]?=some l->cs[j]?=some u->aI P V W st w (a1 j) l u) /\
   (∀ (j:Nat) (l:Leaf),(((bu d n p q ks ep O y).1.map (·.2)).flatten)[j]?=some l->am l->∀ k∈a1 j,k∈Z.flatten) /\
   (∀ (j X:Nat) (l l':Leaf),(((bu d n p q ks ep O y).1.map (·.2)).flatten)[j]?=some l->am l->(((bu d n p q ks ep O y).1.map (·.2)).flatten)[X]?=some l'->am l'->∀ k,k∈a1 j->k∈a1 X->j=X)
 |[],y,us,Z,_,⟨e1,e2⟩,_,_=>by
  subst e1;subst e2;exact⟨rfl,[],λ_=>[],⟨rfl,rfl⟩,rfl,by simp,λj l u h1 h2=>by simp at h2,λj l h1 h2 k J=>by simp at J,λj X l l' _ _ _ _ k J=>by simp at J⟩
 |r::O,y,us,Z,hB,⟨u0,a6,b,a9,e1,e2,hr,a4⟩,hv,a0=>by
  subst e1;subst e2;simp only[CZ,AV]at hv;rw[BQ,Bh]at a0;obtain⟨f0,a5,d2,f1,f2,b5,f3,f4,f5⟩:=nT (ks:=ks) (q:=q) (ep:=ep) hG d n O y.2 a6 a9 (λhb=>hB (by simp[hb])) a4 hv.2 a0.2.1;obtain⟨agg,L,I,d1,g0,b3,g1,g2,ba,g3,g4,g5⟩:∃ (agg:Bool) (L:List Leaf) (I:List Value) (d1:Nat->List Nat),(oW d n p q ks ep r y.1).1=(agg,L)/\(oW d n p q ks ep r y.1).2=[]/\cQ agg u0 I/\L.length=I.length/\(∀ u∈I,u.oneCell'=true) /\
    (∀ (j:Nat) (l:Leaf) (u:Value),L[j]?=some l->I[j]?=some u->aI P V W st w (d1 j) l u)/\(∀ (j:Nat) (l:Leaf),L[j]?=some l->am l->∀ k∈d1 j,k∈b) /\
    (∀ (j X:Nat) (l l':Leaf),L[j]?=some l->am l->L[X]?=some l'->am l'->∀ k,k∈d1 j->k∈d1 X->j=X):=by
   cases r with
   |v c =>
    obtain⟨I,h1,h2⟩:=hr;obtain⟨d1,m1,m2,m3,m4⟩:=il (P:=P) (V:=V) (W:=W) (st:=st) (p:=p) hG h2 a0.1;exact⟨c.isAgg,_,I,d1,rfl,rfl,h1,m1,h2.one,m2,m3,m4⟩
   |bv c =>
    obtain⟨_,I,h1,h2⟩:=hr;obtain⟨b0,b4,b2⟩:=hB (by simp[RK.isBv]);have h3:=jA (P:=P) (V:=V) (W:=W) (st:=st) (p:=q) b4 b2 (h2.mono b0);exact⟨c.isAgg,_,I,λ_=>[],rfl,rfl,h1,h3.length,h2.one,λj l u g1 g2=>(h3.at_ j l u g1 g2).1,λj l _ _ k J=>by simp at J,λj X l l' _ _ _ _ k J=>by simp at J⟩
   |box c=>simp[RK.isV]at hv
  have b9:(bu d n p q ks ep (r::O) y).1=(agg,L)::(bu d n p q ks ep O y.2).1:=by simp only[bu,g0]
  have b1:(bu d n p q ks ep (r::O) y).2=[]:=by simp only[bu,b3,f0,BT]
  rw[b9];simp only[C7,BQ];have H:∀ (j:Nat) (l:Leaf),(L++((bu d n p q ks ep O y.2).1.map (·.2)).flatten)[j]?=some l->(j<L.length/\L[j]?=some l)\/(L.length<=j/\(((bu d n p q ks ep O y.2).1.map (·.2)).flatten)[j-L.length]?=some l):=by
   intro j l z;by_cases M:j<L.length
   ·rw[BA M]at z;exact .inl ⟨M,z⟩
   ·rw[AZ (by omega)]at z;exact .inr ⟨by omega,z⟩
  refine⟨b1,I++a5,λj=>if j<L.length then d1 j else d2 (j-L.length),⟨u0,a6,I,a5,rfl,rfl,g2.symm,g1,f1⟩,by rw[BK,BK,g2,f2],λu hu=>(BE.1 hu).elim (ba u) (b5 u),λj l u z hu=>?_,λj l z ho k J=>?_,λj X l l' z ho Y a2 k J R=>?_⟩
  ·rcases H j l z with ⟨M,z⟩|⟨ad,z⟩
   ·rw[BA (by omega)]at hu;simp only[if_pos M];exact g3 j l u z hu
   ·rw[AZ (by omega),<- g2]at hu;simp only[if_neg (show ¬ j<L.length by omega)];exact f3 _ l u z hu
  ·rcases H j l z with ⟨M,z⟩|⟨ad,z⟩
   ·simp only[if_pos M]at J;exact BC _ (g4 j l z ho k J)
   ·simp only[if_neg (show ¬ j<L.length by omega)]at J;exact AX _ (f4 _ l z ho k J)
  ·rcases H j l z with ⟨M,z⟩|⟨ad,z⟩ <;> rcases H X l' Y with ⟨a3,Y⟩|⟨bb,Y⟩
   ·simp only[if_pos M]at J;simp only[if_pos a3]at R;exact g5 j X l l' z ho Y a2 k J R
   ·simp only[if_pos M]at J;simp only[if_neg (show ¬ X<L.length by omega)]at R;exact absurd rfl (a0.2.2 k (g4 j l z ho k J) k (f4 _ l' Y a2 k R))
   ·simp only[if_neg (show ¬ j<L.length by omega)]at J;simp only[if_pos a3]at R;exact absurd rfl (a0.2.2 k (g4 X l' Y a2 k R) k (f4 _ l z ho k J))
   ·simp only[if_neg (show ¬ j<L.length by omega)]at J;simp only[if_neg (show ¬ X<L.length by omega)]at R;have:=f5 _ _ l l' z ho Y a2 k J R;omega
theorem AF {l:List (Bool×List Leaf)}{us cs:List Value}{v:Value}(n:Nat)(h:o7 (l.map λx=>(x.1,x.2.length)) us cs)(z:rS us v) :
  dP (ew n l).sh v cs/\(ew n l).ls=(l.map (·.2)).flatten/\(ew n l).ver=n:=by
 match l,us,h with
 |[],_,⟨H,y⟩ =>
  subst H;subst y;exact⟨⟨[],z,rfl,rfl⟩,rfl,rfl⟩
 |[(agg,L)],_,⟨u,r,c,Y,H,y,h1,O,Z,X⟩ =>
  subst H;subst y;subst Z;subst X;have z:v=u:=z;subst z;refine⟨?_,by simp[ew],rfl⟩;simp only[ew,BT];exact jK O
 |x::x'::l,us,h =>
  refine⟨?_,rfl,rfl⟩;have J:∃ u M r,us=u::M::r:=by
   obtain⟨u,r,_,_,H,_,_,_,R,I,_,_,y,_⟩:=h;exact⟨u,R,I,by rw[H,y]⟩
  obtain⟨u,M,r,rfl⟩:=J;exact⟨_,z,h⟩
end
section
variable {P:Program} {V:Env} {Γ:List Ctr} {st:St} {w:World} {a:Act}
theorem yw {pk:PK}{x:aG×List Leaf}{g:Got pk.den}(r:bW Γ st pk x=some g)(R:pk.isIop=false):g.lend=[]:=by
 cases pk with
 |iop b=>simp[PK.isIop]at R
 |rd b =>
  simp only[bW,bc]at r;cases u:decide (x.1=be b.isAgg) with
  |false=>simp[u]at r
  |true=>rw[u]at r;simp only[cond_true,AU]at r;obtain⟨y,_,rfl⟩:=r;rfl
 |own b =>
  simp only[bW,bc]at r;cases u:decide (x.1=be b.isAgg) with
  |false=>simp[u]at r
  |true=>rw[u]at r;simp only[cond_true,AU]at r;obtain⟨y,_,rfl⟩:=r;rfl
 |io b =>
  simp only[bW,bc]at r;cases u:decide (x.1=be b.isAgg) with
  |false=>simp[u]at r
  |true=>rw[u]at r;simp only[cond_true,AU]at r;obtain⟨y,_,rfl⟩:=r;rfl
 |rref b=>exact cap (c:=(false,b)) r
 |rref2 b=>exact cap (c:=(true,b)) r
 |fn Y B =>
  simp only[bW]at r;split at r
  ·unfold kg at r;split at r
   ·unfold rI at r;split at r
    ·rename_i c _ Z;cases u:(c.ps.drop Y.length).all PK.reads&&B.flat&&c.fresh with
     |false=>rw[u]at r;cases r
     |true =>
      rw[u]at r;simp only[cond_true]at r;split at r
      ·simp only[AT]at r;subst r;rfl
      ·cases r
    ·cases r
   ·cases r
  ·simp only[bc]at r;split at r
   ·split at r
    ·simp only[AT]at r;subst r;rfl
    ·cases r
   ·cases r
 |hol b cc off =>
  simp only[bW,bc]at r;cases u:decide (x.1=be b.isAgg) with
  |false=>simp[u]at r
  |true =>
   rw[u]at r;simp only[cond_true]at r;split at r
   ·split at r
    ·rename_i X _ _ _ _;cases z:BM X off with
     |false=>simp[z]at r
     |true =>
      rw[z]at r;simp only[cond_true]at r;split at r
      ·split at r
       ·simp only[AT]at r;subst r;rfl
       ·cases r
      ·cases r
    ·cases r
   ·cases r
 |clo f I =>
  simp only[bW,bc]at r;split at r
  ·rename_i J H _;cases u:BM J f with
   |false=>simp[u]at r
   |true=>rw[u]at r;exact caps_ r
  ·rename_i J H _;cases u:BM J f with
   |false=>simp[u]at r
   |true=>rw[u]at r;exact caps_ r
  ·cases r
where
 cap {c:Bool×Ty} {l:Leaf} {g:Got c.2.den} (r:eT st c l=some g):g.lend=[]:=by
  unfold eT at r;cases O:c.1 with
  |true =>
   rw[O]at r;simp only[cond_true]at r;split at r
   ·split at r
    ·simp only[AU]at r;obtain⟨y,_,rfl⟩:=r;rfl
    ·cases r
   ·cases r
  |false =>
   rw[O]at r;simp only[cond_false]at r;split at r
   ·simp only[AU]at r;obtain⟨y,_,rfl⟩:=r;rfl
   ·cases r
 caps_:∀ {I:List (Bool×Ty)} {M:List Leaf} {g:Got (lA I)},ch st I M=some g->g.lend=[]
  |[],[],g,r=>by simp only[ch,AT]at r;subst r;rfl
  |[],_::_,_,r=>by simp[ch]at r
  |_::_,[],_,r=>by simp[ch]at r
  |c::I,l::M,g,r=>by
   simp only[ch]at r;split at r
   ·split at r
    ·simp only[AT]at r;subst r;rfl
    ·cases r
   ·cases r
theorem tf:∀ (ps:List PK) (xs:List (aG×List Leaf)) (g:Got (ab ps)),aY (bW Γ st) ps xs=some g->g.lend=[]->ps.any PK.isIop=false
 |[],_,_,_,_=>rfl
 |_::_,[],_,u,_=>by simp[aY]at u
 |J::ps,x::xs,g,u,y=>by
  simp only[aY]at u;split at u
  ·rename_i M r;split at u
   ·rename_i I z;simp only[AT]at u;subst u;simp only[List.append_eq_nil_iff]at y;rw[B3,tf ps xs I z y.2,Bool.or_false];cases J with
    |iop b =>
     simp only[bW,bc]at r;split at r
     ·rename_i q _;cases H:decide ((st q).sh=.agg) with
      |false=>simp[H]at r
      |true =>
       rw[H]at r;simp only[cond_true,AU]at r;obtain⟨t,_,rfl⟩:=r;simp at y
     ·cases r
    |_=>rfl
   ·cases u
  ·cases u
theorem oK {W0:Wit}{S0 S:St}{w0:World}{a0:Act}(h0:an P V W0 S0 a0 w0){G:Nat->Prop}{p:Bool} :
  ∀ (ps:List PK) (xs:List (aG×List Leaf)) (vs:List Value) (g:Got (ab ps)) (o:ag ps) (r:List (List Nat)),gE P V W0 S0 w0 xs vs->aY (bW Γ S0) ps xs=some g->ps.any PK.isIo=false->bF w G ps o vs r ->
  (g.lend=[]->aF S p ps xs o=[]/\r.flatten=[]) /\
  (∀ b,g.lend=[b]->∃ (c:Ty) (y:c.den) (cs:List Value) (E:TypeId) (b0:List Nat),aF S p ps xs o=[(b,⟨(S b).ver+2,.agg,aq p c y⟩)]/\w.heap[W0.β b]?=some (.cells cs.toArray E (0,0))/\Mx w G c none 0 y cs b0/\r.flatten=W0.β b::b0/\(S0 b).ls.length=c.cells)
 |[],[],vs,g,o,r,hx,O,_,X=>by
  simp only[aY,AT]at O;subst O;refine⟨λ_=>⟨rfl,?_⟩,λb hb=>by simp at hb⟩
  match vs,r,X with
  |[],[],_=>rfl
 |[],_::_,_,_,_,_,_,O,_,_=>by simp[aY]at O
 |_::_,[],_,_,_,_,_,O,_,_=>by simp[aY]at O
 |pk::ps,x::xs,vs,g,o,r,hx,O,hn,X=>by
  obtain⟨v,Z,cs,rfl,hs,hl,R⟩:=hx;simp only[aY]at O;split at O
  ·rename_i g1 J;split at O
   ·rename_i g2 a3;simp only[AT]at O;subst O;simp only[B3,CV]at hn;have z:∀ (o':ag ps) (b:List Nat) (I:List (List Nat)),pk.isIop=false->r=b::I->b=[]->bF w G ps o' Z I->aF S p (pk::ps) (x::xs) o=aF S p ps xs o' ->
      (g1.lend++g2.lend=[]->aF S p (pk::ps) (x::xs) o=[]/\r.flatten=[]) /\
      (∀ b,g1.lend++g2.lend=[b]->∃ (c:Ty) (y:c.den) (cs:List Value) (E:TypeId) (b0:List Nat),aF S p (pk::ps) (x::xs) o=[(b,⟨(S b).ver+2,.agg,aq p c y⟩)]/\w.heap[W0.β b]?=some (.cells cs.toArray E (0,0))/\Mx w G c none 0 y cs b0/\r.flatten=W0.β b::b0/\(S0 b).ls.length=c.cells):=by
     intro o' b I hi e1 e2 a4 e3;subst e1;subst e2;rw[e3,yw J hi];simpa using oK h0 (S:=S) (p:=p) ps xs Z g2 o' I R a3 hn.2 a4
    cases pk with
    |iop b =>
     match r,X with
     |M::I,⟨u,H⟩ =>
      obtain⟨r1,r2⟩:=oK h0 (S:=S) (p:=p) ps xs Z g2 o.2 I R a3 hn.2 H;simp only[bW,bc]at J;split at J
      ·rename_i q hq;cases hb:decide ((S0 q).sh=.agg) with
       |false=>simp[hb]at J
       |true =>
        rw[hb]at J;simp only[cond_true,AU]at J;obtain⟨t,ht,rfl⟩:=J;refine⟨λhb=>by simp at hb,λb' Y=>?_⟩;simp only[CO,B6]at Y;obtain⟨rfl,Y⟩:=Y;obtain⟨r3,r4⟩:=r1 Y;obtain⟨a6,_⟩:=gC hs hl hq (by simp);unfold ja at u;rw[if_pos rfl]at u;obtain⟨g',a2,E,b0,hv,a1,hm,rfl⟩:=u;have a5:g'=W0.β q:=by
         have h9:=a6.2.2;rw[hv]at h9;simp only[Value.pointer.injEq,AT,CC,and_true]at h9;exact h9
        subst a5;refine⟨b,o.1,a2,E,b0,?_,a1,hm,by rw[BQ,r4,BT],?_⟩
        rotate_left
        ·rw[h0.len];exact (dw (pos:=0) h0 (ia h0 q) ht).1.len
        simp only[aF,r3,hq,BT];rfl
      ·cases J
    |io b=>simp[PK.isIo]at hn
    |rd b =>
     match r,X with
     |M::I,⟨u,H⟩=>exact z o M I rfl rfl u H rfl
    |own b =>
     match r,X with
     |M::I,⟨u,H⟩=>exact z o M I rfl rfl u H rfl
    |rref b =>
     match r,X with
     |M::I,⟨u,H⟩=>exact z o M I rfl rfl u H rfl
    |rref2 b =>
     match r,X with
     |M::I,⟨u,H⟩=>exact z o M I rfl rfl u H rfl
    |fn As B =>
     match r,X with
     |M::I,⟨u,H⟩=>exact z o M I rfl rfl u H rfl
    |clo f a2 =>
     match r,X with
     |M::I,⟨u,H⟩=>exact z o M I rfl rfl u H rfl
    |hol b cc off =>
     match r,X with
     |M::I,⟨u,H⟩=>exact z o M I rfl rfl u H rfl
   ·cases O
  ·cases O
end
section
variable {P:Program} {V:Env}
theorem vJ (hV:ax V){W:Wit}{S:St}{a:Act}{w:World}(h:an P V W S a w){M:List RK}{y:ah M}{us:List Value}{X:List (List Nat)}{v:Value}{p q:Bool}{ks:List (Nat×Nat×Nat)}{ep:Nat}{G ro:Nat->Prop}
  (Z:ge w G ro M y us X) (hG:∀ k,G k->gd V W p k)
  (hB:M.any RK.isBv=true->(∀ k,G k\/ro k->gd V W q k\/∃ x∈ks,k∈W.bs x.1 x.2.1)/\ep<=(S EPO).ver/\(∀ k∈ks,k.2.2<=(S k.1).ver))
  (H:∀ k∈X.flatten,¬ bX V W S k) (a3:X.flatten.Nodup) (J:rS us v) {d:Nat} (hd:d<V.nt) (a0:∀ x∈V.fixt,x.1≠d) (r:gp S d M=true) :
  ∃ W1,an P V W1 (ac ((d,ew ((ac (bu d (S (B0+d)).ver p q ks ep M y).2 S d).ver+1) (bu d (S (B0+d)).ver p q ks ep M y).1)::(bu d (S (B0+d)).ver p q ks ep M y).2) S) (a.put (some d) v) w /\
   ∀ z,z≠d->z≠B0+d->W1.cs z=W.cs z:=by
 cases hv:M.all RK.isV with
 |true =>
  obtain⟨m0,cs,a1,m1,m2,m3,m4,m5,m6⟩:=nT (P:=P) (W:=W) (st:=S) (p:=p) (q:=q) (ks:=ks) (ep:=ep) hG d (S (B0+d)).ver M y us X hB Z hv a3;rw[m0];obtain⟨s1,s2,s3⟩:=AF ((S d).ver+1) m1 J;show ∃ W1,an P V W1 (ac [(d,ew ((S d).ver+1) (bu d (S (B0+d)).ver p q ks ep M y).1)] S) (a.put (some d) v) w/\_;generalize ew ((S d).ver+1) (bu d (S (B0+d)).ver p q ks ep M y).1=rc at s1 s2 s3 ⊢;obtain⟨v0,a9,bl⟩:=rc;simp only at s1 s2 s3;subst s3;subst s2;have a4:=h.put hV d hd a0 ((S d).ver+1) a9 _ v cs a1 (BF _) s1 m2 m3 m4
   (λj l R ho k Y=>by
    have b9:=m5 j l R ho k Y;have I:=H k b9;simp only[bX,not_or,not_exists,not_and]at I;exact⟨I.1,I.2.1,I.2.2.1,λr1 j1 l1 _ h8 h9=>I.2.2.2 r1 j1 l1 h8 h9⟩) m6
  refine⟨_,a4,λz hz _=>?_⟩;show (if z=d then cs else W.cs z)=_;rw[if_neg hz]
 |false =>
  have hb:∃ b,M=[.box b]:=by
   unfold gp at r;split at r
   ·exact⟨_,rfl⟩
   ·rw[hv]at r;cases r
  obtain⟨b,rfl⟩:=hb;obtain⟨u0,bb,rb,ba,e1,e2,⟨g',cs,E,b0,b1,b2,hm,b4⟩,e3,e4⟩:=Z;subst e3;subst e4;subst e1;subst e2;subst b4;have J:v=u0:=J;subst J;subst b1;have a5:(S (B0+d)).sh=.off:=by simpa[gp]using r
  have O:(g'::b0).Nodup:=by simpa using a3
  rw[Bl]at O;obtain⟨a1,m1,m2,m3,m4⟩:=il (P:=P) (V:=V) (W:=W) (st:=S) (p:=p) hG hm O.2;have a2:d≠B0+d:=by simp[B0]
  have a6:=H g' (by simp);have ad:=h.setBoxG hV (B0+d) (Bz _ _) ((S (B0+d)).ver+1) (aq p b y.1) cs a1 g' E (w':=w) (BF _)
   (.inr ⟨by simp[live,a5],a6,λj l R ho k Y e0=>O.1 (by rw[<- e0];exact m3 j l R ho k Y)⟩) b2 (λ_ _ _=>rfl) (λ_ _ _ _ _ _ _=>rfl) (BN _) rfl rfl rfl m1 hm.one m2
   (λj l R ho k Y=>by
    have I:=H k (by simp;exact .inr (m3 j l R ho k Y));simp only[bX,not_or,not_exists,not_and]at I;exact⟨I.1,I.2.1,I.2.2.1,λr1 j1 l1 _ h8 h9=>I.2.2.2 r1 j1 l1 h8 h9⟩) m4
  have b3:=ad.put hV d hd a0 ((S d).ver+1) .one [.bp (B0+d) 0] (.pointer (some ⟨g',0,none⟩)) [.pointer (some ⟨g',0,none⟩)] (λ_=>[]) (by rw[aH a2];exact BF _) rfl rfl (λu I=>by simp at I;subst I;rfl)
   (λj l u R g9=>by
    cases j with
    |zero=>simp at R g9;subst R;subst g9;exact⟨Bz _ _,by rw[bg],by simp⟩
    |succ j=>simp at R)
   (λj l R ho k Y=>by simp at Y) (λj j' l l' _ _ _ _ k Y=>by simp at Y)
  have e1:ac (bu d (S (B0+d)).ver p q ks ep [.box b] y).2 S=ac [(B0+d,⟨(S (B0+d)).ver+1,.agg,aq p b y.1⟩)] S:=rfl;rw[aN,e1,aH a2];refine⟨_,b3,λz hz b5=>?_⟩;show (if z=d then _ else (if z=B0+d then _ else W.cs z))=_;rw[if_neg hz,if_neg b5]
theorem uc (r:Nat)(c u:bL)(S:St):ac [(r,c)] (ac [(r,u)] S)=ac [(r,c)] S:=by
 funext q;rcases aj r q c (ac [(r,u)] S) with ⟨rfl,e⟩|⟨h,e⟩
 ·rw[e,bg]
 ·rw[e,aH h,aH h]
theorem yx (hV:ax V){W:Wit}{S:St}{a:Act}{w w':World}(h:an P V W S a w){b:Nat}(hb:live S b){N:Nat->Prop}{cs:List Value}{E:TypeId}{c:Ty}{y:c.den}{b0:List Nat}{G:Nat->Prop}{p:Bool}
  (a0:w'.heap[W.β b]?=some (.cells cs.toArray E (0,0))) (hm:Mx w' G c none 0 y cs b0) (a4:(W.β b::b0).Nodup) (a6:(S b).ls.length=c.cells)
  (Z:∀ k,bX V W S k->k≠W.β b->w'.heap[k]?=w.heap[k]?) (ad:w.heap.size<=w'.heap.size) (a9:w'.os=w.os) (ht:w'.tape=w.tape) (ho:w'.output=w.output)
  (hN:∀ k,N k->k<w'.heap.size/\¬ bX V W S k) (a2:∀ k∈b0,¬ bX V W S k/\¬ N k) (hG:∀ k,G k->gd V { W with nw:=λk=>W.nw k\/N k } p k) :
  ∃ W1,an P V W1 (ac [(b,⟨(S b).ver+2,.agg,aq p c y⟩)] S) a w'/\W1.β=W.β/\(∀ k,W1.nw k<->W.nw k\/N k)/\(∀ q,q≠b->W1.cs q=W.cs q)/\(∀ q i,q≠b->W1.bs q i=W.bs q i) /\
   (∀ k,bX V W1 (ac [(b,⟨(S b).ver+2,.agg,aq p c y⟩)] S) k->bX V W S k\/N k\/k∈b0):=by
 have J:∀ (q:Nat),(if q=b then W.β b else W.β q)=W.β q:=λq=>by split <;> simp_all
 have h1:=h.setBoxG hV b hb.1 ((S b).ver+1) (Bj cs.length .dead) cs (λ_=>[]) (W.β b) E (w':=w') (BF _) (.inl ⟨hb,rfl⟩) a0 Z (λ_ _ _ _ k I=>by simp at I) ad a9 ht ho (by simp) hm.one
  (λj l u H R=>by
   rw[Bv]at H;split at H
   ·simp at H;subst H;trivial
   ·cases H)
  (λj l H R k I=>by simp at I) (λj j' l l' _ _ _ _ k I=>by simp at I)
 have a1:∀ (j:Nat) (l:Leaf),(Bj cs.length Leaf.dead)[j]?=some l->¬ am l:=by
  intro j l H;rw[Bv]at H;split at H
  ·simp at H;subst H;exact id
  ·cases H
 have a5:∀ z,live (ac [(b,⟨(S b).ver+1,.agg,Bj cs.length .dead⟩)] S) z->live S z:=by
  intro z Y;rcases aj b z ⟨(S b).ver+1,.agg,Bj cs.length .dead⟩ S with ⟨rfl,e⟩|⟨_,e⟩
  ·exact hb
  ·exact⟨Y.1,by rw[<- e];exact Y.2⟩
 have b1:∀ k,bX V { W with β:=λr=>if r=b then W.β b else W.β r,cs:=λr=>if r=b then cs else W.cs r,bs:=λr j=>if r=b then [] else W.bs r j } (ac [(b,⟨(S b).ver+1,.agg,Bj cs.length .dead⟩)] S) k->bX V W S k:=by
  rintro k (I|I|⟨z,Y,I⟩|⟨z,i,l,H,R,O⟩)
  ·exact .inl I
  ·exact .inr (.inl I)
  ·exact .inr (.inr (.inl ⟨z,a5 z Y,by rw[<- I];exact (J z).symm⟩))
  ·by_cases M:z=b
   ·subst M;rw[bg]at H;exact absurd R (a1 i l H)
   ·rw[aH M]at H;simp only[if_neg M]at O;exact .inr (.inr (.inr ⟨z,i,l,H,R,O⟩))
 have h2:=h1.nwGrow hV N (λk I=>⟨(hN k I).1,λhu=>(hN k I).2 (b1 k hu)⟩);rw[Bl]at a4;obtain⟨X,m1,m2,m3,m4⟩:=il (P:=P) (V:=V) (W:={ W with β:=λr=>if r=b then W.β b else W.β r,cs:=λr=>if r=b then cs else W.cs r,bs:=λr j=>if r=b then [] else W.bs r j,nw:=λk=>W.nw k\/N k })
  (st:=ac [(b,⟨(S b).ver+1,.agg,Bj cs.length .dead⟩)] S) (p:=p) (λk I=>hG k I) hm a4.2
 have b3:=hm.len;have b4:=cq p c y;have h3:=h2.reown hV b ⟨(S b).ver+2,.agg,aq p c y⟩ X (by rw[bg];exact BF _) (by rw[bg]) (by rw[bg,CP];omega)
  (λj l v H R=>m2 j l v H (by simpa using R))
  (λj l H R k I=>by
   have b2:=m3 j l H R k I;obtain⟨q1,q2⟩:=a2 k b2;refine⟨λhn=>hn.elim (λhn=>q1 (.inl hn)) q2,λhp=>q1 (.inr (.inl hp)),λz Y e0=>q1 (.inr (.inr (.inl ⟨z,a5 z Y,by rw[<- e0];exact (J z).symm⟩))),λr1 j1 l1 a3 O g4 g5=>?_⟩;rw[aH a3]at O;have g5:k∈(if r1=b then [] else W.bs r1 j1):=g5;rw[if_neg a3]at g5;exact q1 (.inr (.inr (.inr ⟨r1,j1,l1,O,g4,g5⟩)))) m4
 rw[uc]at h3;refine⟨_,h3,funext λq=>J q,λk=>CI,λq hq=>if_neg hq,λq i hq=>?_,?_⟩
 ·show (if q=b then X i else if q=b then [] else W.bs q i)=_;rw[if_neg hq,if_neg hq]
 ·rintro k ((I|I)|I|⟨z,Y,I⟩|⟨z,i,l,H,R,O⟩)
  ·exact .inl (.inl I)
  ·exact .inr (.inl I)
  ·exact .inl (.inr (.inl I))
  ·refine .inl (.inr (.inr (.inl ⟨z,?_,by rw[<- I];exact (J z).symm⟩)));rcases aj b z ⟨(S b).ver+2,.agg,aq p c y⟩ S with ⟨rfl,e⟩|⟨_,e⟩
   ·exact hb
   ·exact⟨Y.1,by rw[<- e];exact Y.2⟩
  ·by_cases M:z=b
   ·subst M;rw[bg]at H;have O:k∈(if z=z then X i else _):=O;rw[if_pos rfl]at O;exact .inr (.inr (m3 i l H R k O))
   ·rw[aH M]at H;have O:k∈(if z=b then X i else if z=b then [] else W.bs z i):=O;rw[if_neg M,if_neg M]at O;exact .inl (.inr (.inr (.inr ⟨z,i,l,H,R,O⟩)))
end
section
variable {P:Program} {V:Env} {Γ:List Ctr} {st:St} {R:Type}
theorem gh:∀ (ps:List PK) (xs:List (aG×List Leaf)) (r:Upd->List (aG×List Leaf)->Option (Bool×Nat×Nat)->Option R),kh st ps xs r=(cI st ps xs).bind λu=>r u.1 u.2.1 u.2.2
 |[],xs,r=>rfl
 |_::_,[],r=>rfl
 |p::ps,x::xs,r=>by
  simp only[kh,cI];split
  ·rw[gK];cases cd st (x.2.getD _ .dead) <;> rfl
  ·rw[gh ps xs];cases cI st ps xs <;> rfl
theorem kP {a:Ty}:∀ {ls:List Leaf} {j k:Nat},k7 a j ls=some k->j<=k/\∃ l,ls[k-j]?=some l/\iV l=true
 |[],_,_,h=>by simp[k7]at h
 |l::ls,j,k,h=>by
  simp only[k7]at h;cases r:iV l&&oX a j with
  |true =>
   rw[r]at h;simp only[cond_true,AT]at h;subst h;simp only[AV]at r;exact⟨BN _,l,by simp,r.1⟩
  |false =>
   rw[r]at h;obtain⟨H,z,y,u⟩:=kP h;exact⟨by omega,z,by rw[show k-j=(k-(j+1))+1 by omega];simpa using y,u⟩
theorem qY {p:PK}{ls:List Leaf}{k:Nat}(h:p.nest ls=some k):∃ l,ls[k]?=some l/\iV l=true:=by
 cases p with
 |own a=>obtain⟨_,l,u,r⟩:=kP h;exact⟨l,by simpa using u,r⟩
 |io a=>obtain⟨_,l,u,r⟩:=kP h;exact⟨l,by simpa using u,r⟩
 |_=>simp[PK.nest]at h
theorem tg (y:ax V){W W':Wit}{st':St}{w w':World}(u:cl V W W' st st' w w'):∀ {xs:List (aG×List Leaf)} {z:List Value},gE P V W st w xs z->gE P V W' st' w' xs z
 |[],_,h=>h
 |_::_,_,⟨v,r,I,e,M,J,H⟩=>⟨v,r,I,e,M,J.carry y.ro u,tg y u H⟩
theorem aC.setLeaf {W:Wit}{w:World}{ls:List Leaf}{cs:List Value}(y:aC P V W st w ls cs){k:Nat}{l:Leaf}(z:¬ am l)(h:∀ v,cs[k]?=some v->aI P V W st w [] l v):aC P V W st w (aP ls k l) cs:=by
 have r:=y.length;refine aC.mk (by simp[aP,r]) λj I v H u=>?_
 rcases aO _ _ _ _ _ H with ⟨rfl,rfl,M⟩|⟨J,H⟩
 ·exact⟨h v u,z,y.one' v (List.mem_of_getElem? u)⟩
 ·exact y.at_ j I v H u
def AG (W:Wit)(S:St)(w:World):Option (Bool×Nat×Nat)->Prop
 |some (_,r,j)=>∃ v,W.cs TMP=[v]/\ta W S w r j v
 |none=>True
theorem nU (Z:ax V){W:Wit}{a:Act}{w:World}(h:an P V W st a w):∀ (ps:List PK) (xs:List (aG×List Leaf)) (X:List Value) (U:Upd) (ys:List (aG×List Leaf)) (b:Option (Bool×Nat×Nat)),
  gE P V W st w xs X->cI st ps xs=some (U,ys,b)->∃ H,an P V H (ac U st) a w/\gE P V H (ac U st) w ys X/\H.nw=W.nw/\H.β=W.β/\AG H (ac U st) w b/\cl V W H st (ac U st) w w/\(∀ q,(ac U st q).sh=(st q).sh\/q=TMP) /\
   (∀ f r j,b=some (f,r,j)->f=true->ps.any PK.isIo=true)
 |[],xs,X,U,ys,b,hx,y=>by
  simp only[cI,AT,Bd]at y;obtain⟨rfl,rfl,rfl⟩:=y;exact⟨W,h,hx,rfl,rfl,trivial,cl.refl V W st w,λ_=>.inl rfl,λ_ _ _ h=>by cases h⟩
 |_::_,[],X,U,ys,b,hx,y=>by
  simp only[cI,AT,Bd]at y;obtain⟨rfl,rfl,rfl⟩:=y;exact⟨W,h,hx,rfl,rfl,trivial,cl.refl V W st w,λ_=>.inl rfl,λ_ _ _ h=>by cases h⟩
 |p::ps,x::xs,X,U,ys,b,⟨v,J,cs,e,hs,hl,z⟩,y=>by
  subst e;simp only[cI]at y;split at y
  ·rename_i k hk;simp only[AU]at y;obtain⟨u,I,y⟩:=y;simp only[Bd]at y;obtain⟨rfl,rfl,rfl⟩:=y;obtain⟨l,M,a1⟩:=qY hk;have hg:x.2.getD k .dead=l:=by rw[Bf,M];rfl
   rw[hg]at I ⊢;have a0:k<cs.length:=by rw[<- hl.length];exact (AW.1 M).1
   have Y:=BL a0;obtain⟨U,l'⟩:=u;obtain⟨H,n,p0,E0,e0,a2,g1,O,g3,g4,_,_,g5,g6,_,g7,g8,g9⟩:=uA Z h (hl.at_ k l _ M Y).1 I;subst g3;refine⟨H,g1,⟨v,J,cs,rfl,hs,(hl.carry Z.ro O).setLeaf id λu I=>?_,tg Z O z⟩,g5,g6,⟨_,g7,g9⟩,O,g8,λf r j hb hf=>?_⟩
   ·rw[Y]at I;simp only[AT]at I;subst I;exact g4
   ·simp only[AT,Bd]at hb;rw[B3,hb.1,hf];rfl
  ·simp only[AU]at y;obtain⟨u,I,y⟩:=y;simp only[Bd]at y;obtain⟨rfl,rfl,rfl⟩:=y;obtain⟨H,g1,O,g3,g4,g5,g6,g7,g8⟩:=nU Z h ps xs J u.1 u.2.1 u.2.2 z I;exact⟨H,g1,⟨v,J,cs,rfl,hs,hl.carry Z.ro g6,O⟩,g3,g4,g5,g6,g7,λf r j hb hf=>by rw[B3,g8 f r j hb hf,Bool.or_true]⟩
end
section
variable {P:Program} {V:Env} {Γ:List Ctr} {st:St}
theorem im {st:St}{q i:Nat}:∀ {ks:List (Nat×Nat)},(q,i)∉ks->(ac (aE st ks) st q).ls[i]?=(st q).ls[i]?
 |[],_=>rfl
 |(r,j)::ks,h=>by
  simp only[Bs,not_or]at h;have e:ac (aE st ((r,j)::ks)) st=ac [(r,fJ (ac (aE st ks) st r) j)] (ac (aE st ks) st):=aN _ _ _ _;rw[e];rcases aj r q (fJ (ac (aE st ks) st r) j) (ac (aE st ks) st) with ⟨rfl,e⟩|⟨_,e⟩
  ·rw[e];simp only[fJ,aP];rw[Bp (λu=>h.1 (by rw[u]))];exact im h.2
  ·rw[e];exact im h.2
theorem kQ {st:St}{q i:Nat}:∀ {ks:List (Nat×Nat)},(q,i)∉ks->(ac (aL st ks) st q).ls[i]?=(st q).ls[i]?
 |[],_=>rfl
 |(r,j)::ks,h=>by
  simp only[Bs,not_or]at h;have e:ac (aL st ((r,j)::ks)) st=ac [(r,fO (ac (aL st ks) st r) j)] (ac (aL st ks) st):=aN _ _ _ _;rw[e];rcases aj r q (fO (ac (aL st ks) st r) j) (ac (aL st ks) st) with ⟨rfl,e⟩|⟨_,e⟩
  ·rw[e];simp only[fO,aP];rw[Bp (λu=>h.1 (by rw[u]))];exact kQ h.2
  ·rw[e];exact kQ h.2
theorem mW (d n:Nat)(p q:Bool)(ks:List (Nat×Nat×Nat))(ep:Nat):∀ (z:List RK) (y:ah z),∀ x∈(bu d n p q ks ep z y).2,x.1=B0+d
 |[],_,x,u=>by simp[bu]at u
 |r::z,y,x,u=>by
  simp only[bu,BE]at u;rcases u with u|u
  ·cases r <;> simp[oW]at u;rw[u]
  ·exact mW d n p q ks ep z y.2 x u
theorem qZ {q:Nat}(st:St):∀ (U:Upd),(∀ x∈U,x.1≠q)->ac U st q=st q
 |[],_=>rfl
 |(r,c)::U,h=>by
  rw[aN,aH (Bq (h (r,c) (BP ..)))];exact qZ st U (λx u=>h x (BI _ u))
def mb (u:St)(c:Ctr)(d:Nat)(xs:List (aG×List Leaf))(g:Got (ab c.ps))(y:ah c.rs×ag c.ps):Upd :=
 let H:=(let U:=(bif c.fresh then [] else aE u g.frz);aL (ac U u) g.kill++U);let z:=aF (ac H u) (g.p&&!c.fresh) c.ps xs y.2++H;let r:=bu d (ac z u (B0+d)).ver (g.p&&!c.fresh) g.p (g.frz.map λk=>(k.1,k.2,(ac z u k.1).ver)) (ac z u EPO).ver c.rs y.1
 (d,ew ((ac (r.2++z) u d).ver+1) r.1)::(r.2++z)
theorem yy (hV:ax V){W0:Wit}{u:St}{a:Act}{w:World}(h0:an P V W0 u a w){c:Ctr}{xs:List (aG×List Leaf)}{vs:List Value}(e0:gE P V W0 u w xs vs){g:Got (ab c.ps)}(hg:aY (bW Γ u) c.ps xs=some g)
  (hf:∀ z∈g.frz,aB u z) (H:∀ z∈g.kill,aB u z) (es:∀ b∈g.lend,live u b) (d5:aU g.kill=true) (e7:dk g.frz g.kill=true) (hE:∀ z∈g.kill,z.1≠EPO) (b1:g.lend.length<=1) (ex:g.lend=[]\/c.ps.any PK.isIo=false)
  {bl:List (List Nat)} (c0:∀ k,bl.flatten.count k=(g.lend.map W0.β).count k+(aS W0 g.kill).count k)
  {d:Nat} (hd:d<V.nt) (ec:∀ x∈V.fixt,x.1≠d) (a3:gp u d c.rs=true) (d1:((c.fresh&&g.lend.isEmpty)||!(c.rs.any RK.isBv))=true) {y:ah c.rs×ag c.ps} {e:Ending} {w':World} (c4:tc c w (bi V W0 g.p g.frz) vs bl y e w') :
  ∃ v,e=.returned v/\∃ W1,an P V W1 (ac (mb u c d xs g y) u) (a.put (some d) v) w'/\(∀ q,q≠d->q≠B0+d->q∉g.lend->W1.cs q=W0.cs q) /\
   (∀ q i,q≠d->q≠B0+d->q∉g.lend->(q,i)∉g.frz->(q,i)∉g.kill->(ac (mb u c d xs g y) u q).ls[i]?=(u q).ls[i]?)/\(∀ k,k<w.heap.size->k∉aS W0 g.kill->k∉g.lend.map W0.β->w'.heap[k]?=w.heap[k]?)/\w.heap.size<=w'.heap.size:=by
 obtain⟨v,us,N,c3,ba,rfl,e6,c6,dd,dc,e4,em,hN,bn,d2,R,Z⟩:=c4;have a4:∀ k,k∈bl.flatten<->k∈g.lend.map W0.β\/k∈aS W0 g.kill:=λk=>by
  rw[<- BD,<- BD,<- BD,c0 k];omega
 have a0:∀ k,k<w.heap.size->k∉aS W0 g.kill->k∉g.lend.map W0.β->w'.heap[k]?=w.heap[k]?:=λk h1 h2 h3=>em k h1 (λh=>((a4 k).1 h).elim h3 h2)
 refine⟨v,rfl,?_⟩;unfold mb;generalize bb:(bif c.fresh then [] else g.frz)=O;have hU:(bif c.fresh then [] else aE u g.frz)=aE u O:=by rw[<- bb];cases c.fresh <;> rfl
 have d6:dk O g.kill=true:=by rw[<- bb];cases c.fresh with|true=>rfl|false=>exact e7
 have c1:∀ z∈O,z∈g.frz:=by rw[<- bb];cases c.fresh with|true=>simp|false=>exact λ_ h=>h
 have f0:∀ z∈O,aB u z:=λz hz=>hf z (c1 z hz)
 rw[hU];obtain⟨h1,h2,h3,h4⟩:=fm hV h0 d6 H;have b4:∀ q i,(q,i)∉g.frz->(q,i)∉g.kill->(ac (aL (ac (aE u O) u) g.kill++aE u O) u q).ls[i]?=(u q).ls[i]?:=λq i q1 q2=>by
  rw[br,kQ q2,im (λh=>q1 (c1 _ h))]
 generalize f1:aL (ac (aE u O) u) g.kill++aE u O=I at h1 h2 h3 h4 b4;have a2:∀ k∈aS W0 g.kill,¬ bX V (W0.frz u O) (ac I u) k:=λk H=>l7 ⟨(h4 k H).1,(h4 k H).2.1,(h4 k H).2.2.2.1,(h4 k H).2.2.2.2⟩
 have a1:∀ k,pI w w' bl.flatten k->k∉g.lend.map W0.β->k<w'.heap.size/\¬ bX V (W0.frz u O) (ac I u) k:=by
  rintro k ⟨eg,a9⟩ et;refine⟨eg,λM=>?_⟩;rcases a9 with a9|a9
  ·have:=h1.used_lt k M;omega
  ·exact ((a4 k).1 a9).elim et (λa9=>a2 k a9 M)
 have hG:∀ k,(N k\/(c.fresh=false/\bi V W0 g.p g.frz k))->gd V { W0.frz u O with nw:=λk=>(W0.frz u O).nw k\/N k } (g.p&&!c.fresh) k:=by
  rintro k (H|⟨e5,H⟩)
  ·exact .inl (.inr H)
  ·have e1:O=g.frz:=by rw[<- bb,e5];rfl
   have:=jS (V:=V) (W:=W0) (p:=g.p) hf k H;rw[e5];rw[<- e1]at this;exact bP (W':={ W0.frz u O with nw:=λk=>(W0.frz u O).nw k\/N k }) (by intro h;simp[h]) (λ_ h=>Or.inl h) k this
 rw[Bh]at R;have cu:∀ (W2:Wit),an P V W2 (ac (aF (ac I u) (g.p&&!c.fresh) c.ps xs y.2++I) u) a w'->(∀ k,(N k\/(c.fresh=false/\bi V W0 g.p g.frz k))->gd V W2 (g.p&&!c.fresh) k) ->
   (∀ k∈ba.flatten,¬ bX V W2 (ac (aF (ac I u) (g.p&&!c.fresh) c.ps xs y.2++I) u) k) ->
   (c.rs.any RK.isBv=true->∀ x∈g.frz,∀ k,k∈W0.bs x.1 x.2->k∈W2.bs x.1 x.2)->(c.rs.any RK.isBv=true->∀ k,W0.nw k->W2.nw k) ->
   (∀ q,q∉g.lend->W2.cs q=W0.cs q)->(∀ q i,q∉g.lend->(q,i)∉g.frz->(q,i)∉g.kill->(ac (aF (ac I u) (g.p&&!c.fresh) c.ps xs y.2++I) u q).ls[i]?=(u q).ls[i]?) ->
   (∀ q,(ac (aF (ac I u) (g.p&&!c.fresh) c.ps xs y.2++I) u q).sh=(u q).sh) ->
   ∃ W1,an P V W1 (ac (let Y:=aF (ac I u) (g.p&&!c.fresh) c.ps xs y.2++I
     let r:=bu d (ac Y u (B0+d)).ver (g.p&&!c.fresh) g.p (g.frz.map λk=>(k.1,k.2,(ac Y u k.1).ver)) (ac Y u EPO).ver c.rs y.1
     (d,ew ((ac (r.2++Y) u d).ver+1) r.1)::(r.2++Y)) u) (a.put (some d) v) w'/\(∀ q,q≠d->q≠B0+d->q∉g.lend->W1.cs q=W0.cs q) /\
    (∀ q i,q≠d->q≠B0+d->q∉g.lend->(q,i)∉g.frz->(q,i)∉g.kill->(ac (let Y:=aF (ac I u) (g.p&&!c.fresh) c.ps xs y.2++I
     let r:=bu d (ac Y u (B0+d)).ver (g.p&&!c.fresh) g.p (g.frz.map λk=>(k.1,k.2,(ac Y u k.1).ver)) (ac Y u EPO).ver c.rs y.1
     (d,ew ((ac (r.2++Y) u d).ver+1) r.1)::(r.2++Y)) u q).ls[i]?=(u q).ls[i]?):=by
  intro W2 g1 d4 a5 eb ed cy bx c2;generalize aF (ac I u) (g.p&&!c.fresh) c.ps xs y.2++I=Y at g1 a5 bx c2 ⊢;have c5:gp (ac Y u) d c.rs=true:=by
   unfold gp at a3 ⊢;split at a3
   ·rw[c2];exact a3
   ·exact a3
  obtain⟨W1,q1,q2⟩:=vJ hV g1 (q:=g.p) (ks:=g.frz.map λk=>(k.1,k.2,(ac Y u k.1).ver)) (ep:=(ac Y u EPO).ver) d2 d4 (λhb=>by
   refine⟨λk H=>?_,BN _,λk H=>?_⟩
   ·rcases H with H|(H|H)|⟨x,hx,H⟩
    ·exact .inl (bP (W':=W2) (by intro h;simp at h;exact h.1) (λ_ h=>h) k (d4 k H))
    ·exact .inl (.inl (ed hb k H))
    ·exact .inl (.inr H)
    ·exact .inr ⟨(x.1,x.2,(ac Y u x.1).ver),CL.2 ⟨x,hx,rfl⟩,eb hb x hx k H⟩
   ·obtain⟨x,hx,rfl⟩:=CL.1 H;exact BN _) a5 R.2.1 e6 hd ec c5
  have e1:∀ (X:Upd) (C:bL),ac ((d,C)::(X++Y)) u=ac ((d,C)::X) (ac Y u):=λX C=>by
   rw[aN d C (X++Y),aN d C X,br]
  simp only[e1,br];refine⟨W1,q1,λq hq cc cb=>(q2 q hq cc).trans (cy q cb),λq i hq cc cb b3 a6=>?_⟩;rw[aN,aH hq,qZ _ _ (λx hx=>by rw[mW _ _ _ _ _ _ _ _ x hx];exact Bq cc)];exact bx q i cb b3 a6
 refine (?_:∃ W1,_/\_/\_).imp λW1 hh=>⟨hh.1,hh.2.1,hh.2.2,a0,c6⟩
 cases J:g.lend with
 |nil =>
  rw[J]at a4 a0 a1 c0;simp only[Cc,List.not_mem_nil,not_false_iff,true_implies,forall_const,false_or]at a4 a0 a1;rw[J]at cu;have h5:=h1.world hV c6 dd dc e4 (λk H=>a0 k (h1.used_lt k H) (λhm=>a2 k hm H));have h6:=h5.nwGrow hV N (λk H=>a1 k (hN k H));have cx:∀ k,bX V { W0.frz u O with nw:=λk=>(W0.frz u O).nw k\/N k } (ac I u) k->bX V (W0.frz u O) (ac I u) k\/N k:=by
   rintro k ((H|H)|H|H|H)
   ·exact .inl (.inl H)
   ·exact .inr H
   ·exact .inl (.inr (.inl H))
   ·exact .inl (.inr (.inr (.inl H)))
   ·exact .inl (.inr (.inr (.inr H)))
  have ad:∀ k∈c3.flatten++ba.flatten,¬ bX V { W0.frz u O with nw:=λk=>(W0.frz u O).nw k\/N k } (ac I u) k:=λk H M=>by
   obtain⟨q1,q2⟩:=Z k H;rcases cx k M with M|M
   ·exact (a1 k q1).2 M
   ·exact q2 M
  obtain⟨W2,g1,g2,g3,g4,g5,g6,g7⟩:=qo (Γ:=Γ) hV (W0:=W0) (W:={ W0.frz u O with nw:=λk=>(W0.frz u O).nw k\/N k }) (p:=g.p&&!c.fresh) rfl hG h6 c.ps xs vs g y.2 c3 e0 hg (tf c.ps xs g hg J) bn d5 hE
   (λx hx l hl ho=>(h2 x.1 x.2 l hl ho).2.2 hx) (λk H=>ad k (BC _ H)) R.1
  rw[<- br]at g1 g5 g6 g7;refine cu W2 g1 (λk H=>?_) (λk H M=>?_) (λhb x hx k H=>?_) (λhb k H=>?_) (λq _=>by rw[g2];rfl) (λq i _ b3 a6=>(g6 q i a6).1.trans (b4 q i b3 a6)) (λq=>(g5 q).1.trans (h3 q).1)
  ·rcases hG k H with H|H
   ·exact .inl (by rw[g4];exact H)
   ·exact .inr H
  ·rcases g7 k M with M|M
   ·exact ad k (AX _ H) M
   ·exact R.2.2 k M k H rfl
  ·rw[(g6 x.1 x.2 (nl e7 x hx)).2];exact H
  ·rw[g4];exact .inl (.inl H)
 |cons b d3 =>
  have cp:d3=[]:=by
   rw[J]at b1;simp at b1;exact b1
  subst cp;have ej:c.ps.any PK.isIo=false:=ex.resolve_left (by rw[J];simp);have ef:c.rs.any RK.isBv=false:=by
   rw[J]at d1;simpa using d1
  obtain⟨_,r2⟩:=oK (Γ:=Γ) h0 (S:=ac I u) (p:=g.p&&!c.fresh) c.ps xs vs g y.2 c3 e0 hg ej bn;obtain⟨cT,yv,cs,E,b0,r3,r4,r5,r6,r7⟩:=r2 b J;rw[r6]at R Z;have hβ:(W0.frz u O).β=W0.β:=rfl;have b9:∀ k,k∈g.lend.map W0.β<->k=W0.β b:=λk=>by rw[J];simp
  have hb:live (ac I u) b:=(ic (λq=>(h3 q).1) b).2 (es b (by rw[J];simp));have cw:∀ k,k∈(W0.β b::b0)++ba.flatten->¬ N k:=λk H=>(Z k H).2
  obtain⟨W2,g1,g2,g3,g4,g5,g6⟩:=yx hV h1 hb (N:=N) (p:=g.p&&!c.fresh) r4 r5 R.1 (by rw[h1.len b];show (W0.cs b).length=_;rw[<- h0.len b];exact r7)
   (λk M en=>a0 k (h1.used_lt k M) (λhm=>a2 k hm M) (λhm=>en ((b9 k).1 hm))) c6 dd dc e4
   (λk H=>a1 k (hN k H) (λhm=>cw _ (BC _ (BP ..)) (by rw[<- (b9 k).1 hm];exact H)))
   (λk H=>⟨(a1 k (Z k (BC _ (BI _ H))).1 (λhm=>by
    have:=(b9 k).1 hm;subst this;exact (Bl.1 R.1).1 H)).2,cw k (BC _ (BI _ H))⟩) hG
  have e2:ac (aF (ac I u) (g.p&&!c.fresh) c.ps xs y.2++I) u=ac [(b,⟨(ac I u b).ver+2,.agg,aq (g.p&&!c.fresh) cT yv⟩)] (ac I u):=by rw[br,r3]
  have ev:∀ k∈ba.flatten,k∉g.lend.map W0.β:=λk H hm=>R.2.2 _ (BP ..) k H ((b9 k).1 hm).symm
  rw[<- e2]at g1 g6;have b2:=cu W2 g1 (λk H=>?_) (λk H M=>?_) (λb5=>by rw[ef]at b5;cases b5) (λb5=>by rw[ef]at b5;cases b5) (λq hq=>?_) (λq i hq b3 a6=>?_) (λq=>?_)
  ·rw[J]at b2;exact b2
  ·rcases hG k H with H|H
   ·exact .inl ((g3 k).2 H)
   ·exact .inr H
  ·rcases g6 k M with M|M|M
   ·exact (a1 k (Z k (AX _ H)).1 (ev k H)).2 M
   ·exact cw k (AX _ H) M
   ·exact R.2.2 k (BI _ M) k H rfl
  ·rw[J]at hq;rw[g4 q (by simpa using hq)];rfl
  ·rw[J]at hq;rw[e2,aH (by simpa using hq)];exact b4 q i b3 a6
  ·rw[e2];rcases aj b q ⟨(ac I u b).ver+2,.agg,aq (g.p&&!c.fresh) cT yv⟩ (ac I u) with ⟨rfl,e3⟩|⟨_,e3⟩
   ·rw[e3];have:=hb.2;rw[(h3 q).1]at this;exact this.symm
   ·rw[e3];exact (h3 q).1
end
section
variable {P:Program} {V:Env} {Γ:List Ctr} {T:TypeId->TI} {st:St} {o:Oper} {R:Type} {κ:Upd->Option R} {r:R}
theorem yz {ls:List Leaf}{j:Nat}{p:Bool}{u:Option (Nat×Nat)}{E:TypeId}{e:Ty}{xs:List e.den}(h:ls.getD j .dead=.own p u E e xs):ls[j]?=some (.own p u E e xs):=by
 rw[Bf]at h;cases y:ls[j]? with
 |none=>rw[y]at h;simp at h
 |some z=>rw[y]at h;simp at h;rw[h]
theorem zQ (hV:ax V){b:Option (Bool×Nat×Nat)}{U:Upd}(h:jx st b U κ=some r) :
  ∃ U',κ U'=some r/\∀ I a w,an P V I (ac U st) a w->(∀ q j,b=some (true,q,j)->∃ v,I.cs TMP=[v]/\ta I (ac U st) w q j v)->Rel P V (ac U' st) a w:=by
 unfold jx at h;split at h
 ·rename_i q j;split at h
  ·rename_i p i off E' e' xs q' E e ys hq ba;obtain⟨y,hy,h⟩:=BX.1 h;obtain⟨_,_,hy⟩:=fW hy;simp only[Cd]at hy;split at h
   ·rename_i z hz;refine⟨_,h,λI a w hr hb=>?_⟩;obtain⟨v,c0,a3,c1,i0,b4,p0,E0,e0,c2,g,cb,g1,g2,g3,g4⟩:=hb q j rfl;have hq:=yz hq;rw[hq]at g1;obtain⟨rfl,bb,rfl,h4⟩:p=p0/\some (i,off)=some (i0,b4)/\E'=E0/\(⟨e',xs⟩:(e:Ty)×List e.den)=⟨e0,c2⟩:=by
     simp only[AT,Leaf.own.injEq]at g1;obtain⟨q1,q2,q3,q4,q5⟩:=g1;subst q4;rw[heq_eq_eq]at q5;subst q5;exact⟨q1,by simpa using q2,q3,rfl⟩
    simp only[AT,Bd]at bb;obtain⟨rfl,rfl⟩:=bb;simp only[Sigma.mk.injEq]at h4;obtain⟨rfl,h4⟩:=h4;rw[heq_eq_eq]at h4;subst h4;generalize hS:ac U st=S at hr hq g1 g2 g3 ba ⊢;have a6:(S TMP).ls[0]?=some (.own q' none E e ys):=by rw[ba];rfl
    have b9:(I.cs TMP)[0]?=some v:=by rw[c0];rfl
    have ad:=hr.leaf q j _ _ hq g2;have b1:=hr.leaf TMP 0 _ _ a6 b9;have ad:OwH w (gd V I p) (some (i,off)) E' e' xs _ (I.bs q j):=ad;have b1:Ow w (gd V I q') E e ys v (I.bs TMP 0):=b1;have b5:=ad.carry (G':=gd V I (p||q')) (bP (W':=I) (by intro h;simp[h]) (λ_ h=>h)) (λ_ _=>rfl) (λ_ _=>rfl);have bl:=OwH.carry (G':=gd V I (p||q')) b1 (bP (W':=I) (by intro h;simp[h]) (λ_ h=>h)) (λ_ _=>rfl) (λ_ _=>rfl);have bx:∀ k∈I.bs TMP 0,k∉I.bs q j:=λk M Z=>a3 (hr.sep TMP 0 _ q j _ a6 trivial hq trivial k M Z).1.symm
    obtain⟨b2,c4,bn⟩:=b5.back bl bx hy hz (λg' c5 e1=>by
     simp only[BZ,AT,CC,and_true]at e1;rw[<- e1.1];exact g4)
    have c3:∀ k∈b2,k∈I.bs q j\/k∈I.bs TMP 0:=λk M=>by
     have h5:=bn k;have h6:=BD.2 M;by_cases h7:k∈I.bs q j
     ·exact .inl h7
     ·have:=BS.2 h7;exact .inr (BD.1 (by omega))
    obtain⟨h1,c6⟩:=hr.putGhost hV TMP iA.1 iA.2.1 ((S TMP).ver+1) .off [] [] (λ_=>[]) (BF _) rfl (by simp) (λj l u hj=>by simp at hj) (λj l hj=>by simp at hj) (λj j' l l' hj=>by simp at hj);have a4:∀ x,x≠TMP->ac [(TMP,⟨(S TMP).ver+1,.off,[]⟩)] S x=S x:=λx hx=>aH hx _ _
    have a9:(ac [(TMP,⟨(S TMP).ver+1,.off,[]⟩)] S) q=S q:=a4 q a3;have H:∀ (O:Nat) (l':Leaf),O≠j->(aP (S q).ls j (.own (p||q') none E' e' (xs.set i z)))[O]?=some l'->(S q).ls[O]?=some l':=by
     intro O l' a2 a0;rcases aO _ _ _ _ _ a0 with ⟨rfl,_,_⟩|⟨_,a0⟩
     ·exact absurd rfl a2
     ·exact a0
    have b3:∀ (l':Leaf),(aP (S q).ls j (.own (p||q') none E' e' (xs.set i z)))[j]?=some l'->l'=.own (p||q') none E' e' (xs.set i z):=by
     intro l' a0;rcases aO _ _ _ _ _ a0 with ⟨_,rfl,_⟩|⟨a2,_⟩
     ·rfl
     ·exact absurd rfl a2
    have a5:∀ b,live (ac [(TMP,⟨(S TMP).ver+1,.off,[]⟩)] S) b->live S b:=λb hb=>by
     have:b≠TMP:=by have:=hb.1;have:=iA.2.1;omega
     exact⟨hb.1,by rw[<- a4 b this];exact hb.2⟩
    have b0:∀ k∈b2,¬ I.nw k/\¬ V.prot k/\(∀ b,live S b->I.β b≠k)/\∀ (X i1:Nat) (l1:Leaf),(S X).ls[i1]?=some l1->am l1->(X,i1)≠(q,j)->X≠TMP->k∉I.bs X i1:=λk M=>by
     rcases c3 k M with M|M
     ·have h9:=hr.ownb q j _ hq trivial k M;exact⟨h9.1,h9.2.1,h9.2.2,λX i1 l1 g5 g6 g7 _ g8=>g7 (by obtain⟨e1,e2⟩:=hr.sep X i1 l1 q j _ g5 g6 hq trivial k g8 M;rw[e1,e2])⟩
     ·have h9:=hr.ownb TMP 0 _ a6 trivial k M;exact⟨h9.1,h9.2.1,h9.2.2,λX i1 l1 g5 g6 _ g7 g8=>g7 (hr.sep X i1 l1 TMP 0 _ g5 g6 a6 trivial k g8 M).1⟩
    have h2:=(h1.reownE hV q ⟨(S q).ver,(S q).sh,aP (S q).ls j (.own (p||q') none E' e' (xs.set i z))⟩ (λO=>if O=j then b2 else I.bs q O) c1 (by rw[a9];exact BN _) (by rw[a9]) (by rw[a9];simp[aP])
     (λO l' u g5 g6=>by
      have g6:(if q=TMP then [] else I.cs q)[O]?=some u:=g6;rw[if_neg a3]at g6;by_cases J:O=j
      ·subst J;obtain rfl:=b3 l' g5;rw[g2]at g6;simp only[AT]at g6;subst g6;simp only[if_true];exact c4
      ·simp only[if_neg J];have:=h1.leaf q O l' u (by rw[a9];exact H O l' J g5) (by show (if q=TMP then [] else I.cs q)[O]?=_;rw[if_neg a3];exact g6);have e0:(if q=TMP then ([]:List Nat) else I.bs q O)=I.bs q O:=if_neg a3;simp only[e0]at this;exact this)
     (λO l' g5 g6 k M=>by
      by_cases J:O=j
      ·subst J;simp only[if_true]at M;obtain⟨q1,q2,q3,q4⟩:=b0 k M;refine⟨q1,q2,λb hb=>q3 b (a5 b hb),λX j1 l1 a2 g7 g8 g9=>?_⟩;by_cases a1:X=TMP
       ·subst a1;rw[bg]at g7;simp at g7
       ·rw[a4 X a1]at g7;have g9:k∈(if X=TMP then [] else I.bs X j1):=g9;rw[if_neg a1]at g9;exact q4 X j1 l1 g7 g8 (λe=>a2 (by cases e;rfl)) a1 g9
      ·simp only[if_neg J]at M;have a0:=H O l' J g5;have h9:=hr.ownb q O l' a0 g6 k M;refine⟨h9.1,h9.2.1,λb hb=>h9.2.2 b (a5 b hb),λX j1 l1 a2 g7 g8 g9=>?_⟩;by_cases a1:X=TMP
       ·subst a1;rw[bg]at g7;simp at g7
       ·rw[a4 X a1]at g7;have g9:k∈(if X=TMP then [] else I.bs X j1):=g9;rw[if_neg a1]at g9;exact a2 (hr.sep q O l' X j1 l1 a0 g6 g7 g8 k M g9).1.symm)
     (λi1 i2 l1 l2 g5 g6 g7 g8 k M Z=>by
      by_cases J:i1=j <;> by_cases Y:i2=j
      ·omega
      ·subst J;simp only[if_true]at M;simp only[if_neg Y]at Z;exact absurd Z ((b0 k M).2.2.2 q i2 l2 (H i2 l2 Y g7) g8 (λe=>Y (by cases e;rfl)) a3)
      ·subst Y;simp only[if_true]at Z;simp only[if_neg J]at M;exact absurd M ((b0 k Z).2.2.2 q i1 l1 (H i1 l1 J g5) g6 (λe=>J (by cases e;rfl)) a3)
      ·simp only[if_neg J]at M;simp only[if_neg Y]at Z;exact (hr.sep q i1 l1 q i2 l2 (H i1 l1 J g5) g6 (H i2 l2 Y g7) g8 k M Z).2)).1
    show ∃ W,an P V W _ a w;have e1:ac ((q,⟨(S q).ver,(S q).sh,aP (S q).ls j (.own (p||q') none E' e' (xs.set i z))⟩)::(TMP,⟨(S TMP).ver+1,.off,[]⟩)::(EPO,bQ (S EPO))::U) st =
      ac [(q,⟨(S q).ver,(S q).sh,aP (S q).ls j (.own (p||q') none E' e' (xs.set i z))⟩),(EPO,bQ (ac [(TMP,⟨(S TMP).ver+1,.off,[]⟩)] S EPO))] (ac [(TMP,⟨(S TMP).ver+1,.off,[]⟩)] S):=by
     rw[a4 EPO (Bq iA.2.2),aN q,aN TMP,aN EPO,hS,aN q _ [(EPO,bQ (S EPO))],mK iA.2.2]
    rw[e1];exact⟨_,h2⟩
   ·cases h
  ·cases h
 ·exact⟨_,h,λI a w hr _=>⟨I,hr⟩⟩
theorem uE (hV:ax V)(hΓ:∀ c∈Γ,bT P c){d:Nat}(hd:d<V.nt)(dd:∀ x∈V.fixt,x.1≠d){f:FuncId}{xs:List (aG×List Leaf)}(h:iW Γ st d f xs κ=some r) :
  gv P f/\∃ U,κ U=some r/\∀ W a w,an P V W st a w->∀ vs,gE P V W st w xs vs->Calls P f vs.toArray w (λe w'=>∃ v,e=.returned v/\Rel P V (ac U st) (a.put (some d) v) w'):=by
 unfold iW at h;split at h
 ·rename_i c hc;obtain⟨d3,rfl⟩:=mU hc;obtain⟨cp,ad⟩:=hΓ c d3;refine⟨cp,?_⟩;rw[gh]at h;obtain⟨⟨U0,ys,b⟩,c6,h⟩:=BX.1 h;simp only at h;split at h
  ·rename_i g hg;cases M:aU g.kill&&dk g.frz g.kill&&gp st d c.rs&&!(g.see.any λq=>g.lend.any (BM q))&&CH g.lend.length 1&&(g.lend.isEmpty||!(c.ps.any PK.isIo))&&((c.fresh&&g.lend.isEmpty)||!(c.rs.any RK.isBv))&&(g.kill.all λk=>!BM k.1 EPO)&&oi b g.frz g.kill d with
   |false=>rw[M]at h;cases h
   |true =>
    rw[M]at h;simp only[cond_true]at h;simp only[AV]at M;obtain⟨⟨⟨⟨⟨⟨⟨⟨b4,d5⟩,I⟩,ba⟩,J⟩,e3⟩,ec⟩,hE⟩,cu⟩:=M;obtain⟨y,hy,h⟩:=BX.1 h;obtain⟨U',eb,c3⟩:=zQ (P:=P) (V:=V) hV h;refine⟨U',eb,λW a w hr vs es=>?_⟩;obtain⟨W0,O,c5,f8,hβ0,e5,dc,b5,e4⟩:=nU hV hr c.ps xs vs U0 ys b es c6;generalize b1:ac U0 st=S0 at O c5 e5 dc b5 hg;obtain⟨⟨b0,c2,a3⟩,hf,hk,a4⟩:=kc (ub hV hΓ O) c.ps ys vs g c5 hg;have hE:∀ z∈g.kill,z.1≠EPO:=λz hz e0=>by
     have:=List.all_eq_true.1 hE z hz;rw[e0]at this;simp at this
    have J:g.lend.length<=1:=Bn J;have bn:g.lend=[]\/c.ps.any PK.isIo=false:=by
     simp only[Cx,Cl,BR]at e3;exact e3
    have c0:∀ k,k∈b0.flatten<->k∈g.lend.map W0.β\/k∈aS W0 g.kill:=λk=>by
     rw[<- BD,<- BD,<- BD,a3 k];omega
    have a0:∀ k,js V W0 S0 g.frz g.see k->k<w.heap.size/\k∉b0.flatten:=by
     intro k H;refine⟨O.used_lt k (qX hf k H),λZ=>?_⟩;rcases (c0 k).1 Z with Z|Z
     ·obtain⟨b',X,rfl⟩:=CL.1 Z;have cc:=O.box b' (a4 b' X);rcases H with H|H|⟨b2,cw,a1,e2⟩|⟨z,hz,H⟩
      ·exact cc.1 H
      ·exact cc.2 H
      ·have:=O.inj b2 b' a1 (a4 b' X) e2;subst this;simp only[BR,BY]at ba;have:=ba b2 cw;rw[Bool.not_eq_true,BY]at this;have:=this b2 X;simp at this
      ·obtain⟨l,hl,ho⟩:=hf z hz;exact (O.ownb z.1 z.2 l hl ho _ H).2.2 b' (a4 b' X) rfl
     ·obtain⟨z,hz,Y⟩:=fV.1 Z;obtain⟨l,hl,ho⟩:=hk z hz;have a5:=O.ownb z.1 z.2 l hl ho k Y;rcases H with H|H|⟨b2,cw,a1,e2⟩|⟨z',d4,H⟩
      ·exact a5.1 H
      ·exact a5.2.1 H
      ·exact a5.2.2 b2 a1 e2
      ·obtain⟨l',f3,f0⟩:=hf z' d4;obtain⟨e1,e2⟩:=O.sep z.1 z.2 l z'.1 z'.2 l' hl ho f3 f0 k Y H;exact nl d5 z' d4 (by rw[show z'=z from C8 e1.symm e2.symm];exact hz)
    have ex:b0.flatten.Nodup:=bm.2 λk=>by
     rw[a3 k];have h5:=bm.1 (gA O b4 hk) k;have h6:(g.lend.map W0.β).count k<=1:=by
      exact Bi List.count_le_length (by rw[B5];exact J)
     by_cases h7:k∈g.lend.map W0.β
     ·have:(aS W0 g.kill).count k=0:=BS.2 λZ=>by
       obtain⟨b',X,e0⟩:=CL.1 h7;obtain⟨z,hz,Y⟩:=fV.1 Z;obtain⟨l,hl,ho⟩:=hk z hz;exact (O.ownb z.1 z.2 l hl ho k Y).2.2 b' (a4 b' X) e0
      omega
     ·have:(g.lend.map W0.β).count k=0:=BS.2 h7;omega
    have a9:=ad w (bi V W0 g.p g.frz) g.val vs b0 y (c2.mono (λ_ h=>h) a0) (λk H=>a0 k (ma hV k H)) ex hy;have cb:gp S0 d c.rs=true:=by
     unfold gp at I ⊢;split at I
     ·rcases b5 (B0+d) with e0|e0
      ·rw[e0];exact I
      ·exact absurd e0 (by have:=iA.2.1;omega)
     ·exact I
    refine a9.mono λe w' bx=>?_
    obtain⟨v,rfl,W1,a2,b9,d6,c1,_⟩:=yy (Γ:=Γ) hV O c5 hg hf hk a4 b4 d5 hE J bn a3 hd dd cb ec bx;refine⟨v,rfl,?_⟩;refine c3 W1 _ w' ?_ ?_
    ·have e1:=br (mb S0 c d ys g y) U0 st;rw[b1]at e1;rw[<- e1]at a2;subst b1;unfold mb at a2;simp only[br,BJ,Cp]at a2 ⊢;exact a2
    ·intro q j hb;subst hb;obtain⟨u,em,f2,et,i,off,p,E,e,ef,gg,eg,q1,q2,q3,q4⟩:=e5;have d1:=e4 true q j rfl rfl;have a6:g.lend=[]:=bn.resolve_right (by rw[d1];simp);simp only[oi,AV,BR]at cu;obtain⟨⟨⟨e7,cy⟩,bl⟩,bb⟩:=cu;have d2:q≠d:=λe0=>by rw[e0]at bl;simp at bl
     have cx:q≠B0+d:=λe0=>by rw[e0]at bb;simp at bb
     have e6:(q,j)∉g.kill:=λZ=>by
      have:=BY.1 e7 _ Z;simp[hX]at this
     have f1:(q,j)∉g.frz:=λZ=>by
      have:=BY.1 cy _ Z;simp[hX]at this
     have f4:TMP≠d:=by have:=hV.nt;have:=iA.1;omega
     have ej:TMP≠B0+d:=by have:=iA.2.1;omega
     have hL:=d6 q j d2 cx (by rw[a6];simp) f1 e6;rw[q1]at hL;have hC:=b9 q d2 cx (by rw[a6];simp);have e1:=br (mb S0 c d ys g y) U0 st;rw[b1]at e1;have f5:gg<w.heap.size:=O.own_lt q1 trivial gg q3;have en:gg∉aS W0 g.kill:=λZ=>by
      obtain⟨z,hz,Y⟩:=fV.1 Z;obtain⟨l,hl,ho⟩:=hk z hz;obtain⟨e1,e2⟩:=O.sep z.1 z.2 l q j _ hl ho q1 trivial gg Y q3;exact e6 (by rw[show (q,j)=z from C8 e1.symm e2.symm];exact hz)
     have c4:w'.cell? ⟨gg,i*e.cells+off,none⟩=some u:=by
      rw[kj (c1 gg f5 en (by rw[a6];simp))];exact q4
     have ev:gg∈W1.bs q j:=by
      have h9:=a2.leaf q j _ _ hL (by rw[hC];exact q2);obtain⟨_,f7,f6,_,ed,_⟩:=h9;rw[ed];simp[BV]
     refine⟨u,by rw[b9 TMP f4 ej (by rw[a6];simp)];exact em,f2,et,i,off,p,E,e,ef,gg,eg,?_,by rw[hC];exact q2,ev,c4⟩;have b3:=hL;rw[<- e1]at b3;subst b1;unfold mb at b3;simp only[br,BJ,Cp]at b3 ⊢;exact b3
  ·cases h
 ·cases h
end
section
variable {P:Program} {V:Env} {Γ:List Ctr} {T:TypeId->TI} {st:St} {o:Oper} {R:Type} {κ:Upd->Option R} {r:R}
theorem nE {W:Wit}{a:Act}{w:World}(h:an P V W st a w):∀ (l:List Operand),gE P V W st w (l.map (ar st)) (l.map a.eval)
 |[]=>rfl
 |x::l=>by
  obtain⟨u,z,y⟩:=cC h x;exact⟨a.eval x,l.map a.eval,u,rfl,z,y,nE h l⟩
theorem mX {W:Wit}{w:World}:∀ {xs y:List (aG×List Leaf)} {z us:List Value},gE P V W st w xs z->gE P V W st w y us->gE P V W st w (xs++y) (z++us)
 |[],_,_,_,O,u=>by rw[show _=_ from O];exact u
 |x::xs,_,_,_,⟨v,J,I,e,H,M,X⟩,u=>by
  subst e;exact⟨v,_,I,rfl,H,M,mX X u⟩
theorem qp {a:Act}{w:World}{c:Call}{x:Operand}{f:FuncId}{caps:Array Value}(z:o.op=.call c)(J:c.callee=.value x)(M:a.eval x=.func (.func f) #[] caps)(I:gv P f){next:Act->World->Prop}{Q:Exit->Act->World->Prop}
  (u:Calls P f (c.args.map a.eval++caps) w (λe H=>∃ v,e=.returned v/\next (a.put o.dst v) H)):o.wp P a w next Q:=by
 unfold Oper.wp;have y:(execOp a.eval o).run P w=.ok (.enter f (c.args.map a.eval++caps)) w:=by
  have:=I (c.args.map a.eval++caps) w;simp[execOp,z,resolve,J,M,Deferred.ofValue,invoke,this]
 rw[y,Oper.upon_enter];refine u.mono λe H=>?_
 rintro⟨v,rfl,hn⟩;exact hn
theorem kR {p:Bool}:∀ {b:Ty} {x:b.den},b.flat=true->aq p b x=cr p b x
 |.int _,_,_=>rfl
 |.bool,_,_=>rfl
 |.str,_,_=>rfl
 |.unit,_,_=>rfl
 |.hdr,_,_=>rfl
 |.pair a b,x,h=>by
  simp only[Ty.flat,AV]at h;simp only[aq,cr,kR h.1,kR h.2]
 |.list _ _ _,_,h=>by simp[Ty.flat]at h
theorem q8 (hV:ax V){W:Wit}{a:Act}{w:World}(h:an P V W st a w):∀ (O:List Ty) (xs:List (aG×List Leaf)) (X:List Value) (x:Tup O),gE P V W st w xs X->ip st O xs=some x ->
  rL w (λk=>k<w.heap.size) O x X
 |[],[],X,_,hx,_=>hx
 |[],_::_,_,_,_,u=>by simp[ip]at u
 |_::_,[],_,_,_,u=>by simp[ip]at u
 |b::O,x::xs,X,z,⟨v,J,cs,e,Z,hl,H⟩,u=>by
  subst e;simp only[ip]at u;cases M:decide (x.1=be b.isAgg) with
  |false=>simp[M]at u
  |true =>
   simp only[M,cond_true]at u;have M:=of_decide_eq_true M;rw[M]at Z;split at u
   ·rename_i p y hy;simp only[AU]at u;obtain⟨t,ht,rfl⟩:=u;have Y:=ea h hl hy;refine⟨v,cs,J,rfl,gf Z,Y.mono (λk I=>?_),q8 hV h O xs J t H ht⟩;rcases I with (I|⟨_,I⟩)|⟨z,hz,I⟩
    ·exact (h.nwlt k I).1
    ·exact Bk (hV.ro k I).1 h.size
    ·obtain⟨l,h1,h2⟩:=dU hl hz;exact h.own_lt h1 h2 k I
   ·cases u
theorem xo (hV:ax V)(hΓ:∀ c∈Γ,bT P c)(J:bH V o){c:Call}{f:Operand}(Y:o.op=.call c)(hc:c.callee=.value f)
  (h:act Γ T o st κ=some r):bR P V o st κ r:=by
 simp only[act,wrU,Y,hc]at h;split at h
 ·cases h
 ·rename_i d X;split at h
  ·rename_i g H Z;obtain⟨he,U,hU,z⟩:=uE hV hΓ (J d X).1 (J d X).2 h;refine⟨U,hU,λW a w I next Q hn=>?_⟩;obtain⟨M,_,_,_,_⟩:=bk I f (by rw[Z];simp);rw[Z]at M;have O:=mX (nE I c.args.toList) (rT (pJ (P:=P) (V:=V) (W:=W) (w:=w) H M.2));rw[Ch]at O;have:=z W a w I _ O;have e:(c.args.toList.map a.eval++H.map λb=>Value.pointer (some ⟨W.β b,0,none⟩)).toArray=c.args.map a.eval++(H.map λb=>Value.pointer (some ⟨W.β b,0,none⟩)).toArray:=by
    apply C4;simp
   rw[e]at this;refine qp Y hc M.1 he (this.mono λe w'=>?_);rintro⟨v,rfl,hrel⟩;refine⟨v,rfl,hn _ _ ?_⟩;rw[X];exact hrel
  ·rename_i g H Z;obtain⟨he,U,hU,z⟩:=uE hV hΓ (J d X).1 (J d X).2 h;refine⟨U,hU,λW a w I next Q hn=>?_⟩;obtain⟨M,_,_,_,_⟩:=bk I f (by rw[Z];simp);rw[Z]at M;obtain⟨us,M,a0,a1⟩:=M;have O:=mX (nE I c.args.toList) (rT (qn (st:=st) a0 a1));rw[Ch]at O;have:=z W a w I _ O;have e:(c.args.toList.map a.eval++us).toArray=c.args.map a.eval++us.toArray:=by
    apply C4;simp
   rw[e]at this;refine qp Y hc M he (this.mono λe w'=>?_);rintro⟨v,rfl,hrel⟩;refine⟨v,rfl,hn _ _ ?_⟩;rw[X];exact hrel
  ·rename_i As B φ Z;cases hb:B.flat with
   |false=>simp[hb]at h
   |true =>
    simp only[hb,cond_true]at h;split at h
    ·rename_i x hx;obtain⟨y,hy,h⟩:=BX.1 h;simp only[X]at h;refine⟨_,h,λW a w I next Q hn=>?_⟩;obtain⟨M,_,_,_,_⟩:=bk I f (by rw[Z];simp);rw[Z]at M;obtain⟨f',H,M,he,z⟩:=M;have a3:=q8 hV I As _ _ x (nE I c.args.toList) hx;have:=z w I.size I.keep x _ y a3 hy;have e:(c.args.toList.map a.eval).toArray=c.args.map a.eval:=by apply C4;simp
     rw[e]at this;refine qp Y hc M he (this.mono λe w'=>?_);rintro⟨u,cs,rfl,hvo,hrd,hbelow⟩;refine⟨u,rfl,hn _ _ ?_⟩;rw[X];have a4:=I.below hV hbelow;have a2:=eE (P:=P) (V:=V) (W:=W) (st:=st) (G:=λ_=>False) (p:=false) (λ_ h=>h.elim) hrd;rw[<- kR hb]at a2;exact a4.putLs hV d (J d X).1 (J d X).2 _ _ _ u cs (BF _) (jK hvo) a2
    ·cases h
  ·cases h
theorem AH (H:ax V)(I:TOk P T)(hΓ:∀ c∈Γ,bT P c)(z:bH V o)(h:act Γ T o st κ=some r):bR P V o st κ r:=by
 cases u:o.op with
 |move x=>exact xD H z u h
 |assign x=>exact uV H z u h
 |pick c x y=>exact xE H z u h
 |alloc t=>exact xg H I z u h
 |box t x=>exact zM H z u h
 |build t M=>exact wk H I z u h
 |buildSlice t n M=>exact ql H I z u h
 |load t x=>exact xG H I z u h
 |store t x y=>exact xi H I u h
 |nilCheck x=>exact sg H z u h
 |binOp X t x y Y=>exact we H I z u h
 |unOp X t x=>exact xF H z u h
 |convert s t x=>exact tZ H I z u h
 |makeSlice t n c=>exact rF H I z u h
 |slice t x Z hi mx=>exact xm H I z u h
 |fieldAddr t x f=>exact rB H I z u h
 |field t x f=>exact wj H I z u h
 |indexAddr t x i=>exact rD H I z u h
 |index t x i=>exact wh H I z u h
 |extract x i=>exact tL H z u h
 |makeFunc fn first O=>exact si H z u h
 |call c =>
  cases J:c.callee with
  |value f=>exact xo H hΓ z u J h
  |builtin b =>
   cases b with
   |len=>exact yZ H I z u J h
   |append=>exact vE H I z u J h
   |min=>exact zN H z u J h
   |max=>exact zO H z u J h
   |_ =>
    simp only[act,wrU,u,J]at h;split at h <;> cases h
  |_ =>
   simp only[act,wrU,u,J]at h;split at h <;> cases h
 |_=>simp[act,wrU,u]at h
end
def ck:Ty->Ty->Bool
 |.pair a b,z=>match z with
  |.pair c d=>ck a c&&ck b d
  |_=>false
 |.list m E e,z=>match z with
  |.list n u r=>decide (E=u)&&(bif n then m&&ck e r else decide (e.sh=r.sh))
  |_=>false
 |a,z=>decide (a=z)
theorem fH:∀ {a b:Ty},ck a b=true->a.sh=b.sh
 |.pair a b,z,h=>by
  cases z with
  |pair c d =>
   simp only[ck,AV]at h;simp only[Ty.sh,fH h.1,fH h.2]
  |_=>simp[ck]at h
 |.list m E e,z,h=>by
  cases z with
  |list n u r =>
   simp only[ck,AV,decide_eq_true_eq]at h;obtain⟨rfl,h⟩:=h;cases n with
   |true =>
    simp only[cond_true,AV]at h;simp only[Ty.sh,fH h.2]
   |false =>
    simp only[cond_false,decide_eq_true_eq]at h;simp only[Ty.sh,h]
  |_=>simp[ck]at h
 |.int _,z,h=>by simp only[ck,decide_eq_true_eq]at h;rw[h]
 |.bool,z,h=>by simp only[ck,decide_eq_true_eq]at h;rw[h]
 |.str,z,h=>by simp only[ck,decide_eq_true_eq]at h;rw[h]
 |.unit,z,h=>by simp only[ck,decide_eq_true_eq]at h;rw[h]
 |.hdr,z,h=>by simp only[ck,decide_eq_true_eq]at h;rw[h]
theorem yA {a b:Ty}(h:ck a b=true):a.isAgg=b.isAgg:=by
 cases a with
 |pair c d=>cases b <;> first|rfl|(simp[ck]at h)
 |list m E e=>cases b <;> first|rfl|(simp[ck]at h)
 |_=>simp only[ck,decide_eq_true_eq]at h;rw[h]
theorem nV {f g h:Nat->List Nat}{k:Nat}:∀ {l:List Nat},(∀ j∈l,(f j).count k=(g j).count k+(h j).count k)->(l.flatMap f).count k=(l.flatMap g).count k+(l.flatMap h).count k
 |[],_=>rfl
 |a::l,H=>by
  have y:=H a (BP ..);have u:=nV (l:=l) (λj r=>H j (BI _ r));simp only[Bo,AY];omega
theorem Mx.thin {w:World}{G:Nat->Prop}:∀ {a b:Ty} {pos:Nat} {x:a.den} {y:b.den} {cs:List Value} {bs:List Nat},ck a b=true->HEq x y->Mx w G a none pos x cs bs ->
  ∃ b1 b2:List Nat,(∀ k,bs.count k=b1.count k+b2.count k)/\Mx w (λk=>G k\/k∈b2) b none pos y cs b1
 |.pair a b,z,pos,x,y,cs,bs,h,r,H=>by
  cases z with
  |pair c d =>
   simp only[ck,AV]at h;obtain⟨c1,c2,ba,bb,rfl,rfl,h1,h2⟩:=H;obtain⟨h3,h4⟩:=rZ (je (fH h.1)) (je (fH h.2)) r;obtain⟨p1,p2,R,X⟩:=Mx.thin h.1 h3 h1;obtain⟨r1,r2,s1,s2⟩:=Mx.thin h.2 h4 h2;refine⟨p1++r1,p2++r2,λk=>?_,c1,c2,p1,r1,rfl,rfl,X.mono (λk M=>M.imp id (BC _)),?_⟩
   ·have:=R k;have:=s1 k;simp only[AY];omega
   ·have:=s2.mono (G':=λk=>G k\/k∈p2++r2) (λk M=>M.imp id (AX _))
    rwa [gS (fH h.1)]at this
  |_=>simp[ck]at h
 |.list m E e,z,pos,xs,Z,cs,bs,h,r,H=>by
  have a2:=fH h;cases z with
  |list n E' e' =>
   simp only[ck,AV,decide_eq_true_eq]at h;obtain⟨rfl,h⟩:=h;cases n with
   |true =>
    simp only[cond_true,AV]at h;obtain⟨rfl,h⟩:=h;rw[bB (by simp)]at H;obtain⟨v,rfl,I,a1,h1,h2,h3⟩:=H;obtain⟨h4,h5⟩:=r8 (je (fH h)) r;have a0:∀ j,∃ q:List Nat×List Nat,j<Z.length->(∀ k,(a1 j).count k=q.1.count k+q.2.count k) /\
      ∀ y,Z[j]?=some y->∃ c,Mx w (λk=>G k\/k∈q.2) e' none 0 y c q.1/\∀ i u,c[i]?=some u->I[j*e'.cells+i]?=some u:=by
     intro j;by_cases J:j<Z.length
     ·have Y:=BL J;obtain⟨x,hx,r⟩:=h5 j _ Y;obtain⟨c,hm,hc⟩:=h3 j x hx;obtain⟨b1,b2,R,X⟩:=Mx.thin h r hm;refine⟨(b1,b2),λ_=>⟨R,λy O=>⟨c,?_,λi u hi=>?_⟩⟩⟩
      ·rw[Y]at O;simp only[AT]at O;subst O;exact X
      ·rw[<- gS (fH h)];exact hc i u hi
     ·exact⟨([],[]),λh=>absurd h J⟩
    obtain⟨f,hf⟩:=Classical.skolem.1 a0;refine⟨v.ownBlock.toList++(BH Z.length).flatMap (λj=>(f j).1),(BH Z.length).flatMap (λj=>(f j).2),λk=>?_,?_⟩
    ·rw[h2,AY,AY,h4,nV (g:=λj=>(f j).1) (h:=λj=>(f j).2) (λj J=>(hf j (CS.1 J)).1 k)];omega
    ·rw[bB (by simp)];refine⟨v,rfl,I,λj=>(f j).1,by rw[<- h4,<- gS (fH h)];exact h1,rfl,λj y O=>?_⟩;have J:=(AW.1 O).1;obtain⟨c,R,X⟩:=(hf j J).2 y O;exact⟨c,R.mono (λk M=>M.imp id (λM=>dG.2 ⟨j,J,M⟩)),X⟩
   |false =>
    refine⟨[],bs,λk=>by simp,?_⟩;rw[cg];exact⟨rfl,Rd.flags a2 r (Mx.rd (S:=λk=>G k\/k∈bs) (λ_=>.inl) (λ_=>.inr) H)⟩
  |_=>simp[ck]at h
 |.int _,z,pos,x,y,cs,bs,h,r,H=>by
  simp only[ck,decide_eq_true_eq]at h;subst h;cases r;exact⟨bs,[],λk=>by simp,H.mono (λ_=>.inl)⟩
 |.bool,z,pos,x,y,cs,bs,h,r,H=>by
  simp only[ck,decide_eq_true_eq]at h;subst h;cases r;exact⟨bs,[],λk=>by simp,H.mono (λ_=>.inl)⟩
 |.str,z,pos,x,y,cs,bs,h,r,H=>by
  simp only[ck,decide_eq_true_eq]at h;subst h;cases r;exact⟨bs,[],λk=>by simp,H.mono (λ_=>.inl)⟩
 |.unit,z,pos,x,y,cs,bs,h,r,H=>by
  simp only[ck,decide_eq_true_eq]at h;subst h;cases r;exact⟨bs,[],λk=>by simp,H.mono (λ_=>.inl)⟩
 |.hdr,z,pos,x,y,cs,bs,h,r,H=>by
  simp only[ck,decide_eq_true_eq]at h;subst h;cases r;exact⟨bs,[],λk=>by simp,H.mono (λ_=>.inl)⟩
theorem ja.mono {w:World}{G G':Nat->Prop}(z:∀ k,G k->G' k){a:Ty}{x:a.den}{ptr:Bool}{v:Value}{bs:List Nat}(h:ja w G a x ptr v bs):ja w G' a x ptr v bs:=by
 unfold ja at h ⊢;split at h
 ·rename_i y;rw[if_pos y];obtain⟨g,c,E,I,u,r,H,J⟩:=h;exact⟨g,c,E,I,u,r,H.mono z,J⟩
 ·rename_i y;rw[if_neg y];obtain⟨M,u,r⟩:=h;exact⟨M,u,r.mono z⟩
theorem bF.mono {w:World}{G G':Nat->Prop}(y:∀ k,G k->G' k):∀ {ps:List PK} {o:ag ps} {z:List Value} {bs:List (List Nat)},bF w G ps o z bs->bF w G' ps o z bs
 |.io _::_,_,_::_,_::_,⟨u,r⟩=>⟨u.mono y,bF.mono y r⟩
 |.iop _::_,_,_::_,_::_,⟨u,r⟩=>⟨u.mono y,bF.mono y r⟩
 |.rd _::_,_,_::_,_::_,⟨u,r⟩=>⟨u,bF.mono y r⟩
 |.own _::_,_,_::_,_::_,⟨u,r⟩=>⟨u,bF.mono y r⟩
 |.rref _::_,_,_::_,_::_,⟨u,r⟩=>⟨u,bF.mono y r⟩
 |.rref2 _::_,_,_::_,_::_,⟨u,r⟩=>⟨u,bF.mono y r⟩
 |.fn _ _::_,_,_::_,_::_,⟨u,r⟩=>⟨u,bF.mono y r⟩
 |.clo _ _::_,_,_::_,_::_,⟨u,r⟩=>⟨u,bF.mono y r⟩
 |.hol _ _ _::_,_,_::_,_::_,⟨u,r⟩=>⟨u,bF.mono y r⟩
 |[],_,[],[],_=>trivial
 |[],_,_::_,_,h=>by simp[bF]at h
 |[],_,[],_::_,h=>by simp[bF]at h
 |p::_,_,[],_,h=>by cases p <;> exact h.elim
 |p::_,_,_::_,[],h=>by cases p <;> exact h.elim
theorem pH.mono {w:World}{G G' ro ro':Nat->Prop}(I:∀ k,G k->G' k)(R:∀ k,G k\/ro k->G' k\/ro' k):∀ {r:RK} {y:r.den} {v:Value} {bs:List Nat},pH w G ro r y v bs->pH w G' ro' r y v bs
 |.v _,_,_,_,⟨H,z,u⟩=>⟨H,z,u.mono I⟩
 |.bv _,_,_,_,⟨e,H,z,u⟩=>⟨e,H,z,u.mono R⟩
 |.box _,_,_,_,⟨g,c,E,M,z,u,J,O⟩=>⟨g,c,E,M,z,u,J.mono I,O⟩
theorem ge.mono {w:World}{G G' ro ro':Nat->Prop}(J:∀ k,G k->G' k)(M:∀ k,G k\/ro k->G' k\/ro' k):∀ {H:List RK} {y:ah H} {us:List Value} {z:List (List Nat)},ge w G ro H y us z->ge w G' ro' H y us z
 |[],_,_,_,h=>h
 |_::_,_,_,_,⟨u,I,b,r,Y,X,R,O⟩=>⟨u,I,b,r,Y,X,R.mono J M,ge.mono J M O⟩
theorem bT.thin {P:Program}{f:FuncId}{a a':Ty}{ps:List PK}{rs:List RK}{fr:Bool}{a6:ab (.own a::ps)->Option (ah rs×ag (.own a::ps))}{X:ab (.own a'::ps)->Option (ah rs×ag (.own a'::ps))}
  (h:bT P ⟨f,.own a::ps,rs,fr,a6⟩) (ht:ck a' a=true) (cv:a'.den->a.den) (c1:∀ x,HEq x (cv x)) (hd:∀ x,X x=a6 (cv x.1,x.2)):bT P ⟨f,.own a'::ps,rs,fr,X⟩:=by
 refine⟨h.1,λw ro x vs c3 y a1 a4 ad hy=>?_⟩;obtain⟨x1,xr⟩:=x;obtain⟨v,b5,b,u,rfl,rfl,⟨cs,bb,hm⟩,a2⟩:=a1;obtain⟨R,M,Y,c2⟩:=Mx.thin ht (c1 x1) hm;have Z:=hm.lt;rw[bm]at ad;have O:∀ k,R.count k+M.count k+u.flatten.count k<=1:=λk=>by
  have:=ad k;rw[BQ,AY,Y k]at this;exact this
 have hb:∀ k,k∈b<->k∈R\/k∈M:=λk=>by
  rw[<- BD,<- BD,<- BD,Y k];omega
 have z:∀ k,k∈(R::u).flatten->k∈(b::u).flatten:=λk r=>by
  rw[BQ,BE]at r ⊢;exact r.imp (λh=>(hb k).2 (.inl h)) id
 have a5:∀ k,k∈M->k∉(R::u).flatten:=λk r H=>by
  have h1:=O k;have h2:=BD.2 r;have h3:=BD.2 H;rw[BQ,AY]at h3;omega
 have b9:∀ k,k∈M->k∈(b::u).flatten:=λk r=>by
  rw[BQ,BE];exact .inl ((hb k).2 (.inr r))
 have J:cO P w (λk=>ro k\/k∈M) (λk=>k<w.heap.size/\k∉(R::u).flatten) (.own a::ps) (cv x1,xr) (v::b5) (R::u) :=
  ⟨v,b5,R,u,rfl,rfl,⟨cs,by rw[<- yA ht];exact bb,c2⟩,a2.mono (λ_=>.inl) (λk r=>⟨r.1,λh=>r.2 (z k h)⟩)⟩
 refine (h.2 w _ _ _ _ y J (λk r=>?_) ?_ (by rw[<- hy];exact (hd (x1,xr)).symm)).mono λe w' hp=>?_
 ·rcases r with r|r
  ·exact⟨(a4 k r).1,λh=>(a4 k r).2 (z k h)⟩
  ·exact⟨Z k ((hb k).2 (.inr r)),a5 k r⟩
 ·rw[bm];intro k;have:=O k;show ((R::u).flatten).count k<=1;rw[BQ,AY];omega
 ·obtain⟨v',us,N,a0,bn,h1,b0,a9,bl,ba,c0,bx,hN,hO,a3,b4,I⟩:=hp;have hG:∀ k,(N k\/fr=false/\(ro k\/k∈M))->((N k\/k∈M)\/fr=false/\ro k):=λk r=>by
   rcases r with r|⟨r,H|H⟩
   ·exact .inl (.inl r)
   ·exact .inr ⟨r,H⟩
   ·exact .inl (.inr H)
  refine⟨v',us,λk=>N k\/k∈M,a0,bn,h1,b0,a9,bl,ba,c0,λk r hn=>bx k r (λh=>hn (z k h)),λk r=>?_,?_,?_,b4,λk r=>?_⟩
  ·rcases r with r|r
   ·exact⟨(hN k r).1,(hN k r).2.imp id (z k)⟩
   ·exact⟨Bk (Z k ((hb k).2 (.inr r))) a9,.inr (b9 k r)⟩
  ·match a0,hO with
   |b3::a0,hO=>exact⟨hO.1,bF.mono hG hO.2⟩
   |[],hO=>exact hO.elim
  ·refine ge.mono hG (λk r=>?_) a3;rcases r with r|r|r
   ·exact .inl (hG k r)
   ·exact .inr r
   ·exact .inl (.inl (.inr r))
  ·obtain⟨h5,h6⟩:=I k r;refine⟨⟨h5.1,h5.2.imp id (z k)⟩,λh=>h.elim h6 (λh=>?_)⟩;rcases h5.2 with h7|h7
   ·have:=Z k ((hb k).2 (.inr h));omega
   ·exact a5 k h h7
end Go.Proofs.YtaegajachoklkaaGreatEv
