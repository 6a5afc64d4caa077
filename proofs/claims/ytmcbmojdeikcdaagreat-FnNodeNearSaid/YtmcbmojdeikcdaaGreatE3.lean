/- One operation: boxes made, boxes written. -/
import Derived.Test.YtmcbmojdeikcdaaGreatE0
import Derived.Deep.MidRow
import Derived.Great.FillDense
set_option linter.unusedVariables false
set_option linter.unusedSimpArgs false
open Array renaming toArray_toList->Ad,length_toList->Ah,getElem?_toList->BV,toList_append->Bc,size_append->Bk,toList_map->Bt,ext'->B8
open Bool renaming and_eq_true->AC,not_eq_true'->AX,or_eq_false_iff->Ba,or_eq_true->B3
open Go.Addr.mk renaming injEq->BI
open Go.Builtin renaming append_->Ai,firstCells->BE,lenOf->BJ,zeroCells->Bp
open Go.Instr renaming sliceBounds->Bn,storeAt->CA
open Go.Result renaming andThen_ok->BG
open Go.Sem renaming run_bind->Bj
open Go.Value renaming ownBlock->Ac
open Go.Value.slice renaming injEq->Ag
open Go.World renaming setCells->BW,alloc_eq->BZ,drew_eq->Bd,freeze->Bl,alloc->Bx,drew->B6
open Iff renaming rfl->BF
open Int renaming toNat_natCast->Bi
open List renaming getElem?_eq_some_iff->AD,mem_append_right->AE,count_append->AF,getElem?_append_right->AG,getElem?_append_left->AH,mem_append_left->AJ,count_pos_iff->AK,mem_append->AM,range->AO,mem_cons_of_mem->AP,append_assoc->AQ,length_append->AS,getElem?_eq_getElem->AT,eq_nil_of_length_eq_zero->AV,mem_cons_self->AW,flatten_cons->AY,count_eq_zero->AZ,append_nil->Aa,length_take->Ab,any_eq_false->Af,getElem?_take->An,getD_eq_getElem?_getD->Ao,nodup_append->Ap,replicate->Ar,nodup_cons->At,length_set->Au,flatMap_cons->Aw,getElem?_set_ne->Ax,mem_cons->A0,getElem?_drop->A1,getElem?_cons_zero->A2,getElem?_replicate->A3,size_toArray->A4,getElem?_set_self->A5,any_cons->A8,length_nil->A9,length_map->BA,length_drop->BK,length_cons->BL,mem_map->BQ,count_cons->BR,singleton_append->BT,length_replicate->BU,mem_range->BX,all_cons->Be,map_nil->Bh,map_map->Bm,isEmpty_iff->Bq,flatMap_map->Br,cons_append->Bu,length->By,map_append->Bz,nil_append->B4,nodup_nil->B5,take_left->B7,map_cons->CB
open List.cons renaming injEq->BB
open Nat renaming eq_of_beq_eq_true->AI,lt_succ_self->AL,mul_le_mul_right->AN,beq->AR,le_refl->AU,add_zero->Aj,succ_mul->Ak,lt_of_lt_of_le->Am,le_trans->Aq,le_of_ble_eq_true->Av,zero_add->Az,ble_eq_true_of_le->A6,le_add_right->A7,mul_le_mul_left->BC,blt_eq->BD,add_mul->BH,le_of_eq->BM,ble->BN,mul_comm->BO,sub_zero->BP,mul_one->BY,blt->Bb,eq_zero_or_pos->Bg,zero_mul->Bo,mod_eq_of_lt->Bs,le_succ->Bv,zero_le->Bw,mul_add_mod->B1,add_assoc->B9
open Ne renaming symm->Ay
open Option renaming map_eq_some_iff->AB,bind_eq_some_iff->Ae,map_none->BS,toList_some->Bf,map_some->B2
open Option.some renaming injEq->AA
open Prod renaming ext->CC
open Prod.mk renaming injEq->Al
namespace Go.Proofs.YtmcbmojdeikcdaaGreatEv
open Go Go.RowKit
section
variable {P:Program} {V:Env} {Γ:List Ctr} {T:TypeId->TI} {st:St} {o:Oper} {R:Type} {κ:Upd->Option R} {r:R}
theorem lX {q q':Nat}(h:q≠q')(c c':bS)(st:St):ac [(q,c)] (ac [(q',c')] st)=ac [(q',c')] (ac [(q,c)] st):=by
 funext k;rcases am q k c (ac [(q',c')] st) with ⟨rfl,e⟩|⟨h1,e⟩
 ·rw[e,aJ h,bk]
 ·rw[e];rcases am q' k c' st with ⟨rfl,e'⟩|⟨h2,e'⟩
  ·rw[e',bk]
  ·rw[e',aJ h2,aJ h1]
theorem ao.boxed (hV:ax V){W:Wit}{a:Act}{w:World}(h:ao P V W st a w)(d:Nat)(hd:d<V.nt)(hfix:∀ x∈V.fixt,x.1≠d)(hoff:(st (B0+d)).sh=.off)(ls:List Leaf)
  (csd:List Value) (bsd:Nat->List Nat) (E:TypeId)
  (hl:ls.length=csd.length) (h1:∀ u∈csd,u.oneCell'=true)
  (hleaf:∀ (j:Nat) (l:Leaf) (u:Value),ls[j]?=some l->csd[j]?=some u->aK P V W st w (bsd j) l u)
  (hown:∀ (j:Nat) (l:Leaf),ls[j]?=some l->an l->∀ k∈bsd j,¬ W.nw k/\¬ V.prot k/\k<w.heap.size/\(∀ b,live st b->W.β b≠k) /\
   ∀ (r1 j1:Nat) (l1:Leaf),(st r1).ls[j1]?=some l1->an l1->k∉W.bs r1 j1)
  (hsep:∀ (j j':Nat) (l l':Leaf),ls[j]?=some l->an l->ls[j']?=some l'->an l'->∀ k,k∈bsd j->k∈bsd j'->j=j') :
  Rel P V (ac ((B0+d,⟨(st (B0+d)).ver+1,.agg,ls⟩)::[(d,⟨(st d).ver+1,.one,[.bp (B0+d) 0]⟩)]) st) (a.put (some d) (.pointer (some ⟨w.heap.size,0,none⟩))) (w.alloc (.cells csd.toArray E)):=by
 have hdB:d<B0:=Am hd hV.ntB;have hne:B0+d≠d:=by simp[B0]
 have hnl:¬ live st (B0+d):=by simp[live,hoff]
 have h2:=h.setBox hV (B0+d) (A7 _ _) ((st (B0+d)).ver+1) ls csd bsd w.heap.size E (w':=w.alloc (.cells csd.toArray E)) (AL _) (.inr ⟨hnl,AU _⟩)
  (heap_alloc_new w _) (λk hk _=>Go.heap_alloc_old w _ hk) (by simp) rfl rfl rfl hl h1 hleaf (λj l hj ho k hk=>by
   obtain⟨h3,h4,h5,h6,h7⟩:=hown j l hj ho k hk;exact⟨h3,h4,h5,h6,λr1 j1 l1 _=>h7 r1 j1 l1⟩) hsep
 rw[aP,lX hne];refine h2.putLs hV d hd hfix _ .one [.bp (B0+d) 0] _ [.pointer (some ⟨w.heap.size,0,none⟩)] ?_ rfl ⟨⟨⟨A7 _ _,by rw[bk],by simp⟩,id,rfl⟩,trivial⟩;rw[aJ (Ay hne)];exact AL _
theorem sS {t:TypeId}(hT:TOk P T)(hn:(T t).cells≠0)(w:World):∃ z cs,(zeroValue t).run P w=.ok z w/\z.cells=cs.toArray/\∀ (V:Env) (W:Wit) (st:St),aC P V W st w (T t).zero cs:=by
 have h:=hT t;cases ht:T t with
 |none=>rw[ht]at hn;exact absurd rfl hn
 |int k=>rw[ht]at h;exact⟨_,[.int k 0],fE h.2.2 w,rfl,λV W st=>⟨⟨rfl,id,rfl⟩,trivial⟩⟩
 |bool=>rw[ht]at h;exact⟨_,[.bool false],fE h.2.2 w,rfl,λV W st=>⟨⟨rfl,id,rfl⟩,trivial⟩⟩
 |str=>rw[ht]at h;exact⟨_,[.string ByteArray.empty],fE h.2.2 w,rfl,λV W st=>⟨⟨rfl,id,rfl⟩,trivial⟩⟩
 |slice E e b=>rw[ht]at h;exact⟨_,[.slice none 0 0],fE h.2.2.1 w,rfl,λV W st=>⟨⟨rfl,id,rfl⟩,trivial⟩⟩
 |struct a fl=>rw[ht]at h;exact⟨_,zeroCells a,fE h.2.2.1 w,rfl,λV W st=>ky a⟩
 |arr e n=>rw[ht]at h;exact⟨_,(Ar n (zeroCells e)).flatten,fE h.2.2.2 w,rfl,λV W st=>nl e n⟩
 |ptr=>rw[ht]at h;exact⟨_,[.pointer none],fE h.2.2 w,rfl,λV W st=>⟨⟨trivial,id,rfl⟩,trivial⟩⟩
 |fn=>rw[ht]at h;exact⟨_,[.nilFunc],fE h.2.2 w,rfl,λV W st=>⟨⟨trivial,id,rfl⟩,trivial⟩⟩
theorem vW (hV:ax V)(hT:TOk P T)(hok:bL V o){t:TypeId}(hop:o.op=.alloc t)(h:act Γ T o st κ=some r):bU P V o st κ r:=by
 simp only[act,wrU,hop]at h;split at h
 ·rename_i d hd;cases hb:decide ((st (B0+d)).sh=.off)&&!decide ((T t).cells=0) with
  |false=>simp[hb]at h
  |true =>
   simp only[hb,cond_true]at h;simp only[AC,decide_eq_true_eq,AX,decide_eq_false_iff_not]at hb;refine⟨_,h,λW a w hr next Q hn=>?_⟩;obtain⟨z,cs,hz,hc,hl⟩:=sS hT hb.2 w;have hl:=hl V W st;refine dA (v:=.pointer (some ⟨w.heap.size,0,none⟩)) (w':=w.alloc (.cells cs.toArray t)) ?_ ?_
   ·simp[execOp,hop,Instr.alloc,hz,newVar,newRow,hc]
   ·rw[hd];refine hn _ _ ?_;exact hr.boxed hV d (hok d hd).1 (hok d hd).2 hb.1 _ cs (λ_=>[]) t hl.length hl.one' (λj l u h1 h2=>(hl.at_ j l u h1 h2).1) (λ_ _ _ _ k hk=>by simp at hk) (λ_ _ _ _ _ _ _ _ k hk=>by simp at hk)
 ·cases h
theorem yz (hV:ax V)(hok:bL V o){t:TypeId}{x:Operand}(hop:o.op=.box t x)(h:act Γ T o st κ=some r):bU P V o st κ r:=by
 simp only[act,wrU,hop]at h;split at h
 ·rename_i d hd;cases hb:decide ((st (B0+d)).sh=.off)&&decide ((ar st x).2.length=(T t).cells)&&decide ((ar st x).1=bj (T t).agg)&&gw st (ar st x).2 with
  |false=>simp[hb]at h
  |true =>
   simp only[hb,cond_true]at h;simp only[AC,decide_eq_true_eq]at hb;obtain⟨⟨⟨hb1,hb2⟩,hb3⟩,hb4⟩:=hb;have hbox:∀ (W:Wit) (a:Act) (w:World) (cs:List Value),dJ (ar st x).1 (a.eval x) cs->aC P V W st w (ar st x).2 cs ->
     (execOp a.eval o).run P w=.ok (.value (.pointer (some ⟨w.heap.size,0,none⟩))) (w.alloc (.cells cs.toArray t)):=by
    intro W a w cs hs hl;rw[hb3]at hs;have hc:=gj hs hl.one';simp[execOp,hop,Instr.box,newVar,newRow,hc]
   cases hlent:qU st x with
   |true =>
    rw[hlent]at h;simp only[cond_true]at h;refine⟨_,h,λW a w hr next Q hn=>?_⟩;obtain⟨cs,hs,hl⟩:=cH hr x;refine dA (hbox W a w cs hs hl) ?_;rw[hd];refine hn _ _ ?_;exact hr.boxed hV d (hok d hd).1 (hok d hd).2 hb1 _ cs (λ_=>[]) t hl.length hl.one' (λj l u h1 h2=>(hl.at_ j l u h1 h2).1) (λ_ _ _ _ k hk=>by simp at hk) (λ_ _ _ _ _ _ _ _ k hk=>by simp at hk)
   |false =>
    rw[hlent]at h;simp only[cond_false]at h;refine⟨_,h,λW a w hr next Q hn=>?_⟩;obtain⟨cs,hs,hl⟩:=cH hr x;obtain⟨h1,h2,h3,h4,h5⟩:=nj hV hr hl hb4;have h6:=xC hV hr hl hb4;refine dA (hbox W a w cs hs hl) ?_;rw[hd];refine hn _ _ ?_;have:=h1.boxed hV d (hok d hd).1 (hok d hd).2 (by rw[(h6 _).1];exact hb1) _ cs (c9 W (ar st x).2) t h2 hl.one' h3 h4 h5;rw[<- bw]at this;exact this
 ·cases h
theorem iR (b:Nat)(E:TypeId):∀ (vs:List Value) (k o:Nat) (w:World) (cur:Array Value) {mk:Nat×Nat},w.heap[b]?=some (.cells cur E mk) ->
  (w.setCells b (o+k) vs).heap[b]?=some (.cells ((vs.zipIdx k).foldl (λcs (x:Value×Nat)=>cs.setIfInBounds (o+x.2) x.1) cur) E mk)
 |[],_,_,_,_,_,h=>h
 |v::vs,k,o,w,cur,mk,h=>by
  have:=iR b E vs (k+1) o (w.setCell ⟨b,o+k,none⟩ v) _ (by rw[setCell_eq_setRow w b (o+k) cur E mk v h];exact setRow_heap w b cur _ E mk h);simpa[BW,B9]using this
theorem ea (b:Nat):∀ (vs:List Value) (o:Nat) (w:World) (k:Nat),k≠b->(w.setCells b o vs).heap[k]?=w.heap[k]?
 |[],_,_,_,_=>rfl
 |v::vs,o,w,k,h=>by
  rw[BW,ea b vs (o+1) _ k h];exact heap_setCell_other w ⟨b,o,none⟩ k v h
theorem iS (b:Nat):∀ (vs:List Value) (o:Nat) (w:World),(w.setCells b o vs).os=w.os/\(w.setCells b o vs).tape=w.tape/\(w.setCells b o vs).output=w.output/\(w.setCells b o vs).heap.size=w.heap.size
 |[],_,_=>⟨rfl,rfl,rfl,rfl⟩
 |v::vs,o,w=>by
  obtain⟨h1,h2,h3,h4⟩:=iS b vs (o+1) (w.setCell ⟨b,o,none⟩ v);exact⟨h1,h2,h3,by rw[BW,h4];simp⟩
theorem lY {t:TypeId}{n:Nat}(hsz:bN P t n){w:World}{b off:Nat}{cur:List Value}{E:TypeId}{mk:Nat×Nat}(hb:w.heap[b]?=some (.cells cur.toArray E mk))(hmk:mk.2=0\/cur.length<=mk.1){v:Value}{cs:List Value}
  (hv:v.cells=cs.toArray) (hl:cs.length=n) (h1:∀ u∈cs,u.oneCell'=true) (hin:off+cs.length<=cur.length) :
  (CA t (.pointer (some ⟨b,off,none⟩)) v).run P w=.ok () (w.setCells b off cs):=by
 have hthere:∀ j,j<cs.length->(w.cell? ⟨b,off+j,none⟩).isSome=true:=by
  intro j hj;rw[cell_of_row w b _ _ E mk hb];simp;omega
 have h3:=run_storeCells_cells (P:=P) b off cs 0 w (λj hj=>hthere j hj) (λj hj=>pL hb (by simpa using hmk) (by simp;omega)) h1;have h4:=da hsz w;simp only[Aj]at h3;simp[CA,Instr.sureAddr,storeVar,h4,hv,hl,h3]
theorem rY (hV:ax V)(hT:TOk P T){t:TypeId}{x y:Operand}{b off:Nat}(hop:o.op=.store t x y)(hd:o.dst=none)(hx:one st x=.bp b off)
  (hlen:(ar st y).2.length=(T t).cells) (hsh:(ar st y).1=bj (T t).agg) (hn0:(T t).cells≠0) (hag:(st b).sh=.agg) (hoff:off+(ar st y).2.length<=(st b).ls.length) (hdis:gw st (ar st y).2=true)
  {W:Wit} {a:Act} {w:World} (hr:ao P V W st a w) :
  lH P V o st ((b,⟨(ac (mvU st (ar st y).2) st b).ver+1,.agg,iG (ac (mvU st (ar st y).2) st b).ls (dn st (ar st y).2) off⟩)::mvU st (ar st y).2) a w:=by
 intro next Q hn;obtain⟨cs,hs,hl⟩:=cH hr y;rw[hsh]at hs;have hc:=gj hs hl.one';obtain⟨h1,h2,h3,h4,h5⟩:=nj hV hr hl hdis;have h6:=xC hV hr hl hdis;obtain⟨hp,_,_,_⟩:=bu hr x (by rw[hx];simp);rw[hx]at hp;obtain⟨hB,_,hv⟩:=hp;have hnn:T t≠.none:=by intro e;rw[e]at hn0;exact hn0 rfl
 rcases hr.boxes b hB with ⟨h8,_⟩|⟨_,E,h8⟩
 ·rw[hag]at h8;cases h8
 ·have hlen2:=hl.length;have hlb:=hr.len b;have hlb':(ac (mvU st (ar st y).2) st b).ls.length=(W.cs b).length:=h1.len b;have hin:off+cs.length<=(W.cs b).length:=by omega
  have hrun:=lY (nk (hT t) hnn) h8 (.inl rfl) hc (by omega) hl.one' hin;refine oc (w':=w.setCells (W.β b) off cs) (by simp[execOp,hop,hv,hrun]) ?_;rw[hd];refine hn _ _ ?_;rw[aP];obtain⟨e1,e2,e3,e4⟩:=iS (W.β b) cs off w;have hnew:=iR (W.β b) E cs 0 off w _ h8;rw[j9 (W.cs b) cs off hin]at hnew;simp only[Aj]at hnew;have hlv:live (ac (mvU st (ar st y).2) st) b:=⟨hB,by rw[(h6 b).1];exact hag⟩;have htl:(dn st (ar st y).2).length=cs.length:=h2;have hcase:∀ (j:Nat) (l:Leaf),(iG (ac (mvU st (ar st y).2) st b).ls (dn st (ar st y).2) off)[j]?=some l ->
    (off<=j/\j<off+cs.length/\(dn st (ar st y).2)[j-off]?=some l)\/((j<off\/off+cs.length<=j)/\(ac (mvU st (ar st y).2) st b).ls[j]?=some l):=by
   intro j l hj;unfold iG at hj;rw[htl]at hj;by_cases h9:j<off
   ·rw[AQ,AH (by simp;omega),An,if_pos h9]at hj;exact .inr ⟨.inl h9,hj⟩
   ·by_cases h10:j<off+cs.length
    ·rw[AQ,AG (by simp;omega),AH (by simp;omega)]at hj;refine .inl ⟨by omega,h10,?_⟩;rw[<- hj];congr 1;simp;omega
    ·rw[AG (by simp;omega),A1]at hj;refine .inr ⟨.inr (by omega),?_⟩;rw[<- hj];congr 1;simp;omega
  have hcase2:∀ (j:Nat),((W.cs b).take off++cs++(W.cs b).drop (off+cs.length))[j]?=if off<=j/\j<off+cs.length then cs[j-off]? else (W.cs b)[j]?:=by
   intro j;by_cases h9:j<off
   ·rw[AQ,AH (by simp;omega),An,if_pos h9,if_neg (by omega)]
   ·by_cases h10:j<off+cs.length
    ·rw[AQ,AG (by simp;omega),AH (by simp;omega),if_pos ⟨by omega,h10⟩];congr 1;simp;omega
    ·rw[AG (by simp;omega),A1,if_neg (by omega)];congr 1;simp;omega
  refine⟨_,h1.setBox hV b hB _ _ ((W.cs b).take off++cs++(W.cs b).drop (off+cs.length)) (λj=>if off<=j/\j<off+cs.length then c9 W (ar st y).2 (j-off) else W.bs b j) (W.β b) E
   (AL _) (.inl ⟨hlv,rfl⟩) hnew (λk _ hk=>ea (W.β b) cs off w k hk) (BM e4.symm) e1 e2 e3 ?_ ?_ ?_ ?_ ?_⟩
  ·simp only[iG,AS,Ab,BK];omega
  ·intro u hu;simp only[AM]at hu;rcases hu with (hu|hu)|hu
   ·exact hr.one b u (List.mem_of_mem_take hu)
   ·exact hl.one' u hu
   ·exact hr.one b u (List.mem_of_mem_drop hu)
  ·intro j l u hj hu;rw[hcase2]at hu;rcases hcase j l hj with ⟨h9,h10,h11⟩|⟨h9,h11⟩
   ·rw[if_pos ⟨h9,h10⟩]at hu;simp only[if_pos (⟨h9,h10⟩:off<=j/\j<off+cs.length)];exact h3 _ l u h11 hu
   ·have hneg:¬ (off<=j/\j<off+cs.length):=by omega
    rw[if_neg hneg]at hu;simp only[if_neg hneg];exact h1.leaf b j l u h11 hu
  ·intro j l hj ho k hk;rcases hcase j l hj with ⟨h9,h10,h11⟩|⟨h9,h11⟩
   ·simp only[if_pos (⟨h9,h10⟩:off<=j/\j<off+cs.length)]at hk;obtain⟨q1,q2,q3,q4,q5⟩:=h4 _ l h11 ho k hk;exact⟨q1,q2,q3,q4,λr1 j1 l1 _=>q5 r1 j1 l1⟩
   ·have hneg:¬ (off<=j/\j<off+cs.length):=by omega
    simp only[if_neg hneg]at hk;obtain⟨q1,q2,q3⟩:=h1.ownb b j l h11 ho k hk;exact⟨q1,q2,h1.own_lt h11 ho k hk,q3,λr1 j1 l1 hne hj1 ho1 hk1=>hne (h1.sep b j l r1 j1 l1 h11 ho hj1 ho1 k hk hk1).1.symm⟩
  ·intro j j' l l' hj ho hj' ho' k hk hk';rcases hcase j l hj with ⟨h9,h10,h11⟩|⟨h9,h11⟩ <;> rcases hcase j' l' hj' with ⟨h9',h10',h11'⟩|⟨h9',h11'⟩
   ·simp only[if_pos (⟨h9,h10⟩:off<=j/\j<off+cs.length)]at hk;simp only[if_pos (⟨h9',h10'⟩:off<=j'/\j'<off+cs.length)]at hk';have:=h5 _ _ l l' h11 ho h11' ho' k hk hk';omega
   ·have hneg:¬ (off<=j'/\j'<off+cs.length):=by omega
    simp only[if_pos (⟨h9,h10⟩:off<=j/\j<off+cs.length)]at hk;simp only[if_neg hneg]at hk';exact absurd hk' ((h4 _ l h11 ho k hk).2.2.2.2 b j' l' h11' ho')
   ·have hneg:¬ (off<=j/\j<off+cs.length):=by omega
    simp only[if_neg hneg]at hk;simp only[if_pos (⟨h9',h10'⟩:off<=j'/\j'<off+cs.length)]at hk';exact absurd hk ((h4 _ l' h11' ho' k hk').2.2.2.2 b j l h11 ho)
   ·have hneg:¬ (off<=j/\j<off+cs.length):=by omega
    have hneg':¬ (off<=j'/\j'<off+cs.length):=by omega
    simp only[if_neg hneg]at hk;simp only[if_neg hneg']at hk';exact (h1.sep b j l b j' l' h11 ho h11' ho' k hk hk').2
end
theorem bz {l:List Nat}:l.Nodup<->∀ k,l.count k<=1:=by
 induction l with
 |nil=>simp
 |cons a l ih =>
  rw[At,ih];constructor
  ·rintro⟨h1,h2⟩ k;rw[BR];by_cases hk:a=k
   ·subst hk;have:l.count a=0:=AZ.2 h1;simp[this]
   ·have:=h2 k;simp[hk,this]
  ·intro h;refine⟨λhm=>?_,λk=>?_⟩
   ·have h1:=h a;have h2:0<l.count a:=AK.2 hm;rw[BR]at h1;simp at h1;omega
   ·have:=h k;rw[BR]at this;omega
theorem oO {n:Nat}(bss:Nat->List Nat)(k:Nat):((AO n).flatMap bss).count k=((AO n).map λj=>(bss j).count k).sum:=by
 generalize AO n=l;induction l with
 |nil=>rfl
 |cons a l ih=>simp[AF,ih]
theorem jB {n i:Nat}(hi:i<n)(bss:Nat->List Nat)(b:List Nat)(k:Nat) :
  ((AO n).flatMap λj=>if j=i then b else bss j).count k+(bss i).count k=((AO n).flatMap bss).count k+b.count k:=by
 rw[oO,oO];induction n with
 |zero=>omega
 |succ n ih =>
  rw[List.range_succ];simp only[Bz,CB,Bh,List.sum_append,List.sum_cons,List.sum_nil];by_cases hn:i=n
  ·subst hn;have:(AO i).map (λj=>List.count k (if j=i then b else bss j))=(AO i).map λj=>(bss j).count k:=by
    refine List.map_congr_left λj hj=>?_
    rw[if_neg (by have:=BX.1 hj;omega)]
   rw[this,if_pos rfl];omega
  ·have:=ih (by omega);rw[if_neg (λe=>hn e.symm)];omega
theorem lZ {bs bs' K:List Nat}(hb:bs.Nodup)(hK:K.Nodup)(hd:∀ k∈K,k∉bs)(h:∀ k,bs'.count k<=bs.count k+K.count k):bs'.Nodup/\∀ k∈bs',k∈bs\/k∈K:=by
 rw[bz]at hb hK;refine⟨bz.2 λk=>?_,λk hk=>?_⟩
 ·have h1:=h k;have h2:=hb k;have h3:=hK k;by_cases hk:k∈K
  ·have:bs.count k=0:=AZ.2 (hd k hk);omega
  ·have:K.count k=0:=AZ.2 hk;omega
 ·have h1:=h k;have h2:0<bs'.count k:=AK.2 hk;by_cases h3:k∈bs
  ·exact .inl h3
  ·have:bs.count k=0:=AZ.2 h3;exact .inr (AK.1 (by omega))
theorem Mx.pos {w:World}{G:Nat->Prop}:∀ {a:Ty} {pos pos':Nat} {x:a.den} {cs:List Value} {bs:List Nat},Mx w G a none pos x cs bs->Mx w G a none pos' x cs bs
 |.int _,_,_,_,_,_,h=>h
 |.bool,_,_,_,_,_,h=>h
 |.str,_,_,_,_,_,h=>h
 |.unit,_,_,_,_,_,h=>h
 |.hdr,_,_,_,_,_,h=>h
 |.pair _ _,_,_,_,_,_,⟨c1,c2,b1,b2,e1,e2,h1,h2⟩=>⟨c1,c2,b1,b2,e1,e2,Mx.pos h1,Mx.pos h2⟩
 |.list m E e,_,_,_,_,_,H=>by
  cases m with
  |false=>rw[cn]at H ⊢;exact H
  |true=>rw[cd (by simp)]at H ⊢;exact H
section
variable {P:Program} {V:Env} {W:Wit} {st:St} {w w':World} {a:Act}
theorem Mx.scalar {G:Nat->Prop}{b:Ty}{hol:Option Nat}{pos:Nat}{x:b.den}{cs:List Value}{S:Nat->Prop}(hf:b.flat=true)(h:Rd w S b x cs):Mx w G b hol pos x cs []:=Mx.flat hf h
theorem kH (h:ao P V W st a w):∀ (b:Ty) (pos:Nat) (ls:List Leaf) (cs:List Value) (t:cA b.den),aC P V W st w ls cs->take st b ls=some t ->
  ∃ c1 c2 l1,cs=c1++c2/\ls=l1++t.rest/\aC P V W st w l1 c1/\aC P V W st w t.rest c2/\Mx w (bo V W t.p t.frz) b none pos t.val c1 (aU W t.kill) /\
   (∀ x∈t.frz,aB st x)/\(∀ x∈t.kill,aB st x)
 |.pair b c,pos,ls,cs,t,hl,hg=>by
  simp only[take]at hg;split at hg
  ·rename_i u hb;split at hg
   ·rename_i v hc;simp only[AA]at hg;subst hg;obtain⟨c1,c2,l1,e1,e2,h1,h2,h3,h4,h5⟩:=kH h b pos ls cs u hl hb;obtain⟨c3,c4,l2,e3,e4,h6,h7,h8,h9,h10⟩:=kH h c (pos+b.cells) u.rest c2 v h2 hc;refine⟨c1++c3,c4,l1++l2,by rw[e1,e3,AQ],by rw[e2,e4,AQ],h1.append h6,h7,⟨c1,c3,_,_,rfl,dp W _ _,?_,?_⟩,?_,?_⟩
    ·refine h3.mono λk hk=>?_
     rcases hk with hk|⟨y,hy,hk⟩
     ·exact .inl (bR (by intro h;simp[h]) (λ_ h=>h) k hk)
     ·exact .inr ⟨y,AJ _ hy,hk⟩
    ·refine h8.mono λk hk=>?_
     rcases hk with hk|⟨y,hy,hk⟩
     ·exact .inl (bR (by intro h;simp[h]) (λ_ h=>h) k hk)
     ·exact .inr ⟨y,AE _ hy,hk⟩
    ·intro x hx;exact (AM.1 hx).elim (h4 x) (h9 x)
    ·intro x hx;exact (AM.1 hx).elim (h5 x) (h10 x)
   ·cases hg
  ·cases hg
 |.unit,pos,ls,cs,t,hl,hg=>by
  simp only[take,AA]at hg;subst hg;exact⟨[],cs,[],rfl,rfl,trivial,hl,⟨rfl,rfl⟩,by simp,by simp⟩
 |.list m E e,pos,ls,cs,t,hl,hg=>by
  cases ls with
  |nil=>simp[take]at hg
  |cons l ls =>
   cases cs with
   |nil=>exact hl.elim
   |cons v cs =>
    cases m with
    |false =>
     simp only[take,cond_false]at hg;split at hg
     ·rename_i p xs ha;simp only[AA]at hg;subst hg;refine⟨[v],cs,[l],rfl,rfl,⟨hl.1,trivial⟩,hl.2,cn.2 ⟨rfl,jL h hl.1.1 hl.1.2.1 ha⟩,λx hx=>dN (cs:=[v]) (ls:=[l]) ⟨hl.1,trivial⟩ hx,by simp⟩
     ·cases hg
    |true =>
     simp only[take,cond_true]at hg;split at hg
     ·rename_i r j n;split at hg
      ·rename_i p E' e' xs hd;simp only[AB]at hg;obtain⟨ys,hc,rfl⟩:=hg;obtain⟨rfl,rfl,rfl⟩:=iO hc;obtain⟨h1,h2,h3,h4⟩:=jp h hd hl.1.1;refine⟨[v],cs,[_],rfl,rfl,⟨hl.1,trivial⟩,hl.2,(cd (by simp)).2 ⟨v,rfl,?_⟩,by simp,?_⟩
       ·have:aU W [(r,j)]=W.bs r j:=by simp[aU]
        show OwB w _ none E' e' xs v (aU W [(r,j)]);rw[this];exact h2.2.carry (λk hk=>.inl hk) (λ_ _=>rfl) (λ_ _=>rfl)
       ·intro x hx;simp only[List.mem_singleton]at hx;subst hx;exact⟨_,h3,trivial⟩
      ·cases hg
     ·simp only[AA]at hg;subst hg;have h3:v=.slice none 0 0:=hl.1.1;refine⟨[v],cs,[_],rfl,rfl,⟨hl.1,trivial⟩,hl.2,(cd (by simp)).2 ⟨v,rfl,?_⟩,by simp,by simp⟩;rw[h3];exact (OwH.nil w _ E e).2
     ·cases hg
 |.int k,pos,ls,cs,t,hl,hg=>take_scalar h (b:=.int k) rfl hl hg
 |.bool,pos,ls,cs,t,hl,hg=>take_scalar h (b:=.bool) rfl hl hg
 |.str,pos,ls,cs,t,hl,hg=>take_scalar h (b:=.str) rfl hl hg
 |.hdr,pos,ls,cs,t,hl,hg=>take_scalar h (b:=.hdr) rfl hl hg
where
 take_scalar (h:ao P V W st a w) {b:Ty} {pos:Nat} {ls:List Leaf} {cs:List Value} {t:cA b.den} (hf:b.flat=true) (hl:aC P V W st w ls cs) (hg:(aZ st b ls).map (λx=>(⟨false,x.2.1,[],[],x.2.2⟩:cA b.den))=some t) :
   ∃ c1 c2 l1,cs=c1++c2/\ls=l1++t.rest/\aC P V W st w l1 c1/\aC P V W st w t.rest c2/\Mx w (bo V W t.p t.frz) b none pos t.val c1 (aU W t.kill) /\
    (∀ x∈t.frz,aB st x)/\(∀ x∈t.kill,aB st x):=by
  simp only[AB]at hg;obtain⟨⟨p,x,rest⟩,h1,rfl⟩:=hg;obtain⟨c1,c2,l1,e1,e2,h2,h3,h4⟩:=jM h b ls cs p x rest hl h1;exact⟨c1,c2,l1,e1,e2,h2,h3,Mx.flat hf h4,by simp,by simp⟩
theorem dq (h:ao P V W st a w){b:Ty}{pos:Nat}{ls:List Leaf}{cs:List Value}{t:cA b.den}(hl:aC P V W st w ls cs)(hg:cb st b ls=some t) :
  Mx w (bo V W t.p t.frz) b none pos t.val cs (aU W t.kill)/\(∀ x∈t.frz,aB st x)/\(∀ x∈t.kill,aB st x):=by
 unfold cb at hg;split at hg
 ·rename_i p x f k hq;simp only[AA]at hg;subst hg;obtain⟨c1,c2,l1,e1,e2,h1,h2,h3,h4,h5⟩:=kH h b pos ls cs _ hl hq;have:c2=[]:=by
   cases c2 with
   |nil=>rfl
   |cons=>exact h2.elim
  subst this;simp only[Aa]at e1;subst e1;exact⟨h3,h4,h5⟩
 ·cases hg
theorem f9 (h:ao P V W st a w):∀ {ks:List (Nat×Nat)},aX ks=true->(∀ x∈ks,aB st x)->(aU W ks).Nodup
 |[],_,_=>B5
 |x::ks,hd,ho=>by
  simp only[aX,AC,AX,Af]at hd;have ih:=f9 h hd.2 (λy hy=>ho y (AP _ hy));show (W.bs x.1 x.2++aU W ks).Nodup;rw[Ap];obtain⟨l,hl,hlo⟩:=ho x (AW ..);refine⟨?_,ih,λk hk k' hk' e=>?_⟩
  ·have hj:x.2<(W.cs x.1).length:=by rw[<- h.len];exact (AD.1 hl).1
   have:=h.leaf x.1 x.2 l _ hl (AT hj);cases l <;> simp only[an]at hlo;exact OwH.nodup this
  ·subst e;obtain⟨y,hy,hk'⟩:=fC.1 hk';obtain⟨l',hl',hlo'⟩:=ho y (AP _ hy);obtain⟨e1,e2⟩:=h.sep x.1 x.2 l y.1 y.2 l' hl hlo hl' hlo' k hk hk';have:=hd.1 y hy;rw[e1,e2]at this;simp at this
theorem jb:∀ {b:Ty} {S S':Nat->Prop} {hh:Option Nat} {pos:Nat} {y:b.den} {c:List Value} {q:List Nat},b.flat=true->Mx w S b hh pos y c q->Rd w S' b y c
 |.int _,_,_,_,_,_,_,_,_,h=>h.1
 |.bool,_,_,_,_,_,_,_,_,h=>h.1
 |.str,_,_,_,_,_,_,_,_,h=>h.1
 |.unit,_,_,_,_,_,_,_,_,h=>h.1
 |.hdr,_,_,_,_,_,_,_,_,h=>h.1
 |.pair _ _,_,_,_,_,_,_,_,hf,⟨c1,c2,b1,b2,e1,e2,h1,h2⟩=>by
  simp only[Ty.flat,AC]at hf;exact⟨c1,c2,e1,jb hf.1 h1,jb hf.2 h2⟩
 |.list _ _ _,_,_,_,_,_,_,_,hf,_=>by simp[Ty.flat]at hf
theorem ll (h:ao P V W st a w){G:Nat->Prop}{off n:Nat}{hol hol':Option Nat}(hin:∀ k,off<=k->k<off+n->hol'≠some k)(hout:∀ k,¬ (off<=k/\k<off+n)->(hol'=some k<->hol=some k)) :
  ∀ (b:Ty) (pos:Nat) (x:b.den) (ls:List Leaf) (cs:List Value) (t:cA b.den) (c0:List Value) (bs0:List Nat),aC P V W st w ls cs->cR st off n b pos x ls=some t->Mx w G b hol pos x c0 bs0 ->
  ∃ c1 c2 c' bs',cs=c1++c2/\aC P V W st w t.rest c2/\c1.length=min (off+n) (pos+b.cells)-max off pos /\
   Mx w (λk=>G k\/bo V W t.p t.frz k) b hol' pos t.val c' bs' /\
   (∀ i,i<b.cells->c'[i]?=if off<=pos+i/\pos+i<off+n then c1[pos+i-max off pos]? else c0[i]?) /\
   (∀ k,bs'.count k<=bs0.count k+(aU W t.kill).count k)/\(∀ x∈t.frz,aB st x)/\(∀ x∈t.kill,aB st x)
 |.pair b c,pos,x,ls,cs,t,c0,bs0,hl,hg,⟨d1,d2,b1,b2,e1,e2,hm1,hm2⟩=>by
  simp only[cR]at hg;split at hg
  ·rename_i u hb;split at hg
   ·rename_i v hc;simp only[AA]at hg;subst hg;obtain⟨c1,c2,c',bs',f1,f2,f3,f4,f5,f6,f7,f8⟩:=ll h hin hout b pos x.1 ls cs u d1 b1 hl hb hm1;obtain⟨c3,c4,c'',bs'',g1,g2,g3,g4,g5,g6,g7,g8⟩:=ll h hin hout c (pos+b.cells) x.2 u.rest c2 v d2 b2 f2 hc hm2;have hl1:=f4.len;have hl2:=g4.len;have hd1:=hm1.len;refine⟨c1++c3,c4,c'++c'',bs'++bs'',by rw[f1,g1,AQ],g2,?_,⟨c',c'',bs',bs'',rfl,rfl,?_,?_⟩,?_,?_,?_,?_⟩
    ·rw[AS,f3,g3];simp only[Ty.cells];omega
    ·refine f4.mono λk hk=>?_
     rcases hk with hk|hk|⟨y,hy,hk⟩
     ·exact .inl hk
     ·exact .inr (.inl (bR (by intro h;simp[h]) (λ_ h=>h) k hk))
     ·exact .inr (.inr ⟨y,AJ _ hy,hk⟩)
    ·refine g4.mono λk hk=>?_
     rcases hk with hk|hk|⟨y,hy,hk⟩
     ·exact .inl hk
     ·exact .inr (.inl (bR (by intro h;simp[h]) (λ_ h=>h) k hk))
     ·exact .inr (.inr ⟨y,AE _ hy,hk⟩)
    ·intro i hi;simp only[Ty.cells]at hi;rw[e1];by_cases hib:i<b.cells
     ·rw[AH (by omega),f5 i hib];by_cases hr:off<=pos+i/\pos+i<off+n
      ·rw[if_pos hr,if_pos hr,AH (by omega)]
      ·rw[if_neg hr,if_neg hr,AH (by omega)]
     ·rw[AG (by omega),hl1,g5 (i-b.cells) (by omega)];have e3:pos+b.cells+(i-b.cells)=pos+i:=by omega
      rw[e3];by_cases hr:off<=pos+i/\pos+i<off+n
      ·rw[if_pos hr,if_pos hr,AG (by omega)];congr 1;omega
      ·rw[if_neg hr,if_neg hr,AG (by omega),hd1]
    ·intro k;rw[e2,AF,AF,dp,AF];have:=f6 k;have:=g6 k;omega
    ·intro y hy;exact (AM.1 hy).elim (f7 y) (g7 y)
    ·intro y hy;exact (AM.1 hy).elim (f8 y) (g8 y)
   ·cases hg
  ·cases hg
 |.unit,pos,x,ls,cs,t,c0,bs0,hl,hg,hm=>by
  simp only[cR,AA]at hg;subst hg;refine⟨[],cs,[],[],rfl,hl,by simp only[Ty.cells,A9];omega,⟨rfl,rfl⟩,λi hi=>by simp[Ty.cells]at hi,λk=>by simp,by simp,by simp⟩
 |.hdr,pos,x,ls,cs,t,c0,bs0,hl,hg,hm=>by simp[cR]at hg
 |.int k,pos,x,ls,cs,t,c0,bs0,hl,hg,hm=>put_scalar h (b:=.int k) rfl rfl hl hg hm
 |.bool,pos,x,ls,cs,t,c0,bs0,hl,hg,hm=>put_scalar h (b:=.bool) rfl rfl hl hg hm
 |.str,pos,x,ls,cs,t,c0,bs0,hl,hg,hm=>put_scalar h (b:=.str) rfl rfl hl hg hm
 |.list m E e,pos,x,ls,cs,t,c0,bs0,hl,hg,hm=>by
  simp only[cR]at hg;have hlen:=hm.len;have e0:(Ty.list m E e).cells=1:=rfl;cases hb:BN off pos&&Bb pos (off+n) with
  |true =>
   rw[hb]at hg;simp only[cond_true]at hg;simp only[AC,BD]at hb;have hb1:=Av hb.1;obtain⟨c1,c2,l1,e1,e2,h1,h2,h3,h4,h5⟩:=kH h (.list m E e) pos ls cs t hl hg;have h3l:=h3.len;refine⟨c1,c2,c1,aU W t.kill,e1,h2,by rw[h3l];omega,?_,λi hi=>?_,λk=>by omega,h4,h5⟩
   ·have h6:=h3.mono (G':=λk=>G k\/bo V W t.p t.frz k) (λk hk=>.inr hk);cases m with
    |false=>rw[cn]at h6 ⊢;exact h6
    |true =>
     rw[cd (by simp)]at h6;rw[cd (hin pos hb1 hb.2)];exact h6
   ·rw[if_pos (by omega)];congr 1;omega
  |false =>
   rw[hb]at hg;simp only[cond_false,AA]at hg;subst hg;have hb2:¬ (off<=pos/\pos<off+n):=by
    rintro⟨h1,h2⟩;have:(BN off pos&&Bb pos (off+n))=true:=by
     simp only[AC,BD];exact⟨A6 h1,h2⟩
    rw[hb]at this;cases this
   refine⟨[],cs,c0,bs0,rfl,hl,by simp only[A9];omega,?_,λi hi=>?_,λk=>by omega,by simp,by simp⟩
   ·have h6:=hm.mono (G':=λk=>G k\/bo V W false [] k) (λk hk=>.inl hk);cases m with
    |false=>rw[cn]at h6 ⊢;exact h6
    |true =>
     by_cases hp:hol=some pos
     ·have hp':=(hout pos hb2).2 hp;subst hp;subst hp';rw[ii]at h6 ⊢;exact h6
     ·have hp':hol'≠some pos:=λe=>hp ((hout pos hb2).1 e)
      rw[cd hp]at h6;rw[cd hp'];exact h6
   ·rw[if_neg (by omega)]
where
 put_scalar (h:ao P V W st a w) {b:Ty} {pos:Nat} {x:b.den} {ls:List Leaf} {cs:List Value} {t:cA b.den} {c0:List Value} {bs0:List Nat} (hf:b.flat=true) (h1:b.cells=1) (hl:aC P V W st w ls cs)
   (hg:(bif BN off pos&&Bb pos (off+n) then take st b ls else some ⟨false,x,[],[],ls⟩)=some t) (hm:Mx w G b hol pos x c0 bs0) :
   ∃ c1 c2 c' bs',cs=c1++c2/\aC P V W st w t.rest c2/\c1.length=min (off+n) (pos+b.cells)-max off pos /\
    Mx w (λk=>G k\/bo V W t.p t.frz k) b hol' pos t.val c' bs' /\
    (∀ i,i<b.cells->c'[i]?=if off<=pos+i/\pos+i<off+n then c1[pos+i-max off pos]? else c0[i]?) /\
    (∀ k,bs'.count k<=bs0.count k+(aU W t.kill).count k)/\(∀ x∈t.frz,aB st x)/\(∀ x∈t.kill,aB st x):=by
  have hflat:∀ {S S':Nat->Prop} {hh hh':Option Nat} {y:b.den} {c:List Value} {q:List Nat},Mx w S b hh pos y c q->Mx w S' b hh' pos y c []:=by
   intro S S' hh hh' y c q hq;exact Mx.flat (w:=w) (G:=λ_=>True) hf (jb hf hq)
  cases hb:BN off pos&&Bb pos (off+n) with
  |true =>
   rw[hb]at hg;simp only[cond_true]at hg;simp only[AC,BD]at hb;have hb1:=Av hb.1;obtain⟨c1,c2,l1,e1,e2,h2,h3,h4,h5,h6⟩:=kH h b pos ls cs t hl hg;have h3l:=h4.len;refine⟨c1,c2,c1,[],e1,h3,by rw[h3l];omega,hflat h4,λi hi=>?_,λk=>by simp,h5,h6⟩;rw[if_pos (by omega)];congr 1;omega
  |false =>
   rw[hb]at hg;simp only[cond_false,AA]at hg;subst hg;have hb2:¬ (off<=pos/\pos<off+n):=by
    rintro⟨h1,h2⟩;have:(BN off pos&&Bb pos (off+n))=true:=by
     simp only[AC,BD];exact⟨A6 h1,h2⟩
    rw[hb]at this;cases this
   refine⟨[],cs,c0,[],rfl,hl,by simp only[A9];omega,hflat hm,λi hi=>?_,λk=>by simp,by simp,by simp⟩;rw[if_neg (by omega)]
end
section
variable {P:Program} {V:Env} {Γ:List Ctr} {T:TypeId->TI} {st st2:St} {o:Oper} {R:Type} {κ:Upd->Option R} {r:R}
def tB (V:Env)(W:Wit)(st:St)(q j k:Nat):Prop :=
 ¬ W.nw k/\¬ V.prot k/\(∀ b,live st b->W.β b≠k)/\∀ (r1 i:Nat) (l:Leaf),(st r1).ls[i]?=some l->an l->(r1,i)≠(q,j)->k∉W.bs r1 i
structure vX (st st2:St) (q j:Nat) (l':Leaf):Prop where
 sh:∀ r,(st2 r).sh=(st r).sh
 ver:∀ r,(st r).ver<=(st2 r).ver
 epo:(st EPO).ver<(st2 EPO).ver
 len:∀ r,(st2 r).ls.length=(st r).ls.length
 at_:∀ l,(st2 q).ls[j]?=some l->l=l'
 old:∀ r i l,(r,i)≠(q,j)->(st2 r).ls[i]?=some l->(st r).ls[i]?=some l
def Wit.tell (W:Wit)(q j:Nat)(bs:List Nat):Wit:={ W with bs:=λr i=>if (r,i)=(q,j) then bs else W.bs r i }
theorem ao.retell (hV:ax V){W:Wit}{a:Act}{w w':World}(h:ao P V W st a w){q j:Nat}{l l':Leaf}(hR:vX st st2 q j l'){v:Value}{bs':List Nat}
  (hl:(st q).ls[j]?=some l) (hlo:an l) (hv:(W.cs q)[j]?=some v) (hlo':an l') (hnew:aK P V W st w' bs' l' v)
  (hbs:∀ k∈bs',tB V W st q j k)
  (hsame:∀ k,b6 V W st k->k∉W.bs q j->w'.heap[k]?=w.heap[k]?) (hsz:w.heap.size<=w'.heap.size) (hos:w'.os=w.os) (ht:w'.tape=w.tape) (ho:w'.output=w.output) :
  ao P V (W.tell q j bs') st2 a w':=by
 have hown:=h.ownb q j _ hl hlo;have hlv:∀ b,live st2 b<->live st b:=gN hR.sh;have hne:∀ {r1 i:Nat},(r1,i)≠(q,j)->(W.tell q j bs').bs r1 i=W.bs r1 i:=λh=>if_neg h
 have heq:(W.tell q j bs').bs q j=bs':=if_pos rfl;have hback:∀ (r1 i:Nat) (l:Leaf),(st2 r1).ls[i]?=some l->an l->(r1,i)≠(q,j)->(st r1).ls[i]?=some l:=λr1 i l h1 _ h2=>hR.old r1 i l h2 h1
 have hstep:co V W (W.tell q j bs') st st2 w w':=by
  refine⟨λr1=>⟨hR.ver r1,λ_=>rfl⟩,λb hb=>⟨(hlv b).2 hb,rfl⟩,λ_ h=>h,λk hk=>hsame k (hk.elim .inl (λh=>.inr (.inl h))) (λhm=>?_),λhe=>?_⟩
  ·rcases hk with hk|hk
   ·exact (hown k hm).1 hk
   ·exact (hown k hm).2.1 hk
  ·have:=hR.epo;omega
 exact {
  nt:=h.nt,df:=h.df
  slots:=λt ht'=>by rw[hR.sh];exact h.slots t ht'
  boxes:=λb hb=>by
   rw[hR.sh];rcases h.boxes b hb with ⟨h1,h2⟩|⟨h1,E0,h2⟩
   ·refine .inl ⟨h1,AV ?_⟩;rw[hR.len,h2];rfl
   ·refine .inr ⟨h1,E0,?_⟩;show w'.heap[W.β b]?=_;rw[hsame _ (.inr (.inr (.inl ⟨b,⟨hb,h1⟩,rfl⟩))) (λhm=>(hown _ hm).2.2 b ⟨hb,h1⟩ rfl)];exact h2
  len:=λr1=>by rw[hR.len];exact h.len r1
  one:=h.one
  leaf:=λr1 i l1 u h1 h2=>by
   by_cases hq:(r1,i)=(q,j)
   ·cases hq;obtain rfl:=hR.at_ l1 h1;have h2:(W.cs q)[j]?=some u:=h2;rw[hv]at h2;simp only[AA]at h2;subst h2;rw[heq];have hst2:co V W (W.tell q j bs') st st2 w' w':=⟨hstep.ver,hstep.box,hstep.nw,λ_ _=>rfl,λhe=>by have:=hR.epo;omega⟩;exact hnew.carry hV.ro hst2 (λ_=>⟨rfl,λ_ _=>rfl⟩)
   ·have h3:=hR.old r1 i l1 hq h1;rw[hne hq];refine (h.leaf r1 i l1 u h3 h2).carry hV.ro hstep (λho=>⟨rfl,λk hk=>hsame k (.inr (.inr (.inr ⟨r1,i,l1,h3,ho,hk⟩))) (λhm=>hq ?_)⟩);obtain⟨rfl,rfl⟩:=h.sep r1 i l1 q j _ h3 ho hl hlo k hk hm;rfl
  ownb:=λr1 i l1 h1 h2 k hk=>by
   by_cases hq:(r1,i)=(q,j)
   ·cases hq;rw[heq]at hk;obtain⟨q1,q2,q3,_⟩:=hbs k hk;exact⟨q1,q2,λb hb=>q3 b ((hlv b).1 hb)⟩
   ·rw[hne hq]at hk;obtain⟨q1,q2,q3⟩:=h.ownb r1 i l1 (hR.old r1 i l1 hq h1) h2 k hk;exact⟨q1,q2,λb hb=>q3 b ((hlv b).1 hb)⟩
  sep:=λr1 i l1 r2 i2 l2 h1 h2 h3 h4 k hk hk'=>by
   by_cases hq:(r1,i)=(q,j) <;> by_cases hq':(r2,i2)=(q,j)
   ·rw[<- hq']at hq;cases hq;exact⟨rfl,rfl⟩
   ·cases hq;rw[heq]at hk;rw[hne hq']at hk';exact absurd hk' ((hbs k hk).2.2.2 r2 i2 l2 (hR.old r2 i2 l2 hq' h3) h4 hq')
   ·cases hq';rw[heq]at hk';rw[hne hq]at hk;exact absurd hk ((hbs k hk').2.2.2 r1 i l1 (hR.old r1 i l1 hq h1) h2 hq)
   ·rw[hne hq]at hk;rw[hne hq']at hk';exact h.sep r1 i l1 r2 i2 l2 (hR.old r1 i l1 hq h1) h2 (hR.old r2 i2 l2 hq' h3) h4 k hk hk'
  box:=λb hb=>h.box b ((hlv b).1 hb)
  inj:=λb b' hb hb'=>h.inj b b' ((hlv b).1 hb) ((hlv b').1 hb')
  nwlt:=λk hk=>⟨Am (h.nwlt k hk).1 hsz,(h.nwlt k hk).2⟩
  os:=hos.trans h.os,tape:=ht.trans h.tape,output:=ho.trans h.output,size:=Aq h.size hsz
  keep:=λk hp=>by
   rw[hsame k (.inr (.inl hp)) (λhm=>(hown k hm).2.1 hp)];exact h.keep k hp
  fixb:=λx hx=>⟨(hlv _).2 (h.fixb x hx).1,(h.fixb x hx).2⟩
  fixt:=h.fixt }
theorem jY {q:Nat}(st:St):∀ (ks:List (Nat×Nat)),(∀ x∈ks,x.1≠q)->ac (aF st ks) st q=st q
 |[],_=>rfl
 |(r,j)::ks,h=>by
  have e:ac (aF st ((r,j)::ks)) st=ac [(r,fq (ac (aF st ks) st r) j)] (ac (aF st ks) st):=aP _ _ _ _;rw[e,aJ (Ay (h (r,j) (AW ..))),jY st ks (λx hx=>h x (AP _ hx))]
theorem jC {q:Nat}(st:St):∀ (ks:List (Nat×Nat)),(∀ x∈ks,x.1≠q)->ac (aN st ks) st q=st q
 |[],_=>rfl
 |(r,j)::ks,h=>by
  have e:ac (aN st ((r,j)::ks)) st=ac [(r,fu (ac (aN st ks) st r) j)] (ac (aN st ks) st):=aP _ _ _ _;rw[e,aJ (Ay (h (r,j) (AW ..))),jC st ks (λx hx=>h x (AP _ hx))]
theorem OwH.store {w:World}{G G':Nat->Prop}{h h':Option (Nat×Nat)}{E:TypeId}{e:Ty}{xs:List e.den}{g len cap:Nat}{bs K:List Nat}(H:OwH w G h E e xs (.slice (some ⟨g,0,none⟩) len cap) bs)
  (hG:∀ k,G k->G' k) (hgG:¬ G' g) (hK:K.Nodup) (hKb:∀ k∈K,k∉bs) {i:Nat} {old z:e.den} (hi:xs[i]?=some old) (hh:∀ j,j≠i->cB h' j=cB h j) {off:Nat} {cs:List Value} (hin:off+cs.length<=e.cells)
  (hnew:∀ c0 bs0,Mx w G e (cB h i) 0 old c0 bs0->∃ c bs1,Mx w G' e (cB h' i) 0 z c bs1/\(∀ k,k<e.cells->c[k]?=if off<=k/\k<off+cs.length then cs[k-off]? else c0[k]?)/\∀ k,bs1.count k<=bs0.count k+K.count k) :
  ∃ bs',OwH (w.setCells g (i*e.cells+off) cs) G' h' E e (xs.set i z) (.slice (some ⟨g,0,none⟩) len cap) bs'/\∀ k∈bs',k∈bs\/k∈K:=by
 obtain⟨hnd,flat,bss,h1,h2,h3⟩:=H;have hil:i<xs.length:=(AD.1 hi).1;obtain⟨c0,hm0,hc0⟩:=h3 i old hi;obtain⟨c,bs1,hm,hcc,hcnt⟩:=hnew c0 (bss i) hm0;have hflat:=h1.1;rcases h1.2 with ⟨h4,_⟩|⟨g',cap',cur,mk,h4,hg,hnc,hcm,hcs,htake⟩
 ·simp at h4
 ·simp only[Ag,AA,BI,and_true,true_and]at h4;obtain⟨rfl,rfl,rfl⟩:=h4;have hgbs:g∈bs:=by rw[h2];simp[Ac]
  have hc0l:=hm0.len;have hcl:=hm.len;have hrow:(i+1)*e.cells<=xs.length*e.cells:=AN _ hil;rw[Ak]at hrow;have hcap:xs.length*e.cells<=cap*e.cells:=AN _ hnc;have hcurl:cur.toList.length=cur.size:=by rw[Ah]
  have hcur:flat=cur.toList.take (xs.length*e.cells):=htake.symm;have hnew:=iR g E cs 0 (i*e.cells+off) w cur hg;have hsp:=j9 cur.toList cs (i*e.cells+off) (by omega);rw[Ad]at hsp;rw[hsp]at hnew;simp only[Aj]at hnew;have hcell:∀ k,k<xs.length*e.cells->(cur.toList.take (i*e.cells+off)++cs++cur.toList.drop (i*e.cells+off+cs.length))[k]? =
    if i*e.cells+off<=k/\k<i*e.cells+off+cs.length then cs[k-(i*e.cells+off)]? else flat[k]?:=by
   intro k hk;have hk2:flat[k]?=cur.toList[k]?:=by rw[hcur,An,if_pos hk]
   by_cases h9:k<i*e.cells+off
   ·rw[AQ,AH (by simp only[Ab];omega),An,if_pos h9,if_neg (by omega),hk2]
   ·by_cases h10:k<i*e.cells+off+cs.length
    ·rw[AQ,AG (by simp only[Ab];omega),AH (by simp only[Ab];omega),if_pos ⟨by omega,h10⟩];congr 1;simp only[Ab];omega
    ·rw[AG (by simp only[Ab,AS];omega),A1,if_neg (by omega),hk2];congr 1;simp only[Ab,AS];omega
  have hlen':(cur.toList.take (i*e.cells+off)++cs++cur.toList.drop (i*e.cells+off+cs.length)).length=cur.size:=by
   simp only[AS,Ab,BK];omega
  have hcount:∀ k,([g]++(AO xs.length).flatMap λj=>if j=i then bs1 else bss j).count k<=bs.count k+K.count k:=by
   intro k;have h5:=jB hil bss bs1 k;have h6:=hcnt k;rw[h2];simp only[Ac,Bf,AF];omega
  have hsub:=lZ hnd hK hKb hcount;have hgn:∀ j,j<xs.length->∀ k∈(if j=i then bs1 else bss j),k≠g:=by
   intro j hj k hk e0;subst e0;have h7:=hsub.1;rw[BT,At]at h7;exact h7.1 (dz.2 ⟨j,hj,hk⟩)
  have hheap:∀ k,k≠g->(w.setCells g (i*e.cells+off) cs).heap[k]?=w.heap[k]?:=λk hk=>ea g cs _ w k hk
  refine⟨[g]++(AO xs.length).flatMap λj=>if j=i then bs1 else bss j,⟨hsub.1,(cur.toList.take (i*e.cells+off)++cs++cur.toList.drop (i*e.cells+off+cs.length)).take (xs.length*e.cells),
   λj=>if j=i then bs1 else bss j,⟨?_,.inr ⟨g,cap,_,_,?_,hnew,?_,by rw[A4,hlen'];exact hcm,?_,?_⟩⟩,?_,?_⟩,hsub.2⟩
  ·rw[Ab,hlen',Au];omega
  ·rw[Au]
  ·rw[Au];exact hnc
  ·rw[A4,hlen'];exact hcs
  ·rw[Au]
  ·simp[Ac]
  ·intro j x hj;rcases aQ _ _ _ _ _ hj with ⟨rfl,rfl,_⟩|⟨hij,hj⟩
   ·refine⟨c,?_,λk u hu=>?_⟩
    ·simp only[if_true];exact hm.carry (λ_ h=>h) (λk hk=>hheap k (λe0=>hgG (e0 ▸ hk))) (λk hk=>hheap k (hgn j hil k (by simpa using hk)))
    ·have hkl:k<e.cells:=by rw[<- hcl];exact (AD.1 hu).1
     rw[An,if_pos (by omega),hcell _ (by omega)];rw[hcc k hkl]at hu;by_cases h11:off<=k/\k<off+cs.length
     ·rw[if_pos h11]at hu;rw[if_pos (by omega),<- hu];congr 1;omega
     ·rw[if_neg h11]at hu;rw[if_neg (by omega)];exact hc0 k u hu
   ·obtain⟨c',hr',hc'⟩:=h3 j x hj;have hjl:j<xs.length:=(AD.1 hj).1;refine⟨c',?_,λk u hu=>?_⟩
    ·rw[hh j hij];simp only[if_neg hij];exact hr'.carry hG (λk hk=>hheap k (λe0=>hgG (e0 ▸ hG k hk))) (λk hk=>hheap k (hgn j hjl k (by rw[if_neg hij];exact hk)))
    ·have hkl:k<e.cells:=by rw[<- hr'.len];exact (AD.1 hu).1
     have hjr:(j+1)*e.cells<=xs.length*e.cells:=AN _ hjl;rw[Ak]at hjr;rw[An,if_pos (by omega),hcell _ (by omega),if_neg ?_]
     ·exact hc' k u hu
     ·rintro⟨h14,h15⟩;rcases Nat.lt_or_gt_of_ne (λe=>hij e.symm:i≠j) with h16|h16
      ·have:(i+1)*e.cells<=j*e.cells:=AN _ h16;rw[Ak]at this;omega
      ·have:(j+1)*e.cells<=i*e.cells:=AN _ h16;rw[Ak]at this;omega
theorem vY (hV:ax V)(hT:TOk P T){t:TypeId}{x y:Operand}(hop:o.op=.store t x y)(h:act Γ T o st κ=some r):bU P V o st κ r:=by
  simp only[act,wrU,hop]at h;split at h
  · cases h
  · rename_i hd
    cases hb:AR (ar st y).2.length (T t).cells&&decide ((ar st y).1=bj (T t).agg)&&!decide ((T t).cells=0) with
    |false=>simp[hb]at h
    |true =>
      simp only[hb,cond_true]at h;simp only[AC,decide_eq_true_eq,AX,decide_eq_false_iff_not]at hb;obtain⟨⟨hb1,hb2⟩,hb3⟩:=hb;have hb1:=AI hb1;split at h
      · rename_i b off hx
        cases hc:decide ((st b).sh=.agg)&&decide (off+(ar st y).2.length<=(st b).ls.length)&&gw st (ar st y).2 with
        |false=>simp[hc]at h
        |true =>
          simp only[hc,cond_true]at h;simp only[AC,decide_eq_true_eq]at hc;exact⟨_,h,λW a w hr=>rY hV hT hop hd hx hb1 hb2 hb3 hc.1.1 hc.1.2 hc.2 hr⟩
      · rename_i r' j ver i sz off hx
        split at h
        · rename_i p hh E e xs hd'
          cases hc:AR sz e.cells&&decide (off+(ar st y).2.length<=e.cells)&&qG r' with
          |false=>simp[hc]at h
          |true =>
            simp only[hc,cond_true]at h;simp only[AC,decide_eq_true_eq,qG,AX]at hc;obtain⟨⟨hc1,hc2⟩,hc3,hc4⟩:=hc;have hc1:=AI hc1;subst hc1;have hrE:r'≠EPO:=λe0=>by subst e0;simp at hc4
            unfold fR at h;obtain⟨old,hold,h⟩:=Ae.1 h;obtain⟨_,_,h4⟩:=fD hold;simp only[Bi]at h4;split at h
            · rename_i u hu
              cases hq:u.rest.isEmpty&&aX u.kill&&dg u.frz u.kill&&!((u.kill++u.frz).any λk=>AR k.1 r') with
              |false=>rw[hq]at h;cases h
              |true =>
                simp only[hq,cond_true]at h;simp only[AC,AX,Af]at hq;obtain⟨⟨⟨hq1,hq2⟩,hq3⟩,hq4⟩:=hq;have hq4:∀ k∈u.kill++u.frz,k.1≠r':=λk hk e0=>hq4 k hk (by simp[e0])
                obtain ⟨hh', hκ, hin, hout, hoth⟩ : ∃ hh' : Option (Nat × Nat), κ ((r', ⟨(st r').ver, (st r').sh, aR (st r').ls j (.own (p || u.p) hh' E e (xs.set i u.val))⟩) :: (EPO, bT (ac (aN (ac (aF st u.frz) st) u.kill ++ aF st u.frz) st EPO)) ::
                      (aN (ac (aF st u.frz) st) u.kill++aF st u.frz))=some r /\
                    (∀ k,off<=k->k<off+(ar st y).2.length->cB hh' i≠some k)/\(∀ k,¬ (off<=k/\k<off+(ar st y).2.length)->(cB hh' i=some k<->cB hh i=some k))/\(∀ j',j'≠i->cB hh' j'=cB hh j'):=by
                  cases hh with
                  |none=>exact⟨none,h,λ_ _ _=>by simp[cB],λ_ _=>BF,λ_ _=>rfl⟩
                  |some hp =>
                    obtain⟨hi,ho⟩:=hp;simp only at h;cases hr1:BN off ho&&Bb ho (off+(ar st y).2.length) with
                    |true =>
                      rw[hr1]at h;simp only[cond_true]at h;simp only[AC,BD]at hr1;have hr2:=Av hr1.1;cases hr3:AR i hi with
                      |true =>
                        rw[hr3]at h;have:=AI hr3;subst this;refine⟨none,h,λ_ _ _=>by simp[cB],λk hk=>?_,λj' hj'=>?_⟩
                        · simp only[cB,Nat.beq_refl,cond_true,reduceCtorEq,AA,false_iff]
                          rintro rfl;exact hk ⟨hr2,hr1.2⟩
                        · have:AR i j'=false:=by
                            cases hbb:AR i j' with
                            |false=>rfl
                            |true=>exact absurd (AI hbb).symm hj'
                          simp[cB,this]
                      |false =>
                        rw[hr3]at h;have hr4:AR hi i=false:=by
                          cases hbb:AR hi i with
                          |false=>rfl
                          |true =>
                            have:=AI hbb;subst this;simp at hr3
                        exact⟨some (hi,ho),h,λ_ _ _=>by simp[cB,hr4],λ_ _=>BF,λ_ _=>rfl⟩
                    |false =>
                      rw[hr1]at h;refine⟨some (hi,ho),h,λk hk1 hk2=>?_,λ_ _=>BF,λ_ _=>rfl⟩;simp only[cB];cases AR hi i with
                      |false=>simp
                      |true =>
                        simp only[cond_true,ne_eq,AA];rintro rfl;have:(BN off ho&&Bb ho (off+(ar st y).2.length))=true:=by
                          simp only[AC,BD];exact⟨A6 hk1,hk2⟩
                        rw[hr1]at this;cases this
                refine⟨_,hκ,λW a w hr next Q hn=>?_⟩;obtain⟨cs,hs,hl⟩:=cH hr y;rw[hb2]at hs;have hcc:=gj hs hl.one';have hlen:=hl.length;obtain⟨h5,h6⟩:=eC hd' (by simp);obtain⟨hp,_,_,_⟩:=bu hr x (by rw[hx];simp);rw[hx]at hp;obtain⟨g,len,cap,hcsg,hil,hv⟩:=hp.2 h5;have hnn:T t≠.none:=by intro e;rw[e]at hb3;exact hb3 rfl
                have how:=hr.leaf r' j _ _ h6 hcsg;have hel:∀ c0 bs0,Mx w (gd V W p) e (cB hh i) 0 old c0 bs0->∃ c bs1,Mx w (λk=>gd V W p k\/bo V W u.p u.frz k) e (cB hh' i) 0 u.val c bs1 /\
                    (∀ k,k<e.cells->c[k]?=if off<=k/\k<off+cs.length then cs[k-off]? else c0[k]?)/\∀ k,bs1.count k<=bs0.count k+(aU W u.kill).count k:=by
                  intro c0 bs0 hm;obtain⟨c1,c2,c',bs',f1,f2,f3,f4,f5,f6,f7,f8⟩:=ll hr hin hout e 0 old (ar st y).2 cs u c0 bs0 hl hu hm;have hc2n:c2=[]:=by
                    have:=f2.length;rw[Bq.1 hq1]at this;exact AV this.symm
                  subst hc2n;rw[Aa]at f1;subst f1;refine⟨c',bs',f4,λk hk=>?_,f6⟩;rw[f5 k hk,hlen];simp only[Az];by_cases hr1:off<=k/\k<off+cs.length
                  · rw[if_pos hr1,if_pos hr1]
                    congr 1;omega
                  · rw[if_neg hr1,if_neg hr1]
                have hpl:(∀ x∈u.frz,aB st x)/\(∀ x∈u.kill,aB st x):=by
                  obtain⟨_,flat,bss,_,_,hel2⟩:=how;obtain⟨c0,hm0,_⟩:=hel2 i old h4;obtain⟨_,_,_,_,_,_,_,_,_,_,f7,f8⟩:=ll hr hin hout e 0 old (ar st y).2 cs u c0 _ hl hu hm0;exact⟨f7,f8⟩
                obtain⟨k1,k2,k3,k4⟩:=eY hV hr hq3 hpl.2;have hst:ac (aN (ac (aF st u.frz) st) u.kill++aF st u.frz) st r'=st r':=by
                  rw[bw,jC _ _ (λx hx=>hq4 x (AJ _ hx)),jY _ _ (λx hx=>hq4 x (AE _ hx))]
                have h7:(ac (aN (ac (aF st u.frz) st) u.kill++aF st u.frz) st r').ls[j]?=some (.own p hh E e xs):=by rw[hst];exact h6
                have hown:=k1.ownb r' j _ h7 trivial;have hGG:∀ k,gd V W p k\/bo V W u.p u.frz k->gd V (W.frz st u.frz) (p||u.p) k:=by
                  rintro k (hk|hk)
                  · exact bR (W':=W.frz st u.frz) (by intro h;simp[h]) (λ_ h=>Or.inl h) k hk
                  · exact bR (W':=W.frz st u.frz) (by intro h;simp[h]) (λ_ h=>h) k (jr hpl.1 k hk)
                have hgb:g∈W.bs r' j:=by obtain⟨_,flat,bss,_,hbs,_⟩:=how;rw[hbs];simp[Ac]
                have hgG:¬ gd V (W.frz st u.frz) (p||u.p) g:=by
                  rintro (hk|⟨_,hk⟩)
                  · exact (hown g hgb).1 hk
                  · exact (hown g hgb).2.1 (hV.ro g hk)
                have hKb:∀ k∈aU W u.kill,k∉W.bs r' j:=λk hk hk'=>(k4 k hk).2.2.2.2 r' j _ h7 trivial hk'
                obtain⟨bs',how2,hbs2⟩:=OwH.store (G':=gd V (W.frz st u.frz) (p||u.p)) (h':=hh') how (λk hk=>hGG k (.inl hk)) hgG (f9 hr hq2 hpl.2) hKb h4 hoth (off:=off) (cs:=cs) (by omega)
                  (λc0 bs0 hm=>by
                    obtain⟨c,bs1,q1,q2,q3⟩:=hel c0 bs0 hm;exact⟨c,bs1,q1.mono hGG,q2,q3⟩)
                obtain⟨_,flat,bss,ho,hbs,_⟩:=how;have hxl:len=xs.length:=by
                  obtain⟨A,cap',e0,_⟩:=ho.slice;simp only[Ag]at e0;exact e0.2.1
                subst hxl;rcases ho.2 with ⟨h8,_⟩|⟨g',cap',cur,mk,h8,hg,hnc,hmk,hcs,_⟩
                · simp at h8
                · simp only[Ag,AA,BI,and_true,true_and]at h8
                  obtain⟨rfl,rfl⟩:=h8;have hrow:(i+1)*e.cells<=xs.length*e.cells:=AN _ (AD.1 h4).1;rw[Ak]at hrow;have hcap:xs.length*e.cells<=cap*e.cells:=AN _ hnc;have hcurl:cur.toList.length=cur.size:=by rw[Ah]
                  have hrun:=lY (P:=P) (nk (hT t) hnn) (w:=w) (b:=g) (off:=i*e.cells+off) (cur:=cur.toList) (E:=E) (by rw[Ad];exact hg) (by rw[hcurl];exact xB hmk) hcc (by omega) hl.one' (by omega);refine oc (w':=w.setCells g (i*e.cells+off) cs) (by simp[execOp,hop,hv,hrun]) ?_;rw[hd];refine hn _ _ ?_;obtain⟨e1,e2,e3,e4⟩:=iS g cs (i*e.cells+off) w;refine⟨_,k1.retell hV (l':=.own (p||u.p) hh' E e (xs.set i u.val)) (w':=w.setCells g (i*e.cells+off) cs) (bs':=bs') ?_ h7 trivial hcsg trivial how2 (λk hk=>?_) (λk _ hk=>ea g cs _ w k (λe=>hk (e ▸ hgb))) (BM e4.symm) e1 e2 e3⟩
                  · rw[aP r',aP EPO]
                    have hne:EPO≠r':=Ay hrE;generalize aN (ac (aF st u.frz) st) u.kill++aF st u.frz=U at hst ⊢;refine⟨λq=>?_,λq=>?_,?_,λq=>?_,λl hl=>?_,λq i' l hq hl=>?_⟩
                    · rcases am r' q ⟨(st r').ver,(st r').sh,aR (st r').ls j (.own (p||u.p) hh' E e (xs.set i u.val))⟩ (ac [(EPO,bT (ac U st EPO))] (ac U st)) with ⟨rfl,e⟩ | ⟨_,e⟩
                      · rw[e,hst]
                      · rw[e]
                        rcases am EPO q (bT (ac U st EPO)) (ac U st) with ⟨rfl,e⟩|⟨_,e⟩ <;> rw[e];rfl
                    · rcases am r' q ⟨(st r').ver,(st r').sh,aR (st r').ls j (.own (p||u.p) hh' E e (xs.set i u.val))⟩ (ac [(EPO,bT (ac U st EPO))] (ac U st)) with ⟨rfl,e⟩ | ⟨_,e⟩
                      · rw[e,hst];exact AU _
                      · rw[e]
                        rcases am EPO q (bT (ac U st EPO)) (ac U st) with ⟨rfl,e⟩|⟨_,e⟩ <;> rw[e]
                        · exact Bv _
                        · exact AU _
                    · rw[aJ hne,bk];exact AL _
                    · rcases am r' q ⟨(st r').ver,(st r').sh,aR (st r').ls j (.own (p||u.p) hh' E e (xs.set i u.val))⟩ (ac [(EPO,bT (ac U st EPO))] (ac U st)) with ⟨rfl,e⟩ | ⟨_,e⟩
                      · rw[e,hst];simp[aR]
                      · rw[e]
                        rcases am EPO q (bT (ac U st EPO)) (ac U st) with ⟨rfl,e⟩|⟨_,e⟩ <;> rw[e];rfl
                    · rw[bk]at hl
                      rcases aQ _ _ _ _ _ hl with ⟨_,rfl,_⟩|⟨hne,_⟩
                      · rfl
                      · exact absurd rfl hne
                    · rcases am r' q ⟨(st r').ver,(st r').sh,aR (st r').ls j (.own (p||u.p) hh' E e (xs.set i u.val))⟩ (ac [(EPO,bT (ac U st EPO))] (ac U st)) with ⟨rfl,e⟩ | ⟨_,e⟩
                      · rw[e]at hl
                        rw[hst];rcases aQ _ _ _ _ _ hl with ⟨rfl,_,_⟩|⟨_,hl⟩
                        · exact absurd rfl hq
                        · exact hl
                      · rw[e]at hl
                        rcases am EPO q (bT (ac U st EPO)) (ac U st) with ⟨rfl,e⟩|⟨_,e⟩ <;> rw[e]at hl <;> exact hl
                  · rcases hbs2 k hk with hk|hk
                    · have h9:=k1.ownb r' j _ h7 trivial k hk
                      exact⟨h9.1,h9.2.1,h9.2.2,λr1 i1 l1 hl1 ho1 hne hk1=>hne (by obtain⟨e1,e2⟩:=k1.sep r1 i1 l1 r' j _ hl1 ho1 h7 trivial k hk1 hk;rw[e1,e2])⟩
                    · have h9:=k4 k hk
                      exact⟨h9.1,h9.2.1,h9.2.2.2.1,λr1 i1 l1 hl1 ho1 _=>h9.2.2.2.2 r1 i1 l1 hl1 ho1⟩
            · cases h
        · cases h
      · cases h
end
section
variable {P:Program} {V:Env} {Γ:List Ctr} {T:TypeId->TI} {st:St} {o:Oper} {R:Type} {κ:Upd->Option R} {r:R}
theorem ao.putOwn (hV:ax V){W:Wit}{a:Act}{w w':World}(h:ao P V W st a w)(hsz:w.heap.size<=w'.heap.size)(hos:w'.os=w.os)(ht:w'.tape=w.tape)(ho:w'.output=w.output)
  (hk:∀ k,b6 V W st k->w'.heap[k]?=w.heap[k]?) (d:Nat) (hd:d<V.nt) (hfix:∀ x∈V.fixt,x.1≠d) (n:Nat) (hn:(st d).ver<n) {p:Bool} {E:TypeId} {e:Ty} {xs:List e.den} {v:Value} {bs:List Nat}
  (ow:Ow w' (gd V W p) E e xs v bs) (hb:∀ k∈bs,¬ b6 V W st k):Rel P V (ac [(d,⟨n,.one,[.own p none E e xs]⟩)] st) (a.put (some d) v) w':=by
 refine⟨_,(h.world hV hsz hos ht ho hk).put hV d hd hfix n .one [.own p none E e xs] v [v] (λ_=>bs) hn rfl rfl (λu hu=>by simp at hu;subst hu;exact ow.one) ?_ ?_ ?_⟩
 ·intro j l u h1 h2;cases j with
  |zero=>simp at h1 h2;subst h1;subst h2;exact ow
  |succ j=>simp at h1
 ·intro j l h1 h2 k hk';have:=hb k hk';simp only[b6,not_or,not_exists,not_and]at this;exact⟨this.1,this.2.1,this.2.2.1,λr1 j1 l1 _ h3 h4=>this.2.2.2 r1 j1 l1 h3 h4⟩
 ·intro j j' l l' h1 h2 h3 h4 k h5 h6;have h7:j<1:=(AD.1 h1).1;have h8:j'<1:=(AD.1 h3).1;omega
theorem dt {W:Wit}{p q:Bool}{k1 k2:List (Nat×Nat)}:(∀ k,bo V W p k1 k->bo V W (p||q) (k1++k2) k)/\(∀ k,bo V W q k2 k->bo V W (p||q) (k1++k2) k):=by
 constructor
 ·rintro k (hk|⟨x,hx,hk⟩)
  ·exact .inl (bR (W':=W) (by intro h;simp[h]) (λ_ h=>h) k hk)
  ·exact .inr ⟨x,AJ _ hx,hk⟩
 ·rintro k (hk|⟨x,hx,hk⟩)
  ·exact .inl (bR (W':=W) (by intro h;simp[h]) (λ_ h=>h) k hk)
  ·exact .inr ⟨x,AE _ hx,hk⟩
theorem vZ (n:Nat)(bss:Nat->List Nat):(AO (n+1)).flatMap bss=bss 0++(AO n).flatMap λj=>bss (j+1):=by
 rw[List.range_succ_eq_map,Aw,Br]
theorem mW {W:Wit}{a:Act}{w:World}(hr:ao P V W st a w){e:Ty}:∀ (ps:List (Nat×Operand)) (k:Nat) (u:cA (List e.den)),dW st e k ps=some u ->
  ps.map (λx=>(x.1,a.eval x.2))=((ps.map λx=>a.eval x.2).zipIdx k).map (λx=>(x.2,x.1))/\u.val.length=ps.length/\(∀ x∈u.frz,aB st x)/\(∀ x∈u.kill,aB st x) /\
  ∃ bss:Nat->List Nat,aU W u.kill=(AO u.val.length).flatMap bss /\
   ∀ (j:Nat) (x:e.den),u.val[j]?=some x->∃ v c,(ps.map λx=>a.eval x.2)[j]?=some v/\v.cells=c.toArray/\Mx w (bo V W u.p u.frz) e none 0 x c (bss j)
 |[],k,u,h=>by
  simp only[dW,AA]at h;subst h;exact⟨rfl,rfl,by simp,by simp,λ_=>[],rfl,λj x hj=>by simp at hj⟩
 |(i,y)::ps,k,u,h=>by
  simp only[dW]at h;cases hb:AR i k&&decide ((ar st y).1=bj e.isAgg) with
  |false=>simp[hb]at h
  |true =>
   simp only[hb,cond_true]at h;simp only[AC,decide_eq_true_eq]at hb;have hik:=AI hb.1;subst hik;split at h
   ·rename_i t1 u1 hg hbe;simp only[AA]at h;subst h;obtain⟨h1,h2,h3,h4,bss,h5,h6⟩:=mW hr ps (i+1) u1 hbe;obtain⟨cs,hs,hl⟩:=cH hr y;rw[hb.2]at hs;have hc:=gj hs hl.one';obtain⟨g1,g2,g3⟩:=dq (pos:=0) hr hl hg;refine⟨by simp[h1],by simp[h2],λx hx=>(AM.1 hx).elim (g2 x) (h3 x),λx hx=>(AM.1 hx).elim (g3 x) (h4 x),λj=>match j with|0=>aU W t1.kill|j+1=>bss j,?_,?_⟩
    ·rw[dp,h5,BL,vZ]
    ·intro j x hj;cases j with
     |zero =>
      simp at hj;subst hj;exact⟨a.eval y,cs,by simp,hc,g1.mono dt.1⟩
     |succ j =>
      obtain⟨v,c,h7,h8,h9⟩:=h6 j x (by simpa using hj);exact⟨v,c,by simpa using h7,h8,h9.mono dt.2⟩
   ·cases h
theorem kI (w:World)(G:Nat->Prop):∀ (b:Ty),Rd w G b b.zero (zeroCells b)
 |.int _=>rfl
 |.bool=>rfl
 |.str=>rfl
 |.unit=>rfl
 |.hdr=>⟨none,0,rfl⟩
 |.pair a b=>⟨_,_,rfl,kI w G a,kI w G b⟩
 |.list m E e=>Rd.nil w G m E e
theorem pu (w:World)(G:Nat->Prop):∀ (b:Ty) (pos:Nat),Mx w G b none pos b.zero (zeroCells b) []
 |.int _,_=>⟨rfl,rfl⟩
 |.bool,_=>⟨rfl,rfl⟩
 |.str,_=>⟨rfl,rfl⟩
 |.unit,_=>⟨rfl,rfl⟩
 |.hdr,_=>⟨⟨none,0,rfl⟩,rfl⟩
 |.pair a b,_=>⟨_,_,[],[],rfl,rfl,pu w G a _,pu w G b _⟩
 |.list m E e,_=>by
  cases m with
  |false=>exact cn.2 ⟨rfl,Rd.nil w G false E e⟩
  |true=>exact (cd (by simp)).2 ⟨_,rfl,(OwH.nil w G E e).2⟩
theorem lm {W:Wit}{k:Nat}(h:¬ W.nw k/\¬ V.prot k/\(∀ b,live st b->W.β b≠k)/\∀ (r1 i:Nat) (l:Leaf),(st r1).ls[i]?=some l->an l->k∉W.bs r1 i):¬ b6 V W st k:=by
 rintro (hk|hk|⟨b,hb,e⟩|⟨r1,i,l,h1,h2,h3⟩)
 ·exact h.1 hk
 ·exact h.2.1 hk
 ·exact h.2.2.1 b hb e
 ·exact h.2.2.2 r1 i l h1 h2 h3
theorem ln:(9223372036854775807:Nat)<=maxLen:=by decide
theorem pv (hV:ax V)(hT:TOk P T)(hok:bL V o){t:TypeId}{n:Nat}{parts:Array (Nat×Operand)}(hop:o.op=.buildSlice t n parts)(h:act Γ T o st κ=some r):bU P V o st κ r:=by
 simp only[act,wrU,hop]at h;cases ht:T t with
 |slice E e bytes =>
  simp only[ht]at h;split at h
  ·rename_i u hbe;cases hb:AR u.val.length n&&decide (n*e.cells<=16777216)&&aX u.kill&&dg u.frz u.kill with
   |false=>simp[hb]at h
   |true =>
    simp only[hb,cond_true]at h;simp only[AC,decide_eq_true_eq]at hb;obtain⟨⟨⟨hb1,hb2⟩,hb3⟩,hb4⟩:=hb;have hxn:=AI hb1;subst hxn;split at h
    ·rename_i d hd;refine⟨_,h,λW a w hr next Q hn=>?_⟩;have h1:=hT t;rw[ht]at h1;obtain⟨hu,_,_,hcp,_,ti,z,hti,hsz,_,hz,hzc⟩:=h1;obtain⟨h2,h3,h4f,h4k,bss,hbs,h5⟩:=mW hr parts.toList 0 u hbe;generalize hxs:u.val=xs at *;have hvs:∀ v∈(parts.toList.map λx=>a.eval x.2),v.cells.size=e.cells:=by
      intro v hv;obtain⟨j,hj,e1⟩:=List.getElem_of_mem hv;have hj':j<xs.length:=by rw[h3];simpa using hj
      obtain⟨v',c,h6,h7,h8⟩:=h5 j xs[j] (AT hj');rw[AT hj]at h6;simp only[AA]at h6;rw[<- e1,h6,h7];simpa using h8.len
     have hvl:(parts.toList.map λx=>a.eval x.2).length=xs.length:=by rw[BA,h3]
     have hflat:∀ (j:Nat) (x:e.den),xs[j]?=some x->∃ c,Mx w (bo V W u.p u.frz) e none 0 x c (bss j)/\∀ i u,c[i]?=some u ->
       ((parts.toList.map λx=>a.eval x.2).flatMap λv=>v.cells.toList)[j*e.cells+i]?=some u:=by
      intro j x hj;obtain⟨v,c,h6,h7,h8⟩:=h5 j x hj;refine⟨c,h8,λi u hi=>?_⟩;have hil:i<e.cells:=by rw[<- h8.len];exact (AD.1 hi).1
      rw[Great.flat_get hcp _ hvs];have e1:(j*e.cells+i) / e.cells=j:=by
       rw[BO,Nat.mul_add_div hcp,Nat.div_eq_of_lt hil,Aj]
      have e2:(j*e.cells+i) % e.cells=i:=by
       rw[BO,B1,Bs hil]
      rw[e1,e2,h6];simpa[h7]using hi
     have hflen:((parts.toList.map λx=>a.eval x.2).flatMap λv=>v.cells.toList).length=xs.length*e.cells:=by
      have:∀ (vs:List Value),(∀ v∈vs,v.cells.size=e.cells)->(vs.flatMap λv=>v.cells.toList).length=vs.length*e.cells:=by
       intro vs;induction vs with
       |nil=>intro _;simp
       |cons v vs ih =>
        intro hv;rw[Aw,AS,ih (λu hu=>hv u (AP _ hu)),Ah,hv v (AW ..),BL,Ak];omega
      rw[this _ hvs,hvl]
     have hfill:=Great.fill_whole hcp (parts.toList.map λx=>a.eval x.2) ((Array.range (xs.length*e.cells)).map ((if xs.length*e.cells=0 then (#[]:Array Value) else z.cells)[· % (if xs.length*e.cells=0 then (#[]:Array Value) else z.cells).size]!)) hvs (by rw[hvl];simp);rw[<- h2]at hfill;have hpl:(parts.map λ (i,x)=>(i,a.eval x)).toList=parts.toList.map λx=>(x.1,a.eval x.2):=by rw[Bt]
     have hrun:(execOp a.eval o).run P w=.ok (.value (.slice (some ⟨w.heap.size,0,none⟩) xs.length xs.length)) (w.alloc (.cells ((parts.toList.map λx=>a.eval x.2).flatMap λv=>v.cells.toList).toArray E)):=by
      have hsmall:¬ (xs.length*e.cells>2 ^ 24):=by omega
      by_cases h0:xs.length*e.cells=0
      ·rw[if_pos h0]at hfill;simp only[execOp,hop,Instr.buildSlice,Bj,run_underlying hu,BG,sizeOf,typeInfo,hti,hsz,hpl];simp[hsmall,h0,newRow,hti,hsz,hpl]at hfill ⊢;simp[hfill]
      ·rw[if_neg h0]at hfill;have:=run_buildSlice (P:=P) w t E xs.length (parts.map λ (i,x)=>(i,a.eval x)) _ ti z hu hti hz (by rw[hsz];exact hsmall) (by rw[hsz];exact h0) (by rw[hsz,hpl];exact hfill);simp[execOp,hop,this]
     refine dA hrun ?_;rw[hd];refine hn _ _ ?_;rw[cj,aP];obtain⟨h6,_,_,h6k⟩:=eY hV hr hb4 h4k;have hul:=h6.used_lt;have hmax:xs.length<=maxLen:=by
      have:=ln;have:xs.length*1<=xs.length*e.cells:=BC _ hcp;omega
     have how:=World.ownsRow_lit (e:=E) (size:=e.cells) (base:=0) w ((parts.toList.map λx=>a.eval x.2).flatMap λv=>v.cells.toList).toArray xs.length (Bw _) hmax (by simpa using hflen);refine h6.putOwn hV (w':=w.alloc (.cells ((parts.toList.map λx=>a.eval x.2).flatMap λv=>v.cells.toList).toArray E)) (by simp) rfl rfl rfl (λk hk=>Go.heap_alloc_old w _ (hul k hk)) d (hok d hd).1 (hok d hd).2 _ (AL _) (bs:=w.heap.size::aU W u.kill) ?_ (λk hk hu=>?_)
     ·refine⟨At.2 ⟨λhm=>?_,f9 hr hb3 h4k⟩,_,bss,Row.of how,by rw[hbs];rfl,λj x hj=>?_⟩
      ·have:=(h6k _ hm).2.2.1;omega
      ·obtain⟨c,hc1,hc2⟩:=hflat j x hj;have hgl:∀ k,bo V W u.p u.frz k->k<w.heap.size:=λk hk=>by
        rcases jr h4f k hk with hk|⟨_,hk⟩
        ·exact (h6.nwlt k hk).1
        ·exact Am (hV.ro k hk).1 h6.size
       exact⟨c,hc1.carry (jr h4f) (λk hk=>Go.heap_alloc_old w _ (hgl k hk)) (λk hk=>Go.heap_alloc_old w _ (hc1.lt k hk)),λi u hi=>by simpa using hc2 i u hi⟩
     ·rcases A0.1 hk with rfl|hk
      ·have:=hul _ hu;omega
      ·have h7:=h6k k hk;exact lm ⟨h7.1,h7.2.1,h7.2.2.2.1,h7.2.2.2.2⟩ hu
    ·cases h
  ·cases h
 |_=>simp[ht]at h
theorem wa {w:World}{G:Nat->Prop}{E':TypeId}{src dst e:TypeId}(hs:P.underlying src=some (.slice e))(he:P.underlying e=some (.int .u8))(hd:P.underlying dst=some .string){xs:List Int}{v:Value}
  (h:Rd w G (.list false E' (.int .u8)) xs [v]):(convert src dst v).run P w=.ok (.string (fT xs)) w:=by
 obtain⟨A,cap,hv,hc,hel⟩:=h;simp only[BB,and_true]at hv;subst hv;cases A with
 |none =>
  have hx:xs=[]:=by
   cases xs with
   |nil=>rfl
   |cons x xs=>obtain⟨g,o,hA,_⟩:=hel (by simp);cases hA
  subst hx;show (convert src dst (.slice none 0 cap)).run P w=_;rw[run_convert_bytes_nil w src e hs he 0 cap dst hd];rfl
 |some ad =>
  cases hxs:xs with
  |nil =>
   subst hxs;show (convert src dst (.slice (some ad) 0 cap)).run P w=_;rw[run_convert_bytes_string w src dst e ad 0 cap hs he hd];simp[Conv.bytesToString,loadCells,loadCellsFrom];rfl
  |cons x0 xs0 =>
   rw[<- hxs];obtain⟨g,o,hA,_,hr⟩:=hel (by rw[hxs];simp);simp only[AA]at hA;subst hA;have:=run_convert_bytes_arg (P:=P) w src e hs he g o xs.length cap xs rfl (λi hi=>by
    obtain⟨c,hc1,hc2⟩:=hr i xs[i] (AT hi);have hc1:c=[.int .u8 xs[i]]:=hc1;subst hc1;have:=hc2 0 _ rfl;simp only[Ty.cells,BY,Aj]at this;rw[this];simp[List.getD,AT hi]) dst hd
   rw[this];rfl
theorem sU (hV:ax V)(hT:TOk P T)(hok:bL V o){s t:TypeId}{x:Operand}(hop:o.op=.convert s t x)(h:act Γ T o st κ=some r):bU P V o st κ r:=by
 simp only[act,wrU,hop]at h;have hti:=hT t;have hsi:=hT s;split at h
 ·rename_i k' k k'' n hs ht hx;split at h
  ·rename_i d hd;refine⟨_,h,λW a w hr=>aO hV hr hd hok (v:=.int k (k.wrap n)) ?_ rfl id rfl⟩;rw[ht]at hti;rw[hs]at hsi;simp[execOp,hop,bE hr hx,Go.convert,run_underlying hti.1,run_underlying hsi.1,Conv.intToInt]
  ·cases h
 ·rename_i E b hs ht;split at h
  ·rename_i p xs ha;split at h
   ·rename_i d hd;refine⟨_,h,λW a w hr=>?_⟩;have hdd:one st x≠.dead:=by intro e0;rw[e0]at ha;simp[aD,cV]at ha
    obtain⟨h1,h2,_⟩:=bu hr x hdd;have hrd:=jL (m:=false) (E:=E) hr h1 h2 ha;rw[ht]at hti;rw[hs]at hsi;refine aO hV hr hd hok (v:=.string (fT xs)) ?_ rfl id rfl;have:=wa (P:=P) hsi.1 (hsi.2.2.2.2.1.2 rfl) hti.1 hrd;simp[execOp,hop,this]
   ·cases h
  ·cases h
 ·rename_i E b s' hs ht hx;split at h
  ·rename_i d hd;refine⟨_,h,λW a w hr next Q hn=>?_⟩;rw[ht]at hti;rw[hs]at hsi;have hc:(dR s').length=s'.size:=by simp only[dR,BA,Ah];rfl
   have hrun:=Lib.run_convert_string_bytes (P:=P) w s t E s' hsi.1 hti.1 (hti.2.2.2.2.1.2 rfl);refine dA (v:=.slice (some ⟨w.heap.size,0,none⟩) s'.size (grownCap w s'.size 0 E)) (w':=Lib.bytesWorld w E s') (by simp[execOp,hop,gM hr hx,hrun]) ?_;rw[hd];refine hn _ _ ?_;have hge:=grownCap_ge w s'.size 0 E;have hcs:(Lib.bytesCells w E s').size=grownCap w s'.size 0 E:=by
    simp only[Lib.bytesCells,Bk,Array.size_map,Array.size_replicate];show s'.size+_=_;omega
   refine hr.putOwn hV (by rw[Lib.bytesWorld_size];omega) (by simp[Lib.bytesWorld,Bl,Bx,B6,-BZ,-Bd]) (by simp[Lib.bytesWorld,Bl,Bx,B6,-BZ,-Bd]) (by simp[Lib.bytesWorld,Bl,Bx,B6,-BZ,-Bd])
    (λk hk=>Lib.bytesWorld_at_old w E s' k (hr.used_lt k hk)) d (hok d hd).1 (hok d hd).2 _ (AL _) (bs:=[w.heap.size])
    ⟨by simp,(dR s').map (Value.int .u8),λ_=>[],⟨by rw[BA];exact (BY _).symm,.inr ⟨w.heap.size,_,_,_,by rw[hc],Lib.bytesWorld_at_new w E s',by rw[hc];exact hge,.inr ⟨rfl,AU _⟩,by rw[hcs];exact BM (BY _),?_⟩⟩,by simp[Ac],λj x hj=>?_⟩ (λk hk hu=>?_)
   ·simp only[Lib.bytesCells,Bc,Bt,Ty.cells,BY,dR,Bm];exact List.take_left' (by simp)
   ·refine⟨[.int .u8 x],⟨rfl,rfl⟩,λi u hi=>?_⟩
    match i,hi with
    |0,hi =>
     simp only[A2,AA]at hi;subst hi;simp[Ty.cells,hj]
   ·simp at hk;have:=hr.used_lt k hu;omega
  ·cases h
 ·cases h
theorem qD (hV:ax V)(hT:TOk P T)(hok:bL V o){t:TypeId}{n c:Operand}(hop:o.op=.makeSlice t n c)(h:act Γ T o st κ=some r):bU P V o st κ r:=by
 simp only[act,wrU,hop]at h;split at h
 ·rename_i E e bytes k1 m k2 m' ht hn1 hc1;cases hb:decide (0<=m)&&decide (m=m')&&decide (m*bytes<=(ah:Int)) with
  |false=>simp[hb]at h
  |true =>
   simp only[hb,cond_true]at h;simp only[AC,decide_eq_true_eq]at hb;obtain⟨⟨h0,rfl⟩,hby⟩:=hb;split at h
   ·rename_i d hd;refine⟨_,h,λW a w hr next Q hn=>?_⟩;have h1:=hT t;rw[ht]at h1;obtain⟨hu,_,_,hcp,hbp,ti,z,hti,hsz,hbt,hz,hzc⟩:=h1;have hm:(m.toNat:Int)=m:=by omega
    have hby':m.toNat*bytes<=ah:=by
     have:((m.toNat*bytes:Nat):Int)<=(ah:Int):=by rw[Int.natCast_mul,hm];exact hby
     omega
    have hml:m.toNat*1<=m.toNat*bytes:=BC _ hbp.1;simp only[ah]at hby';have hmax:=ln;obtain⟨w',hrun,how,hgrow⟩:=run_make_full (P:=P) w 0 t E ti z e.cells hu hti hz hsz k1 k2 m.toNat (by rw[hbt,BO];omega) (by omega) (Bw _);rw[hm]at hrun;refine dA (v:=.slice (some ⟨w.heap.size,0,none⟩) m.toNat m.toNat) (w':=w') (by simp[execOp,hop,bE hr hn1,bE hr hc1,hrun]) ?_;rw[hd];refine hn _ _ ?_;have hzs:z.cells.size=e.cells:=by
     have h2:=(kI w (λ_=>False) e).len;rw[<- Ah,hzc,h2]
    refine hr.putOwn hV hgrow.size hgrow.os hgrow.tape hgrow.output (λk hk=>hgrow.block k (hr.used_lt k hk) (by simp)) d (hok d hd).1 (hok d hd).2 _ (AL _) (bs:=[w.heap.size])
     ⟨by simp,_,λ_=>[],by rw[BU];exact Row.of how,by simp[Ac],λj x hj=>?_⟩ (λk hk hu=>?_)
    ·rw[A3]at hj;split at hj
     ·rename_i hjm;simp at hj;subst hj;refine⟨_,pu w' _ e 0,λi u hi=>?_⟩;have hil:i<e.cells:=by rw[<- (kI w' (λ_=>False) e).len];exact (AD.1 hi).1
      have hrow:(j+1)*e.cells<=m.toNat*e.cells:=AN _ hjm;rw[Ak]at hrow;have hlt:j*e.cells+i<m.toNat*e.cells:=by omega
      have e2:(j*e.cells+i) % e.cells=i:=by rw[BO,B1,Bs hil]
      have hu2:z.cells[i]?=some u:=by rw[<- BV,hzc];exact hi
      obtain⟨hi3,hu3⟩:=Array.getElem?_eq_some_iff.1 hu2;simp only[madeCells,BV,Array.getElem?_map,Array.getElem?_range,hlt,if_true,B2,hzs,e2];rw[getElem!_pos z.cells i (by omega),hu3]
     ·cases hj
    ·simp at hk;have:=hr.used_lt k hu;omega
   ·cases h
 ·cases h
theorem sV (n cap:Nat)(hc:n<=cap)(k k':IntKind)(w:World):(Bn true n cap none (some (.int k n)) (some (.int k' n))).run P w=.ok (0,n,n) w:=by
 simp[Bn,Instr.sliceBound,asIntOf,hc]
theorem uy (hV:ax V)(hT:TOk P T)(hok:bL V o){t:TypeId}{x m:Operand}{lo hi:Option Operand}(hop:o.op=.slice t x lo hi (some m))(h:act Γ T o st κ=some r):bU P V o st κ r:=by
 simp only[act,wrU,hop]at h;cases hd:o.dst with
 |none=>simp[hd]at h
 |some d =>
  simp only[hd]at h;split at h
  ·rename_i E' e' bytes r' j v ht hx;split at h
   ·rename_i p E e xs hdr;split at h
    ·rename_i hh k hhi hmx;cases hb:hi.isSome&&decide (hh=(xs.length:Int))&&decide (k=(xs.length:Int))&&AR e'.cells e.cells with
     |false=>rw[hb]at h;cases h
     |true =>
      rw[hb]at h;simp only[cond_true]at h;simp only[AC,decide_eq_true_eq]at hb;obtain⟨⟨⟨hb0,rfl⟩,rfl⟩,hb3⟩:=hb;have hb3:=AI hb3;refine⟨_,h,λW a w hr next Q hn=>?_⟩;have h1:=hT t;rw[ht]at h1;obtain⟨hu,_,_,_,_,ti,z,hti,hsz,_⟩:=h1;obtain⟨hlx,_,_,_,_⟩:=bu hr x (by rw[hx];simp);rw[hx]at hlx;obtain⟨h8,how,hpl,hcs⟩:=jp hr hdr hlx;obtain⟨y,hy,k1,hk1⟩:∃ y,hi=some y/\∃ k1,a.eval y=.int k1 xs.length:=by
       rcases lK hr hhi with ⟨h9,_⟩|⟨y,k1,h9,h10⟩
       ·rw[h9]at hb0;cases hb0
       ·exact⟨y,h9,k1,h10⟩
      obtain⟨k2,hk2⟩:∃ k2,a.eval m=.int k2 xs.length:=by
       rcases lK hr hmx with ⟨h9,_⟩|⟨y,k2,h9,h10⟩
       ·cases h9
       ·cases h9;exact⟨k2,h10⟩
      obtain⟨A,cap,hv,hcap⟩:=how.slice;have hE:=da (P:=P) (t:=E') (n:=e.cells) (by simp[bN,hti,hsz,hb3]) w;have hadd:(if xs.length=0 then A else A.map λx=>x.add (0*e.cells))=A:=by
       cases A with
       |none=>simp
       |some ad =>
        have e0:ad.add 0=ad:=by simp[Addr.add]
        show (if xs.length=0 then some ad else some (ad.add (0*e.cells)))=some ad;rw[Bo,e0];split <;> rfl
      refine dA (v:=.slice A xs.length xs.length) (w':=w) ?_ ?_
      ·simp only[execOp,hop,hv,hy,B2,BS,hk1,hk2,Instr.sliceAt,Instr.slice,Bj,run_underlying hu,BG,sV xs.length cap hcap k1 k2 w,hE,Sem.run_pure,BP,hadd]
      ·rw[hd];refine hn _ _ ?_;rw[cj,aP];have hkp:∀ z∈[(r',j)],aB st z:=λz hz=>by simp at hz;subst hz;exact⟨_,hpl,trivial⟩
       obtain⟨h6,_,_,h6k⟩:=eY (frz:=[]) (kill:=[(r',j)]) hV hr rfl hkp;have e1:aN (ac (aF st []) st) [(r',j)]++aF st []=aN st [(r',j)]:=Aa _;rw[e1]at h6 h6k;have hbs:aU W [(r',j)]=W.bs r' j:=by simp[aU]
       rw[hbs]at h6k;obtain⟨hnd,flat,bss,hrow,hbs2,hel⟩:=how;refine h6.putOwn hV (w':=w) (AU _) rfl rfl rfl (λ_ _=>rfl) d (hok d hd).1 (hok d hd).2 _ (AL _) (bs:=W.bs r' j) ?_ (λk hk=>lm ⟨(h6k k hk).1,(h6k k hk).2.1,(h6k k hk).2.2.2.1,(h6k k hk).2.2.2.2⟩);have hgd:∀ k,gd V W p k->gd V (W.frz st []) p k:=bR (W':=W.frz st []) (λh=>h) (λ_ h=>Or.inl h);refine OwH.carry (G:=gd V W p) ⟨hnd,flat,bss,⟨hrow.1,?_⟩,?_,hel⟩ hgd (λ_ _=>rfl) (λ_ _=>rfl)
       ·rcases hrow.2 with ⟨h7,h9⟩|⟨g,cap',cur,mk,h7,h9,h10,h11,h12,h13⟩
        ·rw[hv]at h7;simp only[Ag]at h7;exact .inl ⟨by rw[h7.1,h9],h9⟩
        ·rw[hv]at h7;simp only[Ag,true_and]at h7;exact .inr ⟨g,xs.length,cur,mk,by rw[h7.1],h9,AU _,h11.imp (λh=>⟨h.1,Aq h10 h.2⟩) id,Aq (AN _ h10) h12,h13⟩
       ·rw[hbs2,hv];cases A <;> rfl
    ·cases h
   ·cases h
  ·cases h
theorem wb (hV:ax V)(hT:TOk P T)(hok:bL V o){t:TypeId}{x:Operand}{lo hi mx:Option Operand}(hop:o.op=.slice t x lo hi mx)(h:act Γ T o st κ=some r):bU P V o st κ r:=by
 cases mx with
 |none=>exact tW hV hT hok hop h
 |some m=>exact uy hV hT hok hop h
theorem yA (hV:ax V)(hok:bL V o){c:Call}(hop:o.op=.call c)(hc:c.callee=.builtin .min)(h:act Γ T o st κ=some r):bU P V o st κ r:=by
 simp only[act,wrU,hop,hc]at h;split at h
 ·cases h
 ·rename_i d hd;simp only[hd]at h;split at h
  ·rename_i x y hx;split at h
   ·rename_i k1 m k2 n hm hn;have hargs:c.args=#[x,y]:=by rw[<- Ad (xs:=c.args),hx]
    refine⟨_,h,λW a w hr=>aO hV hr hd hok (v:=.int k1 (bif decide (n<m) then n else m)) ?_ rfl id rfl⟩;cases hdec:decide (n<m) <;> simp[execOp,hop,hc,resolve,invoke,builtin,hargs,bE hr hm,bE hr hn,Builtin.min_,Builtin.min2] <;> simp at hdec <;> omega
   ·cases h
  ·cases h
theorem yB (hV:ax V)(hok:bL V o){c:Call}(hop:o.op=.call c)(hc:c.callee=.builtin .max)(h:act Γ T o st κ=some r):bU P V o st κ r:=by
 simp only[act,wrU,hop,hc]at h;split at h
 ·cases h
 ·rename_i d hd;simp only[hd]at h;split at h
  ·rename_i x y hx;split at h
   ·rename_i k1 m k2 n hm hn;have hargs:c.args=#[x,y]:=by rw[<- Ad (xs:=c.args),hx]
    refine⟨_,h,λW a w hr=>aO hV hr hd hok (v:=.int k1 (bif decide (m<n) then n else m)) ?_ rfl id rfl⟩;cases hdec:decide (m<n) <;> simp[execOp,hop,hc,resolve,invoke,builtin,hargs,bE hr hm,bE hr hn,Builtin.max_,Builtin.max2] <;> simp at hdec <;> omega
   ·cases h
  ·cases h
end
section
variable {P:Program} {V:Env} {W:Wit} {st st':St} {w w':World} {a:Act}
theorem ao.putGhost (hV:ax V)(h:ao P V W st a w)(d:Nat)(hd:GH<=d)(hdB:d<B0)(n:Nat)(sh:aI)(ls:List Leaf)
  (csd:List Value) (bsd:Nat->List Nat) (hn:(st d).ver<n) (hl:ls.length=csd.length) (h1:∀ u∈csd,u.oneCell'=true)
  (hleaf:∀ (j:Nat) (l:Leaf) (u:Value),ls[j]?=some l->csd[j]?=some u->aK P V W st w (bsd j) l u)
  (hown:∀ (j:Nat) (l:Leaf),ls[j]?=some l->an l->∀ k∈bsd j,¬ W.nw k/\¬ V.prot k/\(∀ b,live st b->W.β b≠k) /\
   ∀ (r1 j1:Nat) (l1:Leaf),r1≠d->(st r1).ls[j1]?=some l1->an l1->k∉W.bs r1 j1)
  (hsep:∀ (j j':Nat) (l l':Leaf),ls[j]?=some l->an l->ls[j']?=some l'->an l'->∀ k,k∈bsd j->k∈bsd j'->j=j') :
  ao P V { W with cs:=λr=>if r=d then csd else W.cs r,bs:=λr j=>if r=d then bsd j else W.bs r j } (ac [(d,⟨n,sh,ls⟩)] st) a w /\
   co V W { W with cs:=λr=>if r=d then csd else W.cs r,bs:=λr j=>if r=d then bsd j else W.bs r j } st (ac [(d,⟨n,sh,ls⟩)] st) w w:=by
 have hl':∀ b,live (ac [(d,⟨n,sh,ls⟩)] st) b<->live st b:=by
  intro b;by_cases hb:B0<=b
  ·rw[live,live,aJ (by omega)]
  ·simp[live,hb]
 have hstep:co V W { W with cs:=λr=>if r=d then csd else W.cs r,bs:=λr j=>if r=d then bsd j else W.bs r j } st (ac [(d,⟨n,sh,ls⟩)] st) w w:=by
  refine⟨λq=>?_,λb hb=>⟨(hl' b).2 hb,rfl⟩,λ_ h=>h,λ_ _=>rfl,λ_ q j' l' h3 h4 h5=>?_⟩
  ·rcases am d q ⟨n,sh,ls⟩ st with ⟨rfl,e⟩|⟨hne,e⟩
   ·rw[e];exact⟨Nat.le_of_lt hn,λe=>absurd e (by show n≠_;omega)⟩
   ·rw[e];exact⟨AU _,λ_=>by simp[hne]⟩
  ·rcases am d q ⟨n,sh,ls⟩ st with ⟨rfl,e⟩|⟨hne,e⟩
   ·rw[e]at h5;exact absurd h5 (by show n≠_;omega)
   ·rw[e]at h3;exact⟨⟨l',h3,h4⟩,by simp[hne],λ_ _=>rfl⟩
 refine⟨?_,hstep⟩
 exact {
  nt:=h.nt,df:=h.df
  slots:=λt ht=>by
   have:t≠d:=by omega
   rw[aJ this];simpa[this]using h.slots t ht
  boxes:=λb hb=>by
   have:b≠d:=by omega
   rw[aJ this];simpa[this]using h.boxes b hb
  len:=λq=>by
   rcases am d q ⟨n,sh,ls⟩ st with ⟨rfl,e⟩|⟨hne,e⟩
   ·rw[e];simpa using hl
   ·rw[e];simpa[hne]using h.len q
  one:=λq u hu=>by
   by_cases hq:q=d
   ·simp only[hq,if_true]at hu;exact h1 u hu
   ·simp only[hq,if_false]at hu;exact h.one q u hu
  leaf:=λq j l u h2 h3=>by
   rcases am d q ⟨n,sh,ls⟩ st with ⟨rfl,e⟩|⟨hne,e⟩
   ·rw[e]at h2;simp only[if_true]at h3;exact (hleaf j l u h2 h3).carry hV.ro hstep (λ_=>⟨by simp,λ_ _=>rfl⟩)
   ·rw[e]at h2;simp only[hne,if_false]at h3;exact (h.leaf q j l u h2 h3).carry hV.ro hstep (λ_=>⟨by simp[hne],λ_ _=>rfl⟩)
  ownb:=λq j l h2 h3 k hk=>by
   rcases am d q ⟨n,sh,ls⟩ st with ⟨rfl,e⟩|⟨hne,e⟩
   ·rw[e]at h2;simp only[if_true]at hk;have:=hown j l h2 h3 k hk;exact⟨this.1,this.2.1,λb hb=>this.2.2.1 b ((hl' b).1 hb)⟩
   ·rw[e]at h2;simp only[hne,if_false]at hk;have:=h.ownb q j l h2 h3 k hk;exact⟨this.1,this.2.1,λb hb=>this.2.2 b ((hl' b).1 hb)⟩
  sep:=λq j l q' j' l' h2 h3 h4 h5 k hk hk'=>by
   rcases am d q ⟨n,sh,ls⟩ st with ⟨e0,e⟩|⟨hne,e⟩ <;> rcases am d q' ⟨n,sh,ls⟩ st with ⟨e1,e'⟩|⟨hne',e'⟩
   ·rw[e]at h2;rw[e']at h4;simp only[e0,if_true]at hk;simp only[e1,if_true]at hk';exact⟨e0.trans e1.symm,hsep j j' l l' h2 h3 h4 h5 k hk hk'⟩
   ·rw[e]at h2;rw[e']at h4;simp only[e0,if_true]at hk;simp only[hne',if_false]at hk';exact absurd hk' ((hown j l h2 h3 k hk).2.2.2 q' j' l' hne' h4 h5)
   ·rw[e]at h2;rw[e']at h4;simp only[hne,if_false]at hk;simp only[e1,if_true]at hk';exact absurd hk ((hown j' l' h4 h5 k hk').2.2.2 q j l hne h2 h3)
   ·rw[e]at h2;rw[e']at h4;simp only[hne,if_false]at hk;simp only[hne',if_false]at hk';exact h.sep q j l q' j' l' h2 h3 h4 h5 k hk hk'
  box:=λb hb=>h.box b ((hl' b).1 hb)
  inj:=λb b' hb hb'=>h.inj b b' ((hl' b).1 hb) ((hl' b').1 hb')
  nwlt:=h.nwlt
  os:=h.os,tape:=h.tape,output:=h.output,size:=h.size,keep:=h.keep
  fixb:=λx hx=>⟨(hl' _).2 (h.fixb x hx).1,(h.fixb x hx).2⟩
  fixt:=h.fixt }
theorem fI {off:Nat}:∀ {a:Ty} {pos:Nat} {x:a.den} {u:(E:TypeId)×(e:Ty)×List e.den},be off a pos x=some u->pos<=off/\off<pos+a.cells
 |.pair a b,pos,x,u,h=>by
  simp only[be]at h;split at h
  ·rename_i v hv;have:=fI hv;simp only[Ty.cells];omega
  ·have:=fI h;simp only[Ty.cells];omega
 |.list m E e,pos,xs,u,h=>by
  simp only[be]at h;cases hb:m&&AR pos off with
  |false=>simp[hb]at h
  |true =>
   simp only[AC]at hb;have:=AI hb.2;simp only[Ty.cells];omega
 |.int _,_,_,_,h=>by simp[be]at h
 |.bool,_,_,_,h=>by simp[be]at h
 |.str,_,_,_,h=>by simp[be]at h
 |.unit,_,_,_,h=>by simp[be]at h
 |.hdr,_,_,_,h=>by simp[be]at h
theorem l6 {off:Nat}:∀ {a:Ty} {pos:Nat} {x:a.den} {E:TypeId} {e:Ty} {ys:List e.den},be off a pos x=some ⟨E,e,ys⟩->e.shy=true->a.shy=true
 |.pair a b,pos,x,E,e,ys,h,hs=>by
  simp only[be]at h;simp only[Ty.shy,B3];split at h
  ·rename_i v hv;simp only[AA]at h;subst h;exact .inl (l6 hv hs)
  ·exact .inr (l6 h hs)
 |.list m E' e',pos,xs,E,e,ys,h,hs=>by
  simp only[be]at h;cases hb:m&&AR pos off with
  |false=>simp[hb]at h
  |true =>
   rw[hb]at h;simp only[cond_true,AA,Sigma.mk.injEq]at h;obtain⟨rfl,h⟩:=h;rw[heq_eq_eq,Sigma.mk.injEq]at h;obtain⟨rfl,_⟩:=h;simp[Ty.shy,hs]
 |.int _,_,_,_,_,_,h,_=>by simp[be]at h
 |.bool,_,_,_,_,_,h,_=>by simp[be]at h
 |.str,_,_,_,_,_,h,_=>by simp[be]at h
 |.unit,_,_,_,_,_,h,_=>by simp[be]at h
 |.hdr,_,_,_,_,_,h,_=>by simp[be]at h
theorem Mx.hol_out {G:Nat->Prop}{o:Nat}:∀ {a:Ty} {pos:Nat} {x:a.den} {cs:List Value} {bs:List Nat},(o<pos\/pos+a.cells<=o)->(Mx w G a none pos x cs bs<->Mx w G a (some o) pos x cs bs)
 |.int _,_,_,_,_,_=>BF
 |.bool,_,_,_,_,_=>BF
 |.str,_,_,_,_,_=>BF
 |.unit,_,_,_,_,_=>BF
 |.hdr,_,_,_,_,_=>BF
 |.pair a b,pos,x,cs,bs,ho=>by
  simp only[Ty.cells]at ho;constructor
  ·rintro⟨c1,c2,b1,b2,e1,e2,h1,h2⟩;exact⟨c1,c2,b1,b2,e1,e2,(Mx.hol_out (by omega)).1 h1,(Mx.hol_out (by omega)).1 h2⟩
  ·rintro⟨c1,c2,b1,b2,e1,e2,h1,h2⟩;exact⟨c1,c2,b1,b2,e1,e2,(Mx.hol_out (by omega)).2 h1,(Mx.hol_out (by omega)).2 h2⟩
 |.list m E e,pos,xs,cs,bs,ho=>by
  simp only[Ty.cells]at ho;cases m with
  |false=>rw[cn,cn]
  |true=>rw[cd (by simp),cd (by simp only[ne_eq,AA];omega)]
theorem Mx.out {G:Nat->Prop}{off:Nat}{E:TypeId}{e:Ty}{ys:List e.den}:∀ {a:Ty} {pos:Nat} {x:a.den} {cs:List Value} {bs:List Nat},Mx w G a none pos x cs bs->be off a pos x=some ⟨E,e,ys⟩ ->
  ∃ v bn b',OwB w G none E e ys v bn/\cs[off-pos]?=some v/\Mx w G a (some off) pos x cs b'/\∀ k,bs.count k=b'.count k+bn.count k
 |.pair a b,pos,x,cs,bs,⟨c1,c2,b1,b2,e1,e2,h1,h2⟩,h=>by
  have hl:=h1.len;simp only[be]at h;split at h
  ·rename_i u hu;simp only[AA]at h;subst h;have hin:=fI hu;obtain⟨v,bn,b',g1,g2,g3,g4⟩:=Mx.out h1 hu;refine⟨v,bn,b'++b2,g1,?_,⟨c1,c2,b',b2,e1,rfl,g3,(Mx.hol_out (by omega)).1 h2⟩,λk=>?_⟩
   ·rw[e1,AH (by omega)];exact g2
   ·rw[e2,AF,AF,g4 k];omega
  ·rename_i hu;have hin:=fI h;obtain⟨v,bn,b',g1,g2,g3,g4⟩:=Mx.out h2 h;refine⟨v,bn,b1++b',g1,?_,⟨c1,c2,b1,b',e1,rfl,(Mx.hol_out (by omega)).1 h1,g3⟩,λk=>?_⟩
   ·rw[e1,AG (by omega),hl,show off-pos-a.cells=off-(pos+a.cells) by omega];exact g2
   ·rw[e2,AF,AF,g4 k];omega
 |.list m E' e',pos,xs,cs,bs,H,h=>by
  simp only[be]at h;cases hb:m&&AR pos off with
  |false=>simp[hb]at h
  |true =>
   rw[hb]at h;simp only[cond_true,AA,Sigma.mk.injEq]at h;obtain⟨rfl,h⟩:=h;simp only[AC]at hb;obtain⟨rfl,hb⟩:=hb;have hb:=AI hb;subst hb;rw[heq_eq_eq,Sigma.mk.injEq]at h;obtain⟨rfl,h⟩:=h;rw[heq_eq_eq]at h;subst h;have hone:=H.one;rw[cd (by simp)]at H;obtain⟨v,rfl,hO⟩:=H;exact⟨v,bs,[],hO,by simp,ii.2 ⟨v,rfl,hone v (by simp),rfl⟩,λk=>by simp⟩
 |.int _,_,_,_,_,_,h=>by simp[be]at h
 |.bool,_,_,_,_,_,h=>by simp[be]at h
 |.str,_,_,_,_,_,h=>by simp[be]at h
 |.unit,_,_,_,_,_,h=>by simp[be]at h
 |.hdr,_,_,_,_,_,h=>by simp[be]at h
theorem Mx.back {G:Nat->Prop}{off:Nat}{E:TypeId}{e:Ty}{ys:List e.den}{v:Value}{bn:List Nat}(hO:OwB w G none E e ys v bn):∀ {a:Ty} {pos:Nat} {x z:a.den} {cs:List Value} {b':List Nat},Mx w G a (some off) pos x cs b'->bK off E e ys a pos x=some z ->
  cs[off-pos]?=some v->∃ bs,Mx w G a none pos z cs bs/\∀ k,bs.count k=b'.count k+bn.count k
 |.pair a b,pos,x,z,cs,bs,⟨c1,c2,b1,b2,e1,e2,h1,h2⟩,h,hc=>by
  have hl:=h1.len;simp only[bK]at h;split at h
  ·rename_i u hu;simp only[AA]at h;subst h;have hin:=set_in hu;obtain⟨b',g1,g2⟩:=Mx.back hO h1 hu (by rw[e1,AH (by omega)]at hc;exact hc);refine⟨b'++b2,⟨c1,c2,b',b2,e1,rfl,g1,(Mx.hol_out (by omega)).2 h2⟩,λk=>?_⟩;rw[e2,AF,AF,g2 k];omega
  ·rename_i hu;simp only[AB]at h;obtain⟨u,hu,rfl⟩:=h;have hin:=set_in hu;obtain⟨b',g1,g2⟩:=Mx.back hO h2 hu (by
    rw[e1,AG (by omega),hl]at hc;rw[show off-(pos+a.cells)=off-pos-a.cells by omega];exact hc)
   refine⟨b1++b',⟨c1,c2,b1,b',e1,rfl,(Mx.hol_out (by omega)).2 h1,g1⟩,λk=>?_⟩;rw[e2,AF,AF,g2 k];omega
 |.list m E' e',pos,xs,z,cs,bs,H,h,hc=>by
  simp only[bK]at h;cases hb:m&&AR pos off with
  |false=>simp[hb]at h
  |true =>
   rw[hb]at h;simp only[cond_true]at h;obtain⟨rfl,rfl,rfl⟩:=iO h;simp only[AC]at hb;obtain⟨rfl,hb⟩:=hb;have hb:=AI hb;subst hb;rw[ii]at H;obtain⟨v',rfl,h1,rfl⟩:=H;simp only[Nat.sub_self,A2,AA]at hc;subst hc;exact⟨bn,(cd (by simp)).2 ⟨v',rfl,hO⟩,λk=>by simp⟩
 |.int _,_,_,_,_,_,_,h,_=>by simp[bK]at h
 |.bool,_,_,_,_,_,_,h,_=>by simp[bK]at h
 |.str,_,_,_,_,_,_,h,_=>by simp[bK]at h
 |.unit,_,_,_,_,_,_,h,_=>by simp[bK]at h
 |.hdr,_,_,_,_,_,_,h,_=>by simp[bK]at h
where
 set_in {off:Nat} {E:TypeId} {e:Ty} {ys:List e.den}:∀ {a:Ty} {pos:Nat} {x z:a.den},bK off E e ys a pos x=some z->pos<=off/\off<pos+a.cells
  |.pair a b,pos,x,z,h=>by
   simp only[bK]at h;split at h
   ·rename_i u hu;have:=set_in hu;simp only[Ty.cells];omega
   ·simp only[AB]at h;obtain⟨u,hu,_⟩:=h;have:=set_in hu;simp only[Ty.cells];omega
  |.list m E' e',pos,xs,z,h=>by
   simp only[bK]at h;cases hb:m&&AR pos off with
   |false=>simp[hb]at h
   |true =>
    simp only[AC]at hb;have:=AI hb.2;simp only[Ty.cells];omega
  |.int _,_,_,_,h=>by simp[bK]at h
  |.bool,_,_,_,h=>by simp[bK]at h
  |.str,_,_,_,h=>by simp[bK]at h
  |.unit,_,_,_,h=>by simp[bK]at h
  |.hdr,_,_,_,h=>by simp[bK]at h
end
section
variable {P:Program} {V:Env} {W W' W2:Wit} {st st' st2:St} {w w' w2:World} {a:Act}
theorem co.trans (h:co V W W' st st' w w')(h2:co V W' W2 st' st2 w' w2):co V W W2 st st2 w w2:=by
 refine⟨λr=>⟨Aq (h.ver r).1 (h2.ver r).1,λe=>?_⟩,λb hb=>?_,λk hk=>h2.nw k (h.nw k hk),λk hk=>?_,λhe r j l h3 h4 h5=>?_⟩
 ·have h3:=(h.ver r).1;have h4:=(h2.ver r).1;rw[(h2.ver r).2 (by omega),(h.ver r).2 (by omega)]
 ·obtain⟨h3,h4⟩:=h.box b hb;obtain⟨h5,h6⟩:=h2.box b h3;exact⟨h5,h6.trans h4⟩
 ·rw[h2.heap k (hk.imp (h.nw k) id),h.heap k hk]
 ·have e1:=(h.ver EPO).1;have e2:=(h2.ver EPO).1;have e3:=(h.ver r).1;have e4:=(h2.ver r).1;obtain⟨⟨l',g1,g2⟩,g6,g7⟩:=h2.epo (by omega) r j l h3 h4 (by omega);obtain⟨g5,g3,g4⟩:=h.epo (by omega) r j l' g1 g2 (by omega);exact⟨g5,g6.trans g3,λk hk=>(g7 k (by rw[g3];exact hk)).trans (g4 k hk)⟩
theorem pw {n i:Nat}(hi:i<n)(bss:Nat->List Nat)(b bn:List Nat)(hb:∀ k,(bss i).count k=b.count k+bn.count k)(ob:List Nat)(k:Nat) :
  (ob++(AO n).flatMap bss).count k=(ob++(AO n).flatMap λj=>if j=i then b else bss j).count k+bn.count k:=by
 have:=jB hi bss b k;have:=hb k;rw[AF,AF];omega
theorem OwH.out {G:Nat->Prop}{E E1:TypeId}{e e1:Ty}{xs:List e.den}{v:Value}{bs:List Nat}{i off:Nat}{y:e.den}{ys:List e1.den}(H:Ow w G E e xs v bs)(hy:xs[i]?=some y)(hg:be off e 0 y=some ⟨E1,e1,ys⟩) :
  ∃ u bn bs',OwH w G (some (i,off)) E e xs v bs'/\Ow w G E1 e1 ys u bn/\(∀ g cap,v=.slice (some ⟨g,0,none⟩) xs.length cap->w.cell? ⟨g,i*e.cells+off,none⟩=some u)/\∀ k,bs.count k=bs'.count k+bn.count k:=by
 obtain⟨hnd,flat,bss,h1,h2,h3⟩:=H;have hil:i<xs.length:=(AD.1 hy).1;obtain⟨c,hm,hc⟩:=h3 i y hy;have hm:Mx w G e none 0 y c (bss i):=hm;obtain⟨u,bn,b',g1,g2,g3,g4⟩:=hm.out hg;have hcnt:=pw hil bss b' bn g4 v.ownBlock.toList;rw[<- h2]at hcnt;have hnd2:=bz.1 hnd;refine⟨u,bn,v.ownBlock.toList++(AO xs.length).flatMap λj=>if j=i then b' else bss j,⟨bz.2 λk=>by have:=hnd2 k;have:=hcnt k;omega,flat,_,h1,rfl,λj x hj=>?_⟩,
  ⟨bz.2 λk=>by have:=hnd2 k;have:=hcnt k;omega,g1⟩,λg cap hv=>?_,hcnt⟩
 ·by_cases hji:j=i
  ·subst hji;rw[hy]at hj;simp only[AA]at hj;subst hj;refine⟨c,?_,hc⟩;simp only[cB,Nat.beq_refl,cond_true,if_true];exact g3
  ·obtain⟨c',h4,h5⟩:=h3 j x hj;refine⟨c',?_,h5⟩;have:AR i j=false:=by
    cases hb:AR i j with
    |false=>rfl
    |true=>exact absurd (AI hb).symm hji
   simp only[cB,this,cond_false,if_neg hji];exact h4
 ·subst hv;have hin:=fI hg;have hlt:i*e.cells+off<xs.length*e.cells:=by
   have:=AN e.cells (show i+1<=xs.length from hil);rw[BH,Nat.one_mul]at this;omega
  rw[h1.cellAt _ hlt];exact hc off u (by simpa using g2)
theorem OwH.back {G:Nat->Prop}{E E1:TypeId}{e e1:Ty}{xs:List e.den}{v u:Value}{bs bn:List Nat}{i off:Nat}{y z:e.den}{ys:List e1.den}(H:OwH w G (some (i,off)) E e xs v bs)(hn:Ow w G E1 e1 ys u bn)
  (hd:∀ k∈bn,k∉bs) (hy:xs[i]?=some y) (hs:bK off E1 e1 ys e 0 y=some z) (hcell:∀ g cap,v=.slice (some ⟨g,0,none⟩) xs.length cap->w.cell? ⟨g,i*e.cells+off,none⟩=some u) :
  ∃ bs',Ow w G E e (xs.set i z) v bs'/\∀ k,bs'.count k=bs.count k+bn.count k:=by
 obtain⟨hnd,flat,bss,h1,h2,h3⟩:=H;have hil:i<xs.length:=(AD.1 hy).1;obtain⟨c,hm,hc⟩:=h3 i y hy;have hhol:cB (some (i,off)) i=some off:=by simp[cB]
 rw[hhol]at hm;have hin:=Mx.back.set_in hs;have hcl:=hm.len;have hcoff:c[off-0]?=some u:=by
  rcases h1.2 with ⟨rfl,h0⟩|⟨g,cap,cur,_,rfl,_⟩
  ·omega
  ·have h4:=hcell g cap rfl;have hlt:i*e.cells+off<xs.length*e.cells:=by
    have:=AN e.cells (show i+1<=xs.length from hil);rw[BH,Nat.one_mul]at this;omega
   rw[h1.cellAt _ hlt]at h4;have h5:off<c.length:=by omega
   have h6:=hc off _ (AT h5);rw[h4]at h6;rw[BP,AT h5,h6]
 obtain⟨b1,g1,g2⟩:=Mx.back hn.2 hm hs hcoff;have hcnt:∀ k,(v.ownBlock.toList++(AO xs.length).flatMap λj=>if j=i then b1 else bss j).count k=bs.count k+bn.count k:=by
  intro k;have h4:=jB hil bss b1 k;have h5:=g2 k;rw[h2,AF,AF];omega
 refine⟨_,⟨(lZ hnd hn.1 hd (λk=>BM (hcnt k))).1,flat,_,by rw[Au];exact h1,by rw[Au],λj x hj=>?_⟩,hcnt⟩;rcases aQ _ _ _ _ _ hj with ⟨rfl,rfl,_⟩|⟨hij,hj⟩
 ·refine⟨c,?_,hc⟩;simp only[if_true];exact g1
 ·obtain⟨c',h4,h5⟩:=h3 j x hj;refine⟨c',?_,h5⟩;have:AR i j=false:=by
   cases hb:AR i j with
   |false=>rfl
   |true=>exact absurd (AI hb).symm hij
  have e0:cB (some (i,off)) j=none:=by simp[cB,this]
  rw[e0]at h4;simp only[if_neg hij];exact h4
theorem hZ:GH<=TMP/\TMP<B0/\TMP≠EPO:=by decide
def rZ (W:Wit)(S:St)(w:World)(r j:Nat)(v:Value):Prop :=
 r≠TMP/\r≠EPO/\∃ (i off:Nat) (p:Bool) (E:TypeId) (e:Ty) (xs:List e.den) (g cap:Nat),(S r).ls[j]?=some (.own p (some (i,off)) E e xs)/\(W.cs r)[j]?=some (.slice (some ⟨g,0,none⟩) xs.length cap) /\
  g∈W.bs r j/\w.cell? ⟨g,i*e.cells+off,none⟩=some v
theorem tC (hV:ax V)(h:ao P V W st a w){l l':Leaf}{U:Upd}{v:Value}(hl:aK P V W st w [] l v)(hn:cg st l=some (U,l')) :
  ∃ W0 n p0 E0 e0 xs0,ao P V W0 (ac U st) a w/\co V W W0 st (ac U st) w w/\l'=.al TMP 0 n/\aK P V W0 (ac U st) w [] l' v/\(ac U st TMP).ver=n/\(ac U st TMP).ls=[.own p0 none E0 e0 xs0] /\
   W0.nw=W.nw/\W0.β=W.β/\(∀ q,q≠TMP->W0.cs q=W.cs q)/\W0.cs TMP=[v]/\(∀ q,(ac U st q).sh=(st q).sh\/q=TMP)/\rZ W0 (ac U st) w (jf l).1 (jf l).2 v:=by
 cases l with
 |nal p ks ep loc E e xs =>
  simp only[cg]at hn;cases hvk:br st ks ep with
  |false=>simp[hvk]at hn
  |true =>
   rw[hvk]at hn;simp only[cond_true]at hn;split at hn
   ·rename_i r j n0 i sz off;split at hn
    ·rename_i p' E' e' xs' hg;cases hb:!AR r TMP&&!AR r EPO&&AR sz e'.cells with
     |false=>simp[hb]at hn
     |true =>
      rw[hb]at hn;simp only[cond_true]at hn;simp only[AC,AX]at hb;obtain⟨⟨hb1,hb2⟩,hb3⟩:=hb;have hb3:=AI hb3;subst hb3;have hrT:r≠TMP:=λe=>by subst e;simp at hb1
      have hrE:r≠EPO:=λe=>by subst e;simp at hb2
      split at hn
      ·rename_i y hy;split at hn
       ·rename_i E1 e1 ys hga;simp only[AA,Al]at hn;obtain⟨rfl,rfl⟩:=hn;have hnal:=oa hvk hl;obtain⟨r',j',n',hks,g,len,cap,hcs,hil,hgb,hcell⟩:=hnal.at_ i _ off rfl;simp only[BB,Al,and_true]at hks;obtain⟨rfl,rfl,rfl⟩:=hks;have hlj:(st r).ls[j]?=some (.own p' none E' e' xs'):=by
         rw[Ao]at hg;cases hq:(st r).ls[j]? with
         |none=>rw[hq]at hg;simp at hg
         |some l0=>rw[hq]at hg;simp at hg;rw[hg]
        have how:=h.leaf r j _ _ hlj hcs;have how:Ow w (gd V W p') E' e' xs' _ (W.bs r j):=how;have hlen:len=xs'.length:=by
         obtain⟨A,cap',e0,_⟩:=how.slice;simp only[Ag]at e0;exact e0.2.1
        subst hlen;obtain⟨u,bn,bs',g1,g2,g3,g4⟩:=how.out hy hga;have hu:u=v:=by
         have:=g3 g cap rfl;rw[this]at hcell;exact Option.some.inj hcell
        subst hu;have hnd:=bz.1 how.1;have hsub:∀ k∈bs',k∈W.bs r j:=λk hk=>AK.1 (by have:=g4 k;have:=AK.2 hk;omega)
        have hsubn:∀ k∈bn,k∈W.bs r j/\k∉bs':=λk hk=>by
         have h5:=g4 k;have h6:=AK.2 hk;have h7:=hnd k;refine⟨AK.1 (by omega),λhk'=>?_⟩;have:=AK.2 hk';omega
        have hfree:∀ k∈W.bs r j,tB V W st r j k:=λk hk=>by
         have h9:=h.ownb r j _ hlj trivial k hk;exact⟨h9.1,h9.2.1,h9.2.2,λr1 i1 l1 hl1 ho1 hne hk1=>hne (by obtain⟨e1,e2⟩:=h.sep r1 i1 l1 r j _ hl1 ho1 hlj trivial k hk1 hk;rw[e1,e2])⟩
        have hR:vX st (ac [(r,⟨(st r).ver,(st r).sh,aR (st r).ls j (.own p' (some (i,off)) E' e' xs')⟩)] (ac [(EPO,bT (st EPO))] st)) r j (.own p' (some (i,off)) E' e' xs'):=by
         refine⟨λq=>?_,λq=>?_,?_,λq=>?_,λl hl=>?_,λq i' l hq hl=>?_⟩
         ·rcases am r q ⟨(st r).ver,(st r).sh,aR (st r).ls j (.own p' (some (i,off)) E' e' xs')⟩ (ac [(EPO,bT (st EPO))] st) with ⟨rfl,e⟩|⟨_,e⟩
          ·rw[e]
          ·rw[e];rcases am EPO q (bT (st EPO)) st with ⟨rfl,e⟩|⟨_,e⟩ <;> rw[e];rfl
         ·rcases am r q ⟨(st r).ver,(st r).sh,aR (st r).ls j (.own p' (some (i,off)) E' e' xs')⟩ (ac [(EPO,bT (st EPO))] st) with ⟨rfl,e⟩|⟨_,e⟩
          ·rw[e];exact AU _
          ·rw[e];rcases am EPO q (bT (st EPO)) st with ⟨rfl,e⟩|⟨_,e⟩ <;> rw[e]
           ·exact Bv _
           ·exact AU _
         ·rw[aJ (Ay hrE),bk];exact AL _
         ·rcases am r q ⟨(st r).ver,(st r).sh,aR (st r).ls j (.own p' (some (i,off)) E' e' xs')⟩ (ac [(EPO,bT (st EPO))] st) with ⟨rfl,e⟩|⟨_,e⟩
          ·rw[e];simp[aR]
          ·rw[e];rcases am EPO q (bT (st EPO)) st with ⟨rfl,e⟩|⟨_,e⟩ <;> rw[e];rfl
         ·rw[bk]at hl;rcases aQ _ _ _ _ _ hl with ⟨_,rfl,_⟩|⟨hne,_⟩
          ·rfl
          ·exact absurd rfl hne
         ·rcases am r q ⟨(st r).ver,(st r).sh,aR (st r).ls j (.own p' (some (i,off)) E' e' xs')⟩ (ac [(EPO,bT (st EPO))] st) with ⟨rfl,e⟩|⟨_,e⟩
          ·rw[e]at hl;rcases aQ _ _ _ _ _ hl with ⟨rfl,_,_⟩|⟨_,hl⟩
           ·exact absurd rfl hq
           ·exact hl
          ·rw[e]at hl;rcases am EPO q (bT (st EPO)) st with ⟨rfl,e⟩|⟨_,e⟩ <;> rw[e]at hl <;> exact hl
        have h1:=h.retell hV hR hlj trivial hcs trivial (bs':=bs') g1 (λk hk=>hfree k (hsub k hk)) (λ_ _ _=>rfl) (AU _) rfl rfl rfl;have hs1:co V W (W.tell r j bs') st (ac [(r,⟨(st r).ver,(st r).sh,aR (st r).ls j (.own p' (some (i,off)) E' e' xs')⟩)] (ac [(EPO,bT (st EPO))] st)) w w :=
         ⟨λq=>⟨hR.ver q,λ_=>rfl⟩,λb hb=>⟨(gN hR.sh b).2 hb,rfl⟩,λ_ h=>h,λ_ _=>rfl,λhe=>by have:=hR.epo;omega⟩
        have hvT:(ac [(r,⟨(st r).ver,(st r).sh,aR (st r).ls j (.own p' (some (i,off)) E' e' xs')⟩)] (ac [(EPO,bT (st EPO))] st) TMP).ver=(st TMP).ver:=by
         rw[aJ (Ay hrT),aJ hZ.2.2]
        obtain⟨h2,hs2⟩:=h1.putGhost hV TMP hZ.1 hZ.2.1 ((st TMP).ver+1) .one [.own (p'&&e'.shy) none E1 e1 ys] [u] (λ_=>bn) (by rw[hvT];exact AL _) rfl (λx hx=>by simp at hx;subst hx;exact g2.one)
         (λq l x hq hx=>by
          cases q with
          |zero=>simp at hq hx;subst hq;subst hx;exact⟨g2.1,(OwB.shy g2.2).carry (bR (W':=W) (by intro hh;simp only[AC]at hh ⊢;exact⟨hh.1,l6 hga hh.2⟩) (λ_ h=>h)) (λ_ _=>rfl) (λ_ _=>rfl)⟩
          |succ q=>simp at hq)
         (λq l hq _ k hk=>by
          obtain⟨q1,q2,q3,q4⟩:=hfree k (hsubn k hk).1;refine⟨q1,q2,λb hb=>q3 b ((gN hR.sh b).1 hb),λr1 i1 l1 _ hl1 ho1 hk1=>?_⟩;by_cases hq:(r1,i1)=(r,j)
          ·cases hq;rw[show (W.tell r j bs').bs r j=bs' from if_pos rfl]at hk1;exact (hsubn k hk).2 hk1
          ·rw[show (W.tell r j bs').bs r1 i1=W.bs r1 i1 from if_neg hq]at hk1;exact q4 r1 i1 l1 (hR.old r1 i1 l1 hq hl1) ho1 hq hk1)
         (λq q' l l2 h1 h2 h3 h4 k h5 h6=>by
          have h7:q<1:=(AD.1 h1).1;have h8:q'<1:=(AD.1 h3).1;omega)
        have hlook:ac [(r,⟨(st r).ver,(st r).sh,aR (st r).ls j (.own p' (some (i,off)) E' e' xs')⟩),(TMP,⟨(st TMP).ver+1,.one,[.own (p'&&e'.shy) none E1 e1 ys]⟩),(EPO,bT (st EPO))] st =
          ac [(TMP,⟨(st TMP).ver+1,.one,[.own (p'&&e'.shy) none E1 e1 ys]⟩)] (ac [(r,⟨(st r).ver,(st r).sh,aR (st r).ls j (.own p' (some (i,off)) E' e' xs')⟩)] (ac [(EPO,bT (st EPO))] st)):=by
         rw[aP r,aP TMP,lX hrT]
        rw[hlook];refine⟨_,_,_,_,_,_,h2,hs1.trans hs2,rfl,⟨by rw[bk];exact AU _,λ_=>by simp⟩,by rw[bk],by rw[bk],rfl,rfl,λq hq=>by simp[hq,Wit.tell],by simp,λq=>?_,hrT,hrE,i,off,p',E',e',xs',g,cap,?_,?_,?_,hcell⟩
        ·by_cases hq:q=TMP
         ·exact .inr hq
         ·rw[aJ hq];exact .inl (hR.sh q)
        ·show (ac [(TMP,_)] _ r).ls[j]?=_;rw[aJ hrT,bk];simp only[aR];rw[A5 (AD.1 hlj).1]
        ·show (if r=TMP then _ else W.cs r)[j]?=_;rw[if_neg hrT];exact hcs
        ·show g∈(if r=TMP then _ else (W.tell r j bs').bs r j);rw[if_neg hrT,show (W.tell r j bs').bs r j=bs' from if_pos rfl];obtain⟨_,flat,bss,_,q2,_⟩:=g1;rw[q2];simp[Ac]
       ·cases hn
      ·cases hn
    ·cases hn
   ·cases hn
 |_=>simp[cg]at hn
theorem gq {R:Type}(l:Leaf)(κ:Upd->Leaf->Option R):kP st l κ=(cg st l).bind λu=>κ u.1 u.2:=by
 cases l with
 |nal p ks ep loc E e xs =>
  simp only[kP,cg];cases br st ks ep with
  |false=>rfl
  |true =>
   simp only[cond_true];split
   ·rename_i r j n i sz off;split
    ·rename_i p' E' e' xs' _;cases !AR r TMP&&!AR r EPO&&AR sz e'.cells with
     |false=>rfl
     |true =>
      simp only[cond_true];have hidx:idx xs' (i:Int)=xs'[i]?:=by
       unfold idx;rw[if_neg (by omega)];simp
      rw[hidx];cases xs'[i]? with
      |none=>rfl
      |some y =>
       simp only[Option.bind_some];cases be off e' 0 y with
       |none=>rfl
       |some u=>rfl
    ·rfl
   ·rfl
 |_=>rfl
end
theorem qg {w:World}{α:Type}{s g:Nat}:∀ (ys:List α) (o:Nat) (Q:Nat->α->List Value->Prop),(∀ j x c,Q j x c->c.length=s/\∀ u∈c,u.oneCell'=true)->(∀ (j:Nat) (x:α),ys[j]?=some x->∃ c,Q j x c/\cJ w g (o+j*s) c) ->
  ∃ news:List Value,news.length=ys.length*s/\(∀ j u,news[j]?=some u->w.cell? ⟨g,o+j,none⟩=some u)/\(∀ u∈news,u.oneCell'=true) /\
   ∀ (j:Nat) (x:α),ys[j]?=some x->∃ c,Q j x c/\∀ i u,c[i]?=some u->news[j*s+i]?=some u
 |[],o,_,_,_=>⟨[],by simp,by simp,by simp,by simp⟩
 |y::ys,o,Q,hQ,h=>by
  obtain⟨c,hr,hc⟩:=h 0 y rfl;obtain⟨news,h1,h2,h3,h4⟩:=qg ys (o+s) (λj=>Q (j+1)) (λj=>hQ (j+1)) (λj x hj=>by
   obtain⟨c',hr',hc'⟩:=h (j+1) x (by simpa using hj);refine⟨c',hr',?_⟩;rw[Ak]at hc';have:o+s+j*s=o+(j*s+s):=by omega
   rw[this];exact hc')
  obtain⟨hcl,hco⟩:=hQ 0 y c hr;refine⟨c++news,by rw[AS,h1,hcl,BL,Ak];omega,?_,?_,?_⟩
  ·intro j u hj;by_cases hlt:j<c.length
   ·rw[AH hlt]at hj;have:=hc j u hj
    rwa [Bo,Aj]at this
   ·rw[AG (by omega)]at hj;have:=h2 (j-c.length) u hj;have e1:o+s+(j-c.length)=o+j:=by omega
    rwa [e1]at this
  ·intro u hu;rcases AM.1 hu with hu|hu
   ·exact hco u hu
   ·exact h3 u hu
  ·intro j x hj;cases j with
   |zero =>
    simp at hj;subst hj;refine⟨c,hr,λi u hi=>?_⟩;have hil:=(AD.1 hi).1;rw[Bo,Az,AH hil];exact hi
   |succ j =>
    obtain⟨c',hr',hc'⟩:=h4 j x (by simpa using hj);refine⟨c',hr',λi u hi=>?_⟩;rw[Ak,AG (by omega)];rw[<- hc' i u hi];congr 1;omega
theorem iW {P:Program}(g o:Nat)(t:TypeId)(mk:Nat×Nat):∀ (vs:List Value) (i:Nat) (cur:Array Value) (w:World),w.heap[g]?=some (.cells cur t mk)->(mk.2=0\/cur.size<=mk.1)->o+i+vs.length<=cur.size->(∀ v∈vs,v.oneCell'=true) ->
  (storeCells ⟨g,o,none⟩ vs i).run P w=.ok () (w.setRow g (cur.toList.take (o+i)++vs++cur.toList.drop (o+i+vs.length)).toArray)
 |[],i,cur,w,hg,_,_,_=>by
  simp only[storeCells,Aa,A9,Aj,List.take_append_drop,Ad];rw[setRow_self w g cur t mk hg];rfl
 |v::rest,i,cur,w,hg,hm,hl,h1=>by
  have hi:o+i<cur.size:=by simp at hl;omega
  have hadd:(⟨g,o,none⟩:Addr).add i=⟨g,o+i,none⟩:=by unfold Addr.add;split <;> simp_all
  have hst:(store ((⟨g,o,none⟩:Addr).add i) v).run P w=.ok () (w.setRow g (cur.setIfInBounds (o+i) v)):=by
   rw[hadd,run_store P w _ v _ (h1 v (by simp)),cell_of_row w g _ cur t mk hg,Array.getElem?_eq_getElem hi];simp[pL hg hm hi,setCell_eq_setRow w g (o+i) cur t mk v hg]
  have ih:=iW (P:=P) g o t mk rest (i+1) (cur.setIfInBounds (o+i) v) (w.setRow g (cur.setIfInBounds (o+i) v)) (setRow_heap w g cur _ t _ hg) (by simpa using hm) (by simp at hl ⊢;omega) (λx hx=>h1 x (by simp[hx]));simp only[storeCells,Bj,hst,BG,ih,setRow_setRow];congr 3;have e:=list_seg_step cur.toList (o+i) v rest (by simp at hl ⊢;omega);simpa[Array.toList_setIfInBounds,B9]using e
theorem l7 {P:Program}(w:World)(t ty e:TypeId)(i:TypeInfo)(ht:P.underlying t=some (.slice e))(hi:P.info? e=some i)
  (g sLen sCap:Nat) (cur:Array Value) (mk:Nat×Nat) (hg:w.heap[g]?=some (.cells cur e mk)) (hm:mk.2=0\/cur.size<=mk.1)
  (a:Addr) (m c:Nat) (news:List Value) (hl:news.length=m*i.size) (hnews:∀ j u,news[j]?=some u->w.cell? (a.add j)=some u) (h1:∀ u∈news,u.oneCell'=true)
  (hroom:sLen+m<=sCap) (hfit:sLen*i.size+news.length<=cur.size) :
  (Ai #[t,t] ty #[.slice (some ⟨g,0,none⟩) sLen sCap,.slice (some a) m c]).run P w =
   .ok (.slice (some ⟨g,0,none⟩) (sLen+m) sCap) (w.setRow g (cur.toList.take (sLen*i.size)++news++cur.toList.drop (sLen*i.size+news.length)).toArray):=by
 have hf:=run_firstCells_some (P:=P) w i.size m a m c news hl hnews;have hst:=iW (P:=P) g (sLen*i.size) e mk news 0 cur w hg hm (by simpa using hfit) h1;simp only[Aj]at hst;simp[Ai,run_underlying ht,sizeOf,typeInfo,hi,BJ,hroom,hf,Addr.add_lit,hst]
theorem pz {P:Program}(w:World)(t ty e:TypeId)(i:TypeInfo)(z:Value)(size bytes:Nat)(ht:P.underlying t=some (.slice e))(hi:P.info? e=some i)(hz:i.zero=some z)
  (hsize:i.size=size) (hby:i.bytes=bytes) (hzs:z.cells.size=size)
  (v:Value) (n:Nat) (xs:List Value) (hown:Row w e size v n xs)
  (a:Addr) (m c:Nat) (news:List Value) (hl:news.length=m*size) (hnews:∀ j u,news[j]?=some u->w.cell? (a.add j)=some u) (h1:∀ u∈news,u.oneCell'=true)
  (h63:n+m<=maxLen) (hbytes:(n+m)*bytes<=140737488355328) :
  ∃ v' w',(Ai #[t,t] ty #[v,.slice (some a) m c]).run P w=.ok v' w'/\Row w' e size v' (n+m) (xs++news)/\w.grownBy w' v.ownBlock/\(v'.ownBlock=v.ownBlock\/v'.ownBlock=some w.heap.size):=by
 subst hsize;subst hby;have hsmall:n+m<=9223372036854775807:=by simp only[maxLen]at h63;omega
 have hlen:(xs++news).length=(n+m)*i.size:=by rw[AS,hown.1,hl,BH]
 have grown:∀ (old:Nat),old<n+m->∀ (row:Option Nat),
   Row (w.drew.alloc (.cells (xs.toArray++news.toArray++Bp z.cells (grownCap w (n+m) old e-(n+m))) e)) e i.size
    (.slice (some ⟨w.heap.size,0,none⟩) (n+m) (grownCap w (n+m) old e)) (n+m) (xs++news) /\
   w.grownBy (w.drew.alloc (.cells (xs.toArray++news.toArray++Bp z.cells (grownCap w (n+m) old e-(n+m))) e)) row:=by
  intro old ho row;have hge:=grownCap_ge w (n+m) old e;have hcm:grownCap w (n+m) old e<=maxLen:=grownCap_le_maxLen w (n+m) old e h63;refine⟨⟨hlen,.inr ⟨w.heap.size,_,_,_,rfl,heap_alloc_new w.drew _,hge,.inl ⟨rfl,hcm⟩,?_,?_⟩⟩,⟨rfl,rfl,rfl,by simp,λk hk _=>Go.heap_alloc_old w.drew _ hk⟩⟩
  ·simp only[Bk,A4,size_zeroCells,hzs,hown.1,hl,<- BH];exact AN _ (by omega)
  ·simp only[Bc,AQ];rw[<- AQ,<- hlen];exact B7
 rcases hown.2 with ⟨rfl,rfl⟩|⟨g,cap,cur,mk,rfl,hg,hnc,hcm,hcs,htake⟩
 ·have hx:xs=[]:=AV (by simpa using hown.1);subst hx;by_cases hm:m=0
  ·subst hm;have hn:news=[]:=AV (by simpa using hl);subst hn;refine⟨.slice none 0 0,w,?_,Row.nil w e i.size,⟨rfl,rfl,rfl,AU _,λ_ _ _=>rfl⟩,.inl rfl⟩;simp[Ai,run_underlying ht,sizeOf,typeInfo,hi,BJ,BE,loadCells,loadCellsFrom]
  ·have hr:=run_append_nil (P:=P) w t ty e i z ht hi hz a m c news hl hnews (by omega) (by omega) (by have hb:=hbytes;simp only[Az]at hb;omega);have hgr:=grown 0 (by omega) (Ac (.slice none 0 0));simp only[Az,B4,Array.empty_append]at hgr ⊢;exact⟨_,_,hr,hgr.1,hgr.2,.inr rfl⟩
 ·by_cases hroom:n+m<=cap
  ·have hfit:n*i.size+news.length<=cur.size:=by rw[hl,<- BH];exact Aq (AN _ hroom) hcs
   have hr:=l7 (P:=P) w t ty e i ht hi g n cap cur mk hg (xB hcm) a m c news hl hnews h1 hroom hfit;have hsz':(cur.toList.take (n*i.size)++news++cur.toList.drop (n*i.size+news.length)).toArray.size=cur.size:=by
    simp only[A4,AS,Ab,BK,Ah];omega
   refine⟨_,_,hr,⟨hlen,.inr ⟨g,cap,_,mk,rfl,setRow_heap w g cur _ e _ hg,hroom,hcm.imp id (λh=>⟨h.1,?_⟩),?_,?_⟩⟩,⟨rfl,rfl,rfl,by simp,λk _ hk=>setRow_other w g k _ (λe=>hk (by simp[Ac,e]))⟩,.inl rfl⟩
   ·rw[hsz'];exact h.2
   ·rw[hsz'];exact hcs
   ·rw[htake,<- hlen];exact B7
  ·have holds:∀ j u,xs[j]?=some u->w.cell? ((⟨g,0,none⟩:Addr).add j)=some u:=λj u hj=>by
    rw[et,Az,hown.cellAt _ (by rw[<- hown.1];exact (AD.1 hj).1)];exact hj
   have hr:=run_append_grow (P:=P) w t ty e i z ht hi hz ⟨g,0,none⟩ n cap xs hown.1 holds a m c news hl hnews (by omega) (by omega) (growslice_fits (by omega) hbytes);have hgr:=grown cap (by omega) (Ac (.slice (some ⟨g,0,none⟩) n cap));exact⟨_,_,hr,hgr.1,hgr.2,.inr rfl⟩
theorem l8 {P:Program}(w:World)(t ty e:TypeId)(i:TypeInfo)(size c:Nat)(ht:P.underlying t=some (.slice e))(hi:P.info? e=some i)
  (v:Value) (n:Nat) (xs:List Value) (hown:Row w e size v n xs) :
  (Ai #[t,t] ty #[v,.slice none 0 c]).run P w=.ok v w:=by
 rcases hown.2 with ⟨rfl,rfl⟩|⟨g,cap,cur,_,rfl,_,hnc,_⟩
 ·simp[Ai,run_underlying ht,sizeOf,typeInfo,hi,BJ,BE]
 ·simp[Ai,run_underlying ht,sizeOf,typeInfo,hi,BJ,BE,hnc,storeCells]
theorem ir {α:Type}{f g:α->List Nat}:∀ {l:List α},(∀ x∈l,f x=g x)->l.flatMap f=l.flatMap g
 |[],_=>rfl
 |x::l,h=>by rw[Aw,Aw,h x (AW ..),ir (λy hy=>h y (AP _ hy))]
theorem xg (n m:Nat)(f g:Nat->List Nat):(AO (n+m)).flatMap (λj=>if j<n then f j else g (j-n))=(AO n).flatMap f++(AO m).flatMap g:=by
 rw[List.range_add,List.flatMap_append,Br];congr 1
 ·refine ir λj hj=>?_
  rw[if_pos (BX.1 hj)]
 ·refine ir λj _=>?_
  rw[if_neg (by omega),show n+j-n=j by omega]
def uz (w:World)(G:Nat->Prop)(e:Ty)(ys:List e.den)(u:Value)(bss:Nat->List Nat):Prop :=
 ∃ A cap,u=.slice A ys.length cap/\(0<ys.length->∃ g o,A=some ⟨g,o,none⟩/\∀ j (x:e.den),ys[j]?=some x->∃ c,Mx w G e none 0 x c (bss j)/\cJ w g (o+j*e.cells) c)
section
variable {P:Program} {V:Env} {Γ:List Ctr} {T:TypeId->TI} {st:St} {o:Oper} {R:Type} {κ:Upd->Option R} {r:R}
theorem uA {w:World}{t ty E:TypeId}{e e':Ty}{bytes:Nat}(hti:ni P t (.slice E e bytes))(hsh:e'.cells=e.cells){G G2 G':Nat->Prop}{xs ys:List e'.den}{v u:Value}{bs:List Nat}{bsy:Nat->List Nat}(hx:Ow w G E e' xs v bs)
  (hy:uz w G2 e' ys u bsy) (hsz:(xs.length+ys.length)*bytes<=ah) (hG:∀ k,G k->G' k) (hG2:∀ k,G2 k->G' k) (hG':∀ k,G' k->k<w.heap.size/\v.ownBlock≠some k) (hby:∀ j,j<ys.length->∀ k∈bsy j,v.ownBlock≠some k) :
  ∃ v' w' bs',(Ai #[t,t] ty #[v,u]).run P w=.ok v' w'/\w.grownBy w' v.ownBlock/\OwB w' G' none E e' (xs++ys) v' bs' /\
   ∀ k,bs'.count k<=bs.count k+(((AO ys.length).flatMap bsy)++[w.heap.size]).count k:=by
 obtain⟨hu,_,_,hcp,hbp,ti,z,hi,hs,hb,hz,hzc⟩:=hti;obtain⟨hnd,flat,bss,ho,hbs,hfl⟩:=hx;obtain⟨A,cap,hu',hel⟩:=hy;subst hu';have hs':ti.size=e'.cells:=by rw[hsh];exact hs
 have hcar:∀ (w':World),w.grownBy w' v.ownBlock->∀ k,G' k->w'.heap[k]?=w.heap[k]?:=λw' hg k hk=>hg.block k (hG' k hk).1 (Ay (hG' k hk).2)
 have hml:xs.length+ys.length<=maxLen:=by
  have h1:(xs.length+ys.length)*1<=(xs.length+ys.length)*bytes:=BC _ hbp.1;have:=ln;simp only[ah]at hsz;omega
 have fin:∀ (news:List Value),(∀ (j:Nat) (x:e'.den),ys[j]?=some x->∃ c,Mx w G2 e' none 0 x c (bsy j)/\∀ i u,c[i]?=some u->news[j*e'.cells+i]?=some u) ->
   ∀ v' w',Row w' E e'.cells v' (xs.length+ys.length) (flat++news)->w.grownBy w' v.ownBlock->(v'.ownBlock=v.ownBlock\/v'.ownBlock=some w.heap.size) ->
    ∃ bs',OwB w' G' none E e' (xs++ys) v' bs'/\∀ k,bs'.count k<=bs.count k+(((AO ys.length).flatMap bsy)++[w.heap.size]).count k:=by
  intro news hn v' w' how hg hat;refine⟨v'.ownBlock.toList++(AO (xs.length+ys.length)).flatMap (λj=>if j<xs.length then bss j else bsy (j-xs.length)),⟨flat++news,_,by rw[AS];exact how,by rw[AS],λj x hj=>?_⟩,λk=>?_⟩
  ·by_cases hlt:j<xs.length
   ·rw[AH hlt]at hj;obtain⟨c,hr,hc⟩:=hfl j x hj;have hr:Mx w G e' none 0 x c (bss j):=hr;refine⟨c,?_,λi u hi=>?_⟩
    ·rw[if_pos hlt];refine hr.carry hG (λk hk=>hcar w' hg k (hG k hk)) λk hk=>hg.block k (hr.lt k hk) (λe0=>?_)
     have h5:=bz.1 hnd k;rw[hbs,<- e0,AF]at h5;have h6:0<((AO xs.length).flatMap bss).count k:=AK.2 (dz.2 ⟨j,hlt,hk⟩);simp at h5;omega
    ·have:=hc i u hi;rw[AH (AD.1 this).1];exact this
   ·rw[AG (by omega)]at hj;obtain⟨c,hr,hc⟩:=hn _ x hj;have hjl:=(AD.1 hj).1;refine⟨c,?_,λi u hi=>?_⟩
    ·rw[if_neg hlt];exact hr.carry hG2 (λk hk=>hcar w' hg k (hG2 k hk)) λk hk=>hg.block k (hr.lt k hk) (Ay (hby _ hjl k hk))
    ·have:=hc i u hi;have hfll:=ho.1;have hge:xs.length*e'.cells<=j*e'.cells:=AN _ (Nat.le_of_not_lt hlt);rw[AG (by omega),<- this,hfll,Nat.sub_mul];congr 1;omega
  ·rw[xg,hbs];simp only[AF];rcases hat with h5|h5
   ·rw[h5];omega
   ·rw[h5];simp only[Bf];omega
 cases A with
 |none =>
  have hy0:ys.length=0:=by
   rcases Bg ys.length with h|h
   ·exact h
   ·obtain⟨g,o,hA,_⟩:=hel h;cases hA
  have hy0:=AV hy0;subst hy0;have hrun:=l8 (P:=P) w t ty E ti e'.cells cap hu hi v xs.length flat ho;have hg:w.grownBy w v.ownBlock:=⟨rfl,rfl,rfl,AU _,λ_ _ _=>rfl⟩;obtain⟨bs',h1,h2⟩:=fin [] (by simp) v w (by simpa using ho) hg (.inl rfl);exact⟨v,w,bs',hrun,hg,h1,h2⟩
 |some ad =>
  have hex:∃ news:List Value,news.length=ys.length*e'.cells/\(∀ j u,news[j]?=some u->w.cell? (ad.add j)=some u)/\(∀ u∈news,u.oneCell'=true) /\
    ∀ (j:Nat) (x:e'.den),ys[j]?=some x->∃ c,Mx w G2 e' none 0 x c (bsy j)/\∀ i u,c[i]?=some u->news[j*e'.cells+i]?=some u:=by
   rcases Bg ys.length with h|h
   ·have hy0:=AV h;subst hy0;exact⟨[],by simp,by simp,by simp,by simp⟩
   ·obtain⟨g,o,hA,he⟩:=hel h;simp at hA;subst hA;obtain⟨news,h1,h2,h3,h4⟩:=qg ys o (λj x c=>Mx w G2 e' none 0 x c (bsy j)) (λj x c hq=>⟨hq.len,hq.one⟩) he;exact⟨news,h1,λj u hj=>by rw[et];exact h2 j u hj,h3,h4⟩
  obtain⟨news,h1,h2,h3,h4⟩:=hex;have hzs:z.cells.size=e'.cells:=by
   have h2:=(kI w (λ_=>False) e).len;rw[<- Ah,hzc,h2,hsh]
  obtain⟨v',w',hrun,how,hg,hat⟩:=pz (P:=P) w t ty E ti z e'.cells bytes hu hi hz hs' hb hzs v xs.length flat ho ad ys.length cap news h1 h2 h3 hml (by simpa[ah]using hsz);obtain⟨bs',h5,h6⟩:=fin news h4 v' w' how hg hat;exact⟨v',w',bs',hrun,hg,h5,h6⟩
theorem uB {W:Wit}{a:Act}{w:World}(h:ao P V W st a w){E:TypeId}{e:Ty}{y:Leaf}{u:Value}{t:cA (List e.den)}(hl:aC P V W st w [y] [u])(ht:fj st E e y=some t) :
  (∃ bsy,uz w (bo V W t.p t.frz) e t.val u bsy/\∀ k,((AO t.val.length).flatMap bsy).count k<=(aU W t.kill).count k)/\(∀ x∈t.frz,aB st x)/\(∀ x∈t.kill,aB st x):=by
 have shared:∀ {p q:Bool} {xs:List e.den} {ks:List (Nat×Nat)},cV e (aD st y)=some (p,xs)->(∀ (S:Nat->Prop) (x:e.den) (c:List Value),Rd w (bo V W p (bB st [y])) e x c->Mx w (bo V W q ks) e none 0 x c []) ->
   ∃ bsy,uz w (bo V W q ks) e xs u bsy/\∀ k,((AO xs.length).flatMap bsy).count k<=(aU W []).count k:=by
  intro p q xs ks ha hm;obtain⟨A,cap,hu,_,hx⟩:=jL (m:=false) (E:=E) h hl.1.1 hl.1.2.1 ha;have hu:u=.slice A xs.length cap:=by simpa using hu
  refine⟨(λ_=>[]:Nat->List Nat),⟨A,cap,hu,λhp=>?_⟩,λk=>by rw[show ((AO xs.length).flatMap λ_=>([]:List Nat))=[] from by simp];exact Bw _⟩;obtain⟨g,o',hA,_,hel⟩:=hx hp;exact⟨g,o',hA,λj x hj=>by
   obtain⟨c,hr,hc⟩:=hel j x hj;exact⟨c,hm (λ_=>True) x c hr,hc⟩⟩
 unfold fj at ht;cases hf:e.flat with
 |true =>
  rw[hf]at ht;simp only[cond_true,AB]at ht;obtain⟨⟨p,xs⟩,ha,rfl⟩:=ht;exact⟨shared ha (λ_ x c hr=>Mx.flat hf hr),by simp,by simp⟩
 |false =>
  rw[hf]at ht;simp only[cond_false]at ht;cases hs:decide (e.sh=e) with
  |true =>
   rw[hs]at ht;simp only[cond_true,AB]at ht;obtain⟨⟨p,xs⟩,ha,rfl⟩:=ht;exact⟨shared ha (λ_ x c hr=>Mx.shared (of_decide_eq_true hs) hr),λx hx=>dN hl hx,by simp⟩
  |false =>
   rw[hs]at ht;simp only[cond_false,AB]at ht;obtain⟨t',ha,rfl⟩:=ht;obtain⟨h1,h2,h3⟩:=dq (pos:=0) h hl ha;have h1:Mx w (bo V W t'.p t'.frz) (.list true E e) none 0 t'.val [u] (aU W t'.kill):=h1;rw[cd (by simp)]at h1;obtain⟨v,hv,flat,bss,h4,h5,h6⟩:=h1;simp only[BB,and_true]at hv;subst hv;refine⟨⟨bss,?_,λk=>?_⟩,h2,h3⟩
   ·rcases h4.2 with ⟨hn,h0⟩|⟨g,cap,cur,_,hv,hg,hnc,_⟩
    ·exact⟨none,0,by rw[hn];show _=Value.slice none (By t'.val) 0;rw[h0],λhp=>by have hp:0<By t'.val:=hp;omega⟩
    ·refine⟨some ⟨g,0,none⟩,cap,hv,λhp=>⟨g,0,rfl,λj x hj=>?_⟩⟩;obtain⟨c,h7,h8⟩:=h6 j x hj;have h7:Mx w (bo V W t'.p t'.frz) e none 0 x c (bss j):=h7;refine⟨c,h7,λi u hi=>?_⟩;have h9:=h8 i u hi;rw[Az];rw[hv]at h4;rw[h4.cellAt _ (by rw[<- h4.1];exact (AD.1 h9).1)];exact h9
   ·show ((AO (By t'.val)).flatMap bss).count k<=(aU W t'.kill).count k;rw[h5,AF];omega
theorem yC {l l':Leaf}{U:Upd}(hn:cg st l=some (U,l')):∃ n,l'=.al TMP 0 n:=by
 cases l with
 |nal p ks ep loc E e xs =>
  simp only[cg]at hn;cases hvk:br st ks ep with
  |false=>simp[hvk]at hn
  |true =>
   rw[hvk]at hn;simp only[cond_true]at hn;split at hn
   ·rename_i r j n0 i sz off;split at hn
    ·rename_i p' E' e' xs' hg;cases hb:!AR r TMP&&!AR r EPO&&AR sz e'.cells with
     |false=>simp[hb]at hn
     |true =>
      rw[hb]at hn;simp only[cond_true]at hn;split at hn
      ·split at hn
       ·simp only[AA,Al]at hn;exact⟨_,hn.2.symm⟩
       ·cases hn
      ·cases hn
    ·cases hn
   ·cases hn
 |_=>simp[cg]at hn
theorem uC (hV:ax V)(hT:TOk P T)(hok:bL V o){c:Call}(hop:o.op=.call c)(hc:c.callee=.builtin .append)(h:act Γ T o st κ=some r):bU P V o st κ r:=by
  simp only[act,wrU,hop,hc]at h;split at h
  · cases h
  · rename_i d hd
    split at h
    · rename_i x y t u hargs htys
      split at h
      · rename_i E e bytes ht
        cases htu:AR t u with
        |false=>simp[htu]at h
        |true =>
          simp only[htu,cond_true]at h;have htu:=AI htu;subst htu;have hti:=hT t;rw[ht]at hti;have hargs:c.args=#[x,y]:=by rw[<- Ad (xs:=c.args),hargs]
          have htys:c.argTypes=#[t,t]:=by rw[<- Ad (xs:=c.argTypes),htys]
          have hexec:∀ (a:Act) (w w':World) (v:Value),(Ai #[t,t] o.type #[a.eval x,a.eval y]).run P w=.ok v w'->(execOp a.eval o).run P w=.ok (.value v) w':=by
            intro a w w' v hr;simp[execOp,hop,hc,resolve,invoke,builtin,hargs,htys,hr]
          have fin:∀ (U0:Upd) (E':TypeId) (e':Ty) (p:Bool) (xs:List e'.den) (ks:List (Nat×Nat)),E'=E->e'.sh=e.sh->dx st (ac U0 st) U0 d E' e' bytes p xs ks (one st y) κ=some r ->
              ∃ U,κ U=some r/\∀ (W0:Wit) (a:Act) (w:World),ao P V W0 (ac U0 st) a w->aC P V W0 (ac U0 st) w [one st y] [a.eval y]->(∀ x∈ks,aB (ac U0 st) x)->Ow w (gd V W0 p) E' e' xs (a.eval x) (aU W0 ks)->lH P V o st U a w:=by
            intro U0 E' e' p xs ks hE he happ;subst hE;unfold dx at happ;split at happ
            · rename_i t1 ht1
              cases hb:aX (t1.kill++ks)&&dg t1.frz (t1.kill++ks)&&decide ((xs.length+t1.val.length)*bytes<=ah) with
              |false=>simp[hb]at happ
              |true =>
                simp only[hb,cond_true]at happ;simp only[AC,decide_eq_true_eq]at hb;obtain⟨⟨hb1,hb2⟩,hb3⟩:=hb;refine⟨_,happ,λW0 a w hr hly hks how next Q hn=>?_⟩;obtain⟨⟨bsy,hel,hcnt⟩,hf,hkl⟩:=uB hr hly ht1;have hkk:∀ x∈t1.kill++ks,aB (ac U0 st) x:=λx hx=>(AM.1 hx).elim (hkl x) (hks x)
                obtain⟨h1,_,_,h4⟩:=eY hV hr hb2 hkk;have hnd:=f9 hr hb1 hkk;rw[dp]at hnd h4;have hfree:∀ k∈aU W0 t1.kill++aU W0 ks,¬ b6 V (W0.frz (ac U0 st) t1.frz) _ k:=λk hk=>lm ⟨(h4 k hk).1,(h4 k hk).2.1,(h4 k hk).2.2.2.1,(h4 k hk).2.2.2.2⟩
                rw[Ap]at hnd;obtain⟨hndk,hndb,hdis⟩:=hnd;have hbo:∀ k,(a.eval x).ownBlock=some k->k∈aU W0 ks:=by
                  intro k hk;obtain⟨_,flat,bss,_,hb3,_⟩:=how;rw[hb3,hk];simp
                have hgu:∀ k,gd V (W0.frz (ac U0 st) t1.frz) (p||t1.p) k->b6 V (W0.frz (ac U0 st) t1.frz) (ac (aN (ac (aF (ac U0 st) t1.frz) (ac U0 st)) (t1.kill++ks)++aF (ac U0 st) t1.frz) (ac U0 st)) k:=by
                  rintro k (hk|⟨_,hk⟩)
                  · exact .inl hk
                  · exact .inr (.inl (hV.ro k hk))
                have hbsy:∀ k∈(AO t1.val.length).flatMap bsy,k∈aU W0 t1.kill:=λk hk=>AK.1 (by have:=hcnt k;have:=AK.2 hk;omega)
                obtain⟨v',w',bs',hrun,hg,how',hcnt'⟩:=uA (P:=P) (t:=t) (ty:=o.type) hti (gy he) how hel hb3 (G':=gd V (W0.frz (ac U0 st) t1.frz) (p||t1.p))
                  (bR (W':=W0.frz (ac U0 st) t1.frz) (by intro h;simp[h]) (λ_ h=>Or.inl h))
                  (λk hk=>bR (W':=W0.frz (ac U0 st) t1.frz) (by intro h;simp[h]) (λ_ h=>h) k (jr hf k hk))
                  (λk hk=>⟨h1.used_lt k (hgu k hk),λe1=>hfree k (AE _ (hbo k e1)) (hgu k hk)⟩)
                  (λj hj k hk e1=>hdis k (hbsy k (dz.2 ⟨j,hj,hk⟩)) k (hbo k e1) rfl)
                have hsub:=lZ (bs:=aU W0 ks) (K:=(AO t1.val.length).flatMap bsy++[w.heap.size]) hndb
                  (bz.2 λk=>by
                    rw[AF];have h5:=hcnt k;have h6:=bz.1 hndk k;by_cases hk:k=w.heap.size
                    · subst hk
                      have:(aU W0 t1.kill).count w.heap.size=0:=AZ.2 (λhm=>by have:=(h4 _ (AJ _ hm)).2.2.1;omega);simp;omega
                    · have:List.count k [w.heap.size]=0:=AZ.2 (by simp[hk])
                      omega)
                  (λk hk hm=>by
                    rcases AM.1 hk with hk|hk
                    · exact hdis k (hbsy k hk) k hm rfl
                    · simp at hk
                      subst hk;have:=(h4 _ (AE _ hm)).2.2.1;omega) hcnt'
                refine dA (hexec a w w' v' hrun) ?_;rw[hd];refine hn _ _ ?_;rw[cj,aP,bw];refine h1.putOwn hV hg.size hg.os hg.tape hg.output (λk hk=>hg.block k (h1.used_lt k hk) (λe1=>hfree k (AE _ (hbo k e1.symm)) hk)) d (hok d hd).1 (hok d hd).2 _ (AL _) ⟨hsub.1,how'⟩ (λk hk hu=>?_);rcases hsub.2 k hk with hk|hk
                · exact hfree k (AE _ hk) hu
                · rcases AM.1 hk with hk|hk
                  · exact hfree k (AJ _ (hbsy k hk)) hu
                  · simp at hk
                    have:=h1.used_lt k hu;omega
            · cases happ
          have hyd:∀ (U0:Upd) (x':Leaf),dQ st U0 d E e bytes x' (one st y) κ=some r->one st y≠.dead:=by
            intro U0 x' h e1;rw[e1]at h;unfold dQ at h;split at h
            · split at h
              · rename_i p E' e' xs' hd'
                cases hb:AR E' E&&decide (e'.sh=e.sh) with
                |false=>simp[hb]at h
                |true =>
                  simp only[hb,cond_true,dx,fj,aD,cV,BS,cb,take]at h;cases e'.flat <;> cases decide (e'.sh=e') <;> simp at h
              · cases h
            · simp only[dx,fj,aD,cV,BS,cb,take]at h
              cases e.flat <;> cases decide (e.sh=e) <;> simp at h
            · cases h
          simp only[gJ]at h;cases hn:iy (one st x) with
          |true =>
            rw[hn]at h;simp only[cond_true]at h;rw[gq]at h;obtain⟨⟨U0,x'⟩,hbase,h⟩:=Ae.1 h;have hyd:=hyd _ _ h;simp only[dQ]at h;split at h
            · rename_i r' j n
              split at h
              · rename_i p' E' e' xs' hd'
                cases hb:AR E' E&&decide (e'.sh=e.sh) with
                |false=>simp[hb]at h
                |true =>
                  simp only[hb,cond_true]at h;simp only[AC,decide_eq_true_eq]at hb;obtain⟨U,hU,hg⟩:=fin U0 E' e' p' xs' [(r',j)] (AI hb.1) hb.2 h;refine⟨U,hU,λW a w hr=>?_⟩;obtain⟨hlx,_,_,_,_⟩:=bu hr x (by intro e1;rw[e1]at hn;simp[iy]at hn);obtain⟨W0,n0,p0,E0,e0,xs0,g1,g2,g3,g4,_⟩:=tC hV hr hlx hbase;obtain⟨hly,hnoy,hy1,_,_⟩:=bu hr y hyd;obtain⟨h5,h6,h7,h8⟩:=jp g1 hd' g4;exact hg W0 a w g1 ⟨⟨hly.carry hV.ro g2 (λho=>absurd ho hnoy),hnoy,hy1⟩,trivial⟩ (λz hz=>by simp at hz;subst hz;exact⟨_,h7,trivial⟩) (by simpa[aU]using h6)
              · cases h
            · exfalso
              obtain⟨n,hx'⟩:=yC hbase;cases hx'
            · cases h
          |false =>
            rw[hn]at h;simp only[cond_false]at h;have hyd:=hyd _ _ h;simp only[dQ]at h;split at h
            · rename_i r' j n hx
              split at h
              · rename_i p' E' e' xs' hd'
                cases hb:AR E' E&&decide (e'.sh=e.sh) with
                |false=>simp[hb]at h
                |true =>
                  simp only[hb,cond_true]at h;simp only[AC,decide_eq_true_eq]at hb;obtain⟨U,hU,hg⟩:=fin [] E' e' p' xs' [(r',j)] (AI hb.1) hb.2 h;refine⟨U,hU,λW a w hr=>?_⟩;obtain⟨hlx,_,_,_,_⟩:=bu hr x (by rw[hx];simp);rw[hx]at hlx;obtain⟨hly,hnoy,hy1,_,_⟩:=bu hr y hyd;obtain⟨h5,h6,h7,h8⟩:=jp hr hd' hlx;exact hg W a w hr ⟨⟨hly,hnoy,hy1⟩,trivial⟩ (λz hz=>by simp at hz;subst hz;exact⟨_,h7,trivial⟩) (by simpa[aU]using h6)
              · cases h
            · rename_i hx
              obtain⟨U,hU,hg⟩:=fin [] E e false [] [] rfl rfl h;refine⟨U,hU,λW a w hr=>?_⟩;obtain⟨hlx,_,_,_,_⟩:=bu hr x (by rw[hx];simp);rw[hx]at hlx;obtain⟨hly,hnoy,hy1,_,_⟩:=bu hr y hyd;exact hg W a w hr ⟨⟨hly,hnoy,hy1⟩,trivial⟩ (by simp) (by rw[show a.eval x=_ from hlx];exact OwH.nil w _ E e)
            · cases h
      · cases h
    · cases h
end
def gb (w:World)(ro pr:Nat->Prop)(two:Bool)(a:Ty)(x:a.den)(v:Value):Prop :=
 if two=true then ∃ b ob g o c,v=.pointer (some ⟨b,ob,none⟩)/\pr b/\w.cell? ⟨b,ob,none⟩=some (.pointer (some ⟨g,o,none⟩))/\pr g/\Rd w ro a x c/\cJ w g o c
 else ∃ g o c,v=.pointer (some ⟨g,o,none⟩)/\pr g/\Rd w ro a x c/\cJ w g o c
def iK (w:World)(ro pr:Nat->Prop):(cs:List (Bool×Ty))->kN cs->List Value->Prop
 |[],_,us=>us=[]
 |c::cs,x,us=>∃ u us',us=u::us'/\gb w ro pr c.1 c.2 x.1 u/\iK w ro pr cs x.2 us'
def mF (P:Program)(w:World)(ro pr:Nat->Prop):(pk:PK)->pk.den->Value->List Nat->Prop
 |.rd a,x,v,bs=>bs=[]/\∃ cs,cX a.isAgg v cs/\Rd w ro a x cs
 |.own a,x,v,bs=>∃ cs,cX a.isAgg v cs/\Mx w ro a none 0 x cs bs
 |.io a,x,v,bs=>∃ cs,cX a.isAgg v cs/\Mx w ro a none 0 x cs bs
 |.rref a,x,v,bs=>bs=[]/\gb w ro pr false a x v
 |.rref2 a,x,v,bs=>bs=[]/\gb w ro pr true a x v
 |.iop a,x,v,bs=>∃ g c E b0,v=.pointer (some ⟨g,0,none⟩)/\w.heap[g]?=some (.cells c.toArray E (0,0))/\Mx w ro a none 0 x c b0/\bs=g::b0
 |.fn As B,φ,v,bs=>bs=[]/\ij P w pr As B φ v
 |.clo f cs,x,v,bs=>bs=[]/\∃ us:List Value,v=.func (.func f) #[] us.toArray/\iK w ro pr cs x us
 |.hol a c off,x,v,bs=>∃ cs u b0 b1 E e xs,cX a.isAgg v cs/\Mx w ro a (some c) 0 x.1 cs b0/\cs[c]?=some u/\be c a 0 x.1=some ⟨E,e,xs⟩/\OwB w ro (some (x.2,off)) E e xs u b1/\∀ k,bs.count k=b0.count k+b1.count k
def cQ (P:Program)(w:World)(ro pr:Nat->Prop):(ps:List PK)->ab ps->List Value->List (List Nat)->Prop
 |[],_,vs,bss=>vs=[]/\bss=[]
 |p::ps,x,vs,bss=>∃ v vs' b bss',vs=v::vs'/\bss=b::bss'/\mF P w ro pr p x.1 v b/\cQ P w ro pr ps x.2 vs' bss'
def iD (w:World)(G:Nat->Prop)(a:Ty)(x:a.den)(ptr:Bool)(v:Value)(bs:List Nat):Prop :=
 if ptr=true then ∃ g c E b0,v=.pointer (some ⟨g,0,none⟩)/\w.heap[g]?=some (.cells c.toArray E (0,0))/\Mx w G a none 0 x c b0/\bs=g::b0
 else ∃ cs,cX a.isAgg v cs/\Mx w G a none 0 x cs bs
def bJ (w:World)(G:Nat->Prop):(ps:List PK)->aj ps->List Value->List (List Nat)->Prop
 |.io a::ps,o,v::vs,b::bs=>iD w G a o.1 false v b/\bJ w G ps o.2 vs bs
 |.iop a::ps,o,v::vs,b::bs=>iD w G a o.1 true v b/\bJ w G ps o.2 vs bs
 |.rd _::ps,o,_::vs,b::bs=>b=[]/\bJ w G ps o vs bs
 |.own _::ps,o,_::vs,b::bs=>b=[]/\bJ w G ps o vs bs
 |.rref _::ps,o,_::vs,b::bs=>b=[]/\bJ w G ps o vs bs
 |.rref2 _::ps,o,_::vs,b::bs=>b=[]/\bJ w G ps o vs bs
 |.fn _ _::ps,o,_::vs,b::bs=>b=[]/\bJ w G ps o vs bs
 |.clo _ _::ps,o,_::vs,b::bs=>b=[]/\bJ w G ps o vs bs
 |.hol _ _ _::ps,o,_::vs,b::bs=>b=[]/\bJ w G ps o vs bs
 |[],_,[],[]=>True
 |_,_,_,_=>False
def oP (w:World)(G ro:Nat->Prop):(r:RK)->r.den->Value->List Nat->Prop
 |.v a,y,v,bs=>∃ cs,cX a.isAgg v cs/\Mx w G a none 0 y cs bs
 |.bv a,y,v,bs=>bs=[]/\∃ cs,cX a.isAgg v cs/\Rd w (λk=>G k\/ro k) a y cs
 |.box a,y,v,bs=>∃ g c E b0,v=.pointer (some ⟨g,0,none⟩)/\w.heap[g]?=some (.cells c.toArray E (0,0))/\Mx w G a none 0 y c b0/\bs=g::b0
def fJ (w:World)(G ro:Nat->Prop):(rs:List RK)->ak rs->List Value->List (List Nat)->Prop
 |[],_,us,bss=>us=[]/\bss=[]
 |r::rs,y,us,bss=>∃ u us' b bss',us=u::us'/\bss=b::bss'/\oP w G ro r y.1 u b/\fJ w G ro rs y.2 us' bss'
def qR:List Value->Value->Prop
 |[u],v=>v=u
 |us,v=>v=.tuple us.toArray
def oQ (w w':World)(gs:List Nat)(k:Nat):Prop:=k<w'.heap.size/\(w.heap.size<=k\/k∈gs)
def Post (c:Ctr)(w:World)(ro:Nat->Prop)(vs:List Value)(bss:List (List Nat))(y:ak c.rs×aj c.ps)(e:Ending)(w':World):Prop :=
 ∃ (v:Value) (us:List Value) (N:Nat->Prop) (oss rbs:List (List Nat)),e=.returned v/\qR us v/\w.heap.size<=w'.heap.size/\w'.os=w.os/\w'.tape=w.tape/\w'.output=w.output /\
  (∀ k,k<w.heap.size->k∉bss.flatten->w'.heap[k]?=w.heap[k]?)/\(∀ k,N k->oQ w w' bss.flatten k) /\
  bJ w' (λk=>N k\/(c.fresh=false/\ro k)) c.ps y.2 vs oss/\fJ w' (λk=>N k\/(c.fresh=false/\ro k)) ro c.rs y.1 us rbs /\
  (oss.flatten++rbs.flatten).Nodup/\∀ k∈oss.flatten++rbs.flatten,oQ w w' bss.flatten k/\¬ N k
def af (P:Program)(c:Ctr):Prop :=
 kv P c.f/\∀ (w:World) (ro:Nat->Prop) (x:ab c.ps) (vs:List Value) (bss:List (List Nat)) (y:ak c.rs×aj c.ps),
  cQ P w ro (λk=>k<w.heap.size/\k∉bss.flatten) c.ps x vs bss->(∀ k,ro k->k<w.heap.size/\k∉bss.flatten)->bss.flatten.Nodup->c.den x=some y ->
  Calls P c.f vs.toArray w (Post c w ro vs bss y)
section
variable {P:Program} {V:Env} {Γ:List Ctr} {T:TypeId->TI} {st:St} {o:Oper} {R:Type} {κ:Upd->Option R} {r:R}
theorem ij.mono {w0:World}{S S':Nat->Prop}(hS:∀ k,S k->S' k){As:List Ty}{B:Ty}{φ:Tup As->Option B.den}{v:Value}(h:ij P w0 S As B φ v):ij P w0 S' As B φ v:=by
 obtain⟨f,caps,e,he,hc⟩:=h;exact⟨f,caps,e,he,λw1 hs hk=>hc w1 hs (λk hk'=>hk k (hS k hk'))⟩
theorem ij.move {w0 w:World}{S S':Nat->Prop}(hsz:w0.heap.size<=w.heap.size)(hS:∀ k,S k->S' k/\w.heap[k]?=w0.heap[k]?){As:List Ty}{B:Ty}{φ:Tup As->Option B.den}{v:Value}
  (h:ij P w0 S As B φ v):ij P w S' As B φ v:=by
 obtain⟨f,caps,e,he,hc⟩:=h;exact⟨f,caps,e,he,λw1 hs hk=>hc w1 (Aq hsz hs) (λk hk'=>(hk k (hS k hk').1).trans (hS k hk').2)⟩
theorem gb.carry {w w1:World}{ro ro' pr pr':Nat->Prop}(hro:∀ k,ro k->ro' k/\w1.heap[k]?=w.heap[k]?)(hpr:∀ k,pr k->pr' k/\w1.heap[k]?=w.heap[k]?){two:Bool}{a:Ty}{x:a.den}{v:Value}(h:gb w ro pr two a x v):gb w1 ro' pr' two a x v:=by
 unfold gb at h ⊢;split at h
 ·rename_i hb;rw[if_pos hb];obtain⟨b,ob,g,o,c,h3,h4,h5,h6,h7,h8⟩:=h;exact⟨b,ob,g,o,c,h3,(hpr b h4).1,by rw[jK (hpr b h4).2];exact h5,(hpr g h6).1,h7.carry (λk hk=>(hro k hk).1) (λk hk=>(hro k hk).2),h8.same (hpr g h6).2⟩
 ·rename_i hb;rw[if_neg hb];obtain⟨g,o,c,h3,h4,h5,h6⟩:=h;exact⟨g,o,c,h3,(hpr g h4).1,h5.carry (λk hk=>(hro k hk).1) (λk hk=>(hro k hk).2),h6.same (hpr g h4).2⟩
theorem iK.carry {w w1:World}{ro ro' pr pr':Nat->Prop}(hro:∀ k,ro k->ro' k/\w1.heap[k]?=w.heap[k]?)(hpr:∀ k,pr k->pr' k/\w1.heap[k]?=w.heap[k]?):∀ {cs:List (Bool×Ty)} {x:kN cs} {us:List Value},iK w ro pr cs x us->iK w1 ro' pr' cs x us
 |[],_,_,h=>h
 |_::_,_,_,⟨u,us',e,h1,h2⟩=>⟨u,us',e,h1.carry hro hpr,iK.carry hro hpr h2⟩
theorem mF.mono {w:World}{ro ro' pr pr':Nat->Prop}(hro:∀ k,ro k->ro' k)(hpr:∀ k,pr k->pr' k):∀ {pk:PK} {x:pk.den} {v:Value} {bs:List Nat},mF P w ro pr pk x v bs->mF P w ro' pr' pk x v bs
 |.rd _,_,_,_,⟨e,cs,h1,h2⟩=>⟨e,cs,h1,h2.mono hro⟩
 |.own _,_,_,_,⟨cs,h1,h2⟩=>⟨cs,h1,h2.mono hro⟩
 |.io _,_,_,_,⟨cs,h1,h2⟩=>⟨cs,h1,h2.mono hro⟩
 |.rref _,_,_,_,⟨e,h⟩=>⟨e,h.carry (λk hk=>⟨hro k hk,rfl⟩) (λk hk=>⟨hpr k hk,rfl⟩)⟩
 |.rref2 _,_,_,_,⟨e,h⟩=>⟨e,h.carry (λk hk=>⟨hro k hk,rfl⟩) (λk hk=>⟨hpr k hk,rfl⟩)⟩
 |.iop _,_,_,_,⟨g,c,E,b0,h1,h2,h3,h4⟩=>⟨g,c,E,b0,h1,h2,h3.mono hro,h4⟩
 |.fn _ _,_,_,_,⟨e,h⟩=>⟨e,ij.mono hpr h⟩
 |.clo _ _,_,_,_,⟨e,us,h1,h2⟩=>⟨e,us,h1,h2.carry (λk hk=>⟨hro k hk,rfl⟩) (λk hk=>⟨hpr k hk,rfl⟩)⟩
 |.hol _ _ _,_,_,_,⟨cs,u,b0,b1,E,e,xs,h1,h2,h3,h4,h5,h6⟩=>⟨cs,u,b0,b1,E,e,xs,h1,h2.mono hro,h3,h4,h5.carry hro (λ_ _=>rfl) (λ_ _=>rfl),h6⟩
theorem cQ.mono {w:World}{ro ro' pr pr':Nat->Prop}(hro:∀ k,ro k->ro' k)(hpr:∀ k,pr k->pr' k):∀ {ps:List PK} {x:ab ps} {vs:List Value} {bss:List (List Nat)},cQ P w ro pr ps x vs bss->cQ P w ro' pr' ps x vs bss
 |[],_,_,_,h=>h
 |_::_,_,_,_,⟨v,vs',b,bss',e1,e2,h1,h2⟩=>⟨v,vs',b,bss',e1,e2,h1.mono hro hpr,cQ.mono hro hpr h2⟩
def iT (V:Env)(W:Wit)(st:St)(ks:List (Nat×Nat))(see:List Nat)(k:Nat):Prop:=W.nw k\/V.prot k\/(∃ b∈see,live st b/\W.β b=k)\/∃ x∈ks,k∈W.bs x.1 x.2
theorem jZ {W:Wit}{k1 k2:List (Nat×Nat)}{s1 s2:List Nat}(h:∀ x∈k1,x∈k2)(hs:∀ b∈s1,b∈s2):∀ k,iT V W st k1 s1 k->iT V W st k2 s2 k:=by
 rintro k (hk|hk|⟨b,hb,hk⟩|⟨x,hx,hk⟩)
 ·exact .inl hk
 ·exact .inr (.inl hk)
 ·exact .inr (.inr (.inl ⟨b,hs b hb,hk⟩))
 ·exact .inr (.inr (.inr ⟨x,h x hx,hk⟩))
theorem ia {W:Wit}{p q:Bool}{k1 k2:List (Nat×Nat)}(hp:p=true->q=true)(h:∀ x∈k1,x∈k2):∀ k,bo V W p k1 k->bo V W q k2 k:=by
 rintro k (hk|⟨x,hx,hk⟩)
 ·exact .inl (bR (W':=W) hp (λ_ h=>h) k hk)
 ·exact .inr ⟨x,h x hx,hk⟩
theorem fK {agg:Bool}{v:Value}{cs:List Value}(h:dJ (bj agg) v cs):cX agg v cs:=by
 cases agg <;> exact h
theorem l9 {W:Wit}{a:Act}{w:World}(h:ao P V W st a w){l:Leaf}{ls:List Leaf}{v:Value}(hl:aK P V W st w [] l v)(ht:target st l=some ls)(ks:List (Nat×Nat))(see:List Nat)(hsee:∀ b∈eI [l],b∈see) :
  ∃ g o cs,v=.pointer (some ⟨g,o,none⟩)/\iT V W st ks see g/\aC P V W st w ls cs/\cJ w g o cs:=by
 unfold target at ht;split at ht
 ·rename_i b;cases hb:decide ((st b).sh=.agg) with
  |false=>simp[hb]at ht
  |true =>
   simp only[hb,cond_true,AA]at ht;subst ht;obtain⟨hB,hag,hv⟩:=hl;rcases h.boxes b hB with ⟨h8,_⟩|⟨_,E,h8⟩
   ·rw[hag]at h8;cases h8
   ·exact⟨W.β b,0,W.cs b,hv,.inr (.inr (.inl ⟨b,hsee b (by simp[eI]),⟨hB,hag⟩,rfl⟩)),gL h b,λi v hv=>by
     rw[Az,cell_of_row w (W.β b) i _ E (0,0) h8];simpa using hv⟩
 ·rename_i p a x;simp only[AA]at ht;subst ht;obtain⟨g,o',c,hv,hg,hrd,hc⟩:=hl;rw[Aj]at hv;exact⟨g,o',c,hv,hg.elim .inl (λh=>.inr (.inl h)),er (λ_ h=>h) hrd,hc⟩
 ·rename_i p a x;simp only[AA]at ht;subst ht;obtain⟨b,ob,g,o',c,hv,hb,hcell,hg,hrd,hc⟩:=hl;refine⟨b,ob,[.pointer (some ⟨g,o',none⟩)],hv,hb.elim .inl (λh=>.inr (.inl h)),⟨⟨⟨g,o',c,rfl,hg,hrd,hc⟩,id,rfl⟩,trivial⟩,λi u hi=>?_⟩;cases i with
  |zero=>simp at hi;subst hi;exact hcell
  |succ i=>simp at hi
 ·cases ht
theorem ge {W:Wit}{w:World}{x:aI×List Leaf}{l:Leaf}{v:Value}{cs:List Value}(hs:dJ x.1 v cs)(hl:aC P V W st w x.2 cs)(hx:ch x=l)(hd:l≠.dead) :
  aK P V W st w [] l v/\v.oneCell'=true:=by
 unfold ch at hx;split at hx
 ·rename_i l';subst hx;have hs:cs=[v]:=hs;subst hs;exact⟨hl.1.1,hl.1.2.2⟩
 ·exact absurd hx.symm hd
theorem ma {W:Wit}{a:Act}{w:World}(h:ao P V W st a w){c:Bool×Ty}{l:Leaf}{v:Value}(hl:aK P V W st w [] l v){g:Got c.2.den}(hg:eJ st c l=some g) :
  gb w (bo V W g.p g.frz) (iT V W st g.frz g.see) c.1 c.2 g.val v/\(∀ z∈g.frz,aB st z)/\g.kill=[]/\g.lend=[]:=by
 unfold eJ at hg;cases hc:c.1 with
 |true =>
  rw[hc]at hg;simp only[cond_true]at hg;split at hg
  ·rename_i l' ht;split at hg
   ·rename_i ls ht';simp only[AB]at hg;obtain⟨⟨p,y⟩,hy,rfl⟩:=hg;obtain⟨g,o',cs,hv,hgs,hls,hcl⟩:=l9 h hl ht (bB st ls) (eI [l,l']) (λb hb=>by
     cases l <;> simp[eI]at hb ⊢ <;> exact .inl hb)
    match cs,hls with
    |[u],hls =>
     obtain⟨g2,o2,cs2,hv2,hg2,hls2,hc2⟩:=l9 h hls.1.1 ht' (bB st ls) (eI [l,l']) (λb hb=>by
      cases l <;> cases l' <;> simp[eI]at hb ⊢ <;> first|exact hb|exact .inr hb)
     have hcell:=hcl 0 u rfl;rw[Aj,hv2]at hcell;refine⟨?_,λz hz=>dN hls2 hz,rfl,rfl⟩;unfold gb;rw[if_pos rfl];exact⟨g,o',g2,o2,cs2,hv,hgs,hcell,hg2,dX h hls2 hy,hc2⟩
   ·cases hg
  ·cases hg
 |false =>
  rw[hc]at hg;simp only[cond_false]at hg;split at hg
  ·rename_i ls ht;simp only[AB]at hg;obtain⟨⟨p,y⟩,hy,rfl⟩:=hg;obtain⟨g,o',cs,hv,hgs,hls,hcl⟩:=l9 h hl ht (bB st ls) (eI [l]) (λb hb=>hb);refine⟨?_,λz hz=>dN hls hz,rfl,rfl⟩;unfold gb;rw[if_neg (by simp)];exact⟨g,o',cs,hv,hgs,dX h hls hy,hcl⟩
  ·cases hg
theorem lp {W:Wit}{a:Act}{w:World}(h:ao P V W st a w):∀ {cs:List (Bool×Ty)} {ls:List Leaf} {us:List Value} {g:Got (kN cs)},aC P V W st w ls us->ck st cs ls=some g ->
  iK w (bo V W g.p g.frz) (iT V W st g.frz g.see) cs g.val us/\(∀ z∈g.frz,aB st z)/\g.kill=[]/\g.lend=[]
 |[],[],us,g,hl,hg=>by
  simp only[ck,AA]at hg;subst hg;cases us with
  |nil=>exact⟨rfl,by simp,rfl,rfl⟩
  |cons=>exact hl.elim
 |[],_::_,_,_,_,hg=>by simp[ck]at hg
 |_::_,[],_,_,_,hg=>by simp[ck]at hg
 |c::cs,l::ls,us,g,hl,hg=>by
  cases us with
  |nil=>exact hl.elim
  |cons u us =>
   simp only[ck]at hg;split at hg
   ·rename_i g1 hg1;split at hg
    ·rename_i g2 hg2;simp only[AA]at hg;subst hg;obtain⟨h1,h2,h3,h4⟩:=ma h hl.1.1 hg1;obtain⟨h5,h6,h7,h8⟩:=lp h hl.2 hg2;refine⟨⟨u,us,rfl,h1.carry (λk hk=>⟨ia (by intro h;simp[h]) (λx hx=>AJ _ hx) k hk,rfl⟩) (λk hk=>⟨jZ (λx hx=>AJ _ hx) (λx hx=>AJ _ hx) k hk,rfl⟩),
      h5.carry (λk hk=>⟨ia (by intro h;simp[h]) (λx hx=>AE _ hx) k hk,rfl⟩) (λk hk=>⟨jZ (λx hx=>AE _ hx) (λx hx=>AE _ hx) k hk,rfl⟩)⟩,?_,rfl,rfl⟩
     intro z hz;exact (AM.1 hz).elim (h2 z) (h6 z)
    ·cases hg
   ·cases hg
theorem uD {W:Wit}{w:World}{c:Bool×Bool×(a:Ty)×a.den}{v:Value}(h:gV V W w c v):aK P V W st w [] (ee c) v/\¬ an (ee c)/\v.oneCell'=true:=by
 unfold gV at h;unfold ee;split at h
 ·rename_i hb;rw[hb];refine⟨h,id,?_⟩;obtain⟨b,ob,g,o',c',hv,_⟩:=h;rw[hv];rfl
 ·rename_i hb;have hb:c.2.1=false:=by simpa using hb
  rw[hb];refine⟨h,id,?_⟩;obtain⟨g,o',c',hv,_⟩:=h;rw[hv];rfl
theorem pA {W:Wit}{w:World}{caps:List (Bool×Bool×(a:Ty)×a.den)}{us:List Value}(hl:us.length=caps.length)(h:∀ (i:Nat) (c:Bool×Bool×(a:Ty)×a.den) (u:Value),caps[i]?=some c->us[i]?=some u->gV V W w c u) :
  aC P V W st w (caps.map ee) us :=
 aC.mk (by simp[hl]) λj l v h1 h2=>by
  rw[List.getElem?_map,AB]at h1;obtain⟨c,h3,rfl⟩:=h1;exact uD (h j c v h3 h2)
theorem oR {W:Wit}{w:World}:∀ (caps:List Nat),(∀ b∈caps,B0<=b/\(st b).sh=.agg)->aC P V W st w (caps.map λb=>Leaf.bp b 0) (caps.map λb=>Value.pointer (some ⟨W.β b,0,none⟩))
 |[],_=>trivial
 |b::caps,h=>⟨⟨⟨(h b (AW ..)).1,(h b (AW ..)).2,rfl⟩,id,rfl⟩,oR caps (λq hq=>h q (AP _ hq))⟩
theorem mb {off:Nat}{E:TypeId}{e:Ty}{ys:List e.den}:∀ {a:Ty} {pos:Nat} {x z:a.den},bK off E e ys a pos x=some z->(∃ ys0,be off a pos x=some ⟨E,e,ys0⟩)/\be off a pos z=some ⟨E,e,ys⟩
 |.pair a b,pos,x,z,h=>by
  simp only[bK]at h;split at h
  ·rename_i u hu;simp only[AA]at h;subst h;obtain⟨⟨ys0,h1⟩,h2⟩:=mb hu;exact⟨⟨ys0,by simp only[be,h1]⟩,by simp only[be,h2]⟩
  ·rename_i hn;simp only[AB]at h;obtain⟨u,hu,rfl⟩:=h;have hin:=Mx.back.set_in hu;obtain⟨⟨ys0,h1⟩,h2⟩:=mb hu;have hnone:be off a pos x.1=none:=by
    cases hg:be off a pos x.1 with
    |none=>rfl
    |some u=>have:=fI hg;omega
   exact⟨⟨ys0,by simp only[be,hnone,h1]⟩,by simp only[be,hnone,h2]⟩
 |.list m E' e',pos,xs,z,h=>by
  simp only[bK]at h;cases hb:m&&AR pos off with
  |false=>simp[hb]at h
  |true =>
   rw[hb]at h;simp only[cond_true]at h;obtain⟨rfl,rfl,rfl⟩:=iO h;exact⟨⟨xs,by simp[be,hb]⟩,by simp[be,hb]⟩
 |.int _,_,_,_,h=>by simp[bK]at h
 |.bool,_,_,_,h=>by simp[bK]at h
 |.str,_,_,_,h=>by simp[bK]at h
 |.unit,_,_,_,h=>by simp[bK]at h
 |.hdr,_,_,_,h=>by simp[bK]at h
theorem Mx.refill {w:World}{G:Nat->Prop}{off:Nat}{E:TypeId}{e:Ty}{ys:List e.den}{u:Value}(hu:u.oneCell'=true):∀ {a:Ty} {pos:Nat} {x z:a.den} {cs:List Value} {bs:List Nat},Mx w G a (some off) pos x cs bs->bK off E e ys a pos x=some z ->
  Mx w G a (some off) pos z (cs.set (off-pos) u) bs
 |.pair a b,pos,x,z,cs,bs,⟨c1,c2,b1,b2,e1,e2,h1,h2⟩,h=>by
  have hl:=h1.len;simp only[bK]at h;split at h
  ·rename_i y hy;simp only[AA]at h;subst h;have hin:=Mx.back.set_in hy;refine⟨c1.set (off-pos) u,c2,b1,b2,?_,e2,Mx.refill hu h1 hy,h2⟩;rw[e1,List.set_append_left _ _ (by omega)]
  ·simp only[AB]at h;obtain⟨y,hy,rfl⟩:=h;have hin:=Mx.back.set_in hy;refine⟨c1,c2.set (off-(pos+a.cells)) u,b1,b2,?_,e2,h1,Mx.refill hu h2 hy⟩;rw[e1,List.set_append_right _ _ (by omega),hl,show off-pos-a.cells=off-(pos+a.cells) by omega]
 |.list m E' e',pos,xs,z,cs,bs,H,h=>by
  simp only[bK]at h;cases hb:m&&AR pos off with
  |false=>simp[hb]at h
  |true =>
   simp only[AC]at hb;obtain⟨rfl,hb⟩:=hb;have hb:=AI hb;subst hb;rw[ii]at H ⊢;obtain⟨v,rfl,h1,h2⟩:=H;exact⟨u,by simp,hu,h2⟩
 |.int _,_,_,_,_,_,_,h=>by simp[bK]at h
 |.bool,_,_,_,_,_,_,h=>by simp[bK]at h
 |.str,_,_,_,_,_,_,h=>by simp[bK]at h
 |.unit,_,_,_,_,_,_,h=>by simp[bK]at h
 |.hdr,_,_,_,_,_,_,h=>by simp[bK]at h
theorem aC.setNil {W:Wit}{w:World}{ls:List Leaf}{cs:List Value}(hl:aC P V W st w ls cs)(c:Nat):aC P V W st w (aR ls c .nil) (cs.set c (.slice none 0 0)):=by
 have hlen:=hl.length;refine aC.mk (by simp[aR,hlen]) λj l v h1 h2=>?_
 rcases aQ _ _ _ _ _ h1 with ⟨rfl,rfl,hj⟩|⟨hne,h1⟩
 ·rw[A5 (by omega)]at h2;simp only[AA]at h2;subst h2;exact⟨rfl,id,rfl⟩
 ·rw[Ax (Ay hne)]at h2;exact hl.at_ j l v h1 h2
def uE (P:Program)(V:Env)(W:Wit)(st:St)(w:World)(pk:PK)(v:Value)(g:Got pk.den):Prop :=
 (∃ bs,mF P w (bo V W g.p g.frz) (iT V W st g.frz g.see) pk g.val v bs/\bs=g.lend.map W.β++aU W g.kill)/\(∀ z∈g.frz,aB st z)/\(∀ z∈g.kill,aB st z)/\(∀ b∈g.lend,live st b)
theorem mc (hV:ax V){W:Wit}{a:Act}{w:World}(h:ao P V W st a w){pk:PK}{x:aI×List Leaf}{v:Value}{cs:List Value}(hs:dJ x.1 v cs)(hl:aC P V W st w x.2 cs)
  {g:Got pk.den} (hg:bi st pk x=some g):uE P V W st w pk v g:=by
 obtain⟨sh,ls⟩:=x;have taking:∀ {b:Ty} {g:Got b.den},(bif decide (sh=bj b.isAgg) then (cb st b ls).map (λt=>(⟨t.p,t.val,t.frz,t.kill,[],[]⟩:Got b.den)) else none)=some g ->
   (∃ cs,cX b.isAgg v cs/\Mx w (bo V W g.p g.frz) b none 0 g.val cs (aU W g.kill))/\g.lend=[]/\g.see=[]/\(∀ z∈g.frz,aB st z)/\(∀ z∈g.kill,aB st z):=by
  intro b g hq;cases hb:decide (sh=bj b.isAgg) with
  |false=>simp[hb]at hq
  |true =>
   rw[hb]at hq;simp only[cond_true,AB]at hq;have hb':=of_decide_eq_true hb;subst hb';obtain⟨t,ht,rfl⟩:=hq;obtain⟨h1,h2,h3⟩:=dq (pos:=0) h hl ht;exact⟨⟨cs,fK hs,h1⟩,rfl,rfl,h2,h3⟩
 cases pk with
 |rd b =>
  simp only[bi]at hg;cases hb:decide (sh=bj b.isAgg) with
  |false=>simp[hb]at hg
  |true =>
   rw[hb]at hg;simp only[cond_true,AB]at hg;have hb':=of_decide_eq_true hb;subst hb';obtain⟨⟨p,y⟩,hy,rfl⟩:=hg;exact⟨⟨[],⟨rfl,cs,fK hs,dX h hl hy⟩,rfl⟩,λz hz=>dN hl hz,by simp[Got.ofRd],by simp[Got.ofRd]⟩
 |own b =>
  obtain⟨h1,h2,h3,h4,h5⟩:=taking hg;exact⟨⟨_,h1,by rw[h2];rfl⟩,h4,h5,by rw[h2];simp⟩
 |io b =>
  obtain⟨h1,h2,h3,h4,h5⟩:=taking hg;exact⟨⟨_,h1,by rw[h2];rfl⟩,h4,h5,by rw[h2];simp⟩
 |iop b =>
  simp only[bi]at hg;split at hg
  ·rename_i q hx;cases hb:decide ((st q).sh=.agg) with
   |false=>simp[hb]at hg
   |true =>
    simp only[hb,cond_true,AB]at hg;obtain⟨t,ht,rfl⟩:=hg;obtain⟨hl1,hv⟩:=ge hs hl hx (by simp);obtain⟨hB,hag,hv2⟩:=hl1;rcases h.boxes q hB with ⟨h8,_⟩|⟨_,E,h8⟩
    ·rw[hag]at h8;cases h8
    ·obtain⟨h1,h2,h3⟩:=dq (pos:=0) h (gL h q) ht;exact⟨⟨_,⟨W.β q,W.cs q,E,_,hv2,h8,h1,rfl⟩,rfl⟩,h2,h3,λb' hb'=>by simp at hb';subst hb';exact⟨hB,hag⟩⟩
  ·cases hg
 |rref b =>
  simp only[bi]at hg;have hd:ch (sh,ls)≠.dead:=by
   intro e;rw[e]at hg;simp[eJ,target]at hg
  obtain⟨hl1,hv⟩:=ge hs hl rfl hd;obtain⟨h1,h2,h3,h4⟩:=ma (c:=(false,b)) h hl1 hg;exact⟨⟨[],⟨rfl,h1⟩,by rw[h3,h4];rfl⟩,h2,by rw[h3];simp,by rw[h4];simp⟩
 |rref2 b =>
  simp only[bi]at hg;have hd:ch (sh,ls)≠.dead:=by
   intro e;rw[e]at hg;simp[eJ,target]at hg
  obtain⟨hl1,hv⟩:=ge hs hl rfl hd;obtain⟨h1,h2,h3,h4⟩:=ma (c:=(true,b)) h hl1 hg;exact⟨⟨[],⟨rfl,h1⟩,by rw[h3,h4];rfl⟩,h2,by rw[h3];simp,by rw[h4];simp⟩
 |fn As B =>
  simp only[bi]at hg;split at hg
  ·rename_i As' B' φ hx;obtain⟨hl1,hv⟩:=ge hs hl hx (by simp);split at hg
   ·rename_i hh;obtain⟨rfl,rfl⟩:=hh;simp only[AA]at hg;subst hg;have hf:ij P V.w0 V.prot As' B' φ v:=hl1;exact⟨⟨[],⟨rfl,ij.move h.size (λk hk=>⟨.inr (.inl hk),h.keep k hk⟩) hf⟩,rfl⟩,by simp,by simp,by simp⟩
   ·cases hg
  ·cases hg
 |clo f cs' =>
  simp only[bi]at hg;split at hg
  ·rename_i f' caps hx;cases hb:AR f' f with
   |false=>simp[hb]at hg
   |true =>
    simp only[hb,cond_true]at hg;have hb:=AI hb;subst hb;obtain⟨hl1,hv⟩:=ge hs hl hx (by simp);obtain⟨h1,h2⟩:=hl1;obtain⟨h3,h4,h5,h6⟩:=lp h (oR caps h2) hg;exact⟨⟨[],⟨rfl,_,h1,h3⟩,by rw[h5,h6];rfl⟩,h4,by rw[h5];simp,by rw[h6];simp⟩
  ·rename_i f' caps hx;cases hb:AR f' f with
   |false=>simp[hb]at hg
   |true =>
    simp only[hb,cond_true]at hg;have hb:=AI hb;subst hb;obtain⟨hl1,hv⟩:=ge hs hl hx (by simp);obtain⟨us,h1,h2,h7⟩:=hl1;obtain⟨h3,h4,h5,h6⟩:=lp h (pA h2 h7) hg;exact⟨⟨[],⟨rfl,us,h1,h3⟩,by rw[h5,h6];rfl⟩,h4,by rw[h5];simp,by rw[h6];simp⟩
  ·cases hg
 |hol b c off =>
  simp only[bi]at hg;cases hb:decide (sh=bj b.isAgg) with
  |false=>simp[hb]at hg
  |true =>
   rw[hb]at hg;simp only[cond_true]at hg;have hb':=of_decide_eq_true hb;subst hb';split at hg
   ·rename_i r' j n hal;split at hg
    ·rename_i p i o' E e xs hd;cases hbo:AR o' off with
     |false=>simp[hbo]at hg
     |true =>
      rw[hbo]at hg;simp only[cond_true]at hg;have hbo:=AI hbo;subst hbo;split at hg
      ·rename_i t ht;split at hg
       ·rename_i y hy;simp only[AA]at hg;subst hg;have hlc:ls[c]?=some (.al r' j n):=by
         rw[Ao]at hal;cases hq:ls[c]? with
         |none=>rw[hq]at hal;simp at hal
         |some l0=>rw[hq]at hal;simp at hal;rw[hal]
        have hlt:c<cs.length:=by rw[<- hl.length];exact (AD.1 hlc).1
        have hcu:=AT hlt;obtain⟨hl1,_,hone⟩:=hl.at_ c _ _ hlc hcu;obtain⟨_,how,hpl,_⟩:=jp h hd hl1;obtain⟨h1,h2,h3⟩:=dq (pos:=0) h (hl.setNil c) ht;obtain⟨⟨ys0,hg0⟩,hgy⟩:=mb hy;obtain⟨v0,bn,b0,g1,g2,g3,g4⟩:=h1.out hg0;have hbn:bn=[]:=by
         simp only[BP,A5 hlt,AA]at g2;obtain⟨flat,bss,q1,q2,_⟩:=g1;obtain⟨A,cap,q4,_⟩:=q1.slice;rw[<- g2]at q2 q4;simp only[Ag]at q4;rw[q2,<- q4.2.1];rfl
        have g5:=Mx.refill hone g3 hy;simp only[BP,List.set_set,List.set_getElem_self]at g5;refine⟨⟨_,⟨cs,cs[c],b0,W.bs r' j,E,e,xs,fK hs,g5.mono (ia (by intro h;simp[h]) (λ_ h=>h)),hcu,hgy,
         how.2.carry (λk hk=>.inl (bR (W':=W) (by intro h;simp[h]) (λ_ h=>h) k hk)) (λ_ _=>rfl) (λ_ _=>rfl),λk=>?_⟩,rfl⟩,h2,?_,by simp⟩
        ·have:=g4 k;rw[hbn]at this;simp only[Bh,B4];rw[show aU W ((r',j)::t.kill)=W.bs r' j++aU W t.kill from rfl,AF,this];simp;omega
        ·intro z hz;rcases A0.1 hz with rfl|hz
         ·exact⟨_,hpl,trivial⟩
         ·exact h3 z hz
       ·cases hg
      ·cases hg
    ·cases hg
   ·cases hg
end
section
variable {P:Program} {V:Env} {Γ:List Ctr} {T:TypeId->TI} {st:St} {o:Oper} {R:Type} {κ:Upd->Option R} {r:R}
def gi (P:Program)(V:Env)(W:Wit)(st:St)(w:World):List (aI×List Leaf)->List Value->Prop
 |[],vs=>vs=[]
 |x::xs,vs=>∃ v vs' cs,vs=v::vs'/\dJ x.1 v cs/\aC P V W st w x.2 cs/\gi P V W st w xs vs'
theorem jD {W:Wit}{w:World}{ga:(pk:PK)->aI×List Leaf->Option (Got pk.den)}
  (H:∀ (pk:PK) (x:aI×List Leaf) (v:Value) (cs:List Value) (g:Got pk.den),dJ x.1 v cs->aC P V W st w x.2 cs->ga pk x=some g->uE P V W st w pk v g) :
  ∀ (ps:List PK) (xs:List (aI×List Leaf)) (vs:List Value) (g:Got (ab ps)),gi P V W st w xs vs->bc ga ps xs=some g ->
   (∃ bss,cQ P w (bo V W g.p g.frz) (iT V W st g.frz g.see) ps g.val vs bss/\∀ k,bss.flatten.count k=(g.lend.map W.β).count k+(aU W g.kill).count k) /\
    (∀ z∈g.frz,aB st z)/\(∀ z∈g.kill,aB st z)/\(∀ b∈g.lend,live st b)
 |[],[],vs,g,hx,hg=>by
  simp only[bc,AA]at hg;subst hg;exact⟨⟨[],⟨hx,rfl⟩,λk=>by simp[aU]⟩,by simp,by simp,by simp⟩
 |[],_::_,_,_,_,hg=>by simp[bc]at hg
 |_::_,[],_,_,_,hg=>by simp[bc]at hg
 |p::ps,x::xs,vs,g,hx,hg=>by
  obtain⟨v,vs',cs,rfl,hs,hl,hrest⟩:=hx;simp only[bc]at hg;split at hg
  ·rename_i g1 hg1;split at hg
   ·rename_i g2 hg2;simp only[AA]at hg;subst hg;obtain⟨⟨b,h1,h2⟩,h3,h4,h5⟩:=H p x v cs g1 hs hl hg1;obtain⟨⟨bss,h6,h7⟩,h8,h9,h10⟩:=jD H ps xs vs' g2 hrest hg2;refine⟨⟨b::bss,⟨v,vs',b,bss,rfl,rfl,h1.mono (ia (by intro h;simp[h]) (λx hx=>AJ _ hx)) (jZ (λx hx=>AJ _ hx) (λx hx=>AJ _ hx)),
     h6.mono (ia (by intro h;simp[h]) (λx hx=>AE _ hx)) (jZ (λx hx=>AE _ hx) (λx hx=>AE _ hx))⟩,λk=>?_⟩,?_,?_,?_⟩
    ·rw[AY,AF,h7 k,h2,AF,Bz,AF,dp,AF];omega
    ·intro z hz;exact (AM.1 hz).elim (h3 z) (h8 z)
    ·intro z hz;exact (AM.1 hz).elim (h4 z) (h9 z)
    ·intro z hz;exact (AM.1 hz).elim (h5 z) (h10 z)
   ·cases hg
  ·cases hg
theorem md:∀ {Γ:List Ctr} {f:FuncId} {c:Ctr},kO Γ f=some c->c∈Γ/\c.f=f
 |[],_,_,h=>by simp[kO]at h
 |c'::Γ,f,c,h=>by
  simp only[kO]at h;cases hb:AR c'.f f with
  |true =>
   simp only[hb,cond_true,AA]at h;subst h;exact⟨AW ..,AI hb⟩
  |false =>
   simp only[hb,cond_false]at h;obtain⟨h1,h2⟩:=md h;exact⟨AP _ h1,h2⟩
theorem r8 {w:World}{G pr:Nat->Prop}{q:List PK}{z:ab q}{cv:List Value}{bss:List (List Nat)}(hz:cQ P w G pr q z cv bss):∀ (As:List Ty) (x:Tup As) (args:List Value),qI w G As x args ->
  cQ P w G pr (As.map .rd++q) (my q z As x) (args++cv) (As.map (λ_=>[])++bss)
 |[],_,_,h=>by rw[show _=_ from h];exact hz
 |a::As,x,_,⟨v,c,vs',rfl,h1,h2,h3⟩=>⟨v,vs'++cv,[],_,rfl,rfl,⟨rfl,c,h1,h2⟩,r8 hz As x.2 vs' h3⟩
theorem oS {w:World}{ro pr:Nat->Prop}:∀ {ps:List PK} {x:ab ps} {vs:List Value} {bss:List (List Nat)},ps.all PK.reads=true->cQ P w ro pr ps x vs bss->bss.flatten=[]
 |[],_,_,_,_,⟨_,e⟩=>by rw[e];rfl
 |p::ps,_,_,_,h,⟨v,vs',b,bss',_,e,h1,h2⟩=>by
  simp only[Be,AC]at h;rw[e,AY,oS h.2 h2,Aa];cases p <;> first|exact h1.1|simp[PK.reads]at h
theorem oT {w w1:World}{ro pr ro' pr':Nat->Prop}(hro:∀ k,ro k->ro' k/\w1.heap[k]?=w.heap[k]?)(hpr:∀ k,pr k->pr' k/\w1.heap[k]?=w.heap[k]?):∀ {ps:List PK} {x:ab ps} {vs:List Value} {bss:List (List Nat)},
  ps.all PK.reads=true->cQ P w ro pr ps x vs bss->cQ P w1 ro' pr' ps x vs bss
 |[],_,_,_,_,h=>h
 |p::ps,x,_,_,hr,⟨v,vs',b,bss',e,e2,h1,h2⟩=>by
  simp only[Be,AC]at hr;refine⟨v,vs',b,bss',e,e2,?_,oT hro hpr hr.2 h2⟩;cases p with
  |rd a =>
   obtain⟨h0,cs,h3,h4⟩:=h1;exact⟨h0,cs,h3,h4.carry (λk hk=>(hro k hk).1) (λk hk=>(hro k hk).2)⟩
  |rref a=>exact⟨h1.1,h1.2.carry hro hpr⟩
  |rref2 a=>exact⟨h1.1,h1.2.carry hro hpr⟩
  |_=>simp[PK.reads]at hr
theorem lq (hV:ax V){W:Wit}{p:Bool}{ks:List (Nat×Nat)}{see:List Nat}:∀ k,bo V W p ks k->iT V W st ks see k:=by
 rintro k ((hk|⟨_,hk⟩)|hk)
 ·exact .inl hk
 ·exact .inr (.inl (hV.ro k hk))
 ·exact .inr (.inr (.inr hk))
theorem qh {W:Wit}{ks:List (Nat×Nat)}{see:List Nat}(hks:∀ z∈ks,aB st z):∀ k,iT V W st ks see k->b6 V W st k:=by
 rintro k (hk|hk|⟨b,_,hb,e⟩|⟨x,hx,hk⟩)
 ·exact .inl hk
 ·exact .inr (.inl hk)
 ·exact .inr (.inr (.inl ⟨b,hb,e⟩))
 ·obtain⟨l,h1,h2⟩:=hks x hx;exact .inr (.inr (.inr ⟨x.1,x.2,l,h1,h2,hk⟩))
theorem qS {W:Wit}{w:World}:∀ {ls:List Leaf} {us:List Value},aC P V W st w ls us->gi P V W st w (ls.map λl=>(aI.one,[l])) us
 |[],[],_=>rfl
 |_::_,_::_,h=>⟨_,_,[_],rfl,rfl,⟨h.1,trivial⟩,qS h.2⟩
theorem wc (hV:ax V)(hΓ:∀ c∈Γ,af P c){W:Wit}{a:Act}{w:World}(h:ao P V W st a w){As:List Ty}{B:Ty}{f:FuncId}{ls:List Leaf}{us:List Value}{v:Value}(hv:v=.func (.func f) #[] us.toArray)(hls:aC P V W st w ls us)
  {g:Got (Tup As->Option B.den)} (hg:jH Γ st As B f ls=some g):ij P w (iT V W st g.frz g.see) As B g.val v/\(∀ z∈g.frz,aB st z)/\g.kill=[]/\g.lend=[]:=by
 unfold jH at hg;split at hg
 ·rename_i c hc;obtain⟨hmem,rfl⟩:=md hc;obtain⟨hent,hsound⟩:=hΓ c hmem;obtain⟨f',ps,rs,fresh,den⟩:=c;simp only at hg hent hsound hv;generalize ps.drop As.length=q at hg;unfold qF at hg;split at hg
  ·rename_i hh;obtain⟨rfl,rfl⟩:=hh;cases hb:q.all PK.reads&&B.flat&&fresh with
   |false=>simp[hb]at hg
   |true =>
    simp only[hb,cond_true]at hg;simp only[AC]at hb;obtain⟨⟨hb1,hb2⟩,hb3⟩:=hb;subst hb3;split at hg
    ·rename_i g0 hg0;simp only[AA]at hg;subst hg;obtain⟨⟨bss,h1,h2⟩,h3,h4,h5⟩:=jD (λpk x v cs g hs hl hg=>mc hV h hs hl hg) q _ _ g0 (qS hls) hg0;have hb0:=oS hb1 h1;refine⟨⟨f',us.toArray,hv,hent,λw1 hsz hsame x args y hx hy=>?_⟩,h3,rfl,rfl⟩;simp only[AB]at hy;obtain⟨y0,hy0,rfl⟩:=hy;have hb1':(As.map (λ_=>([]:List Nat))++bss).flatten=[]:=by
      rw[List.flatten_append,hb0,Aa];clear hx hy0;induction As with
      |nil=>rfl
      |cons a As ih=>simp
     have hlt:∀ k,iT V W st g0.frz g0.see k->k<w1.heap.size:=λk hk=>Am (h.used_lt k (qh h3 k hk)) hsz
     have hargs:=r8 (P:=P) (pr:=λk=>k<w1.heap.size/\k∉(As.map (λ_=>([]:List Nat))++bss).flatten)
      (oT (P:=P) (w1:=w1) (ro':=λk=>k<w1.heap.size) (λk hk=>⟨hlt k (lq hV k hk),hsame k (lq hV k hk)⟩)
       (λk hk=>⟨⟨hlt k hk,by rw[hb1'];simp⟩,hsame k hk⟩) hb1 h1) As x args hx
     have hcalls:=hsound w1 (λk=>k<w1.heap.size) (my q g0.val As x) (args++us) (As.map (λ_=>[])++bss) y0 hargs
      (λk hk=>⟨hk,by rw[hb1'];simp⟩) (by rw[hb1'];exact B5) hy0
     have hargv:args.toArray++us.toArray=(args++us).toArray:=by simp
     rw[hargv];refine hcalls.mono λe w2 hpost=>?_
     obtain⟨u,us2,N,oss,rbs,rfl,hret,hsz2,hos,htp,hou,hfr,_,_,hres,_,_⟩:=hpost;obtain⟨u1,us',b,bss',e1,e2,⟨cs,hvo,hm⟩,e3,e4⟩:=hres;subst e3;subst e1;have hret:u=u1:=hret;subst hret;exact⟨u,cs,rfl,hvo,jb hb2 hm,⟨hos,htp,hou,hsz2,λk hk=>hfr k hk (by rw[hb1'];simp)⟩⟩
    ·cases hg
  ·cases hg
 ·cases hg
theorem sW (hV:ax V)(hΓ:∀ c∈Γ,af P c){W:Wit}{a:Act}{w:World}(h:ao P V W st a w)(pk:PK)(x:aI×List Leaf)(v:Value)(cs:List Value)(g:Got pk.den)(hs:dJ x.1 v cs)(hl:aC P V W st w x.2 cs)
  (hg:bZ Γ st pk x=some g):uE P V W st w pk v g:=by
 cases pk with
 |fn As B =>
  simp only[bZ]at hg;split at hg
  ·rename_i fc hfc;have hx:(∃ caps,ch x=.clo fc.1 caps/\fc.2=caps.map λb=>Leaf.bp b 0)\/∃ caps,ch x=.clr fc.1 caps/\fc.2=caps.map ee:=by
    generalize ch x=l at hfc;cases l <;> simp only[tR,AA,reduceCtorEq]at hfc
    ·subst hfc;exact .inl ⟨_,rfl,rfl⟩
    ·subst hfc;exact .inr ⟨_,rfl,rfl⟩
   rcases hx with ⟨caps,hx,he⟩|⟨caps,hx,he⟩
   ·obtain⟨hl1,_⟩:=ge hs hl hx (by simp);rw[he]at hg;obtain⟨h1,h2,h3,h4⟩:=wc hV hΓ h hl1.1 (oR caps hl1.2) hg;exact⟨⟨[],⟨rfl,h1⟩,by rw[h3,h4];rfl⟩,h2,by rw[h3];simp,by rw[h4];simp⟩
   ·obtain⟨hl1,_⟩:=ge hs hl hx (by simp);rw[he]at hg;obtain⟨us,e1,e2,e3⟩:=hl1;obtain⟨h1,h2,h3,h4⟩:=wc hV hΓ h e1 (pA e2 e3) hg;exact⟨⟨[],⟨rfl,h1⟩,by rw[h3,h4];rfl⟩,h2,by rw[h3];simp,by rw[h4];simp⟩
  ·exact mc hV h hs hl hg
 |_=>exact mc hV h hs hl hg
end
section
variable {P:Program} {V:Env} {W:Wit} {st st':St} {w w':World} {a:Act}
theorem gQ {G:Nat->Prop}{p:Bool}(hG:∀ k,G k->gd V W p k):∀ {b:Ty} {pos:Nat} {x:b.den} {cs:List Value} {bs:List Nat},Mx w G b none pos x cs bs->bs.Nodup ->
  ∃ bsd:Nat->List Nat,(ap p b x).length=cs.length /\
   (∀ (j:Nat) (l:Leaf) (u:Value),(ap p b x)[j]?=some l->cs[j]?=some u->aK P V W st w (bsd j) l u) /\
   (∀ (j:Nat) (l:Leaf),(ap p b x)[j]?=some l->an l->∀ k∈bsd j,k∈bs) /\
   (∀ (j j':Nat) (l l':Leaf),(ap p b x)[j]?=some l->an l->(ap p b x)[j']?=some l'->an l'->∀ k,k∈bsd j->k∈bsd j'->j=j')
 |.int k,_,x,cs,bs,H,_=>by
  obtain⟨rfl,rfl⟩:=H;exact⟨λ_=>[],rfl,λj l u h1 h2=>by cases j with|zero=>simp[ap]at h1 h2;subst h1;subst h2;rfl|succ j=>simp[ap]at h1,λj l h1 _ k hk=>by simp at hk,λj j' l l' _ _ _ _ k hk=>by simp at hk⟩
 |.bool,_,x,cs,bs,H,_=>by
  obtain⟨rfl,rfl⟩:=H;exact⟨λ_=>[],rfl,λj l u h1 h2=>by cases j with|zero=>simp[ap]at h1 h2;subst h1;subst h2;rfl|succ j=>simp[ap]at h1,λj l h1 _ k hk=>by simp at hk,λj j' l l' _ _ _ _ k hk=>by simp at hk⟩
 |.str,_,x,cs,bs,H,_=>by
  obtain⟨rfl,rfl⟩:=H;exact⟨λ_=>[],rfl,λj l u h1 h2=>by cases j with|zero=>simp[ap]at h1 h2;subst h1;subst h2;rfl|succ j=>simp[ap]at h1,λj l h1 _ k hk=>by simp at hk,λj j' l l' _ _ _ _ k hk=>by simp at hk⟩
 |.unit,_,x,cs,bs,H,_=>by
  obtain⟨rfl,rfl⟩:=H;exact⟨λ_=>[],rfl,λj l u h1 h2=>by simp[ap]at h1,λj l h1 _ k hk=>by simp at hk,λj j' l l' _ _ _ _ k hk=>by simp at hk⟩
 |.hdr,_,x,cs,bs,H,_=>by
  obtain⟨⟨A,cap,rfl⟩,rfl⟩:=H;exact⟨λ_=>[],rfl,λj l u h1 h2=>by cases j with|zero=>simp[ap]at h1 h2;subst h1;subst h2;exact⟨A,cap,rfl⟩|succ j=>simp[ap]at h1,λj l h1 _ k hk=>by simp at hk,λj j' l l' _ _ _ _ k hk=>by simp at hk⟩
 |.pair b c,pos,x,cs,bs,⟨c1,c2,b1,b2,e1,e2,h1,h2⟩,hnd=>by
  subst e1;subst e2;rw[Ap]at hnd;obtain⟨d1,f1,f2,f3,f4⟩:=gQ hG h1 hnd.1;obtain⟨d2,g1,g2,g3,g4⟩:=gQ hG h2 hnd.2.1;have hl1:=cu p b x.1;have hc1:=h1.len;have hsplit:∀ (j:Nat) (l:Leaf),(ap p b x.1++ap p c x.2)[j]?=some l->(j<b.cells/\(ap p b x.1)[j]?=some l)\/(b.cells<=j/\(ap p c x.2)[j-b.cells]?=some l):=by
   intro j l hj;by_cases hlt:j<b.cells
   ·rw[AH (by omega)]at hj;exact .inl ⟨hlt,hj⟩
   ·rw[AG (by omega),hl1]at hj;exact .inr ⟨by omega,hj⟩
  refine⟨λj=>if j<b.cells then d1 j else d2 (j-b.cells),by simp only[ap,AS];omega,λj l u hj hu=>?_,λj l hj ho k hk=>?_,λj j' l l' hj ho hj' ho' k hk hk'=>?_⟩
  ·rcases hsplit j l hj with ⟨hlt,hj⟩|⟨hge,hj⟩
   ·rw[AH (by omega)]at hu;simp only[if_pos hlt];exact f2 j l u hj hu
   ·rw[AG (by omega),hc1]at hu;simp only[if_neg (show ¬ j<b.cells by omega)];exact g2 _ l u hj hu
  ·rcases hsplit j l hj with ⟨hlt,hj⟩|⟨hge,hj⟩
   ·simp only[if_pos hlt]at hk;exact AJ _ (f3 j l hj ho k hk)
   ·simp only[if_neg (show ¬ j<b.cells by omega)]at hk;exact AE _ (g3 _ l hj ho k hk)
  ·rcases hsplit j l hj with ⟨hlt,hj⟩|⟨hge,hj⟩ <;> rcases hsplit j' l' hj' with ⟨hlt',hj'⟩|⟨hge',hj'⟩
   ·simp only[if_pos hlt]at hk;simp only[if_pos hlt']at hk';exact f4 j j' l l' hj ho hj' ho' k hk hk'
   ·simp only[if_pos hlt]at hk;simp only[if_neg (show ¬ j'<b.cells by omega)]at hk';exact absurd rfl (hnd.2.2 k (f3 j l hj ho k hk) k (g3 _ l' hj' ho' k hk'))
   ·simp only[if_neg (show ¬ j<b.cells by omega)]at hk;simp only[if_pos hlt']at hk';exact absurd rfl (hnd.2.2 k (f3 j' l' hj' ho' k hk') k (g3 _ l hj ho k hk))
   ·simp only[if_neg (show ¬ j<b.cells by omega)]at hk;simp only[if_neg (show ¬ j'<b.cells by omega)]at hk';have:=g4 _ _ l l' hj ho hj' ho' k hk hk';omega
 |.list m E e,pos,xs,cs,bs,H,hnd=>by
  cases m with
  |false =>
   rw[cn]at H;obtain⟨rfl,A,cap,rfl,h2,h3⟩:=H;refine⟨λ_=>[],rfl,λj l u h1 h4=>?_,λj l h1 _ k hk=>by simp at hk,λj j' l l' _ _ _ _ k hk=>by simp at hk⟩;cases j with
   |zero =>
    simp[ap]at h1 h4;subst h1;subst h4;exact Rd.mono hG (⟨A,cap,rfl,h2,h3⟩:Rd w G (.list false E e) xs _)
   |succ j=>simp[ap]at h1
  |true =>
   rw[cd (by simp)]at H;obtain⟨v,rfl,hO⟩:=H;refine⟨λ_=>bs,rfl,λj l u h1 h4=>?_,λj l h1 _ k hk=>hk,λj j' l l' h1 _ h3 _ k _ _=>?_⟩
   ·cases j with
    |zero =>
     simp[ap]at h1 h4;subst h1;subst h4;exact⟨hnd,OwB.shy (hO.carry hG (λ_ _=>rfl) (λ_ _=>rfl))⟩
    |succ j=>simp[ap]at h1
   ·have h7:j<1:=by simpa[ap]using (AD.1 h1).1
    have h8:j'<1:=by simpa[ap]using (AD.1 h3).1
    omega
theorem ao.reown (hV:ax V)(h:ao P V W st a w)(r:Nat)(c:bS)(bsr:Nat->List Nat)(hver:(st r).ver<c.ver)(hsh:c.sh=(st r).sh)(hlen:c.ls.length=(st r).ls.length)
  (hleaf:∀ (j:Nat) (l:Leaf) (v:Value),c.ls[j]?=some l->(W.cs r)[j]?=some v->aK P V W st w (bsr j) l v)
  (hown:∀ (j:Nat) (l:Leaf),c.ls[j]?=some l->an l->∀ k∈bsr j,¬ W.nw k/\¬ V.prot k/\(∀ b,live st b->W.β b≠k) /\
   ∀ (r1 j1:Nat) (l1:Leaf),r1≠r->(st r1).ls[j1]?=some l1->an l1->k∉W.bs r1 j1)
  (hsep:∀ (j j':Nat) (l l':Leaf),c.ls[j]?=some l->an l->c.ls[j']?=some l'->an l'->∀ k,k∈bsr j->k∈bsr j'->j=j') :
  ao P V { W with bs:=λr' j=>if r'=r then bsr j else W.bs r' j } (ac [(r,c)] st) a w:=by
 have hlv:∀ b,live (ac [(r,c)] st) b<->live st b:=by
  intro b;rcases am r b c st with ⟨rfl,e⟩|⟨_,e⟩
  ·simp[live,e,hsh]
  ·simp[live,e]
 have hstep:co V W { W with bs:=λr' j=>if r'=r then bsr j else W.bs r' j } st (ac [(r,c)] st) w w:=by
  refine⟨λq=>?_,λb hb=>⟨(hlv b).2 hb,rfl⟩,λ_ h=>h,λ_ _=>rfl,λ_ q j' l' h3 h4 h5=>?_⟩
  ·rcases am r q c st with ⟨rfl,e⟩|⟨hne,e⟩
   ·rw[e];exact⟨Nat.le_of_lt hver,λ_=>rfl⟩
   ·rw[e];exact⟨AU _,λ_=>rfl⟩
  ·rcases am r q c st with ⟨rfl,e⟩|⟨hne,e⟩
   ·rw[e]at h5;omega
   ·rw[e]at h3;exact⟨⟨l',h3,h4⟩,by simp[hne],λ_ _=>rfl⟩
 exact {
  nt:=h.nt,df:=h.df
  slots:=λt ht=>by
   rcases am r t c st with ⟨rfl,e⟩|⟨_,e⟩
   ·rw[e,hsh];exact h.slots t ht
   ·rw[e];exact h.slots t ht
  boxes:=λb hb=>by
   rcases am r b c st with ⟨rfl,e⟩|⟨_,e⟩
   ·rw[e,hsh];rcases h.boxes b hb with ⟨h1,h2⟩|h1
    ·refine .inl ⟨h1,?_⟩;rw[h2]at hlen;exact AV hlen
    ·exact .inr h1
   ·rw[e];exact h.boxes b hb
  len:=λq=>by
   rcases am r q c st with ⟨rfl,e⟩|⟨_,e⟩
   ·rw[e,hlen];exact h.len q
   ·rw[e];exact h.len q
  one:=h.one
  leaf:=λq j l u h2 h3=>by
   rcases am r q c st with ⟨rfl,e⟩|⟨hne,e⟩
   ·rw[e]at h2;exact (hleaf j l u h2 h3).carry hV.ro hstep (λ_=>⟨by simp,λ_ _=>rfl⟩)
   ·rw[e]at h2;exact (h.leaf q j l u h2 h3).carry hV.ro hstep (λ_=>⟨by simp[hne],λ_ _=>rfl⟩)
  ownb:=λq j l h2 h3 k hk=>by
   rcases am r q c st with ⟨rfl,e⟩|⟨hne,e⟩
   ·rw[e]at h2;simp only[if_true]at hk;have:=hown j l h2 h3 k hk;exact⟨this.1,this.2.1,λb hb=>this.2.2.1 b ((hlv b).1 hb)⟩
   ·rw[e]at h2;simp only[hne,if_false]at hk;have:=h.ownb q j l h2 h3 k hk;exact⟨this.1,this.2.1,λb hb=>this.2.2 b ((hlv b).1 hb)⟩
  sep:=λq j l q' j' l' h2 h3 h4 h5 k hk hk'=>by
   rcases am r q c st with ⟨e0,e⟩|⟨hne,e⟩ <;> rcases am r q' c st with ⟨e1,e'⟩|⟨hne',e'⟩
   ·rw[e]at h2;rw[e']at h4;simp only[e0,if_true]at hk;simp only[e1,if_true]at hk';exact⟨e0.trans e1.symm,hsep j j' l l' h2 h3 h4 h5 k hk hk'⟩
   ·rw[e]at h2;rw[e']at h4;simp only[e0,if_true]at hk;simp only[hne',if_false]at hk';exact absurd hk' ((hown j l h2 h3 k hk).2.2.2 q' j' l' hne' h4 h5)
   ·rw[e]at h2;rw[e']at h4;simp only[hne,if_false]at hk;simp only[e1,if_true]at hk';exact absurd hk ((hown j' l' h4 h5 k hk').2.2.2 q j l hne h2 h3)
   ·rw[e]at h2;rw[e']at h4;simp only[hne,if_false]at hk;simp only[hne',if_false]at hk';exact h.sep q j l q' j' l' h2 h3 h4 h5 k hk hk'
  box:=λb hb=>h.box b ((hlv b).1 hb)
  inj:=λb b' hb hb'=>h.inj b b' ((hlv b).1 hb) ((hlv b').1 hb')
  nwlt:=h.nwlt
  os:=h.os,tape:=h.tape,output:=h.output,size:=h.size,keep:=h.keep
  fixb:=λx hx=>⟨(hlv _).2 (h.fixb x hx).1,(h.fixb x hx).2⟩
  fixt:=h.fixt }
theorem ao.reownE (hV:ax V)(h:ao P V W st a w)(r:Nat)(c:bS)(bsr:Nat->List Nat)(hrE:r≠EPO)(hver:(st r).ver<=c.ver)(hsh:c.sh=(st r).sh)(hlen:c.ls.length=(st r).ls.length)
  (hleaf:∀ (j:Nat) (l:Leaf) (v:Value),c.ls[j]?=some l->(W.cs r)[j]?=some v->aK P V W st w (bsr j) l v)
  (hown:∀ (j:Nat) (l:Leaf),c.ls[j]?=some l->an l->∀ k∈bsr j,¬ W.nw k/\¬ V.prot k/\(∀ b,live st b->W.β b≠k) /\
   ∀ (r1 j1:Nat) (l1:Leaf),r1≠r->(st r1).ls[j1]?=some l1->an l1->k∉W.bs r1 j1)
  (hsep:∀ (j j':Nat) (l l':Leaf),c.ls[j]?=some l->an l->c.ls[j']?=some l'->an l'->∀ k,k∈bsr j->k∈bsr j'->j=j') :
  ao P V { W with bs:=λr' j=>if r'=r then bsr j else W.bs r' j } (ac [(r,c),(EPO,bT (st EPO))] st) a w /\
   (∀ q,(ac [(r,c),(EPO,bT (st EPO))] st q).sh=(st q).sh/\(st q).ver<=(ac [(r,c),(EPO,bT (st EPO))] st q).ver/\(q≠r->(ac [(r,c),(EPO,bT (st EPO))] st q).ls=(st q).ls))/\ac [(r,c),(EPO,bT (st EPO))] st r=c:=by
 have e0:ac [(r,c),(EPO,bT (st EPO))] st=ac [(r,c)] (ac [(EPO,bT (st EPO))] st):=aP _ _ _ _;generalize hS:ac [(r,c),(EPO,bT (st EPO))] st=S;rw[e0]at hS;have hr:S r=c:=by rw[<- hS,bk]
 have hq:∀ q,(S q).sh=(st q).sh/\(st q).ver<=(S q).ver/\(q≠r->(S q).ls=(st q).ls):=by
  intro q;rw[<- hS];rcases am r q c (ac [(EPO,bT (st EPO))] st) with ⟨rfl,e⟩|⟨hne,e⟩
  ·rw[e];exact⟨hsh,hver,λh=>absurd rfl h⟩
  ·rw[e];rcases am EPO q (bT (st EPO)) st with ⟨rfl,e⟩|⟨_,e⟩ <;> rw[e]
   ·exact⟨rfl,Bv _,λ_=>rfl⟩
   ·exact⟨rfl,AU _,λ_=>rfl⟩
 have hE:(st EPO).ver<(S EPO).ver:=by
  rw[<- hS,aJ (Ay hrE),bk];exact AL _
 refine⟨?_,hq,hr⟩;have hlv:∀ b,live S b<->live st b:=λb=>by simp[live,(hq b).1]
 have hstep:co V W { W with bs:=λr' j=>if r'=r then bsr j else W.bs r' j } st S w w :=
  ⟨λq=>⟨(hq q).2.1,λ_=>rfl⟩,λb hb=>⟨(hlv b).2 hb,rfl⟩,λ_ h=>h,λ_ _=>rfl,λhe=>by omega⟩
 have hls:∀ q,(S q).ls.length=(st q).ls.length:=λq=>by
  by_cases hqr:q=r
  ·rw[hqr,hr,hlen]
  ·rw[(hq q).2.2 hqr]
 exact {
  nt:=h.nt,df:=h.df
  slots:=λt ht=>by rw[(hq t).1];exact h.slots t ht
  boxes:=λb hb=>by
   rw[(hq b).1];rcases h.boxes b hb with ⟨h1,h2⟩|h1
   ·refine .inl ⟨h1,AV ?_⟩;rw[hls,h2];rfl
   ·exact .inr h1
  len:=λq=>by rw[hls];exact h.len q
  one:=h.one
  leaf:=λq j l u h2 h3=>by
   by_cases hqr:q=r
   ·subst hqr;rw[hr]at h2;exact (hleaf j l u h2 h3).carry hV.ro hstep (λ_=>⟨by simp,λ_ _=>rfl⟩)
   ·rw[(hq q).2.2 hqr]at h2;exact (h.leaf q j l u h2 h3).carry hV.ro hstep (λ_=>⟨by simp[hqr],λ_ _=>rfl⟩)
  ownb:=λq j l h2 h3 k hk=>by
   by_cases hqr:q=r
   ·subst hqr;rw[hr]at h2;simp only[if_true]at hk;have:=hown j l h2 h3 k hk;exact⟨this.1,this.2.1,λb hb=>this.2.2.1 b ((hlv b).1 hb)⟩
   ·rw[(hq q).2.2 hqr]at h2;simp only[hqr,if_false]at hk;have:=h.ownb q j l h2 h3 k hk;exact⟨this.1,this.2.1,λb hb=>this.2.2 b ((hlv b).1 hb)⟩
  sep:=λq j l q' j' l' h2 h3 h4 h5 k hk hk'=>by
   by_cases e0:q=r <;> by_cases e1:q'=r
   ·subst e0;subst e1;rw[hr]at h2 h4;simp only[if_true]at hk hk';exact⟨rfl,hsep j j' l l' h2 h3 h4 h5 k hk hk'⟩
   ·subst e0;rw[hr]at h2;rw[(hq q').2.2 e1]at h4;simp only[if_true]at hk;simp only[e1,if_false]at hk';exact absurd hk' ((hown j l h2 h3 k hk).2.2.2 q' j' l' e1 h4 h5)
   ·subst e1;rw[(hq q).2.2 e0]at h2;rw[hr]at h4;simp only[e0,if_false]at hk;simp only[if_true]at hk';exact absurd hk ((hown j' l' h4 h5 k hk').2.2.2 q j l e0 h2 h3)
   ·rw[(hq q).2.2 e0]at h2;rw[(hq q').2.2 e1]at h4;simp only[e0,if_false]at hk;simp only[e1,if_false]at hk';exact h.sep q j l q' j' l' h2 h3 h4 h5 k hk hk'
  box:=λb hb=>h.box b ((hlv b).1 hb)
  inj:=λb b' hb hb'=>h.inj b b' ((hlv b).1 hb) ((hlv b').1 hb')
  nwlt:=h.nwlt
  os:=h.os,tape:=h.tape,output:=h.output,size:=h.size,keep:=h.keep
  fixb:=λx hx=>⟨(hlv _).2 (h.fixb x hx).1,(h.fixb x hx).2⟩
  fixt:=h.fixt }
theorem ao.nwGrow (hV:ax V)(h:ao P V W st a w)(N:Nat->Prop)(hN:∀ k,N k->k<w.heap.size/\¬ b6 V W st k):ao P V { W with nw:=λk=>W.nw k\/N k } st a w:=by
 have hstep:co V W { W with nw:=λk=>W.nw k\/N k } st st w w:=⟨λr=>⟨AU _,λ_=>rfl⟩,λb hb=>⟨hb,rfl⟩,λ_ h=>.inl h,λ_ _=>rfl,λ_ _ _ l h1 h2 _=>⟨⟨l,h1,h2⟩,rfl,λ_ _=>rfl⟩⟩
 exact {
  nt:=h.nt,df:=h.df,slots:=h.slots,boxes:=h.boxes,len:=h.len,one:=h.one
  leaf:=λr j l v h1 h2=>(h.leaf r j l v h1 h2).carry hV.ro hstep (λ_=>⟨rfl,λ_ _=>rfl⟩)
  ownb:=λr j l h1 h2 k hk=>⟨λhn=>hn.elim (h.ownb r j l h1 h2 k hk).1 (λhn=>(hN k hn).2 (.inr (.inr (.inr ⟨r,j,l,h1,h2,hk⟩)))),(h.ownb r j l h1 h2 k hk).2⟩
  sep:=h.sep
  box:=λb hb=>⟨λhn=>hn.elim (h.box b hb).1 (λhn=>(hN _ hn).2 (.inr (.inr (.inl ⟨b,hb,rfl⟩)))),(h.box b hb).2⟩
  inj:=h.inj
  nwlt:=λk hk=>hk.elim (h.nwlt k) (λhk=>⟨(hN k hk).1,λhp=>(hN k hk).2 (.inr (.inl hp))⟩)
  os:=h.os,tape:=h.tape,output:=h.output,size:=h.size,keep:=h.keep,fixb:=h.fixb,fixt:=h.fixt }
end
def ec:List Leaf->List Leaf->List (Nat×Nat)
 |.al r j _::xs,l::ls=>(match l with|.own _ _ _ _ _=>[(r,j)]|_=>[])++ec xs ls
 |_::xs,_::ls=>ec xs ls
 |_,_=>[]
section
variable {P:Program} {V:Env} {st st':St} {w w':World} {a:Act}
theorem mf {x l:Leaf}{xs ls:List Leaf}(h:¬ an l):ec (x::xs) (l::ls)=ec xs ls:=by
 cases x <;> try rfl
 cases l <;> first|exact absurd trivial h|rfl
theorem tD {k:IntKind}{ls:List Leaf}{x:Bool×(Ty.int k).den×List Leaf}(h:aZ st (.int k) ls=some x):∃ l,ls=l::x.2.2:=by
 simp only[aZ]at h;split at h
 ·split at h
  ·simp only[AA]at h;subst h;exact⟨_,rfl⟩
  ·cases h
 ·cases h
theorem r9 {ls:List Leaf}{x:Bool×Ty.bool.den×List Leaf}(h:aZ st .bool ls=some x):∃ l,ls=l::x.2.2:=by
 simp only[aZ]at h;split at h
 ·simp only[AA]at h;subst h;exact⟨_,rfl⟩
 ·cases h
theorem tE {ls:List Leaf}{x:Bool×Ty.str.den×List Leaf}(h:aZ st .str ls=some x):∃ l,ls=l::x.2.2:=by
 simp only[aZ]at h;split at h
 ·simp only[AA]at h;subst h;exact⟨_,rfl⟩
 ·cases h
theorem tF {ls:List Leaf}{x:Bool×Ty.hdr.den×List Leaf}(h:aZ st .hdr ls=some x):∃ l,ls=l::x.2.2:=by
 simp only[aZ]at h;split at h
 ·split at h
  ·simp only[AA]at h;subst h;exact⟨_,rfl⟩
  ·cases h
 ·cases h
theorem ke {p:Bool}:∀ (b:Ty) (ls:List Leaf) (t:cA b.den),take st b ls=some t->∀ (y:b.den) (tail:List Leaf),ec ls (ap p b y++tail)=t.kill++ec t.rest tail
 |.pair b c,ls,t,h,y,tail=>by
  simp only[take]at h;split at h
  ·rename_i u hu;split at h
   ·rename_i v hv;simp only[AA]at h;subst h;simp only[ap];rw[AQ,ke b ls u hu y.1,ke c u.rest v hv y.2,AQ]
   ·cases h
  ·cases h
 |.unit,ls,t,h,y,tail=>by
  simp only[take,AA]at h;subst h;rfl
 |.list m E e,ls,t,h,y,tail=>by
  cases ls with
  |nil=>simp[take]at h
  |cons l ls =>
   cases m with
   |false =>
    simp only[take,cond_false]at h;split at h
    ·simp only[AA]at h;subst h;exact mf id
    ·cases h
   |true =>
    simp only[take,cond_true]at h;split at h
    ·split at h
     ·simp only[AB]at h;obtain⟨xs,_,rfl⟩:=h;rfl
     ·cases h
    ·simp only[AA]at h;subst h;rfl
    ·cases h
 |.int k,ls,t,h,y,tail=>scal (b:=.int k) h tD (l':=.int k y) id
 |.bool,ls,t,h,y,tail=>scal (b:=.bool) h r9 (l':=.bool y) id
 |.str,ls,t,h,y,tail=>scal (b:=.str) h tE (l':=.str y) id
 |.hdr,ls,t,h,y,tail=>scal (b:=.hdr) h tF (l':=.hdr y) id
where
 scal {b:Ty} {ls:List Leaf} {t:cA b.den} {l':Leaf} {tail:List Leaf} (h:(aZ st b ls).map (λx=>(⟨false,x.2.1,[],[],x.2.2⟩:cA b.den))=some t)
   (H:∀ {ls:List Leaf} {x:Bool×b.den×List Leaf},aZ st b ls=some x->∃ l,ls=l::x.2.2) (hl:¬ an l'):ec ls ([l']++tail)=t.kill++ec t.rest tail:=by
  simp only[AB]at h;obtain⟨x,hx,rfl⟩:=h;obtain⟨l,rfl⟩:=H hx;exact mf hl
theorem xh {W W':Wit}{bs:List Nat}{l:Leaf}{v:Value}(ho:an l)(hn:W'.nw=W.nw)(h:aK P V W st w bs l v):aK P V W' st' w bs l v:=by
 cases l <;> simp only[an]at ho;exact OwH.carry h (λk hk=>by
  rcases hk with hk|hk
  ·exact .inl (by rw[hn];exact hk)
  ·exact .inr hk) (λ_ _=>rfl) (λ_ _=>rfl)
theorem uF {S:St}{x l:Leaf}{xs ls:List Leaf}(h:¬ an l):ac (bY S (x::xs) (l::ls)) S=ac (bY S xs ls) S:=by
 cases x <;> try rfl
 cases l <;> first|exact absurd trivial h|rfl
theorem iU {x:Nat×Nat}{l:List (Nat×Nat)}(h:aX (x::l)=true):x∉l/\aX l=true:=by
 simp only[aX,AC,AX,Af]at h;exact⟨λhm=>by have:=h.1 x hm;simp at this,h.2⟩
theorem xI (hV:ax V){W:Wit}{S:St}(h:ao P V W S a w):∀ (xl ls:List Leaf) (cs:List Value) (bsd:Nat->List Nat),aX (ec xl ls)=true->(∀ x∈ec xl ls,x.1≠EPO)->xl.length=cs.length->ls.length=cs.length ->
  (∀ (i r j n:Nat) (l:Leaf) (u:Value),xl[i]?=some (.al r j n)->ls[i]?=some l->an l->cs[i]?=some u->(W.cs r)[j]?=some u) ->
  (∀ x∈ec xl ls,∀ l,(S x.1).ls[x.2]?=some l->¬ an l) ->
  (∀ (i:Nat) (l:Leaf) (u:Value),ls[i]?=some l->cs[i]?=some u->aK P V W S w (bsd i) l u) ->
  (∀ (i:Nat) (l:Leaf),ls[i]?=some l->an l->∀ k∈bsd i,¬ b6 V W S k) ->
  (∀ (i i':Nat) (l l':Leaf),ls[i]?=some l->an l->ls[i']?=some l'->an l'->∀ k,k∈bsd i->k∈bsd i'->i=i') ->
  ∃ W',ao P V W' (ac (bY S xl ls) S) a w/\W'.cs=W.cs/\W'.β=W.β/\W'.nw=W.nw/\(∀ q,(ac (bY S xl ls) S q).sh=(S q).sh/\(S q).ver<=(ac (bY S xl ls) S q).ver) /\
   (∀ (q i:Nat),(q,i)∉ec xl ls->(ac (bY S xl ls) S q).ls[i]?=(S q).ls[i]?/\W'.bs q i=W.bs q i) /\
   (∀ k,b6 V W' (ac (bY S xl ls) S) k->b6 V W S k\/∃ i l,ls[i]?=some l/\an l/\k∈bsd i)
 |[],ls,cs,bsd,_,_,hx,hl,_,_,_,_,_=>⟨W,h,rfl,rfl,rfl,λ_=>⟨rfl,AU _⟩,λ_ _ _=>⟨rfl,rfl⟩,λk hk=>.inl hk⟩
 |x::xs,[],cs,bsd,_,_,hx,hl,_,_,_,_,_=>by simp at hx hl;omega
 |x::xs,l::ls,[],bsd,_,_,hx,hl,_,_,_,_,_=>by simp at hx
 |x::xs,l::ls,u::cs,bsd,hd,hnE,hx,hl,hcs,hno,hleaf,hfree,hsep=>by
  have htail:aX (ec xs ls)=true:=by
   cases x with
   |al r j n =>
    cases l with
    |own p hh E e ys=>exact (iU hd).2
    |_=>exact hd
   |_=>exact hd
  have hsub:∀ z∈ec xs ls,z∈ec (x::xs) (l::ls):=by
   intro z hz;cases x with
   |al r j n=>exact AE _ hz
   |_=>exact hz
  obtain⟨W1,h1,e1,e2,e3,e4,e5,e6⟩:=xI hV h xs ls cs (λi=>bsd (i+1)) htail (λz hz=>hnE z (hsub z hz)) (by simpa using hx) (by simpa using hl)
   (λi r j n l' u' g1 g2 g3 g4=>hcs (i+1) r j n l' u' (by simpa using g1) (by simpa using g2) g3 (by simpa using g4))
   (λz hz=>hno z (hsub z hz)) (λi l' u' g1 g2=>hleaf (i+1) l' u' (by simpa using g1) (by simpa using g2))
   (λi l' g1 g2=>hfree (i+1) l' (by simpa using g1) g2)
   (λi i' l1 l2 g1 g2 g3 g4 k g5 g6=>by have:=hsep (i+1) (i'+1) l1 l2 (by simpa using g1) g2 (by simpa using g3) g4 k g5 g6;omega)
  by_cases hs:¬ an l\/(∀ r j n,x≠.al r j n)
  ·have hlk:ac (bY S (x::xs) (l::ls)) S=ac (bY S xs ls) S/\ec (x::xs) (l::ls)=ec xs ls:=by
    rcases hs with hs|hs
    ·exact⟨uF hs,mf hs⟩
    ·cases x with
     |al r j n=>exact absurd rfl (hs r j n)
     |_=>exact⟨rfl,rfl⟩
   rw[hlk.1,hlk.2];exact⟨W1,h1,e1,e2,e3,e4,e5,λk hk=>(e6 k hk).imp id λ⟨i,l',g1,g2,g3⟩=>⟨i+1,l',by simpa using g1,g2,g3⟩⟩
  ·simp only[not_or,Classical.not_not]at hs;obtain⟨hlo,hxa⟩:=hs;obtain⟨r,j,n,rfl⟩:∃ r j n,x=.al r j n:=by
    cases x with
    |al r j n=>exact⟨r,j,n,rfl⟩
    |_=>exact absurd (λ_ _ _ h=>by cases h) hxa
   obtain⟨p,hh,E,e,ys,rfl⟩:∃ p hh E e ys,l=.own p hh E e ys:=by
    cases l <;> simp only[an]at hlo;exact⟨_,_,_,_,_,rfl⟩
   have hpl:ec (.al r j n::xs) (.own p hh E e ys::ls)=(r,j)::ec xs ls:=rfl;rw[hpl]at hd hno;obtain⟨hd1,hd2⟩:=iU hd;have hv:=hcs 0 r j n _ u rfl rfl trivial rfl;have hlk:ac (bY S (.al r j n::xs) (.own p hh E e ys::ls)) S=ac [(r,⟨(ac (bY S xs ls) S r).ver,(ac (bY S xs ls) S r).sh,aR (ac (bY S xs ls) S r).ls j (.own p hh E e ys)⟩),(EPO,bT (ac (bY S xs ls) S EPO))] (ac (bY S xs ls) S):=bw [_,_] _ _;have hleaf0:aK P V W1 (ac (bY S xs ls) S) w (bsd 0) (.own p hh E e ys) u:=xh trivial e3 (hleaf 0 _ u rfl rfl);have hfree0:∀ k∈bsd 0,¬ b6 V W1 (ac (bY S xs ls) S) k:=λk hk hu=>by
    rcases e6 k hu with hu|⟨i,l',g1,g2,g3⟩
    ·exact hfree 0 _ rfl trivial k hk hu
    ·have:=hsep 0 (i+1) _ l' rfl trivial (by simpa using g1) g2 k hk g3;omega
   have hother:∀ (i:Nat) (l':Leaf),i≠j->(aR (ac (bY S xs ls) S r).ls j (.own p hh E e ys))[i]?=some l'->(ac (bY S xs ls) S r).ls[i]?=some l':=by
    intro i l' hne hl';rcases aQ _ _ _ _ _ hl' with ⟨rfl,_,_⟩|⟨_,hl'⟩
    ·exact absurd rfl hne
    ·exact hl'
   have hset:∀ (l':Leaf),(aR (ac (bY S xs ls) S r).ls j (.own p hh E e ys))[j]?=some l'->l'=.own p hh E e ys:=by
    intro l' hl';rcases aQ _ _ _ _ _ hl' with ⟨_,rfl,_⟩|⟨hne,_⟩
    ·rfl
    ·exact absurd rfl hne
   have hrE:r≠EPO:=hnE (r,j) (by rw[hpl];exact AW ..);obtain⟨h2,h2q,h2r⟩:=h1.reownE hV r ⟨(ac (bY S xs ls) S r).ver,(ac (bY S xs ls) S r).sh,aR (ac (bY S xs ls) S r).ls j (.own p hh E e ys)⟩ (λi=>if i=j then bsd 0 else W1.bs r i) hrE (AU _) rfl (by simp[aR])
    (λi l' v' g1 g2=>by
     by_cases hij:i=j
     ·subst hij;obtain rfl:=hset l' g1;rw[e1,hv]at g2;simp only[AA]at g2;subst g2;simp only[if_true];exact hleaf0
     ·simp only[if_neg hij];exact h1.leaf r i l' v' (hother i l' hij g1) g2)
    (λi l' g1 g2 k hk=>by
     by_cases hij:i=j
     ·subst hij;simp only[if_true]at hk;have hu:=hfree0 k hk;simp only[b6,not_or,not_exists,not_and]at hu;exact⟨hu.1,hu.2.1,hu.2.2.1,λr1 j1 l1 _ g3 g4 g5=>hu.2.2.2 r1 j1 l1 g3 g4 g5⟩
     ·simp only[if_neg hij]at hk;have hl':=hother i l' hij g1;have h9:=h1.ownb r i l' hl' g2 k hk;exact⟨h9.1,h9.2.1,h9.2.2,λr1 j1 l1 hne g3 g4 g5=>hne (h1.sep r i l' r1 j1 l1 hl' g2 g3 g4 k hk g5).1.symm⟩)
    (λi i' l1 l2 g1 g2 g3 g4 k hk hk'=>by
     by_cases hij:i=j <;> by_cases hij':i'=j
     ·omega
     ·subst hij;simp only[if_true]at hk;simp only[if_neg hij']at hk';exact absurd (.inr (.inr (.inr ⟨r,i',l2,hother i' l2 hij' g3,g4,hk'⟩))) (hfree0 k hk)
     ·subst hij';simp only[if_true]at hk';simp only[if_neg hij]at hk;exact absurd (.inr (.inr (.inr ⟨r,i,l1,hother i l1 hij g1,g2,hk⟩))) (hfree0 k hk')
     ·simp only[if_neg hij]at hk;simp only[if_neg hij']at hk';exact (h1.sep r i l1 r i' l2 (hother i l1 hij g1) g2 (hother i' l2 hij' g3) g4 k hk hk').2)
   rw[hlk];refine⟨_,h2,e1,e2,e3,λq=>?_,λq i hq=>?_,λk hk=>?_⟩
   ·exact⟨(h2q q).1.trans (e4 q).1,Aq (e4 q).2 (h2q q).2.1⟩
   ·rw[hpl]at hq;simp only[A0,not_or]at hq;by_cases hqr:q=r
    ·subst hqr;rw[h2r];have hij:j≠i:=λe0=>hq.1 (by rw[e0])
     simp only[aR];rw[Ax hij];refine⟨(e5 q i hq.2).1,?_⟩;simp only[if_true,if_neg (Ay hij)];exact (e5 q i hq.2).2
    ·rw[(h2q q).2.2 hqr];refine⟨(e5 q i hq.2).1,?_⟩;show (if q=r then _ else W1.bs q i)=_;rw[if_neg hqr];exact (e5 q i hq.2).2
   ·rcases hk with hk|hk|⟨b,hb,hk⟩|⟨q,i,l',g1,g2,g3⟩
    ·exact .inl (.inl (by rw[<- e3];exact hk))
    ·exact .inl (.inr (.inl hk))
    ·refine (e6 k (.inr (.inr (.inl ⟨b,?_,hk⟩)))).imp id λ⟨i,l',g1,g2,g3⟩=>⟨i+1,l',by simpa using g1,g2,g3⟩
     exact (gN (λq=>(h2q q).1) b).1 hb
    ·by_cases hq:q=r
     ·subst hq;rw[h2r]at g1;simp only[if_true]at g3;by_cases hij:i=j
      ·subst hij;simp only[if_true]at g3;exact .inr ⟨0,_,rfl,trivial,g3⟩
      ·simp only[if_neg hij]at g3;exact (e6 k (.inr (.inr (.inr ⟨q,i,l',hother i l' hij g1,g2,g3⟩)))).imp id λ⟨i,l',g1,g2,g3⟩=>⟨i+1,l',by simpa using g1,g2,g3⟩
     ·rw[(h2q q).2.2 hq]at g1;simp only[if_neg hq]at g3;exact (e6 k (.inr (.inr (.inr ⟨q,i,l',g1,g2,g3⟩)))).imp id λ⟨i,l',g1,g2,g3⟩=>⟨i+1,l',by simpa using g1,g2,g3⟩
end
def PK.isIop:PK->Bool
 |.iop _=>true
 |_=>false
section
variable {P:Program} {V:Env} {Γ:List Ctr} {st st':St} {w w':World} {a:Act}
theorem j5:∀ {a b:List (Nat×Nat)},aX (a++b)=true->aX a=true/\aX b=true/\∀ x∈a,x∉b
 |[],b,h=>⟨rfl,h,by simp⟩
 |x::a,b,h=>by
  obtain⟨h1,h2⟩:=iU h;obtain⟨h3,h4,h5⟩:=j5 h2;refine⟨?_,h4,λy hy hb=>?_⟩
  ·simp only[aX,AC,AX,Af];refine⟨λy hy he=>h1 (AJ _ ?_),h3⟩;obtain⟨e1,e2⟩:x.1=y.1/\x.2=y.2:=by simpa using he
   rw[show x=y from CC e1 e2];exact hy
  ·rcases A0.1 hy with rfl|hy
   ·exact h1 (AE _ hb)
   ·exact h5 y hy hb
theorem jk {p:Bool}:∀ (b:Ty) (ls:List Leaf) (t:cA b.den),take st b ls=some t->∀ (y:b.den) (i r j n:Nat) (l:Leaf),ls[i]?=some (.al r j n)->(ap p b y)[i]?=some l->an l->(st r).ver=n
 |.pair b c,ls,t,h,y,i,r,j,n,l,h1,h2,h3=>by
  simp only[take]at h;split at h
  ·rename_i u hu;split at h
   ·rename_i v hv;simp only[ap]at h2;have hl:=cu p b y.1;by_cases hi:i<b.cells
    ·rw[AH (by omega)]at h2;exact jk b ls u hu y.1 i r j n l h1 h2 h3
    ·rw[AG (by omega),hl]at h2;have hr:=take_rest b ls u hu;refine jk c u.rest v hv y.2 (i-b.cells) r j n l ?_ h2 h3;rw[hr,A1,show b.cells+(i-b.cells)=i by omega];exact h1
   ·cases h
  ·cases h
 |.list m E e,ls,t,h,y,i,r,j,n,l,h1,h2,h3=>by
  cases m with
  |false =>
   cases i with
   |zero=>simp[ap]at h2;subst h2;exact h3.elim
   |succ i=>simp[ap]at h2
  |true =>
   cases i with
   |succ i=>simp[ap]at h2
   |zero =>
    cases ls with
    |nil=>simp at h1
    |cons l' ls =>
     simp only[A2,AA]at h1;subst h1;simp only[take,cond_true]at h;split at h
     ·rename_i hd;exact (eC hd (by simp)).1
     ·cases h
 |.int k,ls,t,h,y,i,r,j,n,l,h1,h2,h3=>by
  cases i with
  |zero=>simp[ap]at h2;subst h2;exact h3.elim
  |succ i=>simp[ap]at h2
 |.bool,ls,t,h,y,i,r,j,n,l,h1,h2,h3=>by
  cases i with
  |zero=>simp[ap]at h2;subst h2;exact h3.elim
  |succ i=>simp[ap]at h2
 |.str,ls,t,h,y,i,r,j,n,l,h1,h2,h3=>by
  cases i with
  |zero=>simp[ap]at h2;subst h2;exact h3.elim
  |succ i=>simp[ap]at h2
 |.hdr,ls,t,h,y,i,r,j,n,l,h1,h2,h3=>by
  cases i with
  |zero=>simp[ap]at h2;subst h2;exact h3.elim
  |succ i=>simp[ap]at h2
 |.unit,ls,t,h,y,i,r,j,n,l,h1,h2,h3=>by simp[ap]at h2
where
 take_rest:∀ (b:Ty) (ls:List Leaf) (t:cA b.den),take st b ls=some t->t.rest=ls.drop b.cells
  |.pair b c,ls,t,h=>by
   simp only[take]at h;split at h
   ·rename_i u hu;split at h
    ·rename_i v hv;simp only[AA]at h;subst h;show v.rest=_;rw[take_rest c u.rest v hv,take_rest b ls u hu,List.drop_drop];rfl
    ·cases h
   ·cases h
  |.unit,ls,t,h=>by
   simp only[take,AA]at h;subst h;rfl
  |.list m E e,ls,t,h=>by
   cases ls with
   |nil=>simp[take]at h
   |cons l ls =>
    cases m with
    |false =>
     simp only[take,cond_false]at h;split at h
     ·simp only[AA]at h;subst h;rfl
     ·cases h
    |true =>
     simp only[take,cond_true]at h;split at h
     ·split at h
      ·simp only[AB]at h;obtain⟨xs,_,rfl⟩:=h;rfl
      ·cases h
     ·simp only[AA]at h;subst h;rfl
     ·cases h
  |.int k,ls,t,h=>sc (b:=.int k) h tD rfl
  |.bool,ls,t,h=>sc (b:=.bool) h r9 rfl
  |.str,ls,t,h=>sc (b:=.str) h tE rfl
  |.hdr,ls,t,h=>sc (b:=.hdr) h tF rfl
 sc {b:Ty} {ls:List Leaf} {t:cA b.den} (h:(aZ st b ls).map (λx=>(⟨false,x.2.1,[],[],x.2.2⟩:cA b.den))=some t)
   (H:∀ {ls:List Leaf} {x:Bool×b.den×List Leaf},aZ st b ls=some x->∃ l,ls=l::x.2.2) (h1:b.cells=1):t.rest=ls.drop b.cells:=by
  simp only[AB]at h;obtain⟨x,hx,rfl⟩:=h;obtain⟨l,rfl⟩:=H hx;rw[h1];rfl
theorem uG {agg:Bool}{v:Value}{c1 c2:List Value}(h1:cX agg v c1)(h2:cX agg v c2):c1=c2:=by
 unfold cX at h1 h2;cases agg with
 |true =>
  simp only[if_true]at h1 h2;rw[h1]at h2;simpa using h2
 |false =>
  simp only[Bool.false_eq_true,if_false]at h1 h2;rw[h1,h2]
theorem pB (hV:ax V){W0 W:Wit}{S0 S:St}{w0:World}{G:Nat->Prop}{p:Bool}(hcs:W.cs=W0.cs)(hG:∀ k,G k->gd V W p k)(h:ao P V W S a w) :
  ∀ (ps:List PK) (xs:List (aI×List Leaf)) (vs:List Value) (g:Got (ab ps)) (o:aj ps) (oss:List (List Nat)),gi P V W0 S0 w0 xs vs->bc (bZ Γ S0) ps xs=some g->ps.any PK.isIop=false ->
  bJ w G ps o vs oss->aX g.kill=true->(∀ x∈g.kill,x.1≠EPO)->(∀ x∈g.kill,∀ l,(S x.1).ls[x.2]?=some l->¬ an l)->(∀ k∈oss.flatten,¬ b6 V W S k)->oss.flatten.Nodup ->
  ∃ W',ao P V W' (ac (aG S p ps xs o) S) a w/\W'.cs=W.cs/\W'.β=W.β/\W'.nw=W.nw/\(∀ q,(ac (aG S p ps xs o) S q).sh=(S q).sh/\(S q).ver<=(ac (aG S p ps xs o) S q).ver) /\
   (∀ q i,(q,i)∉g.kill->(ac (aG S p ps xs o) S q).ls[i]?=(S q).ls[i]?/\W'.bs q i=W.bs q i)/\(∀ k,b6 V W' (ac (aG S p ps xs o) S) k->b6 V W S k\/k∈oss.flatten)
 |[],xs,vs,g,o,oss,_,_,_,_,_,_,_,_,_=>⟨W,h,rfl,rfl,rfl,λ_=>⟨rfl,AU _⟩,λ_ _ _=>⟨rfl,rfl⟩,λk hk=>.inl hk⟩
 |pk::ps,[],vs,g,o,oss,_,hg,_,_,_,_,_,_,_=>by simp[bc]at hg
 |pk::ps,x::xs,vs,g,o,oss,hx,hg,hp,ho,hd,hnE,hno,hfree,hnd=>by
  obtain⟨v,vs',cs,rfl,hs,hl,hrest⟩:=hx;simp only[bc]at hg;split at hg
  ·rename_i g1 hg1;split at hg
   ·rename_i g2 hg2;simp only[AA]at hg;subst hg;simp only[A8,Ba]at hp;obtain⟨hd1,hd2,hd3⟩:=j5 hd;have other:∀ (o':aj ps) (b:List Nat) (bs:List (List Nat)),oss=b::bs->b=[]->bJ w G ps o' vs' bs->aG S p (pk::ps) (x::xs) o=aG S p ps xs o' ->
      ∃ W',ao P V W' (ac (aG S p (pk::ps) (x::xs) o) S) a w/\W'.cs=W.cs/\W'.β=W.β/\W'.nw=W.nw/\(∀ q,(ac (aG S p (pk::ps) (x::xs) o) S q).sh=(S q).sh/\(S q).ver<=(ac (aG S p (pk::ps) (x::xs) o) S q).ver) /\
       (∀ q i,(q,i)∉g1.kill++g2.kill->(ac (aG S p (pk::ps) (x::xs) o) S q).ls[i]?=(S q).ls[i]?/\W'.bs q i=W.bs q i)/\(∀ k,b6 V W' (ac (aG S p (pk::ps) (x::xs) o) S) k->b6 V W S k\/k∈oss.flatten):=by
     intro o' b bs e1 e2 ho' e3;subst e1;subst e2;rw[e3];obtain⟨W1,f1,f2,f3,f4,f5,f6,f7⟩:=pB hV hcs hG h ps xs vs' g2 o' bs hrest hg2 hp.2 ho' hd2 (λz hz=>hnE z (AE _ hz)) (λz hz=>hno z (AE _ hz)) (λk hk=>hfree k (by simpa using hk)) (by simpa using hnd);exact⟨W1,f1,f2,f3,f4,f5,λq i hq=>f6 q i (λhm=>hq (AE _ hm)),λk hk=>(f7 k hk).imp id (λhm=>by simpa using hm)⟩
    cases pk with
    |io b =>
     match oss,ho with
     |ob::bs,⟨ho1,ho2⟩ =>
      simp only[AY]at hnd hfree;rw[Ap]at hnd;obtain⟨W1,f1,f2,f3,f4,f5,f6,f7⟩:=pB hV hcs hG h ps xs vs' g2 o.2 bs hrest hg2 hp.2 ho2 hd2 (λz hz=>hnE z (AE _ hz)) (λz hz=>hno z (AE _ hz)) (λk hk=>hfree k (AE _ hk)) hnd.2.1;simp only[bZ,bi]at hg1;cases hb:decide (x.1=bj b.isAgg) with
      |false=>simp[hb]at hg1
      |true =>
       rw[hb]at hg1;simp only[cond_true,AB]at hg1;obtain⟨t,ht,rfl⟩:=hg1;rw[of_decide_eq_true hb]at hs;unfold iD at ho1;rw[if_neg (by simp)]at ho1;obtain⟨cs',hv',hm⟩:=ho1;have:=uG hv' (fK hs);subst this;obtain⟨bsd,m1,m2,m3,m4⟩:=gQ (P:=P) (V:=V) (W:=W1) (st:=ac (aG S p ps xs o.2) S) (p:=p) (λk hk=>by
        rcases hG k hk with hk|hk
        ·exact .inl (by rw[f4];exact hk)
        ·exact .inr hk) hm hnd.1
       unfold cb at ht;split at ht
       ·rename_i p0 x0 f0 k0 ht0;simp only[AA]at ht;subst ht;have hpl:=ke (p:=p) b x.2 _ ht0 o.1 [];simp only[Aa]at hpl;have hpl:ec x.2 (ap p b o.1)=k0:=by
         rw[hpl];show k0++ec [] []=k0;simp[ec]
        obtain⟨W2,q1,q2,q3,q4,q5,q6,q7⟩:=xI hV f1 x.2 (ap p b o.1) cs' bsd (by rw[hpl];exact hd1) (λz hz=>hnE z (AJ _ (by rw[hpl]at hz;exact hz))) hl.length m1
         (λi r j n l u g3 g4 g5 g6=>by
          have h5:=(hl.at_ i _ u g3 g6).1;rw[f2,hcs];exact h5.2 (jk b x.2 _ ht0 o.1 i r j n l g3 g4 g5))
         (λz hz l hzl=>by
          rw[hpl]at hz;rw[(f6 z.1 z.2 (hd3 z hz)).1]at hzl;exact hno z (AJ _ hz) l hzl)
         m2
         (λi l g3 g4 k hk hu=>by
          have hk2:=m3 i l g3 g4 k hk;rcases f7 k hu with hu|hu
          ·exact hfree k (AJ _ hk2) hu
          ·exact hnd.2.2 k hk2 k hu rfl) m4
        have hlk:ac (aG S p (.io b::ps) (x::xs) o) S=ac (bY (ac (aG S p ps xs o.2) S) x.2 (ap p b o.1)) (ac (aG S p ps xs o.2) S):=bw _ _ _;rw[hlk];rw[hpl]at q6;refine⟨W2,q1,q2.trans f2,q3.trans f3,q4.trans f4,λq=>⟨(q5 q).1.trans (f5 q).1,Aq (f5 q).2 (q5 q).2⟩,λq i hq=>?_,λk hk=>?_⟩
        ·simp only[AM,not_or]at hq;exact⟨(q6 q i hq.1).1.trans (f6 q i hq.2).1,(q6 q i hq.1).2.trans (f6 q i hq.2).2⟩
        ·rcases q7 k hk with hk|⟨i,l,g3,g4,g5⟩
         ·exact (f7 k hk).imp id (λhm=>AE _ hm)
         ·exact .inr (AJ _ (m3 i l g3 g4 k g5))
       ·cases ht
    |iop b=>simp[PK.isIop]at hp
    |rd b =>
     match oss,ho with
     |ob::bs,⟨ho1,ho2⟩=>exact other o ob bs rfl ho1 ho2 rfl
    |own b =>
     match oss,ho with
     |ob::bs,⟨ho1,ho2⟩=>exact other o ob bs rfl ho1 ho2 rfl
    |rref b =>
     match oss,ho with
     |ob::bs,⟨ho1,ho2⟩=>exact other o ob bs rfl ho1 ho2 rfl
    |rref2 b =>
     match oss,ho with
     |ob::bs,⟨ho1,ho2⟩=>exact other o ob bs rfl ho1 ho2 rfl
    |fn As B =>
     match oss,ho with
     |ob::bs,⟨ho1,ho2⟩=>exact other o ob bs rfl ho1 ho2 rfl
    |clo f cs' =>
     match oss,ho with
     |ob::bs,⟨ho1,ho2⟩=>exact other o ob bs rfl ho1 ho2 rfl
    |hol b cc off =>
     match oss,ho with
     |ob::bs,⟨ho1,ho2⟩=>exact other o ob bs rfl ho1 ho2 rfl
   ·cases hg
  ·cases hg
end
section
variable {P:Program} {V:Env} {W:Wit} {st:St} {w:World} {a:Act}
theorem mX {G ro:Nat->Prop}{p q:Bool}{ks:List (Nat×Nat×Nat)}{ep:Nat}(hG:∀ k,G k->gd V W p k)(d n:Nat) :
  ∀ (rs:List RK) (y:ak rs) (us:List Value) (rbs:List (List Nat)),
  (rs.any RK.isBv=true->(∀ k,G k\/ro k->gd V W q k\/∃ x∈ks,k∈W.bs x.1 x.2.1)/\ep<=(st EPO).ver/\(∀ k∈ks,k.2.2<=(st k.1).ver))->fJ w G ro rs y us rbs->rs.all RK.isV=true->rbs.flatten.Nodup ->
  (bD d n p q ks ep rs y).2=[]/\∃ (cs:List Value) (bsd:Nat->List Nat),n9 ((bD d n p q ks ep rs y).1.map λx=>(x.1,x.2.length)) us cs/\(((bD d n p q ks ep rs y).1.map (·.2)).flatten).length=cs.length/\(∀ u∈cs,u.oneCell'=true) /\
   (∀ (j:Nat) (l:Leaf) (u:Value),(((bD d n p q ks ep rs y).1.map (·.2)).flatten)[j]?=some l->cs[j]?=some u->aK P V W st w (bsd j) l u) /\
   (∀ (j:Nat) (l:Leaf),(((bD d n p q ks ep rs y).1.map (·.2)).flatten)[j]?=some l->an l->∀ k∈bsd j,k∈rbs.flatten) /\
   (∀ (j j':Nat) (l l':Leaf),(((bD d n p q ks ep rs y).1.map (·.2)).flatten)[j]?=some l->an l->(((bD d n p q ks ep rs y).1.map (·.2)).flatten)[j']?=some l'->an l'->∀ k,k∈bsd j->k∈bsd j'->j=j')
 |[],y,us,rbs,_,⟨e1,e2⟩,_,_=>by
  subst e1;subst e2;exact⟨rfl,[],λ_=>[],⟨rfl,rfl⟩,rfl,by simp,λj l u h1 h2=>by simp at h2,λj l h1 h2 k hk=>by simp at hk,λj j' l l' _ _ _ _ k hk=>by simp at hk⟩
 |r::rs,y,us,rbs,hB,⟨u0,us',b,bss',e1,e2,hr,hrest⟩,hv,hnd=>by
  subst e1;subst e2;simp only[Be,AC]at hv;rw[AY,Ap]at hnd;obtain⟨f0,cs2,d2,f1,f2,f2',f3,f4,f5⟩:=mX (ks:=ks) (q:=q) (ep:=ep) hG d n rs y.2 us' bss' (λhb=>hB (by simp[hb])) hrest hv.2 hnd.2.1;obtain⟨agg,L,cs1,d1,g0,g0',g1,g2,g2',g3,g4,g5⟩:∃ (agg:Bool) (L:List Leaf) (cs1:List Value) (d1:Nat->List Nat),(nV d n p q ks ep r y.1).1=(agg,L)/\(nV d n p q ks ep r y.1).2=[]/\cX agg u0 cs1/\L.length=cs1.length/\(∀ u∈cs1,u.oneCell'=true) /\
    (∀ (j:Nat) (l:Leaf) (u:Value),L[j]?=some l->cs1[j]?=some u->aK P V W st w (d1 j) l u)/\(∀ (j:Nat) (l:Leaf),L[j]?=some l->an l->∀ k∈d1 j,k∈b) /\
    (∀ (j j':Nat) (l l':Leaf),L[j]?=some l->an l->L[j']?=some l'->an l'->∀ k,k∈d1 j->k∈d1 j'->j=j'):=by
   cases r with
   |v c =>
    obtain⟨cs1,h1,h2⟩:=hr;obtain⟨d1,m1,m2,m3,m4⟩:=gQ (P:=P) (V:=V) (W:=W) (st:=st) (p:=p) hG h2 hnd.1;exact⟨c.isAgg,_,cs1,d1,rfl,rfl,h1,m1,h2.one,m2,m3,m4⟩
   |bv c =>
    obtain⟨_,cs1,h1,h2⟩:=hr;obtain⟨hro,hep,hks⟩:=hB (by simp[RK.isBv]);have h3:=iZ (P:=P) (V:=V) (W:=W) (st:=st) (p:=q) hep hks (h2.mono hro);exact⟨c.isAgg,_,cs1,λ_=>[],rfl,rfl,h1,h3.length,h2.one,λj l u g1 g2=>(h3.at_ j l u g1 g2).1,λj l _ _ k hk=>by simp at hk,λj j' l l' _ _ _ _ k hk=>by simp at hk⟩
   |box c=>simp[RK.isV]at hv
  have hP1:(bD d n p q ks ep (r::rs) y).1=(agg,L)::(bD d n p q ks ep rs y.2).1:=by simp only[bD,g0]
  have hP2:(bD d n p q ks ep (r::rs) y).2=[]:=by simp only[bD,g0',f0,Aa]
  rw[hP1];simp only[CB,AY];have hsplit:∀ (j:Nat) (l:Leaf),(L++((bD d n p q ks ep rs y.2).1.map (·.2)).flatten)[j]?=some l->(j<L.length/\L[j]?=some l)\/(L.length<=j/\(((bD d n p q ks ep rs y.2).1.map (·.2)).flatten)[j-L.length]?=some l):=by
   intro j l hj;by_cases hlt:j<L.length
   ·rw[AH hlt]at hj;exact .inl ⟨hlt,hj⟩
   ·rw[AG (by omega)]at hj;exact .inr ⟨by omega,hj⟩
  refine⟨hP2,cs1++cs2,λj=>if j<L.length then d1 j else d2 (j-L.length),⟨u0,us',cs1,cs2,rfl,rfl,g2.symm,g1,f1⟩,by rw[AS,AS,g2,f2],λu hu=>(AM.1 hu).elim (g2' u) (f2' u),λj l u hj hu=>?_,λj l hj ho k hk=>?_,λj j' l l' hj ho hj' ho' k hk hk'=>?_⟩
  ·rcases hsplit j l hj with ⟨hlt,hj⟩|⟨hge,hj⟩
   ·rw[AH (by omega)]at hu;simp only[if_pos hlt];exact g3 j l u hj hu
   ·rw[AG (by omega),<- g2]at hu;simp only[if_neg (show ¬ j<L.length by omega)];exact f3 _ l u hj hu
  ·rcases hsplit j l hj with ⟨hlt,hj⟩|⟨hge,hj⟩
   ·simp only[if_pos hlt]at hk;exact AJ _ (g4 j l hj ho k hk)
   ·simp only[if_neg (show ¬ j<L.length by omega)]at hk;exact AE _ (f4 _ l hj ho k hk)
  ·rcases hsplit j l hj with ⟨hlt,hj⟩|⟨hge,hj⟩ <;> rcases hsplit j' l' hj' with ⟨hlt',hj'⟩|⟨hge',hj'⟩
   ·simp only[if_pos hlt]at hk;simp only[if_pos hlt']at hk';exact g5 j j' l l' hj ho hj' ho' k hk hk'
   ·simp only[if_pos hlt]at hk;simp only[if_neg (show ¬ j'<L.length by omega)]at hk';exact absurd rfl (hnd.2.2 k (g4 j l hj ho k hk) k (f4 _ l' hj' ho' k hk'))
   ·simp only[if_neg (show ¬ j<L.length by omega)]at hk;simp only[if_pos hlt']at hk';exact absurd rfl (hnd.2.2 k (g4 j' l' hj' ho' k hk') k (f4 _ l hj ho k hk))
   ·simp only[if_neg (show ¬ j<L.length by omega)]at hk;simp only[if_neg (show ¬ j'<L.length by omega)]at hk';have:=f5 _ _ l l' hj ho hj' ho' k hk hk';omega
theorem zu {l:List (Bool×List Leaf)}{us cs:List Value}{v:Value}(n:Nat)(h:n9 (l.map λx=>(x.1,x.2.length)) us cs)(hr:qR us v) :
  dJ (eh n l).sh v cs/\(eh n l).ls=(l.map (·.2)).flatten/\(eh n l).ver=n:=by
 match l,us,h with
 |[],_,⟨e1,e2⟩ =>
  subst e1;subst e2;exact⟨⟨[],hr,rfl,rfl⟩,rfl,rfl⟩
 |[(agg,L)],_,⟨u,us',c,cs',e1,e2,h1,h2,e3,e4⟩ =>
  subst e1;subst e2;subst e3;subst e4;have hr:v=u:=hr;subst hr;refine⟨?_,by simp[eh],rfl⟩;simp only[eh,Aa];exact jg h2
 |x::x'::l,us,h =>
  refine⟨?_,rfl,rfl⟩;have hus:∃ u u' us',us=u::u'::us':=by
   obtain⟨u,us',_,_,e1,_,_,_,u2,us2,_,_,e2,_⟩:=h;exact⟨u,u2,us2,by rw[e1,e2]⟩
  obtain⟨u,u',us',rfl⟩:=hus;exact⟨_,hr,h⟩
end
section
variable {P:Program} {V:Env} {Γ:List Ctr} {st:St} {w:World} {a:Act}
theorem xi {pk:PK}{x:aI×List Leaf}{g:Got pk.den}(hg:bZ Γ st pk x=some g)(hn:pk.isIop=false):g.lend=[]:=by
 cases pk with
 |iop b=>simp[PK.isIop]at hn
 |rd b =>
  simp only[bZ,bi]at hg;cases hb:decide (x.1=bj b.isAgg) with
  |false=>simp[hb]at hg
  |true=>rw[hb]at hg;simp only[cond_true,AB]at hg;obtain⟨y,_,rfl⟩:=hg;rfl
 |own b =>
  simp only[bZ,bi]at hg;cases hb:decide (x.1=bj b.isAgg) with
  |false=>simp[hb]at hg
  |true=>rw[hb]at hg;simp only[cond_true,AB]at hg;obtain⟨y,_,rfl⟩:=hg;rfl
 |io b =>
  simp only[bZ,bi]at hg;cases hb:decide (x.1=bj b.isAgg) with
  |false=>simp[hb]at hg
  |true=>rw[hb]at hg;simp only[cond_true,AB]at hg;obtain⟨y,_,rfl⟩:=hg;rfl
 |rref b=>exact cap (c:=(false,b)) hg
 |rref2 b=>exact cap (c:=(true,b)) hg
 |fn As B =>
  simp only[bZ]at hg;split at hg
  ·unfold jH at hg;split at hg
   ·unfold qF at hg;split at hg
    ·rename_i c _ hh;cases hb:(c.ps.drop As.length).all PK.reads&&B.flat&&c.fresh with
     |false=>rw[hb]at hg;cases hg
     |true =>
      rw[hb]at hg;simp only[cond_true]at hg;split at hg
      ·simp only[AA]at hg;subst hg;rfl
      ·cases hg
    ·cases hg
   ·cases hg
  ·simp only[bi]at hg;split at hg
   ·split at hg
    ·simp only[AA]at hg;subst hg;rfl
    ·cases hg
   ·cases hg
 |hol b cc off =>
  simp only[bZ,bi]at hg;cases hb:decide (x.1=bj b.isAgg) with
  |false=>simp[hb]at hg
  |true =>
   rw[hb]at hg;simp only[cond_true]at hg;split at hg
   ·split at hg
    ·rename_i o' _ _ _ _;cases hbo:AR o' off with
     |false=>simp[hbo]at hg
     |true =>
      rw[hbo]at hg;simp only[cond_true]at hg;split at hg
      ·split at hg
       ·simp only[AA]at hg;subst hg;rfl
       ·cases hg
      ·cases hg
    ·cases hg
   ·cases hg
 |clo f cs =>
  simp only[bZ,bi]at hg;split at hg
  ·rename_i f' caps _;cases hb:AR f' f with
   |false=>simp[hb]at hg
   |true=>rw[hb]at hg;exact caps_ hg
  ·rename_i f' caps _;cases hb:AR f' f with
   |false=>simp[hb]at hg
   |true=>rw[hb]at hg;exact caps_ hg
  ·cases hg
where
 cap {c:Bool×Ty} {l:Leaf} {g:Got c.2.den} (hg:eJ st c l=some g):g.lend=[]:=by
  unfold eJ at hg;cases hc:c.1 with
  |true =>
   rw[hc]at hg;simp only[cond_true]at hg;split at hg
   ·split at hg
    ·simp only[AB]at hg;obtain⟨y,_,rfl⟩:=hg;rfl
    ·cases hg
   ·cases hg
  |false =>
   rw[hc]at hg;simp only[cond_false]at hg;split at hg
   ·simp only[AB]at hg;obtain⟨y,_,rfl⟩:=hg;rfl
   ·cases hg
 caps_:∀ {cs:List (Bool×Ty)} {ls:List Leaf} {g:Got (kN cs)},ck st cs ls=some g->g.lend=[]
  |[],[],g,hg=>by simp only[ck,AA]at hg;subst hg;rfl
  |[],_::_,_,hg=>by simp[ck]at hg
  |_::_,[],_,hg=>by simp[ck]at hg
  |c::cs,l::ls,g,hg=>by
   simp only[ck]at hg;split at hg
   ·split at hg
    ·simp only[AA]at hg;subst hg;rfl
    ·cases hg
   ·cases hg
theorem sa:∀ (ps:List PK) (xs:List (aI×List Leaf)) (g:Got (ab ps)),bc (bZ Γ st) ps xs=some g->g.lend=[]->ps.any PK.isIop=false
 |[],_,_,_,_=>rfl
 |_::_,[],_,hg,_=>by simp[bc]at hg
 |pk::ps,x::xs,g,hg,hn=>by
  simp only[bc]at hg;split at hg
  ·rename_i g1 hg1;split at hg
   ·rename_i g2 hg2;simp only[AA]at hg;subst hg;simp only[List.append_eq_nil_iff]at hn;rw[A8,sa ps xs g2 hg2 hn.2,Bool.or_false];cases pk with
    |iop b =>
     simp only[bZ,bi]at hg1;split at hg1
     ·rename_i q _;cases hb:decide ((st q).sh=.agg) with
      |false=>simp[hb]at hg1
      |true =>
       rw[hb]at hg1;simp only[cond_true,AB]at hg1;obtain⟨t,_,rfl⟩:=hg1;simp at hn
     ·cases hg1
    |_=>rfl
   ·cases hg
  ·cases hg
theorem nJ {W0:Wit}{S0 S:St}{w0:World}{a0:Act}(h0:ao P V W0 S0 a0 w0){G:Nat->Prop}{p:Bool} :
  ∀ (ps:List PK) (xs:List (aI×List Leaf)) (vs:List Value) (g:Got (ab ps)) (o:aj ps) (oss:List (List Nat)),gi P V W0 S0 w0 xs vs->bc (bZ Γ S0) ps xs=some g->ps.any PK.isIo=false->bJ w G ps o vs oss ->
  (g.lend=[]->aG S p ps xs o=[]/\oss.flatten=[]) /\
  (∀ b,g.lend=[b]->∃ (c:Ty) (y:c.den) (cs:List Value) (E:TypeId) (b0:List Nat),aG S p ps xs o=[(b,⟨(S b).ver+2,.agg,ap p c y⟩)]/\w.heap[W0.β b]?=some (.cells cs.toArray E (0,0))/\Mx w G c none 0 y cs b0/\oss.flatten=W0.β b::b0/\(S0 b).ls.length=c.cells)
 |[],[],vs,g,o,oss,hx,hg,_,ho=>by
  simp only[bc,AA]at hg;subst hg;refine⟨λ_=>⟨rfl,?_⟩,λb hb=>by simp at hb⟩
  match vs,oss,ho with
  |[],[],_=>rfl
 |[],_::_,_,_,_,_,_,hg,_,_=>by simp[bc]at hg
 |_::_,[],_,_,_,_,_,hg,_,_=>by simp[bc]at hg
 |pk::ps,x::xs,vs,g,o,oss,hx,hg,hn,ho=>by
  obtain⟨v,vs',cs,rfl,hs,hl,hrest⟩:=hx;simp only[bc]at hg;split at hg
  ·rename_i g1 hg1;split at hg
   ·rename_i g2 hg2;simp only[AA]at hg;subst hg;simp only[A8,Ba]at hn;have other:∀ (o':aj ps) (b:List Nat) (bs:List (List Nat)),pk.isIop=false->oss=b::bs->b=[]->bJ w G ps o' vs' bs->aG S p (pk::ps) (x::xs) o=aG S p ps xs o' ->
      (g1.lend++g2.lend=[]->aG S p (pk::ps) (x::xs) o=[]/\oss.flatten=[]) /\
      (∀ b,g1.lend++g2.lend=[b]->∃ (c:Ty) (y:c.den) (cs:List Value) (E:TypeId) (b0:List Nat),aG S p (pk::ps) (x::xs) o=[(b,⟨(S b).ver+2,.agg,ap p c y⟩)]/\w.heap[W0.β b]?=some (.cells cs.toArray E (0,0))/\Mx w G c none 0 y cs b0/\oss.flatten=W0.β b::b0/\(S0 b).ls.length=c.cells):=by
     intro o' b bs hi e1 e2 ho' e3;subst e1;subst e2;rw[e3,xi hg1 hi];simpa using nJ h0 (S:=S) (p:=p) ps xs vs' g2 o' bs hrest hg2 hn.2 ho'
    cases pk with
    |iop b =>
     match oss,ho with
     |ob::bs,⟨ho1,ho2⟩ =>
      obtain⟨r1,r2⟩:=nJ h0 (S:=S) (p:=p) ps xs vs' g2 o.2 bs hrest hg2 hn.2 ho2;simp only[bZ,bi]at hg1;split at hg1
      ·rename_i q hq;cases hb:decide ((S0 q).sh=.agg) with
       |false=>simp[hb]at hg1
       |true =>
        rw[hb]at hg1;simp only[cond_true,AB]at hg1;obtain⟨t,ht,rfl⟩:=hg1;refine⟨λhb=>by simp at hb,λb' hb'=>?_⟩;simp only[BT,BB]at hb';obtain⟨rfl,hb'⟩:=hb';obtain⟨r3,r4⟩:=r1 hb';obtain⟨hl1,_⟩:=ge hs hl hq (by simp);unfold iD at ho1;rw[if_pos rfl]at ho1;obtain⟨g',cs',E,b0,hv,hheap,hm,rfl⟩:=ho1;have hgb:g'=W0.β q:=by
         have h9:=hl1.2.2;rw[hv]at h9;simp only[Value.pointer.injEq,AA,BI,and_true]at h9;exact h9
        subst hgb;refine⟨b,o.1,cs',E,b0,?_,hheap,hm,by rw[AY,r4,Aa],?_⟩
        rotate_left
        ·rw[h0.len];exact (dq (pos:=0) h0 (gL h0 q) ht).1.len
        simp only[aG,r3,hq,Aa];rfl
      ·cases hg1
    |io b=>simp[PK.isIo]at hn
    |rd b =>
     match oss,ho with
     |ob::bs,⟨ho1,ho2⟩=>exact other o ob bs rfl rfl ho1 ho2 rfl
    |own b =>
     match oss,ho with
     |ob::bs,⟨ho1,ho2⟩=>exact other o ob bs rfl rfl ho1 ho2 rfl
    |rref b =>
     match oss,ho with
     |ob::bs,⟨ho1,ho2⟩=>exact other o ob bs rfl rfl ho1 ho2 rfl
    |rref2 b =>
     match oss,ho with
     |ob::bs,⟨ho1,ho2⟩=>exact other o ob bs rfl rfl ho1 ho2 rfl
    |fn As B =>
     match oss,ho with
     |ob::bs,⟨ho1,ho2⟩=>exact other o ob bs rfl rfl ho1 ho2 rfl
    |clo f cs' =>
     match oss,ho with
     |ob::bs,⟨ho1,ho2⟩=>exact other o ob bs rfl rfl ho1 ho2 rfl
    |hol b cc off =>
     match oss,ho with
     |ob::bs,⟨ho1,ho2⟩=>exact other o ob bs rfl rfl ho1 ho2 rfl
   ·cases hg
  ·cases hg
end
section
variable {P:Program} {V:Env}
theorem uH (hV:ax V){W:Wit}{S:St}{a:Act}{w:World}(h:ao P V W S a w){rs:List RK}{y:ak rs}{us:List Value}{rbs:List (List Nat)}{v:Value}{p q:Bool}{ks:List (Nat×Nat×Nat)}{ep:Nat}{G ro:Nat->Prop}
  (hres:fJ w G ro rs y us rbs) (hG:∀ k,G k->gd V W p k)
  (hB:rs.any RK.isBv=true->(∀ k,G k\/ro k->gd V W q k\/∃ x∈ks,k∈W.bs x.1 x.2.1)/\ep<=(S EPO).ver/\(∀ k∈ks,k.2.2<=(S k.1).ver))
  (hfree:∀ k∈rbs.flatten,¬ b6 V W S k) (hnd:rbs.flatten.Nodup) (hret:qR us v) {d:Nat} (hd:d<V.nt) (hfix:∀ x∈V.fixt,x.1≠d) (hbox:fQ S d rs=true) :
  ∃ W1,ao P V W1 (ac ((d,eh ((ac (bD d (S (B0+d)).ver p q ks ep rs y).2 S d).ver+1) (bD d (S (B0+d)).ver p q ks ep rs y).1)::(bD d (S (B0+d)).ver p q ks ep rs y).2) S) (a.put (some d) v) w /\
   ∀ z,z≠d->z≠B0+d->W1.cs z=W.cs z:=by
 cases hv:rs.all RK.isV with
 |true =>
  obtain⟨m0,cs,bsd,m1,m2,m3,m4,m5,m6⟩:=mX (P:=P) (W:=W) (st:=S) (p:=p) (q:=q) (ks:=ks) (ep:=ep) hG d (S (B0+d)).ver rs y us rbs hB hres hv hnd;rw[m0];obtain⟨s1,s2,s3⟩:=zu ((S d).ver+1) m1 hret;show ∃ W1,ao P V W1 (ac [(d,eh ((S d).ver+1) (bD d (S (B0+d)).ver p q ks ep rs y).1)] S) (a.put (some d) v) w/\_;generalize eh ((S d).ver+1) (bD d (S (B0+d)).ver p q ks ep rs y).1=rc at s1 s2 s3 ⊢;obtain⟨v0,sh0,ls0⟩:=rc;simp only at s1 s2 s3;subst s3;subst s2;have hput:=h.put hV d hd hfix ((S d).ver+1) sh0 _ v cs bsd (AL _) s1 m2 m3 m4
   (λj l g8 ho k hk=>by
    have hk2:=m5 j l g8 ho k hk;have hu:=hfree k hk2;simp only[b6,not_or,not_exists,not_and]at hu;exact⟨hu.1,hu.2.1,hu.2.2.1,λr1 j1 l1 _ h8 h9=>hu.2.2.2 r1 j1 l1 h8 h9⟩) m6
  refine⟨_,hput,λz hz _=>?_⟩;show (if z=d then cs else W.cs z)=_;rw[if_neg hz]
 |false =>
  have hb:∃ b,rs=[.box b]:=by
   unfold fQ at hbox;split at hbox
   ·exact⟨_,rfl⟩
   ·rw[hv]at hbox;cases hbox
  obtain⟨b,rfl⟩:=hb;obtain⟨u0,us',rb,rbs',e1,e2,⟨g',cs,E,b0,hv',hg',hm,hb0⟩,e3,e4⟩:=hres;subst e3;subst e4;subst e1;subst e2;subst hb0;have hret:v=u0:=hret;subst hret;subst hv';have hoff:(S (B0+d)).sh=.off:=by simpa[fQ]using hbox
  have hnd2:(g'::b0).Nodup:=by simpa using hnd
  rw[At]at hnd2;obtain⟨bsd,m1,m2,m3,m4⟩:=gQ (P:=P) (V:=V) (W:=W) (st:=S) (p:=p) hG hm hnd2.2;have hne:d≠B0+d:=by simp[B0]
  have hfg:=hfree g' (by simp);have hr5:=h.setBoxG hV (B0+d) (A7 _ _) ((S (B0+d)).ver+1) (ap p b y.1) cs bsd g' E (w':=w) (AL _)
   (.inr ⟨by simp[live,hoff],hfg,λj l g8 ho k hk e0=>hnd2.1 (by rw[<- e0];exact m3 j l g8 ho k hk)⟩) hg' (λ_ _ _=>rfl) (λ_ _ _ _ _ _ _=>rfl) (AU _) rfl rfl rfl m1 hm.one m2
   (λj l g8 ho k hk=>by
    have hu:=hfree k (by simp;exact .inr (m3 j l g8 ho k hk));simp only[b6,not_or,not_exists,not_and]at hu;exact⟨hu.1,hu.2.1,hu.2.2.1,λr1 j1 l1 _ h8 h9=>hu.2.2.2 r1 j1 l1 h8 h9⟩) m4
  have hr6:=hr5.put hV d hd hfix ((S d).ver+1) .one [.bp (B0+d) 0] (.pointer (some ⟨g',0,none⟩)) [.pointer (some ⟨g',0,none⟩)] (λ_=>[]) (by rw[aJ hne];exact AL _) rfl rfl (λu hu=>by simp at hu;subst hu;rfl)
   (λj l u g8 g9=>by
    cases j with
    |zero=>simp at g8 g9;subst g8;subst g9;exact⟨A7 _ _,by rw[bk],by simp⟩
    |succ j=>simp at g8)
   (λj l g8 ho k hk=>by simp at hk) (λj j' l l' _ _ _ _ k hk=>by simp at hk)
  have e1:ac (bD d (S (B0+d)).ver p q ks ep [.box b] y).2 S=ac [(B0+d,⟨(S (B0+d)).ver+1,.agg,ap p b y.1⟩)] S:=rfl;rw[aP,e1,aJ hne];refine⟨_,hr6,λz hz hz2=>?_⟩;show (if z=d then _ else (if z=B0+d then _ else W.cs z))=_;rw[if_neg hz,if_neg hz2]
theorem sX (r:Nat)(c c':bS)(S:St):ac [(r,c)] (ac [(r,c')] S)=ac [(r,c)] S:=by
 funext q;rcases am r q c (ac [(r,c')] S) with ⟨rfl,e⟩|⟨h,e⟩
 ·rw[e,bk]
 ·rw[e,aJ h,aJ h]
theorem xj (hV:ax V){W:Wit}{S:St}{a:Act}{w w':World}(h:ao P V W S a w){b:Nat}(hb:live S b){N:Nat->Prop}{cs:List Value}{E:TypeId}{c:Ty}{y:c.den}{b0:List Nat}{G:Nat->Prop}{p:Bool}
  (hheap:w'.heap[W.β b]?=some (.cells cs.toArray E (0,0))) (hm:Mx w' G c none 0 y cs b0) (hnd:(W.β b::b0).Nodup) (hcells:(S b).ls.length=c.cells)
  (hsame:∀ k,b6 V W S k->k≠W.β b->w'.heap[k]?=w.heap[k]?) (hsz:w.heap.size<=w'.heap.size) (hos:w'.os=w.os) (ht:w'.tape=w.tape) (ho:w'.output=w.output)
  (hN:∀ k,N k->k<w'.heap.size/\¬ b6 V W S k) (hfree:∀ k∈b0,¬ b6 V W S k/\¬ N k) (hG:∀ k,G k->gd V { W with nw:=λk=>W.nw k\/N k } p k) :
  ∃ W1,ao P V W1 (ac [(b,⟨(S b).ver+2,.agg,ap p c y⟩)] S) a w'/\W1.β=W.β/\(∀ k,W1.nw k<->W.nw k\/N k)/\(∀ q,q≠b->W1.cs q=W.cs q)/\(∀ q i,q≠b->W1.bs q i=W.bs q i) /\
   (∀ k,b6 V W1 (ac [(b,⟨(S b).ver+2,.agg,ap p c y⟩)] S) k->b6 V W S k\/N k\/k∈b0):=by
 have hbeta:∀ (q:Nat),(if q=b then W.β b else W.β q)=W.β q:=λq=>by split <;> simp_all
 have h1:=h.setBoxG hV b hb.1 ((S b).ver+1) (Ar cs.length .dead) cs (λ_=>[]) (W.β b) E (w':=w') (AL _) (.inl ⟨hb,rfl⟩) hheap hsame (λ_ _ _ _ k hk=>by simp at hk) hsz hos ht ho (by simp) hm.one
  (λj l u g1 g2=>by
   rw[A3]at g1;split at g1
   ·simp at g1;subst g1;trivial
   ·cases g1)
  (λj l g1 g2 k hk=>by simp at hk) (λj j' l l' _ _ _ _ k hk=>by simp at hk)
 have hdead:∀ (j:Nat) (l:Leaf),(Ar cs.length Leaf.dead)[j]?=some l->¬ an l:=by
  intro j l g1;rw[A3]at g1;split at g1
  ·simp at g1;subst g1;exact id
  ·cases g1
 have hlv:∀ z,live (ac [(b,⟨(S b).ver+1,.agg,Ar cs.length .dead⟩)] S) z->live S z:=by
  intro z hz;rcases am b z ⟨(S b).ver+1,.agg,Ar cs.length .dead⟩ S with ⟨rfl,e⟩|⟨_,e⟩
  ·exact hb
  ·exact⟨hz.1,by rw[<- e];exact hz.2⟩
 have hu1:∀ k,b6 V { W with β:=λr=>if r=b then W.β b else W.β r,cs:=λr=>if r=b then cs else W.cs r,bs:=λr j=>if r=b then [] else W.bs r j } (ac [(b,⟨(S b).ver+1,.agg,Ar cs.length .dead⟩)] S) k->b6 V W S k:=by
  rintro k (hk|hk|⟨z,hz,hk⟩|⟨z,i,l,g1,g2,g3⟩)
  ·exact .inl hk
  ·exact .inr (.inl hk)
  ·exact .inr (.inr (.inl ⟨z,hlv z hz,by rw[<- hk];exact (hbeta z).symm⟩))
  ·by_cases hzb:z=b
   ·subst hzb;rw[bk]at g1;exact absurd g2 (hdead i l g1)
   ·rw[aJ hzb]at g1;simp only[if_neg hzb]at g3;exact .inr (.inr (.inr ⟨z,i,l,g1,g2,g3⟩))
 have h2:=h1.nwGrow hV N (λk hk=>⟨(hN k hk).1,λhu=>(hN k hk).2 (hu1 k hu)⟩);rw[At]at hnd;obtain⟨bsd,m1,m2,m3,m4⟩:=gQ (P:=P) (V:=V) (W:={ W with β:=λr=>if r=b then W.β b else W.β r,cs:=λr=>if r=b then cs else W.cs r,bs:=λr j=>if r=b then [] else W.bs r j,nw:=λk=>W.nw k\/N k })
  (st:=ac [(b,⟨(S b).ver+1,.agg,Ar cs.length .dead⟩)] S) (p:=p) (λk hk=>hG k hk) hm hnd.2
 have hml:=hm.len;have hll:=cu p c y;have h3:=h2.reown hV b ⟨(S b).ver+2,.agg,ap p c y⟩ bsd (by rw[bk];exact AL _) (by rw[bk]) (by rw[bk,BU];omega)
  (λj l v g1 g2=>m2 j l v g1 (by simpa using g2))
  (λj l g1 g2 k hk=>by
   have hk2:=m3 j l g1 g2 k hk;obtain⟨q1,q2⟩:=hfree k hk2;refine⟨λhn=>hn.elim (λhn=>q1 (.inl hn)) q2,λhp=>q1 (.inr (.inl hp)),λz hz e0=>q1 (.inr (.inr (.inl ⟨z,hlv z hz,by rw[<- e0];exact (hbeta z).symm⟩))),λr1 j1 l1 hr1 g3 g4 g5=>?_⟩;rw[aJ hr1]at g3;have g5:k∈(if r1=b then [] else W.bs r1 j1):=g5;rw[if_neg hr1]at g5;exact q1 (.inr (.inr (.inr ⟨r1,j1,l1,g3,g4,g5⟩)))) m4
 rw[sX]at h3;refine⟨_,h3,funext λq=>hbeta q,λk=>BF,λq hq=>if_neg hq,λq i hq=>?_,?_⟩
 ·show (if q=b then bsd i else if q=b then [] else W.bs q i)=_;rw[if_neg hq,if_neg hq]
 ·rintro k ((hk|hk)|hk|⟨z,hz,hk⟩|⟨z,i,l,g1,g2,g3⟩)
  ·exact .inl (.inl hk)
  ·exact .inr (.inl hk)
  ·exact .inl (.inr (.inl hk))
  ·refine .inl (.inr (.inr (.inl ⟨z,?_,by rw[<- hk];exact (hbeta z).symm⟩)));rcases am b z ⟨(S b).ver+2,.agg,ap p c y⟩ S with ⟨rfl,e⟩|⟨_,e⟩
   ·exact hb
   ·exact⟨hz.1,by rw[<- e];exact hz.2⟩
  ·by_cases hzb:z=b
   ·subst hzb;rw[bk]at g1;have g3:k∈(if z=z then bsd i else _):=g3;rw[if_pos rfl]at g3;exact .inr (.inr (m3 i l g1 g2 k g3))
   ·rw[aJ hzb]at g1;have g3:k∈(if z=b then bsd i else if z=b then [] else W.bs z i):=g3;rw[if_neg hzb,if_neg hzb]at g3;exact .inl (.inr (.inr (.inr ⟨z,i,l,g1,g2,g3⟩)))
end
section
variable {P:Program} {V:Env} {Γ:List Ctr} {st:St} {R:Type}
theorem fM:∀ (ps:List PK) (xs:List (aI×List Leaf)) (κ:Upd->List (aI×List Leaf)->Option (Bool×Nat×Nat)->Option R),jI st ps xs κ=(cM st ps xs).bind λu=>κ u.1 u.2.1 u.2.2
 |[],xs,κ=>rfl
 |_::_,[],κ=>rfl
 |p::ps,x::xs,κ=>by
  simp only[jI,cM];split
  ·rw[gq];cases cg st (x.2.getD _ .dead) <;> rfl
  ·rw[fM ps xs];cases cM st ps xs <;> rfl
theorem kf {a:Ty}:∀ {ls:List Leaf} {j k:Nat},kr a j ls=some k->j<=k/\∃ l,ls[k-j]?=some l/\iy l=true
 |[],_,_,h=>by simp[kr]at h
 |l::ls,j,k,h=>by
  simp only[kr]at h;cases hb:iy l&&nW a j with
  |true =>
   rw[hb]at h;simp only[cond_true,AA]at h;subst h;simp only[AC]at hb;exact⟨AU _,l,by simp,hb.1⟩
  |false =>
   rw[hb]at h;obtain⟨h1,l',h2,h3⟩:=kf h;exact⟨by omega,l',by rw[show k-j=(k-(j+1))+1 by omega];simpa using h2,h3⟩
theorem qi {p:PK}{ls:List Leaf}{k:Nat}(h:p.nest ls=some k):∃ l,ls[k]?=some l/\iy l=true:=by
 cases p with
 |own a=>obtain⟨_,l,h1,h2⟩:=kf h;exact⟨l,by simpa using h1,h2⟩
 |io a=>obtain⟨_,l,h1,h2⟩:=kf h;exact⟨l,by simpa using h1,h2⟩
 |_=>simp[PK.nest]at h
theorem sb (hV:ax V){W W':Wit}{st':St}{w w':World}(hs:co V W W' st st' w w'):∀ {xs:List (aI×List Leaf)} {vs:List Value},gi P V W st w xs vs->gi P V W' st' w' xs vs
 |[],_,h=>h
 |_::_,_,⟨v,vs',cs,e,h1,h2,h3⟩=>⟨v,vs',cs,e,h1,h2.carry hV.ro hs,sb hV hs h3⟩
theorem aC.setLeaf {W:Wit}{w:World}{ls:List Leaf}{cs:List Value}(hl:aC P V W st w ls cs){k:Nat}{l:Leaf}(hno:¬ an l)(h:∀ v,cs[k]?=some v->aK P V W st w [] l v):aC P V W st w (aR ls k l) cs:=by
 have hlen:=hl.length;refine aC.mk (by simp[aR,hlen]) λj l' v h1 h2=>?_
 rcases aQ _ _ _ _ _ h1 with ⟨rfl,rfl,hj⟩|⟨hne,h1⟩
 ·exact⟨h v h2,hno,hl.one' v (List.mem_of_getElem? h2)⟩
 ·exact hl.at_ j l' v h1 h2
def zv (W:Wit)(S:St)(w:World):Option (Bool×Nat×Nat)->Prop
 |some (_,r,j)=>∃ v,W.cs TMP=[v]/\rZ W S w r j v
 |none=>True
theorem mY (hV:ax V){W:Wit}{a:Act}{w:World}(h:ao P V W st a w):∀ (ps:List PK) (xs:List (aI×List Leaf)) (vs:List Value) (U:Upd) (ys:List (aI×List Leaf)) (b:Option (Bool×Nat×Nat)),
  gi P V W st w xs vs->cM st ps xs=some (U,ys,b)->∃ W0,ao P V W0 (ac U st) a w/\gi P V W0 (ac U st) w ys vs/\W0.nw=W.nw/\W0.β=W.β/\zv W0 (ac U st) w b/\co V W W0 st (ac U st) w w/\(∀ q,(ac U st q).sh=(st q).sh\/q=TMP) /\
   (∀ f r j,b=some (f,r,j)->f=true->ps.any PK.isIo=true)
 |[],xs,vs,U,ys,b,hx,hn=>by
  simp only[cM,AA,Al]at hn;obtain⟨rfl,rfl,rfl⟩:=hn;exact⟨W,h,hx,rfl,rfl,trivial,co.refl V W st w,λ_=>.inl rfl,λ_ _ _ h=>by cases h⟩
 |_::_,[],vs,U,ys,b,hx,hn=>by
  simp only[cM,AA,Al]at hn;obtain⟨rfl,rfl,rfl⟩:=hn;exact⟨W,h,hx,rfl,rfl,trivial,co.refl V W st w,λ_=>.inl rfl,λ_ _ _ h=>by cases h⟩
 |p::ps,x::xs,vs,U,ys,b,⟨v,vs',cs,e,hs,hl,hrest⟩,hn=>by
  subst e;simp only[cM]at hn;split at hn
  ·rename_i k hk;simp only[AB]at hn;obtain⟨u,hu,hn⟩:=hn;simp only[Al]at hn;obtain⟨rfl,rfl,rfl⟩:=hn;obtain⟨l,hlk,hnal⟩:=qi hk;have hg:x.2.getD k .dead=l:=by rw[Ao,hlk];rfl
   rw[hg]at hu ⊢;have hlt:k<cs.length:=by rw[<- hl.length];exact (AD.1 hlk).1
   have hck:=AT hlt;obtain⟨U,l'⟩:=u;obtain⟨W0,n,p0,E0,e0,xs0,g1,g2,g3,g4,_,_,g5,g6,_,g7,g8,g9⟩:=tC hV h (hl.at_ k l _ hlk hck).1 hu;subst g3;refine⟨W0,g1,⟨v,vs',cs,rfl,hs,(hl.carry hV.ro g2).setLeaf id λu hu=>?_,sb hV g2 hrest⟩,g5,g6,⟨_,g7,g9⟩,g2,g8,λf r j hb hf=>?_⟩
   ·rw[hck]at hu;simp only[AA]at hu;subst hu;exact g4
   ·simp only[AA,Al]at hb;rw[A8,hb.1,hf];rfl
  ·simp only[AB]at hn;obtain⟨u,hu,hn⟩:=hn;simp only[Al]at hn;obtain⟨rfl,rfl,rfl⟩:=hn;obtain⟨W0,g1,g2,g3,g4,g5,g6,g7,g8⟩:=mY hV h ps xs vs' u.1 u.2.1 u.2.2 hrest hu;exact⟨W0,g1,⟨v,vs',cs,rfl,hs,hl.carry hV.ro g6,g2⟩,g3,g4,g5,g6,g7,λf r j hb hf=>by rw[A8,g8 f r j hb hf,Bool.or_true]⟩
end
section
variable {P:Program} {V:Env} {Γ:List Ctr} {st:St}
theorem gR {st:St}{q i:Nat}:∀ {ks:List (Nat×Nat)},(q,i)∉ks->(ac (aF st ks) st q).ls[i]?=(st q).ls[i]?
 |[],_=>rfl
 |(r,j)::ks,h=>by
  simp only[A0,not_or]at h;have e:ac (aF st ((r,j)::ks)) st=ac [(r,fq (ac (aF st ks) st r) j)] (ac (aF st ks) st):=aP _ _ _ _;rw[e];rcases am r q (fq (ac (aF st ks) st r) j) (ac (aF st ks) st) with ⟨rfl,e⟩|⟨_,e⟩
  ·rw[e];simp only[fq,aR];rw[Ax (λe0=>h.1 (by rw[e0]))];exact gR h.2
  ·rw[e];exact gR h.2
theorem kg {st:St}{q i:Nat}:∀ {ks:List (Nat×Nat)},(q,i)∉ks->(ac (aN st ks) st q).ls[i]?=(st q).ls[i]?
 |[],_=>rfl
 |(r,j)::ks,h=>by
  simp only[A0,not_or]at h;have e:ac (aN st ((r,j)::ks)) st=ac [(r,fu (ac (aN st ks) st r) j)] (ac (aN st ks) st):=aP _ _ _ _;rw[e];rcases am r q (fu (ac (aN st ks) st r) j) (ac (aN st ks) st) with ⟨rfl,e⟩|⟨_,e⟩
  ·rw[e];simp only[fu,aR];rw[Ax (λe0=>h.1 (by rw[e0]))];exact kg h.2
  ·rw[e];exact kg h.2
theorem mg (d n:Nat)(p q:Bool)(ks:List (Nat×Nat×Nat))(ep:Nat):∀ (rs:List RK) (y:ak rs),∀ x∈(bD d n p q ks ep rs y).2,x.1=B0+d
 |[],_,x,hx=>by simp[bD]at hx
 |r::rs,y,x,hx=>by
  simp only[bD,AM]at hx;rcases hx with hx|hx
  ·cases r <;> simp[nV]at hx;rw[hx]
  ·exact mg d n p q ks ep rs y.2 x hx
theorem qj {q:Nat}(st:St):∀ (U:Upd),(∀ x∈U,x.1≠q)->ac U st q=st q
 |[],_=>rfl
 |(r,c)::U,h=>by
  rw[aP,aJ (Ay (h (r,c) (AW ..)))];exact qj st U (λx hx=>h x (AP _ hx))
def lr (S0:St)(c:Ctr)(d:Nat)(xs:List (aI×List Leaf))(g:Got (ab c.ps))(y:ak c.rs×aj c.ps):Upd :=
 let U1:=(let U:=(bif c.fresh then [] else aF S0 g.frz);aN (ac U S0) g.kill++U);let U2:=aG (ac U1 S0) (g.p&&!c.fresh) c.ps xs y.2++U1;let r:=bD d (ac U2 S0 (B0+d)).ver (g.p&&!c.fresh) g.p (g.frz.map λk=>(k.1,k.2,(ac U2 S0 k.1).ver)) (ac U2 S0 EPO).ver c.rs y.1
 (d,eh ((ac (r.2++U2) S0 d).ver+1) r.1)::(r.2++U2)
theorem xk (hV:ax V){W0:Wit}{S0:St}{a:Act}{w:World}(h0:ao P V W0 S0 a w){c:Ctr}{xs:List (aI×List Leaf)}{vs:List Value}(hxs:gi P V W0 S0 w xs vs){g:Got (ab c.ps)}(hg:bc (bZ Γ S0) c.ps xs=some g)
  (hf:∀ z∈g.frz,aB S0 z) (hk:∀ z∈g.kill,aB S0 z) (hlv:∀ b∈g.lend,live S0 b) (hdis:aX g.kill=true) (hap:dg g.frz g.kill=true) (hE:∀ z∈g.kill,z.1≠EPO) (hlen:g.lend.length<=1) (hio:g.lend=[]\/c.ps.any PK.isIo=false)
  {bss:List (List Nat)} (hbss:∀ k,bss.flatten.count k=(g.lend.map W0.β).count k+(aU W0 g.kill).count k)
  {d:Nat} (hd:d<V.nt) (hfix:∀ x∈V.fixt,x.1≠d) (hbox:fQ S0 d c.rs=true) (hbv:((c.fresh&&g.lend.isEmpty)||!(c.rs.any RK.isBv))=true) {y:ak c.rs×aj c.ps} {e:Ending} {w':World} (hpost:Post c w (bo V W0 g.p g.frz) vs bss y e w') :
  ∃ v,e=.returned v/\∃ W1,ao P V W1 (ac (lr S0 c d xs g y) S0) (a.put (some d) v) w'/\(∀ q,q≠d->q≠B0+d->q∉g.lend->W1.cs q=W0.cs q) /\
   (∀ q i,q≠d->q≠B0+d->q∉g.lend->(q,i)∉g.frz->(q,i)∉g.kill->(ac (lr S0 c d xs g y) S0 q).ls[i]?=(S0 q).ls[i]?)/\(∀ k,k<w.heap.size->k∉aU W0 g.kill->k∉g.lend.map W0.β->w'.heap[k]?=w.heap[k]?)/\w.heap.size<=w'.heap.size:=by
 obtain⟨v,us,N,oss,rbs,rfl,hret,hsz,hos,htp,hou,hfr,hN,hout,hres,hnd,hfre⟩:=hpost;have hmem:∀ k,k∈bss.flatten<->k∈g.lend.map W0.β\/k∈aU W0 g.kill:=λk=>by
  rw[<- AK,<- AK,<- AK,hbss k];omega
 have hfr2:∀ k,k<w.heap.size->k∉aU W0 g.kill->k∉g.lend.map W0.β->w'.heap[k]?=w.heap[k]?:=λk h1 h2 h3=>hfr k h1 (λh=>((hmem k).1 h).elim h3 h2)
 refine⟨v,rfl,?_⟩;unfold lr;generalize hfz:(bif c.fresh then [] else g.frz)=fz;have hU:(bif c.fresh then [] else aF S0 g.frz)=aF S0 fz:=by rw[<- hfz];cases c.fresh <;> rfl
 have hapf:dg fz g.kill=true:=by rw[<- hfz];cases c.fresh with|true=>rfl|false=>exact hap
 have hfzm:∀ z∈fz,z∈g.frz:=by rw[<- hfz];cases c.fresh with|true=>simp|false=>exact λ_ h=>h
 have hff:∀ z∈fz,aB S0 z:=λz hz=>hf z (hfzm z hz)
 rw[hU];obtain⟨h1,h2,h3,h4⟩:=eY hV h0 hapf hk;have hls1:∀ q i,(q,i)∉g.frz->(q,i)∉g.kill->(ac (aN (ac (aF S0 fz) S0) g.kill++aF S0 fz) S0 q).ls[i]?=(S0 q).ls[i]?:=λq i q1 q2=>by
  rw[bw,kg q2,gR (λh=>q1 (hfzm _ h))]
 generalize hU1:aN (ac (aF S0 fz) S0) g.kill++aF S0 fz=U1 at h1 h2 h3 h4 hls1;have hfree:∀ k∈aU W0 g.kill,¬ b6 V (W0.frz S0 fz) (ac U1 S0) k:=λk hk=>lm ⟨(h4 k hk).1,(h4 k hk).2.1,(h4 k hk).2.2.2.1,(h4 k hk).2.2.2.2⟩
 have hFr:∀ k,oQ w w' bss.flatten k->k∉g.lend.map W0.β->k<w'.heap.size/\¬ b6 V (W0.frz S0 fz) (ac U1 S0) k:=by
  rintro k ⟨hk1,hk2⟩ hkl;refine⟨hk1,λhu=>?_⟩;rcases hk2 with hk2|hk2
  ·have:=h1.used_lt k hu;omega
  ·exact ((hmem k).1 hk2).elim hkl (λhk2=>hfree k hk2 hu)
 have hG:∀ k,(N k\/(c.fresh=false/\bo V W0 g.p g.frz k))->gd V { W0.frz S0 fz with nw:=λk=>(W0.frz S0 fz).nw k\/N k } (g.p&&!c.fresh) k:=by
  rintro k (hk|⟨hfs,hk⟩)
  ·exact .inl (.inr hk)
  ·have e1:fz=g.frz:=by rw[<- hfz,hfs];rfl
   have:=jr (V:=V) (W:=W0) (p:=g.p) hf k hk;rw[hfs];rw[<- e1]at this;exact bR (W':={ W0.frz S0 fz with nw:=λk=>(W0.frz S0 fz).nw k\/N k }) (by intro h;simp[h]) (λ_ h=>Or.inl h) k this
 rw[Ap]at hnd;have fin:∀ (W2:Wit),ao P V W2 (ac (aG (ac U1 S0) (g.p&&!c.fresh) c.ps xs y.2++U1) S0) a w'->(∀ k,(N k\/(c.fresh=false/\bo V W0 g.p g.frz k))->gd V W2 (g.p&&!c.fresh) k) ->
   (∀ k∈rbs.flatten,¬ b6 V W2 (ac (aG (ac U1 S0) (g.p&&!c.fresh) c.ps xs y.2++U1) S0) k) ->
   (c.rs.any RK.isBv=true->∀ x∈g.frz,∀ k,k∈W0.bs x.1 x.2->k∈W2.bs x.1 x.2)->(c.rs.any RK.isBv=true->∀ k,W0.nw k->W2.nw k) ->
   (∀ q,q∉g.lend->W2.cs q=W0.cs q)->(∀ q i,q∉g.lend->(q,i)∉g.frz->(q,i)∉g.kill->(ac (aG (ac U1 S0) (g.p&&!c.fresh) c.ps xs y.2++U1) S0 q).ls[i]?=(S0 q).ls[i]?) ->
   (∀ q,(ac (aG (ac U1 S0) (g.p&&!c.fresh) c.ps xs y.2++U1) S0 q).sh=(S0 q).sh) ->
   ∃ W1,ao P V W1 (ac (let U2:=aG (ac U1 S0) (g.p&&!c.fresh) c.ps xs y.2++U1
     let r:=bD d (ac U2 S0 (B0+d)).ver (g.p&&!c.fresh) g.p (g.frz.map λk=>(k.1,k.2,(ac U2 S0 k.1).ver)) (ac U2 S0 EPO).ver c.rs y.1
     (d,eh ((ac (r.2++U2) S0 d).ver+1) r.1)::(r.2++U2)) S0) (a.put (some d) v) w'/\(∀ q,q≠d->q≠B0+d->q∉g.lend->W1.cs q=W0.cs q) /\
    (∀ q i,q≠d->q≠B0+d->q∉g.lend->(q,i)∉g.frz->(q,i)∉g.kill->(ac (let U2:=aG (ac U1 S0) (g.p&&!c.fresh) c.ps xs y.2++U1
     let r:=bD d (ac U2 S0 (B0+d)).ver (g.p&&!c.fresh) g.p (g.frz.map λk=>(k.1,k.2,(ac U2 S0 k.1).ver)) (ac U2 S0 EPO).ver c.rs y.1
     (d,eh ((ac (r.2++U2) S0 d).ver+1) r.1)::(r.2++U2)) S0 q).ls[i]?=(S0 q).ls[i]?):=by
  intro W2 g1 hG2 hfree2 hbs2 hnw2 hcs2 hls2 hsh2;generalize aG (ac U1 S0) (g.p&&!c.fresh) c.ps xs y.2++U1=U2 at g1 hfree2 hls2 hsh2 ⊢;have hbox2:fQ (ac U2 S0) d c.rs=true:=by
   unfold fQ at hbox ⊢;split at hbox
   ·rw[hsh2];exact hbox
   ·exact hbox
  obtain⟨W1,q1,q2⟩:=uH hV g1 (q:=g.p) (ks:=g.frz.map λk=>(k.1,k.2,(ac U2 S0 k.1).ver)) (ep:=(ac U2 S0 EPO).ver) hres hG2 (λhb=>by
   refine⟨λk hk=>?_,AU _,λk hk=>?_⟩
   ·rcases hk with hk|(hk|hk)|⟨x,hx,hk⟩
    ·exact .inl (bR (W':=W2) (by intro h;simp at h;exact h.1) (λ_ h=>h) k (hG2 k hk))
    ·exact .inl (.inl (hnw2 hb k hk))
    ·exact .inl (.inr hk)
    ·exact .inr ⟨(x.1,x.2,(ac U2 S0 x.1).ver),BQ.2 ⟨x,hx,rfl⟩,hbs2 hb x hx k hk⟩
   ·obtain⟨x,hx,rfl⟩:=BQ.1 hk;exact AU _) hfree2 hnd.2.1 hret hd hfix hbox2
  have e1:∀ (X:Upd) (C:bS),ac ((d,C)::(X++U2)) S0=ac ((d,C)::X) (ac U2 S0):=λX C=>by
   rw[aP d C (X++U2),aP d C X,bw]
  simp only[e1,bw];refine⟨W1,q1,λq hq hq2 hql=>(q2 q hq hq2).trans (hcs2 q hql),λq i hq hq2 hql hqf hqk=>?_⟩;rw[aP,aJ hq,qj _ _ (λx hx=>by rw[mg _ _ _ _ _ _ _ _ x hx];exact Ay hq2)];exact hls2 q i hql hqf hqk
 refine (?_:∃ W1,_/\_/\_).imp λW1 hh=>⟨hh.1,hh.2.1,hh.2.2,hfr2,hsz⟩
 cases hln:g.lend with
 |nil =>
  rw[hln]at hmem hfr2 hFr hbss;simp only[Bh,List.not_mem_nil,not_false_iff,true_implies,forall_const,false_or]at hmem hfr2 hFr;rw[hln]at fin;have h5:=h1.world hV hsz hos htp hou (λk hk=>hfr2 k (h1.used_lt k hk) (λhm=>hfree k hm hk));have h6:=h5.nwGrow hV N (λk hk=>hFr k (hN k hk));have hused:∀ k,b6 V { W0.frz S0 fz with nw:=λk=>(W0.frz S0 fz).nw k\/N k } (ac U1 S0) k->b6 V (W0.frz S0 fz) (ac U1 S0) k\/N k:=by
   rintro k ((hk|hk)|hk|hk|hk)
   ·exact .inl (.inl hk)
   ·exact .inr hk
   ·exact .inl (.inr (.inl hk))
   ·exact .inl (.inr (.inr (.inl hk)))
   ·exact .inl (.inr (.inr (.inr hk)))
  have hnotN:∀ k∈oss.flatten++rbs.flatten,¬ b6 V { W0.frz S0 fz with nw:=λk=>(W0.frz S0 fz).nw k\/N k } (ac U1 S0) k:=λk hk hu=>by
   obtain⟨q1,q2⟩:=hfre k hk;rcases hused k hu with hu|hu
   ·exact (hFr k q1).2 hu
   ·exact q2 hu
  obtain⟨W2,g1,g2,g3,g4,g5,g6,g7⟩:=pB (Γ:=Γ) hV (W0:=W0) (W:={ W0.frz S0 fz with nw:=λk=>(W0.frz S0 fz).nw k\/N k }) (p:=g.p&&!c.fresh) rfl hG h6 c.ps xs vs g y.2 oss hxs hg (sa c.ps xs g hg hln) hout hdis hE
   (λx hx l hl ho=>(h2 x.1 x.2 l hl ho).2.2 hx) (λk hk=>hnotN k (AJ _ hk)) hnd.1
  rw[<- bw]at g1 g5 g6 g7;refine fin W2 g1 (λk hk=>?_) (λk hk hu=>?_) (λhb x hx k hk=>?_) (λhb k hk=>?_) (λq _=>by rw[g2];rfl) (λq i _ hqf hqk=>(g6 q i hqk).1.trans (hls1 q i hqf hqk)) (λq=>(g5 q).1.trans (h3 q).1)
  ·rcases hG k hk with hk|hk
   ·exact .inl (by rw[g4];exact hk)
   ·exact .inr hk
  ·rcases g7 k hu with hu|hu
   ·exact hnotN k (AE _ hk) hu
   ·exact hnd.2.2 k hu k hk rfl
  ·rw[(g6 x.1 x.2 (mA hap x hx)).2];exact hk
  ·rw[g4];exact .inl (.inl hk)
 |cons b rest =>
  have hrest:rest=[]:=by
   rw[hln]at hlen;simp at hlen;exact hlen
  subst hrest;have hni:c.ps.any PK.isIo=false:=hio.resolve_left (by rw[hln];simp);have hnb:c.rs.any RK.isBv=false:=by
   rw[hln]at hbv;simpa using hbv
  obtain⟨_,r2⟩:=nJ (Γ:=Γ) h0 (S:=ac U1 S0) (p:=g.p&&!c.fresh) c.ps xs vs g y.2 oss hxs hg hni hout;obtain⟨cT,yv,cs,E,b0,r3,r4,r5,r6,r7⟩:=r2 b hln;rw[r6]at hnd hfre;have hβ:(W0.frz S0 fz).β=W0.β:=rfl;have hlb:∀ k,k∈g.lend.map W0.β<->k=W0.β b:=λk=>by rw[hln];simp
  have hb:live (ac U1 S0) b:=(gN (λq=>(h3 q).1) b).2 (hlv b (by rw[hln];simp));have hnN:∀ k,k∈(W0.β b::b0)++rbs.flatten->¬ N k:=λk hk=>(hfre k hk).2
  obtain⟨W2,g1,g2,g3,g4,g5,g6⟩:=xj hV h1 hb (N:=N) (p:=g.p&&!c.fresh) r4 r5 hnd.1 (by rw[h1.len b];show (W0.cs b).length=_;rw[<- h0.len b];exact r7)
   (λk hu hne=>hfr2 k (h1.used_lt k hu) (λhm=>hfree k hm hu) (λhm=>hne ((hlb k).1 hm))) hsz hos htp hou
   (λk hk=>hFr k (hN k hk) (λhm=>hnN _ (AJ _ (AW ..)) (by rw[<- (hlb k).1 hm];exact hk)))
   (λk hk=>⟨(hFr k (hfre k (AJ _ (AP _ hk))).1 (λhm=>by
    have:=(hlb k).1 hm;subst this;exact (At.1 hnd.1).1 hk)).2,hnN k (AJ _ (AP _ hk))⟩) hG
  have e2:ac (aG (ac U1 S0) (g.p&&!c.fresh) c.ps xs y.2++U1) S0=ac [(b,⟨(ac U1 S0 b).ver+2,.agg,ap (g.p&&!c.fresh) cT yv⟩)] (ac U1 S0):=by rw[bw,r3]
  have hmr:∀ k∈rbs.flatten,k∉g.lend.map W0.β:=λk hk hm=>hnd.2.2 _ (AW ..) k hk ((hlb k).1 hm).symm
  rw[<- e2]at g1 g6;have hgoal:=fin W2 g1 (λk hk=>?_) (λk hk hu=>?_) (λhbb=>by rw[hnb]at hbb;cases hbb) (λhbb=>by rw[hnb]at hbb;cases hbb) (λq hq=>?_) (λq i hq hqf hqk=>?_) (λq=>?_)
  ·rw[hln]at hgoal;exact hgoal
  ·rcases hG k hk with hk|hk
   ·exact .inl ((g3 k).2 hk)
   ·exact .inr hk
  ·rcases g6 k hu with hu|hu|hu
   ·exact (hFr k (hfre k (AE _ hk)).1 (hmr k hk)).2 hu
   ·exact hnN k (AE _ hk) hu
   ·exact hnd.2.2 k (AP _ hu) k hk rfl
  ·rw[hln]at hq;rw[g4 q (by simpa using hq)];rfl
  ·rw[hln]at hq;rw[e2,aJ (by simpa using hq)];exact hls1 q i hqf hqk
  ·rw[e2];rcases am b q ⟨(ac U1 S0 b).ver+2,.agg,ap (g.p&&!c.fresh) cT yv⟩ (ac U1 S0) with ⟨rfl,e3⟩|⟨_,e3⟩
   ·rw[e3];have:=hb.2;rw[(h3 q).1]at this;exact this.symm
   ·rw[e3];exact (h3 q).1
end
section
variable {P:Program} {V:Env} {Γ:List Ctr} {T:TypeId->TI} {st:St} {o:Oper} {R:Type} {κ:Upd->Option R} {r:R}
theorem xm {ls:List Leaf}{j:Nat}{p:Bool}{hh:Option (Nat×Nat)}{E:TypeId}{e:Ty}{xs:List e.den}(h:ls.getD j .dead=.own p hh E e xs):ls[j]?=some (.own p hh E e xs):=by
 rw[Ao]at h;cases hq:ls[j]? with
 |none=>rw[hq]at h;simp at h
 |some l0=>rw[hq]at h;simp at h;rw[h]
theorem yD (hV:ax V){b:Option (Bool×Nat×Nat)}{U:Upd}(h:iX st b U κ=some r) :
  ∃ U',κ U'=some r/\∀ W1 a w,ao P V W1 (ac U st) a w->(∀ q j,b=some (true,q,j)->∃ v,W1.cs TMP=[v]/\rZ W1 (ac U st) w q j v)->Rel P V (ac U' st) a w:=by
 unfold iX at h;split at h
 ·rename_i q j;split at h
  ·rename_i p i off E' e' xs q' E e ys hq htm;obtain⟨y,hy,h⟩:=Ae.1 h;obtain⟨_,_,hy⟩:=fD hy;simp only[Bi]at hy;split at h
   ·rename_i z hz;refine⟨_,h,λW1 a w hr hb=>?_⟩;obtain⟨v,hcT,hqT,hqE,i0,off0,p0,E0,e0,xs0,g,cap,g1,g2,g3,g4⟩:=hb q j rfl;have hq:=xm hq;rw[hq]at g1;obtain⟨rfl,hio,rfl,h4⟩:p=p0/\some (i,off)=some (i0,off0)/\E'=E0/\(⟨e',xs⟩:(e:Ty)×List e.den)=⟨e0,xs0⟩:=by
     simp only[AA,Leaf.own.injEq]at g1;obtain⟨q1,q2,q3,q4,q5⟩:=g1;subst q4;rw[heq_eq_eq]at q5;subst q5;exact⟨q1,by simpa using q2,q3,rfl⟩
    simp only[AA,Al]at hio;obtain⟨rfl,rfl⟩:=hio;simp only[Sigma.mk.injEq]at h4;obtain⟨rfl,h4⟩:=h4;rw[heq_eq_eq]at h4;subst h4;generalize hS:ac U st=S at hr hq g1 g2 g3 htm ⊢;have hT0:(S TMP).ls[0]?=some (.own q' none E e ys):=by rw[htm];rfl
    have hcT0:(W1.cs TMP)[0]?=some v:=by rw[hcT];rfl
    have how:=hr.leaf q j _ _ hq g2;have hoT:=hr.leaf TMP 0 _ _ hT0 hcT0;have how:OwH w (gd V W1 p) (some (i,off)) E' e' xs _ (W1.bs q j):=how;have hoT:Ow w (gd V W1 q') E e ys v (W1.bs TMP 0):=hoT;have how':=how.carry (G':=gd V W1 (p||q')) (bR (W':=W1) (by intro h;simp[h]) (λ_ h=>h)) (λ_ _=>rfl) (λ_ _=>rfl);have hoT':=OwH.carry (G':=gd V W1 (p||q')) hoT (bR (W':=W1) (by intro h;simp[h]) (λ_ h=>h)) (λ_ _=>rfl) (λ_ _=>rfl);have hdj:∀ k∈W1.bs TMP 0,k∉W1.bs q j:=λk hk hk'=>hqT (hr.sep TMP 0 _ q j _ hT0 trivial hq trivial k hk hk').1.symm
    obtain⟨bs',hb1,hb2⟩:=how'.back hoT' hdj hy hz (λg' cap' e1=>by
     simp only[Ag,AA,BI,and_true]at e1;rw[<- e1.1];exact g4)
    have hin:∀ k∈bs',k∈W1.bs q j\/k∈W1.bs TMP 0:=λk hk=>by
     have h5:=hb2 k;have h6:=AK.2 hk;by_cases h7:k∈W1.bs q j
     ·exact .inl h7
     ·have:=AZ.2 h7;exact .inr (AK.1 (by omega))
    obtain⟨h1,hs1⟩:=hr.putGhost hV TMP hZ.1 hZ.2.1 ((S TMP).ver+1) .off [] [] (λ_=>[]) (AL _) rfl (by simp) (λj l u hj=>by simp at hj) (λj l hj=>by simp at hj) (λj j' l l' hj=>by simp at hj);have hlT:∀ x,x≠TMP->ac [(TMP,⟨(S TMP).ver+1,.off,[]⟩)] S x=S x:=λx hx=>aJ hx _ _
    have hsq:(ac [(TMP,⟨(S TMP).ver+1,.off,[]⟩)] S) q=S q:=hlT q hqT;have hother:∀ (i':Nat) (l':Leaf),i'≠j->(aR (S q).ls j (.own (p||q') none E' e' (xs.set i z)))[i']?=some l'->(S q).ls[i']?=some l':=by
     intro i' l' hne hl';rcases aQ _ _ _ _ _ hl' with ⟨rfl,_,_⟩|⟨_,hl'⟩
     ·exact absurd rfl hne
     ·exact hl'
    have hset:∀ (l':Leaf),(aR (S q).ls j (.own (p||q') none E' e' (xs.set i z)))[j]?=some l'->l'=.own (p||q') none E' e' (xs.set i z):=by
     intro l' hl';rcases aQ _ _ _ _ _ hl' with ⟨_,rfl,_⟩|⟨hne,_⟩
     ·rfl
     ·exact absurd rfl hne
    have hlive:∀ b,live (ac [(TMP,⟨(S TMP).ver+1,.off,[]⟩)] S) b->live S b:=λb hb=>by
     have:b≠TMP:=by have:=hb.1;have:=hZ.2.1;omega
     exact⟨hb.1,by rw[<- hlT b this];exact hb.2⟩
    have hfr:∀ k∈bs',¬ W1.nw k/\¬ V.prot k/\(∀ b,live S b->W1.β b≠k)/\∀ (r1 i1:Nat) (l1:Leaf),(S r1).ls[i1]?=some l1->an l1->(r1,i1)≠(q,j)->r1≠TMP->k∉W1.bs r1 i1:=λk hk=>by
     rcases hin k hk with hk|hk
     ·have h9:=hr.ownb q j _ hq trivial k hk;exact⟨h9.1,h9.2.1,h9.2.2,λr1 i1 l1 g5 g6 g7 _ g8=>g7 (by obtain⟨e1,e2⟩:=hr.sep r1 i1 l1 q j _ g5 g6 hq trivial k g8 hk;rw[e1,e2])⟩
     ·have h9:=hr.ownb TMP 0 _ hT0 trivial k hk;exact⟨h9.1,h9.2.1,h9.2.2,λr1 i1 l1 g5 g6 _ g7 g8=>g7 (hr.sep r1 i1 l1 TMP 0 _ g5 g6 hT0 trivial k g8 hk).1⟩
    have h2:=(h1.reownE hV q ⟨(S q).ver,(S q).sh,aR (S q).ls j (.own (p||q') none E' e' (xs.set i z))⟩ (λi'=>if i'=j then bs' else W1.bs q i') hqE (by rw[hsq];exact AU _) (by rw[hsq]) (by rw[hsq];simp[aR])
     (λi' l' u g5 g6=>by
      have g6:(if q=TMP then [] else W1.cs q)[i']?=some u:=g6;rw[if_neg hqT]at g6;by_cases hij:i'=j
      ·subst hij;obtain rfl:=hset l' g5;rw[g2]at g6;simp only[AA]at g6;subst g6;simp only[if_true];exact hb1
      ·simp only[if_neg hij];have:=h1.leaf q i' l' u (by rw[hsq];exact hother i' l' hij g5) (by show (if q=TMP then [] else W1.cs q)[i']?=_;rw[if_neg hqT];exact g6);have e0:(if q=TMP then ([]:List Nat) else W1.bs q i')=W1.bs q i':=if_neg hqT;simp only[e0]at this;exact this)
     (λi' l' g5 g6 k hk=>by
      by_cases hij:i'=j
      ·subst hij;simp only[if_true]at hk;obtain⟨q1,q2,q3,q4⟩:=hfr k hk;refine⟨q1,q2,λb hb=>q3 b (hlive b hb),λr1 j1 l1 hne g7 g8 g9=>?_⟩;by_cases hrT:r1=TMP
       ·subst hrT;rw[bk]at g7;simp at g7
       ·rw[hlT r1 hrT]at g7;have g9:k∈(if r1=TMP then [] else W1.bs r1 j1):=g9;rw[if_neg hrT]at g9;exact q4 r1 j1 l1 g7 g8 (λe=>hne (by cases e;rfl)) hrT g9
      ·simp only[if_neg hij]at hk;have hl':=hother i' l' hij g5;have h9:=hr.ownb q i' l' hl' g6 k hk;refine⟨h9.1,h9.2.1,λb hb=>h9.2.2 b (hlive b hb),λr1 j1 l1 hne g7 g8 g9=>?_⟩;by_cases hrT:r1=TMP
       ·subst hrT;rw[bk]at g7;simp at g7
       ·rw[hlT r1 hrT]at g7;have g9:k∈(if r1=TMP then [] else W1.bs r1 j1):=g9;rw[if_neg hrT]at g9;exact hne (hr.sep q i' l' r1 j1 l1 hl' g6 g7 g8 k hk g9).1.symm)
     (λi1 i2 l1 l2 g5 g6 g7 g8 k hk hk'=>by
      by_cases hij:i1=j <;> by_cases hij':i2=j
      ·omega
      ·subst hij;simp only[if_true]at hk;simp only[if_neg hij']at hk';exact absurd hk' ((hfr k hk).2.2.2 q i2 l2 (hother i2 l2 hij' g7) g8 (λe=>hij' (by cases e;rfl)) hqT)
      ·subst hij';simp only[if_true]at hk';simp only[if_neg hij]at hk;exact absurd hk ((hfr k hk').2.2.2 q i1 l1 (hother i1 l1 hij g5) g6 (λe=>hij (by cases e;rfl)) hqT)
      ·simp only[if_neg hij]at hk;simp only[if_neg hij']at hk';exact (hr.sep q i1 l1 q i2 l2 (hother i1 l1 hij g5) g6 (hother i2 l2 hij' g7) g8 k hk hk').2)).1
    show ∃ W,ao P V W _ a w;have e1:ac ((q,⟨(S q).ver,(S q).sh,aR (S q).ls j (.own (p||q') none E' e' (xs.set i z))⟩)::(TMP,⟨(S TMP).ver+1,.off,[]⟩)::(EPO,bT (S EPO))::U) st =
      ac [(q,⟨(S q).ver,(S q).sh,aR (S q).ls j (.own (p||q') none E' e' (xs.set i z))⟩),(EPO,bT (ac [(TMP,⟨(S TMP).ver+1,.off,[]⟩)] S EPO))] (ac [(TMP,⟨(S TMP).ver+1,.off,[]⟩)] S):=by
     rw[hlT EPO (Ay hZ.2.2),aP q,aP TMP,aP EPO,hS,aP q _ [(EPO,bT (S EPO))],lX hZ.2.2]
    rw[e1];exact⟨_,h2⟩
   ·cases h
  ·cases h
 ·exact⟨_,h,λW1 a w hr _=>⟨W1,hr⟩⟩
theorem tG (hV:ax V)(hΓ:∀ c∈Γ,af P c){d:Nat}(hd:d<V.nt)(hfix:∀ x∈V.fixt,x.1≠d){f:FuncId}{xs:List (aI×List Leaf)}(h:iz Γ st d f xs κ=some r) :
  kv P f/\∃ U,κ U=some r/\∀ W a w,ao P V W st a w->∀ vs,gi P V W st w xs vs->Calls P f vs.toArray w (λe w'=>∃ v,e=.returned v/\Rel P V (ac U st) (a.put (some d) v) w'):=by
 unfold iz at h;split at h
 ·rename_i c hc;obtain⟨hmem,rfl⟩:=md hc;obtain⟨hent,hsound⟩:=hΓ c hmem;refine⟨hent,?_⟩;rw[fM]at h;obtain⟨⟨U0,ys,b⟩,hnest,h⟩:=Ae.1 h;simp only at h;split at h
  ·rename_i g hg;cases hchk:aX g.kill&&dg g.frz g.kill&&fQ st d c.rs&&!(g.see.any λq=>g.lend.any (AR q))&&BN g.lend.length 1&&(g.lend.isEmpty||!(c.ps.any PK.isIo))&&((c.fresh&&g.lend.isEmpty)||!(c.rs.any RK.isBv))&&(g.kill.all λk=>!AR k.1 EPO)&&nh b g.frz g.kill d with
   |false=>rw[hchk]at h;cases h
   |true =>
    rw[hchk]at h;simp only[cond_true]at h;simp only[AC]at hchk;obtain⟨⟨⟨⟨⟨⟨⟨⟨hdis,hap⟩,hbox⟩,hsee⟩,hlen⟩,hio⟩,hbv⟩,hE⟩,hnf⟩:=hchk;obtain⟨y,hy,h⟩:=Ae.1 h;obtain⟨U',hU',hback⟩:=yD (P:=P) (V:=V) hV h;refine⟨U',hU',λW a w hr vs hxs=>?_⟩;obtain⟨W0,h0,hys,hnw0,hβ0,hbk,hst0,hsh0,hbio⟩:=mY hV hr c.ps xs vs U0 ys b hxs hnest;generalize hS0:ac U0 st=S0 at h0 hys hbk hst0 hsh0 hg;obtain⟨⟨bss,hargs,hcnt⟩,hf,hk,hlv⟩:=jD (sW hV hΓ h0) c.ps ys vs g hys hg;have hE:∀ z∈g.kill,z.1≠EPO:=λz hz e0=>by
     have:=List.all_eq_true.1 hE z hz;rw[e0]at this;simp at this
    have hlen:g.lend.length<=1:=Av hlen;have hio':g.lend=[]\/c.ps.any PK.isIo=false:=by
     simp only[B3,Bq,AX]at hio;exact hio
    have hmem2:∀ k,k∈bss.flatten<->k∈g.lend.map W0.β\/k∈aU W0 g.kill:=λk=>by
     rw[<- AK,<- AK,<- AK,hcnt k];omega
    have hseen:∀ k,iT V W0 S0 g.frz g.see k->k<w.heap.size/\k∉bss.flatten:=by
     intro k hks;refine⟨h0.used_lt k (qh hf k hks),λhm=>?_⟩;rcases (hmem2 k).1 hm with hm|hm
     ·obtain⟨b',hb',rfl⟩:=BQ.1 hm;have hbx:=h0.box b' (hlv b' hb');rcases hks with hks|hks|⟨b2,hb2,hlb2,e2⟩|⟨z,hz,hks⟩
      ·exact hbx.1 hks
      ·exact hbx.2 hks
      ·have:=h0.inj b2 b' hlb2 (hlv b' hb') e2;subst this;simp only[AX,Af]at hsee;have:=hsee b2 hb2;rw[Bool.not_eq_true,Af]at this;have:=this b2 hb';simp at this
      ·obtain⟨l,hl,ho⟩:=hf z hz;exact (h0.ownb z.1 z.2 l hl ho _ hks).2.2 b' (hlv b' hb') rfl
     ·obtain⟨z,hz,hkz⟩:=fC.1 hm;obtain⟨l,hl,ho⟩:=hk z hz;have hown:=h0.ownb z.1 z.2 l hl ho k hkz;rcases hks with hks|hks|⟨b2,hb2,hlb2,e2⟩|⟨z',hz',hks⟩
      ·exact hown.1 hks
      ·exact hown.2.1 hks
      ·exact hown.2.2 b2 hlb2 e2
      ·obtain⟨l',hl',ho'⟩:=hf z' hz';obtain⟨e1,e2⟩:=h0.sep z.1 z.2 l z'.1 z'.2 l' hl ho hl' ho' k hkz hks;exact mA hap z' hz' (by rw[show z'=z from CC e1.symm e2.symm];exact hz)
    have hnd:bss.flatten.Nodup:=bz.2 λk=>by
     rw[hcnt k];have h5:=bz.1 (f9 h0 hdis hk) k;have h6:(g.lend.map W0.β).count k<=1:=by
      exact Aq List.count_le_length (by rw[BA];exact hlen)
     by_cases h7:k∈g.lend.map W0.β
     ·have:(aU W0 g.kill).count k=0:=AZ.2 λhm=>by
       obtain⟨b',hb',e0⟩:=BQ.1 h7;obtain⟨z,hz,hkz⟩:=fC.1 hm;obtain⟨l,hl,ho⟩:=hk z hz;exact (h0.ownb z.1 z.2 l hl ho k hkz).2.2 b' (hlv b' hb') e0
      omega
     ·have:(g.lend.map W0.β).count k=0:=AZ.2 h7;omega
    have hcalls:=hsound w (bo V W0 g.p g.frz) g.val vs bss y (hargs.mono (λ_ h=>h) hseen) (λk hks=>hseen k (lq hV k hks)) hnd hy;have hbox0:fQ S0 d c.rs=true:=by
     unfold fQ at hbox ⊢;split at hbox
     ·rcases hsh0 (B0+d) with e0|e0
      ·rw[e0];exact hbox
      ·exact absurd e0 (by have:=hZ.2.1;omega)
     ·exact hbox
    refine hcalls.mono λe w' hpost=>?_
    obtain⟨v,rfl,W1,hr1,hcs1,hls1,hheap,_⟩:=xk (Γ:=Γ) hV h0 hys hg hf hk hlv hdis hap hE hlen hio' hcnt hd hfix hbox0 hbv hpost;refine⟨v,rfl,?_⟩;refine hback W1 _ w' ?_ ?_
    ·have e1:=bw (lr S0 c d ys g y) U0 st;rw[hS0]at e1;rw[<- e1]at hr1;subst hS0;unfold lr at hr1;simp only[bw,AQ,Bu]at hr1 ⊢;exact hr1
    ·intro q j hb;subst hb;obtain⟨u,hcT,hqT,hqE,i,off,p,E,e,xs',gg,cap,q1,q2,q3,q4⟩:=hbk;have hany:=hbio true q j rfl rfl;have hnl:g.lend=[]:=hio'.resolve_right (by rw[hany];simp);simp only[nh,AC,AX]at hnf;obtain⟨⟨⟨hnf1,hnf2⟩,hnf3⟩,hnf4⟩:=hnf;have hqd:q≠d:=λe0=>by rw[e0]at hnf3;simp at hnf3
     have hqb:q≠B0+d:=λe0=>by rw[e0]at hnf4;simp at hnf4
     have hqk:(q,j)∉g.kill:=λhm=>by
      have:=Af.1 hnf1 _ hm;simp[gI]at this
     have hqf:(q,j)∉g.frz:=λhm=>by
      have:=Af.1 hnf2 _ hm;simp[gI]at this
     have hTd:TMP≠d:=by have:=hV.nt;have:=hZ.1;omega
     have hTb:TMP≠B0+d:=by have:=hZ.2.1;omega
     have hL:=hls1 q j hqd hqb (by rw[hnl];simp) hqf hqk;rw[q1]at hL;have hC:=hcs1 q hqd hqb (by rw[hnl];simp);have e1:=bw (lr S0 c d ys g y) U0 st;rw[hS0]at e1;have hgl:gg<w.heap.size:=h0.own_lt q1 trivial gg q3;have hgk:gg∉aU W0 g.kill:=λhm=>by
      obtain⟨z,hz,hkz⟩:=fC.1 hm;obtain⟨l,hl,ho⟩:=hk z hz;obtain⟨e1,e2⟩:=h0.sep z.1 z.2 l q j _ hl ho q1 trivial gg hkz q3;exact hqk (by rw[show (q,j)=z from CC e1.symm e2.symm];exact hz)
     have hcell:w'.cell? ⟨gg,i*e.cells+off,none⟩=some u:=by
      rw[jK (hheap gg hgl hgk (by rw[hnl];simp))];exact q4
     have hbs:gg∈W1.bs q j:=by
      have h9:=hr1.leaf q j _ _ hL (by rw[hC];exact q2);obtain⟨_,flat,bss',_,h10,_⟩:=h9;rw[h10];simp[Ac]
     refine⟨u,by rw[hcs1 TMP hTd hTb (by rw[hnl];simp)];exact hcT,hqT,hqE,i,off,p,E,e,xs',gg,cap,?_,by rw[hC];exact q2,hbs,hcell⟩;have hL2:=hL;rw[<- e1]at hL2;subst hS0;unfold lr at hL2;simp only[bw,AQ,Bu]at hL2 ⊢;exact hL2
  ·cases h
 ·cases h
end
section
variable {P:Program} {V:Env} {Γ:List Ctr} {T:TypeId->TI} {st:St} {o:Oper} {R:Type} {κ:Upd->Option R} {r:R}
theorem mG {W:Wit}{a:Act}{w:World}(h:ao P V W st a w):∀ (l:List Operand),gi P V W st w (l.map (ar st)) (l.map a.eval)
 |[]=>rfl
 |x::l=>by
  obtain⟨cs,h1,h2⟩:=cH h x;exact⟨a.eval x,l.map a.eval,cs,rfl,h1,h2,mG h l⟩
theorem mh {W:Wit}{w:World}:∀ {xs ys:List (aI×List Leaf)} {vs us:List Value},gi P V W st w xs vs->gi P V W st w ys us->gi P V W st w (xs++ys) (vs++us)
 |[],_,_,_,h1,h2=>by rw[show _=_ from h1];exact h2
 |x::xs,_,_,_,⟨v,vs',cs,e,h3,h4,h5⟩,h2=>by
  subst e;exact⟨v,_,cs,rfl,h3,h4,mh h5 h2⟩
theorem pC {a:Act}{w:World}{c:Call}{x:Operand}{f:FuncId}{caps:Array Value}(hop:o.op=.call c)(hc:c.callee=.value x)(hv:a.eval x=.func (.func f) #[] caps)(he:kv P f){next:Act->World->Prop}{Q:Exit->Act->World->Prop}
  (hcalls:Calls P f (c.args.map a.eval++caps) w (λe w'=>∃ v,e=.returned v/\next (a.put o.dst v) w')):o.wp P a w next Q:=by
 unfold Oper.wp;have hrun:(execOp a.eval o).run P w=.ok (.enter f (c.args.map a.eval++caps)) w:=by
  have:=he (c.args.map a.eval++caps) w;simp[execOp,hop,resolve,hc,hv,Deferred.ofValue,invoke,this]
 rw[hrun,Oper.upon_enter];refine hcalls.mono λe w'=>?_
 rintro⟨v,rfl,hn⟩;exact hn
theorem kh {p:Bool}:∀ {b:Ty} {x:b.den},b.flat=true->ap p b x=cz p b x
 |.int _,_,_=>rfl
 |.bool,_,_=>rfl
 |.str,_,_=>rfl
 |.unit,_,_=>rfl
 |.hdr,_,_=>rfl
 |.pair a b,x,h=>by
  simp only[Ty.flat,AC]at h;simp only[ap,cz,kh h.1,kh h.2]
 |.list _ _ _,_,h=>by simp[Ty.flat]at h
theorem qk (hV:ax V){W:Wit}{a:Act}{w:World}(h:ao P V W st a w):∀ (As:List Ty) (xs:List (aI×List Leaf)) (vs:List Value) (x:Tup As),gi P V W st w xs vs->gT st As xs=some x ->
  qI w (λk=>k<w.heap.size) As x vs
 |[],[],vs,_,hx,_=>hx
 |[],_::_,_,_,_,hg=>by simp[gT]at hg
 |_::_,[],_,_,_,hg=>by simp[gT]at hg
 |b::As,x::xs,vs,z,⟨v,vs',cs,e,hs,hl,hrest⟩,hg=>by
  subst e;simp only[gT]at hg;cases hb:decide (x.1=bj b.isAgg) with
  |false=>simp[hb]at hg
  |true =>
   simp only[hb,cond_true]at hg;have hb:=of_decide_eq_true hb;rw[hb]at hs;split at hg
   ·rename_i p y hy;simp only[AB]at hg;obtain⟨t,ht,rfl⟩:=hg;have hrd:=dX h hl hy;refine⟨v,cs,vs',rfl,fK hs,hrd.mono (λk hk=>?_),qk hV h As xs vs' t hrest ht⟩;rcases hk with (hk|⟨_,hk⟩)|⟨z,hz,hk⟩
    ·exact (h.nwlt k hk).1
    ·exact Am (hV.ro k hk).1 h.size
    ·obtain⟨l,h1,h2⟩:=dN hl hz;exact h.own_lt h1 h2 k hk
   ·cases hg
theorem wd (hV:ax V)(hΓ:∀ c∈Γ,af P c)(hok:bL V o){c:Call}{f:Operand}(hop:o.op=.call c)(hc:c.callee=.value f)
  (h:act Γ T o st κ=some r):bU P V o st κ r:=by
 simp only[act,wrU,hop,hc]at h;split at h
 ·cases h
 ·rename_i d hd;split at h
  ·rename_i g caps hf;obtain⟨he,U,hU,hcalls⟩:=tG hV hΓ (hok d hd).1 (hok d hd).2 h;refine⟨U,hU,λW a w hr next Q hn=>?_⟩;obtain⟨hv,_,_,_,_⟩:=bu hr f (by rw[hf];simp);rw[hf]at hv;have hxs:=mh (mG hr c.args.toList) (qS (oR (P:=P) (V:=V) (W:=W) (w:=w) caps hv.2));rw[Bm]at hxs;have:=hcalls W a w hr _ hxs;have e:(c.args.toList.map a.eval++caps.map λb=>Value.pointer (some ⟨W.β b,0,none⟩)).toArray=c.args.map a.eval++(caps.map λb=>Value.pointer (some ⟨W.β b,0,none⟩)).toArray:=by
    apply B8;simp
   rw[e]at this;refine pC hop hc hv.1 he (this.mono λe w'=>?_);rintro⟨v,rfl,hrel⟩;refine⟨v,rfl,hn _ _ ?_⟩;rw[hd];exact hrel
  ·rename_i g caps hf;obtain⟨he,U,hU,hcalls⟩:=tG hV hΓ (hok d hd).1 (hok d hd).2 h;refine⟨U,hU,λW a w hr next Q hn=>?_⟩;obtain⟨hv,_,_,_,_⟩:=bu hr f (by rw[hf];simp);rw[hf]at hv;obtain⟨us,hv,hlen,hcap⟩:=hv;have hxs:=mh (mG hr c.args.toList) (qS (pA (st:=st) hlen hcap));rw[Bm]at hxs;have:=hcalls W a w hr _ hxs;have e:(c.args.toList.map a.eval++us).toArray=c.args.map a.eval++us.toArray:=by
    apply B8;simp
   rw[e]at this;refine pC hop hc hv he (this.mono λe w'=>?_);rintro⟨v,rfl,hrel⟩;refine⟨v,rfl,hn _ _ ?_⟩;rw[hd];exact hrel
  ·rename_i As B φ hf;cases hb:B.flat with
   |false=>simp[hb]at h
   |true =>
    simp only[hb,cond_true]at h;split at h
    ·rename_i x hx;obtain⟨y,hy,h⟩:=Ae.1 h;simp only[hd]at h;refine⟨_,h,λW a w hr next Q hn=>?_⟩;obtain⟨hv,_,_,_,_⟩:=bu hr f (by rw[hf];simp);rw[hf]at hv;obtain⟨f',caps,hv,he,hcalls⟩:=hv;have htup:=qk hV hr As _ _ x (mG hr c.args.toList) hx;have:=hcalls w hr.size hr.keep x _ y htup hy;have e:(c.args.toList.map a.eval).toArray=c.args.map a.eval:=by apply B8;simp
     rw[e]at this;refine pC hop hc hv he (this.mono λe w'=>?_);rintro⟨u,cs,rfl,hvo,hrd,hbelow⟩;refine⟨u,rfl,hn _ _ ?_⟩;rw[hd];have hr2:=hr.below hV hbelow;have hls:=er (P:=P) (V:=V) (W:=W) (st:=st) (G:=λ_=>False) (p:=false) (λ_ h=>h.elim) hrd;rw[<- kh hb]at hls;exact hr2.putLs hV d (hok d hd).1 (hok d hd).2 _ _ _ u cs (AL _) (jg hvo) hls
    ·cases h
  ·cases h
theorem zw (hV:ax V)(hT:TOk P T)(hΓ:∀ c∈Γ,af P c)(hok:bL V o)(h:act Γ T o st κ=some r):bU P V o st κ r:=by
 cases hop:o.op with
 |move x=>exact wu hV hok hop h
 |assign x=>exact tV hV hok hop h
 |pick c x y=>exact wv hV hok hop h
 |alloc t=>exact vW hV hT hok hop h
 |box t x=>exact yz hV hok hop h
 |build t parts=>exact u9 hV hT hok hop h
 |buildSlice t n parts=>exact pv hV hT hok hop h
 |load t x=>exact wx hV hT hok hop h
 |store t x y=>exact vY hV hT hop h
 |nilCheck x=>exact rj hV hok hop h
 |binOp op t x y t'=>exact u3 hV hT hok hop h
 |unOp op t x=>exact ww hV hok hop h
 |convert s t x=>exact sU hV hT hok hop h
 |makeSlice t n c=>exact qD hV hT hok hop h
 |slice t x lo hi mx=>exact wb hV hT hok hop h
 |fieldAddr t x f=>exact qB hV hT hok hop h
 |field t x f=>exact u7 hV hT hok hop h
 |indexAddr t x i=>exact qC hV hT hok hop h
 |index t x i=>exact u6 hV hT hok hop h
 |extract x i=>exact sD hV hok hop h
 |makeFunc fn first caps=>exact rl hV hok hop h
 |call c =>
  cases hc:c.callee with
  |value f=>exact wd hV hΓ hok hop hc h
  |builtin b =>
   cases b with
   |len=>exact xN hV hT hok hop hc h
   |append=>exact uC hV hT hok hop hc h
   |min=>exact yA hV hok hop hc h
   |max=>exact yB hV hok hop hc h
   |_ =>
    simp only[act,wrU,hop,hc]at h;split at h <;> cases h
  |_ =>
   simp only[act,wrU,hop,hc]at h;split at h <;> cases h
 |_=>simp[act,wrU,hop]at h
end
def cm:Ty->Ty->Bool
 |.pair a b,z=>match z with
  |.pair c d=>cm a c&&cm b d
  |_=>false
 |.list m E e,z=>match z with
  |.list n E' e'=>decide (E=E')&&(bif n then m&&cm e e' else decide (e.sh=e'.sh))
  |_=>false
 |a,z=>decide (a=z)
theorem fm:∀ {a b:Ty},cm a b=true->a.sh=b.sh
 |.pair a b,z,h=>by
  cases z with
  |pair c d =>
   simp only[cm,AC]at h;simp only[Ty.sh,fm h.1,fm h.2]
  |_=>simp[cm]at h
 |.list m E e,z,h=>by
  cases z with
  |list n E' e' =>
   simp only[cm,AC,decide_eq_true_eq]at h;obtain⟨rfl,h⟩:=h;cases n with
   |true =>
    simp only[cond_true,AC]at h;simp only[Ty.sh,fm h.2]
   |false =>
    simp only[cond_false,decide_eq_true_eq]at h;simp only[Ty.sh,h]
  |_=>simp[cm]at h
 |.int _,z,h=>by simp only[cm,decide_eq_true_eq]at h;rw[h]
 |.bool,z,h=>by simp only[cm,decide_eq_true_eq]at h;rw[h]
 |.str,z,h=>by simp only[cm,decide_eq_true_eq]at h;rw[h]
 |.unit,z,h=>by simp only[cm,decide_eq_true_eq]at h;rw[h]
 |.hdr,z,h=>by simp only[cm,decide_eq_true_eq]at h;rw[h]
theorem xn {a b:Ty}(h:cm a b=true):a.isAgg=b.isAgg:=by
 cases a with
 |pair c d=>cases b <;> first|rfl|(simp[cm]at h)
 |list m E e=>cases b <;> first|rfl|(simp[cm]at h)
 |_=>simp only[cm,decide_eq_true_eq]at h;rw[h]
theorem mZ {f g h:Nat->List Nat}{k:Nat}:∀ {l:List Nat},(∀ j∈l,(f j).count k=(g j).count k+(h j).count k)->(l.flatMap f).count k=(l.flatMap g).count k+(l.flatMap h).count k
 |[],_=>rfl
 |a::l,H=>by
  have h1:=H a (AW ..);have h2:=mZ (l:=l) (λj hj=>H j (AP _ hj));simp only[Aw,AF];omega
theorem Mx.thin {w:World}{G:Nat->Prop}:∀ {a b:Ty} {pos:Nat} {x:a.den} {y:b.den} {cs:List Value} {bs:List Nat},cm a b=true->HEq x y->Mx w G a none pos x cs bs ->
  ∃ b1 b2:List Nat,(∀ k,bs.count k=b1.count k+b2.count k)/\Mx w (λk=>G k\/k∈b2) b none pos y cs b1
 |.pair a b,z,pos,x,y,cs,bs,h,hxy,H=>by
  cases z with
  |pair c d =>
   simp only[cm,AC]at h;obtain⟨c1,c2,ba,bb,rfl,rfl,h1,h2⟩:=H;obtain⟨h3,h4⟩:=qZ (jn (fm h.1)) (jn (fm h.2)) hxy;obtain⟨p1,p2,q1,q2⟩:=Mx.thin h.1 h3 h1;obtain⟨r1,r2,s1,s2⟩:=Mx.thin h.2 h4 h2;refine⟨p1++r1,p2++r2,λk=>?_,c1,c2,p1,r1,rfl,rfl,q2.mono (λk hk=>hk.imp id (AJ _)),?_⟩
   ·have:=q1 k;have:=s1 k;simp only[AF];omega
   ·have:=s2.mono (G':=λk=>G k\/k∈p2++r2) (λk hk=>hk.imp id (AE _))
    rwa [gy (fm h.1)]at this
  |_=>simp[cm]at h
 |.list m E e,z,pos,xs,ys,cs,bs,h,hxy,H=>by
  have hsh:=fm h;cases z with
  |list n E' e' =>
   simp only[cm,AC,decide_eq_true_eq]at h;obtain⟨rfl,h⟩:=h;cases n with
   |true =>
    simp only[cond_true,AC]at h;obtain⟨rfl,h⟩:=h;rw[cd (by simp)]at H;obtain⟨v,rfl,flat,bss,h1,h2,h3⟩:=H;obtain⟨h4,h5⟩:=q8 (jn (fm h)) hxy;have key:∀ j,∃ q:List Nat×List Nat,j<ys.length->(∀ k,(bss j).count k=q.1.count k+q.2.count k) /\
      ∀ y,ys[j]?=some y->∃ c,Mx w (λk=>G k\/k∈q.2) e' none 0 y c q.1/\∀ i u,c[i]?=some u->flat[j*e'.cells+i]?=some u:=by
     intro j;by_cases hj:j<ys.length
     ·have hyj:=AT hj;obtain⟨x,hx,hxy⟩:=h5 j _ hyj;obtain⟨c,hm,hc⟩:=h3 j x hx;obtain⟨b1,b2,q1,q2⟩:=Mx.thin h hxy hm;refine⟨(b1,b2),λ_=>⟨q1,λy hy=>⟨c,?_,λi u hi=>?_⟩⟩⟩
      ·rw[hyj]at hy;simp only[AA]at hy;subst hy;exact q2
      ·rw[<- gy (fm h)];exact hc i u hi
     ·exact⟨([],[]),λh=>absurd h hj⟩
    obtain⟨f,hf⟩:=Classical.skolem.1 key;refine⟨v.ownBlock.toList++(AO ys.length).flatMap (λj=>(f j).1),(AO ys.length).flatMap (λj=>(f j).2),λk=>?_,?_⟩
    ·rw[h2,AF,AF,h4,mZ (g:=λj=>(f j).1) (h:=λj=>(f j).2) (λj hj=>(hf j (BX.1 hj)).1 k)];omega
    ·rw[cd (by simp)];refine⟨v,rfl,flat,λj=>(f j).1,by rw[<- h4,<- gy (fm h)];exact h1,rfl,λj y hy=>?_⟩;have hj:=(AD.1 hy).1;obtain⟨c,q1,q2⟩:=(hf j hj).2 y hy;exact⟨c,q1.mono (λk hk=>hk.imp id (λhk=>dz.2 ⟨j,hj,hk⟩)),q2⟩
   |false =>
    refine⟨[],bs,λk=>by simp,?_⟩;rw[cn];exact⟨rfl,Rd.flags hsh hxy (Mx.rd (S:=λk=>G k\/k∈bs) (λ_=>.inl) (λ_=>.inr) H)⟩
  |_=>simp[cm]at h
 |.int _,z,pos,x,y,cs,bs,h,hxy,H=>by
  simp only[cm,decide_eq_true_eq]at h;subst h;cases hxy;exact⟨bs,[],λk=>by simp,H.mono (λ_=>.inl)⟩
 |.bool,z,pos,x,y,cs,bs,h,hxy,H=>by
  simp only[cm,decide_eq_true_eq]at h;subst h;cases hxy;exact⟨bs,[],λk=>by simp,H.mono (λ_=>.inl)⟩
 |.str,z,pos,x,y,cs,bs,h,hxy,H=>by
  simp only[cm,decide_eq_true_eq]at h;subst h;cases hxy;exact⟨bs,[],λk=>by simp,H.mono (λ_=>.inl)⟩
 |.unit,z,pos,x,y,cs,bs,h,hxy,H=>by
  simp only[cm,decide_eq_true_eq]at h;subst h;cases hxy;exact⟨bs,[],λk=>by simp,H.mono (λ_=>.inl)⟩
 |.hdr,z,pos,x,y,cs,bs,h,hxy,H=>by
  simp only[cm,decide_eq_true_eq]at h;subst h;cases hxy;exact⟨bs,[],λk=>by simp,H.mono (λ_=>.inl)⟩
theorem iD.mono {w:World}{G G':Nat->Prop}(hG:∀ k,G k->G' k){a:Ty}{x:a.den}{ptr:Bool}{v:Value}{bs:List Nat}(h:iD w G a x ptr v bs):iD w G' a x ptr v bs:=by
 unfold iD at h ⊢;split at h
 ·rename_i hp;rw[if_pos hp];obtain⟨g,c,E,b0,h1,h2,h3,h4⟩:=h;exact⟨g,c,E,b0,h1,h2,h3.mono hG,h4⟩
 ·rename_i hp;rw[if_neg hp];obtain⟨cs,h1,h2⟩:=h;exact⟨cs,h1,h2.mono hG⟩
theorem bJ.mono {w:World}{G G':Nat->Prop}(hG:∀ k,G k->G' k):∀ {ps:List PK} {o:aj ps} {vs:List Value} {bs:List (List Nat)},bJ w G ps o vs bs->bJ w G' ps o vs bs
 |.io _::_,_,_::_,_::_,⟨h1,h2⟩=>⟨h1.mono hG,bJ.mono hG h2⟩
 |.iop _::_,_,_::_,_::_,⟨h1,h2⟩=>⟨h1.mono hG,bJ.mono hG h2⟩
 |.rd _::_,_,_::_,_::_,⟨h1,h2⟩=>⟨h1,bJ.mono hG h2⟩
 |.own _::_,_,_::_,_::_,⟨h1,h2⟩=>⟨h1,bJ.mono hG h2⟩
 |.rref _::_,_,_::_,_::_,⟨h1,h2⟩=>⟨h1,bJ.mono hG h2⟩
 |.rref2 _::_,_,_::_,_::_,⟨h1,h2⟩=>⟨h1,bJ.mono hG h2⟩
 |.fn _ _::_,_,_::_,_::_,⟨h1,h2⟩=>⟨h1,bJ.mono hG h2⟩
 |.clo _ _::_,_,_::_,_::_,⟨h1,h2⟩=>⟨h1,bJ.mono hG h2⟩
 |.hol _ _ _::_,_,_::_,_::_,⟨h1,h2⟩=>⟨h1,bJ.mono hG h2⟩
 |[],_,[],[],_=>trivial
 |[],_,_::_,_,h=>by simp[bJ]at h
 |[],_,[],_::_,h=>by simp[bJ]at h
 |p::_,_,[],_,h=>by cases p <;> exact h.elim
 |p::_,_,_::_,[],h=>by cases p <;> exact h.elim
theorem oP.mono {w:World}{G G' ro ro':Nat->Prop}(hG:∀ k,G k->G' k)(hr:∀ k,G k\/ro k->G' k\/ro' k):∀ {r:RK} {y:r.den} {v:Value} {bs:List Nat},oP w G ro r y v bs->oP w G' ro' r y v bs
 |.v _,_,_,_,⟨cs,h1,h2⟩=>⟨cs,h1,h2.mono hG⟩
 |.bv _,_,_,_,⟨e,cs,h1,h2⟩=>⟨e,cs,h1,h2.mono hr⟩
 |.box _,_,_,_,⟨g,c,E,b0,h1,h2,h3,h4⟩=>⟨g,c,E,b0,h1,h2,h3.mono hG,h4⟩
theorem fJ.mono {w:World}{G G' ro ro':Nat->Prop}(hG:∀ k,G k->G' k)(hr:∀ k,G k\/ro k->G' k\/ro' k):∀ {rs:List RK} {y:ak rs} {us:List Value} {bss:List (List Nat)},fJ w G ro rs y us bss->fJ w G' ro' rs y us bss
 |[],_,_,_,h=>h
 |_::_,_,_,_,⟨u,us',b,bss',e1,e2,h1,h2⟩=>⟨u,us',b,bss',e1,e2,h1.mono hG hr,fJ.mono hG hr h2⟩
theorem af.thin {P:Program}{f:FuncId}{a a':Ty}{ps:List PK}{rs:List RK}{fr:Bool}{den:ab (.own a::ps)->Option (ak rs×aj (.own a::ps))}{den':ab (.own a'::ps)->Option (ak rs×aj (.own a'::ps))}
  (h:af P ⟨f,.own a::ps,rs,fr,den⟩) (ht:cm a' a=true) (cv:a'.den->a.den) (hcv:∀ x,HEq x (cv x)) (hd:∀ x,den' x=den (cv x.1,x.2)):af P ⟨f,.own a'::ps,rs,fr,den'⟩:=by
 refine⟨h.1,λw ro x vs bss y hargs hro hnd hy=>?_⟩;obtain⟨x1,xr⟩:=x;obtain⟨v,vs1,b,bs1,rfl,rfl,⟨cs,hvo,hm⟩,hrest⟩:=hargs;obtain⟨b1,b2,hcnt,hm1⟩:=Mx.thin ht (hcv x1) hm;have hlt:=hm.lt;rw[bz]at hnd;have hnd':∀ k,b1.count k+b2.count k+bs1.flatten.count k<=1:=λk=>by
  have:=hnd k;rw[AY,AF,hcnt k]at this;exact this
 have hb:∀ k,k∈b<->k∈b1\/k∈b2:=λk=>by
  rw[<- AK,<- AK,<- AK,hcnt k];omega
 have hin:∀ k,k∈(b1::bs1).flatten->k∈(b::bs1).flatten:=λk hk=>by
  rw[AY,AM]at hk ⊢;exact hk.imp (λh=>(hb k).2 (.inl h)) id
 have hb2:∀ k,k∈b2->k∉(b1::bs1).flatten:=λk hk hk2=>by
  have h1:=hnd' k;have h2:=AK.2 hk;have h3:=AK.2 hk2;rw[AY,AF]at h3;omega
 have hb2':∀ k,k∈b2->k∈(b::bs1).flatten:=λk hk=>by
  rw[AY,AM];exact .inl ((hb k).2 (.inr hk))
 have hargs2:cQ P w (λk=>ro k\/k∈b2) (λk=>k<w.heap.size/\k∉(b1::bs1).flatten) (.own a::ps) (cv x1,xr) (v::vs1) (b1::bs1) :=
  ⟨v,vs1,b1,bs1,rfl,rfl,⟨cs,by rw[<- xn ht];exact hvo,hm1⟩,hrest.mono (λ_=>.inl) (λk hk=>⟨hk.1,λh=>hk.2 (hin k h)⟩)⟩
 refine (h.2 w _ _ _ _ y hargs2 (λk hk=>?_) ?_ (by rw[<- hy];exact (hd (x1,xr)).symm)).mono λe w' hp=>?_
 ·rcases hk with hk|hk
  ·exact⟨(hro k hk).1,λh=>(hro k hk).2 (hin k h)⟩
  ·exact⟨hlt k ((hb k).2 (.inr hk)),hb2 k hk⟩
 ·rw[bz];intro k;have:=hnd' k;show ((b1::bs1).flatten).count k<=1;rw[AY,AF];omega
 ·obtain⟨v',us,N,oss,rbs,h1,hret,hsz,hos,htp,hou,hfr,hN,hO,hres,hnd3,hfresh⟩:=hp;have hG:∀ k,(N k\/fr=false/\(ro k\/k∈b2))->((N k\/k∈b2)\/fr=false/\ro k):=λk hk=>by
   rcases hk with hk|⟨hk,hk2|hk2⟩
   ·exact .inl (.inl hk)
   ·exact .inr ⟨hk,hk2⟩
   ·exact .inl (.inr hk2)
  refine⟨v',us,λk=>N k\/k∈b2,oss,rbs,h1,hret,hsz,hos,htp,hou,λk hk hn=>hfr k hk (λh=>hn (hin k h)),λk hk=>?_,?_,?_,hnd3,λk hk=>?_⟩
  ·rcases hk with hk|hk
   ·exact⟨(hN k hk).1,(hN k hk).2.imp id (hin k)⟩
   ·exact⟨Am (hlt k ((hb k).2 (.inr hk))) hsz,.inr (hb2' k hk)⟩
  ·match oss,hO with
   |b3::oss,hO=>exact⟨hO.1,bJ.mono hG hO.2⟩
   |[],hO=>exact hO.elim
  ·refine fJ.mono hG (λk hk=>?_) hres;rcases hk with hk|hk|hk
   ·exact .inl (hG k hk)
   ·exact .inr hk
   ·exact .inl (.inl (.inr hk))
  ·obtain⟨h5,h6⟩:=hfresh k hk;refine⟨⟨h5.1,h5.2.imp id (hin k)⟩,λh=>h.elim h6 (λh=>?_)⟩;rcases h5.2 with h7|h7
   ·have:=hlt k ((hb k).2 (.inr h));omega
   ·exact hb2 k h h7
end Go.Proofs.YtmcbmojdeikcdaaGreatEv
