/- One operation: boxes made, boxes written. -/
import Derived.Test.YtmcbmojdeikcdaaGreatE2
import Derived.Deep.MidRow
import Derived.Great.FillDense
namespace Go.Proofs.YtmcbmojdeikcdaaGreatEv
open Go Go.RowKit
section
variable {P:Program} {V:Env} {Γ:List Ctr} {T:TypeId->TI} {st:St} {o:Oper} {R:Type} {κ:Upd->Option R} {r:R}
theorem lL {q q':Nat}(h:q≠q')(c c':bM)(st:St):ac [(q,c)] (ac [(q',c')] st)=ac [(q',c')] (ac [(q,c)] st):=by
 funext k;rcases am q k c (ac [(q',c')] st) with ⟨rfl,e⟩|⟨h1,e⟩
 ·rw[e,aI h,bg]
 ·rw[e];rcases am q' k c' st with ⟨rfl,e'⟩|⟨h2,e'⟩
  ·rw[e',bg]
  ·rw[e',aI h2,aI h1]
theorem ao.boxed (hV:ax V){W:Wit}{a:Act}{w:World}(h:ao P V W st a w)(d:Nat)(hd:d<V.nt)(hfix:∀ x∈V.fixt,x.1≠d)(hoff:(st (B0+d)).sh=.off)(ls:List Leaf)
  (csd:List Value) (bsd:Nat->List Nat) (E:TypeId)
  (hl:ls.length=csd.length) (h1:∀ u∈csd,u.oneCell'=true)
  (hleaf:∀ (j:Nat) (l:Leaf) (u:Value),ls[j]?=some l->csd[j]?=some u->aJ P V W st w (bsd j) l u)
  (hown:∀ (j:Nat) (l:Leaf),ls[j]?=some l->an l->∀ k∈bsd j,¬ W.nw k/\¬ V.prot k/\k<w.heap.size/\(∀ b,live st b->W.β b≠k) /\
   ∀ (r1 j1:Nat) (l1:Leaf),(st r1).ls[j1]?=some l1->an l1->k∉W.bs r1 j1)
  (hsep:∀ (j j':Nat) (l l':Leaf),ls[j]?=some l->an l->ls[j']?=some l'->an l'->∀ k,k∈bsd j->k∈bsd j'->j=j') :
  Rel P V (ac ((B0+d,⟨(st (B0+d)).ver+1,.agg,ls⟩)::[(d,⟨(st d).ver+1,.one,[.bp (B0+d) 0]⟩)]) st) (a.put (some d) (.pointer (some ⟨w.heap.size,0,none⟩))) (w.alloc (.cells csd.toArray E)):=by
 have hdB:d<B0:=Nat.lt_of_lt_of_le hd hV.ntB;have hne:B0+d≠d:=by simp[B0]
 have hnl:¬ live st (B0+d):=by simp[live,hoff]
 have h2:=h.setBox hV (B0+d) (Nat.le_add_right _ _) ((st (B0+d)).ver+1) ls csd bsd w.heap.size E (w':=w.alloc (.cells csd.toArray E)) (Nat.lt_succ_self _) (.inr ⟨hnl,Nat.le_refl _⟩)
  (heap_alloc_new w _) (λk hk _=>Go.heap_alloc_old w _ hk) (by simp) rfl rfl rfl hl h1 hleaf (λj l hj ho k hk=>by
   obtain⟨h3,h4,h5,h6,h7⟩:=hown j l hj ho k hk;exact⟨h3,h4,h5,h6,λr1 j1 l1 _=>h7 r1 j1 l1⟩) hsep
 rw[aN,lL hne];refine h2.putLs hV d hd hfix _ .one [.bp (B0+d) 0] _ [.pointer (some ⟨w.heap.size,0,none⟩)] ?_ rfl ⟨⟨⟨Nat.le_add_right _ _,by rw[bg],by simp⟩,id,rfl⟩,trivial⟩;rw[aI (Ne.symm hne)];exact Nat.lt_succ_self _
theorem sC {t:TypeId}(hT:TOk P T)(hn:(T t).cells≠0)(w:World):∃ z cs,(zeroValue t).run P w=.ok z w/\z.cells=cs.toArray/\∀ (V:Env) (W:Wit) (st:St),aC P V W st w (T t).zero cs:=by
 have h:=hT t;cases ht:T t with
 |none=>rw[ht]at hn;exact absurd rfl hn
 |int k=>rw[ht]at h;exact⟨_,[.int k 0],fy h.2.2 w,rfl,λV W st=>⟨⟨rfl,id,rfl⟩,trivial⟩⟩
 |bool=>rw[ht]at h;exact⟨_,[.bool false],fy h.2.2 w,rfl,λV W st=>⟨⟨rfl,id,rfl⟩,trivial⟩⟩
 |str=>rw[ht]at h;exact⟨_,[.string ByteArray.empty],fy h.2.2 w,rfl,λV W st=>⟨⟨rfl,id,rfl⟩,trivial⟩⟩
 |slice E e b=>rw[ht]at h;exact⟨_,[.slice none 0 0],fy h.2.2.1 w,rfl,λV W st=>⟨⟨rfl,id,rfl⟩,trivial⟩⟩
 |struct a fl=>rw[ht]at h;exact⟨_,zeroCells a,fy h.2.2.1 w,rfl,λV W st=>ku a⟩
 |arr e n=>rw[ht]at h;exact⟨_,(List.replicate n (zeroCells e)).flatten,fy h.2.2.2 w,rfl,λV W st=>nA e n⟩
 |ptr=>rw[ht]at h;exact⟨_,[.pointer none],fy h.2.2 w,rfl,λV W st=>⟨⟨trivial,id,rfl⟩,trivial⟩⟩
 |fn=>rw[ht]at h;exact⟨_,[.nilFunc],fy h.2.2 w,rfl,λV W st=>⟨⟨trivial,id,rfl⟩,trivial⟩⟩
theorem vK (hV:ax V)(hT:TOk P T)(hok:bF V o){t:TypeId}(hop:o.op=.alloc t)(h:act Γ T o st κ=some r):bP P V o st κ r:=by
 simp only[act,wrU,hop]at h;split at h
 ·rename_i d hd;cases hb:decide ((st (B0+d)).sh=.off)&&!decide ((T t).cells=0) with
  |false=>simp[hb]at h
  |true =>
   simp only[hb,cond_true]at h;simp only[Bool.and_eq_true,decide_eq_true_eq,Bool.not_eq_true',decide_eq_false_iff_not]at hb;refine⟨_,h,λW a w hr next Q hn=>?_⟩;obtain⟨z,cs,hz,hc,hl⟩:=sC hT hb.2 w;have hl:=hl V W st;refine dV (v:=.pointer (some ⟨w.heap.size,0,none⟩)) (w':=w.alloc (.cells cs.toArray t)) ?_ ?_
   ·simp[execOp,hop,Instr.alloc,hz,newVar,newRow,hc]
   ·rw[hd];refine hn _ _ ?_;exact hr.boxed hV d (hok d hd).1 (hok d hd).2 hb.1 _ cs (λ_=>[]) t hl.length hl.one' (λj l u h1 h2=>(hl.at_ j l u h1 h2).1) (λ_ _ _ _ k hk=>by simp at hk) (λ_ _ _ _ _ _ _ _ k hk=>by simp at hk)
 ·cases h
theorem yp (hV:ax V)(hok:bF V o){t:TypeId}{x:Operand}(hop:o.op=.box t x)(h:act Γ T o st κ=some r):bP P V o st κ r:=by
 simp only[act,wrU,hop]at h;split at h
 ·rename_i d hd;cases hb:decide ((st (B0+d)).sh=.off)&&decide ((ar st x).2.length=(T t).cells)&&decide ((ar st x).1=be (T t).agg)&&gi st (ar st x).2 with
  |false=>simp[hb]at h
  |true =>
   simp only[hb,cond_true]at h;simp only[Bool.and_eq_true,decide_eq_true_eq]at hb;obtain⟨⟨⟨hb1,hb2⟩,hb3⟩,hb4⟩:=hb;have hbox:∀ (W:Wit) (a:Act) (w:World) (cs:List Value),dI (ar st x).1 (a.eval x) cs->aC P V W st w (ar st x).2 cs ->
     (execOp a.eval o).run P w=.ok (.value (.pointer (some ⟨w.heap.size,0,none⟩))) (w.alloc (.cells cs.toArray t)):=by
    intro W a w cs hs hl;rw[hb3]at hs;have hc:=f9 hs hl.one';simp[execOp,hop,Instr.box,newVar,newRow,hc]
   cases hlent:qG st x with
   |true =>
    rw[hlent]at h;simp only[cond_true]at h;refine⟨_,h,λW a w hr next Q hn=>?_⟩;obtain⟨cs,hs,hl⟩:=cB hr x;refine dV (hbox W a w cs hs hl) ?_;rw[hd];refine hn _ _ ?_;exact hr.boxed hV d (hok d hd).1 (hok d hd).2 hb1 _ cs (λ_=>[]) t hl.length hl.one' (λj l u h1 h2=>(hl.at_ j l u h1 h2).1) (λ_ _ _ _ k hk=>by simp at hk) (λ_ _ _ _ _ _ _ _ k hk=>by simp at hk)
   |false =>
    rw[hlent]at h;simp only[cond_false]at h;refine⟨_,h,λW a w hr next Q hn=>?_⟩;obtain⟨cs,hs,hl⟩:=cB hr x;obtain⟨h1,h2,h3,h4,h5⟩:=ny hV hr hl hb4;have h6:=xy hV hr hl hb4;refine dV (hbox W a w cs hs hl) ?_;rw[hd];refine hn _ _ ?_;have:=h1.boxed hV d (hok d hd).1 (hok d hd).2 (by rw[(h6 _).1];exact hb1) _ cs (cY W (ar st x).2) t h2 hl.one' h3 h4 h5;rw[<- bm]at this;exact this
 ·cases h
theorem iJ (b:Nat)(E:TypeId):∀ (vs:List Value) (k o:Nat) (w:World) (cur:Array Value),w.heap[b]?=some (.cells cur E (0,0)) ->
  (w.setCells b (o+k) vs).heap[b]?=some (.cells ((vs.zipIdx k).foldl (λcs (x:Value×Nat)=>cs.setIfInBounds (o+x.2) x.1) cur) E (0,0))
 |[],_,_,_,_,h=>h
 |v::vs,k,o,w,cur,h=>by
  have:=iJ b E vs (k+1) o (w.setCell ⟨b,o+k,none⟩ v) _ (heap_setCell_same w b (o+k) cur E v h);simpa[World.setCells,Nat.add_assoc]using this
theorem d4 (b:Nat):∀ (vs:List Value) (o:Nat) (w:World) (k:Nat),k≠b->(w.setCells b o vs).heap[k]?=w.heap[k]?
 |[],_,_,_,_=>rfl
 |v::vs,o,w,k,h=>by
  rw[World.setCells,d4 b vs (o+1) _ k h];exact heap_setCell_other w ⟨b,o,none⟩ k v h
theorem iK (b:Nat):∀ (vs:List Value) (o:Nat) (w:World),(w.setCells b o vs).os=w.os/\(w.setCells b o vs).tape=w.tape/\(w.setCells b o vs).output=w.output/\(w.setCells b o vs).heap.size=w.heap.size
 |[],_,_=>⟨rfl,rfl,rfl,rfl⟩
 |v::vs,o,w=>by
  obtain⟨h1,h2,h3,h4⟩:=iK b vs (o+1) (w.setCell ⟨b,o,none⟩ v);exact⟨h1,h2,h3,by rw[World.setCells,h4];simp⟩
theorem lM {t:TypeId}{n:Nat}(hsz:bH P t n){w:World}{b off:Nat}{cur:List Value}{E:TypeId}(hb:w.heap[b]?=some (.cells cur.toArray E (0,0))){v:Value}{cs:List Value}
  (hv:v.cells=cs.toArray) (hl:cs.length=n) (h1:∀ u∈cs,u.oneCell'=true) (hin:off+cs.length<=cur.length) :
  (Instr.storeAt t (.pointer (some ⟨b,off,none⟩)) v).run P w=.ok () (w.setCells b off cs):=by
 have hthere:∀ j,j<cs.length->(w.cell? ⟨b,off+j,none⟩).isSome=true:=by
  intro j hj;rw[cell_of_row w b _ _ E (0,0) hb];simp;omega
 have h3:=run_storeCells_cells (P:=P) b off cs 0 w (λj hj=>hthere j hj) (λj hj=>frozen_of_row w b _ _ E hb) h1;have h4:=cZ hsz w;simp only[Nat.add_zero]at h3;simp[Instr.storeAt,Instr.sureAddr,storeVar,h4,hv,hl,h3]
theorem rJ (hV:ax V)(hT:TOk P T){t:TypeId}{x y:Operand}{b off:Nat}(hop:o.op=.store t x y)(hd:o.dst=none)(hx:one st x=.bp b off)
  (hlen:(ar st y).2.length=(T t).cells) (hsh:(ar st y).1=be (T t).agg) (hn0:(T t).cells≠0) (hag:(st b).sh=.agg) (hoff:off+(ar st y).2.length<=(st b).ls.length) (hdis:gi st (ar st y).2=true)
  {W:Wit} {a:Act} {w:World} (hr:ao P V W st a w) :
  lH P V o st ((b,⟨(ac (mvU st (ar st y).2) st b).ver+1,.agg,iy (ac (mvU st (ar st y).2) st b).ls (dk st (ar st y).2) off⟩)::mvU st (ar st y).2) a w:=by
 intro next Q hn;obtain⟨cs,hs,hl⟩:=cB hr y;rw[hsh]at hs;have hc:=f9 hs hl.one';obtain⟨h1,h2,h3,h4,h5⟩:=ny hV hr hl hdis;have h6:=xy hV hr hl hdis;obtain⟨hp,_,_,_⟩:=bk hr x (by rw[hx];simp);rw[hx]at hp;obtain⟨hB,_,hv⟩:=hp;have hnn:T t≠.none:=by intro e;rw[e]at hn0;exact hn0 rfl
 rcases hr.boxes b hB with ⟨h8,_⟩|⟨_,E,h8⟩
 ·rw[hag]at h8;cases h8
 ·have hlen2:=hl.length;have hlb:=hr.len b;have hlb':(ac (mvU st (ar st y).2) st b).ls.length=(W.cs b).length:=h1.len b;have hin:off+cs.length<=(W.cs b).length:=by omega
  have hrun:=lM (nz (hT t) hnn) h8 hc (by omega) hl.one' hin;refine oF (w':=w.setCells (W.β b) off cs) (by simp[execOp,hop,hv,hrun]) ?_;rw[hd];refine hn _ _ ?_;rw[aN];obtain⟨e1,e2,e3,e4⟩:=iK (W.β b) cs off w;have hnew:=iJ (W.β b) E cs 0 off w _ h8;rw[j0 (W.cs b) cs off hin]at hnew;simp only[Nat.add_zero]at hnew;have hlv:live (ac (mvU st (ar st y).2) st) b:=⟨hB,by rw[(h6 b).1];exact hag⟩;have htl:(dk st (ar st y).2).length=cs.length:=h2;have hcase:∀ (j:Nat) (l:Leaf),(iy (ac (mvU st (ar st y).2) st b).ls (dk st (ar st y).2) off)[j]?=some l ->
    (off<=j/\j<off+cs.length/\(dk st (ar st y).2)[j-off]?=some l)\/((j<off\/off+cs.length<=j)/\(ac (mvU st (ar st y).2) st b).ls[j]?=some l):=by
   intro j l hj;unfold iy at hj;rw[htl]at hj;by_cases h9:j<off
   ·rw[List.append_assoc,List.getElem?_append_left (by simp;omega),List.getElem?_take,if_pos h9]at hj;exact .inr ⟨.inl h9,hj⟩
   ·by_cases h10:j<off+cs.length
    ·rw[List.append_assoc,List.getElem?_append_right (by simp;omega),List.getElem?_append_left (by simp;omega)]at hj;refine .inl ⟨by omega,h10,?_⟩;rw[<- hj];congr 1;simp;omega
    ·rw[List.getElem?_append_right (by simp;omega),List.getElem?_drop]at hj;refine .inr ⟨.inr (by omega),?_⟩;rw[<- hj];congr 1;simp;omega
  have hcase2:∀ (j:Nat),((W.cs b).take off++cs++(W.cs b).drop (off+cs.length))[j]?=if off<=j/\j<off+cs.length then cs[j-off]? else (W.cs b)[j]?:=by
   intro j;by_cases h9:j<off
   ·rw[List.append_assoc,List.getElem?_append_left (by simp;omega),List.getElem?_take,if_pos h9,if_neg (by omega)]
   ·by_cases h10:j<off+cs.length
    ·rw[List.append_assoc,List.getElem?_append_right (by simp;omega),List.getElem?_append_left (by simp;omega),if_pos ⟨by omega,h10⟩];congr 1;simp;omega
    ·rw[List.getElem?_append_right (by simp;omega),List.getElem?_drop,if_neg (by omega)];congr 1;simp;omega
  refine⟨_,h1.setBox hV b hB _ _ ((W.cs b).take off++cs++(W.cs b).drop (off+cs.length)) (λj=>if off<=j/\j<off+cs.length then cY W (ar st y).2 (j-off) else W.bs b j) (W.β b) E
   (Nat.lt_succ_self _) (.inl ⟨hlv,rfl⟩) hnew (λk _ hk=>d4 (W.β b) cs off w k hk) (Nat.le_of_eq e4.symm) e1 e2 e3 ?_ ?_ ?_ ?_ ?_⟩
  ·simp only[iy,List.length_append,List.length_take,List.length_drop];omega
  ·intro u hu;simp only[List.mem_append]at hu;rcases hu with (hu|hu)|hu
   ·exact hr.one b u (List.mem_of_mem_take hu)
   ·exact hl.one' u hu
   ·exact hr.one b u (List.mem_of_mem_drop hu)
  ·intro j l u hj hu;rw[hcase2]at hu;rcases hcase j l hj with ⟨h9,h10,h11⟩|⟨h9,h11⟩
   ·rw[if_pos ⟨h9,h10⟩]at hu;simp only[if_pos (⟨h9,h10⟩:off<=j/\j<off+cs.length)];exact h3 _ l u h11 hu
   ·have hneg:¬ (off<=j/\j<off+cs.length):=by omega
    rw[if_neg hneg]at hu;simp only[if_neg hneg];exact h1.leaf b j l u h11 hu
  ·intro j l hj ho k hk;rcases hcase j l hj with ⟨h9,h10,h11⟩|⟨h9,h11⟩
   ·simp only[if_pos (⟨h9,h10⟩:off<=j/\j<off+cs.length)]at hk;obtain⟨q1,q2,q3,q4,q5⟩:=h4 _ l h11 ho k hk;exact⟨q1,q2,q3,q4,λr1 j1 l1 _=>q5 r1 j1 l1⟩
   ·have hneg:¬ (off<=j/\j<off+cs.length):=by omega
    simp only[if_neg hneg]at hk;obtain⟨q1,q2,q3⟩:=h1.ownb b j l h11 ho k hk;exact⟨q1,q2,h1.own_lt h11 ho k hk,q3,λr1 j1 l1 hne hj1 ho1 hk1=>hne (h1.sep b j l r1 j1 l1 h11 ho hj1 ho1 k hk hk1).1.symm⟩
  ·intro j j' l l' hj ho hj' ho' k hk hk';rcases hcase j l hj with ⟨h9,h10,h11⟩|⟨h9,h11⟩ <;> rcases hcase j' l' hj' with ⟨h9',h10',h11'⟩|⟨h9',h11'⟩
   ·simp only[if_pos (⟨h9,h10⟩:off<=j/\j<off+cs.length)]at hk;simp only[if_pos (⟨h9',h10'⟩:off<=j'/\j'<off+cs.length)]at hk';have:=h5 _ _ l l' h11 ho h11' ho' k hk hk';omega
   ·have hneg:¬ (off<=j'/\j'<off+cs.length):=by omega
    simp only[if_pos (⟨h9,h10⟩:off<=j/\j<off+cs.length)]at hk;simp only[if_neg hneg]at hk';exact absurd hk' ((h4 _ l h11 ho k hk).2.2.2.2 b j' l' h11' ho')
   ·have hneg:¬ (off<=j/\j<off+cs.length):=by omega
    simp only[if_neg hneg]at hk;simp only[if_pos (⟨h9',h10'⟩:off<=j'/\j'<off+cs.length)]at hk';exact absurd hk ((h4 _ l' h11' ho' k hk').2.2.2.2 b j l h11 ho)
   ·have hneg:¬ (off<=j/\j<off+cs.length):=by omega
    have hneg':¬ (off<=j'/\j'<off+cs.length):=by omega
    simp only[if_neg hneg]at hk;simp only[if_neg hneg']at hk';exact (h1.sep b j l b j' l' h11 ho h11' ho' k hk hk').2
end
end Go.Proofs.YtmcbmojdeikcdaaGreatEv
namespace Go.Proofs.YtmcbmojdeikcdaaGreatEv
open Go Go.RowKit
theorem bz {l:List Nat}:l.Nodup<->∀ k,l.count k<=1:=by
 induction l with
 |nil=>simp
 |cons a l ih =>
  rw[List.nodup_cons,ih];constructor
  ·rintro⟨h1,h2⟩ k;rw[List.count_cons];by_cases hk:a=k
   ·subst hk;have:l.count a=0:=List.count_eq_zero.2 h1;simp[this]
   ·have:=h2 k;simp[hk,this]
  ·intro h;refine⟨λhm=>?_,λk=>?_⟩
   ·have h1:=h a;have h2:0<l.count a:=List.count_pos_iff.2 hm;rw[List.count_cons]at h1;simp at h1;omega
   ·have:=h k;rw[List.count_cons]at this;omega
theorem oG {n:Nat}(bss:Nat->List Nat)(k:Nat):((List.range n).flatMap bss).count k=((List.range n).map λj=>(bss j).count k).sum:=by
 generalize List.range n=l;induction l with
 |nil=>rfl
 |cons a l ih=>simp[List.count_append,ih]
theorem jq {n i:Nat}(hi:i<n)(bss:Nat->List Nat)(b:List Nat)(k:Nat) :
  ((List.range n).flatMap λj=>if j=i then b else bss j).count k+(bss i).count k=((List.range n).flatMap bss).count k+b.count k:=by
 rw[oG,oG];induction n with
 |zero=>omega
 |succ n ih =>
  rw[List.range_succ];simp only[List.map_append,List.map_cons,List.map_nil,List.sum_append,List.sum_cons,List.sum_nil];by_cases hn:i=n
  ·subst hn;have:(List.range i).map (λj=>List.count k (if j=i then b else bss j))=(List.range i).map λj=>(bss j).count k:=by
    refine List.map_congr_left λj hj=>?_
    rw[if_neg (by have:=List.mem_range.1 hj;omega)]
   rw[this,if_pos rfl];omega
  ·have:=ih (by omega);rw[if_neg (λe=>hn e.symm)];omega
theorem lN {bs bs' K:List Nat}(hb:bs.Nodup)(hK:K.Nodup)(hd:∀ k∈K,k∉bs)(h:∀ k,bs'.count k<=bs.count k+K.count k):bs'.Nodup/\∀ k∈bs',k∈bs\/k∈K:=by
 rw[bz]at hb hK;refine⟨bz.2 λk=>?_,λk hk=>?_⟩
 ·have h1:=h k;have h2:=hb k;have h3:=hK k;by_cases hk:k∈K
  ·have:bs.count k=0:=List.count_eq_zero.2 (hd k hk);omega
  ·have:K.count k=0:=List.count_eq_zero.2 hk;omega
 ·have h1:=h k;have h2:0<bs'.count k:=List.count_pos_iff.2 hk;by_cases h3:k∈bs
  ·exact .inl h3
  ·have:bs.count k=0:=List.count_eq_zero.2 h3;exact .inr (List.count_pos_iff.1 (by omega))
theorem Mx.pos {w:World}{G:Nat->Prop}:∀ {a:Ty} {pos pos':Nat} {x:a.den} {cs:List Value} {bs:List Nat},Mx w G a none pos x cs bs->Mx w G a none pos' x cs bs
 |.int _,_,_,_,_,_,h=>h
 |.bool,_,_,_,_,_,h=>h
 |.str,_,_,_,_,_,h=>h
 |.unit,_,_,_,_,_,h=>h
 |.hdr,_,_,_,_,_,h=>h
 |.pair _ _,_,_,_,_,_,⟨c1,c2,b1,b2,e1,e2,h1,h2⟩=>⟨c1,c2,b1,b2,e1,e2,Mx.pos h1,Mx.pos h2⟩
 |.list m E e,_,_,_,_,_,H=>by
  cases m with
  |false=>rw[cA]at H ⊢;exact H
  |true=>rw[ch (by simp)]at H ⊢;exact H
section
variable {P:Program} {V:Env} {W:Wit} {st:St} {w w':World} {a:Act}
theorem Mx.scalar {G:Nat->Prop}{b:Ty}{hol:Option Nat}{pos:Nat}{x:b.den}{cs:List Value}{S:Nat->Prop}(hf:b.flat=true)(h:Rd w S b x cs):Mx w G b hol pos x cs []:=Mx.flat hf h
theorem kv (h:ao P V W st a w):∀ (b:Ty) (pos:Nat) (ls:List Leaf) (cs:List Value) (t:cq b.den),aC P V W st w ls cs->take st b ls=some t ->
  ∃ c1 c2 l1,cs=c1++c2/\ls=l1++t.rest/\aC P V W st w l1 c1/\aC P V W st w t.rest c2/\Mx w (bi V W t.p t.frz) b none pos t.val c1 (aU W t.kill) /\
   (∀ x∈t.frz,aB st x)/\(∀ x∈t.kill,aB st x)
 |.pair b c,pos,ls,cs,t,hl,hg=>by
  simp only[take]at hg;split at hg
  ·rename_i u hb;split at hg
   ·rename_i v hc;simp only[Option.some.injEq]at hg;subst hg;obtain⟨c1,c2,l1,e1,e2,h1,h2,h3,h4,h5⟩:=kv h b pos ls cs u hl hb;obtain⟨c3,c4,l2,e3,e4,h6,h7,h8,h9,h10⟩:=kv h c (pos+b.cells) u.rest c2 v h2 hc;refine⟨c1++c3,c4,l1++l2,by rw[e1,e3,List.append_assoc],by rw[e2,e4,List.append_assoc],h1.append h6,h7,⟨c1,c3,_,_,rfl,dm W _ _,?_,?_⟩,?_,?_⟩
    ·refine h3.mono λk hk=>?_
     rcases hk with hk|⟨y,hy,hk⟩
     ·exact .inl (bL (by intro h;simp[h]) (λ_ h=>h) k hk)
     ·exact .inr ⟨y,List.mem_append_left _ hy,hk⟩
    ·refine h8.mono λk hk=>?_
     rcases hk with hk|⟨y,hy,hk⟩
     ·exact .inl (bL (by intro h;simp[h]) (λ_ h=>h) k hk)
     ·exact .inr ⟨y,List.mem_append_right _ hy,hk⟩
    ·intro x hx;exact (List.mem_append.1 hx).elim (h4 x) (h9 x)
    ·intro x hx;exact (List.mem_append.1 hx).elim (h5 x) (h10 x)
   ·cases hg
  ·cases hg
 |.unit,pos,ls,cs,t,hl,hg=>by
  simp only[take,Option.some.injEq]at hg;subst hg;exact⟨[],cs,[],rfl,rfl,trivial,hl,⟨rfl,rfl⟩,by simp,by simp⟩
 |.list m E e,pos,ls,cs,t,hl,hg=>by
  cases ls with
  |nil=>simp[take]at hg
  |cons l ls =>
   cases cs with
   |nil=>exact hl.elim
   |cons v cs =>
    cases m with
    |false =>
     simp only[take,cond_false]at hg;split at hg
     ·rename_i p xs ha;simp only[Option.some.injEq]at hg;subst hg;refine⟨[v],cs,[l],rfl,rfl,⟨hl.1,trivial⟩,hl.2,cA.2 ⟨rfl,jN h hl.1.1 hl.1.2.1 ha⟩,λx hx=>dK (cs:=[v]) (ls:=[l]) ⟨hl.1,trivial⟩ hx,by simp⟩
     ·cases hg
    |true =>
     simp only[take,cond_true]at hg;split at hg
     ·rename_i r j n;split at hg
      ·rename_i p E' e' xs hd;simp only[Option.map_eq_some_iff]at hg;obtain⟨ys,hc,rfl⟩:=hg;obtain⟨rfl,rfl,rfl⟩:=iI hc;obtain⟨h1,h2,h3,h4⟩:=jn h hd hl.1.1;refine⟨[v],cs,[_],rfl,rfl,⟨hl.1,trivial⟩,hl.2,(ch (by simp)).2 ⟨v,rfl,?_⟩,by simp,?_⟩
       ·have:aU W [(r,j)]=W.bs r j:=by simp[aU]
        show OwB w _ none E' e' xs v (aU W [(r,j)]);rw[this];exact h2.2.carry (λk hk=>.inl hk) (λ_ _=>rfl) (λ_ _=>rfl)
       ·intro x hx;simp only[List.mem_singleton]at hx;subst hx;exact⟨_,h3,trivial⟩
      ·cases hg
     ·simp only[Option.some.injEq]at hg;subst hg;have h3:v=.slice none 0 0:=hl.1.1;refine⟨[v],cs,[_],rfl,rfl,⟨hl.1,trivial⟩,hl.2,(ch (by simp)).2 ⟨v,rfl,?_⟩,by simp,by simp⟩;rw[h3];exact (OwH.nil w _ E e).2
     ·cases hg
 |.int k,pos,ls,cs,t,hl,hg=>take_scalar h (b:=.int k) rfl hl hg
 |.bool,pos,ls,cs,t,hl,hg=>take_scalar h (b:=.bool) rfl hl hg
 |.str,pos,ls,cs,t,hl,hg=>take_scalar h (b:=.str) rfl hl hg
 |.hdr,pos,ls,cs,t,hl,hg=>take_scalar h (b:=.hdr) rfl hl hg
where
 take_scalar (h:ao P V W st a w) {b:Ty} {pos:Nat} {ls:List Leaf} {cs:List Value} {t:cq b.den} (hf:b.flat=true) (hl:aC P V W st w ls cs) (hg:(aV st b ls).map (λx=>(⟨false,x.2.1,[],[],x.2.2⟩:cq b.den))=some t) :
   ∃ c1 c2 l1,cs=c1++c2/\ls=l1++t.rest/\aC P V W st w l1 c1/\aC P V W st w t.rest c2/\Mx w (bi V W t.p t.frz) b none pos t.val c1 (aU W t.kill) /\
    (∀ x∈t.frz,aB st x)/\(∀ x∈t.kill,aB st x):=by
  simp only[Option.map_eq_some_iff]at hg;obtain⟨⟨p,x,rest⟩,h1,rfl⟩:=hg;obtain⟨c1,c2,l1,e1,e2,h2,h3,h4⟩:=jO h b ls cs p x rest hl h1;exact⟨c1,c2,l1,e1,e2,h2,h3,Mx.flat hf h4,by simp,by simp⟩
theorem dn (h:ao P V W st a w){b:Ty}{pos:Nat}{ls:List Leaf}{cs:List Value}{t:cq b.den}(hl:aC P V W st w ls cs)(hg:bZ st b ls=some t) :
  Mx w (bi V W t.p t.frz) b none pos t.val cs (aU W t.kill)/\(∀ x∈t.frz,aB st x)/\(∀ x∈t.kill,aB st x):=by
 unfold bZ at hg;split at hg
 ·rename_i p x f k hq;simp only[Option.some.injEq]at hg;subst hg;obtain⟨c1,c2,l1,e1,e2,h1,h2,h3,h4,h5⟩:=kv h b pos ls cs _ hl hq;have:c2=[]:=by
   cases c2 with
   |nil=>rfl
   |cons=>exact h2.elim
  subst this;simp only[List.append_nil]at e1;subst e1;exact⟨h3,h4,h5⟩
 ·cases hg
theorem fP (h:ao P V W st a w):∀ {ks:List (Nat×Nat)},aX ks=true->(∀ x∈ks,aB st x)->(aU W ks).Nodup
 |[],_,_=>List.nodup_nil
 |x::ks,hd,ho=>by
  simp only[aX,Bool.and_eq_true,Bool.not_eq_true',List.any_eq_false]at hd;have ih:=fP h hd.2 (λy hy=>ho y (List.mem_cons_of_mem _ hy));show (W.bs x.1 x.2++aU W ks).Nodup;rw[List.nodup_append];obtain⟨l,hl,hlo⟩:=ho x (List.mem_cons_self ..);refine⟨?_,ih,λk hk k' hk' e=>?_⟩
  ·have hj:x.2<(W.cs x.1).length:=by rw[<- h.len];exact (List.getElem?_eq_some_iff.1 hl).1
   have:=h.leaf x.1 x.2 l _ hl (List.getElem?_eq_getElem hj);cases l <;> simp only[an]at hlo;exact OwH.nodup this
  ·subst e;obtain⟨y,hy,hk'⟩:=fv.1 hk';obtain⟨l',hl',hlo'⟩:=ho y (List.mem_cons_of_mem _ hy);obtain⟨e1,e2⟩:=h.sep x.1 x.2 l y.1 y.2 l' hl hlo hl' hlo' k hk hk';have:=hd.1 y hy;rw[e1,e2]at this;simp at this
theorem iV:∀ {b:Ty} {S S':Nat->Prop} {hh:Option Nat} {pos:Nat} {y:b.den} {c:List Value} {q:List Nat},b.flat=true->Mx w S b hh pos y c q->Rd w S' b y c
 |.int _,_,_,_,_,_,_,_,_,h=>h.1
 |.bool,_,_,_,_,_,_,_,_,h=>h.1
 |.str,_,_,_,_,_,_,_,_,h=>h.1
 |.unit,_,_,_,_,_,_,_,_,h=>h.1
 |.hdr,_,_,_,_,_,_,_,_,h=>h.1
 |.pair _ _,_,_,_,_,_,_,_,hf,⟨c1,c2,b1,b2,e1,e2,h1,h2⟩=>by
  simp only[Ty.flat,Bool.and_eq_true]at hf;exact⟨c1,c2,e1,iV hf.1 h1,iV hf.2 h2⟩
 |.list _ _ _,_,_,_,_,_,_,_,hf,_=>by simp[Ty.flat]at hf
theorem k6 (h:ao P V W st a w){G:Nat->Prop}{off n:Nat}{hol hol':Option Nat}(hin:∀ k,off<=k->k<off+n->hol'≠some k)(hout:∀ k,¬ (off<=k/\k<off+n)->(hol'=some k<->hol=some k)) :
  ∀ (b:Ty) (pos:Nat) (x:b.den) (ls:List Leaf) (cs:List Value) (t:cq b.den) (c0:List Value) (bs0:List Nat),aC P V W st w ls cs->cJ st off n b pos x ls=some t->Mx w G b hol pos x c0 bs0 ->
  ∃ c1 c2 c' bs',cs=c1++c2/\aC P V W st w t.rest c2/\c1.length=min (off+n) (pos+b.cells)-max off pos /\
   Mx w (λk=>G k\/bi V W t.p t.frz k) b hol' pos t.val c' bs' /\
   (∀ i,i<b.cells->c'[i]?=if off<=pos+i/\pos+i<off+n then c1[pos+i-max off pos]? else c0[i]?) /\
   (∀ k,bs'.count k<=bs0.count k+(aU W t.kill).count k)/\(∀ x∈t.frz,aB st x)/\(∀ x∈t.kill,aB st x)
 |.pair b c,pos,x,ls,cs,t,c0,bs0,hl,hg,⟨d1,d2,b1,b2,e1,e2,hm1,hm2⟩=>by
  simp only[cJ]at hg;split at hg
  ·rename_i u hb;split at hg
   ·rename_i v hc;simp only[Option.some.injEq]at hg;subst hg;obtain⟨c1,c2,c',bs',f1,f2,f3,f4,f5,f6,f7,f8⟩:=k6 h hin hout b pos x.1 ls cs u d1 b1 hl hb hm1;obtain⟨c3,c4,c'',bs'',g1,g2,g3,g4,g5,g6,g7,g8⟩:=k6 h hin hout c (pos+b.cells) x.2 u.rest c2 v d2 b2 f2 hc hm2;have hl1:=f4.len;have hl2:=g4.len;have hd1:=hm1.len;refine⟨c1++c3,c4,c'++c'',bs'++bs'',by rw[f1,g1,List.append_assoc],g2,?_,⟨c',c'',bs',bs'',rfl,rfl,?_,?_⟩,?_,?_,?_,?_⟩
    ·rw[List.length_append,f3,g3];simp only[Ty.cells];omega
    ·refine f4.mono λk hk=>?_
     rcases hk with hk|hk|⟨y,hy,hk⟩
     ·exact .inl hk
     ·exact .inr (.inl (bL (by intro h;simp[h]) (λ_ h=>h) k hk))
     ·exact .inr (.inr ⟨y,List.mem_append_left _ hy,hk⟩)
    ·refine g4.mono λk hk=>?_
     rcases hk with hk|hk|⟨y,hy,hk⟩
     ·exact .inl hk
     ·exact .inr (.inl (bL (by intro h;simp[h]) (λ_ h=>h) k hk))
     ·exact .inr (.inr ⟨y,List.mem_append_right _ hy,hk⟩)
    ·intro i hi;simp only[Ty.cells]at hi;rw[e1];by_cases hib:i<b.cells
     ·rw[List.getElem?_append_left (by omega),f5 i hib];by_cases hr:off<=pos+i/\pos+i<off+n
      ·rw[if_pos hr,if_pos hr,List.getElem?_append_left (by omega)]
      ·rw[if_neg hr,if_neg hr,List.getElem?_append_left (by omega)]
     ·rw[List.getElem?_append_right (by omega),hl1,g5 (i-b.cells) (by omega)];have e3:pos+b.cells+(i-b.cells)=pos+i:=by omega
      rw[e3];by_cases hr:off<=pos+i/\pos+i<off+n
      ·rw[if_pos hr,if_pos hr,List.getElem?_append_right (by omega)];congr 1;omega
      ·rw[if_neg hr,if_neg hr,List.getElem?_append_right (by omega),hd1]
    ·intro k;rw[e2,List.count_append,List.count_append,dm,List.count_append];have:=f6 k;have:=g6 k;omega
    ·intro y hy;exact (List.mem_append.1 hy).elim (f7 y) (g7 y)
    ·intro y hy;exact (List.mem_append.1 hy).elim (f8 y) (g8 y)
   ·cases hg
  ·cases hg
 |.unit,pos,x,ls,cs,t,c0,bs0,hl,hg,hm=>by
  simp only[cJ,Option.some.injEq]at hg;subst hg;refine⟨[],cs,[],[],rfl,hl,by simp only[Ty.cells,List.length_nil];omega,⟨rfl,rfl⟩,λi hi=>by simp[Ty.cells]at hi,λk=>by simp,by simp,by simp⟩
 |.hdr,pos,x,ls,cs,t,c0,bs0,hl,hg,hm=>by simp[cJ]at hg
 |.int k,pos,x,ls,cs,t,c0,bs0,hl,hg,hm=>put_scalar h (b:=.int k) rfl rfl hl hg hm
 |.bool,pos,x,ls,cs,t,c0,bs0,hl,hg,hm=>put_scalar h (b:=.bool) rfl rfl hl hg hm
 |.str,pos,x,ls,cs,t,c0,bs0,hl,hg,hm=>put_scalar h (b:=.str) rfl rfl hl hg hm
 |.list m E e,pos,x,ls,cs,t,c0,bs0,hl,hg,hm=>by
  simp only[cJ]at hg;have hlen:=hm.len;have e0:(Ty.list m E e).cells=1:=rfl;cases hb:Nat.ble off pos&&Nat.blt pos (off+n) with
  |true =>
   rw[hb]at hg;simp only[cond_true]at hg;simp only[Bool.and_eq_true,Nat.blt_eq]at hb;have hb1:=Nat.le_of_ble_eq_true hb.1;obtain⟨c1,c2,l1,e1,e2,h1,h2,h3,h4,h5⟩:=kv h (.list m E e) pos ls cs t hl hg;have h3l:=h3.len;refine⟨c1,c2,c1,aU W t.kill,e1,h2,by rw[h3l];omega,?_,λi hi=>?_,λk=>by omega,h4,h5⟩
   ·have h6:=h3.mono (G':=λk=>G k\/bi V W t.p t.frz k) (λk hk=>.inr hk);cases m with
    |false=>rw[cA]at h6 ⊢;exact h6
    |true =>
     rw[ch (by simp)]at h6;rw[ch (hin pos hb1 hb.2)];exact h6
   ·rw[if_pos (by omega)];congr 1;omega
  |false =>
   rw[hb]at hg;simp only[cond_false,Option.some.injEq]at hg;subst hg;have hb2:¬ (off<=pos/\pos<off+n):=by
    rintro⟨h1,h2⟩;have:(Nat.ble off pos&&Nat.blt pos (off+n))=true:=by
     simp only[Bool.and_eq_true,Nat.blt_eq];exact⟨Nat.ble_eq_true_of_le h1,h2⟩
    rw[hb]at this;cases this
   refine⟨[],cs,c0,bs0,rfl,hl,by simp only[List.length_nil];omega,?_,λi hi=>?_,λk=>by omega,by simp,by simp⟩
   ·have h6:=hm.mono (G':=λk=>G k\/bi V W false [] k) (λk hk=>.inl hk);cases m with
    |false=>rw[cA]at h6 ⊢;exact h6
    |true =>
     by_cases hp:hol=some pos
     ·have hp':=(hout pos hb2).2 hp;subst hp;subst hp';rw[hY]at h6 ⊢;exact h6
     ·have hp':hol'≠some pos:=λe=>hp ((hout pos hb2).1 e)
      rw[ch hp]at h6;rw[ch hp'];exact h6
   ·rw[if_neg (by omega)]
where
 put_scalar (h:ao P V W st a w) {b:Ty} {pos:Nat} {x:b.den} {ls:List Leaf} {cs:List Value} {t:cq b.den} {c0:List Value} {bs0:List Nat} (hf:b.flat=true) (h1:b.cells=1) (hl:aC P V W st w ls cs)
   (hg:(bif Nat.ble off pos&&Nat.blt pos (off+n) then take st b ls else some ⟨false,x,[],[],ls⟩)=some t) (hm:Mx w G b hol pos x c0 bs0) :
   ∃ c1 c2 c' bs',cs=c1++c2/\aC P V W st w t.rest c2/\c1.length=min (off+n) (pos+b.cells)-max off pos /\
    Mx w (λk=>G k\/bi V W t.p t.frz k) b hol' pos t.val c' bs' /\
    (∀ i,i<b.cells->c'[i]?=if off<=pos+i/\pos+i<off+n then c1[pos+i-max off pos]? else c0[i]?) /\
    (∀ k,bs'.count k<=bs0.count k+(aU W t.kill).count k)/\(∀ x∈t.frz,aB st x)/\(∀ x∈t.kill,aB st x):=by
  have hflat:∀ {S S':Nat->Prop} {hh hh':Option Nat} {y:b.den} {c:List Value} {q:List Nat},Mx w S b hh pos y c q->Mx w S' b hh' pos y c []:=by
   intro S S' hh hh' y c q hq;exact Mx.flat (w:=w) (G:=λ_=>True) hf (iV hf hq)
  cases hb:Nat.ble off pos&&Nat.blt pos (off+n) with
  |true =>
   rw[hb]at hg;simp only[cond_true]at hg;simp only[Bool.and_eq_true,Nat.blt_eq]at hb;have hb1:=Nat.le_of_ble_eq_true hb.1;obtain⟨c1,c2,l1,e1,e2,h2,h3,h4,h5,h6⟩:=kv h b pos ls cs t hl hg;have h3l:=h4.len;refine⟨c1,c2,c1,[],e1,h3,by rw[h3l];omega,hflat h4,λi hi=>?_,λk=>by simp,h5,h6⟩;rw[if_pos (by omega)];congr 1;omega
  |false =>
   rw[hb]at hg;simp only[cond_false,Option.some.injEq]at hg;subst hg;have hb2:¬ (off<=pos/\pos<off+n):=by
    rintro⟨h1,h2⟩;have:(Nat.ble off pos&&Nat.blt pos (off+n))=true:=by
     simp only[Bool.and_eq_true,Nat.blt_eq];exact⟨Nat.ble_eq_true_of_le h1,h2⟩
    rw[hb]at this;cases this
   refine⟨[],cs,c0,[],rfl,hl,by simp only[List.length_nil];omega,hflat hm,λi hi=>?_,λk=>by simp,by simp,by simp⟩;rw[if_neg (by omega)]
end
end Go.Proofs.YtmcbmojdeikcdaaGreatEv
namespace Go.Proofs.YtmcbmojdeikcdaaGreatEv
open Go Go.RowKit
section
variable {P:Program} {V:Env} {Γ:List Ctr} {T:TypeId->TI} {st st2:St} {o:Oper} {R:Type} {κ:Upd->Option R} {r:R}
def tj (V:Env)(W:Wit)(st:St)(q j k:Nat):Prop :=
 ¬ W.nw k/\¬ V.prot k/\(∀ b,live st b->W.β b≠k)/\∀ (r1 i:Nat) (l:Leaf),(st r1).ls[i]?=some l->an l->(r1,i)≠(q,j)->k∉W.bs r1 i
structure vL (st st2:St) (q j:Nat) (l':Leaf):Prop where
 sh:∀ r,(st2 r).sh=(st r).sh
 ver:∀ r,(st r).ver<=(st2 r).ver
 epo:(st EPO).ver<(st2 EPO).ver
 len:∀ r,(st2 r).ls.length=(st r).ls.length
 at_:∀ l,(st2 q).ls[j]?=some l->l=l'
 old:∀ r i l,(r,i)≠(q,j)->(st2 r).ls[i]?=some l->(st r).ls[i]?=some l
def Wit.tell (W:Wit)(q j:Nat)(bs:List Nat):Wit:={ W with bs:=λr i=>if (r,i)=(q,j) then bs else W.bs r i }
theorem ao.retell (hV:ax V){W:Wit}{a:Act}{w w':World}(h:ao P V W st a w){q j:Nat}{l l':Leaf}(hR:vL st st2 q j l'){v:Value}{bs':List Nat}
  (hl:(st q).ls[j]?=some l) (hlo:an l) (hv:(W.cs q)[j]?=some v) (hlo':an l') (hnew:aJ P V W st w' bs' l' v)
  (hbs:∀ k∈bs',tj V W st q j k)
  (hsame:∀ k,bW V W st k->k∉W.bs q j->w'.heap[k]?=w.heap[k]?) (hsz:w.heap.size<=w'.heap.size) (hos:w'.os=w.os) (ht:w'.tape=w.tape) (ho:w'.output=w.output) :
  ao P V (W.tell q j bs') st2 a w':=by
 have hown:=h.ownb q j _ hl hlo;have hlv:∀ b,live st2 b<->live st b:=gC hR.sh;have hne:∀ {r1 i:Nat},(r1,i)≠(q,j)->(W.tell q j bs').bs r1 i=W.bs r1 i:=λh=>if_neg h
 have heq:(W.tell q j bs').bs q j=bs':=if_pos rfl;have hback:∀ (r1 i:Nat) (l:Leaf),(st2 r1).ls[i]?=some l->an l->(r1,i)≠(q,j)->(st r1).ls[i]?=some l:=λr1 i l h1 _ h2=>hR.old r1 i l h2 h1
 have hstep:cm V W (W.tell q j bs') st st2 w w':=by
  refine⟨λr1=>⟨hR.ver r1,λ_=>rfl⟩,λb hb=>⟨(hlv b).2 hb,rfl⟩,λ_ h=>h,λk hk=>hsame k (hk.elim .inl (λh=>.inr (.inl h))) (λhm=>?_),λhe=>?_⟩
  ·rcases hk with hk|hk
   ·exact (hown k hm).1 hk
   ·exact (hown k hm).2.1 hk
  ·have:=hR.epo;omega
 exact {
  nt:=h.nt,df:=h.df
  slots:=λt ht'=>by rw[hR.sh];exact h.slots t ht'
  boxes:=λb hb=>by
   rw[hR.sh];rcases h.boxes b hb with ⟨h1,h2⟩|⟨h1,E0,h2⟩
   ·refine .inl ⟨h1,List.eq_nil_of_length_eq_zero ?_⟩;rw[hR.len,h2];rfl
   ·refine .inr ⟨h1,E0,?_⟩;show w'.heap[W.β b]?=_;rw[hsame _ (.inr (.inr (.inl ⟨b,⟨hb,h1⟩,rfl⟩))) (λhm=>(hown _ hm).2.2 b ⟨hb,h1⟩ rfl)];exact h2
  len:=λr1=>by rw[hR.len];exact h.len r1
  one:=h.one
  leaf:=λr1 i l1 u h1 h2=>by
   by_cases hq:(r1,i)=(q,j)
   ·cases hq;obtain rfl:=hR.at_ l1 h1;have h2:(W.cs q)[j]?=some u:=h2;rw[hv]at h2;simp only[Option.some.injEq]at h2;subst h2;rw[heq];have hst2:cm V W (W.tell q j bs') st st2 w' w':=⟨hstep.ver,hstep.box,hstep.nw,λ_ _=>rfl,λhe=>by have:=hR.epo;omega⟩;exact hnew.carry hV.ro hst2 (λ_=>⟨rfl,λ_ _=>rfl⟩)
   ·have h3:=hR.old r1 i l1 hq h1;rw[hne hq];refine (h.leaf r1 i l1 u h3 h2).carry hV.ro hstep (λho=>⟨rfl,λk hk=>hsame k (.inr (.inr (.inr ⟨r1,i,l1,h3,ho,hk⟩))) (λhm=>hq ?_)⟩);obtain⟨rfl,rfl⟩:=h.sep r1 i l1 q j _ h3 ho hl hlo k hk hm;rfl
  ownb:=λr1 i l1 h1 h2 k hk=>by
   by_cases hq:(r1,i)=(q,j)
   ·cases hq;rw[heq]at hk;obtain⟨q1,q2,q3,_⟩:=hbs k hk;exact⟨q1,q2,λb hb=>q3 b ((hlv b).1 hb)⟩
   ·rw[hne hq]at hk;obtain⟨q1,q2,q3⟩:=h.ownb r1 i l1 (hR.old r1 i l1 hq h1) h2 k hk;exact⟨q1,q2,λb hb=>q3 b ((hlv b).1 hb)⟩
  sep:=λr1 i l1 r2 i2 l2 h1 h2 h3 h4 k hk hk'=>by
   by_cases hq:(r1,i)=(q,j) <;> by_cases hq':(r2,i2)=(q,j)
   ·rw[<- hq']at hq;cases hq;exact⟨rfl,rfl⟩
   ·cases hq;rw[heq]at hk;rw[hne hq']at hk';exact absurd hk' ((hbs k hk).2.2.2 r2 i2 l2 (hR.old r2 i2 l2 hq' h3) h4 hq')
   ·cases hq';rw[heq]at hk';rw[hne hq]at hk;exact absurd hk ((hbs k hk').2.2.2 r1 i l1 (hR.old r1 i l1 hq h1) h2 hq)
   ·rw[hne hq]at hk;rw[hne hq']at hk';exact h.sep r1 i l1 r2 i2 l2 (hR.old r1 i l1 hq h1) h2 (hR.old r2 i2 l2 hq' h3) h4 k hk hk'
  box:=λb hb=>h.box b ((hlv b).1 hb)
  inj:=λb b' hb hb'=>h.inj b b' ((hlv b).1 hb) ((hlv b').1 hb')
  nwlt:=λk hk=>⟨Nat.lt_of_lt_of_le (h.nwlt k hk).1 hsz,(h.nwlt k hk).2⟩
  os:=hos.trans h.os,tape:=ht.trans h.tape,output:=ho.trans h.output,size:=Nat.le_trans h.size hsz
  keep:=λk hp=>by
   rw[hsame k (.inr (.inl hp)) (λhm=>(hown k hm).2.1 hp)];exact h.keep k hp
  fixb:=λx hx=>⟨(hlv _).2 (h.fixb x hx).1,(h.fixb x hx).2⟩
  fixt:=h.fixt }
theorem jP {q:Nat}(st:St):∀ (ks:List (Nat×Nat)),(∀ x∈ks,x.1≠q)->ac (aE st ks) st q=st q
 |[],_=>rfl
 |(r,j)::ks,h=>by
  have e:ac (aE st ((r,j)::ks)) st=ac [(r,fb (ac (aE st ks) st r) j)] (ac (aE st ks) st):=aN _ _ _ _;rw[e,aI (Ne.symm (h (r,j) (List.mem_cons_self ..))),jP st ks (λx hx=>h x (List.mem_cons_of_mem _ hx))]
theorem jr {q:Nat}(st:St):∀ (ks:List (Nat×Nat)),(∀ x∈ks,x.1≠q)->ac (aM st ks) st q=st q
 |[],_=>rfl
 |(r,j)::ks,h=>by
  have e:ac (aM st ((r,j)::ks)) st=ac [(r,fg (ac (aM st ks) st r) j)] (ac (aM st ks) st):=aN _ _ _ _;rw[e,aI (Ne.symm (h (r,j) (List.mem_cons_self ..))),jr st ks (λx hx=>h x (List.mem_cons_of_mem _ hx))]
theorem OwH.store {w:World}{G G':Nat->Prop}{h h':Option (Nat×Nat)}{E:TypeId}{e:Ty}{xs:List e.den}{g len cap:Nat}{bs K:List Nat}(H:OwH w G h E e xs (.slice (some ⟨g,0,none⟩) len cap) bs)
  (hG:∀ k,G k->G' k) (hgG:¬ G' g) (hK:K.Nodup) (hKb:∀ k∈K,k∉bs) {i:Nat} {old z:e.den} (hi:xs[i]?=some old) (hh:∀ j,j≠i->cu h' j=cu h j) {off:Nat} {cs:List Value} (hin:off+cs.length<=e.cells)
  (hnew:∀ c0 bs0,Mx w G e (cu h i) 0 old c0 bs0->∃ c bs1,Mx w G' e (cu h' i) 0 z c bs1/\(∀ k,k<e.cells->c[k]?=if off<=k/\k<off+cs.length then cs[k-off]? else c0[k]?)/\∀ k,bs1.count k<=bs0.count k+K.count k) :
  ∃ bs',OwH (w.setCells g (i*e.cells+off) cs) G' h' E e (xs.set i z) (.slice (some ⟨g,0,none⟩) len cap) bs'/\∀ k∈bs',k∈bs\/k∈K:=by
 obtain⟨hnd,flat,bss,h1,h2,h3⟩:=H;have hil:i<xs.length:=(List.getElem?_eq_some_iff.1 hi).1;obtain⟨c0,hm0,hc0⟩:=h3 i old hi;obtain⟨c,bs1,hm,hcc,hcnt⟩:=hnew c0 (bss i) hm0;have hflat:=h1.1;rcases h1.2 with ⟨h4,_⟩|⟨g',cap',cur,h4,hg,hnc,hcm,hcs,htake⟩
 ·simp at h4
 ·simp only[Value.slice.injEq,Option.some.injEq,Addr.mk.injEq,and_true,true_and]at h4;obtain⟨rfl,rfl,rfl⟩:=h4;have hgbs:g∈bs:=by rw[h2];simp[Value.ownBlock]
  have hc0l:=hm0.len;have hcl:=hm.len;have hrow:(i+1)*e.cells<=xs.length*e.cells:=Nat.mul_le_mul_right _ hil;rw[Nat.succ_mul]at hrow;have hcap:xs.length*e.cells<=cap*e.cells:=Nat.mul_le_mul_right _ hnc;have hcurl:cur.toList.length=cur.size:=by rw[Array.length_toList]
  have hcur:flat=cur.toList.take (xs.length*e.cells):=htake.symm;have hnew:=iJ g E cs 0 (i*e.cells+off) w cur hg;have hsp:=j0 cur.toList cs (i*e.cells+off) (by omega);rw[Array.toArray_toList]at hsp;rw[hsp]at hnew;simp only[Nat.add_zero]at hnew;have hcell:∀ k,k<xs.length*e.cells->(cur.toList.take (i*e.cells+off)++cs++cur.toList.drop (i*e.cells+off+cs.length))[k]? =
    if i*e.cells+off<=k/\k<i*e.cells+off+cs.length then cs[k-(i*e.cells+off)]? else flat[k]?:=by
   intro k hk;have hk2:flat[k]?=cur.toList[k]?:=by rw[hcur,List.getElem?_take,if_pos hk]
   by_cases h9:k<i*e.cells+off
   ·rw[List.append_assoc,List.getElem?_append_left (by simp only[List.length_take];omega),List.getElem?_take,if_pos h9,if_neg (by omega),hk2]
   ·by_cases h10:k<i*e.cells+off+cs.length
    ·rw[List.append_assoc,List.getElem?_append_right (by simp only[List.length_take];omega),List.getElem?_append_left (by simp only[List.length_take];omega),if_pos ⟨by omega,h10⟩];congr 1;simp only[List.length_take];omega
    ·rw[List.getElem?_append_right (by simp only[List.length_take,List.length_append];omega),List.getElem?_drop,if_neg (by omega),hk2];congr 1;simp only[List.length_take,List.length_append];omega
  have hlen':(cur.toList.take (i*e.cells+off)++cs++cur.toList.drop (i*e.cells+off+cs.length)).length=cur.size:=by
   simp only[List.length_append,List.length_take,List.length_drop];omega
  have hcount:∀ k,([g]++(List.range xs.length).flatMap λj=>if j=i then bs1 else bss j).count k<=bs.count k+K.count k:=by
   intro k;have h5:=jq hil bss bs1 k;have h6:=hcnt k;rw[h2];simp only[Value.ownBlock,Option.toList_some,List.count_append];omega
  have hsub:=lN hnd hK hKb hcount;have hgn:∀ j,j<xs.length->∀ k∈(if j=i then bs1 else bss j),k≠g:=by
   intro j hj k hk e0;subst e0;have h7:=hsub.1;rw[List.singleton_append,List.nodup_cons]at h7;exact h7.1 (dT.2 ⟨j,hj,hk⟩)
  have hheap:∀ k,k≠g->(w.setCells g (i*e.cells+off) cs).heap[k]?=w.heap[k]?:=λk hk=>d4 g cs _ w k hk
  refine⟨[g]++(List.range xs.length).flatMap λj=>if j=i then bs1 else bss j,⟨hsub.1,(cur.toList.take (i*e.cells+off)++cs++cur.toList.drop (i*e.cells+off+cs.length)).take (xs.length*e.cells),
   λj=>if j=i then bs1 else bss j,⟨?_,.inr ⟨g,cap,_,?_,hnew,?_,hcm,?_,?_⟩⟩,?_,?_⟩,hsub.2⟩
  ·rw[List.length_take,hlen',List.length_set];omega
  ·rw[List.length_set]
  ·rw[List.length_set];exact hnc
  ·rw[List.size_toArray,hlen'];exact hcs
  ·rw[List.length_set]
  ·simp[Value.ownBlock]
  ·intro j x hj;rcases aP _ _ _ _ _ hj with ⟨rfl,rfl,_⟩|⟨hij,hj⟩
   ·refine⟨c,?_,λk u hu=>?_⟩
    ·simp only[if_true];exact hm.carry (λ_ h=>h) (λk hk=>hheap k (λe0=>hgG (e0 ▸ hk))) (λk hk=>hheap k (hgn j hil k (by simpa using hk)))
    ·have hkl:k<e.cells:=by rw[<- hcl];exact (List.getElem?_eq_some_iff.1 hu).1
     rw[List.getElem?_take,if_pos (by omega),hcell _ (by omega)];rw[hcc k hkl]at hu;by_cases h11:off<=k/\k<off+cs.length
     ·rw[if_pos h11]at hu;rw[if_pos (by omega),<- hu];congr 1;omega
     ·rw[if_neg h11]at hu;rw[if_neg (by omega)];exact hc0 k u hu
   ·obtain⟨c',hr',hc'⟩:=h3 j x hj;have hjl:j<xs.length:=(List.getElem?_eq_some_iff.1 hj).1;refine⟨c',?_,λk u hu=>?_⟩
    ·rw[hh j hij];simp only[if_neg hij];exact hr'.carry hG (λk hk=>hheap k (λe0=>hgG (e0 ▸ hG k hk))) (λk hk=>hheap k (hgn j hjl k (by rw[if_neg hij];exact hk)))
    ·have hkl:k<e.cells:=by rw[<- hr'.len];exact (List.getElem?_eq_some_iff.1 hu).1
     have hjr:(j+1)*e.cells<=xs.length*e.cells:=Nat.mul_le_mul_right _ hjl;rw[Nat.succ_mul]at hjr;rw[List.getElem?_take,if_pos (by omega),hcell _ (by omega),if_neg ?_]
     ·exact hc' k u hu
     ·rintro⟨h14,h15⟩;rcases Nat.lt_or_gt_of_ne (λe=>hij e.symm:i≠j) with h16|h16
      ·have:(i+1)*e.cells<=j*e.cells:=Nat.mul_le_mul_right _ h16;rw[Nat.succ_mul]at this;omega
      ·have:(j+1)*e.cells<=i*e.cells:=Nat.mul_le_mul_right _ h16;rw[Nat.succ_mul]at this;omega
theorem vM (hV:ax V)(hT:TOk P T){t:TypeId}{x y:Operand}(hop:o.op=.store t x y)(h:act Γ T o st κ=some r):bP P V o st κ r:=by
  simp only[act,wrU,hop]at h;split at h
  · cases h
  · rename_i hd
    cases hb:Nat.beq (ar st y).2.length (T t).cells&&decide ((ar st y).1=be (T t).agg)&&!decide ((T t).cells=0) with
    |false=>simp[hb]at h
    |true =>
      simp only[hb,cond_true]at h;simp only[Bool.and_eq_true,decide_eq_true_eq,Bool.not_eq_true',decide_eq_false_iff_not]at hb;obtain⟨⟨hb1,hb2⟩,hb3⟩:=hb;have hb1:=Nat.eq_of_beq_eq_true hb1;split at h
      · rename_i b off hx
        cases hc:decide ((st b).sh=.agg)&&decide (off+(ar st y).2.length<=(st b).ls.length)&&gi st (ar st y).2 with
        |false=>simp[hc]at h
        |true =>
          simp only[hc,cond_true]at h;simp only[Bool.and_eq_true,decide_eq_true_eq]at hc;exact⟨_,h,λW a w hr=>rJ hV hT hop hd hx hb1 hb2 hb3 hc.1.1 hc.1.2 hc.2 hr⟩
      · rename_i r' j ver i sz off hx
        split at h
        · rename_i p hh E e xs hd'
          cases hc:Nat.beq sz e.cells&&decide (off+(ar st y).2.length<=e.cells)&&qu r' with
          |false=>simp[hc]at h
          |true =>
            simp only[hc,cond_true]at h;simp only[Bool.and_eq_true,decide_eq_true_eq,qu,Bool.not_eq_true']at hc;obtain⟨⟨hc1,hc2⟩,hc3,hc4⟩:=hc;have hc1:=Nat.eq_of_beq_eq_true hc1;subst hc1;have hrE:r'≠EPO:=λe0=>by subst e0;simp at hc4
            unfold fH at h;obtain⟨old,hold,h⟩:=Option.bind_eq_some_iff.1 h;obtain⟨_,_,h4⟩:=fw hold;simp only[Int.toNat_natCast]at h4;split at h
            · rename_i u hu
              cases hq:u.rest.isEmpty&&aX u.kill&&db u.frz u.kill&&!((u.kill++u.frz).any λk=>Nat.beq k.1 r') with
              |false=>rw[hq]at h;cases h
              |true =>
                simp only[hq,cond_true]at h;simp only[Bool.and_eq_true,Bool.not_eq_true',List.any_eq_false]at hq;obtain⟨⟨⟨hq1,hq2⟩,hq3⟩,hq4⟩:=hq;have hq4:∀ k∈u.kill++u.frz,k.1≠r':=λk hk e0=>hq4 k hk (by simp[e0])
                obtain ⟨hh', hκ, hin, hout, hoth⟩ : ∃ hh' : Option (Nat × Nat), κ ((r', ⟨(st r').ver, (st r').sh, aQ (st r').ls j (.own (p || u.p) hh' E e (xs.set i u.val))⟩) :: (EPO, bN (ac (aM (ac (aE st u.frz) st) u.kill ++ aE st u.frz) st EPO)) ::
                      (aM (ac (aE st u.frz) st) u.kill++aE st u.frz))=some r /\
                    (∀ k,off<=k->k<off+(ar st y).2.length->cu hh' i≠some k)/\(∀ k,¬ (off<=k/\k<off+(ar st y).2.length)->(cu hh' i=some k<->cu hh i=some k))/\(∀ j',j'≠i->cu hh' j'=cu hh j'):=by
                  cases hh with
                  |none=>exact⟨none,h,λ_ _ _=>by simp[cu],λ_ _=>Iff.rfl,λ_ _=>rfl⟩
                  |some hp =>
                    obtain⟨hi,ho⟩:=hp;simp only at h;cases hr1:Nat.ble off ho&&Nat.blt ho (off+(ar st y).2.length) with
                    |true =>
                      rw[hr1]at h;simp only[cond_true]at h;simp only[Bool.and_eq_true,Nat.blt_eq]at hr1;have hr2:=Nat.le_of_ble_eq_true hr1.1;cases hr3:Nat.beq i hi with
                      |true =>
                        rw[hr3]at h;have:=Nat.eq_of_beq_eq_true hr3;subst this;refine⟨none,h,λ_ _ _=>by simp[cu],λk hk=>?_,λj' hj'=>?_⟩
                        · simp only[cu,Nat.beq_refl,cond_true,reduceCtorEq,Option.some.injEq,false_iff]
                          rintro rfl;exact hk ⟨hr2,hr1.2⟩
                        · have:Nat.beq i j'=false:=by
                            cases hbb:Nat.beq i j' with
                            |false=>rfl
                            |true=>exact absurd (Nat.eq_of_beq_eq_true hbb).symm hj'
                          simp[cu,this]
                      |false =>
                        rw[hr3]at h;have hr4:Nat.beq hi i=false:=by
                          cases hbb:Nat.beq hi i with
                          |false=>rfl
                          |true =>
                            have:=Nat.eq_of_beq_eq_true hbb;subst this;simp at hr3
                        exact⟨some (hi,ho),h,λ_ _ _=>by simp[cu,hr4],λ_ _=>Iff.rfl,λ_ _=>rfl⟩
                    |false =>
                      rw[hr1]at h;refine⟨some (hi,ho),h,λk hk1 hk2=>?_,λ_ _=>Iff.rfl,λ_ _=>rfl⟩;simp only[cu];cases Nat.beq hi i with
                      |false=>simp
                      |true =>
                        simp only[cond_true,ne_eq,Option.some.injEq];rintro rfl;have:(Nat.ble off ho&&Nat.blt ho (off+(ar st y).2.length))=true:=by
                          simp only[Bool.and_eq_true,Nat.blt_eq];exact⟨Nat.ble_eq_true_of_le hk1,hk2⟩
                        rw[hr1]at this;cases this
                refine⟨_,hκ,λW a w hr next Q hn=>?_⟩;obtain⟨cs,hs,hl⟩:=cB hr y;rw[hb2]at hs;have hcc:=f9 hs hl.one';have hlen:=hl.length;obtain⟨h5,h6⟩:=ey hd' (by simp);obtain⟨hp,_,_,_⟩:=bk hr x (by rw[hx];simp);rw[hx]at hp;obtain⟨g,len,cap,hcsg,hil,hv⟩:=hp.2 h5;have hnn:T t≠.none:=by intro e;rw[e]at hb3;exact hb3 rfl
                have how:=hr.leaf r' j _ _ h6 hcsg;have hel:∀ c0 bs0,Mx w (gd V W p) e (cu hh i) 0 old c0 bs0->∃ c bs1,Mx w (λk=>gd V W p k\/bi V W u.p u.frz k) e (cu hh' i) 0 u.val c bs1 /\
                    (∀ k,k<e.cells->c[k]?=if off<=k/\k<off+cs.length then cs[k-off]? else c0[k]?)/\∀ k,bs1.count k<=bs0.count k+(aU W u.kill).count k:=by
                  intro c0 bs0 hm;obtain⟨c1,c2,c',bs',f1,f2,f3,f4,f5,f6,f7,f8⟩:=k6 hr hin hout e 0 old (ar st y).2 cs u c0 bs0 hl hu hm;have hc2n:c2=[]:=by
                    have:=f2.length;rw[List.isEmpty_iff.1 hq1]at this;exact List.eq_nil_of_length_eq_zero this.symm
                  subst hc2n;rw[List.append_nil]at f1;subst f1;refine⟨c',bs',f4,λk hk=>?_,f6⟩;rw[f5 k hk,hlen];simp only[Nat.zero_add];by_cases hr1:off<=k/\k<off+cs.length
                  · rw[if_pos hr1,if_pos hr1]
                    congr 1;omega
                  · rw[if_neg hr1,if_neg hr1]
                have hpl:(∀ x∈u.frz,aB st x)/\(∀ x∈u.kill,aB st x):=by
                  obtain⟨_,flat,bss,_,_,hel2⟩:=how;obtain⟨c0,hm0,_⟩:=hel2 i old h4;obtain⟨_,_,_,_,_,_,_,_,_,_,f7,f8⟩:=k6 hr hin hout e 0 old (ar st y).2 cs u c0 _ hl hu hm0;exact⟨f7,f8⟩
                obtain⟨k1,k2,k3,k4⟩:=eX hV hr hq3 hpl.2;have hst:ac (aM (ac (aE st u.frz) st) u.kill++aE st u.frz) st r'=st r':=by
                  rw[bm,jr _ _ (λx hx=>hq4 x (List.mem_append_left _ hx)),jP _ _ (λx hx=>hq4 x (List.mem_append_right _ hx))]
                have h7:(ac (aM (ac (aE st u.frz) st) u.kill++aE st u.frz) st r').ls[j]?=some (.own p hh E e xs):=by rw[hst];exact h6
                have hown:=k1.ownb r' j _ h7 trivial;have hGG:∀ k,gd V W p k\/bi V W u.p u.frz k->gd V (W.frz st u.frz) (p||u.p) k:=by
                  rintro k (hk|hk)
                  · exact bL (W':=W.frz st u.frz) (by intro h;simp[h]) (λ_ h=>Or.inl h) k hk
                  · exact bL (W':=W.frz st u.frz) (by intro h;simp[h]) (λ_ h=>h) k (jp hpl.1 k hk)
                have hgb:g∈W.bs r' j:=by obtain⟨_,flat,bss,_,hbs,_⟩:=how;rw[hbs];simp[Value.ownBlock]
                have hgG:¬ gd V (W.frz st u.frz) (p||u.p) g:=by
                  rintro (hk|⟨_,hk⟩)
                  · exact (hown g hgb).1 hk
                  · exact (hown g hgb).2.1 (hV.ro g hk)
                have hKb:∀ k∈aU W u.kill,k∉W.bs r' j:=λk hk hk'=>(k4 k hk).2.2.2.2 r' j _ h7 trivial hk'
                obtain⟨bs',how2,hbs2⟩:=OwH.store (G':=gd V (W.frz st u.frz) (p||u.p)) (h':=hh') how (λk hk=>hGG k (.inl hk)) hgG (fP hr hq2 hpl.2) hKb h4 hoth (off:=off) (cs:=cs) (by omega)
                  (λc0 bs0 hm=>by
                    obtain⟨c,bs1,q1,q2,q3⟩:=hel c0 bs0 hm;exact⟨c,bs1,q1.mono hGG,q2,q3⟩)
                obtain⟨_,flat,bss,ho,hbs,_⟩:=how;have hxl:len=xs.length:=by
                  obtain⟨A,cap',e0,_⟩:=ho.slice;simp only[Value.slice.injEq]at e0;exact e0.2.1
                subst hxl;rcases ho.2 with ⟨h8,_⟩|⟨g',cap',cur,h8,hg,hnc,_,hcs,_⟩
                · simp at h8
                · simp only[Value.slice.injEq,Option.some.injEq,Addr.mk.injEq,and_true,true_and]at h8
                  obtain⟨rfl,rfl⟩:=h8;have hrow:(i+1)*e.cells<=xs.length*e.cells:=Nat.mul_le_mul_right _ (List.getElem?_eq_some_iff.1 h4).1;rw[Nat.succ_mul]at hrow;have hcap:xs.length*e.cells<=cap*e.cells:=Nat.mul_le_mul_right _ hnc;have hcurl:cur.toList.length=cur.size:=by rw[Array.length_toList]
                  have hrun:=lM (P:=P) (nz (hT t) hnn) (w:=w) (b:=g) (off:=i*e.cells+off) (cur:=cur.toList) (E:=E) (by rw[Array.toArray_toList];exact hg) hcc (by omega) hl.one' (by omega);refine oF (w':=w.setCells g (i*e.cells+off) cs) (by simp[execOp,hop,hv,hrun]) ?_;rw[hd];refine hn _ _ ?_;obtain⟨e1,e2,e3,e4⟩:=iK g cs (i*e.cells+off) w;refine⟨_,k1.retell hV (l':=.own (p||u.p) hh' E e (xs.set i u.val)) (w':=w.setCells g (i*e.cells+off) cs) (bs':=bs') ?_ h7 trivial hcsg trivial how2 (λk hk=>?_) (λk _ hk=>d4 g cs _ w k (λe=>hk (e ▸ hgb))) (Nat.le_of_eq e4.symm) e1 e2 e3⟩
                  · rw[aN r',aN EPO]
                    have hne:EPO≠r':=Ne.symm hrE;generalize aM (ac (aE st u.frz) st) u.kill++aE st u.frz=U at hst ⊢;refine⟨λq=>?_,λq=>?_,?_,λq=>?_,λl hl=>?_,λq i' l hq hl=>?_⟩
                    · rcases am r' q ⟨(st r').ver,(st r').sh,aQ (st r').ls j (.own (p||u.p) hh' E e (xs.set i u.val))⟩ (ac [(EPO,bN (ac U st EPO))] (ac U st)) with ⟨rfl,e⟩ | ⟨_,e⟩
                      · rw[e,hst]
                      · rw[e]
                        rcases am EPO q (bN (ac U st EPO)) (ac U st) with ⟨rfl,e⟩|⟨_,e⟩ <;> rw[e];rfl
                    · rcases am r' q ⟨(st r').ver,(st r').sh,aQ (st r').ls j (.own (p||u.p) hh' E e (xs.set i u.val))⟩ (ac [(EPO,bN (ac U st EPO))] (ac U st)) with ⟨rfl,e⟩ | ⟨_,e⟩
                      · rw[e,hst];exact Nat.le_refl _
                      · rw[e]
                        rcases am EPO q (bN (ac U st EPO)) (ac U st) with ⟨rfl,e⟩|⟨_,e⟩ <;> rw[e]
                        · exact Nat.le_succ _
                        · exact Nat.le_refl _
                    · rw[aI hne,bg];exact Nat.lt_succ_self _
                    · rcases am r' q ⟨(st r').ver,(st r').sh,aQ (st r').ls j (.own (p||u.p) hh' E e (xs.set i u.val))⟩ (ac [(EPO,bN (ac U st EPO))] (ac U st)) with ⟨rfl,e⟩ | ⟨_,e⟩
                      · rw[e,hst];simp[aQ]
                      · rw[e]
                        rcases am EPO q (bN (ac U st EPO)) (ac U st) with ⟨rfl,e⟩|⟨_,e⟩ <;> rw[e];rfl
                    · rw[bg]at hl
                      rcases aP _ _ _ _ _ hl with ⟨_,rfl,_⟩|⟨hne,_⟩
                      · rfl
                      · exact absurd rfl hne
                    · rcases am r' q ⟨(st r').ver,(st r').sh,aQ (st r').ls j (.own (p||u.p) hh' E e (xs.set i u.val))⟩ (ac [(EPO,bN (ac U st EPO))] (ac U st)) with ⟨rfl,e⟩ | ⟨_,e⟩
                      · rw[e]at hl
                        rw[hst];rcases aP _ _ _ _ _ hl with ⟨rfl,_,_⟩|⟨_,hl⟩
                        · exact absurd rfl hq
                        · exact hl
                      · rw[e]at hl
                        rcases am EPO q (bN (ac U st EPO)) (ac U st) with ⟨rfl,e⟩|⟨_,e⟩ <;> rw[e]at hl <;> exact hl
                  · rcases hbs2 k hk with hk|hk
                    · have h9:=k1.ownb r' j _ h7 trivial k hk
                      exact⟨h9.1,h9.2.1,h9.2.2,λr1 i1 l1 hl1 ho1 hne hk1=>hne (by obtain⟨e1,e2⟩:=k1.sep r1 i1 l1 r' j _ hl1 ho1 h7 trivial k hk1 hk;rw[e1,e2])⟩
                    · have h9:=k4 k hk
                      exact⟨h9.1,h9.2.1,h9.2.2.2.1,λr1 i1 l1 hl1 ho1 _=>h9.2.2.2.2 r1 i1 l1 hl1 ho1⟩
            · cases h
        · cases h
      · cases h
end
end Go.Proofs.YtmcbmojdeikcdaaGreatEv
namespace Go.Proofs.YtmcbmojdeikcdaaGreatEv
open Go Go.RowKit
section
variable {P:Program} {V:Env} {Γ:List Ctr} {T:TypeId->TI} {st:St} {o:Oper} {R:Type} {κ:Upd->Option R} {r:R}
theorem ao.putOwn (hV:ax V){W:Wit}{a:Act}{w w':World}(h:ao P V W st a w)(hsz:w.heap.size<=w'.heap.size)(hos:w'.os=w.os)(ht:w'.tape=w.tape)(ho:w'.output=w.output)
  (hk:∀ k,bW V W st k->w'.heap[k]?=w.heap[k]?) (d:Nat) (hd:d<V.nt) (hfix:∀ x∈V.fixt,x.1≠d) (n:Nat) (hn:(st d).ver<n) {p:Bool} {E:TypeId} {e:Ty} {xs:List e.den} {v:Value} {bs:List Nat}
  (ow:Ow w' (gd V W p) E e xs v bs) (hb:∀ k∈bs,¬ bW V W st k):Rel P V (ac [(d,⟨n,.one,[.own p none E e xs]⟩)] st) (a.put (some d) v) w':=by
 refine⟨_,(h.world hV hsz hos ht ho hk).put hV d hd hfix n .one [.own p none E e xs] v [v] (λ_=>bs) hn rfl rfl (λu hu=>by simp at hu;subst hu;exact ow.one) ?_ ?_ ?_⟩
 ·intro j l u h1 h2;cases j with
  |zero=>simp at h1 h2;subst h1;subst h2;exact ow
  |succ j=>simp at h1
 ·intro j l h1 h2 k hk';have:=hb k hk';simp only[bW,not_or,not_exists,not_and]at this;exact⟨this.1,this.2.1,this.2.2.1,λr1 j1 l1 _ h3 h4=>this.2.2.2 r1 j1 l1 h3 h4⟩
 ·intro j j' l l' h1 h2 h3 h4 k h5 h6;have h7:j<1:=(List.getElem?_eq_some_iff.1 h1).1;have h8:j'<1:=(List.getElem?_eq_some_iff.1 h3).1;omega
theorem dr {W:Wit}{p q:Bool}{k1 k2:List (Nat×Nat)}:(∀ k,bi V W p k1 k->bi V W (p||q) (k1++k2) k)/\(∀ k,bi V W q k2 k->bi V W (p||q) (k1++k2) k):=by
 constructor
 ·rintro k (hk|⟨x,hx,hk⟩)
  ·exact .inl (bL (W':=W) (by intro h;simp[h]) (λ_ h=>h) k hk)
  ·exact .inr ⟨x,List.mem_append_left _ hx,hk⟩
 ·rintro k (hk|⟨x,hx,hk⟩)
  ·exact .inl (bL (W':=W) (by intro h;simp[h]) (λ_ h=>h) k hk)
  ·exact .inr ⟨x,List.mem_append_right _ hx,hk⟩
theorem vN (n:Nat)(bss:Nat->List Nat):(List.range (n+1)).flatMap bss=bss 0++(List.range n).flatMap λj=>bss (j+1):=by
 rw[List.range_succ_eq_map,List.flatMap_cons,List.flatMap_map]
theorem mR {W:Wit}{a:Act}{w:World}(hr:ao P V W st a w){e:Ty}:∀ (ps:List (Nat×Operand)) (k:Nat) (u:cq (List e.den)),dQ st e k ps=some u ->
  ps.map (λx=>(x.1,a.eval x.2))=((ps.map λx=>a.eval x.2).zipIdx k).map (λx=>(x.2,x.1))/\u.val.length=ps.length/\(∀ x∈u.frz,aB st x)/\(∀ x∈u.kill,aB st x) /\
  ∃ bss:Nat->List Nat,aU W u.kill=(List.range u.val.length).flatMap bss /\
   ∀ (j:Nat) (x:e.den),u.val[j]?=some x->∃ v c,(ps.map λx=>a.eval x.2)[j]?=some v/\v.cells=c.toArray/\Mx w (bi V W u.p u.frz) e none 0 x c (bss j)
 |[],k,u,h=>by
  simp only[dQ,Option.some.injEq]at h;subst h;exact⟨rfl,rfl,by simp,by simp,λ_=>[],rfl,λj x hj=>by simp at hj⟩
 |(i,y)::ps,k,u,h=>by
  simp only[dQ]at h;cases hb:Nat.beq i k&&decide ((ar st y).1=be e.isAgg) with
  |false=>simp[hb]at h
  |true =>
   simp only[hb,cond_true]at h;simp only[Bool.and_eq_true,decide_eq_true_eq]at hb;have hik:=Nat.eq_of_beq_eq_true hb.1;subst hik;split at h
   ·rename_i t1 u1 hg hbe;simp only[Option.some.injEq]at h;subst h;obtain⟨h1,h2,h3,h4,bss,h5,h6⟩:=mR hr ps (i+1) u1 hbe;obtain⟨cs,hs,hl⟩:=cB hr y;rw[hb.2]at hs;have hc:=f9 hs hl.one';obtain⟨g1,g2,g3⟩:=dn (pos:=0) hr hl hg;refine⟨by simp[h1],by simp[h2],λx hx=>(List.mem_append.1 hx).elim (g2 x) (h3 x),λx hx=>(List.mem_append.1 hx).elim (g3 x) (h4 x),λj=>match j with|0=>aU W t1.kill|j+1=>bss j,?_,?_⟩
    ·rw[dm,h5,List.length_cons,vN]
    ·intro j x hj;cases j with
     |zero =>
      simp at hj;subst hj;exact⟨a.eval y,cs,by simp,hc,g1.mono dr.1⟩
     |succ j =>
      obtain⟨v,c,h7,h8,h9⟩:=h6 j x (by simpa using hj);exact⟨v,c,by simpa using h7,h8,h9.mono dr.2⟩
   ·cases h
theorem kw (w:World)(G:Nat->Prop):∀ (b:Ty),Rd w G b b.zero (zeroCells b)
 |.int _=>rfl
 |.bool=>rfl
 |.str=>rfl
 |.unit=>rfl
 |.hdr=>⟨none,0,rfl⟩
 |.pair a b=>⟨_,_,rfl,kw w G a,kw w G b⟩
 |.list m E e=>Rd.nil w G m E e
theorem pi (w:World)(G:Nat->Prop):∀ (b:Ty) (pos:Nat),Mx w G b none pos b.zero (zeroCells b) []
 |.int _,_=>⟨rfl,rfl⟩
 |.bool,_=>⟨rfl,rfl⟩
 |.str,_=>⟨rfl,rfl⟩
 |.unit,_=>⟨rfl,rfl⟩
 |.hdr,_=>⟨⟨none,0,rfl⟩,rfl⟩
 |.pair a b,_=>⟨_,_,[],[],rfl,rfl,pi w G a _,pi w G b _⟩
 |.list m E e,_=>by
  cases m with
  |false=>exact cA.2 ⟨rfl,Rd.nil w G false E e⟩
  |true=>exact (ch (by simp)).2 ⟨_,rfl,(OwH.nil w G E e).2⟩
theorem k7 {W:Wit}{k:Nat}(h:¬ W.nw k/\¬ V.prot k/\(∀ b,live st b->W.β b≠k)/\∀ (r1 i:Nat) (l:Leaf),(st r1).ls[i]?=some l->an l->k∉W.bs r1 i):¬ bW V W st k:=by
 rintro (hk|hk|⟨b,hb,e⟩|⟨r1,i,l,h1,h2,h3⟩)
 ·exact h.1 hk
 ·exact h.2.1 hk
 ·exact h.2.2.1 b hb e
 ·exact h.2.2.2 r1 i l h1 h2 h3
theorem k8:(9223372036854775807:Nat)<=maxLen:=by decide
theorem pj (hV:ax V)(hT:TOk P T)(hok:bF V o){t:TypeId}{n:Nat}{parts:Array (Nat×Operand)}(hop:o.op=.buildSlice t n parts)(h:act Γ T o st κ=some r):bP P V o st κ r:=by
 simp only[act,wrU,hop]at h;cases ht:T t with
 |slice E e bytes =>
  simp only[ht]at h;split at h
  ·rename_i u hbe;cases hb:Nat.beq u.val.length n&&decide (n*e.cells<=16777216)&&aX u.kill&&db u.frz u.kill with
   |false=>simp[hb]at h
   |true =>
    simp only[hb,cond_true]at h;simp only[Bool.and_eq_true,decide_eq_true_eq]at hb;obtain⟨⟨⟨hb1,hb2⟩,hb3⟩,hb4⟩:=hb;have hxn:=Nat.eq_of_beq_eq_true hb1;subst hxn;split at h
    ·rename_i d hd;refine⟨_,h,λW a w hr next Q hn=>?_⟩;have h1:=hT t;rw[ht]at h1;obtain⟨hu,_,_,hcp,_,ti,z,hti,hsz,_,hz,hzc⟩:=h1;obtain⟨h2,h3,h4f,h4k,bss,hbs,h5⟩:=mR hr parts.toList 0 u hbe;generalize hxs:u.val=xs at *;have hvs:∀ v∈(parts.toList.map λx=>a.eval x.2),v.cells.size=e.cells:=by
      intro v hv;obtain⟨j,hj,e1⟩:=List.getElem_of_mem hv;have hj':j<xs.length:=by rw[h3];simpa using hj
      obtain⟨v',c,h6,h7,h8⟩:=h5 j xs[j] (List.getElem?_eq_getElem hj');rw[List.getElem?_eq_getElem hj]at h6;simp only[Option.some.injEq]at h6;rw[<- e1,h6,h7];simpa using h8.len
     have hvl:(parts.toList.map λx=>a.eval x.2).length=xs.length:=by rw[List.length_map,h3]
     have hflat:∀ (j:Nat) (x:e.den),xs[j]?=some x->∃ c,Mx w (bi V W u.p u.frz) e none 0 x c (bss j)/\∀ i u,c[i]?=some u ->
       ((parts.toList.map λx=>a.eval x.2).flatMap λv=>v.cells.toList)[j*e.cells+i]?=some u:=by
      intro j x hj;obtain⟨v,c,h6,h7,h8⟩:=h5 j x hj;refine⟨c,h8,λi u hi=>?_⟩;have hil:i<e.cells:=by rw[<- h8.len];exact (List.getElem?_eq_some_iff.1 hi).1
      rw[Great.flat_get hcp _ hvs];have e1:(j*e.cells+i) / e.cells=j:=by
       rw[Nat.mul_comm,Nat.mul_add_div hcp,Nat.div_eq_of_lt hil,Nat.add_zero]
      have e2:(j*e.cells+i) % e.cells=i:=by
       rw[Nat.mul_comm,Nat.mul_add_mod,Nat.mod_eq_of_lt hil]
      rw[e1,e2,h6];simpa[h7]using hi
     have hflen:((parts.toList.map λx=>a.eval x.2).flatMap λv=>v.cells.toList).length=xs.length*e.cells:=by
      have:∀ (vs:List Value),(∀ v∈vs,v.cells.size=e.cells)->(vs.flatMap λv=>v.cells.toList).length=vs.length*e.cells:=by
       intro vs;induction vs with
       |nil=>intro _;simp
       |cons v vs ih =>
        intro hv;rw[List.flatMap_cons,List.length_append,ih (λu hu=>hv u (List.mem_cons_of_mem _ hu)),Array.length_toList,hv v (List.mem_cons_self ..),List.length_cons,Nat.succ_mul];omega
      rw[this _ hvs,hvl]
     have hfill:=Great.fill_whole hcp (parts.toList.map λx=>a.eval x.2) ((Array.range (xs.length*e.cells)).map ((if xs.length*e.cells=0 then (#[]:Array Value) else z.cells)[· % (if xs.length*e.cells=0 then (#[]:Array Value) else z.cells).size]!)) hvs (by rw[hvl];simp);rw[<- h2]at hfill;have hpl:(parts.map λ (i,x)=>(i,a.eval x)).toList=parts.toList.map λx=>(x.1,a.eval x.2):=by rw[Array.toList_map]
     have hrun:(execOp a.eval o).run P w=.ok (.value (.slice (some ⟨w.heap.size,0,none⟩) xs.length xs.length)) (w.alloc (.cells ((parts.toList.map λx=>a.eval x.2).flatMap λv=>v.cells.toList).toArray E)):=by
      have hsmall:¬ (xs.length*e.cells>2 ^ 24):=by omega
      by_cases h0:xs.length*e.cells=0
      ·rw[if_pos h0]at hfill;simp only[execOp,hop,Instr.buildSlice,Sem.run_bind,run_underlying hu,Result.andThen_ok,sizeOf,typeInfo,hti,hsz,hpl];simp[hsmall,h0,newRow,hti,hsz,hpl]at hfill ⊢;simp[hfill]
      ·rw[if_neg h0]at hfill;have:=run_buildSlice (P:=P) w t E xs.length (parts.map λ (i,x)=>(i,a.eval x)) _ ti z hu hti hz (by rw[hsz];exact hsmall) (by rw[hsz];exact h0) (by rw[hsz,hpl];exact hfill);simp[execOp,hop,this]
     refine dV hrun ?_;rw[hd];refine hn _ _ ?_;rw[ce,aN];obtain⟨h6,_,_,h6k⟩:=eX hV hr hb4 h4k;have hul:=h6.used_lt;have hmax:xs.length<=maxLen:=by
      have:=k8;have:xs.length*1<=xs.length*e.cells:=Nat.mul_le_mul_left _ hcp;omega
     have how:=World.ownsRow_lit (e:=E) (size:=e.cells) (base:=0) w ((parts.toList.map λx=>a.eval x.2).flatMap λv=>v.cells.toList).toArray xs.length (Nat.zero_le _) hmax (by simpa using hflen);refine h6.putOwn hV (w':=w.alloc (.cells ((parts.toList.map λx=>a.eval x.2).flatMap λv=>v.cells.toList).toArray E)) (by simp) rfl rfl rfl (λk hk=>Go.heap_alloc_old w _ (hul k hk)) d (hok d hd).1 (hok d hd).2 _ (Nat.lt_succ_self _) (bs:=w.heap.size::aU W u.kill) ?_ (λk hk hu=>?_)
     ·refine⟨List.nodup_cons.2 ⟨λhm=>?_,fP hr hb3 h4k⟩,_,bss,Row.of how,by rw[hbs];rfl,λj x hj=>?_⟩
      ·have:=(h6k _ hm).2.2.1;omega
      ·obtain⟨c,hc1,hc2⟩:=hflat j x hj;have hgl:∀ k,bi V W u.p u.frz k->k<w.heap.size:=λk hk=>by
        rcases jp h4f k hk with hk|⟨_,hk⟩
        ·exact (h6.nwlt k hk).1
        ·exact Nat.lt_of_lt_of_le (hV.ro k hk).1 h6.size
       exact⟨c,hc1.carry (jp h4f) (λk hk=>Go.heap_alloc_old w _ (hgl k hk)) (λk hk=>Go.heap_alloc_old w _ (hc1.lt k hk)),λi u hi=>by simpa using hc2 i u hi⟩
     ·rcases List.mem_cons.1 hk with rfl|hk
      ·have:=hul _ hu;omega
      ·have h7:=h6k k hk;exact k7 ⟨h7.1,h7.2.1,h7.2.2.2.1,h7.2.2.2.2⟩ hu
    ·cases h
  ·cases h
 |_=>simp[ht]at h
theorem vO {w:World}{G:Nat->Prop}{E':TypeId}{src dst e:TypeId}(hs:P.underlying src=some (.slice e))(he:P.underlying e=some (.int .u8))(hd:P.underlying dst=some .string){xs:List Int}{v:Value}
  (h:Rd w G (.list false E' (.int .u8)) xs [v]):(convert src dst v).run P w=.ok (.string (fI xs)) w:=by
 obtain⟨A,cap,hv,hc,hel⟩:=h;simp only[List.cons.injEq,and_true]at hv;subst hv;cases A with
 |none =>
  have hx:xs=[]:=by
   cases xs with
   |nil=>rfl
   |cons x xs=>obtain⟨g,o,hA,_⟩:=hel (by simp);cases hA
  subst hx;show (convert src dst (.slice none 0 cap)).run P w=_;rw[run_convert_bytes_nil w src e hs he 0 cap dst hd];rfl
 |some ad =>
  cases hxs:xs with
  |nil =>
   subst hxs;show (convert src dst (.slice (some ad) 0 cap)).run P w=_;rw[run_convert_bytes_string w src dst e ad 0 cap hs he hd];simp[Conv.bytesToString,loadCells,loadCellsFrom];rfl
  |cons x0 xs0 =>
   rw[<- hxs];obtain⟨g,o,hA,_,hr⟩:=hel (by rw[hxs];simp);simp only[Option.some.injEq]at hA;subst hA;have:=run_convert_bytes_arg (P:=P) w src e hs he g o xs.length cap xs rfl (λi hi=>by
    obtain⟨c,hc1,hc2⟩:=hr i xs[i] (List.getElem?_eq_getElem hi);have hc1:c=[.int .u8 xs[i]]:=hc1;subst hc1;have:=hc2 0 _ rfl;simp only[Ty.cells,Nat.mul_one,Nat.add_zero]at this;rw[this];simp[List.getD,List.getElem?_eq_getElem hi]) dst hd
   rw[this];rfl
theorem sD (hV:ax V)(hT:TOk P T)(hok:bF V o){s t:TypeId}{x:Operand}(hop:o.op=.convert s t x)(h:act Γ T o st κ=some r):bP P V o st κ r:=by
 simp only[act,wrU,hop]at h;have hti:=hT t;have hsi:=hT s;split at h
 ·rename_i k' k k'' n hs ht hx;split at h
  ·rename_i d hd;refine⟨_,h,λW a w hr=>aO hV hr hd hok (v:=.int k (k.wrap n)) ?_ rfl id rfl⟩;rw[ht]at hti;rw[hs]at hsi;simp[execOp,hop,bt hr hx,Go.convert,run_underlying hti.1,run_underlying hsi.1,Conv.intToInt]
  ·cases h
 ·rename_i E b hs ht;split at h
  ·rename_i p xs ha;split at h
   ·rename_i d hd;refine⟨_,h,λW a w hr=>?_⟩;have hdd:one st x≠.dead:=by intro e0;rw[e0]at ha;simp[aD,cG]at ha
    obtain⟨h1,h2,_⟩:=bk hr x hdd;have hrd:=jN (m:=false) (E:=E) hr h1 h2 ha;rw[ht]at hti;rw[hs]at hsi;refine aO hV hr hd hok (v:=.string (fI xs)) ?_ rfl id rfl;have:=vO (P:=P) hsi.1 (hsi.2.2.2.2.1.2 rfl) hti.1 hrd;simp[execOp,hop,this]
   ·cases h
  ·cases h
 ·cases h
theorem qr (hV:ax V)(hT:TOk P T)(hok:bF V o){t:TypeId}{n c:Operand}(hop:o.op=.makeSlice t n c)(h:act Γ T o st κ=some r):bP P V o st κ r:=by
 simp only[act,wrU,hop]at h;split at h
 ·rename_i E e bytes k1 m k2 m' ht hn1 hc1;cases hb:decide (0<=m)&&decide (m=m')&&decide (m*bytes<=(ah:Int)) with
  |false=>simp[hb]at h
  |true =>
   simp only[hb,cond_true]at h;simp only[Bool.and_eq_true,decide_eq_true_eq]at hb;obtain⟨⟨h0,rfl⟩,hby⟩:=hb;split at h
   ·rename_i d hd;refine⟨_,h,λW a w hr next Q hn=>?_⟩;have h1:=hT t;rw[ht]at h1;obtain⟨hu,_,_,hcp,hbp,ti,z,hti,hsz,hbt,hz,hzc⟩:=h1;have hm:(m.toNat:Int)=m:=by omega
    have hby':m.toNat*bytes<=ah:=by
     have:((m.toNat*bytes:Nat):Int)<=(ah:Int):=by rw[Int.natCast_mul,hm];exact hby
     omega
    have hml:m.toNat*1<=m.toNat*bytes:=Nat.mul_le_mul_left _ hbp.1;simp only[ah]at hby';have hmax:=k8;obtain⟨w',hrun,how,hgrow⟩:=run_make_full (P:=P) w 0 t E ti z e.cells hu hti hz hsz k1 k2 m.toNat (by rw[hbt,Nat.mul_comm];omega) (by omega) (Nat.zero_le _);rw[hm]at hrun;refine dV (v:=.slice (some ⟨w.heap.size,0,none⟩) m.toNat m.toNat) (w':=w') (by simp[execOp,hop,bt hr hn1,bt hr hc1,hrun]) ?_;rw[hd];refine hn _ _ ?_;have hzs:z.cells.size=e.cells:=by
     have h2:=(kw w (λ_=>False) e).len;rw[<- Array.length_toList,hzc,h2]
    refine hr.putOwn hV hgrow.size hgrow.os hgrow.tape hgrow.output (λk hk=>hgrow.block k (hr.used_lt k hk) (by simp)) d (hok d hd).1 (hok d hd).2 _ (Nat.lt_succ_self _) (bs:=[w.heap.size])
     ⟨by simp,_,λ_=>[],by rw[List.length_replicate];exact Row.of how,by simp[Value.ownBlock],λj x hj=>?_⟩ (λk hk hu=>?_)
    ·rw[List.getElem?_replicate]at hj;split at hj
     ·rename_i hjm;simp at hj;subst hj;refine⟨_,pi w' _ e 0,λi u hi=>?_⟩;have hil:i<e.cells:=by rw[<- (kw w' (λ_=>False) e).len];exact (List.getElem?_eq_some_iff.1 hi).1
      have hrow:(j+1)*e.cells<=m.toNat*e.cells:=Nat.mul_le_mul_right _ hjm;rw[Nat.succ_mul]at hrow;have hlt:j*e.cells+i<m.toNat*e.cells:=by omega
      have e2:(j*e.cells+i) % e.cells=i:=by rw[Nat.mul_comm,Nat.mul_add_mod,Nat.mod_eq_of_lt hil]
      have hu2:z.cells[i]?=some u:=by rw[<- Array.getElem?_toList,hzc];exact hi
      obtain⟨hi3,hu3⟩:=Array.getElem?_eq_some_iff.1 hu2;simp only[madeCells,Array.getElem?_toList,Array.getElem?_map,Array.getElem?_range,hlt,if_true,Option.map_some,hzs,e2];rw[getElem!_pos z.cells i (by omega),hu3]
     ·cases hj
    ·simp at hk;have:=hr.used_lt k hu;omega
   ·cases h
 ·cases h
theorem sE (n cap:Nat)(hc:n<=cap)(k k':IntKind)(w:World):(Instr.sliceBounds true n cap none (some (.int k n)) (some (.int k' n))).run P w=.ok (0,n,n) w:=by
 simp[Instr.sliceBounds,Instr.sliceBound,asIntOf,hc]
theorem uk (hV:ax V)(hT:TOk P T)(hok:bF V o){t:TypeId}{x m:Operand}{lo hi:Option Operand}(hop:o.op=.slice t x lo hi (some m))(h:act Γ T o st κ=some r):bP P V o st κ r:=by
 simp only[act,wrU,hop]at h;cases hd:o.dst with
 |none=>simp[hd]at h
 |some d =>
  simp only[hd]at h;split at h
  ·rename_i E' e' bytes r' j v ht hx;split at h
   ·rename_i p E e xs hdr;split at h
    ·rename_i hh k hhi hmx;cases hb:hi.isSome&&decide (hh=(xs.length:Int))&&decide (k=(xs.length:Int))&&Nat.beq e'.cells e.cells with
     |false=>rw[hb]at h;cases h
     |true =>
      rw[hb]at h;simp only[cond_true]at h;simp only[Bool.and_eq_true,decide_eq_true_eq]at hb;obtain⟨⟨⟨hb0,rfl⟩,rfl⟩,hb3⟩:=hb;have hb3:=Nat.eq_of_beq_eq_true hb3;refine⟨_,h,λW a w hr next Q hn=>?_⟩;have h1:=hT t;rw[ht]at h1;obtain⟨hu,_,_,_,_,ti,z,hti,hsz,_⟩:=h1;obtain⟨hlx,_,_,_,_⟩:=bk hr x (by rw[hx];simp);rw[hx]at hlx;obtain⟨h8,how,hpl,hcs⟩:=jn hr hdr hlx;obtain⟨y,hy,k1,hk1⟩:∃ y,hi=some y/\∃ k1,a.eval y=.int k1 xs.length:=by
       rcases lK hr hhi with ⟨h9,_⟩|⟨y,k1,h9,h10⟩
       ·rw[h9]at hb0;cases hb0
       ·exact⟨y,h9,k1,h10⟩
      obtain⟨k2,hk2⟩:∃ k2,a.eval m=.int k2 xs.length:=by
       rcases lK hr hmx with ⟨h9,_⟩|⟨y,k2,h9,h10⟩
       ·cases h9
       ·cases h9;exact⟨k2,h10⟩
      obtain⟨A,cap,hv,hcap⟩:=how.slice;have hE:=cZ (P:=P) (t:=E') (n:=e.cells) (by simp[bH,hti,hsz,hb3]) w;have hadd:(if xs.length=0 then A else A.map λx=>x.add (0*e.cells))=A:=by
       cases A with
       |none=>simp
       |some ad =>
        have e0:ad.add 0=ad:=by simp[Addr.add]
        show (if xs.length=0 then some ad else some (ad.add (0*e.cells)))=some ad;rw[Nat.zero_mul,e0];split <;> rfl
      refine dV (v:=.slice A xs.length xs.length) (w':=w) ?_ ?_
      ·simp only[execOp,hop,hv,hy,Option.map_some,Option.map_none,hk1,hk2,Instr.sliceAt,Instr.slice,Sem.run_bind,run_underlying hu,Result.andThen_ok,sE xs.length cap hcap k1 k2 w,hE,Sem.run_pure,Nat.sub_zero,hadd]
      ·rw[hd];refine hn _ _ ?_;rw[ce,aN];have hkp:∀ z∈[(r',j)],aB st z:=λz hz=>by simp at hz;subst hz;exact⟨_,hpl,trivial⟩
       obtain⟨h6,_,_,h6k⟩:=eX (frz:=[]) (kill:=[(r',j)]) hV hr rfl hkp;have e1:aM (ac (aE st []) st) [(r',j)]++aE st []=aM st [(r',j)]:=List.append_nil _;rw[e1]at h6 h6k;have hbs:aU W [(r',j)]=W.bs r' j:=by simp[aU]
       rw[hbs]at h6k;obtain⟨hnd,flat,bss,hrow,hbs2,hel⟩:=how;refine h6.putOwn hV (w':=w) (Nat.le_refl _) rfl rfl rfl (λ_ _=>rfl) d (hok d hd).1 (hok d hd).2 _ (Nat.lt_succ_self _) (bs:=W.bs r' j) ?_ (λk hk=>k7 ⟨(h6k k hk).1,(h6k k hk).2.1,(h6k k hk).2.2.2.1,(h6k k hk).2.2.2.2⟩);have hgd:∀ k,gd V W p k->gd V (W.frz st []) p k:=bL (W':=W.frz st []) (λh=>h) (λ_ h=>Or.inl h);refine OwH.carry (G:=gd V W p) ⟨hnd,flat,bss,⟨hrow.1,?_⟩,?_,hel⟩ hgd (λ_ _=>rfl) (λ_ _=>rfl)
       ·rcases hrow.2 with ⟨h7,h9⟩|⟨g,cap',cur,h7,h9,h10,h11,h12,h13⟩
        ·rw[hv]at h7;simp only[Value.slice.injEq]at h7;exact .inl ⟨by rw[h7.1,h9],h9⟩
        ·rw[hv]at h7;simp only[Value.slice.injEq,true_and]at h7;exact .inr ⟨g,xs.length,cur,by rw[h7.1],h9,Nat.le_refl _,Nat.le_trans h10 h11,Nat.le_trans (Nat.mul_le_mul_right _ h10) h12,h13⟩
       ·rw[hbs2,hv];cases A <;> rfl
    ·cases h
   ·cases h
  ·cases h
theorem vP (hV:ax V)(hT:TOk P T)(hok:bF V o){t:TypeId}{x:Operand}{lo hi mx:Option Operand}(hop:o.op=.slice t x lo hi mx)(h:act Γ T o st κ=some r):bP P V o st κ r:=by
 cases mx with
 |none=>exact uj hV hT hok hop h
 |some m=>exact uk hV hT hok hop h
theorem yq (hV:ax V)(hok:bF V o){c:Call}(hop:o.op=.call c)(hc:c.callee=.builtin .min)(h:act Γ T o st κ=some r):bP P V o st κ r:=by
 simp only[act,wrU,hop,hc]at h;split at h
 ·cases h
 ·rename_i d hd;simp only[hd]at h;split at h
  ·rename_i x y hx;split at h
   ·rename_i k1 m k2 n hm hn;have hargs:c.args=#[x,y]:=by rw[<- Array.toArray_toList (xs:=c.args),hx]
    refine⟨_,h,λW a w hr=>aO hV hr hd hok (v:=.int k1 (bif decide (n<m) then n else m)) ?_ rfl id rfl⟩;cases hdec:decide (n<m) <;> simp[execOp,hop,hc,resolve,invoke,builtin,hargs,bt hr hm,bt hr hn,Builtin.min_,Builtin.min2] <;> simp at hdec <;> omega
   ·cases h
  ·cases h
theorem yt (hV:ax V)(hok:bF V o){c:Call}(hop:o.op=.call c)(hc:c.callee=.builtin .max)(h:act Γ T o st κ=some r):bP P V o st κ r:=by
 simp only[act,wrU,hop,hc]at h;split at h
 ·cases h
 ·rename_i d hd;simp only[hd]at h;split at h
  ·rename_i x y hx;split at h
   ·rename_i k1 m k2 n hm hn;have hargs:c.args=#[x,y]:=by rw[<- Array.toArray_toList (xs:=c.args),hx]
    refine⟨_,h,λW a w hr=>aO hV hr hd hok (v:=.int k1 (bif decide (m<n) then n else m)) ?_ rfl id rfl⟩;cases hdec:decide (m<n) <;> simp[execOp,hop,hc,resolve,invoke,builtin,hargs,bt hr hm,bt hr hn,Builtin.max_,Builtin.max2] <;> simp at hdec <;> omega
   ·cases h
  ·cases h
end
end Go.Proofs.YtmcbmojdeikcdaaGreatEv
namespace Go.Proofs.YtmcbmojdeikcdaaGreatEv
open Go Go.RowKit
section
variable {P:Program} {V:Env} {W:Wit} {st st':St} {w w':World} {a:Act}
theorem ao.putGhost (hV:ax V)(h:ao P V W st a w)(d:Nat)(hd:GH<=d)(hdB:d<B0)(n:Nat)(sh:aG)(ls:List Leaf)
  (csd:List Value) (bsd:Nat->List Nat) (hn:(st d).ver<n) (hl:ls.length=csd.length) (h1:∀ u∈csd,u.oneCell'=true)
  (hleaf:∀ (j:Nat) (l:Leaf) (u:Value),ls[j]?=some l->csd[j]?=some u->aJ P V W st w (bsd j) l u)
  (hown:∀ (j:Nat) (l:Leaf),ls[j]?=some l->an l->∀ k∈bsd j,¬ W.nw k/\¬ V.prot k/\(∀ b,live st b->W.β b≠k) /\
   ∀ (r1 j1:Nat) (l1:Leaf),r1≠d->(st r1).ls[j1]?=some l1->an l1->k∉W.bs r1 j1)
  (hsep:∀ (j j':Nat) (l l':Leaf),ls[j]?=some l->an l->ls[j']?=some l'->an l'->∀ k,k∈bsd j->k∈bsd j'->j=j') :
  ao P V { W with cs:=λr=>if r=d then csd else W.cs r,bs:=λr j=>if r=d then bsd j else W.bs r j } (ac [(d,⟨n,sh,ls⟩)] st) a w /\
   cm V W { W with cs:=λr=>if r=d then csd else W.cs r,bs:=λr j=>if r=d then bsd j else W.bs r j } st (ac [(d,⟨n,sh,ls⟩)] st) w w:=by
 have hl':∀ b,live (ac [(d,⟨n,sh,ls⟩)] st) b<->live st b:=by
  intro b;by_cases hb:B0<=b
  ·rw[live,live,aI (by omega)]
  ·simp[live,hb]
 have hstep:cm V W { W with cs:=λr=>if r=d then csd else W.cs r,bs:=λr j=>if r=d then bsd j else W.bs r j } st (ac [(d,⟨n,sh,ls⟩)] st) w w:=by
  refine⟨λq=>?_,λb hb=>⟨(hl' b).2 hb,rfl⟩,λ_ h=>h,λ_ _=>rfl,λ_ q j' l' h3 h4 h5=>?_⟩
  ·rcases am d q ⟨n,sh,ls⟩ st with ⟨rfl,e⟩|⟨hne,e⟩
   ·rw[e];exact⟨Nat.le_of_lt hn,λe=>absurd e (by show n≠_;omega)⟩
   ·rw[e];exact⟨Nat.le_refl _,λ_=>by simp[hne]⟩
  ·rcases am d q ⟨n,sh,ls⟩ st with ⟨rfl,e⟩|⟨hne,e⟩
   ·rw[e]at h5;exact absurd h5 (by show n≠_;omega)
   ·rw[e]at h3;exact⟨⟨l',h3,h4⟩,by simp[hne],λ_ _=>rfl⟩
 refine⟨?_,hstep⟩;exact {
  nt:=h.nt,df:=h.df
  slots:=λt ht=>by
   have:t≠d:=by omega
   rw[aI this];simpa[this]using h.slots t ht
  boxes:=λb hb=>by
   have:b≠d:=by omega
   rw[aI this];simpa[this]using h.boxes b hb
  len:=λq=>by
   rcases am d q ⟨n,sh,ls⟩ st with ⟨rfl,e⟩|⟨hne,e⟩
   ·rw[e];simpa using hl
   ·rw[e];simpa[hne]using h.len q
  one:=λq u hu=>by
   by_cases hq:q=d
   ·simp only[hq,if_true]at hu;exact h1 u hu
   ·simp only[hq,if_false]at hu;exact h.one q u hu
  leaf:=λq j l u h2 h3=>by
   rcases am d q ⟨n,sh,ls⟩ st with ⟨rfl,e⟩|⟨hne,e⟩
   ·rw[e]at h2;simp only[if_true]at h3;exact (hleaf j l u h2 h3).carry hV.ro hstep (λ_=>⟨by simp,λ_ _=>rfl⟩)
   ·rw[e]at h2;simp only[hne,if_false]at h3;exact (h.leaf q j l u h2 h3).carry hV.ro hstep (λ_=>⟨by simp[hne],λ_ _=>rfl⟩)
  ownb:=λq j l h2 h3 k hk=>by
   rcases am d q ⟨n,sh,ls⟩ st with ⟨rfl,e⟩|⟨hne,e⟩
   ·rw[e]at h2;simp only[if_true]at hk;have:=hown j l h2 h3 k hk;exact⟨this.1,this.2.1,λb hb=>this.2.2.1 b ((hl' b).1 hb)⟩
   ·rw[e]at h2;simp only[hne,if_false]at hk;have:=h.ownb q j l h2 h3 k hk;exact⟨this.1,this.2.1,λb hb=>this.2.2 b ((hl' b).1 hb)⟩
  sep:=λq j l q' j' l' h2 h3 h4 h5 k hk hk'=>by
   rcases am d q ⟨n,sh,ls⟩ st with ⟨e0,e⟩|⟨hne,e⟩ <;> rcases am d q' ⟨n,sh,ls⟩ st with ⟨e1,e'⟩|⟨hne',e'⟩
   ·rw[e]at h2;rw[e']at h4;simp only[e0,if_true]at hk;simp only[e1,if_true]at hk';exact⟨e0.trans e1.symm,hsep j j' l l' h2 h3 h4 h5 k hk hk'⟩
   ·rw[e]at h2;rw[e']at h4;simp only[e0,if_true]at hk;simp only[hne',if_false]at hk';exact absurd hk' ((hown j l h2 h3 k hk).2.2.2 q' j' l' hne' h4 h5)
   ·rw[e]at h2;rw[e']at h4;simp only[hne,if_false]at hk;simp only[e1,if_true]at hk';exact absurd hk ((hown j' l' h4 h5 k hk').2.2.2 q j l hne h2 h3)
   ·rw[e]at h2;rw[e']at h4;simp only[hne,if_false]at hk;simp only[hne',if_false]at hk';exact h.sep q j l q' j' l' h2 h3 h4 h5 k hk hk'
  box:=λb hb=>h.box b ((hl' b).1 hb)
  inj:=λb b' hb hb'=>h.inj b b' ((hl' b).1 hb) ((hl' b').1 hb')
  nwlt:=h.nwlt
  os:=h.os,tape:=h.tape,output:=h.output,size:=h.size,keep:=h.keep
  fixb:=λx hx=>⟨(hl' _).2 (h.fixb x hx).1,(h.fixb x hx).2⟩
  fixt:=h.fixt }
theorem fA {off:Nat}:∀ {a:Ty} {pos:Nat} {x:a.den} {u:(E:TypeId)×(e:Ty)×List e.den},a8 off a pos x=some u->pos<=off/\off<pos+a.cells
 |.pair a b,pos,x,u,h=>by
  simp only[a8]at h;split at h
  ·rename_i v hv;have:=fA hv;simp only[Ty.cells];omega
  ·have:=fA h;simp only[Ty.cells];omega
 |.list m E e,pos,xs,u,h=>by
  simp only[a8]at h;cases hb:m&&Nat.beq pos off with
  |false=>simp[hb]at h
  |true =>
   simp only[Bool.and_eq_true]at hb;have:=Nat.eq_of_beq_eq_true hb.2;simp only[Ty.cells];omega
 |.int _,_,_,_,h=>by simp[a8]at h
 |.bool,_,_,_,h=>by simp[a8]at h
 |.str,_,_,_,h=>by simp[a8]at h
 |.unit,_,_,_,h=>by simp[a8]at h
 |.hdr,_,_,_,h=>by simp[a8]at h
theorem lO {off:Nat}:∀ {a:Ty} {pos:Nat} {x:a.den} {E:TypeId} {e:Ty} {ys:List e.den},a8 off a pos x=some ⟨E,e,ys⟩->e.shy=true->a.shy=true
 |.pair a b,pos,x,E,e,ys,h,hs=>by
  simp only[a8]at h;simp only[Ty.shy,Bool.or_eq_true];split at h
  ·rename_i v hv;simp only[Option.some.injEq]at h;subst h;exact .inl (lO hv hs)
  ·exact .inr (lO h hs)
 |.list m E' e',pos,xs,E,e,ys,h,hs=>by
  simp only[a8]at h;cases hb:m&&Nat.beq pos off with
  |false=>simp[hb]at h
  |true =>
   rw[hb]at h;simp only[cond_true,Option.some.injEq,Sigma.mk.injEq]at h;obtain⟨rfl,h⟩:=h;rw[heq_eq_eq,Sigma.mk.injEq]at h;obtain⟨rfl,_⟩:=h;simp[Ty.shy,hs]
 |.int _,_,_,_,_,_,h,_=>by simp[a8]at h
 |.bool,_,_,_,_,_,h,_=>by simp[a8]at h
 |.str,_,_,_,_,_,h,_=>by simp[a8]at h
 |.unit,_,_,_,_,_,h,_=>by simp[a8]at h
 |.hdr,_,_,_,_,_,h,_=>by simp[a8]at h
theorem Mx.hol_out {G:Nat->Prop}{o:Nat}:∀ {a:Ty} {pos:Nat} {x:a.den} {cs:List Value} {bs:List Nat},(o<pos\/pos+a.cells<=o)->(Mx w G a none pos x cs bs<->Mx w G a (some o) pos x cs bs)
 |.int _,_,_,_,_,_=>Iff.rfl
 |.bool,_,_,_,_,_=>Iff.rfl
 |.str,_,_,_,_,_=>Iff.rfl
 |.unit,_,_,_,_,_=>Iff.rfl
 |.hdr,_,_,_,_,_=>Iff.rfl
 |.pair a b,pos,x,cs,bs,ho=>by
  simp only[Ty.cells]at ho;constructor
  ·rintro⟨c1,c2,b1,b2,e1,e2,h1,h2⟩;exact⟨c1,c2,b1,b2,e1,e2,(Mx.hol_out (by omega)).1 h1,(Mx.hol_out (by omega)).1 h2⟩
  ·rintro⟨c1,c2,b1,b2,e1,e2,h1,h2⟩;exact⟨c1,c2,b1,b2,e1,e2,(Mx.hol_out (by omega)).2 h1,(Mx.hol_out (by omega)).2 h2⟩
 |.list m E e,pos,xs,cs,bs,ho=>by
  simp only[Ty.cells]at ho;cases m with
  |false=>rw[cA,cA]
  |true=>rw[ch (by simp),ch (by simp only[ne_eq,Option.some.injEq];omega)]
theorem Mx.out {G:Nat->Prop}{off:Nat}{E:TypeId}{e:Ty}{ys:List e.den}:∀ {a:Ty} {pos:Nat} {x:a.den} {cs:List Value} {bs:List Nat},Mx w G a none pos x cs bs->a8 off a pos x=some ⟨E,e,ys⟩ ->
  ∃ v bn b',OwB w G none E e ys v bn/\cs[off-pos]?=some v/\Mx w G a (some off) pos x cs b'/\∀ k,bs.count k=b'.count k+bn.count k
 |.pair a b,pos,x,cs,bs,⟨c1,c2,b1,b2,e1,e2,h1,h2⟩,h=>by
  have hl:=h1.len;simp only[a8]at h;split at h
  ·rename_i u hu;simp only[Option.some.injEq]at h;subst h;have hin:=fA hu;obtain⟨v,bn,b',g1,g2,g3,g4⟩:=Mx.out h1 hu;refine⟨v,bn,b'++b2,g1,?_,⟨c1,c2,b',b2,e1,rfl,g3,(Mx.hol_out (by omega)).1 h2⟩,λk=>?_⟩
   ·rw[e1,List.getElem?_append_left (by omega)];exact g2
   ·rw[e2,List.count_append,List.count_append,g4 k];omega
  ·rename_i hu;have hin:=fA h;obtain⟨v,bn,b',g1,g2,g3,g4⟩:=Mx.out h2 h;refine⟨v,bn,b1++b',g1,?_,⟨c1,c2,b1,b',e1,rfl,(Mx.hol_out (by omega)).1 h1,g3⟩,λk=>?_⟩
   ·rw[e1,List.getElem?_append_right (by omega),hl,show off-pos-a.cells=off-(pos+a.cells) by omega];exact g2
   ·rw[e2,List.count_append,List.count_append,g4 k];omega
 |.list m E' e',pos,xs,cs,bs,H,h=>by
  simp only[a8]at h;cases hb:m&&Nat.beq pos off with
  |false=>simp[hb]at h
  |true =>
   rw[hb]at h;simp only[cond_true,Option.some.injEq,Sigma.mk.injEq]at h;obtain⟨rfl,h⟩:=h;simp only[Bool.and_eq_true]at hb;obtain⟨rfl,hb⟩:=hb;have hb:=Nat.eq_of_beq_eq_true hb;subst hb;rw[heq_eq_eq,Sigma.mk.injEq]at h;obtain⟨rfl,h⟩:=h;rw[heq_eq_eq]at h;subst h;have hone:=H.one;rw[ch (by simp)]at H;obtain⟨v,rfl,hO⟩:=H;exact⟨v,bs,[],hO,by simp,hY.2 ⟨v,rfl,hone v (by simp),rfl⟩,λk=>by simp⟩
 |.int _,_,_,_,_,_,h=>by simp[a8]at h
 |.bool,_,_,_,_,_,h=>by simp[a8]at h
 |.str,_,_,_,_,_,h=>by simp[a8]at h
 |.unit,_,_,_,_,_,h=>by simp[a8]at h
 |.hdr,_,_,_,_,_,h=>by simp[a8]at h
theorem Mx.back {G:Nat->Prop}{off:Nat}{E:TypeId}{e:Ty}{ys:List e.den}{v:Value}{bn:List Nat}(hO:OwB w G none E e ys v bn):∀ {a:Ty} {pos:Nat} {x z:a.den} {cs:List Value} {b':List Nat},Mx w G a (some off) pos x cs b'->bD off E e ys a pos x=some z ->
  cs[off-pos]?=some v->∃ bs,Mx w G a none pos z cs bs/\∀ k,bs.count k=b'.count k+bn.count k
 |.pair a b,pos,x,z,cs,bs,⟨c1,c2,b1,b2,e1,e2,h1,h2⟩,h,hc=>by
  have hl:=h1.len;simp only[bD]at h;split at h
  ·rename_i u hu;simp only[Option.some.injEq]at h;subst h;have hin:=set_in hu;obtain⟨b',g1,g2⟩:=Mx.back hO h1 hu (by rw[e1,List.getElem?_append_left (by omega)]at hc;exact hc);refine⟨b'++b2,⟨c1,c2,b',b2,e1,rfl,g1,(Mx.hol_out (by omega)).2 h2⟩,λk=>?_⟩;rw[e2,List.count_append,List.count_append,g2 k];omega
  ·rename_i hu;simp only[Option.map_eq_some_iff]at h;obtain⟨u,hu,rfl⟩:=h;have hin:=set_in hu;obtain⟨b',g1,g2⟩:=Mx.back hO h2 hu (by
    rw[e1,List.getElem?_append_right (by omega),hl]at hc;rw[show off-(pos+a.cells)=off-pos-a.cells by omega];exact hc)
   refine⟨b1++b',⟨c1,c2,b1,b',e1,rfl,(Mx.hol_out (by omega)).2 h1,g1⟩,λk=>?_⟩;rw[e2,List.count_append,List.count_append,g2 k];omega
 |.list m E' e',pos,xs,z,cs,bs,H,h,hc=>by
  simp only[bD]at h;cases hb:m&&Nat.beq pos off with
  |false=>simp[hb]at h
  |true =>
   rw[hb]at h;simp only[cond_true]at h;obtain⟨rfl,rfl,rfl⟩:=iI h;simp only[Bool.and_eq_true]at hb;obtain⟨rfl,hb⟩:=hb;have hb:=Nat.eq_of_beq_eq_true hb;subst hb;rw[hY]at H;obtain⟨v',rfl,h1,rfl⟩:=H;simp only[Nat.sub_self,List.getElem?_cons_zero,Option.some.injEq]at hc;subst hc;exact⟨bn,(ch (by simp)).2 ⟨v',rfl,hO⟩,λk=>by simp⟩
 |.int _,_,_,_,_,_,_,h,_=>by simp[bD]at h
 |.bool,_,_,_,_,_,_,h,_=>by simp[bD]at h
 |.str,_,_,_,_,_,_,h,_=>by simp[bD]at h
 |.unit,_,_,_,_,_,_,h,_=>by simp[bD]at h
 |.hdr,_,_,_,_,_,_,h,_=>by simp[bD]at h
where
 set_in {off:Nat} {E:TypeId} {e:Ty} {ys:List e.den}:∀ {a:Ty} {pos:Nat} {x z:a.den},bD off E e ys a pos x=some z->pos<=off/\off<pos+a.cells
  |.pair a b,pos,x,z,h=>by
   simp only[bD]at h;split at h
   ·rename_i u hu;have:=set_in hu;simp only[Ty.cells];omega
   ·simp only[Option.map_eq_some_iff]at h;obtain⟨u,hu,_⟩:=h;have:=set_in hu;simp only[Ty.cells];omega
  |.list m E' e',pos,xs,z,h=>by
   simp only[bD]at h;cases hb:m&&Nat.beq pos off with
   |false=>simp[hb]at h
   |true =>
    simp only[Bool.and_eq_true]at hb;have:=Nat.eq_of_beq_eq_true hb.2;simp only[Ty.cells];omega
  |.int _,_,_,_,h=>by simp[bD]at h
  |.bool,_,_,_,h=>by simp[bD]at h
  |.str,_,_,_,h=>by simp[bD]at h
  |.unit,_,_,_,h=>by simp[bD]at h
  |.hdr,_,_,_,h=>by simp[bD]at h
end
section
variable {P:Program} {V:Env} {W W' W2:Wit} {st st' st2:St} {w w' w2:World} {a:Act}
theorem cm.trans (h:cm V W W' st st' w w')(h2:cm V W' W2 st' st2 w' w2):cm V W W2 st st2 w w2:=by
 refine⟨λr=>⟨Nat.le_trans (h.ver r).1 (h2.ver r).1,λe=>?_⟩,λb hb=>?_,λk hk=>h2.nw k (h.nw k hk),λk hk=>?_,λhe r j l h3 h4 h5=>?_⟩
 ·have h3:=(h.ver r).1;have h4:=(h2.ver r).1;rw[(h2.ver r).2 (by omega),(h.ver r).2 (by omega)]
 ·obtain⟨h3,h4⟩:=h.box b hb;obtain⟨h5,h6⟩:=h2.box b h3;exact⟨h5,h6.trans h4⟩
 ·rw[h2.heap k (hk.imp (h.nw k) id),h.heap k hk]
 ·have e1:=(h.ver EPO).1;have e2:=(h2.ver EPO).1;have e3:=(h.ver r).1;have e4:=(h2.ver r).1;obtain⟨⟨l',g1,g2⟩,g6,g7⟩:=h2.epo (by omega) r j l h3 h4 (by omega);obtain⟨g5,g3,g4⟩:=h.epo (by omega) r j l' g1 g2 (by omega);exact⟨g5,g6.trans g3,λk hk=>(g7 k (by rw[g3];exact hk)).trans (g4 k hk)⟩
theorem pm {n i:Nat}(hi:i<n)(bss:Nat->List Nat)(b bn:List Nat)(hb:∀ k,(bss i).count k=b.count k+bn.count k)(ob:List Nat)(k:Nat) :
  (ob++(List.range n).flatMap bss).count k=(ob++(List.range n).flatMap λj=>if j=i then b else bss j).count k+bn.count k:=by
 have:=jq hi bss b k;have:=hb k;rw[List.count_append,List.count_append];omega
theorem OwH.out {G:Nat->Prop}{E E1:TypeId}{e e1:Ty}{xs:List e.den}{v:Value}{bs:List Nat}{i off:Nat}{y:e.den}{ys:List e1.den}(H:Ow w G E e xs v bs)(hy:xs[i]?=some y)(hg:a8 off e 0 y=some ⟨E1,e1,ys⟩) :
  ∃ u bn bs',OwH w G (some (i,off)) E e xs v bs'/\Ow w G E1 e1 ys u bn/\(∀ g cap,v=.slice (some ⟨g,0,none⟩) xs.length cap->w.cell? ⟨g,i*e.cells+off,none⟩=some u)/\∀ k,bs.count k=bs'.count k+bn.count k:=by
 obtain⟨hnd,flat,bss,h1,h2,h3⟩:=H;have hil:i<xs.length:=(List.getElem?_eq_some_iff.1 hy).1;obtain⟨c,hm,hc⟩:=h3 i y hy;have hm:Mx w G e none 0 y c (bss i):=hm;obtain⟨u,bn,b',g1,g2,g3,g4⟩:=hm.out hg;have hcnt:=pm hil bss b' bn g4 v.ownBlock.toList;rw[<- h2]at hcnt;have hnd2:=bz.1 hnd;refine⟨u,bn,v.ownBlock.toList++(List.range xs.length).flatMap λj=>if j=i then b' else bss j,⟨bz.2 λk=>by have:=hnd2 k;have:=hcnt k;omega,flat,_,h1,rfl,λj x hj=>?_⟩,
  ⟨bz.2 λk=>by have:=hnd2 k;have:=hcnt k;omega,g1⟩,λg cap hv=>?_,hcnt⟩
 ·by_cases hji:j=i
  ·subst hji;rw[hy]at hj;simp only[Option.some.injEq]at hj;subst hj;refine⟨c,?_,hc⟩;simp only[cu,Nat.beq_refl,cond_true,if_true];exact g3
  ·obtain⟨c',h4,h5⟩:=h3 j x hj;refine⟨c',?_,h5⟩;have:Nat.beq i j=false:=by
    cases hb:Nat.beq i j with
    |false=>rfl
    |true=>exact absurd (Nat.eq_of_beq_eq_true hb).symm hji
   simp only[cu,this,cond_false,if_neg hji];exact h4
 ·subst hv;have hin:=fA hg;have hlt:i*e.cells+off<xs.length*e.cells:=by
   have:=Nat.mul_le_mul_right e.cells (show i+1<=xs.length from hil);rw[Nat.add_mul,Nat.one_mul]at this;omega
  rw[h1.cellAt _ hlt];exact hc off u (by simpa using g2)
theorem OwH.back {G:Nat->Prop}{E E1:TypeId}{e e1:Ty}{xs:List e.den}{v u:Value}{bs bn:List Nat}{i off:Nat}{y z:e.den}{ys:List e1.den}(H:OwH w G (some (i,off)) E e xs v bs)(hn:Ow w G E1 e1 ys u bn)
  (hd:∀ k∈bn,k∉bs) (hy:xs[i]?=some y) (hs:bD off E1 e1 ys e 0 y=some z) (hcell:∀ g cap,v=.slice (some ⟨g,0,none⟩) xs.length cap->w.cell? ⟨g,i*e.cells+off,none⟩=some u) :
  ∃ bs',Ow w G E e (xs.set i z) v bs'/\∀ k,bs'.count k=bs.count k+bn.count k:=by
 obtain⟨hnd,flat,bss,h1,h2,h3⟩:=H;have hil:i<xs.length:=(List.getElem?_eq_some_iff.1 hy).1;obtain⟨c,hm,hc⟩:=h3 i y hy;have hhol:cu (some (i,off)) i=some off:=by simp[cu]
 rw[hhol]at hm;have hin:=Mx.back.set_in hs;have hcl:=hm.len;have hcoff:c[off-0]?=some u:=by
  rcases h1.2 with ⟨rfl,h0⟩|⟨g,cap,cur,rfl,_⟩
  ·omega
  ·have h4:=hcell g cap rfl;have hlt:i*e.cells+off<xs.length*e.cells:=by
    have:=Nat.mul_le_mul_right e.cells (show i+1<=xs.length from hil);rw[Nat.add_mul,Nat.one_mul]at this;omega
   rw[h1.cellAt _ hlt]at h4;have h5:off<c.length:=by omega
   have h6:=hc off _ (List.getElem?_eq_getElem h5);rw[h4]at h6;rw[Nat.sub_zero,List.getElem?_eq_getElem h5,h6]
 obtain⟨b1,g1,g2⟩:=Mx.back hn.2 hm hs hcoff;have hcnt:∀ k,(v.ownBlock.toList++(List.range xs.length).flatMap λj=>if j=i then b1 else bss j).count k=bs.count k+bn.count k:=by
  intro k;have h4:=jq hil bss b1 k;have h5:=g2 k;rw[h2,List.count_append,List.count_append];omega
 refine⟨_,⟨(lN hnd hn.1 hd (λk=>Nat.le_of_eq (hcnt k))).1,flat,_,by rw[List.length_set];exact h1,by rw[List.length_set],λj x hj=>?_⟩,hcnt⟩;rcases aP _ _ _ _ _ hj with ⟨rfl,rfl,_⟩|⟨hij,hj⟩
 ·refine⟨c,?_,hc⟩;simp only[if_true];exact g1
 ·obtain⟨c',h4,h5⟩:=h3 j x hj;refine⟨c',?_,h5⟩;have:Nat.beq i j=false:=by
   cases hb:Nat.beq i j with
   |false=>rfl
   |true=>exact absurd (Nat.eq_of_beq_eq_true hb).symm hij
  have e0:cu (some (i,off)) j=none:=by simp[cu,this]
  rw[e0]at h4;simp only[if_neg hij];exact h4
theorem gS:GH<=TMP/\TMP<B0/\TMP≠EPO:=by decide
def rK (W:Wit)(S:St)(w:World)(r j:Nat)(v:Value):Prop :=
 r≠TMP/\r≠EPO/\∃ (i off:Nat) (p:Bool) (E:TypeId) (e:Ty) (xs:List e.den) (g cap:Nat),(S r).ls[j]?=some (.own p (some (i,off)) E e xs)/\(W.cs r)[j]?=some (.slice (some ⟨g,0,none⟩) xs.length cap) /\
  g∈W.bs r j/\w.cell? ⟨g,i*e.cells+off,none⟩=some v
theorem tk (hV:ax V)(h:ao P V W st a w){l l':Leaf}{U:Upd}{v:Value}(hl:aJ P V W st w [] l v)(hn:ca st l=some (U,l')) :
  ∃ W0 n p0 E0 e0 xs0,ao P V W0 (ac U st) a w/\cm V W W0 st (ac U st) w w/\l'=.al TMP 0 n/\aJ P V W0 (ac U st) w [] l' v/\(ac U st TMP).ver=n/\(ac U st TMP).ls=[.own p0 none E0 e0 xs0] /\
   W0.nw=W.nw/\W0.β=W.β/\(∀ q,q≠TMP->W0.cs q=W.cs q)/\W0.cs TMP=[v]/\(∀ q,(ac U st q).sh=(st q).sh\/q=TMP)/\rK W0 (ac U st) w (iZ l).1 (iZ l).2 v:=by
 cases l with
 |nal p ks ep loc E e xs =>
  simp only[ca]at hn;cases hvk:bj st ks ep with
  |false=>simp[hvk]at hn
  |true =>
   rw[hvk]at hn;simp only[cond_true]at hn;split at hn
   ·rename_i r j n0 i sz off;split at hn
    ·rename_i p' E' e' xs' hg;cases hb:!Nat.beq r TMP&&!Nat.beq r EPO&&Nat.beq sz e'.cells with
     |false=>simp[hb]at hn
     |true =>
      rw[hb]at hn;simp only[cond_true]at hn;simp only[Bool.and_eq_true,Bool.not_eq_true']at hb;obtain⟨⟨hb1,hb2⟩,hb3⟩:=hb;have hb3:=Nat.eq_of_beq_eq_true hb3;subst hb3;have hrT:r≠TMP:=λe=>by subst e;simp at hb1
      have hrE:r≠EPO:=λe=>by subst e;simp at hb2
      split at hn
      ·rename_i y hy;split at hn
       ·rename_i E1 e1 ys hga;simp only[Option.some.injEq,Prod.mk.injEq]at hn;obtain⟨rfl,rfl⟩:=hn;have hnal:=oE hvk hl;obtain⟨r',j',n',hks,g,len,cap,hcs,hil,hgb,hcell⟩:=hnal.at_ i _ off rfl;simp only[List.cons.injEq,Prod.mk.injEq,and_true]at hks;obtain⟨rfl,rfl,rfl⟩:=hks;have hlj:(st r).ls[j]?=some (.own p' none E' e' xs'):=by
         rw[List.getD_eq_getElem?_getD]at hg;cases hq:(st r).ls[j]? with
         |none=>rw[hq]at hg;simp at hg
         |some l0=>rw[hq]at hg;simp at hg;rw[hg]
        have how:=h.leaf r j _ _ hlj hcs;have how:Ow w (gd V W p') E' e' xs' _ (W.bs r j):=how;have hlen:len=xs'.length:=by
         obtain⟨A,cap',e0,_⟩:=how.slice;simp only[Value.slice.injEq]at e0;exact e0.2.1
        subst hlen;obtain⟨u,bn,bs',g1,g2,g3,g4⟩:=how.out hy hga;have hu:u=v:=by
         have:=g3 g cap rfl;rw[this]at hcell;exact Option.some.inj hcell
        subst hu;have hnd:=bz.1 how.1;have hsub:∀ k∈bs',k∈W.bs r j:=λk hk=>List.count_pos_iff.1 (by have:=g4 k;have:=List.count_pos_iff.2 hk;omega)
        have hsubn:∀ k∈bn,k∈W.bs r j/\k∉bs':=λk hk=>by
         have h5:=g4 k;have h6:=List.count_pos_iff.2 hk;have h7:=hnd k;refine⟨List.count_pos_iff.1 (by omega),λhk'=>?_⟩;have:=List.count_pos_iff.2 hk';omega
        have hfree:∀ k∈W.bs r j,tj V W st r j k:=λk hk=>by
         have h9:=h.ownb r j _ hlj trivial k hk;exact⟨h9.1,h9.2.1,h9.2.2,λr1 i1 l1 hl1 ho1 hne hk1=>hne (by obtain⟨e1,e2⟩:=h.sep r1 i1 l1 r j _ hl1 ho1 hlj trivial k hk1 hk;rw[e1,e2])⟩
        have hR:vL st (ac [(r,⟨(st r).ver,(st r).sh,aQ (st r).ls j (.own p' (some (i,off)) E' e' xs')⟩)] (ac [(EPO,bN (st EPO))] st)) r j (.own p' (some (i,off)) E' e' xs'):=by
         refine⟨λq=>?_,λq=>?_,?_,λq=>?_,λl hl=>?_,λq i' l hq hl=>?_⟩
         ·rcases am r q ⟨(st r).ver,(st r).sh,aQ (st r).ls j (.own p' (some (i,off)) E' e' xs')⟩ (ac [(EPO,bN (st EPO))] st) with ⟨rfl,e⟩|⟨_,e⟩
          ·rw[e]
          ·rw[e];rcases am EPO q (bN (st EPO)) st with ⟨rfl,e⟩|⟨_,e⟩ <;> rw[e];rfl
         ·rcases am r q ⟨(st r).ver,(st r).sh,aQ (st r).ls j (.own p' (some (i,off)) E' e' xs')⟩ (ac [(EPO,bN (st EPO))] st) with ⟨rfl,e⟩|⟨_,e⟩
          ·rw[e];exact Nat.le_refl _
          ·rw[e];rcases am EPO q (bN (st EPO)) st with ⟨rfl,e⟩|⟨_,e⟩ <;> rw[e]
           ·exact Nat.le_succ _
           ·exact Nat.le_refl _
         ·rw[aI (Ne.symm hrE),bg];exact Nat.lt_succ_self _
         ·rcases am r q ⟨(st r).ver,(st r).sh,aQ (st r).ls j (.own p' (some (i,off)) E' e' xs')⟩ (ac [(EPO,bN (st EPO))] st) with ⟨rfl,e⟩|⟨_,e⟩
          ·rw[e];simp[aQ]
          ·rw[e];rcases am EPO q (bN (st EPO)) st with ⟨rfl,e⟩|⟨_,e⟩ <;> rw[e];rfl
         ·rw[bg]at hl;rcases aP _ _ _ _ _ hl with ⟨_,rfl,_⟩|⟨hne,_⟩
          ·rfl
          ·exact absurd rfl hne
         ·rcases am r q ⟨(st r).ver,(st r).sh,aQ (st r).ls j (.own p' (some (i,off)) E' e' xs')⟩ (ac [(EPO,bN (st EPO))] st) with ⟨rfl,e⟩|⟨_,e⟩
          ·rw[e]at hl;rcases aP _ _ _ _ _ hl with ⟨rfl,_,_⟩|⟨_,hl⟩
           ·exact absurd rfl hq
           ·exact hl
          ·rw[e]at hl;rcases am EPO q (bN (st EPO)) st with ⟨rfl,e⟩|⟨_,e⟩ <;> rw[e]at hl <;> exact hl
        have h1:=h.retell hV hR hlj trivial hcs trivial (bs':=bs') g1 (λk hk=>hfree k (hsub k hk)) (λ_ _ _=>rfl) (Nat.le_refl _) rfl rfl rfl;have hs1:cm V W (W.tell r j bs') st (ac [(r,⟨(st r).ver,(st r).sh,aQ (st r).ls j (.own p' (some (i,off)) E' e' xs')⟩)] (ac [(EPO,bN (st EPO))] st)) w w :=
         ⟨λq=>⟨hR.ver q,λ_=>rfl⟩,λb hb=>⟨(gC hR.sh b).2 hb,rfl⟩,λ_ h=>h,λ_ _=>rfl,λhe=>by have:=hR.epo;omega⟩
        have hvT:(ac [(r,⟨(st r).ver,(st r).sh,aQ (st r).ls j (.own p' (some (i,off)) E' e' xs')⟩)] (ac [(EPO,bN (st EPO))] st) TMP).ver=(st TMP).ver:=by
         rw[aI (Ne.symm hrT),aI gS.2.2]
        obtain⟨h2,hs2⟩:=h1.putGhost hV TMP gS.1 gS.2.1 ((st TMP).ver+1) .one [.own (p'&&e'.shy) none E1 e1 ys] [u] (λ_=>bn) (by rw[hvT];exact Nat.lt_succ_self _) rfl (λx hx=>by simp at hx;subst hx;exact g2.one)
         (λq l x hq hx=>by
          cases q with
          |zero=>simp at hq hx;subst hq;subst hx;exact⟨g2.1,(OwB.shy g2.2).carry (bL (W':=W) (by intro hh;simp only[Bool.and_eq_true]at hh ⊢;exact⟨hh.1,lO hga hh.2⟩) (λ_ h=>h)) (λ_ _=>rfl) (λ_ _=>rfl)⟩
          |succ q=>simp at hq)
         (λq l hq _ k hk=>by
          obtain⟨q1,q2,q3,q4⟩:=hfree k (hsubn k hk).1;refine⟨q1,q2,λb hb=>q3 b ((gC hR.sh b).1 hb),λr1 i1 l1 _ hl1 ho1 hk1=>?_⟩;by_cases hq:(r1,i1)=(r,j)
          ·cases hq;rw[show (W.tell r j bs').bs r j=bs' from if_pos rfl]at hk1;exact (hsubn k hk).2 hk1
          ·rw[show (W.tell r j bs').bs r1 i1=W.bs r1 i1 from if_neg hq]at hk1;exact q4 r1 i1 l1 (hR.old r1 i1 l1 hq hl1) ho1 hq hk1)
         (λq q' l l2 h1 h2 h3 h4 k h5 h6=>by
          have h7:q<1:=(List.getElem?_eq_some_iff.1 h1).1;have h8:q'<1:=(List.getElem?_eq_some_iff.1 h3).1;omega)
        have hlook:ac [(r,⟨(st r).ver,(st r).sh,aQ (st r).ls j (.own p' (some (i,off)) E' e' xs')⟩),(TMP,⟨(st TMP).ver+1,.one,[.own (p'&&e'.shy) none E1 e1 ys]⟩),(EPO,bN (st EPO))] st =
          ac [(TMP,⟨(st TMP).ver+1,.one,[.own (p'&&e'.shy) none E1 e1 ys]⟩)] (ac [(r,⟨(st r).ver,(st r).sh,aQ (st r).ls j (.own p' (some (i,off)) E' e' xs')⟩)] (ac [(EPO,bN (st EPO))] st)):=by
         rw[aN r,aN TMP,lL hrT]
        rw[hlook];refine⟨_,_,_,_,_,_,h2,hs1.trans hs2,rfl,⟨by rw[bg];exact Nat.le_refl _,λ_=>by simp⟩,by rw[bg],by rw[bg],rfl,rfl,λq hq=>by simp[hq,Wit.tell],by simp,λq=>?_,hrT,hrE,i,off,p',E',e',xs',g,cap,?_,?_,?_,hcell⟩
        ·by_cases hq:q=TMP
         ·exact .inr hq
         ·rw[aI hq];exact .inl (hR.sh q)
        ·show (ac [(TMP,_)] _ r).ls[j]?=_;rw[aI hrT,bg];simp only[aQ];rw[List.getElem?_set_self (List.getElem?_eq_some_iff.1 hlj).1]
        ·show (if r=TMP then _ else W.cs r)[j]?=_;rw[if_neg hrT];exact hcs
        ·show g∈(if r=TMP then _ else (W.tell r j bs').bs r j);rw[if_neg hrT,show (W.tell r j bs').bs r j=bs' from if_pos rfl];obtain⟨_,flat,bss,_,q2,_⟩:=g1;rw[q2];simp[Value.ownBlock]
       ·cases hn
      ·cases hn
    ·cases hn
   ·cases hn
 |_=>simp[ca]at hn
theorem gb {R:Type}(l:Leaf)(κ:Upd->Leaf->Option R):kE st l κ=(ca st l).bind λu=>κ u.1 u.2:=by
 cases l with
 |nal p ks ep loc E e xs =>
  simp only[kE,ca];cases bj st ks ep with
  |false=>rfl
  |true =>
   simp only[cond_true];split
   ·rename_i r j n i sz off;split
    ·rename_i p' E' e' xs' _;cases !Nat.beq r TMP&&!Nat.beq r EPO&&Nat.beq sz e'.cells with
     |false=>rfl
     |true =>
      simp only[cond_true];have hidx:idx xs' (i:Int)=xs'[i]?:=by
       unfold idx;rw[if_neg (by omega)];simp
      rw[hidx];cases xs'[i]? with
      |none=>rfl
      |some y =>
       simp only[Option.bind_some];cases a8 off e' 0 y with
       |none=>rfl
       |some u=>rfl
    ·rfl
   ·rfl
 |_=>rfl
end
end Go.Proofs.YtmcbmojdeikcdaaGreatEv
