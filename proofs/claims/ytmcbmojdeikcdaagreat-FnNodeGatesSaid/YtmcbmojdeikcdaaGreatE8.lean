/- A law's closing: what is handed in is read; behind the call it reads as it did. -/
import Derived.Test.YtmcbmojdeikcdaaGreatE7
import Derived.ProofKit
namespace Go.Proofs.YtmcbmojdeikcdaaGreatEv
open Go Go.RowKit Go.ChangeShapes Go.WideShapes
section
variable {H:Type} {enc:TypeId×Value->H} {P:Program}
theorem lq (hl:laidOutB P=true){W W':World}{sp:Nat->Bool}:∀ {ts:List TypeId} {vs:List Value} {ds:List (DataW H)} {ps:List MemPlace},(∀ t∈ts,P.readableRec t=true/\t<P.types.size) ->
  DataW.TrodAll enc P W 0 (λ_=>true) true ts vs ds ps->(∀ x∈ps,W.sameAt W' x)->(∀ x∈ps,sp x.block=true)->DataW.TrodAll enc P W' 0 sp true ts vs ds ps
 |[],[],[],_,_,h,_,_=>h
 |[],[],_::_,_,_,h,_,_=>h.elim
 |[],_::_,_,_,_,h,_,_=>h.elim
 |_::_,[],_,_,_,h,_,_=>h.elim
 |_::_,_::_,[],_,_,h,_,_=>h.elim
 |t::ts,v::vs,d::ds,ps,ht,⟨p,q,h1,h2,e⟩,hs,hsp=>by
  subst e;refine⟨p,q,WideElems.Trod_stays hl (ht t (List.mem_cons_self ..)).1 (ht t (List.mem_cons_self ..)).2 h1 (λx hx=>hs x (List.mem_append_left _ hx)) (λx hx=>hsp x (List.mem_append_left _ hx)),
   lq hl (λt' h'=>ht t' (List.mem_cons_of_mem _ h')) h2 (λx hx=>hs x (List.mem_append_right _ hx)) (λx hx=>hsp x (List.mem_append_right _ hx)),rfl⟩
theorem qs (hl:laidOutB P=true){f:Func}{s:ChangeSpec}{apart fresh handsOn again:Bool}{W W':World}{args:Array Value}{ds gs:List (DataW H)}{before:List MemPlace}
  (hW:DataW.Whole enc P f.params.toList s.vars apart W args.toList ds gs before) (hvars:s.vars=[]) (hb:Below W.heap.size W W') (hread:∀ t∈f.params.toList,P.readableRec t=true/\t<P.types.size)
  {tb:TypeId} (hrt:f.resultTypes=#[tb]) (hbool:P.underlying tb=some .bool) (hres:(s.fn H (ds++gs)).results=[.lit (.bool true)]) (hargs:(s.fn H (ds++gs)).args=ds) (hvs:(s.fn H (ds++gs)).vars=[]) :
  s.post enc P f apart fresh handsOn again W args (.bool true) W':=by
 have hlt:∀ p∈before,p.block<W.heap.size:=λp hp=>by simpa using hW.lt p hp
 have hW':=hW;obtain⟨p,q,hA,hV,e,hz,hn⟩:=hW;rw[hvars]at hV;obtain⟨rfl,rfl⟩:=trodVars_none hV;simp only[List.append_nil]at e;subst e;have hsame:∀ x∈before,W.sameAt W' x:=λx hx=>hb.same (hlt x hx)
 have hrl:(Value.bool true).resultList f.resultTypes.size=[.bool true]:=by rw[hrt];rfl
 have hr:∀ (b:Nat) (sp:Nat->Bool) (hd:Bool),DataW.TrodAll enc P W' b sp hd f.resultTypes.toList ((Value.bool true).resultList f.resultTypes.size) (s.fn H (ds++[])).results []:=by
  intro b sp hd;rw[hrl,hres,hrt];exact trodAll_mk1 (shut_bool hbool true)
 have ha:∀ (sp:Nat->Bool),(∀ x∈before,sp x.block=true)->DataW.TrodAll enc P W' 0 sp true f.params.toList args.toList (s.fn H (ds++[])).args before:=by
  intro sp hsp;rw[hargs];exact lq hl hread hA hsame hsp
 have hv:∀ (sp:Nat->Bool),DataW.TrodVars enc P W' sp s.vars (s.fn H (ds++[])).vars []:=by
  intro sp;rw[hvars,hvs];rfl
 refine⟨ds,[],before,[],before,[],hW',hr _ _ _,ha _ (λx hx=>by simpa using hlt x hx),hv _,hb.frame _,λ_=>⟨ok_one hrt rfl (okWide_bool_mk hbool true),_,_,([]++before)++[],⟨[]++before,[],trodAll_append (ha _ (λ_ _=>rfl)) (hr _ _ _),hv _,rfl,?_,?_⟩,?_⟩⟩
 ·intro b off hp;have hp:MemPlace.cell b off∈before:=by simpa using hp
  rw[hb.frozen (p:=⟨b,off,none⟩) (hlt _ hp)];exact hz b off hp
 ·intro hap;have:=hn hap;simpa using this
 ·intro x hx _;simpa using hx
end
end Go.Proofs.YtmcbmojdeikcdaaGreatEv
namespace Go.Proofs.YtmcbmojdeikcdaaGreatEv
open Go Go.RowKit
section
variable {H:Type} {enc:TypeId×Value->H} {P:Program} {w:World} {base:Nat} {spare:Nat->Bool} {held:Bool}
def shF (P:Program)(g:Ty->TypeId->Bool):List Field->Nat->Ty->Bool
 |[],_,_=>false
 |[f],off,b=>Nat.beq f.offset off&&Nat.beq (P.cellsOf f.type) b.cells&&g b f.type
 |f::fs,off,.pair b c=>Nat.beq f.offset off&&Nat.beq (P.cellsOf f.type) b.cells&&g b f.type&&shF P g fs (off+b.cells) c
 |_,_,_=>false
def shT (P:Program):Nat->Ty->TypeId->Bool
 |0,_,_=>false
 |n+1,a,t=>match a with
  |.int k=>(match P.underlying t with|some (.int k')=>decide (k'=k)|_=>false)
  |.bool=>(match P.underlying t with|some .bool=>true|_=>false)
  |.str=>(match P.underlying t with|some .string=>true|_=>false)
  |.pair b c=>(match P.underlying t with|some (.struct fs)=>shF P (shT P n) fs.toList 0 (.pair b c)&&Nat.beq (P.cellsOf t) (b.cells+c.cells)|_=>false)
  |.list _ E e=>(match P.underlying t with|some (.slice E')=>Nat.beq E' E&&Nat.beq (P.cellsOf E) e.cells&&Nat.blt 0 e.cells&&shT P n e E|_=>false)
  |.unit=>false
  |.hdr=>false
def Sm:(a:Ty)->a.den->Prop
 |.int k,n=>(Lit.int k n).wf=true
 |.pair a b,x=>Sm a x.1/\Sm b x.2
 |.list _ _ e,xs=>xs.length<=maxLen/\∀ x∈(xs:List e.den),Sm e x
 |.bool,_=>True
 |.str,s=>s.size<=maxLen
 |.unit,_=>True
 |.hdr,_=>True
theorem jU {α β:Type}{f:α->Option β}:∀ (l:List α) (ys:List β),l.mapM f=some ys->ys.length=l.length/\∀ (i:Nat) (x:α),l[i]?=some x->∃ y,f x=some y/\ys[i]?=some y
 |[],ys,h=>by
  simp at h;subst h;exact⟨rfl,λi x hx=>by simp at hx⟩
 |x::l,ys,h=>by
  rw[List.mapM_cons]at h;cases hf:f x with
  |none=>rw[hf]at h;cases h
  |some y =>
   rw[hf]at h;cases hm:l.mapM f with
   |none=>rw[hm]at h;cases h
   |some zs =>
    rw[hm]at h;cases h;obtain⟨h1,h2⟩:=jU l zs hm;refine⟨by simp[h1],λi u hu=>?_⟩;cases i with
    |zero=>simp at hu;subst hu;exact⟨y,hf,rfl⟩
    |succ i=>simpa using h2 i u (by simpa using hu)
theorem qm {a:Addr}{n:Nat}{cs:List Value}(h:w.cells? base a n=some cs):base<=a.block/\cs.length=n/\∀ i u,cs[i]?=some u->w.cell? (a.add i)=some u:=by
 unfold World.cells? at h;split at h
 ·rename_i hb;obtain⟨h1,h2⟩:=jU _ _ h;refine⟨hb,by simpa using h1,λi u hu=>?_⟩;have hi:i<n:=by have:=(List.getElem?_eq_some_iff.1 hu).1;rw[h1]at this;simpa using this
  obtain⟨y,h3,h4⟩:=h2 i i (by simp[hi]);rw[hu]at h4;cases h4;exact h3
 ·cases h
theorem m7 {g:Ty->TypeId->Bool}{rd:TypeId->List Value->Option (DataW H×List MemPlace)}
  (hg:∀ b t,g b t=true->∀ cs d,rd t cs=some d->∃ x:b.den,Rd w (λk=>k<w.heap.size) b x cs/\Sm b x) :
  ∀ (fs:List Field) (off:Nat) (b:Ty),shF P g fs off b=true->∀ (cs:List Value),cs.length=off+b.cells ->
   (∀ f∈fs,∃ d,rd f.type ((cs.drop f.offset).take (P.cellsOf f.type))=some d)->∃ x:b.den,Rd w (λk=>k<w.heap.size) b x (cs.drop off)/\Sm b x
 |[],_,_,h=>by simp[shF]at h
 |[f],off,b,h=>by
  intro cs hcs hr;simp only[shF,Bool.and_eq_true]at h;obtain⟨⟨h1,h2⟩,h3⟩:=h;have h1:=Nat.eq_of_beq_eq_true h1;have h2:=Nat.eq_of_beq_eq_true h2;obtain⟨d,hd⟩:=hr f (List.mem_cons_self ..);rw[h1,h2,List.take_of_length_le (by simp;omega)]at hd;exact hg b f.type h3 _ d hd
 |f::f'::fs,off,.pair b c,h=>by
  intro cs hcs hr;simp only[shF,Bool.and_eq_true]at h;obtain⟨⟨⟨h1,h2⟩,h3⟩,h4⟩:=h;have h1:=Nat.eq_of_beq_eq_true h1;have h2:=Nat.eq_of_beq_eq_true h2;have hcs:cs.length=off+(b.cells+c.cells):=hcs;obtain⟨d,hd⟩:=hr f (List.mem_cons_self ..);rw[h1,h2]at hd;obtain⟨x,hx,hsx⟩:=hg b f.type h3 _ d hd;obtain⟨y,hy,hsy⟩:=m7 hg (f'::fs) (off+b.cells) c h4 cs (by omega) (λf0 hf0=>hr f0 (List.mem_cons_of_mem _ hf0));refine⟨(x,y),⟨_,_,?_,hx,hy⟩,hsx,hsy⟩;rw[<- List.drop_drop,List.take_append_drop]
 |f::f'::fs,off,.int _,h=>by simp[shF]at h
 |f::f'::fs,off,.bool,h=>by simp[shF]at h
 |f::f'::fs,off,.str,h=>by simp[shF]at h
 |f::f'::fs,off,.unit,h=>by simp[shF]at h
 |f::f'::fs,off,.list _ _ _,h=>by simp[shF]at h
 |f::f'::fs,off,.hdr,h=>by simp[shF]at h
theorem m8 {β:Type}(Q:Nat->β->Prop):∀ (n:Nat),(∀ i,i<n->∃ x,Q i x)->∃ xs:List β,xs.length=n/\∀ i x,xs[i]?=some x->Q i x
 |0,_=>⟨[],rfl,λi x h=>by simp at h⟩
 |n+1,h=>by
  obtain⟨xs,h1,h2⟩:=m8 Q n (λi hi=>h i (by omega));obtain⟨x,hx⟩:=h n (by omega);refine⟨xs++[x],by simp[h1],λi y hy=>?_⟩;by_cases hi:i<n
  ·rw[List.getElem?_append_left (by omega)]at hy;exact h2 i y hy
  ·have hi2:i<(xs++[x]).length:=(List.getElem?_eq_some_iff.1 hy).1;have:i=n:=by simp at hi2;omega
   subst this;rw[List.getElem?_append_right (by omega),h1,Nat.sub_self]at hy;simp at hy;subst hy;exact hx
theorem pD:∀ (n:Nat) (a:Ty) (t:TypeId),shT P n a t=true->∀ (fuel:Nat) (cs:List Value) (d:DataW H×List MemPlace),DataW.trod enc P w base spare held fuel t cs=some d ->
    ∃ x:a.den,Rd w (λk=>k<w.heap.size) a x cs/\Sm a x
  |0,_,_,h=>by simp[shT]at h
  |n+1,a,t,h=>by
    intro fuel cs d hd;cases fuel with
    |zero=>simp[DataW.trod]at hd
    |succ fuel =>
      cases a with
      |int k =>
        simp only[shT]at h;split at h
        · rename_i k' hu
          have hk:=of_decide_eq_true h;subst hk;simp only[DataW.trod,hu]at hd;split at hd <;> first|(rename_i heq;cases heq;done)|skip
          all_goals first
            | (rename_i k1 k2 m heq1
               cases heq1;split at hd
               · rename_i hw
                 obtain⟨rfl,hw⟩:=hw;exact⟨m,rfl,hw⟩
               · cases hd)
            |cases hd
        · cases h
      |bool =>
        simp only[shT]at h;split at h
        · rename_i hu
          simp only[DataW.trod,hu]at hd;split at hd <;> first|(rename_i heq;cases heq;done)|skip
          all_goals first
            |(rename_i b heq1;exact⟨b,rfl,trivial⟩)
            |cases hd
        · cases h
      |str =>
        simp only[shT]at h;split at h
        · rename_i hu
          simp only[DataW.trod,hu]at hd;split at hd <;> first|(rename_i heq;cases heq;done)|skip
          all_goals first
            | (rename_i b heq1
               split at hd
               · rename_i hb
                 exact⟨b,rfl,hb⟩
               · cases hd)
            |cases hd
        · cases h
      |unit=>simp[shT]at h
      |hdr=>simp[shT]at h
      |pair b c =>
        simp only[shT]at h;split at h
        · rename_i fs hu
          simp only[Bool.and_eq_true]at h;obtain⟨h1,h2⟩:=h;have h2:=Nat.eq_of_beq_eq_true h2;simp only[DataW.trod,hu]at hd;split at hd
          · rename_i hlen
            simp only[Option.map_eq_some_iff]at hd;obtain⟨ys,hys,_⟩:=hd;obtain⟨h3,h4⟩:=jU _ _ hys;have:=m7 (w:=w) (rd:=DataW.trod enc P w base spare held fuel) (λb t hb cs d hd=>pD n b t hb fuel cs d hd) fs.toList 0 (.pair b c) h1 cs (by rw[hlen,h2,Nat.zero_add];rfl) (λf hf=>by
              obtain⟨i,hi,e⟩:=List.getElem_of_mem hf;obtain⟨y,h5,_⟩:=h4 i f (by rw[List.getElem?_eq_getElem hi,e]);exact⟨y,h5⟩)
            simpa using this
          · cases hd
        · cases h
      |list m E e =>
        simp only[shT]at h;split at h
        · rename_i E' hu
          simp only[Bool.and_eq_true]at h;obtain⟨⟨⟨h1,h2⟩,h3⟩,h4⟩:=h;have h1:=Nat.eq_of_beq_eq_true h1;subst h1;have h2:=Nat.eq_of_beq_eq_true h2;have h3:0<e.cells:=by simpa[Nat.blt_eq]using h3
          simp only[DataW.trod,hu]at hd;split at hd <;> first|(rename_i heq;cases heq;done)|skip
          all_goals first
            |cases hd;done
            |skip
          · exact⟨[],Rd.nil w _ m _ e,Nat.zero_le _,by simp⟩
          · rename_i E2 ad len cap heq1
            cases heq1;split at hd
            · rename_i hc
              obtain⟨hbase,hlc,hcm⟩:=hc;obtain⟨els,hels,_⟩:=Option.bind_eq_some_iff.1 hd;obtain⟨h5,h6⟩:=jU _ _ hels;have hel:∀ i,i<len->∃ x:e.den,∃ c,w.cells? base (ad.add (i*e.cells)) e.cells=some c/\Rd w (λk=>k<w.heap.size) e x c/\Sm e x:=by
                intro i hi;obtain⟨y,h7,_⟩:=h6 i i (by simp[hi]);obtain⟨c,h8,h9⟩:=Option.bind_eq_some_iff.1 h7;rw[h2]at h8;obtain⟨x,hx,hsx⟩:=pD n e _ h4 fuel c y h9;exact⟨x,c,h8,hx,hsx⟩
              obtain⟨xs,hxl,hxs⟩:=m8 (λi (x:e.den)=>∃ c,w.cells? base (ad.add (i*e.cells)) e.cells=some c/\Rd w (λk=>k<w.heap.size) e x c/\Sm e x) len hel;refine⟨xs,⟨some ad,cap,by rw[hxl],by omega,λhp=>?_⟩,by omega,λx hx=>?_⟩
              · have hlt:0<xs.length:=hp
                obtain⟨c,hc1,hc2,_⟩:=hxs 0 xs[0] (List.getElem?_eq_getElem hlt);obtain⟨_,hc3,hc4⟩:=qm hc1;have h0:0<c.length:=by omega
                have hcell:=hc4 0 c[0] (List.getElem?_eq_getElem h0);have e0:(ad.add (0*e.cells)).add 0=ad:=by simp[Addr.add]
                rw[e0]at hcell;have hspot:ad.spot=none/\ad.block<w.heap.size:=by
                  unfold World.cell? at hcell;split at hcell
                  · rename_i hh
                    split at hcell
                    · cases hcell
                    · rename_i hs
                      refine⟨by simpa using hs,(Array.getElem?_eq_some_iff.1 hh).1⟩
                  · cases hcell
                obtain⟨g,o,sp⟩:=ad;obtain⟨hs1,hs2⟩:=hspot;simp only at hs1 hs2;subst hs1;refine⟨g,o,rfl,hs2,λj x hj=>?_⟩;obtain⟨c,hc1,hc2,_⟩:=hxs j x hj;obtain⟨_,_,hc4⟩:=qm hc1;refine⟨c,hc2,λi u hi=>?_⟩;have:=hc4 i u hi
                rwa [er,er]at this
              · obtain⟨j,hj,e1⟩:=List.getElem_of_mem hx
                obtain⟨c,_,_,hs⟩:=hxs j x (by rw[List.getElem?_eq_getElem hj,e1]);exact hs
            · cases hd
        · cases h
end
end Go.Proofs.YtmcbmojdeikcdaaGreatEv
namespace Go.Proofs.YtmcbmojdeikcdaaGreatEv
open Go Go.RowKit Go.ChangeShapes Go.WideShapes
section
variable {H:Type} {enc:TypeId×Value->H} {P:Program} {w:World}
theorem xm {n:Nat}{a:Ty}{t:TypeId}(hs:shT P (n+1) a t=true){v:Value}{d:DataW H}{p:List MemPlace}(hr:DataW.Trod enc P w 0 (λ_=>true) true t v d p){base:Nat}(hok:Value.okWide P w .any base t v) :
  ∃ x:a.den,(∃ cs,cV a.isAgg v cs/\Rd w (λk=>k<w.heap.size) a x cs)/\Sm a x:=by
 obtain⟨fuel,hr⟩:=hr;obtain⟨x,hx,hsx⟩:=pD (n+1) a t hs fuel _ _ hr;refine⟨x,⟨v.cells.toList,?_,hx⟩,hsx⟩;cases a with
 |int k =>
  simp only[shT]at hs;split at hs
  ·rename_i k' hu;obtain⟨n,rfl⟩:=okWide_int hu hok;rfl
  ·cases hs
 |bool =>
  simp only[shT]at hs;split at hs
  ·rename_i hu;obtain⟨n,rfl⟩:=okWide_bool hu hok;rfl
  ·cases hs
 |str =>
  simp only[shT]at hs;split at hs
  ·rename_i hu;obtain⟨n,rfl⟩:=okWide_string hu hok;rfl
  ·cases hs
 |list m E e =>
  simp only[shT]at hs;split at hs
  ·rename_i E' hu;obtain⟨A,len,cap,rfl⟩:=okWide_slice hu hok;rfl
  ·cases hs
 |unit=>simp[shT]at hs
 |hdr=>simp[shT]at hs
 |pair b c =>
  simp only[shT]at hs;split at hs
  ·rename_i fs hu;obtain⟨cs,rfl,_⟩:=okWide_struct hu hok;show Value.agg cs=.agg (Value.agg cs).cells.toList.toArray;simp[Value.cells]
  ·cases hs
def Sms:(as:List Ty)->ab (as.map .rd)->Prop
 |[],_=>True
 |a::as,x=>Sm a x.1/\Sms as x.2
def si (P:Program):List Ty->List TypeId->Bool
 |[],[]=>true
 |a::as,t::ts=>shT P 64 a t&&si P as ts
 |_,_=>false
theorem qn {pr:Nat->Prop}:∀ (as:List Ty) (ts:List TypeId) (vs:List Value) (ds:List (DataW H)) (ps:List MemPlace),si P as ts=true->DataW.TrodAll enc P w 0 (λ_=>true) true ts vs ds ps ->
  (∃ base,∀ (j:Nat) (t:TypeId) (v:Value),ts[j]?=some t->vs[j]?=some v->Value.okWide P w .any base t v)->∃ x:ab (as.map .rd),cW P w (λk=>k<w.heap.size) pr (as.map .rd) x vs (as.map λ_=>[])/\Sms as x
 |[],[],[],[],_,_,_,_=>⟨(),⟨rfl,rfl⟩,trivial⟩
 |[],[],[],_::_,_,_,h,_=>h.elim
 |[],[],_::_,_,_,_,h,_=>h.elim
 |[],_::_,_,_,_,h,_,_=>by simp[si]at h
 |_::_,[],_,_,_,h,_,_=>by simp[si]at h
 |_::_,_::_,[],_,_,_,h,_=>h.elim
 |_::_,_::_,_::_,[],_,_,h,_=>h.elim
 |a::as,t::ts,v::vs,d::ds,ps,hs,⟨p,q,h1,h2,_⟩,⟨base,hok⟩=>by
  simp only[si,Bool.and_eq_true]at hs;obtain⟨x,hx,hsx⟩:=xm (n:=63) hs.1 h1 (hok 0 t v rfl rfl);obtain⟨y,hy,hsy⟩:=qn as ts vs ds q hs.2 h2 ⟨base,λj t' v' h3 h4=>hok (j+1) t' v' (by simpa using h3) (by simpa using h4)⟩;exact⟨(x,y),⟨v,vs,[],_,rfl,rfl,⟨rfl,hx⟩,hy⟩,hsx,hsy⟩
theorem xn (tys:List Ty):(tys.map λ_=>([]:List Nat)).flatten=[]:=by
 induction tys with
 |nil=>rfl
 |cons a tys ih=>simp
theorem wb {f:FuncId}{tys:List Ty}{fresh:Bool}{den:ab (tys.map PK.rd)->Option (ak [.v .bool]×aj (tys.map PK.rd))}(hs:ag P ⟨f,tys.map .rd,[.v .bool],fresh,den⟩){x:ab (tys.map .rd)}{vs:List Value}{o:aj (tys.map .rd)}
  (hx:cW P w (λk=>k<w.heap.size) (λk=>k<w.heap.size) (tys.map .rd) x vs (tys.map λ_=>[])) (hd:den x=some ((true,()),o)):Calls P f vs.toArray w (λe w'=>e=.returned (.bool true)/\Below w.heap.size w w'):=by
 have hb:=xn tys;have:=hs.2 w (λk=>k<w.heap.size) x vs _ _ (hx.mono (λ_ h=>h) (λk hk=>⟨hk,by rw[hb];simp⟩)) (λk hk=>⟨hk,by rw[hb];simp⟩) (by rw[hb];exact List.nodup_nil) hd;refine this.mono λe w' hp=>?_
 obtain⟨v,us,N,oss,rbs,rfl,hret,hsz,hos,htp,hou,hfr,_,_,hres,_,_⟩:=hp;refine⟨?_,⟨hos,htp,hou,hsz,λk hk=>hfr k hk (by rw[hb];simp)⟩⟩;obtain⟨u,us',b,bss',e1,e2,⟨cs,hvo,hm⟩,e3,e4⟩:=hres;subst e3;subst e1;have hret:v=u:=hret;subst hret;have hvo:cs=[v]:=hvo;have hm:cs=[.bool true]:=hm.1;rw[hvo]at hm;simp only[List.cons.injEq,and_true]at hm;rw[hm]
end
end Go.Proofs.YtmcbmojdeikcdaaGreatEv
