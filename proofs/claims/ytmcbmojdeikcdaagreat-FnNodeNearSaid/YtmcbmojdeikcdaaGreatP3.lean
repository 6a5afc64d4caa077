/- Worlds, by the specification: what happens to them comes to an end. -/
import Derived.Test.YtmcbmojdeikcdaaGreatP2
set_option linter.unusedVariables false
set_option linter.unusedSimpArgs false
open Bool renaming eq_iff_iff->Ao,and_self->Aq,and_comm->Ar,not_true->At
open Int renaming toNat_natCast->AD,toNat->AE,eq_ofNat_of_zero_le->AK,toNat_zero->AL,tmod->AS,toNat_of_nonneg->Ah
open List renaming length->AC,mem_singleton->AF,nil_append->AG,length_set->AH,getElem_mem->AJ,drop_zero->AM,reverse_reverse->AN,length_take->AO,mem_append->AP,length_append->AQ,filter_filter->AR,take_length->AT,getElem_of_mem->AU,length_drop->AW,cons_append->AX,filter_cons_of_pos->AY,filter_cons_of_neg->AZ,length_nil->Aa,mem_filter->Ab,map_append->Ac,length_filter_le->Ad,mem_of_mem_take->Ag,mem_map->Ai,append_assoc->Aj,length_cons->Ak,not_mem_nil->Al,filter_cons->Am,append_nil->An,mem_cons->Ap
open Nat renaming le_succ_of_le->AA,le_trans->AI,le_refl->AV,zero_le->Ae,le_succ->Af
open Option renaming bind_some->AB
namespace Go.Proofs.YtmcbmojdeikcdaaGreatEv
open Go
theorem UpN.nb {n:aa}(h:UpN n):NB n where
 table:=cI h.x.table
 cast:=by have:=clen h.x.say;omega
 doubts:=h.x.say.ld
 by_:=λd hd=>by have:=(h.learns.by_ d hd).len;omega
 places:=plen h.x.places
 trips:=λp hp=>by have:=(h.x.places.1 p hp).2.2.2.2.1.2;omega
 others:=olen h.x.others
 facts:=λx hx=>cI (h.x.others.1 x hx).2.2.2.1
def iC (me:Int)(g:Bool):aa:=(me,false,false,g,0,0,0,0,[],[],(0,0,0,false),[],(0,0,0,0),[],[])
structure dv (i:Nat) (n:aa):Prop where
 me:n.1=(i:Int)
 lt:i<8
 up:n.2.1=true->UpN n
 down:n.2.1=false->n=iC n.1 n.2.2.2.1
theorem dv.nb {i:Nat}{n:aa}(h:dv i n):NB n:=by
 cases hu:n.2.1 with
 |true=>exact (h.up hu).nb
 |false =>
  rw[h.down hu];exact⟨by simp[iC,aa.table],by simp[iC,aa.cast],by simp[iC,aa.doubts],by simp[iC,aa.doubts],by simp[iC,aa.places],by simp[iC,aa.places],by simp[iC,aa.others],by simp[iC,aa.others]⟩
theorem dv.short {i:Nat}{n:aa}(h:dv i n):(aa.table n).length<=4:=by
 cases hu:n.2.1 with
 |true=>exact sL (h.up hu).x.table (h.up hu).x.site
 |false=>rw[h.down hu];exact Ae _
theorem dv.of {i:Nat}{n m:aa}(h:dv i n)(hm:UpN m)(e:m.1=n.1):dv i m:=⟨e.trans h.me,h.lt,λ_=>hm,λhu=>by rw[hm.up]at hu;cases hu⟩
def fY (l:List kE):Prop:=l.length<=60/\∀ f∈l,InP f.1 0 7/\f.2.1.size<=2000
structure WI (w:bW) (c:Nat):Prop where
 len:w.1.length=8
 node:∀ (i:Nat) (h:i<w.1.length),dv i w.1[i]
 radio:fY w.2.1
 sides:w.2.2.1.length=8
 born:w.2.2.2.length<=c
theorem WI.mono {w:bW}{c d:Nat}(h:WI w c)(hc:c<=d):WI w d:=⟨h.len,h.node,h.radio,h.sides,AI h.born hc⟩
theorem WI.put {w:bW}{c:Nat}(h:WI w c){i:Nat}{n:aa}(hn:dv i n){rd:List kE}(hr:fY rd){b:List ag}{d:Nat}(hb:b.length<=d):WI (w.1.set i n,rd,w.2.2.1,b) d:=by
 refine⟨by rw[AH];exact h.len,λj hj=>?_,hr,h.sides,hb⟩;show dv j ((w.1.set i n)[j]'hj);rw[List.getElem_set];split
 ·rename_i e;exact e ▸ hn
 ·exact h.node j _
theorem vN (K:Nat)(w:bW)(fr:Int)(ws:List au)(hs:w.2.2.1.length=8)(hf:InP fr 0 7)(hw:∀ x∈ws,gu x)(hr:fY w.2.1)(hl:ws.length<=1000)(hK:1048577<K) :
  Tot (Q27.f K (w,fr,ws,())) λr=>∃ rd,fY rd/\r.1.1=(w.1,rd,w.2.2):=by
 simp only[Q27.f,Q27.pre];obtain⟨f0,f1⟩:=hf;refine Tot.iter (step:=λrec a=>Q27.l0.step K (w,fr,ws,()) rec a) (λa=>0<=a.1/\a.1<=ws.length/\fY a.2) (λa=>ws.length-a.1.toNat) ?_ K _ (by show ws.length-AE 0<K;omega) ⟨by show (0:Int)<=0;omega,by show (0:Int)<=_;omega,hr⟩;rintro rec ⟨i,rd⟩ ⟨h0,h1,h2⟩ ih;simp only at h0 h1 h2 ih ⊢;simp only[Q27.l0.step];refine Tot.cnd (λh=>?_) λ_=>Tot.ret ⟨rd,h2,rfl⟩
 have h:=of_decide_eq_true h;rw[aL (n:=i+1) (by omega) (by omega)];have go:∀ rd',fY rd'->Tot (rec (i+1,rd')) λr=>∃ rd,fY rd/\r.1.1=(w.1,rd,w.2.2):=λrd' hr'=>ih _ ⟨by show 0<=i+1;omega,by show i+1<=_;omega,hr'⟩ (by show ws.length-AE (i+1)<ws.length-AE i;omega)
 refine Tot.cnd (λh3=>?_) λ_=>go rd h2
 have h3:=of_decide_eq_true h3;refine Tot.ix f0 (by omega) λ_ _ _=>Tot.ix h0 h λy2 hy2 _=>?_
 obtain⟨⟨t0,t1⟩,_⟩:=hw y2 hy2;refine Tot.ix t0 (by omega) λ_ _ _=>Tot.cnd (λ_=>Tot.fit (Tot.ix h0 h λy4 hy4 _=>Tot.ix h0 h λy5 hy5 _=>Tot.bind (mU K y5 (hw y5 hy5).2 hK) λv hv=>Tot.fit (go _ ⟨?_,λf hf=>?_⟩) (by omega) ?_) (by omega) ?_) λ_=>go rd h2
 ·simp;omega
 ·rcases AP.1 hf with hf|hf
  ·exact h2.2 f (by simpa using hf)
  ·rw[AF.1 hf];exact⟨(hw y4 hy4).1,by show v.1.1.size<=2000;have:=hv.1;omega⟩
 ·simp;omega
 ·simp;omega
theorem Tot.ins {α:Type}{l:List α}{x:α}{a:Int}{c:Nat}{Q:(List α×Unit)×Unit->Prop}(h0:0<=a)(h1:a<=l.length)(hl:l.length<=1048576)(hc:c<=64)(k:∀ r:List α,r.length=l.length+1->Q ((r,()),())) :
  Tot (bif decide ((0:Int)<=0)&&decide (0<=a)&&decide (a<=(AC l:Int))&&true then (bif decide ((AC ([]:List α)+AC ((l.take (AE a)).drop (AE 0)))*c<=ah) then (bif decide ((AC ([]++((l.take (AE a)).drop (AE 0)))+AC ([x]))*c<=ah) then (bif decide (0<=a)&&decide (a<=(AC l:Int))&&decide ((AC l:Int)<=(AC l:Int))&&true then (bif decide ((AC (([]++((l.take (AE a)).drop (AE 0)))++([x]))+AC ((l.take (AE (AC l:Int))).drop (AE a)))*c<=ah) then (some (((([]++((l.take (AE a)).drop (AE 0)))++([x]))++((l.take (AE (AC l:Int))).drop (AE a)),()),())) else none) else none) else none) else none) else none) Q:=by
 obtain⟨m,rfl⟩:=AK h0;refine Tot.must (by simp;omega) (Tot.fit (Tot.fit (Tot.must (by simp;omega) (Tot.fit (Tot.ret (k _ ?_)) (by omega) ?_)) (by omega) ?_) (by omega) ?_) <;>
 simp only[AD,AL,AM,AG,AQ,AO,AW,Ak,Aa] <;> omega
theorem xc (K:Nat)(f g:ag):Tot (Q30.f K (f,g,())) λ_=>True:=by
 simp only[Q30.f];exact Tot.cnd (λ_=>Tot.ret trivial) λ_=>Tot.bind (rq K g f).tot λ_ _=>Tot.ret trivial
theorem vO (K:Nat)(l:List ag)(f:ag)(hl:l.length<=1048576)(hK:1048577<K):Tot (Q31.f K (l,f,())) λr=>r.1.1.length<=l.length+1:=by
 simp only[Q31.f,Q31.pre];refine Tot.iter (A:=Int) (step:=λrec a=>Q31.l0.step K (l,f,()) rec a) (λa=>0<=a/\a<=l.length) (λa=>l.length-a.toNat) ?_ K _ (by show l.length-AE 0<K;omega) ⟨by show (0:Int)<=0;omega,by show (0:Int)<=_;omega⟩;rintro rec i ⟨h0,h1⟩ ih;simp only[Q31.l0.step];have hfit:=λ (h1:i<=l.length)=>Tot.ins (x:=f) (c:=32) (Q:=λr=>r.1.1.length<=l.length+1) h0 h1 hl (by omega) λr hr=>by show r.length<=_;omega
 have hsame:l.length<=l.length+1:=Af _;refine Tot.cnd (λh=>?_) λ_=>Tot.cnd (λh=>Tot.ix h0 (of_decide_eq_true h) λ_ _ _=>Tot.cnd (λ_=>Tot.ret hsame) λ_=>hfit h1) λ_=>hfit h1
 have h:i<(l.length:Int):=of_decide_eq_true h;rw[aL (n:=i+1) (by omega) (by omega)];refine Tot.ix h0 h λy1 _ _=>Tot.bind (xc K y1 f) λ_ _=>Tot.cnd (λ_=>ih (i+1) ⟨by show 0<=i+1;omega,by show i+1<=(l.length:Int);omega⟩ (by show l.length-AE (i+1)<l.length-AE i;omega)) λ_=>Tot.cnd (λ_=>Tot.ix h0 h λ_ _ _=>Tot.cnd (λ_=>Tot.ret hsame) λ_=>hfit h1) λ_=>hfit h1
theorem xF (K:Nat)(w:bW)(was heard now:List ag)(h1:was.length<=1048576)(h2:heard.length<=1048576)(h3:now.length<=100)(hb:w.2.2.2.length<=1000000)(hK:1048577<K) :
  Tot (Q32.f K (w,was,heard,now,())) λr=>∃ b,b.length<=w.2.2.2.length+now.length/\r.1.1=(w.1,w.2.1,w.2.2.1,b):=by
 simp only[Q32.f,Q32.pre];refine Tot.iter (step:=λrec a=>Q32.l0.step K (w,was,heard,now,()) rec a) (λa=>0<=a.1/\a.1<=now.length/\(a.2.length:Int)<=w.2.2.2.length+a.1) (λa=>now.length-a.1.toNat) ?_ K _ (by show now.length-AE 0<K;omega) ⟨by show (0:Int)<=0;omega,by show (0:Int)<=_;omega,by show (w.2.2.2.length:Int)<=w.2.2.2.length+0;omega⟩;rintro rec ⟨i,b⟩ ⟨i0,i1,i2⟩ ih;simp only at i0 i1 i2 ih ⊢;simp only[Q32.l0.step];refine Tot.cnd (λh=>?_) λ_=>Tot.ret ⟨b,by omega,rfl⟩
 have h:=of_decide_eq_true h;rw[aL (n:=i+1) (by omega) (by omega)];have go:∀ b':List ag,b'.length<=b.length+1->Tot (rec (i+1,b')) λr=>∃ b,b.length<=w.2.2.2.length+now.length/\r.1.1=(w.1,w.2.1,w.2.2.1,b):=λb' hb'=>ih _ ⟨by show 0<=i+1;omega,by show i+1<=_;omega,by show (b'.length:Int)<=_+(i+1);omega⟩ (by show now.length-AE (i+1)<now.length-AE i;omega)
 refine Tot.ix i0 h λy1 _ _=>Tot.bind (rW K was y1 h1 hK).tot λ_ _=>Tot.cnd (λ_=>?_) λ_=>go b (Af _)
 refine Tot.ix i0 h λy3 _ _=>Tot.bind (rW K heard y3 h2 hK).tot λ_ _=>Tot.cnd (λ_=>?_) λ_=>go b (Af _)
 exact Tot.ix i0 h λy5 _ _=>Tot.bind (vO K b y5 (by omega) hK) λv hv=>go v.1.1 hv
structure xG (w:bW) (i:Nat) (n:aa) (ws:List au) (heard:List ag) (c:Nat):Prop where
 wi:WI w c
 lt:i<8
 n:dv i n
 sent:∀ x∈ws,gu x
 wl:ws.length<=1000
 hl:heard.length<=1048576
 c:c<=1000000
theorem set_t (K:Nat)(w:bW)(i:Nat)(n:aa)(ws:List au)(heard:List ag)(c:Nat)(h:xG w i n ws heard c)(hK:1048577<K):Tot (Q33.f K ((w,i),n,ws,heard,())) λr=>WI r.1.1 (c+4):=by
 simp only[Q33.f];have hi:i<w.1.length:=by rw[h.wi.len];exact h.lt
 have hc:=h.c;have hb:=h.wi.born;have hsh:=h.n.short;rw[h.n.me];refine Tot.vl (ai hi) (Tot.vl (by rw[AD];exact ai hi) (Tot.vl (ai hi) (Tot.vl (by rw[AD];exact ai hi) ?_)));refine Tot.must (by simp) ?_;rw[AD];refine Tot.bind (xF K (w.1.set i n,w.2) (aa.table w.1[i]) heard (aa.table n) (h.wi.node i hi).nb.table h.hl (by omega) (by show w.2.2.2.length<=_;omega) hK) ?_;rintro⟨⟨v,⟨⟩⟩,⟨⟩⟩ ⟨b,hb1,rfl⟩;refine Tot.bind (vN K (w.1.set i n,w.2.1,w.2.2.1,b) (i:Int) ws h.wi.sides ⟨by omega,by have:=h.lt;omega⟩ h.sent h.wi.radio h.wl hK) ?_;rintro⟨⟨v,⟨⟩⟩,⟨⟩⟩ ⟨rd,hr,rfl⟩;have hb1:b.length<=w.2.2.2.length+(aa.table n).length:=hb1;exact Tot.ret (h.wi.put h.n hr (by omega))
theorem zn (K:Nat)(w:bW)(i:Nat)(n:aa)(ws:List au)(heard:List ag)(c:Nat)(h:xG w i n ws heard c)(hK:1048577<K):Tot (Q96.f K (w,n,ws,heard,())) λr=>WI r.1.1 (c+4):=by
 simp only[Q96.f];have hi:i<w.1.length:=by rw[h.wi.len];exact h.lt
 have hc:=h.c;have hb:=h.wi.born;have hsh:=h.n.short;rw[h.n.me];refine Tot.vl (ai hi) (Tot.vl (by rw[AD];exact ai hi) (Tot.vl (ai hi) (Tot.vl (by rw[AD];exact ai hi) ?_)));rw[AD];refine Tot.bind (xF K (w.1.set i n,w.2) (aa.table w.1[i]) heard (aa.table n) (h.wi.node i hi).nb.table h.hl (by omega) (by show w.2.2.2.length<=_;omega) hK) ?_;rintro⟨⟨v,⟨⟩⟩,⟨⟩⟩ ⟨b,hb1,rfl⟩;refine Tot.bind (vN K (w.1.set i n,w.2.1,w.2.2.1,b) (i:Int) ws h.wi.sides ⟨by omega,by have:=h.lt;omega⟩ h.sent h.wi.radio h.wl hK) ?_;rintro⟨⟨v,⟨⟩⟩,⟨⟩⟩ ⟨rd,hr,rfl⟩;have hb1:b.length<=w.2.2.2.length+(aa.table n).length:=hb1;exact Tot.ret (h.wi.put h.n hr (by omega))
theorem p6 (K:Nat)(l:List kE)(at_:Int)(h0:0<=at_)(h1:at_<l.length)(hr:fY l):Tot (Q34.f K (l,at_,())) λr=>fY r.1.1:=by
 have hl:=hr.1;obtain⟨m,rfl⟩:=AK h0;simp only[Q34.f];rw[av m (by omega)];refine Tot.must (by simp;omega) (Tot.fit (Tot.must (by simp;omega) (Tot.fit (Tot.ret ⟨?_,λf hf=>hr.2 f ?_⟩) (by omega) ?_)) (by omega) ?_)
 ·simp only[AD,AL,AM,AG,AQ,AO,AW];omega
 ·simp only[AD,AL,AM,AG,AT]at hf;rcases AP.1 hf with hf|hf
  ·exact Ag hf
  ·exact List.mem_of_mem_drop hf
 ·simp only[AD,AL,AM,AG,AQ,AO,AW];omega
 ·simp only[AD,AL,AM,AG,AO,Aa];omega
theorem p7 (K:Nat)(w:bW)(c:Nat)(h:WI w c)(hc:c<=1000000)(to:Int)(t0:0<=to)(t1:to<=7)(x:au)(hx:gY x)(hK:1048577<K){G:aa->aa->Option ((bW×Unit)×Unit)}
  (hG:∀ y:aa,G y y=(Q77.f K (y,x,())).bind λy12=>(Q33.f K ((w,AE to),y12.1.1,y12.1.2.1,au.table x,())).bind λy13=>some ((y13.1.1,()),())) :
  Tot ((idx w.1 to).bind λ_=>(idx w.1 (AE to:Nat)).bind λy10=>(idx w.1 (AE to:Nat)).bind λy11=>G y10 y11) λr=>WI r.1.1 (c+4):=by
 obtain⟨i,rfl⟩:=AK t0;have hi:i<w.1.length:=by rw[h.len];omega
 have hn:=h.node i hi;refine Tot.vl (ai hi) (Tot.vl (by rw[AD];exact ai hi) (Tot.vl (by rw[AD];exact ai hi) ?_));rw[hG,zj K w.1[i] x hn.up (cI hx.2.2.2.2.2.2.2.1) hK];simp only[AB,AD];refine Tot.bind (set_t K w i _ _ _ c ⟨h,hn.lt,?_,?_,?_,cI hx.2.2.2.2.2.2.2.1,hc⟩ hK) λv hv=>Tot.ret hv
 ·cases hu:w.1[i].2.1 with
  |true=>exact hn.of (tw (hn.up hu) hK).1 (tw (hn.up hu) hK).2.1
  |false =>
   rw[show dj K w.1[i] x=(w.1[i],[]) by unfold dj;rw[if_neg λh=>by have:=h.2.1;rw[hu]at this;cases this]];exact hn
 ·cases hu:w.1[i].2.1 with
  |true=>exact λy hy=>(oL (hn.up hu) hK).2 y hy
  |false =>
   rw[show dj K w.1[i] x=(w.1[i],[]) by unfold dj;rw[if_neg λh=>by have:=h.2.1;rw[hu]at this;cases this]];simp
 ·cases hu:w.1[i].2.1 with
  |true=>have:=(oL (w:=x) (hn.up hu) hK).1;omega
  |false =>
   rw[show dj K w.1[i] x=(w.1[i],[]) by unfold dj;rw[if_neg λh=>by have:=h.2.1;rw[hu]at this;cases this]];simp
theorem yj (K:Nat)(w:bW)(c:Nat)(h:WI w c)(hc:c<=1000000)(at_:Int)(keep:Bool)(h0:0<=at_)(h1:at_<w.2.1.length)(hK:1048577<K):Tot (Q78.f K (w,at_,keep,())) λr=>WI r.1.1 (c+4):=by
 simp only[Q78.f];refine Tot.ix2 h0 h1 λf hf _=>?_
 obtain⟨⟨t0,t1⟩,hsz⟩:=h.radio.2 f hf;have hs:=h.sides;refine Tot.cnd (λ_=>Tot.bind (p6 K w.2.1 at_ h0 h1 h.radio) ?_) λ_=>Tot.bind (oE K f.2.1 (by omega) hK) ?_
 ·rintro⟨⟨rd,⟨⟩⟩,⟨⟩⟩ hr;have hW:WI (w.1,rd,w.2.2) (c+4):=⟨h.len,h.node,hr,h.sides,AI h.born (by omega)⟩;refine Tot.bind (oE K f.2.1 (by omega) hK) ?_;rintro⟨⟨(x:au),ok,⟨⟩⟩,⟨⟩⟩ hx;refine Tot.cnd (λ_=>Tot.ret hW) λh2=>?_
  have hx:gY x:=hx (by simpa using h2);obtain⟨fr0,fr1⟩:=hx.2.2.1;have hfr:x.2.2.1<(w.2.2.1.length:Int):=by rw[hs];omega
  refine Tot.ix2 fr0 hfr λ_ _ _=>Tot.ix2 t0 (by omega) λ_ _ _=>Tot.cnd (λ_=>Tot.ret hW) λ_=>Tot.cnd (λ_=>Tot.ret hW) λ_=>?_
  exact p7 K (w.1,rd,w.2.2) c ⟨h.len,h.node,hr,h.sides,h.born⟩ hc f.1 t0 t1 x hx hK (G:=λy10 y11=>(Q77.f K ((y10.1,(y10.2.1,(y10.2.2.1,(y10.2.2.2.1,(y10.2.2.2.2.1,(y10.2.2.2.2.2.1,(y10.2.2.2.2.2.2.1,(y10.2.2.2.2.2.2.2.1,(y10.2.2.2.2.2.2.2.2.1,(y10.2.2.2.2.2.2.2.2.2.1,(y10.2.2.2.2.2.2.2.2.2.2.1,(y11.2.2.2.2.2.2.2.2.2.2.2.1,y10.2.2.2.2.2.2.2.2.2.2.2.2)))))))))))),x,())).bind λy12=>(Q33.f K (((w.1,rd,w.2.2),AE f.1),y12.1.1,y12.1.2.1,au.table x,())).bind λy13=>some ((y13.1.1,()),())) λy=>rfl
 ·rintro⟨⟨(x:au),ok,⟨⟩⟩,⟨⟩⟩ hx;have hW:WI w (c+4):=h.mono (by omega);refine Tot.cnd (λ_=>Tot.ret hW) λh2=>?_
  have hx:gY x:=hx (by simpa using h2);obtain⟨fr0,fr1⟩:=hx.2.2.1;have hfr:x.2.2.1<(w.2.2.1.length:Int):=by rw[hs];omega
  refine Tot.ix2 fr0 hfr λ_ _ _=>Tot.ix2 t0 (by omega) λ_ _ _=>Tot.cnd (λ_=>Tot.ret hW) λ_=>Tot.cnd (λ_=>Tot.ret hW) λ_=>?_
  exact p7 K w c h hc f.1 t0 t1 x hx hK (G:=λy10 y11=>(Q77.f K ((y10.1,(y10.2.1,(y10.2.2.1,(y10.2.2.2.1,(y10.2.2.2.2.1,(y10.2.2.2.2.2.1,(y10.2.2.2.2.2.2.1,(y10.2.2.2.2.2.2.2.1,(y10.2.2.2.2.2.2.2.2.1,(y10.2.2.2.2.2.2.2.2.2.1,(y10.2.2.2.2.2.2.2.2.2.2.1,(y11.2.2.2.2.2.2.2.2.2.2.2.1,y10.2.2.2.2.2.2.2.2.2.2.2.2)))))))))))),x,())).bind λy12=>(Q33.f K (((w.1,w.2),AE f.1),y12.1.1,y12.1.2.1,au.table x,())).bind λy13=>some ((y13.1.1,()),())) λy=>rfl
theorem yk (K:Nat)(w:bW)(c:Nat)(h:WI w c)(at_ draw:Int)(h0:0<=at_)(h1:at_<w.2.1.length):Tot (Q79.f K (w,at_,draw,())) λr=>WI r.1.1 c:=by
 simp only[Q79.f];refine Tot.ix2 h0 h1 λf hf _=>?_
 obtain⟨hto,hsz⟩:=h.radio.2 f hf;refine Tot.cnd (λ_=>Tot.ret h) λ_=>Tot.cnd (λ_=>Tot.ret h) λh2=>?_
 have hne:¬ (f.2.1.size:Int)=0:=by simpa using h2
 obtain⟨b0,b1⟩:=kF (a:=draw) (m:=4095) (by omega);have b0:0<=bh .i64 draw 4095:=b0;have m0:0<=AS (bh .i64 draw 4095) (f.2.1.size:Int):=Int.tmod_nonneg _ b0;have m1:AS (bh .i64 draw 4095) (f.2.1.size:Int)<((dR f.2.1).length:Int):=by rw[pX];exact Int.tmod_lt_of_pos _ (by omega)
 refine Tot.not (decide_eq_false hne) (Tot.ix2 m0 m1 λ_ _ _=>Tot.ix2 m0 m1 λ_ _ _=>Tot.ix2 h0 h1 λ_ _ _=>Tot.ret ⟨h.len,h.node,⟨?_,λg hg=>?_⟩,h.sides,h.born⟩)
 ·show (w.2.1.set _ _).length<=60;rw[AH];exact h.radio.1
 ·rcases List.mem_or_eq_of_mem_set hg with hg|rfl
  ·exact h.radio.2 g hg
  ·refine⟨hto,?_⟩;show (fT _).size<=2000;rw[hX,AH,pX];exact hsz
def lk (i:Int)(g:Bool):aa:=(i,true,false,g,0,0,0,0,[(i,0,1,g)],[],(-1,0,0,false),[],(0,0,0,1500),[],[])
theorem yl {i:Int}{g:Bool}(h:InP i 0 7):UpN (lk i g):=by
 refine⟨⟨h,Int.le_refl _,⟨λf hf=>?_,List.pairwise_singleton _ _⟩,λf hf=>?_,⟨λx hx=>(nomatch hx),List.Pairwise.nil⟩,λx hx=>(nomatch hx),?_,⟨λd hd=>(nomatch hd),List.Pairwise.nil,rfl⟩,⟨?_,?_,?_,?_⟩,⟨λp hp=>(nomatch hp),List.Pairwise.nil⟩,⟨λp hp=>(nomatch hp),List.Pairwise.nil⟩⟩,?_,?_,⟨?_,?_⟩,?_,rfl⟩
 ·rw[AF.1 hf];exact⟨h,⟨by show (0:Int)<=0;omega,by show (0:Int)<=999;omega⟩,by show (1:Int)<=1;omega,by show (1:Int)<=4;omega⟩
 ·rw[AF.1 hf];rfl
 ·unfold cO;rw[if_pos (show (aa.probe (lk i g)).1=-1 from rfl)];rfl
 ·exact⟨by show (-100000:Int)<=0;omega,by show (0:Int)<=100000;omega⟩
 ·exact⟨by show (-100000:Int)<=0;omega,by show (0:Int)<=100000;omega⟩
 ·exact⟨by show (0:Int)<=0;omega,by show (0:Int)<=100000;omega⟩
 ·exact⟨by show (1:Int)<=1500;omega,by show (1500:Int)<=1500;omega⟩
 ·exact AF.2 rfl
 ·show (0:Int)<=999999;omega
 ·exact⟨by show (0:Int)<=0;omega,by show (0:Int)<=999999;omega⟩
 ·exact⟨by show (0:Int)<=0;omega,by show (0:Int)<=8;omega⟩
 ·exact⟨by show (0:Int)<=0;omega,by show (0:Int)<=999;omega⟩
theorem p8 (K:Nat)(i:Int)(g:Bool)(h:InP i 0 7):Q9.f K (i,g,())=some ((lk i g,()),()):=by
 simp only[Q9.f];obtain⟨b,e,hb⟩:=cq K i 0 7;rw[e,hb.2 h];rfl
theorem dv.new (i:Nat)(g:Bool)(h:i<8):dv i (lk (i:Int) g):=⟨rfl,h,λ_=>yl ⟨by omega,by omega⟩,λhu=>by cases hu⟩
theorem zo (K:Nat)(w:bW)(c:Nat)(h:WI w c)(hc:c<=1000000)(node:Int)(h0:InP node 0 7)(hK:1048577<K):Tot (Q98.f K (w,node,())) λr=>WI r.1.1 (c+4):=by
 have hb:=h.born;have hi:node.toNat<8:=by obtain⟨a,b⟩:=h0;omega
 have hlen:=h.len;simp only[Q98.f,Q10.f,AB];rw[p8 K node _ h0];simp only[AB];refine Tot.ix2 h0.1 (by have:=h0.2;omega) λ_ _ _=>?_
 refine Tot.vl (show idx (lk node (decide (AS node 4<3))).2.2.2.2.2.2.2.2.1 0=some (node,0,1,decide (AS node 4<3)) from rfl) (Tot.bind (vO K w.2.2.2 _ (by omega) hK) λv hv=>Tot.ret (h.put ?_ h.radio (by omega)));have:=dv.new node.toNat (decide (AS node 4<3)) hi
 rwa [Ah h0.1]at this
theorem ym {n:aa}(h:UpN n):(kC n).length<=8/\∀ x∈kC n,gu x:=by
 unfold kC;refine⟨?_,λx hx=>?_⟩
 ·rw[List.length_map];exact AI (Ad _ _) (gZ h.x.table.2 λf hf=>(h.x.table.1 f hf).1)
 ·obtain⟨f,hf,rfl⟩:=Ai.1 hx;exact⟨(h.x.table.1 f (Ab.1 hf).1).1,cI h.x.table⟩
theorem zp (K:Nat)(w:bW)(c:Nat)(h:WI w c)(hc:c<=1000000)(e:ag)(h0:InP e.2.1 0 7)(hK:1048577<K):Tot (Q100.f K (w,e,())) λr=>WI r.1.1 (c+4):=by
 have hlen:=h.len;have hs:=h.sides;obtain⟨kind,node,draw,keep⟩:=e;obtain⟨e0,e1⟩:=h0;simp only at e0 e1;obtain⟨i,rfl⟩:=AK e0;have hi:i<w.1.length:=by omega
 have hn:=h.node i hi;have hw:=h.mono (show c<=c+4 by omega);simp only[Q100.f];refine Tot.vl (ai hi) (Tot.vl (by rw[AD];exact ai hi) ?_);generalize w.1[i]=n at hn ⊢;refine Tot.cnd (λ_=>?_) λ_=>Tot.cnd (λ_=>?_) λ_=>Tot.cnd (λ_=>?_) λ_=>?_
 ·
  rw[xD];simp only[AB];exact Tot.ix2 (by omega) (by omega) λ_ _ _=>Tot.ret ⟨hw.len,hw.node,hw.radio,by show (w.2.2.1.set _ _).length=8;rw[AH];exact h.sides,hw.born⟩
 ·
  simp only[Q97.f,AB];refine Tot.ix2 (by omega) (by omega) λ_ _ _=>Tot.ret (hw.put (i:=i) (n:=iC n.1 n.2.2.2.1) ?_ hw.radio hw.born)
  exact⟨hn.me,hn.lt,λhu=>(by cases hu),λ_=>rfl⟩
 ·
  exact Tot.cnd (λ_=>Tot.ret hw) λ_=>Tot.bind (zo K w c h hc (i:Int) ⟨by omega,by omega⟩ hK) λv hv=>Tot.ret hv
 ·refine Tot.cnd (λ_=>Tot.ret hw) λhu=>Tot.cnd (λ_=>Tot.ret hw) λhg=>?_
  have hu:n.2.1=true:=by simpa using hu
  have hU:=hn.up hu;have set:=λ (m:aa) (ws:List au) (hm:UpN m) (em:m.1=n.1) (hsw:∀ x∈ws,gu x) (hl:ws.length<=1000)=>zn K w i m ws [] c ⟨h,hn.lt,hn.of hm em,hsw,hl,Ae _,hc⟩ hK
  refine Tot.cnd (λ_=>?_) λ_=>Tot.cnd (λ_=>?_) λ_=>Tot.cnd (λ_=>?_) λ_=>Tot.ret hw
  ·refine Tot.cnd (λ_=>Tot.ret hw) λhm=>?_
   have hm:ca n<999999:=by have hm:¬ n.2.2.2.2.2.1>=999999:=of_decide_eq_false hm;show n.2.2.2.2.2.1<999999;omega
   obtain⟨t1,t2,_⟩:=pj hU hm;obtain⟨w1,w2⟩:=zl hU hm draw;exact Tot.vl (zm K n draw hU hg hm hK) (Tot.bind (set _ _ t1 t2 w2 (AI w1 (by omega))) λv hv=>Tot.ret hv)
  ·obtain⟨t1,t2⟩:=wW hU hg;obtain⟨w1,w2⟩:=ym t1;exact Tot.vl (xY K n hU.nb hU.ok hu hg hK) (Tot.bind (set _ _ t1 t2 w2 (AI w1 (by omega))) λv hv=>Tot.ret hv)
  ·refine Tot.bind (cq K draw 0 7).tot λv hv=>Tot.cnd (λ_=>Tot.ret hw) λh1=>Tot.cnd (λ_=>Tot.ret hw) λ_=>?_
   have hd:InP draw 0 7:=hv.1 (by simpa using h1);rw[dE K,dE K];simp only[AB];refine Tot.cnd (λ_=>Tot.ret hw) λ_=>?_
   refine Tot.vl (mC K n 4 draw (cI hU.x.table)) (Tot.bind (set n _ hU rfl (λx hx=>?_) (by simp)) λv hv=>Tot.ret hv);rw[AF.1 hx];exact⟨hd,cI hU.x.table⟩
theorem do_t (K:Nat)(w:bW)(c:Nat)(h:WI w c)(hc:c<=1000000)(e:ag)(hK:1048577<K):Tot (Q102.f K (w,e,())) λr=>WI r.1.1 (c+4):=by
 have hw:=h.mono (show c<=c+4 by omega);have hr:=h.radio.1;simp only[Q102.f];rw[aL (n:=(AC w.2.1:Int)-1) (by omega) (by omega)];have three:Tot ((Q7.f K (e.2.1,0,(AC w.2.1:Int)-1,())).bind λy1=>bif !y1.1.1 then (some ((w,false,()),())) else (bif e.1==2 then ((Q78.f K (w,e.2.1,e.2.2.2,())).bind λy2=>some ((y2.1.1,true,()),())) else (bif e.1==4 then ((Q79.f K (w,e.2.1,e.2.2.1,())).bind λy3=>some ((y3.1.1,y3.1.2.1,()),())) else ((Q34.f K (w.2.1,e.2.1,())).bind λy4=>some (((w.1,(y4.1.1,w.2.2)),true,()),()))))) λr=>WI r.1.1 (c+4):=by
  refine Tot.bind (cq K _ _ _).tot λv hv=>Tot.cnd (λ_=>Tot.ret hw) λh1=>?_
  obtain⟨p0,p1⟩:InP e.2.1 0 ((AC w.2.1:Int)-1):=hv.1 (by simpa using h1);have p1:e.2.1<(w.2.1.length:Int):=by omega
  refine Tot.cnd (λ_=>Tot.bind (yj K w c h hc e.2.1 e.2.2.2 p0 p1 hK) λv hv=>Tot.ret hv) λ_=>Tot.cnd (λ_=>Tot.bind (yk K w c h e.2.1 e.2.2.1 p0 p1) λv hv=>Tot.ret (WI.mono hv (by omega))) λ_=>?_
  exact Tot.bind (p6 K w.2.1 e.2.1 p0 p1 h.radio) λv hv=>Tot.ret ⟨hw.len,hw.node,hv,hw.sides,hw.born⟩
 refine Tot.cnd (λ_=>three) λ_=>Tot.cnd (λ_=>three) λ_=>Tot.cnd (λ_=>three) λ_=>?_
 exact Tot.bind (cq K _ _ _).tot λv hv=>Tot.cnd (λ_=>Tot.ret hw) λh1=>Tot.bind (zp K w c h hc e (hv.1 (by simpa using h1)) hK) λv hv=>Tot.ret hv
theorem xd (K:Nat)(w:bW)(h1:w.1.length<=1048576)(hn:∀ n∈w.1,NB n)(h2:w.2.1.length<=1048576)(h3:w.2.2.1.length<=1048576)(h4:w.2.2.2.length<=1048576)(hK:1048577<K):Q6.f K (w,())=some ((w,()),()):=by
 simp only[Q6.f,Q6.pre];rw[szb _ _ _ (by omega) (by show (AC ([]:List kE))+w.2.1.length<=_;simp;omega)];simp only[cond_true];rw[szb _ _ _ (by omega) (by show (AC ([]:List Int))+w.2.2.1.length<=_;simp;omega)];simp only[cond_true];rw[szb _ _ _ (by omega) (by show (AC ([]:List ag))+w.2.2.2.length<=_;simp;omega)];simp only[cond_true];have:∀ (d i k:Nat),i+d=w.1.length->d<k->ae (λrec a=>Q6.l0.step K (w,()) rec a) k ((i:Int),w.1.take i)=some ((w,()),()):=by
  intro d;induction d with
  |zero =>
   intro i k hi hk;obtain⟨k,rfl⟩:∃ k',k=k'+1:=⟨k-1,by omega⟩;have:i=w.1.length:=by omega
   subst this;show Q6.l0.step K (w,()) _ _=_;simp only[Q6.l0.step,bq,AT];rfl
  |succ d ih =>
   intro i k hi hk;obtain⟨k,rfl⟩:∃ k',k=k'+1:=⟨k-1,by omega⟩;have hlt:i<w.1.length:=by omega
   show Q6.l0.step K (w,()) _ _=_;simp only[Q6.l0.step];rw[bM (by omega:(i:Int)<(AC w.1:Int)),ai hlt,av i (by omega)];simp only[cond_true,AB];refine (congrArg (λo=>Option.bind o _) (vj K w.1[i] (hn _ (AJ hlt)) hK)).trans ?_;simp only[AB];have hz:decide (((w.1.take i).length+[w.1[i]].length)*232<=ah)=true:=decide_eq_true (by
    rw[AO];simp only[Ak,Aa,ah];omega)
   refine (congrArg (λb=>bif b then _ else _) hz).trans ?_;have e:w.1.take i++[w.1[i]]=w.1.take (i+1):=by rw[List.take_add_one,List.getElem?_eq_getElem hlt];rfl
   rw[<- ih (i+1) k (by omega) (by omega),<- e];rfl
 exact this w.1.length 0 K (by omega) (by omega)
theorem WI.copy {w:bW}{c:Nat}(h:WI w c)(hc:c<=1000000)(K:Nat)(hK:1048577<K):Q6.f K (w,())=some ((w,()),()):=by
 have h1:=h.len;have h2:=h.radio.1;have h3:=h.sides;have h4:=h.born;refine xd K w (by omega) (λn hn=>?_) (by omega) (by omega) (by omega) hK;obtain⟨i,hi,rfl⟩:=AU hn;exact (h.node i hi).nb
theorem zq (K:Nat)(w:bW)(c:Nat)(evs:List ag)(h:WI w c)(hl:evs.length<=1000)(hc:c<=900000)(hK:1048577<K):Tot (Q103.f K (w,evs,())) λr=>WI r.1.1 (c+4*evs.length)/\r.2.1=evs:=by
 simp only[Q103.f,Q103.pre];refine Tot.iter (step:=λrec a=>Q103.l0.step K (w,evs,()) rec a) (λa=>0<=a.1/\a.1<=evs.length/\WI a.2 (c+4*a.1.toNat)) (λa=>evs.length-a.1.toNat) ?_ K _ (by show evs.length-AE 0<K;omega) ⟨by show (0:Int)<=0;omega,by show (0:Int)<=_;omega,h⟩;rintro rec ⟨i,v⟩ ⟨h0,h1,h2⟩ ih;simp only at h0 h1 h2 ih ⊢;simp only[Q103.l0.step];refine Tot.cnd (λhlt=>?_) λ_=>Tot.ret ⟨WI.mono h2 (by omega),rfl⟩
 have hlt:i<(evs.length:Int):=of_decide_eq_true hlt;rw[aL (n:=i+1) (by omega) (by omega)];refine Tot.vl (h2.copy (by omega) K hK) (Tot.ix2 h0 hlt λe _ _=>Tot.bind (do_t K v _ h2 (by omega) e hK) ?_);rintro⟨⟨v',ok,⟨⟩⟩,⟨⟩⟩ hv;have hv:WI v' (c+4*i.toNat+4):=hv;have go:∀ u:bW,WI u (c+4*i.toNat+4)->Tot (rec (i+1,u)) λr=>WI r.1.1 (c+4*evs.length)/\r.2.1=evs:=λu hu=>ih (i+1,u) ⟨by show 0<=i+1;omega,by show i+1<=_;omega,hu.mono (by show _<=c+4*(i+1).toNat;omega)⟩ (by show evs.length-AE (i+1)<evs.length-AE i;omega)
 exact Tot.cnd (λ_=>go v' hv) λ_=>go v (h2.mono (by omega))
theorem ut (K:Nat)(hK:1048577<K):Tot (Q11.f K ()) λr=>WI r.1.1 8:=by
 simp only[Q11.f,Q11.pre];refine Tot.iter (step:=λrec a=>Q11.l0.step K () rec a) (λa=>0<=a.1/\a.1<=8/\a.2.1.length=a.1.toNat/\(∀ (j:Nat) (hj:j<a.2.1.length),dv j a.2.1[j])/\a.2.2.1.length=a.1.toNat/\a.2.2.2.length=a.1.toNat) (λa=>8-a.1.toNat) ?_ K _ (by show 8-AE 0<K;omega) ⟨by show (0:Int)<=0;omega,by show (0:Int)<=8;omega,rfl,λj hj=>(by cases hj),rfl,rfl⟩;rintro rec ⟨i,ns,ss,bs⟩ ⟨h0,h1,h2,h3,h4,h5⟩ ih;simp only at h0 h1 h2 h3 h4 h5 ih ⊢;simp only[Q11.l0.step];refine Tot.cnd (λhlt=>?_) λhlt=>?_
 ·have hlt:i<=7:=of_decide_eq_true hlt;rw[aL (n:=i+1) (by omega) (by omega)];simp only[Q10.f,AB];refine Tot.vl (p8 K i _ ⟨h0,hlt⟩) (Tot.fit (Tot.fit (Tot.vl (show idx (lk i (decide (AS i 4<3))).2.2.2.2.2.2.2.2.1 0=some (i,0,1,decide (AS i 4<3)) from rfl) (Tot.fit (ih _ ⟨by show 0<=i+1;omega,by show i+1<=8;omega,?_,λj hj=>?_,?_,?_⟩ (by show 8-AE (i+1)<8-AE i;omega)) (by omega) ?_)) (by omega) ?_) (by omega) ?_)
  ·show (ns++[lk i _]).length=(i+1).toNat;simp;omega
  ·show dv j ((ns++[lk i (decide (AS i 4<3))])[j]'hj);rw[List.getElem_append];split
   ·exact h3 j _
   ·rename_i hge;have hj:j<(ns++[lk i (decide (AS i 4<3))]).length:=hj;have hji:j=i.toNat:=by simp at hj;omega
    subst hji;have:=dv.new i.toNat (decide (AS i 4<3)) (by omega);rw[Ah h0]at this;simpa using this
  ·show (ss++[0]).length=(i+1).toNat;simp;omega
  ·show (bs++[_]).length=(i+1).toNat;simp;omega
  ·simp;omega
  ·simp;omega
  ·simp;omega
 ·have hge:=of_decide_eq_false hlt;refine Tot.ret ⟨?_,h3,⟨Ae _,λf hf=>(nomatch hf)⟩,?_,?_⟩
  ·show ns.length=8;omega
  ·show ss.length=8;omega
  ·show bs.length<=8;omega
abbrev LtP (v n:Int):Prop:=0<=v/\v<n
def bd (b:List Int)(m:Nat)(s:List Int×Int):Prop:=∃ q:Nat,q<=m/\s=(b,(q:Int))
theorem bd.up {b:List Int}{m:Nat}{s:List Int×Int}(h:bd b m s){m':Nat}(hm:m<=m'):bd b m' s:=by obtain⟨q,h1,h2⟩:=h;exact⟨q,by omega,h2⟩
section
variable {K:Nat} {b:List Int} {m:Nat} {s:List Int×Int}
theorem aE (h:fe b)(hs:bd b m s)(n:Int)(hn:1<=n)(hm:m<=99000):Tot (Q4.f K (s,n,())) λr=>LtP r.1.1 n/\bd b (m+1) r.2.1:=by
 obtain⟨q,hq,rfl⟩:=hs;obtain⟨v,e,v0,v1⟩:=x7 K b q n h (by omega) hn;exact⟨_,e,⟨v0,v1⟩,q+1,by omega,rfl⟩
theorem zr (code:List Int)(hb:∀ y∈code,0<=y/\y<=255)(hl:code.length<=9223372036854775807):∃ bs:List Int,fe bs/\Q3.f K (code,())=some (((bs,(0:Int)),()),()):=by
 simp only[Q3.f];by_cases h:(code.length:Int)>2000
 ·rw[decide_eq_true h,decide_eq_true (by omega:(2000:Int)<=(code.length:Int))];exact⟨(code.take 2000).drop 0,⟨λy hy=>hb y (Ag (by simpa using hy)),by simp;omega⟩,rfl⟩
 ·rw[decide_eq_false h];exact⟨code,⟨hb,by omega⟩,rfl⟩
theorem vP (h:fe b)(hs:bd b m s)(site:Int)(h0:0<=site)(h1:site<=1)(hm:m<=98000):Tot (Q109.f K (s,site,())) λr=>(bH r.1.1/\aq r.1.1.1=site)/\bd b (m+5) r.2.1:=by
 simp only[Q109.f];refine Tot.bind (aE h hs 4 (by decide) (by omega)) λv1 ⟨⟨a1,b1⟩,s1⟩=>Tot.bind (aE h s1 3 (by decide) (by omega)) λv2 ⟨⟨a2,b2⟩,s2⟩=>Tot.bind (aE h s2 12 (by decide) (by omega)) λv3 ⟨⟨a3,b3⟩,s3⟩=>Tot.bind (aE h s3 3 (by decide) (by omega)) λv4 ⟨⟨a4,b4⟩,s4⟩=>Tot.ix2 a4 b4 λy hy _=>Tot.bind (aE h s4 4 (by decide) (by omega)) λv5 ⟨⟨a5,b5⟩,s5⟩=>?_
 simp only[Q10.f,AB];have hy:InP y 0 999:=by
  simp only[Ap,Al,or_false]at hy;rcases hy with rfl|rfl|rfl <;> constructor <;> omega
 rw[aL (n:=site*4) (by omega) (by omega),aL (n:=site*4+v1.1.1) (by omega) (by omega),aL (n:=1+v5.1.1) (by omega) (by omega)];refine Tot.ret ⟨⟨⟨⟨?_,?_⟩,hy,?_,?_⟩,?_⟩,s5⟩
 ·show (0:Int)<=site*4+v1.1.1;omega
 ·show site*4+v1.1.1<=7;omega
 ·show (1:Int)<=1+v5.1.1;omega
 ·show (1:Int)+v5.1.1<=4;omega
 ·show aq (site*4+v1.1.1)=site;rw[gD ⟨by omega,by omega⟩];omega
theorem p9 (h:fe b)(hs:bd b m s)(hm:m<=97000):Tot (Q110.f K (s,())) λr=>bd b (m+8) r.2.1:=by
 simp only[Q110.f];refine Tot.bind (aE h hs 2 (by decide) (by omega)) λv1 ⟨⟨a1,b1⟩,s1⟩=>Tot.bind (vP h s1 v1.1.1 a1 (by omega) (by omega)) λf ⟨_,s2⟩=>Tot.bind (aE h s2 12 (by decide) (by omega)) λv3 ⟨_,s3⟩=>?_
 have two:∀ {x y:Int} {G:(Int×Unit)×(List Int×Int)×Unit->Int->Option ((ag×Unit)×(List Int×Int)×Unit)},(∀ v z,Tot (G v z) λr=>r.2.1=v.2.1)->Tot ((Q4.f K (v3.2.1,2,())).bind λv=>(idx [x,y] v.1.1).bind λ_=>(idx [x,y] (AE v.1.1:Nat)).bind (G v)) λr=>bd b (m+8) r.2.1:=λhG=>Tot.bind (aE h s3 2 (by decide) (by omega)) λv ⟨⟨a,b⟩,s4⟩=>Tot.ix2 a b λz _ _=>(hG v z).mono λr e=>by rw[e];exact s4.up (by omega)
 refine Tot.cnd (λ_=>two λ_ _=>Tot.ret rfl) λ_=>Tot.cnd (λ_=>two λ_ _=>Tot.ret rfl) λ_=>Tot.cnd (λ_=>two λ_ _=>Tot.ret rfl) λ_=>Tot.cnd (λ_=>Tot.ret (s3.up (by omega))) λ_=>Tot.ret (s3.up (by omega))
theorem vQ (t:List ag)(f:ag):(b8 t f).1.length<=t.length+1:=by
 rcases gl t f with e|e
 ·rw[e];omega
 ·rw[e];exact wK
theorem uu {t:List ag}{f:ag}{z:Int}(h:b7 t z)(hf:aq f.1=z):b7 (b8 t f).1 z:=by
 rcases gl t f with e|e <;> rw[e]
 ·exact h
 ·intro g hg;rcases aY.1 hg with rfl|⟨hg,_⟩
  ·exact hf
  ·exact h g hg
theorem tA (h:fe b)(hs:bd b m s)(site:Int)(h0:-1<=site)(h1:site<=1)(hm:m<=96000)(hK:1048577<K):Tot (Q111.f K (s,site,())) λr=>(aA r.1.1/\(0<=site->b7 r.1.1 site)/\r.1.1.length<=5)/\bd b (m+31) r.2.1:=by
 simp only[Q111.f,Q111.pre];refine Tot.bind (aE h hs 6 (by decide) (by omega)) λv ⟨⟨v0,v1⟩,s1⟩=>?_
 refine Tot.iter (step:=λrec a=>Q111.l0.step K (s,site,()) rec a) (λa=>∃ q:Nat,0<=a.2.1/\aA a.1/\(0<=site->b7 a.1 site)/\(a.1.length:Int)+a.2.1<=5/\bd b q a.2.2/\q+6*a.2.1.toNat<=m+31) (λa=>a.2.1.toNat) ?_ K _ (by show v.1.1.toNat<K;omega) ⟨m+1,v0,⟨by simp,List.Pairwise.nil⟩,λ_ f hf=>(nomatch hf),by show ((0:Nat):Int)+v.1.1<=5;omega,s1,by show m+1+6*v.1.1.toNat<=m+31;omega⟩;rintro rec ⟨t,n,s2⟩ ⟨q,n0,hT,hS,hl,hs2,hq⟩ ih;simp only at n0 hT hS hl hs2 hq ih ⊢;simp only[Q111.l0.step];refine Tot.cnd (λhn=>?_) λ_=>Tot.ret ⟨⟨hT,hS,by show t.length<=5;omega⟩,hs2.up (by omega)⟩
 have hn:n>0:=of_decide_eq_true hn;rw[aL (n:=n-1) (by omega) (by omega)];have go:∀ (z:Int) (q':Nat) (s3:List Int×Int),0<=z->z<=1->(0<=site->z=site)->bd b q' s3->q'<=q+1->Tot ((Q109.f K (s3,z,())).bind λy3=>(Q53.f K (t,y3.1.1,())).bind λy4=>rec (y4.1.1,n-1,y3.2.1.1,y3.2.1.2)) λr=>(aA r.1.1/\(0<=site->b7 r.1.1 site)/\r.1.1.length<=5)/\bd b (m+31) r.2.1:=λz q' s3 z0 z1 hz hs3 hq'=>by
  refine Tot.bind (vP h hs3 z z0 z1 (by omega)) λy ⟨⟨hf,hfs⟩,hs4⟩=>Tot.vl (uh K t y.1.1 (by omega) hT.2 hK) (ih (_,_,y.2.1) ⟨q'+5,by show 0<=n-1;omega,js hT hf,λh9=>uu (hS h9) (by rw[hfs];exact hz h9),?_,hs4,by show q'+5+6*(n-1).toNat<=m+31;omega⟩ (by show (n-1).toNat<n.toNat;omega))
  have:=vQ t y.1.1;show ((b8 t y.1.1).1.length:Int)+(n-1)<=5;omega
 refine Tot.cnd (λhneg=>?_) λhneg=>?_
 ·have hneg:site<0:=of_decide_eq_true hneg;exact Tot.bind (aE h hs2 2 (by decide) (by omega)) λv ⟨⟨a,b⟩,s3⟩=>go v.1.1 (q+1) v.2.1 a (by omega) (λh9=>by omega) s3 (AV _)
 ·have hneg:¬ site<0:=of_decide_eq_false hneg;exact go site q s2 (by omega) h1 (λ_=>rfl) hs2 (by omega)
theorem oM (h:fe b)(hs:bd b m s)(hm:m<=95000)(hK:1048577<K):Tot (Q112.f K (s,())) λr=>r.1.1.length<=6/\bd b (m+42) r.2.1:=by
 simp only[Q112.f];refine Tot.bind (tA h hs (-1) (by decide) (by decide) (by omega) hK) λt ⟨⟨hT,_,hl⟩,s1⟩=>?_
 refine Tot.cnd (λh1=>?_) λ_=>Tot.ret ⟨by show t.1.1.length<=6;omega,s1.up (by omega)⟩
 have h1:(t.1.1.length:Int)>0:=of_decide_eq_true h1;refine Tot.bind (aE h s1 12 (by decide) (by omega)) λv2 ⟨_,s2⟩=>Tot.cnd (λ_=>?_) λ_=>Tot.ret ⟨by show t.1.1.length<=6;omega,s2.up (by omega)⟩
 refine Tot.bind (aE h s2 (t.1.1.length:Int) (by omega) (by omega)) λv3 ⟨⟨a3,b3⟩,s3⟩=>Tot.bind (aE h s3 3 (by decide) (by omega)) λv4 ⟨_,s4⟩=>?_
 refine Tot.cnd (λ_=>Tot.bind (p9 h s4 (by omega)) λf s5=>Tot.ix2 a3 b3 λ_ _ _=>Tot.ret ⟨by show (t.1.1.set _ _).length<=6;rw[AH];omega,s5.up (by omega)⟩) λ_=>?_
 refine Tot.cnd (λ_=>Tot.ix2 a3 b3 λy _ _=>Tot.fit (Tot.ret ⟨by show (t.1.1++[y]).length<=6;simp;omega,s4.up (by omega)⟩) (by omega) (by simp;omega)) λ_=>Tot.ix2 a3 b3 λy _ _=>Tot.ret ⟨by show (t.1.1.set _ _).length<=6;rw[AH];omega,s4.up (by omega)⟩
theorem yn (h:fe b)(hs:bd b m s)(site:Int)(h0:-1<=site)(h1:site<=1)(hm:m<=95000)(hK:1048577<K):Tot (Q113.f K (s,site,())) λr=>r.1.1.length<=5/\bd b (m+36) r.2.1:=by
 simp only[Q113.f,Q113.pre];refine Tot.bind (tA h hs site h0 h1 (by omega) hK) λt ⟨⟨hT,_,hl⟩,s1⟩=>?_
 refine Tot.iter (step:=λrec a=>Q113.l0.step K (s,site,()) rec a) (λa=>a.2.1=t.1.1/\0<=a.2.2.1/\a.2.2.1<=t.1.1.length/\(a.1.length:Int)=a.2.2.1/\bd b (m+31+a.2.2.1.toNat) a.2.2.2) (λa=>t.1.1.length-a.2.2.1.toNat) ?_ K _ (by show t.1.1.length-AE 0<K;omega) ⟨rfl,by show (0:Int)<=0;omega,by show (0:Int)<=_;omega,rfl,s1⟩;rintro rec ⟨acc,t',i,s2⟩ ⟨e,i0,i1,hla,hs2⟩ ih;simp only at e i0 i1 hla hs2 ih ⊢;subst e;simp only[Q113.l0.step];refine Tot.cnd (λhi=>?_) λ_=>Tot.ret ⟨by show acc.length<=5;omega,hs2.up (by omega)⟩
 have hi:i<(t.1.1.length:Int):=of_decide_eq_true hi;rw[aL (n:=i+1) (by omega) (by omega)];refine Tot.ix2 i0 hi λy _ _=>Tot.bind (aE h hs2 4 (by decide) (by omega)) λv ⟨_,s3⟩=>Tot.fit (ih (_,_,_,v.2.1) ⟨rfl,by show 0<=i+1;omega,by show i+1<=_;omega,?_,s3.up (by show _<=m+31+(i+1).toNat;omega)⟩ (by show t.1.1.length-(i+1).toNat<t.1.1.length-i.toNat;omega)) (by omega) (by simp;omega)
 show ((acc++[_]).length:Int)=i+1;simp;omega
theorem uv (h:fe b)(hs:bd b m s)(hm:m<=94000)(hK:1048577<K):Tot (Q114.f K (s,())) λr=>r.1.1.length<=6/\bd b (m+50) r.2.1:=by
 simp only[Q114.f];refine Tot.bind (yn h hs (-1) (by decide) (by decide) (by omega) hK) λt ⟨hl,s1⟩=>?_
 refine Tot.cnd (λh1=>?_) λ_=>Tot.ret ⟨by show t.1.1.length<=6;omega,s1.up (by omega)⟩
 have h1:(t.1.1.length:Int)>0:=of_decide_eq_true h1;refine Tot.bind (aE h s1 10 (by decide) (by omega)) λv2 ⟨_,s2⟩=>Tot.cnd (λ_=>?_) λ_=>Tot.ret ⟨by show t.1.1.length<=6;omega,s2.up (by omega)⟩
 refine Tot.bind (aE h s2 (t.1.1.length:Int) (by omega) (by omega)) λv3 ⟨⟨a3,b3⟩,s3⟩=>Tot.bind (aE h s3 3 (by decide) (by omega)) λv4 ⟨_,s4⟩=>?_
 refine Tot.cnd (λ_=>Tot.bind (aE h s4 2 (by decide) (by omega)) λv5 ⟨⟨a5,b5⟩,s5⟩=>Tot.ix2 a5 b5 λ_ _ _=>Tot.ix2 a3 b3 λ_ _ _=>Tot.ret ⟨by show (t.1.1.set _ _).length<=6;rw[AH];omega,s5.up (by omega)⟩) λ_=>?_
 refine Tot.cnd (λ_=>Tot.bind (p9 h s4 (by omega)) λf s5=>Tot.ix2 a3 b3 λ_ _ _=>Tot.ret ⟨by show (t.1.1.set _ _).length<=6;rw[AH];omega,s5.up (by omega)⟩) λ_=>?_
 exact Tot.ix2 a3 b3 λy _ _=>Tot.fit (Tot.ret ⟨by show (t.1.1++[y]).length<=6;simp;omega,s4.up (by omega)⟩) (by omega) (by simp;omega)
theorem qa (h:fe b)(hs:bd b m s)(hm:m<=95000):Tot (Q115.f K (s,())) λr=>bd b (m+6) r.2.1:=by
 simp only[Q115.f,Q8.f];refine Tot.bind (aE h hs 6 (by decide) (by omega)) λv1 ⟨_,s1⟩=>Tot.cnd (λ_=>Tot.ret (s1.up (by omega))) λ_=>Tot.bind (aE h s1 3 (by decide) (by omega)) λv3 ⟨⟨a3,b3⟩,s3⟩=>Tot.ix2 a3 b3 λy hy _=>?_
 have hy:InP y 10 100000:=by
  simp only[Ap,Al,or_false]at hy;rcases hy with rfl|rfl|rfl <;> constructor <;> omega
 rw[aL (n:=2*y) (by omega) (by omega),aL (n:=2*y+1) (by omega) (by omega),aL (n:=y+1) (by omega) (by omega)];exact Tot.bind (aE h s3 _ (by omega) (by omega)) λv6 ⟨_,s6⟩=>Tot.bind (aE h s6 _ (by omega) (by omega)) λv7 ⟨_,s7⟩=>Tot.bind (aE h s7 _ (by omega) (by omega)) λv8 ⟨_,s8⟩=>Tot.bind (aE h s8 _ (by decide) (by omega)) λv9 ⟨_,s9⟩=>Tot.ret s9
theorem oN (h:fe b)(hs:bd b m s)(hm:m<=94000):Tot (Q116.f K (s,())) λr=>bd b (m+8) r.2.1:=by
 simp only[Q116.f];exact Tot.bind (qa h hs (by omega)) λc s1=>Tot.bind (aE h s1 16 (by decide) (by omega)) λv2 ⟨_,s2⟩=>Tot.cnd (λ_=>Tot.bind (aE h s2 3 (by decide) (by omega)) λv ⟨⟨a,b⟩,s3⟩=>Tot.ix2 a b λ_ _ _=>Tot.ret s3) λ_=>Tot.cnd (λ_=>Tot.bind (aE h s2 2 (by decide) (by omega)) λv ⟨⟨a,b⟩,s3⟩=>Tot.ix2 a b λ_ _ _=>Tot.ret s3) λ_=>Tot.cnd (λ_=>Tot.bind (aE h s2 2 (by decide) (by omega)) λv ⟨⟨a,b⟩,s3⟩=>Tot.ix2 a b λ_ _ _=>Tot.ret s3) λ_=>Tot.ret (s2.up (by omega))
theorem vR (h:fe b)(hs:bd b m s)(w:bW)(hm:m<=95000):Tot (Q104.f K (s,w,())) λr=>bd b (m+2) r.2.1:=by
 simp only[Q104.f];refine Tot.cnd (λ_=>Tot.ret (hs.up (by omega))) λh1=>?_
 have h1:¬ (w.2.1.length:Int)=0:=by simpa using h1
 refine Tot.bind (aE h hs 3 (by decide) (by omega)) λv1 ⟨_,s1⟩=>Tot.cnd (λ_=>Tot.cnd (λ_=>Tot.bind (aE h s1 4 (by decide) (by omega)) λv ⟨_,s2⟩=>Tot.ret s2) λ_=>?_) λ_=>?_ <;>
 exact Tot.bind (aE h s1 _ (by show (1:Int)<=(w.2.1.length:Int);omega) (by omega)) λv ⟨_,s2⟩=>Tot.ret s2
theorem yp (h:fe b)(hs:bd b m s)(w:bW)(hm:m<=94000):Tot (Q105.f K (s,w,())) λr=>bd b (m+8) r.2.1:=by
 simp only[Q105.f];refine Tot.bind (aE h hs 8 (by decide) (by omega)) λv1 ⟨_,s1⟩=>Tot.bind (aE h s1 256 (by decide) (by omega)) λv2 ⟨_,s2⟩=>Tot.bind (aE h s2 16 (by decide) (by omega)) λv3 ⟨_,s3⟩=>Tot.bind (aE h s3 40 (by decide) (by omega)) λv4 ⟨_,s4⟩=>?_
 have s4:bd b (m+4) v4.2.1:=s4.up (by omega);generalize v4.2.1=z at s4 ⊢;have u4:bd b (m+8) z:=s4.up (by omega);have pl:=vR (K:=K) h s4 w (by omega);have pk:∀ n:Int,1<=n->Tot (Q4.f K (z,n,())) λr=>bd b (m+8) r.2.1:=λn hn=>(aE h s4 n hn (by omega)).mono λr hr=>hr.2.up (by omega)
 have pp:∀ (z':List Int×Int) (n:Int),bd b (m+4+2) z'->1<=n->Tot (Q4.f K (z',n,())) λr=>bd b (m+8) r.2.1:=λz' n h1 hn=>(aE h h1 n hn (by omega)).mono λr hr=>hr.2.up (by omega)
 repeat' first
  |exact Tot.ret u4
  |exact Tot.bind pl λv hv=>Tot.ret (bd.up hv (by omega))
  |exact Tot.bind pl λv hv=>Tot.bind (pp _ _ hv (by decide)) λv hv=>Tot.ret hv
  |exact Tot.bind (pk _ (by decide)) λv hv=>Tot.ret hv
  |exact Tot.bind (pk _ (by decide)) λv hv=>Tot.cnd (λ_=>Tot.ret hv) λ_=>Tot.ret hv
  |refine Tot.cnd (λ_=>?_) λ_=>?_
theorem yq (h:fe b)(hs:bd b m s)(most:Int)(h1:1<=most)(h2:most<=200)(hm:m<=90000)(hK:1048577<K):Tot (Q106.f K (s,most,())) λr=>(WI r.1.2.1 2000/\r.1.1.length<=300)/\bd b (m+8*most.toNat+2) r.2.1:=by
 simp only[Q106.f,Q106.pre];have loop:∀ (out:List ag) (n:Int) (z:List Int×Int) (w:bW) (q c:Nat),0<=n->n<most->out.length<=24->bd b q z->q<=m+2->WI w c->c<=200->Tot (Q106.l1 K (s,most,()) (out,n,z.1,z.2,w)) λr=>(WI r.1.2.1 2000/\r.1.1.length<=300)/\bd b (m+8*most.toNat+2) r.2.1:=λout n z w q c n0 n1 ho hz hq hw hc=>by
  refine Tot.iter (step:=λrec a=>Q106.l1.step K (s,most,()) rec a) (λa=>∃ q c:Nat,0<=a.2.1/\a.2.1<most/\(a.1.length:Int)+a.2.1<=24+most/\bd b q (a.2.2.1,a.2.2.2.1)/\q+8*a.2.1.toNat<=m+8*most.toNat+2/\WI a.2.2.2.2 c/\c+4*a.2.1.toNat<=2000) (λa=>a.2.1.toNat) ?_ K _ (by show n.toNat<K;omega) ⟨q,c,n0,n1,by show (out.length:Int)+n<=_;omega,hz,by show q+8*n.toNat<=_;omega,hw,by show c+4*n.toNat<=2000;omega⟩;clear hz hq hw hc n0 n1 ho;rintro rec ⟨out,n,z1,z2,w⟩ ⟨q,c,n0,n1,ho,hz,hq,hw,hc⟩ ih;simp only at n0 n1 ho hz hq hw hc ih ⊢;simp only[Q106.l1.step];refine Tot.cnd (λhn=>?_) λ_=>Tot.vl (hw.copy (by omega) K hK) (Tot.ret ⟨⟨hw.mono (by omega),by show out.length<=300;omega⟩,hz.up (by omega)⟩)
  have hn:n>0:=of_decide_eq_true hn;rw[aL (n:=n-1) (by omega) (by omega)];refine Tot.bind (yp h hz w (by omega)) λe he=>Tot.fit (Tot.vl (hw.copy (by omega) K hK) (Tot.bind (do_t K w c hw (by omega) e.1.1 hK) ?_)) (by omega) (by simp;omega)
  rintro⟨⟨v',ok,⟨⟩⟩,⟨⟩⟩ hv;have go:∀ u:bW,WI u (c+4)->Tot (rec (out++[e.1.1],n-1,e.2.1.1,e.2.1.2,u)) λr=>(WI r.1.2.1 2000/\r.1.1.length<=300)/\bd b (m+8*most.toNat+2) r.2.1:=λu hu=>ih _ ⟨q+8,c+4,by show 0<=n-1;omega,by show n-1<most;omega,by show ((out++[e.1.1]).length:Int)+(n-1)<=_;simp;omega,he,by show q+8+8*(n-1).toNat<=_;omega,hu,by show c+4+4*(n-1).toNat<=2000;omega⟩ (by show (n-1).toNat<n.toNat;omega)
  exact Tot.cnd (λ_=>go v' hv) λ_=>go w (hw.mono (by omega))
 refine Tot.bind (ut K hK) λw0 hw0=>Tot.bind (aE h hs 3 (by decide) (by omega)) λv2 ⟨_,s2⟩=>Tot.cnd (λ_=>?_) λ_=>Tot.bind (aE h s2 most h1 (by omega)) λv9 ⟨⟨a9,b9⟩,s9⟩=>loop [] v9.1.1 v9.2.1 w0.1.1 (m+2) 8 a9 b9 (by simp) s9 (AV _) hw0 (by omega)
 refine Tot.iter (step:=λrec a=>Q106.l0.step K (s,most,()) (Q106.l1 K (s,most,())) rec a) (λa=>0<=a.2.1/\a.2.1<=8/\(a.1.length:Int)<=3*a.2.1/\bd b (m+1) (a.2.2.1,a.2.2.2.1)/\WI a.2.2.2.2 8) (λa=>8-a.2.1.toNat) ?_ K _ (by show 8-AE 0<K;omega) ⟨by show (0:Int)<=0;omega,by show (0:Int)<=8;omega,by show ((0:Nat):Int)<=3*0;omega,s2,hw0⟩;rintro rec ⟨out,i,z1,z2,w⟩ ⟨i0,i1,ho,hz,hw⟩ ih;simp only at i0 i1 ho hz hw ih ⊢;simp only[Q106.l0.step];refine Tot.cnd (λhi=>?_) λ_=>?_
 ·have hi:i<=7:=of_decide_eq_true hi;rw[aL (n:=i+1) (by omega) (by omega)];have go:∀ out':List ag,(out'.length:Int)<=3*(i+1)->Tot (rec (out',i+1,z1,z2,w)) λr=>(WI r.1.2.1 2000/\r.1.1.length<=300)/\bd b (m+8*most.toNat+2) r.2.1:=λout' ho'=>ih _ ⟨by show 0<=i+1;omega,by show i+1<=8;omega,ho',hz,hw⟩ (by show 8-(i+1).toNat<8-i.toNat;omega)
  exact Tot.cnd (λ_=>Tot.fit (Tot.fit (go _ (by simp;omega)) (by omega) (by simp;omega)) (by omega) (by simp;omega)) λ_=>go out (by omega)
 ·refine Tot.bind (zq K w 8 out hw (by omega) (by omega) hK) λv ⟨hv,ev⟩=>Tot.bind (aE h hz most h1 (by omega)) λv4 ⟨⟨a4,b4⟩,s4⟩=>?_
  exact loop v.2.1 v4.1.1 v4.2.1 v.1.1 (m+1+1) _ a4 b4 (by rw[ev];omega) s4 (by omega) hv (by omega)
theorem yt (h:fe b)(hs:bd b m s)(hm:m<=90000)(hK:1048577<K):Tot (Q107.f K (s,())) λr=>WI r.1.1 2000/\bd b (m+802) r.2.1:=by
 simp only[Q107.f];exact Tot.bind (yq h hs 100 (by decide) (by decide) hm hK) λv hv=>Tot.ret ⟨hv.1.1,hv.2⟩
theorem xe (h:fe b)(hs:bd b m s)(hm:m<=90000)(hK:1048577<K):Tot (Q108.f K (s,())) λr=>(∃ i,dv i r.1.1)/\bd b (m+803) r.2.1:=by
 simp only[Q108.f];refine Tot.bind (yt h hs hm hK) λw ⟨hw,s1⟩=>Tot.bind (aE h s1 _ (by have:=hw.len;show (1:Int)<=(w.1.1.1.length:Int);omega) (by omega)) λv ⟨⟨a,b⟩,s2⟩=>Tot.ix a b λy hy _=>Tot.ret ⟨?_,s2⟩
 obtain⟨i,hi,rfl⟩:=AU hy;exact⟨i,hw.node i hi⟩
structure NS (c:Nat) (n:aa):Prop where
 nb:NB n
 table:(aa.table n).length<=c
 cast:(aa.cast n).length<=c
 doubts:(aa.doubts n).length<=c
 places:(aa.places n).length<=c
 others:(aa.others n).length<=c
theorem dv.ns {i:Nat}{n:aa}(h:dv i n):NS 8 n:=by
 cases hu:n.2.1 with
 |true =>
  have hU:=h.up hu;refine⟨h.nb,by have:=h.short;omega,by have:=clen hU.x.say;omega,?_,?_,?_⟩
  ·exact AI (gZ hU.x.say.asc hU.x.say.inp) (by decide)
  ·exact AI (gZ hU.x.places.2 λx hx=>(hU.x.places.1 x hx).1) (by decide)
  ·exact AI (gZ hU.x.others.2 λx hx=>⟨(hU.x.others.1 x hx).1.1,Int.le_trans (hU.x.others.1 x hx).1.2 (by decide)⟩) (by decide)
 |false =>
  have e:=h.down hu;refine⟨h.nb,?_,?_,?_,?_,?_⟩ <;> rw[e] <;> exact Ae _
theorem vS (h:fe b)(hs:bd b m s)(n:aa){c:Nat}(hn:NS c n)(h8:8<=c)(hc:c<=1000)(hm:m<=90000)(hK:1048577<K):Tot (Q117.f K (s,n,())) λr=>NS (c+1) r.1.1/\bd b (m+60) r.2.1:=by
 simp only[Q117.f];rw[vj K n hn.nb hK];simp only[AB];obtain⟨⟨n1,n2,n3,n4,n5,n6,n7,n8⟩,l1,l2,l3,l4,l5⟩:=hn;refine Tot.bind (aE h hs 12 (by decide) (by omega)) λv2 ⟨_,s2⟩=>?_
 have same:∀ (n':aa) (z:List Int×Int),n'.2.2.2.2.2.2.2.2=n.2.2.2.2.2.2.2.2->bd b (m+60) z->NS (c+1) n'/\bd b (m+60) z:=λn' z e hz=>by
  refine⟨⟨⟨?_,?_,?_,?_,?_,?_,?_,?_⟩,?_,?_,?_,?_,?_⟩,hz⟩ <;> simp only[aa.table,aa.cast,aa.doubts,aa.places,aa.others] <;> rw[e] <;> first|assumption|(refine AI ?_ (Af c);assumption)
 have u2:bd b (m+60) v2.2.1:=s2.up (by omega);refine Tot.cnd (λ_=>Tot.bind (oM h s2 (by omega) hK) λt ⟨tl,s3⟩=>Tot.ret ⟨⟨⟨by show t.1.1.length<=_;omega,n2,n3,n4,n5,n6,n7,n8⟩,by show t.1.1.length<=_;omega,AA l2,AA l3,AA l4,AA l5⟩,s3.up (by omega)⟩) λ_=>?_
 refine Tot.cnd (λ_=>Tot.bind (uv h s2 (by omega) hK) λt ⟨tl,s3⟩=>Tot.ret ⟨⟨⟨n1,by show t.1.1.length<=_;omega,n3,n4,n5,n6,n7,n8⟩,AA l1,by show t.1.1.length<=_;omega,AA l3,AA l4,AA l5⟩,s3.up (by omega)⟩) λ_=>?_
 refine Tot.cnd (λ_=>Tot.ret (same _ _ rfl u2)) λ_=>?_
 refine Tot.cnd (λ_=>Tot.bind (aE h s2 9 (by decide) (by omega)) λv5 ⟨_,s5⟩=>Tot.bind (aE h s5 3 (by decide) (by omega)) λv6 ⟨_,s6⟩=>Tot.bind (aE h s6 3 (by decide) (by omega)) λv7 ⟨_,s7⟩=>Tot.bind (aE h s7 2 (by decide) (by omega)) λv8 ⟨_,s8⟩=>Tot.ret ⟨⟨⟨n1,n2,n3,n4,n5,n6,n7,n8⟩,AA l1,AA l2,AA l3,AA l4,AA l5⟩,s8.up (by omega)⟩) λ_=>?_
 refine Tot.cnd (λ_=>Tot.bind (aE h s2 8 (by decide) (by omega)) λv9 ⟨_,s9⟩=>Tot.bind (aE h s9 8 (by decide) (by omega)) λv10 ⟨_,s10⟩=>Tot.fit (Tot.ret ⟨⟨⟨n1,n2,?_,?_,n5,n6,n7,n8⟩,AA l1,AA l2,?_,AA l4,AA l5⟩,s10.up (by omega)⟩) (by omega) ?_) λ_=>?_
 ·show (aa.doubts n++[_]).length<=_;simp;omega
 ·intro d hd;rcases AP.1 hd with hd|hd
  ·exact n4 d hd
  ·rw[AF.1 hd];show ([v10.1.1]:List Int).length<=_;simp
 ·show (aa.doubts n++[_]).length<=_;simp;omega
 ·show (aa.doubts n).length+_<=_;simp;omega
 refine Tot.cnd (λ_=>Tot.bind (oN h s2 (by omega)) λc s3=>Tot.ret ⟨⟨⟨n1,n2,n3,n4,n5,n6,n7,n8⟩,AA l1,AA l2,AA l3,AA l4,AA l5⟩,s3.up (by omega)⟩) λ_=>?_
 refine Tot.cnd (λ_=>Tot.bind (aE h s2 9 (by decide) (by omega)) λv9 ⟨_,s9⟩=>Tot.bind (oN h s9 (by omega)) λc s10=>Tot.bind (aE h s10 3 (by decide) (by omega)) λv11 ⟨_,s11⟩=>Tot.fit (Tot.ret ⟨⟨⟨n1,n2,n3,n4,?_,?_,n7,n8⟩,AA l1,AA l2,AA l3,?_,AA l5⟩,s11.up (by omega)⟩) (by omega) ?_) λ_=>?_
 ·show (aa.places n++[_]).length<=_;simp;omega
 ·intro d hd;rcases AP.1 hd with hd|hd
  ·exact n6 d hd
  ·rw[AF.1 hd];show ([v11.1.1]:List Int).length<=_;simp
 ·show (aa.places n++[_]).length<=_;simp;omega
 ·show (aa.places n).length+_<=_;simp;omega
 refine Tot.cnd (λ_=>Tot.bind (aE h s2 3 (by decide) (by omega)) λv9 ⟨_,s9⟩=>Tot.bind (oM h s9 (by omega) hK) λt ⟨tl,s10⟩=>Tot.fit (Tot.ret ⟨⟨⟨n1,n2,n3,n4,n5,n6,?_,?_⟩,AA l1,AA l2,AA l3,AA l4,?_⟩,s10.up (by omega)⟩) (by omega) ?_) λ_=>?_
 ·show (aa.others n++[_]).length<=_;simp;omega
 ·intro d hd;rcases AP.1 hd with hd|hd
  ·exact n8 d hd
  ·rw[AF.1 hd];show t.1.1.length<=_;omega
 ·show (aa.others n++[_]).length<=_;simp;omega
 ·show (aa.others n).length+_<=_;simp;omega
 refine Tot.cnd (λ_=>Tot.ret (same _ _ rfl u2)) λ_=>Tot.cnd (λ_=>Tot.ret (same _ _ rfl u2)) λ_=>?_
 refine Tot.cnd (λ_=>Tot.bind (aE h s2 3 (by decide) (by omega)) λv ⟨⟨a,b⟩,s3⟩=>Tot.ix2 a b λ_ _ _=>Tot.ret (same _ _ rfl (s3.up (by omega)))) λ_=>?_
 exact Tot.bind (aE h s2 8 (by decide) (by omega)) λv9 ⟨_,s9⟩=>Tot.bind (aE h s9 3 (by decide) (by omega)) λv ⟨⟨a,b⟩,s3⟩=>Tot.ix2 a b λ_ _ _=>Tot.ret (same _ _ rfl (s3.up (by omega)))
end
section
variable {K:Nat} {b:List Int} {m:Nat} {s:List Int×Int}
theorem vT (h:fe b)(hs:bd b m s)(hm:m<=89000)(hK:1048577<K):Tot (Q118.f K (s,())) λr=>NS 9 r.1.1/\bd b (m+864) r.2.1:=by
 simp only[Q118.f];refine Tot.bind (xe h hs (by omega) hK) λn ⟨⟨i,hn⟩,s1⟩=>Tot.bind (aE h s1 20 (by decide) (by omega)) λv ⟨_,s2⟩=>Tot.cnd (λ_=>Tot.bind (vS h s2 n.1.1 hn.ns (AV _) (by omega) (by omega) hK) λr hr=>Tot.ret hr) λ_=>Tot.ret ⟨?_,s2.up (by omega)⟩
 obtain⟨h1,h2,h3,h4,h5,h6⟩:=hn.ns;exact⟨h1,AA h2,AA h3,AA h4,AA h5,AA h6⟩
end
theorem bd.zero (b:List Int):bd b 0 (b,0):=⟨0,AV _,rfl⟩
structure vU (code:List Int):Prop where
 byte:∀ y∈code,0<=y/\y<=255
 len:code.length<=9223372036854775807
theorem sR (K:Nat)(xs:List Int)(hx:xs.length<=1048576)(hK:1048577<K):Q170.f K (xs,xs,())=rb true:=by
 have hl:Q170.l0 K (xs,xs,()) 0=rb true:=by
  refine jh (step:=λrec a=>Q170.l0.step K (xs,xs,()) rec a) xs.length (λi=>(i:Int)) (rb true) ?_ ?_ (by omega)
  ·intro rec i hi;simp only[Q170.l0.step];rw[decide_eq_true (by omega:(i:Int)<(AC xs:Int)),ai hi,av i (by omega)];simp only[cond_true,AB,bne_self_eq_false,cond_false]
  ·intro rec;simp only[Q170.l0.step,bq];rfl
 simp only[Q170.f,Q170.pre,bne_self_eq_false,cond_false];exact hl
theorem szd (a b:Nat)(h:a+b<=1000):decide ((a+b)*8<=ah)=true:=decide_eq_true (by unfold ah;omega)
theorem yu (K:Nat)(n:aa)(c:Int)(rec0:Q179.A_l0->Option Q179.Res)(i:Nat)(hi:i<(aa.places n).length)(hib:i<=1048576)(d:Int)(N1 N2 D1 D2:List Int)(h1:N1.length=D1.length)(h2:N2.length=D2.length)(hs:N1.length+N2.length<=500)
  (hle:∀ y∈D1,y<=d) (hgt:∀ y∈D2,d<y):∀ (e m k:Nat),m+e=D1.length->e<k ->
   ae (λrec a=>Q179.l1.step K (n,c,()) rec0 rec a) k (N1++N2,D1++D2,(i:Int),d,(m:Int))=rec0 (N1++(aa.places n)[i].1::N2,D1++d::D2,((i+1:Nat):Int)):=by
 intro e;induction e with
 |succ e ih =>
  intro m k hm hk;obtain⟨k,rfl⟩:∃ k',k=k'+1:=⟨k-1,by omega⟩;have hlt:m<(D1++D2).length:=by simp;omega
  show Q179.l1.step K (n,c,()) _ _ _=_;simp only[Q179.l1.step];rw[bM (by omega:(m:Int)<(AC (D1++D2):Int)),ai hlt,av m (by omega)];simp only[cond_true,AB];have hm1:m<D1.length:=by omega
  have e1:(D1++D2)[m]=D1[m]:=List.getElem_append_left hm1;rw[e1,decide_eq_true (hle _ (AJ hm1))];exact ih (m+1) k (by omega) (by omega)
 |zero =>
  intro m k hm hk;obtain⟨k,rfl⟩:∃ k',k=k'+1:=⟨k-1,by omega⟩;have hm':m=D1.length:=by omega
  subst hm';show Q179.l1.step K (n,c,()) _ _ _=_;simp only[Q179.l1.step];have t1:(D1++D2).take D1.length=D1:=by simp
  have t2:(D1++D2).drop D1.length=D2:=by simp
  have t3:(N1++N2).take D1.length=N1:=by rw[<- h1];simp
  have t4:(N1++N2).drop D1.length=N2:=by rw[<- h1];simp
  have d1:decide ((0:Int)<=0)=true:=rfl;have d2:decide ((0:Int)<=(D1.length:Int))=true:=decide_eq_true (by omega);have d3:decide ((D1.length:Int)<=(AC (D1++D2):Int))=true:=decide_eq_true (by simp;omega);have d4:decide ((D1.length:Int)<=(AC (N1++N2):Int))=true:=decide_eq_true (by simp;omega);have d5:decide ((AC (D1++D2):Int)<=(AC (D1++D2):Int))=true:=decide_eq_true (by omega);have d6:decide ((AC (N1++N2):Int)<=(AC (N1++N2):Int))=true:=decide_eq_true (by omega);have r1:(D1++D2).take (D1++D2).length=D1++D2:=AT;have r2:(N1++N2).take (N1++N2).length=N1++N2:=AT;have w1:=av i (by omega);have hp:=ai hi;by_cases hc:(D1.length:Int)<(AC (D1++D2):Int)
  ·rw[decide_eq_true hc];have hlt:D1.length<(D1++D2).length:=by omega
   have h0:0<D2.length:=by simp at hlt;omega
   rw[ai hlt];have e1:(D1++D2)[D1.length]=D2[0]:=by simp
   simp only[cond_true,AB,e1];rw[decide_eq_false (by have:=hgt _ (AJ h0);omega:¬ D2[0]<=d)];simp only[cond_false,AD,AL,AM,t1,t2,t3,t4,d1,d2,d3,d4,d5,d6,r1,r2,Aq,cond_true,AG];rw[szd _ _ (by simp;omega),szd _ _ (by simp;omega),szd _ _ (by simp;omega),szd _ _ (by simp;omega)];simp only[cond_true];rw[show idx n.2.2.2.2.2.2.2.2.2.2.2.2.2.1 (i:Int)=_ from hp];simp only[AB];rw[szd _ _ (by simp;omega),szd _ _ (by simp;omega),w1];simp only[cond_true,Aj,AX,AG];rfl
  ·rw[decide_eq_false hc];simp only[cond_false,AD,AL,AM,t1,t2,t3,t4,d1,d2,d3,d4,d5,d6,r1,r2,Aq,cond_true,AG];rw[szd _ _ (by simp;omega),szd _ _ (by simp;omega),szd _ _ (by simp;omega),szd _ _ (by simp;omega)];simp only[cond_true];rw[show idx n.2.2.2.2.2.2.2.2.2.2.2.2.2.1 (i:Int)=_ from hp];simp only[AB];rw[szd _ _ (by simp;omega),szd _ _ (by simp;omega),w1];simp only[cond_true,Aj,AX,AG];rfl
noncomputable def bQ (K:Nat)(c d:cF):Int:=((Q68.f K (c,d,())).map λy=>y.1.1).getD 0
theorem jX (K:Nat)(c d:cF)(hK:1048577<K):Q68.f K (c,d,())=some ((bQ K c d,()),())/\Q165.f K (c,d,())=some ((bQ K c d,()),()):=by
 obtain⟨r,h1,h2⟩:=vF K c d hK;have:bQ K c d=r:=by unfold bQ;rw[h1];rfl
 rw[this];exact⟨h1,h2⟩
theorem iQ {α:Type}(lt:α->α->Bool)(ht:∀ a b c,lt a b=false->lt b c=false->lt a c=false)(x:α):∀ (A:List α),hH lt A->(A.filter λy=>!lt x y)++(A.filter λy=>lt x y)=A
 |[],_=>rfl
 |a::A,h=>by
  unfold hH at h;rw[List.pairwise_cons]at h;cases hl:lt x a with
  |false =>
   rw[AY (by simp[hl]),AZ (by simp[hl]),AX,iQ lt ht x A h.2]
  |true =>
   have hall:∀ b∈A,lt x b=true:=λb hb=>by
    cases hb2:lt x b with
    |true=>rfl
    |false=>have:=ht x b a hb2 (h.1 b hb);rw[hl]at this;cases this
   rw[AZ (by simp[hl]),AY (by simp[hl]),List.filter_eq_nil_iff.2 (λb hb=>by simp[hall b hb]),List.filter_eq_self.2 hall];rfl
def eB {α:Type}(lt:α->α->Bool)(p:α->Bool):List α->List α->List α
 |L,[]=>L
 |L,x::xs=>eB lt p (bif p x then (L.filter λy=>!lt x y)++x::(L.filter λy=>lt x y) else L) xs
theorem qb {α:Type}(lt:α->α->Bool)(p:α->Bool):∀ (xs L:List α),(eB lt p L xs).length<=L.length+xs.length
 |[],L=>AV _
 |x::xs,L=>by
  simp only[eB];refine AI (qb lt p xs _) ?_;cases p x with
  |false=>simp
  |true =>
   have:((L.filter λy=>!lt x y).length+(L.filter λy=>lt x y).length)=L.length:=by
    induction L with
    |nil=>rfl
    |cons a L ih=>simp only[Am];cases lt x a <;> simp <;> omega
   simp;omega
theorem qc {α:Type}(lt:α->α->Bool)(ht:∀ a b c,lt a b=false->lt b c=false->lt a c=false)(has:∀ a b,lt a b=true->lt b a=false)(p:α->Bool):∀ (xs done:List α),hH lt done->(dL lt done xs).filter p=eB lt p (done.filter p) xs
 |[],done,_=>rfl
 |x::xs,done,h=>by
  simp only[dL,eB];rw[qc lt ht has p xs _ (ox lt ht has x done h)];congr 1;rw[gn lt ht x done.reverse [] (by rwa [AN]),AN,An,List.filter_append,AR,Am,AR];have e1:(done.filter p).filter (λy=>!lt x y)=done.filter λa=>p a&&!lt x a:=by rw[AR];congr 1;funext a;exact Ar ..
  have e2:(done.filter p).filter (λy=>lt x y)=done.filter λa=>p a&&lt x a:=by rw[AR];congr 1;funext a;exact Ar ..
  cases hp:p x with
  |true =>
   simp only[if_true,cond_true];rw[e1,e2]
  |false =>
   simp only[cond_false];rw[if_neg (by simp)];rw[<- e1,<- e2,iQ lt ht x _ (List.Pairwise.filter p h)]
theorem rX {α:Type}(lt:α->α->Bool)(ht:∀ a b c,lt a b=false->lt b c=false->lt a c=false)(has:∀ a b,lt a b=true->lt b a=false)(p:α->Bool)(x:α)(L:List α)(h:hH lt L):hH lt (bif p x then (L.filter λy=>!lt x y)++x::(L.filter λy=>lt x y) else L):=by
 cases p x with
 |false=>exact h
 |true =>
  have:=ox lt ht has x L h;rw[gn lt ht x L.reverse [] (by rwa [AN]),AN,An]at this;exact this
noncomputable def ltP (K:Nat)(n:aa)(x y:bf):Bool:=decide (bQ K (aa.coord n) x.2.1<bQ K (aa.coord n) y.2.1)
theorem lW (K:Nat)(n:aa)(a b c:bf)(h1:ltP K n a b=false)(h2:ltP K n b c=false):ltP K n a c=false:=by
 unfold ltP at *;simp only[decide_eq_false_iff_not]at *;omega
theorem qd (K:Nat)(n:aa)(a b:bf)(h1:ltP K n a b=true):ltP K n b a=false:=by
 unfold ltP at *;simp only[decide_eq_false_iff_not,decide_eq_true_eq]at *;omega
def cG (t:List ag)(i:Int):Bool:=t.any λf=>f.1==i&&f.2.2.1==1
theorem nH {t:List ag}(hT:aA t){j:Nat}(hj:j<t.length):cG t t[j].1=(t[j].2.2.1==1):=by
 rw[Ao];unfold cG;rw[List.any_eq_true];constructor
 ·rintro⟨f,hf,h⟩;simp only[Bool.and_eq_true,beq_iff_eq]at h;rw[<- gh hT.2 hf (AJ hj) h.1];simpa using h.2
 ·intro h;exact⟨t[j],AJ hj,by simpa using h⟩
theorem nI {t:List ag}{i:Int}(h:∀ f∈t,f.1≠i):cG t i=false:=by
 unfold cG;rw[List.any_eq_false];intro f hf;simp[h f hf]
theorem hY {n:aa}(hP:e8 n)(hu:n.2.1=true):(aa.places n).length<=4:=by
 obtain⟨hT,hS,_,_,_,_,_,hp,hO⟩:=hP.up hu;cases h:(aa.places n).length with
 |zero=>omega
 |succ m =>
  have hlt:m<(aa.places n).length:=by omega
  have h0:0<(aa.places n).length:=by omega
  have h1:=tr hp.2 m hlt;have a1:=hp.1 _ (AJ hlt);have a2:=hp.1 _ (AJ h0);have b1:=a1.2.1;have b2:=a2.2.1;rw[gD a1.1]at b1;rw[gD a2.1]at b2;omega
theorem zt (K:Nat)(n:aa)(c:Int)(hn:NB n)(hP:e8 n)(hu:n.2.1=true)(hK:1048577<K):Q179.l0 K (n,c,()) ([],[],0)=some ((((eB (ltP K n) (λp=>cG (aa.table n) p.1) [] (aa.places n)).map (·.1)).take c.toNat,()),()):=by
 have hl:=hY hP hu;have hT:=(hP.up hu).1;have main:∀ (d i k:Nat) (L:List bf),i+d=(aa.places n).length->d<k->hH (ltP K n) L->L.length<=i ->
   ae (λrec a=>Q179.l0.step K (n,c,()) (Q179.l1 K (n,c,()) rec) rec a) k (L.map (·.1),L.map (λp=>bQ K (aa.coord n) p.2.1),(i:Int)) =
    some ((((eB (ltP K n) (λp=>cG (aa.table n) p.1) L ((aa.places n).drop i)).map (·.1)).take c.toNat,()),()):=by
  intro d;induction d with
  |zero =>
   intro i k L hi hk hs hL;obtain⟨k,rfl⟩:∃ k',k=k'+1:=⟨k-1,by omega⟩;have:i=(aa.places n).length:=by omega
   subst this;show Q179.l0.step K (n,c,()) _ _ _=_;simp only[Q179.l0.step,bq,cond_false,List.drop_length,eB];by_cases h0:c<0
   ·rw[decide_eq_true h0,show c.toNat=0 by omega];rfl
   ·rw[decide_eq_false h0];simp only[cond_false];by_cases h1:(AC (L.map (λp:bf=>p.1)):Int)>c
    ·rw[decide_eq_true h1];simp only[cond_true];rw[decide_eq_true (show (0:Int)<=c by omega),decide_eq_true (show c<=(AC (L.map (λp:bf=>p.1)):Int) by omega)];simp
    ·rw[decide_eq_false h1];simp only[cond_false];rw[List.take_of_length_le (by omega)]
  |succ d ih =>
   intro i k L hi hk hs hL;obtain⟨k,rfl⟩:∃ k',k=k'+1:=⟨k-1,by omega⟩;have hlt:i<(aa.places n).length:=by omega
   show Q179.l0.step K (n,c,()) _ _ _=_;simp only[Q179.l0.step];rw[bM (by omega:(i:Int)<(AC (aa.places n):Int)),ai hlt,av i (by omega),List.drop_eq_getElem_cons hlt];simp only[cond_true,AB,eB];obtain⟨o,ho,h1⟩:=ew K (aa.table n) (aa.places n)[i].1 hn.table hK;rw[show Q45.f K (n.2.2.2.2.2.2.2.2.1,(aa.places n)[i].1,())=_ from h1];simp only[AB];cases ho with
   |no h2 =>
    rw[nI h2];rw[show decide ((-1:Int)<0)=true from rfl];simp only[cond_true,cond_false];exact ih (i+1) k L (by omega) (by omega) hs (by omega)
   |at_ j hj e =>
    have hlv:cG (aa.table n) (aa.places n)[i].1=((aa.table n)[j].2.2.1==1):=by rw[<- e];exact nH hT hj
    rw[hlv,nneg (by omega:(0:Int)<=(j:Int))];simp only[cond_false];rw[show idx n.2.2.2.2.2.2.2.2.1 (j:Int)=_ from ai hj];simp only[AB];cases hc:(aa.table n)[j].2.2.1==1 with
    |false =>
     rw[show ((aa.table n)[j].2.2.1 != 1)=true by rw[bne,hc];rfl];simp only[cond_true,cond_false];exact ih (i+1) k L (by omega) (by omega) hs (by omega)
    |true =>
     rw[show ((aa.table n)[j].2.2.1 != 1)=false by rw[bne,hc];rfl];simp only[cond_true,cond_false];rw[(jX K n.2.2.2.2.2.2.2.2.2.2.2.2.1 (aa.places n)[i].2.1 hK).1];simp only[AB];have hsplit:=iQ (ltP K n) (lW K n) (aa.places n)[i] L hs;have hnew:=rX (ltP K n) (lW K n) (qd K n) (λ_=>true) (aa.places n)[i] L hs;simp only[cond_true]at hnew;have hlens:(L.filter λy=>!ltP K n (aa.places n)[i] y).length+(L.filter λy=>ltP K n (aa.places n)[i] y).length=L.length:=by rw[<- AQ,hsplit]
     have hA:∀ y∈(L.filter λy=>!ltP K n (aa.places n)[i] y),bQ K (aa.coord n) y.2.1<=bQ K (aa.coord n) (aa.places n)[i].2.1:=λy hy=>by
      have:=(Ab.1 hy).2;simp only[ltP,Bool.not_eq_true',decide_eq_false_iff_not]at this;omega
     have hB:∀ y∈(L.filter λy=>ltP K n (aa.places n)[i] y),bQ K (aa.coord n) (aa.places n)[i].2.1<bQ K (aa.coord n) y.2.1:=λy hy=>by
      have:=(Ab.1 hy).2;simpa only[ltP,decide_eq_true_eq]using this
     have ih':=ih (i+1) k _ (by omega) (by omega) hnew (by simp;omega);generalize hL1:(L.filter λy=>!ltP K n (aa.places n)[i] y)=L1 at hsplit hlens hA ih';generalize hL2:(L.filter λy=>ltP K n (aa.places n)[i] y)=L2 at hsplit hlens hB ih';subst hsplit;have hr:=yu K n c (ae (λrec a=>Q179.l0.step K (n,c,()) (Q179.l1 K (n,c,()) rec) rec a) k) i hlt (by omega) (bQ K (aa.coord n) (aa.places n)[i].2.1) (L1.map (·.1)) (L2.map (·.1)) (L1.map λp=>bQ K (aa.coord n) p.2.1) (L2.map λp=>bQ K (aa.coord n) p.2.1) (by simp) (by simp) (by simp;omega)
      (λy hy=>by obtain⟨q,hq,e2⟩:=Ai.1 hy;rw[<- e2];exact hA q hq) (λy hy=>by obtain⟨q,hq,e2⟩:=Ai.1 hy;rw[<- e2];exact hB q hq) L1.length 0 K (by simp) (by omega)
     rw[Ac,Ac];refine Eq.trans hr ?_;simp only[Ac,List.map_cons]at ih';exact ih'
 have:=main (aa.places n).length 0 K [] (by omega) (by omega) List.Pairwise.nil (by simp);exact this
theorem is_i (K:Nat)(n:aa)(i:Int)(hn:NB n)(hT:aA (aa.table n))(hK:1048577<K):∃ s,Q167.f K (n,i,())=some ((s,()),())/\(s==1)=cG (aa.table n) i:=by
 simp only[Q167.f];rcases iH K (aa.table n) i hn.table hK with ⟨h1,_⟩|⟨_,⟨f,hf,e,h1⟩|⟨h2,h1⟩⟩
 ·exact absurd hT h1
 ·rw[show Q130.f K (n.2.2.2.2.2.2.2.2.1,i,())=_ from h1];refine⟨_,rfl,?_⟩;obtain⟨j,hj,e2⟩:=AU hf;rw[<- e,<- e2];exact (nH hT hj).symm
 ·rw[show Q130.f K (n.2.2.2.2.2.2.2.2.1,i,())=_ from h1];refine⟨_,rfl,?_⟩;rw[nI h2];rfl
theorem xf (K:Nat)(n:aa)(hK:1048577<K)(y z:bf):∃ c,(Q166.f K (y,z,n,())).map (λr=>r.1.1)=some c/\decide (c<0)=ltP K n y z:=by
 simp only[Q166.f];rw[(jX K n.2.2.2.2.2.2.2.2.2.2.2.2.1 y.2.1 hK).2];simp only[AB];rw[(jX K n.2.2.2.2.2.2.2.2.2.2.2.2.1 z.2.1 hK).2];simp only[AB];rw[kz];refine⟨_,rfl,?_⟩;rw[Ao];simp only[decide_eq_true_eq,ltP];exact nv _ _
theorem vV (K:Nat)(n:aa)(c:Int)(hn:NB n)(hP:e8 n)(hu:n.2.1=true)(hK:1048577<K):((Q1.f K (n.2.2.2.2.2.2.2.2.2.2.2.2.2.1,())).bind λy2=>(Q160.f K (y2.1.1,λy3=>(Q166.f K (y3.1,y3.2.1,n,())).map λy=>y.1.1,())).bind λy4=>Q169.l0 K (n,c,()) (y4.2.1,[],(AC y4.2.1:Int),0)) =
  some ((((eB (ltP K n) (λp=>cG (aa.table n) p.1) [] (aa.places n)).map (·.1)).take c.toNat,()),()):=by
 have hl:=hY hP hu;have hT:=(hP.up hu).1;simp only[Q1.f];rw[ru (by show (aa.places n).length*_<=_;omega)];simp only[AB];rw[show Q160.f K (n.2.2.2.2.2.2.2.2.2.2.2.2.2.1,(λy3=>(Q166.f K (y3.1,y3.2.1,n,())).map λy=>y.1.1),())=_ from vr K (aa.places n) _ (ltP K n) (λy z=>xf K n hK y z) (by omega) hK];simp only[AB];have hf:=qc (ltP K n) (lW K n) (qd K n) (λp=>cG (aa.table n) p.1) (aa.places n) [] List.Pairwise.nil;rw[List.filter_nil]at hf;rw[<- hf];have hp:(dL (ltP K n) [] (aa.places n)).length<=4:=by
  have:=(k7 (ltP K n) (aa.places n) []).length_eq;rw[this];simpa using hl
 generalize dL (ltP K n) [] (aa.places n)=S at hp;have hg:=od (step:=λ (rec:List Int×Int->Option Q169.Res) a=>Q169.l0.step K (n,c,()) (λz=>rec (z.2.1,z.2.2.2)) (S,a.1,(AC S:Int),a.2)) S (λp=>cG (aa.table n) p.1) (λp=>p.1) (λxs=>(Q168.f K (xs,c,())).bind λy8=>some ((y8.1.1,()),())) ?_ ?_ (k:=K) (by omega)
 ·have hconv:∀ (k:Nat) (a:List Int×Int),ae (λ (rec:List Int×Int->Option Q169.Res) a=>Q169.l0.step K (n,c,()) (λz=>rec (z.2.1,z.2.2.2)) (S,a.1,(AC S:Int),a.2)) k a=ae (λrec a=>Q169.l0.step K (n,c,()) rec a) k (S,a.1,(AC S:Int),a.2):=by
   intro k;induction k with
   |zero=>intro a;rfl
   |succ k ih =>
    intro a;have key:∀ (X:List Int×Int->Option Q169.Res) (Y:Q169.A_l0->Option Q169.Res),(∀ a:List Int×Int,X a=Y (S,a.1,(AC S:Int),a.2)) ->
      Q169.l0.step K (n,c,()) (λz=>X (z.2.1,z.2.2.2)) (S,a.1,(AC S:Int),a.2)=Q169.l0.step K (n,c,()) Y (S,a.1,(AC S:Int),a.2):=by
     intro X Y h;simp only[Q169.l0.step,h]
    exact key _ _ ih
  have:=hconv K ([],0);refine (show Q169.l0 K (n,c,()) (S,[],(AC S:Int),0)=_ from this.symm.trans hg).trans ?_;rw[xV K _ c (by have:=Ad (λp:bf=>cG (aa.table n) p.1) S;simp;omega)];rfl
 ·intro rec acc i hi ha;simp only[Q169.l0.step];rw[bM (by omega:(i:Int)<(AC S:Int)),ai hi,av i (by omega)];simp only[cond_true,AB,AD];rw[ai hi];simp only[AB];obtain⟨s,h1,h2⟩:=is_i K n S[i].1 hn hT hK;rw[h1];simp only[AB,h2];cases cG (aa.table n) S[i].1 with
  |true=>simp only[cond_true];rw[vh (by simp;omega)]
  |false=>rfl
 ·intro rec acc _;simp only[Q169.l0.step];rw[decide_eq_false (by omega:¬ (AC S:Int)<(AC S:Int))];rfl
theorem lD (K:Nat)(n:aa)(c:Int)(hn:NB n)(hK:1048577<K):∃ r:List Int,r.length<=1048576/\Q179.f K (n,c,())=some ((r,()),())/\Q169.f K (n,c,())=some ((r,()),())/\((¬ (e8 n/\n.2.1=true)/\r=[])\/(e8 n/\n.2.1=true/\r=((eB (ltP K n) (λp=>cG (aa.table n) p.1) [] (aa.places n)).map (·.1)).take c.toNat)):=by
 obtain⟨b,h1,h2,h3⟩:=mO K n hn hK;simp only[Q179.f,Q179.pre,Q169.f,Q169.pre];rw[h1,h2];cases b with
 |false=>exact⟨[],by simp,rfl,rfl,.inl ⟨λh=>(by have:=h3.2 h.1;cases this),rfl⟩⟩
 |true =>
  have hP:=h3.1 rfl;simp only[AB,At,cond_false];cases hu:n.2.1 with
  |false=>exact⟨[],by simp,rfl,rfl,.inl ⟨λh=>(by cases h.2),rfl⟩⟩
  |true =>
   simp only[At,cond_false];rw[zt K n c hn hP hu hK,vV K n c hn hP hu hK];refine⟨_,?_,rfl,rfl,.inr ⟨hP,by trivial,rfl⟩⟩;have h4:=qb (ltP K n) (λp=>cG (aa.table n) p.1) (aa.places n) [];have h5:=hY hP hu;simp at h4;simp;omega
end Go.Proofs.YtmcbmojdeikcdaaGreatEv
