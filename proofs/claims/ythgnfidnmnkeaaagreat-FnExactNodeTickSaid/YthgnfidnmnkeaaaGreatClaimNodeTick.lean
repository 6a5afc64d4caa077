/- FnExactNodeTick: for every input the law returns true, and each argument reads behind the call as it read before. -/
import Derived.Test.YthgnfidnmnkeaaaGreatRows
import Derived.Test.YthgnfidnmnkeaaaGreatSnd
import Derived.Test.YthgnfidnmnkeaaaGreatLawNodeTick
import Derived.Test.YthgnfidnmnkeaaaGreatE8
namespace Go.Proofs.YthgnfidnmnkeaaaGreat
open Go.ChangeShapes Go.WideShapes Go.ChangeAt Go.RowKit Go.Proofs.YthgnfidnmnkeaaaGreatEv
theorem Tryz.own:ownKnob Tryz.prog.godebug=none:=by kernel_rfl
theorem Tryz.laidOut:laidOutB Tryz.prog=true:=by kernel_rfl
theorem trodAll_len {H:Type}{enc:TypeId×Value→H}{P:Program}{W:World}{b:Nat}{sp:Nat→Bool}{hd:Bool}:∀ {ts:List TypeId} {vs:List Value} {ds:List (DataW H)} {ps:List MemPlace},DataW.TrodAll enc P W b sp hd ts vs ds ps→ds.length=ts.length
 |[],[],[],_,_=>rfl
 |[],[],_::_,_,h=>h.elim
 |[],_::_,_,_,h=>h.elim
 |_::_,[],_,_,h=>h.elim
 |_::_,_::_,[],_,h=>h.elim
 |_::_,_::_,_::_,_,⟨_,_,_,h,_⟩=>by rw[List.length_cons,List.length_cons,trodAll_len h]
theorem nm_of {n:Go.Proofs.YthgnfidnmnkeaaaGreatEv.Node}(h:Sm ty_laws_Node_S n):NM n:=by
 obtain⟨_,_,_,_,_,_,_,_,⟨a1,_⟩,⟨a2,_⟩,_,⟨a3,b3⟩,_,⟨a4,b4⟩,⟨a5,b5⟩⟩:=h
 have e:∀ {k:Nat},k≤maxLen→k≤9223372036854775807:=fun h=>Nat.le_trans h (by decide)
 refine⟨e a1,e a2,e a3,fun d hd=>?_,e a4,fun p hp=>?_,e a5,fun x hx=>?_⟩
 ·obtain⟨_,_,_,h,_⟩:=b3 d hd;exact e h
 ·obtain⟨_,_,h,_⟩:=b4 p hp;exact e h
 ·obtain⟨_,h,_⟩:=b5 x hx;exact e h
set_option maxRecDepth 100000 in
theorem fnExactNodeTick_lifted (os:Os)(started:os.Started)(H:Type)(enc:TypeId×Value→H) :
  ReturnsInHanded {} Tryz.checked os 13 .any (Rows.fnExactNodeTickSpec.pre6 enc Tryz.prog Tryz.f13 Rows.fnExactNodeTickRow.domain false) (Rows.fnExactNodeTickSpec.post enc Tryz.prog Tryz.f13 false true false false):=by
 refine returnsInHanded_of_change (C:=Tryz.checked) Tryz.own started (by kernel_rfl) Tryz.func13
  (ChangeSpec.witness6 (enc:=enc) (C:=Tryz.checked) false ⟨#[],#[.agg #[.int .i64 0,.bool false,.bool false,.bool false,.int .i64 0,.int .i64 0,.int .i64 0,.int .i64 0,.slice none 0 0,.slice none 0 0,.int .i64 0,.int .i64 0,.int .i64 0,.bool false,.slice none 0 0,.int .i64 0,.int .i64 0,.int .i64 0,.int .i64 0,.slice none 0 0,.slice none 0 0],.int .i64 0],[]⟩ 8 (by kernel_rfl) (by kernel_rfl) (by kernel_rfl) (by kernel_rfl)) ?_
 intro W base args ds gs before hval hW hcnd _
 have hW':=hW
 obtain⟨p,q,hA,hV,e0,hfz,hnd⟩:=hW
 obtain⟨x,hx,hsx⟩:=pF (pr:=fun k=>k<W.heap.size) [ty_laws_Node_S,.int .i64] Tryz.f13.params.toList args.toList ds p (by kernel_rfl) hA ⟨base,fun j t v h1 h2=>hval j t v (by simpa using h1) (by simpa using h2)⟩
 have hcalls:=vr (tys:=[ty_laws_Node_S,.int .i64]) (Q196.sound 1048578) (x:=x) hx (qS 1048578 x.1 x.2.1 (nm_of hsx.1) (by omega))
 rw[Array.toArray_toList]at hcalls
 refine hcalls.mono fun e W' ⟨he,hb⟩=>?_
 subst he
 have hlen:ds.length=2:=(trodAll_len hA).trans (by rw[Tryz.params13];rfl)
 have hgs:gs=[]:=(trodVars_none hV).1
 subst hgs
 match ds,hlen,hW' with
 |[d0,d1],_,hW' =>
  exact⟨_,rfl,pT Tryz.laidOut hW' rfl hb (by rw[Tryz.params13];decide +kernel) (tb:=Tryz.f13.resultTypes[0]!) (by kernel_rfl) (by kernel_rfl) rfl rfl rfl⟩
theorem band {a b:Bool}(h1:a=true)(h2:b=true):(a&&b)=true:=by rw[h1,h2];rfl
set_option maxHeartbeats 4000000 in
theorem fnExactNodeTick_closed:joinedFacts Tryz.pinned.checked.prog 13 Tryz.f13 Rows.fnExactNodeTickSpec Rows.fnExactNodeTickRow=true:=by
 unfold joinedFacts
 repeat' with_reducible apply band
 all_goals (as_aux_lemma=>kernel_rfl)
set_option maxHeartbeats 4000000 in
theorem fnExactNodeTick_holds:Rows.FnExactNodeTickSaid :=
 OpenClaim.holds_of_wide 13 Tryz.f13 rfl rfl rfl rfl rfl rfl rfl ⟨rfl,rfl,rfl,rfl,rfl⟩ rfl rfl rfl rfl rfl (by as_aux_lemma=>kernel_rfl) Tryz.func13 fnExactNodeTick_closed
  (of_decide_eq_true (by kernel_rfl)) (by unfold Func.isWrapper;first|(rw[if_pos (by decide +kernel)];kernel_rfl)|(rw[if_neg (by decide +kernel)];exact⟨rfl,rfl⟩))
  (fun os started H enc _=>fnExactNodeTick_lifted os started H enc)
end Go.Proofs.YthgnfidnmnkeaaaGreat
