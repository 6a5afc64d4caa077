/- FnNodeNear: for every input the law returns true, and each argument reads behind the call as it read before. -/
import Derived.Test.YtmcbmojdeikcdaaGreatRows
import Derived.Test.YtmcbmojdeikcdaaGreatSnd
import Derived.Test.YtmcbmojdeikcdaaGreatLawFnNodeNear
import Derived.Test.YtmcbmojdeikcdaaGreatE6
set_option linter.unusedVariables false
set_option linter.unusedSimpArgs false
open List renaming length_cons->AA
namespace Go.Proofs.YtmcbmojdeikcdaaGreat
open Go.ChangeShapes Go.WideShapes Go.ChangeAt Go.RowKit Go.Proofs.YtmcbmojdeikcdaaGreatEv
theorem Tryz.own:ownKnob Tryz.prog.godebug=none:=by kernel_rfl
theorem Tryz.laidOut:laidOutB Tryz.prog=true:=by kernel_rfl
theorem trodAll_len {H:Type}{enc:TypeId×Value->H}{P:Program}{W:World}{b:Nat}{sp:Nat->Bool}{hd:Bool}:∀ {ts:List TypeId} {vs:List Value} {ds:List (DataW H)} {ps:List MemPlace},DataW.TrodAll enc P W b sp hd ts vs ds ps->ds.length=ts.length
 |[],[],[],_,_=>rfl
 |[],[],_::_,_,h=>h.elim
 |[],_::_,_,_,h=>h.elim
 |_::_,[],_,_,h=>h.elim
 |_::_,_::_,[],_,h=>h.elim
 |_::_,_::_,_::_,_,⟨_,_,_,h,_⟩=>by rw[AA,AA,trodAll_len h]
theorem byte_of {y:Int}(h:(Lit.int .u8 y).wf=true):0<=y/\y<=255:=by
 simp only[Lit.wf,Bool.and_eq_true,decide_eq_true_eq]at h;exact h
set_option maxRecDepth 100000 in
theorem fnNodeNear_lifted (os:Os)(started:os.Started)(H:Type)(enc:TypeId×Value->H) :
  ReturnsInHanded {} Tryz.checked os 3 .any (Rows.fnNodeNearSpec.pre6 enc Tryz.prog Tryz.f3 Rows.fnNodeNearRow.domain false) (Rows.fnNodeNearSpec.post enc Tryz.prog Tryz.f3 false true false false):=by
 refine returnsInHanded_of_change (C:=Tryz.checked) Tryz.own started (by kernel_rfl) Tryz.func3
  (ChangeSpec.witness6 (enc:=enc) (C:=Tryz.checked) false ⟨#[],#[.slice none 0 0],[]⟩ 8 (by kernel_rfl) (by kernel_rfl) (by kernel_rfl) (by kernel_rfl)) ?_
 intro W base args ds gs before hval hW hcnd _;have hW':=hW;obtain⟨p,q,hA,hV,e0,hfz,hnd⟩:=hW;obtain⟨x,hx,hsx⟩:=qA (pr:=λk=>k<W.heap.size) [.list false 5 (.int .u8)] Tryz.f3.params.toList args.toList ds p (by kernel_rfl) hA ⟨base,λj t v h1 h2=>hval j t v (by simpa using h1) (by simpa using h2)⟩;have hcalls:=wt (tys:=[.list false 5 (.int .u8)]) (Q183.sound 1048578) (x:=x) hx (pt 1048578 x.1 ⟨λy hy=>byte_of (hsx.1.2 y hy),Nat.le_trans hsx.1.1 (by decide)⟩ (by omega));rw[Array.toArray_toList]at hcalls;refine hcalls.mono λe W' ⟨he,hb⟩=>?_
 subst he;have hlen:ds.length=1:=(trodAll_len hA).trans (by rw[Tryz.params3];rfl);have hgs:gs=[]:=(trodVars_none hV).1;subst hgs
 match ds,hlen,hW' with
 |[d0],_,hW' =>
  exact⟨_,rfl,qE Tryz.laidOut hW' rfl hb (by rw[Tryz.params3];decide +kernel) (tb:=Tryz.f3.resultTypes[0]!) (by kernel_rfl) (by kernel_rfl) rfl rfl rfl⟩
theorem band {a b:Bool}(h1:a=true)(h2:b=true):(a&&b)=true:=by rw[h1,h2];rfl
set_option maxHeartbeats 4000000 in
theorem fnNodeNear_closed:joinedFacts Tryz.pinned.checked.prog 3 Tryz.f3 Rows.fnNodeNearSpec Rows.fnNodeNearRow=true:=by
 unfold joinedFacts;repeat' with_reducible apply band
 all_goals (as_aux_lemma=>kernel_rfl)
set_option maxHeartbeats 4000000 in
theorem fnNodeNear_holds:Rows.FnNodeNearSaid :=
 OpenClaim.holds_of_wide 3 Tryz.f3 rfl rfl rfl rfl rfl rfl rfl ⟨rfl,rfl,rfl,rfl,rfl⟩ rfl rfl rfl rfl rfl (by as_aux_lemma=>kernel_rfl) Tryz.func3 fnNodeNear_closed
  (of_decide_eq_true (by kernel_rfl)) (by unfold Func.isWrapper;first|(rw[if_pos (by decide +kernel)];kernel_rfl)|(rw[if_neg (by decide +kernel)];exact⟨rfl,rfl⟩))
  (λos started H enc _=>fnNodeNear_lifted os started H enc)
end Go.Proofs.YtmcbmojdeikcdaaGreat
