/- FnNodeTurn: for every input the law returns true, and each argument reads behind the call as it read before. -/
import Derived.Test.YtadlacffdemoiaaGreatRows
import Derived.Test.YtadlacffdemoiaaGreatSnd
import Derived.Test.YtadlacffdemoiaaGreatLawFnNodeTurn
import Derived.Test.YtadlacffdemoiaaGreatE6
set_option linter.unusedVariables false
set_option linter.unusedSimpArgs false
open List renaming length_cons->BQ
namespace Go.Proofs.YtadlacffdemoiaaGreat
open Go.ChangeShapes Go.WideShapes Go.ChangeAt Go.RowKit Go.Proofs.YtadlacffdemoiaaGreatEv
theorem Tryz.own:ownKnob Tryz.prog.godebug=none:=by kernel_rfl
theorem Tryz.laidOut:laidOutB Tryz.prog=true:=by kernel_rfl
theorem trodAll_len {H:Type}{enc:TypeId×Value->H}{P:Program}{W:World}{b:Nat}{u:Nat->Bool}{z:Bool}:∀ {r:List TypeId} {y:List Value} {ds:List (DataW H)} {ps:List MemPlace},DataW.TrodAll enc P W b u z r y ds ps->ds.length=r.length
 |[],[],[],_,_=>rfl
 |[],[],_::_,_,h=>h.elim
 |[],_::_,_,_,h=>h.elim
 |_::_,[],_,_,h=>h.elim
 |_::_,_::_,[],_,h=>h.elim
 |_::_,_::_,_::_,_,⟨_,_,_,h,_⟩=>by rw[BQ,BQ,trodAll_len h]
theorem byte_of {y:Int}(h:(Lit.int .u8 y).wf=true):0<=y/\y<=255:=by
 simp only[Lit.wf,Bool.and_eq_true,decide_eq_true_eq]at h;exact h
set_option maxRecDepth 100000 in
theorem fnNodeTurn_lifted (os:Os)(u:os.Started)(H:Type)(enc:TypeId×Value->H) :
  ReturnsInHanded {} Tryz.checked os 6 .any (Rows.fnNodeTurnSpec.pre6 enc Tryz.prog Tryz.f6 Rows.fnNodeTurnRow.domain false) (Rows.fnNodeTurnSpec.post enc Tryz.prog Tryz.f6 false true false false):=by
 refine returnsInHanded_of_change (C:=Tryz.checked) Tryz.own u (by kernel_rfl) Tryz.func6
  (ChangeSpec.witness6 (enc:=enc) (C:=Tryz.checked) false ⟨#[],#[.slice none 0 0,.slice none 0 0],[]⟩ 8 (by kernel_rfl) (by kernel_rfl) (by kernel_rfl) (by kernel_rfl)) ?_
 intro W R J ds gs X M hW a0 _;have I:=hW;obtain⟨p,q,hA,hV,e0,a2,a1⟩:=hW;obtain⟨x,hx,z⟩:=se (pr:=λk=>k<W.heap.size) [.list false 5 (.int .u8),.list false 5 (.int .u8)] Tryz.f6.params.toList J.toList ds p (by kernel_rfl) hA ⟨R,λj t v h1 h2=>M j t v (by simpa using h1) (by simpa using h2)⟩;have r:=yn (tys:=[.list false 5 (.int .u8),.list false 5 (.int .u8)]) (Q233.o 1048578) (x:=x) hx (qP 1048578 x.1 x.2.1 ⟨λy Y=>byte_of (z.1.2 y Y),Nat.le_trans z.1.1 (by decide)⟩ ⟨λy Y=>byte_of (z.2.1.2 y Y),Nat.le_trans z.2.1.1 (by decide)⟩ (by omega));rw[Array.toArray_toList]at r;refine r.mono λe W' ⟨he,hb⟩=>?_
 subst he;have O:ds.length=2:=(trodAll_len hA).trans (by rw[Tryz.params6];rfl);have Z:gs=[]:=(trodVars_none hV).1;subst Z
 match ds,O,I with
 |[d0,d1],_,I =>
  exact⟨_,rfl,sl Tryz.laidOut I rfl hb (by rw[Tryz.params6];decide +kernel) (tb:=Tryz.f6.resultTypes[0]!) (by kernel_rfl) (by kernel_rfl) rfl rfl rfl⟩
theorem band {a b:Bool}(r:a=true)(u:b=true):(a&&b)=true:=by rw[r,u];rfl
set_option maxHeartbeats 4000000 in
theorem fnNodeTurn_closed:joinedFacts Tryz.pinned.checked.prog 6 Tryz.f6 Rows.fnNodeTurnSpec Rows.fnNodeTurnRow=true:=by
 unfold joinedFacts;repeat' with_reducible apply band
 all_goals (as_aux_lemma=>kernel_rfl)
set_option maxHeartbeats 4000000 in
theorem fnNodeTurn_holds:Rows.FnNodeTurnSaid :=
 OpenClaim.holds_of_wide 6 Tryz.f6 rfl rfl rfl rfl rfl rfl rfl ⟨rfl,rfl,rfl,rfl,rfl⟩ rfl rfl rfl rfl rfl (by as_aux_lemma=>kernel_rfl) Tryz.func6 fnNodeTurn_closed
  (of_decide_eq_true (by kernel_rfl)) (by unfold Func.isWrapper;first|(rw[if_pos (by decide +kernel)];kernel_rfl)|(rw[if_neg (by decide +kernel)];exact⟨rfl,rfl⟩))
  (λy r H u _=>fnNodeTurn_lifted y r H u)
end Go.Proofs.YtadlacffdemoiaaGreat
