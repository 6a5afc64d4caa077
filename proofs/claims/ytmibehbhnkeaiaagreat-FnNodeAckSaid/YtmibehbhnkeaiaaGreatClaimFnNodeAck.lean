/- FnNodeAck: for every input the law returns true, and each argument reads behind the call as it read before. -/
import Derived.Test.YtmibehbhnkeaiaaGreatRows
import Derived.Test.YtmibehbhnkeaiaaGreatSnd
import Derived.Test.YtmibehbhnkeaiaaGreatLawFnNodeAck
import Derived.Test.YtmibehbhnkeaiaaGreatE6
set_option linter.unusedVariables false
set_option linter.unusedSimpArgs false
open List renaming length_cons->FJ
namespace Go.Proofs.YtmibehbhnkeaiaaGreat
open Go.ChangeShapes Go.WideShapes Go.ChangeAt Go.RowKit Go.Proofs.YtmibehbhnkeaiaaGreatEv
theorem Tryz.own:ownKnob Tryz.prog.godebug=none:=by kernel_rfl
theorem Tryz.laidOut:laidOutB Tryz.prog=true:=by kernel_rfl
theorem trodAll_len {H:Type}{enc:TypeId×Value->H}{P:Program}{W:World}{b:Nat}{y:Nat->Bool}{u:Bool}:∀ {r:List TypeId} {z:List Value} {ds:List (DataW H)} {ps:List MemPlace},DataW.TrodAll enc P W b y u r z ds ps->ds.length=r.length
 |[],[],[],_,_=>rfl
 |[],[],_::_,_,h=>h.elim
 |[],_::_,_,_,h=>h.elim
 |_::_,[],_,_,h=>h.elim
 |_::_,_::_,[],_,h=>h.elim
 |_::_,_::_,_::_,_,⟨_,_,_,h,_⟩=>by rw[FJ,FJ,trodAll_len h]
theorem byte_of {y:Int}(h:(Lit.int .u8 y).wf=true):0<=y/\y<=255:=by
 simp only[Lit.wf,Bool.and_eq_true,decide_eq_true_eq]at h;exact h
set_option maxRecDepth 100000 in
theorem fnNodeAck_lifted (os:Os)(u:os.Started)(H:Type)(enc:TypeId×Value->H) :
  ReturnsInHanded {} Tryz.checked os 7 .any (Rows.fnNodeAckSpec.pre6 enc Tryz.prog Tryz.f7 Rows.fnNodeAckRow.domain false) (Rows.fnNodeAckSpec.post enc Tryz.prog Tryz.f7 false true false false):=by
 refine returnsInHanded_of_change (C:=Tryz.checked) Tryz.own u (by kernel_rfl) Tryz.func7
  (ChangeSpec.witness6 (enc:=enc) (C:=Tryz.checked) false ⟨#[],#[.slice none 0 0],[]⟩ 8 (by kernel_rfl) (by kernel_rfl) (by kernel_rfl) (by kernel_rfl)) ?_
 intro W J I Y gs X R hW a0 _;have z:=hW;obtain⟨p,q,hA,hV,e0,a1,a2⟩:=hW;obtain⟨x,hx,O⟩:=tj (pr:=λk=>k<W.heap.size) [.list false 5 (.int .u8)] Tryz.f7.params.toList I.toList Y p (by kernel_rfl) hA ⟨J,λj t v h1 h2=>R j t v (by simpa using h1) (by simpa using h2)⟩;have r:=zH (tys:=[.list false 5 (.int .u8)]) (Q256.o 1048578) (x:=x) hx (EX 1048578 x.1 ⟨λy hy=>byte_of (O.1.2 y hy),Nat.le_trans O.1.1 (by decide)⟩ (by omega));rw[Array.toArray_toList]at r;refine r.mono λe W' ⟨he,hb⟩=>?_
 subst he;have M:Y.length=1:=(trodAll_len hA).trans (by rw[Tryz.params7];rfl);have Z:gs=[]:=(trodVars_none hV).1;subst Z
 match Y,M,z with
 |[d0],_,z =>
  exact⟨_,rfl,tt Tryz.laidOut z rfl hb (by rw[Tryz.params7];decide +kernel) (tb:=Tryz.f7.resultTypes[0]!) (by kernel_rfl) (by kernel_rfl) rfl rfl rfl⟩
theorem band {a b:Bool}(r:a=true)(u:b=true):(a&&b)=true:=by rw[r,u];rfl
set_option maxHeartbeats 4000000 in
theorem fnNodeAck_closed:joinedFacts Tryz.pinned.checked.prog 7 Tryz.f7 Rows.fnNodeAckSpec Rows.fnNodeAckRow=true:=by
 unfold joinedFacts;repeat' with_reducible apply band
 all_goals (as_aux_lemma=>kernel_rfl)
set_option maxHeartbeats 4000000 in
theorem fnNodeAck_holds:Rows.FnNodeAckSaid :=
 OpenClaim.holds_of_wide 7 Tryz.f7 rfl rfl rfl rfl rfl rfl rfl ⟨rfl,rfl,rfl,rfl,rfl⟩ rfl rfl rfl rfl rfl (by as_aux_lemma=>kernel_rfl) Tryz.func7 fnNodeAck_closed
  (of_decide_eq_true (by kernel_rfl)) (by unfold Func.isWrapper;first|(rw[if_pos (by decide +kernel)];kernel_rfl)|(rw[if_neg (by decide +kernel)];exact⟨rfl,rfl⟩))
  (λy r H u _=>fnNodeAck_lifted y r H u)
end Go.Proofs.YtmibehbhnkeaiaaGreat
