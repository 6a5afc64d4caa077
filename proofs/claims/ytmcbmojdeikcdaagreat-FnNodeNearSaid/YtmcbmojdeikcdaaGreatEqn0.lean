/- The kernel finds them so. Printed by run3.py. -/
import Derived.Test.YtmcbmojdeikcdaaGreatFns
set_option linter.unusedVariables false
set_option maxRecDepth 100000
set_option linter.unusedVariables false
set_option linter.unusedSimpArgs false

namespace Go.Proofs.YtmcbmojdeikcdaaGreatEv
open Go Go.Proofs
namespace Q5
theorem h_l2 (K:Nat)(x:ab ps)(r_l2:St->Option Res)(a:A_l2):ev K (sub body [1,1,1,1,1,1,1,1,1,0,1,0,0]) (S_l2 x a) (bC live_l2 r_l2 (k_l2 K x))=l2.step K x (λa=>r_l2 (S_l2 x a)) a:=by kernel_rfl
theorem ok_l2 (K:Nat)(x:ab ps):N_l2 K x=l2 K x:=funext λa=>aH live_l2 (ev K (sub body [1,1,1,1,1,1,1,1,1,0,1,0,0])) (k_l2 K x) (S_l2 x) (λrec a=>l2.step K x rec a) (λr_l2 a=>(h_l2 K x r_l2 a)) K a
theorem h_l1 (K:Nat)(x:ab ps)(r_l1:St->Option Res)(a:A_l1):ev K (sub body [1,1,1,1,1,1,1,0,1,0,0]) (S_l1 x a) (bC live_l1 r_l1 (k_l1 K x))=l1.step K x (N_l2 K x) (λa=>r_l1 (S_l1 x a)) a:=by kernel_rfl
theorem ok_l1 (K:Nat)(x:ab ps):N_l1 K x=l1 K x:=funext λa=>aH live_l1 (ev K (sub body [1,1,1,1,1,1,1,0,1,0,0])) (k_l1 K x) (S_l1 x) (λrec a=>l1.step K x (l2 K x) rec a) (λr_l1 a=>(h_l1 K x r_l1 a).trans (by rw[ok_l2 K x])) K a
theorem h_l0 (K:Nat)(x:ab ps)(r_l0:St->Option Res)(a:A_l0):ev K (sub body [1,1,1,1,1,0,1,0,0]) (S_l0 x a) (bC live_l0 r_l0 (k_l0 K x))=l0.step K x (N_l1 K x) (λa=>r_l0 (S_l0 x a)) a:=by kernel_rfl
theorem ok_l0 (K:Nat)(x:ab ps):N_l0 K x=l0 K x:=funext λa=>aH live_l0 (ev K (sub body [1,1,1,1,1,0,1,0,0])) (k_l0 K x) (S_l0 x) (λrec a=>l0.step K x (l1 K x) rec a) (λr_l0 a=>(h_l0 K x r_l0 a).trans (by rw[ok_l1 K x])) K a
theorem eqn (K:Nat)(x:ab ps):evF (G K) T_ND L K Tryz.f132 ps rs true x=f K x:=(show evF (G K) T_ND L K Tryz.f132 ps rs true x=pre K (N_l0 K x) x by kernel_rfl).trans (by rw[ok_l0 K x];rfl)
end Q5
namespace Q51
theorem h_l1 (K:Nat)(x:ab ps)(r_l0:St->Option Res)(r_l1:St->Option Res)(a:A_l1):ev K (sub body [1,0,1,0,0,1,0,0,1,1,1,0,0,0]) (S_l1 x a) (bC live_l1 r_l1 (k_l1 K x r_l0))=l1.step K x (λa=>r_l0 (S_l0 x a)) (λa=>r_l1 (S_l1 x a)) a:=by kernel_rfl
theorem ok_l1 (K:Nat)(x:ab ps)(r_l0:St->Option Res):N_l1 K x r_l0=l1 K x (λa=>r_l0 (S_l0 x a)):=funext λa=>aH live_l1 (ev K (sub body [1,0,1,0,0,1,0,0,1,1,1,0,0,0])) (k_l1 K x r_l0) (S_l1 x) (λrec a=>l1.step K x (λa=>r_l0 (S_l0 x a)) rec a) (λr_l1 a=>(h_l1 K x r_l0 r_l1 a)) K a
theorem h_l0 (K:Nat)(x:ab ps)(r_l0:St->Option Res)(a:A_l0):ev K (sub body [1,0,1,0,0]) (S_l0 x a) (bC live_l0 r_l0 (k_l0 K x))=l0.step K x (N_l1 K x r_l0) (λa=>r_l0 (S_l0 x a)) a:=by kernel_rfl
theorem ok_l0 (K:Nat)(x:ab ps):N_l0 K x=l0 K x:=funext λa=>aH live_l0 (ev K (sub body [1,0,1,0,0])) (k_l0 K x) (S_l0 x) (λrec a=>l0.step K x (l1 K x rec) rec a) (λr_l0 a=>(h_l0 K x r_l0 a).trans (by rw[ok_l1 K x r_l0])) K a
theorem eqn (K:Nat)(x:ab ps):evF (G K) T_NS L K Tryz.f237 ps rs false x=f K x:=(show evF (G K) T_NS L K Tryz.f237 ps rs false x=pre K (N_l0 K x) x by kernel_rfl).trans (by rw[ok_l0 K x];rfl)
end Q51
namespace Q60
theorem h_l1 (K:Nat)(x:ab ps)(r_l1:St->Option Res)(a:A_l1):ev K (sub body [1,1,1,1,1,0,1,0,0]) (S_l1 x a) (bC live_l1 r_l1 (k_l1 K x))=l1.step K x (λa=>r_l1 (S_l1 x a)) a:=by kernel_rfl
theorem ok_l1 (K:Nat)(x:ab ps):N_l1 K x=l1 K x:=funext λa=>aH live_l1 (ev K (sub body [1,1,1,1,1,0,1,0,0])) (k_l1 K x) (S_l1 x) (λrec a=>l1.step K x rec a) (λr_l1 a=>(h_l1 K x r_l1 a)) K a
theorem h_l0 (K:Nat)(x:ab ps)(r_l0:St->Option Res)(a:A_l0):ev K (sub body [1,1,0,1,0,0]) (S_l0 x a) (bC live_l0 r_l0 (k_l0 K x))=l0.step K x (N_l1 K x) (λa=>r_l0 (S_l0 x a)) a:=by kernel_rfl
theorem ok_l0 (K:Nat)(x:ab ps):N_l0 K x=l0 K x:=funext λa=>aH live_l0 (ev K (sub body [1,1,0,1,0,0])) (k_l0 K x) (S_l0 x) (λrec a=>l0.step K x (l1 K x) rec a) (λr_l0 a=>(h_l0 K x r_l0 a).trans (by rw[ok_l1 K x])) K a
theorem eqn (K:Nat)(x:ab ps):evF (G K) T_S L K Tryz.f241 ps rs true x=f K x:=(show evF (G K) T_S L K Tryz.f241 ps rs true x=pre K (N_l0 K x) x by kernel_rfl).trans (by rw[ok_l0 K x];rfl)
end Q60
namespace Q74
theorem h_l1 (K:Nat)(x:ab ps)(r_l0:St->Option Res)(r_l1:St->Option Res)(a:A_l1):ev K (sub body [1,1,1,1,0,1,0,0,1,0,0,1,0,0,0]) (S_l1 x a) (bC live_l1 r_l1 (k_l1 K x r_l0))=l1.step K x (λa=>r_l0 (S_l0 x a)) (λa=>r_l1 (S_l1 x a)) a:=by kernel_rfl
theorem ok_l1 (K:Nat)(x:ab ps)(r_l0:St->Option Res):N_l1 K x r_l0=l1 K x (λa=>r_l0 (S_l0 x a)):=funext λa=>aH live_l1 (ev K (sub body [1,1,1,1,0,1,0,0,1,0,0,1,0,0,0])) (k_l1 K x r_l0) (S_l1 x) (λrec a=>l1.step K x (λa=>r_l0 (S_l0 x a)) rec a) (λr_l1 a=>(h_l1 K x r_l0 r_l1 a)) K a
theorem h_l0 (K:Nat)(x:ab ps)(r_l0:St->Option Res)(a:A_l0):ev K (sub body [1,1,1,1,0,1,0,0]) (S_l0 x a) (bC live_l0 r_l0 (k_l0 K x))=l0.step K x (N_l1 K x r_l0) (λa=>r_l0 (S_l0 x a)) a:=by kernel_rfl
theorem ok_l0 (K:Nat)(x:ab ps):N_l0 K x=l0 K x:=funext λa=>aH live_l0 (ev K (sub body [1,1,1,1,0,1,0,0])) (k_l0 K x) (S_l0 x) (λrec a=>l0.step K x (l1 K x rec) rec a) (λr_l0 a=>(h_l0 K x r_l0 a).trans (by rw[ok_l1 K x r_l0])) K a
theorem eqn (K:Nat)(x:ab ps):evF (G K) T_S L K Tryz.f248 ps rs true x=f K x:=(show evF (G K) T_S L K Tryz.f248 ps rs true x=pre K (N_l0 K x) x by kernel_rfl).trans (by rw[ok_l0 K x];rfl)
end Q74
namespace Q106
theorem h_l1 (K:Nat)(x:ab ps)(r_l1:St->Option Res)(a:A_l1):ev K (sub body [1,1,1,1,0,1,0,0]) (S_l1 x a) (bC live_l1 r_l1 (k_l1 K x))=l1.step K x (λa=>r_l1 (S_l1 x a)) a:=by kernel_rfl
theorem ok_l1 (K:Nat)(x:ab ps):N_l1 K x=l1 K x:=funext λa=>aH live_l1 (ev K (sub body [1,1,1,1,0,1,0,0])) (k_l1 K x) (S_l1 x) (λrec a=>l1.step K x rec a) (λr_l1 a=>(h_l1 K x r_l1 a)) K a
theorem h_l0 (K:Nat)(x:ab ps)(r_l0:St->Option Res)(a:A_l0):ev K (sub body [1,1,1,0,1,0,0,1,0,0]) (S_l0 x a) (bC live_l0 r_l0 (k_l0 K x))=l0.step K x (N_l1 K x) (λa=>r_l0 (S_l0 x a)) a:=by kernel_rfl
theorem ok_l0 (K:Nat)(x:ab ps):N_l0 K x=l0 K x:=funext λa=>aH live_l0 (ev K (sub body [1,1,1,0,1,0,0,1,0,0])) (k_l0 K x) (S_l0 x) (λrec a=>l0.step K x (l1 K x) rec a) (λr_l0 a=>(h_l0 K x r_l0 a).trans (by rw[ok_l1 K x])) K a
theorem eqn (K:Nat)(x:ab ps):evF (G K) T_S L K Tryz.f157 ps rs false x=f K x:=(show evF (G K) T_S L K Tryz.f157 ps rs false x=pre K (N_l0 K x) (N_l1 K x) x by kernel_rfl).trans (by rw[ok_l0 K x,ok_l1 K x];rfl)
end Q106
namespace Q149
theorem h_l2 (K:Nat)(x:ab ps)(r_l1:St->Option Res)(r_l2:St->Option Res)(a:A_l2):ev K (sub body [1,1,1,1,0,1,0,0,1,1,0,0,1,1,1,0,0]) (S_l2 x a) (bC live_l2 r_l2 (k_l2 K x r_l1))=l2.step K x (λa=>r_l1 (S_l1 x a)) (λa=>r_l2 (S_l2 x a)) a:=by kernel_rfl
theorem ok_l2 (K:Nat)(x:ab ps)(r_l1:St->Option Res):N_l2 K x r_l1=l2 K x (λa=>r_l1 (S_l1 x a)):=funext λa=>aH live_l2 (ev K (sub body [1,1,1,1,0,1,0,0,1,1,0,0,1,1,1,0,0])) (k_l2 K x r_l1) (S_l2 x) (λrec a=>l2.step K x (λa=>r_l1 (S_l1 x a)) rec a) (λr_l2 a=>(h_l2 K x r_l1 r_l2 a)) K a
theorem h_l1 (K:Nat)(x:ab ps)(r_l1:St->Option Res)(a:A_l1):ev K (sub body [1,1,1,1,0,1,0,0]) (S_l1 x a) (bC live_l1 r_l1 (k_l1 K x))=l1.step K x (N_l2 K x r_l1) (λa=>r_l1 (S_l1 x a)) a:=by kernel_rfl
theorem ok_l1 (K:Nat)(x:ab ps):N_l1 K x=l1 K x:=funext λa=>aH live_l1 (ev K (sub body [1,1,1,1,0,1,0,0])) (k_l1 K x) (S_l1 x) (λrec a=>l1.step K x (l2 K x rec) rec a) (λr_l1 a=>(h_l1 K x r_l1 a).trans (by rw[ok_l2 K x r_l1])) K a
theorem h_l0 (K:Nat)(x:ab ps)(r_l0:St->Option Res)(a:A_l0):ev K (sub body [1,1,0,1,0,0]) (S_l0 x a) (bC live_l0 r_l0 (k_l0 K x))=l0.step K x (N_l1 K x) (λa=>r_l0 (S_l0 x a)) a:=by kernel_rfl
theorem ok_l0 (K:Nat)(x:ab ps):N_l0 K x=l0 K x:=funext λa=>aH live_l0 (ev K (sub body [1,1,0,1,0,0])) (k_l0 K x) (S_l0 x) (λrec a=>l0.step K x (l1 K x) rec a) (λr_l0 a=>(h_l0 K x r_l0 a).trans (by rw[ok_l1 K x])) K a
theorem eqn (K:Nat)(x:ab ps):evF (G K) T_D L K Tryz.f55 ps rs true x=f K x:=(show evF (G K) T_D L K Tryz.f55 ps rs true x=pre K (N_l0 K x) x by kernel_rfl).trans (by rw[ok_l0 K x];rfl)
end Q149
namespace Q158
theorem h_l1 (K:Nat)(x:ab ps)(r_l0:St->Option Res)(r_l1:St->Option Res)(a:A_l1):ev K (sub body [1,0,0,1,0,0,1,0,0]) (S_l1 x a) (bC live_l1 r_l1 (k_l1 K x r_l0))=l1.step K x (λa=>r_l0 (S_l0 x a)) (λa=>r_l1 (S_l1 x a)) a:=by kernel_rfl
theorem ok_l1 (K:Nat)(x:ab ps)(r_l0:St->Option Res):N_l1 K x r_l0=l1 K x (λa=>r_l0 (S_l0 x a)):=funext λa=>aH live_l1 (ev K (sub body [1,0,0,1,0,0,1,0,0])) (k_l1 K x r_l0) (S_l1 x) (λrec a=>l1.step K x (λa=>r_l0 (S_l0 x a)) rec a) (λr_l1 a=>(h_l1 K x r_l0 r_l1 a)) K a
theorem h_l0 (K:Nat)(x:ab ps)(r_l0:St->Option Res)(a:A_l0):ev K (sub body [1,0,0]) (S_l0 x a) (bC live_l0 r_l0 (k_l0 K x))=l0.step K x (N_l1 K x r_l0) (λa=>r_l0 (S_l0 x a)) a:=by kernel_rfl
theorem ok_l0 (K:Nat)(x:ab ps):N_l0 K x=l0 K x:=funext λa=>aH live_l0 (ev K (sub body [1,0,0])) (k_l0 K x) (S_l0 x) (λrec a=>l0.step K x (l1 K x rec) rec a) (λr_l0 a=>(h_l0 K x r_l0 a).trans (by rw[ok_l1 K x r_l0])) K a
theorem eqn (K:Nat)(x:ab ps):evF (G K) T_S L K Tryz.f144 ps rs false x=f K x:=(show evF (G K) T_S L K Tryz.f144 ps rs false x=pre K (N_l0 K x) x by kernel_rfl).trans (by rw[ok_l0 K x];rfl)
end Q158
namespace Q159
theorem h_l2 (K:Nat)(x:ab ps)(r_l1:St->Option Res)(r_l2:St->Option Res)(a:A_l2):ev K (sub body [1,1,1,1,0,0,1,0,1,0,0,0]) (S_l2 x a) (bC live_l2 r_l2 (k_l2 K x r_l1))=l2.step K x (λa=>r_l1 (S_l1 x a)) (λa=>r_l2 (S_l2 x a)) a:=by kernel_rfl
theorem ok_l2 (K:Nat)(x:ab ps)(r_l1:St->Option Res):N_l2 K x r_l1=l2 K x (λa=>r_l1 (S_l1 x a)):=funext λa=>aH live_l2 (ev K (sub body [1,1,1,1,0,0,1,0,1,0,0,0])) (k_l2 K x r_l1) (S_l2 x) (λrec a=>l2.step K x (λa=>r_l1 (S_l1 x a)) rec a) (λr_l2 a=>(h_l2 K x r_l1 r_l2 a)) K a
theorem h_l1 (K:Nat)(x:ab ps)(r_l1:St->Option Res)(a:A_l1):ev K (sub body [1,1,1,1,0,0]) (S_l1 x a) (bC live_l1 r_l1 (k_l1 K x))=l1.step K x (N_l2 K x r_l1) (λa=>r_l1 (S_l1 x a)) a:=by kernel_rfl
theorem ok_l1 (K:Nat)(x:ab ps):N_l1 K x=l1 K x:=funext λa=>aH live_l1 (ev K (sub body [1,1,1,1,0,0])) (k_l1 K x) (S_l1 x) (λrec a=>l1.step K x (l2 K x rec) rec a) (λr_l1 a=>(h_l1 K x r_l1 a).trans (by rw[ok_l2 K x r_l1])) K a
theorem h_l0 (K:Nat)(x:ab ps)(r_l0:St->Option Res)(a:A_l0):ev K (sub body [1,1,0,0,0]) (S_l0 x a) (bC live_l0 r_l0 (k_l0 K x))=l0.step K x (N_l1 K x) (λa=>r_l0 (S_l0 x a)) a:=by kernel_rfl
theorem ok_l0 (K:Nat)(x:ab ps):N_l0 K x=l0 K x:=funext λa=>aH live_l0 (ev K (sub body [1,1,0,0,0])) (k_l0 K x) (S_l0 x) (λrec a=>l0.step K x (l1 K x) rec a) (λr_l0 a=>(h_l0 K x r_l0 a).trans (by rw[ok_l1 K x])) K a
theorem eqn (K:Nat)(x:ab ps):evF (G K) T_S L K Tryz.f100 ps rs false x=f K x:=(show evF (G K) T_S L K Tryz.f100 ps rs false x=pre K (N_l0 K x) x by kernel_rfl).trans (by rw[ok_l0 K x];rfl)
end Q159
namespace Q175
theorem h_l1 (K:Nat)(x:ab ps)(r_l0:St->Option Res)(r_l1:St->Option Res)(a:A_l1):ev K (sub body [1,0,1,0,0,1,0,0,1,1,1,1,0,0]) (S_l1 x a) (bC live_l1 r_l1 (k_l1 K x r_l0))=l1.step K x (λa=>r_l0 (S_l0 x a)) (λa=>r_l1 (S_l1 x a)) a:=by kernel_rfl
theorem ok_l1 (K:Nat)(x:ab ps)(r_l0:St->Option Res):N_l1 K x r_l0=l1 K x (λa=>r_l0 (S_l0 x a)):=funext λa=>aH live_l1 (ev K (sub body [1,0,1,0,0,1,0,0,1,1,1,1,0,0])) (k_l1 K x r_l0) (S_l1 x) (λrec a=>l1.step K x (λa=>r_l0 (S_l0 x a)) rec a) (λr_l1 a=>(h_l1 K x r_l0 r_l1 a)) K a
theorem h_l2 (K:Nat)(x:ab ps)(r_l2:St->Option Res)(a:A_l2):ev K (sub body [1,1,1,0,1,0,0]) (S_l2 x a) (bC live_l2 r_l2 (k_l2 K x))=l2.step K x (λa=>r_l2 (S_l2 x a)) a:=by kernel_rfl
theorem ok_l2 (K:Nat)(x:ab ps):N_l2 K x=l2 K x:=funext λa=>aH live_l2 (ev K (sub body [1,1,1,0,1,0,0])) (k_l2 K x) (S_l2 x) (λrec a=>l2.step K x rec a) (λr_l2 a=>(h_l2 K x r_l2 a)) K a
theorem h_l0 (K:Nat)(x:ab ps)(r_l0:St->Option Res)(a:A_l0):ev K (sub body [1,0,1,0,0]) (S_l0 x a) (bC live_l0 r_l0 (k_l0 K x))=l0.step K x (N_l1 K x r_l0) (N_l2 K x) (λa=>r_l0 (S_l0 x a)) a:=by kernel_rfl
theorem ok_l0 (K:Nat)(x:ab ps):N_l0 K x=l0 K x:=funext λa=>aH live_l0 (ev K (sub body [1,0,1,0,0])) (k_l0 K x) (S_l0 x) (λrec a=>l0.step K x (l1 K x rec) (l2 K x) rec a) (λr_l0 a=>(h_l0 K x r_l0 a).trans (by rw[ok_l1 K x r_l0,ok_l2 K x])) K a
theorem eqn (K:Nat)(x:ab ps):evF (G K) T_S L K Tryz.f65 ps rs true x=f K x:=(show evF (G K) T_S L K Tryz.f65 ps rs true x=pre K (N_l0 K x) x by kernel_rfl).trans (by rw[ok_l0 K x];rfl)
end Q175
namespace Q176
theorem h_l1 (K:Nat)(x:ab ps)(r_l0:St->Option Res)(r_l1:St->Option Res)(a:A_l1):ev K (sub body [1,0,1,0,0,1,0,0,1,1,1,0,0]) (S_l1 x a) (bC live_l1 r_l1 (k_l1 K x r_l0))=l1.step K x (λa=>r_l0 (S_l0 x a)) (λa=>r_l1 (S_l1 x a)) a:=by kernel_rfl
theorem ok_l1 (K:Nat)(x:ab ps)(r_l0:St->Option Res):N_l1 K x r_l0=l1 K x (λa=>r_l0 (S_l0 x a)):=funext λa=>aH live_l1 (ev K (sub body [1,0,1,0,0,1,0,0,1,1,1,0,0])) (k_l1 K x r_l0) (S_l1 x) (λrec a=>l1.step K x (λa=>r_l0 (S_l0 x a)) rec a) (λr_l1 a=>(h_l1 K x r_l0 r_l1 a)) K a
theorem h_l0 (K:Nat)(x:ab ps)(r_l0:St->Option Res)(a:A_l0):ev K (sub body [1,0,1,0,0]) (S_l0 x a) (bC live_l0 r_l0 (k_l0 K x))=l0.step K x (N_l1 K x r_l0) (λa=>r_l0 (S_l0 x a)) a:=by kernel_rfl
theorem ok_l0 (K:Nat)(x:ab ps):N_l0 K x=l0 K x:=funext λa=>aH live_l0 (ev K (sub body [1,0,1,0,0])) (k_l0 K x) (S_l0 x) (λrec a=>l0.step K x (l1 K x rec) rec a) (λr_l0 a=>(h_l0 K x r_l0 a).trans (by rw[ok_l1 K x r_l0])) K a
theorem eqn (K:Nat)(x:ab ps):evF (G K) T_S L K Tryz.f67 ps rs true x=f K x:=(show evF (G K) T_S L K Tryz.f67 ps rs true x=pre K (N_l0 K x) x by kernel_rfl).trans (by rw[ok_l0 K x];rfl)
end Q176
namespace Q179
theorem h_l1 (K:Nat)(x:ab ps)(r_l0:St->Option Res)(r_l1:St->Option Res)(a:A_l1):ev K (sub body [1,1,1,1,0,1,0,0,1,0,0,1,1,1,1,0,0,0]) (S_l1 x a) (bC live_l1 r_l1 (k_l1 K x r_l0))=l1.step K x (λa=>r_l0 (S_l0 x a)) (λa=>r_l1 (S_l1 x a)) a:=by kernel_rfl
theorem ok_l1 (K:Nat)(x:ab ps)(r_l0:St->Option Res):N_l1 K x r_l0=l1 K x (λa=>r_l0 (S_l0 x a)):=funext λa=>aH live_l1 (ev K (sub body [1,1,1,1,0,1,0,0,1,0,0,1,1,1,1,0,0,0])) (k_l1 K x r_l0) (S_l1 x) (λrec a=>l1.step K x (λa=>r_l0 (S_l0 x a)) rec a) (λr_l1 a=>(h_l1 K x r_l0 r_l1 a)) K a
theorem h_l0 (K:Nat)(x:ab ps)(r_l0:St->Option Res)(a:A_l0):ev K (sub body [1,1,1,1,0,1,0,0]) (S_l0 x a) (bC live_l0 r_l0 (k_l0 K x))=l0.step K x (N_l1 K x r_l0) (λa=>r_l0 (S_l0 x a)) a:=by kernel_rfl
theorem ok_l0 (K:Nat)(x:ab ps):N_l0 K x=l0 K x:=funext λa=>aH live_l0 (ev K (sub body [1,1,1,1,0,1,0,0])) (k_l0 K x) (S_l0 x) (λrec a=>l0.step K x (l1 K x rec) rec a) (λr_l0 a=>(h_l0 K x r_l0 a).trans (by rw[ok_l1 K x r_l0])) K a
theorem eqn (K:Nat)(x:ab ps):evF (G K) T_S L K Tryz.f11 ps rs true x=f K x:=(show evF (G K) T_S L K Tryz.f11 ps rs true x=pre K (N_l0 K x) x by kernel_rfl).trans (by rw[ok_l0 K x];rfl)
end Q179
namespace Q183
theorem h_l2 (K:Nat)(x:ab ps)(r_l2:St->Option Res)(a:A_l2):ev K (sub body [1,1,1,1,1,1,1,1,1,0,1,0,0]) (S_l2 x a) (bC live_l2 r_l2 (k_l2 K x))=l2.step K x (λa=>r_l2 (S_l2 x a)) a:=by kernel_rfl
theorem ok_l2 (K:Nat)(x:ab ps):N_l2 K x=l2 K x:=funext λa=>aH live_l2 (ev K (sub body [1,1,1,1,1,1,1,1,1,0,1,0,0])) (k_l2 K x) (S_l2 x) (λrec a=>l2.step K x rec a) (λr_l2 a=>(h_l2 K x r_l2 a)) K a
theorem h_l1 (K:Nat)(x:ab ps)(r_l1:St->Option Res)(a:A_l1):ev K (sub body [1,1,1,1,1,1,1,1,0,1,0,0]) (S_l1 x a) (bC live_l1 r_l1 (k_l1 K x))=l1.step K x (N_l2 K x) (λa=>r_l1 (S_l1 x a)) a:=by kernel_rfl
theorem ok_l1 (K:Nat)(x:ab ps):N_l1 K x=l1 K x:=funext λa=>aH live_l1 (ev K (sub body [1,1,1,1,1,1,1,1,0,1,0,0])) (k_l1 K x) (S_l1 x) (λrec a=>l1.step K x (l2 K x) rec a) (λr_l1 a=>(h_l1 K x r_l1 a).trans (by rw[ok_l2 K x])) K a
theorem h_l0 (K:Nat)(x:ab ps)(r_l0:St->Option Res)(a:A_l0):ev K (sub body [1,1,1,1,1,1,1,0,1,0,0]) (S_l0 x a) (bC live_l0 r_l0 (k_l0 K x))=l0.step K x (N_l1 K x) (λa=>r_l0 (S_l0 x a)) a:=by kernel_rfl
theorem ok_l0 (K:Nat)(x:ab ps):N_l0 K x=l0 K x:=funext λa=>aH live_l0 (ev K (sub body [1,1,1,1,1,1,1,0,1,0,0])) (k_l0 K x) (S_l0 x) (λrec a=>l0.step K x (l1 K x) rec a) (λr_l0 a=>(h_l0 K x r_l0 a).trans (by rw[ok_l1 K x])) K a
theorem eqn (K:Nat)(x:ab ps):evF (G K) T_D L K Tryz.f3 ps rs true x=f K x:=(show evF (G K) T_D L K Tryz.f3 ps rs true x=pre K (N_l0 K x) x by kernel_rfl).trans (by rw[ok_l0 K x];rfl)
end Q183
end Go.Proofs.YtmcbmojdeikcdaaGreatEv
