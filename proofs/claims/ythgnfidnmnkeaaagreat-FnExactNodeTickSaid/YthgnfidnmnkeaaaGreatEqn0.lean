/- The kernel finds them so. Printed by run3.py. -/
import Derived.Test.YthgnfidnmnkeaaaGreatFns
set_option linter.unusedVariables false
set_option maxRecDepth 100000
namespace Go.Proofs.YthgnfidnmnkeaaaGreatEv
open Go Go.Proofs
namespace Q77
theorem h_l1 (K:Nat)(x:aa ps)(r_l0:St→Option Res)(r_l1:St→Option Res)(a:A_l1):ev K (sub body [1,0,1,0,0,1,0,0,1,1,1,1,0,0]) (S_l1 x a) (bL live_l1 r_l1 (k_l1 K x r_l0))=l1.step K x (fun a=>r_l0 (S_l0 x a)) (fun a=>r_l1 (S_l1 x a)) a:=by kernel_rfl
theorem ok_l1 (K:Nat)(x:aa ps)(r_l0:St→Option Res):N_l1 K x r_l0=l1 K x (fun a=>r_l0 (S_l0 x a)):=funext fun a=>aL live_l1 (ev K (sub body [1,0,1,0,0,1,0,0,1,1,1,1,0,0])) (k_l1 K x r_l0) (S_l1 x) (fun rec a=>l1.step K x (fun a=>r_l0 (S_l0 x a)) rec a) (fun r_l1 a=>(h_l1 K x r_l0 r_l1 a)) K a
theorem h_l2 (K:Nat)(x:aa ps)(r_l2:St→Option Res)(a:A_l2):ev K (sub body [1,1,1,0,1,0,0]) (S_l2 x a) (bL live_l2 r_l2 (k_l2 K x))=l2.step K x (fun a=>r_l2 (S_l2 x a)) a:=by kernel_rfl
theorem ok_l2 (K:Nat)(x:aa ps):N_l2 K x=l2 K x:=funext fun a=>aL live_l2 (ev K (sub body [1,1,1,0,1,0,0])) (k_l2 K x) (S_l2 x) (fun rec a=>l2.step K x rec a) (fun r_l2 a=>(h_l2 K x r_l2 a)) K a
theorem h_l0 (K:Nat)(x:aa ps)(r_l0:St→Option Res)(a:A_l0):ev K (sub body [1,0,1,0,0]) (S_l0 x a) (bL live_l0 r_l0 (k_l0 K x))=l0.step K x (N_l1 K x r_l0) (N_l2 K x) (fun a=>r_l0 (S_l0 x a)) a:=by kernel_rfl
theorem ok_l0 (K:Nat)(x:aa ps):N_l0 K x=l0 K x:=funext fun a=>aL live_l0 (ev K (sub body [1,0,1,0,0])) (k_l0 K x) (S_l0 x) (fun rec a=>l0.step K x (l1 K x rec) (l2 K x) rec a) (fun r_l0 a=>(h_l0 K x r_l0 a).trans (by rw[ok_l1 K x r_l0,ok_l2 K x])) K a
theorem eqn (K:Nat)(x:aa ps):evF (G K) T_S L K Tryz.f160 ps rs true x=f K x:=(show evF (G K) T_S L K Tryz.f160 ps rs true x=pre K (N_l0 K x) x by kernel_rfl).trans (by rw[ok_l0 K x];rfl)
end Q77
namespace Q79
theorem h_l1 (K:Nat)(x:aa ps)(r_l0:St→Option Res)(r_l1:St→Option Res)(a:A_l1):ev K (sub body [1,0,1,0,0,1,0,0,1,1,1,0,0]) (S_l1 x a) (bL live_l1 r_l1 (k_l1 K x r_l0))=l1.step K x (fun a=>r_l0 (S_l0 x a)) (fun a=>r_l1 (S_l1 x a)) a:=by kernel_rfl
theorem ok_l1 (K:Nat)(x:aa ps)(r_l0:St→Option Res):N_l1 K x r_l0=l1 K x (fun a=>r_l0 (S_l0 x a)):=funext fun a=>aL live_l1 (ev K (sub body [1,0,1,0,0,1,0,0,1,1,1,0,0])) (k_l1 K x r_l0) (S_l1 x) (fun rec a=>l1.step K x (fun a=>r_l0 (S_l0 x a)) rec a) (fun r_l1 a=>(h_l1 K x r_l0 r_l1 a)) K a
theorem h_l0 (K:Nat)(x:aa ps)(r_l0:St→Option Res)(a:A_l0):ev K (sub body [1,0,1,0,0]) (S_l0 x a) (bL live_l0 r_l0 (k_l0 K x))=l0.step K x (N_l1 K x r_l0) (fun a=>r_l0 (S_l0 x a)) a:=by kernel_rfl
theorem ok_l0 (K:Nat)(x:aa ps):N_l0 K x=l0 K x:=funext fun a=>aL live_l0 (ev K (sub body [1,0,1,0,0])) (k_l0 K x) (S_l0 x) (fun rec a=>l0.step K x (l1 K x rec) rec a) (fun r_l0 a=>(h_l0 K x r_l0 a).trans (by rw[ok_l1 K x r_l0])) K a
theorem eqn (K:Nat)(x:aa ps):evF (G K) T_S L K Tryz.f162 ps rs true x=f K x:=(show evF (G K) T_S L K Tryz.f162 ps rs true x=pre K (N_l0 K x) x by kernel_rfl).trans (by rw[ok_l0 K x];rfl)
end Q79
namespace Q82
theorem h_l2 (K:Nat)(x:aa ps)(r_l2:St→Option Res)(a:A_l2):ev K (sub body [1,1,1,1,1,1,1,1,1,0,1,0,0]) (S_l2 x a) (bL live_l2 r_l2 (k_l2 K x))=l2.step K x (fun a=>r_l2 (S_l2 x a)) a:=by kernel_rfl
theorem ok_l2 (K:Nat)(x:aa ps):N_l2 K x=l2 K x:=funext fun a=>aL live_l2 (ev K (sub body [1,1,1,1,1,1,1,1,1,0,1,0,0])) (k_l2 K x) (S_l2 x) (fun rec a=>l2.step K x rec a) (fun r_l2 a=>(h_l2 K x r_l2 a)) K a
theorem h_l1 (K:Nat)(x:aa ps)(r_l1:St→Option Res)(a:A_l1):ev K (sub body [1,1,1,1,1,1,1,0,1,0,0]) (S_l1 x a) (bL live_l1 r_l1 (k_l1 K x))=l1.step K x (N_l2 K x) (fun a=>r_l1 (S_l1 x a)) a:=by kernel_rfl
theorem ok_l1 (K:Nat)(x:aa ps):N_l1 K x=l1 K x:=funext fun a=>aL live_l1 (ev K (sub body [1,1,1,1,1,1,1,0,1,0,0])) (k_l1 K x) (S_l1 x) (fun rec a=>l1.step K x (l2 K x) rec a) (fun r_l1 a=>(h_l1 K x r_l1 a).trans (by rw[ok_l2 K x])) K a
theorem h_l0 (K:Nat)(x:aa ps)(r_l0:St→Option Res)(a:A_l0):ev K (sub body [1,1,1,1,1,0,1,0,0]) (S_l0 x a) (bL live_l0 r_l0 (k_l0 K x))=l0.step K x (N_l1 K x) (fun a=>r_l0 (S_l0 x a)) a:=by kernel_rfl
theorem ok_l0 (K:Nat)(x:aa ps):N_l0 K x=l0 K x:=funext fun a=>aL live_l0 (ev K (sub body [1,1,1,1,1,0,1,0,0])) (k_l0 K x) (S_l0 x) (fun rec a=>l0.step K x (l1 K x) rec a) (fun r_l0 a=>(h_l0 K x r_l0 a).trans (by rw[ok_l1 K x])) K a
theorem eqn (K:Nat)(x:aa ps):evF (G K) T_ND L K Tryz.f126 ps rs true x=f K x:=(show evF (G K) T_ND L K Tryz.f126 ps rs true x=pre K (N_l0 K x) x by kernel_rfl).trans (by rw[ok_l0 K x];rfl)
end Q82
namespace Q96
theorem h_l1 (K:Nat)(x:aa ps)(r_l1:St→Option Res)(a:A_l1):ev K (sub body [1,1,1,1,1,0,1,0,0]) (S_l1 x a) (bL live_l1 r_l1 (k_l1 K x))=l1.step K x (fun a=>r_l1 (S_l1 x a)) a:=by kernel_rfl
theorem ok_l1 (K:Nat)(x:aa ps):N_l1 K x=l1 K x:=funext fun a=>aL live_l1 (ev K (sub body [1,1,1,1,1,0,1,0,0])) (k_l1 K x) (S_l1 x) (fun rec a=>l1.step K x rec a) (fun r_l1 a=>(h_l1 K x r_l1 a)) K a
theorem h_l0 (K:Nat)(x:aa ps)(r_l0:St→Option Res)(a:A_l0):ev K (sub body [1,1,0,1,0,0]) (S_l0 x a) (bL live_l0 r_l0 (k_l0 K x))=l0.step K x (N_l1 K x) (fun a=>r_l0 (S_l0 x a)) a:=by kernel_rfl
theorem ok_l0 (K:Nat)(x:aa ps):N_l0 K x=l0 K x:=funext fun a=>aL live_l0 (ev K (sub body [1,1,0,1,0,0])) (k_l0 K x) (S_l0 x) (fun rec a=>l0.step K x (l1 K x) rec a) (fun r_l0 a=>(h_l0 K x r_l0 a).trans (by rw[ok_l1 K x])) K a
theorem eqn (K:Nat)(x:aa ps):evF (G K) T_S L K Tryz.f310 ps rs true x=f K x:=(show evF (G K) T_S L K Tryz.f310 ps rs true x=pre K (N_l0 K x) x by kernel_rfl).trans (by rw[ok_l0 K x];rfl)
end Q96
namespace Q136
theorem h_l2 (K:Nat)(x:aa ps)(r_l1:St→Option Res)(r_l2:St→Option Res)(a:A_l2):ev K (sub body [1,1,1,1,0,1,0,0,1,1,0,0,1,1,1,0,0]) (S_l2 x a) (bL live_l2 r_l2 (k_l2 K x r_l1))=l2.step K x (fun a=>r_l1 (S_l1 x a)) (fun a=>r_l2 (S_l2 x a)) a:=by kernel_rfl
theorem ok_l2 (K:Nat)(x:aa ps)(r_l1:St→Option Res):N_l2 K x r_l1=l2 K x (fun a=>r_l1 (S_l1 x a)):=funext fun a=>aL live_l2 (ev K (sub body [1,1,1,1,0,1,0,0,1,1,0,0,1,1,1,0,0])) (k_l2 K x r_l1) (S_l2 x) (fun rec a=>l2.step K x (fun a=>r_l1 (S_l1 x a)) rec a) (fun r_l2 a=>(h_l2 K x r_l1 r_l2 a)) K a
theorem h_l1 (K:Nat)(x:aa ps)(r_l1:St→Option Res)(a:A_l1):ev K (sub body [1,1,1,1,0,1,0,0]) (S_l1 x a) (bL live_l1 r_l1 (k_l1 K x))=l1.step K x (N_l2 K x r_l1) (fun a=>r_l1 (S_l1 x a)) a:=by kernel_rfl
theorem ok_l1 (K:Nat)(x:aa ps):N_l1 K x=l1 K x:=funext fun a=>aL live_l1 (ev K (sub body [1,1,1,1,0,1,0,0])) (k_l1 K x) (S_l1 x) (fun rec a=>l1.step K x (l2 K x rec) rec a) (fun r_l1 a=>(h_l1 K x r_l1 a).trans (by rw[ok_l2 K x r_l1])) K a
theorem h_l0 (K:Nat)(x:aa ps)(r_l0:St→Option Res)(a:A_l0):ev K (sub body [1,1,0,1,0,0]) (S_l0 x a) (bL live_l0 r_l0 (k_l0 K x))=l0.step K x (N_l1 K x) (fun a=>r_l0 (S_l0 x a)) a:=by kernel_rfl
theorem ok_l0 (K:Nat)(x:aa ps):N_l0 K x=l0 K x:=funext fun a=>aL live_l0 (ev K (sub body [1,1,0,1,0,0])) (k_l0 K x) (S_l0 x) (fun rec a=>l0.step K x (l1 K x) rec a) (fun r_l0 a=>(h_l0 K x r_l0 a).trans (by rw[ok_l1 K x])) K a
theorem eqn (K:Nat)(x:aa ps):evF (G K) T_D L K Tryz.f173 ps rs true x=f K x:=(show evF (G K) T_D L K Tryz.f173 ps rs true x=pre K (N_l0 K x) x by kernel_rfl).trans (by rw[ok_l0 K x];rfl)
end Q136
namespace Q163
theorem h_l1 (K:Nat)(x:aa ps)(r_l0:St→Option Res)(r_l1:St→Option Res)(a:A_l1):ev K (sub body [1,0,0,1,0,0,1,0,0]) (S_l1 x a) (bL live_l1 r_l1 (k_l1 K x r_l0))=l1.step K x (fun a=>r_l0 (S_l0 x a)) (fun a=>r_l1 (S_l1 x a)) a:=by kernel_rfl
theorem ok_l1 (K:Nat)(x:aa ps)(r_l0:St→Option Res):N_l1 K x r_l0=l1 K x (fun a=>r_l0 (S_l0 x a)):=funext fun a=>aL live_l1 (ev K (sub body [1,0,0,1,0,0,1,0,0])) (k_l1 K x r_l0) (S_l1 x) (fun rec a=>l1.step K x (fun a=>r_l0 (S_l0 x a)) rec a) (fun r_l1 a=>(h_l1 K x r_l0 r_l1 a)) K a
theorem h_l0 (K:Nat)(x:aa ps)(r_l0:St→Option Res)(a:A_l0):ev K (sub body [1,0,0]) (S_l0 x a) (bL live_l0 r_l0 (k_l0 K x))=l0.step K x (N_l1 K x r_l0) (fun a=>r_l0 (S_l0 x a)) a:=by kernel_rfl
theorem ok_l0 (K:Nat)(x:aa ps):N_l0 K x=l0 K x:=funext fun a=>aL live_l0 (ev K (sub body [1,0,0])) (k_l0 K x) (S_l0 x) (fun rec a=>l0.step K x (l1 K x rec) rec a) (fun r_l0 a=>(h_l0 K x r_l0 a).trans (by rw[ok_l1 K x r_l0])) K a
theorem eqn (K:Nat)(x:aa ps):evF (G K) T_S L K Tryz.f369 ps rs true x=f K x:=(show evF (G K) T_S L K Tryz.f369 ps rs true x=pre K (N_l0 K x) x by kernel_rfl).trans (by rw[ok_l0 K x];rfl)
end Q163
namespace Q164
theorem h_l2 (K:Nat)(x:aa ps)(r_l1:St→Option Res)(r_l2:St→Option Res)(a:A_l2):ev K (sub body [1,1,1,1,0,0,1,0,1,0,0,0]) (S_l2 x a) (bL live_l2 r_l2 (k_l2 K x r_l1))=l2.step K x (fun a=>r_l1 (S_l1 x a)) (fun a=>r_l2 (S_l2 x a)) a:=by kernel_rfl
theorem ok_l2 (K:Nat)(x:aa ps)(r_l1:St→Option Res):N_l2 K x r_l1=l2 K x (fun a=>r_l1 (S_l1 x a)):=funext fun a=>aL live_l2 (ev K (sub body [1,1,1,1,0,0,1,0,1,0,0,0])) (k_l2 K x r_l1) (S_l2 x) (fun rec a=>l2.step K x (fun a=>r_l1 (S_l1 x a)) rec a) (fun r_l2 a=>(h_l2 K x r_l1 r_l2 a)) K a
theorem h_l1 (K:Nat)(x:aa ps)(r_l1:St→Option Res)(a:A_l1):ev K (sub body [1,1,1,1,0,0]) (S_l1 x a) (bL live_l1 r_l1 (k_l1 K x))=l1.step K x (N_l2 K x r_l1) (fun a=>r_l1 (S_l1 x a)) a:=by kernel_rfl
theorem ok_l1 (K:Nat)(x:aa ps):N_l1 K x=l1 K x:=funext fun a=>aL live_l1 (ev K (sub body [1,1,1,1,0,0])) (k_l1 K x) (S_l1 x) (fun rec a=>l1.step K x (l2 K x rec) rec a) (fun r_l1 a=>(h_l1 K x r_l1 a).trans (by rw[ok_l2 K x r_l1])) K a
theorem h_l0 (K:Nat)(x:aa ps)(r_l0:St→Option Res)(a:A_l0):ev K (sub body [1,1,0,0,0]) (S_l0 x a) (bL live_l0 r_l0 (k_l0 K x))=l0.step K x (N_l1 K x) (fun a=>r_l0 (S_l0 x a)) a:=by kernel_rfl
theorem ok_l0 (K:Nat)(x:aa ps):N_l0 K x=l0 K x:=funext fun a=>aL live_l0 (ev K (sub body [1,1,0,0,0])) (k_l0 K x) (S_l0 x) (fun rec a=>l0.step K x (l1 K x) rec a) (fun r_l0 a=>(h_l0 K x r_l0 a).trans (by rw[ok_l1 K x])) K a
theorem eqn (K:Nat)(x:aa ps):evF (G K) T_S L K Tryz.f360 ps rs true x=f K x:=(show evF (G K) T_S L K Tryz.f360 ps rs true x=pre K (N_l0 K x) x by kernel_rfl).trans (by rw[ok_l0 K x];rfl)
end Q164
namespace Q170
theorem h_l1 (K:Nat)(x:aa ps)(r_l0:St→Option Res)(r_l1:St→Option Res)(a:A_l1):ev K (sub body [1,0,0,1,0,0,1,0,0]) (S_l1 x a) (bL live_l1 r_l1 (k_l1 K x r_l0))=l1.step K x (fun a=>r_l0 (S_l0 x a)) (fun a=>r_l1 (S_l1 x a)) a:=by kernel_rfl
theorem ok_l1 (K:Nat)(x:aa ps)(r_l0:St→Option Res):N_l1 K x r_l0=l1 K x (fun a=>r_l0 (S_l0 x a)):=funext fun a=>aL live_l1 (ev K (sub body [1,0,0,1,0,0,1,0,0])) (k_l1 K x r_l0) (S_l1 x) (fun rec a=>l1.step K x (fun a=>r_l0 (S_l0 x a)) rec a) (fun r_l1 a=>(h_l1 K x r_l0 r_l1 a)) K a
theorem h_l0 (K:Nat)(x:aa ps)(r_l0:St→Option Res)(a:A_l0):ev K (sub body [1,0,0]) (S_l0 x a) (bL live_l0 r_l0 (k_l0 K x))=l0.step K x (N_l1 K x r_l0) (fun a=>r_l0 (S_l0 x a)) a:=by kernel_rfl
theorem ok_l0 (K:Nat)(x:aa ps):N_l0 K x=l0 K x:=funext fun a=>aL live_l0 (ev K (sub body [1,0,0])) (k_l0 K x) (S_l0 x) (fun rec a=>l0.step K x (l1 K x rec) rec a) (fun r_l0 a=>(h_l0 K x r_l0 a).trans (by rw[ok_l1 K x r_l0])) K a
theorem eqn (K:Nat)(x:aa ps):evF (G K) T_S L K Tryz.f371 ps rs true x=f K x:=(show evF (G K) T_S L K Tryz.f371 ps rs true x=pre K (N_l0 K x) x by kernel_rfl).trans (by rw[ok_l0 K x];rfl)
end Q170
namespace Q178
theorem h_l1 (K:Nat)(x:aa ps)(r_l1:St→Option Res)(a:A_l1):ev K (sub body [1,1,1,1,1,1,1,1,1,0,1,0,0]) (S_l1 x a) (bL live_l1 r_l1 (k_l1 K x))=l1.step K x (fun a=>r_l1 (S_l1 x a)) a:=by kernel_rfl
theorem ok_l1 (K:Nat)(x:aa ps):N_l1 K x=l1 K x:=funext fun a=>aL live_l1 (ev K (sub body [1,1,1,1,1,1,1,1,1,0,1,0,0])) (k_l1 K x) (S_l1 x) (fun rec a=>l1.step K x rec a) (fun r_l1 a=>(h_l1 K x r_l1 a)) K a
theorem h_l0 (K:Nat)(x:aa ps)(r_l0:St→Option Res)(a:A_l0):ev K (sub body [1,1,1,0,1,0,0]) (S_l0 x a) (bL live_l0 r_l0 (k_l0 K x))=l0.step K x (N_l1 K x) (fun a=>r_l0 (S_l0 x a)) a:=by kernel_rfl
theorem ok_l0 (K:Nat)(x:aa ps):N_l0 K x=l0 K x:=funext fun a=>aL live_l0 (ev K (sub body [1,1,1,0,1,0,0])) (k_l0 K x) (S_l0 x) (fun rec a=>l0.step K x (l1 K x) rec a) (fun r_l0 a=>(h_l0 K x r_l0 a).trans (by rw[ok_l1 K x])) K a
theorem eqn (K:Nat)(x:aa ps):evF (G K) T_D L K Tryz.f313 ps rs true x=f K x:=(show evF (G K) T_D L K Tryz.f313 ps rs true x=pre K (N_l0 K x) x by kernel_rfl).trans (by rw[ok_l0 K x];rfl)
end Q178
namespace Q192
theorem h_l2 (K:Nat)(x:aa ps)(r_l2:St→Option Res)(a:A_l2):ev K (sub body [1,1,1,1,1,1,0,1,0,0]) (S_l2 x a) (bL live_l2 r_l2 (k_l2 K x))=l2.step K x (fun a=>r_l2 (S_l2 x a)) a:=by kernel_rfl
theorem ok_l2 (K:Nat)(x:aa ps):N_l2 K x=l2 K x:=funext fun a=>aL live_l2 (ev K (sub body [1,1,1,1,1,1,0,1,0,0])) (k_l2 K x) (S_l2 x) (fun rec a=>l2.step K x rec a) (fun r_l2 a=>(h_l2 K x r_l2 a)) K a
theorem h_l1 (K:Nat)(x:aa ps)(r_l1:St→Option Res)(a:A_l1):ev K (sub body [1,1,1,1,0,1,0,0]) (S_l1 x a) (bL live_l1 r_l1 (k_l1 K x))=l1.step K x (N_l2 K x) (fun a=>r_l1 (S_l1 x a)) a:=by kernel_rfl
theorem ok_l1 (K:Nat)(x:aa ps):N_l1 K x=l1 K x:=funext fun a=>aL live_l1 (ev K (sub body [1,1,1,1,0,1,0,0])) (k_l1 K x) (S_l1 x) (fun rec a=>l1.step K x (l2 K x) rec a) (fun r_l1 a=>(h_l1 K x r_l1 a).trans (by rw[ok_l2 K x])) K a
theorem h_l0 (K:Nat)(x:aa ps)(r_l0:St→Option Res)(a:A_l0):ev K (sub body [1,1,0,1,0,0]) (S_l0 x a) (bL live_l0 r_l0 (k_l0 K x))=l0.step K x (N_l1 K x) (fun a=>r_l0 (S_l0 x a)) a:=by kernel_rfl
theorem ok_l0 (K:Nat)(x:aa ps):N_l0 K x=l0 K x:=funext fun a=>aL live_l0 (ev K (sub body [1,1,0,1,0,0])) (k_l0 K x) (S_l0 x) (fun rec a=>l0.step K x (l1 K x) rec a) (fun r_l0 a=>(h_l0 K x r_l0 a).trans (by rw[ok_l1 K x])) K a
theorem eqn (K:Nat)(x:aa ps):evF (G K) T_D L K Tryz.f197 ps rs true x=f K x:=(show evF (G K) T_D L K Tryz.f197 ps rs true x=pre K (N_l0 K x) x by kernel_rfl).trans (by rw[ok_l0 K x];rfl)
end Q192
end Go.Proofs.YthgnfidnmnkeaaaGreatEv
