/- The kernel finds them so. Printed by run3.py. -/
import Derived.Test.YthgnfidnmnkeaaaGreatFns
set_option linter.unusedVariables false
set_option maxRecDepth 100000
namespace Go.Proofs.YthgnfidnmnkeaaaGreatEv
open Go Go.Proofs
namespace Q7
theorem eqn (K:Nat) (x:Args ps):evF (G K) T_D L K Tryz.f60 ps rs true x=f K x:=by kernel_rfl
end Q7
namespace Q8
theorem eqn (K:Nat) (x:Args ps):evF (G K) T_D L K Tryz.f61 ps rs true x=f K x:=by kernel_rfl
end Q8
namespace Q9
theorem eqn (K:Nat) (x:Args ps):evF (G K) T_D L K Tryz.f102 ps rs true x=f K x:=by kernel_rfl
end Q9
namespace Q10
theorem eqn (K:Nat) (x:Args ps):evF (G K) T_D L K Tryz.f152 ps rs true x=f K x:=by kernel_rfl
end Q10
namespace Q11
theorem h_l0 (K:Nat) (x:Args ps) (r_l0:St→Option Res) (a:A_l0):ev K (sub body [1,1,1,0,1,0,0]) (S_l0 x a) (kLoop live_l0 r_l0 (k_l0 K x))=l0.step K x (fun a=>r_l0 (S_l0 x a)) a:=by kernel_rfl
theorem ok_l0 (K:Nat) (x:Args ps):N_l0 K x=l0 K x:=funext fun a=>evLoop_iter live_l0 (ev K (sub body [1,1,1,0,1,0,0])) (k_l0 K x) (S_l0 x) (fun rec a=>l0.step K x rec a) (fun r_l0 a=>(h_l0 K x r_l0 a)) K a
theorem eqn (K:Nat) (x:Args ps):evF (G K) T_D L K Tryz.f62 ps rs true x=f K x:=(show evF (G K) T_D L K Tryz.f62 ps rs true x=pre K (N_l0 K x) x by kernel_rfl).trans (by rw [ok_l0 K x]; rfl)
end Q11
namespace Q12
theorem eqn (K:Nat) (x:Args ps):evF (G K) T_D L K Tryz.f153 ps rs true x=f K x:=by kernel_rfl
end Q12
namespace Q13
theorem h_l0 (K:Nat) (x:Args ps) (r_l0:St→Option Res) (a:A_l0):ev K (sub body [1,1,1,0,1,0,0]) (S_l0 x a) (kLoop live_l0 r_l0 (k_l0 K x))=l0.step K x (fun a=>r_l0 (S_l0 x a)) a:=by kernel_rfl
theorem ok_l0 (K:Nat) (x:Args ps):N_l0 K x=l0 K x:=funext fun a=>evLoop_iter live_l0 (ev K (sub body [1,1,1,0,1,0,0])) (k_l0 K x) (S_l0 x) (fun rec a=>l0.step K x rec a) (fun r_l0 a=>(h_l0 K x r_l0 a)) K a
theorem eqn (K:Nat) (x:Args ps):evF (G K) T_D L K Tryz.f63 ps rs true x=f K x:=(show evF (G K) T_D L K Tryz.f63 ps rs true x=pre K (N_l0 K x) x by kernel_rfl).trans (by rw [ok_l0 K x]; rfl)
end Q13
namespace Q14
theorem eqn (K:Nat) (x:Args ps):evF (G K) T_D L K Tryz.f154 ps rs true x=f K x:=by kernel_rfl
end Q14
namespace Q15
theorem h_l0 (K:Nat) (x:Args ps) (r_l0:St→Option Res) (a:A_l0):ev K (sub body [1,1,1,0,1,0,0]) (S_l0 x a) (kLoop live_l0 r_l0 (k_l0 K x))=l0.step K x (fun a=>r_l0 (S_l0 x a)) a:=by kernel_rfl
theorem ok_l0 (K:Nat) (x:Args ps):N_l0 K x=l0 K x:=funext fun a=>evLoop_iter live_l0 (ev K (sub body [1,1,1,0,1,0,0])) (k_l0 K x) (S_l0 x) (fun rec a=>l0.step K x rec a) (fun r_l0 a=>(h_l0 K x r_l0 a)) K a
theorem eqn (K:Nat) (x:Args ps):evF (G K) T_D L K Tryz.f64 ps rs true x=f K x:=(show evF (G K) T_D L K Tryz.f64 ps rs true x=pre K (N_l0 K x) x by kernel_rfl).trans (by rw [ok_l0 K x]; rfl)
end Q15
namespace Q16
theorem eqn (K:Nat) (x:Args ps):evF (G K) T_D L K Tryz.f15 ps rs true x=f K x:=by kernel_rfl
end Q16
namespace Q17
theorem eqn (K:Nat) (x:Args ps):evF (G K) T_D L K Tryz.f165 ps rs true x=f K x:=by kernel_rfl
end Q17
namespace Q18
theorem h_l0 (K:Nat) (x:Args ps) (r_l0:St→Option Res) (a:A_l0):ev K (sub body [1,1,0,1,0,0]) (S_l0 x a) (kLoop live_l0 r_l0 (k_l0 K x))=l0.step K x (fun a=>r_l0 (S_l0 x a)) a:=by kernel_rfl
theorem ok_l0 (K:Nat) (x:Args ps):N_l0 K x=l0 K x:=funext fun a=>evLoop_iter live_l0 (ev K (sub body [1,1,0,1,0,0])) (k_l0 K x) (S_l0 x) (fun rec a=>l0.step K x rec a) (fun r_l0 a=>(h_l0 K x r_l0 a)) K a
theorem eqn (K:Nat) (x:Args ps):evF (G K) T_D L K Tryz.f67 ps rs true x=f K x:=(show evF (G K) T_D L K Tryz.f67 ps rs true x=pre K (N_l0 K x) x by kernel_rfl).trans (by rw [ok_l0 K x]; rfl)
end Q18
namespace Q19
theorem eqn (K:Nat) (x:Args ps):evF (G K) T_D L K Tryz.f166 ps rs true x=f K x:=by kernel_rfl
end Q19
namespace Q20
theorem h_l0 (K:Nat) (x:Args ps) (r_l0:St→Option Res) (a:A_l0):ev K (sub body [1,1,0,1,0,0]) (S_l0 x a) (kLoop live_l0 r_l0 (k_l0 K x))=l0.step K x (fun a=>r_l0 (S_l0 x a)) a:=by kernel_rfl
theorem ok_l0 (K:Nat) (x:Args ps):N_l0 K x=l0 K x:=funext fun a=>evLoop_iter live_l0 (ev K (sub body [1,1,0,1,0,0])) (k_l0 K x) (S_l0 x) (fun rec a=>l0.step K x rec a) (fun r_l0 a=>(h_l0 K x r_l0 a)) K a
theorem eqn (K:Nat) (x:Args ps):evF (G K) T_D L K Tryz.f68 ps rs true x=f K x:=(show evF (G K) T_D L K Tryz.f68 ps rs true x=pre K (N_l0 K x) x by kernel_rfl).trans (by rw [ok_l0 K x]; rfl)
end Q20
namespace Q21
theorem eqn (K:Nat) (x:Args ps):evF (G K) T_D L K Tryz.f69 ps rs true x=f K x:=by kernel_rfl
end Q21
namespace Q22
theorem h_l0 (K:Nat) (x:Args ps) (r_l0:St→Option Res) (a:A_l0):ev K (sub body [1,1,0,1,0,0]) (S_l0 x a) (kLoop live_l0 r_l0 (k_l0 K x))=l0.step K x (fun a=>r_l0 (S_l0 x a)) a:=by kernel_rfl
theorem ok_l0 (K:Nat) (x:Args ps):N_l0 K x=l0 K x:=funext fun a=>evLoop_iter live_l0 (ev K (sub body [1,1,0,1,0,0])) (k_l0 K x) (S_l0 x) (fun rec a=>l0.step K x rec a) (fun r_l0 a=>(h_l0 K x r_l0 a)) K a
theorem eqn (K:Nat) (x:Args ps):evF (G K) T_D L K Tryz.f109 ps rs true x=f K x:=(show evF (G K) T_D L K Tryz.f109 ps rs true x=pre K (N_l0 K x) x by kernel_rfl).trans (by rw [ok_l0 K x]; rfl)
end Q22
namespace Q23
theorem eqn (K:Nat) (x:Args ps):evF (G K) T_D L K Tryz.f167 ps rs true x=f K x:=by kernel_rfl
end Q23
namespace Q24
theorem h_l0 (K:Nat) (x:Args ps) (r_l0:St→Option Res) (a:A_l0):ev K (sub body [1,1,0,1,0,0]) (S_l0 x a) (kLoop live_l0 r_l0 (k_l0 K x))=l0.step K x (fun a=>r_l0 (S_l0 x a)) a:=by kernel_rfl
theorem ok_l0 (K:Nat) (x:Args ps):N_l0 K x=l0 K x:=funext fun a=>evLoop_iter live_l0 (ev K (sub body [1,1,0,1,0,0])) (k_l0 K x) (S_l0 x) (fun rec a=>l0.step K x rec a) (fun r_l0 a=>(h_l0 K x r_l0 a)) K a
theorem eqn (K:Nat) (x:Args ps):evF (G K) T_D L K Tryz.f70 ps rs true x=f K x:=(show evF (G K) T_D L K Tryz.f70 ps rs true x=pre K (N_l0 K x) x by kernel_rfl).trans (by rw [ok_l0 K x]; rfl)
end Q24
namespace Q25
theorem eqn (K:Nat) (x:Args ps):evF (G K) T_D L K Tryz.f71 ps rs true x=f K x:=by kernel_rfl
end Q25
namespace Q26
theorem eqn (K:Nat) (x:Args ps):evF (G K) T_D L K Tryz.f168 ps rs true x=f K x:=by kernel_rfl
end Q26
namespace Q27
theorem h_l0 (K:Nat) (x:Args ps) (r_l0:St→Option Res) (a:A_l0):ev K (sub body [1,1,0,1,0,0]) (S_l0 x a) (kLoop live_l0 r_l0 (k_l0 K x))=l0.step K x (fun a=>r_l0 (S_l0 x a)) a:=by kernel_rfl
theorem ok_l0 (K:Nat) (x:Args ps):N_l0 K x=l0 K x:=funext fun a=>evLoop_iter live_l0 (ev K (sub body [1,1,0,1,0,0])) (k_l0 K x) (S_l0 x) (fun rec a=>l0.step K x rec a) (fun r_l0 a=>(h_l0 K x r_l0 a)) K a
theorem eqn (K:Nat) (x:Args ps):evF (G K) T_D L K Tryz.f72 ps rs true x=f K x:=(show evF (G K) T_D L K Tryz.f72 ps rs true x=pre K (N_l0 K x) x by kernel_rfl).trans (by rw [ok_l0 K x]; rfl)
end Q27
namespace Q28
theorem eqn (K:Nat) (x:Args ps):evF (G K) T_D L K Tryz.f169 ps rs true x=f K x:=by kernel_rfl
end Q28
namespace Q29
theorem h_l0 (K:Nat) (x:Args ps) (r_l0:St→Option Res) (a:A_l0):ev K (sub body [1,1,0,1,0,0]) (S_l0 x a) (kLoop live_l0 r_l0 (k_l0 K x))=l0.step K x (fun a=>r_l0 (S_l0 x a)) a:=by kernel_rfl
theorem ok_l0 (K:Nat) (x:Args ps):N_l0 K x=l0 K x:=funext fun a=>evLoop_iter live_l0 (ev K (sub body [1,1,0,1,0,0])) (k_l0 K x) (S_l0 x) (fun rec a=>l0.step K x rec a) (fun r_l0 a=>(h_l0 K x r_l0 a)) K a
theorem eqn (K:Nat) (x:Args ps):evF (G K) T_D L K Tryz.f73 ps rs true x=f K x:=(show evF (G K) T_D L K Tryz.f73 ps rs true x=pre K (N_l0 K x) x by kernel_rfl).trans (by rw [ok_l0 K x]; rfl)
end Q29
namespace Q30
theorem eqn (K:Nat) (x:Args ps):evF (G K) T_D L K Tryz.f17 ps rs true x=f K x:=by kernel_rfl
end Q30
namespace Q31
theorem eqn (K:Nat) (x:Args ps):evF (G K) T_D L K Tryz.f136 ps rs true x=f K x:=by kernel_rfl
end Q31
namespace Q32
theorem h_l0 (K:Nat) (x:Args ps) (r_l0:St→Option Res) (a:A_l0):ev K (sub body [1,1,0,1,0,0]) (S_l0 x a) (kLoop live_l0 r_l0 (k_l0 K x))=l0.step K x (fun a=>r_l0 (S_l0 x a)) a:=by kernel_rfl
theorem ok_l0 (K:Nat) (x:Args ps):N_l0 K x=l0 K x:=funext fun a=>evLoop_iter live_l0 (ev K (sub body [1,1,0,1,0,0])) (k_l0 K x) (S_l0 x) (fun rec a=>l0.step K x rec a) (fun r_l0 a=>(h_l0 K x r_l0 a)) K a
theorem eqn (K:Nat) (x:Args ps):evF (G K) T_D L K Tryz.f46 ps rs true x=f K x:=(show evF (G K) T_D L K Tryz.f46 ps rs true x=pre K (N_l0 K x) x by kernel_rfl).trans (by rw [ok_l0 K x]; rfl)
end Q32
namespace Q33
theorem eqn (K:Nat) (x:Args ps):evF (G K) T_D L K Tryz.f178 ps rs true x=f K x:=by kernel_rfl
end Q33
namespace Q34
theorem h_l0 (K:Nat) (x:Args ps) (r_l0:St→Option Res) (a:A_l0):ev K (sub body [1,1,0,1,0,0]) (S_l0 x a) (kLoop live_l0 r_l0 (k_l0 K x))=l0.step K x (fun a=>r_l0 (S_l0 x a)) a:=by kernel_rfl
theorem ok_l0 (K:Nat) (x:Args ps):N_l0 K x=l0 K x:=funext fun a=>evLoop_iter live_l0 (ev K (sub body [1,1,0,1,0,0])) (k_l0 K x) (S_l0 x) (fun rec a=>l0.step K x rec a) (fun r_l0 a=>(h_l0 K x r_l0 a)) K a
theorem eqn (K:Nat) (x:Args ps):evF (G K) T_D L K Tryz.f78 ps rs true x=f K x:=(show evF (G K) T_D L K Tryz.f78 ps rs true x=pre K (N_l0 K x) x by kernel_rfl).trans (by rw [ok_l0 K x]; rfl)
end Q34
namespace Q35
theorem eqn (K:Nat) (x:Args ps):evF (G K) T_D L K Tryz.f79 ps rs true x=f K x:=by kernel_rfl
end Q35
namespace Q36
theorem h_l0 (K:Nat) (x:Args ps) (r_l0:St→Option Res) (a:A_l0):ev K (sub body [1,1,0,1,0,0]) (S_l0 x a) (kLoop live_l0 r_l0 (k_l0 K x))=l0.step K x (fun a=>r_l0 (S_l0 x a)) a:=by kernel_rfl
theorem ok_l0 (K:Nat) (x:Args ps):N_l0 K x=l0 K x:=funext fun a=>evLoop_iter live_l0 (ev K (sub body [1,1,0,1,0,0])) (k_l0 K x) (S_l0 x) (fun rec a=>l0.step K x rec a) (fun r_l0 a=>(h_l0 K x r_l0 a)) K a
theorem eqn (K:Nat) (x:Args ps):evF (G K) T_D L K Tryz.f27 ps rs true x=f K x:=(show evF (G K) T_D L K Tryz.f27 ps rs true x=pre K (N_l0 K x) x by kernel_rfl).trans (by rw [ok_l0 K x]; rfl)
end Q36
namespace Q37
theorem eqn (K:Nat) (x:Args ps):evF (G K) T_D L K Tryz.f179 ps rs true x=f K x:=by kernel_rfl
end Q37
namespace Q38
theorem h_l0 (K:Nat) (x:Args ps) (r_l0:St→Option Res) (a:A_l0):ev K (sub body [1,1,0,1,0,0]) (S_l0 x a) (kLoop live_l0 r_l0 (k_l0 K x))=l0.step K x (fun a=>r_l0 (S_l0 x a)) a:=by kernel_rfl
theorem ok_l0 (K:Nat) (x:Args ps):N_l0 K x=l0 K x:=funext fun a=>evLoop_iter live_l0 (ev K (sub body [1,1,0,1,0,0])) (k_l0 K x) (S_l0 x) (fun rec a=>l0.step K x rec a) (fun r_l0 a=>(h_l0 K x r_l0 a)) K a
theorem eqn (K:Nat) (x:Args ps):evF (G K) T_D L K Tryz.f80 ps rs true x=f K x:=(show evF (G K) T_D L K Tryz.f80 ps rs true x=pre K (N_l0 K x) x by kernel_rfl).trans (by rw [ok_l0 K x]; rfl)
end Q38
namespace Q39
theorem eqn (K:Nat) (x:Args ps):evF (G K) T_D L K Tryz.f81 ps rs true x=f K x:=by kernel_rfl
end Q39
namespace Q40
theorem eqn (K:Nat) (x:Args ps):evF (G K) T_D L K Tryz.f180 ps rs true x=f K x:=by kernel_rfl
end Q40
namespace Q41
theorem h_l0 (K:Nat) (x:Args ps) (r_l0:St→Option Res) (a:A_l0):ev K (sub body [1,1,0,1,0,0]) (S_l0 x a) (kLoop live_l0 r_l0 (k_l0 K x))=l0.step K x (fun a=>r_l0 (S_l0 x a)) a:=by kernel_rfl
theorem ok_l0 (K:Nat) (x:Args ps):N_l0 K x=l0 K x:=funext fun a=>evLoop_iter live_l0 (ev K (sub body [1,1,0,1,0,0])) (k_l0 K x) (S_l0 x) (fun rec a=>l0.step K x rec a) (fun r_l0 a=>(h_l0 K x r_l0 a)) K a
theorem eqn (K:Nat) (x:Args ps):evF (G K) T_D L K Tryz.f82 ps rs true x=f K x:=(show evF (G K) T_D L K Tryz.f82 ps rs true x=pre K (N_l0 K x) x by kernel_rfl).trans (by rw [ok_l0 K x]; rfl)
end Q41
namespace Q42
theorem eqn (K:Nat) (x:Args ps):evF (G K) T_D L K Tryz.f181 ps rs true x=f K x:=by kernel_rfl
end Q42
namespace Q43
theorem h_l0 (K:Nat) (x:Args ps) (r_l0:St→Option Res) (a:A_l0):ev K (sub body [1,1,0,1,0,0]) (S_l0 x a) (kLoop live_l0 r_l0 (k_l0 K x))=l0.step K x (fun a=>r_l0 (S_l0 x a)) a:=by kernel_rfl
theorem ok_l0 (K:Nat) (x:Args ps):N_l0 K x=l0 K x:=funext fun a=>evLoop_iter live_l0 (ev K (sub body [1,1,0,1,0,0])) (k_l0 K x) (S_l0 x) (fun rec a=>l0.step K x rec a) (fun r_l0 a=>(h_l0 K x r_l0 a)) K a
theorem eqn (K:Nat) (x:Args ps):evF (G K) T_D L K Tryz.f83 ps rs true x=f K x:=(show evF (G K) T_D L K Tryz.f83 ps rs true x=pre K (N_l0 K x) x by kernel_rfl).trans (by rw [ok_l0 K x]; rfl)
end Q43
namespace Q44
theorem eqn (K:Nat) (x:Args ps):evF (G K) T_D L K Tryz.f19 ps rs true x=f K x:=by kernel_rfl
end Q44
namespace Q45
theorem h_l0 (K:Nat) (x:Args ps) (r_l0:St→Option Res) (a:A_l0):ev K (sub body [1,0,1,0,0]) (S_l0 x a) (kLoop live_l0 r_l0 (k_l0 K x))=l0.step K x (fun a=>r_l0 (S_l0 x a)) a:=by kernel_rfl
theorem ok_l0 (K:Nat) (x:Args ps):N_l0 K x=l0 K x:=funext fun a=>evLoop_iter live_l0 (ev K (sub body [1,0,1,0,0])) (k_l0 K x) (S_l0 x) (fun rec a=>l0.step K x rec a) (fun r_l0 a=>(h_l0 K x r_l0 a)) K a
theorem eqn (K:Nat) (x:Args ps):evF (G K) T_D L K Tryz.f47 ps rs true x=f K x:=(show evF (G K) T_D L K Tryz.f47 ps rs true x=pre K (N_l0 K x) x by kernel_rfl).trans (by rw [ok_l0 K x]; rfl)
end Q45
namespace Q46
theorem h_l0 (K:Nat) (x:Args ps) (r_l0:St→Option Res) (a:A_l0):ev K (sub body [1,0,1,0,0]) (S_l0 x a) (kLoop live_l0 r_l0 (k_l0 K x))=l0.step K x (fun a=>r_l0 (S_l0 x a)) a:=by kernel_rfl
theorem ok_l0 (K:Nat) (x:Args ps):N_l0 K x=l0 K x:=funext fun a=>evLoop_iter live_l0 (ev K (sub body [1,0,1,0,0])) (k_l0 K x) (S_l0 x) (fun rec a=>l0.step K x rec a) (fun r_l0 a=>(h_l0 K x r_l0 a)) K a
theorem eqn (K:Nat) (x:Args ps):evF (G K) T_D L K Tryz.f96 ps rs true x=f K x:=(show evF (G K) T_D L K Tryz.f96 ps rs true x=pre K (N_l0 K x) x by kernel_rfl).trans (by rw [ok_l0 K x]; rfl)
end Q46
namespace Q47
theorem h_l0 (K:Nat) (x:Args ps) (r_l0:St→Option Res) (a:A_l0):ev K (sub body [1,0,1,0,0]) (S_l0 x a) (kLoop live_l0 r_l0 (k_l0 K x))=l0.step K x (fun a=>r_l0 (S_l0 x a)) a:=by kernel_rfl
theorem ok_l0 (K:Nat) (x:Args ps):N_l0 K x=l0 K x:=funext fun a=>evLoop_iter live_l0 (ev K (sub body [1,0,1,0,0])) (k_l0 K x) (S_l0 x) (fun rec a=>l0.step K x rec a) (fun r_l0 a=>(h_l0 K x r_l0 a)) K a
theorem eqn (K:Nat) (x:Args ps):evF (G K) T_D L K Tryz.f29 ps rs true x=f K x:=(show evF (G K) T_D L K Tryz.f29 ps rs true x=pre K (N_l0 K x) x by kernel_rfl).trans (by rw [ok_l0 K x]; rfl)
end Q47
namespace Q48
theorem h_l0 (K:Nat) (x:Args ps) (r_l0:St→Option Res) (a:A_l0):ev K (sub body [1,0,1,0,0]) (S_l0 x a) (kLoop live_l0 r_l0 (k_l0 K x))=l0.step K x (fun a=>r_l0 (S_l0 x a)) a:=by kernel_rfl
theorem ok_l0 (K:Nat) (x:Args ps):N_l0 K x=l0 K x:=funext fun a=>evLoop_iter live_l0 (ev K (sub body [1,0,1,0,0])) (k_l0 K x) (S_l0 x) (fun rec a=>l0.step K x rec a) (fun r_l0 a=>(h_l0 K x r_l0 a)) K a
theorem eqn (K:Nat) (x:Args ps):evF (G K) T_D L K Tryz.f97 ps rs true x=f K x:=(show evF (G K) T_D L K Tryz.f97 ps rs true x=pre K (N_l0 K x) x by kernel_rfl).trans (by rw [ok_l0 K x]; rfl)
end Q48
namespace Q49
theorem h_l0 (K:Nat) (x:Args ps) (r_l0:St→Option Res) (a:A_l0):ev K (sub body [1,0,1,0,0]) (S_l0 x a) (kLoop live_l0 r_l0 (k_l0 K x))=l0.step K x (fun a=>r_l0 (S_l0 x a)) a:=by kernel_rfl
theorem ok_l0 (K:Nat) (x:Args ps):N_l0 K x=l0 K x:=funext fun a=>evLoop_iter live_l0 (ev K (sub body [1,0,1,0,0])) (k_l0 K x) (S_l0 x) (fun rec a=>l0.step K x rec a) (fun r_l0 a=>(h_l0 K x r_l0 a)) K a
theorem eqn (K:Nat) (x:Args ps):evF (G K) T_D L K Tryz.f98 ps rs true x=f K x:=(show evF (G K) T_D L K Tryz.f98 ps rs true x=pre K (N_l0 K x) x by kernel_rfl).trans (by rw [ok_l0 K x]; rfl)
end Q49
namespace Q50
theorem h_l0 (K:Nat) (x:Args ps) (r_l0:St→Option Res) (a:A_l0):ev K (sub body [1,0,1,0,0]) (S_l0 x a) (kLoop live_l0 r_l0 (k_l0 K x))=l0.step K x (fun a=>r_l0 (S_l0 x a)) a:=by kernel_rfl
theorem ok_l0 (K:Nat) (x:Args ps):N_l0 K x=l0 K x:=funext fun a=>evLoop_iter live_l0 (ev K (sub body [1,0,1,0,0])) (k_l0 K x) (S_l0 x) (fun rec a=>l0.step K x rec a) (fun r_l0 a=>(h_l0 K x r_l0 a)) K a
theorem eqn (K:Nat) (x:Args ps):evF (G K) T_D L K Tryz.f99 ps rs true x=f K x:=(show evF (G K) T_D L K Tryz.f99 ps rs true x=pre K (N_l0 K x) x by kernel_rfl).trans (by rw [ok_l0 K x]; rfl)
end Q50
namespace Q51
theorem eqn (K:Nat) (x:Args ps):evF (G K) T_D L K Tryz.f28 ps rs true x=f K x:=by kernel_rfl
end Q51
namespace Q52
theorem eqn (K:Nat) (x:Args ps):evF (G K) T_D L K Tryz.f24 ps rs true x=f K x:=by kernel_rfl
end Q52
namespace Q53
theorem h_l0 (K:Nat) (x:Args ps) (r_l0:St→Option Res) (a:A_l0):ev K (sub body [1,1,0,1,0,0]) (S_l0 x a) (kLoop live_l0 r_l0 (k_l0 K x))=l0.step K x (fun a=>r_l0 (S_l0 x a)) a:=by kernel_rfl
theorem ok_l0 (K:Nat) (x:Args ps):N_l0 K x=l0 K x:=funext fun a=>evLoop_iter live_l0 (ev K (sub body [1,1,0,1,0,0])) (k_l0 K x) (S_l0 x) (fun rec a=>l0.step K x rec a) (fun r_l0 a=>(h_l0 K x r_l0 a)) K a
theorem eqn (K:Nat) (x:Args ps):evF (G K) T_D L K Tryz.f40 ps rs true x=f K x:=(show evF (G K) T_D L K Tryz.f40 ps rs true x=pre K (N_l0 K x) x by kernel_rfl).trans (by rw [ok_l0 K x]; rfl)
end Q53
namespace Q54
theorem h_l0 (K:Nat) (x:Args ps) (r_l0:St→Option Res) (a:A_l0):ev K (sub body [1,0,1,0,0]) (S_l0 x a) (kLoop live_l0 r_l0 (k_l0 K x))=l0.step K x (fun a=>r_l0 (S_l0 x a)) a:=by kernel_rfl
theorem ok_l0 (K:Nat) (x:Args ps):N_l0 K x=l0 K x:=funext fun a=>evLoop_iter live_l0 (ev K (sub body [1,0,1,0,0])) (k_l0 K x) (S_l0 x) (fun rec a=>l0.step K x rec a) (fun r_l0 a=>(h_l0 K x r_l0 a)) K a
theorem eqn (K:Nat) (x:Args ps):evF (G K) T_D L K Tryz.f41 ps rs true x=f K x:=(show evF (G K) T_D L K Tryz.f41 ps rs true x=pre K (N_l0 K x) x by kernel_rfl).trans (by rw [ok_l0 K x]; rfl)
end Q54
namespace Q55
theorem h_l0 (K:Nat) (x:Args ps) (r_l0:St→Option Res) (a:A_l0):ev K (sub body [1,0,1,0,0]) (S_l0 x a) (kLoop live_l0 r_l0 (k_l0 K x))=l0.step K x (fun a=>r_l0 (S_l0 x a)) a:=by kernel_rfl
theorem ok_l0 (K:Nat) (x:Args ps):N_l0 K x=l0 K x:=funext fun a=>evLoop_iter live_l0 (ev K (sub body [1,0,1,0,0])) (k_l0 K x) (S_l0 x) (fun rec a=>l0.step K x rec a) (fun r_l0 a=>(h_l0 K x r_l0 a)) K a
theorem eqn (K:Nat) (x:Args ps):evF (G K) T_D L K Tryz.f48 ps rs true x=f K x:=(show evF (G K) T_D L K Tryz.f48 ps rs true x=pre K (N_l0 K x) x by kernel_rfl).trans (by rw [ok_l0 K x]; rfl)
end Q55
namespace Q56
theorem h_l0 (K:Nat) (x:Args ps) (r_l0:St→Option Res) (a:A_l0):ev K (sub body [1,0,1,0,0]) (S_l0 x a) (kLoop live_l0 r_l0 (k_l0 K x))=l0.step K x (fun a=>r_l0 (S_l0 x a)) a:=by kernel_rfl
theorem ok_l0 (K:Nat) (x:Args ps):N_l0 K x=l0 K x:=funext fun a=>evLoop_iter live_l0 (ev K (sub body [1,0,1,0,0])) (k_l0 K x) (S_l0 x) (fun rec a=>l0.step K x rec a) (fun r_l0 a=>(h_l0 K x r_l0 a)) K a
theorem eqn (K:Nat) (x:Args ps):evF (G K) T_D L K Tryz.f131 ps rs true x=f K x:=(show evF (G K) T_D L K Tryz.f131 ps rs true x=pre K (N_l0 K x) x by kernel_rfl).trans (by rw [ok_l0 K x]; rfl)
end Q56
namespace Q57
theorem h_l0 (K:Nat) (x:Args ps) (r_l0:St→Option Res) (a:A_l0):ev K (sub body [1,0,1,0,0]) (S_l0 x a) (kLoop live_l0 r_l0 (k_l0 K x))=l0.step K x (fun a=>r_l0 (S_l0 x a)) a:=by kernel_rfl
theorem ok_l0 (K:Nat) (x:Args ps):N_l0 K x=l0 K x:=funext fun a=>evLoop_iter live_l0 (ev K (sub body [1,0,1,0,0])) (k_l0 K x) (S_l0 x) (fun rec a=>l0.step K x rec a) (fun r_l0 a=>(h_l0 K x r_l0 a)) K a
theorem eqn (K:Nat) (x:Args ps):evF (G K) T_D L K Tryz.f30 ps rs true x=f K x:=(show evF (G K) T_D L K Tryz.f30 ps rs true x=pre K (N_l0 K x) x by kernel_rfl).trans (by rw [ok_l0 K x]; rfl)
end Q57
namespace Q58
theorem h_l0 (K:Nat) (x:Args ps) (r_l0:St→Option Res) (a:A_l0):ev K (sub body [1,0,1,0,0]) (S_l0 x a) (kLoop live_l0 r_l0 (k_l0 K x))=l0.step K x (fun a=>r_l0 (S_l0 x a)) a:=by kernel_rfl
theorem ok_l0 (K:Nat) (x:Args ps):N_l0 K x=l0 K x:=funext fun a=>evLoop_iter live_l0 (ev K (sub body [1,0,1,0,0])) (k_l0 K x) (S_l0 x) (fun rec a=>l0.step K x rec a) (fun r_l0 a=>(h_l0 K x r_l0 a)) K a
theorem eqn (K:Nat) (x:Args ps):evF (G K) T_D L K Tryz.f132 ps rs true x=f K x:=(show evF (G K) T_D L K Tryz.f132 ps rs true x=pre K (N_l0 K x) x by kernel_rfl).trans (by rw [ok_l0 K x]; rfl)
end Q58
namespace Q59
theorem h_l0 (K:Nat) (x:Args ps) (r_l0:St→Option Res) (a:A_l0):ev K (sub body [1,0,1,0,0]) (S_l0 x a) (kLoop live_l0 r_l0 (k_l0 K x))=l0.step K x (fun a=>r_l0 (S_l0 x a)) a:=by kernel_rfl
theorem ok_l0 (K:Nat) (x:Args ps):N_l0 K x=l0 K x:=funext fun a=>evLoop_iter live_l0 (ev K (sub body [1,0,1,0,0])) (k_l0 K x) (S_l0 x) (fun rec a=>l0.step K x rec a) (fun r_l0 a=>(h_l0 K x r_l0 a)) K a
theorem eqn (K:Nat) (x:Args ps):evF (G K) T_D L K Tryz.f133 ps rs true x=f K x:=(show evF (G K) T_D L K Tryz.f133 ps rs true x=pre K (N_l0 K x) x by kernel_rfl).trans (by rw [ok_l0 K x]; rfl)
end Q59
namespace Q60
theorem h_l0 (K:Nat) (x:Args ps) (r_l0:St→Option Res) (a:A_l0):ev K (sub body [1,0,1,0,0]) (S_l0 x a) (kLoop live_l0 r_l0 (k_l0 K x))=l0.step K x (fun a=>r_l0 (S_l0 x a)) a:=by kernel_rfl
theorem ok_l0 (K:Nat) (x:Args ps):N_l0 K x=l0 K x:=funext fun a=>evLoop_iter live_l0 (ev K (sub body [1,0,1,0,0])) (k_l0 K x) (S_l0 x) (fun rec a=>l0.step K x rec a) (fun r_l0 a=>(h_l0 K x r_l0 a)) K a
theorem eqn (K:Nat) (x:Args ps):evF (G K) T_D L K Tryz.f134 ps rs true x=f K x:=(show evF (G K) T_D L K Tryz.f134 ps rs true x=pre K (N_l0 K x) x by kernel_rfl).trans (by rw [ok_l0 K x]; rfl)
end Q60
namespace Q61
theorem eqn (K:Nat) (x:Args ps):evF (G K) T_D L K Tryz.f42 ps rs true x=f K x:=by kernel_rfl
end Q61
namespace Q62
theorem h_l0 (K:Nat) (x:Args ps) (r_l0:St→Option Res) (a:A_l0):ev K (sub body [1,0,1,0,0]) (S_l0 x a) (kLoop live_l0 r_l0 (k_l0 K x))=l0.step K x (fun a=>r_l0 (S_l0 x a)) a:=by kernel_rfl
theorem ok_l0 (K:Nat) (x:Args ps):N_l0 K x=l0 K x:=funext fun a=>evLoop_iter live_l0 (ev K (sub body [1,0,1,0,0])) (k_l0 K x) (S_l0 x) (fun rec a=>l0.step K x rec a) (fun r_l0 a=>(h_l0 K x r_l0 a)) K a
theorem eqn (K:Nat) (x:Args ps):evF (G K) T_D L K Tryz.f43 ps rs true x=f K x:=(show evF (G K) T_D L K Tryz.f43 ps rs true x=pre K (N_l0 K x) x by kernel_rfl).trans (by rw [ok_l0 K x]; rfl)
end Q62
namespace Q63
theorem eqn (K:Nat) (x:Args ps):evF (G K) T_S L K Tryz.f92 ps rs true x=f K x:=by kernel_rfl
end Q63
namespace Q64
theorem eqn (K:Nat) (x:Args ps):evF (G K) T_S L K Tryz.f104 ps rs true x=f K x:=by kernel_rfl
end Q64
namespace Q65
theorem eqn (K:Nat) (x:Args ps):evF (G K) T_S L K Tryz.f105 ps rs true x=f K x:=by kernel_rfl
end Q65
namespace Q66
theorem h_l0 (K:Nat) (x:Args ps) (r_l0:St→Option Res) (a:A_l0):ev K (sub body [1,0,1,0,0]) (S_l0 x a) (kLoop live_l0 r_l0 (k_l0 K x))=l0.step K x (fun a=>r_l0 (S_l0 x a)) a:=by kernel_rfl
theorem ok_l0 (K:Nat) (x:Args ps):N_l0 K x=l0 K x:=funext fun a=>evLoop_iter live_l0 (ev K (sub body [1,0,1,0,0])) (k_l0 K x) (S_l0 x) (fun rec a=>l0.step K x rec a) (fun r_l0 a=>(h_l0 K x r_l0 a)) K a
theorem eqn (K:Nat) (x:Args ps):evF (G K) T_S L K Tryz.f155 ps rs true x=f K x:=(show evF (G K) T_S L K Tryz.f155 ps rs true x=pre K (N_l0 K x) x by kernel_rfl).trans (by rw [ok_l0 K x]; rfl)
end Q66
namespace Q67
theorem h_l0 (K:Nat) (x:Args ps) (r_l0:St→Option Res) (a:A_l0):ev K (sub body [1,0,1,0,0]) (S_l0 x a) (kLoop live_l0 r_l0 (k_l0 K x))=l0.step K x (fun a=>r_l0 (S_l0 x a)) a:=by kernel_rfl
theorem ok_l0 (K:Nat) (x:Args ps):N_l0 K x=l0 K x:=funext fun a=>evLoop_iter live_l0 (ev K (sub body [1,0,1,0,0])) (k_l0 K x) (S_l0 x) (fun rec a=>l0.step K x rec a) (fun r_l0 a=>(h_l0 K x r_l0 a)) K a
theorem eqn (K:Nat) (x:Args ps):evF (G K) T_S L K Tryz.f156 ps rs true x=f K x:=(show evF (G K) T_S L K Tryz.f156 ps rs true x=pre K (N_l0 K x) x by kernel_rfl).trans (by rw [ok_l0 K x]; rfl)
end Q67
namespace Q68
theorem h_l0 (K:Nat) (x:Args ps) (r_l0:St→Option Res) (a:A_l0):ev K (sub body [1,0,1,0,0]) (S_l0 x a) (kLoop live_l0 r_l0 (k_l0 K x))=l0.step K x (fun a=>r_l0 (S_l0 x a)) a:=by kernel_rfl
theorem ok_l0 (K:Nat) (x:Args ps):N_l0 K x=l0 K x:=funext fun a=>evLoop_iter live_l0 (ev K (sub body [1,0,1,0,0])) (k_l0 K x) (S_l0 x) (fun rec a=>l0.step K x rec a) (fun r_l0 a=>(h_l0 K x r_l0 a)) K a
theorem eqn (K:Nat) (x:Args ps):evF (G K) T_S L K Tryz.f119 ps rs true x=f K x:=(show evF (G K) T_S L K Tryz.f119 ps rs true x=pre K (N_l0 K x) x by kernel_rfl).trans (by rw [ok_l0 K x]; rfl)
end Q68
namespace Q69
theorem eqn (K:Nat) (x:Args ps):evF (G K) T_S L K Tryz.f157 ps rs true x=f K x:=by kernel_rfl
end Q69
namespace Q70
theorem eqn (K:Nat) (x:Args ps):evF (G K) T_S L K Tryz.f187 ps rs true x=f K x:=by kernel_rfl
end Q70
namespace Q71
theorem h_l0 (K:Nat) (x:Args ps) (r_l0:St→Option Res) (a:A_l0):ev K (sub body [1,0,1,0,0]) (S_l0 x a) (kLoop live_l0 r_l0 (k_l0 K x))=l0.step K x (fun a=>r_l0 (S_l0 x a)) a:=by kernel_rfl
theorem ok_l0 (K:Nat) (x:Args ps):N_l0 K x=l0 K x:=funext fun a=>evLoop_iter live_l0 (ev K (sub body [1,0,1,0,0])) (k_l0 K x) (S_l0 x) (fun rec a=>l0.step K x rec a) (fun r_l0 a=>(h_l0 K x r_l0 a)) K a
theorem eqn (K:Nat) (x:Args ps):evF (G K) T_S L K Tryz.f230 ps rs true x=f K x:=(show evF (G K) T_S L K Tryz.f230 ps rs true x=pre K (N_l0 K x) x by kernel_rfl).trans (by rw [ok_l0 K x]; rfl)
end Q71
namespace Q72
theorem h_l0 (K:Nat) (x:Args ps) (r_l0:St→Option Res) (a:A_l0):ev K (sub body [1,1,0,1,0,0]) (S_l0 x a) (kLoop live_l0 r_l0 (k_l0 K x))=l0.step K x (fun a=>r_l0 (S_l0 x a)) a:=by kernel_rfl
theorem ok_l0 (K:Nat) (x:Args ps):N_l0 K x=l0 K x:=funext fun a=>evLoop_iter live_l0 (ev K (sub body [1,1,0,1,0,0])) (k_l0 K x) (S_l0 x) (fun rec a=>l0.step K x rec a) (fun r_l0 a=>(h_l0 K x r_l0 a)) K a
theorem eqn (K:Nat) (x:Args ps):evF (G K) T_S L K Tryz.f158 ps rs true x=f K x:=(show evF (G K) T_S L K Tryz.f158 ps rs true x=pre K (N_l0 K x) x by kernel_rfl).trans (by rw [ok_l0 K x]; rfl)
end Q72
namespace Q73
theorem eqn (K:Nat) (x:Args ps):evF (G K) T_S L K Tryz.f159 ps rs true x=f K x:=by kernel_rfl
end Q73
namespace Q74
theorem h_l1 (K:Nat) (x:Args ps) (r_l0:St→Option Res) (r_l1:St→Option Res) (a:A_l1):ev K (sub body [1,0,1,0,0,1,0,0,1,1,1,1,0,0]) (S_l1 x a) (kLoop live_l1 r_l1 (k_l1 K x r_l0))=l1.step K x (fun a=>r_l0 (S_l0 x a)) (fun a=>r_l1 (S_l1 x a)) a:=by kernel_rfl
theorem ok_l1 (K:Nat) (x:Args ps) (r_l0:St→Option Res):N_l1 K x r_l0=l1 K x (fun a=>r_l0 (S_l0 x a)):=funext fun a=>evLoop_iter live_l1 (ev K (sub body [1,0,1,0,0,1,0,0,1,1,1,1,0,0])) (k_l1 K x r_l0) (S_l1 x) (fun rec a=>l1.step K x (fun a=>r_l0 (S_l0 x a)) rec a) (fun r_l1 a=>(h_l1 K x r_l0 r_l1 a)) K a
theorem h_l2 (K:Nat) (x:Args ps) (r_l2:St→Option Res) (a:A_l2):ev K (sub body [1,1,1,0,1,0,0]) (S_l2 x a) (kLoop live_l2 r_l2 (k_l2 K x))=l2.step K x (fun a=>r_l2 (S_l2 x a)) a:=by kernel_rfl
theorem ok_l2 (K:Nat) (x:Args ps):N_l2 K x=l2 K x:=funext fun a=>evLoop_iter live_l2 (ev K (sub body [1,1,1,0,1,0,0])) (k_l2 K x) (S_l2 x) (fun rec a=>l2.step K x rec a) (fun r_l2 a=>(h_l2 K x r_l2 a)) K a
theorem h_l0 (K:Nat) (x:Args ps) (r_l0:St→Option Res) (a:A_l0):ev K (sub body [1,0,1,0,0]) (S_l0 x a) (kLoop live_l0 r_l0 (k_l0 K x))=l0.step K x (N_l1 K x r_l0) (N_l2 K x) (fun a=>r_l0 (S_l0 x a)) a:=by kernel_rfl
theorem ok_l0 (K:Nat) (x:Args ps):N_l0 K x=l0 K x:=funext fun a=>evLoop_iter live_l0 (ev K (sub body [1,0,1,0,0])) (k_l0 K x) (S_l0 x) (fun rec a=>l0.step K x (l1 K x rec) (l2 K x) rec a) (fun r_l0 a=>(h_l0 K x r_l0 a).trans (by rw [ok_l1 K x r_l0,ok_l2 K x])) K a
theorem eqn (K:Nat) (x:Args ps):evF (G K) T_S L K Tryz.f160 ps rs true x=f K x:=(show evF (G K) T_S L K Tryz.f160 ps rs true x=pre K (N_l0 K x) x by kernel_rfl).trans (by rw [ok_l0 K x]; rfl)
end Q74
namespace Q75
theorem eqn (K:Nat) (x:Args ps):evF (G K) T_S L K Tryz.f161 ps rs true x=f K x:=by kernel_rfl
end Q75
namespace Q76
theorem h_l1 (K:Nat) (x:Args ps) (r_l0:St→Option Res) (r_l1:St→Option Res) (a:A_l1):ev K (sub body [1,0,1,0,0,1,0,0,1,1,1,0,0]) (S_l1 x a) (kLoop live_l1 r_l1 (k_l1 K x r_l0))=l1.step K x (fun a=>r_l0 (S_l0 x a)) (fun a=>r_l1 (S_l1 x a)) a:=by kernel_rfl
theorem ok_l1 (K:Nat) (x:Args ps) (r_l0:St→Option Res):N_l1 K x r_l0=l1 K x (fun a=>r_l0 (S_l0 x a)):=funext fun a=>evLoop_iter live_l1 (ev K (sub body [1,0,1,0,0,1,0,0,1,1,1,0,0])) (k_l1 K x r_l0) (S_l1 x) (fun rec a=>l1.step K x (fun a=>r_l0 (S_l0 x a)) rec a) (fun r_l1 a=>(h_l1 K x r_l0 r_l1 a)) K a
theorem h_l0 (K:Nat) (x:Args ps) (r_l0:St→Option Res) (a:A_l0):ev K (sub body [1,0,1,0,0]) (S_l0 x a) (kLoop live_l0 r_l0 (k_l0 K x))=l0.step K x (N_l1 K x r_l0) (fun a=>r_l0 (S_l0 x a)) a:=by kernel_rfl
theorem ok_l0 (K:Nat) (x:Args ps):N_l0 K x=l0 K x:=funext fun a=>evLoop_iter live_l0 (ev K (sub body [1,0,1,0,0])) (k_l0 K x) (S_l0 x) (fun rec a=>l0.step K x (l1 K x rec) rec a) (fun r_l0 a=>(h_l0 K x r_l0 a).trans (by rw [ok_l1 K x r_l0])) K a
theorem eqn (K:Nat) (x:Args ps):evF (G K) T_S L K Tryz.f162 ps rs true x=f K x:=(show evF (G K) T_S L K Tryz.f162 ps rs true x=pre K (N_l0 K x) x by kernel_rfl).trans (by rw [ok_l0 K x]; rfl)
end Q76
namespace Q77
theorem h_l0 (K:Nat) (x:Args ps) (r_l0:St→Option Res) (a:A_l0):ev K (sub body [1,0,1,0,0]) (S_l0 x a) (kLoop live_l0 r_l0 (k_l0 K x))=l0.step K x (fun a=>r_l0 (S_l0 x a)) a:=by kernel_rfl
theorem ok_l0 (K:Nat) (x:Args ps):N_l0 K x=l0 K x:=funext fun a=>evLoop_iter live_l0 (ev K (sub body [1,0,1,0,0])) (k_l0 K x) (S_l0 x) (fun rec a=>l0.step K x rec a) (fun r_l0 a=>(h_l0 K x r_l0 a)) K a
theorem eqn (K:Nat) (x:Args ps):evF (G K) T_S L K Tryz.f163 ps rs true x=f K x:=(show evF (G K) T_S L K Tryz.f163 ps rs true x=pre K (N_l0 K x) x by kernel_rfl).trans (by rw [ok_l0 K x]; rfl)
end Q77
namespace Q78
theorem eqn (K:Nat) (x:Args ps):evF (G K) T_S L K Tryz.f65 ps rs true x=f K x:=by kernel_rfl
end Q78
namespace Q79
theorem h_l2 (K:Nat) (x:Args ps) (r_l2:St→Option Res) (a:A_l2):ev K (sub body [1,1,1,1,1,1,1,1,1,0,1,0,0]) (S_l2 x a) (kLoop live_l2 r_l2 (k_l2 K x))=l2.step K x (fun a=>r_l2 (S_l2 x a)) a:=by kernel_rfl
theorem ok_l2 (K:Nat) (x:Args ps):N_l2 K x=l2 K x:=funext fun a=>evLoop_iter live_l2 (ev K (sub body [1,1,1,1,1,1,1,1,1,0,1,0,0])) (k_l2 K x) (S_l2 x) (fun rec a=>l2.step K x rec a) (fun r_l2 a=>(h_l2 K x r_l2 a)) K a
theorem h_l1 (K:Nat) (x:Args ps) (r_l1:St→Option Res) (a:A_l1):ev K (sub body [1,1,1,1,1,1,1,0,1,0,0]) (S_l1 x a) (kLoop live_l1 r_l1 (k_l1 K x))=l1.step K x (N_l2 K x) (fun a=>r_l1 (S_l1 x a)) a:=by kernel_rfl
theorem ok_l1 (K:Nat) (x:Args ps):N_l1 K x=l1 K x:=funext fun a=>evLoop_iter live_l1 (ev K (sub body [1,1,1,1,1,1,1,0,1,0,0])) (k_l1 K x) (S_l1 x) (fun rec a=>l1.step K x (l2 K x) rec a) (fun r_l1 a=>(h_l1 K x r_l1 a).trans (by rw [ok_l2 K x])) K a
theorem h_l0 (K:Nat) (x:Args ps) (r_l0:St→Option Res) (a:A_l0):ev K (sub body [1,1,1,1,1,0,1,0,0]) (S_l0 x a) (kLoop live_l0 r_l0 (k_l0 K x))=l0.step K x (N_l1 K x) (fun a=>r_l0 (S_l0 x a)) a:=by kernel_rfl
theorem ok_l0 (K:Nat) (x:Args ps):N_l0 K x=l0 K x:=funext fun a=>evLoop_iter live_l0 (ev K (sub body [1,1,1,1,1,0,1,0,0])) (k_l0 K x) (S_l0 x) (fun rec a=>l0.step K x (l1 K x) rec a) (fun r_l0 a=>(h_l0 K x r_l0 a).trans (by rw [ok_l1 K x])) K a
theorem eqn (K:Nat) (x:Args ps):evF (G K) T_ND L K Tryz.f126 ps rs true x=f K x:=(show evF (G K) T_ND L K Tryz.f126 ps rs true x=pre K (N_l0 K x) x by kernel_rfl).trans (by rw [ok_l0 K x]; rfl)
end Q79
namespace Q80
theorem eqn (K:Nat) (x:Args ps):evF (G K) T_S L K Tryz.f127 ps rs true x=f K x:=by kernel_rfl
end Q80
namespace Q81
theorem h_l0 (K:Nat) (x:Args ps) (r_l0:St→Option Res) (a:A_l0):ev K (sub body [1,1,1,1,0,0,0]) (S_l0 x a) (kLoop live_l0 r_l0 (k_l0 K x))=l0.step K x (fun a=>r_l0 (S_l0 x a)) a:=by kernel_rfl
theorem ok_l0 (K:Nat) (x:Args ps):N_l0 K x=l0 K x:=funext fun a=>evLoop_iter live_l0 (ev K (sub body [1,1,1,1,0,0,0])) (k_l0 K x) (S_l0 x) (fun rec a=>l0.step K x rec a) (fun r_l0 a=>(h_l0 K x r_l0 a)) K a
theorem eqn (K:Nat) (x:Args ps):evF (G K) T_S L K Tryz.f248 ps rs false x=f K x:=(show evF (G K) T_S L K Tryz.f248 ps rs false x=pre K (N_l0 K x) x by kernel_rfl).trans (by rw [ok_l0 K x]; rfl)
end Q81
namespace Q82
theorem h_l0 (K:Nat) (x:Args ps) (r_l0:St→Option Res) (a:A_l0):ev K (sub body [1,1,1,0,1,0,0]) (S_l0 x a) (kLoop live_l0 r_l0 (k_l0 K x))=l0.step K x (fun a=>r_l0 (S_l0 x a)) a:=by kernel_rfl
theorem ok_l0 (K:Nat) (x:Args ps):N_l0 K x=l0 K x:=funext fun a=>evLoop_iter live_l0 (ev K (sub body [1,1,1,0,1,0,0])) (k_l0 K x) (S_l0 x) (fun rec a=>l0.step K x rec a) (fun r_l0 a=>(h_l0 K x r_l0 a)) K a
theorem eqn (K:Nat) (x:Args ps):evF (G K) T_S L K Tryz.f249 ps rs false x=f K x:=(show evF (G K) T_S L K Tryz.f249 ps rs false x=pre K (N_l0 K x) x by kernel_rfl).trans (by rw [ok_l0 K x]; rfl)
end Q82
namespace Q83
theorem h_l0 (K:Nat) (x:Args ps) (r_l0:St→Option Res) (a:A_l0):ev K (sub body [1,1,1,0,1,0,0]) (S_l0 x a) (kLoop live_l0 r_l0 (k_l0 K x))=l0.step K x (fun a=>r_l0 (S_l0 x a)) a:=by kernel_rfl
theorem ok_l0 (K:Nat) (x:Args ps):N_l0 K x=l0 K x:=funext fun a=>evLoop_iter live_l0 (ev K (sub body [1,1,1,0,1,0,0])) (k_l0 K x) (S_l0 x) (fun rec a=>l0.step K x rec a) (fun r_l0 a=>(h_l0 K x r_l0 a)) K a
theorem eqn (K:Nat) (x:Args ps):evF (G K) T_S L K Tryz.f250 ps rs false x=f K x:=(show evF (G K) T_S L K Tryz.f250 ps rs false x=pre K (N_l0 K x) x by kernel_rfl).trans (by rw [ok_l0 K x]; rfl)
end Q83
namespace Q84
theorem eqn (K:Nat) (x:Args ps):evF (G K) T_S L K Tryz.f210 ps rs false x=f K x:=by kernel_rfl
end Q84
namespace Q85
theorem eqn (K:Nat) (x:Args ps):evF (G K) T_S L K Tryz.f211 ps rs true x=f K x:=by kernel_rfl
end Q85
namespace Q86
theorem h_l0 (K:Nat) (x:Args ps) (r_l0:St→Option Res) (a:A_l0):ev K (sub body [1,1,1,1,1,0,1,0,0]) (S_l0 x a) (kLoop live_l0 r_l0 (k_l0 K x))=l0.step K x (fun a=>r_l0 (S_l0 x a)) a:=by kernel_rfl
theorem ok_l0 (K:Nat) (x:Args ps):N_l0 K x=l0 K x:=funext fun a=>evLoop_iter live_l0 (ev K (sub body [1,1,1,1,1,0,1,0,0])) (k_l0 K x) (S_l0 x) (fun rec a=>l0.step K x rec a) (fun r_l0 a=>(h_l0 K x r_l0 a)) K a
theorem eqn (K:Nat) (x:Args ps):evF (G K) T_S L K Tryz.f144 ps rs false x=f K x:=(show evF (G K) T_S L K Tryz.f144 ps rs false x=pre K (N_l0 K x) x by kernel_rfl).trans (by rw [ok_l0 K x]; rfl)
end Q86
namespace Q87
theorem eqn (K:Nat) (x:Args ps):evF (G K) T_S L K Tryz.f53 ps rs true x=f K x:=by kernel_rfl
end Q87
namespace Q88
theorem eqn (K:Nat) (x:Args ps):evF (G K) T_D L K Tryz.f111 ps rs true x=f K x:=by kernel_rfl
end Q88
namespace Q89
theorem eqn (K:Nat) (x:Args ps):evF (G K) T_D L K Tryz.f116 ps rs true x=f K x:=by kernel_rfl
end Q89
namespace Q90
theorem eqn (K:Nat) (x:Args ps):evF (G K) T_D L K Tryz.f170 ps rs true x=f K x:=by kernel_rfl
end Q90
namespace Q91
theorem h_l0 (K:Nat) (x:Args ps) (r_l0:St→Option Res) (a:A_l0):ev K (sub body [1,0,1,0,0]) (S_l0 x a) (kLoop live_l0 r_l0 (k_l0 K x))=l0.step K x (fun a=>r_l0 (S_l0 x a)) a:=by kernel_rfl
theorem ok_l0 (K:Nat) (x:Args ps):N_l0 K x=l0 K x:=funext fun a=>evLoop_iter live_l0 (ev K (sub body [1,0,1,0,0])) (k_l0 K x) (S_l0 x) (fun rec a=>l0.step K x rec a) (fun r_l0 a=>(h_l0 K x r_l0 a)) K a
theorem eqn (K:Nat) (x:Args ps):evF (G K) T_D L K Tryz.f206 ps rs true x=f K x:=(show evF (G K) T_D L K Tryz.f206 ps rs true x=pre K (N_l0 K x) x by kernel_rfl).trans (by rw [ok_l0 K x]; rfl)
end Q91
namespace Q92
theorem eqn (K:Nat) (x:Args ps):evF (G K) T_D L K Tryz.f141 ps rs true x=f K x:=by kernel_rfl
end Q92
namespace Q93
theorem eqn (K:Nat) (x:Args ps):evF (G K) T_D L K Tryz.f91 ps rs true x=f K x:=by kernel_rfl
end Q93
namespace Q94
theorem eqn (K:Nat) (x:Args ps):evF (G K) T_D L K Tryz.f183 ps rs true x=f K x:=by kernel_rfl
end Q94
namespace Q95
theorem eqn (K:Nat) (x:Args ps):evF (G K) T_D L K Tryz.f89 ps rs true x=f K x:=by kernel_rfl
end Q95
namespace Q96
theorem eqn (K:Nat) (x:Args ps):evF (G K) T_D L K Tryz.f90 ps rs true x=f K x:=by kernel_rfl
end Q96
namespace Q97
theorem eqn (K:Nat) (x:Args ps):evF (G K) T_D L K Tryz.f112 ps rs true x=f K x:=by kernel_rfl
end Q97
namespace Q98
theorem h_l0 (K:Nat) (x:Args ps) (r_l0:St→Option Res) (a:A_l0):ev K (sub body [1,0,1,0,0]) (S_l0 x a) (kLoop live_l0 r_l0 (k_l0 K x))=l0.step K x (fun a=>r_l0 (S_l0 x a)) a:=by kernel_rfl
theorem ok_l0 (K:Nat) (x:Args ps):N_l0 K x=l0 K x:=funext fun a=>evLoop_iter live_l0 (ev K (sub body [1,0,1,0,0])) (k_l0 K x) (S_l0 x) (fun rec a=>l0.step K x rec a) (fun r_l0 a=>(h_l0 K x r_l0 a)) K a
theorem eqn (K:Nat) (x:Args ps):evF (G K) T_D L K Tryz.f182 ps rs true x=f K x:=(show evF (G K) T_D L K Tryz.f182 ps rs true x=pre K (N_l0 K x) x by kernel_rfl).trans (by rw [ok_l0 K x]; rfl)
end Q98
namespace Q99
theorem h_l0 (K:Nat) (x:Args ps) (r_l0:St→Option Res) (a:A_l0):ev K (sub body [1,1,1,0,0,0]) (S_l0 x a) (kLoop live_l0 r_l0 (k_l0 K x))=l0.step K x (fun a=>r_l0 (S_l0 x a)) a:=by kernel_rfl
theorem ok_l0 (K:Nat) (x:Args ps):N_l0 K x=l0 K x:=funext fun a=>evLoop_iter live_l0 (ev K (sub body [1,1,1,0,0,0])) (k_l0 K x) (S_l0 x) (fun rec a=>l0.step K x rec a) (fun r_l0 a=>(h_l0 K x r_l0 a)) K a
theorem eqn (K:Nat) (x:Args ps):evF (G K) T_D L K Tryz.f293 ps rs true x=f K x:=(show evF (G K) T_D L K Tryz.f293 ps rs true x=pre K (N_l0 K x) x by kernel_rfl).trans (by rw [ok_l0 K x]; rfl)
end Q99
namespace Q100
theorem eqn (K:Nat) (x:Args ps):evF (G K) T_D L K Tryz.f193 ps rs true x=f K x:=by kernel_rfl
end Q100
namespace Q101
theorem eqn (K:Nat) (x:Args ps):evF (G K) T_D L K Tryz.f123 ps rs true x=f K x:=by kernel_rfl
end Q101
namespace Q102
theorem eqn (K:Nat) (x:Args ps):evF (G K) T_D L K Tryz.f294 ps rs true x=f K x:=by kernel_rfl
end Q102
namespace Q103
theorem eqn (K:Nat) (x:Args ps):evF (G K) T_D L K Tryz.f243 ps rs true x=f K x:=by kernel_rfl
end Q103
namespace Q104
theorem eqn (K:Nat) (x:Args ps):evF (G K) T_D L K Tryz.f194 ps rs true x=f K x:=by kernel_rfl
end Q104
namespace Q105
theorem h_l0 (K:Nat) (x:Args ps) (r_l0:St→Option Res) (a:A_l0):ev K (sub body [1,0,1,0,0]) (S_l0 x a) (kLoop live_l0 r_l0 (k_l0 K x))=l0.step K x (fun a=>r_l0 (S_l0 x a)) a:=by kernel_rfl
theorem ok_l0 (K:Nat) (x:Args ps):N_l0 K x=l0 K x:=funext fun a=>evLoop_iter live_l0 (ev K (sub body [1,0,1,0,0])) (k_l0 K x) (S_l0 x) (fun rec a=>l0.step K x rec a) (fun r_l0 a=>(h_l0 K x r_l0 a)) K a
theorem eqn (K:Nat) (x:Args ps):evF (G K) T_D L K Tryz.f290 ps rs true x=f K x:=(show evF (G K) T_D L K Tryz.f290 ps rs true x=pre K (N_l0 K x) x by kernel_rfl).trans (by rw [ok_l0 K x]; rfl)
end Q105
namespace Q106
theorem eqn (K:Nat) (x:Args ps):evF (G K) T_D L K Tryz.f234 ps rs true x=f K x:=by kernel_rfl
end Q106
namespace Q107
theorem eqn (K:Nat) (x:Args ps):evF (G K) T_D L K Tryz.f288 ps rs true x=f K x:=by kernel_rfl
end Q107
namespace Q108
theorem h_l0 (K:Nat) (x:Args ps) (r_l0:St→Option Res) (a:A_l0):ev K (sub body [1,1,0,1,0,0]) (S_l0 x a) (kLoop live_l0 r_l0 (k_l0 K x))=l0.step K x (fun a=>r_l0 (S_l0 x a)) a:=by kernel_rfl
theorem ok_l0 (K:Nat) (x:Args ps):N_l0 K x=l0 K x:=funext fun a=>evLoop_iter live_l0 (ev K (sub body [1,1,0,1,0,0])) (k_l0 K x) (S_l0 x) (fun rec a=>l0.step K x rec a) (fun r_l0 a=>(h_l0 K x r_l0 a)) K a
theorem eqn (K:Nat) (x:Args ps):evF (G K) T_D L K Tryz.f289 ps rs true x=f K x:=(show evF (G K) T_D L K Tryz.f289 ps rs true x=pre K (N_l0 K x) x by kernel_rfl).trans (by rw [ok_l0 K x]; rfl)
end Q108
namespace Q109
theorem eqn (K:Nat) (x:Args ps):evF (G K) T_D L K Tryz.f233 ps rs true x=f K x:=by kernel_rfl
end Q109
namespace Q110
theorem h_l0 (K:Nat) (x:Args ps) (r_l0:St→Option Res) (a:A_l0):ev K (sub body [1,1,0,1,0,0]) (S_l0 x a) (kLoop live_l0 r_l0 (k_l0 K x))=l0.step K x (fun a=>r_l0 (S_l0 x a)) a:=by kernel_rfl
theorem ok_l0 (K:Nat) (x:Args ps):N_l0 K x=l0 K x:=funext fun a=>evLoop_iter live_l0 (ev K (sub body [1,1,0,1,0,0])) (k_l0 K x) (S_l0 x) (fun rec a=>l0.step K x rec a) (fun r_l0 a=>(h_l0 K x r_l0 a)) K a
theorem eqn (K:Nat) (x:Args ps):evF (G K) T_D L K Tryz.f189 ps rs true x=f K x:=(show evF (G K) T_D L K Tryz.f189 ps rs true x=pre K (N_l0 K x) x by kernel_rfl).trans (by rw [ok_l0 K x]; rfl)
end Q110
namespace Q111
theorem eqn (K:Nat) (x:Args ps):evF (G K) T_D L K Tryz.f113 ps rs true x=f K x:=by kernel_rfl
end Q111
namespace Q112
theorem eqn (K:Nat) (x:Args ps):evF (G K) T_D L K Tryz.f236 ps rs true x=f K x:=by kernel_rfl
end Q112
namespace Q113
theorem eqn (K:Nat) (x:Args ps):evF (G K) T_D L K Tryz.f235 ps rs true x=f K x:=by kernel_rfl
end Q113
namespace Q114
theorem eqn (K:Nat) (x:Args ps):evF (G K) T_D L K Tryz.f171 ps rs true x=f K x:=by kernel_rfl
end Q114
namespace Q115
theorem eqn (K:Nat) (x:Args ps):evF (G K) T_D L K Tryz.f172 ps rs true x=f K x:=by kernel_rfl
end Q115
namespace Q116
theorem eqn (K:Nat) (x:Args ps):evF (G K) T_D L K Tryz.f88 ps rs true x=f K x:=by kernel_rfl
end Q116
namespace Q117
theorem h_l2 (K:Nat) (x:Args ps) (r_l1:St→Option Res) (r_l2:St→Option Res) (a:A_l2):ev K (sub body [1,1,1,1,0,1,0,0,1,1,0,0,1,1,1,0,0]) (S_l2 x a) (kLoop live_l2 r_l2 (k_l2 K x r_l1))=l2.step K x (fun a=>r_l1 (S_l1 x a)) (fun a=>r_l2 (S_l2 x a)) a:=by kernel_rfl
theorem ok_l2 (K:Nat) (x:Args ps) (r_l1:St→Option Res):N_l2 K x r_l1=l2 K x (fun a=>r_l1 (S_l1 x a)):=funext fun a=>evLoop_iter live_l2 (ev K (sub body [1,1,1,1,0,1,0,0,1,1,0,0,1,1,1,0,0])) (k_l2 K x r_l1) (S_l2 x) (fun rec a=>l2.step K x (fun a=>r_l1 (S_l1 x a)) rec a) (fun r_l2 a=>(h_l2 K x r_l1 r_l2 a)) K a
theorem h_l1 (K:Nat) (x:Args ps) (r_l1:St→Option Res) (a:A_l1):ev K (sub body [1,1,1,1,0,1,0,0]) (S_l1 x a) (kLoop live_l1 r_l1 (k_l1 K x))=l1.step K x (N_l2 K x r_l1) (fun a=>r_l1 (S_l1 x a)) a:=by kernel_rfl
theorem ok_l1 (K:Nat) (x:Args ps):N_l1 K x=l1 K x:=funext fun a=>evLoop_iter live_l1 (ev K (sub body [1,1,1,1,0,1,0,0])) (k_l1 K x) (S_l1 x) (fun rec a=>l1.step K x (l2 K x rec) rec a) (fun r_l1 a=>(h_l1 K x r_l1 a).trans (by rw [ok_l2 K x r_l1])) K a
theorem h_l0 (K:Nat) (x:Args ps) (r_l0:St→Option Res) (a:A_l0):ev K (sub body [1,1,0,1,0,0]) (S_l0 x a) (kLoop live_l0 r_l0 (k_l0 K x))=l0.step K x (N_l1 K x) (fun a=>r_l0 (S_l0 x a)) a:=by kernel_rfl
theorem ok_l0 (K:Nat) (x:Args ps):N_l0 K x=l0 K x:=funext fun a=>evLoop_iter live_l0 (ev K (sub body [1,1,0,1,0,0])) (k_l0 K x) (S_l0 x) (fun rec a=>l0.step K x (l1 K x) rec a) (fun r_l0 a=>(h_l0 K x r_l0 a).trans (by rw [ok_l1 K x])) K a
theorem eqn (K:Nat) (x:Args ps):evF (G K) T_D L K Tryz.f173 ps rs true x=f K x:=(show evF (G K) T_D L K Tryz.f173 ps rs true x=pre K (N_l0 K x) x by kernel_rfl).trans (by rw [ok_l0 K x]; rfl)
end Q117
namespace Q118
theorem eqn (K:Nat) (x:Args ps):evF (G K) T_D L K Tryz.f174 ps rs true x=f K x:=by kernel_rfl
end Q118
namespace Q119
theorem eqn (K:Nat) (x:Args ps):evF (G K) T_D L K Tryz.f199 ps rs true x=f K x:=by kernel_rfl
end Q119
namespace Q120
theorem eqn (K:Nat) (x:Args ps):evF (G K) T_D L K Tryz.f237 ps rs true x=f K x:=by kernel_rfl
end Q120
namespace Q121
theorem h_l0 (K:Nat) (x:Args ps) (r_l0:St→Option Res) (a:A_l0):ev K (sub body [1,0,1,0,0]) (S_l0 x a) (kLoop live_l0 r_l0 (k_l0 K x))=l0.step K x (fun a=>r_l0 (S_l0 x a)) a:=by kernel_rfl
theorem ok_l0 (K:Nat) (x:Args ps):N_l0 K x=l0 K x:=funext fun a=>evLoop_iter live_l0 (ev K (sub body [1,0,1,0,0])) (k_l0 K x) (S_l0 x) (fun rec a=>l0.step K x rec a) (fun r_l0 a=>(h_l0 K x r_l0 a)) K a
theorem eqn (K:Nat) (x:Args ps):evF (G K) T_D L K Tryz.f291 ps rs true x=f K x:=(show evF (G K) T_D L K Tryz.f291 ps rs true x=pre K (N_l0 K x) x by kernel_rfl).trans (by rw [ok_l0 K x]; rfl)
end Q121
namespace Q122
theorem eqn (K:Nat) (x:Args ps):evF (G K) T_D L K Tryz.f238 ps rs true x=f K x:=by kernel_rfl
end Q122
namespace Q123
theorem h_l0 (K:Nat) (x:Args ps) (r_l0:St→Option Res) (a:A_l0):ev K (sub body [1,1,0,1,0,0]) (S_l0 x a) (kLoop live_l0 r_l0 (k_l0 K x))=l0.step K x (fun a=>r_l0 (S_l0 x a)) a:=by kernel_rfl
theorem ok_l0 (K:Nat) (x:Args ps):N_l0 K x=l0 K x:=funext fun a=>evLoop_iter live_l0 (ev K (sub body [1,1,0,1,0,0])) (k_l0 K x) (S_l0 x) (fun rec a=>l0.step K x rec a) (fun r_l0 a=>(h_l0 K x r_l0 a)) K a
theorem eqn (K:Nat) (x:Args ps):evF (G K) T_D L K Tryz.f175 ps rs true x=f K x:=(show evF (G K) T_D L K Tryz.f175 ps rs true x=pre K (N_l0 K x) x by kernel_rfl).trans (by rw [ok_l0 K x]; rfl)
end Q123
namespace Q124
theorem h_l0 (K:Nat) (x:Args ps) (r_l0:St→Option Res) (a:A_l0):ev K (sub body [1,0,1,0,0]) (S_l0 x a) (kLoop live_l0 r_l0 (k_l0 K x))=l0.step K x (fun a=>r_l0 (S_l0 x a)) a:=by kernel_rfl
theorem ok_l0 (K:Nat) (x:Args ps):N_l0 K x=l0 K x:=funext fun a=>evLoop_iter live_l0 (ev K (sub body [1,0,1,0,0])) (k_l0 K x) (S_l0 x) (fun rec a=>l0.step K x rec a) (fun r_l0 a=>(h_l0 K x r_l0 a)) K a
theorem eqn (K:Nat) (x:Args ps):evF (G K) T_D L K Tryz.f176 ps rs true x=f K x:=(show evF (G K) T_D L K Tryz.f176 ps rs true x=pre K (N_l0 K x) x by kernel_rfl).trans (by rw [ok_l0 K x]; rfl)
end Q124
namespace Q125
theorem eqn (K:Nat) (x:Args ps):evF (G K) T_D L K Tryz.f76 ps rs true x=f K x:=by kernel_rfl
end Q125
namespace Q126
theorem eqn (K:Nat) (x:Args ps):evF (G K) T_D L K Tryz.f87 ps rs true x=f K x:=by kernel_rfl
end Q126
namespace Q127
theorem h_l0 (K:Nat) (x:Args ps) (r_l0:St→Option Res) (a:A_l0):ev K (sub body [1,1,0,1,0,0]) (S_l0 x a) (kLoop live_l0 r_l0 (k_l0 K x))=l0.step K x (fun a=>r_l0 (S_l0 x a)) a:=by kernel_rfl
theorem ok_l0 (K:Nat) (x:Args ps):N_l0 K x=l0 K x:=funext fun a=>evLoop_iter live_l0 (ev K (sub body [1,1,0,1,0,0])) (k_l0 K x) (S_l0 x) (fun rec a=>l0.step K x rec a) (fun r_l0 a=>(h_l0 K x r_l0 a)) K a
theorem eqn (K:Nat) (x:Args ps):evF (G K) T_D L K Tryz.f184 ps rs true x=f K x:=(show evF (G K) T_D L K Tryz.f184 ps rs true x=pre K (N_l0 K x) x by kernel_rfl).trans (by rw [ok_l0 K x]; rfl)
end Q127
namespace Q128
theorem eqn (K:Nat) (x:Args ps):evF (G K) T_D L K Tryz.f245 ps rs true x=f K x:=by kernel_rfl
end Q128
namespace Q129
theorem eqn (K:Nat) (x:Args ps):evF (G K) T_D L K Tryz.f200 ps rs true x=f K x:=by kernel_rfl
end Q129
namespace Q130
theorem eqn (K:Nat) (x:Args ps):evF (G K) T_D L K Tryz.f251 ps rs true x=f K x:=by kernel_rfl
end Q130
namespace Q131
theorem eqn (K:Nat) (x:Args ps):evF (G K) T_D L K Tryz.f252 ps rs true x=f K x:=by kernel_rfl
end Q131
namespace Q132
theorem h_l0 (K:Nat) (x:Args ps) (r_l0:St→Option Res) (a:A_l0):ev K (sub body [1,0,1,0,0]) (S_l0 x a) (kLoop live_l0 r_l0 (k_l0 K x))=l0.step K x (fun a=>r_l0 (S_l0 x a)) a:=by kernel_rfl
theorem ok_l0 (K:Nat) (x:Args ps):N_l0 K x=l0 K x:=funext fun a=>evLoop_iter live_l0 (ev K (sub body [1,0,1,0,0])) (k_l0 K x) (S_l0 x) (fun rec a=>l0.step K x rec a) (fun r_l0 a=>(h_l0 K x r_l0 a)) K a
theorem eqn (K:Nat) (x:Args ps):evF (G K) T_D L K Tryz.f307 ps rs true x=f K x:=(show evF (G K) T_D L K Tryz.f307 ps rs true x=pre K (N_l0 K x) x by kernel_rfl).trans (by rw [ok_l0 K x]; rfl)
end Q132
namespace Q133
theorem eqn (K:Nat) (x:Args ps):evF (G K) T_D L K Tryz.f254 ps rs true x=f K x:=by kernel_rfl
end Q133
namespace Q134
theorem h_l0 (K:Nat) (x:Args ps) (r_l0:St→Option Res) (a:A_l0):ev K (sub body [1,1,1,0,0,0]) (S_l0 x a) (kLoop live_l0 r_l0 (k_l0 K x))=l0.step K x (fun a=>r_l0 (S_l0 x a)) a:=by kernel_rfl
theorem ok_l0 (K:Nat) (x:Args ps):N_l0 K x=l0 K x:=funext fun a=>evLoop_iter live_l0 (ev K (sub body [1,1,1,0,0,0])) (k_l0 K x) (S_l0 x) (fun rec a=>l0.step K x rec a) (fun r_l0 a=>(h_l0 K x r_l0 a)) K a
theorem eqn (K:Nat) (x:Args ps):evF (G K) T_D L K Tryz.f255 ps rs true x=f K x:=(show evF (G K) T_D L K Tryz.f255 ps rs true x=pre K (N_l0 K x) x by kernel_rfl).trans (by rw [ok_l0 K x]; rfl)
end Q134
namespace Q135
theorem eqn (K:Nat) (x:Args ps):evF (G K) T_D L K Tryz.f256 ps rs true x=f K x:=by kernel_rfl
end Q135
namespace Q136
theorem eqn (K:Nat) (x:Args ps):evF (G K) T_D L K Tryz.f212 ps rs true x=f K x:=by kernel_rfl
end Q136
namespace Q137
theorem eqn (K:Nat) (x:Args ps):evF (G K) T_D L K Tryz.f124 ps rs true x=f K x:=by kernel_rfl
end Q137
namespace Q138
theorem eqn (K:Nat) (x:Args ps):evF (G K) T_D L K Tryz.f214 ps rs true x=f K x:=by kernel_rfl
end Q138
namespace Q139
theorem eqn (K:Nat) (x:Args ps):evF (G K) T_D L K Tryz.f213 ps rs true x=f K x:=by kernel_rfl
end Q139
namespace Q140
theorem h_l0 (K:Nat) (x:Args ps) (r_l0:St→Option Res) (a:A_l0):ev K (sub body [1,1,1,1,1,0,1,0,0]) (S_l0 x a) (kLoop live_l0 r_l0 (k_l0 K x))=l0.step K x (fun a=>r_l0 (S_l0 x a)) a:=by kernel_rfl
theorem ok_l0 (K:Nat) (x:Args ps):N_l0 K x=l0 K x:=funext fun a=>evLoop_iter live_l0 (ev K (sub body [1,1,1,1,1,0,1,0,0])) (k_l0 K x) (S_l0 x) (fun rec a=>l0.step K x rec a) (fun r_l0 a=>(h_l0 K x r_l0 a)) K a
theorem eqn (K:Nat) (x:Args ps):evF (G K) T_D L K Tryz.f145 ps rs true x=f K x:=(show evF (G K) T_D L K Tryz.f145 ps rs true x=pre K (N_l0 K x) x by kernel_rfl).trans (by rw [ok_l0 K x]; rfl)
end Q140
namespace Q141
theorem h_l2 (K:Nat) (x:Args ps) (r_l2:St→Option Res) (a:A_l2):ev K (sub body [1,1,1,1,1,1,0,1,0,0]) (S_l2 x a) (kLoop live_l2 r_l2 (k_l2 K x))=l2.step K x (fun a=>r_l2 (S_l2 x a)) a:=by kernel_rfl
theorem ok_l2 (K:Nat) (x:Args ps):N_l2 K x=l2 K x:=funext fun a=>evLoop_iter live_l2 (ev K (sub body [1,1,1,1,1,1,0,1,0,0])) (k_l2 K x) (S_l2 x) (fun rec a=>l2.step K x rec a) (fun r_l2 a=>(h_l2 K x r_l2 a)) K a
theorem h_l1 (K:Nat) (x:Args ps) (r_l1:St→Option Res) (a:A_l1):ev K (sub body [1,1,1,1,0,1,0,0]) (S_l1 x a) (kLoop live_l1 r_l1 (k_l1 K x))=l1.step K x (N_l2 K x) (fun a=>r_l1 (S_l1 x a)) a:=by kernel_rfl
theorem ok_l1 (K:Nat) (x:Args ps):N_l1 K x=l1 K x:=funext fun a=>evLoop_iter live_l1 (ev K (sub body [1,1,1,1,0,1,0,0])) (k_l1 K x) (S_l1 x) (fun rec a=>l1.step K x (l2 K x) rec a) (fun r_l1 a=>(h_l1 K x r_l1 a).trans (by rw [ok_l2 K x])) K a
theorem h_l0 (K:Nat) (x:Args ps) (r_l0:St→Option Res) (a:A_l0):ev K (sub body [1,1,0,1,0,0]) (S_l0 x a) (kLoop live_l0 r_l0 (k_l0 K x))=l0.step K x (N_l1 K x) (fun a=>r_l0 (S_l0 x a)) a:=by kernel_rfl
theorem ok_l0 (K:Nat) (x:Args ps):N_l0 K x=l0 K x:=funext fun a=>evLoop_iter live_l0 (ev K (sub body [1,1,0,1,0,0])) (k_l0 K x) (S_l0 x) (fun rec a=>l0.step K x (l1 K x) rec a) (fun r_l0 a=>(h_l0 K x r_l0 a).trans (by rw [ok_l1 K x])) K a
theorem eqn (K:Nat) (x:Args ps):evF (G K) T_D L K Tryz.f197 ps rs true x=f K x:=(show evF (G K) T_D L K Tryz.f197 ps rs true x=pre K (N_l0 K x) x by kernel_rfl).trans (by rw [ok_l0 K x]; rfl)
end Q141
namespace Q142
theorem eqn (K:Nat) (x:Args ps):evF (G K) T_D L K Tryz.f198 ps rs true x=f K x:=by kernel_rfl
end Q142
namespace Q143
theorem eqn (K:Nat) (x:Args ps):evF (G K) T_D L K Tryz.f128 ps rs true x=f K x:=by kernel_rfl
end Q143
namespace Q144
theorem eqn (K:Nat) (x:Args ps):evF (G K) T_D L K Tryz.f54 ps rs true x=f K x:=by kernel_rfl
end Q144
namespace Q145
theorem eqn (K:Nat) (x:Args ps):evF (G K) T_D L K Tryz.f12 ps rs true x=f K x:=by kernel_rfl
end Q145
end Go.Proofs.YthgnfidnmnkeaaaGreatEv
