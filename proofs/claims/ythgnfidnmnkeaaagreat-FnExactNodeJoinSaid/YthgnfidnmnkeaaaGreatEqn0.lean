/- The kernel finds them so. Printed by run3.py. -/
import Derived.Test.YthgnfidnmnkeaaaGreatFns
set_option linter.unusedVariables false
set_option maxRecDepth 100000
namespace Go.Proofs.YthgnfidnmnkeaaaGreatEv
open Go Go.Proofs
namespace laws_szFactS
theorem eqn (K : Nat) (x : Args ps) : evF (G K) T_D L K Tryz.f60 ps rs true x = f K x := by kernel_rfl
end laws_szFactS
namespace laws_szItemS
theorem eqn (K : Nat) (x : Args ps) : evF (G K) T_D L K Tryz.f61 ps rs true x = f K x := by kernel_rfl
end laws_szItemS
namespace laws_szIntS
theorem eqn (K : Nat) (x : Args ps) : evF (G K) T_D L K Tryz.f102 ps rs true x = f K x := by kernel_rfl
end laws_szIntS
namespace laws_szDoubt
theorem eqn (K : Nat) (x : Args ps) : evF (G K) T_D L K Tryz.f152 ps rs true x = f K x := by kernel_rfl
end laws_szDoubt
namespace laws_szDoubtS
theorem h_l0 (K : Nat) (x : Args ps) (r_l0 : St → Option Res) (a : A_l0) : ev K (sub body [1, 1, 1, 0, 1, 0, 0]) (S_l0 x a) (kLoop live_l0 r_l0 (k_l0 K x)) = l0.step K x (fun a => r_l0 (S_l0 x a)) a := by kernel_rfl
theorem ok_l0 (K : Nat) (x : Args ps) : N_l0 K x = l0 K x := funext fun a => evLoop_iter live_l0 (ev K (sub body [1, 1, 1, 0, 1, 0, 0])) (k_l0 K x) (S_l0 x) (fun rec a => l0.step K x rec a) (fun r_l0 a => (h_l0 K x r_l0 a)) K a
theorem eqn (K : Nat) (x : Args ps) : evF (G K) T_D L K Tryz.f62 ps rs true x = f K x := (show evF (G K) T_D L K Tryz.f62 ps rs true x = pre K (N_l0 K x) x by kernel_rfl).trans (by rw [ok_l0 K x]; rfl)
end laws_szDoubtS
namespace laws_szPlace
theorem eqn (K : Nat) (x : Args ps) : evF (G K) T_D L K Tryz.f153 ps rs true x = f K x := by kernel_rfl
end laws_szPlace
namespace laws_szPlaceS
theorem h_l0 (K : Nat) (x : Args ps) (r_l0 : St → Option Res) (a : A_l0) : ev K (sub body [1, 1, 1, 0, 1, 0, 0]) (S_l0 x a) (kLoop live_l0 r_l0 (k_l0 K x)) = l0.step K x (fun a => r_l0 (S_l0 x a)) a := by kernel_rfl
theorem ok_l0 (K : Nat) (x : Args ps) : N_l0 K x = l0 K x := funext fun a => evLoop_iter live_l0 (ev K (sub body [1, 1, 1, 0, 1, 0, 0])) (k_l0 K x) (S_l0 x) (fun rec a => l0.step K x rec a) (fun r_l0 a => (h_l0 K x r_l0 a)) K a
theorem eqn (K : Nat) (x : Args ps) : evF (G K) T_D L K Tryz.f63 ps rs true x = f K x := (show evF (G K) T_D L K Tryz.f63 ps rs true x = pre K (N_l0 K x) x by kernel_rfl).trans (by rw [ok_l0 K x]; rfl)
end laws_szPlaceS
namespace laws_szForeign
theorem eqn (K : Nat) (x : Args ps) : evF (G K) T_D L K Tryz.f154 ps rs true x = f K x := by kernel_rfl
end laws_szForeign
namespace laws_szForeignS
theorem h_l0 (K : Nat) (x : Args ps) (r_l0 : St → Option Res) (a : A_l0) : ev K (sub body [1, 1, 1, 0, 1, 0, 0]) (S_l0 x a) (kLoop live_l0 r_l0 (k_l0 K x)) = l0.step K x (fun a => r_l0 (S_l0 x a)) a := by kernel_rfl
theorem ok_l0 (K : Nat) (x : Args ps) : N_l0 K x = l0 K x := funext fun a => evLoop_iter live_l0 (ev K (sub body [1, 1, 1, 0, 1, 0, 0])) (k_l0 K x) (S_l0 x) (fun rec a => l0.step K x rec a) (fun r_l0 a => (h_l0 K x r_l0 a)) K a
theorem eqn (K : Nat) (x : Args ps) : evF (G K) T_D L K Tryz.f64 ps rs true x = f K x := (show evF (G K) T_D L K Tryz.f64 ps rs true x = pre K (N_l0 K x) x by kernel_rfl).trans (by rw [ok_l0 K x]; rfl)
end laws_szForeignS
namespace laws_szNode
theorem eqn (K : Nat) (x : Args ps) : evF (G K) T_D L K Tryz.f15 ps rs true x = f K x := by kernel_rfl
end laws_szNode
namespace laws_toFact
theorem eqn (K : Nat) (x : Args ps) : evF (G K) T_D L K Tryz.f165 ps rs true x = f K x := by kernel_rfl
end laws_toFact
namespace laws_toFactS
theorem h_l0 (K : Nat) (x : Args ps) (r_l0 : St → Option Res) (a : A_l0) : ev K (sub body [1, 1, 0, 1, 0, 0]) (S_l0 x a) (kLoop live_l0 r_l0 (k_l0 K x)) = l0.step K x (fun a => r_l0 (S_l0 x a)) a := by kernel_rfl
theorem ok_l0 (K : Nat) (x : Args ps) : N_l0 K x = l0 K x := funext fun a => evLoop_iter live_l0 (ev K (sub body [1, 1, 0, 1, 0, 0])) (k_l0 K x) (S_l0 x) (fun rec a => l0.step K x rec a) (fun r_l0 a => (h_l0 K x r_l0 a)) K a
theorem eqn (K : Nat) (x : Args ps) : evF (G K) T_D L K Tryz.f67 ps rs true x = f K x := (show evF (G K) T_D L K Tryz.f67 ps rs true x = pre K (N_l0 K x) x by kernel_rfl).trans (by rw [ok_l0 K x]; rfl)
end laws_toFactS
namespace laws_toItem
theorem eqn (K : Nat) (x : Args ps) : evF (G K) T_D L K Tryz.f166 ps rs true x = f K x := by kernel_rfl
end laws_toItem
namespace laws_toItemS
theorem h_l0 (K : Nat) (x : Args ps) (r_l0 : St → Option Res) (a : A_l0) : ev K (sub body [1, 1, 0, 1, 0, 0]) (S_l0 x a) (kLoop live_l0 r_l0 (k_l0 K x)) = l0.step K x (fun a => r_l0 (S_l0 x a)) a := by kernel_rfl
theorem ok_l0 (K : Nat) (x : Args ps) : N_l0 K x = l0 K x := funext fun a => evLoop_iter live_l0 (ev K (sub body [1, 1, 0, 1, 0, 0])) (k_l0 K x) (S_l0 x) (fun rec a => l0.step K x rec a) (fun r_l0 a => (h_l0 K x r_l0 a)) K a
theorem eqn (K : Nat) (x : Args ps) : evF (G K) T_D L K Tryz.f68 ps rs true x = f K x := (show evF (G K) T_D L K Tryz.f68 ps rs true x = pre K (N_l0 K x) x by kernel_rfl).trans (by rw [ok_l0 K x]; rfl)
end laws_toItemS
namespace laws_toProbe
theorem eqn (K : Nat) (x : Args ps) : evF (G K) T_D L K Tryz.f69 ps rs true x = f K x := by kernel_rfl
end laws_toProbe
namespace laws_toIntS
theorem h_l0 (K : Nat) (x : Args ps) (r_l0 : St → Option Res) (a : A_l0) : ev K (sub body [1, 1, 0, 1, 0, 0]) (S_l0 x a) (kLoop live_l0 r_l0 (k_l0 K x)) = l0.step K x (fun a => r_l0 (S_l0 x a)) a := by kernel_rfl
theorem ok_l0 (K : Nat) (x : Args ps) : N_l0 K x = l0 K x := funext fun a => evLoop_iter live_l0 (ev K (sub body [1, 1, 0, 1, 0, 0])) (k_l0 K x) (S_l0 x) (fun rec a => l0.step K x rec a) (fun r_l0 a => (h_l0 K x r_l0 a)) K a
theorem eqn (K : Nat) (x : Args ps) : evF (G K) T_D L K Tryz.f109 ps rs true x = f K x := (show evF (G K) T_D L K Tryz.f109 ps rs true x = pre K (N_l0 K x) x by kernel_rfl).trans (by rw [ok_l0 K x]; rfl)
end laws_toIntS
namespace laws_toDoubt
theorem eqn (K : Nat) (x : Args ps) : evF (G K) T_D L K Tryz.f167 ps rs true x = f K x := by kernel_rfl
end laws_toDoubt
namespace laws_toDoubtS
theorem h_l0 (K : Nat) (x : Args ps) (r_l0 : St → Option Res) (a : A_l0) : ev K (sub body [1, 1, 0, 1, 0, 0]) (S_l0 x a) (kLoop live_l0 r_l0 (k_l0 K x)) = l0.step K x (fun a => r_l0 (S_l0 x a)) a := by kernel_rfl
theorem ok_l0 (K : Nat) (x : Args ps) : N_l0 K x = l0 K x := funext fun a => evLoop_iter live_l0 (ev K (sub body [1, 1, 0, 1, 0, 0])) (k_l0 K x) (S_l0 x) (fun rec a => l0.step K x rec a) (fun r_l0 a => (h_l0 K x r_l0 a)) K a
theorem eqn (K : Nat) (x : Args ps) : evF (G K) T_D L K Tryz.f70 ps rs true x = f K x := (show evF (G K) T_D L K Tryz.f70 ps rs true x = pre K (N_l0 K x) x by kernel_rfl).trans (by rw [ok_l0 K x]; rfl)
end laws_toDoubtS
namespace laws_toCoord
theorem eqn (K : Nat) (x : Args ps) : evF (G K) T_D L K Tryz.f71 ps rs true x = f K x := by kernel_rfl
end laws_toCoord
namespace laws_toPlace
theorem eqn (K : Nat) (x : Args ps) : evF (G K) T_D L K Tryz.f168 ps rs true x = f K x := by kernel_rfl
end laws_toPlace
namespace laws_toPlaceS
theorem h_l0 (K : Nat) (x : Args ps) (r_l0 : St → Option Res) (a : A_l0) : ev K (sub body [1, 1, 0, 1, 0, 0]) (S_l0 x a) (kLoop live_l0 r_l0 (k_l0 K x)) = l0.step K x (fun a => r_l0 (S_l0 x a)) a := by kernel_rfl
theorem ok_l0 (K : Nat) (x : Args ps) : N_l0 K x = l0 K x := funext fun a => evLoop_iter live_l0 (ev K (sub body [1, 1, 0, 1, 0, 0])) (k_l0 K x) (S_l0 x) (fun rec a => l0.step K x rec a) (fun r_l0 a => (h_l0 K x r_l0 a)) K a
theorem eqn (K : Nat) (x : Args ps) : evF (G K) T_D L K Tryz.f72 ps rs true x = f K x := (show evF (G K) T_D L K Tryz.f72 ps rs true x = pre K (N_l0 K x) x by kernel_rfl).trans (by rw [ok_l0 K x]; rfl)
end laws_toPlaceS
namespace laws_toForeign
theorem eqn (K : Nat) (x : Args ps) : evF (G K) T_D L K Tryz.f169 ps rs true x = f K x := by kernel_rfl
end laws_toForeign
namespace laws_toForeignS
theorem h_l0 (K : Nat) (x : Args ps) (r_l0 : St → Option Res) (a : A_l0) : ev K (sub body [1, 1, 0, 1, 0, 0]) (S_l0 x a) (kLoop live_l0 r_l0 (k_l0 K x)) = l0.step K x (fun a => r_l0 (S_l0 x a)) a := by kernel_rfl
theorem ok_l0 (K : Nat) (x : Args ps) : N_l0 K x = l0 K x := funext fun a => evLoop_iter live_l0 (ev K (sub body [1, 1, 0, 1, 0, 0])) (k_l0 K x) (S_l0 x) (fun rec a => l0.step K x rec a) (fun r_l0 a => (h_l0 K x r_l0 a)) K a
theorem eqn (K : Nat) (x : Args ps) : evF (G K) T_D L K Tryz.f73 ps rs true x = f K x := (show evF (G K) T_D L K Tryz.f73 ps rs true x = pre K (N_l0 K x) x by kernel_rfl).trans (by rw [ok_l0 K x]; rfl)
end laws_toForeignS
namespace laws_toNode
theorem eqn (K : Nat) (x : Args ps) : evF (G K) T_D L K Tryz.f17 ps rs true x = f K x := by kernel_rfl
end laws_toNode
namespace laws_eqFact
theorem eqn (K : Nat) (x : Args ps) : evF (G K) T_D L K Tryz.f136 ps rs true x = f K x := by kernel_rfl
end laws_eqFact
namespace laws_eqFactS
theorem h_l0 (K : Nat) (x : Args ps) (r_l0 : St → Option Res) (a : A_l0) : ev K (sub body [1, 1, 0, 1, 0, 0]) (S_l0 x a) (kLoop live_l0 r_l0 (k_l0 K x)) = l0.step K x (fun a => r_l0 (S_l0 x a)) a := by kernel_rfl
theorem ok_l0 (K : Nat) (x : Args ps) : N_l0 K x = l0 K x := funext fun a => evLoop_iter live_l0 (ev K (sub body [1, 1, 0, 1, 0, 0])) (k_l0 K x) (S_l0 x) (fun rec a => l0.step K x rec a) (fun r_l0 a => (h_l0 K x r_l0 a)) K a
theorem eqn (K : Nat) (x : Args ps) : evF (G K) T_D L K Tryz.f46 ps rs true x = f K x := (show evF (G K) T_D L K Tryz.f46 ps rs true x = pre K (N_l0 K x) x by kernel_rfl).trans (by rw [ok_l0 K x]; rfl)
end laws_eqFactS
namespace laws_eqItem
theorem eqn (K : Nat) (x : Args ps) : evF (G K) T_D L K Tryz.f178 ps rs true x = f K x := by kernel_rfl
end laws_eqItem
namespace laws_eqItemS
theorem h_l0 (K : Nat) (x : Args ps) (r_l0 : St → Option Res) (a : A_l0) : ev K (sub body [1, 1, 0, 1, 0, 0]) (S_l0 x a) (kLoop live_l0 r_l0 (k_l0 K x)) = l0.step K x (fun a => r_l0 (S_l0 x a)) a := by kernel_rfl
theorem ok_l0 (K : Nat) (x : Args ps) : N_l0 K x = l0 K x := funext fun a => evLoop_iter live_l0 (ev K (sub body [1, 1, 0, 1, 0, 0])) (k_l0 K x) (S_l0 x) (fun rec a => l0.step K x rec a) (fun r_l0 a => (h_l0 K x r_l0 a)) K a
theorem eqn (K : Nat) (x : Args ps) : evF (G K) T_D L K Tryz.f78 ps rs true x = f K x := (show evF (G K) T_D L K Tryz.f78 ps rs true x = pre K (N_l0 K x) x by kernel_rfl).trans (by rw [ok_l0 K x]; rfl)
end laws_eqItemS
namespace laws_eqProbe
theorem eqn (K : Nat) (x : Args ps) : evF (G K) T_D L K Tryz.f79 ps rs true x = f K x := by kernel_rfl
end laws_eqProbe
namespace laws_eqIntS
theorem h_l0 (K : Nat) (x : Args ps) (r_l0 : St → Option Res) (a : A_l0) : ev K (sub body [1, 1, 0, 1, 0, 0]) (S_l0 x a) (kLoop live_l0 r_l0 (k_l0 K x)) = l0.step K x (fun a => r_l0 (S_l0 x a)) a := by kernel_rfl
theorem ok_l0 (K : Nat) (x : Args ps) : N_l0 K x = l0 K x := funext fun a => evLoop_iter live_l0 (ev K (sub body [1, 1, 0, 1, 0, 0])) (k_l0 K x) (S_l0 x) (fun rec a => l0.step K x rec a) (fun r_l0 a => (h_l0 K x r_l0 a)) K a
theorem eqn (K : Nat) (x : Args ps) : evF (G K) T_D L K Tryz.f27 ps rs true x = f K x := (show evF (G K) T_D L K Tryz.f27 ps rs true x = pre K (N_l0 K x) x by kernel_rfl).trans (by rw [ok_l0 K x]; rfl)
end laws_eqIntS
namespace laws_eqDoubt
theorem eqn (K : Nat) (x : Args ps) : evF (G K) T_D L K Tryz.f179 ps rs true x = f K x := by kernel_rfl
end laws_eqDoubt
namespace laws_eqDoubtS
theorem h_l0 (K : Nat) (x : Args ps) (r_l0 : St → Option Res) (a : A_l0) : ev K (sub body [1, 1, 0, 1, 0, 0]) (S_l0 x a) (kLoop live_l0 r_l0 (k_l0 K x)) = l0.step K x (fun a => r_l0 (S_l0 x a)) a := by kernel_rfl
theorem ok_l0 (K : Nat) (x : Args ps) : N_l0 K x = l0 K x := funext fun a => evLoop_iter live_l0 (ev K (sub body [1, 1, 0, 1, 0, 0])) (k_l0 K x) (S_l0 x) (fun rec a => l0.step K x rec a) (fun r_l0 a => (h_l0 K x r_l0 a)) K a
theorem eqn (K : Nat) (x : Args ps) : evF (G K) T_D L K Tryz.f80 ps rs true x = f K x := (show evF (G K) T_D L K Tryz.f80 ps rs true x = pre K (N_l0 K x) x by kernel_rfl).trans (by rw [ok_l0 K x]; rfl)
end laws_eqDoubtS
namespace laws_eqCoord
theorem eqn (K : Nat) (x : Args ps) : evF (G K) T_D L K Tryz.f81 ps rs true x = f K x := by kernel_rfl
end laws_eqCoord
namespace laws_eqPlace
theorem eqn (K : Nat) (x : Args ps) : evF (G K) T_D L K Tryz.f180 ps rs true x = f K x := by kernel_rfl
end laws_eqPlace
namespace laws_eqPlaceS
theorem h_l0 (K : Nat) (x : Args ps) (r_l0 : St → Option Res) (a : A_l0) : ev K (sub body [1, 1, 0, 1, 0, 0]) (S_l0 x a) (kLoop live_l0 r_l0 (k_l0 K x)) = l0.step K x (fun a => r_l0 (S_l0 x a)) a := by kernel_rfl
theorem ok_l0 (K : Nat) (x : Args ps) : N_l0 K x = l0 K x := funext fun a => evLoop_iter live_l0 (ev K (sub body [1, 1, 0, 1, 0, 0])) (k_l0 K x) (S_l0 x) (fun rec a => l0.step K x rec a) (fun r_l0 a => (h_l0 K x r_l0 a)) K a
theorem eqn (K : Nat) (x : Args ps) : evF (G K) T_D L K Tryz.f82 ps rs true x = f K x := (show evF (G K) T_D L K Tryz.f82 ps rs true x = pre K (N_l0 K x) x by kernel_rfl).trans (by rw [ok_l0 K x]; rfl)
end laws_eqPlaceS
namespace laws_eqForeign
theorem eqn (K : Nat) (x : Args ps) : evF (G K) T_D L K Tryz.f181 ps rs true x = f K x := by kernel_rfl
end laws_eqForeign
namespace laws_eqForeignS
theorem h_l0 (K : Nat) (x : Args ps) (r_l0 : St → Option Res) (a : A_l0) : ev K (sub body [1, 1, 0, 1, 0, 0]) (S_l0 x a) (kLoop live_l0 r_l0 (k_l0 K x)) = l0.step K x (fun a => r_l0 (S_l0 x a)) a := by kernel_rfl
theorem ok_l0 (K : Nat) (x : Args ps) : N_l0 K x = l0 K x := funext fun a => evLoop_iter live_l0 (ev K (sub body [1, 1, 0, 1, 0, 0])) (k_l0 K x) (S_l0 x) (fun rec a => l0.step K x rec a) (fun r_l0 a => (h_l0 K x r_l0 a)) K a
theorem eqn (K : Nat) (x : Args ps) : evF (G K) T_D L K Tryz.f83 ps rs true x = f K x := (show evF (G K) T_D L K Tryz.f83 ps rs true x = pre K (N_l0 K x) x by kernel_rfl).trans (by rw [ok_l0 K x]; rfl)
end laws_eqForeignS
namespace laws_eqNode
theorem eqn (K : Nat) (x : Args ps) : evF (G K) T_D L K Tryz.f19 ps rs true x = f K x := by kernel_rfl
end laws_eqNode
namespace laws_markFactS
theorem h_l0 (K : Nat) (x : Args ps) (r_l0 : St → Option Res) (a : A_l0) : ev K (sub body [1, 0, 1, 0, 0]) (S_l0 x a) (kLoop live_l0 r_l0 (k_l0 K x)) = l0.step K x (fun a => r_l0 (S_l0 x a)) a := by kernel_rfl
theorem ok_l0 (K : Nat) (x : Args ps) : N_l0 K x = l0 K x := funext fun a => evLoop_iter live_l0 (ev K (sub body [1, 0, 1, 0, 0])) (k_l0 K x) (S_l0 x) (fun rec a => l0.step K x rec a) (fun r_l0 a => (h_l0 K x r_l0 a)) K a
theorem eqn (K : Nat) (x : Args ps) : evF (G K) T_D L K Tryz.f47 ps rs true x = f K x := (show evF (G K) T_D L K Tryz.f47 ps rs true x = pre K (N_l0 K x) x by kernel_rfl).trans (by rw [ok_l0 K x]; rfl)
end laws_markFactS
namespace laws_markItemS
theorem h_l0 (K : Nat) (x : Args ps) (r_l0 : St → Option Res) (a : A_l0) : ev K (sub body [1, 0, 1, 0, 0]) (S_l0 x a) (kLoop live_l0 r_l0 (k_l0 K x)) = l0.step K x (fun a => r_l0 (S_l0 x a)) a := by kernel_rfl
theorem ok_l0 (K : Nat) (x : Args ps) : N_l0 K x = l0 K x := funext fun a => evLoop_iter live_l0 (ev K (sub body [1, 0, 1, 0, 0])) (k_l0 K x) (S_l0 x) (fun rec a => l0.step K x rec a) (fun r_l0 a => (h_l0 K x r_l0 a)) K a
theorem eqn (K : Nat) (x : Args ps) : evF (G K) T_D L K Tryz.f96 ps rs true x = f K x := (show evF (G K) T_D L K Tryz.f96 ps rs true x = pre K (N_l0 K x) x by kernel_rfl).trans (by rw [ok_l0 K x]; rfl)
end laws_markItemS
namespace laws_markIntS
theorem h_l0 (K : Nat) (x : Args ps) (r_l0 : St → Option Res) (a : A_l0) : ev K (sub body [1, 0, 1, 0, 0]) (S_l0 x a) (kLoop live_l0 r_l0 (k_l0 K x)) = l0.step K x (fun a => r_l0 (S_l0 x a)) a := by kernel_rfl
theorem ok_l0 (K : Nat) (x : Args ps) : N_l0 K x = l0 K x := funext fun a => evLoop_iter live_l0 (ev K (sub body [1, 0, 1, 0, 0])) (k_l0 K x) (S_l0 x) (fun rec a => l0.step K x rec a) (fun r_l0 a => (h_l0 K x r_l0 a)) K a
theorem eqn (K : Nat) (x : Args ps) : evF (G K) T_D L K Tryz.f29 ps rs true x = f K x := (show evF (G K) T_D L K Tryz.f29 ps rs true x = pre K (N_l0 K x) x by kernel_rfl).trans (by rw [ok_l0 K x]; rfl)
end laws_markIntS
namespace laws_markDoubtS
theorem h_l0 (K : Nat) (x : Args ps) (r_l0 : St → Option Res) (a : A_l0) : ev K (sub body [1, 0, 1, 0, 0]) (S_l0 x a) (kLoop live_l0 r_l0 (k_l0 K x)) = l0.step K x (fun a => r_l0 (S_l0 x a)) a := by kernel_rfl
theorem ok_l0 (K : Nat) (x : Args ps) : N_l0 K x = l0 K x := funext fun a => evLoop_iter live_l0 (ev K (sub body [1, 0, 1, 0, 0])) (k_l0 K x) (S_l0 x) (fun rec a => l0.step K x rec a) (fun r_l0 a => (h_l0 K x r_l0 a)) K a
theorem eqn (K : Nat) (x : Args ps) : evF (G K) T_D L K Tryz.f97 ps rs true x = f K x := (show evF (G K) T_D L K Tryz.f97 ps rs true x = pre K (N_l0 K x) x by kernel_rfl).trans (by rw [ok_l0 K x]; rfl)
end laws_markDoubtS
namespace laws_markPlaceS
theorem h_l0 (K : Nat) (x : Args ps) (r_l0 : St → Option Res) (a : A_l0) : ev K (sub body [1, 0, 1, 0, 0]) (S_l0 x a) (kLoop live_l0 r_l0 (k_l0 K x)) = l0.step K x (fun a => r_l0 (S_l0 x a)) a := by kernel_rfl
theorem ok_l0 (K : Nat) (x : Args ps) : N_l0 K x = l0 K x := funext fun a => evLoop_iter live_l0 (ev K (sub body [1, 0, 1, 0, 0])) (k_l0 K x) (S_l0 x) (fun rec a => l0.step K x rec a) (fun r_l0 a => (h_l0 K x r_l0 a)) K a
theorem eqn (K : Nat) (x : Args ps) : evF (G K) T_D L K Tryz.f98 ps rs true x = f K x := (show evF (G K) T_D L K Tryz.f98 ps rs true x = pre K (N_l0 K x) x by kernel_rfl).trans (by rw [ok_l0 K x]; rfl)
end laws_markPlaceS
namespace laws_markForeignS
theorem h_l0 (K : Nat) (x : Args ps) (r_l0 : St → Option Res) (a : A_l0) : ev K (sub body [1, 0, 1, 0, 0]) (S_l0 x a) (kLoop live_l0 r_l0 (k_l0 K x)) = l0.step K x (fun a => r_l0 (S_l0 x a)) a := by kernel_rfl
theorem ok_l0 (K : Nat) (x : Args ps) : N_l0 K x = l0 K x := funext fun a => evLoop_iter live_l0 (ev K (sub body [1, 0, 1, 0, 0])) (k_l0 K x) (S_l0 x) (fun rec a => l0.step K x rec a) (fun r_l0 a => (h_l0 K x r_l0 a)) K a
theorem eqn (K : Nat) (x : Args ps) : evF (G K) T_D L K Tryz.f99 ps rs true x = f K x := (show evF (G K) T_D L K Tryz.f99 ps rs true x = pre K (N_l0 K x) x by kernel_rfl).trans (by rw [ok_l0 K x]; rfl)
end laws_markForeignS
namespace laws_markNode
theorem eqn (K : Nat) (x : Args ps) : evF (G K) T_D L K Tryz.f28 ps rs true x = f K x := by kernel_rfl
end laws_markNode
namespace spec_l21Site
theorem eqn (K : Nat) (x : Args ps) : evF (G K) T_S L K Tryz.f92 ps rs true x = f K x := by kernel_rfl
end spec_l21Site
namespace spec_l1In
theorem eqn (K : Nat) (x : Args ps) : evF (G K) T_S L K Tryz.f104 ps rs true x = f K x := by kernel_rfl
end spec_l1In
namespace spec_FactOk
theorem eqn (K : Nat) (x : Args ps) : evF (G K) T_S L K Tryz.f105 ps rs true x = f K x := by kernel_rfl
end spec_FactOk
namespace spec_TableOk
theorem h_l0 (K : Nat) (x : Args ps) (r_l0 : St → Option Res) (a : A_l0) : ev K (sub body [1, 0, 1, 0, 0]) (S_l0 x a) (kLoop live_l0 r_l0 (k_l0 K x)) = l0.step K x (fun a => r_l0 (S_l0 x a)) a := by kernel_rfl
theorem ok_l0 (K : Nat) (x : Args ps) : N_l0 K x = l0 K x := funext fun a => evLoop_iter live_l0 (ev K (sub body [1, 0, 1, 0, 0])) (k_l0 K x) (S_l0 x) (fun rec a => l0.step K x rec a) (fun r_l0 a => (h_l0 K x r_l0 a)) K a
theorem eqn (K : Nat) (x : Args ps) : evF (G K) T_S L K Tryz.f155 ps rs true x = f K x := (show evF (G K) T_S L K Tryz.f155 ps rs true x = pre K (N_l0 K x) x by kernel_rfl).trans (by rw [ok_l0 K x]; rfl)
end spec_TableOk
namespace spec_l4Site
theorem h_l0 (K : Nat) (x : Args ps) (r_l0 : St → Option Res) (a : A_l0) : ev K (sub body [1, 0, 1, 0, 0]) (S_l0 x a) (kLoop live_l0 r_l0 (k_l0 K x)) = l0.step K x (fun a => r_l0 (S_l0 x a)) a := by kernel_rfl
theorem ok_l0 (K : Nat) (x : Args ps) : N_l0 K x = l0 K x := funext fun a => evLoop_iter live_l0 (ev K (sub body [1, 0, 1, 0, 0])) (k_l0 K x) (S_l0 x) (fun rec a => l0.step K x rec a) (fun r_l0 a => (h_l0 K x r_l0 a)) K a
theorem eqn (K : Nat) (x : Args ps) : evF (G K) T_S L K Tryz.f156 ps rs true x = f K x := (show evF (G K) T_S L K Tryz.f156 ps rs true x = pre K (N_l0 K x) x by kernel_rfl).trans (by rw [ok_l0 K x]; rfl)
end spec_l4Site
namespace spec_l3Find
theorem h_l0 (K : Nat) (x : Args ps) (r_l0 : St → Option Res) (a : A_l0) : ev K (sub body [1, 0, 1, 0, 0]) (S_l0 x a) (kLoop live_l0 r_l0 (k_l0 K x)) = l0.step K x (fun a => r_l0 (S_l0 x a)) a := by kernel_rfl
theorem ok_l0 (K : Nat) (x : Args ps) : N_l0 K x = l0 K x := funext fun a => evLoop_iter live_l0 (ev K (sub body [1, 0, 1, 0, 0])) (k_l0 K x) (S_l0 x) (fun rec a => l0.step K x rec a) (fun r_l0 a => (h_l0 K x r_l0 a)) K a
theorem eqn (K : Nat) (x : Args ps) : evF (G K) T_S L K Tryz.f119 ps rs true x = f K x := (show evF (G K) T_S L K Tryz.f119 ps rs true x = pre K (N_l0 K x) x by kernel_rfl).trans (by rw [ok_l0 K x]; rfl)
end spec_l3Find
namespace spec_l21Self
theorem eqn (K : Nat) (x : Args ps) : evF (G K) T_S L K Tryz.f157 ps rs true x = f K x := by kernel_rfl
end spec_l21Self
namespace spec_l3Over
theorem eqn (K : Nat) (x : Args ps) : evF (G K) T_S L K Tryz.f187 ps rs true x = f K x := by kernel_rfl
end spec_l3Over
namespace spec_CastOk
theorem h_l0 (K : Nat) (x : Args ps) (r_l0 : St → Option Res) (a : A_l0) : ev K (sub body [1, 0, 1, 0, 0]) (S_l0 x a) (kLoop live_l0 r_l0 (k_l0 K x)) = l0.step K x (fun a => r_l0 (S_l0 x a)) a := by kernel_rfl
theorem ok_l0 (K : Nat) (x : Args ps) : N_l0 K x = l0 K x := funext fun a => evLoop_iter live_l0 (ev K (sub body [1, 0, 1, 0, 0])) (k_l0 K x) (S_l0 x) (fun rec a => l0.step K x rec a) (fun r_l0 a => (h_l0 K x r_l0 a)) K a
theorem eqn (K : Nat) (x : Args ps) : evF (G K) T_S L K Tryz.f230 ps rs true x = f K x := (show evF (G K) T_S L K Tryz.f230 ps rs true x = pre K (N_l0 K x) x by kernel_rfl).trans (by rw [ok_l0 K x]; rfl)
end spec_CastOk
namespace spec_l21CastOk
theorem h_l0 (K : Nat) (x : Args ps) (r_l0 : St → Option Res) (a : A_l0) : ev K (sub body [1, 1, 0, 1, 0, 0]) (S_l0 x a) (kLoop live_l0 r_l0 (k_l0 K x)) = l0.step K x (fun a => r_l0 (S_l0 x a)) a := by kernel_rfl
theorem ok_l0 (K : Nat) (x : Args ps) : N_l0 K x = l0 K x := funext fun a => evLoop_iter live_l0 (ev K (sub body [1, 1, 0, 1, 0, 0])) (k_l0 K x) (S_l0 x) (fun rec a => l0.step K x rec a) (fun r_l0 a => (h_l0 K x r_l0 a)) K a
theorem eqn (K : Nat) (x : Args ps) : evF (G K) T_S L K Tryz.f158 ps rs true x = f K x := (show evF (G K) T_S L K Tryz.f158 ps rs true x = pre K (N_l0 K x) x by kernel_rfl).trans (by rw [ok_l0 K x]; rfl)
end spec_l21CastOk
namespace spec_l21ProbeOk
theorem eqn (K : Nat) (x : Args ps) : evF (G K) T_S L K Tryz.f159 ps rs true x = f K x := by kernel_rfl
end spec_l21ProbeOk
namespace spec_l21DoubtsOk
theorem h_l1 (K : Nat) (x : Args ps) (r_l0 : St → Option Res) (r_l1 : St → Option Res) (a : A_l1) : ev K (sub body [1, 0, 1, 0, 0, 1, 0, 0, 1, 1, 1, 1, 0, 0]) (S_l1 x a) (kLoop live_l1 r_l1 (k_l1 K x r_l0)) = l1.step K x (fun a => r_l0 (S_l0 x a)) (fun a => r_l1 (S_l1 x a)) a := by kernel_rfl
theorem ok_l1 (K : Nat) (x : Args ps) (r_l0 : St → Option Res) : N_l1 K x r_l0 = l1 K x (fun a => r_l0 (S_l0 x a)) := funext fun a => evLoop_iter live_l1 (ev K (sub body [1, 0, 1, 0, 0, 1, 0, 0, 1, 1, 1, 1, 0, 0])) (k_l1 K x r_l0) (S_l1 x) (fun rec a => l1.step K x (fun a => r_l0 (S_l0 x a)) rec a) (fun r_l1 a => (h_l1 K x r_l0 r_l1 a)) K a
theorem h_l2 (K : Nat) (x : Args ps) (r_l2 : St → Option Res) (a : A_l2) : ev K (sub body [1, 1, 1, 0, 1, 0, 0]) (S_l2 x a) (kLoop live_l2 r_l2 (k_l2 K x)) = l2.step K x (fun a => r_l2 (S_l2 x a)) a := by kernel_rfl
theorem ok_l2 (K : Nat) (x : Args ps) : N_l2 K x = l2 K x := funext fun a => evLoop_iter live_l2 (ev K (sub body [1, 1, 1, 0, 1, 0, 0])) (k_l2 K x) (S_l2 x) (fun rec a => l2.step K x rec a) (fun r_l2 a => (h_l2 K x r_l2 a)) K a
theorem h_l0 (K : Nat) (x : Args ps) (r_l0 : St → Option Res) (a : A_l0) : ev K (sub body [1, 0, 1, 0, 0]) (S_l0 x a) (kLoop live_l0 r_l0 (k_l0 K x)) = l0.step K x (N_l1 K x r_l0) (N_l2 K x) (fun a => r_l0 (S_l0 x a)) a := by kernel_rfl
theorem ok_l0 (K : Nat) (x : Args ps) : N_l0 K x = l0 K x := funext fun a => evLoop_iter live_l0 (ev K (sub body [1, 0, 1, 0, 0])) (k_l0 K x) (S_l0 x) (fun rec a => l0.step K x (l1 K x rec) (l2 K x) rec a) (fun r_l0 a => (h_l0 K x r_l0 a).trans (by rw [ok_l1 K x r_l0, ok_l2 K x])) K a
theorem eqn (K : Nat) (x : Args ps) : evF (G K) T_S L K Tryz.f160 ps rs true x = f K x := (show evF (G K) T_S L K Tryz.f160 ps rs true x = pre K (N_l0 K x) x by kernel_rfl).trans (by rw [ok_l0 K x]; rfl)
end spec_l21DoubtsOk
namespace spec_CoordOk
theorem eqn (K : Nat) (x : Args ps) : evF (G K) T_S L K Tryz.f161 ps rs true x = f K x := by kernel_rfl
end spec_CoordOk
namespace spec_l21PlacesOk
theorem h_l1 (K : Nat) (x : Args ps) (r_l0 : St → Option Res) (r_l1 : St → Option Res) (a : A_l1) : ev K (sub body [1, 0, 1, 0, 0, 1, 0, 0, 1, 1, 1, 0, 0]) (S_l1 x a) (kLoop live_l1 r_l1 (k_l1 K x r_l0)) = l1.step K x (fun a => r_l0 (S_l0 x a)) (fun a => r_l1 (S_l1 x a)) a := by kernel_rfl
theorem ok_l1 (K : Nat) (x : Args ps) (r_l0 : St → Option Res) : N_l1 K x r_l0 = l1 K x (fun a => r_l0 (S_l0 x a)) := funext fun a => evLoop_iter live_l1 (ev K (sub body [1, 0, 1, 0, 0, 1, 0, 0, 1, 1, 1, 0, 0])) (k_l1 K x r_l0) (S_l1 x) (fun rec a => l1.step K x (fun a => r_l0 (S_l0 x a)) rec a) (fun r_l1 a => (h_l1 K x r_l0 r_l1 a)) K a
theorem h_l0 (K : Nat) (x : Args ps) (r_l0 : St → Option Res) (a : A_l0) : ev K (sub body [1, 0, 1, 0, 0]) (S_l0 x a) (kLoop live_l0 r_l0 (k_l0 K x)) = l0.step K x (N_l1 K x r_l0) (fun a => r_l0 (S_l0 x a)) a := by kernel_rfl
theorem ok_l0 (K : Nat) (x : Args ps) : N_l0 K x = l0 K x := funext fun a => evLoop_iter live_l0 (ev K (sub body [1, 0, 1, 0, 0])) (k_l0 K x) (S_l0 x) (fun rec a => l0.step K x (l1 K x rec) rec a) (fun r_l0 a => (h_l0 K x r_l0 a).trans (by rw [ok_l1 K x r_l0])) K a
theorem eqn (K : Nat) (x : Args ps) : evF (G K) T_S L K Tryz.f162 ps rs true x = f K x := (show evF (G K) T_S L K Tryz.f162 ps rs true x = pre K (N_l0 K x) x by kernel_rfl).trans (by rw [ok_l0 K x]; rfl)
end spec_l21PlacesOk
namespace spec_l21OthersOk
theorem h_l0 (K : Nat) (x : Args ps) (r_l0 : St → Option Res) (a : A_l0) : ev K (sub body [1, 0, 1, 0, 0]) (S_l0 x a) (kLoop live_l0 r_l0 (k_l0 K x)) = l0.step K x (fun a => r_l0 (S_l0 x a)) a := by kernel_rfl
theorem ok_l0 (K : Nat) (x : Args ps) : N_l0 K x = l0 K x := funext fun a => evLoop_iter live_l0 (ev K (sub body [1, 0, 1, 0, 0])) (k_l0 K x) (S_l0 x) (fun rec a => l0.step K x rec a) (fun r_l0 a => (h_l0 K x r_l0 a)) K a
theorem eqn (K : Nat) (x : Args ps) : evF (G K) T_S L K Tryz.f163 ps rs true x = f K x := (show evF (G K) T_S L K Tryz.f163 ps rs true x = pre K (N_l0 K x) x by kernel_rfl).trans (by rw [ok_l0 K x]; rfl)
end spec_l21OthersOk
namespace spec_NodeOk
theorem eqn (K : Nat) (x : Args ps) : evF (G K) T_S L K Tryz.f65 ps rs true x = f K x := by kernel_rfl
end spec_NodeOk
namespace spec_l21Copy
theorem h_l2 (K : Nat) (x : Args ps) (r_l2 : St → Option Res) (a : A_l2) : ev K (sub body [1, 1, 1, 1, 1, 1, 1, 1, 1, 0, 1, 0, 0]) (S_l2 x a) (kLoop live_l2 r_l2 (k_l2 K x)) = l2.step K x (fun a => r_l2 (S_l2 x a)) a := by kernel_rfl
theorem ok_l2 (K : Nat) (x : Args ps) : N_l2 K x = l2 K x := funext fun a => evLoop_iter live_l2 (ev K (sub body [1, 1, 1, 1, 1, 1, 1, 1, 1, 0, 1, 0, 0])) (k_l2 K x) (S_l2 x) (fun rec a => l2.step K x rec a) (fun r_l2 a => (h_l2 K x r_l2 a)) K a
theorem h_l1 (K : Nat) (x : Args ps) (r_l1 : St → Option Res) (a : A_l1) : ev K (sub body [1, 1, 1, 1, 1, 1, 1, 0, 1, 0, 0]) (S_l1 x a) (kLoop live_l1 r_l1 (k_l1 K x)) = l1.step K x (N_l2 K x) (fun a => r_l1 (S_l1 x a)) a := by kernel_rfl
theorem ok_l1 (K : Nat) (x : Args ps) : N_l1 K x = l1 K x := funext fun a => evLoop_iter live_l1 (ev K (sub body [1, 1, 1, 1, 1, 1, 1, 0, 1, 0, 0])) (k_l1 K x) (S_l1 x) (fun rec a => l1.step K x (l2 K x) rec a) (fun r_l1 a => (h_l1 K x r_l1 a).trans (by rw [ok_l2 K x])) K a
theorem h_l0 (K : Nat) (x : Args ps) (r_l0 : St → Option Res) (a : A_l0) : ev K (sub body [1, 1, 1, 1, 1, 0, 1, 0, 0]) (S_l0 x a) (kLoop live_l0 r_l0 (k_l0 K x)) = l0.step K x (N_l1 K x) (fun a => r_l0 (S_l0 x a)) a := by kernel_rfl
theorem ok_l0 (K : Nat) (x : Args ps) : N_l0 K x = l0 K x := funext fun a => evLoop_iter live_l0 (ev K (sub body [1, 1, 1, 1, 1, 0, 1, 0, 0])) (k_l0 K x) (S_l0 x) (fun rec a => l0.step K x (l1 K x) rec a) (fun r_l0 a => (h_l0 K x r_l0 a).trans (by rw [ok_l1 K x])) K a
theorem eqn (K : Nat) (x : Args ps) : evF (G K) T_ND L K Tryz.f126 ps rs true x = f K x := (show evF (G K) T_ND L K Tryz.f126 ps rs true x = pre K (N_l0 K x) x by kernel_rfl).trans (by rw [ok_l0 K x]; rfl)
end spec_l21Copy
namespace spec_l21Word
theorem eqn (K : Nat) (x : Args ps) : evF (G K) T_S L K Tryz.f127 ps rs true x = f K x := by kernel_rfl
end spec_l21Word
namespace spec_NodeJoin
theorem eqn (K : Nat) (x : Args ps) : evF (G K) T_S L K Tryz.f38 ps rs true x = f K x := by kernel_rfl
end spec_NodeJoin
namespace impl_in
theorem eqn (K : Nat) (x : Args ps) : evF (G K) T_D L K Tryz.f111 ps rs true x = f K x := by kernel_rfl
end impl_in
namespace impl_isNode
theorem eqn (K : Nat) (x : Args ps) : evF (G K) T_D L K Tryz.f116 ps rs true x = f K x := by kernel_rfl
end impl_isNode
namespace impl_Node_isDown
theorem eqn (K : Nat) (x : Args ps) : evF (G K) T_D L K Tryz.f170 ps rs true x = f K x := by kernel_rfl
end impl_Node_isDown
namespace slices_IndexFunc_impl_Fact_impl_Fact
theorem h_l0 (K : Nat) (x : Args ps) (r_l0 : St → Option Res) (a : A_l0) : ev K (sub body [1, 0, 1, 0, 0]) (S_l0 x a) (kLoop live_l0 r_l0 (k_l0 K x)) = l0.step K x (fun a => r_l0 (S_l0 x a)) a := by kernel_rfl
theorem ok_l0 (K : Nat) (x : Args ps) : N_l0 K x = l0 K x := funext fun a => evLoop_iter live_l0 (ev K (sub body [1, 0, 1, 0, 0])) (k_l0 K x) (S_l0 x) (fun rec a => l0.step K x rec a) (fun r_l0 a => (h_l0 K x r_l0 a)) K a
theorem eqn (K : Nat) (x : Args ps) : evF (G K) T_D L K Tryz.f206 ps rs true x = f K x := (show evF (G K) T_D L K Tryz.f206 ps rs true x = pre K (N_l0 K x) x by kernel_rfl).trans (by rw [ok_l0 K x]; rfl)
end slices_IndexFunc_impl_Fact_impl_Fact
namespace slices_ContainsFunc_impl_Fact_impl_Fact
theorem eqn (K : Nat) (x : Args ps) : evF (G K) T_D L K Tryz.f141 ps rs true x = f K x := by kernel_rfl
end slices_ContainsFunc_impl_Fact_impl_Fact
namespace impl_siteOf
theorem eqn (K : Nat) (x : Args ps) : evF (G K) T_D L K Tryz.f91 ps rs true x = f K x := by kernel_rfl
end impl_siteOf
namespace impl_ofSite_1
theorem eqn (K : Nat) (x : Args ps) : evF (G K) T_D L K Tryz.f183 ps rs true x = f K x := by kernel_rfl
end impl_ofSite_1
namespace impl_ofSite
theorem eqn (K : Nat) (x : Args ps) : evF (G K) T_D L K Tryz.f89 ps rs true x = f K x := by kernel_rfl
end impl_ofSite
namespace impl_Node_site
theorem eqn (K : Nat) (x : Args ps) : evF (G K) T_D L K Tryz.f90 ps rs true x = f K x := by kernel_rfl
end impl_Node_site
namespace impl_FactOk
theorem eqn (K : Nat) (x : Args ps) : evF (G K) T_D L K Tryz.f112 ps rs true x = f K x := by kernel_rfl
end impl_FactOk
namespace impl_TableOk
theorem h_l0 (K : Nat) (x : Args ps) (r_l0 : St → Option Res) (a : A_l0) : ev K (sub body [1, 0, 1, 0, 0]) (S_l0 x a) (kLoop live_l0 r_l0 (k_l0 K x)) = l0.step K x (fun a => r_l0 (S_l0 x a)) a := by kernel_rfl
theorem ok_l0 (K : Nat) (x : Args ps) : N_l0 K x = l0 K x := funext fun a => evLoop_iter live_l0 (ev K (sub body [1, 0, 1, 0, 0])) (k_l0 K x) (S_l0 x) (fun rec a => l0.step K x rec a) (fun r_l0 a => (h_l0 K x r_l0 a)) K a
theorem eqn (K : Nat) (x : Args ps) : evF (G K) T_D L K Tryz.f182 ps rs true x = f K x := (show evF (G K) T_D L K Tryz.f182 ps rs true x = pre K (N_l0 K x) x by kernel_rfl).trans (by rw [ok_l0 K x]; rfl)
end impl_TableOk
namespace slices_BinarySearchFunc_impl_Fact_impl_Fact_int
theorem h_l0 (K : Nat) (x : Args ps) (r_l0 : St → Option Res) (a : A_l0) : ev K (sub body [1, 1, 1, 0, 0, 0]) (S_l0 x a) (kLoop live_l0 r_l0 (k_l0 K x)) = l0.step K x (fun a => r_l0 (S_l0 x a)) a := by kernel_rfl
theorem ok_l0 (K : Nat) (x : Args ps) : N_l0 K x = l0 K x := funext fun a => evLoop_iter live_l0 (ev K (sub body [1, 1, 1, 0, 0, 0])) (k_l0 K x) (S_l0 x) (fun rec a => l0.step K x rec a) (fun r_l0 a => (h_l0 K x r_l0 a)) K a
theorem eqn (K : Nat) (x : Args ps) : evF (G K) T_D L K Tryz.f293 ps rs true x = f K x := (show evF (G K) T_D L K Tryz.f293 ps rs true x = pre K (N_l0 K x) x by kernel_rfl).trans (by rw [ok_l0 K x]; rfl)
end slices_BinarySearchFunc_impl_Fact_impl_Fact_int
namespace cmp_isNaN_int
theorem eqn (K : Nat) (x : Args ps) : evF (G K) T_D L K Tryz.f193 ps rs true x = f K x := by kernel_rfl
end cmp_isNaN_int
namespace cmp_Compare_int
theorem eqn (K : Nat) (x : Args ps) : evF (G K) T_D L K Tryz.f123 ps rs true x = f K x := by kernel_rfl
end cmp_Compare_int
namespace impl_find_1
theorem eqn (K : Nat) (x : Args ps) : evF (G K) T_D L K Tryz.f294 ps rs true x = f K x := by kernel_rfl
end impl_find_1
namespace impl_find
theorem eqn (K : Nat) (x : Args ps) : evF (G K) T_D L K Tryz.f243 ps rs true x = f K x := by kernel_rfl
end impl_find
namespace impl_TableOf
theorem eqn (K : Nat) (x : Args ps) : evF (G K) T_D L K Tryz.f194 ps rs true x = f K x := by kernel_rfl
end impl_TableOf
namespace slices_IndexFunc_impl_Item_impl_Item
theorem h_l0 (K : Nat) (x : Args ps) (r_l0 : St → Option Res) (a : A_l0) : ev K (sub body [1, 0, 1, 0, 0]) (S_l0 x a) (kLoop live_l0 r_l0 (k_l0 K x)) = l0.step K x (fun a => r_l0 (S_l0 x a)) a := by kernel_rfl
theorem ok_l0 (K : Nat) (x : Args ps) : N_l0 K x = l0 K x := funext fun a => evLoop_iter live_l0 (ev K (sub body [1, 0, 1, 0, 0])) (k_l0 K x) (S_l0 x) (fun rec a => l0.step K x rec a) (fun r_l0 a => (h_l0 K x r_l0 a)) K a
theorem eqn (K : Nat) (x : Args ps) : evF (G K) T_D L K Tryz.f290 ps rs true x = f K x := (show evF (G K) T_D L K Tryz.f290 ps rs true x = pre K (N_l0 K x) x by kernel_rfl).trans (by rw [ok_l0 K x]; rfl)
end slices_IndexFunc_impl_Item_impl_Item
namespace slices_ContainsFunc_impl_Item_impl_Item
theorem eqn (K : Nat) (x : Args ps) : evF (G K) T_D L K Tryz.f234 ps rs true x = f K x := by kernel_rfl
end slices_ContainsFunc_impl_Item_impl_Item
namespace impl_CastOk_1
theorem eqn (K : Nat) (x : Args ps) : evF (G K) T_D L K Tryz.f288 ps rs true x = f K x := by kernel_rfl
end impl_CastOk_1
namespace impl_facts
theorem h_l0 (K : Nat) (x : Args ps) (r_l0 : St → Option Res) (a : A_l0) : ev K (sub body [1, 1, 0, 1, 0, 0]) (S_l0 x a) (kLoop live_l0 r_l0 (k_l0 K x)) = l0.step K x (fun a => r_l0 (S_l0 x a)) a := by kernel_rfl
theorem ok_l0 (K : Nat) (x : Args ps) : N_l0 K x = l0 K x := funext fun a => evLoop_iter live_l0 (ev K (sub body [1, 1, 0, 1, 0, 0])) (k_l0 K x) (S_l0 x) (fun rec a => l0.step K x rec a) (fun r_l0 a => (h_l0 K x r_l0 a)) K a
theorem eqn (K : Nat) (x : Args ps) : evF (G K) T_D L K Tryz.f289 ps rs true x = f K x := (show evF (G K) T_D L K Tryz.f289 ps rs true x = pre K (N_l0 K x) x by kernel_rfl).trans (by rw [ok_l0 K x]; rfl)
end impl_facts
namespace impl_CastOk
theorem eqn (K : Nat) (x : Args ps) : evF (G K) T_D L K Tryz.f233 ps rs true x = f K x := by kernel_rfl
end impl_CastOk
namespace cmp_Or_int
theorem h_l0 (K : Nat) (x : Args ps) (r_l0 : St → Option Res) (a : A_l0) : ev K (sub body [1, 1, 0, 1, 0, 0]) (S_l0 x a) (kLoop live_l0 r_l0 (k_l0 K x)) = l0.step K x (fun a => r_l0 (S_l0 x a)) a := by kernel_rfl
theorem ok_l0 (K : Nat) (x : Args ps) : N_l0 K x = l0 K x := funext fun a => evLoop_iter live_l0 (ev K (sub body [1, 1, 0, 1, 0, 0])) (k_l0 K x) (S_l0 x) (fun rec a => l0.step K x rec a) (fun r_l0 a => (h_l0 K x r_l0 a)) K a
theorem eqn (K : Nat) (x : Args ps) : evF (G K) T_D L K Tryz.f189 ps rs true x = f K x := (show evF (G K) T_D L K Tryz.f189 ps rs true x = pre K (N_l0 K x) x by kernel_rfl).trans (by rw [ok_l0 K x]; rfl)
end cmp_Or_int
namespace impl_Fact_compare
theorem eqn (K : Nat) (x : Args ps) : evF (G K) T_D L K Tryz.f113 ps rs true x = f K x := by kernel_rfl
end impl_Fact_compare
namespace impl_FactOver
theorem eqn (K : Nat) (x : Args ps) : evF (G K) T_D L K Tryz.f236 ps rs true x = f K x := by kernel_rfl
end impl_FactOver
namespace impl_Node_tableOk_1
theorem eqn (K : Nat) (x : Args ps) : evF (G K) T_D L K Tryz.f235 ps rs true x = f K x := by kernel_rfl
end impl_Node_tableOk_1
namespace impl_Node_tableOk
theorem eqn (K : Nat) (x : Args ps) : evF (G K) T_D L K Tryz.f171 ps rs true x = f K x := by kernel_rfl
end impl_Node_tableOk
namespace impl_Node_probeOk
theorem eqn (K : Nat) (x : Args ps) : evF (G K) T_D L K Tryz.f172 ps rs true x = f K x := by kernel_rfl
end impl_Node_probeOk
namespace impl_Node_near
theorem eqn (K : Nat) (x : Args ps) : evF (G K) T_D L K Tryz.f88 ps rs true x = f K x := by kernel_rfl
end impl_Node_near
namespace impl_Node_doubtsOk
theorem h_l2 (K : Nat) (x : Args ps) (r_l1 : St → Option Res) (r_l2 : St → Option Res) (a : A_l2) : ev K (sub body [1, 1, 1, 1, 0, 1, 0, 0, 1, 1, 0, 0, 1, 1, 1, 0, 0]) (S_l2 x a) (kLoop live_l2 r_l2 (k_l2 K x r_l1)) = l2.step K x (fun a => r_l1 (S_l1 x a)) (fun a => r_l2 (S_l2 x a)) a := by kernel_rfl
theorem ok_l2 (K : Nat) (x : Args ps) (r_l1 : St → Option Res) : N_l2 K x r_l1 = l2 K x (fun a => r_l1 (S_l1 x a)) := funext fun a => evLoop_iter live_l2 (ev K (sub body [1, 1, 1, 1, 0, 1, 0, 0, 1, 1, 0, 0, 1, 1, 1, 0, 0])) (k_l2 K x r_l1) (S_l2 x) (fun rec a => l2.step K x (fun a => r_l1 (S_l1 x a)) rec a) (fun r_l2 a => (h_l2 K x r_l1 r_l2 a)) K a
theorem h_l1 (K : Nat) (x : Args ps) (r_l1 : St → Option Res) (a : A_l1) : ev K (sub body [1, 1, 1, 1, 0, 1, 0, 0]) (S_l1 x a) (kLoop live_l1 r_l1 (k_l1 K x)) = l1.step K x (N_l2 K x r_l1) (fun a => r_l1 (S_l1 x a)) a := by kernel_rfl
theorem ok_l1 (K : Nat) (x : Args ps) : N_l1 K x = l1 K x := funext fun a => evLoop_iter live_l1 (ev K (sub body [1, 1, 1, 1, 0, 1, 0, 0])) (k_l1 K x) (S_l1 x) (fun rec a => l1.step K x (l2 K x rec) rec a) (fun r_l1 a => (h_l1 K x r_l1 a).trans (by rw [ok_l2 K x r_l1])) K a
theorem h_l0 (K : Nat) (x : Args ps) (r_l0 : St → Option Res) (a : A_l0) : ev K (sub body [1, 1, 0, 1, 0, 0]) (S_l0 x a) (kLoop live_l0 r_l0 (k_l0 K x)) = l0.step K x (N_l1 K x) (fun a => r_l0 (S_l0 x a)) a := by kernel_rfl
theorem ok_l0 (K : Nat) (x : Args ps) : N_l0 K x = l0 K x := funext fun a => evLoop_iter live_l0 (ev K (sub body [1, 1, 0, 1, 0, 0])) (k_l0 K x) (S_l0 x) (fun rec a => l0.step K x (l1 K x) rec a) (fun r_l0 a => (h_l0 K x r_l0 a).trans (by rw [ok_l1 K x])) K a
theorem eqn (K : Nat) (x : Args ps) : evF (G K) T_D L K Tryz.f173 ps rs true x = f K x := (show evF (G K) T_D L K Tryz.f173 ps rs true x = pre K (N_l0 K x) x by kernel_rfl).trans (by rw [ok_l0 K x]; rfl)
end impl_Node_doubtsOk
namespace impl_CoordOk
theorem eqn (K : Nat) (x : Args ps) : evF (G K) T_D L K Tryz.f174 ps rs true x = f K x := by kernel_rfl
end impl_CoordOk
namespace impl_Node_other
theorem eqn (K : Nat) (x : Args ps) : evF (G K) T_D L K Tryz.f199 ps rs true x = f K x := by kernel_rfl
end impl_Node_other
namespace impl_Node_placesOk_1
theorem eqn (K : Nat) (x : Args ps) : evF (G K) T_D L K Tryz.f237 ps rs true x = f K x := by kernel_rfl
end impl_Node_placesOk_1
namespace slices_IndexFunc_int_int
theorem h_l0 (K : Nat) (x : Args ps) (r_l0 : St → Option Res) (a : A_l0) : ev K (sub body [1, 0, 1, 0, 0]) (S_l0 x a) (kLoop live_l0 r_l0 (k_l0 K x)) = l0.step K x (fun a => r_l0 (S_l0 x a)) a := by kernel_rfl
theorem ok_l0 (K : Nat) (x : Args ps) : N_l0 K x = l0 K x := funext fun a => evLoop_iter live_l0 (ev K (sub body [1, 0, 1, 0, 0])) (k_l0 K x) (S_l0 x) (fun rec a => l0.step K x rec a) (fun r_l0 a => (h_l0 K x r_l0 a)) K a
theorem eqn (K : Nat) (x : Args ps) : evF (G K) T_D L K Tryz.f291 ps rs true x = f K x := (show evF (G K) T_D L K Tryz.f291 ps rs true x = pre K (N_l0 K x) x by kernel_rfl).trans (by rw [ok_l0 K x]; rfl)
end slices_IndexFunc_int_int
namespace slices_ContainsFunc_int_int
theorem eqn (K : Nat) (x : Args ps) : evF (G K) T_D L K Tryz.f238 ps rs true x = f K x := by kernel_rfl
end slices_ContainsFunc_int_int
namespace impl_Node_placesOk
theorem h_l0 (K : Nat) (x : Args ps) (r_l0 : St → Option Res) (a : A_l0) : ev K (sub body [1, 1, 0, 1, 0, 0]) (S_l0 x a) (kLoop live_l0 r_l0 (k_l0 K x)) = l0.step K x (fun a => r_l0 (S_l0 x a)) a := by kernel_rfl
theorem ok_l0 (K : Nat) (x : Args ps) : N_l0 K x = l0 K x := funext fun a => evLoop_iter live_l0 (ev K (sub body [1, 1, 0, 1, 0, 0])) (k_l0 K x) (S_l0 x) (fun rec a => l0.step K x rec a) (fun r_l0 a => (h_l0 K x r_l0 a)) K a
theorem eqn (K : Nat) (x : Args ps) : evF (G K) T_D L K Tryz.f175 ps rs true x = f K x := (show evF (G K) T_D L K Tryz.f175 ps rs true x = pre K (N_l0 K x) x by kernel_rfl).trans (by rw [ok_l0 K x]; rfl)
end impl_Node_placesOk
namespace impl_Node_othersOk
theorem h_l0 (K : Nat) (x : Args ps) (r_l0 : St → Option Res) (a : A_l0) : ev K (sub body [1, 0, 1, 0, 0]) (S_l0 x a) (kLoop live_l0 r_l0 (k_l0 K x)) = l0.step K x (fun a => r_l0 (S_l0 x a)) a := by kernel_rfl
theorem ok_l0 (K : Nat) (x : Args ps) : N_l0 K x = l0 K x := funext fun a => evLoop_iter live_l0 (ev K (sub body [1, 0, 1, 0, 0])) (k_l0 K x) (S_l0 x) (fun rec a => l0.step K x rec a) (fun r_l0 a => (h_l0 K x r_l0 a)) K a
theorem eqn (K : Nat) (x : Args ps) : evF (G K) T_D L K Tryz.f176 ps rs true x = f K x := (show evF (G K) T_D L K Tryz.f176 ps rs true x = pre K (N_l0 K x) x by kernel_rfl).trans (by rw [ok_l0 K x]; rfl)
end impl_Node_othersOk
namespace impl_NodeOk
theorem eqn (K : Nat) (x : Args ps) : evF (G K) T_D L K Tryz.f76 ps rs true x = f K x := by kernel_rfl
end impl_NodeOk
namespace impl_Node_active
theorem eqn (K : Nat) (x : Args ps) : evF (G K) T_D L K Tryz.f87 ps rs true x = f K x := by kernel_rfl
end impl_Node_active
namespace impl_Node_word
theorem eqn (K : Nat) (x : Args ps) : evF (G K) T_D L K Tryz.f245 ps rs true x = f K x := by kernel_rfl
end impl_Node_word
namespace impl_Node_whole
theorem eqn (K : Nat) (x : Args ps) : evF (G K) T_D L K Tryz.f200 ps rs true x = f K x := by kernel_rfl
end impl_Node_whole
namespace impl_Node_join
theorem eqn (K : Nat) (x : Args ps) : evF (G K) T_D L K Tryz.f130 ps rs true x = f K x := by kernel_rfl
end impl_Node_join
namespace impl_NodeJoin_1
theorem eqn (K : Nat) (x : Args ps) : evF (G K) T_D L K Tryz.f129 ps rs true x = f K x := by kernel_rfl
end impl_NodeJoin_1
namespace impl_Node_copied
theorem h_l2 (K : Nat) (x : Args ps) (r_l2 : St → Option Res) (a : A_l2) : ev K (sub body [1, 1, 1, 1, 1, 1, 0, 1, 0, 0]) (S_l2 x a) (kLoop live_l2 r_l2 (k_l2 K x)) = l2.step K x (fun a => r_l2 (S_l2 x a)) a := by kernel_rfl
theorem ok_l2 (K : Nat) (x : Args ps) : N_l2 K x = l2 K x := funext fun a => evLoop_iter live_l2 (ev K (sub body [1, 1, 1, 1, 1, 1, 0, 1, 0, 0])) (k_l2 K x) (S_l2 x) (fun rec a => l2.step K x rec a) (fun r_l2 a => (h_l2 K x r_l2 a)) K a
theorem h_l1 (K : Nat) (x : Args ps) (r_l1 : St → Option Res) (a : A_l1) : ev K (sub body [1, 1, 1, 1, 0, 1, 0, 0]) (S_l1 x a) (kLoop live_l1 r_l1 (k_l1 K x)) = l1.step K x (N_l2 K x) (fun a => r_l1 (S_l1 x a)) a := by kernel_rfl
theorem ok_l1 (K : Nat) (x : Args ps) : N_l1 K x = l1 K x := funext fun a => evLoop_iter live_l1 (ev K (sub body [1, 1, 1, 1, 0, 1, 0, 0])) (k_l1 K x) (S_l1 x) (fun rec a => l1.step K x (l2 K x) rec a) (fun r_l1 a => (h_l1 K x r_l1 a).trans (by rw [ok_l2 K x])) K a
theorem h_l0 (K : Nat) (x : Args ps) (r_l0 : St → Option Res) (a : A_l0) : ev K (sub body [1, 1, 0, 1, 0, 0]) (S_l0 x a) (kLoop live_l0 r_l0 (k_l0 K x)) = l0.step K x (N_l1 K x) (fun a => r_l0 (S_l0 x a)) a := by kernel_rfl
theorem ok_l0 (K : Nat) (x : Args ps) : N_l0 K x = l0 K x := funext fun a => evLoop_iter live_l0 (ev K (sub body [1, 1, 0, 1, 0, 0])) (k_l0 K x) (S_l0 x) (fun rec a => l0.step K x (l1 K x) rec a) (fun r_l0 a => (h_l0 K x r_l0 a).trans (by rw [ok_l1 K x])) K a
theorem eqn (K : Nat) (x : Args ps) : evF (G K) T_D L K Tryz.f197 ps rs true x = f K x := (show evF (G K) T_D L K Tryz.f197 ps rs true x = pre K (N_l0 K x) x by kernel_rfl).trans (by rw [ok_l0 K x]; rfl)
end impl_Node_copied
namespace slices_Clip_impl_Word_impl_Word
theorem eqn (K : Nat) (x : Args ps) : evF (G K) T_D L K Tryz.f198 ps rs true x = f K x := by kernel_rfl
end slices_Clip_impl_Word_impl_Word
namespace impl_does
theorem eqn (K : Nat) (x : Args ps) : evF (G K) T_D L K Tryz.f128 ps rs true x = f K x := by kernel_rfl
end impl_does
namespace impl_NodeJoin
theorem eqn (K : Nat) (x : Args ps) : evF (G K) T_D L K Tryz.f39 ps rs true x = f K x := by kernel_rfl
end impl_NodeJoin
namespace laws_eqWord
theorem eqn (K : Nat) (x : Args ps) : evF (G K) T_D L K Tryz.f24 ps rs true x = f K x := by kernel_rfl
end laws_eqWord
namespace laws_eqWordS
theorem h_l0 (K : Nat) (x : Args ps) (r_l0 : St → Option Res) (a : A_l0) : ev K (sub body [1, 1, 0, 1, 0, 0]) (S_l0 x a) (kLoop live_l0 r_l0 (k_l0 K x)) = l0.step K x (fun a => r_l0 (S_l0 x a)) a := by kernel_rfl
theorem ok_l0 (K : Nat) (x : Args ps) : N_l0 K x = l0 K x := funext fun a => evLoop_iter live_l0 (ev K (sub body [1, 1, 0, 1, 0, 0])) (k_l0 K x) (S_l0 x) (fun rec a => l0.step K x rec a) (fun r_l0 a => (h_l0 K x r_l0 a)) K a
theorem eqn (K : Nat) (x : Args ps) : evF (G K) T_D L K Tryz.f40 ps rs true x = f K x := (show evF (G K) T_D L K Tryz.f40 ps rs true x = pre K (N_l0 K x) x by kernel_rfl).trans (by rw [ok_l0 K x]; rfl)
end laws_eqWordS
namespace laws_markWordS
theorem h_l0 (K : Nat) (x : Args ps) (r_l0 : St → Option Res) (a : A_l0) : ev K (sub body [1, 0, 1, 0, 0]) (S_l0 x a) (kLoop live_l0 r_l0 (k_l0 K x)) = l0.step K x (fun a => r_l0 (S_l0 x a)) a := by kernel_rfl
theorem ok_l0 (K : Nat) (x : Args ps) : N_l0 K x = l0 K x := funext fun a => evLoop_iter live_l0 (ev K (sub body [1, 0, 1, 0, 0])) (k_l0 K x) (S_l0 x) (fun rec a => l0.step K x rec a) (fun r_l0 a => (h_l0 K x r_l0 a)) K a
theorem eqn (K : Nat) (x : Args ps) : evF (G K) T_D L K Tryz.f41 ps rs true x = f K x := (show evF (G K) T_D L K Tryz.f41 ps rs true x = pre K (N_l0 K x) x by kernel_rfl).trans (by rw [ok_l0 K x]; rfl)
end laws_markWordS
namespace laws_heldFactS
theorem h_l0 (K : Nat) (x : Args ps) (r_l0 : St → Option Res) (a : A_l0) : ev K (sub body [1, 0, 1, 0, 0]) (S_l0 x a) (kLoop live_l0 r_l0 (k_l0 K x)) = l0.step K x (fun a => r_l0 (S_l0 x a)) a := by kernel_rfl
theorem ok_l0 (K : Nat) (x : Args ps) : N_l0 K x = l0 K x := funext fun a => evLoop_iter live_l0 (ev K (sub body [1, 0, 1, 0, 0])) (k_l0 K x) (S_l0 x) (fun rec a => l0.step K x rec a) (fun r_l0 a => (h_l0 K x r_l0 a)) K a
theorem eqn (K : Nat) (x : Args ps) : evF (G K) T_D L K Tryz.f48 ps rs true x = f K x := (show evF (G K) T_D L K Tryz.f48 ps rs true x = pre K (N_l0 K x) x by kernel_rfl).trans (by rw [ok_l0 K x]; rfl)
end laws_heldFactS
namespace laws_heldItemS
theorem h_l0 (K : Nat) (x : Args ps) (r_l0 : St → Option Res) (a : A_l0) : ev K (sub body [1, 0, 1, 0, 0]) (S_l0 x a) (kLoop live_l0 r_l0 (k_l0 K x)) = l0.step K x (fun a => r_l0 (S_l0 x a)) a := by kernel_rfl
theorem ok_l0 (K : Nat) (x : Args ps) : N_l0 K x = l0 K x := funext fun a => evLoop_iter live_l0 (ev K (sub body [1, 0, 1, 0, 0])) (k_l0 K x) (S_l0 x) (fun rec a => l0.step K x rec a) (fun r_l0 a => (h_l0 K x r_l0 a)) K a
theorem eqn (K : Nat) (x : Args ps) : evF (G K) T_D L K Tryz.f131 ps rs true x = f K x := (show evF (G K) T_D L K Tryz.f131 ps rs true x = pre K (N_l0 K x) x by kernel_rfl).trans (by rw [ok_l0 K x]; rfl)
end laws_heldItemS
namespace laws_heldIntS
theorem h_l0 (K : Nat) (x : Args ps) (r_l0 : St → Option Res) (a : A_l0) : ev K (sub body [1, 0, 1, 0, 0]) (S_l0 x a) (kLoop live_l0 r_l0 (k_l0 K x)) = l0.step K x (fun a => r_l0 (S_l0 x a)) a := by kernel_rfl
theorem ok_l0 (K : Nat) (x : Args ps) : N_l0 K x = l0 K x := funext fun a => evLoop_iter live_l0 (ev K (sub body [1, 0, 1, 0, 0])) (k_l0 K x) (S_l0 x) (fun rec a => l0.step K x rec a) (fun r_l0 a => (h_l0 K x r_l0 a)) K a
theorem eqn (K : Nat) (x : Args ps) : evF (G K) T_D L K Tryz.f30 ps rs true x = f K x := (show evF (G K) T_D L K Tryz.f30 ps rs true x = pre K (N_l0 K x) x by kernel_rfl).trans (by rw [ok_l0 K x]; rfl)
end laws_heldIntS
namespace laws_heldDoubtS
theorem h_l0 (K : Nat) (x : Args ps) (r_l0 : St → Option Res) (a : A_l0) : ev K (sub body [1, 0, 1, 0, 0]) (S_l0 x a) (kLoop live_l0 r_l0 (k_l0 K x)) = l0.step K x (fun a => r_l0 (S_l0 x a)) a := by kernel_rfl
theorem ok_l0 (K : Nat) (x : Args ps) : N_l0 K x = l0 K x := funext fun a => evLoop_iter live_l0 (ev K (sub body [1, 0, 1, 0, 0])) (k_l0 K x) (S_l0 x) (fun rec a => l0.step K x rec a) (fun r_l0 a => (h_l0 K x r_l0 a)) K a
theorem eqn (K : Nat) (x : Args ps) : evF (G K) T_D L K Tryz.f132 ps rs true x = f K x := (show evF (G K) T_D L K Tryz.f132 ps rs true x = pre K (N_l0 K x) x by kernel_rfl).trans (by rw [ok_l0 K x]; rfl)
end laws_heldDoubtS
namespace laws_heldPlaceS
theorem h_l0 (K : Nat) (x : Args ps) (r_l0 : St → Option Res) (a : A_l0) : ev K (sub body [1, 0, 1, 0, 0]) (S_l0 x a) (kLoop live_l0 r_l0 (k_l0 K x)) = l0.step K x (fun a => r_l0 (S_l0 x a)) a := by kernel_rfl
theorem ok_l0 (K : Nat) (x : Args ps) : N_l0 K x = l0 K x := funext fun a => evLoop_iter live_l0 (ev K (sub body [1, 0, 1, 0, 0])) (k_l0 K x) (S_l0 x) (fun rec a => l0.step K x rec a) (fun r_l0 a => (h_l0 K x r_l0 a)) K a
theorem eqn (K : Nat) (x : Args ps) : evF (G K) T_D L K Tryz.f133 ps rs true x = f K x := (show evF (G K) T_D L K Tryz.f133 ps rs true x = pre K (N_l0 K x) x by kernel_rfl).trans (by rw [ok_l0 K x]; rfl)
end laws_heldPlaceS
namespace laws_heldForeignS
theorem h_l0 (K : Nat) (x : Args ps) (r_l0 : St → Option Res) (a : A_l0) : ev K (sub body [1, 0, 1, 0, 0]) (S_l0 x a) (kLoop live_l0 r_l0 (k_l0 K x)) = l0.step K x (fun a => r_l0 (S_l0 x a)) a := by kernel_rfl
theorem ok_l0 (K : Nat) (x : Args ps) : N_l0 K x = l0 K x := funext fun a => evLoop_iter live_l0 (ev K (sub body [1, 0, 1, 0, 0])) (k_l0 K x) (S_l0 x) (fun rec a => l0.step K x rec a) (fun r_l0 a => (h_l0 K x r_l0 a)) K a
theorem eqn (K : Nat) (x : Args ps) : evF (G K) T_D L K Tryz.f134 ps rs true x = f K x := (show evF (G K) T_D L K Tryz.f134 ps rs true x = pre K (N_l0 K x) x by kernel_rfl).trans (by rw [ok_l0 K x]; rfl)
end laws_heldForeignS
namespace laws_heldNode
theorem eqn (K : Nat) (x : Args ps) : evF (G K) T_D L K Tryz.f42 ps rs true x = f K x := by kernel_rfl
end laws_heldNode
namespace laws_heldWordS
theorem h_l0 (K : Nat) (x : Args ps) (r_l0 : St → Option Res) (a : A_l0) : ev K (sub body [1, 0, 1, 0, 0]) (S_l0 x a) (kLoop live_l0 r_l0 (k_l0 K x)) = l0.step K x (fun a => r_l0 (S_l0 x a)) a := by kernel_rfl
theorem ok_l0 (K : Nat) (x : Args ps) : N_l0 K x = l0 K x := funext fun a => evLoop_iter live_l0 (ev K (sub body [1, 0, 1, 0, 0])) (k_l0 K x) (S_l0 x) (fun rec a => l0.step K x rec a) (fun r_l0 a => (h_l0 K x r_l0 a)) K a
theorem eqn (K : Nat) (x : Args ps) : evF (G K) T_D L K Tryz.f43 ps rs true x = f K x := (show evF (G K) T_D L K Tryz.f43 ps rs true x = pre K (N_l0 K x) x by kernel_rfl).trans (by rw [ok_l0 K x]; rfl)
end laws_heldWordS
namespace laws_FnExactNodeJoin
theorem eqn (K : Nat) (x : Args ps) : evF (G K) T_D L K Tryz.f8 ps rs true x = f K x := by kernel_rfl
end laws_FnExactNodeJoin
end Go.Proofs.YthgnfidnmnkeaaaGreatEv
