/- The kernel finds them so. Printed by run3.py. -/
import Derived.Test.YthgnfidnmnkeaaaGreatFns
set_option linter.unusedVariables false
set_option maxRecDepth 100000
namespace Go.Proofs.YthgnfidnmnkeaaaGreatEv
open Go Go.Proofs
namespace laws_szFactS
theorem eqn (K : Nat) (x : Args ps) : evF (G K) T_D L K Tryz.f60 ps rs true x = f K x := by kernel_rfl
end laws_szFactS
namespace laws_szItemS
theorem eqn (K : Nat) (x : Args ps) : evF (G K) T_D L K Tryz.f61 ps rs true x = f K x := by kernel_rfl
end laws_szItemS
namespace laws_szIntS
theorem eqn (K : Nat) (x : Args ps) : evF (G K) T_D L K Tryz.f102 ps rs true x = f K x := by kernel_rfl
end laws_szIntS
namespace laws_szDoubt
theorem eqn (K : Nat) (x : Args ps) : evF (G K) T_D L K Tryz.f152 ps rs true x = f K x := by kernel_rfl
end laws_szDoubt
namespace laws_szDoubtS
theorem h_l0 (K : Nat) (x : Args ps) (r_l0 : St → Option Res) (a : A_l0) : ev K (sub body [1, 1, 1, 0, 1, 0, 0]) (S_l0 x a) (kLoop live_l0 r_l0 (k_l0 K x)) = l0.step K x (fun a => r_l0 (S_l0 x a)) a := by kernel_rfl
theorem ok_l0 (K : Nat) (x : Args ps) : N_l0 K x = l0 K x := funext fun a => evLoop_iter live_l0 (ev K (sub body [1, 1, 1, 0, 1, 0, 0])) (k_l0 K x) (S_l0 x) (fun rec a => l0.step K x rec a) (fun r_l0 a => (h_l0 K x r_l0 a)) K a
theorem eqn (K : Nat) (x : Args ps) : evF (G K) T_D L K Tryz.f62 ps rs true x = f K x := (show evF (G K) T_D L K Tryz.f62 ps rs true x = pre K (N_l0 K x) x by kernel_rfl).trans (by rw [ok_l0 K x]; rfl)
end laws_szDoubtS
namespace laws_szPlace
theorem eqn (K : Nat) (x : Args ps) : evF (G K) T_D L K Tryz.f153 ps rs true x = f K x := by kernel_rfl
end laws_szPlace
namespace laws_szPlaceS
theorem h_l0 (K : Nat) (x : Args ps) (r_l0 : St → Option Res) (a : A_l0) : ev K (sub body [1, 1, 1, 0, 1, 0, 0]) (S_l0 x a) (kLoop live_l0 r_l0 (k_l0 K x)) = l0.step K x (fun a => r_l0 (S_l0 x a)) a := by kernel_rfl
theorem ok_l0 (K : Nat) (x : Args ps) : N_l0 K x = l0 K x := funext fun a => evLoop_iter live_l0 (ev K (sub body [1, 1, 1, 0, 1, 0, 0])) (k_l0 K x) (S_l0 x) (fun rec a => l0.step K x rec a) (fun r_l0 a => (h_l0 K x r_l0 a)) K a
theorem eqn (K : Nat) (x : Args ps) : evF (G K) T_D L K Tryz.f63 ps rs true x = f K x := (show evF (G K) T_D L K Tryz.f63 ps rs true x = pre K (N_l0 K x) x by kernel_rfl).trans (by rw [ok_l0 K x]; rfl)
end laws_szPlaceS
namespace laws_szForeign
theorem eqn (K : Nat) (x : Args ps) : evF (G K) T_D L K Tryz.f154 ps rs true x = f K x := by kernel_rfl
end laws_szForeign
namespace laws_szForeignS
theorem h_l0 (K : Nat) (x : Args ps) (r_l0 : St → Option Res) (a : A_l0) : ev K (sub body [1, 1, 1, 0, 1, 0, 0]) (S_l0 x a) (kLoop live_l0 r_l0 (k_l0 K x)) = l0.step K x (fun a => r_l0 (S_l0 x a)) a := by kernel_rfl
theorem ok_l0 (K : Nat) (x : Args ps) : N_l0 K x = l0 K x := funext fun a => evLoop_iter live_l0 (ev K (sub body [1, 1, 1, 0, 1, 0, 0])) (k_l0 K x) (S_l0 x) (fun rec a => l0.step K x rec a) (fun r_l0 a => (h_l0 K x r_l0 a)) K a
theorem eqn (K : Nat) (x : Args ps) : evF (G K) T_D L K Tryz.f64 ps rs true x = f K x := (show evF (G K) T_D L K Tryz.f64 ps rs true x = pre K (N_l0 K x) x by kernel_rfl).trans (by rw [ok_l0 K x]; rfl)
end laws_szForeignS
namespace laws_szNode
theorem eqn (K : Nat) (x : Args ps) : evF (G K) T_D L K Tryz.f15 ps rs true x = f K x := by kernel_rfl
end laws_szNode
namespace laws_szNodeS
theorem h_l0 (K : Nat) (x : Args ps) (r_l0 : St → Option Res) (a : A_l0) : ev K (sub body [1, 1, 1, 0, 1, 0, 0]) (S_l0 x a) (kLoop live_l0 r_l0 (k_l0 K x)) = l0.step K x (fun a => r_l0 (S_l0 x a)) a := by kernel_rfl
theorem ok_l0 (K : Nat) (x : Args ps) : N_l0 K x = l0 K x := funext fun a => evLoop_iter live_l0 (ev K (sub body [1, 1, 1, 0, 1, 0, 0])) (k_l0 K x) (S_l0 x) (fun rec a => l0.step K x rec a) (fun r_l0 a => (h_l0 K x r_l0 a)) K a
theorem eqn (K : Nat) (x : Args ps) : evF (G K) T_D L K Tryz.f100 ps rs true x = f K x := (show evF (G K) T_D L K Tryz.f100 ps rs true x = pre K (N_l0 K x) x by kernel_rfl).trans (by rw [ok_l0 K x]; rfl)
end laws_szNodeS
namespace laws_szFlight
theorem eqn (K : Nat) (x : Args ps) : evF (G K) T_D L K Tryz.f186 ps rs true x = f K x := by kernel_rfl
end laws_szFlight
namespace laws_szFlightS
theorem h_l0 (K : Nat) (x : Args ps) (r_l0 : St → Option Res) (a : A_l0) : ev K (sub body [1, 1, 1, 0, 1, 0, 0]) (S_l0 x a) (kLoop live_l0 r_l0 (k_l0 K x)) = l0.step K x (fun a => r_l0 (S_l0 x a)) a := by kernel_rfl
theorem ok_l0 (K : Nat) (x : Args ps) : N_l0 K x = l0 K x := funext fun a => evLoop_iter live_l0 (ev K (sub body [1, 1, 1, 0, 1, 0, 0])) (k_l0 K x) (S_l0 x) (fun rec a => l0.step K x rec a) (fun r_l0 a => (h_l0 K x r_l0 a)) K a
theorem eqn (K : Nat) (x : Args ps) : evF (G K) T_D L K Tryz.f101 ps rs true x = f K x := (show evF (G K) T_D L K Tryz.f101 ps rs true x = pre K (N_l0 K x) x by kernel_rfl).trans (by rw [ok_l0 K x]; rfl)
end laws_szFlightS
namespace laws_szWorld
theorem eqn (K : Nat) (x : Args ps) : evF (G K) T_D L K Tryz.f31 ps rs true x = f K x := by kernel_rfl
end laws_szWorld
namespace laws_toFact
theorem eqn (K : Nat) (x : Args ps) : evF (G K) T_D L K Tryz.f165 ps rs true x = f K x := by kernel_rfl
end laws_toFact
namespace laws_toFactS
theorem h_l0 (K : Nat) (x : Args ps) (r_l0 : St → Option Res) (a : A_l0) : ev K (sub body [1, 1, 0, 1, 0, 0]) (S_l0 x a) (kLoop live_l0 r_l0 (k_l0 K x)) = l0.step K x (fun a => r_l0 (S_l0 x a)) a := by kernel_rfl
theorem ok_l0 (K : Nat) (x : Args ps) : N_l0 K x = l0 K x := funext fun a => evLoop_iter live_l0 (ev K (sub body [1, 1, 0, 1, 0, 0])) (k_l0 K x) (S_l0 x) (fun rec a => l0.step K x rec a) (fun r_l0 a => (h_l0 K x r_l0 a)) K a
theorem eqn (K : Nat) (x : Args ps) : evF (G K) T_D L K Tryz.f67 ps rs true x = f K x := (show evF (G K) T_D L K Tryz.f67 ps rs true x = pre K (N_l0 K x) x by kernel_rfl).trans (by rw [ok_l0 K x]; rfl)
end laws_toFactS
namespace laws_toItem
theorem eqn (K : Nat) (x : Args ps) : evF (G K) T_D L K Tryz.f166 ps rs true x = f K x := by kernel_rfl
end laws_toItem
namespace laws_toItemS
theorem h_l0 (K : Nat) (x : Args ps) (r_l0 : St → Option Res) (a : A_l0) : ev K (sub body [1, 1, 0, 1, 0, 0]) (S_l0 x a) (kLoop live_l0 r_l0 (k_l0 K x)) = l0.step K x (fun a => r_l0 (S_l0 x a)) a := by kernel_rfl
theorem ok_l0 (K : Nat) (x : Args ps) : N_l0 K x = l0 K x := funext fun a => evLoop_iter live_l0 (ev K (sub body [1, 1, 0, 1, 0, 0])) (k_l0 K x) (S_l0 x) (fun rec a => l0.step K x rec a) (fun r_l0 a => (h_l0 K x r_l0 a)) K a
theorem eqn (K : Nat) (x : Args ps) : evF (G K) T_D L K Tryz.f68 ps rs true x = f K x := (show evF (G K) T_D L K Tryz.f68 ps rs true x = pre K (N_l0 K x) x by kernel_rfl).trans (by rw [ok_l0 K x]; rfl)
end laws_toItemS
namespace laws_toProbe
theorem eqn (K : Nat) (x : Args ps) : evF (G K) T_D L K Tryz.f69 ps rs true x = f K x := by kernel_rfl
end laws_toProbe
namespace laws_toIntS
theorem h_l0 (K : Nat) (x : Args ps) (r_l0 : St → Option Res) (a : A_l0) : ev K (sub body [1, 1, 0, 1, 0, 0]) (S_l0 x a) (kLoop live_l0 r_l0 (k_l0 K x)) = l0.step K x (fun a => r_l0 (S_l0 x a)) a := by kernel_rfl
theorem ok_l0 (K : Nat) (x : Args ps) : N_l0 K x = l0 K x := funext fun a => evLoop_iter live_l0 (ev K (sub body [1, 1, 0, 1, 0, 0])) (k_l0 K x) (S_l0 x) (fun rec a => l0.step K x rec a) (fun r_l0 a => (h_l0 K x r_l0 a)) K a
theorem eqn (K : Nat) (x : Args ps) : evF (G K) T_D L K Tryz.f109 ps rs true x = f K x := (show evF (G K) T_D L K Tryz.f109 ps rs true x = pre K (N_l0 K x) x by kernel_rfl).trans (by rw [ok_l0 K x]; rfl)
end laws_toIntS
namespace laws_toDoubt
theorem eqn (K : Nat) (x : Args ps) : evF (G K) T_D L K Tryz.f167 ps rs true x = f K x := by kernel_rfl
end laws_toDoubt
namespace laws_toDoubtS
theorem h_l0 (K : Nat) (x : Args ps) (r_l0 : St → Option Res) (a : A_l0) : ev K (sub body [1, 1, 0, 1, 0, 0]) (S_l0 x a) (kLoop live_l0 r_l0 (k_l0 K x)) = l0.step K x (fun a => r_l0 (S_l0 x a)) a := by kernel_rfl
theorem ok_l0 (K : Nat) (x : Args ps) : N_l0 K x = l0 K x := funext fun a => evLoop_iter live_l0 (ev K (sub body [1, 1, 0, 1, 0, 0])) (k_l0 K x) (S_l0 x) (fun rec a => l0.step K x rec a) (fun r_l0 a => (h_l0 K x r_l0 a)) K a
theorem eqn (K : Nat) (x : Args ps) : evF (G K) T_D L K Tryz.f70 ps rs true x = f K x := (show evF (G K) T_D L K Tryz.f70 ps rs true x = pre K (N_l0 K x) x by kernel_rfl).trans (by rw [ok_l0 K x]; rfl)
end laws_toDoubtS
namespace laws_toCoord
theorem eqn (K : Nat) (x : Args ps) : evF (G K) T_D L K Tryz.f71 ps rs true x = f K x := by kernel_rfl
end laws_toCoord
namespace laws_toPlace
theorem eqn (K : Nat) (x : Args ps) : evF (G K) T_D L K Tryz.f168 ps rs true x = f K x := by kernel_rfl
end laws_toPlace
namespace laws_toPlaceS
theorem h_l0 (K : Nat) (x : Args ps) (r_l0 : St → Option Res) (a : A_l0) : ev K (sub body [1, 1, 0, 1, 0, 0]) (S_l0 x a) (kLoop live_l0 r_l0 (k_l0 K x)) = l0.step K x (fun a => r_l0 (S_l0 x a)) a := by kernel_rfl
theorem ok_l0 (K : Nat) (x : Args ps) : N_l0 K x = l0 K x := funext fun a => evLoop_iter live_l0 (ev K (sub body [1, 1, 0, 1, 0, 0])) (k_l0 K x) (S_l0 x) (fun rec a => l0.step K x rec a) (fun r_l0 a => (h_l0 K x r_l0 a)) K a
theorem eqn (K : Nat) (x : Args ps) : evF (G K) T_D L K Tryz.f72 ps rs true x = f K x := (show evF (G K) T_D L K Tryz.f72 ps rs true x = pre K (N_l0 K x) x by kernel_rfl).trans (by rw [ok_l0 K x]; rfl)
end laws_toPlaceS
namespace laws_toForeign
theorem eqn (K : Nat) (x : Args ps) : evF (G K) T_D L K Tryz.f169 ps rs true x = f K x := by kernel_rfl
end laws_toForeign
namespace laws_toForeignS
theorem h_l0 (K : Nat) (x : Args ps) (r_l0 : St → Option Res) (a : A_l0) : ev K (sub body [1, 1, 0, 1, 0, 0]) (S_l0 x a) (kLoop live_l0 r_l0 (k_l0 K x)) = l0.step K x (fun a => r_l0 (S_l0 x a)) a := by kernel_rfl
theorem ok_l0 (K : Nat) (x : Args ps) : N_l0 K x = l0 K x := funext fun a => evLoop_iter live_l0 (ev K (sub body [1, 1, 0, 1, 0, 0])) (k_l0 K x) (S_l0 x) (fun rec a => l0.step K x rec a) (fun r_l0 a => (h_l0 K x r_l0 a)) K a
theorem eqn (K : Nat) (x : Args ps) : evF (G K) T_D L K Tryz.f73 ps rs true x = f K x := (show evF (G K) T_D L K Tryz.f73 ps rs true x = pre K (N_l0 K x) x by kernel_rfl).trans (by rw [ok_l0 K x]; rfl)
end laws_toForeignS
namespace laws_toNode
theorem eqn (K : Nat) (x : Args ps) : evF (G K) T_D L K Tryz.f17 ps rs true x = f K x := by kernel_rfl
end laws_toNode
namespace laws_toNodeS
theorem h_l0 (K : Nat) (x : Args ps) (r_l0 : St → Option Res) (a : A_l0) : ev K (sub body [1, 1, 0, 1, 0, 0]) (S_l0 x a) (kLoop live_l0 r_l0 (k_l0 K x)) = l0.step K x (fun a => r_l0 (S_l0 x a)) a := by kernel_rfl
theorem ok_l0 (K : Nat) (x : Args ps) : N_l0 K x = l0 K x := funext fun a => evLoop_iter live_l0 (ev K (sub body [1, 1, 0, 1, 0, 0])) (k_l0 K x) (S_l0 x) (fun rec a => l0.step K x rec a) (fun r_l0 a => (h_l0 K x r_l0 a)) K a
theorem eqn (K : Nat) (x : Args ps) : evF (G K) T_D L K Tryz.f107 ps rs true x = f K x := (show evF (G K) T_D L K Tryz.f107 ps rs true x = pre K (N_l0 K x) x by kernel_rfl).trans (by rw [ok_l0 K x]; rfl)
end laws_toNodeS
namespace laws_toFlight
theorem eqn (K : Nat) (x : Args ps) : evF (G K) T_D L K Tryz.f188 ps rs true x = f K x := by kernel_rfl
end laws_toFlight
namespace laws_toFlightS
theorem h_l0 (K : Nat) (x : Args ps) (r_l0 : St → Option Res) (a : A_l0) : ev K (sub body [1, 1, 0, 1, 0, 0]) (S_l0 x a) (kLoop live_l0 r_l0 (k_l0 K x)) = l0.step K x (fun a => r_l0 (S_l0 x a)) a := by kernel_rfl
theorem ok_l0 (K : Nat) (x : Args ps) : N_l0 K x = l0 K x := funext fun a => evLoop_iter live_l0 (ev K (sub body [1, 1, 0, 1, 0, 0])) (k_l0 K x) (S_l0 x) (fun rec a => l0.step K x rec a) (fun r_l0 a => (h_l0 K x r_l0 a)) K a
theorem eqn (K : Nat) (x : Args ps) : evF (G K) T_D L K Tryz.f108 ps rs true x = f K x := (show evF (G K) T_D L K Tryz.f108 ps rs true x = pre K (N_l0 K x) x by kernel_rfl).trans (by rw [ok_l0 K x]; rfl)
end laws_toFlightS
namespace laws_toWorld
theorem eqn (K : Nat) (x : Args ps) : evF (G K) T_D L K Tryz.f33 ps rs true x = f K x := by kernel_rfl
end laws_toWorld
namespace laws_eqIntS
theorem h_l0 (K : Nat) (x : Args ps) (r_l0 : St → Option Res) (a : A_l0) : ev K (sub body [1, 1, 0, 1, 0, 0]) (S_l0 x a) (kLoop live_l0 r_l0 (k_l0 K x)) = l0.step K x (fun a => r_l0 (S_l0 x a)) a := by kernel_rfl
theorem ok_l0 (K : Nat) (x : Args ps) : N_l0 K x = l0 K x := funext fun a => evLoop_iter live_l0 (ev K (sub body [1, 1, 0, 1, 0, 0])) (k_l0 K x) (S_l0 x) (fun rec a => l0.step K x rec a) (fun r_l0 a => (h_l0 K x r_l0 a)) K a
theorem eqn (K : Nat) (x : Args ps) : evF (G K) T_D L K Tryz.f27 ps rs true x = f K x := (show evF (G K) T_D L K Tryz.f27 ps rs true x = pre K (N_l0 K x) x by kernel_rfl).trans (by rw [ok_l0 K x]; rfl)
end laws_eqIntS
namespace laws_eqFact
theorem eqn (K : Nat) (x : Args ps) : evF (G K) T_D L K Tryz.f136 ps rs true x = f K x := by kernel_rfl
end laws_eqFact
namespace laws_eqFactS
theorem h_l0 (K : Nat) (x : Args ps) (r_l0 : St → Option Res) (a : A_l0) : ev K (sub body [1, 1, 0, 1, 0, 0]) (S_l0 x a) (kLoop live_l0 r_l0 (k_l0 K x)) = l0.step K x (fun a => r_l0 (S_l0 x a)) a := by kernel_rfl
theorem ok_l0 (K : Nat) (x : Args ps) : N_l0 K x = l0 K x := funext fun a => evLoop_iter live_l0 (ev K (sub body [1, 1, 0, 1, 0, 0])) (k_l0 K x) (S_l0 x) (fun rec a => l0.step K x rec a) (fun r_l0 a => (h_l0 K x r_l0 a)) K a
theorem eqn (K : Nat) (x : Args ps) : evF (G K) T_D L K Tryz.f46 ps rs true x = f K x := (show evF (G K) T_D L K Tryz.f46 ps rs true x = pre K (N_l0 K x) x by kernel_rfl).trans (by rw [ok_l0 K x]; rfl)
end laws_eqFactS
namespace laws_eqItem
theorem eqn (K : Nat) (x : Args ps) : evF (G K) T_D L K Tryz.f178 ps rs true x = f K x := by kernel_rfl
end laws_eqItem
namespace laws_eqItemS
theorem h_l0 (K : Nat) (x : Args ps) (r_l0 : St → Option Res) (a : A_l0) : ev K (sub body [1, 1, 0, 1, 0, 0]) (S_l0 x a) (kLoop live_l0 r_l0 (k_l0 K x)) = l0.step K x (fun a => r_l0 (S_l0 x a)) a := by kernel_rfl
theorem ok_l0 (K : Nat) (x : Args ps) : N_l0 K x = l0 K x := funext fun a => evLoop_iter live_l0 (ev K (sub body [1, 1, 0, 1, 0, 0])) (k_l0 K x) (S_l0 x) (fun rec a => l0.step K x rec a) (fun r_l0 a => (h_l0 K x r_l0 a)) K a
theorem eqn (K : Nat) (x : Args ps) : evF (G K) T_D L K Tryz.f78 ps rs true x = f K x := (show evF (G K) T_D L K Tryz.f78 ps rs true x = pre K (N_l0 K x) x by kernel_rfl).trans (by rw [ok_l0 K x]; rfl)
end laws_eqItemS
namespace laws_eqProbe
theorem eqn (K : Nat) (x : Args ps) : evF (G K) T_D L K Tryz.f79 ps rs true x = f K x := by kernel_rfl
end laws_eqProbe
namespace laws_eqDoubt
theorem eqn (K : Nat) (x : Args ps) : evF (G K) T_D L K Tryz.f179 ps rs true x = f K x := by kernel_rfl
end laws_eqDoubt
namespace laws_eqDoubtS
theorem h_l0 (K : Nat) (x : Args ps) (r_l0 : St → Option Res) (a : A_l0) : ev K (sub body [1, 1, 0, 1, 0, 0]) (S_l0 x a) (kLoop live_l0 r_l0 (k_l0 K x)) = l0.step K x (fun a => r_l0 (S_l0 x a)) a := by kernel_rfl
theorem ok_l0 (K : Nat) (x : Args ps) : N_l0 K x = l0 K x := funext fun a => evLoop_iter live_l0 (ev K (sub body [1, 1, 0, 1, 0, 0])) (k_l0 K x) (S_l0 x) (fun rec a => l0.step K x rec a) (fun r_l0 a => (h_l0 K x r_l0 a)) K a
theorem eqn (K : Nat) (x : Args ps) : evF (G K) T_D L K Tryz.f80 ps rs true x = f K x := (show evF (G K) T_D L K Tryz.f80 ps rs true x = pre K (N_l0 K x) x by kernel_rfl).trans (by rw [ok_l0 K x]; rfl)
end laws_eqDoubtS
namespace laws_eqCoord
theorem eqn (K : Nat) (x : Args ps) : evF (G K) T_D L K Tryz.f81 ps rs true x = f K x := by kernel_rfl
end laws_eqCoord
namespace laws_eqPlace
theorem eqn (K : Nat) (x : Args ps) : evF (G K) T_D L K Tryz.f180 ps rs true x = f K x := by kernel_rfl
end laws_eqPlace
namespace laws_eqPlaceS
theorem h_l0 (K : Nat) (x : Args ps) (r_l0 : St → Option Res) (a : A_l0) : ev K (sub body [1, 1, 0, 1, 0, 0]) (S_l0 x a) (kLoop live_l0 r_l0 (k_l0 K x)) = l0.step K x (fun a => r_l0 (S_l0 x a)) a := by kernel_rfl
theorem ok_l0 (K : Nat) (x : Args ps) : N_l0 K x = l0 K x := funext fun a => evLoop_iter live_l0 (ev K (sub body [1, 1, 0, 1, 0, 0])) (k_l0 K x) (S_l0 x) (fun rec a => l0.step K x rec a) (fun r_l0 a => (h_l0 K x r_l0 a)) K a
theorem eqn (K : Nat) (x : Args ps) : evF (G K) T_D L K Tryz.f82 ps rs true x = f K x := (show evF (G K) T_D L K Tryz.f82 ps rs true x = pre K (N_l0 K x) x by kernel_rfl).trans (by rw [ok_l0 K x]; rfl)
end laws_eqPlaceS
namespace laws_eqForeign
theorem eqn (K : Nat) (x : Args ps) : evF (G K) T_D L K Tryz.f181 ps rs true x = f K x := by kernel_rfl
end laws_eqForeign
namespace laws_eqForeignS
theorem h_l0 (K : Nat) (x : Args ps) (r_l0 : St → Option Res) (a : A_l0) : ev K (sub body [1, 1, 0, 1, 0, 0]) (S_l0 x a) (kLoop live_l0 r_l0 (k_l0 K x)) = l0.step K x (fun a => r_l0 (S_l0 x a)) a := by kernel_rfl
theorem ok_l0 (K : Nat) (x : Args ps) : N_l0 K x = l0 K x := funext fun a => evLoop_iter live_l0 (ev K (sub body [1, 1, 0, 1, 0, 0])) (k_l0 K x) (S_l0 x) (fun rec a => l0.step K x rec a) (fun r_l0 a => (h_l0 K x r_l0 a)) K a
theorem eqn (K : Nat) (x : Args ps) : evF (G K) T_D L K Tryz.f83 ps rs true x = f K x := (show evF (G K) T_D L K Tryz.f83 ps rs true x = pre K (N_l0 K x) x by kernel_rfl).trans (by rw [ok_l0 K x]; rfl)
end laws_eqForeignS
namespace laws_eqNode
theorem eqn (K : Nat) (x : Args ps) : evF (G K) T_D L K Tryz.f19 ps rs true x = f K x := by kernel_rfl
end laws_eqNode
namespace laws_eqNodeS
theorem h_l0 (K : Nat) (x : Args ps) (r_l0 : St → Option Res) (a : A_l0) : ev K (sub body [1, 1, 0, 1, 0, 0]) (S_l0 x a) (kLoop live_l0 r_l0 (k_l0 K x)) = l0.step K x (fun a => r_l0 (S_l0 x a)) a := by kernel_rfl
theorem ok_l0 (K : Nat) (x : Args ps) : N_l0 K x = l0 K x := funext fun a => evLoop_iter live_l0 (ev K (sub body [1, 1, 0, 1, 0, 0])) (k_l0 K x) (S_l0 x) (fun rec a => l0.step K x rec a) (fun r_l0 a => (h_l0 K x r_l0 a)) K a
theorem eqn (K : Nat) (x : Args ps) : evF (G K) T_D L K Tryz.f117 ps rs true x = f K x := (show evF (G K) T_D L K Tryz.f117 ps rs true x = pre K (N_l0 K x) x by kernel_rfl).trans (by rw [ok_l0 K x]; rfl)
end laws_eqNodeS
namespace laws_eqFlight
theorem eqn (K : Nat) (x : Args ps) : evF (G K) T_D L K Tryz.f191 ps rs true x = f K x := by kernel_rfl
end laws_eqFlight
namespace laws_eqFlightS
theorem h_l0 (K : Nat) (x : Args ps) (r_l0 : St → Option Res) (a : A_l0) : ev K (sub body [1, 1, 0, 1, 0, 0]) (S_l0 x a) (kLoop live_l0 r_l0 (k_l0 K x)) = l0.step K x (fun a => r_l0 (S_l0 x a)) a := by kernel_rfl
theorem ok_l0 (K : Nat) (x : Args ps) : N_l0 K x = l0 K x := funext fun a => evLoop_iter live_l0 (ev K (sub body [1, 1, 0, 1, 0, 0])) (k_l0 K x) (S_l0 x) (fun rec a => l0.step K x rec a) (fun r_l0 a => (h_l0 K x r_l0 a)) K a
theorem eqn (K : Nat) (x : Args ps) : evF (G K) T_D L K Tryz.f118 ps rs true x = f K x := (show evF (G K) T_D L K Tryz.f118 ps rs true x = pre K (N_l0 K x) x by kernel_rfl).trans (by rw [ok_l0 K x]; rfl)
end laws_eqFlightS
namespace laws_eqWorld
theorem eqn (K : Nat) (x : Args ps) : evF (G K) T_D L K Tryz.f35 ps rs true x = f K x := by kernel_rfl
end laws_eqWorld
namespace spec_l21Site
theorem eqn (K : Nat) (x : Args ps) : evF (G K) T_S L K Tryz.f92 ps rs true x = f K x := by kernel_rfl
end spec_l21Site
namespace spec_l1In
theorem eqn (K : Nat) (x : Args ps) : evF (G K) T_S L K Tryz.f104 ps rs true x = f K x := by kernel_rfl
end spec_l1In
namespace spec_FactOk
theorem eqn (K : Nat) (x : Args ps) : evF (G K) T_S L K Tryz.f105 ps rs true x = f K x := by kernel_rfl
end spec_FactOk
namespace spec_TableOk
theorem h_l0 (K : Nat) (x : Args ps) (r_l0 : St → Option Res) (a : A_l0) : ev K (sub body [1, 0, 1, 0, 0]) (S_l0 x a) (kLoop live_l0 r_l0 (k_l0 K x)) = l0.step K x (fun a => r_l0 (S_l0 x a)) a := by kernel_rfl
theorem ok_l0 (K : Nat) (x : Args ps) : N_l0 K x = l0 K x := funext fun a => evLoop_iter live_l0 (ev K (sub body [1, 0, 1, 0, 0])) (k_l0 K x) (S_l0 x) (fun rec a => l0.step K x rec a) (fun r_l0 a => (h_l0 K x r_l0 a)) K a
theorem eqn (K : Nat) (x : Args ps) : evF (G K) T_S L K Tryz.f155 ps rs true x = f K x := (show evF (G K) T_S L K Tryz.f155 ps rs true x = pre K (N_l0 K x) x by kernel_rfl).trans (by rw [ok_l0 K x]; rfl)
end spec_TableOk
namespace spec_l4Site
theorem h_l0 (K : Nat) (x : Args ps) (r_l0 : St → Option Res) (a : A_l0) : ev K (sub body [1, 0, 1, 0, 0]) (S_l0 x a) (kLoop live_l0 r_l0 (k_l0 K x)) = l0.step K x (fun a => r_l0 (S_l0 x a)) a := by kernel_rfl
theorem ok_l0 (K : Nat) (x : Args ps) : N_l0 K x = l0 K x := funext fun a => evLoop_iter live_l0 (ev K (sub body [1, 0, 1, 0, 0])) (k_l0 K x) (S_l0 x) (fun rec a => l0.step K x rec a) (fun r_l0 a => (h_l0 K x r_l0 a)) K a
theorem eqn (K : Nat) (x : Args ps) : evF (G K) T_S L K Tryz.f156 ps rs true x = f K x := (show evF (G K) T_S L K Tryz.f156 ps rs true x = pre K (N_l0 K x) x by kernel_rfl).trans (by rw [ok_l0 K x]; rfl)
end spec_l4Site
namespace spec_l3Find
theorem h_l0 (K : Nat) (x : Args ps) (r_l0 : St → Option Res) (a : A_l0) : ev K (sub body [1, 0, 1, 0, 0]) (S_l0 x a) (kLoop live_l0 r_l0 (k_l0 K x)) = l0.step K x (fun a => r_l0 (S_l0 x a)) a := by kernel_rfl
theorem ok_l0 (K : Nat) (x : Args ps) : N_l0 K x = l0 K x := funext fun a => evLoop_iter live_l0 (ev K (sub body [1, 0, 1, 0, 0])) (k_l0 K x) (S_l0 x) (fun rec a => l0.step K x rec a) (fun r_l0 a => (h_l0 K x r_l0 a)) K a
theorem eqn (K : Nat) (x : Args ps) : evF (G K) T_S L K Tryz.f119 ps rs true x = f K x := (show evF (G K) T_S L K Tryz.f119 ps rs true x = pre K (N_l0 K x) x by kernel_rfl).trans (by rw [ok_l0 K x]; rfl)
end spec_l3Find
namespace spec_l21Self
theorem eqn (K : Nat) (x : Args ps) : evF (G K) T_S L K Tryz.f157 ps rs true x = f K x := by kernel_rfl
end spec_l21Self
namespace spec_l3Over
theorem eqn (K : Nat) (x : Args ps) : evF (G K) T_S L K Tryz.f187 ps rs true x = f K x := by kernel_rfl
end spec_l3Over
namespace spec_CastOk
theorem h_l0 (K : Nat) (x : Args ps) (r_l0 : St → Option Res) (a : A_l0) : ev K (sub body [1, 0, 1, 0, 0]) (S_l0 x a) (kLoop live_l0 r_l0 (k_l0 K x)) = l0.step K x (fun a => r_l0 (S_l0 x a)) a := by kernel_rfl
theorem ok_l0 (K : Nat) (x : Args ps) : N_l0 K x = l0 K x := funext fun a => evLoop_iter live_l0 (ev K (sub body [1, 0, 1, 0, 0])) (k_l0 K x) (S_l0 x) (fun rec a => l0.step K x rec a) (fun r_l0 a => (h_l0 K x r_l0 a)) K a
theorem eqn (K : Nat) (x : Args ps) : evF (G K) T_S L K Tryz.f230 ps rs true x = f K x := (show evF (G K) T_S L K Tryz.f230 ps rs true x = pre K (N_l0 K x) x by kernel_rfl).trans (by rw [ok_l0 K x]; rfl)
end spec_CastOk
namespace spec_l21CastOk
theorem h_l0 (K : Nat) (x : Args ps) (r_l0 : St → Option Res) (a : A_l0) : ev K (sub body [1, 1, 0, 1, 0, 0]) (S_l0 x a) (kLoop live_l0 r_l0 (k_l0 K x)) = l0.step K x (fun a => r_l0 (S_l0 x a)) a := by kernel_rfl
theorem ok_l0 (K : Nat) (x : Args ps) : N_l0 K x = l0 K x := funext fun a => evLoop_iter live_l0 (ev K (sub body [1, 1, 0, 1, 0, 0])) (k_l0 K x) (S_l0 x) (fun rec a => l0.step K x rec a) (fun r_l0 a => (h_l0 K x r_l0 a)) K a
theorem eqn (K : Nat) (x : Args ps) : evF (G K) T_S L K Tryz.f158 ps rs true x = f K x := (show evF (G K) T_S L K Tryz.f158 ps rs true x = pre K (N_l0 K x) x by kernel_rfl).trans (by rw [ok_l0 K x]; rfl)
end spec_l21CastOk
namespace spec_l21ProbeOk
theorem eqn (K : Nat) (x : Args ps) : evF (G K) T_S L K Tryz.f159 ps rs true x = f K x := by kernel_rfl
end spec_l21ProbeOk
namespace spec_l21DoubtsOk
theorem h_l1 (K : Nat) (x : Args ps) (r_l0 : St → Option Res) (r_l1 : St → Option Res) (a : A_l1) : ev K (sub body [1, 0, 1, 0, 0, 1, 0, 0, 1, 1, 1, 1, 0, 0]) (S_l1 x a) (kLoop live_l1 r_l1 (k_l1 K x r_l0)) = l1.step K x (fun a => r_l0 (S_l0 x a)) (fun a => r_l1 (S_l1 x a)) a := by kernel_rfl
theorem ok_l1 (K : Nat) (x : Args ps) (r_l0 : St → Option Res) : N_l1 K x r_l0 = l1 K x (fun a => r_l0 (S_l0 x a)) := funext fun a => evLoop_iter live_l1 (ev K (sub body [1, 0, 1, 0, 0, 1, 0, 0, 1, 1, 1, 1, 0, 0])) (k_l1 K x r_l0) (S_l1 x) (fun rec a => l1.step K x (fun a => r_l0 (S_l0 x a)) rec a) (fun r_l1 a => (h_l1 K x r_l0 r_l1 a)) K a
theorem h_l2 (K : Nat) (x : Args ps) (r_l2 : St → Option Res) (a : A_l2) : ev K (sub body [1, 1, 1, 0, 1, 0, 0]) (S_l2 x a) (kLoop live_l2 r_l2 (k_l2 K x)) = l2.step K x (fun a => r_l2 (S_l2 x a)) a := by kernel_rfl
theorem ok_l2 (K : Nat) (x : Args ps) : N_l2 K x = l2 K x := funext fun a => evLoop_iter live_l2 (ev K (sub body [1, 1, 1, 0, 1, 0, 0])) (k_l2 K x) (S_l2 x) (fun rec a => l2.step K x rec a) (fun r_l2 a => (h_l2 K x r_l2 a)) K a
theorem h_l0 (K : Nat) (x : Args ps) (r_l0 : St → Option Res) (a : A_l0) : ev K (sub body [1, 0, 1, 0, 0]) (S_l0 x a) (kLoop live_l0 r_l0 (k_l0 K x)) = l0.step K x (N_l1 K x r_l0) (N_l2 K x) (fun a => r_l0 (S_l0 x a)) a := by kernel_rfl
theorem ok_l0 (K : Nat) (x : Args ps) : N_l0 K x = l0 K x := funext fun a => evLoop_iter live_l0 (ev K (sub body [1, 0, 1, 0, 0])) (k_l0 K x) (S_l0 x) (fun rec a => l0.step K x (l1 K x rec) (l2 K x) rec a) (fun r_l0 a => (h_l0 K x r_l0 a).trans (by rw [ok_l1 K x r_l0, ok_l2 K x])) K a
theorem eqn (K : Nat) (x : Args ps) : evF (G K) T_S L K Tryz.f160 ps rs true x = f K x := (show evF (G K) T_S L K Tryz.f160 ps rs true x = pre K (N_l0 K x) x by kernel_rfl).trans (by rw [ok_l0 K x]; rfl)
end spec_l21DoubtsOk
namespace spec_CoordOk
theorem eqn (K : Nat) (x : Args ps) : evF (G K) T_S L K Tryz.f161 ps rs true x = f K x := by kernel_rfl
end spec_CoordOk
namespace spec_l21PlacesOk
theorem h_l1 (K : Nat) (x : Args ps) (r_l0 : St → Option Res) (r_l1 : St → Option Res) (a : A_l1) : ev K (sub body [1, 0, 1, 0, 0, 1, 0, 0, 1, 1, 1, 0, 0]) (S_l1 x a) (kLoop live_l1 r_l1 (k_l1 K x r_l0)) = l1.step K x (fun a => r_l0 (S_l0 x a)) (fun a => r_l1 (S_l1 x a)) a := by kernel_rfl
theorem ok_l1 (K : Nat) (x : Args ps) (r_l0 : St → Option Res) : N_l1 K x r_l0 = l1 K x (fun a => r_l0 (S_l0 x a)) := funext fun a => evLoop_iter live_l1 (ev K (sub body [1, 0, 1, 0, 0, 1, 0, 0, 1, 1, 1, 0, 0])) (k_l1 K x r_l0) (S_l1 x) (fun rec a => l1.step K x (fun a => r_l0 (S_l0 x a)) rec a) (fun r_l1 a => (h_l1 K x r_l0 r_l1 a)) K a
theorem h_l0 (K : Nat) (x : Args ps) (r_l0 : St → Option Res) (a : A_l0) : ev K (sub body [1, 0, 1, 0, 0]) (S_l0 x a) (kLoop live_l0 r_l0 (k_l0 K x)) = l0.step K x (N_l1 K x r_l0) (fun a => r_l0 (S_l0 x a)) a := by kernel_rfl
theorem ok_l0 (K : Nat) (x : Args ps) : N_l0 K x = l0 K x := funext fun a => evLoop_iter live_l0 (ev K (sub body [1, 0, 1, 0, 0])) (k_l0 K x) (S_l0 x) (fun rec a => l0.step K x (l1 K x rec) rec a) (fun r_l0 a => (h_l0 K x r_l0 a).trans (by rw [ok_l1 K x r_l0])) K a
theorem eqn (K : Nat) (x : Args ps) : evF (G K) T_S L K Tryz.f162 ps rs true x = f K x := (show evF (G K) T_S L K Tryz.f162 ps rs true x = pre K (N_l0 K x) x by kernel_rfl).trans (by rw [ok_l0 K x]; rfl)
end spec_l21PlacesOk
namespace spec_l21OthersOk
theorem h_l0 (K : Nat) (x : Args ps) (r_l0 : St → Option Res) (a : A_l0) : ev K (sub body [1, 0, 1, 0, 0]) (S_l0 x a) (kLoop live_l0 r_l0 (k_l0 K x)) = l0.step K x (fun a => r_l0 (S_l0 x a)) a := by kernel_rfl
theorem ok_l0 (K : Nat) (x : Args ps) : N_l0 K x = l0 K x := funext fun a => evLoop_iter live_l0 (ev K (sub body [1, 0, 1, 0, 0])) (k_l0 K x) (S_l0 x) (fun rec a => l0.step K x rec a) (fun r_l0 a => (h_l0 K x r_l0 a)) K a
theorem eqn (K : Nat) (x : Args ps) : evF (G K) T_S L K Tryz.f163 ps rs true x = f K x := (show evF (G K) T_S L K Tryz.f163 ps rs true x = pre K (N_l0 K x) x by kernel_rfl).trans (by rw [ok_l0 K x]; rfl)
end spec_l21OthersOk
namespace spec_NodeOk
theorem eqn (K : Nat) (x : Args ps) : evF (G K) T_S L K Tryz.f65 ps rs true x = f K x := by kernel_rfl
end spec_NodeOk
namespace spec_l51Gate
theorem eqn (K : Nat) (x : Args ps) : evF (G K) T_S L K Tryz.f103 ps rs true x = f K x := by kernel_rfl
end spec_l51Gate
namespace spec_l51Less
theorem eqn (K : Nat) (x : Args ps) : evF (G K) T_S L K Tryz.f106 ps rs true x = f K x := by kernel_rfl
end spec_l51Less
namespace spec_WorldOk
theorem h_l2 (K : Nat) (x : Args ps) (r_l2 : St → Option Res) (a : A_l2) : ev K (sub body [1, 1, 1, 1, 0, 1, 0, 0]) (S_l2 x a) (kLoop live_l2 r_l2 (k_l2 K x)) = l2.step K x (fun a => r_l2 (S_l2 x a)) a := by kernel_rfl
theorem ok_l2 (K : Nat) (x : Args ps) : N_l2 K x = l2 K x := funext fun a => evLoop_iter live_l2 (ev K (sub body [1, 1, 1, 1, 0, 1, 0, 0])) (k_l2 K x) (S_l2 x) (fun rec a => l2.step K x rec a) (fun r_l2 a => (h_l2 K x r_l2 a)) K a
theorem h_l1 (K : Nat) (x : Args ps) (r_l1 : St → Option Res) (a : A_l1) : ev K (sub body [1, 1, 1, 0, 1, 0, 0]) (S_l1 x a) (kLoop live_l1 r_l1 (k_l1 K x)) = l1.step K x (N_l2 K x) (fun a => r_l1 (S_l1 x a)) a := by kernel_rfl
theorem ok_l1 (K : Nat) (x : Args ps) : N_l1 K x = l1 K x := funext fun a => evLoop_iter live_l1 (ev K (sub body [1, 1, 1, 0, 1, 0, 0])) (k_l1 K x) (S_l1 x) (fun rec a => l1.step K x (l2 K x) rec a) (fun r_l1 a => (h_l1 K x r_l1 a).trans (by rw [ok_l2 K x])) K a
theorem h_l0 (K : Nat) (x : Args ps) (r_l0 : St → Option Res) (a : A_l0) : ev K (sub body [1, 1, 0, 1, 0, 0]) (S_l0 x a) (kLoop live_l0 r_l0 (k_l0 K x)) = l0.step K x (N_l1 K x) (fun a => r_l0 (S_l0 x a)) a := by kernel_rfl
theorem ok_l0 (K : Nat) (x : Args ps) : N_l0 K x = l0 K x := funext fun a => evLoop_iter live_l0 (ev K (sub body [1, 1, 0, 1, 0, 0])) (k_l0 K x) (S_l0 x) (fun rec a => l0.step K x (l1 K x) rec a) (fun r_l0 a => (h_l0 K x r_l0 a).trans (by rw [ok_l1 K x])) K a
theorem eqn (K : Nat) (x : Args ps) : evF (G K) T_S L K Tryz.f32 ps rs true x = f K x := (show evF (G K) T_S L K Tryz.f32 ps rs true x = pre K (N_l0 K x) x by kernel_rfl).trans (by rw [ok_l0 K x]; rfl)
end spec_WorldOk
namespace spec_NodeView
theorem h_l1 (K : Nat) (x : Args ps) (r_l0 : St → Option Res) (r_l1 : St → Option Res) (a : A_l1) : ev K (sub body [1, 1, 1, 0, 1, 0, 0, 1, 0, 0, 1, 1, 0, 0]) (S_l1 x a) (kLoop live_l1 r_l1 (k_l1 K x r_l0)) = l1.step K x (fun a => r_l0 (S_l0 x a)) (fun a => r_l1 (S_l1 x a)) a := by kernel_rfl
theorem ok_l1 (K : Nat) (x : Args ps) (r_l0 : St → Option Res) : N_l1 K x r_l0 = l1 K x (fun a => r_l0 (S_l0 x a)) := funext fun a => evLoop_iter live_l1 (ev K (sub body [1, 1, 1, 0, 1, 0, 0, 1, 0, 0, 1, 1, 0, 0])) (k_l1 K x r_l0) (S_l1 x) (fun rec a => l1.step K x (fun a => r_l0 (S_l0 x a)) rec a) (fun r_l1 a => (h_l1 K x r_l0 r_l1 a)) K a
theorem h_l0 (K : Nat) (x : Args ps) (r_l0 : St → Option Res) (a : A_l0) : ev K (sub body [1, 1, 1, 0, 1, 0, 0]) (S_l0 x a) (kLoop live_l0 r_l0 (k_l0 K x)) = l0.step K x (N_l1 K x r_l0) (fun a => r_l0 (S_l0 x a)) a := by kernel_rfl
theorem ok_l0 (K : Nat) (x : Args ps) : N_l0 K x = l0 K x := funext fun a => evLoop_iter live_l0 (ev K (sub body [1, 1, 1, 0, 1, 0, 0])) (k_l0 K x) (S_l0 x) (fun rec a => l0.step K x (l1 K x rec) rec a) (fun r_l0 a => (h_l0 K x r_l0 a).trans (by rw [ok_l1 K x r_l0])) K a
theorem eqn (K : Nat) (x : Args ps) : evF (G K) T_S L K Tryz.f44 ps rs true x = f K x := (show evF (G K) T_S L K Tryz.f44 ps rs true x = pre K (N_l0 K x) x by kernel_rfl).trans (by rw [ok_l0 K x]; rfl)
end spec_NodeView
namespace spec_l52Facts
theorem h_l0 (K : Nat) (x : Args ps) (r_l0 : St → Option Res) (a : A_l0) : ev K (sub body [1, 1, 0, 1, 0, 0]) (S_l0 x a) (kLoop live_l0 r_l0 (k_l0 K x)) = l0.step K x (fun a => r_l0 (S_l0 x a)) a := by kernel_rfl
theorem ok_l0 (K : Nat) (x : Args ps) : N_l0 K x = l0 K x := funext fun a => evLoop_iter live_l0 (ev K (sub body [1, 1, 0, 1, 0, 0])) (k_l0 K x) (S_l0 x) (fun rec a => l0.step K x rec a) (fun r_l0 a => (h_l0 K x r_l0 a)) K a
theorem eqn (K : Nat) (x : Args ps) : evF (G K) T_S L K Tryz.f142 ps rs true x = f K x := (show evF (G K) T_S L K Tryz.f142 ps rs true x = pre K (N_l0 K x) x by kernel_rfl).trans (by rw [ok_l0 K x]; rfl)
end spec_l52Facts
namespace spec_WorldSame
theorem h_l1 (K : Nat) (x : Args ps) (r_l1 : St → Option Res) (a : A_l1) : ev K (sub body [1, 1, 1, 1, 1, 1, 0, 1, 0, 0]) (S_l1 x a) (kLoop live_l1 r_l1 (k_l1 K x)) = l1.step K x (fun a => r_l1 (S_l1 x a)) a := by kernel_rfl
theorem ok_l1 (K : Nat) (x : Args ps) : N_l1 K x = l1 K x := funext fun a => evLoop_iter live_l1 (ev K (sub body [1, 1, 1, 1, 1, 1, 0, 1, 0, 0])) (k_l1 K x) (S_l1 x) (fun rec a => l1.step K x rec a) (fun r_l1 a => (h_l1 K x r_l1 a)) K a
theorem h_l0 (K : Nat) (x : Args ps) (r_l0 : St → Option Res) (a : A_l0) : ev K (sub body [1, 1, 1, 1, 0, 1, 0, 0]) (S_l0 x a) (kLoop live_l0 r_l0 (k_l0 K x)) = l0.step K x (N_l1 K x) (fun a => r_l0 (S_l0 x a)) a := by kernel_rfl
theorem ok_l0 (K : Nat) (x : Args ps) : N_l0 K x = l0 K x := funext fun a => evLoop_iter live_l0 (ev K (sub body [1, 1, 1, 1, 0, 1, 0, 0])) (k_l0 K x) (S_l0 x) (fun rec a => l0.step K x (l1 K x) rec a) (fun r_l0 a => (h_l0 K x r_l0 a).trans (by rw [ok_l1 K x])) K a
theorem eqn (K : Nat) (x : Args ps) : evF (G K) T_S L K Tryz.f51 ps rs true x = f K x := (show evF (G K) T_S L K Tryz.f51 ps rs true x = pre K (N_l0 K x) x by kernel_rfl).trans (by rw [ok_l0 K x]; rfl)
end spec_WorldSame
namespace impl_in
theorem eqn (K : Nat) (x : Args ps) : evF (G K) T_D L K Tryz.f111 ps rs true x = f K x := by kernel_rfl
end impl_in
namespace impl_isNode
theorem eqn (K : Nat) (x : Args ps) : evF (G K) T_D L K Tryz.f116 ps rs true x = f K x := by kernel_rfl
end impl_isNode
namespace impl_Node_isDown
theorem eqn (K : Nat) (x : Args ps) : evF (G K) T_D L K Tryz.f170 ps rs true x = f K x := by kernel_rfl
end impl_Node_isDown
namespace slices_IndexFunc_impl_Fact_impl_Fact
theorem h_l0 (K : Nat) (x : Args ps) (r_l0 : St → Option Res) (a : A_l0) : ev K (sub body [1, 0, 1, 0, 0]) (S_l0 x a) (kLoop live_l0 r_l0 (k_l0 K x)) = l0.step K x (fun a => r_l0 (S_l0 x a)) a := by kernel_rfl
theorem ok_l0 (K : Nat) (x : Args ps) : N_l0 K x = l0 K x := funext fun a => evLoop_iter live_l0 (ev K (sub body [1, 0, 1, 0, 0])) (k_l0 K x) (S_l0 x) (fun rec a => l0.step K x rec a) (fun r_l0 a => (h_l0 K x r_l0 a)) K a
theorem eqn (K : Nat) (x : Args ps) : evF (G K) T_D L K Tryz.f206 ps rs true x = f K x := (show evF (G K) T_D L K Tryz.f206 ps rs true x = pre K (N_l0 K x) x by kernel_rfl).trans (by rw [ok_l0 K x]; rfl)
end slices_IndexFunc_impl_Fact_impl_Fact
namespace slices_ContainsFunc_impl_Fact_impl_Fact
theorem eqn (K : Nat) (x : Args ps) : evF (G K) T_D L K Tryz.f141 ps rs true x = f K x := by kernel_rfl
end slices_ContainsFunc_impl_Fact_impl_Fact
namespace impl_siteOf
theorem eqn (K : Nat) (x : Args ps) : evF (G K) T_D L K Tryz.f91 ps rs true x = f K x := by kernel_rfl
end impl_siteOf
namespace impl_ofSite_1
theorem eqn (K : Nat) (x : Args ps) : evF (G K) T_D L K Tryz.f183 ps rs true x = f K x := by kernel_rfl
end impl_ofSite_1
namespace impl_ofSite
theorem eqn (K : Nat) (x : Args ps) : evF (G K) T_D L K Tryz.f89 ps rs true x = f K x := by kernel_rfl
end impl_ofSite
namespace impl_Node_site
theorem eqn (K : Nat) (x : Args ps) : evF (G K) T_D L K Tryz.f90 ps rs true x = f K x := by kernel_rfl
end impl_Node_site
namespace impl_FactOk
theorem eqn (K : Nat) (x : Args ps) : evF (G K) T_D L K Tryz.f112 ps rs true x = f K x := by kernel_rfl
end impl_FactOk
namespace impl_TableOk
theorem h_l0 (K : Nat) (x : Args ps) (r_l0 : St → Option Res) (a : A_l0) : ev K (sub body [1, 0, 1, 0, 0]) (S_l0 x a) (kLoop live_l0 r_l0 (k_l0 K x)) = l0.step K x (fun a => r_l0 (S_l0 x a)) a := by kernel_rfl
theorem ok_l0 (K : Nat) (x : Args ps) : N_l0 K x = l0 K x := funext fun a => evLoop_iter live_l0 (ev K (sub body [1, 0, 1, 0, 0])) (k_l0 K x) (S_l0 x) (fun rec a => l0.step K x rec a) (fun r_l0 a => (h_l0 K x r_l0 a)) K a
theorem eqn (K : Nat) (x : Args ps) : evF (G K) T_D L K Tryz.f182 ps rs true x = f K x := (show evF (G K) T_D L K Tryz.f182 ps rs true x = pre K (N_l0 K x) x by kernel_rfl).trans (by rw [ok_l0 K x]; rfl)
end impl_TableOk
namespace slices_BinarySearchFunc_impl_Fact_impl_Fact_int
theorem h_l0 (K : Nat) (x : Args ps) (r_l0 : St → Option Res) (a : A_l0) : ev K (sub body [1, 1, 1, 0, 0, 0]) (S_l0 x a) (kLoop live_l0 r_l0 (k_l0 K x)) = l0.step K x (fun a => r_l0 (S_l0 x a)) a := by kernel_rfl
theorem ok_l0 (K : Nat) (x : Args ps) : N_l0 K x = l0 K x := funext fun a => evLoop_iter live_l0 (ev K (sub body [1, 1, 1, 0, 0, 0])) (k_l0 K x) (S_l0 x) (fun rec a => l0.step K x rec a) (fun r_l0 a => (h_l0 K x r_l0 a)) K a
theorem eqn (K : Nat) (x : Args ps) : evF (G K) T_D L K Tryz.f293 ps rs true x = f K x := (show evF (G K) T_D L K Tryz.f293 ps rs true x = pre K (N_l0 K x) x by kernel_rfl).trans (by rw [ok_l0 K x]; rfl)
end slices_BinarySearchFunc_impl_Fact_impl_Fact_int
namespace cmp_isNaN_int
theorem eqn (K : Nat) (x : Args ps) : evF (G K) T_D L K Tryz.f193 ps rs true x = f K x := by kernel_rfl
end cmp_isNaN_int
namespace cmp_Compare_int
theorem eqn (K : Nat) (x : Args ps) : evF (G K) T_D L K Tryz.f123 ps rs true x = f K x := by kernel_rfl
end cmp_Compare_int
namespace impl_find_1
theorem eqn (K : Nat) (x : Args ps) : evF (G K) T_D L K Tryz.f294 ps rs true x = f K x := by kernel_rfl
end impl_find_1
namespace impl_find
theorem eqn (K : Nat) (x : Args ps) : evF (G K) T_D L K Tryz.f243 ps rs true x = f K x := by kernel_rfl
end impl_find
namespace impl_TableOf
theorem eqn (K : Nat) (x : Args ps) : evF (G K) T_D L K Tryz.f194 ps rs true x = f K x := by kernel_rfl
end impl_TableOf
namespace slices_IndexFunc_impl_Item_impl_Item
theorem h_l0 (K : Nat) (x : Args ps) (r_l0 : St → Option Res) (a : A_l0) : ev K (sub body [1, 0, 1, 0, 0]) (S_l0 x a) (kLoop live_l0 r_l0 (k_l0 K x)) = l0.step K x (fun a => r_l0 (S_l0 x a)) a := by kernel_rfl
theorem ok_l0 (K : Nat) (x : Args ps) : N_l0 K x = l0 K x := funext fun a => evLoop_iter live_l0 (ev K (sub body [1, 0, 1, 0, 0])) (k_l0 K x) (S_l0 x) (fun rec a => l0.step K x rec a) (fun r_l0 a => (h_l0 K x r_l0 a)) K a
theorem eqn (K : Nat) (x : Args ps) : evF (G K) T_D L K Tryz.f290 ps rs true x = f K x := (show evF (G K) T_D L K Tryz.f290 ps rs true x = pre K (N_l0 K x) x by kernel_rfl).trans (by rw [ok_l0 K x]; rfl)
end slices_IndexFunc_impl_Item_impl_Item
namespace slices_ContainsFunc_impl_Item_impl_Item
theorem eqn (K : Nat) (x : Args ps) : evF (G K) T_D L K Tryz.f234 ps rs true x = f K x := by kernel_rfl
end slices_ContainsFunc_impl_Item_impl_Item
namespace impl_CastOk_1
theorem eqn (K : Nat) (x : Args ps) : evF (G K) T_D L K Tryz.f288 ps rs true x = f K x := by kernel_rfl
end impl_CastOk_1
namespace impl_facts
theorem h_l0 (K : Nat) (x : Args ps) (r_l0 : St → Option Res) (a : A_l0) : ev K (sub body [1, 1, 0, 1, 0, 0]) (S_l0 x a) (kLoop live_l0 r_l0 (k_l0 K x)) = l0.step K x (fun a => r_l0 (S_l0 x a)) a := by kernel_rfl
theorem ok_l0 (K : Nat) (x : Args ps) : N_l0 K x = l0 K x := funext fun a => evLoop_iter live_l0 (ev K (sub body [1, 1, 0, 1, 0, 0])) (k_l0 K x) (S_l0 x) (fun rec a => l0.step K x rec a) (fun r_l0 a => (h_l0 K x r_l0 a)) K a
theorem eqn (K : Nat) (x : Args ps) : evF (G K) T_D L K Tryz.f289 ps rs true x = f K x := (show evF (G K) T_D L K Tryz.f289 ps rs true x = pre K (N_l0 K x) x by kernel_rfl).trans (by rw [ok_l0 K x]; rfl)
end impl_facts
namespace impl_CastOk
theorem eqn (K : Nat) (x : Args ps) : evF (G K) T_D L K Tryz.f233 ps rs true x = f K x := by kernel_rfl
end impl_CastOk
namespace cmp_Or_int
theorem h_l0 (K : Nat) (x : Args ps) (r_l0 : St → Option Res) (a : A_l0) : ev K (sub body [1, 1, 0, 1, 0, 0]) (S_l0 x a) (kLoop live_l0 r_l0 (k_l0 K x)) = l0.step K x (fun a => r_l0 (S_l0 x a)) a := by kernel_rfl
theorem ok_l0 (K : Nat) (x : Args ps) : N_l0 K x = l0 K x := funext fun a => evLoop_iter live_l0 (ev K (sub body [1, 1, 0, 1, 0, 0])) (k_l0 K x) (S_l0 x) (fun rec a => l0.step K x rec a) (fun r_l0 a => (h_l0 K x r_l0 a)) K a
theorem eqn (K : Nat) (x : Args ps) : evF (G K) T_D L K Tryz.f189 ps rs true x = f K x := (show evF (G K) T_D L K Tryz.f189 ps rs true x = pre K (N_l0 K x) x by kernel_rfl).trans (by rw [ok_l0 K x]; rfl)
end cmp_Or_int
namespace impl_Fact_compare
theorem eqn (K : Nat) (x : Args ps) : evF (G K) T_D L K Tryz.f113 ps rs true x = f K x := by kernel_rfl
end impl_Fact_compare
namespace impl_FactOver
theorem eqn (K : Nat) (x : Args ps) : evF (G K) T_D L K Tryz.f236 ps rs true x = f K x := by kernel_rfl
end impl_FactOver
namespace impl_Node_tableOk_1
theorem eqn (K : Nat) (x : Args ps) : evF (G K) T_D L K Tryz.f235 ps rs true x = f K x := by kernel_rfl
end impl_Node_tableOk_1
namespace impl_Node_tableOk
theorem eqn (K : Nat) (x : Args ps) : evF (G K) T_D L K Tryz.f171 ps rs true x = f K x := by kernel_rfl
end impl_Node_tableOk
namespace impl_Node_probeOk
theorem eqn (K : Nat) (x : Args ps) : evF (G K) T_D L K Tryz.f172 ps rs true x = f K x := by kernel_rfl
end impl_Node_probeOk
namespace impl_Node_near
theorem eqn (K : Nat) (x : Args ps) : evF (G K) T_D L K Tryz.f88 ps rs true x = f K x := by kernel_rfl
end impl_Node_near
namespace impl_Node_doubtsOk
theorem h_l2 (K : Nat) (x : Args ps) (r_l1 : St → Option Res) (r_l2 : St → Option Res) (a : A_l2) : ev K (sub body [1, 1, 1, 1, 0, 1, 0, 0, 1, 1, 0, 0, 1, 1, 1, 0, 0]) (S_l2 x a) (kLoop live_l2 r_l2 (k_l2 K x r_l1)) = l2.step K x (fun a => r_l1 (S_l1 x a)) (fun a => r_l2 (S_l2 x a)) a := by kernel_rfl
theorem ok_l2 (K : Nat) (x : Args ps) (r_l1 : St → Option Res) : N_l2 K x r_l1 = l2 K x (fun a => r_l1 (S_l1 x a)) := funext fun a => evLoop_iter live_l2 (ev K (sub body [1, 1, 1, 1, 0, 1, 0, 0, 1, 1, 0, 0, 1, 1, 1, 0, 0])) (k_l2 K x r_l1) (S_l2 x) (fun rec a => l2.step K x (fun a => r_l1 (S_l1 x a)) rec a) (fun r_l2 a => (h_l2 K x r_l1 r_l2 a)) K a
theorem h_l1 (K : Nat) (x : Args ps) (r_l1 : St → Option Res) (a : A_l1) : ev K (sub body [1, 1, 1, 1, 0, 1, 0, 0]) (S_l1 x a) (kLoop live_l1 r_l1 (k_l1 K x)) = l1.step K x (N_l2 K x r_l1) (fun a => r_l1 (S_l1 x a)) a := by kernel_rfl
theorem ok_l1 (K : Nat) (x : Args ps) : N_l1 K x = l1 K x := funext fun a => evLoop_iter live_l1 (ev K (sub body [1, 1, 1, 1, 0, 1, 0, 0])) (k_l1 K x) (S_l1 x) (fun rec a => l1.step K x (l2 K x rec) rec a) (fun r_l1 a => (h_l1 K x r_l1 a).trans (by rw [ok_l2 K x r_l1])) K a
theorem h_l0 (K : Nat) (x : Args ps) (r_l0 : St → Option Res) (a : A_l0) : ev K (sub body [1, 1, 0, 1, 0, 0]) (S_l0 x a) (kLoop live_l0 r_l0 (k_l0 K x)) = l0.step K x (N_l1 K x) (fun a => r_l0 (S_l0 x a)) a := by kernel_rfl
theorem ok_l0 (K : Nat) (x : Args ps) : N_l0 K x = l0 K x := funext fun a => evLoop_iter live_l0 (ev K (sub body [1, 1, 0, 1, 0, 0])) (k_l0 K x) (S_l0 x) (fun rec a => l0.step K x (l1 K x) rec a) (fun r_l0 a => (h_l0 K x r_l0 a).trans (by rw [ok_l1 K x])) K a
theorem eqn (K : Nat) (x : Args ps) : evF (G K) T_D L K Tryz.f173 ps rs true x = f K x := (show evF (G K) T_D L K Tryz.f173 ps rs true x = pre K (N_l0 K x) x by kernel_rfl).trans (by rw [ok_l0 K x]; rfl)
end impl_Node_doubtsOk
namespace impl_CoordOk
theorem eqn (K : Nat) (x : Args ps) : evF (G K) T_D L K Tryz.f174 ps rs true x = f K x := by kernel_rfl
end impl_CoordOk
namespace impl_Node_other
theorem eqn (K : Nat) (x : Args ps) : evF (G K) T_D L K Tryz.f199 ps rs true x = f K x := by kernel_rfl
end impl_Node_other
namespace impl_Node_placesOk_1
theorem eqn (K : Nat) (x : Args ps) : evF (G K) T_D L K Tryz.f237 ps rs true x = f K x := by kernel_rfl
end impl_Node_placesOk_1
namespace slices_IndexFunc_int_int
theorem h_l0 (K : Nat) (x : Args ps) (r_l0 : St → Option Res) (a : A_l0) : ev K (sub body [1, 0, 1, 0, 0]) (S_l0 x a) (kLoop live_l0 r_l0 (k_l0 K x)) = l0.step K x (fun a => r_l0 (S_l0 x a)) a := by kernel_rfl
theorem ok_l0 (K : Nat) (x : Args ps) : N_l0 K x = l0 K x := funext fun a => evLoop_iter live_l0 (ev K (sub body [1, 0, 1, 0, 0])) (k_l0 K x) (S_l0 x) (fun rec a => l0.step K x rec a) (fun r_l0 a => (h_l0 K x r_l0 a)) K a
theorem eqn (K : Nat) (x : Args ps) : evF (G K) T_D L K Tryz.f291 ps rs true x = f K x := (show evF (G K) T_D L K Tryz.f291 ps rs true x = pre K (N_l0 K x) x by kernel_rfl).trans (by rw [ok_l0 K x]; rfl)
end slices_IndexFunc_int_int
namespace slices_ContainsFunc_int_int
theorem eqn (K : Nat) (x : Args ps) : evF (G K) T_D L K Tryz.f238 ps rs true x = f K x := by kernel_rfl
end slices_ContainsFunc_int_int
namespace impl_Node_placesOk
theorem h_l0 (K : Nat) (x : Args ps) (r_l0 : St → Option Res) (a : A_l0) : ev K (sub body [1, 1, 0, 1, 0, 0]) (S_l0 x a) (kLoop live_l0 r_l0 (k_l0 K x)) = l0.step K x (fun a => r_l0 (S_l0 x a)) a := by kernel_rfl
theorem ok_l0 (K : Nat) (x : Args ps) : N_l0 K x = l0 K x := funext fun a => evLoop_iter live_l0 (ev K (sub body [1, 1, 0, 1, 0, 0])) (k_l0 K x) (S_l0 x) (fun rec a => l0.step K x rec a) (fun r_l0 a => (h_l0 K x r_l0 a)) K a
theorem eqn (K : Nat) (x : Args ps) : evF (G K) T_D L K Tryz.f175 ps rs true x = f K x := (show evF (G K) T_D L K Tryz.f175 ps rs true x = pre K (N_l0 K x) x by kernel_rfl).trans (by rw [ok_l0 K x]; rfl)
end impl_Node_placesOk
namespace impl_Node_othersOk
theorem h_l0 (K : Nat) (x : Args ps) (r_l0 : St → Option Res) (a : A_l0) : ev K (sub body [1, 0, 1, 0, 0]) (S_l0 x a) (kLoop live_l0 r_l0 (k_l0 K x)) = l0.step K x (fun a => r_l0 (S_l0 x a)) a := by kernel_rfl
theorem ok_l0 (K : Nat) (x : Args ps) : N_l0 K x = l0 K x := funext fun a => evLoop_iter live_l0 (ev K (sub body [1, 0, 1, 0, 0])) (k_l0 K x) (S_l0 x) (fun rec a => l0.step K x rec a) (fun r_l0 a => (h_l0 K x r_l0 a)) K a
theorem eqn (K : Nat) (x : Args ps) : evF (G K) T_D L K Tryz.f176 ps rs true x = f K x := (show evF (G K) T_D L K Tryz.f176 ps rs true x = pre K (N_l0 K x) x by kernel_rfl).trans (by rw [ok_l0 K x]; rfl)
end impl_Node_othersOk
namespace impl_NodeOk
theorem eqn (K : Nat) (x : Args ps) : evF (G K) T_D L K Tryz.f76 ps rs true x = f K x := by kernel_rfl
end impl_NodeOk
namespace impl_mayGate
theorem eqn (K : Nat) (x : Args ps) : evF (G K) T_D L K Tryz.f110 ps rs true x = f K x := by kernel_rfl
end impl_mayGate
namespace slices_IndexFunc_impl_Flight_impl_Flight
theorem h_l0 (K : Nat) (x : Args ps) (r_l0 : St → Option Res) (a : A_l0) : ev K (sub body [1, 0, 1, 0, 0]) (S_l0 x a) (kLoop live_l0 r_l0 (k_l0 K x)) = l0.step K x (fun a => r_l0 (S_l0 x a)) a := by kernel_rfl
theorem ok_l0 (K : Nat) (x : Args ps) : N_l0 K x = l0 K x := funext fun a => evLoop_iter live_l0 (ev K (sub body [1, 0, 1, 0, 0])) (k_l0 K x) (S_l0 x) (fun rec a => l0.step K x rec a) (fun r_l0 a => (h_l0 K x r_l0 a)) K a
theorem eqn (K : Nat) (x : Args ps) : evF (G K) T_D L K Tryz.f190 ps rs true x = f K x := (show evF (G K) T_D L K Tryz.f190 ps rs true x = pre K (N_l0 K x) x by kernel_rfl).trans (by rw [ok_l0 K x]; rfl)
end slices_IndexFunc_impl_Flight_impl_Flight
namespace slices_ContainsFunc_impl_Flight_impl_Flight
theorem eqn (K : Nat) (x : Args ps) : evF (G K) T_D L K Tryz.f114 ps rs true x = f K x := by kernel_rfl
end slices_ContainsFunc_impl_Flight_impl_Flight
namespace impl_WorldOk_1
theorem eqn (K : Nat) (x : Args ps) : evF (G K) T_D L K Tryz.f115 ps rs true x = f K x := by kernel_rfl
end impl_WorldOk_1
namespace impl_WorldOk
theorem h_l1 (K : Nat) (x : Args ps) (r_l1 : St → Option Res) (a : A_l1) : ev K (sub body [1, 1, 1, 0, 1, 0, 0]) (S_l1 x a) (kLoop live_l1 r_l1 (k_l1 K x)) = l1.step K x (fun a => r_l1 (S_l1 x a)) a := by kernel_rfl
theorem ok_l1 (K : Nat) (x : Args ps) : N_l1 K x = l1 K x := funext fun a => evLoop_iter live_l1 (ev K (sub body [1, 1, 1, 0, 1, 0, 0])) (k_l1 K x) (S_l1 x) (fun rec a => l1.step K x rec a) (fun r_l1 a => (h_l1 K x r_l1 a)) K a
theorem h_l0 (K : Nat) (x : Args ps) (r_l0 : St → Option Res) (a : A_l0) : ev K (sub body [1, 1, 0, 1, 0, 0]) (S_l0 x a) (kLoop live_l0 r_l0 (k_l0 K x)) = l0.step K x (N_l1 K x) (fun a => r_l0 (S_l0 x a)) a := by kernel_rfl
theorem ok_l0 (K : Nat) (x : Args ps) : N_l0 K x = l0 K x := funext fun a => evLoop_iter live_l0 (ev K (sub body [1, 1, 0, 1, 0, 0])) (k_l0 K x) (S_l0 x) (fun rec a => l0.step K x (l1 K x) rec a) (fun r_l0 a => (h_l0 K x r_l0 a).trans (by rw [ok_l1 K x])) K a
theorem eqn (K : Nat) (x : Args ps) : evF (G K) T_D L K Tryz.f34 ps rs true x = f K x := (show evF (G K) T_D L K Tryz.f34 ps rs true x = pre K (N_l0 K x) x by kernel_rfl).trans (by rw [ok_l0 K x]; rfl)
end impl_WorldOk
namespace impl_Node_active
theorem eqn (K : Nat) (x : Args ps) : evF (G K) T_D L K Tryz.f87 ps rs true x = f K x := by kernel_rfl
end impl_Node_active
namespace slices_insertionSortCmpFunc_impl_Fact
theorem h_l1 (K : Nat) (x : Args ps) (r_l0 : St → Option Res) (r_l1 : St → Option Res) (a : A_l1) : ev K (sub body [1, 0, 0, 1, 0, 0, 1, 0, 0]) (S_l1 x a) (kLoop live_l1 r_l1 (k_l1 K x r_l0)) = l1.step K x (fun a => r_l0 (S_l0 x a)) (fun a => r_l1 (S_l1 x a)) a := by kernel_rfl
theorem ok_l1 (K : Nat) (x : Args ps) (r_l0 : St → Option Res) : N_l1 K x r_l0 = l1 K x (fun a => r_l0 (S_l0 x a)) := funext fun a => evLoop_iter live_l1 (ev K (sub body [1, 0, 0, 1, 0, 0, 1, 0, 0])) (k_l1 K x r_l0) (S_l1 x) (fun rec a => l1.step K x (fun a => r_l0 (S_l0 x a)) rec a) (fun r_l1 a => (h_l1 K x r_l0 r_l1 a)) K a
theorem h_l0 (K : Nat) (x : Args ps) (r_l0 : St → Option Res) (a : A_l0) : ev K (sub body [1, 0, 0]) (S_l0 x a) (kLoop live_l0 r_l0 (k_l0 K x)) = l0.step K x (N_l1 K x r_l0) (fun a => r_l0 (S_l0 x a)) a := by kernel_rfl
theorem ok_l0 (K : Nat) (x : Args ps) : N_l0 K x = l0 K x := funext fun a => evLoop_iter live_l0 (ev K (sub body [1, 0, 0])) (k_l0 K x) (S_l0 x) (fun rec a => l0.step K x (l1 K x rec) rec a) (fun r_l0 a => (h_l0 K x r_l0 a).trans (by rw [ok_l1 K x r_l0])) K a
theorem eqn (K : Nat) (x : Args ps) : evF (G K) T_S L K Tryz.f295 ps rs true x = f K x := (show evF (G K) T_S L K Tryz.f295 ps rs true x = pre K (N_l0 K x) x by kernel_rfl).trans (by rw [ok_l0 K x]; rfl)
end slices_insertionSortCmpFunc_impl_Fact
namespace slices_order2CmpFunc_impl_Fact
theorem eqn (K : Nat) (x : Args ps) : evF (G K) T_D L K Tryz.f356 ps rs true x = f K x := by kernel_rfl
end slices_order2CmpFunc_impl_Fact
namespace slices_medianCmpFunc_impl_Fact
theorem eqn (K : Nat) (x : Args ps) : evF (G K) T_D L K Tryz.f334 ps rs true x = f K x := by kernel_rfl
end slices_medianCmpFunc_impl_Fact
namespace slices_medianAdjacentCmpFunc_impl_Fact
theorem eqn (K : Nat) (x : Args ps) : evF (G K) T_D L K Tryz.f333 ps rs true x = f K x := by kernel_rfl
end slices_medianAdjacentCmpFunc_impl_Fact
namespace slices_choosePivotCmpFunc_impl_Fact
theorem eqn (K : Nat) (x : Args ps) : evF (G K) T_D L K Tryz.f298 ps rs true x = f K x := by kernel_rfl
end slices_choosePivotCmpFunc_impl_Fact
namespace slices_pdqsortCmpFunc_impl_Fact
theorem h_l0 (K : Nat) (x : Args ps) (r_l0 : St → Option Res) (a : A_l0) : ev K (sub body [1, 1, 0, 0]) (S_l0 x a) (kLoop live_l0 r_l0 (k_l0 K x)) = l0.step K x (fun a => r_l0 (S_l0 x a)) a := by kernel_rfl
theorem ok_l0 (K : Nat) (x : Args ps) : N_l0 K x = l0 K x := funext fun a => evLoop_iter live_l0 (ev K (sub body [1, 1, 0, 0])) (k_l0 K x) (S_l0 x) (fun rec a => l0.step K x rec a) (fun r_l0 a => (h_l0 K x r_l0 a)) K a
theorem eqn (K : Nat) (x : Args ps) : evF (G K) T_S L K Tryz.f246 ps rs true x = f K x := (show evF (G K) T_S L K Tryz.f246 ps rs true x = pre K (N_l0 K x) x by kernel_rfl).trans (by rw [ok_l0 K x]; rfl)
end slices_pdqsortCmpFunc_impl_Fact
namespace math_bits_Len64
theorem eqn (K : Nat) (x : Args ps) : evF (G K) T_D L K Tryz.f304 ps rs true x = f K x := by kernel_rfl
end math_bits_Len64
namespace math_bits_Len
theorem eqn (K : Nat) (x : Args ps) : evF (G K) T_D L K Tryz.f247 ps rs true x = f K x := by kernel_rfl
end math_bits_Len
namespace slices_SortFunc_impl_Fact_impl_Fact
theorem eqn (K : Nat) (x : Args ps) : evF (G K) T_S L K Tryz.f202 ps rs true x = f K x := by kernel_rfl
end slices_SortFunc_impl_Fact_impl_Fact
namespace slices_Clip_impl_Fact_impl_Fact
theorem eqn (K : Nat) (x : Args ps) : evF (G K) T_D L K Tryz.f203 ps rs true x = f K x := by kernel_rfl
end slices_Clip_impl_Fact_impl_Fact
namespace impl_Node_view
theorem h_l0 (K : Nat) (x : Args ps) (r_l0 : St → Option Res) (a : A_l0) : ev K (sub body [1, 1, 0, 1, 0, 0]) (S_l0 x a) (kLoop live_l0 r_l0 (k_l0 K x)) = l0.step K x (fun a => r_l0 (S_l0 x a)) a := by kernel_rfl
theorem ok_l0 (K : Nat) (x : Args ps) : N_l0 K x = l0 K x := funext fun a => evLoop_iter live_l0 (ev K (sub body [1, 1, 0, 1, 0, 0])) (k_l0 K x) (S_l0 x) (fun rec a => l0.step K x rec a) (fun r_l0 a => (h_l0 K x r_l0 a)) K a
theorem eqn (K : Nat) (x : Args ps) : evF (G K) T_D L K Tryz.f135 ps rs true x = f K x := (show evF (G K) T_D L K Tryz.f135 ps rs true x = pre K (N_l0 K x) x by kernel_rfl).trans (by rw [ok_l0 K x]; rfl)
end impl_Node_view
namespace impl_nodes
theorem h_l0 (K : Nat) (x : Args ps) (r_l0 : St → Option Res) (a : A_l0) : ev K (sub body [1, 1, 0, 1, 0, 0]) (S_l0 x a) (kLoop live_l0 r_l0 (k_l0 K x)) = l0.step K x (fun a => r_l0 (S_l0 x a)) a := by kernel_rfl
theorem ok_l0 (K : Nat) (x : Args ps) : N_l0 K x = l0 K x := funext fun a => evLoop_iter live_l0 (ev K (sub body [1, 1, 0, 1, 0, 0])) (k_l0 K x) (S_l0 x) (fun rec a => l0.step K x rec a) (fun r_l0 a => (h_l0 K x r_l0 a)) K a
theorem eqn (K : Nat) (x : Args ps) : evF (G K) T_D L K Tryz.f184 ps rs true x = f K x := (show evF (G K) T_D L K Tryz.f184 ps rs true x = pre K (N_l0 K x) x by kernel_rfl).trans (by rw [ok_l0 K x]; rfl)
end impl_nodes
namespace impl_World_same_1
theorem eqn (K : Nat) (x : Args ps) : evF (G K) T_D L K Tryz.f207 ps rs true x = f K x := by kernel_rfl
end impl_World_same_1
namespace slices_Equal_int_int
theorem h_l0 (K : Nat) (x : Args ps) (r_l0 : St → Option Res) (a : A_l0) : ev K (sub body [1, 1, 0, 1, 0, 0]) (S_l0 x a) (kLoop live_l0 r_l0 (k_l0 K x)) = l0.step K x (fun a => r_l0 (S_l0 x a)) a := by kernel_rfl
theorem ok_l0 (K : Nat) (x : Args ps) : N_l0 K x = l0 K x := funext fun a => evLoop_iter live_l0 (ev K (sub body [1, 1, 0, 1, 0, 0])) (k_l0 K x) (S_l0 x) (fun rec a => l0.step K x rec a) (fun r_l0 a => (h_l0 K x r_l0 a)) K a
theorem eqn (K : Nat) (x : Args ps) : evF (G K) T_D L K Tryz.f208 ps rs true x = f K x := (show evF (G K) T_D L K Tryz.f208 ps rs true x = pre K (N_l0 K x) x by kernel_rfl).trans (by rw [ok_l0 K x]; rfl)
end slices_Equal_int_int
namespace slices_Equal_impl_Fact_impl_Fact
theorem h_l0 (K : Nat) (x : Args ps) (r_l0 : St → Option Res) (a : A_l0) : ev K (sub body [1, 1, 0, 1, 0, 0]) (S_l0 x a) (kLoop live_l0 r_l0 (k_l0 K x)) = l0.step K x (fun a => r_l0 (S_l0 x a)) a := by kernel_rfl
theorem ok_l0 (K : Nat) (x : Args ps) : N_l0 K x = l0 K x := funext fun a => evLoop_iter live_l0 (ev K (sub body [1, 1, 0, 1, 0, 0])) (k_l0 K x) (S_l0 x) (fun rec a => l0.step K x rec a) (fun r_l0 a => (h_l0 K x r_l0 a)) K a
theorem eqn (K : Nat) (x : Args ps) : evF (G K) T_D L K Tryz.f209 ps rs true x = f K x := (show evF (G K) T_D L K Tryz.f209 ps rs true x = pre K (N_l0 K x) x by kernel_rfl).trans (by rw [ok_l0 K x]; rfl)
end slices_Equal_impl_Fact_impl_Fact
namespace impl_World_same
theorem h_l1 (K : Nat) (x : Args ps) (r_l1 : St → Option Res) (a : A_l1) : ev K (sub body [1, 1, 1, 0, 1, 0, 0]) (S_l1 x a) (kLoop live_l1 r_l1 (k_l1 K x)) = l1.step K x (fun a => r_l1 (S_l1 x a)) a := by kernel_rfl
theorem ok_l1 (K : Nat) (x : Args ps) : N_l1 K x = l1 K x := funext fun a => evLoop_iter live_l1 (ev K (sub body [1, 1, 1, 0, 1, 0, 0])) (k_l1 K x) (S_l1 x) (fun rec a => l1.step K x rec a) (fun r_l1 a => (h_l1 K x r_l1 a)) K a
theorem h_l0 (K : Nat) (x : Args ps) (r_l0 : St → Option Res) (a : A_l0) : ev K (sub body [1, 1, 0, 1, 0, 0]) (S_l0 x a) (kLoop live_l0 r_l0 (k_l0 K x)) = l0.step K x (N_l1 K x) (fun a => r_l0 (S_l0 x a)) a := by kernel_rfl
theorem ok_l0 (K : Nat) (x : Args ps) : N_l0 K x = l0 K x := funext fun a => evLoop_iter live_l0 (ev K (sub body [1, 1, 0, 1, 0, 0])) (k_l0 K x) (S_l0 x) (fun rec a => l0.step K x (l1 K x) rec a) (fun r_l0 a => (h_l0 K x r_l0 a).trans (by rw [ok_l1 K x])) K a
theorem eqn (K : Nat) (x : Args ps) : evF (G K) T_D L K Tryz.f143 ps rs true x = f K x := (show evF (G K) T_D L K Tryz.f143 ps rs true x = pre K (N_l0 K x) x by kernel_rfl).trans (by rw [ok_l0 K x]; rfl)
end impl_World_same
namespace impl_WorldSame
theorem eqn (K : Nat) (x : Args ps) : evF (G K) T_D L K Tryz.f52 ps rs true x = f K x := by kernel_rfl
end impl_WorldSame
namespace laws_FnExactWorldSame
theorem eqn (K : Nat) (x : Args ps) : evF (G K) T_D L K Tryz.f11 ps rs true x = f K x := by kernel_rfl
end laws_FnExactWorldSame
end Go.Proofs.YthgnfidnmnkeaaaGreatEv
