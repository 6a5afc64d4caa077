/- The kernel finds them so. Printed by run3.py. -/
import Derived.Test.YtdjmnbdicpgmiaaFns
set_option linter.unusedVariables false
set_option maxRecDepth 100000
namespace Go.Proofs.YtdjmnbdicpgmiaaEv
open Go Go.Proofs
namespace laws_szFactS
theorem eqn (K : Nat) (x : Args ps) : evF (G K) T_D L K Try.f6 ps rs true x = f K x := by kernel_rfl
end laws_szFactS
namespace laws_toFact
theorem eqn (K : Nat) (x : Args ps) : evF (G K) T_D L K Try.f24 ps rs true x = f K x := by kernel_rfl
end laws_toFact
namespace laws_toFactS
theorem h_l0 (K : Nat) (x : Args ps) (r_l0 : St → Option Res) (a : A_l0) : ev K (sub body [1, 1, 0, 1, 0, 0]) (S_l0 x a) (kLoop live_l0 r_l0 (k_l0 K x)) = l0.step K x (fun a => r_l0 (S_l0 x a)) a := by kernel_rfl
theorem ok_l0 (K : Nat) (x : Args ps) : N_l0 K x = l0 K x := funext fun a => evLoop_iter live_l0 (ev K (sub body [1, 1, 0, 1, 0, 0])) (k_l0 K x) (S_l0 x) (fun rec a => l0.step K x rec a) (fun r_l0 a => (h_l0 K x r_l0 a)) K a
theorem eqn (K : Nat) (x : Args ps) : evF (G K) T_D L K Try.f8 ps rs true x = f K x := (show evF (G K) T_D L K Try.f8 ps rs true x = pre K (N_l0 K x) x by kernel_rfl).trans (by rw [ok_l0 K x]; rfl)
end laws_toFactS
namespace laws_eqFact
theorem eqn (K : Nat) (x : Args ps) : evF (G K) T_D L K Try.f27 ps rs true x = f K x := by kernel_rfl
end laws_eqFact
namespace laws_eqFactS
theorem h_l0 (K : Nat) (x : Args ps) (r_l0 : St → Option Res) (a : A_l0) : ev K (sub body [1, 1, 0, 1, 0, 0]) (S_l0 x a) (kLoop live_l0 r_l0 (k_l0 K x)) = l0.step K x (fun a => r_l0 (S_l0 x a)) a := by kernel_rfl
theorem ok_l0 (K : Nat) (x : Args ps) : N_l0 K x = l0 K x := funext fun a => evLoop_iter live_l0 (ev K (sub body [1, 1, 0, 1, 0, 0])) (k_l0 K x) (S_l0 x) (fun rec a => l0.step K x rec a) (fun r_l0 a => (h_l0 K x r_l0 a)) K a
theorem eqn (K : Nat) (x : Args ps) : evF (G K) T_D L K Try.f10 ps rs true x = f K x := (show evF (G K) T_D L K Try.f10 ps rs true x = pre K (N_l0 K x) x by kernel_rfl).trans (by rw [ok_l0 K x]; rfl)
end laws_eqFactS
namespace spec_l1In
theorem eqn (K : Nat) (x : Args ps) : evF (G K) T_S L K Try.f46 ps rs true x = f K x := by kernel_rfl
end spec_l1In
namespace spec_FactOk
theorem eqn (K : Nat) (x : Args ps) : evF (G K) T_S L K Try.f36 ps rs true x = f K x := by kernel_rfl
end spec_FactOk
namespace spec_TableOk
theorem h_l0 (K : Nat) (x : Args ps) (r_l0 : St → Option Res) (a : A_l0) : ev K (sub body [1, 0, 1, 0, 0]) (S_l0 x a) (kLoop live_l0 r_l0 (k_l0 K x)) = l0.step K x (fun a => r_l0 (S_l0 x a)) a := by kernel_rfl
theorem ok_l0 (K : Nat) (x : Args ps) : N_l0 K x = l0 K x := funext fun a => evLoop_iter live_l0 (ev K (sub body [1, 0, 1, 0, 0])) (k_l0 K x) (S_l0 x) (fun rec a => l0.step K x rec a) (fun r_l0 a => (h_l0 K x r_l0 a)) K a
theorem eqn (K : Nat) (x : Args ps) : evF (G K) T_S L K Try.f19 ps rs true x = f K x := (show evF (G K) T_S L K Try.f19 ps rs true x = pre K (N_l0 K x) x by kernel_rfl).trans (by rw [ok_l0 K x]; rfl)
end spec_TableOk
namespace spec_l3Find
theorem h_l0 (K : Nat) (x : Args ps) (r_l0 : St → Option Res) (a : A_l0) : ev K (sub body [1, 0, 1, 0, 0]) (S_l0 x a) (kLoop live_l0 r_l0 (k_l0 K x)) = l0.step K x (fun a => r_l0 (S_l0 x a)) a := by kernel_rfl
theorem ok_l0 (K : Nat) (x : Args ps) : N_l0 K x = l0 K x := funext fun a => evLoop_iter live_l0 (ev K (sub body [1, 0, 1, 0, 0])) (k_l0 K x) (S_l0 x) (fun rec a => l0.step K x rec a) (fun r_l0 a => (h_l0 K x r_l0 a)) K a
theorem eqn (K : Nat) (x : Args ps) : evF (G K) T_S L K Try.f28 ps rs true x = f K x := (show evF (G K) T_S L K Try.f28 ps rs true x = pre K (N_l0 K x) x by kernel_rfl).trans (by rw [ok_l0 K x]; rfl)
end spec_l3Find
namespace spec_ViewNews
theorem h_l0 (K : Nat) (x : Args ps) (r_l0 : St → Option Res) (a : A_l0) : ev K (sub body [1, 1, 1, 0, 1, 0, 0]) (S_l0 x a) (kLoop live_l0 r_l0 (k_l0 K x)) = l0.step K x (fun a => r_l0 (S_l0 x a)) a := by kernel_rfl
theorem ok_l0 (K : Nat) (x : Args ps) : N_l0 K x = l0 K x := funext fun a => evLoop_iter live_l0 (ev K (sub body [1, 1, 1, 0, 1, 0, 0])) (k_l0 K x) (S_l0 x) (fun rec a => l0.step K x rec a) (fun r_l0 a => (h_l0 K x r_l0 a)) K a
theorem eqn (K : Nat) (x : Args ps) : evF (G K) T_S L K Try.f11 ps rs true x = f K x := (show evF (G K) T_S L K Try.f11 ps rs true x = pre K (N_l0 K x) x by kernel_rfl).trans (by rw [ok_l0 K x]; rfl)
end spec_ViewNews
namespace impl_in
theorem eqn (K : Nat) (x : Args ps) : evF (G K) T_D L K Try.f45 ps rs true x = f K x := by kernel_rfl
end impl_in
namespace impl_isNode
theorem eqn (K : Nat) (x : Args ps) : evF (G K) T_D L K Try.f44 ps rs true x = f K x := by kernel_rfl
end impl_isNode
namespace impl_FactOk
theorem eqn (K : Nat) (x : Args ps) : evF (G K) T_D L K Try.f35 ps rs true x = f K x := by kernel_rfl
end impl_FactOk
namespace impl_TableOk
theorem h_l0 (K : Nat) (x : Args ps) (r_l0 : St → Option Res) (a : A_l0) : ev K (sub body [1, 0, 1, 0, 0]) (S_l0 x a) (kLoop live_l0 r_l0 (k_l0 K x)) = l0.step K x (fun a => r_l0 (S_l0 x a)) a := by kernel_rfl
theorem ok_l0 (K : Nat) (x : Args ps) : N_l0 K x = l0 K x := funext fun a => evLoop_iter live_l0 (ev K (sub body [1, 0, 1, 0, 0])) (k_l0 K x) (S_l0 x) (fun rec a => l0.step K x rec a) (fun r_l0 a => (h_l0 K x r_l0 a)) K a
theorem eqn (K : Nat) (x : Args ps) : evF (G K) T_D L K Try.f18 ps rs true x = f K x := (show evF (G K) T_D L K Try.f18 ps rs true x = pre K (N_l0 K x) x by kernel_rfl).trans (by rw [ok_l0 K x]; rfl)
end impl_TableOk
namespace slices_BinarySearchFunc_impl_Fact_impl_Fact_int
theorem h_l0 (K : Nat) (x : Args ps) (r_l0 : St → Option Res) (a : A_l0) : ev K (sub body [1, 1, 1, 0, 0, 0]) (S_l0 x a) (kLoop live_l0 r_l0 (k_l0 K x)) = l0.step K x (fun a => r_l0 (S_l0 x a)) a := by kernel_rfl
theorem ok_l0 (K : Nat) (x : Args ps) : N_l0 K x = l0 K x := funext fun a => evLoop_iter live_l0 (ev K (sub body [1, 1, 1, 0, 0, 0])) (k_l0 K x) (S_l0 x) (fun rec a => l0.step K x rec a) (fun r_l0 a => (h_l0 K x r_l0 a)) K a
theorem eqn (K : Nat) (x : Args ps) : evF (G K) T_D L K Try.f47 ps rs true x = f K x := (show evF (G K) T_D L K Try.f47 ps rs true x = pre K (N_l0 K x) x by kernel_rfl).trans (by rw [ok_l0 K x]; rfl)
end slices_BinarySearchFunc_impl_Fact_impl_Fact_int
namespace cmp_isNaN_int
theorem eqn (K : Nat) (x : Args ps) : evF (G K) T_D L K Try.f54 ps rs true x = f K x := by kernel_rfl
end cmp_isNaN_int
namespace cmp_Compare_int
theorem eqn (K : Nat) (x : Args ps) : evF (G K) T_D L K Try.f49 ps rs true x = f K x := by kernel_rfl
end cmp_Compare_int
namespace impl_find_1
theorem eqn (K : Nat) (x : Args ps) : evF (G K) T_D L K Try.f48 ps rs true x = f K x := by kernel_rfl
end impl_find_1
namespace impl_find
theorem eqn (K : Nat) (x : Args ps) : evF (G K) T_D L K Try.f37 ps rs true x = f K x := by kernel_rfl
end impl_find
namespace impl_TableOf
theorem eqn (K : Nat) (x : Args ps) : evF (G K) T_D L K Try.f20 ps rs true x = f K x := by kernel_rfl
end impl_TableOf
namespace slices_Index_impl_Fact_impl_Fact
theorem h_l0 (K : Nat) (x : Args ps) (r_l0 : St → Option Res) (a : A_l0) : ev K (sub body [1, 0, 1, 0, 0]) (S_l0 x a) (kLoop live_l0 r_l0 (k_l0 K x)) = l0.step K x (fun a => r_l0 (S_l0 x a)) a := by kernel_rfl
theorem ok_l0 (K : Nat) (x : Args ps) : N_l0 K x = l0 K x := funext fun a => evLoop_iter live_l0 (ev K (sub body [1, 0, 1, 0, 0])) (k_l0 K x) (S_l0 x) (fun rec a => l0.step K x rec a) (fun r_l0 a => (h_l0 K x r_l0 a)) K a
theorem eqn (K : Nat) (x : Args ps) : evF (G K) T_D L K Try.f40 ps rs true x = f K x := (show evF (G K) T_D L K Try.f40 ps rs true x = pre K (N_l0 K x) x by kernel_rfl).trans (by rw [ok_l0 K x]; rfl)
end slices_Index_impl_Fact_impl_Fact
namespace slices_Contains_impl_Fact_impl_Fact
theorem eqn (K : Nat) (x : Args ps) : evF (G K) T_D L K Try.f29 ps rs true x = f K x := by kernel_rfl
end slices_Contains_impl_Fact_impl_Fact
namespace impl_ViewNews
theorem h_l0 (K : Nat) (x : Args ps) (r_l0 : St → Option Res) (a : A_l0) : ev K (sub body [1, 1, 1, 0, 1, 0, 0]) (S_l0 x a) (kLoop live_l0 r_l0 (k_l0 K x)) = l0.step K x (fun a => r_l0 (S_l0 x a)) a := by kernel_rfl
theorem ok_l0 (K : Nat) (x : Args ps) : N_l0 K x = l0 K x := funext fun a => evLoop_iter live_l0 (ev K (sub body [1, 1, 1, 0, 1, 0, 0])) (k_l0 K x) (S_l0 x) (fun rec a => l0.step K x rec a) (fun r_l0 a => (h_l0 K x r_l0 a)) K a
theorem eqn (K : Nat) (x : Args ps) : evF (G K) T_D L K Try.f12 ps rs true x = f K x := (show evF (G K) T_D L K Try.f12 ps rs true x = pre K (N_l0 K x) x by kernel_rfl).trans (by rw [ok_l0 K x]; rfl)
end impl_ViewNews
namespace laws_eqNews
theorem eqn (K : Nat) (x : Args ps) : evF (G K) T_D L K Try.f30 ps rs true x = f K x := by kernel_rfl
end laws_eqNews
namespace laws_eqNewsS
theorem h_l0 (K : Nat) (x : Args ps) (r_l0 : St → Option Res) (a : A_l0) : ev K (sub body [1, 1, 0, 1, 0, 0]) (S_l0 x a) (kLoop live_l0 r_l0 (k_l0 K x)) = l0.step K x (fun a => r_l0 (S_l0 x a)) a := by kernel_rfl
theorem ok_l0 (K : Nat) (x : Args ps) : N_l0 K x = l0 K x := funext fun a => evLoop_iter live_l0 (ev K (sub body [1, 1, 0, 1, 0, 0])) (k_l0 K x) (S_l0 x) (fun rec a => l0.step K x rec a) (fun r_l0 a => (h_l0 K x r_l0 a)) K a
theorem eqn (K : Nat) (x : Args ps) : evF (G K) T_D L K Try.f13 ps rs true x = f K x := (show evF (G K) T_D L K Try.f13 ps rs true x = pre K (N_l0 K x) x by kernel_rfl).trans (by rw [ok_l0 K x]; rfl)
end laws_eqNewsS
namespace laws_markFactS
theorem h_l0 (K : Nat) (x : Args ps) (r_l0 : St → Option Res) (a : A_l0) : ev K (sub body [1, 0, 1, 0, 0]) (S_l0 x a) (kLoop live_l0 r_l0 (k_l0 K x)) = l0.step K x (fun a => r_l0 (S_l0 x a)) a := by kernel_rfl
theorem ok_l0 (K : Nat) (x : Args ps) : N_l0 K x = l0 K x := funext fun a => evLoop_iter live_l0 (ev K (sub body [1, 0, 1, 0, 0])) (k_l0 K x) (S_l0 x) (fun rec a => l0.step K x rec a) (fun r_l0 a => (h_l0 K x r_l0 a)) K a
theorem eqn (K : Nat) (x : Args ps) : evF (G K) T_D L K Try.f14 ps rs true x = f K x := (show evF (G K) T_D L K Try.f14 ps rs true x = pre K (N_l0 K x) x by kernel_rfl).trans (by rw [ok_l0 K x]; rfl)
end laws_markFactS
namespace laws_markNewsS
theorem h_l0 (K : Nat) (x : Args ps) (r_l0 : St → Option Res) (a : A_l0) : ev K (sub body [1, 0, 1, 0, 0]) (S_l0 x a) (kLoop live_l0 r_l0 (k_l0 K x)) = l0.step K x (fun a => r_l0 (S_l0 x a)) a := by kernel_rfl
theorem ok_l0 (K : Nat) (x : Args ps) : N_l0 K x = l0 K x := funext fun a => evLoop_iter live_l0 (ev K (sub body [1, 0, 1, 0, 0])) (k_l0 K x) (S_l0 x) (fun rec a => l0.step K x rec a) (fun r_l0 a => (h_l0 K x r_l0 a)) K a
theorem eqn (K : Nat) (x : Args ps) : evF (G K) T_D L K Try.f15 ps rs true x = f K x := (show evF (G K) T_D L K Try.f15 ps rs true x = pre K (N_l0 K x) x by kernel_rfl).trans (by rw [ok_l0 K x]; rfl)
end laws_markNewsS
namespace laws_heldNewsS
theorem h_l0 (K : Nat) (x : Args ps) (r_l0 : St → Option Res) (a : A_l0) : ev K (sub body [1, 0, 1, 0, 0]) (S_l0 x a) (kLoop live_l0 r_l0 (k_l0 K x)) = l0.step K x (fun a => r_l0 (S_l0 x a)) a := by kernel_rfl
theorem ok_l0 (K : Nat) (x : Args ps) : N_l0 K x = l0 K x := funext fun a => evLoop_iter live_l0 (ev K (sub body [1, 0, 1, 0, 0])) (k_l0 K x) (S_l0 x) (fun rec a => l0.step K x rec a) (fun r_l0 a => (h_l0 K x r_l0 a)) K a
theorem eqn (K : Nat) (x : Args ps) : evF (G K) T_D L K Try.f16 ps rs true x = f K x := (show evF (G K) T_D L K Try.f16 ps rs true x = pre K (N_l0 K x) x by kernel_rfl).trans (by rw [ok_l0 K x]; rfl)
end laws_heldNewsS
namespace laws_FnExactViewNews
theorem eqn (K : Nat) (x : Args ps) : evF (G K) T_D L K Try.f4 ps rs true x = f K x := by kernel_rfl
end laws_FnExactViewNews
end Go.Proofs.YtdjmnbdicpgmiaaEv
