/- The kernel finds them so. Printed by run3.py. -/
import Derived.Test.YtdjmnbdicpgmiaaFns
set_option linter.unusedVariables false
set_option maxRecDepth 100000
namespace Go.Proofs.YtdjmnbdicpgmiaaEv
open Go Go.Proofs
namespace spec_l1In
theorem eqn (K : Nat) (x : Args ps) : evF (G K) T_S L K Try.f46 ps rs true x = f K x := by kernel_rfl
end spec_l1In
namespace spec_FactOk
theorem eqn (K : Nat) (x : Args ps) : evF (G K) T_S L K Try.f36 ps rs true x = f K x := by kernel_rfl
end spec_FactOk
namespace spec_TableOk
theorem h_l0 (K : Nat) (x : Args ps) (r_l0 : St → Option Res) (a : A_l0) : ev K (sub body [1, 0, 1, 0, 0]) (S_l0 x a) (kLoop live_l0 r_l0 (k_l0 K x)) = l0.step K x (fun a => r_l0 (S_l0 x a)) a := by kernel_rfl
theorem ok_l0 (K : Nat) (x : Args ps) : N_l0 K x = l0 K x := funext fun a => evLoop_iter live_l0 (ev K (sub body [1, 0, 1, 0, 0])) (k_l0 K x) (S_l0 x) (fun rec a => l0.step K x rec a) (fun r_l0 a => (h_l0 K x r_l0 a)) K a
theorem eqn (K : Nat) (x : Args ps) : evF (G K) T_S L K Try.f19 ps rs true x = f K x := (show evF (G K) T_S L K Try.f19 ps rs true x = pre K (N_l0 K x) x by kernel_rfl).trans (by rw [ok_l0 K x]; rfl)
end spec_TableOk
namespace spec_l3Find
theorem h_l0 (K : Nat) (x : Args ps) (r_l0 : St → Option Res) (a : A_l0) : ev K (sub body [1, 0, 1, 0, 0]) (S_l0 x a) (kLoop live_l0 r_l0 (k_l0 K x)) = l0.step K x (fun a => r_l0 (S_l0 x a)) a := by kernel_rfl
theorem ok_l0 (K : Nat) (x : Args ps) : N_l0 K x = l0 K x := funext fun a => evLoop_iter live_l0 (ev K (sub body [1, 0, 1, 0, 0])) (k_l0 K x) (S_l0 x) (fun rec a => l0.step K x rec a) (fun r_l0 a => (h_l0 K x r_l0 a)) K a
theorem eqn (K : Nat) (x : Args ps) : evF (G K) T_S L K Try.f28 ps rs true x = f K x := (show evF (G K) T_S L K Try.f28 ps rs true x = pre K (N_l0 K x) x by kernel_rfl).trans (by rw [ok_l0 K x]; rfl)
end spec_l3Find
namespace spec_ViewNews
theorem h_l0 (K : Nat) (x : Args ps) (r_l0 : St → Option Res) (a : A_l0) : ev K (sub body [1, 1, 1, 0, 1, 0, 0]) (S_l0 x a) (kLoop live_l0 r_l0 (k_l0 K x)) = l0.step K x (fun a => r_l0 (S_l0 x a)) a := by kernel_rfl
theorem ok_l0 (K : Nat) (x : Args ps) : N_l0 K x = l0 K x := funext fun a => evLoop_iter live_l0 (ev K (sub body [1, 1, 1, 0, 1, 0, 0])) (k_l0 K x) (S_l0 x) (fun rec a => l0.step K x rec a) (fun r_l0 a => (h_l0 K x r_l0 a)) K a
theorem eqn (K : Nat) (x : Args ps) : evF (G K) T_S L K Try.f11 ps rs true x = f K x := (show evF (G K) T_S L K Try.f11 ps rs true x = pre K (N_l0 K x) x by kernel_rfl).trans (by rw [ok_l0 K x]; rfl)
end spec_ViewNews
namespace impl_in
theorem eqn (K : Nat) (x : Args ps) : evF (G K) T_D L K Try.f45 ps rs true x = f K x := by kernel_rfl
end impl_in
namespace impl_isNode
theorem eqn (K : Nat) (x : Args ps) : evF (G K) T_D L K Try.f44 ps rs true x = f K x := by kernel_rfl
end impl_isNode
namespace impl_FactOk
theorem eqn (K : Nat) (x : Args ps) : evF (G K) T_D L K Try.f35 ps rs true x = f K x := by kernel_rfl
end impl_FactOk
namespace impl_TableOk
theorem h_l0 (K : Nat) (x : Args ps) (r_l0 : St → Option Res) (a : A_l0) : ev K (sub body [1, 0, 1, 0, 0]) (S_l0 x a) (kLoop live_l0 r_l0 (k_l0 K x)) = l0.step K x (fun a => r_l0 (S_l0 x a)) a := by kernel_rfl
theorem ok_l0 (K : Nat) (x : Args ps) : N_l0 K x = l0 K x := funext fun a => evLoop_iter live_l0 (ev K (sub body [1, 0, 1, 0, 0])) (k_l0 K x) (S_l0 x) (fun rec a => l0.step K x rec a) (fun r_l0 a => (h_l0 K x r_l0 a)) K a
theorem eqn (K : Nat) (x : Args ps) : evF (G K) T_D L K Try.f18 ps rs true x = f K x := (show evF (G K) T_D L K Try.f18 ps rs true x = pre K (N_l0 K x) x by kernel_rfl).trans (by rw [ok_l0 K x]; rfl)
end impl_TableOk
namespace slices_BinarySearchFunc_impl_Fact_impl_Fact_int
theorem h_l0 (K : Nat) (x : Args ps) (r_l0 : St → Option Res) (a : A_l0) : ev K (sub body [1, 1, 1, 0, 0, 0]) (S_l0 x a) (kLoop live_l0 r_l0 (k_l0 K x)) = l0.step K x (fun a => r_l0 (S_l0 x a)) a := by kernel_rfl
theorem ok_l0 (K : Nat) (x : Args ps) : N_l0 K x = l0 K x := funext fun a => evLoop_iter live_l0 (ev K (sub body [1, 1, 1, 0, 0, 0])) (k_l0 K x) (S_l0 x) (fun rec a => l0.step K x rec a) (fun r_l0 a => (h_l0 K x r_l0 a)) K a
theorem eqn (K : Nat) (x : Args ps) : evF (G K) T_D L K Try.f47 ps rs true x = f K x := (show evF (G K) T_D L K Try.f47 ps rs true x = pre K (N_l0 K x) x by kernel_rfl).trans (by rw [ok_l0 K x]; rfl)
end slices_BinarySearchFunc_impl_Fact_impl_Fact_int
namespace cmp_isNaN_int
theorem eqn (K : Nat) (x : Args ps) : evF (G K) T_D L K Try.f54 ps rs true x = f K x := by kernel_rfl
end cmp_isNaN_int
namespace cmp_Compare_int
theorem eqn (K : Nat) (x : Args ps) : evF (G K) T_D L K Try.f49 ps rs true x = f K x := by kernel_rfl
end cmp_Compare_int
namespace impl_find_1
theorem eqn (K : Nat) (x : Args ps) : evF (G K) T_D L K Try.f48 ps rs true x = f K x := by kernel_rfl
end impl_find_1
namespace impl_find
theorem eqn (K : Nat) (x : Args ps) : evF (G K) T_D L K Try.f37 ps rs true x = f K x := by kernel_rfl
end impl_find
namespace impl_TableOf
theorem eqn (K : Nat) (x : Args ps) : evF (G K) T_D L K Try.f20 ps rs true x = f K x := by kernel_rfl
end impl_TableOf
namespace slices_Index_impl_Fact_impl_Fact
theorem h_l0 (K : Nat) (x : Args ps) (r_l0 : St → Option Res) (a : A_l0) : ev K (sub body [1, 0, 1, 0, 0]) (S_l0 x a) (kLoop live_l0 r_l0 (k_l0 K x)) = l0.step K x (fun a => r_l0 (S_l0 x a)) a := by kernel_rfl
theorem ok_l0 (K : Nat) (x : Args ps) : N_l0 K x = l0 K x := funext fun a => evLoop_iter live_l0 (ev K (sub body [1, 0, 1, 0, 0])) (k_l0 K x) (S_l0 x) (fun rec a => l0.step K x rec a) (fun r_l0 a => (h_l0 K x r_l0 a)) K a
theorem eqn (K : Nat) (x : Args ps) : evF (G K) T_D L K Try.f40 ps rs true x = f K x := (show evF (G K) T_D L K Try.f40 ps rs true x = pre K (N_l0 K x) x by kernel_rfl).trans (by rw [ok_l0 K x]; rfl)
end slices_Index_impl_Fact_impl_Fact
namespace slices_Contains_impl_Fact_impl_Fact
theorem eqn (K : Nat) (x : Args ps) : evF (G K) T_D L K Try.f29 ps rs true x = f K x := by kernel_rfl
end slices_Contains_impl_Fact_impl_Fact
namespace impl_ViewNews
theorem h_l0 (K : Nat) (x : Args ps) (r_l0 : St → Option Res) (a : A_l0) : ev K (sub body [1, 1, 1, 0, 1, 0, 0]) (S_l0 x a) (kLoop live_l0 r_l0 (k_l0 K x)) = l0.step K x (fun a => r_l0 (S_l0 x a)) a := by kernel_rfl
theorem ok_l0 (K : Nat) (x : Args ps) : N_l0 K x = l0 K x := funext fun a => evLoop_iter live_l0 (ev K (sub body [1, 1, 1, 0, 1, 0, 0])) (k_l0 K x) (S_l0 x) (fun rec a => l0.step K x rec a) (fun r_l0 a => (h_l0 K x r_l0 a)) K a
theorem eqn (K : Nat) (x : Args ps) : evF (G K) T_D L K Try.f12 ps rs true x = f K x := (show evF (G K) T_D L K Try.f12 ps rs true x = pre K (N_l0 K x) x by kernel_rfl).trans (by rw [ok_l0 K x]; rfl)
end impl_ViewNews
namespace spec_l1Open
theorem eqn (K : Nat) (x : Args ps) : evF (G K) T_S L K Try.f31 ps rs false x = f K x := by kernel_rfl
end spec_l1Open
namespace spec_l1Rd_pick
theorem eqn (K : Nat) (x : Args ps) : evF (G K) T_S L K Try.f33 ps rs false x = f K x := by kernel_rfl
end spec_l1Rd_pick
namespace spec_l3Over
theorem eqn (K : Nat) (x : Args ps) : evF (G K) T_S L K Try.f53 ps rs true x = f K x := by kernel_rfl
end spec_l3Over
namespace spec_l3Put
theorem h_l0 (K : Nat) (x : Args ps) (r_l0 : St → Option Res) (a : A_l0) : ev K (sub body [1, 1, 1, 1, 0, 0, 0]) (S_l0 x a) (kLoop live_l0 r_l0 (k_l0 K x)) = l0.step K x (fun a => r_l0 (S_l0 x a)) a := by kernel_rfl
theorem ok_l0 (K : Nat) (x : Args ps) : N_l0 K x = l0 K x := funext fun a => evLoop_iter live_l0 (ev K (sub body [1, 1, 1, 1, 0, 0, 0])) (k_l0 K x) (S_l0 x) (fun rec a => l0.step K x rec a) (fun r_l0 a => (h_l0 K x r_l0 a)) K a
theorem eqn (K : Nat) (x : Args ps) : evF (G K) T_S L K Try.f43 ps rs true x = f K x := (show evF (G K) T_S L K Try.f43 ps rs true x = pre K (N_l0 K x) x by kernel_rfl).trans (by rw [ok_l0 K x]; rfl)
end spec_l3Put
namespace spec_l51Gate
theorem eqn (K : Nat) (x : Args ps) : evF (G K) T_S L K Try.f58 ps rs true x = f K x := by kernel_rfl
end spec_l51Gate
namespace spec_l61Fact
theorem eqn (K : Nat) (x : Args ps) : evF (G K) T_S L K Try.f52 ps rs false x = f K x := by kernel_rfl
end spec_l61Fact
namespace spec_l61Table
theorem h_l0 (K : Nat) (x : Args ps) (r_l0 : St → Option Res) (a : A_l0) : ev K (sub body [1, 1, 0, 1, 0, 0]) (S_l0 x a) (kLoop live_l0 r_l0 (k_l0 K x)) = l0.step K x (fun a => r_l0 (S_l0 x a)) a := by kernel_rfl
theorem ok_l0 (K : Nat) (x : Args ps) : N_l0 K x = l0 K x := funext fun a => evLoop_iter live_l0 (ev K (sub body [1, 1, 0, 1, 0, 0])) (k_l0 K x) (S_l0 x) (fun rec a => l0.step K x rec a) (fun r_l0 a => (h_l0 K x r_l0 a)) K a
theorem eqn (K : Nat) (x : Args ps) : evF (G K) T_S L K Try.f41 ps rs false x = f K x := (show evF (G K) T_S L K Try.f41 ps rs false x = pre K (N_l0 K x) x by kernel_rfl).trans (by rw [ok_l0 K x]; rfl)
end spec_l61Table
namespace spec_l61AnyFact
theorem eqn (K : Nat) (x : Args ps) : evF (G K) T_S L K Try.f42 ps rs false x = f K x := by kernel_rfl
end spec_l61AnyFact
namespace spec_l61AnyTable
theorem eqn (K : Nat) (x : Args ps) : evF (G K) T_S L K Try.f32 ps rs false x = f K x := by kernel_rfl
end spec_l61AnyTable
namespace spec_TableJoin
theorem h_l0 (K : Nat) (x : Args ps) (r_l0 : St → Option Res) (a : A_l0) : ev K (sub body [1, 1, 1, 0, 1, 0, 0]) (S_l0 x a) (kLoop live_l0 r_l0 (k_l0 K x)) = l0.step K x (fun a => r_l0 (S_l0 x a)) a := by kernel_rfl
theorem ok_l0 (K : Nat) (x : Args ps) : N_l0 K x = l0 K x := funext fun a => evLoop_iter live_l0 (ev K (sub body [1, 1, 1, 0, 1, 0, 0])) (k_l0 K x) (S_l0 x) (fun rec a => l0.step K x rec a) (fun r_l0 a => (h_l0 K x r_l0 a)) K a
theorem eqn (K : Nat) (x : Args ps) : evF (G K) T_S L K Try.f34 ps rs true x = f K x := (show evF (G K) T_S L K Try.f34 ps rs true x = pre K (N_l0 K x) x by kernel_rfl).trans (by rw [ok_l0 K x]; rfl)
end spec_TableJoin
namespace spec_DrawViewNews
theorem eqn (K : Nat) (x : Args ps) : evF (G K) T_S L K Try.f17 ps rs true x = f K x := by kernel_rfl
end spec_DrawViewNews
namespace cmp_Or_int
theorem h_l0 (K : Nat) (x : Args ps) (r_l0 : St → Option Res) (a : A_l0) : ev K (sub body [1, 1, 0, 1, 0, 0]) (S_l0 x a) (kLoop live_l0 r_l0 (k_l0 K x)) = l0.step K x (fun a => r_l0 (S_l0 x a)) a := by kernel_rfl
theorem ok_l0 (K : Nat) (x : Args ps) : N_l0 K x = l0 K x := funext fun a => evLoop_iter live_l0 (ev K (sub body [1, 1, 0, 1, 0, 0])) (k_l0 K x) (S_l0 x) (fun rec a => l0.step K x rec a) (fun r_l0 a => (h_l0 K x r_l0 a)) K a
theorem eqn (K : Nat) (x : Args ps) : evF (G K) T_D L K Try.f57 ps rs true x = f K x := (show evF (G K) T_D L K Try.f57 ps rs true x = pre K (N_l0 K x) x by kernel_rfl).trans (by rw [ok_l0 K x]; rfl)
end cmp_Or_int
namespace impl_Fact_compare
theorem eqn (K : Nat) (x : Args ps) : evF (G K) T_D L K Try.f51 ps rs true x = f K x := by kernel_rfl
end impl_Fact_compare
namespace impl_put
theorem eqn (K : Nat) (x : Args ps) : evF (G K) T_D L K Try.f38 ps rs true x = f K x := by kernel_rfl
end impl_put
namespace impl_TablePut
theorem eqn (K : Nat) (x : Args ps) : evF (G K) T_D L K Try.f21 ps rs true x = f K x := by kernel_rfl
end impl_TablePut
namespace laws_lhFacts
theorem h_l0 (K : Nat) (x : Args ps) (r_l0 : St → Option Res) (a : A_l0) : ev K (sub body [1, 1, 0, 1, 0, 0]) (S_l0 x a) (kLoop live_l0 r_l0 (k_l0 K x)) = l0.step K x (fun a => r_l0 (S_l0 x a)) a := by kernel_rfl
theorem ok_l0 (K : Nat) (x : Args ps) : N_l0 K x = l0 K x := funext fun a => evLoop_iter live_l0 (ev K (sub body [1, 1, 0, 1, 0, 0])) (k_l0 K x) (S_l0 x) (fun rec a => l0.step K x rec a) (fun r_l0 a => (h_l0 K x r_l0 a)) K a
theorem eqn (K : Nat) (x : Args ps) : evF (G K) T_D L K Try.f22 ps rs true x = f K x := (show evF (G K) T_D L K Try.f22 ps rs true x = pre K (N_l0 K x) x by kernel_rfl).trans (by rw [ok_l0 K x]; rfl)
end laws_lhFacts
namespace impl_TableJoin
theorem h_l0 (K : Nat) (x : Args ps) (r_l0 : St → Option Res) (a : A_l0) : ev K (sub body [1, 1, 1, 0, 1, 0, 0]) (S_l0 x a) (kLoop live_l0 r_l0 (k_l0 K x)) = l0.step K x (fun a => r_l0 (S_l0 x a)) a := by kernel_rfl
theorem ok_l0 (K : Nat) (x : Args ps) : N_l0 K x = l0 K x := funext fun a => evLoop_iter live_l0 (ev K (sub body [1, 1, 1, 0, 1, 0, 0])) (k_l0 K x) (S_l0 x) (fun rec a => l0.step K x rec a) (fun r_l0 a => (h_l0 K x r_l0 a)) K a
theorem eqn (K : Nat) (x : Args ps) : evF (G K) T_D L K Try.f23 ps rs true x = f K x := (show evF (G K) T_D L K Try.f23 ps rs true x = pre K (N_l0 K x) x by kernel_rfl).trans (by rw [ok_l0 K x]; rfl)
end impl_TableJoin
namespace laws_FnViewNews
theorem h_l0 (K : Nat) (x : Args ps) (r_l0 : St → Option Res) (a : A_l0) : ev K (sub body [1, 1, 1, 1, 1, 1, 1, 0, 1, 0, 0]) (S_l0 x a) (kLoop live_l0 r_l0 (k_l0 K x)) = l0.step K x (fun a => r_l0 (S_l0 x a)) a := by kernel_rfl
theorem ok_l0 (K : Nat) (x : Args ps) : N_l0 K x = l0 K x := funext fun a => evLoop_iter live_l0 (ev K (sub body [1, 1, 1, 1, 1, 1, 1, 0, 1, 0, 0])) (k_l0 K x) (S_l0 x) (fun rec a => l0.step K x rec a) (fun r_l0 a => (h_l0 K x r_l0 a)) K a
theorem eqn (K : Nat) (x : Args ps) : evF (G K) T_D L K Try.f5 ps rs true x = f K x := (show evF (G K) T_D L K Try.f5 ps rs true x = pre K (N_l0 K x) x by kernel_rfl).trans (by rw [ok_l0 K x]; rfl)
end laws_FnViewNews
end Go.Proofs.YtdjmnbdicpgmiaaEv
