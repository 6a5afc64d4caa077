/- The contracts by hand are sound. Printed by run3.py, but for those that lie in Man2. -/
import Derived.Test.YtdjmnbdicpgmiaaFns
import Derived.Test.YtdjmnbdicpgmiaaE7
import Derived.Test.YtdjmnbdicpgmiaaEvR
set_option linter.unusedVariables false
set_option maxRecDepth 100000
namespace Go.Proofs.YtdjmnbdicpgmiaaEv
open Go Go.Proofs
namespace m_slices_Clone_impl_Fact_impl_Fact
noncomputable def Tl : List (TypeId × TI) := [(25, .slice 39 t2 32)]
noncomputable def T (t : TypeId) : TI := tlook Tl t
theorem T_ok : TOk Try.prog T := tlB_ok (l := Tl) (by kernel_rfl)
noncomputable def body : Code := bodyOf Try.f39
noncomputable def pre (K : Nat) (x : Args ps) : Option St := evK [] T [] K (sub body [0]) (mkSt (parsSt 0 ps x)) (kSeq (fun s _ => act [] T (opAt (sub body [1, 0, 0]) 0) s (fun U => some (look U s))) (fun _ _ => none))
noncomputable def S1 (K : Nat) (x : Args ps) : St := (pre K x).getD (fun _ => Cont.none)
theorem pre_ok (K : Nat) (x : Args ps) : pre K x = some (S1 K x) := by kernel_rfl
theorem leaf_ok (K : Nat) (x : Args ps) : one (S1 K x) (.tmp 3) = .ro true 39 t2 x.1 := by kernel_rfl
theorem no_ok (K : Nat) (x : Args ps) : evK [] T [] K (.seq (.cond (.tmp 4) (sub body [1, 0, 1, 0]) (sub body [1, 0, 1, 1])) (sub body [1, 1])) (look (putU (S1 K x) [] 4 .one [.bool false]) (S1 K x)) (finK T ps rs true Try.f39.results.toList) = f K x := by kernel_rfl
theorem yes_ok (K : Nat) (x : Args ps) : evK [] T [] K (.seq (.cond (.tmp 4) (sub body [1, 0, 1, 0]) (sub body [1, 0, 1, 1])) (sub body [1, 1])) (look (putU (S1 K x) [] 4 .one [.bool true]) (S1 K x)) (finK T ps rs true Try.f39.results.toList) = some (([], ()), ()) := by kernel_rfl
end m_slices_Clone_impl_Fact_impl_Fact
theorem m_slices_Clone_impl_Fact_impl_Fact.sound (K : Nat) : Sound Try.prog (m_slices_Clone_impl_Fact_impl_Fact.c K) :=
  nil_sound m_slices_Clone_impl_Fact_impl_Fact.T_ok (by kernel_rfl) (fn := Try.f39) Try.func39 (by kernel_rfl) (R0 := sub m_slices_Clone_impl_Fact_impl_Fact.body [0]) (A := sub m_slices_Clone_impl_Fact_impl_Fact.body [1, 0, 1, 0]) (B := sub m_slices_Clone_impl_Fact_impl_Fact.body [1, 0, 1, 1]) (C := sub m_slices_Clone_impl_Fact_impl_Fact.body [1, 1]) (rid := 1) (o0 := opAt (sub m_slices_Clone_impl_Fact_impl_Fact.body [1, 0, 0]) 0) (o1 := opAt (sub m_slices_Clone_impl_Fact_impl_Fact.body [1, 0, 0]) 1) (d0 := 3) (q := 4) (t := 25) (t' := 25) (x0 := .tmp 0) (L := []) (K := K) (E' := 39)
    (by kernel_rfl) (by kernel_rfl) (by kernel_rfl) (by kernel_rfl) (by kernel_rfl) (by kernel_rfl) (by kernel_rfl) (by kernel_rfl) (S1 := m_slices_Clone_impl_Fact_impl_Fact.S1 K) (m_slices_Clone_impl_Fact_impl_Fact.pre_ok K) (m_slices_Clone_impl_Fact_impl_Fact.leaf_ok K) (m_slices_Clone_impl_Fact_impl_Fact.no_ok K) (fun x y hx hy => (m_slices_Clone_impl_Fact_impl_Fact.yes_ok K x).trans (((cloneM_nil _ _).symm.trans (congrArg (cloneM _ _) hx.symm)).trans hy))
end Go.Proofs.YtdjmnbdicpgmiaaEv
