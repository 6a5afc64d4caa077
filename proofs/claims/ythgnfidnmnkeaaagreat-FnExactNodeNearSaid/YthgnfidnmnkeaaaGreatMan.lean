/- The contracts by hand are sound. Printed by run3.py, but for those that lie in Man2. -/
import Derived.Test.YthgnfidnmnkeaaaGreatFns
import Derived.Test.YthgnfidnmnkeaaaGreatE7
set_option linter.unusedVariables false
set_option maxRecDepth 100000
namespace Go.Proofs.YthgnfidnmnkeaaaGreatEv
open Go Go.Proofs
namespace m_slices_Clone_impl_Place_impl_Place
noncomputable def Tl : List (TypeId × TI) := [(41, .slice 94 t14 64)]
noncomputable def T (t : TypeId) : TI := tlook Tl t
theorem T_ok : TOk Tryz.prog T := tlB_ok (l := Tl) (by kernel_rfl)
noncomputable def body : Code := bodyOf Tryz.f120
noncomputable def pre (K : Nat) (x : Args ps) : Option St := evK [] T [] K (sub body [0]) (mkSt (parsSt 0 ps x)) (kSeq (fun s _ => act [] T (opAt (sub body [1, 0, 0]) 0) s (fun U => some (look U s))) (fun _ _ => none))
noncomputable def S1 (K : Nat) (x : Args ps) : St := (pre K x).getD (fun _ => Cont.none)
theorem pre_ok (K : Nat) (x : Args ps) : pre K x = some (S1 K x) := by kernel_rfl
theorem leaf_ok (K : Nat) (x : Args ps) : one (S1 K x) (.tmp 3) = .ro true 94 t14 x.1 := by kernel_rfl
theorem no_ok (K : Nat) (x : Args ps) : evK [] T [] K (.seq (.cond (.tmp 4) (sub body [1, 0, 1, 0]) (sub body [1, 0, 1, 1])) (sub body [1, 1])) (look (putU (S1 K x) [] 4 .one [.bool false]) (S1 K x)) (finK T ps rs false Tryz.f120.results.toList) = f K x := by kernel_rfl
theorem yes_ok (K : Nat) (x : Args ps) : evK [] T [] K (.seq (.cond (.tmp 4) (sub body [1, 0, 1, 0]) (sub body [1, 0, 1, 1])) (sub body [1, 1])) (look (putU (S1 K x) [] 4 .one [.bool true]) (S1 K x)) (finK T ps rs false Tryz.f120.results.toList) = some (([], ()), ()) := by kernel_rfl
end m_slices_Clone_impl_Place_impl_Place
theorem m_slices_Clone_impl_Place_impl_Place.sound (K : Nat) : Sound Tryz.prog (m_slices_Clone_impl_Place_impl_Place.c K) :=
  nil_sound m_slices_Clone_impl_Place_impl_Place.T_ok (by kernel_rfl) (fn := Tryz.f120) Tryz.func120 (by kernel_rfl) (R0 := sub m_slices_Clone_impl_Place_impl_Place.body [0]) (A := sub m_slices_Clone_impl_Place_impl_Place.body [1, 0, 1, 0]) (B := sub m_slices_Clone_impl_Place_impl_Place.body [1, 0, 1, 1]) (C := sub m_slices_Clone_impl_Place_impl_Place.body [1, 1]) (rid := 1) (o0 := opAt (sub m_slices_Clone_impl_Place_impl_Place.body [1, 0, 0]) 0) (o1 := opAt (sub m_slices_Clone_impl_Place_impl_Place.body [1, 0, 0]) 1) (d0 := 3) (q := 4) (t := 41) (t' := 41) (x0 := .tmp 0) (L := []) (K := K) (E' := 94)
    (by kernel_rfl) (by kernel_rfl) (by kernel_rfl) (by kernel_rfl) (by kernel_rfl) (by kernel_rfl) (by kernel_rfl) (by kernel_rfl) (S1 := m_slices_Clone_impl_Place_impl_Place.S1 K) (m_slices_Clone_impl_Place_impl_Place.pre_ok K) (m_slices_Clone_impl_Place_impl_Place.leaf_ok K) (m_slices_Clone_impl_Place_impl_Place.no_ok K) (fun x y hx hy => (m_slices_Clone_impl_Place_impl_Place.yes_ok K x).trans (((cloneM_nil _ _).symm.trans (congrArg (cloneM _ _) hx.symm)).trans hy))
namespace m_slices_Clone_int_int
noncomputable def Tl : List (TypeId × TI) := [(57, .slice 3 (.int .i64) 8)]
noncomputable def T (t : TypeId) : TI := tlook Tl t
theorem T_ok : TOk Tryz.prog T := tlB_ok (l := Tl) (by kernel_rfl)
noncomputable def body : Code := bodyOf Tryz.f195
noncomputable def pre (K : Nat) (x : Args ps) : Option St := evK [] T [] K (sub body [0]) (mkSt (parsSt 0 ps x)) (kSeq (fun s _ => act [] T (opAt (sub body [1, 0, 0]) 0) s (fun U => some (look U s))) (fun _ _ => none))
noncomputable def S1 (K : Nat) (x : Args ps) : St := (pre K x).getD (fun _ => Cont.none)
theorem pre_ok (K : Nat) (x : Args ps) : pre K x = some (S1 K x) := by kernel_rfl
theorem leaf_ok (K : Nat) (x : Args ps) : one (S1 K x) (.tmp 3) = .ro true 3 (.int .i64) x.1 := by kernel_rfl
theorem no_ok (K : Nat) (x : Args ps) : evK [] T [] K (.seq (.cond (.tmp 4) (sub body [1, 0, 1, 0]) (sub body [1, 0, 1, 1])) (sub body [1, 1])) (look (putU (S1 K x) [] 4 .one [.bool false]) (S1 K x)) (finK T ps rs true Tryz.f195.results.toList) = f K x := by kernel_rfl
theorem yes_ok (K : Nat) (x : Args ps) : evK [] T [] K (.seq (.cond (.tmp 4) (sub body [1, 0, 1, 0]) (sub body [1, 0, 1, 1])) (sub body [1, 1])) (look (putU (S1 K x) [] 4 .one [.bool true]) (S1 K x)) (finK T ps rs true Tryz.f195.results.toList) = some (([], ()), ()) := by kernel_rfl
end m_slices_Clone_int_int
theorem m_slices_Clone_int_int.sound (K : Nat) : Sound Tryz.prog (m_slices_Clone_int_int.c K) :=
  nil_sound m_slices_Clone_int_int.T_ok (by kernel_rfl) (fn := Tryz.f195) Tryz.func195 (by kernel_rfl) (R0 := sub m_slices_Clone_int_int.body [0]) (A := sub m_slices_Clone_int_int.body [1, 0, 1, 0]) (B := sub m_slices_Clone_int_int.body [1, 0, 1, 1]) (C := sub m_slices_Clone_int_int.body [1, 1]) (rid := 1) (o0 := opAt (sub m_slices_Clone_int_int.body [1, 0, 0]) 0) (o1 := opAt (sub m_slices_Clone_int_int.body [1, 0, 0]) 1) (d0 := 3) (q := 4) (t := 57) (t' := 57) (x0 := .tmp 0) (L := []) (K := K) (E' := 3)
    (by kernel_rfl) (by kernel_rfl) (by kernel_rfl) (by kernel_rfl) (by kernel_rfl) (by kernel_rfl) (by kernel_rfl) (by kernel_rfl) (S1 := m_slices_Clone_int_int.S1 K) (m_slices_Clone_int_int.pre_ok K) (m_slices_Clone_int_int.leaf_ok K) (m_slices_Clone_int_int.no_ok K) (fun x y hx hy => (m_slices_Clone_int_int.yes_ok K x).trans (((cloneM_nil _ _).symm.trans (congrArg (cloneM _ _) hx.symm)).trans hy))
end Go.Proofs.YthgnfidnmnkeaaaGreatEv
