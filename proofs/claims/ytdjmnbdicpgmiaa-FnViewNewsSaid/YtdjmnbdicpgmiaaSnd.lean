/- The contracts are sound. Printed by run3.py. -/
import Derived.Test.YtdjmnbdicpgmiaaEqn0
import Derived.Test.YtdjmnbdicpgmiaaE7
import Derived.Test.YtdjmnbdicpgmiaaMan
import Derived.Test.YtdjmnbdicpgmiaaIns
set_option linter.unusedVariables false
set_option maxRecDepth 100000
namespace Go.Proofs.YtdjmnbdicpgmiaaEv
open Go Go.Proofs
theorem allNil {p : Ctr → Prop} : ∀ c ∈ ([] : List Ctr), p c := by simp
theorem allCons {p : Ctr → Prop} {a : Ctr} {l : List Ctr} (h : p a) (hl : ∀ c ∈ l, p c) : ∀ c ∈ a :: l, p c := by
  intro c hc; rcases List.mem_cons.1 hc with rfl | hc
  · exact h
  · exact hl c hc
theorem T_D_ok : TOk Try.prog T_D := tlB_ok (l := Tl_D) (by kernel_rfl)
theorem T_S_ok : TOk Try.prog T_S := tlB_ok (l := Tl_S) (by kernel_rfl)
theorem mixed : Try.prog.follows .mixedOrders = true := by kernel_rfl
theorem spec_l1In.sound (K : Nat) : Sound Try.prog (spec_l1In.c K) :=
  fn_sound (Γ := spec_l1In.G K) T_S_ok (allNil) mixed (fn := Try.f46) Try.func46 (by kernel_rfl) (L := spec_l1In.L) (fuel := K) (by kernel_rfl) (fun x => spec_l1In.eqn K x)
theorem spec_FactOk.sound (K : Nat) : Sound Try.prog (spec_FactOk.c K) :=
  fn_sound (Γ := spec_FactOk.G K) T_S_ok ((allCons (spec_l1In.sound K) allNil)) mixed (fn := Try.f36) Try.func36 (by kernel_rfl) (L := spec_FactOk.L) (fuel := K) (by kernel_rfl) (fun x => spec_FactOk.eqn K x)
theorem spec_TableOk.sound (K : Nat) : Sound Try.prog (spec_TableOk.c K) :=
  fn_sound (Γ := spec_TableOk.G K) T_S_ok ((allCons (spec_FactOk.sound K) allNil)) mixed (fn := Try.f19) Try.func19 (by kernel_rfl) (L := spec_TableOk.L) (fuel := K) (by kernel_rfl) (fun x => spec_TableOk.eqn K x)
theorem spec_l3Find.sound (K : Nat) : Sound Try.prog (spec_l3Find.c K) :=
  fn_sound (Γ := spec_l3Find.G K) T_S_ok (allNil) mixed (fn := Try.f28) Try.func28 (by kernel_rfl) (L := spec_l3Find.L) (fuel := K) (by kernel_rfl) (fun x => spec_l3Find.eqn K x)
theorem spec_ViewNews.sound (K : Nat) : Sound Try.prog (spec_ViewNews.c K) :=
  fn_sound (Γ := spec_ViewNews.G K) T_S_ok ((allCons (spec_TableOk.sound K) (allCons (spec_l3Find.sound K) allNil))) mixed (fn := Try.f11) Try.func11 (by kernel_rfl) (L := spec_ViewNews.L) (fuel := K) (by kernel_rfl) (fun x => spec_ViewNews.eqn K x)
theorem impl_in.sound (K : Nat) : Sound Try.prog (impl_in.c K) :=
  fn_sound (Γ := impl_in.G K) T_D_ok (allNil) mixed (fn := Try.f45) Try.func45 (by kernel_rfl) (L := impl_in.L) (fuel := K) (by kernel_rfl) (fun x => impl_in.eqn K x)
theorem impl_isNode.sound (K : Nat) : Sound Try.prog (impl_isNode.c K) :=
  fn_sound (Γ := impl_isNode.G K) T_D_ok ((allCons (impl_in.sound K) allNil)) mixed (fn := Try.f44) Try.func44 (by kernel_rfl) (L := impl_isNode.L) (fuel := K) (by kernel_rfl) (fun x => impl_isNode.eqn K x)
theorem impl_FactOk.sound (K : Nat) : Sound Try.prog (impl_FactOk.c K) :=
  fn_sound (Γ := impl_FactOk.G K) T_D_ok ((allCons (impl_isNode.sound K) (allCons (impl_in.sound K) allNil))) mixed (fn := Try.f35) Try.func35 (by kernel_rfl) (L := impl_FactOk.L) (fuel := K) (by kernel_rfl) (fun x => impl_FactOk.eqn K x)
theorem impl_TableOk.sound (K : Nat) : Sound Try.prog (impl_TableOk.c K) :=
  fn_sound (Γ := impl_TableOk.G K) T_D_ok ((allCons (impl_FactOk.sound K) allNil)) mixed (fn := Try.f18) Try.func18 (by kernel_rfl) (L := impl_TableOk.L) (fuel := K) (by kernel_rfl) (fun x => impl_TableOk.eqn K x)
theorem slices_BinarySearchFunc_impl_Fact_impl_Fact_int.sound (K : Nat) : Sound Try.prog (slices_BinarySearchFunc_impl_Fact_impl_Fact_int.c K) :=
  fn_sound (Γ := slices_BinarySearchFunc_impl_Fact_impl_Fact_int.G K) T_D_ok (allNil) mixed (fn := Try.f47) Try.func47 (by kernel_rfl) (L := slices_BinarySearchFunc_impl_Fact_impl_Fact_int.L) (fuel := K) (by kernel_rfl) (fun x => slices_BinarySearchFunc_impl_Fact_impl_Fact_int.eqn K x)
theorem cmp_isNaN_int.sound (K : Nat) : Sound Try.prog (cmp_isNaN_int.c K) :=
  fn_sound (Γ := cmp_isNaN_int.G K) T_D_ok (allNil) mixed (fn := Try.f54) Try.func54 (by kernel_rfl) (L := cmp_isNaN_int.L) (fuel := K) (by kernel_rfl) (fun x => cmp_isNaN_int.eqn K x)
theorem cmp_Compare_int.sound (K : Nat) : Sound Try.prog (cmp_Compare_int.c K) :=
  fn_sound (Γ := cmp_Compare_int.G K) T_D_ok ((allCons (cmp_isNaN_int.sound K) allNil)) mixed (fn := Try.f49) Try.func49 (by kernel_rfl) (L := cmp_Compare_int.L) (fuel := K) (by kernel_rfl) (fun x => cmp_Compare_int.eqn K x)
theorem impl_find_1.sound (K : Nat) : Sound Try.prog (impl_find_1.c K) :=
  fn_sound (Γ := impl_find_1.G K) T_D_ok ((allCons (cmp_Compare_int.sound K) allNil)) mixed (fn := Try.f48) Try.func48 (by kernel_rfl) (L := impl_find_1.L) (fuel := K) (by kernel_rfl) (fun x => impl_find_1.eqn K x)
theorem impl_find.sound (K : Nat) : Sound Try.prog (impl_find.c K) :=
  fn_sound (Γ := impl_find.G K) T_D_ok ((allCons (slices_BinarySearchFunc_impl_Fact_impl_Fact_int.sound K) (allCons (impl_find_1.sound K) allNil))) mixed (fn := Try.f37) Try.func37 (by kernel_rfl) (L := impl_find.L) (fuel := K) (by kernel_rfl) (fun x => impl_find.eqn K x)
theorem impl_TableOf.sound (K : Nat) : Sound Try.prog (impl_TableOf.c K) :=
  fn_sound (Γ := impl_TableOf.G K) T_D_ok ((allCons (impl_TableOk.sound K) (allCons (impl_find.sound K) allNil))) mixed (fn := Try.f20) Try.func20 (by kernel_rfl) (L := impl_TableOf.L) (fuel := K) (by kernel_rfl) (fun x => impl_TableOf.eqn K x)
theorem slices_Index_impl_Fact_impl_Fact.sound (K : Nat) : Sound Try.prog (slices_Index_impl_Fact_impl_Fact.c K) :=
  fn_sound (Γ := slices_Index_impl_Fact_impl_Fact.G K) T_D_ok (allNil) mixed (fn := Try.f40) Try.func40 (by kernel_rfl) (L := slices_Index_impl_Fact_impl_Fact.L) (fuel := K) (by kernel_rfl) (fun x => slices_Index_impl_Fact_impl_Fact.eqn K x)
theorem slices_Contains_impl_Fact_impl_Fact.sound (K : Nat) : Sound Try.prog (slices_Contains_impl_Fact_impl_Fact.c K) :=
  fn_sound (Γ := slices_Contains_impl_Fact_impl_Fact.G K) T_D_ok ((allCons (slices_Index_impl_Fact_impl_Fact.sound K) allNil)) mixed (fn := Try.f29) Try.func29 (by kernel_rfl) (L := slices_Contains_impl_Fact_impl_Fact.L) (fuel := K) (by kernel_rfl) (fun x => slices_Contains_impl_Fact_impl_Fact.eqn K x)
theorem impl_ViewNews.sound (K : Nat) : Sound Try.prog (impl_ViewNews.c K) :=
  fn_sound (Γ := impl_ViewNews.G K) T_D_ok ((allCons (impl_TableOk.sound K) (allCons (impl_TableOf.sound K) (allCons (slices_Contains_impl_Fact_impl_Fact.sound K) allNil)))) mixed (fn := Try.f12) Try.func12 (by kernel_rfl) (L := impl_ViewNews.L) (fuel := K) (by kernel_rfl) (fun x => impl_ViewNews.eqn K x)
theorem spec_l1Open.sound (K : Nat) : Sound Try.prog (spec_l1Open.c K) :=
  fn_sound (Γ := spec_l1Open.G K) T_S_ok (allNil) mixed (fn := Try.f31) Try.func31 (by kernel_rfl) (L := spec_l1Open.L) (fuel := K) (by kernel_rfl) (fun x => spec_l1Open.eqn K x)
theorem spec_l1Rd_pick.sound (K : Nat) : Sound Try.prog (spec_l1Rd_pick.c K) :=
  fn_sound (Γ := spec_l1Rd_pick.G K) T_S_ok (allNil) mixed (fn := Try.f33) Try.func33 (by kernel_rfl) (L := spec_l1Rd_pick.L) (fuel := K) (by kernel_rfl) (fun x => spec_l1Rd_pick.eqn K x)
theorem spec_l3Over.sound (K : Nat) : Sound Try.prog (spec_l3Over.c K) :=
  fn_sound (Γ := spec_l3Over.G K) T_S_ok (allNil) mixed (fn := Try.f53) Try.func53 (by kernel_rfl) (L := spec_l3Over.L) (fuel := K) (by kernel_rfl) (fun x => spec_l3Over.eqn K x)
theorem spec_l3Put.sound (K : Nat) : Sound Try.prog (spec_l3Put.c K) :=
  fn_sound (Γ := spec_l3Put.G K) T_S_ok ((allCons (spec_l3Find.sound K) (allCons (spec_l3Over.sound K) allNil))) mixed (fn := Try.f43) Try.func43 (by kernel_rfl) (L := spec_l3Put.L) (fuel := K) (by kernel_rfl) (fun x => spec_l3Put.eqn K x)
theorem spec_l51Gate.sound (K : Nat) : Sound Try.prog (spec_l51Gate.c K) :=
  fn_sound (Γ := spec_l51Gate.G K) T_S_ok (allNil) mixed (fn := Try.f58) Try.func58 (by kernel_rfl) (L := spec_l51Gate.L) (fuel := K) (by kernel_rfl) (fun x => spec_l51Gate.eqn K x)
theorem spec_l61Fact.sound (K : Nat) : Sound Try.prog (spec_l61Fact.c K) :=
  fn_sound (Γ := spec_l61Fact.G K) T_S_ok ((allCons (spec_l1Rd_pick.sound K) (allCons (spec_l51Gate.sound K) allNil))) mixed (fn := Try.f52) Try.func52 (by kernel_rfl) (L := spec_l61Fact.L) (fuel := K) (by kernel_rfl) (fun x => spec_l61Fact.eqn K x)
theorem spec_l61Table.sound (K : Nat) : Sound Try.prog (spec_l61Table.c K) :=
  fn_sound (Γ := spec_l61Table.G K) T_S_ok ((allCons (spec_l1Rd_pick.sound K) (allCons (spec_l3Put.sound K) (allCons (spec_l61Fact.sound K) allNil)))) mixed (fn := Try.f41) Try.func41 (by kernel_rfl) (L := spec_l61Table.L) (fuel := K) (by kernel_rfl) (fun x => spec_l61Table.eqn K x)
theorem spec_l61AnyFact.sound (K : Nat) : Sound Try.prog (spec_l61AnyFact.c K) :=
  fn_sound (Γ := spec_l61AnyFact.G K) T_S_ok ((allCons (spec_l1Rd_pick.sound K) (allCons (spec_l61Fact.sound K) allNil))) mixed (fn := Try.f42) Try.func42 (by kernel_rfl) (L := spec_l61AnyFact.L) (fuel := K) (by kernel_rfl) (fun x => spec_l61AnyFact.eqn K x)
theorem spec_l61AnyTable.sound (K : Nat) : Sound Try.prog (spec_l61AnyTable.c K) :=
  fn_sound (Γ := spec_l61AnyTable.G K) T_S_ok ((allCons (spec_l1Rd_pick.sound K) (allCons (spec_l61Table.sound K) (allCons (spec_l61AnyFact.sound K) allNil)))) mixed (fn := Try.f32) Try.func32 (by kernel_rfl) (L := spec_l61AnyTable.L) (fuel := K) (by kernel_rfl) (fun x => spec_l61AnyTable.eqn K x)
theorem spec_TableJoin.sound (K : Nat) : Sound Try.prog (spec_TableJoin.c K) :=
  fn_sound (Γ := spec_TableJoin.G K) T_S_ok ((allCons (spec_TableOk.sound K) (allCons (spec_l3Put.sound K) allNil))) mixed (fn := Try.f34) Try.func34 (by kernel_rfl) (L := spec_TableJoin.L) (fuel := K) (by kernel_rfl) (fun x => spec_TableJoin.eqn K x)
theorem spec_DrawViewNews.sound (K : Nat) : Sound Try.prog (spec_DrawViewNews.c K) :=
  fn_sound (Γ := spec_DrawViewNews.G K) T_S_ok ((allCons (spec_l1Open.sound K) (allCons (spec_l61AnyTable.sound K) (allCons (spec_l1Rd_pick.sound K) (allCons (spec_TableJoin.sound K) allNil))))) mixed (fn := Try.f17) Try.func17 (by kernel_rfl) (L := spec_DrawViewNews.L) (fuel := K) (by kernel_rfl) (fun x => spec_DrawViewNews.eqn K x)
theorem cmp_Or_int.sound (K : Nat) : Sound Try.prog (cmp_Or_int.c K) :=
  fn_sound (Γ := cmp_Or_int.G K) T_D_ok (allNil) mixed (fn := Try.f57) Try.func57 (by kernel_rfl) (L := cmp_Or_int.L) (fuel := K) (by kernel_rfl) (fun x => cmp_Or_int.eqn K x)
theorem impl_Fact_compare.sound (K : Nat) : Sound Try.prog (impl_Fact_compare.c K) :=
  fn_sound (Γ := impl_Fact_compare.G K) T_D_ok ((allCons (cmp_Compare_int.sound K) (allCons (cmp_Or_int.sound K) allNil))) mixed (fn := Try.f51) Try.func51 (by kernel_rfl) (L := impl_Fact_compare.L) (fuel := K) (by kernel_rfl) (fun x => impl_Fact_compare.eqn K x)
theorem impl_put.sound (K : Nat) : Sound Try.prog (impl_put.c K) :=
  fn_sound (Γ := impl_put.G K) T_D_ok ((allCons (impl_find.sound K) (allCons (m_slices_Clone_impl_Fact_impl_Fact.sound K) (allCons (m_slices_Insert_impl_Fact_impl_Fact.sound K) (allCons (impl_Fact_compare.sound K) allNil))))) mixed (fn := Try.f38) Try.func38 (by kernel_rfl) (L := impl_put.L) (fuel := K) (by kernel_rfl) (fun x => impl_put.eqn K x)
theorem impl_TablePut.sound (K : Nat) : Sound Try.prog (impl_TablePut.c K) :=
  fn_sound (Γ := impl_TablePut.G K) T_D_ok ((allCons (impl_TableOk.sound K) (allCons (impl_FactOk.sound K) (allCons (impl_put.sound K) allNil)))) mixed (fn := Try.f21) Try.func21 (by kernel_rfl) (L := impl_TablePut.L) (fuel := K) (by kernel_rfl) (fun x => impl_TablePut.eqn K x)
theorem laws_lhFacts.sound (K : Nat) : Sound Try.prog (laws_lhFacts.c K) :=
  fn_sound (Γ := laws_lhFacts.G K) T_D_ok (allNil) mixed (fn := Try.f22) Try.func22 (by kernel_rfl) (L := laws_lhFacts.L) (fuel := K) (by kernel_rfl) (fun x => laws_lhFacts.eqn K x)
theorem impl_TableJoin.sound (K : Nat) : Sound Try.prog (impl_TableJoin.c K) :=
  fn_sound (Γ := impl_TableJoin.G K) T_D_ok ((allCons (impl_TableOk.sound K) (allCons (impl_put.sound K) (allCons (m_slices_Clone_impl_Fact_impl_Fact.sound K) allNil)))) mixed (fn := Try.f23) Try.func23 (by kernel_rfl) (L := impl_TableJoin.L) (fuel := K) (by kernel_rfl) (fun x => impl_TableJoin.eqn K x)
theorem laws_FnViewNews.sound (K : Nat) : Sound Try.prog (laws_FnViewNews.c K) :=
  fn_sound (Γ := laws_FnViewNews.G K) T_D_ok ((allCons (spec_ViewNews.sound K) (allCons (impl_ViewNews.sound K) (allCons (spec_DrawViewNews.sound K) (allCons (impl_TableOk.sound K) (allCons (spec_TableOk.sound K) (allCons (impl_TableOf.sound K) (allCons (impl_TablePut.sound K) (allCons (laws_lhFacts.sound K) (allCons (impl_TableJoin.sound K) allNil)))))))))) mixed (fn := Try.f5) Try.func5 (by kernel_rfl) (L := laws_FnViewNews.L) (fuel := K) (by kernel_rfl) (fun x => laws_FnViewNews.eqn K x)
end Go.Proofs.YtdjmnbdicpgmiaaEv
