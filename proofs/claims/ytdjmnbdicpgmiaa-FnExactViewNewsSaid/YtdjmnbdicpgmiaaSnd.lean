/- The contracts are sound. Printed by run3.py. -/
import Derived.Test.YtdjmnbdicpgmiaaEqn0
import Derived.Test.YtdjmnbdicpgmiaaE7
set_option linter.unusedVariables false
set_option maxRecDepth 100000
namespace Go.Proofs.YtdjmnbdicpgmiaaEv
open Go Go.Proofs
theorem allNil {p : Ctr → Prop} : ∀ c ∈ ([] : List Ctr), p c := by simp
theorem allCons {p : Ctr → Prop} {a : Ctr} {l : List Ctr} (h : p a) (hl : ∀ c ∈ l, p c) : ∀ c ∈ a :: l, p c := by
  intro c hc; rcases List.mem_cons.1 hc with rfl | hc
  · exact h
  · exact hl c hc
theorem T_D_ok : TOk Try.prog T_D := tlB_ok (l := Tl_D) (by kernel_rfl)
theorem T_S_ok : TOk Try.prog T_S := tlB_ok (l := Tl_S) (by kernel_rfl)
theorem mixed : Try.prog.follows .mixedOrders = true := by kernel_rfl
theorem laws_szFactS.sound (K : Nat) : Sound Try.prog (laws_szFactS.c K) :=
  fn_sound (Γ := laws_szFactS.G K) T_D_ok (allNil) mixed (fn := Try.f6) Try.func6 (by kernel_rfl) (L := laws_szFactS.L) (fuel := K) (by kernel_rfl) (fun x => laws_szFactS.eqn K x)
theorem laws_toFact.sound (K : Nat) : Sound Try.prog (laws_toFact.c K) :=
  fn_sound (Γ := laws_toFact.G K) T_D_ok (allNil) mixed (fn := Try.f24) Try.func24 (by kernel_rfl) (L := laws_toFact.L) (fuel := K) (by kernel_rfl) (fun x => laws_toFact.eqn K x)
theorem laws_toFactS.sound (K : Nat) : Sound Try.prog (laws_toFactS.c K) :=
  fn_sound (Γ := laws_toFactS.G K) T_D_ok ((allCons (laws_toFact.sound K) allNil)) mixed (fn := Try.f8) Try.func8 (by kernel_rfl) (L := laws_toFactS.L) (fuel := K) (by kernel_rfl) (fun x => laws_toFactS.eqn K x)
theorem laws_eqFact.sound (K : Nat) : Sound Try.prog (laws_eqFact.c K) :=
  fn_sound (Γ := laws_eqFact.G K) T_D_ok (allNil) mixed (fn := Try.f27) Try.func27 (by kernel_rfl) (L := laws_eqFact.L) (fuel := K) (by kernel_rfl) (fun x => laws_eqFact.eqn K x)
theorem laws_eqFactS.sound (K : Nat) : Sound Try.prog (laws_eqFactS.c K) :=
  fn_sound (Γ := laws_eqFactS.G K) T_D_ok ((allCons (laws_eqFact.sound K) allNil)) mixed (fn := Try.f10) Try.func10 (by kernel_rfl) (L := laws_eqFactS.L) (fuel := K) (by kernel_rfl) (fun x => laws_eqFactS.eqn K x)
theorem spec_l1In.sound (K : Nat) : Sound Try.prog (spec_l1In.c K) :=
  fn_sound (Γ := spec_l1In.G K) T_S_ok (allNil) mixed (fn := Try.f46) Try.func46 (by kernel_rfl) (L := spec_l1In.L) (fuel := K) (by kernel_rfl) (fun x => spec_l1In.eqn K x)
theorem spec_FactOk.sound (K : Nat) : Sound Try.prog (spec_FactOk.c K) :=
  fn_sound (Γ := spec_FactOk.G K) T_S_ok ((allCons (spec_l1In.sound K) allNil)) mixed (fn := Try.f36) Try.func36 (by kernel_rfl) (L := spec_FactOk.L) (fuel := K) (by kernel_rfl) (fun x => spec_FactOk.eqn K x)
theorem spec_TableOk.sound (K : Nat) : Sound Try.prog (spec_TableOk.c K) :=
  fn_sound (Γ := spec_TableOk.G K) T_S_ok ((allCons (spec_FactOk.sound K) allNil)) mixed (fn := Try.f19) Try.func19 (by kernel_rfl) (L := spec_TableOk.L) (fuel := K) (by kernel_rfl) (fun x => spec_TableOk.eqn K x)
theorem spec_l3Find.sound (K : Nat) : Sound Try.prog (spec_l3Find.c K) :=
  fn_sound (Γ := spec_l3Find.G K) T_S_ok (allNil) mixed (fn := Try.f28) Try.func28 (by kernel_rfl) (L := spec_l3Find.L) (fuel := K) (by kernel_rfl) (fun x => spec_l3Find.eqn K x)
theorem spec_ViewNews.sound (K : Nat) : Sound Try.prog (spec_ViewNews.c K) :=
  fn_sound (Γ := spec_ViewNews.G K) T_S_ok ((allCons (spec_TableOk.sound K) (allCons (spec_l3Find.sound K) allNil))) mixed (fn := Try.f11) Try.func11 (by kernel_rfl) (L := spec_ViewNews.L) (fuel := K) (by kernel_rfl) (fun x => spec_ViewNews.eqn K x)
theorem impl_in.sound (K : Nat) : Sound Try.prog (impl_in.c K) :=
  fn_sound (Γ := impl_in.G K) T_D_ok (allNil) mixed (fn := Try.f45) Try.func45 (by kernel_rfl) (L := impl_in.L) (fuel := K) (by kernel_rfl) (fun x => impl_in.eqn K x)
theorem impl_isNode.sound (K : Nat) : Sound Try.prog (impl_isNode.c K) :=
  fn_sound (Γ := impl_isNode.G K) T_D_ok ((allCons (impl_in.sound K) allNil)) mixed (fn := Try.f44) Try.func44 (by kernel_rfl) (L := impl_isNode.L) (fuel := K) (by kernel_rfl) (fun x => impl_isNode.eqn K x)
theorem impl_FactOk.sound (K : Nat) : Sound Try.prog (impl_FactOk.c K) :=
  fn_sound (Γ := impl_FactOk.G K) T_D_ok ((allCons (impl_isNode.sound K) (allCons (impl_in.sound K) allNil))) mixed (fn := Try.f35) Try.func35 (by kernel_rfl) (L := impl_FactOk.L) (fuel := K) (by kernel_rfl) (fun x => impl_FactOk.eqn K x)
theorem impl_TableOk.sound (K : Nat) : Sound Try.prog (impl_TableOk.c K) :=
  fn_sound (Γ := impl_TableOk.G K) T_D_ok ((allCons (impl_FactOk.sound K) allNil)) mixed (fn := Try.f18) Try.func18 (by kernel_rfl) (L := impl_TableOk.L) (fuel := K) (by kernel_rfl) (fun x => impl_TableOk.eqn K x)
theorem slices_BinarySearchFunc_impl_Fact_impl_Fact_int.sound (K : Nat) : Sound Try.prog (slices_BinarySearchFunc_impl_Fact_impl_Fact_int.c K) :=
  fn_sound (Γ := slices_BinarySearchFunc_impl_Fact_impl_Fact_int.G K) T_D_ok (allNil) mixed (fn := Try.f47) Try.func47 (by kernel_rfl) (L := slices_BinarySearchFunc_impl_Fact_impl_Fact_int.L) (fuel := K) (by kernel_rfl) (fun x => slices_BinarySearchFunc_impl_Fact_impl_Fact_int.eqn K x)
theorem cmp_isNaN_int.sound (K : Nat) : Sound Try.prog (cmp_isNaN_int.c K) :=
  fn_sound (Γ := cmp_isNaN_int.G K) T_D_ok (allNil) mixed (fn := Try.f54) Try.func54 (by kernel_rfl) (L := cmp_isNaN_int.L) (fuel := K) (by kernel_rfl) (fun x => cmp_isNaN_int.eqn K x)
theorem cmp_Compare_int.sound (K : Nat) : Sound Try.prog (cmp_Compare_int.c K) :=
  fn_sound (Γ := cmp_Compare_int.G K) T_D_ok ((allCons (cmp_isNaN_int.sound K) allNil)) mixed (fn := Try.f49) Try.func49 (by kernel_rfl) (L := cmp_Compare_int.L) (fuel := K) (by kernel_rfl) (fun x => cmp_Compare_int.eqn K x)
theorem impl_find_1.sound (K : Nat) : Sound Try.prog (impl_find_1.c K) :=
  fn_sound (Γ := impl_find_1.G K) T_D_ok ((allCons (cmp_Compare_int.sound K) allNil)) mixed (fn := Try.f48) Try.func48 (by kernel_rfl) (L := impl_find_1.L) (fuel := K) (by kernel_rfl) (fun x => impl_find_1.eqn K x)
theorem impl_find.sound (K : Nat) : Sound Try.prog (impl_find.c K) :=
  fn_sound (Γ := impl_find.G K) T_D_ok ((allCons (slices_BinarySearchFunc_impl_Fact_impl_Fact_int.sound K) (allCons (impl_find_1.sound K) allNil))) mixed (fn := Try.f37) Try.func37 (by kernel_rfl) (L := impl_find.L) (fuel := K) (by kernel_rfl) (fun x => impl_find.eqn K x)
theorem impl_TableOf.sound (K : Nat) : Sound Try.prog (impl_TableOf.c K) :=
  fn_sound (Γ := impl_TableOf.G K) T_D_ok ((allCons (impl_TableOk.sound K) (allCons (impl_find.sound K) allNil))) mixed (fn := Try.f20) Try.func20 (by kernel_rfl) (L := impl_TableOf.L) (fuel := K) (by kernel_rfl) (fun x => impl_TableOf.eqn K x)
theorem slices_Index_impl_Fact_impl_Fact.sound (K : Nat) : Sound Try.prog (slices_Index_impl_Fact_impl_Fact.c K) :=
  fn_sound (Γ := slices_Index_impl_Fact_impl_Fact.G K) T_D_ok (allNil) mixed (fn := Try.f40) Try.func40 (by kernel_rfl) (L := slices_Index_impl_Fact_impl_Fact.L) (fuel := K) (by kernel_rfl) (fun x => slices_Index_impl_Fact_impl_Fact.eqn K x)
theorem slices_Contains_impl_Fact_impl_Fact.sound (K : Nat) : Sound Try.prog (slices_Contains_impl_Fact_impl_Fact.c K) :=
  fn_sound (Γ := slices_Contains_impl_Fact_impl_Fact.G K) T_D_ok ((allCons (slices_Index_impl_Fact_impl_Fact.sound K) allNil)) mixed (fn := Try.f29) Try.func29 (by kernel_rfl) (L := slices_Contains_impl_Fact_impl_Fact.L) (fuel := K) (by kernel_rfl) (fun x => slices_Contains_impl_Fact_impl_Fact.eqn K x)
theorem impl_ViewNews.sound (K : Nat) : Sound Try.prog (impl_ViewNews.c K) :=
  fn_sound (Γ := impl_ViewNews.G K) T_D_ok ((allCons (impl_TableOk.sound K) (allCons (impl_TableOf.sound K) (allCons (slices_Contains_impl_Fact_impl_Fact.sound K) allNil)))) mixed (fn := Try.f12) Try.func12 (by kernel_rfl) (L := impl_ViewNews.L) (fuel := K) (by kernel_rfl) (fun x => impl_ViewNews.eqn K x)
theorem laws_eqNews.sound (K : Nat) : Sound Try.prog (laws_eqNews.c K) :=
  fn_sound (Γ := laws_eqNews.G K) T_D_ok ((allCons (laws_eqFact.sound K) allNil)) mixed (fn := Try.f30) Try.func30 (by kernel_rfl) (L := laws_eqNews.L) (fuel := K) (by kernel_rfl) (fun x => laws_eqNews.eqn K x)
theorem laws_eqNewsS.sound (K : Nat) : Sound Try.prog (laws_eqNewsS.c K) :=
  fn_sound (Γ := laws_eqNewsS.G K) T_D_ok ((allCons (laws_eqNews.sound K) allNil)) mixed (fn := Try.f13) Try.func13 (by kernel_rfl) (L := laws_eqNewsS.L) (fuel := K) (by kernel_rfl) (fun x => laws_eqNewsS.eqn K x)
theorem laws_markFactS.sound (K : Nat) : Sound Try.prog (laws_markFactS.c K) :=
  fn_sound (Γ := laws_markFactS.G K) T_D_ok (allNil) mixed (fn := Try.f14) Try.func14 (by kernel_rfl) (L := laws_markFactS.L) (fuel := K) (by kernel_rfl) (fun x => laws_markFactS.eqn K x)
theorem laws_markNewsS.sound (K : Nat) : Sound Try.prog (laws_markNewsS.c K) :=
  fn_sound (Γ := laws_markNewsS.G K) T_D_ok (allNil) mixed (fn := Try.f15) Try.func15 (by kernel_rfl) (L := laws_markNewsS.L) (fuel := K) (by kernel_rfl) (fun x => laws_markNewsS.eqn K x)
theorem laws_heldNewsS.sound (K : Nat) : Sound Try.prog (laws_heldNewsS.c K) :=
  fn_sound (Γ := laws_heldNewsS.G K) T_D_ok (allNil) mixed (fn := Try.f16) Try.func16 (by kernel_rfl) (L := laws_heldNewsS.L) (fuel := K) (by kernel_rfl) (fun x => laws_heldNewsS.eqn K x)
theorem laws_FnExactViewNews.sound (K : Nat) : Sound Try.prog (laws_FnExactViewNews.c K) :=
  fn_sound (Γ := laws_FnExactViewNews.G K) T_D_ok ((allCons (laws_szFactS.sound K) (allCons (laws_toFactS.sound K) (allCons (laws_eqFactS.sound K) (allCons (spec_ViewNews.sound K) (allCons (impl_ViewNews.sound K) (allCons (laws_eqNewsS.sound K) (allCons (laws_markFactS.sound K) (allCons (laws_markNewsS.sound K) (allCons (laws_heldNewsS.sound K) allNil)))))))))) mixed (fn := Try.f4) Try.func4 (by kernel_rfl) (L := laws_FnExactViewNews.L) (fuel := K) (by kernel_rfl) (fun x => laws_FnExactViewNews.eqn K x)
end Go.Proofs.YtdjmnbdicpgmiaaEv
