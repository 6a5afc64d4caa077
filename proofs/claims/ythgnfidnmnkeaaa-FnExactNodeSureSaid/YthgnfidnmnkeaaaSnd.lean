import Derived.Test.YthgnfidnmnkeaaaFns
import Derived.Test.YthgnfidnmnkeaaaEv28
set_option maxRecDepth 100000
namespace Go.Proofs.YthgnfidnmnkeaaaEv
open Go Go.Proofs
theorem T_ok : TOk Try.prog T := tlB_ok (l := Tl) (by kernel_rfl)
theorem mixed : Try.prog.follows .mixedOrders = true := by kernel_rfl
theorem allNil {p : Ctr → Prop} : ∀ c ∈ ([] : List Ctr), p c := by simp
theorem allCons {p : Ctr → Prop} {a : Ctr} {l : List Ctr} (h : p a) (hl : ∀ c ∈ l, p c) : ∀ c ∈ a :: l, p c := by
  intro c hc
  rcases List.mem_cons.1 hc with rfl | hc
  · exact h
  · exact hl c hc
theorem spec_l1In.sound (K : Nat) : Sound Try.prog (spec_l1In.c K) :=
  fn_sound (Γ := spec_l1In.G K) T_ok (allNil) (allNil) mixed (fn := Try.f39) Try.func39 (by kernel_rfl) rfl (L := spec_l1In.L) (fuel := K) (by kernel_rfl) (fun x => spec_l1In.eqn K x)
theorem impl_in.sound (K : Nat) : Sound Try.prog (impl_in.c K) :=
  fn_sound (Γ := impl_in.G K) T_ok (allNil) (allNil) mixed (fn := Try.f58) Try.func58 (by kernel_rfl) rfl (L := impl_in.L) (fuel := K) (by kernel_rfl) (fun x => impl_in.eqn K x)
theorem impl_isNode.sound (K : Nat) : Sound Try.prog (impl_isNode.c K) :=
  fn_sound (Γ := impl_isNode.G K) T_ok ((allCons (impl_in.sound K) allNil)) ((allCons rfl allNil)) mixed (fn := Try.f57) Try.func57 (by kernel_rfl) rfl (L := impl_isNode.L) (fuel := K) (by kernel_rfl) (fun x => impl_isNode.eqn K x)
theorem laws_szFactS.sound (K : Nat) : Sound Try.prog (laws_szFactS.c K) :=
  fn_sound (Γ := laws_szFactS.G K) T_ok (allNil) (allNil) mixed (fn := Try.f34) Try.func34 (by kernel_rfl) rfl (L := laws_szFactS.L) (fuel := K) (by kernel_rfl) (fun x => laws_szFactS.eqn K x)
theorem laws_szItemS.sound (K : Nat) : Sound Try.prog (laws_szItemS.c K) :=
  fn_sound (Γ := laws_szItemS.G K) T_ok (allNil) (allNil) mixed (fn := Try.f35) Try.func35 (by kernel_rfl) rfl (L := laws_szItemS.L) (fuel := K) (by kernel_rfl) (fun x => laws_szItemS.eqn K x)
theorem laws_szIntS.sound (K : Nat) : Sound Try.prog (laws_szIntS.c K) :=
  fn_sound (Γ := laws_szIntS.G K) T_ok (allNil) (allNil) mixed (fn := Try.f118) Try.func118 (by kernel_rfl) rfl (L := laws_szIntS.L) (fuel := K) (by kernel_rfl) (fun x => laws_szIntS.eqn K x)
theorem laws_szDoubt.sound (K : Nat) : Sound Try.prog (laws_szDoubt.c K) :=
  fn_sound (Γ := laws_szDoubt.G K) T_ok ((allCons (laws_szIntS.sound K) allNil)) ((allCons rfl allNil)) mixed (fn := Try.f89) Try.func89 (by kernel_rfl) rfl (L := laws_szDoubt.L) (fuel := K) (by kernel_rfl) (fun x => laws_szDoubt.eqn K x)
theorem laws_szDoubtS.sound (K : Nat) : Sound Try.prog (laws_szDoubtS.c K) :=
  fn_sound (Γ := laws_szDoubtS.G K) T_ok ((allCons (laws_szDoubt.sound K) allNil)) ((allCons rfl allNil)) mixed (fn := Try.f36) Try.func36 (by kernel_rfl) rfl (L := laws_szDoubtS.L) (fuel := K) (by kernel_rfl) (fun x => laws_szDoubtS.eqn K x)
theorem laws_szPlace.sound (K : Nat) : Sound Try.prog (laws_szPlace.c K) :=
  fn_sound (Γ := laws_szPlace.G K) T_ok ((allCons (laws_szIntS.sound K) allNil)) ((allCons rfl allNil)) mixed (fn := Try.f90) Try.func90 (by kernel_rfl) rfl (L := laws_szPlace.L) (fuel := K) (by kernel_rfl) (fun x => laws_szPlace.eqn K x)
theorem laws_szPlaceS.sound (K : Nat) : Sound Try.prog (laws_szPlaceS.c K) :=
  fn_sound (Γ := laws_szPlaceS.G K) T_ok ((allCons (laws_szPlace.sound K) allNil)) ((allCons rfl allNil)) mixed (fn := Try.f37) Try.func37 (by kernel_rfl) rfl (L := laws_szPlaceS.L) (fuel := K) (by kernel_rfl) (fun x => laws_szPlaceS.eqn K x)
theorem laws_szForeign.sound (K : Nat) : Sound Try.prog (laws_szForeign.c K) :=
  fn_sound (Γ := laws_szForeign.G K) T_ok ((allCons (laws_szFactS.sound K) allNil)) ((allCons rfl allNil)) mixed (fn := Try.f91) Try.func91 (by kernel_rfl) rfl (L := laws_szForeign.L) (fuel := K) (by kernel_rfl) (fun x => laws_szForeign.eqn K x)
theorem laws_szForeignS.sound (K : Nat) : Sound Try.prog (laws_szForeignS.c K) :=
  fn_sound (Γ := laws_szForeignS.G K) T_ok ((allCons (laws_szForeign.sound K) allNil)) ((allCons rfl allNil)) mixed (fn := Try.f38) Try.func38 (by kernel_rfl) rfl (L := laws_szForeignS.L) (fuel := K) (by kernel_rfl) (fun x => laws_szForeignS.eqn K x)
theorem laws_szNode.sound (K : Nat) : Sound Try.prog (laws_szNode.c K) :=
  fn_sound (Γ := laws_szNode.G K) T_ok ((allCons (laws_szFactS.sound K) (allCons (laws_szItemS.sound K) (allCons (laws_szDoubtS.sound K) (allCons (laws_szPlaceS.sound K) (allCons (laws_szForeignS.sound K) allNil)))))) ((allCons rfl (allCons rfl (allCons rfl (allCons rfl (allCons rfl allNil)))))) mixed (fn := Try.f11) Try.func11 (by kernel_rfl) rfl (L := laws_szNode.L) (fuel := K) (by kernel_rfl) (fun x => laws_szNode.eqn K x)
theorem laws_toFact.sound (K : Nat) : Sound Try.prog (laws_toFact.c K) :=
  fn_sound (Γ := laws_toFact.G K) T_ok (allNil) (allNil) mixed (fn := Try.f96) Try.func96 (by kernel_rfl) rfl (L := laws_toFact.L) (fuel := K) (by kernel_rfl) (fun x => laws_toFact.eqn K x)
theorem laws_toFactS.sound (K : Nat) : Sound Try.prog (laws_toFactS.c K) :=
  fn_sound (Γ := laws_toFactS.G K) T_ok ((allCons (laws_toFact.sound K) allNil)) ((allCons rfl allNil)) mixed (fn := Try.f50) Try.func50 (by kernel_rfl) rfl (L := laws_toFactS.L) (fuel := K) (by kernel_rfl) (fun x => laws_toFactS.eqn K x)
theorem laws_toItem.sound (K : Nat) : Sound Try.prog (laws_toItem.c K) :=
  fn_sound (Γ := laws_toItem.G K) T_ok ((allCons (laws_toFact.sound K) allNil)) ((allCons rfl allNil)) mixed (fn := Try.f97) Try.func97 (by kernel_rfl) rfl (L := laws_toItem.L) (fuel := K) (by kernel_rfl) (fun x => laws_toItem.eqn K x)
theorem laws_toItemS.sound (K : Nat) : Sound Try.prog (laws_toItemS.c K) :=
  fn_sound (Γ := laws_toItemS.G K) T_ok ((allCons (laws_toItem.sound K) allNil)) ((allCons rfl allNil)) mixed (fn := Try.f51) Try.func51 (by kernel_rfl) rfl (L := laws_toItemS.L) (fuel := K) (by kernel_rfl) (fun x => laws_toItemS.eqn K x)
theorem laws_toProbe.sound (K : Nat) : Sound Try.prog (laws_toProbe.c K) :=
  fn_sound (Γ := laws_toProbe.G K) T_ok (allNil) (allNil) mixed (fn := Try.f52) Try.func52 (by kernel_rfl) rfl (L := laws_toProbe.L) (fuel := K) (by kernel_rfl) (fun x => laws_toProbe.eqn K x)
theorem laws_toIntS.sound (K : Nat) : Sound Try.prog (laws_toIntS.c K) :=
  fn_sound (Γ := laws_toIntS.G K) T_ok (allNil) (allNil) mixed (fn := Try.f119) Try.func119 (by kernel_rfl) rfl (L := laws_toIntS.L) (fuel := K) (by kernel_rfl) (fun x => laws_toIntS.eqn K x)
theorem laws_toDoubt.sound (K : Nat) : Sound Try.prog (laws_toDoubt.c K) :=
  fn_sound (Γ := laws_toDoubt.G K) T_ok ((allCons (laws_toIntS.sound K) allNil)) ((allCons rfl allNil)) mixed (fn := Try.f98) Try.func98 (by kernel_rfl) rfl (L := laws_toDoubt.L) (fuel := K) (by kernel_rfl) (fun x => laws_toDoubt.eqn K x)
theorem laws_toDoubtS.sound (K : Nat) : Sound Try.prog (laws_toDoubtS.c K) :=
  fn_sound (Γ := laws_toDoubtS.G K) T_ok ((allCons (laws_toDoubt.sound K) allNil)) ((allCons rfl allNil)) mixed (fn := Try.f53) Try.func53 (by kernel_rfl) rfl (L := laws_toDoubtS.L) (fuel := K) (by kernel_rfl) (fun x => laws_toDoubtS.eqn K x)
theorem laws_toCoord.sound (K : Nat) : Sound Try.prog (laws_toCoord.c K) :=
  fn_sound (Γ := laws_toCoord.G K) T_ok (allNil) (allNil) mixed (fn := Try.f54) Try.func54 (by kernel_rfl) rfl (L := laws_toCoord.L) (fuel := K) (by kernel_rfl) (fun x => laws_toCoord.eqn K x)
theorem laws_toPlace.sound (K : Nat) : Sound Try.prog (laws_toPlace.c K) :=
  fn_sound (Γ := laws_toPlace.G K) T_ok ((allCons (laws_toCoord.sound K) (allCons (laws_toIntS.sound K) allNil))) ((allCons rfl (allCons rfl allNil))) mixed (fn := Try.f99) Try.func99 (by kernel_rfl) rfl (L := laws_toPlace.L) (fuel := K) (by kernel_rfl) (fun x => laws_toPlace.eqn K x)
theorem laws_toPlaceS.sound (K : Nat) : Sound Try.prog (laws_toPlaceS.c K) :=
  fn_sound (Γ := laws_toPlaceS.G K) T_ok ((allCons (laws_toPlace.sound K) allNil)) ((allCons rfl allNil)) mixed (fn := Try.f55) Try.func55 (by kernel_rfl) rfl (L := laws_toPlaceS.L) (fuel := K) (by kernel_rfl) (fun x => laws_toPlaceS.eqn K x)
theorem laws_toForeign.sound (K : Nat) : Sound Try.prog (laws_toForeign.c K) :=
  fn_sound (Γ := laws_toForeign.G K) T_ok ((allCons (laws_toFactS.sound K) allNil)) ((allCons rfl allNil)) mixed (fn := Try.f100) Try.func100 (by kernel_rfl) rfl (L := laws_toForeign.L) (fuel := K) (by kernel_rfl) (fun x => laws_toForeign.eqn K x)
theorem laws_toForeignS.sound (K : Nat) : Sound Try.prog (laws_toForeignS.c K) :=
  fn_sound (Γ := laws_toForeignS.G K) T_ok ((allCons (laws_toForeign.sound K) allNil)) ((allCons rfl allNil)) mixed (fn := Try.f56) Try.func56 (by kernel_rfl) rfl (L := laws_toForeignS.L) (fuel := K) (by kernel_rfl) (fun x => laws_toForeignS.eqn K x)
theorem laws_toNode.sound (K : Nat) : Sound Try.prog (laws_toNode.c K) :=
  fn_sound (Γ := laws_toNode.G K) T_ok ((allCons (laws_toFactS.sound K) (allCons (laws_toItemS.sound K) (allCons (laws_toProbe.sound K) (allCons (laws_toDoubtS.sound K) (allCons (laws_toCoord.sound K) (allCons (laws_toPlaceS.sound K) (allCons (laws_toForeignS.sound K) allNil)))))))) ((allCons rfl (allCons rfl (allCons rfl (allCons rfl (allCons rfl (allCons rfl (allCons rfl allNil)))))))) mixed (fn := Try.f13) Try.func13 (by kernel_rfl) rfl (L := laws_toNode.L) (fuel := K) (by kernel_rfl) (fun x => laws_toNode.eqn K x)
theorem spec_FactOk.sound (K : Nat) : Sound Try.prog (spec_FactOk.c K) :=
  fn_sound (Γ := spec_FactOk.G K) T_ok ((allCons (spec_l1In.sound K) allNil)) ((allCons rfl allNil)) mixed (fn := Try.f92) Try.func92 (by kernel_rfl) rfl (L := spec_FactOk.L) (fuel := K) (by kernel_rfl) (fun x => spec_FactOk.eqn K x)
theorem spec_TableOk.sound (K : Nat) : Sound Try.prog (spec_TableOk.c K) :=
  fn_sound (Γ := spec_TableOk.G K) T_ok ((allCons (spec_FactOk.sound K) allNil)) ((allCons rfl allNil)) mixed (fn := Try.f40) Try.func40 (by kernel_rfl) rfl (L := spec_TableOk.L) (fuel := K) (by kernel_rfl) (fun x => spec_TableOk.eqn K x)
theorem spec_l21Site.sound (K : Nat) : Sound Try.prog (spec_l21Site.c K) :=
  fn_sound (Γ := spec_l21Site.G K) T_ok (allNil) (allNil) mixed (fn := Try.f42) Try.func42 (by kernel_rfl) rfl (L := spec_l21Site.L) (fuel := K) (by kernel_rfl) (fun x => spec_l21Site.eqn K x)
theorem spec_l4Site.sound (K : Nat) : Sound Try.prog (spec_l4Site.c K) :=
  fn_sound (Γ := spec_l4Site.G K) T_ok (allNil) (allNil) mixed (fn := Try.f41) Try.func41 (by kernel_rfl) rfl (L := spec_l4Site.L) (fuel := K) (by kernel_rfl) (fun x => spec_l4Site.eqn K x)
theorem spec_l3Find.sound (K : Nat) : Sound Try.prog (spec_l3Find.c K) :=
  fn_sound (Γ := spec_l3Find.G K) T_ok (allNil) (allNil) mixed (fn := Try.f93) Try.func93 (by kernel_rfl) rfl (L := spec_l3Find.L) (fuel := K) (by kernel_rfl) (fun x => spec_l3Find.eqn K x)
theorem spec_l21Self.sound (K : Nat) : Sound Try.prog (spec_l21Self.c K) :=
  fn_sound (Γ := spec_l21Self.G K) T_ok ((allCons (spec_l3Find.sound K) allNil)) ((allCons rfl allNil)) mixed (fn := Try.f43) Try.func43 (by kernel_rfl) rfl (L := spec_l21Self.L) (fuel := K) (by kernel_rfl) (fun x => spec_l21Self.eqn K x)
theorem spec_CastOk.sound (K : Nat) : Sound Try.prog (spec_CastOk.c K) :=
  fn_sound (Γ := spec_CastOk.G K) T_ok ((allCons (spec_l1In.sound K) (allCons (spec_FactOk.sound K) allNil))) ((allCons rfl (allCons rfl allNil))) mixed (fn := Try.f94) Try.func94 (by kernel_rfl) rfl (L := spec_CastOk.L) (fuel := K) (by kernel_rfl) (fun x => spec_CastOk.eqn K x)
theorem spec_l3Over.sound (K : Nat) : Sound Try.prog (spec_l3Over.c K) :=
  fn_sound (Γ := spec_l3Over.G K) T_ok (allNil) (allNil) mixed (fn := Try.f95) Try.func95 (by kernel_rfl) rfl (L := spec_l3Over.L) (fuel := K) (by kernel_rfl) (fun x => spec_l3Over.eqn K x)
theorem spec_l21CastOk.sound (K : Nat) : Sound Try.prog (spec_l21CastOk.c K) :=
  fn_sound (Γ := spec_l21CastOk.G K) T_ok ((allCons (spec_l3Find.sound K) (allCons (spec_CastOk.sound K) (allCons (spec_l3Over.sound K) allNil)))) ((allCons rfl (allCons rfl (allCons rfl allNil)))) mixed (fn := Try.f44) Try.func44 (by kernel_rfl) rfl (L := spec_l21CastOk.L) (fuel := K) (by kernel_rfl) (fun x => spec_l21CastOk.eqn K x)
theorem spec_l21ProbeOk.sound (K : Nat) : Sound Try.prog (spec_l21ProbeOk.c K) :=
  fn_sound (Γ := spec_l21ProbeOk.G K) T_ok ((allCons (spec_l1In.sound K) (allCons (spec_l3Find.sound K) allNil))) ((allCons rfl (allCons rfl allNil))) mixed (fn := Try.f45) Try.func45 (by kernel_rfl) rfl (L := spec_l21ProbeOk.L) (fuel := K) (by kernel_rfl) (fun x => spec_l21ProbeOk.eqn K x)
theorem spec_l21DoubtsOk.sound (K : Nat) : Sound Try.prog (spec_l21DoubtsOk.c K) :=
  fn_sound (Γ := spec_l21DoubtsOk.G K) T_ok ((allCons (spec_l1In.sound K) (allCons (spec_l21Site.sound K) (allCons (spec_l3Find.sound K) allNil)))) ((allCons rfl (allCons rfl (allCons rfl allNil)))) mixed (fn := Try.f46) Try.func46 (by kernel_rfl) rfl (L := spec_l21DoubtsOk.L) (fuel := K) (by kernel_rfl) (fun x => spec_l21DoubtsOk.eqn K x)
theorem spec_CoordOk.sound (K : Nat) : Sound Try.prog (spec_CoordOk.c K) :=
  fn_sound (Γ := spec_CoordOk.G K) T_ok ((allCons (spec_l1In.sound K) allNil)) ((allCons rfl allNil)) mixed (fn := Try.f47) Try.func47 (by kernel_rfl) rfl (L := spec_CoordOk.L) (fuel := K) (by kernel_rfl) (fun x => spec_CoordOk.eqn K x)
theorem spec_l21PlacesOk.sound (K : Nat) : Sound Try.prog (spec_l21PlacesOk.c K) :=
  fn_sound (Γ := spec_l21PlacesOk.G K) T_ok ((allCons (spec_l1In.sound K) (allCons (spec_l21Site.sound K) (allCons (spec_CoordOk.sound K) allNil)))) ((allCons rfl (allCons rfl (allCons rfl allNil)))) mixed (fn := Try.f48) Try.func48 (by kernel_rfl) rfl (L := spec_l21PlacesOk.L) (fuel := K) (by kernel_rfl) (fun x => spec_l21PlacesOk.eqn K x)
theorem spec_l21OthersOk.sound (K : Nat) : Sound Try.prog (spec_l21OthersOk.c K) :=
  fn_sound (Γ := spec_l21OthersOk.G K) T_ok ((allCons (spec_l1In.sound K) (allCons (spec_TableOk.sound K) (allCons (spec_l4Site.sound K) (allCons (spec_l21Site.sound K) allNil))))) ((allCons rfl (allCons rfl (allCons rfl (allCons rfl allNil))))) mixed (fn := Try.f49) Try.func49 (by kernel_rfl) rfl (L := spec_l21OthersOk.L) (fuel := K) (by kernel_rfl) (fun x => spec_l21OthersOk.eqn K x)
theorem spec_NodeOk.sound (K : Nat) : Sound Try.prog (spec_NodeOk.c K) :=
  fn_sound (Γ := spec_NodeOk.G K) T_ok ((allCons (spec_l1In.sound K) (allCons (spec_TableOk.sound K) (allCons (spec_l4Site.sound K) (allCons (spec_l21Site.sound K) (allCons (spec_l21Self.sound K) (allCons (spec_l21CastOk.sound K) (allCons (spec_l21ProbeOk.sound K) (allCons (spec_l21DoubtsOk.sound K) (allCons (spec_CoordOk.sound K) (allCons (spec_l21PlacesOk.sound K) (allCons (spec_l21OthersOk.sound K) allNil)))))))))))) ((allCons rfl (allCons rfl (allCons rfl (allCons rfl (allCons rfl (allCons rfl (allCons rfl (allCons rfl (allCons rfl (allCons rfl (allCons rfl allNil)))))))))))) mixed (fn := Try.f12) Try.func12 (by kernel_rfl) rfl (L := spec_NodeOk.L) (fuel := K) (by kernel_rfl) (fun x => spec_NodeOk.eqn K x)
theorem impl_Node_isDown.sound (K : Nat) : Sound Try.prog (impl_Node_isDown.c K) :=
  fn_sound (Γ := impl_Node_isDown.G K) T_ok (allNil) (allNil) mixed (fn := Try.f59) Try.func59 (by kernel_rfl) rfl (L := impl_Node_isDown.L) (fuel := K) (by kernel_rfl) (fun x => impl_Node_isDown.eqn K x)
theorem impl_FactOk.sound (K : Nat) : Sound Try.prog (impl_FactOk.c K) :=
  fn_sound (Γ := impl_FactOk.G K) T_ok ((allCons (impl_isNode.sound K) (allCons (impl_in.sound K) allNil))) ((allCons rfl (allCons rfl allNil))) mixed (fn := Try.f126) Try.func126 (by kernel_rfl) rfl (L := impl_FactOk.L) (fuel := K) (by kernel_rfl) (fun x => impl_FactOk.eqn K x)
theorem impl_TableOk.sound (K : Nat) : Sound Try.prog (impl_TableOk.c K) :=
  fn_sound (Γ := impl_TableOk.G K) T_ok ((allCons (impl_FactOk.sound K) allNil)) ((allCons rfl allNil)) mixed (fn := Try.f113) Try.func113 (by kernel_rfl) rfl (L := impl_TableOk.L) (fuel := K) (by kernel_rfl) (fun x => impl_TableOk.eqn K x)
theorem slices_BinarySearchFunc_impl_Fact_impl_Fact_int.sound (K : Nat) : Sound Try.prog (slices_BinarySearchFunc_impl_Fact_impl_Fact_int.c K) :=
  fn_sound (Γ := slices_BinarySearchFunc_impl_Fact_impl_Fact_int.G K) T_ok (allNil) (allNil) mixed (fn := Try.f129) Try.func129 (by kernel_rfl) rfl (L := slices_BinarySearchFunc_impl_Fact_impl_Fact_int.L) (fuel := K) (by kernel_rfl) (fun x => slices_BinarySearchFunc_impl_Fact_impl_Fact_int.eqn K x)
theorem cmp_isNaN_int.sound (K : Nat) : Sound Try.prog (cmp_isNaN_int.c K) :=
  fn_sound (Γ := cmp_isNaN_int.G K) T_ok (allNil) (allNil) mixed (fn := Try.f134) Try.func134 (by kernel_rfl) rfl (L := cmp_isNaN_int.L) (fuel := K) (by kernel_rfl) (fun x => cmp_isNaN_int.eqn K x)
theorem cmp_Compare_int.sound (K : Nat) : Sound Try.prog (cmp_Compare_int.c K) :=
  fn_sound (Γ := cmp_Compare_int.G K) T_ok ((allCons (cmp_isNaN_int.sound K) allNil)) ((allCons rfl allNil)) mixed (fn := Try.f131) Try.func131 (by kernel_rfl) rfl (L := cmp_Compare_int.L) (fuel := K) (by kernel_rfl) (fun x => cmp_Compare_int.eqn K x)
theorem impl_find_1.sound (K : Nat) : Sound Try.prog (impl_find_1.c K) :=
  fn_sound (Γ := impl_find_1.G K) T_ok ((allCons (cmp_Compare_int.sound K) allNil)) ((allCons rfl allNil)) mixed (fn := Try.f130) Try.func130 (by kernel_rfl) rfl (L := impl_find_1.L) (fuel := K) (by kernel_rfl) (fun x => impl_find_1.eqn K x)
theorem impl_find.sound (K : Nat) : Sound Try.prog (impl_find.c K) :=
  fn_sound (Γ := impl_find.G K) T_ok ((allCons (slices_BinarySearchFunc_impl_Fact_impl_Fact_int.sound K) (allCons (impl_find_1.sound K) allNil))) ((allCons rfl (allCons rfl allNil))) mixed (fn := Try.f120) Try.func120 (by kernel_rfl) rfl (L := impl_find.L) (fuel := K) (by kernel_rfl) (fun x => impl_find.eqn K x)
theorem impl_TableOf.sound (K : Nat) : Sound Try.prog (impl_TableOf.c K) :=
  fn_sound (Γ := impl_TableOf.G K) T_ok ((allCons (impl_TableOk.sound K) (allCons (impl_find.sound K) allNil))) ((allCons rfl (allCons rfl allNil))) mixed (fn := Try.f101) Try.func101 (by kernel_rfl) rfl (L := impl_TableOf.L) (fuel := K) (by kernel_rfl) (fun x => impl_TableOf.eqn K x)
theorem impl_siteOf.sound (K : Nat) : Sound Try.prog (impl_siteOf.c K) :=
  fn_sound (Γ := impl_siteOf.G K) T_ok (allNil) (allNil) mixed (fn := Try.f112) Try.func112 (by kernel_rfl) rfl (L := impl_siteOf.L) (fuel := K) (by kernel_rfl) (fun x => impl_siteOf.eqn K x)
theorem impl_Node_site.sound (K : Nat) : Sound Try.prog (impl_Node_site.c K) :=
  fn_sound (Γ := impl_Node_site.G K) T_ok ((allCons (impl_siteOf.sound K) allNil)) ((allCons rfl allNil)) mixed (fn := Try.f103) Try.func103 (by kernel_rfl) rfl (L := impl_Node_site.L) (fuel := K) (by kernel_rfl) (fun x => impl_Node_site.eqn K x)
theorem slices_IndexFunc_impl_Fact_impl_Fact.sound (K : Nat) : Sound Try.prog (slices_IndexFunc_impl_Fact_impl_Fact.c K) :=
  fn_sound (Γ := slices_IndexFunc_impl_Fact_impl_Fact.G K) T_ok (allNil) (allNil) mixed (fn := Try.f132) Try.func132 (by kernel_rfl) rfl (L := slices_IndexFunc_impl_Fact_impl_Fact.L) (fuel := K) (by kernel_rfl) (fun x => slices_IndexFunc_impl_Fact_impl_Fact.eqn K x)
theorem slices_ContainsFunc_impl_Fact_impl_Fact.sound (K : Nat) : Sound Try.prog (slices_ContainsFunc_impl_Fact_impl_Fact.c K) :=
  fn_sound (Γ := slices_ContainsFunc_impl_Fact_impl_Fact.G K) T_ok ((allCons (slices_IndexFunc_impl_Fact_impl_Fact.sound K) allNil)) ((allCons rfl allNil)) mixed (fn := Try.f121) Try.func121 (by kernel_rfl) rfl (L := slices_ContainsFunc_impl_Fact_impl_Fact.L) (fuel := K) (by kernel_rfl) (fun x => slices_ContainsFunc_impl_Fact_impl_Fact.eqn K x)
theorem impl_ofSite_1.sound (K : Nat) : Sound Try.prog (impl_ofSite_1.c K) :=
  fn_sound (Γ := impl_ofSite_1.G K) T_ok ((allCons (impl_siteOf.sound K) allNil)) ((allCons rfl allNil)) mixed (fn := Try.f122) Try.func122 (by kernel_rfl) rfl (L := impl_ofSite_1.L) (fuel := K) (by kernel_rfl) (fun x => impl_ofSite_1.eqn K x)
theorem impl_ofSite.sound (K : Nat) : Sound Try.prog (impl_ofSite.c K) :=
  fn_sound (Γ := impl_ofSite.G K) T_ok ((allCons (slices_ContainsFunc_impl_Fact_impl_Fact.sound K) (allCons (impl_ofSite_1.sound K) allNil))) ((allCons rfl (allCons rfl allNil))) mixed (fn := Try.f102) Try.func102 (by kernel_rfl) rfl (L := impl_ofSite.L) (fuel := K) (by kernel_rfl) (fun x => impl_ofSite.eqn K x)
theorem impl_facts.sound (K : Nat) : Sound Try.prog (impl_facts.c K) :=
  fn_sound (Γ := impl_facts.G K) T_ok (allNil) (allNil) mixed (fn := Try.f124) Try.func124 (by kernel_rfl) rfl (L := impl_facts.L) (fuel := K) (by kernel_rfl) (fun x => impl_facts.eqn K x)
theorem slices_IndexFunc_impl_Item_impl_Item.sound (K : Nat) : Sound Try.prog (slices_IndexFunc_impl_Item_impl_Item.c K) :=
  fn_sound (Γ := slices_IndexFunc_impl_Item_impl_Item.G K) T_ok (allNil) (allNil) mixed (fn := Try.f125) Try.func125 (by kernel_rfl) rfl (L := slices_IndexFunc_impl_Item_impl_Item.L) (fuel := K) (by kernel_rfl) (fun x => slices_IndexFunc_impl_Item_impl_Item.eqn K x)
theorem slices_ContainsFunc_impl_Item_impl_Item.sound (K : Nat) : Sound Try.prog (slices_ContainsFunc_impl_Item_impl_Item.c K) :=
  fn_sound (Γ := slices_ContainsFunc_impl_Item_impl_Item.G K) T_ok ((allCons (slices_IndexFunc_impl_Item_impl_Item.sound K) allNil)) ((allCons rfl allNil)) mixed (fn := Try.f105) Try.func105 (by kernel_rfl) rfl (L := slices_ContainsFunc_impl_Item_impl_Item.L) (fuel := K) (by kernel_rfl) (fun x => slices_ContainsFunc_impl_Item_impl_Item.eqn K x)
theorem impl_CastOk_1.sound (K : Nat) : Sound Try.prog (impl_CastOk_1.c K) :=
  fn_sound (Γ := impl_CastOk_1.G K) T_ok ((allCons (impl_in.sound K) allNil)) ((allCons rfl allNil)) mixed (fn := Try.f123) Try.func123 (by kernel_rfl) rfl (L := impl_CastOk_1.L) (fuel := K) (by kernel_rfl) (fun x => impl_CastOk_1.eqn K x)
theorem impl_CastOk.sound (K : Nat) : Sound Try.prog (impl_CastOk.c K) :=
  fn_sound (Γ := impl_CastOk.G K) T_ok ((allCons (slices_ContainsFunc_impl_Item_impl_Item.sound K) (allCons (impl_TableOk.sound K) (allCons (impl_CastOk_1.sound K) (allCons (impl_facts.sound K) allNil))))) ((allCons rfl (allCons rfl (allCons rfl (allCons rfl allNil))))) mixed (fn := Try.f104) Try.func104 (by kernel_rfl) rfl (L := impl_CastOk.L) (fuel := K) (by kernel_rfl) (fun x => impl_CastOk.eqn K x)
theorem cmp_Or_int.sound (K : Nat) : Sound Try.prog (cmp_Or_int.c K) :=
  fn_sound (Γ := cmp_Or_int.G K) T_ok (allNil) (allNil) mixed (fn := Try.f133) Try.func133 (by kernel_rfl) rfl (L := cmp_Or_int.L) (fuel := K) (by kernel_rfl) (fun x => cmp_Or_int.eqn K x)
theorem impl_Fact_compare.sound (K : Nat) : Sound Try.prog (impl_Fact_compare.c K) :=
  fn_sound (Γ := impl_Fact_compare.G K) T_ok ((allCons (cmp_Compare_int.sound K) (allCons (cmp_Or_int.sound K) allNil))) ((allCons rfl (allCons rfl allNil))) mixed (fn := Try.f127) Try.func127 (by kernel_rfl) rfl (L := impl_Fact_compare.L) (fuel := K) (by kernel_rfl) (fun x => impl_Fact_compare.eqn K x)
theorem impl_FactOver.sound (K : Nat) : Sound Try.prog (impl_FactOver.c K) :=
  fn_sound (Γ := impl_FactOver.G K) T_ok ((allCons (impl_FactOk.sound K) (allCons (impl_Fact_compare.sound K) allNil))) ((allCons rfl (allCons rfl allNil))) mixed (fn := Try.f107) Try.func107 (by kernel_rfl) rfl (L := impl_FactOver.L) (fuel := K) (by kernel_rfl) (fun x => impl_FactOver.eqn K x)
theorem impl_Node_tableOk_1.sound (K : Nat) : Sound Try.prog (impl_Node_tableOk_1.c K) :=
  fn_sound (Γ := impl_Node_tableOk_1.G K) T_ok ((allCons (impl_TableOf.sound K) (allCons (impl_FactOver.sound K) allNil))) ((allCons rfl (allCons rfl allNil))) mixed (fn := Try.f106) Try.func106 (by kernel_rfl) rfl (L := impl_Node_tableOk_1.L) (fuel := K) (by kernel_rfl) (fun x => impl_Node_tableOk_1.eqn K x)
theorem impl_Node_tableOk.sound (K : Nat) : Sound Try.prog (impl_Node_tableOk.c K) :=
  fn_sound (Γ := impl_Node_tableOk.G K) T_ok ((allCons (impl_TableOf.sound K) (allCons (impl_ofSite.sound K) (allCons (impl_Node_site.sound K) (allCons (impl_CastOk.sound K) (allCons (slices_ContainsFunc_impl_Item_impl_Item.sound K) (allCons (impl_Node_tableOk_1.sound K) allNil))))))) ((allCons rfl (allCons rfl (allCons rfl (allCons rfl (allCons rfl (allCons rfl allNil))))))) mixed (fn := Try.f60) Try.func60 (by kernel_rfl) rfl (L := impl_Node_tableOk.L) (fuel := K) (by kernel_rfl) (fun x => impl_Node_tableOk.eqn K x)
theorem impl_Node_probeOk.sound (K : Nat) : Sound Try.prog (impl_Node_probeOk.c K) :=
  fn_sound (Γ := impl_Node_probeOk.G K) T_ok ((allCons (impl_in.sound K) (allCons (impl_TableOf.sound K) allNil))) ((allCons rfl (allCons rfl allNil))) mixed (fn := Try.f61) Try.func61 (by kernel_rfl) rfl (L := impl_Node_probeOk.L) (fuel := K) (by kernel_rfl) (fun x => impl_Node_probeOk.eqn K x)
theorem impl_Node_near.sound (K : Nat) : Sound Try.prog (impl_Node_near.c K) :=
  fn_sound (Γ := impl_Node_near.G K) T_ok ((allCons (impl_isNode.sound K) (allCons (impl_Node_site.sound K) (allCons (impl_siteOf.sound K) allNil)))) ((allCons rfl (allCons rfl (allCons rfl allNil)))) mixed (fn := Try.f108) Try.func108 (by kernel_rfl) rfl (L := impl_Node_near.L) (fuel := K) (by kernel_rfl) (fun x => impl_Node_near.eqn K x)
theorem impl_Node_doubtsOk.sound (K : Nat) : Sound Try.prog (impl_Node_doubtsOk.c K) :=
  fn_sound (Γ := impl_Node_doubtsOk.G K) T_ok ((allCons (impl_in.sound K) (allCons (impl_Node_near.sound K) allNil))) ((allCons rfl (allCons rfl allNil))) mixed (fn := Try.f62) Try.func62 (by kernel_rfl) rfl (L := impl_Node_doubtsOk.L) (fuel := K) (by kernel_rfl) (fun x => impl_Node_doubtsOk.eqn K x)
theorem impl_CoordOk.sound (K : Nat) : Sound Try.prog (impl_CoordOk.c K) :=
  fn_sound (Γ := impl_CoordOk.G K) T_ok ((allCons (impl_in.sound K) allNil)) ((allCons rfl allNil)) mixed (fn := Try.f63) Try.func63 (by kernel_rfl) rfl (L := impl_CoordOk.L) (fuel := K) (by kernel_rfl) (fun x => impl_CoordOk.eqn K x)
theorem impl_Node_other.sound (K : Nat) : Sound Try.prog (impl_Node_other.c K) :=
  fn_sound (Γ := impl_Node_other.G K) T_ok ((allCons (impl_Node_near.sound K) allNil)) ((allCons rfl allNil)) mixed (fn := Try.f110) Try.func110 (by kernel_rfl) rfl (L := impl_Node_other.L) (fuel := K) (by kernel_rfl) (fun x => impl_Node_other.eqn K x)
theorem slices_IndexFunc_int_int.sound (K : Nat) : Sound Try.prog (slices_IndexFunc_int_int.c K) :=
  fn_sound (Γ := slices_IndexFunc_int_int.G K) T_ok (allNil) (allNil) mixed (fn := Try.f128) Try.func128 (by kernel_rfl) rfl (L := slices_IndexFunc_int_int.L) (fuel := K) (by kernel_rfl) (fun x => slices_IndexFunc_int_int.eqn K x)
theorem slices_ContainsFunc_int_int.sound (K : Nat) : Sound Try.prog (slices_ContainsFunc_int_int.c K) :=
  fn_sound (Γ := slices_ContainsFunc_int_int.G K) T_ok ((allCons (slices_IndexFunc_int_int.sound K) allNil)) ((allCons rfl allNil)) mixed (fn := Try.f111) Try.func111 (by kernel_rfl) rfl (L := slices_ContainsFunc_int_int.L) (fuel := K) (by kernel_rfl) (fun x => slices_ContainsFunc_int_int.eqn K x)
theorem impl_Node_placesOk_1.sound (K : Nat) : Sound Try.prog (impl_Node_placesOk_1.c K) :=
  fn_sound (Γ := impl_Node_placesOk_1.G K) T_ok ((allCons (impl_in.sound K) allNil)) ((allCons rfl allNil)) mixed (fn := Try.f109) Try.func109 (by kernel_rfl) rfl (L := impl_Node_placesOk_1.L) (fuel := K) (by kernel_rfl) (fun x => impl_Node_placesOk_1.eqn K x)
theorem impl_Node_placesOk.sound (K : Nat) : Sound Try.prog (impl_Node_placesOk.c K) :=
  fn_sound (Γ := impl_Node_placesOk.G K) T_ok ((allCons (impl_in.sound K) (allCons (impl_CoordOk.sound K) (allCons (impl_Node_placesOk_1.sound K) (allCons (impl_Node_other.sound K) (allCons (slices_ContainsFunc_int_int.sound K) allNil)))))) ((allCons rfl (allCons rfl (allCons rfl (allCons rfl (allCons rfl allNil)))))) mixed (fn := Try.f64) Try.func64 (by kernel_rfl) rfl (L := impl_Node_placesOk.L) (fuel := K) (by kernel_rfl) (fun x => impl_Node_placesOk.eqn K x)
theorem impl_Node_othersOk.sound (K : Nat) : Sound Try.prog (impl_Node_othersOk.c K) :=
  fn_sound (Γ := impl_Node_othersOk.G K) T_ok ((allCons (impl_in.sound K) (allCons (impl_ofSite.sound K) (allCons (impl_Node_site.sound K) (allCons (impl_siteOf.sound K) (allCons (impl_TableOk.sound K) allNil)))))) ((allCons rfl (allCons rfl (allCons rfl (allCons rfl (allCons rfl allNil)))))) mixed (fn := Try.f65) Try.func65 (by kernel_rfl) rfl (L := impl_Node_othersOk.L) (fuel := K) (by kernel_rfl) (fun x => impl_Node_othersOk.eqn K x)
theorem impl_NodeOk.sound (K : Nat) : Sound Try.prog (impl_NodeOk.c K) :=
  fn_sound (Γ := impl_NodeOk.G K) T_ok ((allCons (impl_isNode.sound K) (allCons (impl_in.sound K) (allCons (impl_Node_isDown.sound K) (allCons (impl_Node_tableOk.sound K) (allCons (impl_Node_probeOk.sound K) (allCons (impl_Node_doubtsOk.sound K) (allCons (impl_CoordOk.sound K) (allCons (impl_Node_placesOk.sound K) (allCons (impl_Node_othersOk.sound K) allNil)))))))))) ((allCons rfl (allCons rfl (allCons rfl (allCons rfl (allCons rfl (allCons rfl (allCons rfl (allCons rfl (allCons rfl allNil)))))))))) mixed (fn := Try.f14) Try.func14 (by kernel_rfl) rfl (L := impl_NodeOk.L) (fuel := K) (by kernel_rfl) (fun x => impl_NodeOk.eqn K x)
theorem laws_eqFact.sound (K : Nat) : Sound Try.prog (laws_eqFact.c K) :=
  fn_sound (Γ := laws_eqFact.G K) T_ok (allNil) (allNil) mixed (fn := Try.f79) Try.func79 (by kernel_rfl) rfl (L := laws_eqFact.L) (fuel := K) (by kernel_rfl) (fun x => laws_eqFact.eqn K x)
theorem laws_eqFactS.sound (K : Nat) : Sound Try.prog (laws_eqFactS.c K) :=
  fn_sound (Γ := laws_eqFactS.G K) T_ok ((allCons (laws_eqFact.sound K) allNil)) ((allCons rfl allNil)) mixed (fn := Try.f25) Try.func25 (by kernel_rfl) rfl (L := laws_eqFactS.L) (fuel := K) (by kernel_rfl) (fun x => laws_eqFactS.eqn K x)
theorem laws_eqItem.sound (K : Nat) : Sound Try.prog (laws_eqItem.c K) :=
  fn_sound (Γ := laws_eqItem.G K) T_ok ((allCons (laws_eqFact.sound K) allNil)) ((allCons rfl allNil)) mixed (fn := Try.f114) Try.func114 (by kernel_rfl) rfl (L := laws_eqItem.L) (fuel := K) (by kernel_rfl) (fun x => laws_eqItem.eqn K x)
theorem laws_eqItemS.sound (K : Nat) : Sound Try.prog (laws_eqItemS.c K) :=
  fn_sound (Γ := laws_eqItemS.G K) T_ok ((allCons (laws_eqItem.sound K) allNil)) ((allCons rfl allNil)) mixed (fn := Try.f66) Try.func66 (by kernel_rfl) rfl (L := laws_eqItemS.L) (fuel := K) (by kernel_rfl) (fun x => laws_eqItemS.eqn K x)
theorem laws_eqProbe.sound (K : Nat) : Sound Try.prog (laws_eqProbe.c K) :=
  fn_sound (Γ := laws_eqProbe.G K) T_ok (allNil) (allNil) mixed (fn := Try.f67) Try.func67 (by kernel_rfl) rfl (L := laws_eqProbe.L) (fuel := K) (by kernel_rfl) (fun x => laws_eqProbe.eqn K x)
theorem laws_eqIntS.sound (K : Nat) : Sound Try.prog (laws_eqIntS.c K) :=
  fn_sound (Γ := laws_eqIntS.G K) T_ok (allNil) (allNil) mixed (fn := Try.f24) Try.func24 (by kernel_rfl) rfl (L := laws_eqIntS.L) (fuel := K) (by kernel_rfl) (fun x => laws_eqIntS.eqn K x)
theorem laws_eqDoubt.sound (K : Nat) : Sound Try.prog (laws_eqDoubt.c K) :=
  fn_sound (Γ := laws_eqDoubt.G K) T_ok ((allCons (laws_eqIntS.sound K) allNil)) ((allCons rfl allNil)) mixed (fn := Try.f115) Try.func115 (by kernel_rfl) rfl (L := laws_eqDoubt.L) (fuel := K) (by kernel_rfl) (fun x => laws_eqDoubt.eqn K x)
theorem laws_eqDoubtS.sound (K : Nat) : Sound Try.prog (laws_eqDoubtS.c K) :=
  fn_sound (Γ := laws_eqDoubtS.G K) T_ok ((allCons (laws_eqDoubt.sound K) allNil)) ((allCons rfl allNil)) mixed (fn := Try.f68) Try.func68 (by kernel_rfl) rfl (L := laws_eqDoubtS.L) (fuel := K) (by kernel_rfl) (fun x => laws_eqDoubtS.eqn K x)
theorem laws_eqCoord.sound (K : Nat) : Sound Try.prog (laws_eqCoord.c K) :=
  fn_sound (Γ := laws_eqCoord.G K) T_ok (allNil) (allNil) mixed (fn := Try.f69) Try.func69 (by kernel_rfl) rfl (L := laws_eqCoord.L) (fuel := K) (by kernel_rfl) (fun x => laws_eqCoord.eqn K x)
theorem laws_eqPlace.sound (K : Nat) : Sound Try.prog (laws_eqPlace.c K) :=
  fn_sound (Γ := laws_eqPlace.G K) T_ok ((allCons (laws_eqIntS.sound K) (allCons (laws_eqCoord.sound K) allNil))) ((allCons rfl (allCons rfl allNil))) mixed (fn := Try.f116) Try.func116 (by kernel_rfl) rfl (L := laws_eqPlace.L) (fuel := K) (by kernel_rfl) (fun x => laws_eqPlace.eqn K x)
theorem laws_eqPlaceS.sound (K : Nat) : Sound Try.prog (laws_eqPlaceS.c K) :=
  fn_sound (Γ := laws_eqPlaceS.G K) T_ok ((allCons (laws_eqPlace.sound K) allNil)) ((allCons rfl allNil)) mixed (fn := Try.f70) Try.func70 (by kernel_rfl) rfl (L := laws_eqPlaceS.L) (fuel := K) (by kernel_rfl) (fun x => laws_eqPlaceS.eqn K x)
theorem laws_eqForeign.sound (K : Nat) : Sound Try.prog (laws_eqForeign.c K) :=
  fn_sound (Γ := laws_eqForeign.G K) T_ok ((allCons (laws_eqFactS.sound K) allNil)) ((allCons rfl allNil)) mixed (fn := Try.f117) Try.func117 (by kernel_rfl) rfl (L := laws_eqForeign.L) (fuel := K) (by kernel_rfl) (fun x => laws_eqForeign.eqn K x)
theorem laws_eqForeignS.sound (K : Nat) : Sound Try.prog (laws_eqForeignS.c K) :=
  fn_sound (Γ := laws_eqForeignS.G K) T_ok ((allCons (laws_eqForeign.sound K) allNil)) ((allCons rfl allNil)) mixed (fn := Try.f71) Try.func71 (by kernel_rfl) rfl (L := laws_eqForeignS.L) (fuel := K) (by kernel_rfl) (fun x => laws_eqForeignS.eqn K x)
theorem laws_eqNode.sound (K : Nat) : Sound Try.prog (laws_eqNode.c K) :=
  fn_sound (Γ := laws_eqNode.G K) T_ok ((allCons (laws_eqFactS.sound K) (allCons (laws_eqItemS.sound K) (allCons (laws_eqProbe.sound K) (allCons (laws_eqDoubtS.sound K) (allCons (laws_eqCoord.sound K) (allCons (laws_eqPlaceS.sound K) (allCons (laws_eqForeignS.sound K) allNil)))))))) ((allCons rfl (allCons rfl (allCons rfl (allCons rfl (allCons rfl (allCons rfl (allCons rfl allNil)))))))) mixed (fn := Try.f15) Try.func15 (by kernel_rfl) rfl (L := laws_eqNode.L) (fuel := K) (by kernel_rfl) (fun x => laws_eqNode.eqn K x)
theorem laws_FnExactNodeOk.sound (K : Nat) : Sound Try.prog (laws_FnExactNodeOk.c K) :=
  fn_sound (Γ := laws_FnExactNodeOk.G K) T_ok ((allCons (laws_szNode.sound K) (allCons (spec_NodeOk.sound K) (allCons (laws_toNode.sound K) (allCons (impl_NodeOk.sound K) (allCons (laws_eqNode.sound K) allNil)))))) ((allCons rfl (allCons rfl (allCons rfl (allCons rfl (allCons rfl allNil)))))) mixed (fn := Try.f4) Try.func4 (by kernel_rfl) rfl (L := laws_FnExactNodeOk.L) (fuel := K) (by kernel_rfl) (fun x => laws_FnExactNodeOk.eqn K x)
theorem spec_l21Due.sound (K : Nat) : Sound Try.prog (spec_l21Due.c K) :=
  fn_sound (Γ := spec_l21Due.G K) T_ok (allNil) (allNil) mixed (fn := Try.f72) Try.func72 (by kernel_rfl) rfl (L := spec_l21Due.L) (fuel := K) (by kernel_rfl) (fun x => spec_l21Due.eqn K x)
theorem spec_NodeSure.sound (K : Nat) : Sound Try.prog (spec_NodeSure.c K) :=
  fn_sound (Γ := spec_NodeSure.G K) T_ok ((allCons (spec_NodeOk.sound K) (allCons (spec_l21Due.sound K) allNil))) ((allCons rfl (allCons rfl allNil))) mixed (fn := Try.f16) Try.func16 (by kernel_rfl) rfl (L := spec_NodeSure.L) (fuel := K) (by kernel_rfl) (fun x => spec_NodeSure.eqn K x)
theorem slices_IndexFunc_impl_Doubt_impl_Doubt.sound (K : Nat) : Sound Try.prog (slices_IndexFunc_impl_Doubt_impl_Doubt.c K) :=
  fn_sound (Γ := slices_IndexFunc_impl_Doubt_impl_Doubt.G K) T_ok (allNil) (allNil) mixed (fn := Try.f73) Try.func73 (by kernel_rfl) rfl (L := slices_IndexFunc_impl_Doubt_impl_Doubt.L) (fuel := K) (by kernel_rfl) (fun x => slices_IndexFunc_impl_Doubt_impl_Doubt.eqn K x)
theorem impl_NodeSure_1.sound (K : Nat) : Sound Try.prog (impl_NodeSure_1.c K) :=
  fn_sound (Γ := impl_NodeSure_1.G K) T_ok (allNil) (allNil) mixed (fn := Try.f74) Try.func74 (by kernel_rfl) rfl (L := impl_NodeSure_1.L) (fuel := K) (by kernel_rfl) (fun x => impl_NodeSure_1.eqn K x)
theorem impl_Doubt_long.sound (K : Nat) : Sound Try.prog (impl_Doubt_long.c K) :=
  fn_sound (Γ := impl_Doubt_long.G K) T_ok (allNil) (allNil) mixed (fn := Try.f75) Try.func75 (by kernel_rfl) rfl (L := impl_Doubt_long.L) (fuel := K) (by kernel_rfl) (fun x => impl_Doubt_long.eqn K x)
theorem impl_NodeSure.sound (K : Nat) : Sound Try.prog (impl_NodeSure.c K) :=
  fn_sound (Γ := impl_NodeSure.G K) T_ok ((allCons (impl_NodeOk.sound K) (allCons (slices_IndexFunc_impl_Doubt_impl_Doubt.sound K) (allCons (impl_NodeSure_1.sound K) (allCons (impl_Doubt_long.sound K) allNil))))) ((allCons rfl (allCons rfl (allCons rfl (allCons rfl allNil))))) mixed (fn := Try.f17) Try.func17 (by kernel_rfl) rfl (L := impl_NodeSure.L) (fuel := K) (by kernel_rfl) (fun x => impl_NodeSure.eqn K x)
theorem laws_FnExactNodeSure.sound (K : Nat) : Sound Try.prog (laws_FnExactNodeSure.c K) :=
  fn_sound (Γ := laws_FnExactNodeSure.G K) T_ok ((allCons (laws_szNode.sound K) (allCons (laws_toNode.sound K) (allCons (laws_eqNode.sound K) (allCons (spec_NodeSure.sound K) (allCons (impl_NodeSure.sound K) allNil)))))) ((allCons rfl (allCons rfl (allCons rfl (allCons rfl (allCons rfl allNil)))))) mixed (fn := Try.f5) Try.func5 (by kernel_rfl) rfl (L := laws_FnExactNodeSure.L) (fuel := K) (by kernel_rfl) (fun x => laws_FnExactNodeSure.eqn K x)
end Go.Proofs.YthgnfidnmnkeaaaEv
