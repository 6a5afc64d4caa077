/- The contracts are sound. Printed by run3.py. -/
import Derived.Test.YthgnfidnmnkeaaaGreatEqn0
import Derived.Test.YthgnfidnmnkeaaaGreatE7
import Derived.Test.YthgnfidnmnkeaaaGreatMan
set_option linter.unusedVariables false
set_option maxRecDepth 100000
namespace Go.Proofs.YthgnfidnmnkeaaaGreatEv
open Go Go.Proofs
theorem allNil {p : Ctr → Prop} : ∀ c ∈ ([] : List Ctr), p c := by simp
theorem allCons {p : Ctr → Prop} {a : Ctr} {l : List Ctr} (h : p a) (hl : ∀ c ∈ l, p c) : ∀ c ∈ a :: l, p c := by
  intro c hc; rcases List.mem_cons.1 hc with rfl | hc
  · exact h
  · exact hl c hc
theorem T_D_ok : TOk Tryz.prog T_D := tlB_ok (l := Tl_D) (by kernel_rfl)
theorem T_ND_ok : TOk Tryz.prog T_ND := tlB_ok (l := Tl_ND) (by kernel_rfl)
theorem T_S_ok : TOk Tryz.prog T_S := tlB_ok (l := Tl_S) (by kernel_rfl)
theorem mixed : Tryz.prog.follows .mixedOrders = true := by kernel_rfl
theorem laws_szFactS.sound (K : Nat) : Sound Tryz.prog (laws_szFactS.c K) :=
  fn_sound (Γ := laws_szFactS.G K) T_D_ok (allNil) mixed (fn := Tryz.f60) Tryz.func60 (by kernel_rfl) (L := laws_szFactS.L) (fuel := K) (by kernel_rfl) (fun x => laws_szFactS.eqn K x)
theorem laws_szItemS.sound (K : Nat) : Sound Tryz.prog (laws_szItemS.c K) :=
  fn_sound (Γ := laws_szItemS.G K) T_D_ok (allNil) mixed (fn := Tryz.f61) Tryz.func61 (by kernel_rfl) (L := laws_szItemS.L) (fuel := K) (by kernel_rfl) (fun x => laws_szItemS.eqn K x)
theorem laws_szIntS.sound (K : Nat) : Sound Tryz.prog (laws_szIntS.c K) :=
  fn_sound (Γ := laws_szIntS.G K) T_D_ok (allNil) mixed (fn := Tryz.f102) Tryz.func102 (by kernel_rfl) (L := laws_szIntS.L) (fuel := K) (by kernel_rfl) (fun x => laws_szIntS.eqn K x)
theorem laws_szDoubt.sound (K : Nat) : Sound Tryz.prog (laws_szDoubt.c K) :=
  fn_sound (Γ := laws_szDoubt.G K) T_D_ok ((allCons (laws_szIntS.sound K) allNil)) mixed (fn := Tryz.f152) Tryz.func152 (by kernel_rfl) (L := laws_szDoubt.L) (fuel := K) (by kernel_rfl) (fun x => laws_szDoubt.eqn K x)
theorem laws_szDoubtS.sound (K : Nat) : Sound Tryz.prog (laws_szDoubtS.c K) :=
  fn_sound (Γ := laws_szDoubtS.G K) T_D_ok ((allCons (laws_szDoubt.sound K) allNil)) mixed (fn := Tryz.f62) Tryz.func62 (by kernel_rfl) (L := laws_szDoubtS.L) (fuel := K) (by kernel_rfl) (fun x => laws_szDoubtS.eqn K x)
theorem laws_szPlace.sound (K : Nat) : Sound Tryz.prog (laws_szPlace.c K) :=
  fn_sound (Γ := laws_szPlace.G K) T_D_ok ((allCons (laws_szIntS.sound K) allNil)) mixed (fn := Tryz.f153) Tryz.func153 (by kernel_rfl) (L := laws_szPlace.L) (fuel := K) (by kernel_rfl) (fun x => laws_szPlace.eqn K x)
theorem laws_szPlaceS.sound (K : Nat) : Sound Tryz.prog (laws_szPlaceS.c K) :=
  fn_sound (Γ := laws_szPlaceS.G K) T_D_ok ((allCons (laws_szPlace.sound K) allNil)) mixed (fn := Tryz.f63) Tryz.func63 (by kernel_rfl) (L := laws_szPlaceS.L) (fuel := K) (by kernel_rfl) (fun x => laws_szPlaceS.eqn K x)
theorem laws_szForeign.sound (K : Nat) : Sound Tryz.prog (laws_szForeign.c K) :=
  fn_sound (Γ := laws_szForeign.G K) T_D_ok ((allCons (laws_szFactS.sound K) allNil)) mixed (fn := Tryz.f154) Tryz.func154 (by kernel_rfl) (L := laws_szForeign.L) (fuel := K) (by kernel_rfl) (fun x => laws_szForeign.eqn K x)
theorem laws_szForeignS.sound (K : Nat) : Sound Tryz.prog (laws_szForeignS.c K) :=
  fn_sound (Γ := laws_szForeignS.G K) T_D_ok ((allCons (laws_szForeign.sound K) allNil)) mixed (fn := Tryz.f64) Tryz.func64 (by kernel_rfl) (L := laws_szForeignS.L) (fuel := K) (by kernel_rfl) (fun x => laws_szForeignS.eqn K x)
theorem laws_szNode.sound (K : Nat) : Sound Tryz.prog (laws_szNode.c K) :=
  fn_sound (Γ := laws_szNode.G K) T_D_ok ((allCons (laws_szFactS.sound K) (allCons (laws_szItemS.sound K) (allCons (laws_szDoubtS.sound K) (allCons (laws_szPlaceS.sound K) (allCons (laws_szForeignS.sound K) allNil)))))) mixed (fn := Tryz.f15) Tryz.func15 (by kernel_rfl) (L := laws_szNode.L) (fuel := K) (by kernel_rfl) (fun x => laws_szNode.eqn K x)
theorem laws_toFact.sound (K : Nat) : Sound Tryz.prog (laws_toFact.c K) :=
  fn_sound (Γ := laws_toFact.G K) T_D_ok (allNil) mixed (fn := Tryz.f165) Tryz.func165 (by kernel_rfl) (L := laws_toFact.L) (fuel := K) (by kernel_rfl) (fun x => laws_toFact.eqn K x)
theorem laws_toFactS.sound (K : Nat) : Sound Tryz.prog (laws_toFactS.c K) :=
  fn_sound (Γ := laws_toFactS.G K) T_D_ok ((allCons (laws_toFact.sound K) allNil)) mixed (fn := Tryz.f67) Tryz.func67 (by kernel_rfl) (L := laws_toFactS.L) (fuel := K) (by kernel_rfl) (fun x => laws_toFactS.eqn K x)
theorem laws_toItem.sound (K : Nat) : Sound Tryz.prog (laws_toItem.c K) :=
  fn_sound (Γ := laws_toItem.G K) T_D_ok ((allCons (laws_toFact.sound K) allNil)) mixed (fn := Tryz.f166) Tryz.func166 (by kernel_rfl) (L := laws_toItem.L) (fuel := K) (by kernel_rfl) (fun x => laws_toItem.eqn K x)
theorem laws_toItemS.sound (K : Nat) : Sound Tryz.prog (laws_toItemS.c K) :=
  fn_sound (Γ := laws_toItemS.G K) T_D_ok ((allCons (laws_toItem.sound K) allNil)) mixed (fn := Tryz.f68) Tryz.func68 (by kernel_rfl) (L := laws_toItemS.L) (fuel := K) (by kernel_rfl) (fun x => laws_toItemS.eqn K x)
theorem laws_toProbe.sound (K : Nat) : Sound Tryz.prog (laws_toProbe.c K) :=
  fn_sound (Γ := laws_toProbe.G K) T_D_ok (allNil) mixed (fn := Tryz.f69) Tryz.func69 (by kernel_rfl) (L := laws_toProbe.L) (fuel := K) (by kernel_rfl) (fun x => laws_toProbe.eqn K x)
theorem laws_toIntS.sound (K : Nat) : Sound Tryz.prog (laws_toIntS.c K) :=
  fn_sound (Γ := laws_toIntS.G K) T_D_ok (allNil) mixed (fn := Tryz.f109) Tryz.func109 (by kernel_rfl) (L := laws_toIntS.L) (fuel := K) (by kernel_rfl) (fun x => laws_toIntS.eqn K x)
theorem laws_toDoubt.sound (K : Nat) : Sound Tryz.prog (laws_toDoubt.c K) :=
  fn_sound (Γ := laws_toDoubt.G K) T_D_ok ((allCons (laws_toIntS.sound K) allNil)) mixed (fn := Tryz.f167) Tryz.func167 (by kernel_rfl) (L := laws_toDoubt.L) (fuel := K) (by kernel_rfl) (fun x => laws_toDoubt.eqn K x)
theorem laws_toDoubtS.sound (K : Nat) : Sound Tryz.prog (laws_toDoubtS.c K) :=
  fn_sound (Γ := laws_toDoubtS.G K) T_D_ok ((allCons (laws_toDoubt.sound K) allNil)) mixed (fn := Tryz.f70) Tryz.func70 (by kernel_rfl) (L := laws_toDoubtS.L) (fuel := K) (by kernel_rfl) (fun x => laws_toDoubtS.eqn K x)
theorem laws_toCoord.sound (K : Nat) : Sound Tryz.prog (laws_toCoord.c K) :=
  fn_sound (Γ := laws_toCoord.G K) T_D_ok (allNil) mixed (fn := Tryz.f71) Tryz.func71 (by kernel_rfl) (L := laws_toCoord.L) (fuel := K) (by kernel_rfl) (fun x => laws_toCoord.eqn K x)
theorem laws_toPlace.sound (K : Nat) : Sound Tryz.prog (laws_toPlace.c K) :=
  fn_sound (Γ := laws_toPlace.G K) T_D_ok ((allCons (laws_toCoord.sound K) (allCons (laws_toIntS.sound K) allNil))) mixed (fn := Tryz.f168) Tryz.func168 (by kernel_rfl) (L := laws_toPlace.L) (fuel := K) (by kernel_rfl) (fun x => laws_toPlace.eqn K x)
theorem laws_toPlaceS.sound (K : Nat) : Sound Tryz.prog (laws_toPlaceS.c K) :=
  fn_sound (Γ := laws_toPlaceS.G K) T_D_ok ((allCons (laws_toPlace.sound K) allNil)) mixed (fn := Tryz.f72) Tryz.func72 (by kernel_rfl) (L := laws_toPlaceS.L) (fuel := K) (by kernel_rfl) (fun x => laws_toPlaceS.eqn K x)
theorem laws_toForeign.sound (K : Nat) : Sound Tryz.prog (laws_toForeign.c K) :=
  fn_sound (Γ := laws_toForeign.G K) T_D_ok ((allCons (laws_toFactS.sound K) allNil)) mixed (fn := Tryz.f169) Tryz.func169 (by kernel_rfl) (L := laws_toForeign.L) (fuel := K) (by kernel_rfl) (fun x => laws_toForeign.eqn K x)
theorem laws_toForeignS.sound (K : Nat) : Sound Tryz.prog (laws_toForeignS.c K) :=
  fn_sound (Γ := laws_toForeignS.G K) T_D_ok ((allCons (laws_toForeign.sound K) allNil)) mixed (fn := Tryz.f73) Tryz.func73 (by kernel_rfl) (L := laws_toForeignS.L) (fuel := K) (by kernel_rfl) (fun x => laws_toForeignS.eqn K x)
theorem laws_toNode.sound (K : Nat) : Sound Tryz.prog (laws_toNode.c K) :=
  fn_sound (Γ := laws_toNode.G K) T_D_ok ((allCons (laws_toFactS.sound K) (allCons (laws_toItemS.sound K) (allCons (laws_toProbe.sound K) (allCons (laws_toDoubtS.sound K) (allCons (laws_toCoord.sound K) (allCons (laws_toPlaceS.sound K) (allCons (laws_toForeignS.sound K) allNil)))))))) mixed (fn := Tryz.f17) Tryz.func17 (by kernel_rfl) (L := laws_toNode.L) (fuel := K) (by kernel_rfl) (fun x => laws_toNode.eqn K x)
theorem laws_eqFact.sound (K : Nat) : Sound Tryz.prog (laws_eqFact.c K) :=
  fn_sound (Γ := laws_eqFact.G K) T_D_ok (allNil) mixed (fn := Tryz.f136) Tryz.func136 (by kernel_rfl) (L := laws_eqFact.L) (fuel := K) (by kernel_rfl) (fun x => laws_eqFact.eqn K x)
theorem laws_eqFactS.sound (K : Nat) : Sound Tryz.prog (laws_eqFactS.c K) :=
  fn_sound (Γ := laws_eqFactS.G K) T_D_ok ((allCons (laws_eqFact.sound K) allNil)) mixed (fn := Tryz.f46) Tryz.func46 (by kernel_rfl) (L := laws_eqFactS.L) (fuel := K) (by kernel_rfl) (fun x => laws_eqFactS.eqn K x)
theorem laws_eqItem.sound (K : Nat) : Sound Tryz.prog (laws_eqItem.c K) :=
  fn_sound (Γ := laws_eqItem.G K) T_D_ok ((allCons (laws_eqFact.sound K) allNil)) mixed (fn := Tryz.f178) Tryz.func178 (by kernel_rfl) (L := laws_eqItem.L) (fuel := K) (by kernel_rfl) (fun x => laws_eqItem.eqn K x)
theorem laws_eqItemS.sound (K : Nat) : Sound Tryz.prog (laws_eqItemS.c K) :=
  fn_sound (Γ := laws_eqItemS.G K) T_D_ok ((allCons (laws_eqItem.sound K) allNil)) mixed (fn := Tryz.f78) Tryz.func78 (by kernel_rfl) (L := laws_eqItemS.L) (fuel := K) (by kernel_rfl) (fun x => laws_eqItemS.eqn K x)
theorem laws_eqProbe.sound (K : Nat) : Sound Tryz.prog (laws_eqProbe.c K) :=
  fn_sound (Γ := laws_eqProbe.G K) T_D_ok (allNil) mixed (fn := Tryz.f79) Tryz.func79 (by kernel_rfl) (L := laws_eqProbe.L) (fuel := K) (by kernel_rfl) (fun x => laws_eqProbe.eqn K x)
theorem laws_eqIntS.sound (K : Nat) : Sound Tryz.prog (laws_eqIntS.c K) :=
  fn_sound (Γ := laws_eqIntS.G K) T_D_ok (allNil) mixed (fn := Tryz.f27) Tryz.func27 (by kernel_rfl) (L := laws_eqIntS.L) (fuel := K) (by kernel_rfl) (fun x => laws_eqIntS.eqn K x)
theorem laws_eqDoubt.sound (K : Nat) : Sound Tryz.prog (laws_eqDoubt.c K) :=
  fn_sound (Γ := laws_eqDoubt.G K) T_D_ok ((allCons (laws_eqIntS.sound K) allNil)) mixed (fn := Tryz.f179) Tryz.func179 (by kernel_rfl) (L := laws_eqDoubt.L) (fuel := K) (by kernel_rfl) (fun x => laws_eqDoubt.eqn K x)
theorem laws_eqDoubtS.sound (K : Nat) : Sound Tryz.prog (laws_eqDoubtS.c K) :=
  fn_sound (Γ := laws_eqDoubtS.G K) T_D_ok ((allCons (laws_eqDoubt.sound K) allNil)) mixed (fn := Tryz.f80) Tryz.func80 (by kernel_rfl) (L := laws_eqDoubtS.L) (fuel := K) (by kernel_rfl) (fun x => laws_eqDoubtS.eqn K x)
theorem laws_eqCoord.sound (K : Nat) : Sound Tryz.prog (laws_eqCoord.c K) :=
  fn_sound (Γ := laws_eqCoord.G K) T_D_ok (allNil) mixed (fn := Tryz.f81) Tryz.func81 (by kernel_rfl) (L := laws_eqCoord.L) (fuel := K) (by kernel_rfl) (fun x => laws_eqCoord.eqn K x)
theorem laws_eqPlace.sound (K : Nat) : Sound Tryz.prog (laws_eqPlace.c K) :=
  fn_sound (Γ := laws_eqPlace.G K) T_D_ok ((allCons (laws_eqIntS.sound K) (allCons (laws_eqCoord.sound K) allNil))) mixed (fn := Tryz.f180) Tryz.func180 (by kernel_rfl) (L := laws_eqPlace.L) (fuel := K) (by kernel_rfl) (fun x => laws_eqPlace.eqn K x)
theorem laws_eqPlaceS.sound (K : Nat) : Sound Tryz.prog (laws_eqPlaceS.c K) :=
  fn_sound (Γ := laws_eqPlaceS.G K) T_D_ok ((allCons (laws_eqPlace.sound K) allNil)) mixed (fn := Tryz.f82) Tryz.func82 (by kernel_rfl) (L := laws_eqPlaceS.L) (fuel := K) (by kernel_rfl) (fun x => laws_eqPlaceS.eqn K x)
theorem laws_eqForeign.sound (K : Nat) : Sound Tryz.prog (laws_eqForeign.c K) :=
  fn_sound (Γ := laws_eqForeign.G K) T_D_ok ((allCons (laws_eqFactS.sound K) allNil)) mixed (fn := Tryz.f181) Tryz.func181 (by kernel_rfl) (L := laws_eqForeign.L) (fuel := K) (by kernel_rfl) (fun x => laws_eqForeign.eqn K x)
theorem laws_eqForeignS.sound (K : Nat) : Sound Tryz.prog (laws_eqForeignS.c K) :=
  fn_sound (Γ := laws_eqForeignS.G K) T_D_ok ((allCons (laws_eqForeign.sound K) allNil)) mixed (fn := Tryz.f83) Tryz.func83 (by kernel_rfl) (L := laws_eqForeignS.L) (fuel := K) (by kernel_rfl) (fun x => laws_eqForeignS.eqn K x)
theorem laws_eqNode.sound (K : Nat) : Sound Tryz.prog (laws_eqNode.c K) :=
  fn_sound (Γ := laws_eqNode.G K) T_D_ok ((allCons (laws_eqFactS.sound K) (allCons (laws_eqItemS.sound K) (allCons (laws_eqProbe.sound K) (allCons (laws_eqDoubtS.sound K) (allCons (laws_eqCoord.sound K) (allCons (laws_eqPlaceS.sound K) (allCons (laws_eqForeignS.sound K) allNil)))))))) mixed (fn := Tryz.f19) Tryz.func19 (by kernel_rfl) (L := laws_eqNode.L) (fuel := K) (by kernel_rfl) (fun x => laws_eqNode.eqn K x)
theorem laws_markFactS.sound (K : Nat) : Sound Tryz.prog (laws_markFactS.c K) :=
  fn_sound (Γ := laws_markFactS.G K) T_D_ok (allNil) mixed (fn := Tryz.f47) Tryz.func47 (by kernel_rfl) (L := laws_markFactS.L) (fuel := K) (by kernel_rfl) (fun x => laws_markFactS.eqn K x)
theorem laws_markItemS.sound (K : Nat) : Sound Tryz.prog (laws_markItemS.c K) :=
  fn_sound (Γ := laws_markItemS.G K) T_D_ok (allNil) mixed (fn := Tryz.f96) Tryz.func96 (by kernel_rfl) (L := laws_markItemS.L) (fuel := K) (by kernel_rfl) (fun x => laws_markItemS.eqn K x)
theorem laws_markIntS.sound (K : Nat) : Sound Tryz.prog (laws_markIntS.c K) :=
  fn_sound (Γ := laws_markIntS.G K) T_D_ok (allNil) mixed (fn := Tryz.f29) Tryz.func29 (by kernel_rfl) (L := laws_markIntS.L) (fuel := K) (by kernel_rfl) (fun x => laws_markIntS.eqn K x)
theorem laws_markDoubtS.sound (K : Nat) : Sound Tryz.prog (laws_markDoubtS.c K) :=
  fn_sound (Γ := laws_markDoubtS.G K) T_D_ok ((allCons (laws_markIntS.sound K) allNil)) mixed (fn := Tryz.f97) Tryz.func97 (by kernel_rfl) (L := laws_markDoubtS.L) (fuel := K) (by kernel_rfl) (fun x => laws_markDoubtS.eqn K x)
theorem laws_markPlaceS.sound (K : Nat) : Sound Tryz.prog (laws_markPlaceS.c K) :=
  fn_sound (Γ := laws_markPlaceS.G K) T_D_ok ((allCons (laws_markIntS.sound K) allNil)) mixed (fn := Tryz.f98) Tryz.func98 (by kernel_rfl) (L := laws_markPlaceS.L) (fuel := K) (by kernel_rfl) (fun x => laws_markPlaceS.eqn K x)
theorem laws_markForeignS.sound (K : Nat) : Sound Tryz.prog (laws_markForeignS.c K) :=
  fn_sound (Γ := laws_markForeignS.G K) T_D_ok ((allCons (laws_markFactS.sound K) allNil)) mixed (fn := Tryz.f99) Tryz.func99 (by kernel_rfl) (L := laws_markForeignS.L) (fuel := K) (by kernel_rfl) (fun x => laws_markForeignS.eqn K x)
theorem laws_markNode.sound (K : Nat) : Sound Tryz.prog (laws_markNode.c K) :=
  fn_sound (Γ := laws_markNode.G K) T_D_ok ((allCons (laws_markFactS.sound K) (allCons (laws_markItemS.sound K) (allCons (laws_markDoubtS.sound K) (allCons (laws_markPlaceS.sound K) (allCons (laws_markForeignS.sound K) allNil)))))) mixed (fn := Tryz.f28) Tryz.func28 (by kernel_rfl) (L := laws_markNode.L) (fuel := K) (by kernel_rfl) (fun x => laws_markNode.eqn K x)
theorem spec_l21Site.sound (K : Nat) : Sound Tryz.prog (spec_l21Site.c K) :=
  fn_sound (Γ := spec_l21Site.G K) T_S_ok (allNil) mixed (fn := Tryz.f92) Tryz.func92 (by kernel_rfl) (L := spec_l21Site.L) (fuel := K) (by kernel_rfl) (fun x => spec_l21Site.eqn K x)
theorem spec_l1In.sound (K : Nat) : Sound Tryz.prog (spec_l1In.c K) :=
  fn_sound (Γ := spec_l1In.G K) T_S_ok (allNil) mixed (fn := Tryz.f104) Tryz.func104 (by kernel_rfl) (L := spec_l1In.L) (fuel := K) (by kernel_rfl) (fun x => spec_l1In.eqn K x)
theorem spec_FactOk.sound (K : Nat) : Sound Tryz.prog (spec_FactOk.c K) :=
  fn_sound (Γ := spec_FactOk.G K) T_S_ok ((allCons (spec_l1In.sound K) allNil)) mixed (fn := Tryz.f105) Tryz.func105 (by kernel_rfl) (L := spec_FactOk.L) (fuel := K) (by kernel_rfl) (fun x => spec_FactOk.eqn K x)
theorem spec_TableOk.sound (K : Nat) : Sound Tryz.prog (spec_TableOk.c K) :=
  fn_sound (Γ := spec_TableOk.G K) T_S_ok ((allCons (spec_FactOk.sound K) allNil)) mixed (fn := Tryz.f155) Tryz.func155 (by kernel_rfl) (L := spec_TableOk.L) (fuel := K) (by kernel_rfl) (fun x => spec_TableOk.eqn K x)
theorem spec_l4Site.sound (K : Nat) : Sound Tryz.prog (spec_l4Site.c K) :=
  fn_sound (Γ := spec_l4Site.G K) T_S_ok (allNil) mixed (fn := Tryz.f156) Tryz.func156 (by kernel_rfl) (L := spec_l4Site.L) (fuel := K) (by kernel_rfl) (fun x => spec_l4Site.eqn K x)
theorem spec_l3Find.sound (K : Nat) : Sound Tryz.prog (spec_l3Find.c K) :=
  fn_sound (Γ := spec_l3Find.G K) T_S_ok (allNil) mixed (fn := Tryz.f119) Tryz.func119 (by kernel_rfl) (L := spec_l3Find.L) (fuel := K) (by kernel_rfl) (fun x => spec_l3Find.eqn K x)
theorem spec_l21Self.sound (K : Nat) : Sound Tryz.prog (spec_l21Self.c K) :=
  fn_sound (Γ := spec_l21Self.G K) T_S_ok ((allCons (spec_l3Find.sound K) allNil)) mixed (fn := Tryz.f157) Tryz.func157 (by kernel_rfl) (L := spec_l21Self.L) (fuel := K) (by kernel_rfl) (fun x => spec_l21Self.eqn K x)
theorem spec_l3Over.sound (K : Nat) : Sound Tryz.prog (spec_l3Over.c K) :=
  fn_sound (Γ := spec_l3Over.G K) T_S_ok (allNil) mixed (fn := Tryz.f187) Tryz.func187 (by kernel_rfl) (L := spec_l3Over.L) (fuel := K) (by kernel_rfl) (fun x => spec_l3Over.eqn K x)
theorem spec_CastOk.sound (K : Nat) : Sound Tryz.prog (spec_CastOk.c K) :=
  fn_sound (Γ := spec_CastOk.G K) T_S_ok ((allCons (spec_l1In.sound K) (allCons (spec_FactOk.sound K) allNil))) mixed (fn := Tryz.f230) Tryz.func230 (by kernel_rfl) (L := spec_CastOk.L) (fuel := K) (by kernel_rfl) (fun x => spec_CastOk.eqn K x)
theorem spec_l21CastOk.sound (K : Nat) : Sound Tryz.prog (spec_l21CastOk.c K) :=
  fn_sound (Γ := spec_l21CastOk.G K) T_S_ok ((allCons (spec_l3Find.sound K) (allCons (spec_l3Over.sound K) (allCons (spec_CastOk.sound K) allNil)))) mixed (fn := Tryz.f158) Tryz.func158 (by kernel_rfl) (L := spec_l21CastOk.L) (fuel := K) (by kernel_rfl) (fun x => spec_l21CastOk.eqn K x)
theorem spec_l21ProbeOk.sound (K : Nat) : Sound Tryz.prog (spec_l21ProbeOk.c K) :=
  fn_sound (Γ := spec_l21ProbeOk.G K) T_S_ok ((allCons (spec_l1In.sound K) (allCons (spec_l3Find.sound K) allNil))) mixed (fn := Tryz.f159) Tryz.func159 (by kernel_rfl) (L := spec_l21ProbeOk.L) (fuel := K) (by kernel_rfl) (fun x => spec_l21ProbeOk.eqn K x)
theorem spec_l21DoubtsOk.sound (K : Nat) : Sound Tryz.prog (spec_l21DoubtsOk.c K) :=
  fn_sound (Γ := spec_l21DoubtsOk.G K) T_S_ok ((allCons (spec_l21Site.sound K) (allCons (spec_l1In.sound K) (allCons (spec_l3Find.sound K) allNil)))) mixed (fn := Tryz.f160) Tryz.func160 (by kernel_rfl) (L := spec_l21DoubtsOk.L) (fuel := K) (by kernel_rfl) (fun x => spec_l21DoubtsOk.eqn K x)
theorem spec_CoordOk.sound (K : Nat) : Sound Tryz.prog (spec_CoordOk.c K) :=
  fn_sound (Γ := spec_CoordOk.G K) T_S_ok ((allCons (spec_l1In.sound K) allNil)) mixed (fn := Tryz.f161) Tryz.func161 (by kernel_rfl) (L := spec_CoordOk.L) (fuel := K) (by kernel_rfl) (fun x => spec_CoordOk.eqn K x)
theorem spec_l21PlacesOk.sound (K : Nat) : Sound Tryz.prog (spec_l21PlacesOk.c K) :=
  fn_sound (Γ := spec_l21PlacesOk.G K) T_S_ok ((allCons (spec_l21Site.sound K) (allCons (spec_l1In.sound K) (allCons (spec_CoordOk.sound K) allNil)))) mixed (fn := Tryz.f162) Tryz.func162 (by kernel_rfl) (L := spec_l21PlacesOk.L) (fuel := K) (by kernel_rfl) (fun x => spec_l21PlacesOk.eqn K x)
theorem spec_l21OthersOk.sound (K : Nat) : Sound Tryz.prog (spec_l21OthersOk.c K) :=
  fn_sound (Γ := spec_l21OthersOk.G K) T_S_ok ((allCons (spec_l21Site.sound K) (allCons (spec_l1In.sound K) (allCons (spec_TableOk.sound K) (allCons (spec_l4Site.sound K) allNil))))) mixed (fn := Tryz.f163) Tryz.func163 (by kernel_rfl) (L := spec_l21OthersOk.L) (fuel := K) (by kernel_rfl) (fun x => spec_l21OthersOk.eqn K x)
theorem spec_NodeOk.sound (K : Nat) : Sound Tryz.prog (spec_NodeOk.c K) :=
  fn_sound (Γ := spec_NodeOk.G K) T_S_ok ((allCons (spec_l21Site.sound K) (allCons (spec_l1In.sound K) (allCons (spec_TableOk.sound K) (allCons (spec_l4Site.sound K) (allCons (spec_l21Self.sound K) (allCons (spec_l21CastOk.sound K) (allCons (spec_l21ProbeOk.sound K) (allCons (spec_l21DoubtsOk.sound K) (allCons (spec_CoordOk.sound K) (allCons (spec_l21PlacesOk.sound K) (allCons (spec_l21OthersOk.sound K) allNil)))))))))))) mixed (fn := Tryz.f65) Tryz.func65 (by kernel_rfl) (L := spec_NodeOk.L) (fuel := K) (by kernel_rfl) (fun x => spec_NodeOk.eqn K x)
theorem spec_l21Copy.sound (K : Nat) : Sound Tryz.prog (spec_l21Copy.c K) :=
  fn_sound (Γ := spec_l21Copy.G K) T_ND_ok (allNil) mixed (fn := Tryz.f126) Tryz.func126 (by kernel_rfl) (L := spec_l21Copy.L) (fuel := K) (by kernel_rfl) (fun x => spec_l21Copy.eqn K x)
theorem spec_l21Word.sound (K : Nat) : Sound Tryz.prog (spec_l21Word.c K) :=
  fn_sound (Γ := spec_l21Word.G K) T_S_ok (allNil) mixed (fn := Tryz.f127) Tryz.func127 (by kernel_rfl) (L := spec_l21Word.L) (fuel := K) (by kernel_rfl) (fun x => spec_l21Word.eqn K x)
theorem spec_NodeJoin.sound (K : Nat) : Sound Tryz.prog (spec_NodeJoin.c K) :=
  fn_sound (Γ := spec_NodeJoin.G K) T_S_ok ((allCons (spec_NodeOk.sound K) (allCons (spec_l21Site.sound K) (allCons (spec_l1In.sound K) (allCons (spec_l21Copy.sound K) (allCons (spec_l21Word.sound K) allNil)))))) mixed (fn := Tryz.f38) Tryz.func38 (by kernel_rfl) (L := spec_NodeJoin.L) (fuel := K) (by kernel_rfl) (fun x => spec_NodeJoin.eqn K x)
theorem impl_in.sound (K : Nat) : Sound Tryz.prog (impl_in.c K) :=
  fn_sound (Γ := impl_in.G K) T_D_ok (allNil) mixed (fn := Tryz.f111) Tryz.func111 (by kernel_rfl) (L := impl_in.L) (fuel := K) (by kernel_rfl) (fun x => impl_in.eqn K x)
theorem impl_isNode.sound (K : Nat) : Sound Tryz.prog (impl_isNode.c K) :=
  fn_sound (Γ := impl_isNode.G K) T_D_ok ((allCons (impl_in.sound K) allNil)) mixed (fn := Tryz.f116) Tryz.func116 (by kernel_rfl) (L := impl_isNode.L) (fuel := K) (by kernel_rfl) (fun x => impl_isNode.eqn K x)
theorem impl_Node_isDown.sound (K : Nat) : Sound Tryz.prog (impl_Node_isDown.c K) :=
  fn_sound (Γ := impl_Node_isDown.G K) T_D_ok (allNil) mixed (fn := Tryz.f170) Tryz.func170 (by kernel_rfl) (L := impl_Node_isDown.L) (fuel := K) (by kernel_rfl) (fun x => impl_Node_isDown.eqn K x)
theorem slices_IndexFunc_impl_Fact_impl_Fact.sound (K : Nat) : Sound Tryz.prog (slices_IndexFunc_impl_Fact_impl_Fact.c K) :=
  fn_sound (Γ := slices_IndexFunc_impl_Fact_impl_Fact.G K) T_D_ok (allNil) mixed (fn := Tryz.f206) Tryz.func206 (by kernel_rfl) (L := slices_IndexFunc_impl_Fact_impl_Fact.L) (fuel := K) (by kernel_rfl) (fun x => slices_IndexFunc_impl_Fact_impl_Fact.eqn K x)
theorem slices_ContainsFunc_impl_Fact_impl_Fact.sound (K : Nat) : Sound Tryz.prog (slices_ContainsFunc_impl_Fact_impl_Fact.c K) :=
  fn_sound (Γ := slices_ContainsFunc_impl_Fact_impl_Fact.G K) T_D_ok ((allCons (slices_IndexFunc_impl_Fact_impl_Fact.sound K) allNil)) mixed (fn := Tryz.f141) Tryz.func141 (by kernel_rfl) (L := slices_ContainsFunc_impl_Fact_impl_Fact.L) (fuel := K) (by kernel_rfl) (fun x => slices_ContainsFunc_impl_Fact_impl_Fact.eqn K x)
theorem impl_siteOf.sound (K : Nat) : Sound Tryz.prog (impl_siteOf.c K) :=
  fn_sound (Γ := impl_siteOf.G K) T_D_ok (allNil) mixed (fn := Tryz.f91) Tryz.func91 (by kernel_rfl) (L := impl_siteOf.L) (fuel := K) (by kernel_rfl) (fun x => impl_siteOf.eqn K x)
theorem impl_ofSite_1.sound (K : Nat) : Sound Tryz.prog (impl_ofSite_1.c K) :=
  fn_sound (Γ := impl_ofSite_1.G K) T_D_ok ((allCons (impl_siteOf.sound K) allNil)) mixed (fn := Tryz.f183) Tryz.func183 (by kernel_rfl) (L := impl_ofSite_1.L) (fuel := K) (by kernel_rfl) (fun x => impl_ofSite_1.eqn K x)
theorem impl_ofSite.sound (K : Nat) : Sound Tryz.prog (impl_ofSite.c K) :=
  fn_sound (Γ := impl_ofSite.G K) T_D_ok ((allCons (slices_ContainsFunc_impl_Fact_impl_Fact.sound K) (allCons (impl_ofSite_1.sound K) allNil))) mixed (fn := Tryz.f89) Tryz.func89 (by kernel_rfl) (L := impl_ofSite.L) (fuel := K) (by kernel_rfl) (fun x => impl_ofSite.eqn K x)
theorem impl_Node_site.sound (K : Nat) : Sound Tryz.prog (impl_Node_site.c K) :=
  fn_sound (Γ := impl_Node_site.G K) T_D_ok ((allCons (impl_siteOf.sound K) allNil)) mixed (fn := Tryz.f90) Tryz.func90 (by kernel_rfl) (L := impl_Node_site.L) (fuel := K) (by kernel_rfl) (fun x => impl_Node_site.eqn K x)
theorem impl_FactOk.sound (K : Nat) : Sound Tryz.prog (impl_FactOk.c K) :=
  fn_sound (Γ := impl_FactOk.G K) T_D_ok ((allCons (impl_in.sound K) (allCons (impl_isNode.sound K) allNil))) mixed (fn := Tryz.f112) Tryz.func112 (by kernel_rfl) (L := impl_FactOk.L) (fuel := K) (by kernel_rfl) (fun x => impl_FactOk.eqn K x)
theorem impl_TableOk.sound (K : Nat) : Sound Tryz.prog (impl_TableOk.c K) :=
  fn_sound (Γ := impl_TableOk.G K) T_D_ok ((allCons (impl_FactOk.sound K) allNil)) mixed (fn := Tryz.f182) Tryz.func182 (by kernel_rfl) (L := impl_TableOk.L) (fuel := K) (by kernel_rfl) (fun x => impl_TableOk.eqn K x)
theorem slices_BinarySearchFunc_impl_Fact_impl_Fact_int.sound (K : Nat) : Sound Tryz.prog (slices_BinarySearchFunc_impl_Fact_impl_Fact_int.c K) :=
  fn_sound (Γ := slices_BinarySearchFunc_impl_Fact_impl_Fact_int.G K) T_D_ok (allNil) mixed (fn := Tryz.f293) Tryz.func293 (by kernel_rfl) (L := slices_BinarySearchFunc_impl_Fact_impl_Fact_int.L) (fuel := K) (by kernel_rfl) (fun x => slices_BinarySearchFunc_impl_Fact_impl_Fact_int.eqn K x)
theorem cmp_isNaN_int.sound (K : Nat) : Sound Tryz.prog (cmp_isNaN_int.c K) :=
  fn_sound (Γ := cmp_isNaN_int.G K) T_D_ok (allNil) mixed (fn := Tryz.f193) Tryz.func193 (by kernel_rfl) (L := cmp_isNaN_int.L) (fuel := K) (by kernel_rfl) (fun x => cmp_isNaN_int.eqn K x)
theorem cmp_Compare_int.sound (K : Nat) : Sound Tryz.prog (cmp_Compare_int.c K) :=
  fn_sound (Γ := cmp_Compare_int.G K) T_D_ok ((allCons (cmp_isNaN_int.sound K) allNil)) mixed (fn := Tryz.f123) Tryz.func123 (by kernel_rfl) (L := cmp_Compare_int.L) (fuel := K) (by kernel_rfl) (fun x => cmp_Compare_int.eqn K x)
theorem impl_find_1.sound (K : Nat) : Sound Tryz.prog (impl_find_1.c K) :=
  fn_sound (Γ := impl_find_1.G K) T_D_ok ((allCons (cmp_Compare_int.sound K) allNil)) mixed (fn := Tryz.f294) Tryz.func294 (by kernel_rfl) (L := impl_find_1.L) (fuel := K) (by kernel_rfl) (fun x => impl_find_1.eqn K x)
theorem impl_find.sound (K : Nat) : Sound Tryz.prog (impl_find.c K) :=
  fn_sound (Γ := impl_find.G K) T_D_ok ((allCons (slices_BinarySearchFunc_impl_Fact_impl_Fact_int.sound K) (allCons (impl_find_1.sound K) allNil))) mixed (fn := Tryz.f243) Tryz.func243 (by kernel_rfl) (L := impl_find.L) (fuel := K) (by kernel_rfl) (fun x => impl_find.eqn K x)
theorem impl_TableOf.sound (K : Nat) : Sound Tryz.prog (impl_TableOf.c K) :=
  fn_sound (Γ := impl_TableOf.G K) T_D_ok ((allCons (impl_TableOk.sound K) (allCons (impl_find.sound K) allNil))) mixed (fn := Tryz.f194) Tryz.func194 (by kernel_rfl) (L := impl_TableOf.L) (fuel := K) (by kernel_rfl) (fun x => impl_TableOf.eqn K x)
theorem slices_IndexFunc_impl_Item_impl_Item.sound (K : Nat) : Sound Tryz.prog (slices_IndexFunc_impl_Item_impl_Item.c K) :=
  fn_sound (Γ := slices_IndexFunc_impl_Item_impl_Item.G K) T_D_ok (allNil) mixed (fn := Tryz.f290) Tryz.func290 (by kernel_rfl) (L := slices_IndexFunc_impl_Item_impl_Item.L) (fuel := K) (by kernel_rfl) (fun x => slices_IndexFunc_impl_Item_impl_Item.eqn K x)
theorem slices_ContainsFunc_impl_Item_impl_Item.sound (K : Nat) : Sound Tryz.prog (slices_ContainsFunc_impl_Item_impl_Item.c K) :=
  fn_sound (Γ := slices_ContainsFunc_impl_Item_impl_Item.G K) T_D_ok ((allCons (slices_IndexFunc_impl_Item_impl_Item.sound K) allNil)) mixed (fn := Tryz.f234) Tryz.func234 (by kernel_rfl) (L := slices_ContainsFunc_impl_Item_impl_Item.L) (fuel := K) (by kernel_rfl) (fun x => slices_ContainsFunc_impl_Item_impl_Item.eqn K x)
theorem impl_CastOk_1.sound (K : Nat) : Sound Tryz.prog (impl_CastOk_1.c K) :=
  fn_sound (Γ := impl_CastOk_1.G K) T_D_ok ((allCons (impl_in.sound K) allNil)) mixed (fn := Tryz.f288) Tryz.func288 (by kernel_rfl) (L := impl_CastOk_1.L) (fuel := K) (by kernel_rfl) (fun x => impl_CastOk_1.eqn K x)
theorem impl_facts.sound (K : Nat) : Sound Tryz.prog (impl_facts.c K) :=
  fn_sound (Γ := impl_facts.G K) T_D_ok (allNil) mixed (fn := Tryz.f289) Tryz.func289 (by kernel_rfl) (L := impl_facts.L) (fuel := K) (by kernel_rfl) (fun x => impl_facts.eqn K x)
theorem impl_CastOk.sound (K : Nat) : Sound Tryz.prog (impl_CastOk.c K) :=
  fn_sound (Γ := impl_CastOk.G K) T_D_ok ((allCons (impl_TableOk.sound K) (allCons (slices_ContainsFunc_impl_Item_impl_Item.sound K) (allCons (impl_CastOk_1.sound K) (allCons (impl_facts.sound K) allNil))))) mixed (fn := Tryz.f233) Tryz.func233 (by kernel_rfl) (L := impl_CastOk.L) (fuel := K) (by kernel_rfl) (fun x => impl_CastOk.eqn K x)
theorem cmp_Or_int.sound (K : Nat) : Sound Tryz.prog (cmp_Or_int.c K) :=
  fn_sound (Γ := cmp_Or_int.G K) T_D_ok (allNil) mixed (fn := Tryz.f189) Tryz.func189 (by kernel_rfl) (L := cmp_Or_int.L) (fuel := K) (by kernel_rfl) (fun x => cmp_Or_int.eqn K x)
theorem impl_Fact_compare.sound (K : Nat) : Sound Tryz.prog (impl_Fact_compare.c K) :=
  fn_sound (Γ := impl_Fact_compare.G K) T_D_ok ((allCons (cmp_Compare_int.sound K) (allCons (cmp_Or_int.sound K) allNil))) mixed (fn := Tryz.f113) Tryz.func113 (by kernel_rfl) (L := impl_Fact_compare.L) (fuel := K) (by kernel_rfl) (fun x => impl_Fact_compare.eqn K x)
theorem impl_FactOver.sound (K : Nat) : Sound Tryz.prog (impl_FactOver.c K) :=
  fn_sound (Γ := impl_FactOver.G K) T_D_ok ((allCons (impl_FactOk.sound K) (allCons (impl_Fact_compare.sound K) allNil))) mixed (fn := Tryz.f236) Tryz.func236 (by kernel_rfl) (L := impl_FactOver.L) (fuel := K) (by kernel_rfl) (fun x => impl_FactOver.eqn K x)
theorem impl_Node_tableOk_1.sound (K : Nat) : Sound Tryz.prog (impl_Node_tableOk_1.c K) :=
  fn_sound (Γ := impl_Node_tableOk_1.G K) T_D_ok ((allCons (impl_TableOf.sound K) (allCons (impl_FactOver.sound K) allNil))) mixed (fn := Tryz.f235) Tryz.func235 (by kernel_rfl) (L := impl_Node_tableOk_1.L) (fuel := K) (by kernel_rfl) (fun x => impl_Node_tableOk_1.eqn K x)
theorem impl_Node_tableOk.sound (K : Nat) : Sound Tryz.prog (impl_Node_tableOk.c K) :=
  fn_sound (Γ := impl_Node_tableOk.G K) T_D_ok ((allCons (impl_ofSite.sound K) (allCons (impl_Node_site.sound K) (allCons (impl_TableOf.sound K) (allCons (impl_CastOk.sound K) (allCons (slices_ContainsFunc_impl_Item_impl_Item.sound K) (allCons (impl_Node_tableOk_1.sound K) allNil))))))) mixed (fn := Tryz.f171) Tryz.func171 (by kernel_rfl) (L := impl_Node_tableOk.L) (fuel := K) (by kernel_rfl) (fun x => impl_Node_tableOk.eqn K x)
theorem impl_Node_probeOk.sound (K : Nat) : Sound Tryz.prog (impl_Node_probeOk.c K) :=
  fn_sound (Γ := impl_Node_probeOk.G K) T_D_ok ((allCons (impl_in.sound K) (allCons (impl_TableOf.sound K) allNil))) mixed (fn := Tryz.f172) Tryz.func172 (by kernel_rfl) (L := impl_Node_probeOk.L) (fuel := K) (by kernel_rfl) (fun x => impl_Node_probeOk.eqn K x)
theorem impl_Node_near.sound (K : Nat) : Sound Tryz.prog (impl_Node_near.c K) :=
  fn_sound (Γ := impl_Node_near.G K) T_D_ok ((allCons (impl_Node_site.sound K) (allCons (impl_siteOf.sound K) (allCons (impl_isNode.sound K) allNil)))) mixed (fn := Tryz.f88) Tryz.func88 (by kernel_rfl) (L := impl_Node_near.L) (fuel := K) (by kernel_rfl) (fun x => impl_Node_near.eqn K x)
theorem impl_Node_doubtsOk.sound (K : Nat) : Sound Tryz.prog (impl_Node_doubtsOk.c K) :=
  fn_sound (Γ := impl_Node_doubtsOk.G K) T_D_ok ((allCons (impl_Node_near.sound K) (allCons (impl_in.sound K) allNil))) mixed (fn := Tryz.f173) Tryz.func173 (by kernel_rfl) (L := impl_Node_doubtsOk.L) (fuel := K) (by kernel_rfl) (fun x => impl_Node_doubtsOk.eqn K x)
theorem impl_CoordOk.sound (K : Nat) : Sound Tryz.prog (impl_CoordOk.c K) :=
  fn_sound (Γ := impl_CoordOk.G K) T_D_ok ((allCons (impl_in.sound K) allNil)) mixed (fn := Tryz.f174) Tryz.func174 (by kernel_rfl) (L := impl_CoordOk.L) (fuel := K) (by kernel_rfl) (fun x => impl_CoordOk.eqn K x)
theorem impl_Node_other.sound (K : Nat) : Sound Tryz.prog (impl_Node_other.c K) :=
  fn_sound (Γ := impl_Node_other.G K) T_D_ok ((allCons (impl_Node_near.sound K) allNil)) mixed (fn := Tryz.f199) Tryz.func199 (by kernel_rfl) (L := impl_Node_other.L) (fuel := K) (by kernel_rfl) (fun x => impl_Node_other.eqn K x)
theorem impl_Node_placesOk_1.sound (K : Nat) : Sound Tryz.prog (impl_Node_placesOk_1.c K) :=
  fn_sound (Γ := impl_Node_placesOk_1.G K) T_D_ok ((allCons (impl_in.sound K) allNil)) mixed (fn := Tryz.f237) Tryz.func237 (by kernel_rfl) (L := impl_Node_placesOk_1.L) (fuel := K) (by kernel_rfl) (fun x => impl_Node_placesOk_1.eqn K x)
theorem slices_IndexFunc_int_int.sound (K : Nat) : Sound Tryz.prog (slices_IndexFunc_int_int.c K) :=
  fn_sound (Γ := slices_IndexFunc_int_int.G K) T_D_ok (allNil) mixed (fn := Tryz.f291) Tryz.func291 (by kernel_rfl) (L := slices_IndexFunc_int_int.L) (fuel := K) (by kernel_rfl) (fun x => slices_IndexFunc_int_int.eqn K x)
theorem slices_ContainsFunc_int_int.sound (K : Nat) : Sound Tryz.prog (slices_ContainsFunc_int_int.c K) :=
  fn_sound (Γ := slices_ContainsFunc_int_int.G K) T_D_ok ((allCons (slices_IndexFunc_int_int.sound K) allNil)) mixed (fn := Tryz.f238) Tryz.func238 (by kernel_rfl) (L := slices_ContainsFunc_int_int.L) (fuel := K) (by kernel_rfl) (fun x => slices_ContainsFunc_int_int.eqn K x)
theorem impl_Node_placesOk.sound (K : Nat) : Sound Tryz.prog (impl_Node_placesOk.c K) :=
  fn_sound (Γ := impl_Node_placesOk.G K) T_D_ok ((allCons (impl_in.sound K) (allCons (impl_CoordOk.sound K) (allCons (impl_Node_other.sound K) (allCons (impl_Node_placesOk_1.sound K) (allCons (slices_ContainsFunc_int_int.sound K) allNil)))))) mixed (fn := Tryz.f175) Tryz.func175 (by kernel_rfl) (L := impl_Node_placesOk.L) (fuel := K) (by kernel_rfl) (fun x => impl_Node_placesOk.eqn K x)
theorem impl_Node_othersOk.sound (K : Nat) : Sound Tryz.prog (impl_Node_othersOk.c K) :=
  fn_sound (Γ := impl_Node_othersOk.G K) T_D_ok ((allCons (impl_ofSite.sound K) (allCons (impl_Node_site.sound K) (allCons (impl_siteOf.sound K) (allCons (impl_in.sound K) (allCons (impl_TableOk.sound K) allNil)))))) mixed (fn := Tryz.f176) Tryz.func176 (by kernel_rfl) (L := impl_Node_othersOk.L) (fuel := K) (by kernel_rfl) (fun x => impl_Node_othersOk.eqn K x)
theorem impl_NodeOk.sound (K : Nat) : Sound Tryz.prog (impl_NodeOk.c K) :=
  fn_sound (Γ := impl_NodeOk.G K) T_D_ok ((allCons (impl_in.sound K) (allCons (impl_isNode.sound K) (allCons (impl_Node_isDown.sound K) (allCons (impl_Node_tableOk.sound K) (allCons (impl_Node_probeOk.sound K) (allCons (impl_Node_doubtsOk.sound K) (allCons (impl_CoordOk.sound K) (allCons (impl_Node_placesOk.sound K) (allCons (impl_Node_othersOk.sound K) allNil)))))))))) mixed (fn := Tryz.f76) Tryz.func76 (by kernel_rfl) (L := impl_NodeOk.L) (fuel := K) (by kernel_rfl) (fun x => impl_NodeOk.eqn K x)
theorem impl_Node_active.sound (K : Nat) : Sound Tryz.prog (impl_Node_active.c K) :=
  fn_sound (Γ := impl_Node_active.G K) T_D_ok (allNil) mixed (fn := Tryz.f87) Tryz.func87 (by kernel_rfl) (L := impl_Node_active.L) (fuel := K) (by kernel_rfl) (fun x => impl_Node_active.eqn K x)
theorem impl_Node_word.sound (K : Nat) : Sound Tryz.prog (impl_Node_word.c K) :=
  fn_sound (Γ := impl_Node_word.G K) T_D_ok (allNil) mixed (fn := Tryz.f245) Tryz.func245 (by kernel_rfl) (L := impl_Node_word.L) (fuel := K) (by kernel_rfl) (fun x => impl_Node_word.eqn K x)
theorem impl_Node_whole.sound (K : Nat) : Sound Tryz.prog (impl_Node_whole.c K) :=
  fn_sound (Γ := impl_Node_whole.G K) T_D_ok ((allCons (m_slices_Clone_impl_Fact_impl_Fact.sound K) (allCons (impl_Node_word.sound K) allNil))) mixed (fn := Tryz.f200) Tryz.func200 (by kernel_rfl) (L := impl_Node_whole.L) (fuel := K) (by kernel_rfl) (fun x => impl_Node_whole.eqn K x)
theorem impl_Node_join.sound (K : Nat) : Sound Tryz.prog (impl_Node_join.c K) :=
  fn_sound (Γ := impl_Node_join.G K) T_D_ok ((allCons (impl_Node_active.sound K) (allCons (impl_Node_other.sound K) (allCons (impl_Node_whole.sound K) allNil)))) mixed (fn := Tryz.f130) Tryz.func130 (by kernel_rfl) (L := impl_Node_join.L) (fuel := K) (by kernel_rfl) (fun x => impl_Node_join.eqn K x)
theorem impl_NodeJoin_1.sound (K : Nat) : Sound Tryz.prog (impl_NodeJoin_1.c K) :=
  fn_sound (Γ := impl_NodeJoin_1.G K) T_D_ok ((allCons (impl_Node_join.sound K) allNil)) mixed (fn := Tryz.f129) Tryz.func129 (by kernel_rfl) (L := impl_NodeJoin_1.L) (fuel := K) (by kernel_rfl) (fun x => impl_NodeJoin_1.eqn K x)
theorem impl_Node_copied.sound (K : Nat) : Sound Tryz.prog (impl_Node_copied.c K) :=
  fn_sound (Γ := impl_Node_copied.G K) T_D_ok ((allCons (m_slices_Clone_int_int.sound K) (allCons (m_slices_Clone_impl_Fact_impl_Fact.sound K) (allCons (m_slices_Clone_impl_Item_impl_Item.sound K) allNil)))) mixed (fn := Tryz.f197) Tryz.func197 (by kernel_rfl) (L := impl_Node_copied.L) (fuel := K) (by kernel_rfl) (fun x => impl_Node_copied.eqn K x)
theorem slices_Clip_impl_Word_impl_Word.sound (K : Nat) : Sound Tryz.prog (slices_Clip_impl_Word_impl_Word.c K) :=
  fn_sound (Γ := slices_Clip_impl_Word_impl_Word.G K) T_D_ok (allNil) mixed (fn := Tryz.f198) Tryz.func198 (by kernel_rfl) (L := slices_Clip_impl_Word_impl_Word.L) (fuel := K) (by kernel_rfl) (fun x => slices_Clip_impl_Word_impl_Word.eqn K x)
theorem impl_does.sound (K : Nat) : Sound Tryz.prog (impl_does.c K) :=
  fn_sound (Γ := impl_does.G K) T_D_ok ((allCons (impl_NodeOk.sound K) (allCons (impl_NodeJoin_1.sound K) (allCons (impl_Node_copied.sound K) (allCons (slices_Clip_impl_Word_impl_Word.sound K) allNil))))) mixed (fn := Tryz.f128) Tryz.func128 (by kernel_rfl) (L := impl_does.L) (fuel := K) (by kernel_rfl) (fun x => impl_does.eqn K x)
theorem impl_NodeJoin.sound (K : Nat) : Sound Tryz.prog (impl_NodeJoin.c K) :=
  fn_sound (Γ := impl_NodeJoin.G K) T_D_ok ((allCons (impl_does.sound K) allNil)) mixed (fn := Tryz.f39) Tryz.func39 (by kernel_rfl) (L := impl_NodeJoin.L) (fuel := K) (by kernel_rfl) (fun x => impl_NodeJoin.eqn K x)
theorem laws_eqWord.sound (K : Nat) : Sound Tryz.prog (laws_eqWord.c K) :=
  fn_sound (Γ := laws_eqWord.G K) T_D_ok ((allCons (laws_eqFactS.sound K) (allCons (laws_eqCoord.sound K) allNil))) mixed (fn := Tryz.f24) Tryz.func24 (by kernel_rfl) (L := laws_eqWord.L) (fuel := K) (by kernel_rfl) (fun x => laws_eqWord.eqn K x)
theorem laws_eqWordS.sound (K : Nat) : Sound Tryz.prog (laws_eqWordS.c K) :=
  fn_sound (Γ := laws_eqWordS.G K) T_D_ok ((allCons (laws_eqWord.sound K) allNil)) mixed (fn := Tryz.f40) Tryz.func40 (by kernel_rfl) (L := laws_eqWordS.L) (fuel := K) (by kernel_rfl) (fun x => laws_eqWordS.eqn K x)
theorem laws_markWordS.sound (K : Nat) : Sound Tryz.prog (laws_markWordS.c K) :=
  fn_sound (Γ := laws_markWordS.G K) T_D_ok ((allCons (laws_markFactS.sound K) allNil)) mixed (fn := Tryz.f41) Tryz.func41 (by kernel_rfl) (L := laws_markWordS.L) (fuel := K) (by kernel_rfl) (fun x => laws_markWordS.eqn K x)
theorem laws_heldFactS.sound (K : Nat) : Sound Tryz.prog (laws_heldFactS.c K) :=
  fn_sound (Γ := laws_heldFactS.G K) T_D_ok (allNil) mixed (fn := Tryz.f48) Tryz.func48 (by kernel_rfl) (L := laws_heldFactS.L) (fuel := K) (by kernel_rfl) (fun x => laws_heldFactS.eqn K x)
theorem laws_heldItemS.sound (K : Nat) : Sound Tryz.prog (laws_heldItemS.c K) :=
  fn_sound (Γ := laws_heldItemS.G K) T_D_ok (allNil) mixed (fn := Tryz.f131) Tryz.func131 (by kernel_rfl) (L := laws_heldItemS.L) (fuel := K) (by kernel_rfl) (fun x => laws_heldItemS.eqn K x)
theorem laws_heldIntS.sound (K : Nat) : Sound Tryz.prog (laws_heldIntS.c K) :=
  fn_sound (Γ := laws_heldIntS.G K) T_D_ok (allNil) mixed (fn := Tryz.f30) Tryz.func30 (by kernel_rfl) (L := laws_heldIntS.L) (fuel := K) (by kernel_rfl) (fun x => laws_heldIntS.eqn K x)
theorem laws_heldDoubtS.sound (K : Nat) : Sound Tryz.prog (laws_heldDoubtS.c K) :=
  fn_sound (Γ := laws_heldDoubtS.G K) T_D_ok ((allCons (laws_heldIntS.sound K) allNil)) mixed (fn := Tryz.f132) Tryz.func132 (by kernel_rfl) (L := laws_heldDoubtS.L) (fuel := K) (by kernel_rfl) (fun x => laws_heldDoubtS.eqn K x)
theorem laws_heldPlaceS.sound (K : Nat) : Sound Tryz.prog (laws_heldPlaceS.c K) :=
  fn_sound (Γ := laws_heldPlaceS.G K) T_D_ok ((allCons (laws_heldIntS.sound K) allNil)) mixed (fn := Tryz.f133) Tryz.func133 (by kernel_rfl) (L := laws_heldPlaceS.L) (fuel := K) (by kernel_rfl) (fun x => laws_heldPlaceS.eqn K x)
theorem laws_heldForeignS.sound (K : Nat) : Sound Tryz.prog (laws_heldForeignS.c K) :=
  fn_sound (Γ := laws_heldForeignS.G K) T_D_ok ((allCons (laws_heldFactS.sound K) allNil)) mixed (fn := Tryz.f134) Tryz.func134 (by kernel_rfl) (L := laws_heldForeignS.L) (fuel := K) (by kernel_rfl) (fun x => laws_heldForeignS.eqn K x)
theorem laws_heldNode.sound (K : Nat) : Sound Tryz.prog (laws_heldNode.c K) :=
  fn_sound (Γ := laws_heldNode.G K) T_D_ok ((allCons (laws_heldFactS.sound K) (allCons (laws_heldItemS.sound K) (allCons (laws_heldDoubtS.sound K) (allCons (laws_heldPlaceS.sound K) (allCons (laws_heldForeignS.sound K) allNil)))))) mixed (fn := Tryz.f42) Tryz.func42 (by kernel_rfl) (L := laws_heldNode.L) (fuel := K) (by kernel_rfl) (fun x => laws_heldNode.eqn K x)
theorem laws_heldWordS.sound (K : Nat) : Sound Tryz.prog (laws_heldWordS.c K) :=
  fn_sound (Γ := laws_heldWordS.G K) T_D_ok ((allCons (laws_heldFactS.sound K) allNil)) mixed (fn := Tryz.f43) Tryz.func43 (by kernel_rfl) (L := laws_heldWordS.L) (fuel := K) (by kernel_rfl) (fun x => laws_heldWordS.eqn K x)
theorem laws_FnExactNodeJoin.sound (K : Nat) : Sound Tryz.prog (laws_FnExactNodeJoin.c K) :=
  fn_sound (Γ := laws_FnExactNodeJoin.G K) T_D_ok ((allCons (laws_szNode.sound K) (allCons (laws_toNode.sound K) (allCons (laws_eqNode.sound K) (allCons (laws_markNode.sound K) (allCons (spec_NodeJoin.sound K) (allCons (impl_NodeJoin.sound K) (allCons (laws_eqWordS.sound K) (allCons (laws_markWordS.sound K) (allCons (laws_heldNode.sound K) (allCons (laws_heldWordS.sound K) allNil))))))))))) mixed (fn := Tryz.f8) Tryz.func8 (by kernel_rfl) (L := laws_FnExactNodeJoin.L) (fuel := K) (by kernel_rfl) (fun x => laws_FnExactNodeJoin.eqn K x)
end Go.Proofs.YthgnfidnmnkeaaaGreatEv
