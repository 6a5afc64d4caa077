/- The contracts are sound. Printed by run3.py. -/
import Derived.Test.YthgnfidnmnkeaaaGreatEqn0
import Derived.Test.YthgnfidnmnkeaaaGreatE7
import Derived.Test.YthgnfidnmnkeaaaGreatMan
import Derived.Test.YthgnfidnmnkeaaaGreatIns
import Derived.Test.YthgnfidnmnkeaaaGreatDel
import Derived.Test.YthgnfidnmnkeaaaGreatP0
set_option linter.unusedVariables false
set_option maxRecDepth 100000
namespace Go.Proofs.YthgnfidnmnkeaaaGreatEv
open Go Go.Proofs
theorem allNil {p:Ctr→Prop}:∀ c∈([]:List Ctr),p c:=by simp
theorem allCons {p:Ctr→Prop} {a:Ctr} {l:List Ctr} (h:p a) (hl:∀ c∈l,p c):∀ c∈a :: l,p c:=by
  intro c hc; rcases List.mem_cons.1 hc with rfl | hc
  · exact h
  · exact hl c hc
theorem T_D_ok:TOk Tryz.prog T_D:=tlB_ok (l:=Tl_D) (by kernel_rfl)
theorem T_ND_ok:TOk Tryz.prog T_ND:=tlB_ok (l:=Tl_ND) (by kernel_rfl)
theorem T_S_ok:TOk Tryz.prog T_S:=tlB_ok (l:=Tl_S) (by kernel_rfl)
theorem mixed:Tryz.prog.follows .mixedOrders=true:=by kernel_rfl
theorem Q7.sound (K:Nat):Sound Tryz.prog (Q7.c K) :=
  fn_sound T_D_ok (allNil) mixed (fn:=Tryz.f60) Tryz.func60 (by kernel_rfl) (L:=Q7.L) (fuel:=K) (by kernel_rfl) (fun x=>Q7.eqn K x)
theorem Q8.sound (K:Nat):Sound Tryz.prog (Q8.c K) :=
  fn_sound T_D_ok (allNil) mixed (fn:=Tryz.f61) Tryz.func61 (by kernel_rfl) (L:=Q8.L) (fuel:=K) (by kernel_rfl) (fun x=>Q8.eqn K x)
theorem Q9.sound (K:Nat):Sound Tryz.prog (Q9.c K) :=
  fn_sound T_D_ok (allNil) mixed (fn:=Tryz.f102) Tryz.func102 (by kernel_rfl) (L:=Q9.L) (fuel:=K) (by kernel_rfl) (fun x=>Q9.eqn K x)
theorem Q10.sound (K:Nat):Sound Tryz.prog (Q10.c K) :=
  fn_sound T_D_ok ((allCons (Q9.sound K) allNil)) mixed (fn:=Tryz.f152) Tryz.func152 (by kernel_rfl) (L:=Q10.L) (fuel:=K) (by kernel_rfl) (fun x=>Q10.eqn K x)
theorem Q11.sound (K:Nat):Sound Tryz.prog (Q11.c K) :=
  fn_sound T_D_ok ((allCons (Q10.sound K) allNil)) mixed (fn:=Tryz.f62) Tryz.func62 (by kernel_rfl) (L:=Q11.L) (fuel:=K) (by kernel_rfl) (fun x=>Q11.eqn K x)
theorem Q12.sound (K:Nat):Sound Tryz.prog (Q12.c K) :=
  fn_sound T_D_ok ((allCons (Q9.sound K) allNil)) mixed (fn:=Tryz.f153) Tryz.func153 (by kernel_rfl) (L:=Q12.L) (fuel:=K) (by kernel_rfl) (fun x=>Q12.eqn K x)
theorem Q13.sound (K:Nat):Sound Tryz.prog (Q13.c K) :=
  fn_sound T_D_ok ((allCons (Q12.sound K) allNil)) mixed (fn:=Tryz.f63) Tryz.func63 (by kernel_rfl) (L:=Q13.L) (fuel:=K) (by kernel_rfl) (fun x=>Q13.eqn K x)
theorem Q14.sound (K:Nat):Sound Tryz.prog (Q14.c K) :=
  fn_sound T_D_ok ((allCons (Q7.sound K) allNil)) mixed (fn:=Tryz.f154) Tryz.func154 (by kernel_rfl) (L:=Q14.L) (fuel:=K) (by kernel_rfl) (fun x=>Q14.eqn K x)
theorem Q15.sound (K:Nat):Sound Tryz.prog (Q15.c K) :=
  fn_sound T_D_ok ((allCons (Q14.sound K) allNil)) mixed (fn:=Tryz.f64) Tryz.func64 (by kernel_rfl) (L:=Q15.L) (fuel:=K) (by kernel_rfl) (fun x=>Q15.eqn K x)
theorem Q16.sound (K:Nat):Sound Tryz.prog (Q16.c K) :=
  fn_sound T_D_ok ((allCons (Q7.sound K) (allCons (Q8.sound K) (allCons (Q11.sound K) (allCons (Q13.sound K) (allCons (Q15.sound K) allNil)))))) mixed (fn:=Tryz.f15) Tryz.func15 (by kernel_rfl) (L:=Q16.L) (fuel:=K) (by kernel_rfl) (fun x=>Q16.eqn K x)
theorem Q17.sound (K:Nat):Sound Tryz.prog (Q17.c K) :=
  fn_sound T_D_ok (allNil) mixed (fn:=Tryz.f165) Tryz.func165 (by kernel_rfl) (L:=Q17.L) (fuel:=K) (by kernel_rfl) (fun x=>Q17.eqn K x)
theorem Q18.sound (K:Nat):Sound Tryz.prog (Q18.c K) :=
  fn_sound T_D_ok ((allCons (Q17.sound K) allNil)) mixed (fn:=Tryz.f67) Tryz.func67 (by kernel_rfl) (L:=Q18.L) (fuel:=K) (by kernel_rfl) (fun x=>Q18.eqn K x)
theorem Q19.sound (K:Nat):Sound Tryz.prog (Q19.c K) :=
  fn_sound T_D_ok ((allCons (Q17.sound K) allNil)) mixed (fn:=Tryz.f166) Tryz.func166 (by kernel_rfl) (L:=Q19.L) (fuel:=K) (by kernel_rfl) (fun x=>Q19.eqn K x)
theorem Q20.sound (K:Nat):Sound Tryz.prog (Q20.c K) :=
  fn_sound T_D_ok ((allCons (Q19.sound K) allNil)) mixed (fn:=Tryz.f68) Tryz.func68 (by kernel_rfl) (L:=Q20.L) (fuel:=K) (by kernel_rfl) (fun x=>Q20.eqn K x)
theorem Q21.sound (K:Nat):Sound Tryz.prog (Q21.c K) :=
  fn_sound T_D_ok (allNil) mixed (fn:=Tryz.f69) Tryz.func69 (by kernel_rfl) (L:=Q21.L) (fuel:=K) (by kernel_rfl) (fun x=>Q21.eqn K x)
theorem Q22.sound (K:Nat):Sound Tryz.prog (Q22.c K) :=
  fn_sound T_D_ok (allNil) mixed (fn:=Tryz.f109) Tryz.func109 (by kernel_rfl) (L:=Q22.L) (fuel:=K) (by kernel_rfl) (fun x=>Q22.eqn K x)
theorem Q23.sound (K:Nat):Sound Tryz.prog (Q23.c K) :=
  fn_sound T_D_ok ((allCons (Q22.sound K) allNil)) mixed (fn:=Tryz.f167) Tryz.func167 (by kernel_rfl) (L:=Q23.L) (fuel:=K) (by kernel_rfl) (fun x=>Q23.eqn K x)
theorem Q24.sound (K:Nat):Sound Tryz.prog (Q24.c K) :=
  fn_sound T_D_ok ((allCons (Q23.sound K) allNil)) mixed (fn:=Tryz.f70) Tryz.func70 (by kernel_rfl) (L:=Q24.L) (fuel:=K) (by kernel_rfl) (fun x=>Q24.eqn K x)
theorem Q25.sound (K:Nat):Sound Tryz.prog (Q25.c K) :=
  fn_sound T_D_ok (allNil) mixed (fn:=Tryz.f71) Tryz.func71 (by kernel_rfl) (L:=Q25.L) (fuel:=K) (by kernel_rfl) (fun x=>Q25.eqn K x)
theorem Q26.sound (K:Nat):Sound Tryz.prog (Q26.c K) :=
  fn_sound T_D_ok ((allCons (Q25.sound K) (allCons (Q22.sound K) allNil))) mixed (fn:=Tryz.f168) Tryz.func168 (by kernel_rfl) (L:=Q26.L) (fuel:=K) (by kernel_rfl) (fun x=>Q26.eqn K x)
theorem Q27.sound (K:Nat):Sound Tryz.prog (Q27.c K) :=
  fn_sound T_D_ok ((allCons (Q26.sound K) allNil)) mixed (fn:=Tryz.f72) Tryz.func72 (by kernel_rfl) (L:=Q27.L) (fuel:=K) (by kernel_rfl) (fun x=>Q27.eqn K x)
theorem Q28.sound (K:Nat):Sound Tryz.prog (Q28.c K) :=
  fn_sound T_D_ok ((allCons (Q18.sound K) allNil)) mixed (fn:=Tryz.f169) Tryz.func169 (by kernel_rfl) (L:=Q28.L) (fuel:=K) (by kernel_rfl) (fun x=>Q28.eqn K x)
theorem Q29.sound (K:Nat):Sound Tryz.prog (Q29.c K) :=
  fn_sound T_D_ok ((allCons (Q28.sound K) allNil)) mixed (fn:=Tryz.f73) Tryz.func73 (by kernel_rfl) (L:=Q29.L) (fuel:=K) (by kernel_rfl) (fun x=>Q29.eqn K x)
theorem Q30.sound (K:Nat):Sound Tryz.prog (Q30.c K) :=
  fn_sound T_D_ok ((allCons (Q18.sound K) (allCons (Q20.sound K) (allCons (Q21.sound K) (allCons (Q24.sound K) (allCons (Q25.sound K) (allCons (Q27.sound K) (allCons (Q29.sound K) allNil)))))))) mixed (fn:=Tryz.f17) Tryz.func17 (by kernel_rfl) (L:=Q30.L) (fuel:=K) (by kernel_rfl) (fun x=>Q30.eqn K x)
theorem Q31.sound (K:Nat):Sound Tryz.prog (Q31.c K) :=
  fn_sound T_D_ok (allNil) mixed (fn:=Tryz.f136) Tryz.func136 (by kernel_rfl) (L:=Q31.L) (fuel:=K) (by kernel_rfl) (fun x=>Q31.eqn K x)
theorem Q32.sound (K:Nat):Sound Tryz.prog (Q32.c K) :=
  fn_sound T_D_ok ((allCons (Q31.sound K) allNil)) mixed (fn:=Tryz.f46) Tryz.func46 (by kernel_rfl) (L:=Q32.L) (fuel:=K) (by kernel_rfl) (fun x=>Q32.eqn K x)
theorem Q33.sound (K:Nat):Sound Tryz.prog (Q33.c K) :=
  fn_sound T_D_ok ((allCons (Q31.sound K) allNil)) mixed (fn:=Tryz.f178) Tryz.func178 (by kernel_rfl) (L:=Q33.L) (fuel:=K) (by kernel_rfl) (fun x=>Q33.eqn K x)
theorem Q34.sound (K:Nat):Sound Tryz.prog (Q34.c K) :=
  fn_sound T_D_ok ((allCons (Q33.sound K) allNil)) mixed (fn:=Tryz.f78) Tryz.func78 (by kernel_rfl) (L:=Q34.L) (fuel:=K) (by kernel_rfl) (fun x=>Q34.eqn K x)
theorem Q35.sound (K:Nat):Sound Tryz.prog (Q35.c K) :=
  fn_sound T_D_ok (allNil) mixed (fn:=Tryz.f79) Tryz.func79 (by kernel_rfl) (L:=Q35.L) (fuel:=K) (by kernel_rfl) (fun x=>Q35.eqn K x)
theorem Q36.sound (K:Nat):Sound Tryz.prog (Q36.c K) :=
  fn_sound T_D_ok (allNil) mixed (fn:=Tryz.f27) Tryz.func27 (by kernel_rfl) (L:=Q36.L) (fuel:=K) (by kernel_rfl) (fun x=>Q36.eqn K x)
theorem Q37.sound (K:Nat):Sound Tryz.prog (Q37.c K) :=
  fn_sound T_D_ok ((allCons (Q36.sound K) allNil)) mixed (fn:=Tryz.f179) Tryz.func179 (by kernel_rfl) (L:=Q37.L) (fuel:=K) (by kernel_rfl) (fun x=>Q37.eqn K x)
theorem Q38.sound (K:Nat):Sound Tryz.prog (Q38.c K) :=
  fn_sound T_D_ok ((allCons (Q37.sound K) allNil)) mixed (fn:=Tryz.f80) Tryz.func80 (by kernel_rfl) (L:=Q38.L) (fuel:=K) (by kernel_rfl) (fun x=>Q38.eqn K x)
theorem Q39.sound (K:Nat):Sound Tryz.prog (Q39.c K) :=
  fn_sound T_D_ok (allNil) mixed (fn:=Tryz.f81) Tryz.func81 (by kernel_rfl) (L:=Q39.L) (fuel:=K) (by kernel_rfl) (fun x=>Q39.eqn K x)
theorem Q40.sound (K:Nat):Sound Tryz.prog (Q40.c K) :=
  fn_sound T_D_ok ((allCons (Q36.sound K) (allCons (Q39.sound K) allNil))) mixed (fn:=Tryz.f180) Tryz.func180 (by kernel_rfl) (L:=Q40.L) (fuel:=K) (by kernel_rfl) (fun x=>Q40.eqn K x)
theorem Q41.sound (K:Nat):Sound Tryz.prog (Q41.c K) :=
  fn_sound T_D_ok ((allCons (Q40.sound K) allNil)) mixed (fn:=Tryz.f82) Tryz.func82 (by kernel_rfl) (L:=Q41.L) (fuel:=K) (by kernel_rfl) (fun x=>Q41.eqn K x)
theorem Q42.sound (K:Nat):Sound Tryz.prog (Q42.c K) :=
  fn_sound T_D_ok ((allCons (Q32.sound K) allNil)) mixed (fn:=Tryz.f181) Tryz.func181 (by kernel_rfl) (L:=Q42.L) (fuel:=K) (by kernel_rfl) (fun x=>Q42.eqn K x)
theorem Q43.sound (K:Nat):Sound Tryz.prog (Q43.c K) :=
  fn_sound T_D_ok ((allCons (Q42.sound K) allNil)) mixed (fn:=Tryz.f83) Tryz.func83 (by kernel_rfl) (L:=Q43.L) (fuel:=K) (by kernel_rfl) (fun x=>Q43.eqn K x)
theorem Q44.sound (K:Nat):Sound Tryz.prog (Q44.c K) :=
  fn_sound T_D_ok ((allCons (Q32.sound K) (allCons (Q34.sound K) (allCons (Q35.sound K) (allCons (Q38.sound K) (allCons (Q39.sound K) (allCons (Q41.sound K) (allCons (Q43.sound K) allNil)))))))) mixed (fn:=Tryz.f19) Tryz.func19 (by kernel_rfl) (L:=Q44.L) (fuel:=K) (by kernel_rfl) (fun x=>Q44.eqn K x)
theorem Q45.sound (K:Nat):Sound Tryz.prog (Q45.c K) :=
  fn_sound T_D_ok (allNil) mixed (fn:=Tryz.f47) Tryz.func47 (by kernel_rfl) (L:=Q45.L) (fuel:=K) (by kernel_rfl) (fun x=>Q45.eqn K x)
theorem Q46.sound (K:Nat):Sound Tryz.prog (Q46.c K) :=
  fn_sound T_D_ok (allNil) mixed (fn:=Tryz.f96) Tryz.func96 (by kernel_rfl) (L:=Q46.L) (fuel:=K) (by kernel_rfl) (fun x=>Q46.eqn K x)
theorem Q47.sound (K:Nat):Sound Tryz.prog (Q47.c K) :=
  fn_sound T_D_ok (allNil) mixed (fn:=Tryz.f29) Tryz.func29 (by kernel_rfl) (L:=Q47.L) (fuel:=K) (by kernel_rfl) (fun x=>Q47.eqn K x)
theorem Q48.sound (K:Nat):Sound Tryz.prog (Q48.c K) :=
  fn_sound T_D_ok ((allCons (Q47.sound K) allNil)) mixed (fn:=Tryz.f97) Tryz.func97 (by kernel_rfl) (L:=Q48.L) (fuel:=K) (by kernel_rfl) (fun x=>Q48.eqn K x)
theorem Q49.sound (K:Nat):Sound Tryz.prog (Q49.c K) :=
  fn_sound T_D_ok ((allCons (Q47.sound K) allNil)) mixed (fn:=Tryz.f98) Tryz.func98 (by kernel_rfl) (L:=Q49.L) (fuel:=K) (by kernel_rfl) (fun x=>Q49.eqn K x)
theorem Q50.sound (K:Nat):Sound Tryz.prog (Q50.c K) :=
  fn_sound T_D_ok ((allCons (Q45.sound K) allNil)) mixed (fn:=Tryz.f99) Tryz.func99 (by kernel_rfl) (L:=Q50.L) (fuel:=K) (by kernel_rfl) (fun x=>Q50.eqn K x)
theorem Q51.sound (K:Nat):Sound Tryz.prog (Q51.c K) :=
  fn_sound T_D_ok ((allCons (Q45.sound K) (allCons (Q46.sound K) (allCons (Q48.sound K) (allCons (Q49.sound K) (allCons (Q50.sound K) allNil)))))) mixed (fn:=Tryz.f28) Tryz.func28 (by kernel_rfl) (L:=Q51.L) (fuel:=K) (by kernel_rfl) (fun x=>Q51.eqn K x)
theorem Q52.sound (K:Nat):Sound Tryz.prog (Q52.c K) :=
  fn_sound T_D_ok ((allCons (Q32.sound K) (allCons (Q39.sound K) allNil))) mixed (fn:=Tryz.f24) Tryz.func24 (by kernel_rfl) (L:=Q52.L) (fuel:=K) (by kernel_rfl) (fun x=>Q52.eqn K x)
theorem Q53.sound (K:Nat):Sound Tryz.prog (Q53.c K) :=
  fn_sound T_D_ok ((allCons (Q52.sound K) allNil)) mixed (fn:=Tryz.f40) Tryz.func40 (by kernel_rfl) (L:=Q53.L) (fuel:=K) (by kernel_rfl) (fun x=>Q53.eqn K x)
theorem Q54.sound (K:Nat):Sound Tryz.prog (Q54.c K) :=
  fn_sound T_D_ok ((allCons (Q45.sound K) allNil)) mixed (fn:=Tryz.f41) Tryz.func41 (by kernel_rfl) (L:=Q54.L) (fuel:=K) (by kernel_rfl) (fun x=>Q54.eqn K x)
theorem Q55.sound (K:Nat):Sound Tryz.prog (Q55.c K) :=
  fn_sound T_D_ok (allNil) mixed (fn:=Tryz.f48) Tryz.func48 (by kernel_rfl) (L:=Q55.L) (fuel:=K) (by kernel_rfl) (fun x=>Q55.eqn K x)
theorem Q56.sound (K:Nat):Sound Tryz.prog (Q56.c K) :=
  fn_sound T_D_ok (allNil) mixed (fn:=Tryz.f131) Tryz.func131 (by kernel_rfl) (L:=Q56.L) (fuel:=K) (by kernel_rfl) (fun x=>Q56.eqn K x)
theorem Q57.sound (K:Nat):Sound Tryz.prog (Q57.c K) :=
  fn_sound T_D_ok (allNil) mixed (fn:=Tryz.f30) Tryz.func30 (by kernel_rfl) (L:=Q57.L) (fuel:=K) (by kernel_rfl) (fun x=>Q57.eqn K x)
theorem Q58.sound (K:Nat):Sound Tryz.prog (Q58.c K) :=
  fn_sound T_D_ok ((allCons (Q57.sound K) allNil)) mixed (fn:=Tryz.f132) Tryz.func132 (by kernel_rfl) (L:=Q58.L) (fuel:=K) (by kernel_rfl) (fun x=>Q58.eqn K x)
theorem Q59.sound (K:Nat):Sound Tryz.prog (Q59.c K) :=
  fn_sound T_D_ok ((allCons (Q57.sound K) allNil)) mixed (fn:=Tryz.f133) Tryz.func133 (by kernel_rfl) (L:=Q59.L) (fuel:=K) (by kernel_rfl) (fun x=>Q59.eqn K x)
theorem Q60.sound (K:Nat):Sound Tryz.prog (Q60.c K) :=
  fn_sound T_D_ok ((allCons (Q55.sound K) allNil)) mixed (fn:=Tryz.f134) Tryz.func134 (by kernel_rfl) (L:=Q60.L) (fuel:=K) (by kernel_rfl) (fun x=>Q60.eqn K x)
theorem Q61.sound (K:Nat):Sound Tryz.prog (Q61.c K) :=
  fn_sound T_D_ok ((allCons (Q55.sound K) (allCons (Q56.sound K) (allCons (Q58.sound K) (allCons (Q59.sound K) (allCons (Q60.sound K) allNil)))))) mixed (fn:=Tryz.f42) Tryz.func42 (by kernel_rfl) (L:=Q61.L) (fuel:=K) (by kernel_rfl) (fun x=>Q61.eqn K x)
theorem Q62.sound (K:Nat):Sound Tryz.prog (Q62.c K) :=
  fn_sound T_D_ok ((allCons (Q55.sound K) allNil)) mixed (fn:=Tryz.f43) Tryz.func43 (by kernel_rfl) (L:=Q62.L) (fuel:=K) (by kernel_rfl) (fun x=>Q62.eqn K x)
theorem Q63.sound (K:Nat):Sound Tryz.prog (Q63.c K) :=
  fn_sound T_S_ok (allNil) mixed (fn:=Tryz.f92) Tryz.func92 (by kernel_rfl) (L:=Q63.L) (fuel:=K) (by kernel_rfl) (fun x=>Q63.eqn K x)
theorem Q64.sound (K:Nat):Sound Tryz.prog (Q64.c K) :=
  fn_sound T_S_ok (allNil) mixed (fn:=Tryz.f104) Tryz.func104 (by kernel_rfl) (L:=Q64.L) (fuel:=K) (by kernel_rfl) (fun x=>Q64.eqn K x)
theorem Q65.sound (K:Nat):Sound Tryz.prog (Q65.c K) :=
  fn_sound T_S_ok ((allCons (Q64.sound K) allNil)) mixed (fn:=Tryz.f105) Tryz.func105 (by kernel_rfl) (L:=Q65.L) (fuel:=K) (by kernel_rfl) (fun x=>Q65.eqn K x)
theorem Q66.sound (K:Nat):Sound Tryz.prog (Q66.c K) :=
  fn_sound T_S_ok ((allCons (Q65.sound K) allNil)) mixed (fn:=Tryz.f155) Tryz.func155 (by kernel_rfl) (L:=Q66.L) (fuel:=K) (by kernel_rfl) (fun x=>Q66.eqn K x)
theorem Q67.sound (K:Nat):Sound Tryz.prog (Q67.c K) :=
  fn_sound T_S_ok (allNil) mixed (fn:=Tryz.f156) Tryz.func156 (by kernel_rfl) (L:=Q67.L) (fuel:=K) (by kernel_rfl) (fun x=>Q67.eqn K x)
theorem Q68.sound (K:Nat):Sound Tryz.prog (Q68.c K) :=
  fn_sound T_S_ok (allNil) mixed (fn:=Tryz.f119) Tryz.func119 (by kernel_rfl) (L:=Q68.L) (fuel:=K) (by kernel_rfl) (fun x=>Q68.eqn K x)
theorem Q69.sound (K:Nat):Sound Tryz.prog (Q69.c K) :=
  fn_sound T_S_ok ((allCons (Q68.sound K) allNil)) mixed (fn:=Tryz.f157) Tryz.func157 (by kernel_rfl) (L:=Q69.L) (fuel:=K) (by kernel_rfl) (fun x=>Q69.eqn K x)
theorem Q70.sound (K:Nat):Sound Tryz.prog (Q70.c K) :=
  fn_sound T_S_ok (allNil) mixed (fn:=Tryz.f187) Tryz.func187 (by kernel_rfl) (L:=Q70.L) (fuel:=K) (by kernel_rfl) (fun x=>Q70.eqn K x)
theorem Q71.sound (K:Nat):Sound Tryz.prog (Q71.c K) :=
  fn_sound T_S_ok ((allCons (Q64.sound K) (allCons (Q65.sound K) allNil))) mixed (fn:=Tryz.f230) Tryz.func230 (by kernel_rfl) (L:=Q71.L) (fuel:=K) (by kernel_rfl) (fun x=>Q71.eqn K x)
theorem Q72.sound (K:Nat):Sound Tryz.prog (Q72.c K) :=
  fn_sound T_S_ok ((allCons (Q68.sound K) (allCons (Q70.sound K) (allCons (Q71.sound K) allNil)))) mixed (fn:=Tryz.f158) Tryz.func158 (by kernel_rfl) (L:=Q72.L) (fuel:=K) (by kernel_rfl) (fun x=>Q72.eqn K x)
theorem Q73.sound (K:Nat):Sound Tryz.prog (Q73.c K) :=
  fn_sound T_S_ok ((allCons (Q64.sound K) (allCons (Q68.sound K) allNil))) mixed (fn:=Tryz.f159) Tryz.func159 (by kernel_rfl) (L:=Q73.L) (fuel:=K) (by kernel_rfl) (fun x=>Q73.eqn K x)
theorem Q74.sound (K:Nat):Sound Tryz.prog (Q74.c K) :=
  fn_sound T_S_ok ((allCons (Q63.sound K) (allCons (Q64.sound K) (allCons (Q68.sound K) allNil)))) mixed (fn:=Tryz.f160) Tryz.func160 (by kernel_rfl) (L:=Q74.L) (fuel:=K) (by kernel_rfl) (fun x=>Q74.eqn K x)
theorem Q75.sound (K:Nat):Sound Tryz.prog (Q75.c K) :=
  fn_sound T_S_ok ((allCons (Q64.sound K) allNil)) mixed (fn:=Tryz.f161) Tryz.func161 (by kernel_rfl) (L:=Q75.L) (fuel:=K) (by kernel_rfl) (fun x=>Q75.eqn K x)
theorem Q76.sound (K:Nat):Sound Tryz.prog (Q76.c K) :=
  fn_sound T_S_ok ((allCons (Q63.sound K) (allCons (Q64.sound K) (allCons (Q75.sound K) allNil)))) mixed (fn:=Tryz.f162) Tryz.func162 (by kernel_rfl) (L:=Q76.L) (fuel:=K) (by kernel_rfl) (fun x=>Q76.eqn K x)
theorem Q77.sound (K:Nat):Sound Tryz.prog (Q77.c K) :=
  fn_sound T_S_ok ((allCons (Q63.sound K) (allCons (Q64.sound K) (allCons (Q66.sound K) (allCons (Q67.sound K) allNil))))) mixed (fn:=Tryz.f163) Tryz.func163 (by kernel_rfl) (L:=Q77.L) (fuel:=K) (by kernel_rfl) (fun x=>Q77.eqn K x)
theorem Q78.sound (K:Nat):Sound Tryz.prog (Q78.c K) :=
  fn_sound T_S_ok ((allCons (Q63.sound K) (allCons (Q64.sound K) (allCons (Q66.sound K) (allCons (Q67.sound K) (allCons (Q69.sound K) (allCons (Q72.sound K) (allCons (Q73.sound K) (allCons (Q74.sound K) (allCons (Q75.sound K) (allCons (Q76.sound K) (allCons (Q77.sound K) allNil)))))))))))) mixed (fn:=Tryz.f65) Tryz.func65 (by kernel_rfl) (L:=Q78.L) (fuel:=K) (by kernel_rfl) (fun x=>Q78.eqn K x)
theorem Q79.sound (K:Nat):Sound Tryz.prog (Q79.c K) :=
  fn_sound T_ND_ok (allNil) mixed (fn:=Tryz.f126) Tryz.func126 (by kernel_rfl) (L:=Q79.L) (fuel:=K) (by kernel_rfl) (fun x=>Q79.eqn K x)
theorem Q80.sound (K:Nat):Sound Tryz.prog (Q80.c K) :=
  fn_sound T_S_ok (allNil) mixed (fn:=Tryz.f127) Tryz.func127 (by kernel_rfl) (L:=Q80.L) (fuel:=K) (by kernel_rfl) (fun x=>Q80.eqn K x)
theorem Q81.sound (K:Nat):Sound Tryz.prog (Q81.c K) :=
  fn_sound T_S_ok ((allCons (Q68.sound K) (allCons (Q70.sound K) allNil))) mixed (fn:=Tryz.f248) Tryz.func248 (by kernel_rfl) (L:=Q81.L) (fuel:=K) (by kernel_rfl) (fun x=>Q81.eqn K x)
theorem Q82.sound (K:Nat):Sound Tryz.prog (Q82.c K) :=
  fn_sound T_S_ok ((allCons (Q70.sound K) allNil)) mixed (fn:=Tryz.f249) Tryz.func249 (by kernel_rfl) (L:=Q82.L) (fuel:=K) (by kernel_rfl) (fun x=>Q82.eqn K x)
theorem Q83.sound (K:Nat):Sound Tryz.prog (Q83.c K) :=
  fn_sound T_S_ok (allNil) mixed (fn:=Tryz.f250) Tryz.func250 (by kernel_rfl) (L:=Q83.L) (fuel:=K) (by kernel_rfl) (fun x=>Q83.eqn K x)
theorem Q84.sound (K:Nat):Sound Tryz.prog (Q84.c K) :=
  fn_sound T_S_ok ((allCons (Q68.sound K) (allCons (Q81.sound K) (allCons (Q82.sound K) (allCons (Q83.sound K) allNil))))) mixed (fn:=Tryz.f210) Tryz.func210 (by kernel_rfl) (L:=Q84.L) (fuel:=K) (by kernel_rfl) (fun x=>Q84.eqn K x)
theorem Q85.sound (K:Nat):Sound Tryz.prog (Q85.c K) :=
  fn_sound T_S_ok ((allCons (Q68.sound K) allNil)) mixed (fn:=Tryz.f211) Tryz.func211 (by kernel_rfl) (L:=Q85.L) (fuel:=K) (by kernel_rfl) (fun x=>Q85.eqn K x)
theorem Q86.sound (K:Nat):Sound Tryz.prog (Q86.c K) :=
  fn_sound T_S_ok ((allCons (Q80.sound K) (allCons (Q84.sound K) (allCons (Q85.sound K) allNil)))) mixed (fn:=Tryz.f144) Tryz.func144 (by kernel_rfl) (L:=Q86.L) (fuel:=K) (by kernel_rfl) (fun x=>Q86.eqn K x)
theorem Q87.sound (K:Nat):Sound Tryz.prog (Q87.c K) :=
  fn_sound T_S_ok ((allCons (Q78.sound K) (allCons (Q79.sound K) (allCons (Q86.sound K) allNil)))) mixed (fn:=Tryz.f53) Tryz.func53 (by kernel_rfl) (L:=Q87.L) (fuel:=K) (by kernel_rfl) (fun x=>Q87.eqn K x)
theorem Q88.sound (K:Nat):Sound Tryz.prog (Q88.c K) :=
  fn_sound T_D_ok (allNil) mixed (fn:=Tryz.f111) Tryz.func111 (by kernel_rfl) (L:=Q88.L) (fuel:=K) (by kernel_rfl) (fun x=>Q88.eqn K x)
theorem Q89.sound (K:Nat):Sound Tryz.prog (Q89.c K) :=
  fn_sound T_D_ok ((allCons (Q88.sound K) allNil)) mixed (fn:=Tryz.f116) Tryz.func116 (by kernel_rfl) (L:=Q89.L) (fuel:=K) (by kernel_rfl) (fun x=>Q89.eqn K x)
theorem Q90.sound (K:Nat):Sound Tryz.prog (Q90.c K) :=
  fn_sound T_D_ok (allNil) mixed (fn:=Tryz.f170) Tryz.func170 (by kernel_rfl) (L:=Q90.L) (fuel:=K) (by kernel_rfl) (fun x=>Q90.eqn K x)
theorem Q91.sound (K:Nat):Sound Tryz.prog (Q91.c K) :=
  fn_sound T_D_ok (allNil) mixed (fn:=Tryz.f206) Tryz.func206 (by kernel_rfl) (L:=Q91.L) (fuel:=K) (by kernel_rfl) (fun x=>Q91.eqn K x)
theorem Q92.sound (K:Nat):Sound Tryz.prog (Q92.c K) :=
  fn_sound T_D_ok ((allCons (Q91.sound K) allNil)) mixed (fn:=Tryz.f141) Tryz.func141 (by kernel_rfl) (L:=Q92.L) (fuel:=K) (by kernel_rfl) (fun x=>Q92.eqn K x)
theorem Q93.sound (K:Nat):Sound Tryz.prog (Q93.c K) :=
  fn_sound T_D_ok (allNil) mixed (fn:=Tryz.f91) Tryz.func91 (by kernel_rfl) (L:=Q93.L) (fuel:=K) (by kernel_rfl) (fun x=>Q93.eqn K x)
theorem Q94.sound (K:Nat):Sound Tryz.prog (Q94.c K) :=
  fn_sound T_D_ok ((allCons (Q93.sound K) allNil)) mixed (fn:=Tryz.f183) Tryz.func183 (by kernel_rfl) (L:=Q94.L) (fuel:=K) (by kernel_rfl) (fun x=>Q94.eqn K x)
theorem Q95.sound (K:Nat):Sound Tryz.prog (Q95.c K) :=
  fn_sound T_D_ok ((allCons (Q92.sound K) (allCons (Q94.sound K) allNil))) mixed (fn:=Tryz.f89) Tryz.func89 (by kernel_rfl) (L:=Q95.L) (fuel:=K) (by kernel_rfl) (fun x=>Q95.eqn K x)
theorem Q96.sound (K:Nat):Sound Tryz.prog (Q96.c K) :=
  fn_sound T_D_ok ((allCons (Q93.sound K) allNil)) mixed (fn:=Tryz.f90) Tryz.func90 (by kernel_rfl) (L:=Q96.L) (fuel:=K) (by kernel_rfl) (fun x=>Q96.eqn K x)
theorem Q97.sound (K:Nat):Sound Tryz.prog (Q97.c K) :=
  fn_sound T_D_ok ((allCons (Q88.sound K) (allCons (Q89.sound K) allNil))) mixed (fn:=Tryz.f112) Tryz.func112 (by kernel_rfl) (L:=Q97.L) (fuel:=K) (by kernel_rfl) (fun x=>Q97.eqn K x)
theorem Q98.sound (K:Nat):Sound Tryz.prog (Q98.c K) :=
  fn_sound T_D_ok ((allCons (Q97.sound K) allNil)) mixed (fn:=Tryz.f182) Tryz.func182 (by kernel_rfl) (L:=Q98.L) (fuel:=K) (by kernel_rfl) (fun x=>Q98.eqn K x)
theorem Q99.sound (K:Nat):Sound Tryz.prog (Q99.c K) :=
  fn_sound T_D_ok (allNil) mixed (fn:=Tryz.f293) Tryz.func293 (by kernel_rfl) (L:=Q99.L) (fuel:=K) (by kernel_rfl) (fun x=>Q99.eqn K x)
theorem Q100.sound (K:Nat):Sound Tryz.prog (Q100.c K) :=
  fn_sound T_D_ok (allNil) mixed (fn:=Tryz.f193) Tryz.func193 (by kernel_rfl) (L:=Q100.L) (fuel:=K) (by kernel_rfl) (fun x=>Q100.eqn K x)
theorem Q101.sound (K:Nat):Sound Tryz.prog (Q101.c K) :=
  fn_sound T_D_ok ((allCons (Q100.sound K) allNil)) mixed (fn:=Tryz.f123) Tryz.func123 (by kernel_rfl) (L:=Q101.L) (fuel:=K) (by kernel_rfl) (fun x=>Q101.eqn K x)
theorem Q102.sound (K:Nat):Sound Tryz.prog (Q102.c K) :=
  fn_sound T_D_ok ((allCons (Q101.sound K) allNil)) mixed (fn:=Tryz.f294) Tryz.func294 (by kernel_rfl) (L:=Q102.L) (fuel:=K) (by kernel_rfl) (fun x=>Q102.eqn K x)
theorem Q103.sound (K:Nat):Sound Tryz.prog (Q103.c K) :=
  fn_sound T_D_ok ((allCons (Q99.sound K) (allCons (Q102.sound K) allNil))) mixed (fn:=Tryz.f243) Tryz.func243 (by kernel_rfl) (L:=Q103.L) (fuel:=K) (by kernel_rfl) (fun x=>Q103.eqn K x)
theorem Q104.sound (K:Nat):Sound Tryz.prog (Q104.c K) :=
  fn_sound T_D_ok ((allCons (Q98.sound K) (allCons (Q103.sound K) allNil))) mixed (fn:=Tryz.f194) Tryz.func194 (by kernel_rfl) (L:=Q104.L) (fuel:=K) (by kernel_rfl) (fun x=>Q104.eqn K x)
theorem Q105.sound (K:Nat):Sound Tryz.prog (Q105.c K) :=
  fn_sound T_D_ok (allNil) mixed (fn:=Tryz.f290) Tryz.func290 (by kernel_rfl) (L:=Q105.L) (fuel:=K) (by kernel_rfl) (fun x=>Q105.eqn K x)
theorem Q106.sound (K:Nat):Sound Tryz.prog (Q106.c K) :=
  fn_sound T_D_ok ((allCons (Q105.sound K) allNil)) mixed (fn:=Tryz.f234) Tryz.func234 (by kernel_rfl) (L:=Q106.L) (fuel:=K) (by kernel_rfl) (fun x=>Q106.eqn K x)
theorem Q107.sound (K:Nat):Sound Tryz.prog (Q107.c K) :=
  fn_sound T_D_ok ((allCons (Q88.sound K) allNil)) mixed (fn:=Tryz.f288) Tryz.func288 (by kernel_rfl) (L:=Q107.L) (fuel:=K) (by kernel_rfl) (fun x=>Q107.eqn K x)
theorem Q108.sound (K:Nat):Sound Tryz.prog (Q108.c K) :=
  fn_sound T_D_ok (allNil) mixed (fn:=Tryz.f289) Tryz.func289 (by kernel_rfl) (L:=Q108.L) (fuel:=K) (by kernel_rfl) (fun x=>Q108.eqn K x)
theorem Q109.sound (K:Nat):Sound Tryz.prog (Q109.c K) :=
  fn_sound T_D_ok ((allCons (Q98.sound K) (allCons (Q106.sound K) (allCons (Q107.sound K) (allCons (Q108.sound K) allNil))))) mixed (fn:=Tryz.f233) Tryz.func233 (by kernel_rfl) (L:=Q109.L) (fuel:=K) (by kernel_rfl) (fun x=>Q109.eqn K x)
theorem Q110.sound (K:Nat):Sound Tryz.prog (Q110.c K) :=
  fn_sound T_D_ok (allNil) mixed (fn:=Tryz.f189) Tryz.func189 (by kernel_rfl) (L:=Q110.L) (fuel:=K) (by kernel_rfl) (fun x=>Q110.eqn K x)
theorem Q111.sound (K:Nat):Sound Tryz.prog (Q111.c K) :=
  fn_sound T_D_ok ((allCons (Q101.sound K) (allCons (Q110.sound K) allNil))) mixed (fn:=Tryz.f113) Tryz.func113 (by kernel_rfl) (L:=Q111.L) (fuel:=K) (by kernel_rfl) (fun x=>Q111.eqn K x)
theorem Q112.sound (K:Nat):Sound Tryz.prog (Q112.c K) :=
  fn_sound T_D_ok ((allCons (Q97.sound K) (allCons (Q111.sound K) allNil))) mixed (fn:=Tryz.f236) Tryz.func236 (by kernel_rfl) (L:=Q112.L) (fuel:=K) (by kernel_rfl) (fun x=>Q112.eqn K x)
theorem Q113.sound (K:Nat):Sound Tryz.prog (Q113.c K) :=
  fn_sound T_D_ok ((allCons (Q104.sound K) (allCons (Q112.sound K) allNil))) mixed (fn:=Tryz.f235) Tryz.func235 (by kernel_rfl) (L:=Q113.L) (fuel:=K) (by kernel_rfl) (fun x=>Q113.eqn K x)
theorem Q114.sound (K:Nat):Sound Tryz.prog (Q114.c K) :=
  fn_sound T_D_ok ((allCons (Q95.sound K) (allCons (Q96.sound K) (allCons (Q104.sound K) (allCons (Q109.sound K) (allCons (Q106.sound K) (allCons (Q113.sound K) allNil))))))) mixed (fn:=Tryz.f171) Tryz.func171 (by kernel_rfl) (L:=Q114.L) (fuel:=K) (by kernel_rfl) (fun x=>Q114.eqn K x)
theorem Q115.sound (K:Nat):Sound Tryz.prog (Q115.c K) :=
  fn_sound T_D_ok ((allCons (Q88.sound K) (allCons (Q104.sound K) allNil))) mixed (fn:=Tryz.f172) Tryz.func172 (by kernel_rfl) (L:=Q115.L) (fuel:=K) (by kernel_rfl) (fun x=>Q115.eqn K x)
theorem Q116.sound (K:Nat):Sound Tryz.prog (Q116.c K) :=
  fn_sound T_D_ok ((allCons (Q96.sound K) (allCons (Q93.sound K) (allCons (Q89.sound K) allNil)))) mixed (fn:=Tryz.f88) Tryz.func88 (by kernel_rfl) (L:=Q116.L) (fuel:=K) (by kernel_rfl) (fun x=>Q116.eqn K x)
theorem Q117.sound (K:Nat):Sound Tryz.prog (Q117.c K) :=
  fn_sound T_D_ok ((allCons (Q116.sound K) (allCons (Q88.sound K) allNil))) mixed (fn:=Tryz.f173) Tryz.func173 (by kernel_rfl) (L:=Q117.L) (fuel:=K) (by kernel_rfl) (fun x=>Q117.eqn K x)
theorem Q118.sound (K:Nat):Sound Tryz.prog (Q118.c K) :=
  fn_sound T_D_ok ((allCons (Q88.sound K) allNil)) mixed (fn:=Tryz.f174) Tryz.func174 (by kernel_rfl) (L:=Q118.L) (fuel:=K) (by kernel_rfl) (fun x=>Q118.eqn K x)
theorem Q119.sound (K:Nat):Sound Tryz.prog (Q119.c K) :=
  fn_sound T_D_ok ((allCons (Q116.sound K) allNil)) mixed (fn:=Tryz.f199) Tryz.func199 (by kernel_rfl) (L:=Q119.L) (fuel:=K) (by kernel_rfl) (fun x=>Q119.eqn K x)
theorem Q120.sound (K:Nat):Sound Tryz.prog (Q120.c K) :=
  fn_sound T_D_ok ((allCons (Q88.sound K) allNil)) mixed (fn:=Tryz.f237) Tryz.func237 (by kernel_rfl) (L:=Q120.L) (fuel:=K) (by kernel_rfl) (fun x=>Q120.eqn K x)
theorem Q121.sound (K:Nat):Sound Tryz.prog (Q121.c K) :=
  fn_sound T_D_ok (allNil) mixed (fn:=Tryz.f291) Tryz.func291 (by kernel_rfl) (L:=Q121.L) (fuel:=K) (by kernel_rfl) (fun x=>Q121.eqn K x)
theorem Q122.sound (K:Nat):Sound Tryz.prog (Q122.c K) :=
  fn_sound T_D_ok ((allCons (Q121.sound K) allNil)) mixed (fn:=Tryz.f238) Tryz.func238 (by kernel_rfl) (L:=Q122.L) (fuel:=K) (by kernel_rfl) (fun x=>Q122.eqn K x)
theorem Q123.sound (K:Nat):Sound Tryz.prog (Q123.c K) :=
  fn_sound T_D_ok ((allCons (Q88.sound K) (allCons (Q118.sound K) (allCons (Q119.sound K) (allCons (Q120.sound K) (allCons (Q122.sound K) allNil)))))) mixed (fn:=Tryz.f175) Tryz.func175 (by kernel_rfl) (L:=Q123.L) (fuel:=K) (by kernel_rfl) (fun x=>Q123.eqn K x)
theorem Q124.sound (K:Nat):Sound Tryz.prog (Q124.c K) :=
  fn_sound T_D_ok ((allCons (Q95.sound K) (allCons (Q96.sound K) (allCons (Q93.sound K) (allCons (Q88.sound K) (allCons (Q98.sound K) allNil)))))) mixed (fn:=Tryz.f176) Tryz.func176 (by kernel_rfl) (L:=Q124.L) (fuel:=K) (by kernel_rfl) (fun x=>Q124.eqn K x)
theorem Q125.sound (K:Nat):Sound Tryz.prog (Q125.c K) :=
  fn_sound T_D_ok ((allCons (Q88.sound K) (allCons (Q89.sound K) (allCons (Q90.sound K) (allCons (Q114.sound K) (allCons (Q115.sound K) (allCons (Q117.sound K) (allCons (Q118.sound K) (allCons (Q123.sound K) (allCons (Q124.sound K) allNil)))))))))) mixed (fn:=Tryz.f76) Tryz.func76 (by kernel_rfl) (L:=Q125.L) (fuel:=K) (by kernel_rfl) (fun x=>Q125.eqn K x)
theorem Q126.sound (K:Nat):Sound Tryz.prog (Q126.c K) :=
  fn_sound T_D_ok (allNil) mixed (fn:=Tryz.f87) Tryz.func87 (by kernel_rfl) (L:=Q126.L) (fuel:=K) (by kernel_rfl) (fun x=>Q126.eqn K x)
theorem Q127.sound (K:Nat):Sound Tryz.prog (Q127.c K) :=
  fn_sound T_D_ok (allNil) mixed (fn:=Tryz.f184) Tryz.func184 (by kernel_rfl) (L:=Q127.L) (fuel:=K) (by kernel_rfl) (fun x=>Q127.eqn K x)
theorem Q128.sound (K:Nat):Sound Tryz.prog (Q128.c K) :=
  fn_sound T_D_ok (allNil) mixed (fn:=Tryz.f245) Tryz.func245 (by kernel_rfl) (L:=Q128.L) (fuel:=K) (by kernel_rfl) (fun x=>Q128.eqn K x)
theorem Q129.sound (K:Nat):Sound Tryz.prog (Q129.c K) :=
  fn_sound T_D_ok ((allCons (Q0.sound K) (allCons (Q128.sound K) allNil))) mixed (fn:=Tryz.f200) Tryz.func200 (by kernel_rfl) (L:=Q129.L) (fuel:=K) (by kernel_rfl) (fun x=>Q129.eqn K x)
theorem Q130.sound (K:Nat):Sound Tryz.prog (Q130.c K) :=
  fn_sound T_D_ok ((allCons (Q111.sound K) (allCons (Q0.sound K) (allCons (Q103.sound K) (allCons (Q1.sound K) allNil))))) mixed (fn:=Tryz.f251) Tryz.func251 (by kernel_rfl) (L:=Q130.L) (fuel:=K) (by kernel_rfl) (fun x=>Q130.eqn K x)
theorem Q131.sound (K:Nat):Sound Tryz.prog (Q131.c K) :=
  fn_sound T_D_ok ((allCons (Q97.sound K) (allCons (Q111.sound K) (allCons (Q109.sound K) (allCons (Q103.sound K) (allCons (Q2.sound K) (allCons (Q108.sound K) (allCons (Q3.sound K) allNil)))))))) mixed (fn:=Tryz.f252) Tryz.func252 (by kernel_rfl) (L:=Q131.L) (fuel:=K) (by kernel_rfl) (fun x=>Q131.eqn K x)
theorem Q132.sound (K:Nat):Sound Tryz.prog (Q132.c K) :=
  fn_sound T_D_ok (allNil) mixed (fn:=Tryz.f307) Tryz.func307 (by kernel_rfl) (L:=Q132.L) (fuel:=K) (by kernel_rfl) (fun x=>Q132.eqn K x)
theorem Q133.sound (K:Nat):Sound Tryz.prog (Q133.c K) :=
  fn_sound T_D_ok (allNil) mixed (fn:=Tryz.f254) Tryz.func254 (by kernel_rfl) (L:=Q133.L) (fuel:=K) (by kernel_rfl) (fun x=>Q133.eqn K x)
theorem Q134.sound (K:Nat):Sound Tryz.prog (Q134.c K) :=
  fn_sound T_D_ok (allNil) mixed (fn:=Tryz.f255) Tryz.func255 (by kernel_rfl) (L:=Q134.L) (fuel:=K) (by kernel_rfl) (fun x=>Q134.eqn K x)
theorem Q135.sound (K:Nat):Sound Tryz.prog (Q135.c K) :=
  fn_sound T_D_ok (allNil) mixed (fn:=Tryz.f256) Tryz.func256 (by kernel_rfl) (L:=Q135.L) (fuel:=K) (by kernel_rfl) (fun x=>Q135.eqn K x)
theorem Q4.says (K:Nat) (hK:1048577<K) (xs:List (Ty.den t15)) (φ:Tup [t15]→Option Bool) (ht:xs.length≤1048576) (hφ:∀ x∈xs,∃ b,φ (x,())=some b):IdxSays xs φ (Q132.f K (xs,φ,())):=by
  have:=iter_first (step:=fun rec a=>Q132.l0.step K (xs,φ,()) rec a) xs.length (fun i=>(i:Int)) (fun j=>∃ h:j<xs.length,φ (xs[j],())=some true) (some ((-1,()),())) (fun j=>some ((((j:Nat):Int),()),())) ?_ ?_ xs.length K 0 (by omega) (by omega)
  · rcases this with ⟨h1,h2⟩ | ⟨j,_,h1,⟨h3,h4⟩,h5,h2⟩
    · refine .inl ⟨fun x hx=>?_,(),h2⟩
      obtain ⟨i,hi,rfl⟩:=List.getElem_of_mem hx
      obtain ⟨b,hb⟩:=hφ _ (List.getElem_mem hi)
      cases b with
      | false=>exact hb
      | true=>exact absurd ⟨hi,hb⟩ (h1 i (Nat.zero_le _) hi)
    · refine .inr ⟨j,xs[j],(),List.getElem?_eq_getElem h3,h4,fun m y hm hy=>?_,h2⟩
      obtain ⟨hml,rfl⟩:=List.getElem?_eq_some_iff.1 hy
      obtain ⟨b,hb⟩:=hφ _ (List.getElem_mem hml)
      cases b with
      | false=>exact hb
      | true=>exact absurd ⟨hml,hb⟩ (h5 m (Nat.zero_le _) hm)
  · intro rec i hi
    simp only [Q132.l0.step]
    rw [decide_eq_true (by omega:(i:Int)<(List.length xs:Int)),idx_get hi,wr_succ i (by omega)]
    simp only [cond_true,Option.bind_some]
    obtain ⟨b,hb⟩:=hφ _ (List.getElem_mem hi)
    rw [hb]
    cases b with
    | true=>exact .inr ⟨⟨hi,hb⟩,rfl⟩
    | false=>exact .inl ⟨fun ⟨_,h⟩=>(by rw [hb] at h; cases h),rfl⟩
  · intro rec
    simp only [Q132.l0.step]
    rw [decide_eq_false (by omega:¬ ((xs.length:Int)<(List.length xs:Int)))]
    rfl
theorem Q4.sound (K:Nat):Sound Tryz.prog (Q4.c K):=delete_sound (e:=t6) (e':=t15) (cv:=fun x=>x) (fun _=>HEq.rfl) (by kernel_rfl) (enter_ok Tryz.func253 (by kernel_rfl) rfl) (by kernel_rfl) (by kernel_rfl) (Q132.sound 1048578) (fun xs φ h1 h2=>Q4.says 1048578 (by omega) xs φ h1 h2) Q4.walk
theorem Q136.sound (K:Nat):Sound Tryz.prog (Q136.c K) :=
  fn_sound T_D_ok ((allCons (Q104.sound K) (allCons (Q130.sound K) (allCons (Q131.sound K) (allCons (Q4.sound K) (allCons (Q133.sound K) (allCons (Q134.sound K) (allCons (Q135.sound K) (allCons (Q5.sound K) allNil))))))))) mixed (fn:=Tryz.f212) Tryz.func212 (by kernel_rfl) (L:=Q136.L) (fuel:=K) (by kernel_rfl) (fun x=>Q136.eqn K x)
theorem Q137.sound (K:Nat):Sound Tryz.prog (Q137.c K) :=
  fn_sound T_D_ok ((allCons (Q104.sound K) allNil)) mixed (fn:=Tryz.f124) Tryz.func124 (by kernel_rfl) (L:=Q137.L) (fuel:=K) (by kernel_rfl) (fun x=>Q137.eqn K x)
theorem Q138.sound (K:Nat):Sound Tryz.prog (Q138.c K) :=
  fn_sound T_D_ok ((allCons (Q88.sound K) (allCons (Q137.sound K) allNil))) mixed (fn:=Tryz.f214) Tryz.func214 (by kernel_rfl) (L:=Q138.L) (fuel:=K) (by kernel_rfl) (fun x=>Q138.eqn K x)
theorem Q139.sound (K:Nat):Sound Tryz.prog (Q139.c K) :=
  fn_sound T_D_ok ((allCons (Q138.sound K) allNil)) mixed (fn:=Tryz.f213) Tryz.func213 (by kernel_rfl) (L:=Q139.L) (fuel:=K) (by kernel_rfl) (fun x=>Q139.eqn K x)
theorem Q140.sound (K:Nat):Sound Tryz.prog (Q140.c K) :=
  fn_sound T_D_ok ((allCons (Q126.sound K) (allCons (Q127.sound K) (allCons (Q129.sound K) (allCons (Q136.sound K) (allCons (Q139.sound K) allNil)))))) mixed (fn:=Tryz.f145) Tryz.func145 (by kernel_rfl) (L:=Q140.L) (fuel:=K) (by kernel_rfl) (fun x=>Q140.eqn K x)
theorem Q141.sound (K:Nat):Sound Tryz.prog (Q141.c K) :=
  fn_sound T_D_ok ((allCons (Q6.sound K) (allCons (Q0.sound K) (allCons (Q2.sound K) allNil)))) mixed (fn:=Tryz.f197) Tryz.func197 (by kernel_rfl) (L:=Q141.L) (fuel:=K) (by kernel_rfl) (fun x=>Q141.eqn K x)
theorem Q142.sound (K:Nat):Sound Tryz.prog (Q142.c K) :=
  fn_sound T_D_ok (allNil) mixed (fn:=Tryz.f198) Tryz.func198 (by kernel_rfl) (L:=Q142.L) (fuel:=K) (by kernel_rfl) (fun x=>Q142.eqn K x)
theorem Q143.sound (K:Nat):Sound Tryz.prog (Q143.c K) :=
  fn_sound T_D_ok ((allCons (Q125.sound K) (allCons (Q140.sound K) (allCons (Q141.sound K) (allCons (Q142.sound K) allNil))))) mixed (fn:=Tryz.f128) Tryz.func128 (by kernel_rfl) (L:=Q143.L) (fuel:=K) (by kernel_rfl) (fun x=>Q143.eqn K x)
theorem Q144.sound (K:Nat):Sound Tryz.prog (Q144.c K) :=
  fn_sound T_D_ok ((allCons (Q143.sound K) allNil)) mixed (fn:=Tryz.f54) Tryz.func54 (by kernel_rfl) (L:=Q144.L) (fuel:=K) (by kernel_rfl) (fun x=>Q144.eqn K x)
theorem Q145.sound (K:Nat):Sound Tryz.prog (Q145.c K) :=
  fn_sound T_D_ok ((allCons (Q16.sound K) (allCons (Q30.sound K) (allCons (Q44.sound K) (allCons (Q51.sound K) (allCons (Q53.sound K) (allCons (Q54.sound K) (allCons (Q61.sound K) (allCons (Q62.sound K) (allCons (Q87.sound K) (allCons (Q144.sound K) allNil))))))))))) mixed (fn:=Tryz.f12) Tryz.func12 (by kernel_rfl) (L:=Q145.L) (fuel:=K) (by kernel_rfl) (fun x=>Q145.eqn K x)
end Go.Proofs.YthgnfidnmnkeaaaGreatEv
