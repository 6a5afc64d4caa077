import Derived.Test.YtdjmnbdicpgmiaaProg
import Derived.Test.YtdjmnbdicpgmiaaEv0
set_option linter.unusedVariables false
set_option maxRecDepth 100000
namespace Go.Proofs.YtdjmnbdicpgmiaaEv
open Go Go.Proofs
noncomputable section
@[reducible] def t0 : Ty := .pair (.int .i64) .bool
@[reducible] def t1 : Ty := .pair (.int .i64) t0
@[reducible] def t2 : Ty := .pair (.int .i64) t1
@[reducible] def t3 : Ty := .pair t2 (.int .i64)
@[reducible] def t4 : Ty := .pair (.list 5 (.int .u8)) (.int .i64)
def Tl : List (TypeId × TI) := [(3, .int .i64), (4, .bool), (5, .int .u8), (22, .slice 49 t2 32), (25, .slice 39 t2 32), (29, .slice 41 t3 40), (34, .slice 5 (.int .u8) 1), (39, .struct t2 [(0, 1, false), (1, 1, false), (2, 1, false), (3, 1, false)]), (41, .struct t3 [(0, 4, true), (4, 1, false)]), (49, .struct t2 [(0, 1, false), (1, 1, false), (2, 1, false), (3, 1, false)]), (50, .slice 3 (.int .i64) 8), (52, .fn), (56, .ptr), (65, .struct t4 [(0, 1, false), (1, 1, false)]), (72, .fn), (76, .int .u64)]
def T (t : TypeId) : TI := tlook Tl t
/-! ### laws.szFactS -/
namespace laws_szFactS
@[reducible] def ps : List PK := [.rd (.list 49 t2), .rd (.int .i64)]
@[reducible] def rs : List RK := [.v false (.int .i64)]
abbrev Res := Ress rs × Outs ps
noncomputable def pre (K : Nat) (x : Args ps) : Option Res := bif decide ((wr .i64 (x.2.1 - (List.length x.1 : Int))) < 0) then (some (((-1), ()), ())) else (some ((wr .i64 (x.2.1 - (List.length x.1 : Int)), ()), ()))
noncomputable def f (K : Nat) (x : Args ps) : Option Res := pre K x
noncomputable def c (K : Nat) : Ctr := ⟨6, ps, rs, true, f K⟩
noncomputable def G (K : Nat) : List Ctr := []
noncomputable def L : List (Nat × List (Nat × List Coe)) := []
noncomputable def body : Code := bodyOf Try.f6
noncomputable abbrev ev (K : Nat) : Code → St → (Ex → St → Option Res) → Option Res := evK (G K) T L K
noncomputable abbrev fin : Ex → St → Option Res := finK T ps rs true Try.f6.results.toList
theorem eqn (K : Nat) (x : Args ps) : evF (G K) T L K Try.f6 ps rs true x = f K x := by kernel_rfl
end laws_szFactS
/-! ### laws.toFact -/
namespace laws_toFact
@[reducible] def ps : List PK := [.rd t2]
@[reducible] def rs : List RK := [.v false t2]
abbrev Res := Ress rs × Outs ps
noncomputable def pre (K : Nat) (x : Args ps) : Option Res := some ((x.1, ()), ())
noncomputable def f (K : Nat) (x : Args ps) : Option Res := pre K x
noncomputable def c (K : Nat) : Ctr := ⟨24, ps, rs, true, f K⟩
noncomputable def G (K : Nat) : List Ctr := []
noncomputable def L : List (Nat × List (Nat × List Coe)) := []
noncomputable def body : Code := bodyOf Try.f24
noncomputable abbrev ev (K : Nat) : Code → St → (Ex → St → Option Res) → Option Res := evK (G K) T L K
noncomputable abbrev fin : Ex → St → Option Res := finK T ps rs true Try.f24.results.toList
theorem eqn (K : Nat) (x : Args ps) : evF (G K) T L K Try.f24 ps rs true x = f K x := by kernel_rfl
end laws_toFact
/-! ### laws.toFactS -/
namespace laws_toFactS
@[reducible] def ps : List PK := [.rd (.list 49 t2)]
@[reducible] def rs : List RK := [.v true (.list 39 t2)]
abbrev Res := Ress rs × Outs ps
abbrev A_l0 := List (Ty.den t2) × List (Ty.den t2) × Int
noncomputable def l0.step (K : Nat) (rec_l0 : A_l0 → Option Res) (a : A_l0) : Option Res := bif decide (a.2.2 < (List.length a.1 : Int)) then ((idx a.1 a.2.2).bind fun y1 => (laws_toFact.f K (y1, ())).bind fun y2 => (idx a.2.1 a.2.2).bind fun _ => (idx a.2.1 (Int.toNat a.2.2 : Nat)).bind fun y4 => rec_l0 (a.1, a.2.1.set (Int.toNat a.2.2) y2.1.1, wr .i64 (a.2.2 + 1))) else (some ((a.2.1, ()), ()))
noncomputable def l0 (K : Nat) : A_l0 → Option Res := iterate (fun rec_l0 a => l0.step K rec_l0 a) K
noncomputable def pre (K : Nat) (N_l0 : A_l0 → Option Res) (x : Args ps) : Option Res := bif decide (0 ≤ (List.length x.1 : Int)) && decide ((List.length x.1 : Int) = (List.length x.1 : Int)) && decide ((List.length x.1 : Int) * (32 : Nat) ≤ sizeK) then (N_l0 (x.1, List.replicate (Int.toNat (List.length x.1 : Int)) (0, (0, (0, false))), 0)) else none
noncomputable def f (K : Nat) (x : Args ps) : Option Res := pre K (l0 K) x
noncomputable def c (K : Nat) : Ctr := ⟨8, ps, rs, true, f K⟩
noncomputable def G (K : Nat) : List Ctr := [laws_toFact.c K]
noncomputable def live_l0 : List (Nat × List Coe) := [(0, [.ro true 49 t2]), (2, [.keep]), (3, [.own false 39 t2]), (4, [.keep])]
noncomputable def L : List (Nat × List (Nat × List Coe)) := [(4, live_l0)]
noncomputable def body : Code := bodyOf Try.f8
noncomputable abbrev ev (K : Nat) : Code → St → (Ex → St → Option Res) → Option Res := evK (G K) T L K
noncomputable abbrev fin : Ex → St → Option Res := finK T ps rs true Try.f8.results.toList
noncomputable def S_l0 (a : A_l0) : St := mkSt [(0, ⟨0, .one, [.ro true 49 t2 a.1]⟩), (2, ⟨0, .one, [.nil]⟩), (3, ⟨0, .one, [.own false 39 t2 a.2.1]⟩), (4, ⟨0, .one, [.int .i64 a.2.2]⟩)]
noncomputable def k_l0 (K : Nat) : Ex → St → Option Res := kAt (ev K) body [1, 1, 0, 1, 0] fin
noncomputable def N_l0 (K : Nat) : A_l0 → Option Res := fun a => evLoop live_l0 (ev K (sub body [1, 1, 0, 1, 0, 0])) K (S_l0 a) (k_l0 K)
theorem h_l0 (K : Nat) (r_l0 : St → Option Res) (a : A_l0) : ev K (sub body [1, 1, 0, 1, 0, 0]) (S_l0 a) (kLoop live_l0 r_l0 (k_l0 K)) = l0.step K (fun a => r_l0 (S_l0 a)) a := by kernel_rfl
theorem ok_l0 (K : Nat) : N_l0 K = l0 K := funext fun a => evLoop_iter live_l0 (ev K (sub body [1, 1, 0, 1, 0, 0])) (k_l0 K) S_l0 (fun rec a => l0.step K rec a) (fun r_l0 a => (h_l0 K r_l0 a)) K a
theorem eqn (K : Nat) (x : Args ps) : evF (G K) T L K Try.f8 ps rs true x = f K x := (show evF (G K) T L K Try.f8 ps rs true x = pre K (N_l0 K) x by kernel_rfl).trans (by rw [ok_l0 K]; rfl)
end laws_toFactS
/-! ### spec.l1In -/
namespace spec_l1In
@[reducible] def ps : List PK := [.rd (.int .i64), .rd (.int .i64), .rd (.int .i64)]
@[reducible] def rs : List RK := [.v false .bool]
abbrev Res := Ress rs × Outs ps
noncomputable def pre (K : Nat) (x : Args ps) : Option Res := bif decide (x.1 ≥ x.2.1) then (some ((decide (x.1 ≤ x.2.2.1), ()), ())) else (some ((false, ()), ()))
noncomputable def f (K : Nat) (x : Args ps) : Option Res := pre K x
noncomputable def c (K : Nat) : Ctr := ⟨46, ps, rs, true, f K⟩
noncomputable def G (K : Nat) : List Ctr := []
noncomputable def L : List (Nat × List (Nat × List Coe)) := []
noncomputable def body : Code := bodyOf Try.f46
noncomputable abbrev ev (K : Nat) : Code → St → (Ex → St → Option Res) → Option Res := evK (G K) T L K
noncomputable abbrev fin : Ex → St → Option Res := finK T ps rs true Try.f46.results.toList
theorem eqn (K : Nat) (x : Args ps) : evF (G K) T L K Try.f46 ps rs true x = f K x := by kernel_rfl
end spec_l1In
/-! ### spec.FactOk -/
namespace spec_FactOk
@[reducible] def ps : List PK := [.rd t2]
@[reducible] def rs : List RK := [.v false .bool]
abbrev Res := Ress rs × Outs ps
noncomputable def pre (K : Nat) (x : Args ps) : Option Res := (spec_l1In.f K (x.1.1, 0, 7, ())).bind fun y1 => bif y1.1.1 then ((spec_l1In.f K (x.1.2.1, 0, 999, ())).bind fun y2 => bif y2.1.1 then ((spec_l1In.f K (x.1.2.2.1, 1, 4, ())).bind fun y3 => some ((y3.1.1, ()), ())) else (some ((false, ()), ()))) else (some ((false, ()), ()))
noncomputable def f (K : Nat) (x : Args ps) : Option Res := pre K x
noncomputable def c (K : Nat) : Ctr := ⟨36, ps, rs, true, f K⟩
noncomputable def G (K : Nat) : List Ctr := [spec_l1In.c K]
noncomputable def L : List (Nat × List (Nat × List Coe)) := []
noncomputable def body : Code := bodyOf Try.f36
noncomputable abbrev ev (K : Nat) : Code → St → (Ex → St → Option Res) → Option Res := evK (G K) T L K
noncomputable abbrev fin : Ex → St → Option Res := finK T ps rs true Try.f36.results.toList
theorem eqn (K : Nat) (x : Args ps) : evF (G K) T L K Try.f36 ps rs true x = f K x := by kernel_rfl
end spec_FactOk
/-! ### spec.TableOk -/
namespace spec_TableOk
@[reducible] def ps : List PK := [.rd (.list 39 t2)]
@[reducible] def rs : List RK := [.v false .bool]
abbrev Res := Ress rs × Outs ps
abbrev A_l0 := List (Ty.den t2) × Bool × Int
noncomputable def l0.step (K : Nat) (rec_l0 : A_l0 → Option Res) (a : A_l0) : Option Res := bif decide (a.2.2 < (List.length a.1 : Int)) then ((idx a.1 a.2.2).bind fun y1 => (spec_FactOk.f K (y1, ())).bind fun y2 => bif !y2.1.1 then (some ((false, ()), ())) else (bif decide (a.2.2 > 0) then ((idx a.1 (wr .i64 (a.2.2 - 1))).bind fun y3 => (idx a.1 a.2.2).bind fun y4 => bif decide (y3.1 ≥ y4.1) then (some ((false, ()), ())) else (rec_l0 (a.1, a.2.1, wr .i64 (a.2.2 + 1)))) else (rec_l0 (a.1, a.2.1, wr .i64 (a.2.2 + 1))))) else (some ((true, ()), ()))
noncomputable def l0 (K : Nat) : A_l0 → Option Res := iterate (fun rec_l0 a => l0.step K rec_l0 a) K
noncomputable def pre (K : Nat) (N_l0 : A_l0 → Option Res) (x : Args ps) : Option Res := N_l0 (x.1, false, 0)
noncomputable def f (K : Nat) (x : Args ps) : Option Res := pre K (l0 K) x
noncomputable def c (K : Nat) : Ctr := ⟨19, ps, rs, true, f K⟩
noncomputable def G (K : Nat) : List Ctr := [spec_FactOk.c K]
noncomputable def live_l0 : List (Nat × List Coe) := [(0, [.ro true 39 t2]), (2, [.keep]), (3, [.keep])]
noncomputable def L : List (Nat × List (Nat × List Coe)) := [(3, live_l0)]
noncomputable def body : Code := bodyOf Try.f19
noncomputable abbrev ev (K : Nat) : Code → St → (Ex → St → Option Res) → Option Res := evK (G K) T L K
noncomputable abbrev fin : Ex → St → Option Res := finK T ps rs true Try.f19.results.toList
noncomputable def S_l0 (a : A_l0) : St := mkSt [(0, ⟨0, .one, [.ro true 39 t2 a.1]⟩), (2, ⟨0, .one, [.bool a.2.1]⟩), (3, ⟨0, .one, [.int .i64 a.2.2]⟩)]
noncomputable def k_l0 (K : Nat) : Ex → St → Option Res := kAt (ev K) body [1, 0, 1, 0] fin
noncomputable def N_l0 (K : Nat) : A_l0 → Option Res := fun a => evLoop live_l0 (ev K (sub body [1, 0, 1, 0, 0])) K (S_l0 a) (k_l0 K)
theorem h_l0 (K : Nat) (r_l0 : St → Option Res) (a : A_l0) : ev K (sub body [1, 0, 1, 0, 0]) (S_l0 a) (kLoop live_l0 r_l0 (k_l0 K)) = l0.step K (fun a => r_l0 (S_l0 a)) a := by kernel_rfl
theorem ok_l0 (K : Nat) : N_l0 K = l0 K := funext fun a => evLoop_iter live_l0 (ev K (sub body [1, 0, 1, 0, 0])) (k_l0 K) S_l0 (fun rec a => l0.step K rec a) (fun r_l0 a => (h_l0 K r_l0 a)) K a
theorem eqn (K : Nat) (x : Args ps) : evF (G K) T L K Try.f19 ps rs true x = f K x := (show evF (G K) T L K Try.f19 ps rs true x = pre K (N_l0 K) x by kernel_rfl).trans (by rw [ok_l0 K]; rfl)
end spec_TableOk
/-! ### spec.ViewCount -/
namespace spec_ViewCount
@[reducible] def ps : List PK := [.rd (.list 39 t2), .rd (.int .i64)]
@[reducible] def rs : List RK := [.v false (.int .i64)]
abbrev Res := Ress rs × Outs ps
abbrev A_l0 := List (Ty.den t2) × Int × Int × Int × Int
noncomputable def l0.step (K : Nat) (rec_l0 : A_l0 → Option Res) (a : A_l0) : Option Res := bif decide (a.2.2.2.2 < (List.length a.1 : Int)) then ((idx a.1 a.2.2.2.2).bind fun y2 => bif y2.2.2.1 == a.2.1 then (rec_l0 (a.1, a.2.1, a.2.2.1, wr .i64 (a.2.2.2.1 + 1), wr .i64 (a.2.2.2.2 + 1))) else (rec_l0 (a.1, a.2.1, a.2.2.1, a.2.2.2.1, wr .i64 (a.2.2.2.2 + 1)))) else (some ((a.2.2.2.1, ()), ()))
noncomputable def l0 (K : Nat) : A_l0 → Option Res := iterate (fun rec_l0 a => l0.step K rec_l0 a) K
noncomputable def pre (K : Nat) (N_l0 : A_l0 → Option Res) (x : Args ps) : Option Res := (spec_TableOk.f K (x.1, ())).bind fun y1 => bif !y1.1.1 then (some ((0, ()), ())) else (N_l0 (x.1, x.2.1, 0, 0, 0))
noncomputable def f (K : Nat) (x : Args ps) : Option Res := pre K (l0 K) x
noncomputable def c (K : Nat) : Ctr := ⟨7, ps, rs, true, f K⟩
noncomputable def G (K : Nat) : List Ctr := [spec_TableOk.c K]
noncomputable def live_l0 : List (Nat × List Coe) := [(0, [.ro true 39 t2]), (1, [.keep]), (4, [.keep]), (5, [.keep]), (6, [.keep])]
noncomputable def L : List (Nat × List (Nat × List Coe)) := [(6, live_l0)]
noncomputable def body : Code := bodyOf Try.f7
noncomputable abbrev ev (K : Nat) : Code → St → (Ex → St → Option Res) → Option Res := evK (G K) T L K
noncomputable abbrev fin : Ex → St → Option Res := finK T ps rs true Try.f7.results.toList
noncomputable def S_l0 (a : A_l0) : St := mkSt [(0, ⟨0, .one, [.ro true 39 t2 a.1]⟩), (1, ⟨0, .one, [.int .i64 a.2.1]⟩), (4, ⟨0, .one, [.int .i64 a.2.2.1]⟩), (5, ⟨0, .one, [.int .i64 a.2.2.2.1]⟩), (6, ⟨0, .one, [.int .i64 a.2.2.2.2]⟩)]
noncomputable def k_l0 (K : Nat) : Ex → St → Option Res := kAt (ev K) body [1, 1, 1, 0, 1, 0] fin
noncomputable def N_l0 (K : Nat) : A_l0 → Option Res := fun a => evLoop live_l0 (ev K (sub body [1, 1, 1, 0, 1, 0, 0])) K (S_l0 a) (k_l0 K)
theorem h_l0 (K : Nat) (r_l0 : St → Option Res) (a : A_l0) : ev K (sub body [1, 1, 1, 0, 1, 0, 0]) (S_l0 a) (kLoop live_l0 r_l0 (k_l0 K)) = l0.step K (fun a => r_l0 (S_l0 a)) a := by kernel_rfl
theorem ok_l0 (K : Nat) : N_l0 K = l0 K := funext fun a => evLoop_iter live_l0 (ev K (sub body [1, 1, 1, 0, 1, 0, 0])) (k_l0 K) S_l0 (fun rec a => l0.step K rec a) (fun r_l0 a => (h_l0 K r_l0 a)) K a
theorem eqn (K : Nat) (x : Args ps) : evF (G K) T L K Try.f7 ps rs true x = f K x := (show evF (G K) T L K Try.f7 ps rs true x = pre K (N_l0 K) x by kernel_rfl).trans (by rw [ok_l0 K]; rfl)
end spec_ViewCount
/-! ### impl.in -/
namespace impl_in
@[reducible] def ps : List PK := [.rd (.int .i64), .rd (.int .i64), .rd (.int .i64)]
@[reducible] def rs : List RK := [.v false .bool]
abbrev Res := Ress rs × Outs ps
noncomputable def pre (K : Nat) (x : Args ps) : Option Res := bif decide (x.1 ≥ x.2.1) then (some ((decide (x.1 ≤ x.2.2.1), ()), ())) else (some ((false, ()), ()))
noncomputable def f (K : Nat) (x : Args ps) : Option Res := pre K x
noncomputable def c (K : Nat) : Ctr := ⟨45, ps, rs, true, f K⟩
noncomputable def G (K : Nat) : List Ctr := []
noncomputable def L : List (Nat × List (Nat × List Coe)) := []
noncomputable def body : Code := bodyOf Try.f45
noncomputable abbrev ev (K : Nat) : Code → St → (Ex → St → Option Res) → Option Res := evK (G K) T L K
noncomputable abbrev fin : Ex → St → Option Res := finK T ps rs true Try.f45.results.toList
theorem eqn (K : Nat) (x : Args ps) : evF (G K) T L K Try.f45 ps rs true x = f K x := by kernel_rfl
end impl_in
/-! ### impl.isNode -/
namespace impl_isNode
@[reducible] def ps : List PK := [.rd (.int .i64)]
@[reducible] def rs : List RK := [.v false .bool]
abbrev Res := Ress rs × Outs ps
noncomputable def pre (K : Nat) (x : Args ps) : Option Res := (impl_in.f K (x.1, 0, 7, ())).bind fun y1 => some ((y1.1.1, ()), ())
noncomputable def f (K : Nat) (x : Args ps) : Option Res := pre K x
noncomputable def c (K : Nat) : Ctr := ⟨44, ps, rs, true, f K⟩
noncomputable def G (K : Nat) : List Ctr := [impl_in.c K]
noncomputable def L : List (Nat × List (Nat × List Coe)) := []
noncomputable def body : Code := bodyOf Try.f44
noncomputable abbrev ev (K : Nat) : Code → St → (Ex → St → Option Res) → Option Res := evK (G K) T L K
noncomputable abbrev fin : Ex → St → Option Res := finK T ps rs true Try.f44.results.toList
theorem eqn (K : Nat) (x : Args ps) : evF (G K) T L K Try.f44 ps rs true x = f K x := by kernel_rfl
end impl_isNode
/-! ### impl.FactOk -/
namespace impl_FactOk
@[reducible] def ps : List PK := [.rd t2]
@[reducible] def rs : List RK := [.v false .bool]
abbrev Res := Ress rs × Outs ps
noncomputable def pre (K : Nat) (x : Args ps) : Option Res := (impl_isNode.f K (x.1.1, ())).bind fun y1 => bif y1.1.1 then ((impl_in.f K (x.1.2.1, 0, 999, ())).bind fun y2 => bif y2.1.1 then ((impl_in.f K (x.1.2.2.1, 1, 4, ())).bind fun y3 => some ((y3.1.1, ()), ())) else (some ((false, ()), ()))) else (some ((false, ()), ()))
noncomputable def f (K : Nat) (x : Args ps) : Option Res := pre K x
noncomputable def c (K : Nat) : Ctr := ⟨35, ps, rs, true, f K⟩
noncomputable def G (K : Nat) : List Ctr := [impl_isNode.c K, impl_in.c K]
noncomputable def L : List (Nat × List (Nat × List Coe)) := []
noncomputable def body : Code := bodyOf Try.f35
noncomputable abbrev ev (K : Nat) : Code → St → (Ex → St → Option Res) → Option Res := evK (G K) T L K
noncomputable abbrev fin : Ex → St → Option Res := finK T ps rs true Try.f35.results.toList
theorem eqn (K : Nat) (x : Args ps) : evF (G K) T L K Try.f35 ps rs true x = f K x := by kernel_rfl
end impl_FactOk
/-! ### impl.TableOk -/
namespace impl_TableOk
@[reducible] def ps : List PK := [.rd (.list 39 t2)]
@[reducible] def rs : List RK := [.v false .bool]
abbrev Res := Ress rs × Outs ps
abbrev A_l0 := List (Ty.den t2) × Bool × List (Ty.den t2) × Int × Int
noncomputable def l0.step (K : Nat) (rec_l0 : A_l0 → Option Res) (a : A_l0) : Option Res := bif decide (a.2.2.2.2 < a.2.2.2.1) then ((idx a.2.2.1 a.2.2.2.2).bind fun y1 => (impl_FactOk.f K (y1, ())).bind fun y2 => bif !y2.1.1 then (some ((false, ()), ())) else (bif decide (a.2.2.2.2 > 0) then ((idx a.1 (wr .i64 (a.2.2.2.2 - 1))).bind fun y3 => bif decide (y1.1 ≤ y3.1) then (some ((false, ()), ())) else (rec_l0 (a.1, a.2.1, a.2.2.1, a.2.2.2.1, wr .i64 (a.2.2.2.2 + 1)))) else (rec_l0 (a.1, a.2.1, a.2.2.1, a.2.2.2.1, wr .i64 (a.2.2.2.2 + 1))))) else (some ((true, ()), ()))
noncomputable def l0 (K : Nat) : A_l0 → Option Res := iterate (fun rec_l0 a => l0.step K rec_l0 a) K
noncomputable def pre (K : Nat) (N_l0 : A_l0 → Option Res) (x : Args ps) : Option Res := N_l0 (x.1, false, x.1, (List.length x.1 : Int), 0)
noncomputable def f (K : Nat) (x : Args ps) : Option Res := pre K (l0 K) x
noncomputable def c (K : Nat) : Ctr := ⟨18, ps, rs, true, f K⟩
noncomputable def G (K : Nat) : List Ctr := [impl_FactOk.c K]
noncomputable def live_l0 : List (Nat × List Coe) := [(0, [.ro true 39 t2]), (2, [.keep]), (5, [.ro true 39 t2]), (6, [.keep]), (7, [.keep])]
noncomputable def L : List (Nat × List (Nat × List Coe)) := [(3, live_l0)]
noncomputable def body : Code := bodyOf Try.f18
noncomputable abbrev ev (K : Nat) : Code → St → (Ex → St → Option Res) → Option Res := evK (G K) T L K
noncomputable abbrev fin : Ex → St → Option Res := finK T ps rs true Try.f18.results.toList
noncomputable def S_l0 (a : A_l0) : St := mkSt [(0, ⟨0, .one, [.ro true 39 t2 a.1]⟩), (2, ⟨0, .one, [.bool a.2.1]⟩), (5, ⟨0, .one, [.ro true 39 t2 a.2.2.1]⟩), (6, ⟨0, .one, [.int .i64 a.2.2.2.1]⟩), (7, ⟨0, .one, [.int .i64 a.2.2.2.2]⟩)]
noncomputable def k_l0 (K : Nat) : Ex → St → Option Res := kAt (ev K) body [1, 0, 1, 0] fin
noncomputable def N_l0 (K : Nat) : A_l0 → Option Res := fun a => evLoop live_l0 (ev K (sub body [1, 0, 1, 0, 0])) K (S_l0 a) (k_l0 K)
theorem h_l0 (K : Nat) (r_l0 : St → Option Res) (a : A_l0) : ev K (sub body [1, 0, 1, 0, 0]) (S_l0 a) (kLoop live_l0 r_l0 (k_l0 K)) = l0.step K (fun a => r_l0 (S_l0 a)) a := by kernel_rfl
theorem ok_l0 (K : Nat) : N_l0 K = l0 K := funext fun a => evLoop_iter live_l0 (ev K (sub body [1, 0, 1, 0, 0])) (k_l0 K) S_l0 (fun rec a => l0.step K rec a) (fun r_l0 a => (h_l0 K r_l0 a)) K a
theorem eqn (K : Nat) (x : Args ps) : evF (G K) T L K Try.f18 ps rs true x = f K x := (show evF (G K) T L K Try.f18 ps rs true x = pre K (N_l0 K) x by kernel_rfl).trans (by rw [ok_l0 K]; rfl)
end impl_TableOk
/-! ### impl.nodes -/
namespace impl_nodes
@[reducible] def ps : List PK := [.rd (.list 39 t2), .fn [t2] .bool]
@[reducible] def rs : List RK := [.v true (.list 3 (.int .i64))]
abbrev Res := Ress rs × Outs ps
abbrev A_l0 := (Tup [t2] → Option (Ty.den .bool)) × List (Ty.den (.int .i64)) × List (Ty.den t2) × Int × Int
noncomputable def l0.step (K : Nat) (rec_l0 : A_l0 → Option Res) (a : A_l0) : Option Res := bif decide (a.2.2.2.2 < a.2.2.2.1) then ((idx a.2.2.1 a.2.2.2.2).bind fun y1 => (a.1 (y1, ())).bind fun y2 => bif y2 then (bif decide ((List.length a.2.1 + List.length ([y1.1])) * 8 ≤ sizeK) then (rec_l0 (a.1, a.2.1 ++ ([y1.1]), a.2.2.1, a.2.2.2.1, wr .i64 (a.2.2.2.2 + 1))) else none) else (rec_l0 (a.1, a.2.1, a.2.2.1, a.2.2.2.1, wr .i64 (a.2.2.2.2 + 1)))) else (some ((a.2.1, ()), ()))
noncomputable def l0 (K : Nat) : A_l0 → Option Res := iterate (fun rec_l0 a => l0.step K rec_l0 a) K
noncomputable def pre (K : Nat) (N_l0 : A_l0 → Option Res) (x : Args ps) : Option Res := N_l0 (x.2.1, [], x.1, (List.length x.1 : Int), 0)
noncomputable def f (K : Nat) (x : Args ps) : Option Res := pre K (l0 K) x
noncomputable def c (K : Nat) : Ctr := ⟨25, ps, rs, true, f K⟩
noncomputable def G (K : Nat) : List Ctr := []
noncomputable def live_l0 : List (Nat × List Coe) := [(1, [.keep]), (4, [.keep]), (5, [.own false 3 (.int .i64)]), (8, [.ro true 39 t2]), (9, [.keep]), (10, [.keep])]
noncomputable def L : List (Nat × List (Nat × List Coe)) := [(4, live_l0)]
noncomputable def body : Code := bodyOf Try.f25
noncomputable abbrev ev (K : Nat) : Code → St → (Ex → St → Option Res) → Option Res := evK (G K) T L K
noncomputable abbrev fin : Ex → St → Option Res := finK T ps rs true Try.f25.results.toList
noncomputable def S_l0 (a : A_l0) : St := mkSt [(1, ⟨0, .one, [.fn [t2] .bool a.1]⟩), (4, ⟨0, .one, [.nil]⟩), (5, ⟨0, .one, [.own false 3 (.int .i64) a.2.1]⟩), (8, ⟨0, .one, [.ro true 39 t2 a.2.2.1]⟩), (9, ⟨0, .one, [.int .i64 a.2.2.2.1]⟩), (10, ⟨0, .one, [.int .i64 a.2.2.2.2]⟩)]
noncomputable def k_l0 (K : Nat) : Ex → St → Option Res := kAt (ev K) body [1, 1, 0, 1, 0] fin
noncomputable def N_l0 (K : Nat) : A_l0 → Option Res := fun a => evLoop live_l0 (ev K (sub body [1, 1, 0, 1, 0, 0])) K (S_l0 a) (k_l0 K)
theorem h_l0 (K : Nat) (r_l0 : St → Option Res) (a : A_l0) : ev K (sub body [1, 1, 0, 1, 0, 0]) (S_l0 a) (kLoop live_l0 r_l0 (k_l0 K)) = l0.step K (fun a => r_l0 (S_l0 a)) a := by kernel_rfl
theorem ok_l0 (K : Nat) : N_l0 K = l0 K := funext fun a => evLoop_iter live_l0 (ev K (sub body [1, 1, 0, 1, 0, 0])) (k_l0 K) S_l0 (fun rec a => l0.step K rec a) (fun r_l0 a => (h_l0 K r_l0 a)) K a
theorem eqn (K : Nat) (x : Args ps) : evF (G K) T L K Try.f25 ps rs true x = f K x := (show evF (G K) T L K Try.f25 ps rs true x = pre K (N_l0 K) x by kernel_rfl).trans (by rw [ok_l0 K]; rfl)
end impl_nodes
/-! ### impl.ViewCount$1 -/
namespace impl_ViewCount_1
@[reducible] def ps : List PK := [.rd t2, .rref (.int .i64)]
@[reducible] def rs : List RK := [.v false .bool]
abbrev Res := Ress rs × Outs ps
noncomputable def pre (K : Nat) (x : Args ps) : Option Res := some ((x.1.2.2.1 == x.2.1, ()), ())
noncomputable def f (K : Nat) (x : Args ps) : Option Res := pre K x
noncomputable def c (K : Nat) : Ctr := ⟨26, ps, rs, true, f K⟩
noncomputable def G (K : Nat) : List Ctr := []
noncomputable def L : List (Nat × List (Nat × List Coe)) := []
noncomputable def body : Code := bodyOf Try.f26
noncomputable abbrev ev (K : Nat) : Code → St → (Ex → St → Option Res) → Option Res := evK (G K) T L K
noncomputable abbrev fin : Ex → St → Option Res := finK T ps rs true Try.f26.results.toList
theorem eqn (K : Nat) (x : Args ps) : evF (G K) T L K Try.f26 ps rs true x = f K x := by kernel_rfl
end impl_ViewCount_1
/-! ### impl.ViewCount -/
namespace impl_ViewCount
@[reducible] def ps : List PK := [.rd (.list 39 t2), .rd (.int .i64)]
@[reducible] def rs : List RK := [.v false (.int .i64)]
abbrev Res := Ress rs × Outs ps
noncomputable def pre (K : Nat) (x : Args ps) : Option Res := (impl_TableOk.f K (x.1, ())).bind fun y1 => bif !y1.1.1 then (some ((0, ()), ())) else ((impl_nodes.f K (x.1, fun y2 => (impl_ViewCount_1.f K (y2.1, x.2.1, ())).map fun y => y.1.1, ())).bind fun y3 => some (((List.length y3.1.1 : Int), ()), ()))
noncomputable def f (K : Nat) (x : Args ps) : Option Res := pre K x
noncomputable def c (K : Nat) : Ctr := ⟨9, ps, rs, true, f K⟩
noncomputable def G (K : Nat) : List Ctr := [impl_TableOk.c K, impl_nodes.c K, impl_ViewCount_1.c K]
noncomputable def L : List (Nat × List (Nat × List Coe)) := []
noncomputable def body : Code := bodyOf Try.f9
noncomputable abbrev ev (K : Nat) : Code → St → (Ex → St → Option Res) → Option Res := evK (G K) T L K
noncomputable abbrev fin : Ex → St → Option Res := finK T ps rs true Try.f9.results.toList
theorem eqn (K : Nat) (x : Args ps) : evF (G K) T L K Try.f9 ps rs true x = f K x := by kernel_rfl
end impl_ViewCount
/-! ### laws.eqFact -/
namespace laws_eqFact
@[reducible] def ps : List PK := [.rd t2, .rd t2]
@[reducible] def rs : List RK := [.v false .bool]
abbrev Res := Ress rs × Outs ps
noncomputable def pre (K : Nat) (x : Args ps) : Option Res := bif x.1.1 != x.2.1.1 then (some ((false, ()), ())) else (bif x.1.2.1 != x.2.1.2.1 then (some ((false, ()), ())) else (bif x.1.2.2.1 != x.2.1.2.2.1 then (some ((false, ()), ())) else (bif x.1.2.2.2 != x.2.1.2.2.2 then (some ((false, ()), ())) else (some ((true, ()), ())))))
noncomputable def f (K : Nat) (x : Args ps) : Option Res := pre K x
noncomputable def c (K : Nat) : Ctr := ⟨27, ps, rs, true, f K⟩
noncomputable def G (K : Nat) : List Ctr := []
noncomputable def L : List (Nat × List (Nat × List Coe)) := []
noncomputable def body : Code := bodyOf Try.f27
noncomputable abbrev ev (K : Nat) : Code → St → (Ex → St → Option Res) → Option Res := evK (G K) T L K
noncomputable abbrev fin : Ex → St → Option Res := finK T ps rs true Try.f27.results.toList
theorem eqn (K : Nat) (x : Args ps) : evF (G K) T L K Try.f27 ps rs true x = f K x := by kernel_rfl
end laws_eqFact
/-! ### laws.eqFactS -/
namespace laws_eqFactS
@[reducible] def ps : List PK := [.rd (.list 39 t2), .rd (.list 39 t2)]
@[reducible] def rs : List RK := [.v false .bool]
abbrev Res := Ress rs × Outs ps
abbrev A_l0 := List (Ty.den t2) × List (Ty.den t2) × Bool × Int
noncomputable def l0.step (K : Nat) (rec_l0 : A_l0 → Option Res) (a : A_l0) : Option Res := bif decide (a.2.2.2 < (List.length a.1 : Int)) then ((idx a.1 a.2.2.2).bind fun y1 => (idx a.2.1 a.2.2.2).bind fun y2 => (laws_eqFact.f K (y1, y2, ())).bind fun y3 => bif !y3.1.1 then (some ((false, ()), ())) else (rec_l0 (a.1, a.2.1, a.2.2.1, wr .i64 (a.2.2.2 + 1)))) else (some ((true, ()), ()))
noncomputable def l0 (K : Nat) : A_l0 → Option Res := iterate (fun rec_l0 a => l0.step K rec_l0 a) K
noncomputable def pre (K : Nat) (N_l0 : A_l0 → Option Res) (x : Args ps) : Option Res := bif (List.length x.1 : Int) != (List.length x.2.1 : Int) then (some ((false, ()), ())) else (N_l0 (x.1, x.2.1, false, 0))
noncomputable def f (K : Nat) (x : Args ps) : Option Res := pre K (l0 K) x
noncomputable def c (K : Nat) : Ctr := ⟨10, ps, rs, true, f K⟩
noncomputable def G (K : Nat) : List Ctr := [laws_eqFact.c K]
noncomputable def live_l0 : List (Nat × List Coe) := [(0, [.ro true 39 t2]), (1, [.ro true 39 t2]), (4, [.keep]), (5, [.keep])]
noncomputable def L : List (Nat × List (Nat × List Coe)) := [(5, live_l0)]
noncomputable def body : Code := bodyOf Try.f10
noncomputable abbrev ev (K : Nat) : Code → St → (Ex → St → Option Res) → Option Res := evK (G K) T L K
noncomputable abbrev fin : Ex → St → Option Res := finK T ps rs true Try.f10.results.toList
noncomputable def S_l0 (a : A_l0) : St := mkSt [(0, ⟨0, .one, [.ro true 39 t2 a.1]⟩), (1, ⟨0, .one, [.ro true 39 t2 a.2.1]⟩), (4, ⟨0, .one, [.bool a.2.2.1]⟩), (5, ⟨0, .one, [.int .i64 a.2.2.2]⟩)]
noncomputable def k_l0 (K : Nat) : Ex → St → Option Res := kAt (ev K) body [1, 1, 0, 1, 0] fin
noncomputable def N_l0 (K : Nat) : A_l0 → Option Res := fun a => evLoop live_l0 (ev K (sub body [1, 1, 0, 1, 0, 0])) K (S_l0 a) (k_l0 K)
theorem h_l0 (K : Nat) (r_l0 : St → Option Res) (a : A_l0) : ev K (sub body [1, 1, 0, 1, 0, 0]) (S_l0 a) (kLoop live_l0 r_l0 (k_l0 K)) = l0.step K (fun a => r_l0 (S_l0 a)) a := by kernel_rfl
theorem ok_l0 (K : Nat) : N_l0 K = l0 K := funext fun a => evLoop_iter live_l0 (ev K (sub body [1, 1, 0, 1, 0, 0])) (k_l0 K) S_l0 (fun rec a => l0.step K rec a) (fun r_l0 a => (h_l0 K r_l0 a)) K a
theorem eqn (K : Nat) (x : Args ps) : evF (G K) T L K Try.f10 ps rs true x = f K x := (show evF (G K) T L K Try.f10 ps rs true x = pre K (N_l0 K) x by kernel_rfl).trans (by rw [ok_l0 K]; rfl)
end laws_eqFactS
/-! ### laws.FnExactViewCount -/
namespace laws_FnExactViewCount
@[reducible] def ps : List PK := [.rd (.list 49 t2), .rd (.int .i64)]
@[reducible] def rs : List RK := [.v false .bool]
abbrev Res := Ress rs × Outs ps
noncomputable def pre (K : Nat) (x : Args ps) : Option Res := (laws_szFactS.f K (x.1, 1048576, ())).bind fun y1 => bif decide (y1.1.1 < 0) then (some ((true, ()), ())) else ((laws_toFactS.f K (x.1, ())).bind fun y2 => (spec_ViewCount.f K (y2.1.1, x.2.1, ())).bind fun y3 => (laws_toFactS.f K (x.1, ())).bind fun y4 => (impl_ViewCount.f K (y4.1.1, x.2.1, ())).bind fun y5 => bif y5.1.1 != y3.1.1 then (some ((false, ()), ())) else ((laws_toFactS.f K (x.1, ())).bind fun y6 => (laws_eqFactS.f K (y4.1.1, y6.1.1, ())).bind fun y7 => bif !y7.1.1 then (some ((false, ()), ())) else (some ((true, ()), ()))))
noncomputable def f (K : Nat) (x : Args ps) : Option Res := pre K x
noncomputable def c (K : Nat) : Ctr := ⟨3, ps, rs, true, f K⟩
noncomputable def G (K : Nat) : List Ctr := [laws_szFactS.c K, spec_ViewCount.c K, laws_toFactS.c K, impl_ViewCount.c K, laws_eqFactS.c K]
noncomputable def L : List (Nat × List (Nat × List Coe)) := []
noncomputable def body : Code := bodyOf Try.f3
noncomputable abbrev ev (K : Nat) : Code → St → (Ex → St → Option Res) → Option Res := evK (G K) T L K
noncomputable abbrev fin : Ex → St → Option Res := finK T ps rs true Try.f3.results.toList
theorem eqn (K : Nat) (x : Args ps) : evF (G K) T L K Try.f3 ps rs true x = f K x := by kernel_rfl
end laws_FnExactViewCount
/-! ### spec.l3Find -/
namespace spec_l3Find
@[reducible] def ps : List PK := [.rd (.list 39 t2), .rd (.int .i64)]
@[reducible] def rs : List RK := [.v false (.int .i64)]
abbrev Res := Ress rs × Outs ps
abbrev A_l0 := List (Ty.den t2) × Int × Int × Int
noncomputable def l0.step (K : Nat) (rec_l0 : A_l0 → Option Res) (a : A_l0) : Option Res := bif decide (a.2.2.2 < (List.length a.1 : Int)) then ((idx a.1 a.2.2.2).bind fun y1 => bif y1.1 == a.2.1 then (some ((a.2.2.2, ()), ())) else (rec_l0 (a.1, a.2.1, a.2.2.1, wr .i64 (a.2.2.2 + 1)))) else (some (((-1), ()), ()))
noncomputable def l0 (K : Nat) : A_l0 → Option Res := iterate (fun rec_l0 a => l0.step K rec_l0 a) K
noncomputable def pre (K : Nat) (N_l0 : A_l0 → Option Res) (x : Args ps) : Option Res := N_l0 (x.1, x.2.1, 0, 0)
noncomputable def f (K : Nat) (x : Args ps) : Option Res := pre K (l0 K) x
noncomputable def c (K : Nat) : Ctr := ⟨28, ps, rs, true, f K⟩
noncomputable def G (K : Nat) : List Ctr := []
noncomputable def live_l0 : List (Nat × List Coe) := [(0, [.ro true 39 t2]), (1, [.keep]), (4, [.keep]), (5, [.keep])]
noncomputable def L : List (Nat × List (Nat × List Coe)) := [(3, live_l0)]
noncomputable def body : Code := bodyOf Try.f28
noncomputable abbrev ev (K : Nat) : Code → St → (Ex → St → Option Res) → Option Res := evK (G K) T L K
noncomputable abbrev fin : Ex → St → Option Res := finK T ps rs true Try.f28.results.toList
noncomputable def S_l0 (a : A_l0) : St := mkSt [(0, ⟨0, .one, [.ro true 39 t2 a.1]⟩), (1, ⟨0, .one, [.int .i64 a.2.1]⟩), (4, ⟨0, .one, [.int .i64 a.2.2.1]⟩), (5, ⟨0, .one, [.int .i64 a.2.2.2]⟩)]
noncomputable def k_l0 (K : Nat) : Ex → St → Option Res := kAt (ev K) body [1, 0, 1, 0] fin
noncomputable def N_l0 (K : Nat) : A_l0 → Option Res := fun a => evLoop live_l0 (ev K (sub body [1, 0, 1, 0, 0])) K (S_l0 a) (k_l0 K)
theorem h_l0 (K : Nat) (r_l0 : St → Option Res) (a : A_l0) : ev K (sub body [1, 0, 1, 0, 0]) (S_l0 a) (kLoop live_l0 r_l0 (k_l0 K)) = l0.step K (fun a => r_l0 (S_l0 a)) a := by kernel_rfl
theorem ok_l0 (K : Nat) : N_l0 K = l0 K := funext fun a => evLoop_iter live_l0 (ev K (sub body [1, 0, 1, 0, 0])) (k_l0 K) S_l0 (fun rec a => l0.step K rec a) (fun r_l0 a => (h_l0 K r_l0 a)) K a
theorem eqn (K : Nat) (x : Args ps) : evF (G K) T L K Try.f28 ps rs true x = f K x := (show evF (G K) T L K Try.f28 ps rs true x = pre K (N_l0 K) x by kernel_rfl).trans (by rw [ok_l0 K]; rfl)
end spec_l3Find
/-! ### spec.ViewNews -/
namespace spec_ViewNews
@[reducible] def ps : List PK := [.rd (.list 39 t2), .rd (.list 39 t2)]
@[reducible] def rs : List RK := [.v true (.list 41 t3)]
abbrev Res := Ress rs × Outs ps
abbrev A_l0 := List (Ty.den t2) × List (Ty.den t2) × List (Ty.den t3) × Int
noncomputable def l0.step (K : Nat) (rec_l0 : A_l0 → Option Res) (a : A_l0) : Option Res := bif decide (a.2.2.2 < (List.length a.2.1 : Int)) then ((idx a.2.1 a.2.2.2).bind fun y3 => (spec_l3Find.f K (a.1, y3.1, ())).bind fun y4 => bif decide (y4.1.1 < 0) then ((idx a.2.1 a.2.2.2).bind fun y5 => bif decide ((List.length a.2.2.1 + List.length ([(y5, 0)])) * 40 ≤ sizeK) then (rec_l0 (a.1, a.2.1, a.2.2.1 ++ ([(y5, 0)]), wr .i64 (a.2.2.2 + 1))) else none) else ((idx a.1 y4.1.1).bind fun y6 => (idx a.2.1 a.2.2.2).bind fun y7 => bif !Ty.eqv t2 y6 y7 then ((idx a.2.1 a.2.2.2).bind fun y8 => (idx a.1 y4.1.1).bind fun y9 => bif decide ((List.length a.2.2.1 + List.length ([(y8, y9.2.2.1)])) * 40 ≤ sizeK) then (rec_l0 (a.1, a.2.1, a.2.2.1 ++ ([(y8, y9.2.2.1)]), wr .i64 (a.2.2.2 + 1))) else none) else (rec_l0 (a.1, a.2.1, a.2.2.1, wr .i64 (a.2.2.2 + 1))))) else (some ((a.2.2.1, ()), ()))
noncomputable def l0 (K : Nat) : A_l0 → Option Res := iterate (fun rec_l0 a => l0.step K rec_l0 a) K
noncomputable def pre (K : Nat) (N_l0 : A_l0 → Option Res) (x : Args ps) : Option Res := (spec_TableOk.f K (x.1, ())).bind fun y1 => bif !y1.1.1 then (some (([], ()), ())) else ((spec_TableOk.f K (x.2.1, ())).bind fun y2 => bif !y2.1.1 then (some (([], ()), ())) else (N_l0 (x.1, x.2.1, [], 0)))
noncomputable def f (K : Nat) (x : Args ps) : Option Res := pre K (l0 K) x
noncomputable def c (K : Nat) : Ctr := ⟨11, ps, rs, true, f K⟩
noncomputable def G (K : Nat) : List Ctr := [spec_TableOk.c K, spec_l3Find.c K]
noncomputable def live_l0 : List (Nat × List Coe) := [(0, [.ro true 39 t2]), (1, [.ro true 39 t2]), (4, [.keep]), (5, [.own false 41 t3]), (6, [.keep])]
noncomputable def L : List (Nat × List (Nat × List Coe)) := [(6, live_l0)]
noncomputable def body : Code := bodyOf Try.f11
noncomputable abbrev ev (K : Nat) : Code → St → (Ex → St → Option Res) → Option Res := evK (G K) T L K
noncomputable abbrev fin : Ex → St → Option Res := finK T ps rs true Try.f11.results.toList
noncomputable def S_l0 (a : A_l0) : St := mkSt [(0, ⟨0, .one, [.ro true 39 t2 a.1]⟩), (1, ⟨0, .one, [.ro true 39 t2 a.2.1]⟩), (4, ⟨0, .one, [.nil]⟩), (5, ⟨0, .one, [.own false 41 t3 a.2.2.1]⟩), (6, ⟨0, .one, [.int .i64 a.2.2.2]⟩)]
noncomputable def k_l0 (K : Nat) : Ex → St → Option Res := kAt (ev K) body [1, 1, 1, 0, 1, 0] fin
noncomputable def N_l0 (K : Nat) : A_l0 → Option Res := fun a => evLoop live_l0 (ev K (sub body [1, 1, 1, 0, 1, 0, 0])) K (S_l0 a) (k_l0 K)
theorem h_l0 (K : Nat) (r_l0 : St → Option Res) (a : A_l0) : ev K (sub body [1, 1, 1, 0, 1, 0, 0]) (S_l0 a) (kLoop live_l0 r_l0 (k_l0 K)) = l0.step K (fun a => r_l0 (S_l0 a)) a := by kernel_rfl
theorem ok_l0 (K : Nat) : N_l0 K = l0 K := funext fun a => evLoop_iter live_l0 (ev K (sub body [1, 1, 1, 0, 1, 0, 0])) (k_l0 K) S_l0 (fun rec a => l0.step K rec a) (fun r_l0 a => (h_l0 K r_l0 a)) K a
theorem eqn (K : Nat) (x : Args ps) : evF (G K) T L K Try.f11 ps rs true x = f K x := (show evF (G K) T L K Try.f11 ps rs true x = pre K (N_l0 K) x by kernel_rfl).trans (by rw [ok_l0 K]; rfl)
end spec_ViewNews
/-! ### impl.Fact,int] -/
namespace slices_BinarySearchFunc_impl_Fact_impl_Fact_int
@[reducible] def ps : List PK := [.rd (.list 39 t2), .rd (.int .i64), .fn [t2, (.int .i64)] (.int .i64)]
@[reducible] def rs : List RK := [.v false (.int .i64), .v false .bool]
abbrev Res := Ress rs × Outs ps
abbrev A_l0 := List (Ty.den t2) × Int × (Tup [t2, (.int .i64)] → Option (Ty.den (.int .i64))) × Int × Bool × Int × Int × Int
noncomputable def l0.step (K : Nat) (rec_l0 : A_l0 → Option Res) (a : A_l0) : Option Res := bif decide (a.2.2.2.2.2.2.1 < a.2.2.2.2.2.2.2) then ((idx a.1 (wr .i64 (Int.fdiv (wr .u64 (wr .i64 (a.2.2.2.2.2.2.1 + a.2.2.2.2.2.2.2))) (2 ^ 1)))).bind fun y1 => (a.2.2.1 (y1, a.2.1, ())).bind fun y2 => bif decide (y2 < 0) then (rec_l0 (a.1, a.2.1, a.2.2.1, a.2.2.2.1, a.2.2.2.2.1, a.2.2.2.2.2.1, wr .i64 ((wr .i64 (Int.fdiv (wr .u64 (wr .i64 (a.2.2.2.2.2.2.1 + a.2.2.2.2.2.2.2))) (2 ^ 1))) + 1), a.2.2.2.2.2.2.2)) else (rec_l0 (a.1, a.2.1, a.2.2.1, a.2.2.2.1, a.2.2.2.2.1, a.2.2.2.2.2.1, a.2.2.2.2.2.2.1, wr .i64 (Int.fdiv (wr .u64 (wr .i64 (a.2.2.2.2.2.2.1 + a.2.2.2.2.2.2.2))) (2 ^ 1))))) else (bif decide (a.2.2.2.2.2.2.1 < a.2.2.2.2.2.1) then ((idx a.1 a.2.2.2.2.2.2.1).bind fun y3 => (a.2.2.1 (y3, a.2.1, ())).bind fun y4 => some ((a.2.2.2.2.2.2.1, y4 == 0, ()), ())) else (some ((a.2.2.2.2.2.2.1, false, ()), ())))
noncomputable def l0 (K : Nat) : A_l0 → Option Res := iterate (fun rec_l0 a => l0.step K rec_l0 a) K
noncomputable def pre (K : Nat) (N_l0 : A_l0 → Option Res) (x : Args ps) : Option Res := N_l0 (x.1, x.2.1, x.2.2.1, 0, false, (List.length x.1 : Int), 0, (List.length x.1 : Int))
noncomputable def f (K : Nat) (x : Args ps) : Option Res := pre K (l0 K) x
noncomputable def c (K : Nat) : Ctr := ⟨47, ps, rs, true, f K⟩
noncomputable def G (K : Nat) : List Ctr := []
noncomputable def live_l0 : List (Nat × List Coe) := [(0, [.ro true 39 t2]), (1, [.keep]), (2, [.keep]), (6, [.keep]), (7, [.keep]), (8, [.keep]), (9, [.keep]), (10, [.keep])]
noncomputable def L : List (Nat × List (Nat × List Coe)) := [(4, live_l0)]
noncomputable def body : Code := bodyOf Try.f47
noncomputable abbrev ev (K : Nat) : Code → St → (Ex → St → Option Res) → Option Res := evK (G K) T L K
noncomputable abbrev fin : Ex → St → Option Res := finK T ps rs true Try.f47.results.toList
noncomputable def S_l0 (a : A_l0) : St := mkSt [(0, ⟨0, .one, [.ro true 39 t2 a.1]⟩), (1, ⟨0, .one, [.int .i64 a.2.1]⟩), (2, ⟨0, .one, [.fn [t2, (.int .i64)] (.int .i64) a.2.2.1]⟩), (6, ⟨0, .one, [.int .i64 a.2.2.2.1]⟩), (7, ⟨0, .one, [.bool a.2.2.2.2.1]⟩), (8, ⟨0, .one, [.int .i64 a.2.2.2.2.2.1]⟩), (9, ⟨0, .one, [.int .i64 a.2.2.2.2.2.2.1]⟩), (10, ⟨0, .one, [.int .i64 a.2.2.2.2.2.2.2]⟩)]
noncomputable def k_l0 (K : Nat) : Ex → St → Option Res := kAt (ev K) body [1, 1, 1, 0, 0] fin
noncomputable def N_l0 (K : Nat) : A_l0 → Option Res := fun a => evLoop live_l0 (ev K (sub body [1, 1, 1, 0, 0, 0])) K (S_l0 a) (k_l0 K)
theorem h_l0 (K : Nat) (r_l0 : St → Option Res) (a : A_l0) : ev K (sub body [1, 1, 1, 0, 0, 0]) (S_l0 a) (kLoop live_l0 r_l0 (k_l0 K)) = l0.step K (fun a => r_l0 (S_l0 a)) a := by kernel_rfl
theorem ok_l0 (K : Nat) : N_l0 K = l0 K := funext fun a => evLoop_iter live_l0 (ev K (sub body [1, 1, 1, 0, 0, 0])) (k_l0 K) S_l0 (fun rec a => l0.step K rec a) (fun r_l0 a => (h_l0 K r_l0 a)) K a
theorem eqn (K : Nat) (x : Args ps) : evF (G K) T L K Try.f47 ps rs true x = f K x := (show evF (G K) T L K Try.f47 ps rs true x = pre K (N_l0 K) x by kernel_rfl).trans (by rw [ok_l0 K]; rfl)
end slices_BinarySearchFunc_impl_Fact_impl_Fact_int
/-! ### cmp.isNaN[int] -/
namespace cmp_isNaN_int
@[reducible] def ps : List PK := [.rd (.int .i64)]
@[reducible] def rs : List RK := [.v false .bool]
abbrev Res := Ress rs × Outs ps
noncomputable def pre (K : Nat) (x : Args ps) : Option Res := some ((x.1 != x.1, ()), ())
noncomputable def f (K : Nat) (x : Args ps) : Option Res := pre K x
noncomputable def c (K : Nat) : Ctr := ⟨54, ps, rs, true, f K⟩
noncomputable def G (K : Nat) : List Ctr := []
noncomputable def L : List (Nat × List (Nat × List Coe)) := []
noncomputable def body : Code := bodyOf Try.f54
noncomputable abbrev ev (K : Nat) : Code → St → (Ex → St → Option Res) → Option Res := evK (G K) T L K
noncomputable abbrev fin : Ex → St → Option Res := finK T ps rs true Try.f54.results.toList
theorem eqn (K : Nat) (x : Args ps) : evF (G K) T L K Try.f54 ps rs true x = f K x := by kernel_rfl
end cmp_isNaN_int
/-! ### cmp.Compare[int] -/
namespace cmp_Compare_int
@[reducible] def ps : List PK := [.rd (.int .i64), .rd (.int .i64)]
@[reducible] def rs : List RK := [.v false (.int .i64)]
abbrev Res := Ress rs × Outs ps
noncomputable def pre (K : Nat) (x : Args ps) : Option Res := (cmp_isNaN_int.f K (x.1, ())).bind fun y1 => (cmp_isNaN_int.f K (x.2.1, ())).bind fun y2 => bif y1.1.1 then (bif y2.1.1 then (some ((0, ()), ())) else (some (((-1), ()), ()))) else (bif y2.1.1 then (some ((1, ()), ())) else (bif decide (x.1 < x.2.1) then (some (((-1), ()), ())) else (bif decide (x.1 > x.2.1) then (some ((1, ()), ())) else (some ((0, ()), ())))))
noncomputable def f (K : Nat) (x : Args ps) : Option Res := pre K x
noncomputable def c (K : Nat) : Ctr := ⟨49, ps, rs, true, f K⟩
noncomputable def G (K : Nat) : List Ctr := [cmp_isNaN_int.c K]
noncomputable def L : List (Nat × List (Nat × List Coe)) := []
noncomputable def body : Code := bodyOf Try.f49
noncomputable abbrev ev (K : Nat) : Code → St → (Ex → St → Option Res) → Option Res := evK (G K) T L K
noncomputable abbrev fin : Ex → St → Option Res := finK T ps rs true Try.f49.results.toList
theorem eqn (K : Nat) (x : Args ps) : evF (G K) T L K Try.f49 ps rs true x = f K x := by kernel_rfl
end cmp_Compare_int
/-! ### impl.find$1 -/
namespace impl_find_1
@[reducible] def ps : List PK := [.rd t2, .rd (.int .i64)]
@[reducible] def rs : List RK := [.v false (.int .i64)]
abbrev Res := Ress rs × Outs ps
noncomputable def pre (K : Nat) (x : Args ps) : Option Res := (cmp_Compare_int.f K (x.1.1, x.2.1, ())).bind fun y1 => some ((y1.1.1, ()), ())
noncomputable def f (K : Nat) (x : Args ps) : Option Res := pre K x
noncomputable def c (K : Nat) : Ctr := ⟨48, ps, rs, true, f K⟩
noncomputable def G (K : Nat) : List Ctr := [cmp_Compare_int.c K]
noncomputable def L : List (Nat × List (Nat × List Coe)) := []
noncomputable def body : Code := bodyOf Try.f48
noncomputable abbrev ev (K : Nat) : Code → St → (Ex → St → Option Res) → Option Res := evK (G K) T L K
noncomputable abbrev fin : Ex → St → Option Res := finK T ps rs true Try.f48.results.toList
theorem eqn (K : Nat) (x : Args ps) : evF (G K) T L K Try.f48 ps rs true x = f K x := by kernel_rfl
end impl_find_1
/-! ### impl.find -/
namespace impl_find
@[reducible] def ps : List PK := [.rd (.list 39 t2), .rd (.int .i64)]
@[reducible] def rs : List RK := [.v false (.int .i64), .v false .bool]
abbrev Res := Ress rs × Outs ps
noncomputable def pre (K : Nat) (x : Args ps) : Option Res := (slices_BinarySearchFunc_impl_Fact_impl_Fact_int.f K (x.1, x.2.1, fun y1 => (impl_find_1.f K (y1.1, y1.2.1, ())).map fun y => y.1.1, ())).bind fun y2 => some ((y2.1.1, y2.1.2.1, ()), ())
noncomputable def f (K : Nat) (x : Args ps) : Option Res := pre K x
noncomputable def c (K : Nat) : Ctr := ⟨37, ps, rs, true, f K⟩
noncomputable def G (K : Nat) : List Ctr := [slices_BinarySearchFunc_impl_Fact_impl_Fact_int.c K, impl_find_1.c K]
noncomputable def L : List (Nat × List (Nat × List Coe)) := []
noncomputable def body : Code := bodyOf Try.f37
noncomputable abbrev ev (K : Nat) : Code → St → (Ex → St → Option Res) → Option Res := evK (G K) T L K
noncomputable abbrev fin : Ex → St → Option Res := finK T ps rs true Try.f37.results.toList
theorem eqn (K : Nat) (x : Args ps) : evF (G K) T L K Try.f37 ps rs true x = f K x := by kernel_rfl
end impl_find
/-! ### impl.TableOf -/
namespace impl_TableOf
@[reducible] def ps : List PK := [.rd (.list 39 t2), .rd (.int .i64)]
@[reducible] def rs : List RK := [.v false t2, .v false .bool]
abbrev Res := Ress rs × Outs ps
noncomputable def pre (K : Nat) (x : Args ps) : Option Res := (impl_TableOk.f K (x.1, ())).bind fun y1 => bif !y1.1.1 then (some (((0, (0, (0, false))), false, ()), ())) else ((impl_find.f K (x.1, x.2.1, ())).bind fun y2 => bif !y2.1.2.1 then (some (((0, (0, (0, false))), false, ()), ())) else ((idx x.1 y2.1.1).bind fun y3 => some ((y3, true, ()), ())))
noncomputable def f (K : Nat) (x : Args ps) : Option Res := pre K x
noncomputable def c (K : Nat) : Ctr := ⟨20, ps, rs, true, f K⟩
noncomputable def G (K : Nat) : List Ctr := [impl_TableOk.c K, impl_find.c K]
noncomputable def L : List (Nat × List (Nat × List Coe)) := []
noncomputable def body : Code := bodyOf Try.f20
noncomputable abbrev ev (K : Nat) : Code → St → (Ex → St → Option Res) → Option Res := evK (G K) T L K
noncomputable abbrev fin : Ex → St → Option Res := finK T ps rs true Try.f20.results.toList
theorem eqn (K : Nat) (x : Args ps) : evF (G K) T L K Try.f20 ps rs true x = f K x := by kernel_rfl
end impl_TableOf
/-! ### impl.Fact] -/
namespace slices_Index_impl_Fact_impl_Fact
@[reducible] def ps : List PK := [.rd (.list 39 t2), .rd t2]
@[reducible] def rs : List RK := [.v false (.int .i64)]
abbrev Res := Ress rs × Outs ps
abbrev A_l0 := List (Ty.den t2) × Int × Int × Int × Int × Int × Int × Bool
noncomputable def l0.step (K : Nat) (rec_l0 : A_l0 → Option Res) (a : A_l0) : Option Res := bif decide (a.2.2.2.1 < a.2.2.1) then ((idx a.1 a.2.2.2.1).bind fun y1 => bif Ty.eqv t2 a.2.2.2.2 y1 then (some ((a.2.2.2.1, ()), ())) else (rec_l0 (a.1, a.2.1, a.2.2.1, wr .i64 (a.2.2.2.1 + 1), a.2.2.2.2.1, a.2.2.2.2.2.1, a.2.2.2.2.2.2.1, a.2.2.2.2.2.2.2))) else (some (((-1), ()), ()))
noncomputable def l0 (K : Nat) : A_l0 → Option Res := iterate (fun rec_l0 a => l0.step K rec_l0 a) K
noncomputable def pre (K : Nat) (N_l0 : A_l0 → Option Res) (x : Args ps) : Option Res := N_l0 (x.1, 0, (List.length x.1 : Int), 0, x.2.1.1, x.2.1.2.1, x.2.1.2.2.1, x.2.1.2.2.2)
noncomputable def f (K : Nat) (x : Args ps) : Option Res := pre K (l0 K) x
noncomputable def c (K : Nat) : Ctr := ⟨40, ps, rs, true, f K⟩
noncomputable def G (K : Nat) : List Ctr := []
noncomputable def live_l0 : List (Nat × List Coe) := [(0, [.ro true 39 t2]), (3, [.keep]), (4, [.keep]), (7, [.keep]), (8, [.keep]), (100003, [.keep, .keep, .keep, .keep])]
noncomputable def L : List (Nat × List (Nat × List Coe)) := [(3, live_l0)]
noncomputable def body : Code := bodyOf Try.f40
noncomputable abbrev ev (K : Nat) : Code → St → (Ex → St → Option Res) → Option Res := evK (G K) T L K
noncomputable abbrev fin : Ex → St → Option Res := finK T ps rs true Try.f40.results.toList
noncomputable def S_l0 (a : A_l0) : St := mkSt [(0, ⟨0, .one, [.ro true 39 t2 a.1]⟩), (3, ⟨0, .one, [.bp 100003 0]⟩), (4, ⟨0, .one, [.int .i64 a.2.1]⟩), (7, ⟨0, .one, [.int .i64 a.2.2.1]⟩), (8, ⟨0, .one, [.int .i64 a.2.2.2.1]⟩), (100003, ⟨0, .agg, [.int .i64 a.2.2.2.2.1, .int .i64 a.2.2.2.2.2.1, .int .i64 a.2.2.2.2.2.2.1, .bool a.2.2.2.2.2.2.2]⟩)]
noncomputable def k_l0 (K : Nat) : Ex → St → Option Res := kAt (ev K) body [1, 0, 1, 0] fin
noncomputable def N_l0 (K : Nat) : A_l0 → Option Res := fun a => evLoop live_l0 (ev K (sub body [1, 0, 1, 0, 0])) K (S_l0 a) (k_l0 K)
theorem h_l0 (K : Nat) (r_l0 : St → Option Res) (a : A_l0) : ev K (sub body [1, 0, 1, 0, 0]) (S_l0 a) (kLoop live_l0 r_l0 (k_l0 K)) = l0.step K (fun a => r_l0 (S_l0 a)) a := by kernel_rfl
theorem ok_l0 (K : Nat) : N_l0 K = l0 K := funext fun a => evLoop_iter live_l0 (ev K (sub body [1, 0, 1, 0, 0])) (k_l0 K) S_l0 (fun rec a => l0.step K rec a) (fun r_l0 a => (h_l0 K r_l0 a)) K a
theorem eqn (K : Nat) (x : Args ps) : evF (G K) T L K Try.f40 ps rs true x = f K x := (show evF (G K) T L K Try.f40 ps rs true x = pre K (N_l0 K) x by kernel_rfl).trans (by rw [ok_l0 K]; rfl)
end slices_Index_impl_Fact_impl_Fact
/-! ### impl.Fact] -/
namespace slices_Contains_impl_Fact_impl_Fact
@[reducible] def ps : List PK := [.rd (.list 39 t2), .rd t2]
@[reducible] def rs : List RK := [.v false .bool]
abbrev Res := Ress rs × Outs ps
noncomputable def pre (K : Nat) (x : Args ps) : Option Res := (slices_Index_impl_Fact_impl_Fact.f K (x.1, x.2.1, ())).bind fun y1 => some ((decide (y1.1.1 ≥ 0), ()), ())
noncomputable def f (K : Nat) (x : Args ps) : Option Res := pre K x
noncomputable def c (K : Nat) : Ctr := ⟨29, ps, rs, true, f K⟩
noncomputable def G (K : Nat) : List Ctr := [slices_Index_impl_Fact_impl_Fact.c K]
noncomputable def L : List (Nat × List (Nat × List Coe)) := []
noncomputable def body : Code := bodyOf Try.f29
noncomputable abbrev ev (K : Nat) : Code → St → (Ex → St → Option Res) → Option Res := evK (G K) T L K
noncomputable abbrev fin : Ex → St → Option Res := finK T ps rs true Try.f29.results.toList
theorem eqn (K : Nat) (x : Args ps) : evF (G K) T L K Try.f29 ps rs true x = f K x := by kernel_rfl
end slices_Contains_impl_Fact_impl_Fact
/-! ### impl.ViewNews -/
namespace impl_ViewNews
@[reducible] def ps : List PK := [.rd (.list 39 t2), .rd (.list 39 t2)]
@[reducible] def rs : List RK := [.v true (.list 41 t3)]
abbrev Res := Ress rs × Outs ps
abbrev A_l0 := List (Ty.den t2) × List (Ty.den t3) × List (Ty.den t2) × Int × Int
noncomputable def l0.step (K : Nat) (rec_l0 : A_l0 → Option Res) (a : A_l0) : Option Res := bif decide (a.2.2.2.2 < a.2.2.2.1) then ((idx a.2.2.1 a.2.2.2.2).bind fun y3 => (impl_TableOf.f K (a.1, y3.1, ())).bind fun y4 => (slices_Contains_impl_Fact_impl_Fact.f K (a.1, y3, ())).bind fun y5 => bif !y5.1.1 then (bif decide ((List.length a.2.1 + List.length ([(y3, y4.1.1.2.2.1)])) * 40 ≤ sizeK) then (rec_l0 (a.1, a.2.1 ++ ([(y3, y4.1.1.2.2.1)]), a.2.2.1, a.2.2.2.1, wr .i64 (a.2.2.2.2 + 1))) else none) else (rec_l0 (a.1, a.2.1, a.2.2.1, a.2.2.2.1, wr .i64 (a.2.2.2.2 + 1)))) else (some ((a.2.1, ()), ()))
noncomputable def l0 (K : Nat) : A_l0 → Option Res := iterate (fun rec_l0 a => l0.step K rec_l0 a) K
noncomputable def pre (K : Nat) (N_l0 : A_l0 → Option Res) (x : Args ps) : Option Res := (impl_TableOk.f K (x.1, ())).bind fun y1 => bif !y1.1.1 then (some (([], ()), ())) else ((impl_TableOk.f K (x.2.1, ())).bind fun y2 => bif !y2.1.1 then (some (([], ()), ())) else (N_l0 (x.1, [], x.2.1, (List.length x.2.1 : Int), 0)))
noncomputable def f (K : Nat) (x : Args ps) : Option Res := pre K (l0 K) x
noncomputable def c (K : Nat) : Ctr := ⟨12, ps, rs, true, f K⟩
noncomputable def G (K : Nat) : List Ctr := [impl_TableOk.c K, impl_TableOf.c K, slices_Contains_impl_Fact_impl_Fact.c K]
noncomputable def live_l0 : List (Nat × List Coe) := [(0, [.ro true 39 t2]), (4, [.keep]), (5, [.own false 41 t3]), (18, [.ro true 39 t2]), (19, [.keep]), (20, [.keep])]
noncomputable def L : List (Nat × List (Nat × List Coe)) := [(6, live_l0)]
noncomputable def body : Code := bodyOf Try.f12
noncomputable abbrev ev (K : Nat) : Code → St → (Ex → St → Option Res) → Option Res := evK (G K) T L K
noncomputable abbrev fin : Ex → St → Option Res := finK T ps rs true Try.f12.results.toList
noncomputable def S_l0 (a : A_l0) : St := mkSt [(0, ⟨0, .one, [.ro true 39 t2 a.1]⟩), (4, ⟨0, .one, [.nil]⟩), (5, ⟨0, .one, [.own false 41 t3 a.2.1]⟩), (18, ⟨0, .one, [.ro true 39 t2 a.2.2.1]⟩), (19, ⟨0, .one, [.int .i64 a.2.2.2.1]⟩), (20, ⟨0, .one, [.int .i64 a.2.2.2.2]⟩)]
noncomputable def k_l0 (K : Nat) : Ex → St → Option Res := kAt (ev K) body [1, 1, 1, 0, 1, 0] fin
noncomputable def N_l0 (K : Nat) : A_l0 → Option Res := fun a => evLoop live_l0 (ev K (sub body [1, 1, 1, 0, 1, 0, 0])) K (S_l0 a) (k_l0 K)
theorem h_l0 (K : Nat) (r_l0 : St → Option Res) (a : A_l0) : ev K (sub body [1, 1, 1, 0, 1, 0, 0]) (S_l0 a) (kLoop live_l0 r_l0 (k_l0 K)) = l0.step K (fun a => r_l0 (S_l0 a)) a := by kernel_rfl
theorem ok_l0 (K : Nat) : N_l0 K = l0 K := funext fun a => evLoop_iter live_l0 (ev K (sub body [1, 1, 1, 0, 1, 0, 0])) (k_l0 K) S_l0 (fun rec a => l0.step K rec a) (fun r_l0 a => (h_l0 K r_l0 a)) K a
theorem eqn (K : Nat) (x : Args ps) : evF (G K) T L K Try.f12 ps rs true x = f K x := (show evF (G K) T L K Try.f12 ps rs true x = pre K (N_l0 K) x by kernel_rfl).trans (by rw [ok_l0 K]; rfl)
end impl_ViewNews
/-! ### laws.eqNews -/
namespace laws_eqNews
@[reducible] def ps : List PK := [.rd t3, .rd t3]
@[reducible] def rs : List RK := [.v false .bool]
abbrev Res := Ress rs × Outs ps
noncomputable def pre (K : Nat) (x : Args ps) : Option Res := (laws_eqFact.f K (x.1.1, x.2.1.1, ())).bind fun y1 => bif !y1.1.1 then (some ((false, ()), ())) else (bif x.1.2 != x.2.1.2 then (some ((false, ()), ())) else (some ((true, ()), ())))
noncomputable def f (K : Nat) (x : Args ps) : Option Res := pre K x
noncomputable def c (K : Nat) : Ctr := ⟨30, ps, rs, true, f K⟩
noncomputable def G (K : Nat) : List Ctr := [laws_eqFact.c K]
noncomputable def L : List (Nat × List (Nat × List Coe)) := []
noncomputable def body : Code := bodyOf Try.f30
noncomputable abbrev ev (K : Nat) : Code → St → (Ex → St → Option Res) → Option Res := evK (G K) T L K
noncomputable abbrev fin : Ex → St → Option Res := finK T ps rs true Try.f30.results.toList
theorem eqn (K : Nat) (x : Args ps) : evF (G K) T L K Try.f30 ps rs true x = f K x := by kernel_rfl
end laws_eqNews
/-! ### laws.eqNewsS -/
namespace laws_eqNewsS
@[reducible] def ps : List PK := [.rd (.list 41 t3), .rd (.list 41 t3)]
@[reducible] def rs : List RK := [.v false .bool]
abbrev Res := Ress rs × Outs ps
abbrev A_l0 := List (Ty.den t3) × List (Ty.den t3) × Bool × Int
noncomputable def l0.step (K : Nat) (rec_l0 : A_l0 → Option Res) (a : A_l0) : Option Res := bif decide (a.2.2.2 < (List.length a.1 : Int)) then ((idx a.1 a.2.2.2).bind fun y1 => (idx a.2.1 a.2.2.2).bind fun y2 => (laws_eqNews.f K (y1, y2, ())).bind fun y3 => bif !y3.1.1 then (some ((false, ()), ())) else (rec_l0 (a.1, a.2.1, a.2.2.1, wr .i64 (a.2.2.2 + 1)))) else (some ((true, ()), ()))
noncomputable def l0 (K : Nat) : A_l0 → Option Res := iterate (fun rec_l0 a => l0.step K rec_l0 a) K
noncomputable def pre (K : Nat) (N_l0 : A_l0 → Option Res) (x : Args ps) : Option Res := bif (List.length x.1 : Int) != (List.length x.2.1 : Int) then (some ((false, ()), ())) else (N_l0 (x.1, x.2.1, false, 0))
noncomputable def f (K : Nat) (x : Args ps) : Option Res := pre K (l0 K) x
noncomputable def c (K : Nat) : Ctr := ⟨13, ps, rs, true, f K⟩
noncomputable def G (K : Nat) : List Ctr := [laws_eqNews.c K]
noncomputable def live_l0 : List (Nat × List Coe) := [(0, [.ro true 41 t3]), (1, [.ro true 41 t3]), (4, [.keep]), (5, [.keep])]
noncomputable def L : List (Nat × List (Nat × List Coe)) := [(5, live_l0)]
noncomputable def body : Code := bodyOf Try.f13
noncomputable abbrev ev (K : Nat) : Code → St → (Ex → St → Option Res) → Option Res := evK (G K) T L K
noncomputable abbrev fin : Ex → St → Option Res := finK T ps rs true Try.f13.results.toList
noncomputable def S_l0 (a : A_l0) : St := mkSt [(0, ⟨0, .one, [.ro true 41 t3 a.1]⟩), (1, ⟨0, .one, [.ro true 41 t3 a.2.1]⟩), (4, ⟨0, .one, [.bool a.2.2.1]⟩), (5, ⟨0, .one, [.int .i64 a.2.2.2]⟩)]
noncomputable def k_l0 (K : Nat) : Ex → St → Option Res := kAt (ev K) body [1, 1, 0, 1, 0] fin
noncomputable def N_l0 (K : Nat) : A_l0 → Option Res := fun a => evLoop live_l0 (ev K (sub body [1, 1, 0, 1, 0, 0])) K (S_l0 a) (k_l0 K)
theorem h_l0 (K : Nat) (r_l0 : St → Option Res) (a : A_l0) : ev K (sub body [1, 1, 0, 1, 0, 0]) (S_l0 a) (kLoop live_l0 r_l0 (k_l0 K)) = l0.step K (fun a => r_l0 (S_l0 a)) a := by kernel_rfl
theorem ok_l0 (K : Nat) : N_l0 K = l0 K := funext fun a => evLoop_iter live_l0 (ev K (sub body [1, 1, 0, 1, 0, 0])) (k_l0 K) S_l0 (fun rec a => l0.step K rec a) (fun r_l0 a => (h_l0 K r_l0 a)) K a
theorem eqn (K : Nat) (x : Args ps) : evF (G K) T L K Try.f13 ps rs true x = f K x := (show evF (G K) T L K Try.f13 ps rs true x = pre K (N_l0 K) x by kernel_rfl).trans (by rw [ok_l0 K]; rfl)
end laws_eqNewsS
/-! ### laws.markFactS -/
namespace laws_markFactS
@[reducible] def ps : List PK := [.io 39 t2, .rd (.int .i64)]
@[reducible] def rs : List RK := [.v false (.int .i64)]
abbrev Res := Ress rs × Outs ps
abbrev A_l0 := List (Ty.den t2) × Int × Int × Int
noncomputable def l0.step (K : Nat) (rec_l0 : A_l0 → Option Res) (a : A_l0) : Option Res := bif decide (a.2.2.2 < (List.length a.1 : Int)) then ((idx a.1 a.2.2.2).bind fun _ => (idx a.1 (Int.toNat a.2.2.2 : Nat)).bind fun y2 => (idx (a.1.set (Int.toNat a.2.2.2) (a.2.1, y2.2)) a.2.2.2).bind fun _ => (idx (a.1.set (Int.toNat a.2.2.2) (a.2.1, y2.2)) (Int.toNat a.2.2.2 : Nat)).bind fun y4 => (idx ((a.1.set (Int.toNat a.2.2.2) (a.2.1, y2.2)).set (Int.toNat a.2.2.2) (y4.1, (wr .i64 (a.2.1 + 1), y4.2.2))) a.2.2.2).bind fun _ => (idx ((a.1.set (Int.toNat a.2.2.2) (a.2.1, y2.2)).set (Int.toNat a.2.2.2) (y4.1, (wr .i64 (a.2.1 + 1), y4.2.2))) (Int.toNat a.2.2.2 : Nat)).bind fun y6 => (idx (((a.1.set (Int.toNat a.2.2.2) (a.2.1, y2.2)).set (Int.toNat a.2.2.2) (y4.1, (wr .i64 (a.2.1 + 1), y4.2.2))).set (Int.toNat a.2.2.2) (y6.1, (y6.2.1, (wr .i64 ((wr .i64 (a.2.1 + 1)) + 1), y6.2.2.2)))) a.2.2.2).bind fun _ => (idx (((a.1.set (Int.toNat a.2.2.2) (a.2.1, y2.2)).set (Int.toNat a.2.2.2) (y4.1, (wr .i64 (a.2.1 + 1), y4.2.2))).set (Int.toNat a.2.2.2) (y6.1, (y6.2.1, (wr .i64 ((wr .i64 (a.2.1 + 1)) + 1), y6.2.2.2)))) (Int.toNat a.2.2.2 : Nat)).bind fun y8 => rec_l0 ((((a.1.set (Int.toNat a.2.2.2) (a.2.1, y2.2)).set (Int.toNat a.2.2.2) (y4.1, (wr .i64 (a.2.1 + 1), y4.2.2))).set (Int.toNat a.2.2.2) (y6.1, (y6.2.1, (wr .i64 ((wr .i64 (a.2.1 + 1)) + 1), y6.2.2.2)))).set (Int.toNat a.2.2.2) (y8.1, (y8.2.1, (y8.2.2.1, (Int.tmod (wr .i64 ((wr .i64 ((wr .i64 (a.2.1 + 1)) + 1)) + 1)) 3) == 0))), wr .i64 ((wr .i64 ((wr .i64 ((wr .i64 (a.2.1 + 1)) + 1)) + 1)) + 1), a.2.2.1, wr .i64 (a.2.2.2 + 1))) else (some ((a.2.1, ()), (a.1, ())))
noncomputable def l0 (K : Nat) : A_l0 → Option Res := iterate (fun rec_l0 a => l0.step K rec_l0 a) K
noncomputable def pre (K : Nat) (N_l0 : A_l0 → Option Res) (x : Args ps) : Option Res := N_l0 (x.1, x.2.1, 0, 0)
noncomputable def f (K : Nat) (x : Args ps) : Option Res := pre K (l0 K) x
noncomputable def c (K : Nat) : Ctr := ⟨14, ps, rs, true, f K⟩
noncomputable def G (K : Nat) : List Ctr := []
noncomputable def live_l0 : List (Nat × List Coe) := [(0, [.own false 39 t2]), (1, [.keep]), (4, [.keep]), (5, [.keep])]
noncomputable def L : List (Nat × List (Nat × List Coe)) := [(3, live_l0)]
noncomputable def body : Code := bodyOf Try.f14
noncomputable abbrev ev (K : Nat) : Code → St → (Ex → St → Option Res) → Option Res := evK (G K) T L K
noncomputable abbrev fin : Ex → St → Option Res := finK T ps rs true Try.f14.results.toList
noncomputable def S_l0 (a : A_l0) : St := mkSt [(0, ⟨0, .one, [.own false 39 t2 a.1]⟩), (1, ⟨0, .one, [.int .i64 a.2.1]⟩), (4, ⟨0, .one, [.int .i64 a.2.2.1]⟩), (5, ⟨0, .one, [.int .i64 a.2.2.2]⟩)]
noncomputable def k_l0 (K : Nat) : Ex → St → Option Res := kAt (ev K) body [1, 0, 1, 0] fin
noncomputable def N_l0 (K : Nat) : A_l0 → Option Res := fun a => evLoop live_l0 (ev K (sub body [1, 0, 1, 0, 0])) K (S_l0 a) (k_l0 K)
theorem h_l0 (K : Nat) (r_l0 : St → Option Res) (a : A_l0) : ev K (sub body [1, 0, 1, 0, 0]) (S_l0 a) (kLoop live_l0 r_l0 (k_l0 K)) = l0.step K (fun a => r_l0 (S_l0 a)) a := by kernel_rfl
theorem ok_l0 (K : Nat) : N_l0 K = l0 K := funext fun a => evLoop_iter live_l0 (ev K (sub body [1, 0, 1, 0, 0])) (k_l0 K) S_l0 (fun rec a => l0.step K rec a) (fun r_l0 a => (h_l0 K r_l0 a)) K a
theorem eqn (K : Nat) (x : Args ps) : evF (G K) T L K Try.f14 ps rs true x = f K x := (show evF (G K) T L K Try.f14 ps rs true x = pre K (N_l0 K) x by kernel_rfl).trans (by rw [ok_l0 K]; rfl)
end laws_markFactS
/-! ### laws.markNewsS -/
namespace laws_markNewsS
@[reducible] def ps : List PK := [.io 41 t3, .rd (.int .i64)]
@[reducible] def rs : List RK := [.v false (.int .i64)]
abbrev Res := Ress rs × Outs ps
abbrev A_l0 := List (Ty.den t3) × Int × Int × Int
noncomputable def l0.step (K : Nat) (rec_l0 : A_l0 → Option Res) (a : A_l0) : Option Res := bif decide (a.2.2.2 < (List.length a.1 : Int)) then ((idx a.1 a.2.2.2).bind fun _ => (idx a.1 (Int.toNat a.2.2.2 : Nat)).bind fun y2 => (idx (a.1.set (Int.toNat a.2.2.2) ((a.2.1, y2.1.2), y2.2)) a.2.2.2).bind fun _ => (idx (a.1.set (Int.toNat a.2.2.2) ((a.2.1, y2.1.2), y2.2)) (Int.toNat a.2.2.2 : Nat)).bind fun y4 => (idx ((a.1.set (Int.toNat a.2.2.2) ((a.2.1, y2.1.2), y2.2)).set (Int.toNat a.2.2.2) ((y4.1.1, (wr .i64 (a.2.1 + 1), y4.1.2.2)), y4.2)) a.2.2.2).bind fun _ => (idx ((a.1.set (Int.toNat a.2.2.2) ((a.2.1, y2.1.2), y2.2)).set (Int.toNat a.2.2.2) ((y4.1.1, (wr .i64 (a.2.1 + 1), y4.1.2.2)), y4.2)) (Int.toNat a.2.2.2 : Nat)).bind fun y6 => (idx (((a.1.set (Int.toNat a.2.2.2) ((a.2.1, y2.1.2), y2.2)).set (Int.toNat a.2.2.2) ((y4.1.1, (wr .i64 (a.2.1 + 1), y4.1.2.2)), y4.2)).set (Int.toNat a.2.2.2) ((y6.1.1, (y6.1.2.1, (wr .i64 ((wr .i64 (a.2.1 + 1)) + 1), y6.1.2.2.2))), y6.2)) a.2.2.2).bind fun _ => (idx (((a.1.set (Int.toNat a.2.2.2) ((a.2.1, y2.1.2), y2.2)).set (Int.toNat a.2.2.2) ((y4.1.1, (wr .i64 (a.2.1 + 1), y4.1.2.2)), y4.2)).set (Int.toNat a.2.2.2) ((y6.1.1, (y6.1.2.1, (wr .i64 ((wr .i64 (a.2.1 + 1)) + 1), y6.1.2.2.2))), y6.2)) (Int.toNat a.2.2.2 : Nat)).bind fun y8 => (idx ((((a.1.set (Int.toNat a.2.2.2) ((a.2.1, y2.1.2), y2.2)).set (Int.toNat a.2.2.2) ((y4.1.1, (wr .i64 (a.2.1 + 1), y4.1.2.2)), y4.2)).set (Int.toNat a.2.2.2) ((y6.1.1, (y6.1.2.1, (wr .i64 ((wr .i64 (a.2.1 + 1)) + 1), y6.1.2.2.2))), y6.2)).set (Int.toNat a.2.2.2) ((y8.1.1, (y8.1.2.1, (y8.1.2.2.1, (Int.tmod (wr .i64 ((wr .i64 ((wr .i64 (a.2.1 + 1)) + 1)) + 1)) 3) == 0))), y8.2)) a.2.2.2).bind fun _ => (idx ((((a.1.set (Int.toNat a.2.2.2) ((a.2.1, y2.1.2), y2.2)).set (Int.toNat a.2.2.2) ((y4.1.1, (wr .i64 (a.2.1 + 1), y4.1.2.2)), y4.2)).set (Int.toNat a.2.2.2) ((y6.1.1, (y6.1.2.1, (wr .i64 ((wr .i64 (a.2.1 + 1)) + 1), y6.1.2.2.2))), y6.2)).set (Int.toNat a.2.2.2) ((y8.1.1, (y8.1.2.1, (y8.1.2.2.1, (Int.tmod (wr .i64 ((wr .i64 ((wr .i64 (a.2.1 + 1)) + 1)) + 1)) 3) == 0))), y8.2)) (Int.toNat a.2.2.2 : Nat)).bind fun y10 => rec_l0 (((((a.1.set (Int.toNat a.2.2.2) ((a.2.1, y2.1.2), y2.2)).set (Int.toNat a.2.2.2) ((y4.1.1, (wr .i64 (a.2.1 + 1), y4.1.2.2)), y4.2)).set (Int.toNat a.2.2.2) ((y6.1.1, (y6.1.2.1, (wr .i64 ((wr .i64 (a.2.1 + 1)) + 1), y6.1.2.2.2))), y6.2)).set (Int.toNat a.2.2.2) ((y8.1.1, (y8.1.2.1, (y8.1.2.2.1, (Int.tmod (wr .i64 ((wr .i64 ((wr .i64 (a.2.1 + 1)) + 1)) + 1)) 3) == 0))), y8.2)).set (Int.toNat a.2.2.2) (y10.1, wr .i64 ((wr .i64 ((wr .i64 ((wr .i64 (a.2.1 + 1)) + 1)) + 1)) + 1)), wr .i64 ((wr .i64 ((wr .i64 ((wr .i64 ((wr .i64 (a.2.1 + 1)) + 1)) + 1)) + 1)) + 1), a.2.2.1, wr .i64 (a.2.2.2 + 1))) else (some ((a.2.1, ()), (a.1, ())))
noncomputable def l0 (K : Nat) : A_l0 → Option Res := iterate (fun rec_l0 a => l0.step K rec_l0 a) K
noncomputable def pre (K : Nat) (N_l0 : A_l0 → Option Res) (x : Args ps) : Option Res := N_l0 (x.1, x.2.1, 0, 0)
noncomputable def f (K : Nat) (x : Args ps) : Option Res := pre K (l0 K) x
noncomputable def c (K : Nat) : Ctr := ⟨15, ps, rs, true, f K⟩
noncomputable def G (K : Nat) : List Ctr := []
noncomputable def live_l0 : List (Nat × List Coe) := [(0, [.own false 41 t3]), (1, [.keep]), (4, [.keep]), (5, [.keep])]
noncomputable def L : List (Nat × List (Nat × List Coe)) := [(3, live_l0)]
noncomputable def body : Code := bodyOf Try.f15
noncomputable abbrev ev (K : Nat) : Code → St → (Ex → St → Option Res) → Option Res := evK (G K) T L K
noncomputable abbrev fin : Ex → St → Option Res := finK T ps rs true Try.f15.results.toList
noncomputable def S_l0 (a : A_l0) : St := mkSt [(0, ⟨0, .one, [.own false 41 t3 a.1]⟩), (1, ⟨0, .one, [.int .i64 a.2.1]⟩), (4, ⟨0, .one, [.int .i64 a.2.2.1]⟩), (5, ⟨0, .one, [.int .i64 a.2.2.2]⟩)]
noncomputable def k_l0 (K : Nat) : Ex → St → Option Res := kAt (ev K) body [1, 0, 1, 0] fin
noncomputable def N_l0 (K : Nat) : A_l0 → Option Res := fun a => evLoop live_l0 (ev K (sub body [1, 0, 1, 0, 0])) K (S_l0 a) (k_l0 K)
theorem h_l0 (K : Nat) (r_l0 : St → Option Res) (a : A_l0) : ev K (sub body [1, 0, 1, 0, 0]) (S_l0 a) (kLoop live_l0 r_l0 (k_l0 K)) = l0.step K (fun a => r_l0 (S_l0 a)) a := by kernel_rfl
theorem ok_l0 (K : Nat) : N_l0 K = l0 K := funext fun a => evLoop_iter live_l0 (ev K (sub body [1, 0, 1, 0, 0])) (k_l0 K) S_l0 (fun rec a => l0.step K rec a) (fun r_l0 a => (h_l0 K r_l0 a)) K a
theorem eqn (K : Nat) (x : Args ps) : evF (G K) T L K Try.f15 ps rs true x = f K x := (show evF (G K) T L K Try.f15 ps rs true x = pre K (N_l0 K) x by kernel_rfl).trans (by rw [ok_l0 K]; rfl)
end laws_markNewsS
/-! ### laws.heldNewsS -/
namespace laws_heldNewsS
@[reducible] def ps : List PK := [.rd (.list 41 t3), .rd (.int .i64)]
@[reducible] def rs : List RK := [.v false (.int .i64)]
abbrev Res := Ress rs × Outs ps
abbrev A_l0 := List (Ty.den t3) × Int × Int × Int
noncomputable def l0.step (K : Nat) (rec_l0 : A_l0 → Option Res) (a : A_l0) : Option Res := bif decide (a.2.2.2 < (List.length a.1 : Int)) then ((idx a.1 a.2.2.2).bind fun y1 => bif y1.1.1 != a.2.1 then (some (((-1), ()), ())) else ((idx a.1 a.2.2.2).bind fun y2 => bif y2.1.2.1 != (wr .i64 (a.2.1 + 1)) then (some (((-1), ()), ())) else ((idx a.1 a.2.2.2).bind fun y3 => bif y3.1.2.2.1 != (wr .i64 ((wr .i64 (a.2.1 + 1)) + 1)) then (some (((-1), ()), ())) else ((idx a.1 a.2.2.2).bind fun y4 => bif y4.1.2.2.2 != ((Int.tmod (wr .i64 ((wr .i64 ((wr .i64 (a.2.1 + 1)) + 1)) + 1)) 3) == 0) then (some (((-1), ()), ())) else ((idx a.1 a.2.2.2).bind fun y5 => bif y5.2 != (wr .i64 ((wr .i64 ((wr .i64 ((wr .i64 (a.2.1 + 1)) + 1)) + 1)) + 1)) then (some (((-1), ()), ())) else (rec_l0 (a.1, wr .i64 ((wr .i64 ((wr .i64 ((wr .i64 ((wr .i64 (a.2.1 + 1)) + 1)) + 1)) + 1)) + 1), a.2.2.1, wr .i64 (a.2.2.2 + 1)))))))) else (some ((a.2.1, ()), ()))
noncomputable def l0 (K : Nat) : A_l0 → Option Res := iterate (fun rec_l0 a => l0.step K rec_l0 a) K
noncomputable def pre (K : Nat) (N_l0 : A_l0 → Option Res) (x : Args ps) : Option Res := N_l0 (x.1, x.2.1, 0, 0)
noncomputable def f (K : Nat) (x : Args ps) : Option Res := pre K (l0 K) x
noncomputable def c (K : Nat) : Ctr := ⟨16, ps, rs, true, f K⟩
noncomputable def G (K : Nat) : List Ctr := []
noncomputable def live_l0 : List (Nat × List Coe) := [(0, [.ro true 41 t3]), (1, [.keep]), (4, [.keep]), (5, [.keep])]
noncomputable def L : List (Nat × List (Nat × List Coe)) := [(3, live_l0)]
noncomputable def body : Code := bodyOf Try.f16
noncomputable abbrev ev (K : Nat) : Code → St → (Ex → St → Option Res) → Option Res := evK (G K) T L K
noncomputable abbrev fin : Ex → St → Option Res := finK T ps rs true Try.f16.results.toList
noncomputable def S_l0 (a : A_l0) : St := mkSt [(0, ⟨0, .one, [.ro true 41 t3 a.1]⟩), (1, ⟨0, .one, [.int .i64 a.2.1]⟩), (4, ⟨0, .one, [.int .i64 a.2.2.1]⟩), (5, ⟨0, .one, [.int .i64 a.2.2.2]⟩)]
noncomputable def k_l0 (K : Nat) : Ex → St → Option Res := kAt (ev K) body [1, 0, 1, 0] fin
noncomputable def N_l0 (K : Nat) : A_l0 → Option Res := fun a => evLoop live_l0 (ev K (sub body [1, 0, 1, 0, 0])) K (S_l0 a) (k_l0 K)
theorem h_l0 (K : Nat) (r_l0 : St → Option Res) (a : A_l0) : ev K (sub body [1, 0, 1, 0, 0]) (S_l0 a) (kLoop live_l0 r_l0 (k_l0 K)) = l0.step K (fun a => r_l0 (S_l0 a)) a := by kernel_rfl
theorem ok_l0 (K : Nat) : N_l0 K = l0 K := funext fun a => evLoop_iter live_l0 (ev K (sub body [1, 0, 1, 0, 0])) (k_l0 K) S_l0 (fun rec a => l0.step K rec a) (fun r_l0 a => (h_l0 K r_l0 a)) K a
theorem eqn (K : Nat) (x : Args ps) : evF (G K) T L K Try.f16 ps rs true x = f K x := (show evF (G K) T L K Try.f16 ps rs true x = pre K (N_l0 K) x by kernel_rfl).trans (by rw [ok_l0 K]; rfl)
end laws_heldNewsS
/-! ### laws.FnExactViewNews -/
namespace laws_FnExactViewNews
@[reducible] def ps : List PK := [.rd (.list 49 t2), .rd (.list 49 t2)]
@[reducible] def rs : List RK := [.v false .bool]
abbrev Res := Ress rs × Outs ps
noncomputable def pre (K : Nat) (x : Args ps) : Option Res := (laws_szFactS.f K (x.1, 1048576, ())).bind fun y1 => bif decide (y1.1.1 < 0) then (some ((true, ()), ())) else ((laws_szFactS.f K (x.2.1, y1.1.1, ())).bind fun y2 => bif decide (y2.1.1 < 0) then (some ((true, ()), ())) else ((laws_toFactS.f K (x.1, ())).bind fun y3 => (laws_toFactS.f K (x.2.1, ())).bind fun y4 => (spec_ViewNews.f K (y3.1.1, y4.1.1, ())).bind fun y5 => (laws_toFactS.f K (x.1, ())).bind fun y6 => (laws_toFactS.f K (x.2.1, ())).bind fun y7 => (impl_ViewNews.f K (y6.1.1, y7.1.1, ())).bind fun y8 => (laws_eqNewsS.f K (y8.1.1, y5.1.1, ())).bind fun y9 => bif !y9.1.1 then (some ((false, ()), ())) else ((laws_toFactS.f K (x.1, ())).bind fun y10 => (laws_eqFactS.f K (y6.1.1, y10.1.1, ())).bind fun y11 => bif !y11.1.1 then (some ((false, ()), ())) else ((laws_toFactS.f K (x.2.1, ())).bind fun y12 => (laws_eqFactS.f K (y7.1.1, y12.1.1, ())).bind fun y13 => bif !y13.1.1 then (some ((false, ()), ())) else ((laws_markFactS.f K (y6.1.1, 1, ())).bind fun y14 => (laws_markFactS.f K (y7.1.1, y14.1.1, ())).bind fun y15 => bif decide (y15.1.1 < 0) then (some ((false, ()), ())) else ((laws_eqNewsS.f K (y8.1.1, y5.1.1, ())).bind fun y16 => bif !y16.1.1 then (some ((false, ()), ())) else ((laws_markNewsS.f K (y8.1.1, 1, ())).bind fun y17 => (laws_heldNewsS.f K (y17.2.1, 1, ())).bind fun y18 => bif decide (y18.1.1 < 0) then (some ((false, ()), ())) else (bif y18.1.1 != y17.1.1 then (some ((false, ()), ())) else ((laws_toFactS.f K (x.1, ())).bind fun y19 => (laws_toFactS.f K (x.2.1, ())).bind fun y20 => (impl_ViewNews.f K (y19.1.1, y20.1.1, ())).bind fun y21 => (laws_eqNewsS.f K (y21.1.1, y5.1.1, ())).bind fun y22 => bif !y22.1.1 then (some ((false, ()), ())) else ((laws_heldNewsS.f K (y17.2.1, 1, ())).bind fun y23 => bif decide (y23.1.1 < 0) then (some ((false, ()), ())) else (bif y23.1.1 != y17.1.1 then (some ((false, ()), ())) else (some ((true, ()), ())))))))))))))
noncomputable def f (K : Nat) (x : Args ps) : Option Res := pre K x
noncomputable def c (K : Nat) : Ctr := ⟨4, ps, rs, true, f K⟩
noncomputable def G (K : Nat) : List Ctr := [laws_szFactS.c K, laws_toFactS.c K, laws_eqFactS.c K, spec_ViewNews.c K, impl_ViewNews.c K, laws_eqNewsS.c K, laws_markFactS.c K, laws_markNewsS.c K, laws_heldNewsS.c K]
noncomputable def L : List (Nat × List (Nat × List Coe)) := []
noncomputable def body : Code := bodyOf Try.f4
noncomputable abbrev ev (K : Nat) : Code → St → (Ex → St → Option Res) → Option Res := evK (G K) T L K
noncomputable abbrev fin : Ex → St → Option Res := finK T ps rs true Try.f4.results.toList
theorem eqn (K : Nat) (x : Args ps) : evF (G K) T L K Try.f4 ps rs true x = f K x := by kernel_rfl
end laws_FnExactViewNews
/-! ### spec.l1Rd).pick -/
namespace spec_l1Rd_pick
@[reducible] def ps : List PK := [.iop t4, .rd (.int .i64)]
@[reducible] def rs : List RK := [.v false (.int .i64)]
abbrev Res := Ress rs × Outs ps
noncomputable def pre (K : Nat) (x : Args ps) : Option Res := bif decide (x.2.1 < 1) then (some ((0, ()), ((x.1.1, wr .i64 (x.1.2 + 1)), ()))) else (bif (List.length x.1.1 : Int) == 0 then (some ((0, ()), ((x.1.1, wr .i64 (x.1.2 + 1)), ()))) else (bif decide ((wr .i64 ((wr .i64 (x.1.2 + 1)) - 1)) < (List.length x.1.1 : Int)) then ((idx x.1.1 (wr .i64 ((wr .i64 (x.1.2 + 1)) - 1))).bind fun y1 => bif decide (x.2.1 = 0) then none else (some ((Int.tmod (wr .i64 y1) x.2.1, ()), ((x.1.1, wr .i64 (x.1.2 + 1)), ())))) else (bif decide ((List.length x.1.1 : Int) = 0) then none else ((idx x.1.1 (Int.tmod (wr .i64 ((wr .i64 (x.1.2 + 1)) - 1)) (List.length x.1.1 : Int))).bind fun y2 => bif decide ((List.length x.1.1 : Int) = 0) then none else ((idx x.1.1 (Int.tmod (wr .i64 ((wr .i64 ((wr .i64 ((wr .i64 (x.1.2 + 1)) - 1)) * 7)) + 3)) (List.length x.1.1 : Int))).bind fun y3 => bif decide ((List.length x.1.1 : Int) = 0) then none else (bif decide (x.2.1 = 0) then none else (some ((Int.tmod (xorI .i64 (wr .i64 ((wr .i64 ((wr .i64 ((wr .i64 ((wr .i64 y2) * 131)) + (wr .i64 ((wr .i64 y3) * 1117)))) + (wr .i64 ((wr .i64 ((wr .i64 (x.1.2 + 1)) - 1)) * 29)))) + (wr .i64 ((wr .i64 (Int.tdiv (wr .i64 ((wr .i64 (x.1.2 + 1)) - 1)) (List.length x.1.1 : Int))) * 53)))) (wr .i64 (Int.tdiv (wr .i64 ((wr .i64 ((wr .i64 ((wr .i64 ((wr .i64 y2) * 131)) + (wr .i64 ((wr .i64 y3) * 1117)))) + (wr .i64 ((wr .i64 ((wr .i64 (x.1.2 + 1)) - 1)) * 29)))) + (wr .i64 ((wr .i64 (Int.tdiv (wr .i64 ((wr .i64 (x.1.2 + 1)) - 1)) (List.length x.1.1 : Int))) * 53)))) 64))) x.2.1, ()), ((x.1.1, wr .i64 (x.1.2 + 1)), ())))))))))
noncomputable def f (K : Nat) (x : Args ps) : Option Res := pre K x
noncomputable def c (K : Nat) : Ctr := ⟨33, ps, rs, true, f K⟩
noncomputable def G (K : Nat) : List Ctr := []
noncomputable def L : List (Nat × List (Nat × List Coe)) := []
noncomputable def body : Code := bodyOf Try.f33
noncomputable abbrev ev (K : Nat) : Code → St → (Ex → St → Option Res) → Option Res := evK (G K) T L K
noncomputable abbrev fin : Ex → St → Option Res := finK T ps rs true Try.f33.results.toList
theorem eqn (K : Nat) (x : Args ps) : evF (G K) T L K Try.f33 ps rs true x = f K x := by kernel_rfl
end spec_l1Rd_pick
/-! ### spec.l51Gate -/
namespace spec_l51Gate
@[reducible] def ps : List PK := [.rd (.int .i64)]
@[reducible] def rs : List RK := [.v false .bool]
abbrev Res := Ress rs × Outs ps
noncomputable def pre (K : Nat) (x : Args ps) : Option Res := some ((decide ((Int.tmod x.1 4) < 3), ()), ())
noncomputable def f (K : Nat) (x : Args ps) : Option Res := pre K x
noncomputable def c (K : Nat) : Ctr := ⟨58, ps, rs, true, f K⟩
noncomputable def G (K : Nat) : List Ctr := []
noncomputable def L : List (Nat × List (Nat × List Coe)) := []
noncomputable def body : Code := bodyOf Try.f58
noncomputable abbrev ev (K : Nat) : Code → St → (Ex → St → Option Res) → Option Res := evK (G K) T L K
noncomputable abbrev fin : Ex → St → Option Res := finK T ps rs true Try.f58.results.toList
theorem eqn (K : Nat) (x : Args ps) : evF (G K) T L K Try.f58 ps rs true x = f K x := by kernel_rfl
end spec_l51Gate
/-! ### spec.l61Fact -/
namespace spec_l61Fact
@[reducible] def ps : List PK := [.iop t4, .rd (.int .i64)]
@[reducible] def rs : List RK := [.v false t2]
abbrev Res := Ress rs × Outs ps
noncomputable def pre (K : Nat) (x : Args ps) : Option Res := (spec_l1Rd_pick.f K (x.1, 4, ())).bind fun y1 => (spec_l1Rd_pick.f K (y1.2.1, 3, ())).bind fun y2 => (spec_l1Rd_pick.f K (y2.2.1, 12, ())).bind fun y3 => (spec_l1Rd_pick.f K (y3.2.1, 3, ())).bind fun y4 => (idx ([y2.1.1, y3.1.1, 999]) y4.1.1).bind fun _ => (idx ([y2.1.1, y3.1.1, 999]) (Int.toNat y4.1.1 : Nat)).bind fun y6 => (spec_l1Rd_pick.f K (y4.2.1, 4, ())).bind fun y7 => (spec_l51Gate.f K (wr .i64 ((wr .i64 (x.2.1 * 4)) + y1.1.1), ())).bind fun y8 => some (((wr .i64 ((wr .i64 (x.2.1 * 4)) + y1.1.1), (y6, (wr .i64 (1 + y7.1.1), y8.1.1))), ()), (y7.2.1, ()))
noncomputable def f (K : Nat) (x : Args ps) : Option Res := pre K x
noncomputable def c (K : Nat) : Ctr := ⟨52, ps, rs, true, f K⟩
noncomputable def G (K : Nat) : List Ctr := [spec_l1Rd_pick.c K, spec_l51Gate.c K]
noncomputable def L : List (Nat × List (Nat × List Coe)) := []
noncomputable def body : Code := bodyOf Try.f52
noncomputable abbrev ev (K : Nat) : Code → St → (Ex → St → Option Res) → Option Res := evK (G K) T L K
noncomputable abbrev fin : Ex → St → Option Res := finK T ps rs true Try.f52.results.toList
theorem eqn (K : Nat) (x : Args ps) : evF (G K) T L K Try.f52 ps rs true x = f K x := by kernel_rfl
end spec_l61Fact
/-! ### spec.l3Over -/
namespace spec_l3Over
@[reducible] def ps : List PK := [.rd t2, .rd t2]
@[reducible] def rs : List RK := [.v false .bool]
abbrev Res := Ress rs × Outs ps
noncomputable def pre (K : Nat) (x : Args ps) : Option Res := bif x.1.2.1 != x.2.1.2.1 then (some ((decide (x.1.2.1 > x.2.1.2.1), ()), ())) else (bif x.1.2.2.1 != x.2.1.2.2.1 then (some ((decide (x.1.2.2.1 > x.2.1.2.2.1), ()), ())) else (bif x.1.2.2.2 then (some ((!x.2.1.2.2.2, ()), ())) else (some ((false, ()), ()))))
noncomputable def f (K : Nat) (x : Args ps) : Option Res := pre K x
noncomputable def c (K : Nat) : Ctr := ⟨53, ps, rs, true, f K⟩
noncomputable def G (K : Nat) : List Ctr := []
noncomputable def L : List (Nat × List (Nat × List Coe)) := []
noncomputable def body : Code := bodyOf Try.f53
noncomputable abbrev ev (K : Nat) : Code → St → (Ex → St → Option Res) → Option Res := evK (G K) T L K
noncomputable abbrev fin : Ex → St → Option Res := finK T ps rs true Try.f53.results.toList
theorem eqn (K : Nat) (x : Args ps) : evF (G K) T L K Try.f53 ps rs true x = f K x := by kernel_rfl
end spec_l3Over
/-! ### laws.lhFacts -/
namespace laws_lhFacts
@[reducible] def ps : List PK := [.rd (.list 39 t2), .rd (.list 39 t2)]
@[reducible] def rs : List RK := [.v false .bool]
abbrev Res := Ress rs × Outs ps
abbrev A_l0 := List (Ty.den t2) × List (Ty.den t2) × Bool × Int
noncomputable def l0.step (K : Nat) (rec_l0 : A_l0 → Option Res) (a : A_l0) : Option Res := bif decide (a.2.2.2 < (List.length a.1 : Int)) then ((idx a.1 a.2.2.2).bind fun y1 => (idx a.2.1 a.2.2.2).bind fun y2 => bif !Ty.eqv t2 y1 y2 then (some ((false, ()), ())) else (rec_l0 (a.1, a.2.1, a.2.2.1, wr .i64 (a.2.2.2 + 1)))) else (some ((true, ()), ()))
noncomputable def l0 (K : Nat) : A_l0 → Option Res := iterate (fun rec_l0 a => l0.step K rec_l0 a) K
noncomputable def pre (K : Nat) (N_l0 : A_l0 → Option Res) (x : Args ps) : Option Res := bif (List.length x.1 : Int) != (List.length x.2.1 : Int) then (some ((false, ()), ())) else (N_l0 (x.1, x.2.1, false, 0))
noncomputable def f (K : Nat) (x : Args ps) : Option Res := pre K (l0 K) x
noncomputable def c (K : Nat) : Ctr := ⟨22, ps, rs, true, f K⟩
noncomputable def G (K : Nat) : List Ctr := []
noncomputable def live_l0 : List (Nat × List Coe) := [(0, [.ro true 39 t2]), (1, [.ro true 39 t2]), (4, [.keep]), (5, [.keep])]
noncomputable def L : List (Nat × List (Nat × List Coe)) := [(5, live_l0)]
noncomputable def body : Code := bodyOf Try.f22
noncomputable abbrev ev (K : Nat) : Code → St → (Ex → St → Option Res) → Option Res := evK (G K) T L K
noncomputable abbrev fin : Ex → St → Option Res := finK T ps rs true Try.f22.results.toList
noncomputable def S_l0 (a : A_l0) : St := mkSt [(0, ⟨0, .one, [.ro true 39 t2 a.1]⟩), (1, ⟨0, .one, [.ro true 39 t2 a.2.1]⟩), (4, ⟨0, .one, [.bool a.2.2.1]⟩), (5, ⟨0, .one, [.int .i64 a.2.2.2]⟩)]
noncomputable def k_l0 (K : Nat) : Ex → St → Option Res := kAt (ev K) body [1, 1, 0, 1, 0] fin
noncomputable def N_l0 (K : Nat) : A_l0 → Option Res := fun a => evLoop live_l0 (ev K (sub body [1, 1, 0, 1, 0, 0])) K (S_l0 a) (k_l0 K)
theorem h_l0 (K : Nat) (r_l0 : St → Option Res) (a : A_l0) : ev K (sub body [1, 1, 0, 1, 0, 0]) (S_l0 a) (kLoop live_l0 r_l0 (k_l0 K)) = l0.step K (fun a => r_l0 (S_l0 a)) a := by kernel_rfl
theorem ok_l0 (K : Nat) : N_l0 K = l0 K := funext fun a => evLoop_iter live_l0 (ev K (sub body [1, 1, 0, 1, 0, 0])) (k_l0 K) S_l0 (fun rec a => l0.step K rec a) (fun r_l0 a => (h_l0 K r_l0 a)) K a
theorem eqn (K : Nat) (x : Args ps) : evF (G K) T L K Try.f22 ps rs true x = f K x := (show evF (G K) T L K Try.f22 ps rs true x = pre K (N_l0 K) x by kernel_rfl).trans (by rw [ok_l0 K]; rfl)
end laws_lhFacts
/-! ### cmp.Or[int] -/
namespace cmp_Or_int
@[reducible] def ps : List PK := [.rd (.list 3 (.int .i64))]
@[reducible] def rs : List RK := [.v false (.int .i64)]
abbrev Res := Ress rs × Outs ps
abbrev A_l0 := Int × Int × List (Ty.den (.int .i64)) × Int × Int
noncomputable def l0.step (K : Nat) (rec_l0 : A_l0 → Option Res) (a : A_l0) : Option Res := bif decide (a.2.2.2.2 < a.2.2.2.1) then ((idx a.2.2.1 a.2.2.2.2).bind fun y1 => bif y1 != a.2.1 then (some ((y1, ()), ())) else (rec_l0 (a.1, a.2.1, a.2.2.1, a.2.2.2.1, wr .i64 (a.2.2.2.2 + 1)))) else (some ((a.2.1, ()), ()))
noncomputable def l0 (K : Nat) : A_l0 → Option Res := iterate (fun rec_l0 a => l0.step K rec_l0 a) K
noncomputable def pre (K : Nat) (N_l0 : A_l0 → Option Res) (x : Args ps) : Option Res := N_l0 (0, 0, x.1, (List.length x.1 : Int), 0)
noncomputable def f (K : Nat) (x : Args ps) : Option Res := pre K (l0 K) x
noncomputable def c (K : Nat) : Ctr := ⟨57, ps, rs, true, f K⟩
noncomputable def G (K : Nat) : List Ctr := []
noncomputable def live_l0 : List (Nat × List Coe) := [(2, [.keep]), (3, [.keep]), (6, [.ro true 3 (.int .i64)]), (7, [.keep]), (8, [.keep])]
noncomputable def L : List (Nat × List (Nat × List Coe)) := [(4, live_l0)]
noncomputable def body : Code := bodyOf Try.f57
noncomputable abbrev ev (K : Nat) : Code → St → (Ex → St → Option Res) → Option Res := evK (G K) T L K
noncomputable abbrev fin : Ex → St → Option Res := finK T ps rs true Try.f57.results.toList
noncomputable def S_l0 (a : A_l0) : St := mkSt [(2, ⟨0, .one, [.int .i64 a.1]⟩), (3, ⟨0, .one, [.int .i64 a.2.1]⟩), (6, ⟨0, .one, [.ro true 3 (.int .i64) a.2.2.1]⟩), (7, ⟨0, .one, [.int .i64 a.2.2.2.1]⟩), (8, ⟨0, .one, [.int .i64 a.2.2.2.2]⟩)]
noncomputable def k_l0 (K : Nat) : Ex → St → Option Res := kAt (ev K) body [1, 1, 0, 1, 0] fin
noncomputable def N_l0 (K : Nat) : A_l0 → Option Res := fun a => evLoop live_l0 (ev K (sub body [1, 1, 0, 1, 0, 0])) K (S_l0 a) (k_l0 K)
theorem h_l0 (K : Nat) (r_l0 : St → Option Res) (a : A_l0) : ev K (sub body [1, 1, 0, 1, 0, 0]) (S_l0 a) (kLoop live_l0 r_l0 (k_l0 K)) = l0.step K (fun a => r_l0 (S_l0 a)) a := by kernel_rfl
theorem ok_l0 (K : Nat) : N_l0 K = l0 K := funext fun a => evLoop_iter live_l0 (ev K (sub body [1, 1, 0, 1, 0, 0])) (k_l0 K) S_l0 (fun rec a => l0.step K rec a) (fun r_l0 a => (h_l0 K r_l0 a)) K a
theorem eqn (K : Nat) (x : Args ps) : evF (G K) T L K Try.f57 ps rs true x = f K x := (show evF (G K) T L K Try.f57 ps rs true x = pre K (N_l0 K) x by kernel_rfl).trans (by rw [ok_l0 K]; rfl)
end cmp_Or_int
/-! ### impl.Fact).compare -/
namespace impl_Fact_compare
@[reducible] def ps : List PK := [.rd t2, .rd t2]
@[reducible] def rs : List RK := [.v false (.int .i64)]
abbrev Res := Ress rs × Outs ps
noncomputable def pre (K : Nat) (x : Args ps) : Option Res := bif x.1.2.2.2 then (bif !x.2.1.2.2.2 then ((cmp_Compare_int.f K (x.1.1, x.2.1.1, ())).bind fun y1 => (cmp_Compare_int.f K (x.1.2.1, x.2.1.2.1, ())).bind fun y2 => (cmp_Compare_int.f K (x.1.2.2.1, x.2.1.2.2.1, ())).bind fun y3 => (cmp_Or_int.f K ([y1.1.1, y2.1.1, y3.1.1, 1], ())).bind fun y4 => some ((y4.1.1, ()), ())) else (bif x.2.1.2.2.2 then (bif !x.1.2.2.2 then ((cmp_Compare_int.f K (x.1.1, x.2.1.1, ())).bind fun y5 => (cmp_Compare_int.f K (x.1.2.1, x.2.1.2.1, ())).bind fun y6 => (cmp_Compare_int.f K (x.1.2.2.1, x.2.1.2.2.1, ())).bind fun y7 => (cmp_Or_int.f K ([y5.1.1, y6.1.1, y7.1.1, (-1)], ())).bind fun y8 => some ((y8.1.1, ()), ())) else ((cmp_Compare_int.f K (x.1.1, x.2.1.1, ())).bind fun y9 => (cmp_Compare_int.f K (x.1.2.1, x.2.1.2.1, ())).bind fun y10 => (cmp_Compare_int.f K (x.1.2.2.1, x.2.1.2.2.1, ())).bind fun y11 => (cmp_Or_int.f K ([y9.1.1, y10.1.1, y11.1.1, 0], ())).bind fun y12 => some ((y12.1.1, ()), ()))) else ((cmp_Compare_int.f K (x.1.1, x.2.1.1, ())).bind fun y13 => (cmp_Compare_int.f K (x.1.2.1, x.2.1.2.1, ())).bind fun y14 => (cmp_Compare_int.f K (x.1.2.2.1, x.2.1.2.2.1, ())).bind fun y15 => (cmp_Or_int.f K ([y13.1.1, y14.1.1, y15.1.1, 0], ())).bind fun y16 => some ((y16.1.1, ()), ())))) else (bif x.2.1.2.2.2 then (bif !x.1.2.2.2 then ((cmp_Compare_int.f K (x.1.1, x.2.1.1, ())).bind fun y17 => (cmp_Compare_int.f K (x.1.2.1, x.2.1.2.1, ())).bind fun y18 => (cmp_Compare_int.f K (x.1.2.2.1, x.2.1.2.2.1, ())).bind fun y19 => (cmp_Or_int.f K ([y17.1.1, y18.1.1, y19.1.1, (-1)], ())).bind fun y20 => some ((y20.1.1, ()), ())) else ((cmp_Compare_int.f K (x.1.1, x.2.1.1, ())).bind fun y21 => (cmp_Compare_int.f K (x.1.2.1, x.2.1.2.1, ())).bind fun y22 => (cmp_Compare_int.f K (x.1.2.2.1, x.2.1.2.2.1, ())).bind fun y23 => (cmp_Or_int.f K ([y21.1.1, y22.1.1, y23.1.1, 0], ())).bind fun y24 => some ((y24.1.1, ()), ()))) else ((cmp_Compare_int.f K (x.1.1, x.2.1.1, ())).bind fun y25 => (cmp_Compare_int.f K (x.1.2.1, x.2.1.2.1, ())).bind fun y26 => (cmp_Compare_int.f K (x.1.2.2.1, x.2.1.2.2.1, ())).bind fun y27 => (cmp_Or_int.f K ([y25.1.1, y26.1.1, y27.1.1, 0], ())).bind fun y28 => some ((y28.1.1, ()), ())))
noncomputable def f (K : Nat) (x : Args ps) : Option Res := pre K x
noncomputable def c (K : Nat) : Ctr := ⟨51, ps, rs, true, f K⟩
noncomputable def G (K : Nat) : List Ctr := [cmp_Compare_int.c K, cmp_Or_int.c K]
noncomputable def L : List (Nat × List (Nat × List Coe)) := []
noncomputable def body : Code := bodyOf Try.f51
noncomputable abbrev ev (K : Nat) : Code → St → (Ex → St → Option Res) → Option Res := evK (G K) T L K
noncomputable abbrev fin : Ex → St → Option Res := finK T ps rs true Try.f51.results.toList
theorem eqn (K : Nat) (x : Args ps) : evF (G K) T L K Try.f51 ps rs true x = f K x := by kernel_rfl
end impl_Fact_compare
end
end Go.Proofs.YtdjmnbdicpgmiaaEv
