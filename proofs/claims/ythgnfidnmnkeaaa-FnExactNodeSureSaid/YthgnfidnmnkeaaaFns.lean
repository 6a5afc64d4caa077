import Derived.Test.YthgnfidnmnkeaaaProg
import Derived.Test.YthgnfidnmnkeaaaEv0
set_option linter.unusedVariables false
set_option maxRecDepth 100000
namespace Go.Proofs.YthgnfidnmnkeaaaEv
open Go Go.Proofs
noncomputable section
@[reducible] def t0 : Ty := .pair (.int .i64) .bool
@[reducible] def t1 : Ty := .pair (.int .i64) t0
@[reducible] def t2 : Ty := .pair (.int .i64) t1
@[reducible] def t3 : Ty := .pair t2 (.int .i64)
@[reducible] def t4 : Ty := .pair (.int .i64) (.list 3 (.int .i64))
@[reducible] def t5 : Ty := .pair (.int .i64) t4
@[reducible] def t6 : Ty := .pair (.int .i64) t5
@[reducible] def t7 : Ty := .pair (.int .i64) (.int .i64)
@[reducible] def t8 : Ty := .pair (.int .i64) t7
@[reducible] def t9 : Ty := .pair (.int .i64) t8
@[reducible] def t10 : Ty := .pair t9 (.list 3 (.int .i64))
@[reducible] def t11 : Ty := .pair (.int .i64) t10
@[reducible] def t12 : Ty := .pair (.int .i64) (.list 62 t2)
@[reducible] def t13 : Ty := .pair (.list 123 t11) (.list 125 t12)
@[reducible] def t14 : Ty := .pair t9 t13
@[reducible] def t15 : Ty := .pair (.list 95 t6) t14
@[reducible] def t16 : Ty := .pair t2 t15
@[reducible] def t17 : Ty := .pair (.list 121 t3) t16
@[reducible] def t18 : Ty := .pair (.list 62 t2) t17
@[reducible] def t19 : Ty := .pair (.int .i64) t18
@[reducible] def t20 : Ty := .pair (.int .i64) t19
@[reducible] def t21 : Ty := .pair (.int .i64) t20
@[reducible] def t22 : Ty := .pair (.int .i64) t21
@[reducible] def t23 : Ty := .pair .bool t22
@[reducible] def t24 : Ty := .pair .bool t23
@[reducible] def t25 : Ty := .pair .bool t24
@[reducible] def t26 : Ty := .pair (.int .i64) t25
@[reducible] def t27 : Ty := .pair .str .bool
@[reducible] def t28 : Ty := .pair (.int .i64) t27
@[reducible] def t29 : Ty := .pair (.list 3 (.int .i64)) (.list 62 t2)
@[reducible] def t30 : Ty := .pair (.list 103 t28) t29
@[reducible] def t31 : Ty := .pair (.list 52 t26) t30
@[reducible] def t32 : Ty := .pair (.int .i64) (.list 127 t2)
@[reducible] def t33 : Ty := .pair (.list 114 t11) (.list 117 t32)
@[reducible] def t34 : Ty := .pair t9 t33
@[reducible] def t35 : Ty := .pair (.list 111 t6) t34
@[reducible] def t36 : Ty := .pair t2 t35
@[reducible] def t37 : Ty := .pair (.list 130 t3) t36
@[reducible] def t38 : Ty := .pair (.list 127 t2) t37
@[reducible] def t39 : Ty := .pair (.int .i64) t38
@[reducible] def t40 : Ty := .pair (.int .i64) t39
@[reducible] def t41 : Ty := .pair (.int .i64) t40
@[reducible] def t42 : Ty := .pair (.int .i64) t41
@[reducible] def t43 : Ty := .pair .bool t42
@[reducible] def t44 : Ty := .pair .bool t43
@[reducible] def t45 : Ty := .pair .bool t44
@[reducible] def t46 : Ty := .pair (.int .i64) t45
@[reducible] def ty_impl_World : Ty := t31
@[reducible] def ty_laws_Probe : Ty := t2
@[reducible] def ty_laws_Coord : Ty := t9
@[reducible] def ty_laws_Node : Ty := t46
@[reducible] def ty_impl_Probe : Ty := t2
@[reducible] def ty_impl_Coord : Ty := t9
@[reducible] def ty_impl_Node : Ty := t26
@[reducible] def ty_impl_Fact : Ty := t2
@[reducible] def ty_impl_Doubt : Ty := t6
@[reducible] def ty_impl_Flight : Ty := t28
@[reducible] def ty_laws_Doubt : Ty := t6
@[reducible] def ty_laws_Place : Ty := t11
@[reducible] def ty_laws_Foreign : Ty := t32
@[reducible] def ty_impl_Item : Ty := t3
@[reducible] def ty_impl_Place : Ty := t11
@[reducible] def ty_impl_Foreign : Ty := t12
@[reducible] def ty_laws_Fact : Ty := t2
@[reducible] def ty_laws_Item : Ty := t3
def Tl : List (TypeId × TI) := [(3, .int .i64), (4, .bool), (5, .int .u8), (9, .str), (22, .slice 52 t26 232), (23, .slice 103 t28 32), (24, .slice 3 (.int .i64) 8), (25, .slice 62 t2 32), (27, .struct t31 [(0, 1, false), (1, 1, false), (2, 1, false), (3, 1, false)]), (32, .slice 127 t2 32), (33, .slice 130 t3 40), (35, .struct t2 [(0, 1, false), (1, 1, false), (2, 1, false), (3, 1, false)]), (36, .slice 111 t6 48), (38, .struct t9 [(0, 1, false), (1, 1, false), (2, 1, false), (3, 1, false)]), (39, .slice 114 t11 64), (40, .slice 117 t32 32), (42, .struct t46 [(0, 1, false), (1, 1, false), (2, 1, false), (3, 1, false), (4, 1, false), (5, 1, false), (6, 1, false), (7, 1, false), (8, 1, false), (9, 1, false), (10, 4, true), (14, 1, false), (15, 4, true), (19, 1, false), (20, 1, false)]), (45, .slice 121 t3 40), (46, .struct t2 [(0, 1, false), (1, 1, false), (2, 1, false), (3, 1, false)]), (47, .slice 95 t6 48), (48, .struct t9 [(0, 1, false), (1, 1, false), (2, 1, false), (3, 1, false)]), (49, .slice 123 t11 64), (50, .slice 125 t12 32), (52, .struct t26 [(0, 1, false), (1, 1, false), (2, 1, false), (3, 1, false), (4, 1, false), (5, 1, false), (6, 1, false), (7, 1, false), (8, 1, false), (9, 1, false), (10, 4, true), (14, 1, false), (15, 4, true), (19, 1, false), (20, 1, false)]), (60, .fn), (62, .struct t2 [(0, 1, false), (1, 1, false), (2, 1, false), (3, 1, false)]), (95, .struct t6 [(0, 1, false), (1, 1, false), (2, 1, false), (3, 1, false)]), (98, .fn), (103, .struct t28 [(0, 1, false), (1, 1, false), (2, 1, false)]), (111, .struct t6 [(0, 1, false), (1, 1, false), (2, 1, false), (3, 1, false)]), (114, .struct t11 [(0, 1, false), (1, 4, true), (5, 1, false)]), (117, .struct t32 [(0, 1, false), (1, 1, false)]), (118, .fn), (121, .struct t3 [(0, 4, true), (4, 1, false)]), (123, .struct t11 [(0, 1, false), (1, 4, true), (5, 1, false)]), (125, .struct t12 [(0, 1, false), (1, 1, false)]), (127, .struct t2 [(0, 1, false), (1, 1, false), (2, 1, false), (3, 1, false)]), (130, .struct t3 [(0, 4, true), (4, 1, false)]), (137, .fn), (143, .slice 5 (.int .u8) 1), (153, .fn), (156, .int .u64)]
def T (t : TypeId) : TI := tlook Tl t
/-! ### spec.l1In -/
namespace spec_l1In
@[reducible] def ps : List PK := [.rd (.int .i64), .rd (.int .i64), .rd (.int .i64)]
@[reducible] def rs : List RK := [.v false .bool]
abbrev Res := Ress rs × Outs ps
noncomputable def pre (K : Nat) (x : Args ps) : Option Res := bif decide (x.1 ≥ x.2.1) then (some ((decide (x.1 ≤ x.2.2.1), ()), ())) else (some ((false, ()), ()))
noncomputable def f (K : Nat) (x : Args ps) : Option Res := pre K x
noncomputable def c (K : Nat) : Ctr := ⟨39, ps, rs, true, f K⟩
noncomputable def G (K : Nat) : List Ctr := []
noncomputable def L : List (Nat × List (Nat × List Coe)) := []
noncomputable def body : Code := bodyOf Try.f39
noncomputable abbrev ev (K : Nat) : Code → St → (Ex → St → Option Res) → Option Res := evK (G K) T L K
noncomputable abbrev fin : Ex → St → Option Res := finK T ps rs true Try.f39.results.toList
theorem eqn (K : Nat) (x : Args ps) : evF (G K) T L K Try.f39 ps rs true x = f K x := by kernel_rfl
end spec_l1In
/-! ### impl.in -/
namespace impl_in
@[reducible] def ps : List PK := [.rd (.int .i64), .rd (.int .i64), .rd (.int .i64)]
@[reducible] def rs : List RK := [.v false .bool]
abbrev Res := Ress rs × Outs ps
noncomputable def pre (K : Nat) (x : Args ps) : Option Res := bif decide (x.1 ≥ x.2.1) then (some ((decide (x.1 ≤ x.2.2.1), ()), ())) else (some ((false, ()), ()))
noncomputable def f (K : Nat) (x : Args ps) : Option Res := pre K x
noncomputable def c (K : Nat) : Ctr := ⟨58, ps, rs, true, f K⟩
noncomputable def G (K : Nat) : List Ctr := []
noncomputable def L : List (Nat × List (Nat × List Coe)) := []
noncomputable def body : Code := bodyOf Try.f58
noncomputable abbrev ev (K : Nat) : Code → St → (Ex → St → Option Res) → Option Res := evK (G K) T L K
noncomputable abbrev fin : Ex → St → Option Res := finK T ps rs true Try.f58.results.toList
theorem eqn (K : Nat) (x : Args ps) : evF (G K) T L K Try.f58 ps rs true x = f K x := by kernel_rfl
end impl_in
/-! ### impl.isNode -/
namespace impl_isNode
@[reducible] def ps : List PK := [.rd (.int .i64)]
@[reducible] def rs : List RK := [.v false .bool]
abbrev Res := Ress rs × Outs ps
noncomputable def pre (K : Nat) (x : Args ps) : Option Res := (impl_in.f K (x.1, 0, 7, ())).bind fun y1 => some ((y1.1.1, ()), ())
noncomputable def f (K : Nat) (x : Args ps) : Option Res := pre K x
noncomputable def c (K : Nat) : Ctr := ⟨57, ps, rs, true, f K⟩
noncomputable def G (K : Nat) : List Ctr := [impl_in.c K]
noncomputable def L : List (Nat × List (Nat × List Coe)) := []
noncomputable def body : Code := bodyOf Try.f57
noncomputable abbrev ev (K : Nat) : Code → St → (Ex → St → Option Res) → Option Res := evK (G K) T L K
noncomputable abbrev fin : Ex → St → Option Res := finK T ps rs true Try.f57.results.toList
theorem eqn (K : Nat) (x : Args ps) : evF (G K) T L K Try.f57 ps rs true x = f K x := by kernel_rfl
end impl_isNode
/-! ### laws.szFactS -/
namespace laws_szFactS
@[reducible] def ps : List PK := [.rd (.list 127 t2), .rd (.int .i64)]
@[reducible] def rs : List RK := [.v false (.int .i64)]
abbrev Res := Ress rs × Outs ps
noncomputable def pre (K : Nat) (x : Args ps) : Option Res := bif decide ((wr .i64 (x.2.1 - (List.length x.1 : Int))) < 0) then (some (((-1), ()), ())) else (some ((wr .i64 (x.2.1 - (List.length x.1 : Int)), ()), ()))
noncomputable def f (K : Nat) (x : Args ps) : Option Res := pre K x
noncomputable def c (K : Nat) : Ctr := ⟨34, ps, rs, true, f K⟩
noncomputable def G (K : Nat) : List Ctr := []
noncomputable def L : List (Nat × List (Nat × List Coe)) := []
noncomputable def body : Code := bodyOf Try.f34
noncomputable abbrev ev (K : Nat) : Code → St → (Ex → St → Option Res) → Option Res := evK (G K) T L K
noncomputable abbrev fin : Ex → St → Option Res := finK T ps rs true Try.f34.results.toList
theorem eqn (K : Nat) (x : Args ps) : evF (G K) T L K Try.f34 ps rs true x = f K x := by kernel_rfl
end laws_szFactS
/-! ### laws.szItemS -/
namespace laws_szItemS
@[reducible] def ps : List PK := [.rd (.list 130 t3), .rd (.int .i64)]
@[reducible] def rs : List RK := [.v false (.int .i64)]
abbrev Res := Ress rs × Outs ps
noncomputable def pre (K : Nat) (x : Args ps) : Option Res := bif decide ((wr .i64 (x.2.1 - (List.length x.1 : Int))) < 0) then (some (((-1), ()), ())) else (some ((wr .i64 (x.2.1 - (List.length x.1 : Int)), ()), ()))
noncomputable def f (K : Nat) (x : Args ps) : Option Res := pre K x
noncomputable def c (K : Nat) : Ctr := ⟨35, ps, rs, true, f K⟩
noncomputable def G (K : Nat) : List Ctr := []
noncomputable def L : List (Nat × List (Nat × List Coe)) := []
noncomputable def body : Code := bodyOf Try.f35
noncomputable abbrev ev (K : Nat) : Code → St → (Ex → St → Option Res) → Option Res := evK (G K) T L K
noncomputable abbrev fin : Ex → St → Option Res := finK T ps rs true Try.f35.results.toList
theorem eqn (K : Nat) (x : Args ps) : evF (G K) T L K Try.f35 ps rs true x = f K x := by kernel_rfl
end laws_szItemS
/-! ### laws.szIntS -/
namespace laws_szIntS
@[reducible] def ps : List PK := [.rd (.list 3 (.int .i64)), .rd (.int .i64)]
@[reducible] def rs : List RK := [.v false (.int .i64)]
abbrev Res := Ress rs × Outs ps
noncomputable def pre (K : Nat) (x : Args ps) : Option Res := bif decide ((wr .i64 (x.2.1 - (List.length x.1 : Int))) < 0) then (some (((-1), ()), ())) else (some ((wr .i64 (x.2.1 - (List.length x.1 : Int)), ()), ()))
noncomputable def f (K : Nat) (x : Args ps) : Option Res := pre K x
noncomputable def c (K : Nat) : Ctr := ⟨118, ps, rs, true, f K⟩
noncomputable def G (K : Nat) : List Ctr := []
noncomputable def L : List (Nat × List (Nat × List Coe)) := []
noncomputable def body : Code := bodyOf Try.f118
noncomputable abbrev ev (K : Nat) : Code → St → (Ex → St → Option Res) → Option Res := evK (G K) T L K
noncomputable abbrev fin : Ex → St → Option Res := finK T ps rs true Try.f118.results.toList
theorem eqn (K : Nat) (x : Args ps) : evF (G K) T L K Try.f118 ps rs true x = f K x := by kernel_rfl
end laws_szIntS
/-! ### laws.szDoubt -/
namespace laws_szDoubt
@[reducible] def ps : List PK := [.rd t6, .rd (.int .i64)]
@[reducible] def rs : List RK := [.v false (.int .i64)]
abbrev Res := Ress rs × Outs ps
noncomputable def pre (K : Nat) (x : Args ps) : Option Res := (laws_szIntS.f K (x.1.2.2.2, x.2.1, ())).bind fun y1 => bif decide (y1.1.1 < 0) then (some (((-1), ()), ())) else (some ((y1.1.1, ()), ()))
noncomputable def f (K : Nat) (x : Args ps) : Option Res := pre K x
noncomputable def c (K : Nat) : Ctr := ⟨89, ps, rs, true, f K⟩
noncomputable def G (K : Nat) : List Ctr := [laws_szIntS.c K]
noncomputable def L : List (Nat × List (Nat × List Coe)) := []
noncomputable def body : Code := bodyOf Try.f89
noncomputable abbrev ev (K : Nat) : Code → St → (Ex → St → Option Res) → Option Res := evK (G K) T L K
noncomputable abbrev fin : Ex → St → Option Res := finK T ps rs true Try.f89.results.toList
theorem eqn (K : Nat) (x : Args ps) : evF (G K) T L K Try.f89 ps rs true x = f K x := by kernel_rfl
end laws_szDoubt
/-! ### laws.szDoubtS -/
namespace laws_szDoubtS
@[reducible] def ps : List PK := [.rd (.list 111 t6), .rd (.int .i64)]
@[reducible] def rs : List RK := [.v false (.int .i64)]
abbrev Res := Ress rs × Outs ps
abbrev A_l0 := Int × Int
noncomputable def l0.step (K : Nat) (x : Args ps) (rec_l0 : A_l0 → Option Res) (a : A_l0) : Option Res := bif decide (a.2 < (List.length x.1 : Int)) then ((idx x.1 a.2).bind fun y1 => (laws_szDoubt.f K (y1, a.1, ())).bind fun y2 => bif decide (y2.1.1 < 0) then (some (((-1), ()), ())) else (rec_l0 (y2.1.1, wr .i64 (a.2 + 1)))) else (some ((a.1, ()), ()))
noncomputable def l0 (K : Nat) (x : Args ps) : A_l0 → Option Res := iterate (fun rec_l0 a => l0.step K x rec_l0 a) K
noncomputable def pre (K : Nat) (N_l0 : A_l0 → Option Res) (x : Args ps) : Option Res := bif decide ((wr .i64 (x.2.1 - (List.length x.1 : Int))) < 0) then (some (((-1), ()), ())) else (N_l0 (wr .i64 (x.2.1 - (List.length x.1 : Int)), 0))
noncomputable def f (K : Nat) (x : Args ps) : Option Res := pre K (l0 K x) x
noncomputable def c (K : Nat) : Ctr := ⟨36, ps, rs, true, f K⟩
noncomputable def G (K : Nat) : List Ctr := [laws_szDoubt.c K]
noncomputable def live_l0 : List (Nat × List Coe) := [(0, [.ro true 111 t6]), (1, [.keep]), (5, [.keep])]
noncomputable def L : List (Nat × List (Nat × List Coe)) := [(6, live_l0)]
noncomputable def body : Code := bodyOf Try.f36
noncomputable abbrev ev (K : Nat) : Code → St → (Ex → St → Option Res) → Option Res := evK (G K) T L K
noncomputable abbrev fin : Ex → St → Option Res := finK T ps rs true Try.f36.results.toList
noncomputable def S_l0 (x : Args ps) (a : A_l0) : St := mkSt [(0, ⟨0, .one, [.ro true 111 t6 x.1]⟩), (1, ⟨0, .one, [.int .i64 a.1]⟩), (5, ⟨0, .one, [.int .i64 a.2]⟩)]
noncomputable def k_l0 (K : Nat) (x : Args ps) : Ex → St → Option Res := kAt (ev K) body [1, 1, 1, 0, 1, 0] fin
noncomputable def N_l0 (K : Nat) (x : Args ps) : A_l0 → Option Res := fun a => evLoop live_l0 (ev K (sub body [1, 1, 1, 0, 1, 0, 0])) K (S_l0 x a) (k_l0 K x)
theorem h_l0 (K : Nat) (x : Args ps) (r_l0 : St → Option Res) (a : A_l0) : ev K (sub body [1, 1, 1, 0, 1, 0, 0]) (S_l0 x a) (kLoop live_l0 r_l0 (k_l0 K x)) = l0.step K x (fun a => r_l0 (S_l0 x a)) a := by kernel_rfl
theorem ok_l0 (K : Nat) (x : Args ps) : N_l0 K x = l0 K x := funext fun a => evLoop_iter live_l0 (ev K (sub body [1, 1, 1, 0, 1, 0, 0])) (k_l0 K x) (S_l0 x) (fun rec a => l0.step K x rec a) (fun r_l0 a => (h_l0 K x r_l0 a)) K a
theorem eqn (K : Nat) (x : Args ps) : evF (G K) T L K Try.f36 ps rs true x = f K x := (show evF (G K) T L K Try.f36 ps rs true x = pre K (N_l0 K x) x by kernel_rfl).trans (by rw [ok_l0 K x]; rfl)
end laws_szDoubtS
/-! ### laws.szPlace -/
namespace laws_szPlace
@[reducible] def ps : List PK := [.rd t11, .rd (.int .i64)]
@[reducible] def rs : List RK := [.v false (.int .i64)]
abbrev Res := Ress rs × Outs ps
noncomputable def pre (K : Nat) (x : Args ps) : Option Res := (laws_szIntS.f K (x.1.2.2, x.2.1, ())).bind fun y1 => bif decide (y1.1.1 < 0) then (some (((-1), ()), ())) else (some ((y1.1.1, ()), ()))
noncomputable def f (K : Nat) (x : Args ps) : Option Res := pre K x
noncomputable def c (K : Nat) : Ctr := ⟨90, ps, rs, true, f K⟩
noncomputable def G (K : Nat) : List Ctr := [laws_szIntS.c K]
noncomputable def L : List (Nat × List (Nat × List Coe)) := []
noncomputable def body : Code := bodyOf Try.f90
noncomputable abbrev ev (K : Nat) : Code → St → (Ex → St → Option Res) → Option Res := evK (G K) T L K
noncomputable abbrev fin : Ex → St → Option Res := finK T ps rs true Try.f90.results.toList
theorem eqn (K : Nat) (x : Args ps) : evF (G K) T L K Try.f90 ps rs true x = f K x := by kernel_rfl
end laws_szPlace
/-! ### laws.szPlaceS -/
namespace laws_szPlaceS
@[reducible] def ps : List PK := [.rd (.list 114 t11), .rd (.int .i64)]
@[reducible] def rs : List RK := [.v false (.int .i64)]
abbrev Res := Ress rs × Outs ps
abbrev A_l0 := Int × Int
noncomputable def l0.step (K : Nat) (x : Args ps) (rec_l0 : A_l0 → Option Res) (a : A_l0) : Option Res := bif decide (a.2 < (List.length x.1 : Int)) then ((idx x.1 a.2).bind fun y1 => (laws_szPlace.f K (y1, a.1, ())).bind fun y2 => bif decide (y2.1.1 < 0) then (some (((-1), ()), ())) else (rec_l0 (y2.1.1, wr .i64 (a.2 + 1)))) else (some ((a.1, ()), ()))
noncomputable def l0 (K : Nat) (x : Args ps) : A_l0 → Option Res := iterate (fun rec_l0 a => l0.step K x rec_l0 a) K
noncomputable def pre (K : Nat) (N_l0 : A_l0 → Option Res) (x : Args ps) : Option Res := bif decide ((wr .i64 (x.2.1 - (List.length x.1 : Int))) < 0) then (some (((-1), ()), ())) else (N_l0 (wr .i64 (x.2.1 - (List.length x.1 : Int)), 0))
noncomputable def f (K : Nat) (x : Args ps) : Option Res := pre K (l0 K x) x
noncomputable def c (K : Nat) : Ctr := ⟨37, ps, rs, true, f K⟩
noncomputable def G (K : Nat) : List Ctr := [laws_szPlace.c K]
noncomputable def live_l0 : List (Nat × List Coe) := [(0, [.ro true 114 t11]), (1, [.keep]), (5, [.keep])]
noncomputable def L : List (Nat × List (Nat × List Coe)) := [(6, live_l0)]
noncomputable def body : Code := bodyOf Try.f37
noncomputable abbrev ev (K : Nat) : Code → St → (Ex → St → Option Res) → Option Res := evK (G K) T L K
noncomputable abbrev fin : Ex → St → Option Res := finK T ps rs true Try.f37.results.toList
noncomputable def S_l0 (x : Args ps) (a : A_l0) : St := mkSt [(0, ⟨0, .one, [.ro true 114 t11 x.1]⟩), (1, ⟨0, .one, [.int .i64 a.1]⟩), (5, ⟨0, .one, [.int .i64 a.2]⟩)]
noncomputable def k_l0 (K : Nat) (x : Args ps) : Ex → St → Option Res := kAt (ev K) body [1, 1, 1, 0, 1, 0] fin
noncomputable def N_l0 (K : Nat) (x : Args ps) : A_l0 → Option Res := fun a => evLoop live_l0 (ev K (sub body [1, 1, 1, 0, 1, 0, 0])) K (S_l0 x a) (k_l0 K x)
theorem h_l0 (K : Nat) (x : Args ps) (r_l0 : St → Option Res) (a : A_l0) : ev K (sub body [1, 1, 1, 0, 1, 0, 0]) (S_l0 x a) (kLoop live_l0 r_l0 (k_l0 K x)) = l0.step K x (fun a => r_l0 (S_l0 x a)) a := by kernel_rfl
theorem ok_l0 (K : Nat) (x : Args ps) : N_l0 K x = l0 K x := funext fun a => evLoop_iter live_l0 (ev K (sub body [1, 1, 1, 0, 1, 0, 0])) (k_l0 K x) (S_l0 x) (fun rec a => l0.step K x rec a) (fun r_l0 a => (h_l0 K x r_l0 a)) K a
theorem eqn (K : Nat) (x : Args ps) : evF (G K) T L K Try.f37 ps rs true x = f K x := (show evF (G K) T L K Try.f37 ps rs true x = pre K (N_l0 K x) x by kernel_rfl).trans (by rw [ok_l0 K x]; rfl)
end laws_szPlaceS
/-! ### laws.szForeign -/
namespace laws_szForeign
@[reducible] def ps : List PK := [.rd t32, .rd (.int .i64)]
@[reducible] def rs : List RK := [.v false (.int .i64)]
abbrev Res := Ress rs × Outs ps
noncomputable def pre (K : Nat) (x : Args ps) : Option Res := (laws_szFactS.f K (x.1.2, x.2.1, ())).bind fun y1 => bif decide (y1.1.1 < 0) then (some (((-1), ()), ())) else (some ((y1.1.1, ()), ()))
noncomputable def f (K : Nat) (x : Args ps) : Option Res := pre K x
noncomputable def c (K : Nat) : Ctr := ⟨91, ps, rs, true, f K⟩
noncomputable def G (K : Nat) : List Ctr := [laws_szFactS.c K]
noncomputable def L : List (Nat × List (Nat × List Coe)) := []
noncomputable def body : Code := bodyOf Try.f91
noncomputable abbrev ev (K : Nat) : Code → St → (Ex → St → Option Res) → Option Res := evK (G K) T L K
noncomputable abbrev fin : Ex → St → Option Res := finK T ps rs true Try.f91.results.toList
theorem eqn (K : Nat) (x : Args ps) : evF (G K) T L K Try.f91 ps rs true x = f K x := by kernel_rfl
end laws_szForeign
/-! ### laws.szForeignS -/
namespace laws_szForeignS
@[reducible] def ps : List PK := [.rd (.list 117 t32), .rd (.int .i64)]
@[reducible] def rs : List RK := [.v false (.int .i64)]
abbrev Res := Ress rs × Outs ps
abbrev A_l0 := Int × Int
noncomputable def l0.step (K : Nat) (x : Args ps) (rec_l0 : A_l0 → Option Res) (a : A_l0) : Option Res := bif decide (a.2 < (List.length x.1 : Int)) then ((idx x.1 a.2).bind fun y1 => (laws_szForeign.f K (y1, a.1, ())).bind fun y2 => bif decide (y2.1.1 < 0) then (some (((-1), ()), ())) else (rec_l0 (y2.1.1, wr .i64 (a.2 + 1)))) else (some ((a.1, ()), ()))
noncomputable def l0 (K : Nat) (x : Args ps) : A_l0 → Option Res := iterate (fun rec_l0 a => l0.step K x rec_l0 a) K
noncomputable def pre (K : Nat) (N_l0 : A_l0 → Option Res) (x : Args ps) : Option Res := bif decide ((wr .i64 (x.2.1 - (List.length x.1 : Int))) < 0) then (some (((-1), ()), ())) else (N_l0 (wr .i64 (x.2.1 - (List.length x.1 : Int)), 0))
noncomputable def f (K : Nat) (x : Args ps) : Option Res := pre K (l0 K x) x
noncomputable def c (K : Nat) : Ctr := ⟨38, ps, rs, true, f K⟩
noncomputable def G (K : Nat) : List Ctr := [laws_szForeign.c K]
noncomputable def live_l0 : List (Nat × List Coe) := [(0, [.ro true 117 t32]), (1, [.keep]), (5, [.keep])]
noncomputable def L : List (Nat × List (Nat × List Coe)) := [(6, live_l0)]
noncomputable def body : Code := bodyOf Try.f38
noncomputable abbrev ev (K : Nat) : Code → St → (Ex → St → Option Res) → Option Res := evK (G K) T L K
noncomputable abbrev fin : Ex → St → Option Res := finK T ps rs true Try.f38.results.toList
noncomputable def S_l0 (x : Args ps) (a : A_l0) : St := mkSt [(0, ⟨0, .one, [.ro true 117 t32 x.1]⟩), (1, ⟨0, .one, [.int .i64 a.1]⟩), (5, ⟨0, .one, [.int .i64 a.2]⟩)]
noncomputable def k_l0 (K : Nat) (x : Args ps) : Ex → St → Option Res := kAt (ev K) body [1, 1, 1, 0, 1, 0] fin
noncomputable def N_l0 (K : Nat) (x : Args ps) : A_l0 → Option Res := fun a => evLoop live_l0 (ev K (sub body [1, 1, 1, 0, 1, 0, 0])) K (S_l0 x a) (k_l0 K x)
theorem h_l0 (K : Nat) (x : Args ps) (r_l0 : St → Option Res) (a : A_l0) : ev K (sub body [1, 1, 1, 0, 1, 0, 0]) (S_l0 x a) (kLoop live_l0 r_l0 (k_l0 K x)) = l0.step K x (fun a => r_l0 (S_l0 x a)) a := by kernel_rfl
theorem ok_l0 (K : Nat) (x : Args ps) : N_l0 K x = l0 K x := funext fun a => evLoop_iter live_l0 (ev K (sub body [1, 1, 1, 0, 1, 0, 0])) (k_l0 K x) (S_l0 x) (fun rec a => l0.step K x rec a) (fun r_l0 a => (h_l0 K x r_l0 a)) K a
theorem eqn (K : Nat) (x : Args ps) : evF (G K) T L K Try.f38 ps rs true x = f K x := (show evF (G K) T L K Try.f38 ps rs true x = pre K (N_l0 K x) x by kernel_rfl).trans (by rw [ok_l0 K x]; rfl)
end laws_szForeignS
/-! ### laws.szNode -/
namespace laws_szNode
@[reducible] def ps : List PK := [.rd t46, .rd (.int .i64)]
@[reducible] def rs : List RK := [.v false (.int .i64)]
abbrev Res := Ress rs × Outs ps
noncomputable def pre (K : Nat) (x : Args ps) : Option Res := (laws_szFactS.f K (x.1.2.2.2.2.2.2.2.2.1, x.2.1, ())).bind fun y1 => bif decide (y1.1.1 < 0) then (some (((-1), ()), ())) else ((laws_szItemS.f K (x.1.2.2.2.2.2.2.2.2.2.1, y1.1.1, ())).bind fun y2 => bif decide (y2.1.1 < 0) then (some (((-1), ()), ())) else ((laws_szDoubtS.f K (x.1.2.2.2.2.2.2.2.2.2.2.2.1, y2.1.1, ())).bind fun y3 => bif decide (y3.1.1 < 0) then (some (((-1), ()), ())) else ((laws_szPlaceS.f K (x.1.2.2.2.2.2.2.2.2.2.2.2.2.2.1, y3.1.1, ())).bind fun y4 => bif decide (y4.1.1 < 0) then (some (((-1), ()), ())) else ((laws_szForeignS.f K (x.1.2.2.2.2.2.2.2.2.2.2.2.2.2.2, y4.1.1, ())).bind fun y5 => bif decide (y5.1.1 < 0) then (some (((-1), ()), ())) else (some ((y5.1.1, ()), ()))))))
noncomputable def f (K : Nat) (x : Args ps) : Option Res := pre K x
noncomputable def c (K : Nat) : Ctr := ⟨11, ps, rs, true, f K⟩
noncomputable def G (K : Nat) : List Ctr := [laws_szFactS.c K, laws_szItemS.c K, laws_szDoubtS.c K, laws_szPlaceS.c K, laws_szForeignS.c K]
noncomputable def L : List (Nat × List (Nat × List Coe)) := []
noncomputable def body : Code := bodyOf Try.f11
noncomputable abbrev ev (K : Nat) : Code → St → (Ex → St → Option Res) → Option Res := evK (G K) T L K
noncomputable abbrev fin : Ex → St → Option Res := finK T ps rs true Try.f11.results.toList
theorem eqn (K : Nat) (x : Args ps) : evF (G K) T L K Try.f11 ps rs true x = f K x := by kernel_rfl
end laws_szNode
/-! ### laws.toFact -/
namespace laws_toFact
@[reducible] def ps : List PK := [.rd t2]
@[reducible] def rs : List RK := [.v false t2]
abbrev Res := Ress rs × Outs ps
noncomputable def pre (K : Nat) (x : Args ps) : Option Res := some ((x.1, ()), ())
noncomputable def f (K : Nat) (x : Args ps) : Option Res := pre K x
noncomputable def c (K : Nat) : Ctr := ⟨96, ps, rs, true, f K⟩
noncomputable def G (K : Nat) : List Ctr := []
noncomputable def L : List (Nat × List (Nat × List Coe)) := []
noncomputable def body : Code := bodyOf Try.f96
noncomputable abbrev ev (K : Nat) : Code → St → (Ex → St → Option Res) → Option Res := evK (G K) T L K
noncomputable abbrev fin : Ex → St → Option Res := finK T ps rs true Try.f96.results.toList
theorem eqn (K : Nat) (x : Args ps) : evF (G K) T L K Try.f96 ps rs true x = f K x := by kernel_rfl
end laws_toFact
/-! ### laws.toFactS -/
namespace laws_toFactS
@[reducible] def ps : List PK := [.rd (.list 127 t2)]
@[reducible] def rs : List RK := [.v true (.list 62 t2)]
abbrev Res := Ress rs × Outs ps
abbrev A_l0 := List (Ty.den t2) × Int
noncomputable def l0.step (K : Nat) (x : Args ps) (rec_l0 : A_l0 → Option Res) (a : A_l0) : Option Res := bif decide (a.2 < (List.length x.1 : Int)) then ((idx x.1 a.2).bind fun y1 => (laws_toFact.f K (y1, ())).bind fun y2 => (idx a.1 a.2).bind fun _ => (idx a.1 (Int.toNat a.2 : Nat)).bind fun y4 => rec_l0 (a.1.set (Int.toNat a.2) y2.1.1, wr .i64 (a.2 + 1))) else (some ((a.1, ()), ()))
noncomputable def l0 (K : Nat) (x : Args ps) : A_l0 → Option Res := iterate (fun rec_l0 a => l0.step K x rec_l0 a) K
noncomputable def pre (K : Nat) (N_l0 : A_l0 → Option Res) (x : Args ps) : Option Res := bif decide (0 ≤ (List.length x.1 : Int)) && decide ((List.length x.1 : Int) = (List.length x.1 : Int)) && decide ((List.length x.1 : Int) * (32 : Nat) ≤ sizeK) then (N_l0 (List.replicate (Int.toNat (List.length x.1 : Int)) (0, (0, (0, false))), 0)) else none
noncomputable def f (K : Nat) (x : Args ps) : Option Res := pre K (l0 K x) x
noncomputable def c (K : Nat) : Ctr := ⟨50, ps, rs, true, f K⟩
noncomputable def G (K : Nat) : List Ctr := [laws_toFact.c K]
noncomputable def live_l0 : List (Nat × List Coe) := [(0, [.ro true 127 t2]), (3, [.own false 62 t2]), (4, [.keep])]
noncomputable def L : List (Nat × List (Nat × List Coe)) := [(4, live_l0)]
noncomputable def body : Code := bodyOf Try.f50
noncomputable abbrev ev (K : Nat) : Code → St → (Ex → St → Option Res) → Option Res := evK (G K) T L K
noncomputable abbrev fin : Ex → St → Option Res := finK T ps rs true Try.f50.results.toList
noncomputable def S_l0 (x : Args ps) (a : A_l0) : St := mkSt [(0, ⟨0, .one, [.ro true 127 t2 x.1]⟩), (3, ⟨0, .one, [.own false 62 t2 a.1]⟩), (4, ⟨0, .one, [.int .i64 a.2]⟩)]
noncomputable def k_l0 (K : Nat) (x : Args ps) : Ex → St → Option Res := kAt (ev K) body [1, 1, 0, 1, 0] fin
noncomputable def N_l0 (K : Nat) (x : Args ps) : A_l0 → Option Res := fun a => evLoop live_l0 (ev K (sub body [1, 1, 0, 1, 0, 0])) K (S_l0 x a) (k_l0 K x)
theorem h_l0 (K : Nat) (x : Args ps) (r_l0 : St → Option Res) (a : A_l0) : ev K (sub body [1, 1, 0, 1, 0, 0]) (S_l0 x a) (kLoop live_l0 r_l0 (k_l0 K x)) = l0.step K x (fun a => r_l0 (S_l0 x a)) a := by kernel_rfl
theorem ok_l0 (K : Nat) (x : Args ps) : N_l0 K x = l0 K x := funext fun a => evLoop_iter live_l0 (ev K (sub body [1, 1, 0, 1, 0, 0])) (k_l0 K x) (S_l0 x) (fun rec a => l0.step K x rec a) (fun r_l0 a => (h_l0 K x r_l0 a)) K a
theorem eqn (K : Nat) (x : Args ps) : evF (G K) T L K Try.f50 ps rs true x = f K x := (show evF (G K) T L K Try.f50 ps rs true x = pre K (N_l0 K x) x by kernel_rfl).trans (by rw [ok_l0 K x]; rfl)
end laws_toFactS
/-! ### laws.toItem -/
namespace laws_toItem
@[reducible] def ps : List PK := [.rd t3]
@[reducible] def rs : List RK := [.v false t3]
abbrev Res := Ress rs × Outs ps
noncomputable def pre (K : Nat) (x : Args ps) : Option Res := (laws_toFact.f K (x.1.1, ())).bind fun y1 => some (((y1.1.1, x.1.2), ()), ())
noncomputable def f (K : Nat) (x : Args ps) : Option Res := pre K x
noncomputable def c (K : Nat) : Ctr := ⟨97, ps, rs, true, f K⟩
noncomputable def G (K : Nat) : List Ctr := [laws_toFact.c K]
noncomputable def L : List (Nat × List (Nat × List Coe)) := []
noncomputable def body : Code := bodyOf Try.f97
noncomputable abbrev ev (K : Nat) : Code → St → (Ex → St → Option Res) → Option Res := evK (G K) T L K
noncomputable abbrev fin : Ex → St → Option Res := finK T ps rs true Try.f97.results.toList
theorem eqn (K : Nat) (x : Args ps) : evF (G K) T L K Try.f97 ps rs true x = f K x := by kernel_rfl
end laws_toItem
/-! ### laws.toItemS -/
namespace laws_toItemS
@[reducible] def ps : List PK := [.rd (.list 130 t3)]
@[reducible] def rs : List RK := [.v true (.list 121 t3)]
abbrev Res := Ress rs × Outs ps
abbrev A_l0 := List (Ty.den t3) × Int
noncomputable def l0.step (K : Nat) (x : Args ps) (rec_l0 : A_l0 → Option Res) (a : A_l0) : Option Res := bif decide (a.2 < (List.length x.1 : Int)) then ((idx x.1 a.2).bind fun y1 => (laws_toItem.f K (y1, ())).bind fun y2 => (idx a.1 a.2).bind fun _ => (idx a.1 (Int.toNat a.2 : Nat)).bind fun y4 => rec_l0 (a.1.set (Int.toNat a.2) y2.1.1, wr .i64 (a.2 + 1))) else (some ((a.1, ()), ()))
noncomputable def l0 (K : Nat) (x : Args ps) : A_l0 → Option Res := iterate (fun rec_l0 a => l0.step K x rec_l0 a) K
noncomputable def pre (K : Nat) (N_l0 : A_l0 → Option Res) (x : Args ps) : Option Res := bif decide (0 ≤ (List.length x.1 : Int)) && decide ((List.length x.1 : Int) = (List.length x.1 : Int)) && decide ((List.length x.1 : Int) * (40 : Nat) ≤ sizeK) then (N_l0 (List.replicate (Int.toNat (List.length x.1 : Int)) ((0, (0, (0, false))), 0), 0)) else none
noncomputable def f (K : Nat) (x : Args ps) : Option Res := pre K (l0 K x) x
noncomputable def c (K : Nat) : Ctr := ⟨51, ps, rs, true, f K⟩
noncomputable def G (K : Nat) : List Ctr := [laws_toItem.c K]
noncomputable def live_l0 : List (Nat × List Coe) := [(0, [.ro true 130 t3]), (3, [.own false 121 t3]), (4, [.keep])]
noncomputable def L : List (Nat × List (Nat × List Coe)) := [(4, live_l0)]
noncomputable def body : Code := bodyOf Try.f51
noncomputable abbrev ev (K : Nat) : Code → St → (Ex → St → Option Res) → Option Res := evK (G K) T L K
noncomputable abbrev fin : Ex → St → Option Res := finK T ps rs true Try.f51.results.toList
noncomputable def S_l0 (x : Args ps) (a : A_l0) : St := mkSt [(0, ⟨0, .one, [.ro true 130 t3 x.1]⟩), (3, ⟨0, .one, [.own false 121 t3 a.1]⟩), (4, ⟨0, .one, [.int .i64 a.2]⟩)]
noncomputable def k_l0 (K : Nat) (x : Args ps) : Ex → St → Option Res := kAt (ev K) body [1, 1, 0, 1, 0] fin
noncomputable def N_l0 (K : Nat) (x : Args ps) : A_l0 → Option Res := fun a => evLoop live_l0 (ev K (sub body [1, 1, 0, 1, 0, 0])) K (S_l0 x a) (k_l0 K x)
theorem h_l0 (K : Nat) (x : Args ps) (r_l0 : St → Option Res) (a : A_l0) : ev K (sub body [1, 1, 0, 1, 0, 0]) (S_l0 x a) (kLoop live_l0 r_l0 (k_l0 K x)) = l0.step K x (fun a => r_l0 (S_l0 x a)) a := by kernel_rfl
theorem ok_l0 (K : Nat) (x : Args ps) : N_l0 K x = l0 K x := funext fun a => evLoop_iter live_l0 (ev K (sub body [1, 1, 0, 1, 0, 0])) (k_l0 K x) (S_l0 x) (fun rec a => l0.step K x rec a) (fun r_l0 a => (h_l0 K x r_l0 a)) K a
theorem eqn (K : Nat) (x : Args ps) : evF (G K) T L K Try.f51 ps rs true x = f K x := (show evF (G K) T L K Try.f51 ps rs true x = pre K (N_l0 K x) x by kernel_rfl).trans (by rw [ok_l0 K x]; rfl)
end laws_toItemS
/-! ### laws.toProbe -/
namespace laws_toProbe
@[reducible] def ps : List PK := [.rd t2]
@[reducible] def rs : List RK := [.v false t2]
abbrev Res := Ress rs × Outs ps
noncomputable def pre (K : Nat) (x : Args ps) : Option Res := some ((x.1, ()), ())
noncomputable def f (K : Nat) (x : Args ps) : Option Res := pre K x
noncomputable def c (K : Nat) : Ctr := ⟨52, ps, rs, true, f K⟩
noncomputable def G (K : Nat) : List Ctr := []
noncomputable def L : List (Nat × List (Nat × List Coe)) := []
noncomputable def body : Code := bodyOf Try.f52
noncomputable abbrev ev (K : Nat) : Code → St → (Ex → St → Option Res) → Option Res := evK (G K) T L K
noncomputable abbrev fin : Ex → St → Option Res := finK T ps rs true Try.f52.results.toList
theorem eqn (K : Nat) (x : Args ps) : evF (G K) T L K Try.f52 ps rs true x = f K x := by kernel_rfl
end laws_toProbe
/-! ### laws.toIntS -/
namespace laws_toIntS
@[reducible] def ps : List PK := [.rd (.list 3 (.int .i64))]
@[reducible] def rs : List RK := [.v true (.list 3 (.int .i64))]
abbrev Res := Ress rs × Outs ps
abbrev A_l0 := List (Ty.den (.int .i64)) × Int
noncomputable def l0.step (K : Nat) (x : Args ps) (rec_l0 : A_l0 → Option Res) (a : A_l0) : Option Res := bif decide (a.2 < (List.length x.1 : Int)) then ((idx x.1 a.2).bind fun y1 => (idx a.1 a.2).bind fun _ => (idx a.1 (Int.toNat a.2 : Nat)).bind fun y3 => rec_l0 (a.1.set (Int.toNat a.2) y1, wr .i64 (a.2 + 1))) else (some ((a.1, ()), ()))
noncomputable def l0 (K : Nat) (x : Args ps) : A_l0 → Option Res := iterate (fun rec_l0 a => l0.step K x rec_l0 a) K
noncomputable def pre (K : Nat) (N_l0 : A_l0 → Option Res) (x : Args ps) : Option Res := bif decide (0 ≤ (List.length x.1 : Int)) && decide ((List.length x.1 : Int) = (List.length x.1 : Int)) && decide ((List.length x.1 : Int) * (8 : Nat) ≤ sizeK) then (N_l0 (List.replicate (Int.toNat (List.length x.1 : Int)) 0, 0)) else none
noncomputable def f (K : Nat) (x : Args ps) : Option Res := pre K (l0 K x) x
noncomputable def c (K : Nat) : Ctr := ⟨119, ps, rs, true, f K⟩
noncomputable def G (K : Nat) : List Ctr := []
noncomputable def live_l0 : List (Nat × List Coe) := [(0, [.ro true 3 (.int .i64)]), (3, [.own false 3 (.int .i64)]), (4, [.keep])]
noncomputable def L : List (Nat × List (Nat × List Coe)) := [(4, live_l0)]
noncomputable def body : Code := bodyOf Try.f119
noncomputable abbrev ev (K : Nat) : Code → St → (Ex → St → Option Res) → Option Res := evK (G K) T L K
noncomputable abbrev fin : Ex → St → Option Res := finK T ps rs true Try.f119.results.toList
noncomputable def S_l0 (x : Args ps) (a : A_l0) : St := mkSt [(0, ⟨0, .one, [.ro true 3 (.int .i64) x.1]⟩), (3, ⟨0, .one, [.own false 3 (.int .i64) a.1]⟩), (4, ⟨0, .one, [.int .i64 a.2]⟩)]
noncomputable def k_l0 (K : Nat) (x : Args ps) : Ex → St → Option Res := kAt (ev K) body [1, 1, 0, 1, 0] fin
noncomputable def N_l0 (K : Nat) (x : Args ps) : A_l0 → Option Res := fun a => evLoop live_l0 (ev K (sub body [1, 1, 0, 1, 0, 0])) K (S_l0 x a) (k_l0 K x)
theorem h_l0 (K : Nat) (x : Args ps) (r_l0 : St → Option Res) (a : A_l0) : ev K (sub body [1, 1, 0, 1, 0, 0]) (S_l0 x a) (kLoop live_l0 r_l0 (k_l0 K x)) = l0.step K x (fun a => r_l0 (S_l0 x a)) a := by kernel_rfl
theorem ok_l0 (K : Nat) (x : Args ps) : N_l0 K x = l0 K x := funext fun a => evLoop_iter live_l0 (ev K (sub body [1, 1, 0, 1, 0, 0])) (k_l0 K x) (S_l0 x) (fun rec a => l0.step K x rec a) (fun r_l0 a => (h_l0 K x r_l0 a)) K a
theorem eqn (K : Nat) (x : Args ps) : evF (G K) T L K Try.f119 ps rs true x = f K x := (show evF (G K) T L K Try.f119 ps rs true x = pre K (N_l0 K x) x by kernel_rfl).trans (by rw [ok_l0 K x]; rfl)
end laws_toIntS
/-! ### laws.toDoubt -/
namespace laws_toDoubt
@[reducible] def ps : List PK := [.rd t6]
@[reducible] def rs : List RK := [.v true t6]
abbrev Res := Ress rs × Outs ps
noncomputable def pre (K : Nat) (x : Args ps) : Option Res := (laws_toIntS.f K (x.1.2.2.2, ())).bind fun y1 => some (((x.1.1, (x.1.2.1, (x.1.2.2.1, y1.1.1))), ()), ())
noncomputable def f (K : Nat) (x : Args ps) : Option Res := pre K x
noncomputable def c (K : Nat) : Ctr := ⟨98, ps, rs, true, f K⟩
noncomputable def G (K : Nat) : List Ctr := [laws_toIntS.c K]
noncomputable def L : List (Nat × List (Nat × List Coe)) := []
noncomputable def body : Code := bodyOf Try.f98
noncomputable abbrev ev (K : Nat) : Code → St → (Ex → St → Option Res) → Option Res := evK (G K) T L K
noncomputable abbrev fin : Ex → St → Option Res := finK T ps rs true Try.f98.results.toList
theorem eqn (K : Nat) (x : Args ps) : evF (G K) T L K Try.f98 ps rs true x = f K x := by kernel_rfl
end laws_toDoubt
/-! ### laws.toDoubtS -/
namespace laws_toDoubtS
@[reducible] def ps : List PK := [.rd (.list 111 t6)]
@[reducible] def rs : List RK := [.v true (.list 95 t6)]
abbrev Res := Ress rs × Outs ps
abbrev A_l0 := List (Ty.den t6) × Int
noncomputable def l0.step (K : Nat) (x : Args ps) (rec_l0 : A_l0 → Option Res) (a : A_l0) : Option Res := bif decide (a.2 < (List.length x.1 : Int)) then ((idx x.1 a.2).bind fun y1 => (laws_toDoubt.f K (y1, ())).bind fun y2 => (idx a.1 a.2).bind fun _ => (idx a.1 (Int.toNat a.2 : Nat)).bind fun y4 => rec_l0 (a.1.set (Int.toNat a.2) y2.1.1, wr .i64 (a.2 + 1))) else (some ((a.1, ()), ()))
noncomputable def l0 (K : Nat) (x : Args ps) : A_l0 → Option Res := iterate (fun rec_l0 a => l0.step K x rec_l0 a) K
noncomputable def pre (K : Nat) (N_l0 : A_l0 → Option Res) (x : Args ps) : Option Res := bif decide (0 ≤ (List.length x.1 : Int)) && decide ((List.length x.1 : Int) = (List.length x.1 : Int)) && decide ((List.length x.1 : Int) * (48 : Nat) ≤ sizeK) then (N_l0 (List.replicate (Int.toNat (List.length x.1 : Int)) (0, (0, (0, []))), 0)) else none
noncomputable def f (K : Nat) (x : Args ps) : Option Res := pre K (l0 K x) x
noncomputable def c (K : Nat) : Ctr := ⟨53, ps, rs, true, f K⟩
noncomputable def G (K : Nat) : List Ctr := [laws_toDoubt.c K]
noncomputable def live_l0 : List (Nat × List Coe) := [(0, [.ro true 111 t6]), (3, [.own false 95 t6]), (4, [.keep])]
noncomputable def L : List (Nat × List (Nat × List Coe)) := [(4, live_l0)]
noncomputable def body : Code := bodyOf Try.f53
noncomputable abbrev ev (K : Nat) : Code → St → (Ex → St → Option Res) → Option Res := evK (G K) T L K
noncomputable abbrev fin : Ex → St → Option Res := finK T ps rs true Try.f53.results.toList
noncomputable def S_l0 (x : Args ps) (a : A_l0) : St := mkSt [(0, ⟨0, .one, [.ro true 111 t6 x.1]⟩), (3, ⟨0, .one, [.own false 95 t6 a.1]⟩), (4, ⟨0, .one, [.int .i64 a.2]⟩)]
noncomputable def k_l0 (K : Nat) (x : Args ps) : Ex → St → Option Res := kAt (ev K) body [1, 1, 0, 1, 0] fin
noncomputable def N_l0 (K : Nat) (x : Args ps) : A_l0 → Option Res := fun a => evLoop live_l0 (ev K (sub body [1, 1, 0, 1, 0, 0])) K (S_l0 x a) (k_l0 K x)
theorem h_l0 (K : Nat) (x : Args ps) (r_l0 : St → Option Res) (a : A_l0) : ev K (sub body [1, 1, 0, 1, 0, 0]) (S_l0 x a) (kLoop live_l0 r_l0 (k_l0 K x)) = l0.step K x (fun a => r_l0 (S_l0 x a)) a := by kernel_rfl
theorem ok_l0 (K : Nat) (x : Args ps) : N_l0 K x = l0 K x := funext fun a => evLoop_iter live_l0 (ev K (sub body [1, 1, 0, 1, 0, 0])) (k_l0 K x) (S_l0 x) (fun rec a => l0.step K x rec a) (fun r_l0 a => (h_l0 K x r_l0 a)) K a
theorem eqn (K : Nat) (x : Args ps) : evF (G K) T L K Try.f53 ps rs true x = f K x := (show evF (G K) T L K Try.f53 ps rs true x = pre K (N_l0 K x) x by kernel_rfl).trans (by rw [ok_l0 K x]; rfl)
end laws_toDoubtS
/-! ### laws.toCoord -/
namespace laws_toCoord
@[reducible] def ps : List PK := [.rd t9]
@[reducible] def rs : List RK := [.v false t9]
abbrev Res := Ress rs × Outs ps
noncomputable def pre (K : Nat) (x : Args ps) : Option Res := some ((x.1, ()), ())
noncomputable def f (K : Nat) (x : Args ps) : Option Res := pre K x
noncomputable def c (K : Nat) : Ctr := ⟨54, ps, rs, true, f K⟩
noncomputable def G (K : Nat) : List Ctr := []
noncomputable def L : List (Nat × List (Nat × List Coe)) := []
noncomputable def body : Code := bodyOf Try.f54
noncomputable abbrev ev (K : Nat) : Code → St → (Ex → St → Option Res) → Option Res := evK (G K) T L K
noncomputable abbrev fin : Ex → St → Option Res := finK T ps rs true Try.f54.results.toList
theorem eqn (K : Nat) (x : Args ps) : evF (G K) T L K Try.f54 ps rs true x = f K x := by kernel_rfl
end laws_toCoord
/-! ### laws.toPlace -/
namespace laws_toPlace
@[reducible] def ps : List PK := [.rd t11]
@[reducible] def rs : List RK := [.v true t11]
abbrev Res := Ress rs × Outs ps
noncomputable def pre (K : Nat) (x : Args ps) : Option Res := (laws_toCoord.f K (x.1.2.1, ())).bind fun y1 => (laws_toIntS.f K (x.1.2.2, ())).bind fun y2 => some (((x.1.1, (y1.1.1, y2.1.1)), ()), ())
noncomputable def f (K : Nat) (x : Args ps) : Option Res := pre K x
noncomputable def c (K : Nat) : Ctr := ⟨99, ps, rs, true, f K⟩
noncomputable def G (K : Nat) : List Ctr := [laws_toCoord.c K, laws_toIntS.c K]
noncomputable def L : List (Nat × List (Nat × List Coe)) := []
noncomputable def body : Code := bodyOf Try.f99
noncomputable abbrev ev (K : Nat) : Code → St → (Ex → St → Option Res) → Option Res := evK (G K) T L K
noncomputable abbrev fin : Ex → St → Option Res := finK T ps rs true Try.f99.results.toList
theorem eqn (K : Nat) (x : Args ps) : evF (G K) T L K Try.f99 ps rs true x = f K x := by kernel_rfl
end laws_toPlace
/-! ### laws.toPlaceS -/
namespace laws_toPlaceS
@[reducible] def ps : List PK := [.rd (.list 114 t11)]
@[reducible] def rs : List RK := [.v true (.list 123 t11)]
abbrev Res := Ress rs × Outs ps
abbrev A_l0 := List (Ty.den t11) × Int
noncomputable def l0.step (K : Nat) (x : Args ps) (rec_l0 : A_l0 → Option Res) (a : A_l0) : Option Res := bif decide (a.2 < (List.length x.1 : Int)) then ((idx x.1 a.2).bind fun y1 => (laws_toPlace.f K (y1, ())).bind fun y2 => (idx a.1 a.2).bind fun _ => (idx a.1 (Int.toNat a.2 : Nat)).bind fun y4 => rec_l0 (a.1.set (Int.toNat a.2) y2.1.1, wr .i64 (a.2 + 1))) else (some ((a.1, ()), ()))
noncomputable def l0 (K : Nat) (x : Args ps) : A_l0 → Option Res := iterate (fun rec_l0 a => l0.step K x rec_l0 a) K
noncomputable def pre (K : Nat) (N_l0 : A_l0 → Option Res) (x : Args ps) : Option Res := bif decide (0 ≤ (List.length x.1 : Int)) && decide ((List.length x.1 : Int) = (List.length x.1 : Int)) && decide ((List.length x.1 : Int) * (64 : Nat) ≤ sizeK) then (N_l0 (List.replicate (Int.toNat (List.length x.1 : Int)) (0, ((0, (0, (0, 0))), [])), 0)) else none
noncomputable def f (K : Nat) (x : Args ps) : Option Res := pre K (l0 K x) x
noncomputable def c (K : Nat) : Ctr := ⟨55, ps, rs, true, f K⟩
noncomputable def G (K : Nat) : List Ctr := [laws_toPlace.c K]
noncomputable def live_l0 : List (Nat × List Coe) := [(0, [.ro true 114 t11]), (3, [.own false 123 t11]), (4, [.keep])]
noncomputable def L : List (Nat × List (Nat × List Coe)) := [(4, live_l0)]
noncomputable def body : Code := bodyOf Try.f55
noncomputable abbrev ev (K : Nat) : Code → St → (Ex → St → Option Res) → Option Res := evK (G K) T L K
noncomputable abbrev fin : Ex → St → Option Res := finK T ps rs true Try.f55.results.toList
noncomputable def S_l0 (x : Args ps) (a : A_l0) : St := mkSt [(0, ⟨0, .one, [.ro true 114 t11 x.1]⟩), (3, ⟨0, .one, [.own false 123 t11 a.1]⟩), (4, ⟨0, .one, [.int .i64 a.2]⟩)]
noncomputable def k_l0 (K : Nat) (x : Args ps) : Ex → St → Option Res := kAt (ev K) body [1, 1, 0, 1, 0] fin
noncomputable def N_l0 (K : Nat) (x : Args ps) : A_l0 → Option Res := fun a => evLoop live_l0 (ev K (sub body [1, 1, 0, 1, 0, 0])) K (S_l0 x a) (k_l0 K x)
theorem h_l0 (K : Nat) (x : Args ps) (r_l0 : St → Option Res) (a : A_l0) : ev K (sub body [1, 1, 0, 1, 0, 0]) (S_l0 x a) (kLoop live_l0 r_l0 (k_l0 K x)) = l0.step K x (fun a => r_l0 (S_l0 x a)) a := by kernel_rfl
theorem ok_l0 (K : Nat) (x : Args ps) : N_l0 K x = l0 K x := funext fun a => evLoop_iter live_l0 (ev K (sub body [1, 1, 0, 1, 0, 0])) (k_l0 K x) (S_l0 x) (fun rec a => l0.step K x rec a) (fun r_l0 a => (h_l0 K x r_l0 a)) K a
theorem eqn (K : Nat) (x : Args ps) : evF (G K) T L K Try.f55 ps rs true x = f K x := (show evF (G K) T L K Try.f55 ps rs true x = pre K (N_l0 K x) x by kernel_rfl).trans (by rw [ok_l0 K x]; rfl)
end laws_toPlaceS
/-! ### laws.toForeign -/
namespace laws_toForeign
@[reducible] def ps : List PK := [.rd t32]
@[reducible] def rs : List RK := [.v true t12]
abbrev Res := Ress rs × Outs ps
noncomputable def pre (K : Nat) (x : Args ps) : Option Res := (laws_toFactS.f K (x.1.2, ())).bind fun y1 => some (((x.1.1, y1.1.1), ()), ())
noncomputable def f (K : Nat) (x : Args ps) : Option Res := pre K x
noncomputable def c (K : Nat) : Ctr := ⟨100, ps, rs, true, f K⟩
noncomputable def G (K : Nat) : List Ctr := [laws_toFactS.c K]
noncomputable def L : List (Nat × List (Nat × List Coe)) := []
noncomputable def body : Code := bodyOf Try.f100
noncomputable abbrev ev (K : Nat) : Code → St → (Ex → St → Option Res) → Option Res := evK (G K) T L K
noncomputable abbrev fin : Ex → St → Option Res := finK T ps rs true Try.f100.results.toList
theorem eqn (K : Nat) (x : Args ps) : evF (G K) T L K Try.f100 ps rs true x = f K x := by kernel_rfl
end laws_toForeign
/-! ### laws.toForeignS -/
namespace laws_toForeignS
@[reducible] def ps : List PK := [.rd (.list 117 t32)]
@[reducible] def rs : List RK := [.v true (.list 125 t12)]
abbrev Res := Ress rs × Outs ps
abbrev A_l0 := List (Ty.den t12) × Int
noncomputable def l0.step (K : Nat) (x : Args ps) (rec_l0 : A_l0 → Option Res) (a : A_l0) : Option Res := bif decide (a.2 < (List.length x.1 : Int)) then ((idx x.1 a.2).bind fun y1 => (laws_toForeign.f K (y1, ())).bind fun y2 => (idx a.1 a.2).bind fun _ => (idx a.1 (Int.toNat a.2 : Nat)).bind fun y4 => rec_l0 (a.1.set (Int.toNat a.2) y2.1.1, wr .i64 (a.2 + 1))) else (some ((a.1, ()), ()))
noncomputable def l0 (K : Nat) (x : Args ps) : A_l0 → Option Res := iterate (fun rec_l0 a => l0.step K x rec_l0 a) K
noncomputable def pre (K : Nat) (N_l0 : A_l0 → Option Res) (x : Args ps) : Option Res := bif decide (0 ≤ (List.length x.1 : Int)) && decide ((List.length x.1 : Int) = (List.length x.1 : Int)) && decide ((List.length x.1 : Int) * (32 : Nat) ≤ sizeK) then (N_l0 (List.replicate (Int.toNat (List.length x.1 : Int)) (0, []), 0)) else none
noncomputable def f (K : Nat) (x : Args ps) : Option Res := pre K (l0 K x) x
noncomputable def c (K : Nat) : Ctr := ⟨56, ps, rs, true, f K⟩
noncomputable def G (K : Nat) : List Ctr := [laws_toForeign.c K]
noncomputable def live_l0 : List (Nat × List Coe) := [(0, [.ro true 117 t32]), (3, [.own false 125 t12]), (4, [.keep])]
noncomputable def L : List (Nat × List (Nat × List Coe)) := [(4, live_l0)]
noncomputable def body : Code := bodyOf Try.f56
noncomputable abbrev ev (K : Nat) : Code → St → (Ex → St → Option Res) → Option Res := evK (G K) T L K
noncomputable abbrev fin : Ex → St → Option Res := finK T ps rs true Try.f56.results.toList
noncomputable def S_l0 (x : Args ps) (a : A_l0) : St := mkSt [(0, ⟨0, .one, [.ro true 117 t32 x.1]⟩), (3, ⟨0, .one, [.own false 125 t12 a.1]⟩), (4, ⟨0, .one, [.int .i64 a.2]⟩)]
noncomputable def k_l0 (K : Nat) (x : Args ps) : Ex → St → Option Res := kAt (ev K) body [1, 1, 0, 1, 0] fin
noncomputable def N_l0 (K : Nat) (x : Args ps) : A_l0 → Option Res := fun a => evLoop live_l0 (ev K (sub body [1, 1, 0, 1, 0, 0])) K (S_l0 x a) (k_l0 K x)
theorem h_l0 (K : Nat) (x : Args ps) (r_l0 : St → Option Res) (a : A_l0) : ev K (sub body [1, 1, 0, 1, 0, 0]) (S_l0 x a) (kLoop live_l0 r_l0 (k_l0 K x)) = l0.step K x (fun a => r_l0 (S_l0 x a)) a := by kernel_rfl
theorem ok_l0 (K : Nat) (x : Args ps) : N_l0 K x = l0 K x := funext fun a => evLoop_iter live_l0 (ev K (sub body [1, 1, 0, 1, 0, 0])) (k_l0 K x) (S_l0 x) (fun rec a => l0.step K x rec a) (fun r_l0 a => (h_l0 K x r_l0 a)) K a
theorem eqn (K : Nat) (x : Args ps) : evF (G K) T L K Try.f56 ps rs true x = f K x := (show evF (G K) T L K Try.f56 ps rs true x = pre K (N_l0 K x) x by kernel_rfl).trans (by rw [ok_l0 K x]; rfl)
end laws_toForeignS
/-! ### laws.toNode -/
namespace laws_toNode
@[reducible] def ps : List PK := [.rd t46]
@[reducible] def rs : List RK := [.v true t26]
abbrev Res := Ress rs × Outs ps
noncomputable def pre (K : Nat) (x : Args ps) : Option Res := (laws_toFactS.f K (x.1.2.2.2.2.2.2.2.2.1, ())).bind fun y1 => (laws_toItemS.f K (x.1.2.2.2.2.2.2.2.2.2.1, ())).bind fun y2 => (laws_toProbe.f K (x.1.2.2.2.2.2.2.2.2.2.2.1, ())).bind fun y3 => (laws_toDoubtS.f K (x.1.2.2.2.2.2.2.2.2.2.2.2.1, ())).bind fun y4 => (laws_toCoord.f K (x.1.2.2.2.2.2.2.2.2.2.2.2.2.1, ())).bind fun y5 => (laws_toPlaceS.f K (x.1.2.2.2.2.2.2.2.2.2.2.2.2.2.1, ())).bind fun y6 => (laws_toForeignS.f K (x.1.2.2.2.2.2.2.2.2.2.2.2.2.2.2, ())).bind fun y7 => some (((x.1.1, (x.1.2.1, (x.1.2.2.1, (x.1.2.2.2.1, (x.1.2.2.2.2.1, (x.1.2.2.2.2.2.1, (x.1.2.2.2.2.2.2.1, (x.1.2.2.2.2.2.2.2.1, (y1.1.1, (y2.1.1, (y3.1.1, (y4.1.1, (y5.1.1, (y6.1.1, y7.1.1)))))))))))))), ()), ())
noncomputable def f (K : Nat) (x : Args ps) : Option Res := pre K x
noncomputable def c (K : Nat) : Ctr := ⟨13, ps, rs, true, f K⟩
noncomputable def G (K : Nat) : List Ctr := [laws_toFactS.c K, laws_toItemS.c K, laws_toProbe.c K, laws_toDoubtS.c K, laws_toCoord.c K, laws_toPlaceS.c K, laws_toForeignS.c K]
noncomputable def L : List (Nat × List (Nat × List Coe)) := []
noncomputable def body : Code := bodyOf Try.f13
noncomputable abbrev ev (K : Nat) : Code → St → (Ex → St → Option Res) → Option Res := evK (G K) T L K
noncomputable abbrev fin : Ex → St → Option Res := finK T ps rs true Try.f13.results.toList
theorem eqn (K : Nat) (x : Args ps) : evF (G K) T L K Try.f13 ps rs true x = f K x := by kernel_rfl
end laws_toNode
/-! ### spec.FactOk -/
namespace spec_FactOk
@[reducible] def ps : List PK := [.rd t2]
@[reducible] def rs : List RK := [.v false .bool]
abbrev Res := Ress rs × Outs ps
noncomputable def pre (K : Nat) (x : Args ps) : Option Res := (spec_l1In.f K (x.1.1, 0, 7, ())).bind fun y1 => bif y1.1.1 then ((spec_l1In.f K (x.1.2.1, 0, 999, ())).bind fun y2 => bif y2.1.1 then ((spec_l1In.f K (x.1.2.2.1, 1, 4, ())).bind fun y3 => some ((y3.1.1, ()), ())) else (some ((false, ()), ()))) else (some ((false, ()), ()))
noncomputable def f (K : Nat) (x : Args ps) : Option Res := pre K x
noncomputable def c (K : Nat) : Ctr := ⟨92, ps, rs, true, f K⟩
noncomputable def G (K : Nat) : List Ctr := [spec_l1In.c K]
noncomputable def L : List (Nat × List (Nat × List Coe)) := []
noncomputable def body : Code := bodyOf Try.f92
noncomputable abbrev ev (K : Nat) : Code → St → (Ex → St → Option Res) → Option Res := evK (G K) T L K
noncomputable abbrev fin : Ex → St → Option Res := finK T ps rs true Try.f92.results.toList
theorem eqn (K : Nat) (x : Args ps) : evF (G K) T L K Try.f92 ps rs true x = f K x := by kernel_rfl
end spec_FactOk
/-! ### spec.TableOk -/
namespace spec_TableOk
@[reducible] def ps : List PK := [.rd (.list 62 t2)]
@[reducible] def rs : List RK := [.v false .bool]
abbrev Res := Ress rs × Outs ps
abbrev A_l0 := Int
noncomputable def l0.step (K : Nat) (x : Args ps) (rec_l0 : A_l0 → Option Res) (a : A_l0) : Option Res := bif decide (a < (List.length x.1 : Int)) then ((idx x.1 a).bind fun y1 => (spec_FactOk.f K (y1, ())).bind fun y2 => bif !y2.1.1 then (some ((false, ()), ())) else (bif decide (a > 0) then ((idx x.1 (wr .i64 (a - 1))).bind fun y3 => (idx x.1 a).bind fun y4 => bif decide (y3.1 ≥ y4.1) then (some ((false, ()), ())) else (rec_l0 (wr .i64 (a + 1)))) else (rec_l0 (wr .i64 (a + 1))))) else (some ((true, ()), ()))
noncomputable def l0 (K : Nat) (x : Args ps) : A_l0 → Option Res := iterate (fun rec_l0 a => l0.step K x rec_l0 a) K
noncomputable def pre (K : Nat) (N_l0 : A_l0 → Option Res) (x : Args ps) : Option Res := N_l0 0
noncomputable def f (K : Nat) (x : Args ps) : Option Res := pre K (l0 K x) x
noncomputable def c (K : Nat) : Ctr := ⟨40, ps, rs, true, f K⟩
noncomputable def G (K : Nat) : List Ctr := [spec_FactOk.c K]
noncomputable def live_l0 : List (Nat × List Coe) := [(0, [.ro true 62 t2]), (3, [.keep])]
noncomputable def L : List (Nat × List (Nat × List Coe)) := [(3, live_l0)]
noncomputable def body : Code := bodyOf Try.f40
noncomputable abbrev ev (K : Nat) : Code → St → (Ex → St → Option Res) → Option Res := evK (G K) T L K
noncomputable abbrev fin : Ex → St → Option Res := finK T ps rs true Try.f40.results.toList
noncomputable def S_l0 (x : Args ps) (a : A_l0) : St := mkSt [(0, ⟨0, .one, [.ro true 62 t2 x.1]⟩), (3, ⟨0, .one, [.int .i64 a]⟩)]
noncomputable def k_l0 (K : Nat) (x : Args ps) : Ex → St → Option Res := kAt (ev K) body [1, 0, 1, 0] fin
noncomputable def N_l0 (K : Nat) (x : Args ps) : A_l0 → Option Res := fun a => evLoop live_l0 (ev K (sub body [1, 0, 1, 0, 0])) K (S_l0 x a) (k_l0 K x)
theorem h_l0 (K : Nat) (x : Args ps) (r_l0 : St → Option Res) (a : A_l0) : ev K (sub body [1, 0, 1, 0, 0]) (S_l0 x a) (kLoop live_l0 r_l0 (k_l0 K x)) = l0.step K x (fun a => r_l0 (S_l0 x a)) a := by kernel_rfl
theorem ok_l0 (K : Nat) (x : Args ps) : N_l0 K x = l0 K x := funext fun a => evLoop_iter live_l0 (ev K (sub body [1, 0, 1, 0, 0])) (k_l0 K x) (S_l0 x) (fun rec a => l0.step K x rec a) (fun r_l0 a => (h_l0 K x r_l0 a)) K a
theorem eqn (K : Nat) (x : Args ps) : evF (G K) T L K Try.f40 ps rs true x = f K x := (show evF (G K) T L K Try.f40 ps rs true x = pre K (N_l0 K x) x by kernel_rfl).trans (by rw [ok_l0 K x]; rfl)
end spec_TableOk
/-! ### spec.l21Site -/
namespace spec_l21Site
@[reducible] def ps : List PK := [.rd (.int .i64)]
@[reducible] def rs : List RK := [.v false (.int .i64)]
abbrev Res := Ress rs × Outs ps
noncomputable def pre (K : Nat) (x : Args ps) : Option Res := some ((wr .i64 (Int.tdiv x.1 4), ()), ())
noncomputable def f (K : Nat) (x : Args ps) : Option Res := pre K x
noncomputable def c (K : Nat) : Ctr := ⟨42, ps, rs, true, f K⟩
noncomputable def G (K : Nat) : List Ctr := []
noncomputable def L : List (Nat × List (Nat × List Coe)) := []
noncomputable def body : Code := bodyOf Try.f42
noncomputable abbrev ev (K : Nat) : Code → St → (Ex → St → Option Res) → Option Res := evK (G K) T L K
noncomputable abbrev fin : Ex → St → Option Res := finK T ps rs true Try.f42.results.toList
theorem eqn (K : Nat) (x : Args ps) : evF (G K) T L K Try.f42 ps rs true x = f K x := by kernel_rfl
end spec_l21Site
/-! ### spec.l4Site -/
namespace spec_l4Site
@[reducible] def ps : List PK := [.rd (.list 62 t2), .rd (.int .i64)]
@[reducible] def rs : List RK := [.v false .bool]
abbrev Res := Ress rs × Outs ps
abbrev A_l0 := Int
noncomputable def l0.step (K : Nat) (x : Args ps) (rec_l0 : A_l0 → Option Res) (a : A_l0) : Option Res := bif decide (a < (List.length x.1 : Int)) then ((idx x.1 a).bind fun y1 => bif (wr .i64 (Int.tdiv y1.1 4)) != x.2.1 then (some ((false, ()), ())) else (rec_l0 (wr .i64 (a + 1)))) else (some ((true, ()), ()))
noncomputable def l0 (K : Nat) (x : Args ps) : A_l0 → Option Res := iterate (fun rec_l0 a => l0.step K x rec_l0 a) K
noncomputable def pre (K : Nat) (N_l0 : A_l0 → Option Res) (x : Args ps) : Option Res := N_l0 0
noncomputable def f (K : Nat) (x : Args ps) : Option Res := pre K (l0 K x) x
noncomputable def c (K : Nat) : Ctr := ⟨41, ps, rs, true, f K⟩
noncomputable def G (K : Nat) : List Ctr := []
noncomputable def live_l0 : List (Nat × List Coe) := [(0, [.ro true 62 t2]), (1, [.keep]), (5, [.keep])]
noncomputable def L : List (Nat × List (Nat × List Coe)) := [(3, live_l0)]
noncomputable def body : Code := bodyOf Try.f41
noncomputable abbrev ev (K : Nat) : Code → St → (Ex → St → Option Res) → Option Res := evK (G K) T L K
noncomputable abbrev fin : Ex → St → Option Res := finK T ps rs true Try.f41.results.toList
noncomputable def S_l0 (x : Args ps) (a : A_l0) : St := mkSt [(0, ⟨0, .one, [.ro true 62 t2 x.1]⟩), (1, ⟨0, .one, [.int .i64 x.2.1]⟩), (5, ⟨0, .one, [.int .i64 a]⟩)]
noncomputable def k_l0 (K : Nat) (x : Args ps) : Ex → St → Option Res := kAt (ev K) body [1, 0, 1, 0] fin
noncomputable def N_l0 (K : Nat) (x : Args ps) : A_l0 → Option Res := fun a => evLoop live_l0 (ev K (sub body [1, 0, 1, 0, 0])) K (S_l0 x a) (k_l0 K x)
theorem h_l0 (K : Nat) (x : Args ps) (r_l0 : St → Option Res) (a : A_l0) : ev K (sub body [1, 0, 1, 0, 0]) (S_l0 x a) (kLoop live_l0 r_l0 (k_l0 K x)) = l0.step K x (fun a => r_l0 (S_l0 x a)) a := by kernel_rfl
theorem ok_l0 (K : Nat) (x : Args ps) : N_l0 K x = l0 K x := funext fun a => evLoop_iter live_l0 (ev K (sub body [1, 0, 1, 0, 0])) (k_l0 K x) (S_l0 x) (fun rec a => l0.step K x rec a) (fun r_l0 a => (h_l0 K x r_l0 a)) K a
theorem eqn (K : Nat) (x : Args ps) : evF (G K) T L K Try.f41 ps rs true x = f K x := (show evF (G K) T L K Try.f41 ps rs true x = pre K (N_l0 K x) x by kernel_rfl).trans (by rw [ok_l0 K x]; rfl)
end spec_l4Site
/-! ### spec.l3Find -/
namespace spec_l3Find
@[reducible] def ps : List PK := [.rd (.list 62 t2), .rd (.int .i64)]
@[reducible] def rs : List RK := [.v false (.int .i64)]
abbrev Res := Ress rs × Outs ps
abbrev A_l0 := Int
noncomputable def l0.step (K : Nat) (x : Args ps) (rec_l0 : A_l0 → Option Res) (a : A_l0) : Option Res := bif decide (a < (List.length x.1 : Int)) then ((idx x.1 a).bind fun y1 => bif y1.1 == x.2.1 then (some ((a, ()), ())) else (rec_l0 (wr .i64 (a + 1)))) else (some (((-1), ()), ()))
noncomputable def l0 (K : Nat) (x : Args ps) : A_l0 → Option Res := iterate (fun rec_l0 a => l0.step K x rec_l0 a) K
noncomputable def pre (K : Nat) (N_l0 : A_l0 → Option Res) (x : Args ps) : Option Res := N_l0 0
noncomputable def f (K : Nat) (x : Args ps) : Option Res := pre K (l0 K x) x
noncomputable def c (K : Nat) : Ctr := ⟨93, ps, rs, true, f K⟩
noncomputable def G (K : Nat) : List Ctr := []
noncomputable def live_l0 : List (Nat × List Coe) := [(0, [.ro true 62 t2]), (1, [.keep]), (5, [.keep])]
noncomputable def L : List (Nat × List (Nat × List Coe)) := [(3, live_l0)]
noncomputable def body : Code := bodyOf Try.f93
noncomputable abbrev ev (K : Nat) : Code → St → (Ex → St → Option Res) → Option Res := evK (G K) T L K
noncomputable abbrev fin : Ex → St → Option Res := finK T ps rs true Try.f93.results.toList
noncomputable def S_l0 (x : Args ps) (a : A_l0) : St := mkSt [(0, ⟨0, .one, [.ro true 62 t2 x.1]⟩), (1, ⟨0, .one, [.int .i64 x.2.1]⟩), (5, ⟨0, .one, [.int .i64 a]⟩)]
noncomputable def k_l0 (K : Nat) (x : Args ps) : Ex → St → Option Res := kAt (ev K) body [1, 0, 1, 0] fin
noncomputable def N_l0 (K : Nat) (x : Args ps) : A_l0 → Option Res := fun a => evLoop live_l0 (ev K (sub body [1, 0, 1, 0, 0])) K (S_l0 x a) (k_l0 K x)
theorem h_l0 (K : Nat) (x : Args ps) (r_l0 : St → Option Res) (a : A_l0) : ev K (sub body [1, 0, 1, 0, 0]) (S_l0 x a) (kLoop live_l0 r_l0 (k_l0 K x)) = l0.step K x (fun a => r_l0 (S_l0 x a)) a := by kernel_rfl
theorem ok_l0 (K : Nat) (x : Args ps) : N_l0 K x = l0 K x := funext fun a => evLoop_iter live_l0 (ev K (sub body [1, 0, 1, 0, 0])) (k_l0 K x) (S_l0 x) (fun rec a => l0.step K x rec a) (fun r_l0 a => (h_l0 K x r_l0 a)) K a
theorem eqn (K : Nat) (x : Args ps) : evF (G K) T L K Try.f93 ps rs true x = f K x := (show evF (G K) T L K Try.f93 ps rs true x = pre K (N_l0 K x) x by kernel_rfl).trans (by rw [ok_l0 K x]; rfl)
end spec_l3Find
/-! ### spec.l21Self -/
namespace spec_l21Self
@[reducible] def ps : List PK := [.rd t26]
@[reducible] def rs : List RK := [.v false .bool]
abbrev Res := Ress rs × Outs ps
noncomputable def pre (K : Nat) (x : Args ps) : Option Res := (spec_l3Find.f K (x.1.2.2.2.2.2.2.2.2.1, x.1.1, ())).bind fun y1 => bif decide (y1.1.1 < 0) then (some ((false, ()), ())) else ((idx x.1.2.2.2.2.2.2.2.2.1 y1.1.1).bind fun y2 => bif x.1.2.2.1 then (bif y2.2.1 == x.1.2.2.2.2.1 then (bif y2.2.2.1 == 4 then (some ((y2.2.2.2 == x.1.2.2.2.1, ()), ())) else (some ((false, ()), ()))) else (some ((false, ()), ()))) else (bif y2.2.1 == x.1.2.2.2.2.1 then (bif y2.2.2.1 == 1 then (some ((y2.2.2.2 == x.1.2.2.2.1, ()), ())) else (some ((false, ()), ()))) else (some ((false, ()), ()))))
noncomputable def f (K : Nat) (x : Args ps) : Option Res := pre K x
noncomputable def c (K : Nat) : Ctr := ⟨43, ps, rs, true, f K⟩
noncomputable def G (K : Nat) : List Ctr := [spec_l3Find.c K]
noncomputable def L : List (Nat × List (Nat × List Coe)) := []
noncomputable def body : Code := bodyOf Try.f43
noncomputable abbrev ev (K : Nat) : Code → St → (Ex → St → Option Res) → Option Res := evK (G K) T L K
noncomputable abbrev fin : Ex → St → Option Res := finK T ps rs true Try.f43.results.toList
theorem eqn (K : Nat) (x : Args ps) : evF (G K) T L K Try.f43 ps rs true x = f K x := by kernel_rfl
end spec_l21Self
/-! ### spec.CastOk -/
namespace spec_CastOk
@[reducible] def ps : List PK := [.rd (.list 121 t3)]
@[reducible] def rs : List RK := [.v false .bool]
abbrev Res := Ress rs × Outs ps
abbrev A_l0 := Int
noncomputable def l0.step (K : Nat) (x : Args ps) (rec_l0 : A_l0 → Option Res) (a : A_l0) : Option Res := bif decide (a < (List.length x.1 : Int)) then ((idx x.1 a).bind fun y1 => (spec_FactOk.f K (y1.1, ())).bind fun y2 => bif !y2.1.1 then (some ((false, ()), ())) else ((idx x.1 a).bind fun y3 => (spec_l1In.f K (y3.2, 1, 4, ())).bind fun y4 => bif !y4.1.1 then (some ((false, ()), ())) else (bif decide (a > 0) then ((idx x.1 (wr .i64 (a - 1))).bind fun y5 => (idx x.1 a).bind fun y6 => bif decide (y5.1.1 ≥ y6.1.1) then (some ((false, ()), ())) else (rec_l0 (wr .i64 (a + 1)))) else (rec_l0 (wr .i64 (a + 1)))))) else (some ((true, ()), ()))
noncomputable def l0 (K : Nat) (x : Args ps) : A_l0 → Option Res := iterate (fun rec_l0 a => l0.step K x rec_l0 a) K
noncomputable def pre (K : Nat) (N_l0 : A_l0 → Option Res) (x : Args ps) : Option Res := N_l0 0
noncomputable def f (K : Nat) (x : Args ps) : Option Res := pre K (l0 K x) x
noncomputable def c (K : Nat) : Ctr := ⟨94, ps, rs, true, f K⟩
noncomputable def G (K : Nat) : List Ctr := [spec_l1In.c K, spec_FactOk.c K]
noncomputable def live_l0 : List (Nat × List Coe) := [(0, [.ro true 121 t3]), (3, [.keep])]
noncomputable def L : List (Nat × List (Nat × List Coe)) := [(3, live_l0)]
noncomputable def body : Code := bodyOf Try.f94
noncomputable abbrev ev (K : Nat) : Code → St → (Ex → St → Option Res) → Option Res := evK (G K) T L K
noncomputable abbrev fin : Ex → St → Option Res := finK T ps rs true Try.f94.results.toList
noncomputable def S_l0 (x : Args ps) (a : A_l0) : St := mkSt [(0, ⟨0, .one, [.ro true 121 t3 x.1]⟩), (3, ⟨0, .one, [.int .i64 a]⟩)]
noncomputable def k_l0 (K : Nat) (x : Args ps) : Ex → St → Option Res := kAt (ev K) body [1, 0, 1, 0] fin
noncomputable def N_l0 (K : Nat) (x : Args ps) : A_l0 → Option Res := fun a => evLoop live_l0 (ev K (sub body [1, 0, 1, 0, 0])) K (S_l0 x a) (k_l0 K x)
theorem h_l0 (K : Nat) (x : Args ps) (r_l0 : St → Option Res) (a : A_l0) : ev K (sub body [1, 0, 1, 0, 0]) (S_l0 x a) (kLoop live_l0 r_l0 (k_l0 K x)) = l0.step K x (fun a => r_l0 (S_l0 x a)) a := by kernel_rfl
theorem ok_l0 (K : Nat) (x : Args ps) : N_l0 K x = l0 K x := funext fun a => evLoop_iter live_l0 (ev K (sub body [1, 0, 1, 0, 0])) (k_l0 K x) (S_l0 x) (fun rec a => l0.step K x rec a) (fun r_l0 a => (h_l0 K x r_l0 a)) K a
theorem eqn (K : Nat) (x : Args ps) : evF (G K) T L K Try.f94 ps rs true x = f K x := (show evF (G K) T L K Try.f94 ps rs true x = pre K (N_l0 K x) x by kernel_rfl).trans (by rw [ok_l0 K x]; rfl)
end spec_CastOk
/-! ### spec.l3Over -/
namespace spec_l3Over
@[reducible] def ps : List PK := [.rd t2, .rd t2]
@[reducible] def rs : List RK := [.v false .bool]
abbrev Res := Ress rs × Outs ps
noncomputable def pre (K : Nat) (x : Args ps) : Option Res := bif x.1.2.1 != x.2.1.2.1 then (some ((decide (x.1.2.1 > x.2.1.2.1), ()), ())) else (bif x.1.2.2.1 != x.2.1.2.2.1 then (some ((decide (x.1.2.2.1 > x.2.1.2.2.1), ()), ())) else (bif x.1.2.2.2 then (some ((!x.2.1.2.2.2, ()), ())) else (some ((false, ()), ()))))
noncomputable def f (K : Nat) (x : Args ps) : Option Res := pre K x
noncomputable def c (K : Nat) : Ctr := ⟨95, ps, rs, true, f K⟩
noncomputable def G (K : Nat) : List Ctr := []
noncomputable def L : List (Nat × List (Nat × List Coe)) := []
noncomputable def body : Code := bodyOf Try.f95
noncomputable abbrev ev (K : Nat) : Code → St → (Ex → St → Option Res) → Option Res := evK (G K) T L K
noncomputable abbrev fin : Ex → St → Option Res := finK T ps rs true Try.f95.results.toList
theorem eqn (K : Nat) (x : Args ps) : evF (G K) T L K Try.f95 ps rs true x = f K x := by kernel_rfl
end spec_l3Over
/-! ### spec.l21CastOk -/
namespace spec_l21CastOk
@[reducible] def ps : List PK := [.rd t26]
@[reducible] def rs : List RK := [.v false .bool]
abbrev Res := Ress rs × Outs ps
abbrev A_l0 := Int
noncomputable def l0.step (K : Nat) (x : Args ps) (rec_l0 : A_l0 → Option Res) (a : A_l0) : Option Res := bif decide (a < (List.length x.1.2.2.2.2.2.2.2.2.2.1 : Int)) then ((idx x.1.2.2.2.2.2.2.2.2.2.1 a).bind fun y2 => (spec_l3Find.f K (x.1.2.2.2.2.2.2.2.2.1, y2.1.1, ())).bind fun y3 => bif decide (y3.1.1 < 0) then (some ((false, ()), ())) else ((idx x.1.2.2.2.2.2.2.2.2.2.1 a).bind fun y4 => (idx x.1.2.2.2.2.2.2.2.2.1 y3.1.1).bind fun y5 => (spec_l3Over.f K (y4.1, y5, ())).bind fun y6 => bif y6.1.1 then (some ((false, ()), ())) else (rec_l0 (wr .i64 (a + 1))))) else (some ((true, ()), ()))
noncomputable def l0 (K : Nat) (x : Args ps) : A_l0 → Option Res := iterate (fun rec_l0 a => l0.step K x rec_l0 a) K
noncomputable def pre (K : Nat) (N_l0 : A_l0 → Option Res) (x : Args ps) : Option Res := (spec_CastOk.f K (x.1.2.2.2.2.2.2.2.2.2.1, ())).bind fun y1 => bif !y1.1.1 then (some ((false, ()), ())) else (N_l0 0)
noncomputable def f (K : Nat) (x : Args ps) : Option Res := pre K (l0 K x) x
noncomputable def c (K : Nat) : Ctr := ⟨44, ps, rs, true, f K⟩
noncomputable def G (K : Nat) : List Ctr := [spec_l3Find.c K, spec_CastOk.c K, spec_l3Over.c K]
noncomputable def live_l0 : List (Nat × List Coe) := [(1, [.keep]), (3, [.keep]), (100001, [.keep, .keep, .keep, .keep, .keep, .keep, .keep, .keep, .ro true 62 t2, .ro true 121 t3, .keep, .keep, .keep, .keep, .ro true 95 t6, .keep, .keep, .keep, .keep, .ro true 123 t11, .ro true 125 t12])]
noncomputable def L : List (Nat × List (Nat × List Coe)) := [(5, live_l0)]
noncomputable def body : Code := bodyOf Try.f44
noncomputable abbrev ev (K : Nat) : Code → St → (Ex → St → Option Res) → Option Res := evK (G K) T L K
noncomputable abbrev fin : Ex → St → Option Res := finK T ps rs true Try.f44.results.toList
noncomputable def S_l0 (x : Args ps) (a : A_l0) : St := mkSt [(1, ⟨0, .one, [.bp 100001 0]⟩), (3, ⟨0, .one, [.int .i64 a]⟩), (100001, ⟨0, .agg, [.int .i64 x.1.1, .bool x.1.2.1, .bool x.1.2.2.1, .bool x.1.2.2.2.1, .int .i64 x.1.2.2.2.2.1, .int .i64 x.1.2.2.2.2.2.1, .int .i64 x.1.2.2.2.2.2.2.1, .int .i64 x.1.2.2.2.2.2.2.2.1, .ro true 62 t2 x.1.2.2.2.2.2.2.2.2.1, .ro true 121 t3 x.1.2.2.2.2.2.2.2.2.2.1, .int .i64 x.1.2.2.2.2.2.2.2.2.2.2.1.1, .int .i64 x.1.2.2.2.2.2.2.2.2.2.2.1.2.1, .int .i64 x.1.2.2.2.2.2.2.2.2.2.2.1.2.2.1, .bool x.1.2.2.2.2.2.2.2.2.2.2.1.2.2.2, .ro true 95 t6 x.1.2.2.2.2.2.2.2.2.2.2.2.1, .int .i64 x.1.2.2.2.2.2.2.2.2.2.2.2.2.1.1, .int .i64 x.1.2.2.2.2.2.2.2.2.2.2.2.2.1.2.1, .int .i64 x.1.2.2.2.2.2.2.2.2.2.2.2.2.1.2.2.1, .int .i64 x.1.2.2.2.2.2.2.2.2.2.2.2.2.1.2.2.2, .ro true 123 t11 x.1.2.2.2.2.2.2.2.2.2.2.2.2.2.1, .ro true 125 t12 x.1.2.2.2.2.2.2.2.2.2.2.2.2.2.2]⟩)]
noncomputable def k_l0 (K : Nat) (x : Args ps) : Ex → St → Option Res := kAt (ev K) body [1, 1, 0, 1, 0] fin
noncomputable def N_l0 (K : Nat) (x : Args ps) : A_l0 → Option Res := fun a => evLoop live_l0 (ev K (sub body [1, 1, 0, 1, 0, 0])) K (S_l0 x a) (k_l0 K x)
theorem h_l0 (K : Nat) (x : Args ps) (r_l0 : St → Option Res) (a : A_l0) : ev K (sub body [1, 1, 0, 1, 0, 0]) (S_l0 x a) (kLoop live_l0 r_l0 (k_l0 K x)) = l0.step K x (fun a => r_l0 (S_l0 x a)) a := by kernel_rfl
theorem ok_l0 (K : Nat) (x : Args ps) : N_l0 K x = l0 K x := funext fun a => evLoop_iter live_l0 (ev K (sub body [1, 1, 0, 1, 0, 0])) (k_l0 K x) (S_l0 x) (fun rec a => l0.step K x rec a) (fun r_l0 a => (h_l0 K x r_l0 a)) K a
theorem eqn (K : Nat) (x : Args ps) : evF (G K) T L K Try.f44 ps rs true x = f K x := (show evF (G K) T L K Try.f44 ps rs true x = pre K (N_l0 K x) x by kernel_rfl).trans (by rw [ok_l0 K x]; rfl)
end spec_l21CastOk
/-! ### spec.l21ProbeOk -/
namespace spec_l21ProbeOk
@[reducible] def ps : List PK := [.rd t26]
@[reducible] def rs : List RK := [.v false .bool]
abbrev Res := Ress rs × Outs ps
noncomputable def pre (K : Nat) (x : Args ps) : Option Res := bif x.1.2.2.2.2.2.2.2.2.2.2.1.1 == (-1) then (bif x.1.2.2.2.2.2.2.2.2.2.2.1.2.1 == 0 then (bif x.1.2.2.2.2.2.2.2.2.2.2.1.2.2.1 == 0 then (some ((!x.1.2.2.2.2.2.2.2.2.2.2.1.2.2.2, ()), ())) else (some ((false, ()), ()))) else (some ((false, ()), ()))) else (bif x.1.2.2.2.2.2.2.2.2.2.2.1.1 != x.1.1 then ((spec_l3Find.f K (x.1.2.2.2.2.2.2.2.2.1, x.1.2.2.2.2.2.2.2.2.2.2.1.1, ())).bind fun y1 => bif decide (y1.1.1 ≥ 0) then ((spec_l1In.f K (x.1.2.2.2.2.2.2.2.2.2.2.1.2.1, 0, x.1.2.2.2.2.2.1, ())).bind fun y2 => bif y2.1.1 then ((spec_l1In.f K (x.1.2.2.2.2.2.2.2.2.2.2.1.2.2.1, 1, x.1.2.2.2.2.2.2.1, ())).bind fun y3 => some ((y3.1.1, ()), ())) else (some ((false, ()), ()))) else (some ((false, ()), ()))) else (some ((false, ()), ())))
noncomputable def f (K : Nat) (x : Args ps) : Option Res := pre K x
noncomputable def c (K : Nat) : Ctr := ⟨45, ps, rs, true, f K⟩
noncomputable def G (K : Nat) : List Ctr := [spec_l1In.c K, spec_l3Find.c K]
noncomputable def L : List (Nat × List (Nat × List Coe)) := []
noncomputable def body : Code := bodyOf Try.f45
noncomputable abbrev ev (K : Nat) : Code → St → (Ex → St → Option Res) → Option Res := evK (G K) T L K
noncomputable abbrev fin : Ex → St → Option Res := finK T ps rs true Try.f45.results.toList
theorem eqn (K : Nat) (x : Args ps) : evF (G K) T L K Try.f45 ps rs true x = f K x := by kernel_rfl
end spec_l21ProbeOk
/-! ### spec.l21DoubtsOk -/
namespace spec_l21DoubtsOk
@[reducible] def ps : List PK := [.rd t26]
@[reducible] def rs : List RK := [.v false .bool]
abbrev Res := Ress rs × Outs ps
abbrev A_l1 := Int × Int × Int × Int × Int × List (Ty.den (.int .i64))
abbrev A_l2 := Int × Int
abbrev A_l0 := Int
noncomputable def l1.step (K : Nat) (x : Args ps) (rec_l0 : A_l0 → Option Res) (rec_l1 : A_l1 → Option Res) (a : A_l1) : Option Res := bif decide (a.2.1 < (List.length a.2.2.2.2.2 : Int)) then ((idx a.2.2.2.2.2 a.2.1).bind fun y7 => (spec_l1In.f K (y7, 0, 7, ())).bind fun y8 => bif !y8.1.1 then (some ((false, ()), ())) else ((idx a.2.2.2.2.2 a.2.1).bind fun y9 => (spec_l21Site.f K (y9, ())).bind fun y10 => (spec_l21Site.f K (x.1.1, ())).bind fun y11 => bif y10.1.1 != y11.1.1 then (some ((false, ()), ())) else (bif decide (a.2.1 > 0) then ((idx a.2.2.2.2.2 (wr .i64 (a.2.1 - 1))).bind fun y12 => (idx a.2.2.2.2.2 a.2.1).bind fun y13 => bif decide (y12 ≥ y13) then (some ((false, ()), ())) else (rec_l1 (a.1, wr .i64 (a.2.1 + 1), a.2.2.1, a.2.2.2.1, a.2.2.2.2.1, a.2.2.2.2.2))) else (rec_l1 (a.1, wr .i64 (a.2.1 + 1), a.2.2.1, a.2.2.2.1, a.2.2.2.2.1, a.2.2.2.2.2))))) else (rec_l0 (wr .i64 (a.1 + 1)))
noncomputable def l1 (K : Nat) (x : Args ps) (rec_l0 : A_l0 → Option Res) : A_l1 → Option Res := iterate (fun rec_l1 a => l1.step K x rec_l0 rec_l1 a) K
noncomputable def l2.step (K : Nat) (x : Args ps) (rec_l2 : A_l2 → Option Res) (a : A_l2) : Option Res := bif decide (a.2 < (List.length x.1.2.2.2.2.2.2.2.2.1 : Int)) then ((idx x.1.2.2.2.2.2.2.2.2.1 a.2).bind fun y17 => bif y17.2.2.1 == 2 then (rec_l2 (wr .i64 (a.1 + 1), wr .i64 (a.2 + 1))) else (rec_l2 (a.1, wr .i64 (a.2 + 1)))) else (some ((a.1 == (List.length x.1.2.2.2.2.2.2.2.2.2.2.2.1 : Int), ()), ()))
noncomputable def l2 (K : Nat) (x : Args ps) : A_l2 → Option Res := iterate (fun rec_l2 a => l2.step K x rec_l2 a) K
noncomputable def l0.step (K : Nat) (x : Args ps) (N_l1 : A_l1 → Option Res) (N_l2 : A_l2 → Option Res) (rec_l0 : A_l0 → Option Res) (a : A_l0) : Option Res := bif decide (a < (List.length x.1.2.2.2.2.2.2.2.2.2.2.2.1 : Int)) then ((idx x.1.2.2.2.2.2.2.2.2.2.2.2.1 a).bind fun y1 => (spec_l3Find.f K (x.1.2.2.2.2.2.2.2.2.1, y1.1, ())).bind fun y2 => bif decide (a > 0) then ((idx x.1.2.2.2.2.2.2.2.2.2.2.2.1 (wr .i64 (a - 1))).bind fun y3 => bif decide (y3.1 ≥ y1.1) then (some ((false, ()), ())) else (bif decide (y2.1.1 < 0) then (some ((false, ()), ())) else ((idx x.1.2.2.2.2.2.2.2.2.1 y2.1.1).bind fun y4 => bif y4.2.2.1 != 2 then (some ((false, ()), ())) else ((idx x.1.2.2.2.2.2.2.2.2.1 y2.1.1).bind fun y5 => bif y5.2.1 != y1.2.1 then (some ((false, ()), ())) else ((spec_l1In.f K (y1.2.2.1, 0, x.1.2.2.2.2.2.1, ())).bind fun y6 => bif !y6.1.1 then (some ((false, ()), ())) else (bif (List.length y1.2.2.2 : Int) == 0 then (some ((false, ()), ())) else (N_l1 (a, 0, y1.1, y1.2.1, y1.2.2.1, y1.2.2.2)))))))) else (bif decide (y2.1.1 < 0) then (some ((false, ()), ())) else ((idx x.1.2.2.2.2.2.2.2.2.1 y2.1.1).bind fun y14 => bif y14.2.2.1 != 2 then (some ((false, ()), ())) else ((idx x.1.2.2.2.2.2.2.2.2.1 y2.1.1).bind fun y15 => bif y15.2.1 != y1.2.1 then (some ((false, ()), ())) else ((spec_l1In.f K (y1.2.2.1, 0, x.1.2.2.2.2.2.1, ())).bind fun y16 => bif !y16.1.1 then (some ((false, ()), ())) else (bif (List.length y1.2.2.2 : Int) == 0 then (some ((false, ()), ())) else (N_l1 (a, 0, y1.1, y1.2.1, y1.2.2.1, y1.2.2.2)))))))) else (N_l2 (0, 0))
noncomputable def l0 (K : Nat) (x : Args ps) : A_l0 → Option Res := iterate (fun rec_l0 a => l0.step K x (l1 K x rec_l0) (l2 K x) rec_l0 a) K
noncomputable def pre (K : Nat) (N_l0 : A_l0 → Option Res) (x : Args ps) : Option Res := N_l0 0
noncomputable def f (K : Nat) (x : Args ps) : Option Res := pre K (l0 K x) x
noncomputable def c (K : Nat) : Ctr := ⟨46, ps, rs, true, f K⟩
noncomputable def G (K : Nat) : List Ctr := [spec_l1In.c K, spec_l21Site.c K, spec_l3Find.c K]
noncomputable def live_l1 : List (Nat × List Coe) := [(1, [.keep]), (3, [.keep]), (4, [.keep]), (6, [.keep]), (100001, [.keep, .keep, .keep, .keep, .keep, .keep, .keep, .keep, .ro true 62 t2, .ro true 121 t3, .keep, .keep, .keep, .keep, .ro true 95 t6, .keep, .keep, .keep, .keep, .ro true 123 t11, .ro true 125 t12]), (100004, [.keep, .keep, .keep, .ro true 3 (.int .i64)])]
noncomputable def live_l2 : List (Nat × List Coe) := [(1, [.keep]), (7, [.keep]), (8, [.keep]), (100001, [.keep, .keep, .keep, .keep, .keep, .keep, .keep, .keep, .ro true 62 t2, .ro true 121 t3, .keep, .keep, .keep, .keep, .ro true 95 t6, .keep, .keep, .keep, .keep, .ro true 123 t11, .ro true 125 t12])]
noncomputable def live_l0 : List (Nat × List Coe) := [(1, [.keep]), (3, [.keep]), (100001, [.keep, .keep, .keep, .keep, .keep, .keep, .keep, .keep, .ro true 62 t2, .ro true 121 t3, .keep, .keep, .keep, .keep, .ro true 95 t6, .keep, .keep, .keep, .keep, .ro true 123 t11, .ro true 125 t12])]
noncomputable def L : List (Nat × List (Nat × List Coe)) := [(10, live_l1), (16, live_l2), (3, live_l0)]
noncomputable def body : Code := bodyOf Try.f46
noncomputable abbrev ev (K : Nat) : Code → St → (Ex → St → Option Res) → Option Res := evK (G K) T L K
noncomputable abbrev fin : Ex → St → Option Res := finK T ps rs true Try.f46.results.toList
noncomputable def S_l0 (x : Args ps) (a : A_l0) : St := mkSt [(1, ⟨0, .one, [.bp 100001 0]⟩), (3, ⟨0, .one, [.int .i64 a]⟩), (100001, ⟨0, .agg, [.int .i64 x.1.1, .bool x.1.2.1, .bool x.1.2.2.1, .bool x.1.2.2.2.1, .int .i64 x.1.2.2.2.2.1, .int .i64 x.1.2.2.2.2.2.1, .int .i64 x.1.2.2.2.2.2.2.1, .int .i64 x.1.2.2.2.2.2.2.2.1, .ro true 62 t2 x.1.2.2.2.2.2.2.2.2.1, .ro true 121 t3 x.1.2.2.2.2.2.2.2.2.2.1, .int .i64 x.1.2.2.2.2.2.2.2.2.2.2.1.1, .int .i64 x.1.2.2.2.2.2.2.2.2.2.2.1.2.1, .int .i64 x.1.2.2.2.2.2.2.2.2.2.2.1.2.2.1, .bool x.1.2.2.2.2.2.2.2.2.2.2.1.2.2.2, .ro true 95 t6 x.1.2.2.2.2.2.2.2.2.2.2.2.1, .int .i64 x.1.2.2.2.2.2.2.2.2.2.2.2.2.1.1, .int .i64 x.1.2.2.2.2.2.2.2.2.2.2.2.2.1.2.1, .int .i64 x.1.2.2.2.2.2.2.2.2.2.2.2.2.1.2.2.1, .int .i64 x.1.2.2.2.2.2.2.2.2.2.2.2.2.1.2.2.2, .ro true 123 t11 x.1.2.2.2.2.2.2.2.2.2.2.2.2.2.1, .ro true 125 t12 x.1.2.2.2.2.2.2.2.2.2.2.2.2.2.2]⟩)]
noncomputable def S_l2 (x : Args ps) (a : A_l2) : St := mkSt [(1, ⟨0, .one, [.bp 100001 0]⟩), (7, ⟨0, .one, [.int .i64 a.1]⟩), (8, ⟨0, .one, [.int .i64 a.2]⟩), (100001, ⟨0, .agg, [.int .i64 x.1.1, .bool x.1.2.1, .bool x.1.2.2.1, .bool x.1.2.2.2.1, .int .i64 x.1.2.2.2.2.1, .int .i64 x.1.2.2.2.2.2.1, .int .i64 x.1.2.2.2.2.2.2.1, .int .i64 x.1.2.2.2.2.2.2.2.1, .ro true 62 t2 x.1.2.2.2.2.2.2.2.2.1, .ro true 121 t3 x.1.2.2.2.2.2.2.2.2.2.1, .int .i64 x.1.2.2.2.2.2.2.2.2.2.2.1.1, .int .i64 x.1.2.2.2.2.2.2.2.2.2.2.1.2.1, .int .i64 x.1.2.2.2.2.2.2.2.2.2.2.1.2.2.1, .bool x.1.2.2.2.2.2.2.2.2.2.2.1.2.2.2, .ro true 95 t6 x.1.2.2.2.2.2.2.2.2.2.2.2.1, .int .i64 x.1.2.2.2.2.2.2.2.2.2.2.2.2.1.1, .int .i64 x.1.2.2.2.2.2.2.2.2.2.2.2.2.1.2.1, .int .i64 x.1.2.2.2.2.2.2.2.2.2.2.2.2.1.2.2.1, .int .i64 x.1.2.2.2.2.2.2.2.2.2.2.2.2.1.2.2.2, .ro true 123 t11 x.1.2.2.2.2.2.2.2.2.2.2.2.2.2.1, .ro true 125 t12 x.1.2.2.2.2.2.2.2.2.2.2.2.2.2.2]⟩)]
noncomputable def S_l1 (x : Args ps) (a : A_l1) : St := mkSt [(1, ⟨0, .one, [.bp 100001 0]⟩), (3, ⟨0, .one, [.int .i64 a.1]⟩), (4, ⟨0, .one, [.bp 100004 0]⟩), (6, ⟨0, .one, [.int .i64 a.2.1]⟩), (100001, ⟨0, .agg, [.int .i64 x.1.1, .bool x.1.2.1, .bool x.1.2.2.1, .bool x.1.2.2.2.1, .int .i64 x.1.2.2.2.2.1, .int .i64 x.1.2.2.2.2.2.1, .int .i64 x.1.2.2.2.2.2.2.1, .int .i64 x.1.2.2.2.2.2.2.2.1, .ro true 62 t2 x.1.2.2.2.2.2.2.2.2.1, .ro true 121 t3 x.1.2.2.2.2.2.2.2.2.2.1, .int .i64 x.1.2.2.2.2.2.2.2.2.2.2.1.1, .int .i64 x.1.2.2.2.2.2.2.2.2.2.2.1.2.1, .int .i64 x.1.2.2.2.2.2.2.2.2.2.2.1.2.2.1, .bool x.1.2.2.2.2.2.2.2.2.2.2.1.2.2.2, .ro true 95 t6 x.1.2.2.2.2.2.2.2.2.2.2.2.1, .int .i64 x.1.2.2.2.2.2.2.2.2.2.2.2.2.1.1, .int .i64 x.1.2.2.2.2.2.2.2.2.2.2.2.2.1.2.1, .int .i64 x.1.2.2.2.2.2.2.2.2.2.2.2.2.1.2.2.1, .int .i64 x.1.2.2.2.2.2.2.2.2.2.2.2.2.1.2.2.2, .ro true 123 t11 x.1.2.2.2.2.2.2.2.2.2.2.2.2.2.1, .ro true 125 t12 x.1.2.2.2.2.2.2.2.2.2.2.2.2.2.2]⟩), (100004, ⟨0, .agg, [.int .i64 a.2.2.1, .int .i64 a.2.2.2.1, .int .i64 a.2.2.2.2.1, .ro true 3 (.int .i64) a.2.2.2.2.2]⟩)]
noncomputable def k_l0 (K : Nat) (x : Args ps) : Ex → St → Option Res := kAt (ev K) body [1, 0, 1, 0] fin
noncomputable def N_l0 (K : Nat) (x : Args ps) : A_l0 → Option Res := fun a => evLoop live_l0 (ev K (sub body [1, 0, 1, 0, 0])) K (S_l0 x a) (k_l0 K x)
noncomputable def k_l2 (K : Nat) (x : Args ps) : Ex → St → Option Res := kAt (ev K) body [1, 1, 1, 0, 1, 0] fin
noncomputable def N_l2 (K : Nat) (x : Args ps) : A_l2 → Option Res := fun a => evLoop live_l2 (ev K (sub body [1, 1, 1, 0, 1, 0, 0])) K (S_l2 x a) (k_l2 K x)
noncomputable def k_l1 (K : Nat) (x : Args ps) (r_l0 : St → Option Res) : Ex → St → Option Res := kAt (ev K) (sub body [1, 0, 1, 0, 0]) [1, 0, 0, 1, 1, 1, 1, 0] (kLoop live_l0 r_l0 (k_l0 K x))
noncomputable def N_l1 (K : Nat) (x : Args ps) (r_l0 : St → Option Res) : A_l1 → Option Res := fun a => evLoop live_l1 (ev K (sub body [1, 0, 1, 0, 0, 1, 0, 0, 1, 1, 1, 1, 0, 0])) K (S_l1 x a) (k_l1 K x r_l0)
theorem h_l1 (K : Nat) (x : Args ps) (r_l0 : St → Option Res) (r_l1 : St → Option Res) (a : A_l1) : ev K (sub body [1, 0, 1, 0, 0, 1, 0, 0, 1, 1, 1, 1, 0, 0]) (S_l1 x a) (kLoop live_l1 r_l1 (k_l1 K x r_l0)) = l1.step K x (fun a => r_l0 (S_l0 x a)) (fun a => r_l1 (S_l1 x a)) a := by kernel_rfl
theorem ok_l1 (K : Nat) (x : Args ps) (r_l0 : St → Option Res) : N_l1 K x r_l0 = l1 K x (fun a => r_l0 (S_l0 x a)) := funext fun a => evLoop_iter live_l1 (ev K (sub body [1, 0, 1, 0, 0, 1, 0, 0, 1, 1, 1, 1, 0, 0])) (k_l1 K x r_l0) (S_l1 x) (fun rec a => l1.step K x (fun a => r_l0 (S_l0 x a)) rec a) (fun r_l1 a => (h_l1 K x r_l0 r_l1 a)) K a
theorem h_l2 (K : Nat) (x : Args ps) (r_l2 : St → Option Res) (a : A_l2) : ev K (sub body [1, 1, 1, 0, 1, 0, 0]) (S_l2 x a) (kLoop live_l2 r_l2 (k_l2 K x)) = l2.step K x (fun a => r_l2 (S_l2 x a)) a := by kernel_rfl
theorem ok_l2 (K : Nat) (x : Args ps) : N_l2 K x = l2 K x := funext fun a => evLoop_iter live_l2 (ev K (sub body [1, 1, 1, 0, 1, 0, 0])) (k_l2 K x) (S_l2 x) (fun rec a => l2.step K x rec a) (fun r_l2 a => (h_l2 K x r_l2 a)) K a
theorem h_l0 (K : Nat) (x : Args ps) (r_l0 : St → Option Res) (a : A_l0) : ev K (sub body [1, 0, 1, 0, 0]) (S_l0 x a) (kLoop live_l0 r_l0 (k_l0 K x)) = l0.step K x (N_l1 K x r_l0) (N_l2 K x) (fun a => r_l0 (S_l0 x a)) a := by kernel_rfl
theorem ok_l0 (K : Nat) (x : Args ps) : N_l0 K x = l0 K x := funext fun a => evLoop_iter live_l0 (ev K (sub body [1, 0, 1, 0, 0])) (k_l0 K x) (S_l0 x) (fun rec a => l0.step K x (l1 K x rec) (l2 K x) rec a) (fun r_l0 a => (h_l0 K x r_l0 a).trans (by rw [ok_l1 K x r_l0, ok_l2 K x])) K a
theorem eqn (K : Nat) (x : Args ps) : evF (G K) T L K Try.f46 ps rs true x = f K x := (show evF (G K) T L K Try.f46 ps rs true x = pre K (N_l0 K x) x by kernel_rfl).trans (by rw [ok_l0 K x]; rfl)
end spec_l21DoubtsOk
/-! ### spec.CoordOk -/
namespace spec_CoordOk
@[reducible] def ps : List PK := [.rd t9]
@[reducible] def rs : List RK := [.v false .bool]
abbrev Res := Ress rs × Outs ps
noncomputable def pre (K : Nat) (x : Args ps) : Option Res := (spec_l1In.f K (x.1.1, (-100000), 100000, ())).bind fun y1 => bif y1.1.1 then ((spec_l1In.f K (x.1.2.1, (-100000), 100000, ())).bind fun y2 => bif y2.1.1 then ((spec_l1In.f K (x.1.2.2.1, 0, 100000, ())).bind fun y3 => bif y3.1.1 then ((spec_l1In.f K (x.1.2.2.2, 1, 1500, ())).bind fun y4 => some ((y4.1.1, ()), ())) else (some ((false, ()), ()))) else (some ((false, ()), ()))) else (some ((false, ()), ()))
noncomputable def f (K : Nat) (x : Args ps) : Option Res := pre K x
noncomputable def c (K : Nat) : Ctr := ⟨47, ps, rs, true, f K⟩
noncomputable def G (K : Nat) : List Ctr := [spec_l1In.c K]
noncomputable def L : List (Nat × List (Nat × List Coe)) := []
noncomputable def body : Code := bodyOf Try.f47
noncomputable abbrev ev (K : Nat) : Code → St → (Ex → St → Option Res) → Option Res := evK (G K) T L K
noncomputable abbrev fin : Ex → St → Option Res := finK T ps rs true Try.f47.results.toList
theorem eqn (K : Nat) (x : Args ps) : evF (G K) T L K Try.f47 ps rs true x = f K x := by kernel_rfl
end spec_CoordOk
/-! ### spec.l21PlacesOk -/
namespace spec_l21PlacesOk
@[reducible] def ps : List PK := [.rd t26]
@[reducible] def rs : List RK := [.v false .bool]
abbrev Res := Ress rs × Outs ps
abbrev A_l1 := Int × Int × Int × Int × Int × Int × Int × List (Ty.den (.int .i64))
abbrev A_l0 := Int
noncomputable def l1.step (K : Nat) (x : Args ps) (rec_l0 : A_l0 → Option Res) (rec_l1 : A_l1 → Option Res) (a : A_l1) : Option Res := bif decide (a.2.1 < (List.length a.2.2.2.2.2.2.2 : Int)) then ((idx a.2.2.2.2.2.2.2 a.2.1).bind fun y8 => (spec_l1In.f K (y8, 1, 60000, ())).bind fun y9 => bif !y9.1.1 then (some ((false, ()), ())) else (rec_l1 (a.1, wr .i64 (a.2.1 + 1), a.2.2.1, a.2.2.2.1, a.2.2.2.2.1, a.2.2.2.2.2.1, a.2.2.2.2.2.2.1, a.2.2.2.2.2.2.2))) else (rec_l0 (wr .i64 (a.1 + 1)))
noncomputable def l1 (K : Nat) (x : Args ps) (rec_l0 : A_l0 → Option Res) : A_l1 → Option Res := iterate (fun rec_l1 a => l1.step K x rec_l0 rec_l1 a) K
noncomputable def l0.step (K : Nat) (x : Args ps) (N_l1 : A_l1 → Option Res) (rec_l0 : A_l0 → Option Res) (a : A_l0) : Option Res := bif decide (a < (List.length x.1.2.2.2.2.2.2.2.2.2.2.2.2.2.1 : Int)) then ((idx x.1.2.2.2.2.2.2.2.2.2.2.2.2.2.1 a).bind fun y1 => (spec_l1In.f K (y1.1, 0, 7, ())).bind fun y2 => bif !y2.1.1 then (some ((false, ()), ())) else ((spec_l21Site.f K (y1.1, ())).bind fun y3 => (spec_l21Site.f K (x.1.1, ())).bind fun y4 => bif y3.1.1 != y4.1.1 then (some ((false, ()), ())) else (bif y1.1 == x.1.1 then (some ((false, ()), ())) else (bif decide (a > 0) then ((idx x.1.2.2.2.2.2.2.2.2.2.2.2.2.2.1 (wr .i64 (a - 1))).bind fun y5 => bif decide (y5.1 ≥ y1.1) then (some ((false, ()), ())) else ((spec_CoordOk.f K (y1.2.1, ())).bind fun y6 => bif !y6.1.1 then (some ((false, ()), ())) else ((spec_l1In.f K ((List.length y1.2.2 : Int), 1, 3, ())).bind fun y7 => bif !y7.1.1 then (some ((false, ()), ())) else (N_l1 (a, 0, y1.1, y1.2.1.1, y1.2.1.2.1, y1.2.1.2.2.1, y1.2.1.2.2.2, y1.2.2))))) else ((spec_CoordOk.f K (y1.2.1, ())).bind fun y10 => bif !y10.1.1 then (some ((false, ()), ())) else ((spec_l1In.f K ((List.length y1.2.2 : Int), 1, 3, ())).bind fun y11 => bif !y11.1.1 then (some ((false, ()), ())) else (N_l1 (a, 0, y1.1, y1.2.1.1, y1.2.1.2.1, y1.2.1.2.2.1, y1.2.1.2.2.2, y1.2.2)))))))) else (some ((true, ()), ()))
noncomputable def l0 (K : Nat) (x : Args ps) : A_l0 → Option Res := iterate (fun rec_l0 a => l0.step K x (l1 K x rec_l0) rec_l0 a) K
noncomputable def pre (K : Nat) (N_l0 : A_l0 → Option Res) (x : Args ps) : Option Res := N_l0 0
noncomputable def f (K : Nat) (x : Args ps) : Option Res := pre K (l0 K x) x
noncomputable def c (K : Nat) : Ctr := ⟨48, ps, rs, true, f K⟩
noncomputable def G (K : Nat) : List Ctr := [spec_l1In.c K, spec_l21Site.c K, spec_CoordOk.c K]
noncomputable def live_l1 : List (Nat × List Coe) := [(1, [.keep]), (3, [.keep]), (4, [.keep]), (5, [.keep]), (100001, [.keep, .keep, .keep, .keep, .keep, .keep, .keep, .keep, .ro true 62 t2, .ro true 121 t3, .keep, .keep, .keep, .keep, .ro true 95 t6, .keep, .keep, .keep, .keep, .ro true 123 t11, .ro true 125 t12]), (100004, [.keep, .keep, .keep, .keep, .keep, .ro true 3 (.int .i64)])]
noncomputable def live_l0 : List (Nat × List Coe) := [(1, [.keep]), (3, [.keep]), (100001, [.keep, .keep, .keep, .keep, .keep, .keep, .keep, .keep, .ro true 62 t2, .ro true 121 t3, .keep, .keep, .keep, .keep, .ro true 95 t6, .keep, .keep, .keep, .keep, .ro true 123 t11, .ro true 125 t12])]
noncomputable def L : List (Nat × List (Nat × List Coe)) := [(9, live_l1), (3, live_l0)]
noncomputable def body : Code := bodyOf Try.f48
noncomputable abbrev ev (K : Nat) : Code → St → (Ex → St → Option Res) → Option Res := evK (G K) T L K
noncomputable abbrev fin : Ex → St → Option Res := finK T ps rs true Try.f48.results.toList
noncomputable def S_l0 (x : Args ps) (a : A_l0) : St := mkSt [(1, ⟨0, .one, [.bp 100001 0]⟩), (3, ⟨0, .one, [.int .i64 a]⟩), (100001, ⟨0, .agg, [.int .i64 x.1.1, .bool x.1.2.1, .bool x.1.2.2.1, .bool x.1.2.2.2.1, .int .i64 x.1.2.2.2.2.1, .int .i64 x.1.2.2.2.2.2.1, .int .i64 x.1.2.2.2.2.2.2.1, .int .i64 x.1.2.2.2.2.2.2.2.1, .ro true 62 t2 x.1.2.2.2.2.2.2.2.2.1, .ro true 121 t3 x.1.2.2.2.2.2.2.2.2.2.1, .int .i64 x.1.2.2.2.2.2.2.2.2.2.2.1.1, .int .i64 x.1.2.2.2.2.2.2.2.2.2.2.1.2.1, .int .i64 x.1.2.2.2.2.2.2.2.2.2.2.1.2.2.1, .bool x.1.2.2.2.2.2.2.2.2.2.2.1.2.2.2, .ro true 95 t6 x.1.2.2.2.2.2.2.2.2.2.2.2.1, .int .i64 x.1.2.2.2.2.2.2.2.2.2.2.2.2.1.1, .int .i64 x.1.2.2.2.2.2.2.2.2.2.2.2.2.1.2.1, .int .i64 x.1.2.2.2.2.2.2.2.2.2.2.2.2.1.2.2.1, .int .i64 x.1.2.2.2.2.2.2.2.2.2.2.2.2.1.2.2.2, .ro true 123 t11 x.1.2.2.2.2.2.2.2.2.2.2.2.2.2.1, .ro true 125 t12 x.1.2.2.2.2.2.2.2.2.2.2.2.2.2.2]⟩)]
noncomputable def S_l1 (x : Args ps) (a : A_l1) : St := mkSt [(1, ⟨0, .one, [.bp 100001 0]⟩), (3, ⟨0, .one, [.int .i64 a.1]⟩), (4, ⟨0, .one, [.bp 100004 0]⟩), (5, ⟨0, .one, [.int .i64 a.2.1]⟩), (100001, ⟨0, .agg, [.int .i64 x.1.1, .bool x.1.2.1, .bool x.1.2.2.1, .bool x.1.2.2.2.1, .int .i64 x.1.2.2.2.2.1, .int .i64 x.1.2.2.2.2.2.1, .int .i64 x.1.2.2.2.2.2.2.1, .int .i64 x.1.2.2.2.2.2.2.2.1, .ro true 62 t2 x.1.2.2.2.2.2.2.2.2.1, .ro true 121 t3 x.1.2.2.2.2.2.2.2.2.2.1, .int .i64 x.1.2.2.2.2.2.2.2.2.2.2.1.1, .int .i64 x.1.2.2.2.2.2.2.2.2.2.2.1.2.1, .int .i64 x.1.2.2.2.2.2.2.2.2.2.2.1.2.2.1, .bool x.1.2.2.2.2.2.2.2.2.2.2.1.2.2.2, .ro true 95 t6 x.1.2.2.2.2.2.2.2.2.2.2.2.1, .int .i64 x.1.2.2.2.2.2.2.2.2.2.2.2.2.1.1, .int .i64 x.1.2.2.2.2.2.2.2.2.2.2.2.2.1.2.1, .int .i64 x.1.2.2.2.2.2.2.2.2.2.2.2.2.1.2.2.1, .int .i64 x.1.2.2.2.2.2.2.2.2.2.2.2.2.1.2.2.2, .ro true 123 t11 x.1.2.2.2.2.2.2.2.2.2.2.2.2.2.1, .ro true 125 t12 x.1.2.2.2.2.2.2.2.2.2.2.2.2.2.2]⟩), (100004, ⟨0, .agg, [.int .i64 a.2.2.1, .int .i64 a.2.2.2.1, .int .i64 a.2.2.2.2.1, .int .i64 a.2.2.2.2.2.1, .int .i64 a.2.2.2.2.2.2.1, .ro true 3 (.int .i64) a.2.2.2.2.2.2.2]⟩)]
noncomputable def k_l0 (K : Nat) (x : Args ps) : Ex → St → Option Res := kAt (ev K) body [1, 0, 1, 0] fin
noncomputable def N_l0 (K : Nat) (x : Args ps) : A_l0 → Option Res := fun a => evLoop live_l0 (ev K (sub body [1, 0, 1, 0, 0])) K (S_l0 x a) (k_l0 K x)
noncomputable def k_l1 (K : Nat) (x : Args ps) (r_l0 : St → Option Res) : Ex → St → Option Res := kAt (ev K) (sub body [1, 0, 1, 0, 0]) [1, 0, 0, 1, 1, 1, 0] (kLoop live_l0 r_l0 (k_l0 K x))
noncomputable def N_l1 (K : Nat) (x : Args ps) (r_l0 : St → Option Res) : A_l1 → Option Res := fun a => evLoop live_l1 (ev K (sub body [1, 0, 1, 0, 0, 1, 0, 0, 1, 1, 1, 0, 0])) K (S_l1 x a) (k_l1 K x r_l0)
theorem h_l1 (K : Nat) (x : Args ps) (r_l0 : St → Option Res) (r_l1 : St → Option Res) (a : A_l1) : ev K (sub body [1, 0, 1, 0, 0, 1, 0, 0, 1, 1, 1, 0, 0]) (S_l1 x a) (kLoop live_l1 r_l1 (k_l1 K x r_l0)) = l1.step K x (fun a => r_l0 (S_l0 x a)) (fun a => r_l1 (S_l1 x a)) a := by kernel_rfl
theorem ok_l1 (K : Nat) (x : Args ps) (r_l0 : St → Option Res) : N_l1 K x r_l0 = l1 K x (fun a => r_l0 (S_l0 x a)) := funext fun a => evLoop_iter live_l1 (ev K (sub body [1, 0, 1, 0, 0, 1, 0, 0, 1, 1, 1, 0, 0])) (k_l1 K x r_l0) (S_l1 x) (fun rec a => l1.step K x (fun a => r_l0 (S_l0 x a)) rec a) (fun r_l1 a => (h_l1 K x r_l0 r_l1 a)) K a
theorem h_l0 (K : Nat) (x : Args ps) (r_l0 : St → Option Res) (a : A_l0) : ev K (sub body [1, 0, 1, 0, 0]) (S_l0 x a) (kLoop live_l0 r_l0 (k_l0 K x)) = l0.step K x (N_l1 K x r_l0) (fun a => r_l0 (S_l0 x a)) a := by kernel_rfl
theorem ok_l0 (K : Nat) (x : Args ps) : N_l0 K x = l0 K x := funext fun a => evLoop_iter live_l0 (ev K (sub body [1, 0, 1, 0, 0])) (k_l0 K x) (S_l0 x) (fun rec a => l0.step K x (l1 K x rec) rec a) (fun r_l0 a => (h_l0 K x r_l0 a).trans (by rw [ok_l1 K x r_l0])) K a
theorem eqn (K : Nat) (x : Args ps) : evF (G K) T L K Try.f48 ps rs true x = f K x := (show evF (G K) T L K Try.f48 ps rs true x = pre K (N_l0 K x) x by kernel_rfl).trans (by rw [ok_l0 K x]; rfl)
end spec_l21PlacesOk
/-! ### spec.l21OthersOk -/
namespace spec_l21OthersOk
@[reducible] def ps : List PK := [.rd t26]
@[reducible] def rs : List RK := [.v false .bool]
abbrev Res := Ress rs × Outs ps
abbrev A_l0 := Int
noncomputable def l0.step (K : Nat) (x : Args ps) (rec_l0 : A_l0 → Option Res) (a : A_l0) : Option Res := bif decide (a < (List.length x.1.2.2.2.2.2.2.2.2.2.2.2.2.2.2 : Int)) then ((idx x.1.2.2.2.2.2.2.2.2.2.2.2.2.2.2 a).bind fun y1 => (spec_l1In.f K (y1.1, 0, 1, ())).bind fun y2 => bif !y2.1.1 then (some ((false, ()), ())) else ((spec_l21Site.f K (x.1.1, ())).bind fun y3 => bif y1.1 == y3.1.1 then (some ((false, ()), ())) else (bif decide (a > 0) then ((idx x.1.2.2.2.2.2.2.2.2.2.2.2.2.2.2 (wr .i64 (a - 1))).bind fun y4 => bif decide (y4.1 ≥ y1.1) then (some ((false, ()), ())) else (bif (List.length y1.2 : Int) == 0 then (some ((false, ()), ())) else ((spec_TableOk.f K (y1.2, ())).bind fun y5 => bif !y5.1.1 then (some ((false, ()), ())) else ((spec_l4Site.f K (y1.2, y1.1, ())).bind fun y6 => bif !y6.1.1 then (some ((false, ()), ())) else (rec_l0 (wr .i64 (a + 1))))))) else (bif (List.length y1.2 : Int) == 0 then (some ((false, ()), ())) else ((spec_TableOk.f K (y1.2, ())).bind fun y7 => bif !y7.1.1 then (some ((false, ()), ())) else ((spec_l4Site.f K (y1.2, y1.1, ())).bind fun y8 => bif !y8.1.1 then (some ((false, ()), ())) else (rec_l0 (wr .i64 (a + 1))))))))) else (some ((true, ()), ()))
noncomputable def l0 (K : Nat) (x : Args ps) : A_l0 → Option Res := iterate (fun rec_l0 a => l0.step K x rec_l0 a) K
noncomputable def pre (K : Nat) (N_l0 : A_l0 → Option Res) (x : Args ps) : Option Res := N_l0 0
noncomputable def f (K : Nat) (x : Args ps) : Option Res := pre K (l0 K x) x
noncomputable def c (K : Nat) : Ctr := ⟨49, ps, rs, true, f K⟩
noncomputable def G (K : Nat) : List Ctr := [spec_l1In.c K, spec_TableOk.c K, spec_l4Site.c K, spec_l21Site.c K]
noncomputable def live_l0 : List (Nat × List Coe) := [(1, [.keep]), (3, [.keep]), (100001, [.keep, .keep, .keep, .keep, .keep, .keep, .keep, .keep, .ro true 62 t2, .ro true 121 t3, .keep, .keep, .keep, .keep, .ro true 95 t6, .keep, .keep, .keep, .keep, .ro true 123 t11, .ro true 125 t12])]
noncomputable def L : List (Nat × List (Nat × List Coe)) := [(3, live_l0)]
noncomputable def body : Code := bodyOf Try.f49
noncomputable abbrev ev (K : Nat) : Code → St → (Ex → St → Option Res) → Option Res := evK (G K) T L K
noncomputable abbrev fin : Ex → St → Option Res := finK T ps rs true Try.f49.results.toList
noncomputable def S_l0 (x : Args ps) (a : A_l0) : St := mkSt [(1, ⟨0, .one, [.bp 100001 0]⟩), (3, ⟨0, .one, [.int .i64 a]⟩), (100001, ⟨0, .agg, [.int .i64 x.1.1, .bool x.1.2.1, .bool x.1.2.2.1, .bool x.1.2.2.2.1, .int .i64 x.1.2.2.2.2.1, .int .i64 x.1.2.2.2.2.2.1, .int .i64 x.1.2.2.2.2.2.2.1, .int .i64 x.1.2.2.2.2.2.2.2.1, .ro true 62 t2 x.1.2.2.2.2.2.2.2.2.1, .ro true 121 t3 x.1.2.2.2.2.2.2.2.2.2.1, .int .i64 x.1.2.2.2.2.2.2.2.2.2.2.1.1, .int .i64 x.1.2.2.2.2.2.2.2.2.2.2.1.2.1, .int .i64 x.1.2.2.2.2.2.2.2.2.2.2.1.2.2.1, .bool x.1.2.2.2.2.2.2.2.2.2.2.1.2.2.2, .ro true 95 t6 x.1.2.2.2.2.2.2.2.2.2.2.2.1, .int .i64 x.1.2.2.2.2.2.2.2.2.2.2.2.2.1.1, .int .i64 x.1.2.2.2.2.2.2.2.2.2.2.2.2.1.2.1, .int .i64 x.1.2.2.2.2.2.2.2.2.2.2.2.2.1.2.2.1, .int .i64 x.1.2.2.2.2.2.2.2.2.2.2.2.2.1.2.2.2, .ro true 123 t11 x.1.2.2.2.2.2.2.2.2.2.2.2.2.2.1, .ro true 125 t12 x.1.2.2.2.2.2.2.2.2.2.2.2.2.2.2]⟩)]
noncomputable def k_l0 (K : Nat) (x : Args ps) : Ex → St → Option Res := kAt (ev K) body [1, 0, 1, 0] fin
noncomputable def N_l0 (K : Nat) (x : Args ps) : A_l0 → Option Res := fun a => evLoop live_l0 (ev K (sub body [1, 0, 1, 0, 0])) K (S_l0 x a) (k_l0 K x)
theorem h_l0 (K : Nat) (x : Args ps) (r_l0 : St → Option Res) (a : A_l0) : ev K (sub body [1, 0, 1, 0, 0]) (S_l0 x a) (kLoop live_l0 r_l0 (k_l0 K x)) = l0.step K x (fun a => r_l0 (S_l0 x a)) a := by kernel_rfl
theorem ok_l0 (K : Nat) (x : Args ps) : N_l0 K x = l0 K x := funext fun a => evLoop_iter live_l0 (ev K (sub body [1, 0, 1, 0, 0])) (k_l0 K x) (S_l0 x) (fun rec a => l0.step K x rec a) (fun r_l0 a => (h_l0 K x r_l0 a)) K a
theorem eqn (K : Nat) (x : Args ps) : evF (G K) T L K Try.f49 ps rs true x = f K x := (show evF (G K) T L K Try.f49 ps rs true x = pre K (N_l0 K x) x by kernel_rfl).trans (by rw [ok_l0 K x]; rfl)
end spec_l21OthersOk
/-! ### spec.NodeOk -/
namespace spec_NodeOk
@[reducible] def ps : List PK := [.rd t26]
@[reducible] def rs : List RK := [.v false .bool]
abbrev Res := Ress rs × Outs ps
noncomputable def pre (K : Nat) (x : Args ps) : Option Res := (spec_l1In.f K (x.1.1, 0, 7, ())).bind fun y1 => bif !y1.1.1 then (some ((false, ()), ())) else ((spec_l1In.f K (x.1.2.2.2.2.2.1, 0, 999999, ())).bind fun y2 => bif !y2.1.1 then (some ((false, ()), ())) else ((spec_l1In.f K (x.1.2.2.2.2.2.2.1, 0, 999999, ())).bind fun y3 => bif !y3.1.1 then (some ((false, ()), ())) else ((spec_l1In.f K (x.1.2.2.2.2.2.2.2.1, 0, 8, ())).bind fun y4 => bif !y4.1.1 then (some ((false, ()), ())) else ((spec_l1In.f K (x.1.2.2.2.2.1, 0, 999, ())).bind fun y5 => bif !y5.1.1 then (some ((false, ()), ())) else (bif !x.1.2.1 then (bif !x.1.2.2.1 then (bif x.1.2.2.2.2.1 == 0 then (bif x.1.2.2.2.2.2.1 == 0 then (bif x.1.2.2.2.2.2.2.1 == 0 then (bif x.1.2.2.2.2.2.2.2.1 == 0 then (bif (wr .i64 ((wr .i64 ((wr .i64 ((wr .i64 ((List.length x.1.2.2.2.2.2.2.2.2.1 : Int) + (List.length x.1.2.2.2.2.2.2.2.2.2.1 : Int))) + (List.length x.1.2.2.2.2.2.2.2.2.2.2.2.1 : Int))) + (List.length x.1.2.2.2.2.2.2.2.2.2.2.2.2.2.1 : Int))) + (List.length x.1.2.2.2.2.2.2.2.2.2.2.2.2.2.2 : Int))) == 0 then (bif x.1.2.2.2.2.2.2.2.2.2.2.1.1 == 0 then (bif x.1.2.2.2.2.2.2.2.2.2.2.1.2.1 == 0 then (bif x.1.2.2.2.2.2.2.2.2.2.2.1.2.2.1 == 0 then (bif !x.1.2.2.2.2.2.2.2.2.2.2.1.2.2.2 then (bif x.1.2.2.2.2.2.2.2.2.2.2.2.2.1.1 == 0 then (bif x.1.2.2.2.2.2.2.2.2.2.2.2.2.1.2.1 == 0 then (bif x.1.2.2.2.2.2.2.2.2.2.2.2.2.1.2.2.1 == 0 then (some ((x.1.2.2.2.2.2.2.2.2.2.2.2.2.1.2.2.2 == 0, ()), ())) else (some ((false, ()), ()))) else (some ((false, ()), ()))) else (some ((false, ()), ()))) else (some ((false, ()), ()))) else (some ((false, ()), ()))) else (some ((false, ()), ()))) else (some ((false, ()), ()))) else (some ((false, ()), ()))) else (some ((false, ()), ()))) else (some ((false, ()), ()))) else (some ((false, ()), ()))) else (some ((false, ()), ()))) else (some ((false, ()), ()))) else ((spec_TableOk.f K (x.1.2.2.2.2.2.2.2.2.1, ())).bind fun y6 => bif y6.1.1 then ((spec_l21Site.f K (x.1.1, ())).bind fun y7 => (spec_l4Site.f K (x.1.2.2.2.2.2.2.2.2.1, y7.1.1, ())).bind fun y8 => bif y8.1.1 then ((spec_l21Self.f K (x.1, ())).bind fun y9 => bif y9.1.1 then ((spec_l21CastOk.f K (x.1, ())).bind fun y10 => bif y10.1.1 then ((spec_l21ProbeOk.f K (x.1, ())).bind fun y11 => bif y11.1.1 then ((spec_l21DoubtsOk.f K (x.1, ())).bind fun y12 => bif y12.1.1 then ((spec_CoordOk.f K (x.1.2.2.2.2.2.2.2.2.2.2.2.2.1, ())).bind fun y13 => bif y13.1.1 then ((spec_l21PlacesOk.f K (x.1, ())).bind fun y14 => bif y14.1.1 then ((spec_l21OthersOk.f K (x.1, ())).bind fun y15 => some ((y15.1.1, ()), ())) else (some ((false, ()), ()))) else (some ((false, ()), ()))) else (some ((false, ()), ()))) else (some ((false, ()), ()))) else (some ((false, ()), ()))) else (some ((false, ()), ()))) else (some ((false, ()), ()))) else (some ((false, ()), ()))))))))
noncomputable def f (K : Nat) (x : Args ps) : Option Res := pre K x
noncomputable def c (K : Nat) : Ctr := ⟨12, ps, rs, true, f K⟩
noncomputable def G (K : Nat) : List Ctr := [spec_l1In.c K, spec_TableOk.c K, spec_l4Site.c K, spec_l21Site.c K, spec_l21Self.c K, spec_l21CastOk.c K, spec_l21ProbeOk.c K, spec_l21DoubtsOk.c K, spec_CoordOk.c K, spec_l21PlacesOk.c K, spec_l21OthersOk.c K]
noncomputable def L : List (Nat × List (Nat × List Coe)) := []
noncomputable def body : Code := bodyOf Try.f12
noncomputable abbrev ev (K : Nat) : Code → St → (Ex → St → Option Res) → Option Res := evK (G K) T L K
noncomputable abbrev fin : Ex → St → Option Res := finK T ps rs true Try.f12.results.toList
theorem eqn (K : Nat) (x : Args ps) : evF (G K) T L K Try.f12 ps rs true x = f K x := by kernel_rfl
end spec_NodeOk
/-! ### impl.Node).isDown -/
namespace impl_Node_isDown
@[reducible] def ps : List PK := [.rd t26]
@[reducible] def rs : List RK := [.v false .bool]
abbrev Res := Ress rs × Outs ps
noncomputable def pre (K : Nat) (x : Args ps) : Option Res := bif !x.1.2.2.1 then (bif x.1.2.2.2.2.1 == 0 then (bif x.1.2.2.2.2.2.1 == 0 then (bif x.1.2.2.2.2.2.2.1 == 0 then (bif x.1.2.2.2.2.2.2.2.1 == 0 then (bif (wr .i64 ((wr .i64 ((wr .i64 ((wr .i64 ((List.length x.1.2.2.2.2.2.2.2.2.1 : Int) + (List.length x.1.2.2.2.2.2.2.2.2.2.1 : Int))) + (List.length x.1.2.2.2.2.2.2.2.2.2.2.2.1 : Int))) + (List.length x.1.2.2.2.2.2.2.2.2.2.2.2.2.2.1 : Int))) + (List.length x.1.2.2.2.2.2.2.2.2.2.2.2.2.2.2 : Int))) == 0 then (bif Ty.eqv t2 x.1.2.2.2.2.2.2.2.2.2.2.1 (0, (0, (0, false))) then (some ((Ty.eqv t9 x.1.2.2.2.2.2.2.2.2.2.2.2.2.1 (0, (0, (0, 0))), ()), ())) else (some ((false, ()), ()))) else (some ((false, ()), ()))) else (some ((false, ()), ()))) else (some ((false, ()), ()))) else (some ((false, ()), ()))) else (some ((false, ()), ()))) else (some ((false, ()), ()))
noncomputable def f (K : Nat) (x : Args ps) : Option Res := pre K x
noncomputable def c (K : Nat) : Ctr := ⟨59, ps, rs, true, f K⟩
noncomputable def G (K : Nat) : List Ctr := []
noncomputable def L : List (Nat × List (Nat × List Coe)) := []
noncomputable def body : Code := bodyOf Try.f59
noncomputable abbrev ev (K : Nat) : Code → St → (Ex → St → Option Res) → Option Res := evK (G K) T L K
noncomputable abbrev fin : Ex → St → Option Res := finK T ps rs true Try.f59.results.toList
theorem eqn (K : Nat) (x : Args ps) : evF (G K) T L K Try.f59 ps rs true x = f K x := by kernel_rfl
end impl_Node_isDown
/-! ### impl.FactOk -/
namespace impl_FactOk
@[reducible] def ps : List PK := [.rd t2]
@[reducible] def rs : List RK := [.v false .bool]
abbrev Res := Ress rs × Outs ps
noncomputable def pre (K : Nat) (x : Args ps) : Option Res := (impl_isNode.f K (x.1.1, ())).bind fun y1 => bif y1.1.1 then ((impl_in.f K (x.1.2.1, 0, 999, ())).bind fun y2 => bif y2.1.1 then ((impl_in.f K (x.1.2.2.1, 1, 4, ())).bind fun y3 => some ((y3.1.1, ()), ())) else (some ((false, ()), ()))) else (some ((false, ()), ()))
noncomputable def f (K : Nat) (x : Args ps) : Option Res := pre K x
noncomputable def c (K : Nat) : Ctr := ⟨126, ps, rs, true, f K⟩
noncomputable def G (K : Nat) : List Ctr := [impl_isNode.c K, impl_in.c K]
noncomputable def L : List (Nat × List (Nat × List Coe)) := []
noncomputable def body : Code := bodyOf Try.f126
noncomputable abbrev ev (K : Nat) : Code → St → (Ex → St → Option Res) → Option Res := evK (G K) T L K
noncomputable abbrev fin : Ex → St → Option Res := finK T ps rs true Try.f126.results.toList
theorem eqn (K : Nat) (x : Args ps) : evF (G K) T L K Try.f126 ps rs true x = f K x := by kernel_rfl
end impl_FactOk
/-! ### impl.TableOk -/
namespace impl_TableOk
@[reducible] def ps : List PK := [.rd (.list 62 t2)]
@[reducible] def rs : List RK := [.v false .bool]
abbrev Res := Ress rs × Outs ps
abbrev A_l0 := Int
noncomputable def l0.step (K : Nat) (x : Args ps) (rec_l0 : A_l0 → Option Res) (a : A_l0) : Option Res := bif decide (a < (List.length x.1 : Int)) then ((idx x.1 a).bind fun y1 => (impl_FactOk.f K (y1, ())).bind fun y2 => bif !y2.1.1 then (some ((false, ()), ())) else (bif decide (a > 0) then ((idx x.1 (wr .i64 (a - 1))).bind fun y3 => bif decide (y1.1 ≤ y3.1) then (some ((false, ()), ())) else (rec_l0 (wr .i64 (a + 1)))) else (rec_l0 (wr .i64 (a + 1))))) else (some ((true, ()), ()))
noncomputable def l0 (K : Nat) (x : Args ps) : A_l0 → Option Res := iterate (fun rec_l0 a => l0.step K x rec_l0 a) K
noncomputable def pre (K : Nat) (N_l0 : A_l0 → Option Res) (x : Args ps) : Option Res := N_l0 0
noncomputable def f (K : Nat) (x : Args ps) : Option Res := pre K (l0 K x) x
noncomputable def c (K : Nat) : Ctr := ⟨113, ps, rs, true, f K⟩
noncomputable def G (K : Nat) : List Ctr := [impl_FactOk.c K]
noncomputable def live_l0 : List (Nat × List Coe) := [(0, [.ro true 62 t2]), (5, [.ro true 62 t2]), (6, [.keep]), (7, [.keep])]
noncomputable def L : List (Nat × List (Nat × List Coe)) := [(3, live_l0)]
noncomputable def body : Code := bodyOf Try.f113
noncomputable abbrev ev (K : Nat) : Code → St → (Ex → St → Option Res) → Option Res := evK (G K) T L K
noncomputable abbrev fin : Ex → St → Option Res := finK T ps rs true Try.f113.results.toList
noncomputable def S_l0 (x : Args ps) (a : A_l0) : St := mkSt [(0, ⟨0, .one, [.ro true 62 t2 x.1]⟩), (5, ⟨0, .one, [.ro true 62 t2 x.1]⟩), (6, ⟨0, .one, [.int .i64 (List.length x.1 : Int)]⟩), (7, ⟨0, .one, [.int .i64 a]⟩)]
noncomputable def k_l0 (K : Nat) (x : Args ps) : Ex → St → Option Res := kAt (ev K) body [1, 0, 1, 0] fin
noncomputable def N_l0 (K : Nat) (x : Args ps) : A_l0 → Option Res := fun a => evLoop live_l0 (ev K (sub body [1, 0, 1, 0, 0])) K (S_l0 x a) (k_l0 K x)
theorem h_l0 (K : Nat) (x : Args ps) (r_l0 : St → Option Res) (a : A_l0) : ev K (sub body [1, 0, 1, 0, 0]) (S_l0 x a) (kLoop live_l0 r_l0 (k_l0 K x)) = l0.step K x (fun a => r_l0 (S_l0 x a)) a := by kernel_rfl
theorem ok_l0 (K : Nat) (x : Args ps) : N_l0 K x = l0 K x := funext fun a => evLoop_iter live_l0 (ev K (sub body [1, 0, 1, 0, 0])) (k_l0 K x) (S_l0 x) (fun rec a => l0.step K x rec a) (fun r_l0 a => (h_l0 K x r_l0 a)) K a
theorem eqn (K : Nat) (x : Args ps) : evF (G K) T L K Try.f113 ps rs true x = f K x := (show evF (G K) T L K Try.f113 ps rs true x = pre K (N_l0 K x) x by kernel_rfl).trans (by rw [ok_l0 K x]; rfl)
end impl_TableOk
/-! ### impl.Fact,int] -/
namespace slices_BinarySearchFunc_impl_Fact_impl_Fact_int
@[reducible] def ps : List PK := [.rd (.list 62 t2), .rd (.int .i64), .fn [t2, (.int .i64)] (.int .i64)]
@[reducible] def rs : List RK := [.v false (.int .i64), .v false .bool]
abbrev Res := Ress rs × Outs ps
abbrev A_l0 := Int × Int
noncomputable def l0.step (K : Nat) (x : Args ps) (rec_l0 : A_l0 → Option Res) (a : A_l0) : Option Res := bif decide (a.1 < a.2) then ((idx x.1 (wr .i64 (Int.fdiv (wr .u64 (wr .i64 (a.1 + a.2))) (2 ^ 1)))).bind fun y1 => (x.2.2.1 (y1, x.2.1, ())).bind fun y2 => bif decide (y2 < 0) then (rec_l0 (wr .i64 ((wr .i64 (Int.fdiv (wr .u64 (wr .i64 (a.1 + a.2))) (2 ^ 1))) + 1), a.2)) else (rec_l0 (a.1, wr .i64 (Int.fdiv (wr .u64 (wr .i64 (a.1 + a.2))) (2 ^ 1))))) else (bif decide (a.1 < (List.length x.1 : Int)) then ((idx x.1 a.1).bind fun y3 => (x.2.2.1 (y3, x.2.1, ())).bind fun y4 => some ((a.1, y4 == 0, ()), ())) else (some ((a.1, false, ()), ())))
noncomputable def l0 (K : Nat) (x : Args ps) : A_l0 → Option Res := iterate (fun rec_l0 a => l0.step K x rec_l0 a) K
noncomputable def pre (K : Nat) (N_l0 : A_l0 → Option Res) (x : Args ps) : Option Res := N_l0 (0, (List.length x.1 : Int))
noncomputable def f (K : Nat) (x : Args ps) : Option Res := pre K (l0 K x) x
noncomputable def c (K : Nat) : Ctr := ⟨129, ps, rs, true, f K⟩
noncomputable def G (K : Nat) : List Ctr := []
noncomputable def live_l0 : List (Nat × List Coe) := [(0, [.ro true 62 t2]), (1, [.keep]), (2, [.keep]), (8, [.keep]), (9, [.keep]), (10, [.keep])]
noncomputable def L : List (Nat × List (Nat × List Coe)) := [(4, live_l0)]
noncomputable def body : Code := bodyOf Try.f129
noncomputable abbrev ev (K : Nat) : Code → St → (Ex → St → Option Res) → Option Res := evK (G K) T L K
noncomputable abbrev fin : Ex → St → Option Res := finK T ps rs true Try.f129.results.toList
noncomputable def S_l0 (x : Args ps) (a : A_l0) : St := mkSt [(0, ⟨0, .one, [.ro true 62 t2 x.1]⟩), (1, ⟨0, .one, [.int .i64 x.2.1]⟩), (2, ⟨0, .one, [.fn [t2, (.int .i64)] (.int .i64) x.2.2.1]⟩), (8, ⟨0, .one, [.int .i64 (List.length x.1 : Int)]⟩), (9, ⟨0, .one, [.int .i64 a.1]⟩), (10, ⟨0, .one, [.int .i64 a.2]⟩)]
noncomputable def k_l0 (K : Nat) (x : Args ps) : Ex → St → Option Res := kAt (ev K) body [1, 1, 1, 0, 0] fin
noncomputable def N_l0 (K : Nat) (x : Args ps) : A_l0 → Option Res := fun a => evLoop live_l0 (ev K (sub body [1, 1, 1, 0, 0, 0])) K (S_l0 x a) (k_l0 K x)
theorem h_l0 (K : Nat) (x : Args ps) (r_l0 : St → Option Res) (a : A_l0) : ev K (sub body [1, 1, 1, 0, 0, 0]) (S_l0 x a) (kLoop live_l0 r_l0 (k_l0 K x)) = l0.step K x (fun a => r_l0 (S_l0 x a)) a := by kernel_rfl
theorem ok_l0 (K : Nat) (x : Args ps) : N_l0 K x = l0 K x := funext fun a => evLoop_iter live_l0 (ev K (sub body [1, 1, 1, 0, 0, 0])) (k_l0 K x) (S_l0 x) (fun rec a => l0.step K x rec a) (fun r_l0 a => (h_l0 K x r_l0 a)) K a
theorem eqn (K : Nat) (x : Args ps) : evF (G K) T L K Try.f129 ps rs true x = f K x := (show evF (G K) T L K Try.f129 ps rs true x = pre K (N_l0 K x) x by kernel_rfl).trans (by rw [ok_l0 K x]; rfl)
end slices_BinarySearchFunc_impl_Fact_impl_Fact_int
/-! ### cmp.isNaN[int] -/
namespace cmp_isNaN_int
@[reducible] def ps : List PK := [.rd (.int .i64)]
@[reducible] def rs : List RK := [.v false .bool]
abbrev Res := Ress rs × Outs ps
noncomputable def pre (K : Nat) (x : Args ps) : Option Res := some ((x.1 != x.1, ()), ())
noncomputable def f (K : Nat) (x : Args ps) : Option Res := pre K x
noncomputable def c (K : Nat) : Ctr := ⟨134, ps, rs, true, f K⟩
noncomputable def G (K : Nat) : List Ctr := []
noncomputable def L : List (Nat × List (Nat × List Coe)) := []
noncomputable def body : Code := bodyOf Try.f134
noncomputable abbrev ev (K : Nat) : Code → St → (Ex → St → Option Res) → Option Res := evK (G K) T L K
noncomputable abbrev fin : Ex → St → Option Res := finK T ps rs true Try.f134.results.toList
theorem eqn (K : Nat) (x : Args ps) : evF (G K) T L K Try.f134 ps rs true x = f K x := by kernel_rfl
end cmp_isNaN_int
/-! ### cmp.Compare[int] -/
namespace cmp_Compare_int
@[reducible] def ps : List PK := [.rd (.int .i64), .rd (.int .i64)]
@[reducible] def rs : List RK := [.v false (.int .i64)]
abbrev Res := Ress rs × Outs ps
noncomputable def pre (K : Nat) (x : Args ps) : Option Res := (cmp_isNaN_int.f K (x.1, ())).bind fun y1 => (cmp_isNaN_int.f K (x.2.1, ())).bind fun y2 => bif y1.1.1 then (bif y2.1.1 then (some ((0, ()), ())) else (some (((-1), ()), ()))) else (bif y2.1.1 then (some ((1, ()), ())) else (bif decide (x.1 < x.2.1) then (some (((-1), ()), ())) else (bif decide (x.1 > x.2.1) then (some ((1, ()), ())) else (some ((0, ()), ())))))
noncomputable def f (K : Nat) (x : Args ps) : Option Res := pre K x
noncomputable def c (K : Nat) : Ctr := ⟨131, ps, rs, true, f K⟩
noncomputable def G (K : Nat) : List Ctr := [cmp_isNaN_int.c K]
noncomputable def L : List (Nat × List (Nat × List Coe)) := []
noncomputable def body : Code := bodyOf Try.f131
noncomputable abbrev ev (K : Nat) : Code → St → (Ex → St → Option Res) → Option Res := evK (G K) T L K
noncomputable abbrev fin : Ex → St → Option Res := finK T ps rs true Try.f131.results.toList
theorem eqn (K : Nat) (x : Args ps) : evF (G K) T L K Try.f131 ps rs true x = f K x := by kernel_rfl
end cmp_Compare_int
/-! ### impl.find$1 -/
namespace impl_find_1
@[reducible] def ps : List PK := [.rd t2, .rd (.int .i64)]
@[reducible] def rs : List RK := [.v false (.int .i64)]
abbrev Res := Ress rs × Outs ps
noncomputable def pre (K : Nat) (x : Args ps) : Option Res := (cmp_Compare_int.f K (x.1.1, x.2.1, ())).bind fun y1 => some ((y1.1.1, ()), ())
noncomputable def f (K : Nat) (x : Args ps) : Option Res := pre K x
noncomputable def c (K : Nat) : Ctr := ⟨130, ps, rs, true, f K⟩
noncomputable def G (K : Nat) : List Ctr := [cmp_Compare_int.c K]
noncomputable def L : List (Nat × List (Nat × List Coe)) := []
noncomputable def body : Code := bodyOf Try.f130
noncomputable abbrev ev (K : Nat) : Code → St → (Ex → St → Option Res) → Option Res := evK (G K) T L K
noncomputable abbrev fin : Ex → St → Option Res := finK T ps rs true Try.f130.results.toList
theorem eqn (K : Nat) (x : Args ps) : evF (G K) T L K Try.f130 ps rs true x = f K x := by kernel_rfl
end impl_find_1
/-! ### impl.find -/
namespace impl_find
@[reducible] def ps : List PK := [.rd (.list 62 t2), .rd (.int .i64)]
@[reducible] def rs : List RK := [.v false (.int .i64), .v false .bool]
abbrev Res := Ress rs × Outs ps
noncomputable def pre (K : Nat) (x : Args ps) : Option Res := (slices_BinarySearchFunc_impl_Fact_impl_Fact_int.f K (x.1, x.2.1, fun y1 => (impl_find_1.f K (y1.1, y1.2.1, ())).map fun y => y.1.1, ())).bind fun y2 => some ((y2.1.1, y2.1.2.1, ()), ())
noncomputable def f (K : Nat) (x : Args ps) : Option Res := pre K x
noncomputable def c (K : Nat) : Ctr := ⟨120, ps, rs, true, f K⟩
noncomputable def G (K : Nat) : List Ctr := [slices_BinarySearchFunc_impl_Fact_impl_Fact_int.c K, impl_find_1.c K]
noncomputable def L : List (Nat × List (Nat × List Coe)) := []
noncomputable def body : Code := bodyOf Try.f120
noncomputable abbrev ev (K : Nat) : Code → St → (Ex → St → Option Res) → Option Res := evK (G K) T L K
noncomputable abbrev fin : Ex → St → Option Res := finK T ps rs true Try.f120.results.toList
theorem eqn (K : Nat) (x : Args ps) : evF (G K) T L K Try.f120 ps rs true x = f K x := by kernel_rfl
end impl_find
/-! ### impl.TableOf -/
namespace impl_TableOf
@[reducible] def ps : List PK := [.rd (.list 62 t2), .rd (.int .i64)]
@[reducible] def rs : List RK := [.v false t2, .v false .bool]
abbrev Res := Ress rs × Outs ps
noncomputable def pre (K : Nat) (x : Args ps) : Option Res := (impl_TableOk.f K (x.1, ())).bind fun y1 => bif !y1.1.1 then (some (((0, (0, (0, false))), false, ()), ())) else ((impl_find.f K (x.1, x.2.1, ())).bind fun y2 => bif !y2.1.2.1 then (some (((0, (0, (0, false))), false, ()), ())) else ((idx x.1 y2.1.1).bind fun y3 => some ((y3, true, ()), ())))
noncomputable def f (K : Nat) (x : Args ps) : Option Res := pre K x
noncomputable def c (K : Nat) : Ctr := ⟨101, ps, rs, true, f K⟩
noncomputable def G (K : Nat) : List Ctr := [impl_TableOk.c K, impl_find.c K]
noncomputable def L : List (Nat × List (Nat × List Coe)) := []
noncomputable def body : Code := bodyOf Try.f101
noncomputable abbrev ev (K : Nat) : Code → St → (Ex → St → Option Res) → Option Res := evK (G K) T L K
noncomputable abbrev fin : Ex → St → Option Res := finK T ps rs true Try.f101.results.toList
theorem eqn (K : Nat) (x : Args ps) : evF (G K) T L K Try.f101 ps rs true x = f K x := by kernel_rfl
end impl_TableOf
/-! ### impl.siteOf -/
namespace impl_siteOf
@[reducible] def ps : List PK := [.rd (.int .i64)]
@[reducible] def rs : List RK := [.v false (.int .i64)]
abbrev Res := Ress rs × Outs ps
noncomputable def pre (K : Nat) (x : Args ps) : Option Res := some ((wr .i64 (Int.tdiv x.1 4), ()), ())
noncomputable def f (K : Nat) (x : Args ps) : Option Res := pre K x
noncomputable def c (K : Nat) : Ctr := ⟨112, ps, rs, true, f K⟩
noncomputable def G (K : Nat) : List Ctr := []
noncomputable def L : List (Nat × List (Nat × List Coe)) := []
noncomputable def body : Code := bodyOf Try.f112
noncomputable abbrev ev (K : Nat) : Code → St → (Ex → St → Option Res) → Option Res := evK (G K) T L K
noncomputable abbrev fin : Ex → St → Option Res := finK T ps rs true Try.f112.results.toList
theorem eqn (K : Nat) (x : Args ps) : evF (G K) T L K Try.f112 ps rs true x = f K x := by kernel_rfl
end impl_siteOf
/-! ### impl.Node).site -/
namespace impl_Node_site
@[reducible] def ps : List PK := [.rd t26]
@[reducible] def rs : List RK := [.v false (.int .i64)]
abbrev Res := Ress rs × Outs ps
noncomputable def pre (K : Nat) (x : Args ps) : Option Res := (impl_siteOf.f K (x.1.1, ())).bind fun y1 => some ((y1.1.1, ()), ())
noncomputable def f (K : Nat) (x : Args ps) : Option Res := pre K x
noncomputable def c (K : Nat) : Ctr := ⟨103, ps, rs, true, f K⟩
noncomputable def G (K : Nat) : List Ctr := [impl_siteOf.c K]
noncomputable def L : List (Nat × List (Nat × List Coe)) := []
noncomputable def body : Code := bodyOf Try.f103
noncomputable abbrev ev (K : Nat) : Code → St → (Ex → St → Option Res) → Option Res := evK (G K) T L K
noncomputable abbrev fin : Ex → St → Option Res := finK T ps rs true Try.f103.results.toList
theorem eqn (K : Nat) (x : Args ps) : evF (G K) T L K Try.f103 ps rs true x = f K x := by kernel_rfl
end impl_Node_site
/-! ### impl.Fact] -/
namespace slices_IndexFunc_impl_Fact_impl_Fact
@[reducible] def ps : List PK := [.rd (.list 62 t2), .fn [t2] .bool]
@[reducible] def rs : List RK := [.v false (.int .i64)]
abbrev Res := Ress rs × Outs ps
abbrev A_l0 := Int
noncomputable def l0.step (K : Nat) (x : Args ps) (rec_l0 : A_l0 → Option Res) (a : A_l0) : Option Res := bif decide (a < (List.length x.1 : Int)) then ((idx x.1 a).bind fun y1 => (x.2.1 (y1, ())).bind fun y2 => bif y2 then (some ((a, ()), ())) else (rec_l0 (wr .i64 (a + 1)))) else (some (((-1), ()), ()))
noncomputable def l0 (K : Nat) (x : Args ps) : A_l0 → Option Res := iterate (fun rec_l0 a => l0.step K x rec_l0 a) K
noncomputable def pre (K : Nat) (N_l0 : A_l0 → Option Res) (x : Args ps) : Option Res := N_l0 0
noncomputable def f (K : Nat) (x : Args ps) : Option Res := pre K (l0 K x) x
noncomputable def c (K : Nat) : Ctr := ⟨132, ps, rs, true, f K⟩
noncomputable def G (K : Nat) : List Ctr := []
noncomputable def live_l0 : List (Nat × List Coe) := [(0, [.ro true 62 t2]), (1, [.keep]), (7, [.keep]), (8, [.keep])]
noncomputable def L : List (Nat × List (Nat × List Coe)) := [(3, live_l0)]
noncomputable def body : Code := bodyOf Try.f132
noncomputable abbrev ev (K : Nat) : Code → St → (Ex → St → Option Res) → Option Res := evK (G K) T L K
noncomputable abbrev fin : Ex → St → Option Res := finK T ps rs true Try.f132.results.toList
noncomputable def S_l0 (x : Args ps) (a : A_l0) : St := mkSt [(0, ⟨0, .one, [.ro true 62 t2 x.1]⟩), (1, ⟨0, .one, [.fn [t2] .bool x.2.1]⟩), (7, ⟨0, .one, [.int .i64 (List.length x.1 : Int)]⟩), (8, ⟨0, .one, [.int .i64 a]⟩)]
noncomputable def k_l0 (K : Nat) (x : Args ps) : Ex → St → Option Res := kAt (ev K) body [1, 0, 1, 0] fin
noncomputable def N_l0 (K : Nat) (x : Args ps) : A_l0 → Option Res := fun a => evLoop live_l0 (ev K (sub body [1, 0, 1, 0, 0])) K (S_l0 x a) (k_l0 K x)
theorem h_l0 (K : Nat) (x : Args ps) (r_l0 : St → Option Res) (a : A_l0) : ev K (sub body [1, 0, 1, 0, 0]) (S_l0 x a) (kLoop live_l0 r_l0 (k_l0 K x)) = l0.step K x (fun a => r_l0 (S_l0 x a)) a := by kernel_rfl
theorem ok_l0 (K : Nat) (x : Args ps) : N_l0 K x = l0 K x := funext fun a => evLoop_iter live_l0 (ev K (sub body [1, 0, 1, 0, 0])) (k_l0 K x) (S_l0 x) (fun rec a => l0.step K x rec a) (fun r_l0 a => (h_l0 K x r_l0 a)) K a
theorem eqn (K : Nat) (x : Args ps) : evF (G K) T L K Try.f132 ps rs true x = f K x := (show evF (G K) T L K Try.f132 ps rs true x = pre K (N_l0 K x) x by kernel_rfl).trans (by rw [ok_l0 K x]; rfl)
end slices_IndexFunc_impl_Fact_impl_Fact
/-! ### impl.Fact] -/
namespace slices_ContainsFunc_impl_Fact_impl_Fact
@[reducible] def ps : List PK := [.rd (.list 62 t2), .fn [t2] .bool]
@[reducible] def rs : List RK := [.v false .bool]
abbrev Res := Ress rs × Outs ps
noncomputable def pre (K : Nat) (x : Args ps) : Option Res := (slices_IndexFunc_impl_Fact_impl_Fact.f K (x.1, x.2.1, ())).bind fun y1 => some ((decide (y1.1.1 ≥ 0), ()), ())
noncomputable def f (K : Nat) (x : Args ps) : Option Res := pre K x
noncomputable def c (K : Nat) : Ctr := ⟨121, ps, rs, true, f K⟩
noncomputable def G (K : Nat) : List Ctr := [slices_IndexFunc_impl_Fact_impl_Fact.c K]
noncomputable def L : List (Nat × List (Nat × List Coe)) := []
noncomputable def body : Code := bodyOf Try.f121
noncomputable abbrev ev (K : Nat) : Code → St → (Ex → St → Option Res) → Option Res := evK (G K) T L K
noncomputable abbrev fin : Ex → St → Option Res := finK T ps rs true Try.f121.results.toList
theorem eqn (K : Nat) (x : Args ps) : evF (G K) T L K Try.f121 ps rs true x = f K x := by kernel_rfl
end slices_ContainsFunc_impl_Fact_impl_Fact
/-! ### impl.ofSite$1 -/
namespace impl_ofSite_1
@[reducible] def ps : List PK := [.rd t2, .rref (.int .i64)]
@[reducible] def rs : List RK := [.v false .bool]
abbrev Res := Ress rs × Outs ps
noncomputable def pre (K : Nat) (x : Args ps) : Option Res := (impl_siteOf.f K (x.1.1, ())).bind fun y1 => some ((y1.1.1 != x.2.1, ()), ())
noncomputable def f (K : Nat) (x : Args ps) : Option Res := pre K x
noncomputable def c (K : Nat) : Ctr := ⟨122, ps, rs, true, f K⟩
noncomputable def G (K : Nat) : List Ctr := [impl_siteOf.c K]
noncomputable def L : List (Nat × List (Nat × List Coe)) := []
noncomputable def body : Code := bodyOf Try.f122
noncomputable abbrev ev (K : Nat) : Code → St → (Ex → St → Option Res) → Option Res := evK (G K) T L K
noncomputable abbrev fin : Ex → St → Option Res := finK T ps rs true Try.f122.results.toList
theorem eqn (K : Nat) (x : Args ps) : evF (G K) T L K Try.f122 ps rs true x = f K x := by kernel_rfl
end impl_ofSite_1
/-! ### impl.ofSite -/
namespace impl_ofSite
@[reducible] def ps : List PK := [.rd (.list 62 t2), .rd (.int .i64)]
@[reducible] def rs : List RK := [.v false .bool]
abbrev Res := Ress rs × Outs ps
noncomputable def pre (K : Nat) (x : Args ps) : Option Res := (slices_ContainsFunc_impl_Fact_impl_Fact.f K (x.1, fun y1 => (impl_ofSite_1.f K (y1.1, x.2.1, ())).map fun y => y.1.1, ())).bind fun y2 => some ((!y2.1.1, ()), ())
noncomputable def f (K : Nat) (x : Args ps) : Option Res := pre K x
noncomputable def c (K : Nat) : Ctr := ⟨102, ps, rs, true, f K⟩
noncomputable def G (K : Nat) : List Ctr := [slices_ContainsFunc_impl_Fact_impl_Fact.c K, impl_ofSite_1.c K]
noncomputable def L : List (Nat × List (Nat × List Coe)) := []
noncomputable def body : Code := bodyOf Try.f102
noncomputable abbrev ev (K : Nat) : Code → St → (Ex → St → Option Res) → Option Res := evK (G K) T L K
noncomputable abbrev fin : Ex → St → Option Res := finK T ps rs true Try.f102.results.toList
theorem eqn (K : Nat) (x : Args ps) : evF (G K) T L K Try.f102 ps rs true x = f K x := by kernel_rfl
end impl_ofSite
/-! ### impl.facts -/
namespace impl_facts
@[reducible] def ps : List PK := [.rd (.list 121 t3)]
@[reducible] def rs : List RK := [.v true (.list 62 t2)]
abbrev Res := Ress rs × Outs ps
abbrev A_l0 := List (Ty.den t2) × Int
noncomputable def l0.step (K : Nat) (x : Args ps) (rec_l0 : A_l0 → Option Res) (a : A_l0) : Option Res := bif decide (a.2 < (List.length x.1 : Int)) then ((idx x.1 a.2).bind fun y1 => bif decide ((List.length a.1 + List.length ([y1.1])) * 32 ≤ sizeK) then (rec_l0 (a.1 ++ ([y1.1]), wr .i64 (a.2 + 1))) else none) else (some ((a.1, ()), ()))
noncomputable def l0 (K : Nat) (x : Args ps) : A_l0 → Option Res := iterate (fun rec_l0 a => l0.step K x rec_l0 a) K
noncomputable def pre (K : Nat) (N_l0 : A_l0 → Option Res) (x : Args ps) : Option Res := N_l0 ([], 0)
noncomputable def f (K : Nat) (x : Args ps) : Option Res := pre K (l0 K x) x
noncomputable def c (K : Nat) : Ctr := ⟨124, ps, rs, true, f K⟩
noncomputable def G (K : Nat) : List Ctr := []
noncomputable def live_l0 : List (Nat × List Coe) := [(3, [.own false 62 t2]), (6, [.ro true 121 t3]), (7, [.keep]), (8, [.keep])]
noncomputable def L : List (Nat × List (Nat × List Coe)) := [(4, live_l0)]
noncomputable def body : Code := bodyOf Try.f124
noncomputable abbrev ev (K : Nat) : Code → St → (Ex → St → Option Res) → Option Res := evK (G K) T L K
noncomputable abbrev fin : Ex → St → Option Res := finK T ps rs true Try.f124.results.toList
noncomputable def S_l0 (x : Args ps) (a : A_l0) : St := mkSt [(3, ⟨0, .one, [.own false 62 t2 a.1]⟩), (6, ⟨0, .one, [.ro true 121 t3 x.1]⟩), (7, ⟨0, .one, [.int .i64 (List.length x.1 : Int)]⟩), (8, ⟨0, .one, [.int .i64 a.2]⟩)]
noncomputable def k_l0 (K : Nat) (x : Args ps) : Ex → St → Option Res := kAt (ev K) body [1, 1, 0, 1, 0] fin
noncomputable def N_l0 (K : Nat) (x : Args ps) : A_l0 → Option Res := fun a => evLoop live_l0 (ev K (sub body [1, 1, 0, 1, 0, 0])) K (S_l0 x a) (k_l0 K x)
theorem h_l0 (K : Nat) (x : Args ps) (r_l0 : St → Option Res) (a : A_l0) : ev K (sub body [1, 1, 0, 1, 0, 0]) (S_l0 x a) (kLoop live_l0 r_l0 (k_l0 K x)) = l0.step K x (fun a => r_l0 (S_l0 x a)) a := by kernel_rfl
theorem ok_l0 (K : Nat) (x : Args ps) : N_l0 K x = l0 K x := funext fun a => evLoop_iter live_l0 (ev K (sub body [1, 1, 0, 1, 0, 0])) (k_l0 K x) (S_l0 x) (fun rec a => l0.step K x rec a) (fun r_l0 a => (h_l0 K x r_l0 a)) K a
theorem eqn (K : Nat) (x : Args ps) : evF (G K) T L K Try.f124 ps rs true x = f K x := (show evF (G K) T L K Try.f124 ps rs true x = pre K (N_l0 K x) x by kernel_rfl).trans (by rw [ok_l0 K x]; rfl)
end impl_facts
/-! ### impl.Item] -/
namespace slices_IndexFunc_impl_Item_impl_Item
@[reducible] def ps : List PK := [.rd (.list 121 t3), .fn [t3] .bool]
@[reducible] def rs : List RK := [.v false (.int .i64)]
abbrev Res := Ress rs × Outs ps
abbrev A_l0 := Int
noncomputable def l0.step (K : Nat) (x : Args ps) (rec_l0 : A_l0 → Option Res) (a : A_l0) : Option Res := bif decide (a < (List.length x.1 : Int)) then ((idx x.1 a).bind fun y1 => (x.2.1 (y1, ())).bind fun y2 => bif y2 then (some ((a, ()), ())) else (rec_l0 (wr .i64 (a + 1)))) else (some (((-1), ()), ()))
noncomputable def l0 (K : Nat) (x : Args ps) : A_l0 → Option Res := iterate (fun rec_l0 a => l0.step K x rec_l0 a) K
noncomputable def pre (K : Nat) (N_l0 : A_l0 → Option Res) (x : Args ps) : Option Res := N_l0 0
noncomputable def f (K : Nat) (x : Args ps) : Option Res := pre K (l0 K x) x
noncomputable def c (K : Nat) : Ctr := ⟨125, ps, rs, true, f K⟩
noncomputable def G (K : Nat) : List Ctr := []
noncomputable def live_l0 : List (Nat × List Coe) := [(0, [.ro true 121 t3]), (1, [.keep]), (7, [.keep]), (8, [.keep])]
noncomputable def L : List (Nat × List (Nat × List Coe)) := [(3, live_l0)]
noncomputable def body : Code := bodyOf Try.f125
noncomputable abbrev ev (K : Nat) : Code → St → (Ex → St → Option Res) → Option Res := evK (G K) T L K
noncomputable abbrev fin : Ex → St → Option Res := finK T ps rs true Try.f125.results.toList
noncomputable def S_l0 (x : Args ps) (a : A_l0) : St := mkSt [(0, ⟨0, .one, [.ro true 121 t3 x.1]⟩), (1, ⟨0, .one, [.fn [t3] .bool x.2.1]⟩), (7, ⟨0, .one, [.int .i64 (List.length x.1 : Int)]⟩), (8, ⟨0, .one, [.int .i64 a]⟩)]
noncomputable def k_l0 (K : Nat) (x : Args ps) : Ex → St → Option Res := kAt (ev K) body [1, 0, 1, 0] fin
noncomputable def N_l0 (K : Nat) (x : Args ps) : A_l0 → Option Res := fun a => evLoop live_l0 (ev K (sub body [1, 0, 1, 0, 0])) K (S_l0 x a) (k_l0 K x)
theorem h_l0 (K : Nat) (x : Args ps) (r_l0 : St → Option Res) (a : A_l0) : ev K (sub body [1, 0, 1, 0, 0]) (S_l0 x a) (kLoop live_l0 r_l0 (k_l0 K x)) = l0.step K x (fun a => r_l0 (S_l0 x a)) a := by kernel_rfl
theorem ok_l0 (K : Nat) (x : Args ps) : N_l0 K x = l0 K x := funext fun a => evLoop_iter live_l0 (ev K (sub body [1, 0, 1, 0, 0])) (k_l0 K x) (S_l0 x) (fun rec a => l0.step K x rec a) (fun r_l0 a => (h_l0 K x r_l0 a)) K a
theorem eqn (K : Nat) (x : Args ps) : evF (G K) T L K Try.f125 ps rs true x = f K x := (show evF (G K) T L K Try.f125 ps rs true x = pre K (N_l0 K x) x by kernel_rfl).trans (by rw [ok_l0 K x]; rfl)
end slices_IndexFunc_impl_Item_impl_Item
/-! ### impl.Item] -/
namespace slices_ContainsFunc_impl_Item_impl_Item
@[reducible] def ps : List PK := [.rd (.list 121 t3), .fn [t3] .bool]
@[reducible] def rs : List RK := [.v false .bool]
abbrev Res := Ress rs × Outs ps
noncomputable def pre (K : Nat) (x : Args ps) : Option Res := (slices_IndexFunc_impl_Item_impl_Item.f K (x.1, x.2.1, ())).bind fun y1 => some ((decide (y1.1.1 ≥ 0), ()), ())
noncomputable def f (K : Nat) (x : Args ps) : Option Res := pre K x
noncomputable def c (K : Nat) : Ctr := ⟨105, ps, rs, true, f K⟩
noncomputable def G (K : Nat) : List Ctr := [slices_IndexFunc_impl_Item_impl_Item.c K]
noncomputable def L : List (Nat × List (Nat × List Coe)) := []
noncomputable def body : Code := bodyOf Try.f105
noncomputable abbrev ev (K : Nat) : Code → St → (Ex → St → Option Res) → Option Res := evK (G K) T L K
noncomputable abbrev fin : Ex → St → Option Res := finK T ps rs true Try.f105.results.toList
theorem eqn (K : Nat) (x : Args ps) : evF (G K) T L K Try.f105 ps rs true x = f K x := by kernel_rfl
end slices_ContainsFunc_impl_Item_impl_Item
/-! ### impl.CastOk$1 -/
namespace impl_CastOk_1
@[reducible] def ps : List PK := [.rd t3]
@[reducible] def rs : List RK := [.v false .bool]
abbrev Res := Ress rs × Outs ps
noncomputable def pre (K : Nat) (x : Args ps) : Option Res := (impl_in.f K (x.1.2, 1, 4, ())).bind fun y1 => some ((!y1.1.1, ()), ())
noncomputable def f (K : Nat) (x : Args ps) : Option Res := pre K x
noncomputable def c (K : Nat) : Ctr := ⟨123, ps, rs, true, f K⟩
noncomputable def G (K : Nat) : List Ctr := [impl_in.c K]
noncomputable def L : List (Nat × List (Nat × List Coe)) := []
noncomputable def body : Code := bodyOf Try.f123
noncomputable abbrev ev (K : Nat) : Code → St → (Ex → St → Option Res) → Option Res := evK (G K) T L K
noncomputable abbrev fin : Ex → St → Option Res := finK T ps rs true Try.f123.results.toList
theorem eqn (K : Nat) (x : Args ps) : evF (G K) T L K Try.f123 ps rs true x = f K x := by kernel_rfl
end impl_CastOk_1
/-! ### impl.CastOk -/
namespace impl_CastOk
@[reducible] def ps : List PK := [.rd (.list 121 t3)]
@[reducible] def rs : List RK := [.v false .bool]
abbrev Res := Ress rs × Outs ps
noncomputable def pre (K : Nat) (x : Args ps) : Option Res := (impl_facts.f K (x.1, ())).bind fun y1 => (impl_TableOk.f K (y1.1.1, ())).bind fun y2 => bif y2.1.1 then ((slices_ContainsFunc_impl_Item_impl_Item.f K (x.1, fun y3 => (impl_CastOk_1.f K (y3.1, ())).map fun y => y.1.1, ())).bind fun y4 => some ((!y4.1.1, ()), ())) else (some ((false, ()), ()))
noncomputable def f (K : Nat) (x : Args ps) : Option Res := pre K x
noncomputable def c (K : Nat) : Ctr := ⟨104, ps, rs, true, f K⟩
noncomputable def G (K : Nat) : List Ctr := [slices_ContainsFunc_impl_Item_impl_Item.c K, impl_TableOk.c K, impl_CastOk_1.c K, impl_facts.c K]
noncomputable def L : List (Nat × List (Nat × List Coe)) := []
noncomputable def body : Code := bodyOf Try.f104
noncomputable abbrev ev (K : Nat) : Code → St → (Ex → St → Option Res) → Option Res := evK (G K) T L K
noncomputable abbrev fin : Ex → St → Option Res := finK T ps rs true Try.f104.results.toList
theorem eqn (K : Nat) (x : Args ps) : evF (G K) T L K Try.f104 ps rs true x = f K x := by kernel_rfl
end impl_CastOk
/-! ### cmp.Or[int] -/
namespace cmp_Or_int
@[reducible] def ps : List PK := [.rd (.list 3 (.int .i64))]
@[reducible] def rs : List RK := [.v false (.int .i64)]
abbrev Res := Ress rs × Outs ps
abbrev A_l0 := Int
noncomputable def l0.step (K : Nat) (x : Args ps) (rec_l0 : A_l0 → Option Res) (a : A_l0) : Option Res := bif decide (a < (List.length x.1 : Int)) then ((idx x.1 a).bind fun y1 => bif y1 != 0 then (some ((y1, ()), ())) else (rec_l0 (wr .i64 (a + 1)))) else (some ((0, ()), ()))
noncomputable def l0 (K : Nat) (x : Args ps) : A_l0 → Option Res := iterate (fun rec_l0 a => l0.step K x rec_l0 a) K
noncomputable def pre (K : Nat) (N_l0 : A_l0 → Option Res) (x : Args ps) : Option Res := N_l0 0
noncomputable def f (K : Nat) (x : Args ps) : Option Res := pre K (l0 K x) x
noncomputable def c (K : Nat) : Ctr := ⟨133, ps, rs, true, f K⟩
noncomputable def G (K : Nat) : List Ctr := []
noncomputable def live_l0 : List (Nat × List Coe) := [(3, [.keep]), (6, [.ro true 3 (.int .i64)]), (7, [.keep]), (8, [.keep])]
noncomputable def L : List (Nat × List (Nat × List Coe)) := [(4, live_l0)]
noncomputable def body : Code := bodyOf Try.f133
noncomputable abbrev ev (K : Nat) : Code → St → (Ex → St → Option Res) → Option Res := evK (G K) T L K
noncomputable abbrev fin : Ex → St → Option Res := finK T ps rs true Try.f133.results.toList
noncomputable def S_l0 (x : Args ps) (a : A_l0) : St := mkSt [(3, ⟨0, .one, [.int .i64 0]⟩), (6, ⟨0, .one, [.ro true 3 (.int .i64) x.1]⟩), (7, ⟨0, .one, [.int .i64 (List.length x.1 : Int)]⟩), (8, ⟨0, .one, [.int .i64 a]⟩)]
noncomputable def k_l0 (K : Nat) (x : Args ps) : Ex → St → Option Res := kAt (ev K) body [1, 1, 0, 1, 0] fin
noncomputable def N_l0 (K : Nat) (x : Args ps) : A_l0 → Option Res := fun a => evLoop live_l0 (ev K (sub body [1, 1, 0, 1, 0, 0])) K (S_l0 x a) (k_l0 K x)
theorem h_l0 (K : Nat) (x : Args ps) (r_l0 : St → Option Res) (a : A_l0) : ev K (sub body [1, 1, 0, 1, 0, 0]) (S_l0 x a) (kLoop live_l0 r_l0 (k_l0 K x)) = l0.step K x (fun a => r_l0 (S_l0 x a)) a := by kernel_rfl
theorem ok_l0 (K : Nat) (x : Args ps) : N_l0 K x = l0 K x := funext fun a => evLoop_iter live_l0 (ev K (sub body [1, 1, 0, 1, 0, 0])) (k_l0 K x) (S_l0 x) (fun rec a => l0.step K x rec a) (fun r_l0 a => (h_l0 K x r_l0 a)) K a
theorem eqn (K : Nat) (x : Args ps) : evF (G K) T L K Try.f133 ps rs true x = f K x := (show evF (G K) T L K Try.f133 ps rs true x = pre K (N_l0 K x) x by kernel_rfl).trans (by rw [ok_l0 K x]; rfl)
end cmp_Or_int
/-! ### impl.Fact).compare -/
namespace impl_Fact_compare
@[reducible] def ps : List PK := [.rd t2, .rd t2]
@[reducible] def rs : List RK := [.v false (.int .i64)]
abbrev Res := Ress rs × Outs ps
noncomputable def pre (K : Nat) (x : Args ps) : Option Res := bif x.1.2.2.2 then (bif !x.2.1.2.2.2 then ((cmp_Compare_int.f K (x.1.1, x.2.1.1, ())).bind fun y1 => (cmp_Compare_int.f K (x.1.2.1, x.2.1.2.1, ())).bind fun y2 => (cmp_Compare_int.f K (x.1.2.2.1, x.2.1.2.2.1, ())).bind fun y3 => (cmp_Or_int.f K ([y1.1.1, y2.1.1, y3.1.1, 1], ())).bind fun y4 => some ((y4.1.1, ()), ())) else (bif x.2.1.2.2.2 then (bif !x.1.2.2.2 then ((cmp_Compare_int.f K (x.1.1, x.2.1.1, ())).bind fun y5 => (cmp_Compare_int.f K (x.1.2.1, x.2.1.2.1, ())).bind fun y6 => (cmp_Compare_int.f K (x.1.2.2.1, x.2.1.2.2.1, ())).bind fun y7 => (cmp_Or_int.f K ([y5.1.1, y6.1.1, y7.1.1, (-1)], ())).bind fun y8 => some ((y8.1.1, ()), ())) else ((cmp_Compare_int.f K (x.1.1, x.2.1.1, ())).bind fun y9 => (cmp_Compare_int.f K (x.1.2.1, x.2.1.2.1, ())).bind fun y10 => (cmp_Compare_int.f K (x.1.2.2.1, x.2.1.2.2.1, ())).bind fun y11 => (cmp_Or_int.f K ([y9.1.1, y10.1.1, y11.1.1, 0], ())).bind fun y12 => some ((y12.1.1, ()), ()))) else ((cmp_Compare_int.f K (x.1.1, x.2.1.1, ())).bind fun y13 => (cmp_Compare_int.f K (x.1.2.1, x.2.1.2.1, ())).bind fun y14 => (cmp_Compare_int.f K (x.1.2.2.1, x.2.1.2.2.1, ())).bind fun y15 => (cmp_Or_int.f K ([y13.1.1, y14.1.1, y15.1.1, 0], ())).bind fun y16 => some ((y16.1.1, ()), ())))) else (bif x.2.1.2.2.2 then (bif !x.1.2.2.2 then ((cmp_Compare_int.f K (x.1.1, x.2.1.1, ())).bind fun y17 => (cmp_Compare_int.f K (x.1.2.1, x.2.1.2.1, ())).bind fun y18 => (cmp_Compare_int.f K (x.1.2.2.1, x.2.1.2.2.1, ())).bind fun y19 => (cmp_Or_int.f K ([y17.1.1, y18.1.1, y19.1.1, (-1)], ())).bind fun y20 => some ((y20.1.1, ()), ())) else ((cmp_Compare_int.f K (x.1.1, x.2.1.1, ())).bind fun y21 => (cmp_Compare_int.f K (x.1.2.1, x.2.1.2.1, ())).bind fun y22 => (cmp_Compare_int.f K (x.1.2.2.1, x.2.1.2.2.1, ())).bind fun y23 => (cmp_Or_int.f K ([y21.1.1, y22.1.1, y23.1.1, 0], ())).bind fun y24 => some ((y24.1.1, ()), ()))) else ((cmp_Compare_int.f K (x.1.1, x.2.1.1, ())).bind fun y25 => (cmp_Compare_int.f K (x.1.2.1, x.2.1.2.1, ())).bind fun y26 => (cmp_Compare_int.f K (x.1.2.2.1, x.2.1.2.2.1, ())).bind fun y27 => (cmp_Or_int.f K ([y25.1.1, y26.1.1, y27.1.1, 0], ())).bind fun y28 => some ((y28.1.1, ()), ())))
noncomputable def f (K : Nat) (x : Args ps) : Option Res := pre K x
noncomputable def c (K : Nat) : Ctr := ⟨127, ps, rs, true, f K⟩
noncomputable def G (K : Nat) : List Ctr := [cmp_Compare_int.c K, cmp_Or_int.c K]
noncomputable def L : List (Nat × List (Nat × List Coe)) := []
noncomputable def body : Code := bodyOf Try.f127
noncomputable abbrev ev (K : Nat) : Code → St → (Ex → St → Option Res) → Option Res := evK (G K) T L K
noncomputable abbrev fin : Ex → St → Option Res := finK T ps rs true Try.f127.results.toList
theorem eqn (K : Nat) (x : Args ps) : evF (G K) T L K Try.f127 ps rs true x = f K x := by kernel_rfl
end impl_Fact_compare
/-! ### impl.FactOver -/
namespace impl_FactOver
@[reducible] def ps : List PK := [.rd t2, .rd t2]
@[reducible] def rs : List RK := [.v false .bool]
abbrev Res := Ress rs × Outs ps
noncomputable def pre (K : Nat) (x : Args ps) : Option Res := (impl_FactOk.f K (x.1, ())).bind fun y1 => bif y1.1.1 then ((impl_FactOk.f K (x.2.1, ())).bind fun y2 => bif y2.1.1 then (bif x.1.1 == x.2.1.1 then ((impl_Fact_compare.f K (x.1, x.2.1, ())).bind fun y3 => some ((decide (y3.1.1 > 0), ()), ())) else (some ((false, ()), ()))) else (some ((false, ()), ()))) else (some ((false, ()), ()))
noncomputable def f (K : Nat) (x : Args ps) : Option Res := pre K x
noncomputable def c (K : Nat) : Ctr := ⟨107, ps, rs, true, f K⟩
noncomputable def G (K : Nat) : List Ctr := [impl_FactOk.c K, impl_Fact_compare.c K]
noncomputable def L : List (Nat × List (Nat × List Coe)) := []
noncomputable def body : Code := bodyOf Try.f107
noncomputable abbrev ev (K : Nat) : Code → St → (Ex → St → Option Res) → Option Res := evK (G K) T L K
noncomputable abbrev fin : Ex → St → Option Res := finK T ps rs true Try.f107.results.toList
theorem eqn (K : Nat) (x : Args ps) : evF (G K) T L K Try.f107 ps rs true x = f K x := by kernel_rfl
end impl_FactOver
/-! ### impl.Node).tableOk$1 -/
namespace impl_Node_tableOk_1
@[reducible] def ps : List PK := [.rd t3, .rref t26]
@[reducible] def rs : List RK := [.v false .bool]
abbrev Res := Ress rs × Outs ps
noncomputable def pre (K : Nat) (x : Args ps) : Option Res := (impl_TableOf.f K (x.2.1.2.2.2.2.2.2.2.2.1, x.1.1.1, ())).bind fun y1 => bif !y1.1.2.1 then (some ((true, ()), ())) else ((impl_FactOver.f K (x.1.1, y1.1.1, ())).bind fun y2 => some ((y2.1.1, ()), ()))
noncomputable def f (K : Nat) (x : Args ps) : Option Res := pre K x
noncomputable def c (K : Nat) : Ctr := ⟨106, ps, rs, true, f K⟩
noncomputable def G (K : Nat) : List Ctr := [impl_TableOf.c K, impl_FactOver.c K]
noncomputable def L : List (Nat × List (Nat × List Coe)) := []
noncomputable def body : Code := bodyOf Try.f106
noncomputable abbrev ev (K : Nat) : Code → St → (Ex → St → Option Res) → Option Res := evK (G K) T L K
noncomputable abbrev fin : Ex → St → Option Res := finK T ps rs true Try.f106.results.toList
theorem eqn (K : Nat) (x : Args ps) : evF (G K) T L K Try.f106 ps rs true x = f K x := by kernel_rfl
end impl_Node_tableOk_1
/-! ### impl.Node).tableOk -/
namespace impl_Node_tableOk
@[reducible] def ps : List PK := [.rd t26]
@[reducible] def rs : List RK := [.v false .bool]
abbrev Res := Ress rs × Outs ps
noncomputable def pre (K : Nat) (x : Args ps) : Option Res := bif x.1.2.2.1 then ((impl_TableOf.f K (x.1.2.2.2.2.2.2.2.2.1, x.1.1, ())).bind fun y1 => bif !y1.1.2.1 then (some ((false, ()), ())) else (bif !Ty.eqv t2 y1.1.1 (x.1.1, (x.1.2.2.2.2.1, (4, x.1.2.2.2.1))) then (some ((false, ()), ())) else ((impl_Node_site.f K (x.1, ())).bind fun y2 => (impl_ofSite.f K (x.1.2.2.2.2.2.2.2.2.1, y2.1.1, ())).bind fun y3 => bif !y3.1.1 then (some ((false, ()), ())) else ((impl_CastOk.f K (x.1.2.2.2.2.2.2.2.2.2.1, ())).bind fun y4 => bif !y4.1.1 then (some ((false, ()), ())) else ((slices_ContainsFunc_impl_Item_impl_Item.f K (x.1.2.2.2.2.2.2.2.2.2.1, fun y5 => (impl_Node_tableOk_1.f K (y5.1, x.1, ())).map fun y => y.1.1, ())).bind fun y6 => some ((!y6.1.1, ()), ())))))) else ((impl_TableOf.f K (x.1.2.2.2.2.2.2.2.2.1, x.1.1, ())).bind fun y7 => bif !y7.1.2.1 then (some ((false, ()), ())) else (bif !Ty.eqv t2 y7.1.1 (x.1.1, (x.1.2.2.2.2.1, (1, x.1.2.2.2.1))) then (some ((false, ()), ())) else ((impl_Node_site.f K (x.1, ())).bind fun y8 => (impl_ofSite.f K (x.1.2.2.2.2.2.2.2.2.1, y8.1.1, ())).bind fun y9 => bif !y9.1.1 then (some ((false, ()), ())) else ((impl_CastOk.f K (x.1.2.2.2.2.2.2.2.2.2.1, ())).bind fun y10 => bif !y10.1.1 then (some ((false, ()), ())) else ((slices_ContainsFunc_impl_Item_impl_Item.f K (x.1.2.2.2.2.2.2.2.2.2.1, fun y11 => (impl_Node_tableOk_1.f K (y11.1, x.1, ())).map fun y => y.1.1, ())).bind fun y12 => some ((!y12.1.1, ()), ()))))))
noncomputable def f (K : Nat) (x : Args ps) : Option Res := pre K x
noncomputable def c (K : Nat) : Ctr := ⟨60, ps, rs, true, f K⟩
noncomputable def G (K : Nat) : List Ctr := [impl_TableOf.c K, impl_ofSite.c K, impl_Node_site.c K, impl_CastOk.c K, slices_ContainsFunc_impl_Item_impl_Item.c K, impl_Node_tableOk_1.c K]
noncomputable def L : List (Nat × List (Nat × List Coe)) := []
noncomputable def body : Code := bodyOf Try.f60
noncomputable abbrev ev (K : Nat) : Code → St → (Ex → St → Option Res) → Option Res := evK (G K) T L K
noncomputable abbrev fin : Ex → St → Option Res := finK T ps rs true Try.f60.results.toList
theorem eqn (K : Nat) (x : Args ps) : evF (G K) T L K Try.f60 ps rs true x = f K x := by kernel_rfl
end impl_Node_tableOk
/-! ### impl.Node).probeOk -/
namespace impl_Node_probeOk
@[reducible] def ps : List PK := [.rd t26]
@[reducible] def rs : List RK := [.v false .bool]
abbrev Res := Ress rs × Outs ps
noncomputable def pre (K : Nat) (x : Args ps) : Option Res := bif x.1.2.2.2.2.2.2.2.2.2.2.1.1 == (-1) then (some ((Ty.eqv t2 x.1.2.2.2.2.2.2.2.2.2.2.1 ((-1), (0, (0, false))), ()), ())) else ((impl_TableOf.f K (x.1.2.2.2.2.2.2.2.2.1, x.1.2.2.2.2.2.2.2.2.2.2.1.1, ())).bind fun y1 => bif y1.1.2.1 then (bif x.1.2.2.2.2.2.2.2.2.2.2.1.1 != x.1.1 then ((impl_in.f K (x.1.2.2.2.2.2.2.2.2.2.2.1.2.1, 0, x.1.2.2.2.2.2.1, ())).bind fun y2 => bif y2.1.1 then ((impl_in.f K (x.1.2.2.2.2.2.2.2.2.2.2.1.2.2.1, 1, x.1.2.2.2.2.2.2.1, ())).bind fun y3 => some ((y3.1.1, ()), ())) else (some ((false, ()), ()))) else (some ((false, ()), ()))) else (some ((false, ()), ())))
noncomputable def f (K : Nat) (x : Args ps) : Option Res := pre K x
noncomputable def c (K : Nat) : Ctr := ⟨61, ps, rs, true, f K⟩
noncomputable def G (K : Nat) : List Ctr := [impl_in.c K, impl_TableOf.c K]
noncomputable def L : List (Nat × List (Nat × List Coe)) := []
noncomputable def body : Code := bodyOf Try.f61
noncomputable abbrev ev (K : Nat) : Code → St → (Ex → St → Option Res) → Option Res := evK (G K) T L K
noncomputable abbrev fin : Ex → St → Option Res := finK T ps rs true Try.f61.results.toList
theorem eqn (K : Nat) (x : Args ps) : evF (G K) T L K Try.f61 ps rs true x = f K x := by kernel_rfl
end impl_Node_probeOk
/-! ### impl.Node).near -/
namespace impl_Node_near
@[reducible] def ps : List PK := [.rd t26, .rd (.int .i64)]
@[reducible] def rs : List RK := [.v false .bool]
abbrev Res := Ress rs × Outs ps
noncomputable def pre (K : Nat) (x : Args ps) : Option Res := (impl_isNode.f K (x.2.1, ())).bind fun y1 => bif y1.1.1 then ((impl_siteOf.f K (x.2.1, ())).bind fun y2 => (impl_Node_site.f K (x.1, ())).bind fun y3 => some ((y2.1.1 == y3.1.1, ()), ())) else (some ((false, ()), ()))
noncomputable def f (K : Nat) (x : Args ps) : Option Res := pre K x
noncomputable def c (K : Nat) : Ctr := ⟨108, ps, rs, true, f K⟩
noncomputable def G (K : Nat) : List Ctr := [impl_isNode.c K, impl_Node_site.c K, impl_siteOf.c K]
noncomputable def L : List (Nat × List (Nat × List Coe)) := []
noncomputable def body : Code := bodyOf Try.f108
noncomputable abbrev ev (K : Nat) : Code → St → (Ex → St → Option Res) → Option Res := evK (G K) T L K
noncomputable abbrev fin : Ex → St → Option Res := finK T ps rs true Try.f108.results.toList
theorem eqn (K : Nat) (x : Args ps) : evF (G K) T L K Try.f108 ps rs true x = f K x := by kernel_rfl
end impl_Node_near
/-! ### impl.Node).doubtsOk -/
namespace impl_Node_doubtsOk
@[reducible] def ps : List PK := [.rd t26]
@[reducible] def rs : List RK := [.v false .bool]
abbrev Res := Ress rs × Outs ps
abbrev A_l2 := List (Ty.den t2) × Int × List (Ty.den (.int .i64)) × Int × Int × Int × Int × Int × List (Ty.den (.int .i64))
abbrev A_l1 := List (Ty.den t2) × Int
abbrev A_l0 := List (Ty.den t2) × Int
noncomputable def l2.step (K : Nat) (x : Args ps) (rec_l1 : A_l1 → Option Res) (rec_l2 : A_l2 → Option Res) (a : A_l2) : Option Res := bif decide (a.2.2.2.2.1 < a.2.2.2.1) then ((idx a.2.2.1 a.2.2.2.2.1).bind fun y8 => (impl_Node_near.f K (x.1, y8, ())).bind fun y9 => bif !y9.1.1 then (some ((false, ()), ())) else (bif decide (a.2.2.2.2.1 > 0) then ((idx a.2.2.2.2.2.2.2.2 (wr .i64 (a.2.2.2.2.1 - 1))).bind fun y10 => bif decide (y8 ≤ y10) then (some ((false, ()), ())) else (rec_l2 (a.1, a.2.1, a.2.2.1, a.2.2.2.1, wr .i64 (a.2.2.2.2.1 + 1), a.2.2.2.2.2.1, a.2.2.2.2.2.2.1, a.2.2.2.2.2.2.2.1, a.2.2.2.2.2.2.2.2))) else (rec_l2 (a.1, a.2.1, a.2.2.1, a.2.2.2.1, wr .i64 (a.2.2.2.2.1 + 1), a.2.2.2.2.2.1, a.2.2.2.2.2.2.1, a.2.2.2.2.2.2.2.1, a.2.2.2.2.2.2.2.2)))) else (rec_l1 (a.1, wr .i64 (a.2.1 + 1)))
noncomputable def l2 (K : Nat) (x : Args ps) (rec_l1 : A_l1 → Option Res) : A_l2 → Option Res := iterate (fun rec_l2 a => l2.step K x rec_l1 rec_l2 a) K
noncomputable def l1.step (K : Nat) (x : Args ps) (N_l2 : A_l2 → Option Res) (rec_l1 : A_l1 → Option Res) (a : A_l1) : Option Res := bif decide (a.2 < (List.length x.1.2.2.2.2.2.2.2.2.2.2.2.1 : Int)) then ((idx x.1.2.2.2.2.2.2.2.2.2.2.2.1 a.2).bind fun y2 => (idx a.1 a.2).bind fun _ => (idx a.1 (Int.toNat a.2 : Nat)).bind fun y4 => bif y2.1 != y4.1 then (some ((false, ()), ())) else ((idx a.1 a.2).bind fun _ => (idx a.1 (Int.toNat a.2 : Nat)).bind fun y6 => bif y2.2.1 != y6.2.1 then (some ((false, ()), ())) else ((impl_in.f K (y2.2.2.1, 0, x.1.2.2.2.2.2.1, ())).bind fun y7 => bif !y7.1.1 then (some ((false, ()), ())) else (bif (List.length y2.2.2.2 : Int) == 0 then (some ((false, ()), ())) else (N_l2 (a.1, a.2, y2.2.2.2, (List.length y2.2.2.2 : Int), 0, y2.1, y2.2.1, y2.2.2.1, y2.2.2.2)))))) else (some ((true, ()), ()))
noncomputable def l1 (K : Nat) (x : Args ps) : A_l1 → Option Res := iterate (fun rec_l1 a => l1.step K x (l2 K x rec_l1) rec_l1 a) K
noncomputable def l0.step (K : Nat) (x : Args ps) (N_l1 : A_l1 → Option Res) (rec_l0 : A_l0 → Option Res) (a : A_l0) : Option Res := bif decide (a.2 < (List.length x.1.2.2.2.2.2.2.2.2.1 : Int)) then ((idx x.1.2.2.2.2.2.2.2.2.1 a.2).bind fun y1 => bif y1.2.2.1 == 2 then (bif decide ((List.length a.1 + List.length ([y1])) * 32 ≤ sizeK) then (rec_l0 (a.1 ++ ([y1]), wr .i64 (a.2 + 1))) else none) else (rec_l0 (a.1, wr .i64 (a.2 + 1)))) else (bif (List.length x.1.2.2.2.2.2.2.2.2.2.2.2.1 : Int) != (List.length a.1 : Int) then (some ((false, ()), ())) else (N_l1 (a.1, 0)))
noncomputable def l0 (K : Nat) (x : Args ps) : A_l0 → Option Res := iterate (fun rec_l0 a => l0.step K x (l1 K x) rec_l0 a) K
noncomputable def pre (K : Nat) (N_l0 : A_l0 → Option Res) (x : Args ps) : Option Res := N_l0 ([], 0)
noncomputable def f (K : Nat) (x : Args ps) : Option Res := pre K (l0 K x) x
noncomputable def c (K : Nat) : Ctr := ⟨62, ps, rs, true, f K⟩
noncomputable def G (K : Nat) : List Ctr := [impl_in.c K, impl_Node_near.c K]
noncomputable def live_l2 : List (Nat × List Coe) := [(1, [.keep]), (3, [.own false 62 t2]), (7, [.keep]), (32, [.ro true 95 t6]), (33, [.keep]), (34, [.keep]), (72, [.ro true 3 (.int .i64)]), (73, [.keep]), (74, [.keep]), (100001, [.keep, .keep, .keep, .keep, .keep, .keep, .keep, .keep, .ro true 62 t2, .ro true 121 t3, .keep, .keep, .keep, .keep, .ro true 95 t6, .keep, .keep, .keep, .keep, .ro true 123 t11, .ro true 125 t12]), (100007, [.keep, .keep, .keep, .ro true 3 (.int .i64)])]
noncomputable def live_l1 : List (Nat × List Coe) := [(1, [.keep]), (3, [.own false 62 t2]), (32, [.ro true 95 t6]), (33, [.keep]), (34, [.keep]), (100001, [.keep, .keep, .keep, .keep, .keep, .keep, .keep, .keep, .ro true 62 t2, .ro true 121 t3, .keep, .keep, .keep, .keep, .ro true 95 t6, .keep, .keep, .keep, .keep, .ro true 123 t11, .ro true 125 t12])]
noncomputable def live_l0 : List (Nat × List Coe) := [(1, [.keep]), (3, [.own false 62 t2]), (11, [.ro true 62 t2]), (12, [.keep]), (13, [.keep]), (100001, [.keep, .keep, .keep, .keep, .keep, .keep, .keep, .keep, .ro true 62 t2, .ro true 121 t3, .keep, .keep, .keep, .keep, .ro true 95 t6, .keep, .keep, .keep, .keep, .ro true 123 t11, .ro true 125 t12])]
noncomputable def L : List (Nat × List (Nat × List Coe)) := [(17, live_l2), (12, live_l1), (4, live_l0)]
noncomputable def body : Code := bodyOf Try.f62
noncomputable abbrev ev (K : Nat) : Code → St → (Ex → St → Option Res) → Option Res := evK (G K) T L K
noncomputable abbrev fin : Ex → St → Option Res := finK T ps rs true Try.f62.results.toList
noncomputable def S_l0 (x : Args ps) (a : A_l0) : St := mkSt [(1, ⟨0, .one, [.bp 100001 0]⟩), (3, ⟨0, .one, [.own false 62 t2 a.1]⟩), (11, ⟨0, .one, [.ro true 62 t2 x.1.2.2.2.2.2.2.2.2.1]⟩), (12, ⟨0, .one, [.int .i64 (List.length x.1.2.2.2.2.2.2.2.2.1 : Int)]⟩), (13, ⟨0, .one, [.int .i64 a.2]⟩), (100001, ⟨0, .agg, [.int .i64 x.1.1, .bool x.1.2.1, .bool x.1.2.2.1, .bool x.1.2.2.2.1, .int .i64 x.1.2.2.2.2.1, .int .i64 x.1.2.2.2.2.2.1, .int .i64 x.1.2.2.2.2.2.2.1, .int .i64 x.1.2.2.2.2.2.2.2.1, .ro true 62 t2 x.1.2.2.2.2.2.2.2.2.1, .ro true 121 t3 x.1.2.2.2.2.2.2.2.2.2.1, .int .i64 x.1.2.2.2.2.2.2.2.2.2.2.1.1, .int .i64 x.1.2.2.2.2.2.2.2.2.2.2.1.2.1, .int .i64 x.1.2.2.2.2.2.2.2.2.2.2.1.2.2.1, .bool x.1.2.2.2.2.2.2.2.2.2.2.1.2.2.2, .ro true 95 t6 x.1.2.2.2.2.2.2.2.2.2.2.2.1, .int .i64 x.1.2.2.2.2.2.2.2.2.2.2.2.2.1.1, .int .i64 x.1.2.2.2.2.2.2.2.2.2.2.2.2.1.2.1, .int .i64 x.1.2.2.2.2.2.2.2.2.2.2.2.2.1.2.2.1, .int .i64 x.1.2.2.2.2.2.2.2.2.2.2.2.2.1.2.2.2, .ro true 123 t11 x.1.2.2.2.2.2.2.2.2.2.2.2.2.2.1, .ro true 125 t12 x.1.2.2.2.2.2.2.2.2.2.2.2.2.2.2]⟩)]
noncomputable def S_l1 (x : Args ps) (a : A_l1) : St := mkSt [(1, ⟨0, .one, [.bp 100001 0]⟩), (3, ⟨0, .one, [.own false 62 t2 a.1]⟩), (32, ⟨0, .one, [.ro true 95 t6 x.1.2.2.2.2.2.2.2.2.2.2.2.1]⟩), (33, ⟨0, .one, [.int .i64 (List.length x.1.2.2.2.2.2.2.2.2.2.2.2.1 : Int)]⟩), (34, ⟨0, .one, [.int .i64 a.2]⟩), (100001, ⟨0, .agg, [.int .i64 x.1.1, .bool x.1.2.1, .bool x.1.2.2.1, .bool x.1.2.2.2.1, .int .i64 x.1.2.2.2.2.1, .int .i64 x.1.2.2.2.2.2.1, .int .i64 x.1.2.2.2.2.2.2.1, .int .i64 x.1.2.2.2.2.2.2.2.1, .ro true 62 t2 x.1.2.2.2.2.2.2.2.2.1, .ro true 121 t3 x.1.2.2.2.2.2.2.2.2.2.1, .int .i64 x.1.2.2.2.2.2.2.2.2.2.2.1.1, .int .i64 x.1.2.2.2.2.2.2.2.2.2.2.1.2.1, .int .i64 x.1.2.2.2.2.2.2.2.2.2.2.1.2.2.1, .bool x.1.2.2.2.2.2.2.2.2.2.2.1.2.2.2, .ro true 95 t6 x.1.2.2.2.2.2.2.2.2.2.2.2.1, .int .i64 x.1.2.2.2.2.2.2.2.2.2.2.2.2.1.1, .int .i64 x.1.2.2.2.2.2.2.2.2.2.2.2.2.1.2.1, .int .i64 x.1.2.2.2.2.2.2.2.2.2.2.2.2.1.2.2.1, .int .i64 x.1.2.2.2.2.2.2.2.2.2.2.2.2.1.2.2.2, .ro true 123 t11 x.1.2.2.2.2.2.2.2.2.2.2.2.2.2.1, .ro true 125 t12 x.1.2.2.2.2.2.2.2.2.2.2.2.2.2.2]⟩)]
noncomputable def S_l2 (x : Args ps) (a : A_l2) : St := mkSt [(1, ⟨0, .one, [.bp 100001 0]⟩), (3, ⟨0, .one, [.own false 62 t2 a.1]⟩), (7, ⟨0, .one, [.bp 100007 0]⟩), (32, ⟨0, .one, [.ro true 95 t6 x.1.2.2.2.2.2.2.2.2.2.2.2.1]⟩), (33, ⟨0, .one, [.int .i64 (List.length x.1.2.2.2.2.2.2.2.2.2.2.2.1 : Int)]⟩), (34, ⟨0, .one, [.int .i64 a.2.1]⟩), (72, ⟨0, .one, [.ro true 3 (.int .i64) a.2.2.1]⟩), (73, ⟨0, .one, [.int .i64 a.2.2.2.1]⟩), (74, ⟨0, .one, [.int .i64 a.2.2.2.2.1]⟩), (100001, ⟨0, .agg, [.int .i64 x.1.1, .bool x.1.2.1, .bool x.1.2.2.1, .bool x.1.2.2.2.1, .int .i64 x.1.2.2.2.2.1, .int .i64 x.1.2.2.2.2.2.1, .int .i64 x.1.2.2.2.2.2.2.1, .int .i64 x.1.2.2.2.2.2.2.2.1, .ro true 62 t2 x.1.2.2.2.2.2.2.2.2.1, .ro true 121 t3 x.1.2.2.2.2.2.2.2.2.2.1, .int .i64 x.1.2.2.2.2.2.2.2.2.2.2.1.1, .int .i64 x.1.2.2.2.2.2.2.2.2.2.2.1.2.1, .int .i64 x.1.2.2.2.2.2.2.2.2.2.2.1.2.2.1, .bool x.1.2.2.2.2.2.2.2.2.2.2.1.2.2.2, .ro true 95 t6 x.1.2.2.2.2.2.2.2.2.2.2.2.1, .int .i64 x.1.2.2.2.2.2.2.2.2.2.2.2.2.1.1, .int .i64 x.1.2.2.2.2.2.2.2.2.2.2.2.2.1.2.1, .int .i64 x.1.2.2.2.2.2.2.2.2.2.2.2.2.1.2.2.1, .int .i64 x.1.2.2.2.2.2.2.2.2.2.2.2.2.1.2.2.2, .ro true 123 t11 x.1.2.2.2.2.2.2.2.2.2.2.2.2.2.1, .ro true 125 t12 x.1.2.2.2.2.2.2.2.2.2.2.2.2.2.2]⟩), (100007, ⟨0, .agg, [.int .i64 a.2.2.2.2.2.1, .int .i64 a.2.2.2.2.2.2.1, .int .i64 a.2.2.2.2.2.2.2.1, .ro true 3 (.int .i64) a.2.2.2.2.2.2.2.2]⟩)]
noncomputable def k_l0 (K : Nat) (x : Args ps) : Ex → St → Option Res := kAt (ev K) body [1, 1, 0, 1, 0] fin
noncomputable def N_l0 (K : Nat) (x : Args ps) : A_l0 → Option Res := fun a => evLoop live_l0 (ev K (sub body [1, 1, 0, 1, 0, 0])) K (S_l0 x a) (k_l0 K x)
noncomputable def k_l1 (K : Nat) (x : Args ps) : Ex → St → Option Res := kAt (ev K) body [1, 1, 1, 1, 0, 1, 0] fin
noncomputable def N_l1 (K : Nat) (x : Args ps) : A_l1 → Option Res := fun a => evLoop live_l1 (ev K (sub body [1, 1, 1, 1, 0, 1, 0, 0])) K (S_l1 x a) (k_l1 K x)
noncomputable def k_l2 (K : Nat) (x : Args ps) (r_l1 : St → Option Res) : Ex → St → Option Res := kAt (ev K) (sub body [1, 1, 1, 1, 0, 1, 0, 0]) [1, 1, 0, 0, 1, 1, 1, 0] (kLoop live_l1 r_l1 (k_l1 K x))
noncomputable def N_l2 (K : Nat) (x : Args ps) (r_l1 : St → Option Res) : A_l2 → Option Res := fun a => evLoop live_l2 (ev K (sub body [1, 1, 1, 1, 0, 1, 0, 0, 1, 1, 0, 0, 1, 1, 1, 0, 0])) K (S_l2 x a) (k_l2 K x r_l1)
theorem h_l2 (K : Nat) (x : Args ps) (r_l1 : St → Option Res) (r_l2 : St → Option Res) (a : A_l2) : ev K (sub body [1, 1, 1, 1, 0, 1, 0, 0, 1, 1, 0, 0, 1, 1, 1, 0, 0]) (S_l2 x a) (kLoop live_l2 r_l2 (k_l2 K x r_l1)) = l2.step K x (fun a => r_l1 (S_l1 x a)) (fun a => r_l2 (S_l2 x a)) a := by kernel_rfl
theorem ok_l2 (K : Nat) (x : Args ps) (r_l1 : St → Option Res) : N_l2 K x r_l1 = l2 K x (fun a => r_l1 (S_l1 x a)) := funext fun a => evLoop_iter live_l2 (ev K (sub body [1, 1, 1, 1, 0, 1, 0, 0, 1, 1, 0, 0, 1, 1, 1, 0, 0])) (k_l2 K x r_l1) (S_l2 x) (fun rec a => l2.step K x (fun a => r_l1 (S_l1 x a)) rec a) (fun r_l2 a => (h_l2 K x r_l1 r_l2 a)) K a
theorem h_l1 (K : Nat) (x : Args ps) (r_l1 : St → Option Res) (a : A_l1) : ev K (sub body [1, 1, 1, 1, 0, 1, 0, 0]) (S_l1 x a) (kLoop live_l1 r_l1 (k_l1 K x)) = l1.step K x (N_l2 K x r_l1) (fun a => r_l1 (S_l1 x a)) a := by kernel_rfl
theorem ok_l1 (K : Nat) (x : Args ps) : N_l1 K x = l1 K x := funext fun a => evLoop_iter live_l1 (ev K (sub body [1, 1, 1, 1, 0, 1, 0, 0])) (k_l1 K x) (S_l1 x) (fun rec a => l1.step K x (l2 K x rec) rec a) (fun r_l1 a => (h_l1 K x r_l1 a).trans (by rw [ok_l2 K x r_l1])) K a
theorem h_l0 (K : Nat) (x : Args ps) (r_l0 : St → Option Res) (a : A_l0) : ev K (sub body [1, 1, 0, 1, 0, 0]) (S_l0 x a) (kLoop live_l0 r_l0 (k_l0 K x)) = l0.step K x (N_l1 K x) (fun a => r_l0 (S_l0 x a)) a := by kernel_rfl
theorem ok_l0 (K : Nat) (x : Args ps) : N_l0 K x = l0 K x := funext fun a => evLoop_iter live_l0 (ev K (sub body [1, 1, 0, 1, 0, 0])) (k_l0 K x) (S_l0 x) (fun rec a => l0.step K x (l1 K x) rec a) (fun r_l0 a => (h_l0 K x r_l0 a).trans (by rw [ok_l1 K x])) K a
theorem eqn (K : Nat) (x : Args ps) : evF (G K) T L K Try.f62 ps rs true x = f K x := (show evF (G K) T L K Try.f62 ps rs true x = pre K (N_l0 K x) x by kernel_rfl).trans (by rw [ok_l0 K x]; rfl)
end impl_Node_doubtsOk
/-! ### impl.CoordOk -/
namespace impl_CoordOk
@[reducible] def ps : List PK := [.rd t9]
@[reducible] def rs : List RK := [.v false .bool]
abbrev Res := Ress rs × Outs ps
noncomputable def pre (K : Nat) (x : Args ps) : Option Res := (impl_in.f K (x.1.1, (-100000), 100000, ())).bind fun y1 => bif y1.1.1 then ((impl_in.f K (x.1.2.1, (-100000), 100000, ())).bind fun y2 => bif y2.1.1 then ((impl_in.f K (x.1.2.2.1, 0, 100000, ())).bind fun y3 => bif y3.1.1 then ((impl_in.f K (x.1.2.2.2, 1, 1500, ())).bind fun y4 => some ((y4.1.1, ()), ())) else (some ((false, ()), ()))) else (some ((false, ()), ()))) else (some ((false, ()), ()))
noncomputable def f (K : Nat) (x : Args ps) : Option Res := pre K x
noncomputable def c (K : Nat) : Ctr := ⟨63, ps, rs, true, f K⟩
noncomputable def G (K : Nat) : List Ctr := [impl_in.c K]
noncomputable def L : List (Nat × List (Nat × List Coe)) := []
noncomputable def body : Code := bodyOf Try.f63
noncomputable abbrev ev (K : Nat) : Code → St → (Ex → St → Option Res) → Option Res := evK (G K) T L K
noncomputable abbrev fin : Ex → St → Option Res := finK T ps rs true Try.f63.results.toList
theorem eqn (K : Nat) (x : Args ps) : evF (G K) T L K Try.f63 ps rs true x = f K x := by kernel_rfl
end impl_CoordOk
/-! ### impl.Node).other -/
namespace impl_Node_other
@[reducible] def ps : List PK := [.rd t26, .rd (.int .i64)]
@[reducible] def rs : List RK := [.v false .bool]
abbrev Res := Ress rs × Outs ps
noncomputable def pre (K : Nat) (x : Args ps) : Option Res := (impl_Node_near.f K (x.1, x.2.1, ())).bind fun y1 => bif y1.1.1 then (some ((x.2.1 != x.1.1, ()), ())) else (some ((false, ()), ()))
noncomputable def f (K : Nat) (x : Args ps) : Option Res := pre K x
noncomputable def c (K : Nat) : Ctr := ⟨110, ps, rs, true, f K⟩
noncomputable def G (K : Nat) : List Ctr := [impl_Node_near.c K]
noncomputable def L : List (Nat × List (Nat × List Coe)) := []
noncomputable def body : Code := bodyOf Try.f110
noncomputable abbrev ev (K : Nat) : Code → St → (Ex → St → Option Res) → Option Res := evK (G K) T L K
noncomputable abbrev fin : Ex → St → Option Res := finK T ps rs true Try.f110.results.toList
theorem eqn (K : Nat) (x : Args ps) : evF (G K) T L K Try.f110 ps rs true x = f K x := by kernel_rfl
end impl_Node_other
/-! ### slices.IndexFunc[[]int,int] -/
namespace slices_IndexFunc_int_int
@[reducible] def ps : List PK := [.rd (.list 3 (.int .i64)), .fn [(.int .i64)] .bool]
@[reducible] def rs : List RK := [.v false (.int .i64)]
abbrev Res := Ress rs × Outs ps
abbrev A_l0 := Int
noncomputable def l0.step (K : Nat) (x : Args ps) (rec_l0 : A_l0 → Option Res) (a : A_l0) : Option Res := bif decide (a < (List.length x.1 : Int)) then ((idx x.1 a).bind fun y1 => (x.2.1 (y1, ())).bind fun y2 => bif y2 then (some ((a, ()), ())) else (rec_l0 (wr .i64 (a + 1)))) else (some (((-1), ()), ()))
noncomputable def l0 (K : Nat) (x : Args ps) : A_l0 → Option Res := iterate (fun rec_l0 a => l0.step K x rec_l0 a) K
noncomputable def pre (K : Nat) (N_l0 : A_l0 → Option Res) (x : Args ps) : Option Res := N_l0 0
noncomputable def f (K : Nat) (x : Args ps) : Option Res := pre K (l0 K x) x
noncomputable def c (K : Nat) : Ctr := ⟨128, ps, rs, true, f K⟩
noncomputable def G (K : Nat) : List Ctr := []
noncomputable def live_l0 : List (Nat × List Coe) := [(0, [.ro true 3 (.int .i64)]), (1, [.keep]), (7, [.keep]), (8, [.keep])]
noncomputable def L : List (Nat × List (Nat × List Coe)) := [(3, live_l0)]
noncomputable def body : Code := bodyOf Try.f128
noncomputable abbrev ev (K : Nat) : Code → St → (Ex → St → Option Res) → Option Res := evK (G K) T L K
noncomputable abbrev fin : Ex → St → Option Res := finK T ps rs true Try.f128.results.toList
noncomputable def S_l0 (x : Args ps) (a : A_l0) : St := mkSt [(0, ⟨0, .one, [.ro true 3 (.int .i64) x.1]⟩), (1, ⟨0, .one, [.fn [(.int .i64)] .bool x.2.1]⟩), (7, ⟨0, .one, [.int .i64 (List.length x.1 : Int)]⟩), (8, ⟨0, .one, [.int .i64 a]⟩)]
noncomputable def k_l0 (K : Nat) (x : Args ps) : Ex → St → Option Res := kAt (ev K) body [1, 0, 1, 0] fin
noncomputable def N_l0 (K : Nat) (x : Args ps) : A_l0 → Option Res := fun a => evLoop live_l0 (ev K (sub body [1, 0, 1, 0, 0])) K (S_l0 x a) (k_l0 K x)
theorem h_l0 (K : Nat) (x : Args ps) (r_l0 : St → Option Res) (a : A_l0) : ev K (sub body [1, 0, 1, 0, 0]) (S_l0 x a) (kLoop live_l0 r_l0 (k_l0 K x)) = l0.step K x (fun a => r_l0 (S_l0 x a)) a := by kernel_rfl
theorem ok_l0 (K : Nat) (x : Args ps) : N_l0 K x = l0 K x := funext fun a => evLoop_iter live_l0 (ev K (sub body [1, 0, 1, 0, 0])) (k_l0 K x) (S_l0 x) (fun rec a => l0.step K x rec a) (fun r_l0 a => (h_l0 K x r_l0 a)) K a
theorem eqn (K : Nat) (x : Args ps) : evF (G K) T L K Try.f128 ps rs true x = f K x := (show evF (G K) T L K Try.f128 ps rs true x = pre K (N_l0 K x) x by kernel_rfl).trans (by rw [ok_l0 K x]; rfl)
end slices_IndexFunc_int_int
/-! ### slices.ContainsFunc[[]int,int] -/
namespace slices_ContainsFunc_int_int
@[reducible] def ps : List PK := [.rd (.list 3 (.int .i64)), .fn [(.int .i64)] .bool]
@[reducible] def rs : List RK := [.v false .bool]
abbrev Res := Ress rs × Outs ps
noncomputable def pre (K : Nat) (x : Args ps) : Option Res := (slices_IndexFunc_int_int.f K (x.1, x.2.1, ())).bind fun y1 => some ((decide (y1.1.1 ≥ 0), ()), ())
noncomputable def f (K : Nat) (x : Args ps) : Option Res := pre K x
noncomputable def c (K : Nat) : Ctr := ⟨111, ps, rs, true, f K⟩
noncomputable def G (K : Nat) : List Ctr := [slices_IndexFunc_int_int.c K]
noncomputable def L : List (Nat × List (Nat × List Coe)) := []
noncomputable def body : Code := bodyOf Try.f111
noncomputable abbrev ev (K : Nat) : Code → St → (Ex → St → Option Res) → Option Res := evK (G K) T L K
noncomputable abbrev fin : Ex → St → Option Res := finK T ps rs true Try.f111.results.toList
theorem eqn (K : Nat) (x : Args ps) : evF (G K) T L K Try.f111 ps rs true x = f K x := by kernel_rfl
end slices_ContainsFunc_int_int
/-! ### impl.Node).placesOk$1 -/
namespace impl_Node_placesOk_1
@[reducible] def ps : List PK := [.rd (.int .i64)]
@[reducible] def rs : List RK := [.v false .bool]
abbrev Res := Ress rs × Outs ps
noncomputable def pre (K : Nat) (x : Args ps) : Option Res := (impl_in.f K (x.1, 1, 60000, ())).bind fun y1 => some ((!y1.1.1, ()), ())
noncomputable def f (K : Nat) (x : Args ps) : Option Res := pre K x
noncomputable def c (K : Nat) : Ctr := ⟨109, ps, rs, true, f K⟩
noncomputable def G (K : Nat) : List Ctr := [impl_in.c K]
noncomputable def L : List (Nat × List (Nat × List Coe)) := []
noncomputable def body : Code := bodyOf Try.f109
noncomputable abbrev ev (K : Nat) : Code → St → (Ex → St → Option Res) → Option Res := evK (G K) T L K
noncomputable abbrev fin : Ex → St → Option Res := finK T ps rs true Try.f109.results.toList
theorem eqn (K : Nat) (x : Args ps) : evF (G K) T L K Try.f109 ps rs true x = f K x := by kernel_rfl
end impl_Node_placesOk_1
/-! ### impl.Node).placesOk -/
namespace impl_Node_placesOk
@[reducible] def ps : List PK := [.rd t26]
@[reducible] def rs : List RK := [.v false .bool]
abbrev Res := Ress rs × Outs ps
abbrev A_l0 := Int
noncomputable def l0.step (K : Nat) (x : Args ps) (rec_l0 : A_l0 → Option Res) (a : A_l0) : Option Res := bif decide (a < (List.length x.1.2.2.2.2.2.2.2.2.2.2.2.2.2.1 : Int)) then ((idx x.1.2.2.2.2.2.2.2.2.2.2.2.2.2.1 a).bind fun y1 => (impl_Node_other.f K (x.1, y1.1, ())).bind fun y2 => bif !y2.1.1 then (some ((false, ()), ())) else (bif decide (a > 0) then ((idx x.1.2.2.2.2.2.2.2.2.2.2.2.2.2.1 (wr .i64 (a - 1))).bind fun y3 => bif decide (y1.1 ≤ y3.1) then (some ((false, ()), ())) else ((impl_CoordOk.f K (y1.2.1, ())).bind fun y4 => bif !y4.1.1 then (some ((false, ()), ())) else ((impl_in.f K ((List.length y1.2.2 : Int), 1, 3, ())).bind fun y5 => bif !y5.1.1 then (some ((false, ()), ())) else ((slices_ContainsFunc_int_int.f K (y1.2.2, fun y6 => (impl_Node_placesOk_1.f K (y6.1, ())).map fun y => y.1.1, ())).bind fun y7 => bif y7.1.1 then (some ((false, ()), ())) else (rec_l0 (wr .i64 (a + 1))))))) else ((impl_CoordOk.f K (y1.2.1, ())).bind fun y8 => bif !y8.1.1 then (some ((false, ()), ())) else ((impl_in.f K ((List.length y1.2.2 : Int), 1, 3, ())).bind fun y9 => bif !y9.1.1 then (some ((false, ()), ())) else ((slices_ContainsFunc_int_int.f K (y1.2.2, fun y10 => (impl_Node_placesOk_1.f K (y10.1, ())).map fun y => y.1.1, ())).bind fun y11 => bif y11.1.1 then (some ((false, ()), ())) else (rec_l0 (wr .i64 (a + 1)))))))) else (some ((true, ()), ()))
noncomputable def l0 (K : Nat) (x : Args ps) : A_l0 → Option Res := iterate (fun rec_l0 a => l0.step K x rec_l0 a) K
noncomputable def pre (K : Nat) (N_l0 : A_l0 → Option Res) (x : Args ps) : Option Res := N_l0 0
noncomputable def f (K : Nat) (x : Args ps) : Option Res := pre K (l0 K x) x
noncomputable def c (K : Nat) : Ctr := ⟨64, ps, rs, true, f K⟩
noncomputable def G (K : Nat) : List Ctr := [impl_in.c K, impl_CoordOk.c K, impl_Node_placesOk_1.c K, impl_Node_other.c K, slices_ContainsFunc_int_int.c K]
noncomputable def live_l0 : List (Nat × List Coe) := [(1, [.keep]), (3, [.keep]), (7, [.ro true 123 t11]), (8, [.keep]), (9, [.keep]), (100001, [.keep, .keep, .keep, .keep, .keep, .keep, .keep, .keep, .ro true 62 t2, .ro true 121 t3, .keep, .keep, .keep, .keep, .ro true 95 t6, .keep, .keep, .keep, .keep, .ro true 123 t11, .ro true 125 t12])]
noncomputable def L : List (Nat × List (Nat × List Coe)) := [(4, live_l0)]
noncomputable def body : Code := bodyOf Try.f64
noncomputable abbrev ev (K : Nat) : Code → St → (Ex → St → Option Res) → Option Res := evK (G K) T L K
noncomputable abbrev fin : Ex → St → Option Res := finK T ps rs true Try.f64.results.toList
noncomputable def S_l0 (x : Args ps) (a : A_l0) : St := mkSt [(1, ⟨0, .one, [.bp 100001 0]⟩), (3, ⟨0, .one, [.clo 109 []]⟩), (7, ⟨0, .one, [.ro true 123 t11 x.1.2.2.2.2.2.2.2.2.2.2.2.2.2.1]⟩), (8, ⟨0, .one, [.int .i64 (List.length x.1.2.2.2.2.2.2.2.2.2.2.2.2.2.1 : Int)]⟩), (9, ⟨0, .one, [.int .i64 a]⟩), (100001, ⟨0, .agg, [.int .i64 x.1.1, .bool x.1.2.1, .bool x.1.2.2.1, .bool x.1.2.2.2.1, .int .i64 x.1.2.2.2.2.1, .int .i64 x.1.2.2.2.2.2.1, .int .i64 x.1.2.2.2.2.2.2.1, .int .i64 x.1.2.2.2.2.2.2.2.1, .ro true 62 t2 x.1.2.2.2.2.2.2.2.2.1, .ro true 121 t3 x.1.2.2.2.2.2.2.2.2.2.1, .int .i64 x.1.2.2.2.2.2.2.2.2.2.2.1.1, .int .i64 x.1.2.2.2.2.2.2.2.2.2.2.1.2.1, .int .i64 x.1.2.2.2.2.2.2.2.2.2.2.1.2.2.1, .bool x.1.2.2.2.2.2.2.2.2.2.2.1.2.2.2, .ro true 95 t6 x.1.2.2.2.2.2.2.2.2.2.2.2.1, .int .i64 x.1.2.2.2.2.2.2.2.2.2.2.2.2.1.1, .int .i64 x.1.2.2.2.2.2.2.2.2.2.2.2.2.1.2.1, .int .i64 x.1.2.2.2.2.2.2.2.2.2.2.2.2.1.2.2.1, .int .i64 x.1.2.2.2.2.2.2.2.2.2.2.2.2.1.2.2.2, .ro true 123 t11 x.1.2.2.2.2.2.2.2.2.2.2.2.2.2.1, .ro true 125 t12 x.1.2.2.2.2.2.2.2.2.2.2.2.2.2.2]⟩)]
noncomputable def k_l0 (K : Nat) (x : Args ps) : Ex → St → Option Res := kAt (ev K) body [1, 1, 0, 1, 0] fin
noncomputable def N_l0 (K : Nat) (x : Args ps) : A_l0 → Option Res := fun a => evLoop live_l0 (ev K (sub body [1, 1, 0, 1, 0, 0])) K (S_l0 x a) (k_l0 K x)
theorem h_l0 (K : Nat) (x : Args ps) (r_l0 : St → Option Res) (a : A_l0) : ev K (sub body [1, 1, 0, 1, 0, 0]) (S_l0 x a) (kLoop live_l0 r_l0 (k_l0 K x)) = l0.step K x (fun a => r_l0 (S_l0 x a)) a := by kernel_rfl
theorem ok_l0 (K : Nat) (x : Args ps) : N_l0 K x = l0 K x := funext fun a => evLoop_iter live_l0 (ev K (sub body [1, 1, 0, 1, 0, 0])) (k_l0 K x) (S_l0 x) (fun rec a => l0.step K x rec a) (fun r_l0 a => (h_l0 K x r_l0 a)) K a
theorem eqn (K : Nat) (x : Args ps) : evF (G K) T L K Try.f64 ps rs true x = f K x := (show evF (G K) T L K Try.f64 ps rs true x = pre K (N_l0 K x) x by kernel_rfl).trans (by rw [ok_l0 K x]; rfl)
end impl_Node_placesOk
/-! ### impl.Node).othersOk -/
namespace impl_Node_othersOk
@[reducible] def ps : List PK := [.rd t26]
@[reducible] def rs : List RK := [.v false .bool]
abbrev Res := Ress rs × Outs ps
abbrev A_l0 := Int
noncomputable def l0.step (K : Nat) (x : Args ps) (rec_l0 : A_l0 → Option Res) (a : A_l0) : Option Res := bif decide (a < (List.length x.1.2.2.2.2.2.2.2.2.2.2.2.2.2.2 : Int)) then ((idx x.1.2.2.2.2.2.2.2.2.2.2.2.2.2.2 a).bind fun y1 => (impl_siteOf.f K (7, ())).bind fun y2 => (impl_in.f K (y1.1, 0, y2.1.1, ())).bind fun y3 => bif !y3.1.1 then (some ((false, ()), ())) else ((impl_Node_site.f K (x.1, ())).bind fun y4 => bif y1.1 == y4.1.1 then (some ((false, ()), ())) else (bif decide (a > 0) then ((idx x.1.2.2.2.2.2.2.2.2.2.2.2.2.2.2 (wr .i64 (a - 1))).bind fun y5 => bif decide (y1.1 ≤ y5.1) then (some ((false, ()), ())) else (bif (List.length y1.2 : Int) == 0 then (some ((false, ()), ())) else ((impl_TableOk.f K (y1.2, ())).bind fun y6 => bif !y6.1.1 then (some ((false, ()), ())) else ((impl_ofSite.f K (y1.2, y1.1, ())).bind fun y7 => bif !y7.1.1 then (some ((false, ()), ())) else (rec_l0 (wr .i64 (a + 1))))))) else (bif (List.length y1.2 : Int) == 0 then (some ((false, ()), ())) else ((impl_TableOk.f K (y1.2, ())).bind fun y8 => bif !y8.1.1 then (some ((false, ()), ())) else ((impl_ofSite.f K (y1.2, y1.1, ())).bind fun y9 => bif !y9.1.1 then (some ((false, ()), ())) else (rec_l0 (wr .i64 (a + 1))))))))) else (some ((true, ()), ()))
noncomputable def l0 (K : Nat) (x : Args ps) : A_l0 → Option Res := iterate (fun rec_l0 a => l0.step K x rec_l0 a) K
noncomputable def pre (K : Nat) (N_l0 : A_l0 → Option Res) (x : Args ps) : Option Res := N_l0 0
noncomputable def f (K : Nat) (x : Args ps) : Option Res := pre K (l0 K x) x
noncomputable def c (K : Nat) : Ctr := ⟨65, ps, rs, true, f K⟩
noncomputable def G (K : Nat) : List Ctr := [impl_in.c K, impl_ofSite.c K, impl_Node_site.c K, impl_siteOf.c K, impl_TableOk.c K]
noncomputable def live_l0 : List (Nat × List Coe) := [(1, [.keep]), (6, [.ro true 125 t12]), (7, [.keep]), (8, [.keep]), (100001, [.keep, .keep, .keep, .keep, .keep, .keep, .keep, .keep, .ro true 62 t2, .ro true 121 t3, .keep, .keep, .keep, .keep, .ro true 95 t6, .keep, .keep, .keep, .keep, .ro true 123 t11, .ro true 125 t12])]
noncomputable def L : List (Nat × List (Nat × List Coe)) := [(3, live_l0)]
noncomputable def body : Code := bodyOf Try.f65
noncomputable abbrev ev (K : Nat) : Code → St → (Ex → St → Option Res) → Option Res := evK (G K) T L K
noncomputable abbrev fin : Ex → St → Option Res := finK T ps rs true Try.f65.results.toList
noncomputable def S_l0 (x : Args ps) (a : A_l0) : St := mkSt [(1, ⟨0, .one, [.bp 100001 0]⟩), (6, ⟨0, .one, [.ro true 125 t12 x.1.2.2.2.2.2.2.2.2.2.2.2.2.2.2]⟩), (7, ⟨0, .one, [.int .i64 (List.length x.1.2.2.2.2.2.2.2.2.2.2.2.2.2.2 : Int)]⟩), (8, ⟨0, .one, [.int .i64 a]⟩), (100001, ⟨0, .agg, [.int .i64 x.1.1, .bool x.1.2.1, .bool x.1.2.2.1, .bool x.1.2.2.2.1, .int .i64 x.1.2.2.2.2.1, .int .i64 x.1.2.2.2.2.2.1, .int .i64 x.1.2.2.2.2.2.2.1, .int .i64 x.1.2.2.2.2.2.2.2.1, .ro true 62 t2 x.1.2.2.2.2.2.2.2.2.1, .ro true 121 t3 x.1.2.2.2.2.2.2.2.2.2.1, .int .i64 x.1.2.2.2.2.2.2.2.2.2.2.1.1, .int .i64 x.1.2.2.2.2.2.2.2.2.2.2.1.2.1, .int .i64 x.1.2.2.2.2.2.2.2.2.2.2.1.2.2.1, .bool x.1.2.2.2.2.2.2.2.2.2.2.1.2.2.2, .ro true 95 t6 x.1.2.2.2.2.2.2.2.2.2.2.2.1, .int .i64 x.1.2.2.2.2.2.2.2.2.2.2.2.2.1.1, .int .i64 x.1.2.2.2.2.2.2.2.2.2.2.2.2.1.2.1, .int .i64 x.1.2.2.2.2.2.2.2.2.2.2.2.2.1.2.2.1, .int .i64 x.1.2.2.2.2.2.2.2.2.2.2.2.2.1.2.2.2, .ro true 123 t11 x.1.2.2.2.2.2.2.2.2.2.2.2.2.2.1, .ro true 125 t12 x.1.2.2.2.2.2.2.2.2.2.2.2.2.2.2]⟩)]
noncomputable def k_l0 (K : Nat) (x : Args ps) : Ex → St → Option Res := kAt (ev K) body [1, 0, 1, 0] fin
noncomputable def N_l0 (K : Nat) (x : Args ps) : A_l0 → Option Res := fun a => evLoop live_l0 (ev K (sub body [1, 0, 1, 0, 0])) K (S_l0 x a) (k_l0 K x)
theorem h_l0 (K : Nat) (x : Args ps) (r_l0 : St → Option Res) (a : A_l0) : ev K (sub body [1, 0, 1, 0, 0]) (S_l0 x a) (kLoop live_l0 r_l0 (k_l0 K x)) = l0.step K x (fun a => r_l0 (S_l0 x a)) a := by kernel_rfl
theorem ok_l0 (K : Nat) (x : Args ps) : N_l0 K x = l0 K x := funext fun a => evLoop_iter live_l0 (ev K (sub body [1, 0, 1, 0, 0])) (k_l0 K x) (S_l0 x) (fun rec a => l0.step K x rec a) (fun r_l0 a => (h_l0 K x r_l0 a)) K a
theorem eqn (K : Nat) (x : Args ps) : evF (G K) T L K Try.f65 ps rs true x = f K x := (show evF (G K) T L K Try.f65 ps rs true x = pre K (N_l0 K x) x by kernel_rfl).trans (by rw [ok_l0 K x]; rfl)
end impl_Node_othersOk
/-! ### impl.NodeOk -/
namespace impl_NodeOk
@[reducible] def ps : List PK := [.rd t26]
@[reducible] def rs : List RK := [.v false .bool]
abbrev Res := Ress rs × Outs ps
noncomputable def pre (K : Nat) (x : Args ps) : Option Res := (impl_isNode.f K (x.1.1, ())).bind fun y1 => bif !y1.1.1 then (some ((false, ()), ())) else ((impl_in.f K (x.1.2.2.2.2.2.1, 0, 999999, ())).bind fun y2 => bif !y2.1.1 then (some ((false, ()), ())) else ((impl_in.f K (x.1.2.2.2.2.2.2.1, 0, 999999, ())).bind fun y3 => bif !y3.1.1 then (some ((false, ()), ())) else ((impl_in.f K (x.1.2.2.2.2.2.2.2.1, 0, 8, ())).bind fun y4 => bif !y4.1.1 then (some ((false, ()), ())) else ((impl_in.f K (x.1.2.2.2.2.1, 0, 999, ())).bind fun y5 => bif !y5.1.1 then (some ((false, ()), ())) else (bif !x.1.2.1 then ((impl_Node_isDown.f K (x.1, ())).bind fun y6 => some ((y6.1.1, ()), ())) else ((impl_Node_tableOk.f K (x.1, ())).bind fun y7 => bif y7.1.1 then ((impl_Node_probeOk.f K (x.1, ())).bind fun y8 => bif y8.1.1 then ((impl_Node_doubtsOk.f K (x.1, ())).bind fun y9 => bif y9.1.1 then ((impl_CoordOk.f K (x.1.2.2.2.2.2.2.2.2.2.2.2.2.1, ())).bind fun y10 => bif y10.1.1 then ((impl_Node_placesOk.f K (x.1, ())).bind fun y11 => bif y11.1.1 then ((impl_Node_othersOk.f K (x.1, ())).bind fun y12 => some ((y12.1.1, ()), ())) else (some ((false, ()), ()))) else (some ((false, ()), ()))) else (some ((false, ()), ()))) else (some ((false, ()), ()))) else (some ((false, ()), ()))))))))
noncomputable def f (K : Nat) (x : Args ps) : Option Res := pre K x
noncomputable def c (K : Nat) : Ctr := ⟨14, ps, rs, true, f K⟩
noncomputable def G (K : Nat) : List Ctr := [impl_isNode.c K, impl_in.c K, impl_Node_isDown.c K, impl_Node_tableOk.c K, impl_Node_probeOk.c K, impl_Node_doubtsOk.c K, impl_CoordOk.c K, impl_Node_placesOk.c K, impl_Node_othersOk.c K]
noncomputable def L : List (Nat × List (Nat × List Coe)) := []
noncomputable def body : Code := bodyOf Try.f14
noncomputable abbrev ev (K : Nat) : Code → St → (Ex → St → Option Res) → Option Res := evK (G K) T L K
noncomputable abbrev fin : Ex → St → Option Res := finK T ps rs true Try.f14.results.toList
theorem eqn (K : Nat) (x : Args ps) : evF (G K) T L K Try.f14 ps rs true x = f K x := by kernel_rfl
end impl_NodeOk
/-! ### laws.eqFact -/
namespace laws_eqFact
@[reducible] def ps : List PK := [.rd t2, .rd t2]
@[reducible] def rs : List RK := [.v false .bool]
abbrev Res := Ress rs × Outs ps
noncomputable def pre (K : Nat) (x : Args ps) : Option Res := bif x.1.1 != x.2.1.1 then (some ((false, ()), ())) else (bif x.1.2.1 != x.2.1.2.1 then (some ((false, ()), ())) else (bif x.1.2.2.1 != x.2.1.2.2.1 then (some ((false, ()), ())) else (bif x.1.2.2.2 != x.2.1.2.2.2 then (some ((false, ()), ())) else (some ((true, ()), ())))))
noncomputable def f (K : Nat) (x : Args ps) : Option Res := pre K x
noncomputable def c (K : Nat) : Ctr := ⟨79, ps, rs, true, f K⟩
noncomputable def G (K : Nat) : List Ctr := []
noncomputable def L : List (Nat × List (Nat × List Coe)) := []
noncomputable def body : Code := bodyOf Try.f79
noncomputable abbrev ev (K : Nat) : Code → St → (Ex → St → Option Res) → Option Res := evK (G K) T L K
noncomputable abbrev fin : Ex → St → Option Res := finK T ps rs true Try.f79.results.toList
theorem eqn (K : Nat) (x : Args ps) : evF (G K) T L K Try.f79 ps rs true x = f K x := by kernel_rfl
end laws_eqFact
/-! ### laws.eqFactS -/
namespace laws_eqFactS
@[reducible] def ps : List PK := [.rd (.list 62 t2), .rd (.list 62 t2)]
@[reducible] def rs : List RK := [.v false .bool]
abbrev Res := Ress rs × Outs ps
abbrev A_l0 := Int
noncomputable def l0.step (K : Nat) (x : Args ps) (rec_l0 : A_l0 → Option Res) (a : A_l0) : Option Res := bif decide (a < (List.length x.1 : Int)) then ((idx x.1 a).bind fun y1 => (idx x.2.1 a).bind fun y2 => (laws_eqFact.f K (y1, y2, ())).bind fun y3 => bif !y3.1.1 then (some ((false, ()), ())) else (rec_l0 (wr .i64 (a + 1)))) else (some ((true, ()), ()))
noncomputable def l0 (K : Nat) (x : Args ps) : A_l0 → Option Res := iterate (fun rec_l0 a => l0.step K x rec_l0 a) K
noncomputable def pre (K : Nat) (N_l0 : A_l0 → Option Res) (x : Args ps) : Option Res := bif (List.length x.1 : Int) != (List.length x.2.1 : Int) then (some ((false, ()), ())) else (N_l0 0)
noncomputable def f (K : Nat) (x : Args ps) : Option Res := pre K (l0 K x) x
noncomputable def c (K : Nat) : Ctr := ⟨25, ps, rs, true, f K⟩
noncomputable def G (K : Nat) : List Ctr := [laws_eqFact.c K]
noncomputable def live_l0 : List (Nat × List Coe) := [(0, [.ro true 62 t2]), (1, [.ro true 62 t2]), (5, [.keep])]
noncomputable def L : List (Nat × List (Nat × List Coe)) := [(5, live_l0)]
noncomputable def body : Code := bodyOf Try.f25
noncomputable abbrev ev (K : Nat) : Code → St → (Ex → St → Option Res) → Option Res := evK (G K) T L K
noncomputable abbrev fin : Ex → St → Option Res := finK T ps rs true Try.f25.results.toList
noncomputable def S_l0 (x : Args ps) (a : A_l0) : St := mkSt [(0, ⟨0, .one, [.ro true 62 t2 x.1]⟩), (1, ⟨0, .one, [.ro true 62 t2 x.2.1]⟩), (5, ⟨0, .one, [.int .i64 a]⟩)]
noncomputable def k_l0 (K : Nat) (x : Args ps) : Ex → St → Option Res := kAt (ev K) body [1, 1, 0, 1, 0] fin
noncomputable def N_l0 (K : Nat) (x : Args ps) : A_l0 → Option Res := fun a => evLoop live_l0 (ev K (sub body [1, 1, 0, 1, 0, 0])) K (S_l0 x a) (k_l0 K x)
theorem h_l0 (K : Nat) (x : Args ps) (r_l0 : St → Option Res) (a : A_l0) : ev K (sub body [1, 1, 0, 1, 0, 0]) (S_l0 x a) (kLoop live_l0 r_l0 (k_l0 K x)) = l0.step K x (fun a => r_l0 (S_l0 x a)) a := by kernel_rfl
theorem ok_l0 (K : Nat) (x : Args ps) : N_l0 K x = l0 K x := funext fun a => evLoop_iter live_l0 (ev K (sub body [1, 1, 0, 1, 0, 0])) (k_l0 K x) (S_l0 x) (fun rec a => l0.step K x rec a) (fun r_l0 a => (h_l0 K x r_l0 a)) K a
theorem eqn (K : Nat) (x : Args ps) : evF (G K) T L K Try.f25 ps rs true x = f K x := (show evF (G K) T L K Try.f25 ps rs true x = pre K (N_l0 K x) x by kernel_rfl).trans (by rw [ok_l0 K x]; rfl)
end laws_eqFactS
/-! ### laws.eqItem -/
namespace laws_eqItem
@[reducible] def ps : List PK := [.rd t3, .rd t3]
@[reducible] def rs : List RK := [.v false .bool]
abbrev Res := Ress rs × Outs ps
noncomputable def pre (K : Nat) (x : Args ps) : Option Res := (laws_eqFact.f K (x.1.1, x.2.1.1, ())).bind fun y1 => bif !y1.1.1 then (some ((false, ()), ())) else (bif x.1.2 != x.2.1.2 then (some ((false, ()), ())) else (some ((true, ()), ())))
noncomputable def f (K : Nat) (x : Args ps) : Option Res := pre K x
noncomputable def c (K : Nat) : Ctr := ⟨114, ps, rs, true, f K⟩
noncomputable def G (K : Nat) : List Ctr := [laws_eqFact.c K]
noncomputable def L : List (Nat × List (Nat × List Coe)) := []
noncomputable def body : Code := bodyOf Try.f114
noncomputable abbrev ev (K : Nat) : Code → St → (Ex → St → Option Res) → Option Res := evK (G K) T L K
noncomputable abbrev fin : Ex → St → Option Res := finK T ps rs true Try.f114.results.toList
theorem eqn (K : Nat) (x : Args ps) : evF (G K) T L K Try.f114 ps rs true x = f K x := by kernel_rfl
end laws_eqItem
/-! ### laws.eqItemS -/
namespace laws_eqItemS
@[reducible] def ps : List PK := [.rd (.list 121 t3), .rd (.list 121 t3)]
@[reducible] def rs : List RK := [.v false .bool]
abbrev Res := Ress rs × Outs ps
abbrev A_l0 := Int
noncomputable def l0.step (K : Nat) (x : Args ps) (rec_l0 : A_l0 → Option Res) (a : A_l0) : Option Res := bif decide (a < (List.length x.1 : Int)) then ((idx x.1 a).bind fun y1 => (idx x.2.1 a).bind fun y2 => (laws_eqItem.f K (y1, y2, ())).bind fun y3 => bif !y3.1.1 then (some ((false, ()), ())) else (rec_l0 (wr .i64 (a + 1)))) else (some ((true, ()), ()))
noncomputable def l0 (K : Nat) (x : Args ps) : A_l0 → Option Res := iterate (fun rec_l0 a => l0.step K x rec_l0 a) K
noncomputable def pre (K : Nat) (N_l0 : A_l0 → Option Res) (x : Args ps) : Option Res := bif (List.length x.1 : Int) != (List.length x.2.1 : Int) then (some ((false, ()), ())) else (N_l0 0)
noncomputable def f (K : Nat) (x : Args ps) : Option Res := pre K (l0 K x) x
noncomputable def c (K : Nat) : Ctr := ⟨66, ps, rs, true, f K⟩
noncomputable def G (K : Nat) : List Ctr := [laws_eqItem.c K]
noncomputable def live_l0 : List (Nat × List Coe) := [(0, [.ro true 121 t3]), (1, [.ro true 121 t3]), (5, [.keep])]
noncomputable def L : List (Nat × List (Nat × List Coe)) := [(5, live_l0)]
noncomputable def body : Code := bodyOf Try.f66
noncomputable abbrev ev (K : Nat) : Code → St → (Ex → St → Option Res) → Option Res := evK (G K) T L K
noncomputable abbrev fin : Ex → St → Option Res := finK T ps rs true Try.f66.results.toList
noncomputable def S_l0 (x : Args ps) (a : A_l0) : St := mkSt [(0, ⟨0, .one, [.ro true 121 t3 x.1]⟩), (1, ⟨0, .one, [.ro true 121 t3 x.2.1]⟩), (5, ⟨0, .one, [.int .i64 a]⟩)]
noncomputable def k_l0 (K : Nat) (x : Args ps) : Ex → St → Option Res := kAt (ev K) body [1, 1, 0, 1, 0] fin
noncomputable def N_l0 (K : Nat) (x : Args ps) : A_l0 → Option Res := fun a => evLoop live_l0 (ev K (sub body [1, 1, 0, 1, 0, 0])) K (S_l0 x a) (k_l0 K x)
theorem h_l0 (K : Nat) (x : Args ps) (r_l0 : St → Option Res) (a : A_l0) : ev K (sub body [1, 1, 0, 1, 0, 0]) (S_l0 x a) (kLoop live_l0 r_l0 (k_l0 K x)) = l0.step K x (fun a => r_l0 (S_l0 x a)) a := by kernel_rfl
theorem ok_l0 (K : Nat) (x : Args ps) : N_l0 K x = l0 K x := funext fun a => evLoop_iter live_l0 (ev K (sub body [1, 1, 0, 1, 0, 0])) (k_l0 K x) (S_l0 x) (fun rec a => l0.step K x rec a) (fun r_l0 a => (h_l0 K x r_l0 a)) K a
theorem eqn (K : Nat) (x : Args ps) : evF (G K) T L K Try.f66 ps rs true x = f K x := (show evF (G K) T L K Try.f66 ps rs true x = pre K (N_l0 K x) x by kernel_rfl).trans (by rw [ok_l0 K x]; rfl)
end laws_eqItemS
/-! ### laws.eqProbe -/
namespace laws_eqProbe
@[reducible] def ps : List PK := [.rd t2, .rd t2]
@[reducible] def rs : List RK := [.v false .bool]
abbrev Res := Ress rs × Outs ps
noncomputable def pre (K : Nat) (x : Args ps) : Option Res := bif x.1.1 != x.2.1.1 then (some ((false, ()), ())) else (bif x.1.2.1 != x.2.1.2.1 then (some ((false, ()), ())) else (bif x.1.2.2.1 != x.2.1.2.2.1 then (some ((false, ()), ())) else (bif x.1.2.2.2 != x.2.1.2.2.2 then (some ((false, ()), ())) else (some ((true, ()), ())))))
noncomputable def f (K : Nat) (x : Args ps) : Option Res := pre K x
noncomputable def c (K : Nat) : Ctr := ⟨67, ps, rs, true, f K⟩
noncomputable def G (K : Nat) : List Ctr := []
noncomputable def L : List (Nat × List (Nat × List Coe)) := []
noncomputable def body : Code := bodyOf Try.f67
noncomputable abbrev ev (K : Nat) : Code → St → (Ex → St → Option Res) → Option Res := evK (G K) T L K
noncomputable abbrev fin : Ex → St → Option Res := finK T ps rs true Try.f67.results.toList
theorem eqn (K : Nat) (x : Args ps) : evF (G K) T L K Try.f67 ps rs true x = f K x := by kernel_rfl
end laws_eqProbe
/-! ### laws.eqIntS -/
namespace laws_eqIntS
@[reducible] def ps : List PK := [.rd (.list 3 (.int .i64)), .rd (.list 3 (.int .i64))]
@[reducible] def rs : List RK := [.v false .bool]
abbrev Res := Ress rs × Outs ps
abbrev A_l0 := Int
noncomputable def l0.step (K : Nat) (x : Args ps) (rec_l0 : A_l0 → Option Res) (a : A_l0) : Option Res := bif decide (a < (List.length x.1 : Int)) then ((idx x.1 a).bind fun y1 => (idx x.2.1 a).bind fun y2 => bif y1 != y2 then (some ((false, ()), ())) else (rec_l0 (wr .i64 (a + 1)))) else (some ((true, ()), ()))
noncomputable def l0 (K : Nat) (x : Args ps) : A_l0 → Option Res := iterate (fun rec_l0 a => l0.step K x rec_l0 a) K
noncomputable def pre (K : Nat) (N_l0 : A_l0 → Option Res) (x : Args ps) : Option Res := bif (List.length x.1 : Int) != (List.length x.2.1 : Int) then (some ((false, ()), ())) else (N_l0 0)
noncomputable def f (K : Nat) (x : Args ps) : Option Res := pre K (l0 K x) x
noncomputable def c (K : Nat) : Ctr := ⟨24, ps, rs, true, f K⟩
noncomputable def G (K : Nat) : List Ctr := []
noncomputable def live_l0 : List (Nat × List Coe) := [(0, [.ro true 3 (.int .i64)]), (1, [.ro true 3 (.int .i64)]), (5, [.keep])]
noncomputable def L : List (Nat × List (Nat × List Coe)) := [(5, live_l0)]
noncomputable def body : Code := bodyOf Try.f24
noncomputable abbrev ev (K : Nat) : Code → St → (Ex → St → Option Res) → Option Res := evK (G K) T L K
noncomputable abbrev fin : Ex → St → Option Res := finK T ps rs true Try.f24.results.toList
noncomputable def S_l0 (x : Args ps) (a : A_l0) : St := mkSt [(0, ⟨0, .one, [.ro true 3 (.int .i64) x.1]⟩), (1, ⟨0, .one, [.ro true 3 (.int .i64) x.2.1]⟩), (5, ⟨0, .one, [.int .i64 a]⟩)]
noncomputable def k_l0 (K : Nat) (x : Args ps) : Ex → St → Option Res := kAt (ev K) body [1, 1, 0, 1, 0] fin
noncomputable def N_l0 (K : Nat) (x : Args ps) : A_l0 → Option Res := fun a => evLoop live_l0 (ev K (sub body [1, 1, 0, 1, 0, 0])) K (S_l0 x a) (k_l0 K x)
theorem h_l0 (K : Nat) (x : Args ps) (r_l0 : St → Option Res) (a : A_l0) : ev K (sub body [1, 1, 0, 1, 0, 0]) (S_l0 x a) (kLoop live_l0 r_l0 (k_l0 K x)) = l0.step K x (fun a => r_l0 (S_l0 x a)) a := by kernel_rfl
theorem ok_l0 (K : Nat) (x : Args ps) : N_l0 K x = l0 K x := funext fun a => evLoop_iter live_l0 (ev K (sub body [1, 1, 0, 1, 0, 0])) (k_l0 K x) (S_l0 x) (fun rec a => l0.step K x rec a) (fun r_l0 a => (h_l0 K x r_l0 a)) K a
theorem eqn (K : Nat) (x : Args ps) : evF (G K) T L K Try.f24 ps rs true x = f K x := (show evF (G K) T L K Try.f24 ps rs true x = pre K (N_l0 K x) x by kernel_rfl).trans (by rw [ok_l0 K x]; rfl)
end laws_eqIntS
/-! ### laws.eqDoubt -/
namespace laws_eqDoubt
@[reducible] def ps : List PK := [.rd t6, .rd t6]
@[reducible] def rs : List RK := [.v false .bool]
abbrev Res := Ress rs × Outs ps
noncomputable def pre (K : Nat) (x : Args ps) : Option Res := bif x.1.1 != x.2.1.1 then (some ((false, ()), ())) else (bif x.1.2.1 != x.2.1.2.1 then (some ((false, ()), ())) else (bif x.1.2.2.1 != x.2.1.2.2.1 then (some ((false, ()), ())) else ((laws_eqIntS.f K (x.1.2.2.2, x.2.1.2.2.2, ())).bind fun y1 => bif !y1.1.1 then (some ((false, ()), ())) else (some ((true, ()), ())))))
noncomputable def f (K : Nat) (x : Args ps) : Option Res := pre K x
noncomputable def c (K : Nat) : Ctr := ⟨115, ps, rs, true, f K⟩
noncomputable def G (K : Nat) : List Ctr := [laws_eqIntS.c K]
noncomputable def L : List (Nat × List (Nat × List Coe)) := []
noncomputable def body : Code := bodyOf Try.f115
noncomputable abbrev ev (K : Nat) : Code → St → (Ex → St → Option Res) → Option Res := evK (G K) T L K
noncomputable abbrev fin : Ex → St → Option Res := finK T ps rs true Try.f115.results.toList
theorem eqn (K : Nat) (x : Args ps) : evF (G K) T L K Try.f115 ps rs true x = f K x := by kernel_rfl
end laws_eqDoubt
/-! ### laws.eqDoubtS -/
namespace laws_eqDoubtS
@[reducible] def ps : List PK := [.rd (.list 95 t6), .rd (.list 95 t6)]
@[reducible] def rs : List RK := [.v false .bool]
abbrev Res := Ress rs × Outs ps
abbrev A_l0 := Int
noncomputable def l0.step (K : Nat) (x : Args ps) (rec_l0 : A_l0 → Option Res) (a : A_l0) : Option Res := bif decide (a < (List.length x.1 : Int)) then ((idx x.1 a).bind fun y1 => (idx x.2.1 a).bind fun y2 => (laws_eqDoubt.f K (y1, y2, ())).bind fun y3 => bif !y3.1.1 then (some ((false, ()), ())) else (rec_l0 (wr .i64 (a + 1)))) else (some ((true, ()), ()))
noncomputable def l0 (K : Nat) (x : Args ps) : A_l0 → Option Res := iterate (fun rec_l0 a => l0.step K x rec_l0 a) K
noncomputable def pre (K : Nat) (N_l0 : A_l0 → Option Res) (x : Args ps) : Option Res := bif (List.length x.1 : Int) != (List.length x.2.1 : Int) then (some ((false, ()), ())) else (N_l0 0)
noncomputable def f (K : Nat) (x : Args ps) : Option Res := pre K (l0 K x) x
noncomputable def c (K : Nat) : Ctr := ⟨68, ps, rs, true, f K⟩
noncomputable def G (K : Nat) : List Ctr := [laws_eqDoubt.c K]
noncomputable def live_l0 : List (Nat × List Coe) := [(0, [.ro true 95 t6]), (1, [.ro true 95 t6]), (5, [.keep])]
noncomputable def L : List (Nat × List (Nat × List Coe)) := [(5, live_l0)]
noncomputable def body : Code := bodyOf Try.f68
noncomputable abbrev ev (K : Nat) : Code → St → (Ex → St → Option Res) → Option Res := evK (G K) T L K
noncomputable abbrev fin : Ex → St → Option Res := finK T ps rs true Try.f68.results.toList
noncomputable def S_l0 (x : Args ps) (a : A_l0) : St := mkSt [(0, ⟨0, .one, [.ro true 95 t6 x.1]⟩), (1, ⟨0, .one, [.ro true 95 t6 x.2.1]⟩), (5, ⟨0, .one, [.int .i64 a]⟩)]
noncomputable def k_l0 (K : Nat) (x : Args ps) : Ex → St → Option Res := kAt (ev K) body [1, 1, 0, 1, 0] fin
noncomputable def N_l0 (K : Nat) (x : Args ps) : A_l0 → Option Res := fun a => evLoop live_l0 (ev K (sub body [1, 1, 0, 1, 0, 0])) K (S_l0 x a) (k_l0 K x)
theorem h_l0 (K : Nat) (x : Args ps) (r_l0 : St → Option Res) (a : A_l0) : ev K (sub body [1, 1, 0, 1, 0, 0]) (S_l0 x a) (kLoop live_l0 r_l0 (k_l0 K x)) = l0.step K x (fun a => r_l0 (S_l0 x a)) a := by kernel_rfl
theorem ok_l0 (K : Nat) (x : Args ps) : N_l0 K x = l0 K x := funext fun a => evLoop_iter live_l0 (ev K (sub body [1, 1, 0, 1, 0, 0])) (k_l0 K x) (S_l0 x) (fun rec a => l0.step K x rec a) (fun r_l0 a => (h_l0 K x r_l0 a)) K a
theorem eqn (K : Nat) (x : Args ps) : evF (G K) T L K Try.f68 ps rs true x = f K x := (show evF (G K) T L K Try.f68 ps rs true x = pre K (N_l0 K x) x by kernel_rfl).trans (by rw [ok_l0 K x]; rfl)
end laws_eqDoubtS
/-! ### laws.eqCoord -/
namespace laws_eqCoord
@[reducible] def ps : List PK := [.rd t9, .rd t9]
@[reducible] def rs : List RK := [.v false .bool]
abbrev Res := Ress rs × Outs ps
noncomputable def pre (K : Nat) (x : Args ps) : Option Res := bif x.1.1 != x.2.1.1 then (some ((false, ()), ())) else (bif x.1.2.1 != x.2.1.2.1 then (some ((false, ()), ())) else (bif x.1.2.2.1 != x.2.1.2.2.1 then (some ((false, ()), ())) else (bif x.1.2.2.2 != x.2.1.2.2.2 then (some ((false, ()), ())) else (some ((true, ()), ())))))
noncomputable def f (K : Nat) (x : Args ps) : Option Res := pre K x
noncomputable def c (K : Nat) : Ctr := ⟨69, ps, rs, true, f K⟩
noncomputable def G (K : Nat) : List Ctr := []
noncomputable def L : List (Nat × List (Nat × List Coe)) := []
noncomputable def body : Code := bodyOf Try.f69
noncomputable abbrev ev (K : Nat) : Code → St → (Ex → St → Option Res) → Option Res := evK (G K) T L K
noncomputable abbrev fin : Ex → St → Option Res := finK T ps rs true Try.f69.results.toList
theorem eqn (K : Nat) (x : Args ps) : evF (G K) T L K Try.f69 ps rs true x = f K x := by kernel_rfl
end laws_eqCoord
/-! ### laws.eqPlace -/
namespace laws_eqPlace
@[reducible] def ps : List PK := [.rd t11, .rd t11]
@[reducible] def rs : List RK := [.v false .bool]
abbrev Res := Ress rs × Outs ps
noncomputable def pre (K : Nat) (x : Args ps) : Option Res := bif x.1.1 != x.2.1.1 then (some ((false, ()), ())) else ((laws_eqCoord.f K (x.1.2.1, x.2.1.2.1, ())).bind fun y1 => bif !y1.1.1 then (some ((false, ()), ())) else ((laws_eqIntS.f K (x.1.2.2, x.2.1.2.2, ())).bind fun y2 => bif !y2.1.1 then (some ((false, ()), ())) else (some ((true, ()), ()))))
noncomputable def f (K : Nat) (x : Args ps) : Option Res := pre K x
noncomputable def c (K : Nat) : Ctr := ⟨116, ps, rs, true, f K⟩
noncomputable def G (K : Nat) : List Ctr := [laws_eqIntS.c K, laws_eqCoord.c K]
noncomputable def L : List (Nat × List (Nat × List Coe)) := []
noncomputable def body : Code := bodyOf Try.f116
noncomputable abbrev ev (K : Nat) : Code → St → (Ex → St → Option Res) → Option Res := evK (G K) T L K
noncomputable abbrev fin : Ex → St → Option Res := finK T ps rs true Try.f116.results.toList
theorem eqn (K : Nat) (x : Args ps) : evF (G K) T L K Try.f116 ps rs true x = f K x := by kernel_rfl
end laws_eqPlace
/-! ### laws.eqPlaceS -/
namespace laws_eqPlaceS
@[reducible] def ps : List PK := [.rd (.list 123 t11), .rd (.list 123 t11)]
@[reducible] def rs : List RK := [.v false .bool]
abbrev Res := Ress rs × Outs ps
abbrev A_l0 := Int
noncomputable def l0.step (K : Nat) (x : Args ps) (rec_l0 : A_l0 → Option Res) (a : A_l0) : Option Res := bif decide (a < (List.length x.1 : Int)) then ((idx x.1 a).bind fun y1 => (idx x.2.1 a).bind fun y2 => (laws_eqPlace.f K (y1, y2, ())).bind fun y3 => bif !y3.1.1 then (some ((false, ()), ())) else (rec_l0 (wr .i64 (a + 1)))) else (some ((true, ()), ()))
noncomputable def l0 (K : Nat) (x : Args ps) : A_l0 → Option Res := iterate (fun rec_l0 a => l0.step K x rec_l0 a) K
noncomputable def pre (K : Nat) (N_l0 : A_l0 → Option Res) (x : Args ps) : Option Res := bif (List.length x.1 : Int) != (List.length x.2.1 : Int) then (some ((false, ()), ())) else (N_l0 0)
noncomputable def f (K : Nat) (x : Args ps) : Option Res := pre K (l0 K x) x
noncomputable def c (K : Nat) : Ctr := ⟨70, ps, rs, true, f K⟩
noncomputable def G (K : Nat) : List Ctr := [laws_eqPlace.c K]
noncomputable def live_l0 : List (Nat × List Coe) := [(0, [.ro true 123 t11]), (1, [.ro true 123 t11]), (5, [.keep])]
noncomputable def L : List (Nat × List (Nat × List Coe)) := [(5, live_l0)]
noncomputable def body : Code := bodyOf Try.f70
noncomputable abbrev ev (K : Nat) : Code → St → (Ex → St → Option Res) → Option Res := evK (G K) T L K
noncomputable abbrev fin : Ex → St → Option Res := finK T ps rs true Try.f70.results.toList
noncomputable def S_l0 (x : Args ps) (a : A_l0) : St := mkSt [(0, ⟨0, .one, [.ro true 123 t11 x.1]⟩), (1, ⟨0, .one, [.ro true 123 t11 x.2.1]⟩), (5, ⟨0, .one, [.int .i64 a]⟩)]
noncomputable def k_l0 (K : Nat) (x : Args ps) : Ex → St → Option Res := kAt (ev K) body [1, 1, 0, 1, 0] fin
noncomputable def N_l0 (K : Nat) (x : Args ps) : A_l0 → Option Res := fun a => evLoop live_l0 (ev K (sub body [1, 1, 0, 1, 0, 0])) K (S_l0 x a) (k_l0 K x)
theorem h_l0 (K : Nat) (x : Args ps) (r_l0 : St → Option Res) (a : A_l0) : ev K (sub body [1, 1, 0, 1, 0, 0]) (S_l0 x a) (kLoop live_l0 r_l0 (k_l0 K x)) = l0.step K x (fun a => r_l0 (S_l0 x a)) a := by kernel_rfl
theorem ok_l0 (K : Nat) (x : Args ps) : N_l0 K x = l0 K x := funext fun a => evLoop_iter live_l0 (ev K (sub body [1, 1, 0, 1, 0, 0])) (k_l0 K x) (S_l0 x) (fun rec a => l0.step K x rec a) (fun r_l0 a => (h_l0 K x r_l0 a)) K a
theorem eqn (K : Nat) (x : Args ps) : evF (G K) T L K Try.f70 ps rs true x = f K x := (show evF (G K) T L K Try.f70 ps rs true x = pre K (N_l0 K x) x by kernel_rfl).trans (by rw [ok_l0 K x]; rfl)
end laws_eqPlaceS
/-! ### laws.eqForeign -/
namespace laws_eqForeign
@[reducible] def ps : List PK := [.rd t12, .rd t12]
@[reducible] def rs : List RK := [.v false .bool]
abbrev Res := Ress rs × Outs ps
noncomputable def pre (K : Nat) (x : Args ps) : Option Res := bif x.1.1 != x.2.1.1 then (some ((false, ()), ())) else ((laws_eqFactS.f K (x.1.2, x.2.1.2, ())).bind fun y1 => bif !y1.1.1 then (some ((false, ()), ())) else (some ((true, ()), ())))
noncomputable def f (K : Nat) (x : Args ps) : Option Res := pre K x
noncomputable def c (K : Nat) : Ctr := ⟨117, ps, rs, true, f K⟩
noncomputable def G (K : Nat) : List Ctr := [laws_eqFactS.c K]
noncomputable def L : List (Nat × List (Nat × List Coe)) := []
noncomputable def body : Code := bodyOf Try.f117
noncomputable abbrev ev (K : Nat) : Code → St → (Ex → St → Option Res) → Option Res := evK (G K) T L K
noncomputable abbrev fin : Ex → St → Option Res := finK T ps rs true Try.f117.results.toList
theorem eqn (K : Nat) (x : Args ps) : evF (G K) T L K Try.f117 ps rs true x = f K x := by kernel_rfl
end laws_eqForeign
/-! ### laws.eqForeignS -/
namespace laws_eqForeignS
@[reducible] def ps : List PK := [.rd (.list 125 t12), .rd (.list 125 t12)]
@[reducible] def rs : List RK := [.v false .bool]
abbrev Res := Ress rs × Outs ps
abbrev A_l0 := Int
noncomputable def l0.step (K : Nat) (x : Args ps) (rec_l0 : A_l0 → Option Res) (a : A_l0) : Option Res := bif decide (a < (List.length x.1 : Int)) then ((idx x.1 a).bind fun y1 => (idx x.2.1 a).bind fun y2 => (laws_eqForeign.f K (y1, y2, ())).bind fun y3 => bif !y3.1.1 then (some ((false, ()), ())) else (rec_l0 (wr .i64 (a + 1)))) else (some ((true, ()), ()))
noncomputable def l0 (K : Nat) (x : Args ps) : A_l0 → Option Res := iterate (fun rec_l0 a => l0.step K x rec_l0 a) K
noncomputable def pre (K : Nat) (N_l0 : A_l0 → Option Res) (x : Args ps) : Option Res := bif (List.length x.1 : Int) != (List.length x.2.1 : Int) then (some ((false, ()), ())) else (N_l0 0)
noncomputable def f (K : Nat) (x : Args ps) : Option Res := pre K (l0 K x) x
noncomputable def c (K : Nat) : Ctr := ⟨71, ps, rs, true, f K⟩
noncomputable def G (K : Nat) : List Ctr := [laws_eqForeign.c K]
noncomputable def live_l0 : List (Nat × List Coe) := [(0, [.ro true 125 t12]), (1, [.ro true 125 t12]), (5, [.keep])]
noncomputable def L : List (Nat × List (Nat × List Coe)) := [(5, live_l0)]
noncomputable def body : Code := bodyOf Try.f71
noncomputable abbrev ev (K : Nat) : Code → St → (Ex → St → Option Res) → Option Res := evK (G K) T L K
noncomputable abbrev fin : Ex → St → Option Res := finK T ps rs true Try.f71.results.toList
noncomputable def S_l0 (x : Args ps) (a : A_l0) : St := mkSt [(0, ⟨0, .one, [.ro true 125 t12 x.1]⟩), (1, ⟨0, .one, [.ro true 125 t12 x.2.1]⟩), (5, ⟨0, .one, [.int .i64 a]⟩)]
noncomputable def k_l0 (K : Nat) (x : Args ps) : Ex → St → Option Res := kAt (ev K) body [1, 1, 0, 1, 0] fin
noncomputable def N_l0 (K : Nat) (x : Args ps) : A_l0 → Option Res := fun a => evLoop live_l0 (ev K (sub body [1, 1, 0, 1, 0, 0])) K (S_l0 x a) (k_l0 K x)
theorem h_l0 (K : Nat) (x : Args ps) (r_l0 : St → Option Res) (a : A_l0) : ev K (sub body [1, 1, 0, 1, 0, 0]) (S_l0 x a) (kLoop live_l0 r_l0 (k_l0 K x)) = l0.step K x (fun a => r_l0 (S_l0 x a)) a := by kernel_rfl
theorem ok_l0 (K : Nat) (x : Args ps) : N_l0 K x = l0 K x := funext fun a => evLoop_iter live_l0 (ev K (sub body [1, 1, 0, 1, 0, 0])) (k_l0 K x) (S_l0 x) (fun rec a => l0.step K x rec a) (fun r_l0 a => (h_l0 K x r_l0 a)) K a
theorem eqn (K : Nat) (x : Args ps) : evF (G K) T L K Try.f71 ps rs true x = f K x := (show evF (G K) T L K Try.f71 ps rs true x = pre K (N_l0 K x) x by kernel_rfl).trans (by rw [ok_l0 K x]; rfl)
end laws_eqForeignS
/-! ### laws.eqNode -/
namespace laws_eqNode
@[reducible] def ps : List PK := [.rd t26, .rd t26]
@[reducible] def rs : List RK := [.v false .bool]
abbrev Res := Ress rs × Outs ps
noncomputable def pre (K : Nat) (x : Args ps) : Option Res := bif x.1.1 != x.2.1.1 then (some ((false, ()), ())) else (bif x.1.2.1 != x.2.1.2.1 then (some ((false, ()), ())) else (bif x.1.2.2.1 != x.2.1.2.2.1 then (some ((false, ()), ())) else (bif x.1.2.2.2.1 != x.2.1.2.2.2.1 then (some ((false, ()), ())) else (bif x.1.2.2.2.2.1 != x.2.1.2.2.2.2.1 then (some ((false, ()), ())) else (bif x.1.2.2.2.2.2.1 != x.2.1.2.2.2.2.2.1 then (some ((false, ()), ())) else (bif x.1.2.2.2.2.2.2.1 != x.2.1.2.2.2.2.2.2.1 then (some ((false, ()), ())) else (bif x.1.2.2.2.2.2.2.2.1 != x.2.1.2.2.2.2.2.2.2.1 then (some ((false, ()), ())) else ((laws_eqFactS.f K (x.1.2.2.2.2.2.2.2.2.1, x.2.1.2.2.2.2.2.2.2.2.1, ())).bind fun y1 => bif !y1.1.1 then (some ((false, ()), ())) else ((laws_eqItemS.f K (x.1.2.2.2.2.2.2.2.2.2.1, x.2.1.2.2.2.2.2.2.2.2.2.1, ())).bind fun y2 => bif !y2.1.1 then (some ((false, ()), ())) else ((laws_eqProbe.f K (x.1.2.2.2.2.2.2.2.2.2.2.1, x.2.1.2.2.2.2.2.2.2.2.2.2.1, ())).bind fun y3 => bif !y3.1.1 then (some ((false, ()), ())) else ((laws_eqDoubtS.f K (x.1.2.2.2.2.2.2.2.2.2.2.2.1, x.2.1.2.2.2.2.2.2.2.2.2.2.2.1, ())).bind fun y4 => bif !y4.1.1 then (some ((false, ()), ())) else ((laws_eqCoord.f K (x.1.2.2.2.2.2.2.2.2.2.2.2.2.1, x.2.1.2.2.2.2.2.2.2.2.2.2.2.2.1, ())).bind fun y5 => bif !y5.1.1 then (some ((false, ()), ())) else ((laws_eqPlaceS.f K (x.1.2.2.2.2.2.2.2.2.2.2.2.2.2.1, x.2.1.2.2.2.2.2.2.2.2.2.2.2.2.2.1, ())).bind fun y6 => bif !y6.1.1 then (some ((false, ()), ())) else ((laws_eqForeignS.f K (x.1.2.2.2.2.2.2.2.2.2.2.2.2.2.2, x.2.1.2.2.2.2.2.2.2.2.2.2.2.2.2.2, ())).bind fun y7 => bif !y7.1.1 then (some ((false, ()), ())) else (some ((true, ()), ()))))))))))))))))
noncomputable def f (K : Nat) (x : Args ps) : Option Res := pre K x
noncomputable def c (K : Nat) : Ctr := ⟨15, ps, rs, true, f K⟩
noncomputable def G (K : Nat) : List Ctr := [laws_eqFactS.c K, laws_eqItemS.c K, laws_eqProbe.c K, laws_eqDoubtS.c K, laws_eqCoord.c K, laws_eqPlaceS.c K, laws_eqForeignS.c K]
noncomputable def L : List (Nat × List (Nat × List Coe)) := []
noncomputable def body : Code := bodyOf Try.f15
noncomputable abbrev ev (K : Nat) : Code → St → (Ex → St → Option Res) → Option Res := evK (G K) T L K
noncomputable abbrev fin : Ex → St → Option Res := finK T ps rs true Try.f15.results.toList
theorem eqn (K : Nat) (x : Args ps) : evF (G K) T L K Try.f15 ps rs true x = f K x := by kernel_rfl
end laws_eqNode
/-! ### laws.FnExactNodeOk -/
namespace laws_FnExactNodeOk
@[reducible] def ps : List PK := [.rd t46]
@[reducible] def rs : List RK := [.v false .bool]
abbrev Res := Ress rs × Outs ps
noncomputable def pre (K : Nat) (x : Args ps) : Option Res := (laws_szNode.f K (x.1, 1048576, ())).bind fun y1 => bif decide (y1.1.1 < 0) then (some ((true, ()), ())) else ((laws_toNode.f K (x.1, ())).bind fun y2 => (spec_NodeOk.f K (y2.1.1, ())).bind fun y3 => (laws_toNode.f K (x.1, ())).bind fun y4 => (impl_NodeOk.f K (y4.1.1, ())).bind fun y5 => bif y5.1.1 != y3.1.1 then (some ((false, ()), ())) else ((laws_toNode.f K (x.1, ())).bind fun y6 => (laws_eqNode.f K (y4.1.1, y6.1.1, ())).bind fun y7 => bif !y7.1.1 then (some ((false, ()), ())) else (some ((true, ()), ()))))
noncomputable def f (K : Nat) (x : Args ps) : Option Res := pre K x
noncomputable def c (K : Nat) : Ctr := ⟨4, ps, rs, true, f K⟩
noncomputable def G (K : Nat) : List Ctr := [laws_szNode.c K, spec_NodeOk.c K, laws_toNode.c K, impl_NodeOk.c K, laws_eqNode.c K]
noncomputable def L : List (Nat × List (Nat × List Coe)) := []
noncomputable def body : Code := bodyOf Try.f4
noncomputable abbrev ev (K : Nat) : Code → St → (Ex → St → Option Res) → Option Res := evK (G K) T L K
noncomputable abbrev fin : Ex → St → Option Res := finK T ps rs true Try.f4.results.toList
theorem eqn (K : Nat) (x : Args ps) : evF (G K) T L K Try.f4 ps rs true x = f K x := by kernel_rfl
end laws_FnExactNodeOk
/-! ### spec.l21Due -/
namespace spec_l21Due
@[reducible] def ps : List PK := [.rd (.int .i64), .rd t6]
@[reducible] def rs : List RK := [.v false .bool]
abbrev Res := Ress rs × Outs ps
noncomputable def pre (K : Nat) (x : Args ps) : Option Res := bif decide ((wr .i64 ((wr .i64 (6 - (List.length x.2.1.2.2.2 : Int))) + 1)) < 3) then (some ((decide ((wr .i64 (x.1 - x.2.1.2.2.1)) ≥ 3), ()), ())) else (some ((decide ((wr .i64 (x.1 - x.2.1.2.2.1)) ≥ (wr .i64 ((wr .i64 (6 - (List.length x.2.1.2.2.2 : Int))) + 1))), ()), ()))
noncomputable def f (K : Nat) (x : Args ps) : Option Res := pre K x
noncomputable def c (K : Nat) : Ctr := ⟨72, ps, rs, true, f K⟩
noncomputable def G (K : Nat) : List Ctr := []
noncomputable def L : List (Nat × List (Nat × List Coe)) := []
noncomputable def body : Code := bodyOf Try.f72
noncomputable abbrev ev (K : Nat) : Code → St → (Ex → St → Option Res) → Option Res := evK (G K) T L K
noncomputable abbrev fin : Ex → St → Option Res := finK T ps rs true Try.f72.results.toList
theorem eqn (K : Nat) (x : Args ps) : evF (G K) T L K Try.f72 ps rs true x = f K x := by kernel_rfl
end spec_l21Due
/-! ### spec.NodeSure -/
namespace spec_NodeSure
@[reducible] def ps : List PK := [.rd t26, .rd (.int .i64)]
@[reducible] def rs : List RK := [.v false (.int .i64), .v false .bool]
abbrev Res := Ress rs × Outs ps
abbrev A_l1 := Int × Int × Int × Int × List (Ty.den (.int .i64))
abbrev A_l0 := Int
noncomputable def l1.step (K : Nat) (x : Args ps) (rec_l0 : A_l0 → Option Res) (rec_l1 : A_l1 → Option Res) (a : A_l1) : Option Res := bif decide (a.1 < 6) then ((spec_l21Due.f K (wr .i64 (x.1.2.2.2.2.2.1 + a.1), a.2, ())).bind fun y3 => bif !y3.1.1 then (rec_l1 (wr .i64 (a.1 + 1), a.2.1, a.2.2.1, a.2.2.2.1, a.2.2.2.2)) else (some ((a.1, true, ()), ()))) else (some ((a.1, true, ()), ()))
noncomputable def l1 (K : Nat) (x : Args ps) (rec_l0 : A_l0 → Option Res) : A_l1 → Option Res := iterate (fun rec_l1 a => l1.step K x rec_l0 rec_l1 a) K
noncomputable def l0.step (K : Nat) (x : Args ps) (N_l1 : A_l1 → Option Res) (rec_l0 : A_l0 → Option Res) (a : A_l0) : Option Res := bif decide (a < (List.length x.1.2.2.2.2.2.2.2.2.2.2.2.1 : Int)) then ((idx x.1.2.2.2.2.2.2.2.2.2.2.2.1 a).bind fun y2 => bif y2.1 != x.2.1 then (rec_l0 (wr .i64 (a + 1))) else (N_l1 (0, y2.1, y2.2.1, y2.2.2.1, y2.2.2.2))) else (some ((0, false, ()), ()))
noncomputable def l0 (K : Nat) (x : Args ps) : A_l0 → Option Res := iterate (fun rec_l0 a => l0.step K x (l1 K x rec_l0) rec_l0 a) K
noncomputable def pre (K : Nat) (N_l0 : A_l0 → Option Res) (x : Args ps) : Option Res := (spec_NodeOk.f K (x.1, ())).bind fun y1 => bif !y1.1.1 then (some ((0, false, ()), ())) else (N_l0 0)
noncomputable def f (K : Nat) (x : Args ps) : Option Res := pre K (l0 K x) x
noncomputable def c (K : Nat) : Ctr := ⟨16, ps, rs, true, f K⟩
noncomputable def G (K : Nat) : List Ctr := [spec_NodeOk.c K, spec_l21Due.c K]
noncomputable def live_l1 : List (Nat × List Coe) := [(2, [.keep]), (7, [.keep]), (8, [.keep]), (100002, [.keep, .keep, .keep, .keep, .keep, .keep, .keep, .keep, .ro true 62 t2, .ro true 121 t3, .keep, .keep, .keep, .keep, .ro true 95 t6, .keep, .keep, .keep, .keep, .ro true 123 t11, .ro true 125 t12]), (100007, [.keep, .keep, .keep, .ro true 3 (.int .i64)])]
noncomputable def live_l0 : List (Nat × List Coe) := [(1, [.keep]), (2, [.keep]), (6, [.keep]), (100002, [.keep, .keep, .keep, .keep, .keep, .keep, .keep, .keep, .ro true 62 t2, .ro true 121 t3, .keep, .keep, .keep, .keep, .ro true 95 t6, .keep, .keep, .keep, .keep, .ro true 123 t11, .ro true 125 t12])]
noncomputable def L : List (Nat × List (Nat × List Coe)) := [(10, live_l1), (5, live_l0)]
noncomputable def body : Code := bodyOf Try.f16
noncomputable abbrev ev (K : Nat) : Code → St → (Ex → St → Option Res) → Option Res := evK (G K) T L K
noncomputable abbrev fin : Ex → St → Option Res := finK T ps rs true Try.f16.results.toList
noncomputable def S_l0 (x : Args ps) (a : A_l0) : St := mkSt [(1, ⟨0, .one, [.int .i64 x.2.1]⟩), (2, ⟨0, .one, [.bp 100002 0]⟩), (6, ⟨0, .one, [.int .i64 a]⟩), (100002, ⟨0, .agg, [.int .i64 x.1.1, .bool x.1.2.1, .bool x.1.2.2.1, .bool x.1.2.2.2.1, .int .i64 x.1.2.2.2.2.1, .int .i64 x.1.2.2.2.2.2.1, .int .i64 x.1.2.2.2.2.2.2.1, .int .i64 x.1.2.2.2.2.2.2.2.1, .ro true 62 t2 x.1.2.2.2.2.2.2.2.2.1, .ro true 121 t3 x.1.2.2.2.2.2.2.2.2.2.1, .int .i64 x.1.2.2.2.2.2.2.2.2.2.2.1.1, .int .i64 x.1.2.2.2.2.2.2.2.2.2.2.1.2.1, .int .i64 x.1.2.2.2.2.2.2.2.2.2.2.1.2.2.1, .bool x.1.2.2.2.2.2.2.2.2.2.2.1.2.2.2, .ro true 95 t6 x.1.2.2.2.2.2.2.2.2.2.2.2.1, .int .i64 x.1.2.2.2.2.2.2.2.2.2.2.2.2.1.1, .int .i64 x.1.2.2.2.2.2.2.2.2.2.2.2.2.1.2.1, .int .i64 x.1.2.2.2.2.2.2.2.2.2.2.2.2.1.2.2.1, .int .i64 x.1.2.2.2.2.2.2.2.2.2.2.2.2.1.2.2.2, .ro true 123 t11 x.1.2.2.2.2.2.2.2.2.2.2.2.2.2.1, .ro true 125 t12 x.1.2.2.2.2.2.2.2.2.2.2.2.2.2.2]⟩)]
noncomputable def S_l1 (x : Args ps) (a : A_l1) : St := mkSt [(2, ⟨0, .one, [.bp 100002 0]⟩), (7, ⟨0, .one, [.bp 100007 0]⟩), (8, ⟨0, .one, [.int .i64 a.1]⟩), (100002, ⟨0, .agg, [.int .i64 x.1.1, .bool x.1.2.1, .bool x.1.2.2.1, .bool x.1.2.2.2.1, .int .i64 x.1.2.2.2.2.1, .int .i64 x.1.2.2.2.2.2.1, .int .i64 x.1.2.2.2.2.2.2.1, .int .i64 x.1.2.2.2.2.2.2.2.1, .ro true 62 t2 x.1.2.2.2.2.2.2.2.2.1, .ro true 121 t3 x.1.2.2.2.2.2.2.2.2.2.1, .int .i64 x.1.2.2.2.2.2.2.2.2.2.2.1.1, .int .i64 x.1.2.2.2.2.2.2.2.2.2.2.1.2.1, .int .i64 x.1.2.2.2.2.2.2.2.2.2.2.1.2.2.1, .bool x.1.2.2.2.2.2.2.2.2.2.2.1.2.2.2, .ro true 95 t6 x.1.2.2.2.2.2.2.2.2.2.2.2.1, .int .i64 x.1.2.2.2.2.2.2.2.2.2.2.2.2.1.1, .int .i64 x.1.2.2.2.2.2.2.2.2.2.2.2.2.1.2.1, .int .i64 x.1.2.2.2.2.2.2.2.2.2.2.2.2.1.2.2.1, .int .i64 x.1.2.2.2.2.2.2.2.2.2.2.2.2.1.2.2.2, .ro true 123 t11 x.1.2.2.2.2.2.2.2.2.2.2.2.2.2.1, .ro true 125 t12 x.1.2.2.2.2.2.2.2.2.2.2.2.2.2.2]⟩), (100007, ⟨0, .agg, [.int .i64 a.2.1, .int .i64 a.2.2.1, .int .i64 a.2.2.2.1, .ro true 3 (.int .i64) a.2.2.2.2]⟩)]
noncomputable def k_l0 (K : Nat) (x : Args ps) : Ex → St → Option Res := kAt (ev K) body [1, 1, 0, 1, 0] fin
noncomputable def N_l0 (K : Nat) (x : Args ps) : A_l0 → Option Res := fun a => evLoop live_l0 (ev K (sub body [1, 1, 0, 1, 0, 0])) K (S_l0 x a) (k_l0 K x)
noncomputable def k_l1 (K : Nat) (x : Args ps) (r_l0 : St → Option Res) : Ex → St → Option Res := kAt (ev K) (sub body [1, 1, 0, 1, 0, 0]) [1, 0, 0, 1, 1, 1, 0, 0] (kLoop live_l0 r_l0 (k_l0 K x))
noncomputable def N_l1 (K : Nat) (x : Args ps) (r_l0 : St → Option Res) : A_l1 → Option Res := fun a => evLoop live_l1 (ev K (sub body [1, 1, 0, 1, 0, 0, 1, 0, 0, 1, 1, 1, 0, 0, 0])) K (S_l1 x a) (k_l1 K x r_l0)
theorem h_l1 (K : Nat) (x : Args ps) (r_l0 : St → Option Res) (r_l1 : St → Option Res) (a : A_l1) : ev K (sub body [1, 1, 0, 1, 0, 0, 1, 0, 0, 1, 1, 1, 0, 0, 0]) (S_l1 x a) (kLoop live_l1 r_l1 (k_l1 K x r_l0)) = l1.step K x (fun a => r_l0 (S_l0 x a)) (fun a => r_l1 (S_l1 x a)) a := by kernel_rfl
theorem ok_l1 (K : Nat) (x : Args ps) (r_l0 : St → Option Res) : N_l1 K x r_l0 = l1 K x (fun a => r_l0 (S_l0 x a)) := funext fun a => evLoop_iter live_l1 (ev K (sub body [1, 1, 0, 1, 0, 0, 1, 0, 0, 1, 1, 1, 0, 0, 0])) (k_l1 K x r_l0) (S_l1 x) (fun rec a => l1.step K x (fun a => r_l0 (S_l0 x a)) rec a) (fun r_l1 a => (h_l1 K x r_l0 r_l1 a)) K a
theorem h_l0 (K : Nat) (x : Args ps) (r_l0 : St → Option Res) (a : A_l0) : ev K (sub body [1, 1, 0, 1, 0, 0]) (S_l0 x a) (kLoop live_l0 r_l0 (k_l0 K x)) = l0.step K x (N_l1 K x r_l0) (fun a => r_l0 (S_l0 x a)) a := by kernel_rfl
theorem ok_l0 (K : Nat) (x : Args ps) : N_l0 K x = l0 K x := funext fun a => evLoop_iter live_l0 (ev K (sub body [1, 1, 0, 1, 0, 0])) (k_l0 K x) (S_l0 x) (fun rec a => l0.step K x (l1 K x rec) rec a) (fun r_l0 a => (h_l0 K x r_l0 a).trans (by rw [ok_l1 K x r_l0])) K a
theorem eqn (K : Nat) (x : Args ps) : evF (G K) T L K Try.f16 ps rs true x = f K x := (show evF (G K) T L K Try.f16 ps rs true x = pre K (N_l0 K x) x by kernel_rfl).trans (by rw [ok_l0 K x]; rfl)
end spec_NodeSure
/-! ### impl.Doubt] -/
namespace slices_IndexFunc_impl_Doubt_impl_Doubt
@[reducible] def ps : List PK := [.rd (.list 95 t6), .fn [t6] .bool]
@[reducible] def rs : List RK := [.v false (.int .i64)]
abbrev Res := Ress rs × Outs ps
abbrev A_l0 := Int
noncomputable def l0.step (K : Nat) (x : Args ps) (rec_l0 : A_l0 → Option Res) (a : A_l0) : Option Res := bif decide (a < (List.length x.1 : Int)) then ((idx x.1 a).bind fun y1 => (x.2.1 (y1, ())).bind fun y2 => bif y2 then (some ((a, ()), ())) else (rec_l0 (wr .i64 (a + 1)))) else (some (((-1), ()), ()))
noncomputable def l0 (K : Nat) (x : Args ps) : A_l0 → Option Res := iterate (fun rec_l0 a => l0.step K x rec_l0 a) K
noncomputable def pre (K : Nat) (N_l0 : A_l0 → Option Res) (x : Args ps) : Option Res := N_l0 0
noncomputable def f (K : Nat) (x : Args ps) : Option Res := pre K (l0 K x) x
noncomputable def c (K : Nat) : Ctr := ⟨73, ps, rs, true, f K⟩
noncomputable def G (K : Nat) : List Ctr := []
noncomputable def live_l0 : List (Nat × List Coe) := [(0, [.ro true 95 t6]), (1, [.keep]), (7, [.keep]), (8, [.keep])]
noncomputable def L : List (Nat × List (Nat × List Coe)) := [(3, live_l0)]
noncomputable def body : Code := bodyOf Try.f73
noncomputable abbrev ev (K : Nat) : Code → St → (Ex → St → Option Res) → Option Res := evK (G K) T L K
noncomputable abbrev fin : Ex → St → Option Res := finK T ps rs true Try.f73.results.toList
noncomputable def S_l0 (x : Args ps) (a : A_l0) : St := mkSt [(0, ⟨0, .one, [.ro true 95 t6 x.1]⟩), (1, ⟨0, .one, [.fn [t6] .bool x.2.1]⟩), (7, ⟨0, .one, [.int .i64 (List.length x.1 : Int)]⟩), (8, ⟨0, .one, [.int .i64 a]⟩)]
noncomputable def k_l0 (K : Nat) (x : Args ps) : Ex → St → Option Res := kAt (ev K) body [1, 0, 1, 0] fin
noncomputable def N_l0 (K : Nat) (x : Args ps) : A_l0 → Option Res := fun a => evLoop live_l0 (ev K (sub body [1, 0, 1, 0, 0])) K (S_l0 x a) (k_l0 K x)
theorem h_l0 (K : Nat) (x : Args ps) (r_l0 : St → Option Res) (a : A_l0) : ev K (sub body [1, 0, 1, 0, 0]) (S_l0 x a) (kLoop live_l0 r_l0 (k_l0 K x)) = l0.step K x (fun a => r_l0 (S_l0 x a)) a := by kernel_rfl
theorem ok_l0 (K : Nat) (x : Args ps) : N_l0 K x = l0 K x := funext fun a => evLoop_iter live_l0 (ev K (sub body [1, 0, 1, 0, 0])) (k_l0 K x) (S_l0 x) (fun rec a => l0.step K x rec a) (fun r_l0 a => (h_l0 K x r_l0 a)) K a
theorem eqn (K : Nat) (x : Args ps) : evF (G K) T L K Try.f73 ps rs true x = f K x := (show evF (G K) T L K Try.f73 ps rs true x = pre K (N_l0 K x) x by kernel_rfl).trans (by rw [ok_l0 K x]; rfl)
end slices_IndexFunc_impl_Doubt_impl_Doubt
/-! ### impl.NodeSure$1 -/
namespace impl_NodeSure_1
@[reducible] def ps : List PK := [.rd t6, .rref (.int .i64)]
@[reducible] def rs : List RK := [.v false .bool]
abbrev Res := Ress rs × Outs ps
noncomputable def pre (K : Nat) (x : Args ps) : Option Res := some ((x.1.1 == x.2.1, ()), ())
noncomputable def f (K : Nat) (x : Args ps) : Option Res := pre K x
noncomputable def c (K : Nat) : Ctr := ⟨74, ps, rs, true, f K⟩
noncomputable def G (K : Nat) : List Ctr := []
noncomputable def L : List (Nat × List (Nat × List Coe)) := []
noncomputable def body : Code := bodyOf Try.f74
noncomputable abbrev ev (K : Nat) : Code → St → (Ex → St → Option Res) → Option Res := evK (G K) T L K
noncomputable abbrev fin : Ex → St → Option Res := finK T ps rs true Try.f74.results.toList
theorem eqn (K : Nat) (x : Args ps) : evF (G K) T L K Try.f74 ps rs true x = f K x := by kernel_rfl
end impl_NodeSure_1
/-! ### impl.Doubt).long -/
namespace impl_Doubt_long
@[reducible] def ps : List PK := [.rd t6]
@[reducible] def rs : List RK := [.v false (.int .i64)]
abbrev Res := Ress rs × Outs ps
noncomputable def pre (K : Nat) (x : Args ps) : Option Res := some ((bif decide ((wr .i64 ((wr .i64 (6 - (List.length x.1.2.2.2 : Int))) + 1)) < 3) then 3 else wr .i64 ((wr .i64 (6 - (List.length x.1.2.2.2 : Int))) + 1), ()), ())
noncomputable def f (K : Nat) (x : Args ps) : Option Res := pre K x
noncomputable def c (K : Nat) : Ctr := ⟨75, ps, rs, true, f K⟩
noncomputable def G (K : Nat) : List Ctr := []
noncomputable def L : List (Nat × List (Nat × List Coe)) := []
noncomputable def body : Code := bodyOf Try.f75
noncomputable abbrev ev (K : Nat) : Code → St → (Ex → St → Option Res) → Option Res := evK (G K) T L K
noncomputable abbrev fin : Ex → St → Option Res := finK T ps rs true Try.f75.results.toList
theorem eqn (K : Nat) (x : Args ps) : evF (G K) T L K Try.f75 ps rs true x = f K x := by kernel_rfl
end impl_Doubt_long
/-! ### impl.NodeSure -/
namespace impl_NodeSure
@[reducible] def ps : List PK := [.rd t26, .rd (.int .i64)]
@[reducible] def rs : List RK := [.v false (.int .i64), .v false .bool]
abbrev Res := Ress rs × Outs ps
noncomputable def pre (K : Nat) (x : Args ps) : Option Res := (slices_IndexFunc_impl_Doubt_impl_Doubt.f K (x.1.2.2.2.2.2.2.2.2.2.2.2.1, fun y1 => (impl_NodeSure_1.f K (y1.1, x.2.1, ())).map fun y => y.1.1, ())).bind fun y2 => bif decide (y2.1.1 < 0) then (some ((0, false, ()), ())) else ((impl_NodeOk.f K (x.1, ())).bind fun y3 => bif !y3.1.1 then (some ((0, false, ()), ())) else ((idx x.1.2.2.2.2.2.2.2.2.2.2.2.1 y2.1.1).bind fun y4 => (impl_Doubt_long.f K (y4, ())).bind fun y5 => some ((bif decide ((wr .i64 (y5.1.1 - (wr .i64 (x.1.2.2.2.2.2.1 - y4.2.2.1)))) < 0) then 0 else wr .i64 (y5.1.1 - (wr .i64 (x.1.2.2.2.2.2.1 - y4.2.2.1))), true, ()), ())))
noncomputable def f (K : Nat) (x : Args ps) : Option Res := pre K x
noncomputable def c (K : Nat) : Ctr := ⟨17, ps, rs, true, f K⟩
noncomputable def G (K : Nat) : List Ctr := [impl_NodeOk.c K, slices_IndexFunc_impl_Doubt_impl_Doubt.c K, impl_NodeSure_1.c K, impl_Doubt_long.c K]
noncomputable def L : List (Nat × List (Nat × List Coe)) := []
noncomputable def body : Code := bodyOf Try.f17
noncomputable abbrev ev (K : Nat) : Code → St → (Ex → St → Option Res) → Option Res := evK (G K) T L K
noncomputable abbrev fin : Ex → St → Option Res := finK T ps rs true Try.f17.results.toList
theorem eqn (K : Nat) (x : Args ps) : evF (G K) T L K Try.f17 ps rs true x = f K x := by kernel_rfl
end impl_NodeSure
/-! ### laws.FnExactNodeSure -/
namespace laws_FnExactNodeSure
@[reducible] def ps : List PK := [.rd t46, .rd (.int .i64)]
@[reducible] def rs : List RK := [.v false .bool]
abbrev Res := Ress rs × Outs ps
noncomputable def pre (K : Nat) (x : Args ps) : Option Res := (laws_szNode.f K (x.1, 1048576, ())).bind fun y1 => bif decide (y1.1.1 < 0) then (some ((true, ()), ())) else ((laws_toNode.f K (x.1, ())).bind fun y2 => (spec_NodeSure.f K (y2.1.1, x.2.1, ())).bind fun y3 => (laws_toNode.f K (x.1, ())).bind fun y4 => (impl_NodeSure.f K (y4.1.1, x.2.1, ())).bind fun y5 => bif y5.1.1 != y3.1.1 then (some ((false, ()), ())) else (bif y5.1.2.1 != y3.1.2.1 then (some ((false, ()), ())) else ((laws_toNode.f K (x.1, ())).bind fun y6 => (laws_eqNode.f K (y4.1.1, y6.1.1, ())).bind fun y7 => bif !y7.1.1 then (some ((false, ()), ())) else (some ((true, ()), ())))))
noncomputable def f (K : Nat) (x : Args ps) : Option Res := pre K x
noncomputable def c (K : Nat) : Ctr := ⟨5, ps, rs, true, f K⟩
noncomputable def G (K : Nat) : List Ctr := [laws_szNode.c K, laws_toNode.c K, laws_eqNode.c K, spec_NodeSure.c K, impl_NodeSure.c K]
noncomputable def L : List (Nat × List (Nat × List Coe)) := []
noncomputable def body : Code := bodyOf Try.f5
noncomputable abbrev ev (K : Nat) : Code → St → (Ex → St → Option Res) → Option Res := evK (G K) T L K
noncomputable abbrev fin : Ex → St → Option Res := finK T ps rs true Try.f5.results.toList
theorem eqn (K : Nat) (x : Args ps) : evF (G K) T L K Try.f5 ps rs true x = f K x := by kernel_rfl
end laws_FnExactNodeSure
end
end Go.Proofs.YthgnfidnmnkeaaaEv
