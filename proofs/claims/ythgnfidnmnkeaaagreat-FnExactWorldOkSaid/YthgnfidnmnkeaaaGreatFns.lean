import Derived.Test.YthgnfidnmnkeaaaGreatProg
import Derived.Test.YthgnfidnmnkeaaaGreatEv0
set_option linter.unusedVariables false
set_option maxRecDepth 100000
namespace Go.Proofs.YthgnfidnmnkeaaaGreatEv
open Go Go.Proofs
noncomputable section
@[reducible] def t0 : Ty := .pair (.int .i64) .bool
@[reducible] def t1 : Ty := .pair (.int .i64) t0
@[reducible] def t2 : Ty := .pair (.int .i64) t1
@[reducible] def t3 : Ty := .pair (.int .i64) (.int .i64)
@[reducible] def t4 : Ty := .pair (.int .i64) t3
@[reducible] def t5 : Ty := .pair (.int .i64) t4
@[reducible] def t6 : Ty := .pair (.int .i64) (.list 3 (.int .i64))
@[reducible] def t7 : Ty := .pair (.int .i64) t6
@[reducible] def t8 : Ty := .pair (.int .i64) t7
@[reducible] def t9 : Ty := .pair t5 (.list 3 (.int .i64))
@[reducible] def t10 : Ty := .pair (.int .i64) t9
@[reducible] def t11 : Ty := .pair (.int .i64) (.list 132 t2)
@[reducible] def t12 : Ty := .pair t2 (.int .i64)
@[reducible] def t13 : Ty := .pair t5 (.list 132 t2)
@[reducible] def t14 : Ty := .pair (.int .i64) t13
@[reducible] def t15 : Ty := .pair (.int .i64) t14
@[reducible] def t16 : Ty := .pair (.int .i64) t15
@[reducible] def t17 : Ty := .pair (.int .i64) t16
@[reducible] def t18 : Ty := .pair (.int .i64) t17
@[reducible] def t19 : Ty := .pair (.int .i64) t18
@[reducible] def t20 : Ty := .pair (.int .i64) (.list 171 t2)
@[reducible] def t21 : Ty := .pair (.list 165 t10) (.list 168 t20)
@[reducible] def t22 : Ty := .pair t5 t21
@[reducible] def t23 : Ty := .pair (.list 162 t8) t22
@[reducible] def t24 : Ty := .pair t2 t23
@[reducible] def t25 : Ty := .pair (.list 176 t12) t24
@[reducible] def t26 : Ty := .pair (.list 171 t2) t25
@[reducible] def t27 : Ty := .pair (.int .i64) t26
@[reducible] def t28 : Ty := .pair (.int .i64) t27
@[reducible] def t29 : Ty := .pair (.int .i64) t28
@[reducible] def t30 : Ty := .pair (.int .i64) t29
@[reducible] def t31 : Ty := .pair .bool t30
@[reducible] def t32 : Ty := .pair .bool t31
@[reducible] def t33 : Ty := .pair .bool t32
@[reducible] def t34 : Ty := .pair (.int .i64) t33
@[reducible] def t35 : Ty := .pair (.list 94 t10) (.list 119 t11)
@[reducible] def t36 : Ty := .pair t5 t35
@[reducible] def t37 : Ty := .pair (.list 177 t8) t36
@[reducible] def t38 : Ty := .pair t2 t37
@[reducible] def t39 : Ty := .pair (.list 173 t12) t38
@[reducible] def t40 : Ty := .pair (.list 132 t2) t39
@[reducible] def t41 : Ty := .pair (.int .i64) t40
@[reducible] def t42 : Ty := .pair (.int .i64) t41
@[reducible] def t43 : Ty := .pair (.int .i64) t42
@[reducible] def t44 : Ty := .pair (.int .i64) t43
@[reducible] def t45 : Ty := .pair .bool t44
@[reducible] def t46 : Ty := .pair .bool t45
@[reducible] def t47 : Ty := .pair .bool t46
@[reducible] def t48 : Ty := .pair (.int .i64) t47
@[reducible] def t49 : Ty := .pair t5 (.list 171 t2)
@[reducible] def t50 : Ty := .pair (.int .i64) t49
@[reducible] def t51 : Ty := .pair (.int .i64) t50
@[reducible] def t52 : Ty := .pair (.int .i64) t51
@[reducible] def t53 : Ty := .pair (.int .i64) t52
@[reducible] def t54 : Ty := .pair (.int .i64) t53
@[reducible] def t55 : Ty := .pair (.int .i64) t54
@[reducible] def t56 : Ty := .pair .str .bool
@[reducible] def t57 : Ty := .pair (.int .i64) t56
@[reducible] def t58 : Ty := .pair (.list 3 (.int .i64)) (.list 171 t2)
@[reducible] def t59 : Ty := .pair (.list 187 t57) t58
@[reducible] def t60 : Ty := .pair (.list 32 t34) t59
@[reducible] def t61 : Ty := .pair (.list 3 (.int .i64)) (.list 132 t2)
@[reducible] def t62 : Ty := .pair (.list 129 t57) t61
@[reducible] def t63 : Ty := .pair (.list 44 t48) t62
@[reducible] def ty_laws_Probe : Ty := t2
@[reducible] def ty_laws_Coord : Ty := t5
@[reducible] def ty_laws_Node : Ty := t34
@[reducible] def ty_impl_Probe : Ty := t2
@[reducible] def ty_impl_Coord : Ty := t5
@[reducible] def ty_impl_Node : Ty := t48
@[reducible] def ty_laws_Word : Ty := t55
@[reducible] def ty_impl_Word : Ty := t19
@[reducible] def ty_laws_World : Ty := t60
@[reducible] def ty_impl_World : Ty := t63
@[reducible] def ty_impl_Place : Ty := t10
@[reducible] def ty_impl_Foreign : Ty := t11
@[reducible] def ty_impl_Flight : Ty := t57
@[reducible] def ty_impl_Fact : Ty := t2
@[reducible] def ty_laws_Doubt : Ty := t8
@[reducible] def ty_laws_Place : Ty := t10
@[reducible] def ty_laws_Foreign : Ty := t20
@[reducible] def ty_laws_Fact : Ty := t2
@[reducible] def ty_impl_Item : Ty := t12
@[reducible] def ty_laws_Item : Ty := t12
@[reducible] def ty_impl_Doubt : Ty := t8
@[reducible] def ty_laws_Flight : Ty := t57
def Tl : List (TypeId × TI) := [(3, .int .i64), (4, .bool), (5, .int .u8), (9, .str), (22, .slice 171 t2 32), (23, .slice 176 t12 40), (25, .struct t2 [(0, 1, false), (1, 1, false), (2, 1, false), (3, 1, false)]), (26, .slice 162 t8 48), (28, .struct t5 [(0, 1, false), (1, 1, false), (2, 1, false), (3, 1, false)]), (29, .slice 165 t10 64), (30, .slice 168 t20 32), (32, .struct t34 [(0, 1, false), (1, 1, false), (2, 1, false), (3, 1, false), (4, 1, false), (5, 1, false), (6, 1, false), (7, 1, false), (8, 1, false), (9, 1, false), (10, 4, true), (14, 1, false), (15, 4, true), (19, 1, false), (20, 1, false)]), (36, .slice 132 t2 32), (37, .slice 173 t12 40), (38, .struct t2 [(0, 1, false), (1, 1, false), (2, 1, false), (3, 1, false)]), (39, .slice 177 t8 48), (40, .struct t5 [(0, 1, false), (1, 1, false), (2, 1, false), (3, 1, false)]), (41, .slice 94 t10 64), (42, .slice 119 t11 32), (44, .struct t48 [(0, 1, false), (1, 1, false), (2, 1, false), (3, 1, false), (4, 1, false), (5, 1, false), (6, 1, false), (7, 1, false), (8, 1, false), (9, 1, false), (10, 4, true), (14, 1, false), (15, 4, true), (19, 1, false), (20, 1, false)]), (49, .struct t55 [(0, 1, false), (1, 1, false), (2, 1, false), (3, 1, false), (4, 1, false), (5, 1, false), (6, 4, true), (10, 1, false)]), (53, .struct t19 [(0, 1, false), (1, 1, false), (2, 1, false), (3, 1, false), (4, 1, false), (5, 1, false), (6, 4, true), (10, 1, false)]), (57, .slice 3 (.int .i64) 8), (62, .slice 32 t34 232), (63, .slice 187 t57 32), (65, .struct t60 [(0, 1, false), (1, 1, false), (2, 1, false), (3, 1, false)]), (68, .slice 44 t48 232), (69, .slice 129 t57 32), (71, .struct t63 [(0, 1, false), (1, 1, false), (2, 1, false), (3, 1, false)]), (75, .slice 53 t19 104), (94, .struct t10 [(0, 1, false), (1, 4, true), (5, 1, false)]), (104, .fn), (113, .fn), (119, .struct t11 [(0, 1, false), (1, 1, false)]), (129, .struct t57 [(0, 1, false), (1, 1, false), (2, 1, false)]), (130, .fn), (132, .struct t2 [(0, 1, false), (1, 1, false), (2, 1, false), (3, 1, false)]), (139, .fn), (150, .ptr), (162, .struct t8 [(0, 1, false), (1, 1, false), (2, 1, false), (3, 1, false)]), (165, .struct t10 [(0, 1, false), (1, 4, true), (5, 1, false)]), (168, .struct t20 [(0, 1, false), (1, 1, false)]), (171, .struct t2 [(0, 1, false), (1, 1, false), (2, 1, false), (3, 1, false)]), (173, .struct t12 [(0, 4, true), (4, 1, false)]), (176, .struct t12 [(0, 4, true), (4, 1, false)]), (177, .struct t8 [(0, 1, false), (1, 1, false), (2, 1, false), (3, 1, false)]), (187, .struct t57 [(0, 1, false), (1, 1, false), (2, 1, false)]), (213, .fn), (221, .int .u64), (258, .fn), (289, .int .u64), (296, .slice 4 .bool 1)]
def T (t : TypeId) : TI := tlook Tl t
/-! ### laws.szFactS -/
namespace laws_szFactS
@[reducible] def ps : List PK := [.rd (.list 171 t2), .rd (.int .i64)]
@[reducible] def rs : List RK := [.v false (.int .i64)]
abbrev Res := Ress rs × Outs ps
noncomputable def pre (K : Nat) (x : Args ps) : Option Res := bif decide ((wr .i64 (x.2.1 - (List.length x.1 : Int))) < 0) then (some (((-1), ()), ())) else (some ((wr .i64 (x.2.1 - (List.length x.1 : Int)), ()), ()))
noncomputable def f (K : Nat) (x : Args ps) : Option Res := pre K x
noncomputable def c (K : Nat) : Ctr := ⟨60, ps, rs, true, f K⟩
noncomputable def G (K : Nat) : List Ctr := []
noncomputable def L : List (Nat × List (Nat × List Coe)) := []
noncomputable def body : Code := bodyOf Tryz.f60
noncomputable abbrev ev (K : Nat) : Code → St → (Ex → St → Option Res) → Option Res := evK (G K) T L K
noncomputable abbrev fin : Ex → St → Option Res := finK T ps rs true Tryz.f60.results.toList
theorem eqn (K : Nat) (x : Args ps) : evF (G K) T L K Tryz.f60 ps rs true x = f K x := by kernel_rfl
end laws_szFactS
/-! ### laws.szItemS -/
namespace laws_szItemS
@[reducible] def ps : List PK := [.rd (.list 176 t12), .rd (.int .i64)]
@[reducible] def rs : List RK := [.v false (.int .i64)]
abbrev Res := Ress rs × Outs ps
noncomputable def pre (K : Nat) (x : Args ps) : Option Res := bif decide ((wr .i64 (x.2.1 - (List.length x.1 : Int))) < 0) then (some (((-1), ()), ())) else (some ((wr .i64 (x.2.1 - (List.length x.1 : Int)), ()), ()))
noncomputable def f (K : Nat) (x : Args ps) : Option Res := pre K x
noncomputable def c (K : Nat) : Ctr := ⟨61, ps, rs, true, f K⟩
noncomputable def G (K : Nat) : List Ctr := []
noncomputable def L : List (Nat × List (Nat × List Coe)) := []
noncomputable def body : Code := bodyOf Tryz.f61
noncomputable abbrev ev (K : Nat) : Code → St → (Ex → St → Option Res) → Option Res := evK (G K) T L K
noncomputable abbrev fin : Ex → St → Option Res := finK T ps rs true Tryz.f61.results.toList
theorem eqn (K : Nat) (x : Args ps) : evF (G K) T L K Tryz.f61 ps rs true x = f K x := by kernel_rfl
end laws_szItemS
/-! ### laws.szIntS -/
namespace laws_szIntS
@[reducible] def ps : List PK := [.rd (.list 3 (.int .i64)), .rd (.int .i64)]
@[reducible] def rs : List RK := [.v false (.int .i64)]
abbrev Res := Ress rs × Outs ps
noncomputable def pre (K : Nat) (x : Args ps) : Option Res := bif decide ((wr .i64 (x.2.1 - (List.length x.1 : Int))) < 0) then (some (((-1), ()), ())) else (some ((wr .i64 (x.2.1 - (List.length x.1 : Int)), ()), ()))
noncomputable def f (K : Nat) (x : Args ps) : Option Res := pre K x
noncomputable def c (K : Nat) : Ctr := ⟨102, ps, rs, true, f K⟩
noncomputable def G (K : Nat) : List Ctr := []
noncomputable def L : List (Nat × List (Nat × List Coe)) := []
noncomputable def body : Code := bodyOf Tryz.f102
noncomputable abbrev ev (K : Nat) : Code → St → (Ex → St → Option Res) → Option Res := evK (G K) T L K
noncomputable abbrev fin : Ex → St → Option Res := finK T ps rs true Tryz.f102.results.toList
theorem eqn (K : Nat) (x : Args ps) : evF (G K) T L K Tryz.f102 ps rs true x = f K x := by kernel_rfl
end laws_szIntS
/-! ### laws.szDoubt -/
namespace laws_szDoubt
@[reducible] def ps : List PK := [.rd t8, .rd (.int .i64)]
@[reducible] def rs : List RK := [.v false (.int .i64)]
abbrev Res := Ress rs × Outs ps
noncomputable def pre (K : Nat) (x : Args ps) : Option Res := (laws_szIntS.f K (x.1.2.2.2, x.2.1, ())).bind fun y1 => bif decide (y1.1.1 < 0) then (some (((-1), ()), ())) else (some ((y1.1.1, ()), ()))
noncomputable def f (K : Nat) (x : Args ps) : Option Res := pre K x
noncomputable def c (K : Nat) : Ctr := ⟨152, ps, rs, true, f K⟩
noncomputable def G (K : Nat) : List Ctr := [laws_szIntS.c K]
noncomputable def L : List (Nat × List (Nat × List Coe)) := []
noncomputable def body : Code := bodyOf Tryz.f152
noncomputable abbrev ev (K : Nat) : Code → St → (Ex → St → Option Res) → Option Res := evK (G K) T L K
noncomputable abbrev fin : Ex → St → Option Res := finK T ps rs true Tryz.f152.results.toList
theorem eqn (K : Nat) (x : Args ps) : evF (G K) T L K Tryz.f152 ps rs true x = f K x := by kernel_rfl
end laws_szDoubt
/-! ### laws.szDoubtS -/
namespace laws_szDoubtS
@[reducible] def ps : List PK := [.rd (.list 162 t8), .rd (.int .i64)]
@[reducible] def rs : List RK := [.v false (.int .i64)]
abbrev Res := Ress rs × Outs ps
abbrev A_l0 := Int × Int
noncomputable def l0.step (K : Nat) (x : Args ps) (rec_l0 : A_l0 → Option Res) (a : A_l0) : Option Res := bif decide (a.2 < (List.length x.1 : Int)) then ((idx x.1 a.2).bind fun y1 => (laws_szDoubt.f K (y1, a.1, ())).bind fun y2 => bif decide (y2.1.1 < 0) then (some (((-1), ()), ())) else (rec_l0 (y2.1.1, wr .i64 (a.2 + 1)))) else (some ((a.1, ()), ()))
noncomputable def l0 (K : Nat) (x : Args ps) : A_l0 → Option Res := iterate (fun rec_l0 a => l0.step K x rec_l0 a) K
noncomputable def pre (K : Nat) (N_l0 : A_l0 → Option Res) (x : Args ps) : Option Res := bif decide ((wr .i64 (x.2.1 - (List.length x.1 : Int))) < 0) then (some (((-1), ()), ())) else (N_l0 (wr .i64 (x.2.1 - (List.length x.1 : Int)), 0))
noncomputable def f (K : Nat) (x : Args ps) : Option Res := pre K (l0 K x) x
noncomputable def c (K : Nat) : Ctr := ⟨62, ps, rs, true, f K⟩
noncomputable def G (K : Nat) : List Ctr := [laws_szDoubt.c K]
noncomputable def live_l0 : List (Nat × List Coe) := [(0, [.ro true 162 t8]), (1, [.keep]), (5, [.keep])]
noncomputable def L : List (Nat × List (Nat × List Coe)) := [(6, live_l0)]
noncomputable def body : Code := bodyOf Tryz.f62
noncomputable abbrev ev (K : Nat) : Code → St → (Ex → St → Option Res) → Option Res := evK (G K) T L K
noncomputable abbrev fin : Ex → St → Option Res := finK T ps rs true Tryz.f62.results.toList
noncomputable def S_l0 (x : Args ps) (a : A_l0) : St := mkSt [(0, ⟨0, .one, [.ro true 162 t8 x.1]⟩), (1, ⟨0, .one, [.int .i64 a.1]⟩), (5, ⟨0, .one, [.int .i64 a.2]⟩)]
noncomputable def k_l0 (K : Nat) (x : Args ps) : Ex → St → Option Res := kAt (ev K) body [1, 1, 1, 0, 1, 0] fin
noncomputable def N_l0 (K : Nat) (x : Args ps) : A_l0 → Option Res := fun a => evLoop live_l0 (ev K (sub body [1, 1, 1, 0, 1, 0, 0])) K (S_l0 x a) (k_l0 K x)
theorem h_l0 (K : Nat) (x : Args ps) (r_l0 : St → Option Res) (a : A_l0) : ev K (sub body [1, 1, 1, 0, 1, 0, 0]) (S_l0 x a) (kLoop live_l0 r_l0 (k_l0 K x)) = l0.step K x (fun a => r_l0 (S_l0 x a)) a := by kernel_rfl
theorem ok_l0 (K : Nat) (x : Args ps) : N_l0 K x = l0 K x := funext fun a => evLoop_iter live_l0 (ev K (sub body [1, 1, 1, 0, 1, 0, 0])) (k_l0 K x) (S_l0 x) (fun rec a => l0.step K x rec a) (fun r_l0 a => (h_l0 K x r_l0 a)) K a
theorem eqn (K : Nat) (x : Args ps) : evF (G K) T L K Tryz.f62 ps rs true x = f K x := (show evF (G K) T L K Tryz.f62 ps rs true x = pre K (N_l0 K x) x by kernel_rfl).trans (by rw [ok_l0 K x]; rfl)
end laws_szDoubtS
/-! ### laws.szPlace -/
namespace laws_szPlace
@[reducible] def ps : List PK := [.rd t10, .rd (.int .i64)]
@[reducible] def rs : List RK := [.v false (.int .i64)]
abbrev Res := Ress rs × Outs ps
noncomputable def pre (K : Nat) (x : Args ps) : Option Res := (laws_szIntS.f K (x.1.2.2, x.2.1, ())).bind fun y1 => bif decide (y1.1.1 < 0) then (some (((-1), ()), ())) else (some ((y1.1.1, ()), ()))
noncomputable def f (K : Nat) (x : Args ps) : Option Res := pre K x
noncomputable def c (K : Nat) : Ctr := ⟨153, ps, rs, true, f K⟩
noncomputable def G (K : Nat) : List Ctr := [laws_szIntS.c K]
noncomputable def L : List (Nat × List (Nat × List Coe)) := []
noncomputable def body : Code := bodyOf Tryz.f153
noncomputable abbrev ev (K : Nat) : Code → St → (Ex → St → Option Res) → Option Res := evK (G K) T L K
noncomputable abbrev fin : Ex → St → Option Res := finK T ps rs true Tryz.f153.results.toList
theorem eqn (K : Nat) (x : Args ps) : evF (G K) T L K Tryz.f153 ps rs true x = f K x := by kernel_rfl
end laws_szPlace
/-! ### laws.szPlaceS -/
namespace laws_szPlaceS
@[reducible] def ps : List PK := [.rd (.list 165 t10), .rd (.int .i64)]
@[reducible] def rs : List RK := [.v false (.int .i64)]
abbrev Res := Ress rs × Outs ps
abbrev A_l0 := Int × Int
noncomputable def l0.step (K : Nat) (x : Args ps) (rec_l0 : A_l0 → Option Res) (a : A_l0) : Option Res := bif decide (a.2 < (List.length x.1 : Int)) then ((idx x.1 a.2).bind fun y1 => (laws_szPlace.f K (y1, a.1, ())).bind fun y2 => bif decide (y2.1.1 < 0) then (some (((-1), ()), ())) else (rec_l0 (y2.1.1, wr .i64 (a.2 + 1)))) else (some ((a.1, ()), ()))
noncomputable def l0 (K : Nat) (x : Args ps) : A_l0 → Option Res := iterate (fun rec_l0 a => l0.step K x rec_l0 a) K
noncomputable def pre (K : Nat) (N_l0 : A_l0 → Option Res) (x : Args ps) : Option Res := bif decide ((wr .i64 (x.2.1 - (List.length x.1 : Int))) < 0) then (some (((-1), ()), ())) else (N_l0 (wr .i64 (x.2.1 - (List.length x.1 : Int)), 0))
noncomputable def f (K : Nat) (x : Args ps) : Option Res := pre K (l0 K x) x
noncomputable def c (K : Nat) : Ctr := ⟨63, ps, rs, true, f K⟩
noncomputable def G (K : Nat) : List Ctr := [laws_szPlace.c K]
noncomputable def live_l0 : List (Nat × List Coe) := [(0, [.ro true 165 t10]), (1, [.keep]), (5, [.keep])]
noncomputable def L : List (Nat × List (Nat × List Coe)) := [(6, live_l0)]
noncomputable def body : Code := bodyOf Tryz.f63
noncomputable abbrev ev (K : Nat) : Code → St → (Ex → St → Option Res) → Option Res := evK (G K) T L K
noncomputable abbrev fin : Ex → St → Option Res := finK T ps rs true Tryz.f63.results.toList
noncomputable def S_l0 (x : Args ps) (a : A_l0) : St := mkSt [(0, ⟨0, .one, [.ro true 165 t10 x.1]⟩), (1, ⟨0, .one, [.int .i64 a.1]⟩), (5, ⟨0, .one, [.int .i64 a.2]⟩)]
noncomputable def k_l0 (K : Nat) (x : Args ps) : Ex → St → Option Res := kAt (ev K) body [1, 1, 1, 0, 1, 0] fin
noncomputable def N_l0 (K : Nat) (x : Args ps) : A_l0 → Option Res := fun a => evLoop live_l0 (ev K (sub body [1, 1, 1, 0, 1, 0, 0])) K (S_l0 x a) (k_l0 K x)
theorem h_l0 (K : Nat) (x : Args ps) (r_l0 : St → Option Res) (a : A_l0) : ev K (sub body [1, 1, 1, 0, 1, 0, 0]) (S_l0 x a) (kLoop live_l0 r_l0 (k_l0 K x)) = l0.step K x (fun a => r_l0 (S_l0 x a)) a := by kernel_rfl
theorem ok_l0 (K : Nat) (x : Args ps) : N_l0 K x = l0 K x := funext fun a => evLoop_iter live_l0 (ev K (sub body [1, 1, 1, 0, 1, 0, 0])) (k_l0 K x) (S_l0 x) (fun rec a => l0.step K x rec a) (fun r_l0 a => (h_l0 K x r_l0 a)) K a
theorem eqn (K : Nat) (x : Args ps) : evF (G K) T L K Tryz.f63 ps rs true x = f K x := (show evF (G K) T L K Tryz.f63 ps rs true x = pre K (N_l0 K x) x by kernel_rfl).trans (by rw [ok_l0 K x]; rfl)
end laws_szPlaceS
/-! ### laws.szForeign -/
namespace laws_szForeign
@[reducible] def ps : List PK := [.rd t20, .rd (.int .i64)]
@[reducible] def rs : List RK := [.v false (.int .i64)]
abbrev Res := Ress rs × Outs ps
noncomputable def pre (K : Nat) (x : Args ps) : Option Res := (laws_szFactS.f K (x.1.2, x.2.1, ())).bind fun y1 => bif decide (y1.1.1 < 0) then (some (((-1), ()), ())) else (some ((y1.1.1, ()), ()))
noncomputable def f (K : Nat) (x : Args ps) : Option Res := pre K x
noncomputable def c (K : Nat) : Ctr := ⟨154, ps, rs, true, f K⟩
noncomputable def G (K : Nat) : List Ctr := [laws_szFactS.c K]
noncomputable def L : List (Nat × List (Nat × List Coe)) := []
noncomputable def body : Code := bodyOf Tryz.f154
noncomputable abbrev ev (K : Nat) : Code → St → (Ex → St → Option Res) → Option Res := evK (G K) T L K
noncomputable abbrev fin : Ex → St → Option Res := finK T ps rs true Tryz.f154.results.toList
theorem eqn (K : Nat) (x : Args ps) : evF (G K) T L K Tryz.f154 ps rs true x = f K x := by kernel_rfl
end laws_szForeign
/-! ### laws.szForeignS -/
namespace laws_szForeignS
@[reducible] def ps : List PK := [.rd (.list 168 t20), .rd (.int .i64)]
@[reducible] def rs : List RK := [.v false (.int .i64)]
abbrev Res := Ress rs × Outs ps
abbrev A_l0 := Int × Int
noncomputable def l0.step (K : Nat) (x : Args ps) (rec_l0 : A_l0 → Option Res) (a : A_l0) : Option Res := bif decide (a.2 < (List.length x.1 : Int)) then ((idx x.1 a.2).bind fun y1 => (laws_szForeign.f K (y1, a.1, ())).bind fun y2 => bif decide (y2.1.1 < 0) then (some (((-1), ()), ())) else (rec_l0 (y2.1.1, wr .i64 (a.2 + 1)))) else (some ((a.1, ()), ()))
noncomputable def l0 (K : Nat) (x : Args ps) : A_l0 → Option Res := iterate (fun rec_l0 a => l0.step K x rec_l0 a) K
noncomputable def pre (K : Nat) (N_l0 : A_l0 → Option Res) (x : Args ps) : Option Res := bif decide ((wr .i64 (x.2.1 - (List.length x.1 : Int))) < 0) then (some (((-1), ()), ())) else (N_l0 (wr .i64 (x.2.1 - (List.length x.1 : Int)), 0))
noncomputable def f (K : Nat) (x : Args ps) : Option Res := pre K (l0 K x) x
noncomputable def c (K : Nat) : Ctr := ⟨64, ps, rs, true, f K⟩
noncomputable def G (K : Nat) : List Ctr := [laws_szForeign.c K]
noncomputable def live_l0 : List (Nat × List Coe) := [(0, [.ro true 168 t20]), (1, [.keep]), (5, [.keep])]
noncomputable def L : List (Nat × List (Nat × List Coe)) := [(6, live_l0)]
noncomputable def body : Code := bodyOf Tryz.f64
noncomputable abbrev ev (K : Nat) : Code → St → (Ex → St → Option Res) → Option Res := evK (G K) T L K
noncomputable abbrev fin : Ex → St → Option Res := finK T ps rs true Tryz.f64.results.toList
noncomputable def S_l0 (x : Args ps) (a : A_l0) : St := mkSt [(0, ⟨0, .one, [.ro true 168 t20 x.1]⟩), (1, ⟨0, .one, [.int .i64 a.1]⟩), (5, ⟨0, .one, [.int .i64 a.2]⟩)]
noncomputable def k_l0 (K : Nat) (x : Args ps) : Ex → St → Option Res := kAt (ev K) body [1, 1, 1, 0, 1, 0] fin
noncomputable def N_l0 (K : Nat) (x : Args ps) : A_l0 → Option Res := fun a => evLoop live_l0 (ev K (sub body [1, 1, 1, 0, 1, 0, 0])) K (S_l0 x a) (k_l0 K x)
theorem h_l0 (K : Nat) (x : Args ps) (r_l0 : St → Option Res) (a : A_l0) : ev K (sub body [1, 1, 1, 0, 1, 0, 0]) (S_l0 x a) (kLoop live_l0 r_l0 (k_l0 K x)) = l0.step K x (fun a => r_l0 (S_l0 x a)) a := by kernel_rfl
theorem ok_l0 (K : Nat) (x : Args ps) : N_l0 K x = l0 K x := funext fun a => evLoop_iter live_l0 (ev K (sub body [1, 1, 1, 0, 1, 0, 0])) (k_l0 K x) (S_l0 x) (fun rec a => l0.step K x rec a) (fun r_l0 a => (h_l0 K x r_l0 a)) K a
theorem eqn (K : Nat) (x : Args ps) : evF (G K) T L K Tryz.f64 ps rs true x = f K x := (show evF (G K) T L K Tryz.f64 ps rs true x = pre K (N_l0 K x) x by kernel_rfl).trans (by rw [ok_l0 K x]; rfl)
end laws_szForeignS
/-! ### laws.szNode -/
namespace laws_szNode
@[reducible] def ps : List PK := [.rd t34, .rd (.int .i64)]
@[reducible] def rs : List RK := [.v false (.int .i64)]
abbrev Res := Ress rs × Outs ps
noncomputable def pre (K : Nat) (x : Args ps) : Option Res := (laws_szFactS.f K (x.1.2.2.2.2.2.2.2.2.1, x.2.1, ())).bind fun y1 => bif decide (y1.1.1 < 0) then (some (((-1), ()), ())) else ((laws_szItemS.f K (x.1.2.2.2.2.2.2.2.2.2.1, y1.1.1, ())).bind fun y2 => bif decide (y2.1.1 < 0) then (some (((-1), ()), ())) else ((laws_szDoubtS.f K (x.1.2.2.2.2.2.2.2.2.2.2.2.1, y2.1.1, ())).bind fun y3 => bif decide (y3.1.1 < 0) then (some (((-1), ()), ())) else ((laws_szPlaceS.f K (x.1.2.2.2.2.2.2.2.2.2.2.2.2.2.1, y3.1.1, ())).bind fun y4 => bif decide (y4.1.1 < 0) then (some (((-1), ()), ())) else ((laws_szForeignS.f K (x.1.2.2.2.2.2.2.2.2.2.2.2.2.2.2, y4.1.1, ())).bind fun y5 => bif decide (y5.1.1 < 0) then (some (((-1), ()), ())) else (some ((y5.1.1, ()), ()))))))
noncomputable def f (K : Nat) (x : Args ps) : Option Res := pre K x
noncomputable def c (K : Nat) : Ctr := ⟨15, ps, rs, true, f K⟩
noncomputable def G (K : Nat) : List Ctr := [laws_szFactS.c K, laws_szItemS.c K, laws_szDoubtS.c K, laws_szPlaceS.c K, laws_szForeignS.c K]
noncomputable def L : List (Nat × List (Nat × List Coe)) := []
noncomputable def body : Code := bodyOf Tryz.f15
noncomputable abbrev ev (K : Nat) : Code → St → (Ex → St → Option Res) → Option Res := evK (G K) T L K
noncomputable abbrev fin : Ex → St → Option Res := finK T ps rs true Tryz.f15.results.toList
theorem eqn (K : Nat) (x : Args ps) : evF (G K) T L K Tryz.f15 ps rs true x = f K x := by kernel_rfl
end laws_szNode
/-! ### laws.toFact -/
namespace laws_toFact
@[reducible] def ps : List PK := [.rd t2]
@[reducible] def rs : List RK := [.v false t2]
abbrev Res := Ress rs × Outs ps
noncomputable def pre (K : Nat) (x : Args ps) : Option Res := some ((x.1, ()), ())
noncomputable def f (K : Nat) (x : Args ps) : Option Res := pre K x
noncomputable def c (K : Nat) : Ctr := ⟨165, ps, rs, true, f K⟩
noncomputable def G (K : Nat) : List Ctr := []
noncomputable def L : List (Nat × List (Nat × List Coe)) := []
noncomputable def body : Code := bodyOf Tryz.f165
noncomputable abbrev ev (K : Nat) : Code → St → (Ex → St → Option Res) → Option Res := evK (G K) T L K
noncomputable abbrev fin : Ex → St → Option Res := finK T ps rs true Tryz.f165.results.toList
theorem eqn (K : Nat) (x : Args ps) : evF (G K) T L K Tryz.f165 ps rs true x = f K x := by kernel_rfl
end laws_toFact
/-! ### laws.toFactS -/
namespace laws_toFactS
@[reducible] def ps : List PK := [.rd (.list 171 t2)]
@[reducible] def rs : List RK := [.v true (.list 132 t2)]
abbrev Res := Ress rs × Outs ps
abbrev A_l0 := List (Ty.den t2) × Int
noncomputable def l0.step (K : Nat) (x : Args ps) (rec_l0 : A_l0 → Option Res) (a : A_l0) : Option Res := bif decide (a.2 < (List.length x.1 : Int)) then ((idx x.1 a.2).bind fun y1 => (laws_toFact.f K (y1, ())).bind fun y2 => (idx a.1 a.2).bind fun _ => (idx a.1 (Int.toNat a.2 : Nat)).bind fun y4 => rec_l0 (a.1.set (Int.toNat a.2) y2.1.1, wr .i64 (a.2 + 1))) else (some ((a.1, ()), ()))
noncomputable def l0 (K : Nat) (x : Args ps) : A_l0 → Option Res := iterate (fun rec_l0 a => l0.step K x rec_l0 a) K
noncomputable def pre (K : Nat) (N_l0 : A_l0 → Option Res) (x : Args ps) : Option Res := bif decide (0 ≤ (List.length x.1 : Int)) && decide ((List.length x.1 : Int) = (List.length x.1 : Int)) && decide ((List.length x.1 : Int) * (32 : Nat) ≤ sizeK) then (N_l0 (List.replicate (Int.toNat (List.length x.1 : Int)) (0, (0, (0, false))), 0)) else none
noncomputable def f (K : Nat) (x : Args ps) : Option Res := pre K (l0 K x) x
noncomputable def c (K : Nat) : Ctr := ⟨67, ps, rs, true, f K⟩
noncomputable def G (K : Nat) : List Ctr := [laws_toFact.c K]
noncomputable def live_l0 : List (Nat × List Coe) := [(0, [.ro true 171 t2]), (3, [.own false 132 t2]), (4, [.keep])]
noncomputable def L : List (Nat × List (Nat × List Coe)) := [(4, live_l0)]
noncomputable def body : Code := bodyOf Tryz.f67
noncomputable abbrev ev (K : Nat) : Code → St → (Ex → St → Option Res) → Option Res := evK (G K) T L K
noncomputable abbrev fin : Ex → St → Option Res := finK T ps rs true Tryz.f67.results.toList
noncomputable def S_l0 (x : Args ps) (a : A_l0) : St := mkSt [(0, ⟨0, .one, [.ro true 171 t2 x.1]⟩), (3, ⟨0, .one, [.own false 132 t2 a.1]⟩), (4, ⟨0, .one, [.int .i64 a.2]⟩)]
noncomputable def k_l0 (K : Nat) (x : Args ps) : Ex → St → Option Res := kAt (ev K) body [1, 1, 0, 1, 0] fin
noncomputable def N_l0 (K : Nat) (x : Args ps) : A_l0 → Option Res := fun a => evLoop live_l0 (ev K (sub body [1, 1, 0, 1, 0, 0])) K (S_l0 x a) (k_l0 K x)
theorem h_l0 (K : Nat) (x : Args ps) (r_l0 : St → Option Res) (a : A_l0) : ev K (sub body [1, 1, 0, 1, 0, 0]) (S_l0 x a) (kLoop live_l0 r_l0 (k_l0 K x)) = l0.step K x (fun a => r_l0 (S_l0 x a)) a := by kernel_rfl
theorem ok_l0 (K : Nat) (x : Args ps) : N_l0 K x = l0 K x := funext fun a => evLoop_iter live_l0 (ev K (sub body [1, 1, 0, 1, 0, 0])) (k_l0 K x) (S_l0 x) (fun rec a => l0.step K x rec a) (fun r_l0 a => (h_l0 K x r_l0 a)) K a
theorem eqn (K : Nat) (x : Args ps) : evF (G K) T L K Tryz.f67 ps rs true x = f K x := (show evF (G K) T L K Tryz.f67 ps rs true x = pre K (N_l0 K x) x by kernel_rfl).trans (by rw [ok_l0 K x]; rfl)
end laws_toFactS
/-! ### laws.toItem -/
namespace laws_toItem
@[reducible] def ps : List PK := [.rd t12]
@[reducible] def rs : List RK := [.v false t12]
abbrev Res := Ress rs × Outs ps
noncomputable def pre (K : Nat) (x : Args ps) : Option Res := (laws_toFact.f K (x.1.1, ())).bind fun y1 => some (((y1.1.1, x.1.2), ()), ())
noncomputable def f (K : Nat) (x : Args ps) : Option Res := pre K x
noncomputable def c (K : Nat) : Ctr := ⟨166, ps, rs, true, f K⟩
noncomputable def G (K : Nat) : List Ctr := [laws_toFact.c K]
noncomputable def L : List (Nat × List (Nat × List Coe)) := []
noncomputable def body : Code := bodyOf Tryz.f166
noncomputable abbrev ev (K : Nat) : Code → St → (Ex → St → Option Res) → Option Res := evK (G K) T L K
noncomputable abbrev fin : Ex → St → Option Res := finK T ps rs true Tryz.f166.results.toList
theorem eqn (K : Nat) (x : Args ps) : evF (G K) T L K Tryz.f166 ps rs true x = f K x := by kernel_rfl
end laws_toItem
/-! ### laws.toItemS -/
namespace laws_toItemS
@[reducible] def ps : List PK := [.rd (.list 176 t12)]
@[reducible] def rs : List RK := [.v true (.list 173 t12)]
abbrev Res := Ress rs × Outs ps
abbrev A_l0 := List (Ty.den t12) × Int
noncomputable def l0.step (K : Nat) (x : Args ps) (rec_l0 : A_l0 → Option Res) (a : A_l0) : Option Res := bif decide (a.2 < (List.length x.1 : Int)) then ((idx x.1 a.2).bind fun y1 => (laws_toItem.f K (y1, ())).bind fun y2 => (idx a.1 a.2).bind fun _ => (idx a.1 (Int.toNat a.2 : Nat)).bind fun y4 => rec_l0 (a.1.set (Int.toNat a.2) y2.1.1, wr .i64 (a.2 + 1))) else (some ((a.1, ()), ()))
noncomputable def l0 (K : Nat) (x : Args ps) : A_l0 → Option Res := iterate (fun rec_l0 a => l0.step K x rec_l0 a) K
noncomputable def pre (K : Nat) (N_l0 : A_l0 → Option Res) (x : Args ps) : Option Res := bif decide (0 ≤ (List.length x.1 : Int)) && decide ((List.length x.1 : Int) = (List.length x.1 : Int)) && decide ((List.length x.1 : Int) * (40 : Nat) ≤ sizeK) then (N_l0 (List.replicate (Int.toNat (List.length x.1 : Int)) ((0, (0, (0, false))), 0), 0)) else none
noncomputable def f (K : Nat) (x : Args ps) : Option Res := pre K (l0 K x) x
noncomputable def c (K : Nat) : Ctr := ⟨68, ps, rs, true, f K⟩
noncomputable def G (K : Nat) : List Ctr := [laws_toItem.c K]
noncomputable def live_l0 : List (Nat × List Coe) := [(0, [.ro true 176 t12]), (3, [.own false 173 t12]), (4, [.keep])]
noncomputable def L : List (Nat × List (Nat × List Coe)) := [(4, live_l0)]
noncomputable def body : Code := bodyOf Tryz.f68
noncomputable abbrev ev (K : Nat) : Code → St → (Ex → St → Option Res) → Option Res := evK (G K) T L K
noncomputable abbrev fin : Ex → St → Option Res := finK T ps rs true Tryz.f68.results.toList
noncomputable def S_l0 (x : Args ps) (a : A_l0) : St := mkSt [(0, ⟨0, .one, [.ro true 176 t12 x.1]⟩), (3, ⟨0, .one, [.own false 173 t12 a.1]⟩), (4, ⟨0, .one, [.int .i64 a.2]⟩)]
noncomputable def k_l0 (K : Nat) (x : Args ps) : Ex → St → Option Res := kAt (ev K) body [1, 1, 0, 1, 0] fin
noncomputable def N_l0 (K : Nat) (x : Args ps) : A_l0 → Option Res := fun a => evLoop live_l0 (ev K (sub body [1, 1, 0, 1, 0, 0])) K (S_l0 x a) (k_l0 K x)
theorem h_l0 (K : Nat) (x : Args ps) (r_l0 : St → Option Res) (a : A_l0) : ev K (sub body [1, 1, 0, 1, 0, 0]) (S_l0 x a) (kLoop live_l0 r_l0 (k_l0 K x)) = l0.step K x (fun a => r_l0 (S_l0 x a)) a := by kernel_rfl
theorem ok_l0 (K : Nat) (x : Args ps) : N_l0 K x = l0 K x := funext fun a => evLoop_iter live_l0 (ev K (sub body [1, 1, 0, 1, 0, 0])) (k_l0 K x) (S_l0 x) (fun rec a => l0.step K x rec a) (fun r_l0 a => (h_l0 K x r_l0 a)) K a
theorem eqn (K : Nat) (x : Args ps) : evF (G K) T L K Tryz.f68 ps rs true x = f K x := (show evF (G K) T L K Tryz.f68 ps rs true x = pre K (N_l0 K x) x by kernel_rfl).trans (by rw [ok_l0 K x]; rfl)
end laws_toItemS
/-! ### laws.toProbe -/
namespace laws_toProbe
@[reducible] def ps : List PK := [.rd t2]
@[reducible] def rs : List RK := [.v false t2]
abbrev Res := Ress rs × Outs ps
noncomputable def pre (K : Nat) (x : Args ps) : Option Res := some ((x.1, ()), ())
noncomputable def f (K : Nat) (x : Args ps) : Option Res := pre K x
noncomputable def c (K : Nat) : Ctr := ⟨69, ps, rs, true, f K⟩
noncomputable def G (K : Nat) : List Ctr := []
noncomputable def L : List (Nat × List (Nat × List Coe)) := []
noncomputable def body : Code := bodyOf Tryz.f69
noncomputable abbrev ev (K : Nat) : Code → St → (Ex → St → Option Res) → Option Res := evK (G K) T L K
noncomputable abbrev fin : Ex → St → Option Res := finK T ps rs true Tryz.f69.results.toList
theorem eqn (K : Nat) (x : Args ps) : evF (G K) T L K Tryz.f69 ps rs true x = f K x := by kernel_rfl
end laws_toProbe
/-! ### laws.toIntS -/
namespace laws_toIntS
@[reducible] def ps : List PK := [.rd (.list 3 (.int .i64))]
@[reducible] def rs : List RK := [.v true (.list 3 (.int .i64))]
abbrev Res := Ress rs × Outs ps
abbrev A_l0 := List (Ty.den (.int .i64)) × Int
noncomputable def l0.step (K : Nat) (x : Args ps) (rec_l0 : A_l0 → Option Res) (a : A_l0) : Option Res := bif decide (a.2 < (List.length x.1 : Int)) then ((idx x.1 a.2).bind fun y1 => (idx a.1 a.2).bind fun _ => (idx a.1 (Int.toNat a.2 : Nat)).bind fun y3 => rec_l0 (a.1.set (Int.toNat a.2) y1, wr .i64 (a.2 + 1))) else (some ((a.1, ()), ()))
noncomputable def l0 (K : Nat) (x : Args ps) : A_l0 → Option Res := iterate (fun rec_l0 a => l0.step K x rec_l0 a) K
noncomputable def pre (K : Nat) (N_l0 : A_l0 → Option Res) (x : Args ps) : Option Res := bif decide (0 ≤ (List.length x.1 : Int)) && decide ((List.length x.1 : Int) = (List.length x.1 : Int)) && decide ((List.length x.1 : Int) * (8 : Nat) ≤ sizeK) then (N_l0 (List.replicate (Int.toNat (List.length x.1 : Int)) 0, 0)) else none
noncomputable def f (K : Nat) (x : Args ps) : Option Res := pre K (l0 K x) x
noncomputable def c (K : Nat) : Ctr := ⟨109, ps, rs, true, f K⟩
noncomputable def G (K : Nat) : List Ctr := []
noncomputable def live_l0 : List (Nat × List Coe) := [(0, [.ro true 3 (.int .i64)]), (3, [.own false 3 (.int .i64)]), (4, [.keep])]
noncomputable def L : List (Nat × List (Nat × List Coe)) := [(4, live_l0)]
noncomputable def body : Code := bodyOf Tryz.f109
noncomputable abbrev ev (K : Nat) : Code → St → (Ex → St → Option Res) → Option Res := evK (G K) T L K
noncomputable abbrev fin : Ex → St → Option Res := finK T ps rs true Tryz.f109.results.toList
noncomputable def S_l0 (x : Args ps) (a : A_l0) : St := mkSt [(0, ⟨0, .one, [.ro true 3 (.int .i64) x.1]⟩), (3, ⟨0, .one, [.own false 3 (.int .i64) a.1]⟩), (4, ⟨0, .one, [.int .i64 a.2]⟩)]
noncomputable def k_l0 (K : Nat) (x : Args ps) : Ex → St → Option Res := kAt (ev K) body [1, 1, 0, 1, 0] fin
noncomputable def N_l0 (K : Nat) (x : Args ps) : A_l0 → Option Res := fun a => evLoop live_l0 (ev K (sub body [1, 1, 0, 1, 0, 0])) K (S_l0 x a) (k_l0 K x)
theorem h_l0 (K : Nat) (x : Args ps) (r_l0 : St → Option Res) (a : A_l0) : ev K (sub body [1, 1, 0, 1, 0, 0]) (S_l0 x a) (kLoop live_l0 r_l0 (k_l0 K x)) = l0.step K x (fun a => r_l0 (S_l0 x a)) a := by kernel_rfl
theorem ok_l0 (K : Nat) (x : Args ps) : N_l0 K x = l0 K x := funext fun a => evLoop_iter live_l0 (ev K (sub body [1, 1, 0, 1, 0, 0])) (k_l0 K x) (S_l0 x) (fun rec a => l0.step K x rec a) (fun r_l0 a => (h_l0 K x r_l0 a)) K a
theorem eqn (K : Nat) (x : Args ps) : evF (G K) T L K Tryz.f109 ps rs true x = f K x := (show evF (G K) T L K Tryz.f109 ps rs true x = pre K (N_l0 K x) x by kernel_rfl).trans (by rw [ok_l0 K x]; rfl)
end laws_toIntS
/-! ### laws.toDoubt -/
namespace laws_toDoubt
@[reducible] def ps : List PK := [.rd t8]
@[reducible] def rs : List RK := [.v true t8]
abbrev Res := Ress rs × Outs ps
noncomputable def pre (K : Nat) (x : Args ps) : Option Res := (laws_toIntS.f K (x.1.2.2.2, ())).bind fun y1 => some (((x.1.1, (x.1.2.1, (x.1.2.2.1, y1.1.1))), ()), ())
noncomputable def f (K : Nat) (x : Args ps) : Option Res := pre K x
noncomputable def c (K : Nat) : Ctr := ⟨167, ps, rs, true, f K⟩
noncomputable def G (K : Nat) : List Ctr := [laws_toIntS.c K]
noncomputable def L : List (Nat × List (Nat × List Coe)) := []
noncomputable def body : Code := bodyOf Tryz.f167
noncomputable abbrev ev (K : Nat) : Code → St → (Ex → St → Option Res) → Option Res := evK (G K) T L K
noncomputable abbrev fin : Ex → St → Option Res := finK T ps rs true Tryz.f167.results.toList
theorem eqn (K : Nat) (x : Args ps) : evF (G K) T L K Tryz.f167 ps rs true x = f K x := by kernel_rfl
end laws_toDoubt
/-! ### laws.toDoubtS -/
namespace laws_toDoubtS
@[reducible] def ps : List PK := [.rd (.list 162 t8)]
@[reducible] def rs : List RK := [.v true (.list 177 t8)]
abbrev Res := Ress rs × Outs ps
abbrev A_l0 := List (Ty.den t8) × Int
noncomputable def l0.step (K : Nat) (x : Args ps) (rec_l0 : A_l0 → Option Res) (a : A_l0) : Option Res := bif decide (a.2 < (List.length x.1 : Int)) then ((idx x.1 a.2).bind fun y1 => (laws_toDoubt.f K (y1, ())).bind fun y2 => (idx a.1 a.2).bind fun _ => (idx a.1 (Int.toNat a.2 : Nat)).bind fun y4 => rec_l0 (a.1.set (Int.toNat a.2) y2.1.1, wr .i64 (a.2 + 1))) else (some ((a.1, ()), ()))
noncomputable def l0 (K : Nat) (x : Args ps) : A_l0 → Option Res := iterate (fun rec_l0 a => l0.step K x rec_l0 a) K
noncomputable def pre (K : Nat) (N_l0 : A_l0 → Option Res) (x : Args ps) : Option Res := bif decide (0 ≤ (List.length x.1 : Int)) && decide ((List.length x.1 : Int) = (List.length x.1 : Int)) && decide ((List.length x.1 : Int) * (48 : Nat) ≤ sizeK) then (N_l0 (List.replicate (Int.toNat (List.length x.1 : Int)) (0, (0, (0, []))), 0)) else none
noncomputable def f (K : Nat) (x : Args ps) : Option Res := pre K (l0 K x) x
noncomputable def c (K : Nat) : Ctr := ⟨70, ps, rs, true, f K⟩
noncomputable def G (K : Nat) : List Ctr := [laws_toDoubt.c K]
noncomputable def live_l0 : List (Nat × List Coe) := [(0, [.ro true 162 t8]), (3, [.own false 177 t8]), (4, [.keep])]
noncomputable def L : List (Nat × List (Nat × List Coe)) := [(4, live_l0)]
noncomputable def body : Code := bodyOf Tryz.f70
noncomputable abbrev ev (K : Nat) : Code → St → (Ex → St → Option Res) → Option Res := evK (G K) T L K
noncomputable abbrev fin : Ex → St → Option Res := finK T ps rs true Tryz.f70.results.toList
noncomputable def S_l0 (x : Args ps) (a : A_l0) : St := mkSt [(0, ⟨0, .one, [.ro true 162 t8 x.1]⟩), (3, ⟨0, .one, [.own false 177 t8 a.1]⟩), (4, ⟨0, .one, [.int .i64 a.2]⟩)]
noncomputable def k_l0 (K : Nat) (x : Args ps) : Ex → St → Option Res := kAt (ev K) body [1, 1, 0, 1, 0] fin
noncomputable def N_l0 (K : Nat) (x : Args ps) : A_l0 → Option Res := fun a => evLoop live_l0 (ev K (sub body [1, 1, 0, 1, 0, 0])) K (S_l0 x a) (k_l0 K x)
theorem h_l0 (K : Nat) (x : Args ps) (r_l0 : St → Option Res) (a : A_l0) : ev K (sub body [1, 1, 0, 1, 0, 0]) (S_l0 x a) (kLoop live_l0 r_l0 (k_l0 K x)) = l0.step K x (fun a => r_l0 (S_l0 x a)) a := by kernel_rfl
theorem ok_l0 (K : Nat) (x : Args ps) : N_l0 K x = l0 K x := funext fun a => evLoop_iter live_l0 (ev K (sub body [1, 1, 0, 1, 0, 0])) (k_l0 K x) (S_l0 x) (fun rec a => l0.step K x rec a) (fun r_l0 a => (h_l0 K x r_l0 a)) K a
theorem eqn (K : Nat) (x : Args ps) : evF (G K) T L K Tryz.f70 ps rs true x = f K x := (show evF (G K) T L K Tryz.f70 ps rs true x = pre K (N_l0 K x) x by kernel_rfl).trans (by rw [ok_l0 K x]; rfl)
end laws_toDoubtS
/-! ### laws.toCoord -/
namespace laws_toCoord
@[reducible] def ps : List PK := [.rd t5]
@[reducible] def rs : List RK := [.v false t5]
abbrev Res := Ress rs × Outs ps
noncomputable def pre (K : Nat) (x : Args ps) : Option Res := some ((x.1, ()), ())
noncomputable def f (K : Nat) (x : Args ps) : Option Res := pre K x
noncomputable def c (K : Nat) : Ctr := ⟨71, ps, rs, true, f K⟩
noncomputable def G (K : Nat) : List Ctr := []
noncomputable def L : List (Nat × List (Nat × List Coe)) := []
noncomputable def body : Code := bodyOf Tryz.f71
noncomputable abbrev ev (K : Nat) : Code → St → (Ex → St → Option Res) → Option Res := evK (G K) T L K
noncomputable abbrev fin : Ex → St → Option Res := finK T ps rs true Tryz.f71.results.toList
theorem eqn (K : Nat) (x : Args ps) : evF (G K) T L K Tryz.f71 ps rs true x = f K x := by kernel_rfl
end laws_toCoord
/-! ### laws.toPlace -/
namespace laws_toPlace
@[reducible] def ps : List PK := [.rd t10]
@[reducible] def rs : List RK := [.v true t10]
abbrev Res := Ress rs × Outs ps
noncomputable def pre (K : Nat) (x : Args ps) : Option Res := (laws_toCoord.f K (x.1.2.1, ())).bind fun y1 => (laws_toIntS.f K (x.1.2.2, ())).bind fun y2 => some (((x.1.1, (y1.1.1, y2.1.1)), ()), ())
noncomputable def f (K : Nat) (x : Args ps) : Option Res := pre K x
noncomputable def c (K : Nat) : Ctr := ⟨168, ps, rs, true, f K⟩
noncomputable def G (K : Nat) : List Ctr := [laws_toCoord.c K, laws_toIntS.c K]
noncomputable def L : List (Nat × List (Nat × List Coe)) := []
noncomputable def body : Code := bodyOf Tryz.f168
noncomputable abbrev ev (K : Nat) : Code → St → (Ex → St → Option Res) → Option Res := evK (G K) T L K
noncomputable abbrev fin : Ex → St → Option Res := finK T ps rs true Tryz.f168.results.toList
theorem eqn (K : Nat) (x : Args ps) : evF (G K) T L K Tryz.f168 ps rs true x = f K x := by kernel_rfl
end laws_toPlace
/-! ### laws.toPlaceS -/
namespace laws_toPlaceS
@[reducible] def ps : List PK := [.rd (.list 165 t10)]
@[reducible] def rs : List RK := [.v true (.list 94 t10)]
abbrev Res := Ress rs × Outs ps
abbrev A_l0 := List (Ty.den t10) × Int
noncomputable def l0.step (K : Nat) (x : Args ps) (rec_l0 : A_l0 → Option Res) (a : A_l0) : Option Res := bif decide (a.2 < (List.length x.1 : Int)) then ((idx x.1 a.2).bind fun y1 => (laws_toPlace.f K (y1, ())).bind fun y2 => (idx a.1 a.2).bind fun _ => (idx a.1 (Int.toNat a.2 : Nat)).bind fun y4 => rec_l0 (a.1.set (Int.toNat a.2) y2.1.1, wr .i64 (a.2 + 1))) else (some ((a.1, ()), ()))
noncomputable def l0 (K : Nat) (x : Args ps) : A_l0 → Option Res := iterate (fun rec_l0 a => l0.step K x rec_l0 a) K
noncomputable def pre (K : Nat) (N_l0 : A_l0 → Option Res) (x : Args ps) : Option Res := bif decide (0 ≤ (List.length x.1 : Int)) && decide ((List.length x.1 : Int) = (List.length x.1 : Int)) && decide ((List.length x.1 : Int) * (64 : Nat) ≤ sizeK) then (N_l0 (List.replicate (Int.toNat (List.length x.1 : Int)) (0, ((0, (0, (0, 0))), [])), 0)) else none
noncomputable def f (K : Nat) (x : Args ps) : Option Res := pre K (l0 K x) x
noncomputable def c (K : Nat) : Ctr := ⟨72, ps, rs, true, f K⟩
noncomputable def G (K : Nat) : List Ctr := [laws_toPlace.c K]
noncomputable def live_l0 : List (Nat × List Coe) := [(0, [.ro true 165 t10]), (3, [.own false 94 t10]), (4, [.keep])]
noncomputable def L : List (Nat × List (Nat × List Coe)) := [(4, live_l0)]
noncomputable def body : Code := bodyOf Tryz.f72
noncomputable abbrev ev (K : Nat) : Code → St → (Ex → St → Option Res) → Option Res := evK (G K) T L K
noncomputable abbrev fin : Ex → St → Option Res := finK T ps rs true Tryz.f72.results.toList
noncomputable def S_l0 (x : Args ps) (a : A_l0) : St := mkSt [(0, ⟨0, .one, [.ro true 165 t10 x.1]⟩), (3, ⟨0, .one, [.own false 94 t10 a.1]⟩), (4, ⟨0, .one, [.int .i64 a.2]⟩)]
noncomputable def k_l0 (K : Nat) (x : Args ps) : Ex → St → Option Res := kAt (ev K) body [1, 1, 0, 1, 0] fin
noncomputable def N_l0 (K : Nat) (x : Args ps) : A_l0 → Option Res := fun a => evLoop live_l0 (ev K (sub body [1, 1, 0, 1, 0, 0])) K (S_l0 x a) (k_l0 K x)
theorem h_l0 (K : Nat) (x : Args ps) (r_l0 : St → Option Res) (a : A_l0) : ev K (sub body [1, 1, 0, 1, 0, 0]) (S_l0 x a) (kLoop live_l0 r_l0 (k_l0 K x)) = l0.step K x (fun a => r_l0 (S_l0 x a)) a := by kernel_rfl
theorem ok_l0 (K : Nat) (x : Args ps) : N_l0 K x = l0 K x := funext fun a => evLoop_iter live_l0 (ev K (sub body [1, 1, 0, 1, 0, 0])) (k_l0 K x) (S_l0 x) (fun rec a => l0.step K x rec a) (fun r_l0 a => (h_l0 K x r_l0 a)) K a
theorem eqn (K : Nat) (x : Args ps) : evF (G K) T L K Tryz.f72 ps rs true x = f K x := (show evF (G K) T L K Tryz.f72 ps rs true x = pre K (N_l0 K x) x by kernel_rfl).trans (by rw [ok_l0 K x]; rfl)
end laws_toPlaceS
/-! ### laws.toForeign -/
namespace laws_toForeign
@[reducible] def ps : List PK := [.rd t20]
@[reducible] def rs : List RK := [.v true t11]
abbrev Res := Ress rs × Outs ps
noncomputable def pre (K : Nat) (x : Args ps) : Option Res := (laws_toFactS.f K (x.1.2, ())).bind fun y1 => some (((x.1.1, y1.1.1), ()), ())
noncomputable def f (K : Nat) (x : Args ps) : Option Res := pre K x
noncomputable def c (K : Nat) : Ctr := ⟨169, ps, rs, true, f K⟩
noncomputable def G (K : Nat) : List Ctr := [laws_toFactS.c K]
noncomputable def L : List (Nat × List (Nat × List Coe)) := []
noncomputable def body : Code := bodyOf Tryz.f169
noncomputable abbrev ev (K : Nat) : Code → St → (Ex → St → Option Res) → Option Res := evK (G K) T L K
noncomputable abbrev fin : Ex → St → Option Res := finK T ps rs true Tryz.f169.results.toList
theorem eqn (K : Nat) (x : Args ps) : evF (G K) T L K Tryz.f169 ps rs true x = f K x := by kernel_rfl
end laws_toForeign
/-! ### laws.toForeignS -/
namespace laws_toForeignS
@[reducible] def ps : List PK := [.rd (.list 168 t20)]
@[reducible] def rs : List RK := [.v true (.list 119 t11)]
abbrev Res := Ress rs × Outs ps
abbrev A_l0 := List (Ty.den t11) × Int
noncomputable def l0.step (K : Nat) (x : Args ps) (rec_l0 : A_l0 → Option Res) (a : A_l0) : Option Res := bif decide (a.2 < (List.length x.1 : Int)) then ((idx x.1 a.2).bind fun y1 => (laws_toForeign.f K (y1, ())).bind fun y2 => (idx a.1 a.2).bind fun _ => (idx a.1 (Int.toNat a.2 : Nat)).bind fun y4 => rec_l0 (a.1.set (Int.toNat a.2) y2.1.1, wr .i64 (a.2 + 1))) else (some ((a.1, ()), ()))
noncomputable def l0 (K : Nat) (x : Args ps) : A_l0 → Option Res := iterate (fun rec_l0 a => l0.step K x rec_l0 a) K
noncomputable def pre (K : Nat) (N_l0 : A_l0 → Option Res) (x : Args ps) : Option Res := bif decide (0 ≤ (List.length x.1 : Int)) && decide ((List.length x.1 : Int) = (List.length x.1 : Int)) && decide ((List.length x.1 : Int) * (32 : Nat) ≤ sizeK) then (N_l0 (List.replicate (Int.toNat (List.length x.1 : Int)) (0, []), 0)) else none
noncomputable def f (K : Nat) (x : Args ps) : Option Res := pre K (l0 K x) x
noncomputable def c (K : Nat) : Ctr := ⟨73, ps, rs, true, f K⟩
noncomputable def G (K : Nat) : List Ctr := [laws_toForeign.c K]
noncomputable def live_l0 : List (Nat × List Coe) := [(0, [.ro true 168 t20]), (3, [.own false 119 t11]), (4, [.keep])]
noncomputable def L : List (Nat × List (Nat × List Coe)) := [(4, live_l0)]
noncomputable def body : Code := bodyOf Tryz.f73
noncomputable abbrev ev (K : Nat) : Code → St → (Ex → St → Option Res) → Option Res := evK (G K) T L K
noncomputable abbrev fin : Ex → St → Option Res := finK T ps rs true Tryz.f73.results.toList
noncomputable def S_l0 (x : Args ps) (a : A_l0) : St := mkSt [(0, ⟨0, .one, [.ro true 168 t20 x.1]⟩), (3, ⟨0, .one, [.own false 119 t11 a.1]⟩), (4, ⟨0, .one, [.int .i64 a.2]⟩)]
noncomputable def k_l0 (K : Nat) (x : Args ps) : Ex → St → Option Res := kAt (ev K) body [1, 1, 0, 1, 0] fin
noncomputable def N_l0 (K : Nat) (x : Args ps) : A_l0 → Option Res := fun a => evLoop live_l0 (ev K (sub body [1, 1, 0, 1, 0, 0])) K (S_l0 x a) (k_l0 K x)
theorem h_l0 (K : Nat) (x : Args ps) (r_l0 : St → Option Res) (a : A_l0) : ev K (sub body [1, 1, 0, 1, 0, 0]) (S_l0 x a) (kLoop live_l0 r_l0 (k_l0 K x)) = l0.step K x (fun a => r_l0 (S_l0 x a)) a := by kernel_rfl
theorem ok_l0 (K : Nat) (x : Args ps) : N_l0 K x = l0 K x := funext fun a => evLoop_iter live_l0 (ev K (sub body [1, 1, 0, 1, 0, 0])) (k_l0 K x) (S_l0 x) (fun rec a => l0.step K x rec a) (fun r_l0 a => (h_l0 K x r_l0 a)) K a
theorem eqn (K : Nat) (x : Args ps) : evF (G K) T L K Tryz.f73 ps rs true x = f K x := (show evF (G K) T L K Tryz.f73 ps rs true x = pre K (N_l0 K x) x by kernel_rfl).trans (by rw [ok_l0 K x]; rfl)
end laws_toForeignS
/-! ### laws.toNode -/
namespace laws_toNode
@[reducible] def ps : List PK := [.rd t34]
@[reducible] def rs : List RK := [.v true t48]
abbrev Res := Ress rs × Outs ps
noncomputable def pre (K : Nat) (x : Args ps) : Option Res := (laws_toFactS.f K (x.1.2.2.2.2.2.2.2.2.1, ())).bind fun y1 => (laws_toItemS.f K (x.1.2.2.2.2.2.2.2.2.2.1, ())).bind fun y2 => (laws_toProbe.f K (x.1.2.2.2.2.2.2.2.2.2.2.1, ())).bind fun y3 => (laws_toDoubtS.f K (x.1.2.2.2.2.2.2.2.2.2.2.2.1, ())).bind fun y4 => (laws_toCoord.f K (x.1.2.2.2.2.2.2.2.2.2.2.2.2.1, ())).bind fun y5 => (laws_toPlaceS.f K (x.1.2.2.2.2.2.2.2.2.2.2.2.2.2.1, ())).bind fun y6 => (laws_toForeignS.f K (x.1.2.2.2.2.2.2.2.2.2.2.2.2.2.2, ())).bind fun y7 => some (((x.1.1, (x.1.2.1, (x.1.2.2.1, (x.1.2.2.2.1, (x.1.2.2.2.2.1, (x.1.2.2.2.2.2.1, (x.1.2.2.2.2.2.2.1, (x.1.2.2.2.2.2.2.2.1, (y1.1.1, (y2.1.1, (y3.1.1, (y4.1.1, (y5.1.1, (y6.1.1, y7.1.1)))))))))))))), ()), ())
noncomputable def f (K : Nat) (x : Args ps) : Option Res := pre K x
noncomputable def c (K : Nat) : Ctr := ⟨17, ps, rs, true, f K⟩
noncomputable def G (K : Nat) : List Ctr := [laws_toFactS.c K, laws_toItemS.c K, laws_toProbe.c K, laws_toDoubtS.c K, laws_toCoord.c K, laws_toPlaceS.c K, laws_toForeignS.c K]
noncomputable def L : List (Nat × List (Nat × List Coe)) := []
noncomputable def body : Code := bodyOf Tryz.f17
noncomputable abbrev ev (K : Nat) : Code → St → (Ex → St → Option Res) → Option Res := evK (G K) T L K
noncomputable abbrev fin : Ex → St → Option Res := finK T ps rs true Tryz.f17.results.toList
theorem eqn (K : Nat) (x : Args ps) : evF (G K) T L K Tryz.f17 ps rs true x = f K x := by kernel_rfl
end laws_toNode
/-! ### spec.l1In -/
namespace spec_l1In
@[reducible] def ps : List PK := [.rd (.int .i64), .rd (.int .i64), .rd (.int .i64)]
@[reducible] def rs : List RK := [.v false .bool]
abbrev Res := Ress rs × Outs ps
noncomputable def pre (K : Nat) (x : Args ps) : Option Res := bif decide (x.1 ≥ x.2.1) then (some ((decide (x.1 ≤ x.2.2.1), ()), ())) else (some ((false, ()), ()))
noncomputable def f (K : Nat) (x : Args ps) : Option Res := pre K x
noncomputable def c (K : Nat) : Ctr := ⟨104, ps, rs, true, f K⟩
noncomputable def G (K : Nat) : List Ctr := []
noncomputable def L : List (Nat × List (Nat × List Coe)) := []
noncomputable def body : Code := bodyOf Tryz.f104
noncomputable abbrev ev (K : Nat) : Code → St → (Ex → St → Option Res) → Option Res := evK (G K) T L K
noncomputable abbrev fin : Ex → St → Option Res := finK T ps rs true Tryz.f104.results.toList
theorem eqn (K : Nat) (x : Args ps) : evF (G K) T L K Tryz.f104 ps rs true x = f K x := by kernel_rfl
end spec_l1In
/-! ### spec.FactOk -/
namespace spec_FactOk
@[reducible] def ps : List PK := [.rd t2]
@[reducible] def rs : List RK := [.v false .bool]
abbrev Res := Ress rs × Outs ps
noncomputable def pre (K : Nat) (x : Args ps) : Option Res := (spec_l1In.f K (x.1.1, 0, 7, ())).bind fun y1 => bif y1.1.1 then ((spec_l1In.f K (x.1.2.1, 0, 999, ())).bind fun y2 => bif y2.1.1 then ((spec_l1In.f K (x.1.2.2.1, 1, 4, ())).bind fun y3 => some ((y3.1.1, ()), ())) else (some ((false, ()), ()))) else (some ((false, ()), ()))
noncomputable def f (K : Nat) (x : Args ps) : Option Res := pre K x
noncomputable def c (K : Nat) : Ctr := ⟨105, ps, rs, true, f K⟩
noncomputable def G (K : Nat) : List Ctr := [spec_l1In.c K]
noncomputable def L : List (Nat × List (Nat × List Coe)) := []
noncomputable def body : Code := bodyOf Tryz.f105
noncomputable abbrev ev (K : Nat) : Code → St → (Ex → St → Option Res) → Option Res := evK (G K) T L K
noncomputable abbrev fin : Ex → St → Option Res := finK T ps rs true Tryz.f105.results.toList
theorem eqn (K : Nat) (x : Args ps) : evF (G K) T L K Tryz.f105 ps rs true x = f K x := by kernel_rfl
end spec_FactOk
/-! ### spec.TableOk -/
namespace spec_TableOk
@[reducible] def ps : List PK := [.rd (.list 132 t2)]
@[reducible] def rs : List RK := [.v false .bool]
abbrev Res := Ress rs × Outs ps
abbrev A_l0 := Int
noncomputable def l0.step (K : Nat) (x : Args ps) (rec_l0 : A_l0 → Option Res) (a : A_l0) : Option Res := bif decide (a < (List.length x.1 : Int)) then ((idx x.1 a).bind fun y1 => (spec_FactOk.f K (y1, ())).bind fun y2 => bif !y2.1.1 then (some ((false, ()), ())) else (bif decide (a > 0) then ((idx x.1 (wr .i64 (a - 1))).bind fun y3 => (idx x.1 a).bind fun y4 => bif decide (y3.1 ≥ y4.1) then (some ((false, ()), ())) else (rec_l0 (wr .i64 (a + 1)))) else (rec_l0 (wr .i64 (a + 1))))) else (some ((true, ()), ()))
noncomputable def l0 (K : Nat) (x : Args ps) : A_l0 → Option Res := iterate (fun rec_l0 a => l0.step K x rec_l0 a) K
noncomputable def pre (K : Nat) (N_l0 : A_l0 → Option Res) (x : Args ps) : Option Res := N_l0 0
noncomputable def f (K : Nat) (x : Args ps) : Option Res := pre K (l0 K x) x
noncomputable def c (K : Nat) : Ctr := ⟨155, ps, rs, true, f K⟩
noncomputable def G (K : Nat) : List Ctr := [spec_FactOk.c K]
noncomputable def live_l0 : List (Nat × List Coe) := [(0, [.ro true 132 t2]), (3, [.keep])]
noncomputable def L : List (Nat × List (Nat × List Coe)) := [(3, live_l0)]
noncomputable def body : Code := bodyOf Tryz.f155
noncomputable abbrev ev (K : Nat) : Code → St → (Ex → St → Option Res) → Option Res := evK (G K) T L K
noncomputable abbrev fin : Ex → St → Option Res := finK T ps rs true Tryz.f155.results.toList
noncomputable def S_l0 (x : Args ps) (a : A_l0) : St := mkSt [(0, ⟨0, .one, [.ro true 132 t2 x.1]⟩), (3, ⟨0, .one, [.int .i64 a]⟩)]
noncomputable def k_l0 (K : Nat) (x : Args ps) : Ex → St → Option Res := kAt (ev K) body [1, 0, 1, 0] fin
noncomputable def N_l0 (K : Nat) (x : Args ps) : A_l0 → Option Res := fun a => evLoop live_l0 (ev K (sub body [1, 0, 1, 0, 0])) K (S_l0 x a) (k_l0 K x)
theorem h_l0 (K : Nat) (x : Args ps) (r_l0 : St → Option Res) (a : A_l0) : ev K (sub body [1, 0, 1, 0, 0]) (S_l0 x a) (kLoop live_l0 r_l0 (k_l0 K x)) = l0.step K x (fun a => r_l0 (S_l0 x a)) a := by kernel_rfl
theorem ok_l0 (K : Nat) (x : Args ps) : N_l0 K x = l0 K x := funext fun a => evLoop_iter live_l0 (ev K (sub body [1, 0, 1, 0, 0])) (k_l0 K x) (S_l0 x) (fun rec a => l0.step K x rec a) (fun r_l0 a => (h_l0 K x r_l0 a)) K a
theorem eqn (K : Nat) (x : Args ps) : evF (G K) T L K Tryz.f155 ps rs true x = f K x := (show evF (G K) T L K Tryz.f155 ps rs true x = pre K (N_l0 K x) x by kernel_rfl).trans (by rw [ok_l0 K x]; rfl)
end spec_TableOk
/-! ### spec.l21Site -/
namespace spec_l21Site
@[reducible] def ps : List PK := [.rd (.int .i64)]
@[reducible] def rs : List RK := [.v false (.int .i64)]
abbrev Res := Ress rs × Outs ps
noncomputable def pre (K : Nat) (x : Args ps) : Option Res := some ((wr .i64 (Int.tdiv x.1 4), ()), ())
noncomputable def f (K : Nat) (x : Args ps) : Option Res := pre K x
noncomputable def c (K : Nat) : Ctr := ⟨92, ps, rs, true, f K⟩
noncomputable def G (K : Nat) : List Ctr := []
noncomputable def L : List (Nat × List (Nat × List Coe)) := []
noncomputable def body : Code := bodyOf Tryz.f92
noncomputable abbrev ev (K : Nat) : Code → St → (Ex → St → Option Res) → Option Res := evK (G K) T L K
noncomputable abbrev fin : Ex → St → Option Res := finK T ps rs true Tryz.f92.results.toList
theorem eqn (K : Nat) (x : Args ps) : evF (G K) T L K Tryz.f92 ps rs true x = f K x := by kernel_rfl
end spec_l21Site
/-! ### spec.l4Site -/
namespace spec_l4Site
@[reducible] def ps : List PK := [.rd (.list 132 t2), .rd (.int .i64)]
@[reducible] def rs : List RK := [.v false .bool]
abbrev Res := Ress rs × Outs ps
abbrev A_l0 := Int
noncomputable def l0.step (K : Nat) (x : Args ps) (rec_l0 : A_l0 → Option Res) (a : A_l0) : Option Res := bif decide (a < (List.length x.1 : Int)) then ((idx x.1 a).bind fun y1 => bif (wr .i64 (Int.tdiv y1.1 4)) != x.2.1 then (some ((false, ()), ())) else (rec_l0 (wr .i64 (a + 1)))) else (some ((true, ()), ()))
noncomputable def l0 (K : Nat) (x : Args ps) : A_l0 → Option Res := iterate (fun rec_l0 a => l0.step K x rec_l0 a) K
noncomputable def pre (K : Nat) (N_l0 : A_l0 → Option Res) (x : Args ps) : Option Res := N_l0 0
noncomputable def f (K : Nat) (x : Args ps) : Option Res := pre K (l0 K x) x
noncomputable def c (K : Nat) : Ctr := ⟨156, ps, rs, true, f K⟩
noncomputable def G (K : Nat) : List Ctr := []
noncomputable def live_l0 : List (Nat × List Coe) := [(0, [.ro true 132 t2]), (1, [.keep]), (5, [.keep])]
noncomputable def L : List (Nat × List (Nat × List Coe)) := [(3, live_l0)]
noncomputable def body : Code := bodyOf Tryz.f156
noncomputable abbrev ev (K : Nat) : Code → St → (Ex → St → Option Res) → Option Res := evK (G K) T L K
noncomputable abbrev fin : Ex → St → Option Res := finK T ps rs true Tryz.f156.results.toList
noncomputable def S_l0 (x : Args ps) (a : A_l0) : St := mkSt [(0, ⟨0, .one, [.ro true 132 t2 x.1]⟩), (1, ⟨0, .one, [.int .i64 x.2.1]⟩), (5, ⟨0, .one, [.int .i64 a]⟩)]
noncomputable def k_l0 (K : Nat) (x : Args ps) : Ex → St → Option Res := kAt (ev K) body [1, 0, 1, 0] fin
noncomputable def N_l0 (K : Nat) (x : Args ps) : A_l0 → Option Res := fun a => evLoop live_l0 (ev K (sub body [1, 0, 1, 0, 0])) K (S_l0 x a) (k_l0 K x)
theorem h_l0 (K : Nat) (x : Args ps) (r_l0 : St → Option Res) (a : A_l0) : ev K (sub body [1, 0, 1, 0, 0]) (S_l0 x a) (kLoop live_l0 r_l0 (k_l0 K x)) = l0.step K x (fun a => r_l0 (S_l0 x a)) a := by kernel_rfl
theorem ok_l0 (K : Nat) (x : Args ps) : N_l0 K x = l0 K x := funext fun a => evLoop_iter live_l0 (ev K (sub body [1, 0, 1, 0, 0])) (k_l0 K x) (S_l0 x) (fun rec a => l0.step K x rec a) (fun r_l0 a => (h_l0 K x r_l0 a)) K a
theorem eqn (K : Nat) (x : Args ps) : evF (G K) T L K Tryz.f156 ps rs true x = f K x := (show evF (G K) T L K Tryz.f156 ps rs true x = pre K (N_l0 K x) x by kernel_rfl).trans (by rw [ok_l0 K x]; rfl)
end spec_l4Site
/-! ### spec.l3Find -/
namespace spec_l3Find
@[reducible] def ps : List PK := [.rd (.list 132 t2), .rd (.int .i64)]
@[reducible] def rs : List RK := [.v false (.int .i64)]
abbrev Res := Ress rs × Outs ps
abbrev A_l0 := Int
noncomputable def l0.step (K : Nat) (x : Args ps) (rec_l0 : A_l0 → Option Res) (a : A_l0) : Option Res := bif decide (a < (List.length x.1 : Int)) then ((idx x.1 a).bind fun y1 => bif y1.1 == x.2.1 then (some ((a, ()), ())) else (rec_l0 (wr .i64 (a + 1)))) else (some (((-1), ()), ()))
noncomputable def l0 (K : Nat) (x : Args ps) : A_l0 → Option Res := iterate (fun rec_l0 a => l0.step K x rec_l0 a) K
noncomputable def pre (K : Nat) (N_l0 : A_l0 → Option Res) (x : Args ps) : Option Res := N_l0 0
noncomputable def f (K : Nat) (x : Args ps) : Option Res := pre K (l0 K x) x
noncomputable def c (K : Nat) : Ctr := ⟨119, ps, rs, true, f K⟩
noncomputable def G (K : Nat) : List Ctr := []
noncomputable def live_l0 : List (Nat × List Coe) := [(0, [.ro true 132 t2]), (1, [.keep]), (5, [.keep])]
noncomputable def L : List (Nat × List (Nat × List Coe)) := [(3, live_l0)]
noncomputable def body : Code := bodyOf Tryz.f119
noncomputable abbrev ev (K : Nat) : Code → St → (Ex → St → Option Res) → Option Res := evK (G K) T L K
noncomputable abbrev fin : Ex → St → Option Res := finK T ps rs true Tryz.f119.results.toList
noncomputable def S_l0 (x : Args ps) (a : A_l0) : St := mkSt [(0, ⟨0, .one, [.ro true 132 t2 x.1]⟩), (1, ⟨0, .one, [.int .i64 x.2.1]⟩), (5, ⟨0, .one, [.int .i64 a]⟩)]
noncomputable def k_l0 (K : Nat) (x : Args ps) : Ex → St → Option Res := kAt (ev K) body [1, 0, 1, 0] fin
noncomputable def N_l0 (K : Nat) (x : Args ps) : A_l0 → Option Res := fun a => evLoop live_l0 (ev K (sub body [1, 0, 1, 0, 0])) K (S_l0 x a) (k_l0 K x)
theorem h_l0 (K : Nat) (x : Args ps) (r_l0 : St → Option Res) (a : A_l0) : ev K (sub body [1, 0, 1, 0, 0]) (S_l0 x a) (kLoop live_l0 r_l0 (k_l0 K x)) = l0.step K x (fun a => r_l0 (S_l0 x a)) a := by kernel_rfl
theorem ok_l0 (K : Nat) (x : Args ps) : N_l0 K x = l0 K x := funext fun a => evLoop_iter live_l0 (ev K (sub body [1, 0, 1, 0, 0])) (k_l0 K x) (S_l0 x) (fun rec a => l0.step K x rec a) (fun r_l0 a => (h_l0 K x r_l0 a)) K a
theorem eqn (K : Nat) (x : Args ps) : evF (G K) T L K Tryz.f119 ps rs true x = f K x := (show evF (G K) T L K Tryz.f119 ps rs true x = pre K (N_l0 K x) x by kernel_rfl).trans (by rw [ok_l0 K x]; rfl)
end spec_l3Find
/-! ### spec.l21Self -/
namespace spec_l21Self
@[reducible] def ps : List PK := [.rd t48]
@[reducible] def rs : List RK := [.v false .bool]
abbrev Res := Ress rs × Outs ps
noncomputable def pre (K : Nat) (x : Args ps) : Option Res := (spec_l3Find.f K (x.1.2.2.2.2.2.2.2.2.1, x.1.1, ())).bind fun y1 => bif decide (y1.1.1 < 0) then (some ((false, ()), ())) else ((idx x.1.2.2.2.2.2.2.2.2.1 y1.1.1).bind fun y2 => bif x.1.2.2.1 then (bif y2.2.1 == x.1.2.2.2.2.1 then (bif y2.2.2.1 == 4 then (some ((y2.2.2.2 == x.1.2.2.2.1, ()), ())) else (some ((false, ()), ()))) else (some ((false, ()), ()))) else (bif y2.2.1 == x.1.2.2.2.2.1 then (bif y2.2.2.1 == 1 then (some ((y2.2.2.2 == x.1.2.2.2.1, ()), ())) else (some ((false, ()), ()))) else (some ((false, ()), ()))))
noncomputable def f (K : Nat) (x : Args ps) : Option Res := pre K x
noncomputable def c (K : Nat) : Ctr := ⟨157, ps, rs, true, f K⟩
noncomputable def G (K : Nat) : List Ctr := [spec_l3Find.c K]
noncomputable def L : List (Nat × List (Nat × List Coe)) := []
noncomputable def body : Code := bodyOf Tryz.f157
noncomputable abbrev ev (K : Nat) : Code → St → (Ex → St → Option Res) → Option Res := evK (G K) T L K
noncomputable abbrev fin : Ex → St → Option Res := finK T ps rs true Tryz.f157.results.toList
theorem eqn (K : Nat) (x : Args ps) : evF (G K) T L K Tryz.f157 ps rs true x = f K x := by kernel_rfl
end spec_l21Self
/-! ### spec.CastOk -/
namespace spec_CastOk
@[reducible] def ps : List PK := [.rd (.list 173 t12)]
@[reducible] def rs : List RK := [.v false .bool]
abbrev Res := Ress rs × Outs ps
abbrev A_l0 := Int
noncomputable def l0.step (K : Nat) (x : Args ps) (rec_l0 : A_l0 → Option Res) (a : A_l0) : Option Res := bif decide (a < (List.length x.1 : Int)) then ((idx x.1 a).bind fun y1 => (spec_FactOk.f K (y1.1, ())).bind fun y2 => bif !y2.1.1 then (some ((false, ()), ())) else ((idx x.1 a).bind fun y3 => (spec_l1In.f K (y3.2, 1, 4, ())).bind fun y4 => bif !y4.1.1 then (some ((false, ()), ())) else (bif decide (a > 0) then ((idx x.1 (wr .i64 (a - 1))).bind fun y5 => (idx x.1 a).bind fun y6 => bif decide (y5.1.1 ≥ y6.1.1) then (some ((false, ()), ())) else (rec_l0 (wr .i64 (a + 1)))) else (rec_l0 (wr .i64 (a + 1)))))) else (some ((true, ()), ()))
noncomputable def l0 (K : Nat) (x : Args ps) : A_l0 → Option Res := iterate (fun rec_l0 a => l0.step K x rec_l0 a) K
noncomputable def pre (K : Nat) (N_l0 : A_l0 → Option Res) (x : Args ps) : Option Res := N_l0 0
noncomputable def f (K : Nat) (x : Args ps) : Option Res := pre K (l0 K x) x
noncomputable def c (K : Nat) : Ctr := ⟨230, ps, rs, true, f K⟩
noncomputable def G (K : Nat) : List Ctr := [spec_l1In.c K, spec_FactOk.c K]
noncomputable def live_l0 : List (Nat × List Coe) := [(0, [.ro true 173 t12]), (3, [.keep])]
noncomputable def L : List (Nat × List (Nat × List Coe)) := [(3, live_l0)]
noncomputable def body : Code := bodyOf Tryz.f230
noncomputable abbrev ev (K : Nat) : Code → St → (Ex → St → Option Res) → Option Res := evK (G K) T L K
noncomputable abbrev fin : Ex → St → Option Res := finK T ps rs true Tryz.f230.results.toList
noncomputable def S_l0 (x : Args ps) (a : A_l0) : St := mkSt [(0, ⟨0, .one, [.ro true 173 t12 x.1]⟩), (3, ⟨0, .one, [.int .i64 a]⟩)]
noncomputable def k_l0 (K : Nat) (x : Args ps) : Ex → St → Option Res := kAt (ev K) body [1, 0, 1, 0] fin
noncomputable def N_l0 (K : Nat) (x : Args ps) : A_l0 → Option Res := fun a => evLoop live_l0 (ev K (sub body [1, 0, 1, 0, 0])) K (S_l0 x a) (k_l0 K x)
theorem h_l0 (K : Nat) (x : Args ps) (r_l0 : St → Option Res) (a : A_l0) : ev K (sub body [1, 0, 1, 0, 0]) (S_l0 x a) (kLoop live_l0 r_l0 (k_l0 K x)) = l0.step K x (fun a => r_l0 (S_l0 x a)) a := by kernel_rfl
theorem ok_l0 (K : Nat) (x : Args ps) : N_l0 K x = l0 K x := funext fun a => evLoop_iter live_l0 (ev K (sub body [1, 0, 1, 0, 0])) (k_l0 K x) (S_l0 x) (fun rec a => l0.step K x rec a) (fun r_l0 a => (h_l0 K x r_l0 a)) K a
theorem eqn (K : Nat) (x : Args ps) : evF (G K) T L K Tryz.f230 ps rs true x = f K x := (show evF (G K) T L K Tryz.f230 ps rs true x = pre K (N_l0 K x) x by kernel_rfl).trans (by rw [ok_l0 K x]; rfl)
end spec_CastOk
/-! ### spec.l3Over -/
namespace spec_l3Over
@[reducible] def ps : List PK := [.rd t2, .rd t2]
@[reducible] def rs : List RK := [.v false .bool]
abbrev Res := Ress rs × Outs ps
noncomputable def pre (K : Nat) (x : Args ps) : Option Res := bif x.1.2.1 != x.2.1.2.1 then (some ((decide (x.1.2.1 > x.2.1.2.1), ()), ())) else (bif x.1.2.2.1 != x.2.1.2.2.1 then (some ((decide (x.1.2.2.1 > x.2.1.2.2.1), ()), ())) else (bif x.1.2.2.2 then (some ((!x.2.1.2.2.2, ()), ())) else (some ((false, ()), ()))))
noncomputable def f (K : Nat) (x : Args ps) : Option Res := pre K x
noncomputable def c (K : Nat) : Ctr := ⟨187, ps, rs, true, f K⟩
noncomputable def G (K : Nat) : List Ctr := []
noncomputable def L : List (Nat × List (Nat × List Coe)) := []
noncomputable def body : Code := bodyOf Tryz.f187
noncomputable abbrev ev (K : Nat) : Code → St → (Ex → St → Option Res) → Option Res := evK (G K) T L K
noncomputable abbrev fin : Ex → St → Option Res := finK T ps rs true Tryz.f187.results.toList
theorem eqn (K : Nat) (x : Args ps) : evF (G K) T L K Tryz.f187 ps rs true x = f K x := by kernel_rfl
end spec_l3Over
/-! ### spec.l21CastOk -/
namespace spec_l21CastOk
@[reducible] def ps : List PK := [.rd t48]
@[reducible] def rs : List RK := [.v false .bool]
abbrev Res := Ress rs × Outs ps
abbrev A_l0 := Int
noncomputable def l0.step (K : Nat) (x : Args ps) (rec_l0 : A_l0 → Option Res) (a : A_l0) : Option Res := bif decide (a < (List.length x.1.2.2.2.2.2.2.2.2.2.1 : Int)) then ((idx x.1.2.2.2.2.2.2.2.2.2.1 a).bind fun y2 => (spec_l3Find.f K (x.1.2.2.2.2.2.2.2.2.1, y2.1.1, ())).bind fun y3 => bif decide (y3.1.1 < 0) then (some ((false, ()), ())) else ((idx x.1.2.2.2.2.2.2.2.2.2.1 a).bind fun y4 => (idx x.1.2.2.2.2.2.2.2.2.1 y3.1.1).bind fun y5 => (spec_l3Over.f K (y4.1, y5, ())).bind fun y6 => bif y6.1.1 then (some ((false, ()), ())) else (rec_l0 (wr .i64 (a + 1))))) else (some ((true, ()), ()))
noncomputable def l0 (K : Nat) (x : Args ps) : A_l0 → Option Res := iterate (fun rec_l0 a => l0.step K x rec_l0 a) K
noncomputable def pre (K : Nat) (N_l0 : A_l0 → Option Res) (x : Args ps) : Option Res := (spec_CastOk.f K (x.1.2.2.2.2.2.2.2.2.2.1, ())).bind fun y1 => bif !y1.1.1 then (some ((false, ()), ())) else (N_l0 0)
noncomputable def f (K : Nat) (x : Args ps) : Option Res := pre K (l0 K x) x
noncomputable def c (K : Nat) : Ctr := ⟨158, ps, rs, true, f K⟩
noncomputable def G (K : Nat) : List Ctr := [spec_l3Find.c K, spec_l3Over.c K, spec_CastOk.c K]
noncomputable def live_l0 : List (Nat × List Coe) := [(1, [.keep]), (3, [.keep]), (100001, [.keep, .keep, .keep, .keep, .keep, .keep, .keep, .keep, .ro true 132 t2, .ro true 173 t12, .keep, .keep, .keep, .keep, .ro true 177 t8, .keep, .keep, .keep, .keep, .ro true 94 t10, .ro true 119 t11])]
noncomputable def L : List (Nat × List (Nat × List Coe)) := [(5, live_l0)]
noncomputable def body : Code := bodyOf Tryz.f158
noncomputable abbrev ev (K : Nat) : Code → St → (Ex → St → Option Res) → Option Res := evK (G K) T L K
noncomputable abbrev fin : Ex → St → Option Res := finK T ps rs true Tryz.f158.results.toList
noncomputable def S_l0 (x : Args ps) (a : A_l0) : St := mkSt [(1, ⟨0, .one, [.bp 100001 0]⟩), (3, ⟨0, .one, [.int .i64 a]⟩), (100001, ⟨0, .agg, [.int .i64 x.1.1, .bool x.1.2.1, .bool x.1.2.2.1, .bool x.1.2.2.2.1, .int .i64 x.1.2.2.2.2.1, .int .i64 x.1.2.2.2.2.2.1, .int .i64 x.1.2.2.2.2.2.2.1, .int .i64 x.1.2.2.2.2.2.2.2.1, .ro true 132 t2 x.1.2.2.2.2.2.2.2.2.1, .ro true 173 t12 x.1.2.2.2.2.2.2.2.2.2.1, .int .i64 x.1.2.2.2.2.2.2.2.2.2.2.1.1, .int .i64 x.1.2.2.2.2.2.2.2.2.2.2.1.2.1, .int .i64 x.1.2.2.2.2.2.2.2.2.2.2.1.2.2.1, .bool x.1.2.2.2.2.2.2.2.2.2.2.1.2.2.2, .ro true 177 t8 x.1.2.2.2.2.2.2.2.2.2.2.2.1, .int .i64 x.1.2.2.2.2.2.2.2.2.2.2.2.2.1.1, .int .i64 x.1.2.2.2.2.2.2.2.2.2.2.2.2.1.2.1, .int .i64 x.1.2.2.2.2.2.2.2.2.2.2.2.2.1.2.2.1, .int .i64 x.1.2.2.2.2.2.2.2.2.2.2.2.2.1.2.2.2, .ro true 94 t10 x.1.2.2.2.2.2.2.2.2.2.2.2.2.2.1, .ro true 119 t11 x.1.2.2.2.2.2.2.2.2.2.2.2.2.2.2]⟩)]
noncomputable def k_l0 (K : Nat) (x : Args ps) : Ex → St → Option Res := kAt (ev K) body [1, 1, 0, 1, 0] fin
noncomputable def N_l0 (K : Nat) (x : Args ps) : A_l0 → Option Res := fun a => evLoop live_l0 (ev K (sub body [1, 1, 0, 1, 0, 0])) K (S_l0 x a) (k_l0 K x)
theorem h_l0 (K : Nat) (x : Args ps) (r_l0 : St → Option Res) (a : A_l0) : ev K (sub body [1, 1, 0, 1, 0, 0]) (S_l0 x a) (kLoop live_l0 r_l0 (k_l0 K x)) = l0.step K x (fun a => r_l0 (S_l0 x a)) a := by kernel_rfl
theorem ok_l0 (K : Nat) (x : Args ps) : N_l0 K x = l0 K x := funext fun a => evLoop_iter live_l0 (ev K (sub body [1, 1, 0, 1, 0, 0])) (k_l0 K x) (S_l0 x) (fun rec a => l0.step K x rec a) (fun r_l0 a => (h_l0 K x r_l0 a)) K a
theorem eqn (K : Nat) (x : Args ps) : evF (G K) T L K Tryz.f158 ps rs true x = f K x := (show evF (G K) T L K Tryz.f158 ps rs true x = pre K (N_l0 K x) x by kernel_rfl).trans (by rw [ok_l0 K x]; rfl)
end spec_l21CastOk
/-! ### spec.l21ProbeOk -/
namespace spec_l21ProbeOk
@[reducible] def ps : List PK := [.rd t48]
@[reducible] def rs : List RK := [.v false .bool]
abbrev Res := Ress rs × Outs ps
noncomputable def pre (K : Nat) (x : Args ps) : Option Res := bif x.1.2.2.2.2.2.2.2.2.2.2.1.1 == (-1) then (bif x.1.2.2.2.2.2.2.2.2.2.2.1.2.1 == 0 then (bif x.1.2.2.2.2.2.2.2.2.2.2.1.2.2.1 == 0 then (some ((!x.1.2.2.2.2.2.2.2.2.2.2.1.2.2.2, ()), ())) else (some ((false, ()), ()))) else (some ((false, ()), ()))) else (bif x.1.2.2.2.2.2.2.2.2.2.2.1.1 != x.1.1 then ((spec_l3Find.f K (x.1.2.2.2.2.2.2.2.2.1, x.1.2.2.2.2.2.2.2.2.2.2.1.1, ())).bind fun y1 => bif decide (y1.1.1 ≥ 0) then ((spec_l1In.f K (x.1.2.2.2.2.2.2.2.2.2.2.1.2.1, 0, x.1.2.2.2.2.2.1, ())).bind fun y2 => bif y2.1.1 then ((spec_l1In.f K (x.1.2.2.2.2.2.2.2.2.2.2.1.2.2.1, 1, x.1.2.2.2.2.2.2.1, ())).bind fun y3 => some ((y3.1.1, ()), ())) else (some ((false, ()), ()))) else (some ((false, ()), ()))) else (some ((false, ()), ())))
noncomputable def f (K : Nat) (x : Args ps) : Option Res := pre K x
noncomputable def c (K : Nat) : Ctr := ⟨159, ps, rs, true, f K⟩
noncomputable def G (K : Nat) : List Ctr := [spec_l1In.c K, spec_l3Find.c K]
noncomputable def L : List (Nat × List (Nat × List Coe)) := []
noncomputable def body : Code := bodyOf Tryz.f159
noncomputable abbrev ev (K : Nat) : Code → St → (Ex → St → Option Res) → Option Res := evK (G K) T L K
noncomputable abbrev fin : Ex → St → Option Res := finK T ps rs true Tryz.f159.results.toList
theorem eqn (K : Nat) (x : Args ps) : evF (G K) T L K Tryz.f159 ps rs true x = f K x := by kernel_rfl
end spec_l21ProbeOk
/-! ### spec.l21DoubtsOk -/
namespace spec_l21DoubtsOk
@[reducible] def ps : List PK := [.rd t48]
@[reducible] def rs : List RK := [.v false .bool]
abbrev Res := Ress rs × Outs ps
abbrev A_l1 := Int × Int × Int × Int × Int × List (Ty.den (.int .i64))
abbrev A_l2 := Int × Int
abbrev A_l0 := Int
noncomputable def l1.step (K : Nat) (x : Args ps) (rec_l0 : A_l0 → Option Res) (rec_l1 : A_l1 → Option Res) (a : A_l1) : Option Res := bif decide (a.2.1 < (List.length a.2.2.2.2.2 : Int)) then ((idx a.2.2.2.2.2 a.2.1).bind fun y7 => (spec_l1In.f K (y7, 0, 7, ())).bind fun y8 => bif !y8.1.1 then (some ((false, ()), ())) else ((idx a.2.2.2.2.2 a.2.1).bind fun y9 => (spec_l21Site.f K (y9, ())).bind fun y10 => (spec_l21Site.f K (x.1.1, ())).bind fun y11 => bif y10.1.1 != y11.1.1 then (some ((false, ()), ())) else (bif decide (a.2.1 > 0) then ((idx a.2.2.2.2.2 (wr .i64 (a.2.1 - 1))).bind fun y12 => (idx a.2.2.2.2.2 a.2.1).bind fun y13 => bif decide (y12 ≥ y13) then (some ((false, ()), ())) else (rec_l1 (a.1, wr .i64 (a.2.1 + 1), a.2.2.1, a.2.2.2.1, a.2.2.2.2.1, a.2.2.2.2.2))) else (rec_l1 (a.1, wr .i64 (a.2.1 + 1), a.2.2.1, a.2.2.2.1, a.2.2.2.2.1, a.2.2.2.2.2))))) else (rec_l0 (wr .i64 (a.1 + 1)))
noncomputable def l1 (K : Nat) (x : Args ps) (rec_l0 : A_l0 → Option Res) : A_l1 → Option Res := iterate (fun rec_l1 a => l1.step K x rec_l0 rec_l1 a) K
noncomputable def l2.step (K : Nat) (x : Args ps) (rec_l2 : A_l2 → Option Res) (a : A_l2) : Option Res := bif decide (a.2 < (List.length x.1.2.2.2.2.2.2.2.2.1 : Int)) then ((idx x.1.2.2.2.2.2.2.2.2.1 a.2).bind fun y17 => bif y17.2.2.1 == 2 then (rec_l2 (wr .i64 (a.1 + 1), wr .i64 (a.2 + 1))) else (rec_l2 (a.1, wr .i64 (a.2 + 1)))) else (some ((a.1 == (List.length x.1.2.2.2.2.2.2.2.2.2.2.2.1 : Int), ()), ()))
noncomputable def l2 (K : Nat) (x : Args ps) : A_l2 → Option Res := iterate (fun rec_l2 a => l2.step K x rec_l2 a) K
noncomputable def l0.step (K : Nat) (x : Args ps) (N_l1 : A_l1 → Option Res) (N_l2 : A_l2 → Option Res) (rec_l0 : A_l0 → Option Res) (a : A_l0) : Option Res := bif decide (a < (List.length x.1.2.2.2.2.2.2.2.2.2.2.2.1 : Int)) then ((idx x.1.2.2.2.2.2.2.2.2.2.2.2.1 a).bind fun y1 => (spec_l3Find.f K (x.1.2.2.2.2.2.2.2.2.1, y1.1, ())).bind fun y2 => bif decide (a > 0) then ((idx x.1.2.2.2.2.2.2.2.2.2.2.2.1 (wr .i64 (a - 1))).bind fun y3 => bif decide (y3.1 ≥ y1.1) then (some ((false, ()), ())) else (bif decide (y2.1.1 < 0) then (some ((false, ()), ())) else ((idx x.1.2.2.2.2.2.2.2.2.1 y2.1.1).bind fun y4 => bif y4.2.2.1 != 2 then (some ((false, ()), ())) else ((idx x.1.2.2.2.2.2.2.2.2.1 y2.1.1).bind fun y5 => bif y5.2.1 != y1.2.1 then (some ((false, ()), ())) else ((spec_l1In.f K (y1.2.2.1, 0, x.1.2.2.2.2.2.1, ())).bind fun y6 => bif !y6.1.1 then (some ((false, ()), ())) else (bif (List.length y1.2.2.2 : Int) == 0 then (some ((false, ()), ())) else (N_l1 (a, 0, y1.1, y1.2.1, y1.2.2.1, y1.2.2.2)))))))) else (bif decide (y2.1.1 < 0) then (some ((false, ()), ())) else ((idx x.1.2.2.2.2.2.2.2.2.1 y2.1.1).bind fun y14 => bif y14.2.2.1 != 2 then (some ((false, ()), ())) else ((idx x.1.2.2.2.2.2.2.2.2.1 y2.1.1).bind fun y15 => bif y15.2.1 != y1.2.1 then (some ((false, ()), ())) else ((spec_l1In.f K (y1.2.2.1, 0, x.1.2.2.2.2.2.1, ())).bind fun y16 => bif !y16.1.1 then (some ((false, ()), ())) else (bif (List.length y1.2.2.2 : Int) == 0 then (some ((false, ()), ())) else (N_l1 (a, 0, y1.1, y1.2.1, y1.2.2.1, y1.2.2.2)))))))) else (N_l2 (0, 0))
noncomputable def l0 (K : Nat) (x : Args ps) : A_l0 → Option Res := iterate (fun rec_l0 a => l0.step K x (l1 K x rec_l0) (l2 K x) rec_l0 a) K
noncomputable def pre (K : Nat) (N_l0 : A_l0 → Option Res) (x : Args ps) : Option Res := N_l0 0
noncomputable def f (K : Nat) (x : Args ps) : Option Res := pre K (l0 K x) x
noncomputable def c (K : Nat) : Ctr := ⟨160, ps, rs, true, f K⟩
noncomputable def G (K : Nat) : List Ctr := [spec_l21Site.c K, spec_l1In.c K, spec_l3Find.c K]
noncomputable def live_l1 : List (Nat × List Coe) := [(1, [.keep]), (3, [.keep]), (4, [.keep]), (6, [.keep]), (100001, [.keep, .keep, .keep, .keep, .keep, .keep, .keep, .keep, .ro true 132 t2, .ro true 173 t12, .keep, .keep, .keep, .keep, .ro true 177 t8, .keep, .keep, .keep, .keep, .ro true 94 t10, .ro true 119 t11]), (100004, [.keep, .keep, .keep, .ro true 3 (.int .i64)])]
noncomputable def live_l2 : List (Nat × List Coe) := [(1, [.keep]), (7, [.keep]), (8, [.keep]), (100001, [.keep, .keep, .keep, .keep, .keep, .keep, .keep, .keep, .ro true 132 t2, .ro true 173 t12, .keep, .keep, .keep, .keep, .ro true 177 t8, .keep, .keep, .keep, .keep, .ro true 94 t10, .ro true 119 t11])]
noncomputable def live_l0 : List (Nat × List Coe) := [(1, [.keep]), (3, [.keep]), (100001, [.keep, .keep, .keep, .keep, .keep, .keep, .keep, .keep, .ro true 132 t2, .ro true 173 t12, .keep, .keep, .keep, .keep, .ro true 177 t8, .keep, .keep, .keep, .keep, .ro true 94 t10, .ro true 119 t11])]
noncomputable def L : List (Nat × List (Nat × List Coe)) := [(10, live_l1), (16, live_l2), (3, live_l0)]
noncomputable def body : Code := bodyOf Tryz.f160
noncomputable abbrev ev (K : Nat) : Code → St → (Ex → St → Option Res) → Option Res := evK (G K) T L K
noncomputable abbrev fin : Ex → St → Option Res := finK T ps rs true Tryz.f160.results.toList
noncomputable def S_l0 (x : Args ps) (a : A_l0) : St := mkSt [(1, ⟨0, .one, [.bp 100001 0]⟩), (3, ⟨0, .one, [.int .i64 a]⟩), (100001, ⟨0, .agg, [.int .i64 x.1.1, .bool x.1.2.1, .bool x.1.2.2.1, .bool x.1.2.2.2.1, .int .i64 x.1.2.2.2.2.1, .int .i64 x.1.2.2.2.2.2.1, .int .i64 x.1.2.2.2.2.2.2.1, .int .i64 x.1.2.2.2.2.2.2.2.1, .ro true 132 t2 x.1.2.2.2.2.2.2.2.2.1, .ro true 173 t12 x.1.2.2.2.2.2.2.2.2.2.1, .int .i64 x.1.2.2.2.2.2.2.2.2.2.2.1.1, .int .i64 x.1.2.2.2.2.2.2.2.2.2.2.1.2.1, .int .i64 x.1.2.2.2.2.2.2.2.2.2.2.1.2.2.1, .bool x.1.2.2.2.2.2.2.2.2.2.2.1.2.2.2, .ro true 177 t8 x.1.2.2.2.2.2.2.2.2.2.2.2.1, .int .i64 x.1.2.2.2.2.2.2.2.2.2.2.2.2.1.1, .int .i64 x.1.2.2.2.2.2.2.2.2.2.2.2.2.1.2.1, .int .i64 x.1.2.2.2.2.2.2.2.2.2.2.2.2.1.2.2.1, .int .i64 x.1.2.2.2.2.2.2.2.2.2.2.2.2.1.2.2.2, .ro true 94 t10 x.1.2.2.2.2.2.2.2.2.2.2.2.2.2.1, .ro true 119 t11 x.1.2.2.2.2.2.2.2.2.2.2.2.2.2.2]⟩)]
noncomputable def S_l2 (x : Args ps) (a : A_l2) : St := mkSt [(1, ⟨0, .one, [.bp 100001 0]⟩), (7, ⟨0, .one, [.int .i64 a.1]⟩), (8, ⟨0, .one, [.int .i64 a.2]⟩), (100001, ⟨0, .agg, [.int .i64 x.1.1, .bool x.1.2.1, .bool x.1.2.2.1, .bool x.1.2.2.2.1, .int .i64 x.1.2.2.2.2.1, .int .i64 x.1.2.2.2.2.2.1, .int .i64 x.1.2.2.2.2.2.2.1, .int .i64 x.1.2.2.2.2.2.2.2.1, .ro true 132 t2 x.1.2.2.2.2.2.2.2.2.1, .ro true 173 t12 x.1.2.2.2.2.2.2.2.2.2.1, .int .i64 x.1.2.2.2.2.2.2.2.2.2.2.1.1, .int .i64 x.1.2.2.2.2.2.2.2.2.2.2.1.2.1, .int .i64 x.1.2.2.2.2.2.2.2.2.2.2.1.2.2.1, .bool x.1.2.2.2.2.2.2.2.2.2.2.1.2.2.2, .ro true 177 t8 x.1.2.2.2.2.2.2.2.2.2.2.2.1, .int .i64 x.1.2.2.2.2.2.2.2.2.2.2.2.2.1.1, .int .i64 x.1.2.2.2.2.2.2.2.2.2.2.2.2.1.2.1, .int .i64 x.1.2.2.2.2.2.2.2.2.2.2.2.2.1.2.2.1, .int .i64 x.1.2.2.2.2.2.2.2.2.2.2.2.2.1.2.2.2, .ro true 94 t10 x.1.2.2.2.2.2.2.2.2.2.2.2.2.2.1, .ro true 119 t11 x.1.2.2.2.2.2.2.2.2.2.2.2.2.2.2]⟩)]
noncomputable def S_l1 (x : Args ps) (a : A_l1) : St := mkSt [(1, ⟨0, .one, [.bp 100001 0]⟩), (3, ⟨0, .one, [.int .i64 a.1]⟩), (4, ⟨0, .one, [.bp 100004 0]⟩), (6, ⟨0, .one, [.int .i64 a.2.1]⟩), (100001, ⟨0, .agg, [.int .i64 x.1.1, .bool x.1.2.1, .bool x.1.2.2.1, .bool x.1.2.2.2.1, .int .i64 x.1.2.2.2.2.1, .int .i64 x.1.2.2.2.2.2.1, .int .i64 x.1.2.2.2.2.2.2.1, .int .i64 x.1.2.2.2.2.2.2.2.1, .ro true 132 t2 x.1.2.2.2.2.2.2.2.2.1, .ro true 173 t12 x.1.2.2.2.2.2.2.2.2.2.1, .int .i64 x.1.2.2.2.2.2.2.2.2.2.2.1.1, .int .i64 x.1.2.2.2.2.2.2.2.2.2.2.1.2.1, .int .i64 x.1.2.2.2.2.2.2.2.2.2.2.1.2.2.1, .bool x.1.2.2.2.2.2.2.2.2.2.2.1.2.2.2, .ro true 177 t8 x.1.2.2.2.2.2.2.2.2.2.2.2.1, .int .i64 x.1.2.2.2.2.2.2.2.2.2.2.2.2.1.1, .int .i64 x.1.2.2.2.2.2.2.2.2.2.2.2.2.1.2.1, .int .i64 x.1.2.2.2.2.2.2.2.2.2.2.2.2.1.2.2.1, .int .i64 x.1.2.2.2.2.2.2.2.2.2.2.2.2.1.2.2.2, .ro true 94 t10 x.1.2.2.2.2.2.2.2.2.2.2.2.2.2.1, .ro true 119 t11 x.1.2.2.2.2.2.2.2.2.2.2.2.2.2.2]⟩), (100004, ⟨0, .agg, [.int .i64 a.2.2.1, .int .i64 a.2.2.2.1, .int .i64 a.2.2.2.2.1, .ro true 3 (.int .i64) a.2.2.2.2.2]⟩)]
noncomputable def k_l0 (K : Nat) (x : Args ps) : Ex → St → Option Res := kAt (ev K) body [1, 0, 1, 0] fin
noncomputable def N_l0 (K : Nat) (x : Args ps) : A_l0 → Option Res := fun a => evLoop live_l0 (ev K (sub body [1, 0, 1, 0, 0])) K (S_l0 x a) (k_l0 K x)
noncomputable def k_l2 (K : Nat) (x : Args ps) : Ex → St → Option Res := kAt (ev K) body [1, 1, 1, 0, 1, 0] fin
noncomputable def N_l2 (K : Nat) (x : Args ps) : A_l2 → Option Res := fun a => evLoop live_l2 (ev K (sub body [1, 1, 1, 0, 1, 0, 0])) K (S_l2 x a) (k_l2 K x)
noncomputable def k_l1 (K : Nat) (x : Args ps) (r_l0 : St → Option Res) : Ex → St → Option Res := kAt (ev K) (sub body [1, 0, 1, 0, 0]) [1, 0, 0, 1, 1, 1, 1, 0] (kLoop live_l0 r_l0 (k_l0 K x))
noncomputable def N_l1 (K : Nat) (x : Args ps) (r_l0 : St → Option Res) : A_l1 → Option Res := fun a => evLoop live_l1 (ev K (sub body [1, 0, 1, 0, 0, 1, 0, 0, 1, 1, 1, 1, 0, 0])) K (S_l1 x a) (k_l1 K x r_l0)
theorem h_l1 (K : Nat) (x : Args ps) (r_l0 : St → Option Res) (r_l1 : St → Option Res) (a : A_l1) : ev K (sub body [1, 0, 1, 0, 0, 1, 0, 0, 1, 1, 1, 1, 0, 0]) (S_l1 x a) (kLoop live_l1 r_l1 (k_l1 K x r_l0)) = l1.step K x (fun a => r_l0 (S_l0 x a)) (fun a => r_l1 (S_l1 x a)) a := by kernel_rfl
theorem ok_l1 (K : Nat) (x : Args ps) (r_l0 : St → Option Res) : N_l1 K x r_l0 = l1 K x (fun a => r_l0 (S_l0 x a)) := funext fun a => evLoop_iter live_l1 (ev K (sub body [1, 0, 1, 0, 0, 1, 0, 0, 1, 1, 1, 1, 0, 0])) (k_l1 K x r_l0) (S_l1 x) (fun rec a => l1.step K x (fun a => r_l0 (S_l0 x a)) rec a) (fun r_l1 a => (h_l1 K x r_l0 r_l1 a)) K a
theorem h_l2 (K : Nat) (x : Args ps) (r_l2 : St → Option Res) (a : A_l2) : ev K (sub body [1, 1, 1, 0, 1, 0, 0]) (S_l2 x a) (kLoop live_l2 r_l2 (k_l2 K x)) = l2.step K x (fun a => r_l2 (S_l2 x a)) a := by kernel_rfl
theorem ok_l2 (K : Nat) (x : Args ps) : N_l2 K x = l2 K x := funext fun a => evLoop_iter live_l2 (ev K (sub body [1, 1, 1, 0, 1, 0, 0])) (k_l2 K x) (S_l2 x) (fun rec a => l2.step K x rec a) (fun r_l2 a => (h_l2 K x r_l2 a)) K a
theorem h_l0 (K : Nat) (x : Args ps) (r_l0 : St → Option Res) (a : A_l0) : ev K (sub body [1, 0, 1, 0, 0]) (S_l0 x a) (kLoop live_l0 r_l0 (k_l0 K x)) = l0.step K x (N_l1 K x r_l0) (N_l2 K x) (fun a => r_l0 (S_l0 x a)) a := by kernel_rfl
theorem ok_l0 (K : Nat) (x : Args ps) : N_l0 K x = l0 K x := funext fun a => evLoop_iter live_l0 (ev K (sub body [1, 0, 1, 0, 0])) (k_l0 K x) (S_l0 x) (fun rec a => l0.step K x (l1 K x rec) (l2 K x) rec a) (fun r_l0 a => (h_l0 K x r_l0 a).trans (by rw [ok_l1 K x r_l0, ok_l2 K x])) K a
theorem eqn (K : Nat) (x : Args ps) : evF (G K) T L K Tryz.f160 ps rs true x = f K x := (show evF (G K) T L K Tryz.f160 ps rs true x = pre K (N_l0 K x) x by kernel_rfl).trans (by rw [ok_l0 K x]; rfl)
end spec_l21DoubtsOk
/-! ### spec.CoordOk -/
namespace spec_CoordOk
@[reducible] def ps : List PK := [.rd t5]
@[reducible] def rs : List RK := [.v false .bool]
abbrev Res := Ress rs × Outs ps
noncomputable def pre (K : Nat) (x : Args ps) : Option Res := (spec_l1In.f K (x.1.1, (-100000), 100000, ())).bind fun y1 => bif y1.1.1 then ((spec_l1In.f K (x.1.2.1, (-100000), 100000, ())).bind fun y2 => bif y2.1.1 then ((spec_l1In.f K (x.1.2.2.1, 0, 100000, ())).bind fun y3 => bif y3.1.1 then ((spec_l1In.f K (x.1.2.2.2, 1, 1500, ())).bind fun y4 => some ((y4.1.1, ()), ())) else (some ((false, ()), ()))) else (some ((false, ()), ()))) else (some ((false, ()), ()))
noncomputable def f (K : Nat) (x : Args ps) : Option Res := pre K x
noncomputable def c (K : Nat) : Ctr := ⟨161, ps, rs, true, f K⟩
noncomputable def G (K : Nat) : List Ctr := [spec_l1In.c K]
noncomputable def L : List (Nat × List (Nat × List Coe)) := []
noncomputable def body : Code := bodyOf Tryz.f161
noncomputable abbrev ev (K : Nat) : Code → St → (Ex → St → Option Res) → Option Res := evK (G K) T L K
noncomputable abbrev fin : Ex → St → Option Res := finK T ps rs true Tryz.f161.results.toList
theorem eqn (K : Nat) (x : Args ps) : evF (G K) T L K Tryz.f161 ps rs true x = f K x := by kernel_rfl
end spec_CoordOk
/-! ### spec.l21PlacesOk -/
namespace spec_l21PlacesOk
@[reducible] def ps : List PK := [.rd t48]
@[reducible] def rs : List RK := [.v false .bool]
abbrev Res := Ress rs × Outs ps
abbrev A_l1 := Int × Int × Int × Int × Int × Int × Int × List (Ty.den (.int .i64))
abbrev A_l0 := Int
noncomputable def l1.step (K : Nat) (x : Args ps) (rec_l0 : A_l0 → Option Res) (rec_l1 : A_l1 → Option Res) (a : A_l1) : Option Res := bif decide (a.2.1 < (List.length a.2.2.2.2.2.2.2 : Int)) then ((idx a.2.2.2.2.2.2.2 a.2.1).bind fun y8 => (spec_l1In.f K (y8, 1, 60000, ())).bind fun y9 => bif !y9.1.1 then (some ((false, ()), ())) else (rec_l1 (a.1, wr .i64 (a.2.1 + 1), a.2.2.1, a.2.2.2.1, a.2.2.2.2.1, a.2.2.2.2.2.1, a.2.2.2.2.2.2.1, a.2.2.2.2.2.2.2))) else (rec_l0 (wr .i64 (a.1 + 1)))
noncomputable def l1 (K : Nat) (x : Args ps) (rec_l0 : A_l0 → Option Res) : A_l1 → Option Res := iterate (fun rec_l1 a => l1.step K x rec_l0 rec_l1 a) K
noncomputable def l0.step (K : Nat) (x : Args ps) (N_l1 : A_l1 → Option Res) (rec_l0 : A_l0 → Option Res) (a : A_l0) : Option Res := bif decide (a < (List.length x.1.2.2.2.2.2.2.2.2.2.2.2.2.2.1 : Int)) then ((idx x.1.2.2.2.2.2.2.2.2.2.2.2.2.2.1 a).bind fun y1 => (spec_l1In.f K (y1.1, 0, 7, ())).bind fun y2 => bif !y2.1.1 then (some ((false, ()), ())) else ((spec_l21Site.f K (y1.1, ())).bind fun y3 => (spec_l21Site.f K (x.1.1, ())).bind fun y4 => bif y3.1.1 != y4.1.1 then (some ((false, ()), ())) else (bif y1.1 == x.1.1 then (some ((false, ()), ())) else (bif decide (a > 0) then ((idx x.1.2.2.2.2.2.2.2.2.2.2.2.2.2.1 (wr .i64 (a - 1))).bind fun y5 => bif decide (y5.1 ≥ y1.1) then (some ((false, ()), ())) else ((spec_CoordOk.f K (y1.2.1, ())).bind fun y6 => bif !y6.1.1 then (some ((false, ()), ())) else ((spec_l1In.f K ((List.length y1.2.2 : Int), 1, 3, ())).bind fun y7 => bif !y7.1.1 then (some ((false, ()), ())) else (N_l1 (a, 0, y1.1, y1.2.1.1, y1.2.1.2.1, y1.2.1.2.2.1, y1.2.1.2.2.2, y1.2.2))))) else ((spec_CoordOk.f K (y1.2.1, ())).bind fun y10 => bif !y10.1.1 then (some ((false, ()), ())) else ((spec_l1In.f K ((List.length y1.2.2 : Int), 1, 3, ())).bind fun y11 => bif !y11.1.1 then (some ((false, ()), ())) else (N_l1 (a, 0, y1.1, y1.2.1.1, y1.2.1.2.1, y1.2.1.2.2.1, y1.2.1.2.2.2, y1.2.2)))))))) else (some ((true, ()), ()))
noncomputable def l0 (K : Nat) (x : Args ps) : A_l0 → Option Res := iterate (fun rec_l0 a => l0.step K x (l1 K x rec_l0) rec_l0 a) K
noncomputable def pre (K : Nat) (N_l0 : A_l0 → Option Res) (x : Args ps) : Option Res := N_l0 0
noncomputable def f (K : Nat) (x : Args ps) : Option Res := pre K (l0 K x) x
noncomputable def c (K : Nat) : Ctr := ⟨162, ps, rs, true, f K⟩
noncomputable def G (K : Nat) : List Ctr := [spec_l21Site.c K, spec_l1In.c K, spec_CoordOk.c K]
noncomputable def live_l1 : List (Nat × List Coe) := [(1, [.keep]), (3, [.keep]), (4, [.keep]), (5, [.keep]), (100001, [.keep, .keep, .keep, .keep, .keep, .keep, .keep, .keep, .ro true 132 t2, .ro true 173 t12, .keep, .keep, .keep, .keep, .ro true 177 t8, .keep, .keep, .keep, .keep, .ro true 94 t10, .ro true 119 t11]), (100004, [.keep, .keep, .keep, .keep, .keep, .ro true 3 (.int .i64)])]
noncomputable def live_l0 : List (Nat × List Coe) := [(1, [.keep]), (3, [.keep]), (100001, [.keep, .keep, .keep, .keep, .keep, .keep, .keep, .keep, .ro true 132 t2, .ro true 173 t12, .keep, .keep, .keep, .keep, .ro true 177 t8, .keep, .keep, .keep, .keep, .ro true 94 t10, .ro true 119 t11])]
noncomputable def L : List (Nat × List (Nat × List Coe)) := [(9, live_l1), (3, live_l0)]
noncomputable def body : Code := bodyOf Tryz.f162
noncomputable abbrev ev (K : Nat) : Code → St → (Ex → St → Option Res) → Option Res := evK (G K) T L K
noncomputable abbrev fin : Ex → St → Option Res := finK T ps rs true Tryz.f162.results.toList
noncomputable def S_l0 (x : Args ps) (a : A_l0) : St := mkSt [(1, ⟨0, .one, [.bp 100001 0]⟩), (3, ⟨0, .one, [.int .i64 a]⟩), (100001, ⟨0, .agg, [.int .i64 x.1.1, .bool x.1.2.1, .bool x.1.2.2.1, .bool x.1.2.2.2.1, .int .i64 x.1.2.2.2.2.1, .int .i64 x.1.2.2.2.2.2.1, .int .i64 x.1.2.2.2.2.2.2.1, .int .i64 x.1.2.2.2.2.2.2.2.1, .ro true 132 t2 x.1.2.2.2.2.2.2.2.2.1, .ro true 173 t12 x.1.2.2.2.2.2.2.2.2.2.1, .int .i64 x.1.2.2.2.2.2.2.2.2.2.2.1.1, .int .i64 x.1.2.2.2.2.2.2.2.2.2.2.1.2.1, .int .i64 x.1.2.2.2.2.2.2.2.2.2.2.1.2.2.1, .bool x.1.2.2.2.2.2.2.2.2.2.2.1.2.2.2, .ro true 177 t8 x.1.2.2.2.2.2.2.2.2.2.2.2.1, .int .i64 x.1.2.2.2.2.2.2.2.2.2.2.2.2.1.1, .int .i64 x.1.2.2.2.2.2.2.2.2.2.2.2.2.1.2.1, .int .i64 x.1.2.2.2.2.2.2.2.2.2.2.2.2.1.2.2.1, .int .i64 x.1.2.2.2.2.2.2.2.2.2.2.2.2.1.2.2.2, .ro true 94 t10 x.1.2.2.2.2.2.2.2.2.2.2.2.2.2.1, .ro true 119 t11 x.1.2.2.2.2.2.2.2.2.2.2.2.2.2.2]⟩)]
noncomputable def S_l1 (x : Args ps) (a : A_l1) : St := mkSt [(1, ⟨0, .one, [.bp 100001 0]⟩), (3, ⟨0, .one, [.int .i64 a.1]⟩), (4, ⟨0, .one, [.bp 100004 0]⟩), (5, ⟨0, .one, [.int .i64 a.2.1]⟩), (100001, ⟨0, .agg, [.int .i64 x.1.1, .bool x.1.2.1, .bool x.1.2.2.1, .bool x.1.2.2.2.1, .int .i64 x.1.2.2.2.2.1, .int .i64 x.1.2.2.2.2.2.1, .int .i64 x.1.2.2.2.2.2.2.1, .int .i64 x.1.2.2.2.2.2.2.2.1, .ro true 132 t2 x.1.2.2.2.2.2.2.2.2.1, .ro true 173 t12 x.1.2.2.2.2.2.2.2.2.2.1, .int .i64 x.1.2.2.2.2.2.2.2.2.2.2.1.1, .int .i64 x.1.2.2.2.2.2.2.2.2.2.2.1.2.1, .int .i64 x.1.2.2.2.2.2.2.2.2.2.2.1.2.2.1, .bool x.1.2.2.2.2.2.2.2.2.2.2.1.2.2.2, .ro true 177 t8 x.1.2.2.2.2.2.2.2.2.2.2.2.1, .int .i64 x.1.2.2.2.2.2.2.2.2.2.2.2.2.1.1, .int .i64 x.1.2.2.2.2.2.2.2.2.2.2.2.2.1.2.1, .int .i64 x.1.2.2.2.2.2.2.2.2.2.2.2.2.1.2.2.1, .int .i64 x.1.2.2.2.2.2.2.2.2.2.2.2.2.1.2.2.2, .ro true 94 t10 x.1.2.2.2.2.2.2.2.2.2.2.2.2.2.1, .ro true 119 t11 x.1.2.2.2.2.2.2.2.2.2.2.2.2.2.2]⟩), (100004, ⟨0, .agg, [.int .i64 a.2.2.1, .int .i64 a.2.2.2.1, .int .i64 a.2.2.2.2.1, .int .i64 a.2.2.2.2.2.1, .int .i64 a.2.2.2.2.2.2.1, .ro true 3 (.int .i64) a.2.2.2.2.2.2.2]⟩)]
noncomputable def k_l0 (K : Nat) (x : Args ps) : Ex → St → Option Res := kAt (ev K) body [1, 0, 1, 0] fin
noncomputable def N_l0 (K : Nat) (x : Args ps) : A_l0 → Option Res := fun a => evLoop live_l0 (ev K (sub body [1, 0, 1, 0, 0])) K (S_l0 x a) (k_l0 K x)
noncomputable def k_l1 (K : Nat) (x : Args ps) (r_l0 : St → Option Res) : Ex → St → Option Res := kAt (ev K) (sub body [1, 0, 1, 0, 0]) [1, 0, 0, 1, 1, 1, 0] (kLoop live_l0 r_l0 (k_l0 K x))
noncomputable def N_l1 (K : Nat) (x : Args ps) (r_l0 : St → Option Res) : A_l1 → Option Res := fun a => evLoop live_l1 (ev K (sub body [1, 0, 1, 0, 0, 1, 0, 0, 1, 1, 1, 0, 0])) K (S_l1 x a) (k_l1 K x r_l0)
theorem h_l1 (K : Nat) (x : Args ps) (r_l0 : St → Option Res) (r_l1 : St → Option Res) (a : A_l1) : ev K (sub body [1, 0, 1, 0, 0, 1, 0, 0, 1, 1, 1, 0, 0]) (S_l1 x a) (kLoop live_l1 r_l1 (k_l1 K x r_l0)) = l1.step K x (fun a => r_l0 (S_l0 x a)) (fun a => r_l1 (S_l1 x a)) a := by kernel_rfl
theorem ok_l1 (K : Nat) (x : Args ps) (r_l0 : St → Option Res) : N_l1 K x r_l0 = l1 K x (fun a => r_l0 (S_l0 x a)) := funext fun a => evLoop_iter live_l1 (ev K (sub body [1, 0, 1, 0, 0, 1, 0, 0, 1, 1, 1, 0, 0])) (k_l1 K x r_l0) (S_l1 x) (fun rec a => l1.step K x (fun a => r_l0 (S_l0 x a)) rec a) (fun r_l1 a => (h_l1 K x r_l0 r_l1 a)) K a
theorem h_l0 (K : Nat) (x : Args ps) (r_l0 : St → Option Res) (a : A_l0) : ev K (sub body [1, 0, 1, 0, 0]) (S_l0 x a) (kLoop live_l0 r_l0 (k_l0 K x)) = l0.step K x (N_l1 K x r_l0) (fun a => r_l0 (S_l0 x a)) a := by kernel_rfl
theorem ok_l0 (K : Nat) (x : Args ps) : N_l0 K x = l0 K x := funext fun a => evLoop_iter live_l0 (ev K (sub body [1, 0, 1, 0, 0])) (k_l0 K x) (S_l0 x) (fun rec a => l0.step K x (l1 K x rec) rec a) (fun r_l0 a => (h_l0 K x r_l0 a).trans (by rw [ok_l1 K x r_l0])) K a
theorem eqn (K : Nat) (x : Args ps) : evF (G K) T L K Tryz.f162 ps rs true x = f K x := (show evF (G K) T L K Tryz.f162 ps rs true x = pre K (N_l0 K x) x by kernel_rfl).trans (by rw [ok_l0 K x]; rfl)
end spec_l21PlacesOk
/-! ### spec.l21OthersOk -/
namespace spec_l21OthersOk
@[reducible] def ps : List PK := [.rd t48]
@[reducible] def rs : List RK := [.v false .bool]
abbrev Res := Ress rs × Outs ps
abbrev A_l0 := Int
noncomputable def l0.step (K : Nat) (x : Args ps) (rec_l0 : A_l0 → Option Res) (a : A_l0) : Option Res := bif decide (a < (List.length x.1.2.2.2.2.2.2.2.2.2.2.2.2.2.2 : Int)) then ((idx x.1.2.2.2.2.2.2.2.2.2.2.2.2.2.2 a).bind fun y1 => (spec_l1In.f K (y1.1, 0, 1, ())).bind fun y2 => bif !y2.1.1 then (some ((false, ()), ())) else ((spec_l21Site.f K (x.1.1, ())).bind fun y3 => bif y1.1 == y3.1.1 then (some ((false, ()), ())) else (bif decide (a > 0) then ((idx x.1.2.2.2.2.2.2.2.2.2.2.2.2.2.2 (wr .i64 (a - 1))).bind fun y4 => bif decide (y4.1 ≥ y1.1) then (some ((false, ()), ())) else (bif (List.length y1.2 : Int) == 0 then (some ((false, ()), ())) else ((spec_TableOk.f K (y1.2, ())).bind fun y5 => bif !y5.1.1 then (some ((false, ()), ())) else ((spec_l4Site.f K (y1.2, y1.1, ())).bind fun y6 => bif !y6.1.1 then (some ((false, ()), ())) else (rec_l0 (wr .i64 (a + 1))))))) else (bif (List.length y1.2 : Int) == 0 then (some ((false, ()), ())) else ((spec_TableOk.f K (y1.2, ())).bind fun y7 => bif !y7.1.1 then (some ((false, ()), ())) else ((spec_l4Site.f K (y1.2, y1.1, ())).bind fun y8 => bif !y8.1.1 then (some ((false, ()), ())) else (rec_l0 (wr .i64 (a + 1))))))))) else (some ((true, ()), ()))
noncomputable def l0 (K : Nat) (x : Args ps) : A_l0 → Option Res := iterate (fun rec_l0 a => l0.step K x rec_l0 a) K
noncomputable def pre (K : Nat) (N_l0 : A_l0 → Option Res) (x : Args ps) : Option Res := N_l0 0
noncomputable def f (K : Nat) (x : Args ps) : Option Res := pre K (l0 K x) x
noncomputable def c (K : Nat) : Ctr := ⟨163, ps, rs, true, f K⟩
noncomputable def G (K : Nat) : List Ctr := [spec_l21Site.c K, spec_l1In.c K, spec_TableOk.c K, spec_l4Site.c K]
noncomputable def live_l0 : List (Nat × List Coe) := [(1, [.keep]), (3, [.keep]), (100001, [.keep, .keep, .keep, .keep, .keep, .keep, .keep, .keep, .ro true 132 t2, .ro true 173 t12, .keep, .keep, .keep, .keep, .ro true 177 t8, .keep, .keep, .keep, .keep, .ro true 94 t10, .ro true 119 t11])]
noncomputable def L : List (Nat × List (Nat × List Coe)) := [(3, live_l0)]
noncomputable def body : Code := bodyOf Tryz.f163
noncomputable abbrev ev (K : Nat) : Code → St → (Ex → St → Option Res) → Option Res := evK (G K) T L K
noncomputable abbrev fin : Ex → St → Option Res := finK T ps rs true Tryz.f163.results.toList
noncomputable def S_l0 (x : Args ps) (a : A_l0) : St := mkSt [(1, ⟨0, .one, [.bp 100001 0]⟩), (3, ⟨0, .one, [.int .i64 a]⟩), (100001, ⟨0, .agg, [.int .i64 x.1.1, .bool x.1.2.1, .bool x.1.2.2.1, .bool x.1.2.2.2.1, .int .i64 x.1.2.2.2.2.1, .int .i64 x.1.2.2.2.2.2.1, .int .i64 x.1.2.2.2.2.2.2.1, .int .i64 x.1.2.2.2.2.2.2.2.1, .ro true 132 t2 x.1.2.2.2.2.2.2.2.2.1, .ro true 173 t12 x.1.2.2.2.2.2.2.2.2.2.1, .int .i64 x.1.2.2.2.2.2.2.2.2.2.2.1.1, .int .i64 x.1.2.2.2.2.2.2.2.2.2.2.1.2.1, .int .i64 x.1.2.2.2.2.2.2.2.2.2.2.1.2.2.1, .bool x.1.2.2.2.2.2.2.2.2.2.2.1.2.2.2, .ro true 177 t8 x.1.2.2.2.2.2.2.2.2.2.2.2.1, .int .i64 x.1.2.2.2.2.2.2.2.2.2.2.2.2.1.1, .int .i64 x.1.2.2.2.2.2.2.2.2.2.2.2.2.1.2.1, .int .i64 x.1.2.2.2.2.2.2.2.2.2.2.2.2.1.2.2.1, .int .i64 x.1.2.2.2.2.2.2.2.2.2.2.2.2.1.2.2.2, .ro true 94 t10 x.1.2.2.2.2.2.2.2.2.2.2.2.2.2.1, .ro true 119 t11 x.1.2.2.2.2.2.2.2.2.2.2.2.2.2.2]⟩)]
noncomputable def k_l0 (K : Nat) (x : Args ps) : Ex → St → Option Res := kAt (ev K) body [1, 0, 1, 0] fin
noncomputable def N_l0 (K : Nat) (x : Args ps) : A_l0 → Option Res := fun a => evLoop live_l0 (ev K (sub body [1, 0, 1, 0, 0])) K (S_l0 x a) (k_l0 K x)
theorem h_l0 (K : Nat) (x : Args ps) (r_l0 : St → Option Res) (a : A_l0) : ev K (sub body [1, 0, 1, 0, 0]) (S_l0 x a) (kLoop live_l0 r_l0 (k_l0 K x)) = l0.step K x (fun a => r_l0 (S_l0 x a)) a := by kernel_rfl
theorem ok_l0 (K : Nat) (x : Args ps) : N_l0 K x = l0 K x := funext fun a => evLoop_iter live_l0 (ev K (sub body [1, 0, 1, 0, 0])) (k_l0 K x) (S_l0 x) (fun rec a => l0.step K x rec a) (fun r_l0 a => (h_l0 K x r_l0 a)) K a
theorem eqn (K : Nat) (x : Args ps) : evF (G K) T L K Tryz.f163 ps rs true x = f K x := (show evF (G K) T L K Tryz.f163 ps rs true x = pre K (N_l0 K x) x by kernel_rfl).trans (by rw [ok_l0 K x]; rfl)
end spec_l21OthersOk
/-! ### spec.NodeOk -/
namespace spec_NodeOk
@[reducible] def ps : List PK := [.rd t48]
@[reducible] def rs : List RK := [.v false .bool]
abbrev Res := Ress rs × Outs ps
noncomputable def pre (K : Nat) (x : Args ps) : Option Res := (spec_l1In.f K (x.1.1, 0, 7, ())).bind fun y1 => bif !y1.1.1 then (some ((false, ()), ())) else ((spec_l1In.f K (x.1.2.2.2.2.2.1, 0, 999999, ())).bind fun y2 => bif !y2.1.1 then (some ((false, ()), ())) else ((spec_l1In.f K (x.1.2.2.2.2.2.2.1, 0, 999999, ())).bind fun y3 => bif !y3.1.1 then (some ((false, ()), ())) else ((spec_l1In.f K (x.1.2.2.2.2.2.2.2.1, 0, 8, ())).bind fun y4 => bif !y4.1.1 then (some ((false, ()), ())) else ((spec_l1In.f K (x.1.2.2.2.2.1, 0, 999, ())).bind fun y5 => bif !y5.1.1 then (some ((false, ()), ())) else (bif !x.1.2.1 then (bif !x.1.2.2.1 then (bif x.1.2.2.2.2.1 == 0 then (bif x.1.2.2.2.2.2.1 == 0 then (bif x.1.2.2.2.2.2.2.1 == 0 then (bif x.1.2.2.2.2.2.2.2.1 == 0 then (bif (wr .i64 ((wr .i64 ((wr .i64 ((wr .i64 ((List.length x.1.2.2.2.2.2.2.2.2.1 : Int) + (List.length x.1.2.2.2.2.2.2.2.2.2.1 : Int))) + (List.length x.1.2.2.2.2.2.2.2.2.2.2.2.1 : Int))) + (List.length x.1.2.2.2.2.2.2.2.2.2.2.2.2.2.1 : Int))) + (List.length x.1.2.2.2.2.2.2.2.2.2.2.2.2.2.2 : Int))) == 0 then (bif x.1.2.2.2.2.2.2.2.2.2.2.1.1 == 0 then (bif x.1.2.2.2.2.2.2.2.2.2.2.1.2.1 == 0 then (bif x.1.2.2.2.2.2.2.2.2.2.2.1.2.2.1 == 0 then (bif !x.1.2.2.2.2.2.2.2.2.2.2.1.2.2.2 then (bif x.1.2.2.2.2.2.2.2.2.2.2.2.2.1.1 == 0 then (bif x.1.2.2.2.2.2.2.2.2.2.2.2.2.1.2.1 == 0 then (bif x.1.2.2.2.2.2.2.2.2.2.2.2.2.1.2.2.1 == 0 then (some ((x.1.2.2.2.2.2.2.2.2.2.2.2.2.1.2.2.2 == 0, ()), ())) else (some ((false, ()), ()))) else (some ((false, ()), ()))) else (some ((false, ()), ()))) else (some ((false, ()), ()))) else (some ((false, ()), ()))) else (some ((false, ()), ()))) else (some ((false, ()), ()))) else (some ((false, ()), ()))) else (some ((false, ()), ()))) else (some ((false, ()), ()))) else (some ((false, ()), ()))) else (some ((false, ()), ()))) else (some ((false, ()), ()))) else ((spec_TableOk.f K (x.1.2.2.2.2.2.2.2.2.1, ())).bind fun y6 => bif y6.1.1 then ((spec_l21Site.f K (x.1.1, ())).bind fun y7 => (spec_l4Site.f K (x.1.2.2.2.2.2.2.2.2.1, y7.1.1, ())).bind fun y8 => bif y8.1.1 then ((spec_l21Self.f K (x.1, ())).bind fun y9 => bif y9.1.1 then ((spec_l21CastOk.f K (x.1, ())).bind fun y10 => bif y10.1.1 then ((spec_l21ProbeOk.f K (x.1, ())).bind fun y11 => bif y11.1.1 then ((spec_l21DoubtsOk.f K (x.1, ())).bind fun y12 => bif y12.1.1 then ((spec_CoordOk.f K (x.1.2.2.2.2.2.2.2.2.2.2.2.2.1, ())).bind fun y13 => bif y13.1.1 then ((spec_l21PlacesOk.f K (x.1, ())).bind fun y14 => bif y14.1.1 then ((spec_l21OthersOk.f K (x.1, ())).bind fun y15 => some ((y15.1.1, ()), ())) else (some ((false, ()), ()))) else (some ((false, ()), ()))) else (some ((false, ()), ()))) else (some ((false, ()), ()))) else (some ((false, ()), ()))) else (some ((false, ()), ()))) else (some ((false, ()), ()))) else (some ((false, ()), ()))))))))
noncomputable def f (K : Nat) (x : Args ps) : Option Res := pre K x
noncomputable def c (K : Nat) : Ctr := ⟨65, ps, rs, true, f K⟩
noncomputable def G (K : Nat) : List Ctr := [spec_l21Site.c K, spec_l1In.c K, spec_TableOk.c K, spec_l4Site.c K, spec_l21Self.c K, spec_l21CastOk.c K, spec_l21ProbeOk.c K, spec_l21DoubtsOk.c K, spec_CoordOk.c K, spec_l21PlacesOk.c K, spec_l21OthersOk.c K]
noncomputable def L : List (Nat × List (Nat × List Coe)) := []
noncomputable def body : Code := bodyOf Tryz.f65
noncomputable abbrev ev (K : Nat) : Code → St → (Ex → St → Option Res) → Option Res := evK (G K) T L K
noncomputable abbrev fin : Ex → St → Option Res := finK T ps rs true Tryz.f65.results.toList
theorem eqn (K : Nat) (x : Args ps) : evF (G K) T L K Tryz.f65 ps rs true x = f K x := by kernel_rfl
end spec_NodeOk
/-! ### spec.l1Box -/
namespace spec_l1Box
@[reducible] def ps : List PK := [.rd (.int .i64), .rd (.int .i64), .rd (.int .i64)]
@[reducible] def rs : List RK := [.v false (.int .i64)]
abbrev Res := Ress rs × Outs ps
noncomputable def pre (K : Nat) (x : Args ps) : Option Res := bif decide (x.1 < x.2.1) then (some ((x.2.1, ()), ())) else (bif decide (x.1 > x.2.2.1) then (some ((x.2.2.1, ()), ())) else (some ((x.1, ()), ())))
noncomputable def f (K : Nat) (x : Args ps) : Option Res := pre K x
noncomputable def c (K : Nat) : Ctr := ⟨287, ps, rs, true, f K⟩
noncomputable def G (K : Nat) : List Ctr := []
noncomputable def L : List (Nat × List (Nat × List Coe)) := []
noncomputable def body : Code := bodyOf Tryz.f287
noncomputable abbrev ev (K : Nat) : Code → St → (Ex → St → Option Res) → Option Res := evK (G K) T L K
noncomputable abbrev fin : Ex → St → Option Res := finK T ps rs true Tryz.f287.results.toList
theorem eqn (K : Nat) (x : Args ps) : evF (G K) T L K Tryz.f287 ps rs true x = f K x := by kernel_rfl
end spec_l1Box
/-! ### spec.FixClamp -/
namespace spec_FixClamp
@[reducible] def ps : List PK := [.rd (.int .i64)]
@[reducible] def rs : List RK := [.v false (.int .i64)]
abbrev Res := Ress rs × Outs ps
noncomputable def pre (K : Nat) (x : Args ps) : Option Res := (spec_l1Box.f K (x.1, (-1000000000), 1000000000, ())).bind fun y1 => some ((y1.1.1, ()), ())
noncomputable def f (K : Nat) (x : Args ps) : Option Res := pre K x
noncomputable def c (K : Nat) : Ctr := ⟨231, ps, rs, true, f K⟩
noncomputable def G (K : Nat) : List Ctr := [spec_l1Box.c K]
noncomputable def L : List (Nat × List (Nat × List Coe)) := []
noncomputable def body : Code := bodyOf Tryz.f231
noncomputable abbrev ev (K : Nat) : Code → St → (Ex → St → Option Res) → Option Res := evK (G K) T L K
noncomputable abbrev fin : Ex → St → Option Res := finK T ps rs true Tryz.f231.results.toList
theorem eqn (K : Nat) (x : Args ps) : evF (G K) T L K Tryz.f231 ps rs true x = f K x := by kernel_rfl
end spec_FixClamp
/-! ### spec.l1Root -/
namespace spec_l1Root
@[reducible] def ps : List PK := [.rd (.int .i64)]
@[reducible] def rs : List RK := [.v false (.int .i64)]
abbrev Res := Ress rs × Outs ps
abbrev A_l0 := Int × Int
noncomputable def l0.step (K : Nat) (x : Args ps) (rec_l0 : A_l0 → Option Res) (a : A_l0) : Option Res := bif decide (a.1 < a.2) then (bif decide (wr .i64 (Int.tdiv (wr .i64 ((wr .i64 (a.1 + a.2)) + 1)) 2) = 0) then none else (bif decide ((wr .i64 (Int.tdiv (wr .i64 ((wr .i64 (a.1 + a.2)) + 1)) 2)) ≤ (wr .i64 (Int.tdiv x.1 (wr .i64 (Int.tdiv (wr .i64 ((wr .i64 (a.1 + a.2)) + 1)) 2))))) then (rec_l0 (wr .i64 (Int.tdiv (wr .i64 ((wr .i64 (a.1 + a.2)) + 1)) 2), a.2)) else (rec_l0 (a.1, wr .i64 ((wr .i64 (Int.tdiv (wr .i64 ((wr .i64 (a.1 + a.2)) + 1)) 2)) - 1))))) else (some ((a.1, ()), ()))
noncomputable def l0 (K : Nat) (x : Args ps) : A_l0 → Option Res := iterate (fun rec_l0 a => l0.step K x rec_l0 a) K
noncomputable def pre (K : Nat) (N_l0 : A_l0 → Option Res) (x : Args ps) : Option Res := N_l0 (0, 1500000000)
noncomputable def f (K : Nat) (x : Args ps) : Option Res := pre K (l0 K x) x
noncomputable def c (K : Nat) : Ctr := ⟨232, ps, rs, true, f K⟩
noncomputable def G (K : Nat) : List Ctr := []
noncomputable def live_l0 : List (Nat × List Coe) := [(0, [.keep]), (3, [.keep]), (4, [.keep])]
noncomputable def L : List (Nat × List (Nat × List Coe)) := [(4, live_l0)]
noncomputable def body : Code := bodyOf Tryz.f232
noncomputable abbrev ev (K : Nat) : Code → St → (Ex → St → Option Res) → Option Res := evK (G K) T L K
noncomputable abbrev fin : Ex → St → Option Res := finK T ps rs true Tryz.f232.results.toList
noncomputable def S_l0 (x : Args ps) (a : A_l0) : St := mkSt [(0, ⟨0, .one, [.int .i64 x.1]⟩), (3, ⟨0, .one, [.int .i64 a.1]⟩), (4, ⟨0, .one, [.int .i64 a.2]⟩)]
noncomputable def k_l0 (K : Nat) (x : Args ps) : Ex → St → Option Res := kAt (ev K) body [1, 1, 1, 0, 0] fin
noncomputable def N_l0 (K : Nat) (x : Args ps) : A_l0 → Option Res := fun a => evLoop live_l0 (ev K (sub body [1, 1, 1, 0, 0, 0])) K (S_l0 x a) (k_l0 K x)
theorem h_l0 (K : Nat) (x : Args ps) (r_l0 : St → Option Res) (a : A_l0) : ev K (sub body [1, 1, 1, 0, 0, 0]) (S_l0 x a) (kLoop live_l0 r_l0 (k_l0 K x)) = l0.step K x (fun a => r_l0 (S_l0 x a)) a := by kernel_rfl
theorem ok_l0 (K : Nat) (x : Args ps) : N_l0 K x = l0 K x := funext fun a => evLoop_iter live_l0 (ev K (sub body [1, 1, 1, 0, 0, 0])) (k_l0 K x) (S_l0 x) (fun rec a => l0.step K x rec a) (fun r_l0 a => (h_l0 K x r_l0 a)) K a
theorem eqn (K : Nat) (x : Args ps) : evF (G K) T L K Tryz.f232 ps rs true x = f K x := (show evF (G K) T L K Tryz.f232 ps rs true x = pre K (N_l0 K x) x by kernel_rfl).trans (by rw [ok_l0 K x]; rfl)
end spec_l1Root
/-! ### spec.FixNorm -/
namespace spec_FixNorm
@[reducible] def ps : List PK := [.rd (.int .i64), .rd (.int .i64)]
@[reducible] def rs : List RK := [.v false (.int .i64)]
abbrev Res := Ress rs × Outs ps
noncomputable def pre (K : Nat) (x : Args ps) : Option Res := (spec_FixClamp.f K (x.1, ())).bind fun y1 => (spec_FixClamp.f K (x.2.1, ())).bind fun y2 => (spec_l1Root.f K (wr .i64 ((wr .i64 (y1.1.1 * y1.1.1)) + (wr .i64 (y2.1.1 * y2.1.1))), ())).bind fun y3 => (spec_FixClamp.f K (y3.1.1, ())).bind fun y4 => some ((y4.1.1, ()), ())
noncomputable def f (K : Nat) (x : Args ps) : Option Res := pre K x
noncomputable def c (K : Nat) : Ctr := ⟨164, ps, rs, true, f K⟩
noncomputable def G (K : Nat) : List Ctr := [spec_FixClamp.c K, spec_l1Root.c K]
noncomputable def L : List (Nat × List (Nat × List Coe)) := []
noncomputable def body : Code := bodyOf Tryz.f164
noncomputable abbrev ev (K : Nat) : Code → St → (Ex → St → Option Res) → Option Res := evK (G K) T L K
noncomputable abbrev fin : Ex → St → Option Res := finK T ps rs true Tryz.f164.results.toList
theorem eqn (K : Nat) (x : Args ps) : evF (G K) T L K Tryz.f164 ps rs true x = f K x := by kernel_rfl
end spec_FixNorm
/-! ### spec.CoordDist -/
namespace spec_CoordDist
@[reducible] def ps : List PK := [.rd t5, .rd t5]
@[reducible] def rs : List RK := [.v false (.int .i64)]
abbrev Res := Ress rs × Outs ps
noncomputable def pre (K : Nat) (x : Args ps) : Option Res := (spec_CoordOk.f K (x.1, ())).bind fun y1 => bif !y1.1.1 then (some ((0, ()), ())) else ((spec_CoordOk.f K (x.2.1, ())).bind fun y2 => bif !y2.1.1 then (some ((0, ()), ())) else ((spec_FixNorm.f K (wr .i64 (x.1.1 - x.2.1.1), wr .i64 (x.1.2.1 - x.2.1.2.1), ())).bind fun y3 => some ((wr .i64 ((wr .i64 (y3.1.1 + x.1.2.2.1)) + x.2.1.2.2.1), ()), ())))
noncomputable def f (K : Nat) (x : Args ps) : Option Res := pre K x
noncomputable def c (K : Nat) : Ctr := ⟨66, ps, rs, true, f K⟩
noncomputable def G (K : Nat) : List Ctr := [spec_CoordOk.c K, spec_FixNorm.c K]
noncomputable def L : List (Nat × List (Nat × List Coe)) := []
noncomputable def body : Code := bodyOf Tryz.f66
noncomputable abbrev ev (K : Nat) : Code → St → (Ex → St → Option Res) → Option Res := evK (G K) T L K
noncomputable abbrev fin : Ex → St → Option Res := finK T ps rs true Tryz.f66.results.toList
theorem eqn (K : Nat) (x : Args ps) : evF (G K) T L K Tryz.f66 ps rs true x = f K x := by kernel_rfl
end spec_CoordDist
/-! ### spec.NodeTrip -/
namespace spec_NodeTrip
@[reducible] def ps : List PK := [.rd t48, .rd (.int .i64)]
@[reducible] def rs : List RK := [.v false (.int .i64), .v false .bool]
abbrev Res := Ress rs × Outs ps
abbrev A_l0 := Int
noncomputable def l0.step (K : Nat) (x : Args ps) (rec_l0 : A_l0 → Option Res) (a : A_l0) : Option Res := bif decide (a < (List.length x.1.2.2.2.2.2.2.2.2.2.2.2.2.2.1 : Int)) then ((idx x.1.2.2.2.2.2.2.2.2.2.2.2.2.2.1 a).bind fun y2 => bif y2.1 == x.2.1 then ((idx x.1.2.2.2.2.2.2.2.2.2.2.2.2.2.1 a).bind fun y3 => (spec_CoordDist.f K (x.1.2.2.2.2.2.2.2.2.2.2.2.2.1, y3.2.1, ())).bind fun y4 => some ((y4.1.1, true, ()), ())) else (rec_l0 (wr .i64 (a + 1)))) else (some ((0, false, ()), ()))
noncomputable def l0 (K : Nat) (x : Args ps) : A_l0 → Option Res := iterate (fun rec_l0 a => l0.step K x rec_l0 a) K
noncomputable def pre (K : Nat) (N_l0 : A_l0 → Option Res) (x : Args ps) : Option Res := (spec_NodeOk.f K (x.1, ())).bind fun y1 => bif !y1.1.1 then (some ((0, false, ()), ())) else (N_l0 0)
noncomputable def f (K : Nat) (x : Args ps) : Option Res := pre K (l0 K x) x
noncomputable def c (K : Nat) : Ctr := ⟨16, ps, rs, true, f K⟩
noncomputable def G (K : Nat) : List Ctr := [spec_NodeOk.c K, spec_CoordDist.c K]
noncomputable def live_l0 : List (Nat × List Coe) := [(1, [.keep]), (2, [.keep]), (6, [.keep]), (100002, [.keep, .keep, .keep, .keep, .keep, .keep, .keep, .keep, .ro true 132 t2, .ro true 173 t12, .keep, .keep, .keep, .keep, .ro true 177 t8, .keep, .keep, .keep, .keep, .ro true 94 t10, .ro true 119 t11])]
noncomputable def L : List (Nat × List (Nat × List Coe)) := [(5, live_l0)]
noncomputable def body : Code := bodyOf Tryz.f16
noncomputable abbrev ev (K : Nat) : Code → St → (Ex → St → Option Res) → Option Res := evK (G K) T L K
noncomputable abbrev fin : Ex → St → Option Res := finK T ps rs true Tryz.f16.results.toList
noncomputable def S_l0 (x : Args ps) (a : A_l0) : St := mkSt [(1, ⟨0, .one, [.int .i64 x.2.1]⟩), (2, ⟨0, .one, [.bp 100002 0]⟩), (6, ⟨0, .one, [.int .i64 a]⟩), (100002, ⟨0, .agg, [.int .i64 x.1.1, .bool x.1.2.1, .bool x.1.2.2.1, .bool x.1.2.2.2.1, .int .i64 x.1.2.2.2.2.1, .int .i64 x.1.2.2.2.2.2.1, .int .i64 x.1.2.2.2.2.2.2.1, .int .i64 x.1.2.2.2.2.2.2.2.1, .ro true 132 t2 x.1.2.2.2.2.2.2.2.2.1, .ro true 173 t12 x.1.2.2.2.2.2.2.2.2.2.1, .int .i64 x.1.2.2.2.2.2.2.2.2.2.2.1.1, .int .i64 x.1.2.2.2.2.2.2.2.2.2.2.1.2.1, .int .i64 x.1.2.2.2.2.2.2.2.2.2.2.1.2.2.1, .bool x.1.2.2.2.2.2.2.2.2.2.2.1.2.2.2, .ro true 177 t8 x.1.2.2.2.2.2.2.2.2.2.2.2.1, .int .i64 x.1.2.2.2.2.2.2.2.2.2.2.2.2.1.1, .int .i64 x.1.2.2.2.2.2.2.2.2.2.2.2.2.1.2.1, .int .i64 x.1.2.2.2.2.2.2.2.2.2.2.2.2.1.2.2.1, .int .i64 x.1.2.2.2.2.2.2.2.2.2.2.2.2.1.2.2.2, .ro true 94 t10 x.1.2.2.2.2.2.2.2.2.2.2.2.2.2.1, .ro true 119 t11 x.1.2.2.2.2.2.2.2.2.2.2.2.2.2.2]⟩)]
noncomputable def k_l0 (K : Nat) (x : Args ps) : Ex → St → Option Res := kAt (ev K) body [1, 1, 0, 1, 0] fin
noncomputable def N_l0 (K : Nat) (x : Args ps) : A_l0 → Option Res := fun a => evLoop live_l0 (ev K (sub body [1, 1, 0, 1, 0, 0])) K (S_l0 x a) (k_l0 K x)
theorem h_l0 (K : Nat) (x : Args ps) (r_l0 : St → Option Res) (a : A_l0) : ev K (sub body [1, 1, 0, 1, 0, 0]) (S_l0 x a) (kLoop live_l0 r_l0 (k_l0 K x)) = l0.step K x (fun a => r_l0 (S_l0 x a)) a := by kernel_rfl
theorem ok_l0 (K : Nat) (x : Args ps) : N_l0 K x = l0 K x := funext fun a => evLoop_iter live_l0 (ev K (sub body [1, 1, 0, 1, 0, 0])) (k_l0 K x) (S_l0 x) (fun rec a => l0.step K x rec a) (fun r_l0 a => (h_l0 K x r_l0 a)) K a
theorem eqn (K : Nat) (x : Args ps) : evF (G K) T L K Tryz.f16 ps rs true x = f K x := (show evF (G K) T L K Tryz.f16 ps rs true x = pre K (N_l0 K x) x by kernel_rfl).trans (by rw [ok_l0 K x]; rfl)
end spec_NodeTrip
/-! ### impl.Place] -/
namespace slices_IndexFunc_impl_Place_impl_Place
@[reducible] def ps : List PK := [.rd (.list 94 t10), .fn [t10] .bool]
@[reducible] def rs : List RK := [.v false (.int .i64)]
abbrev Res := Ress rs × Outs ps
abbrev A_l0 := Int
noncomputable def l0.step (K : Nat) (x : Args ps) (rec_l0 : A_l0 → Option Res) (a : A_l0) : Option Res := bif decide (a < (List.length x.1 : Int)) then ((idx x.1 a).bind fun y1 => (x.2.1 (y1, ())).bind fun y2 => bif y2 then (some ((a, ()), ())) else (rec_l0 (wr .i64 (a + 1)))) else (some (((-1), ()), ()))
noncomputable def l0 (K : Nat) (x : Args ps) : A_l0 → Option Res := iterate (fun rec_l0 a => l0.step K x rec_l0 a) K
noncomputable def pre (K : Nat) (N_l0 : A_l0 → Option Res) (x : Args ps) : Option Res := N_l0 0
noncomputable def f (K : Nat) (x : Args ps) : Option Res := pre K (l0 K x) x
noncomputable def c (K : Nat) : Ctr := ⟨74, ps, rs, true, f K⟩
noncomputable def G (K : Nat) : List Ctr := []
noncomputable def live_l0 : List (Nat × List Coe) := [(0, [.ro true 94 t10]), (1, [.keep]), (7, [.keep]), (8, [.keep])]
noncomputable def L : List (Nat × List (Nat × List Coe)) := [(3, live_l0)]
noncomputable def body : Code := bodyOf Tryz.f74
noncomputable abbrev ev (K : Nat) : Code → St → (Ex → St → Option Res) → Option Res := evK (G K) T L K
noncomputable abbrev fin : Ex → St → Option Res := finK T ps rs true Tryz.f74.results.toList
noncomputable def S_l0 (x : Args ps) (a : A_l0) : St := mkSt [(0, ⟨0, .one, [.ro true 94 t10 x.1]⟩), (1, ⟨0, .one, [.fn [t10] .bool x.2.1]⟩), (7, ⟨0, .one, [.int .i64 (List.length x.1 : Int)]⟩), (8, ⟨0, .one, [.int .i64 a]⟩)]
noncomputable def k_l0 (K : Nat) (x : Args ps) : Ex → St → Option Res := kAt (ev K) body [1, 0, 1, 0] fin
noncomputable def N_l0 (K : Nat) (x : Args ps) : A_l0 → Option Res := fun a => evLoop live_l0 (ev K (sub body [1, 0, 1, 0, 0])) K (S_l0 x a) (k_l0 K x)
theorem h_l0 (K : Nat) (x : Args ps) (r_l0 : St → Option Res) (a : A_l0) : ev K (sub body [1, 0, 1, 0, 0]) (S_l0 x a) (kLoop live_l0 r_l0 (k_l0 K x)) = l0.step K x (fun a => r_l0 (S_l0 x a)) a := by kernel_rfl
theorem ok_l0 (K : Nat) (x : Args ps) : N_l0 K x = l0 K x := funext fun a => evLoop_iter live_l0 (ev K (sub body [1, 0, 1, 0, 0])) (k_l0 K x) (S_l0 x) (fun rec a => l0.step K x rec a) (fun r_l0 a => (h_l0 K x r_l0 a)) K a
theorem eqn (K : Nat) (x : Args ps) : evF (G K) T L K Tryz.f74 ps rs true x = f K x := (show evF (G K) T L K Tryz.f74 ps rs true x = pre K (N_l0 K x) x by kernel_rfl).trans (by rw [ok_l0 K x]; rfl)
end slices_IndexFunc_impl_Place_impl_Place
/-! ### impl.NodeTrip$1 -/
namespace impl_NodeTrip_1
@[reducible] def ps : List PK := [.rd t10, .rref (.int .i64)]
@[reducible] def rs : List RK := [.v false .bool]
abbrev Res := Ress rs × Outs ps
noncomputable def pre (K : Nat) (x : Args ps) : Option Res := some ((x.1.1 == x.2.1, ()), ())
noncomputable def f (K : Nat) (x : Args ps) : Option Res := pre K x
noncomputable def c (K : Nat) : Ctr := ⟨75, ps, rs, true, f K⟩
noncomputable def G (K : Nat) : List Ctr := []
noncomputable def L : List (Nat × List (Nat × List Coe)) := []
noncomputable def body : Code := bodyOf Tryz.f75
noncomputable abbrev ev (K : Nat) : Code → St → (Ex → St → Option Res) → Option Res := evK (G K) T L K
noncomputable abbrev fin : Ex → St → Option Res := finK T ps rs true Tryz.f75.results.toList
theorem eqn (K : Nat) (x : Args ps) : evF (G K) T L K Tryz.f75 ps rs true x = f K x := by kernel_rfl
end impl_NodeTrip_1
/-! ### impl.in -/
namespace impl_in
@[reducible] def ps : List PK := [.rd (.int .i64), .rd (.int .i64), .rd (.int .i64)]
@[reducible] def rs : List RK := [.v false .bool]
abbrev Res := Ress rs × Outs ps
noncomputable def pre (K : Nat) (x : Args ps) : Option Res := bif decide (x.1 ≥ x.2.1) then (some ((decide (x.1 ≤ x.2.2.1), ()), ())) else (some ((false, ()), ()))
noncomputable def f (K : Nat) (x : Args ps) : Option Res := pre K x
noncomputable def c (K : Nat) : Ctr := ⟨111, ps, rs, true, f K⟩
noncomputable def G (K : Nat) : List Ctr := []
noncomputable def L : List (Nat × List (Nat × List Coe)) := []
noncomputable def body : Code := bodyOf Tryz.f111
noncomputable abbrev ev (K : Nat) : Code → St → (Ex → St → Option Res) → Option Res := evK (G K) T L K
noncomputable abbrev fin : Ex → St → Option Res := finK T ps rs true Tryz.f111.results.toList
theorem eqn (K : Nat) (x : Args ps) : evF (G K) T L K Tryz.f111 ps rs true x = f K x := by kernel_rfl
end impl_in
/-! ### impl.isNode -/
namespace impl_isNode
@[reducible] def ps : List PK := [.rd (.int .i64)]
@[reducible] def rs : List RK := [.v false .bool]
abbrev Res := Ress rs × Outs ps
noncomputable def pre (K : Nat) (x : Args ps) : Option Res := (impl_in.f K (x.1, 0, 7, ())).bind fun y1 => some ((y1.1.1, ()), ())
noncomputable def f (K : Nat) (x : Args ps) : Option Res := pre K x
noncomputable def c (K : Nat) : Ctr := ⟨116, ps, rs, true, f K⟩
noncomputable def G (K : Nat) : List Ctr := [impl_in.c K]
noncomputable def L : List (Nat × List (Nat × List Coe)) := []
noncomputable def body : Code := bodyOf Tryz.f116
noncomputable abbrev ev (K : Nat) : Code → St → (Ex → St → Option Res) → Option Res := evK (G K) T L K
noncomputable abbrev fin : Ex → St → Option Res := finK T ps rs true Tryz.f116.results.toList
theorem eqn (K : Nat) (x : Args ps) : evF (G K) T L K Tryz.f116 ps rs true x = f K x := by kernel_rfl
end impl_isNode
/-! ### impl.Node).isDown -/
namespace impl_Node_isDown
@[reducible] def ps : List PK := [.rd t48]
@[reducible] def rs : List RK := [.v false .bool]
abbrev Res := Ress rs × Outs ps
noncomputable def pre (K : Nat) (x : Args ps) : Option Res := bif !x.1.2.2.1 then (bif x.1.2.2.2.2.1 == 0 then (bif x.1.2.2.2.2.2.1 == 0 then (bif x.1.2.2.2.2.2.2.1 == 0 then (bif x.1.2.2.2.2.2.2.2.1 == 0 then (bif (wr .i64 ((wr .i64 ((wr .i64 ((wr .i64 ((List.length x.1.2.2.2.2.2.2.2.2.1 : Int) + (List.length x.1.2.2.2.2.2.2.2.2.2.1 : Int))) + (List.length x.1.2.2.2.2.2.2.2.2.2.2.2.1 : Int))) + (List.length x.1.2.2.2.2.2.2.2.2.2.2.2.2.2.1 : Int))) + (List.length x.1.2.2.2.2.2.2.2.2.2.2.2.2.2.2 : Int))) == 0 then (bif Ty.eqv t2 x.1.2.2.2.2.2.2.2.2.2.2.1 (0, (0, (0, false))) then (some ((Ty.eqv t5 x.1.2.2.2.2.2.2.2.2.2.2.2.2.1 (0, (0, (0, 0))), ()), ())) else (some ((false, ()), ()))) else (some ((false, ()), ()))) else (some ((false, ()), ()))) else (some ((false, ()), ()))) else (some ((false, ()), ()))) else (some ((false, ()), ()))) else (some ((false, ()), ()))
noncomputable def f (K : Nat) (x : Args ps) : Option Res := pre K x
noncomputable def c (K : Nat) : Ctr := ⟨170, ps, rs, true, f K⟩
noncomputable def G (K : Nat) : List Ctr := []
noncomputable def L : List (Nat × List (Nat × List Coe)) := []
noncomputable def body : Code := bodyOf Tryz.f170
noncomputable abbrev ev (K : Nat) : Code → St → (Ex → St → Option Res) → Option Res := evK (G K) T L K
noncomputable abbrev fin : Ex → St → Option Res := finK T ps rs true Tryz.f170.results.toList
theorem eqn (K : Nat) (x : Args ps) : evF (G K) T L K Tryz.f170 ps rs true x = f K x := by kernel_rfl
end impl_Node_isDown
/-! ### impl.FactOk -/
namespace impl_FactOk
@[reducible] def ps : List PK := [.rd t2]
@[reducible] def rs : List RK := [.v false .bool]
abbrev Res := Ress rs × Outs ps
noncomputable def pre (K : Nat) (x : Args ps) : Option Res := (impl_isNode.f K (x.1.1, ())).bind fun y1 => bif y1.1.1 then ((impl_in.f K (x.1.2.1, 0, 999, ())).bind fun y2 => bif y2.1.1 then ((impl_in.f K (x.1.2.2.1, 1, 4, ())).bind fun y3 => some ((y3.1.1, ()), ())) else (some ((false, ()), ()))) else (some ((false, ()), ()))
noncomputable def f (K : Nat) (x : Args ps) : Option Res := pre K x
noncomputable def c (K : Nat) : Ctr := ⟨112, ps, rs, true, f K⟩
noncomputable def G (K : Nat) : List Ctr := [impl_in.c K, impl_isNode.c K]
noncomputable def L : List (Nat × List (Nat × List Coe)) := []
noncomputable def body : Code := bodyOf Tryz.f112
noncomputable abbrev ev (K : Nat) : Code → St → (Ex → St → Option Res) → Option Res := evK (G K) T L K
noncomputable abbrev fin : Ex → St → Option Res := finK T ps rs true Tryz.f112.results.toList
theorem eqn (K : Nat) (x : Args ps) : evF (G K) T L K Tryz.f112 ps rs true x = f K x := by kernel_rfl
end impl_FactOk
/-! ### impl.TableOk -/
namespace impl_TableOk
@[reducible] def ps : List PK := [.rd (.list 132 t2)]
@[reducible] def rs : List RK := [.v false .bool]
abbrev Res := Ress rs × Outs ps
abbrev A_l0 := Int
noncomputable def l0.step (K : Nat) (x : Args ps) (rec_l0 : A_l0 → Option Res) (a : A_l0) : Option Res := bif decide (a < (List.length x.1 : Int)) then ((idx x.1 a).bind fun y1 => (impl_FactOk.f K (y1, ())).bind fun y2 => bif !y2.1.1 then (some ((false, ()), ())) else (bif decide (a > 0) then ((idx x.1 (wr .i64 (a - 1))).bind fun y3 => bif decide (y1.1 ≤ y3.1) then (some ((false, ()), ())) else (rec_l0 (wr .i64 (a + 1)))) else (rec_l0 (wr .i64 (a + 1))))) else (some ((true, ()), ()))
noncomputable def l0 (K : Nat) (x : Args ps) : A_l0 → Option Res := iterate (fun rec_l0 a => l0.step K x rec_l0 a) K
noncomputable def pre (K : Nat) (N_l0 : A_l0 → Option Res) (x : Args ps) : Option Res := N_l0 0
noncomputable def f (K : Nat) (x : Args ps) : Option Res := pre K (l0 K x) x
noncomputable def c (K : Nat) : Ctr := ⟨182, ps, rs, true, f K⟩
noncomputable def G (K : Nat) : List Ctr := [impl_FactOk.c K]
noncomputable def live_l0 : List (Nat × List Coe) := [(0, [.ro true 132 t2]), (5, [.ro true 132 t2]), (6, [.keep]), (7, [.keep])]
noncomputable def L : List (Nat × List (Nat × List Coe)) := [(3, live_l0)]
noncomputable def body : Code := bodyOf Tryz.f182
noncomputable abbrev ev (K : Nat) : Code → St → (Ex → St → Option Res) → Option Res := evK (G K) T L K
noncomputable abbrev fin : Ex → St → Option Res := finK T ps rs true Tryz.f182.results.toList
noncomputable def S_l0 (x : Args ps) (a : A_l0) : St := mkSt [(0, ⟨0, .one, [.ro true 132 t2 x.1]⟩), (5, ⟨0, .one, [.ro true 132 t2 x.1]⟩), (6, ⟨0, .one, [.int .i64 (List.length x.1 : Int)]⟩), (7, ⟨0, .one, [.int .i64 a]⟩)]
noncomputable def k_l0 (K : Nat) (x : Args ps) : Ex → St → Option Res := kAt (ev K) body [1, 0, 1, 0] fin
noncomputable def N_l0 (K : Nat) (x : Args ps) : A_l0 → Option Res := fun a => evLoop live_l0 (ev K (sub body [1, 0, 1, 0, 0])) K (S_l0 x a) (k_l0 K x)
theorem h_l0 (K : Nat) (x : Args ps) (r_l0 : St → Option Res) (a : A_l0) : ev K (sub body [1, 0, 1, 0, 0]) (S_l0 x a) (kLoop live_l0 r_l0 (k_l0 K x)) = l0.step K x (fun a => r_l0 (S_l0 x a)) a := by kernel_rfl
theorem ok_l0 (K : Nat) (x : Args ps) : N_l0 K x = l0 K x := funext fun a => evLoop_iter live_l0 (ev K (sub body [1, 0, 1, 0, 0])) (k_l0 K x) (S_l0 x) (fun rec a => l0.step K x rec a) (fun r_l0 a => (h_l0 K x r_l0 a)) K a
theorem eqn (K : Nat) (x : Args ps) : evF (G K) T L K Tryz.f182 ps rs true x = f K x := (show evF (G K) T L K Tryz.f182 ps rs true x = pre K (N_l0 K x) x by kernel_rfl).trans (by rw [ok_l0 K x]; rfl)
end impl_TableOk
/-! ### impl.Fact,int] -/
namespace slices_BinarySearchFunc_impl_Fact_impl_Fact_int
@[reducible] def ps : List PK := [.rd (.list 132 t2), .rd (.int .i64), .fn [t2, (.int .i64)] (.int .i64)]
@[reducible] def rs : List RK := [.v false (.int .i64), .v false .bool]
abbrev Res := Ress rs × Outs ps
abbrev A_l0 := Int × Int
noncomputable def l0.step (K : Nat) (x : Args ps) (rec_l0 : A_l0 → Option Res) (a : A_l0) : Option Res := bif decide (a.1 < a.2) then ((idx x.1 (wr .i64 (Int.fdiv (wr .u64 (wr .i64 (a.1 + a.2))) (2 ^ 1)))).bind fun y1 => (x.2.2.1 (y1, x.2.1, ())).bind fun y2 => bif decide (y2 < 0) then (rec_l0 (wr .i64 ((wr .i64 (Int.fdiv (wr .u64 (wr .i64 (a.1 + a.2))) (2 ^ 1))) + 1), a.2)) else (rec_l0 (a.1, wr .i64 (Int.fdiv (wr .u64 (wr .i64 (a.1 + a.2))) (2 ^ 1))))) else (bif decide (a.1 < (List.length x.1 : Int)) then ((idx x.1 a.1).bind fun y3 => (x.2.2.1 (y3, x.2.1, ())).bind fun y4 => some ((a.1, y4 == 0, ()), ())) else (some ((a.1, false, ()), ())))
noncomputable def l0 (K : Nat) (x : Args ps) : A_l0 → Option Res := iterate (fun rec_l0 a => l0.step K x rec_l0 a) K
noncomputable def pre (K : Nat) (N_l0 : A_l0 → Option Res) (x : Args ps) : Option Res := N_l0 (0, (List.length x.1 : Int))
noncomputable def f (K : Nat) (x : Args ps) : Option Res := pre K (l0 K x) x
noncomputable def c (K : Nat) : Ctr := ⟨293, ps, rs, true, f K⟩
noncomputable def G (K : Nat) : List Ctr := []
noncomputable def live_l0 : List (Nat × List Coe) := [(0, [.ro true 132 t2]), (1, [.keep]), (2, [.keep]), (8, [.keep]), (9, [.keep]), (10, [.keep])]
noncomputable def L : List (Nat × List (Nat × List Coe)) := [(4, live_l0)]
noncomputable def body : Code := bodyOf Tryz.f293
noncomputable abbrev ev (K : Nat) : Code → St → (Ex → St → Option Res) → Option Res := evK (G K) T L K
noncomputable abbrev fin : Ex → St → Option Res := finK T ps rs true Tryz.f293.results.toList
noncomputable def S_l0 (x : Args ps) (a : A_l0) : St := mkSt [(0, ⟨0, .one, [.ro true 132 t2 x.1]⟩), (1, ⟨0, .one, [.int .i64 x.2.1]⟩), (2, ⟨0, .one, [.fn [t2, (.int .i64)] (.int .i64) x.2.2.1]⟩), (8, ⟨0, .one, [.int .i64 (List.length x.1 : Int)]⟩), (9, ⟨0, .one, [.int .i64 a.1]⟩), (10, ⟨0, .one, [.int .i64 a.2]⟩)]
noncomputable def k_l0 (K : Nat) (x : Args ps) : Ex → St → Option Res := kAt (ev K) body [1, 1, 1, 0, 0] fin
noncomputable def N_l0 (K : Nat) (x : Args ps) : A_l0 → Option Res := fun a => evLoop live_l0 (ev K (sub body [1, 1, 1, 0, 0, 0])) K (S_l0 x a) (k_l0 K x)
theorem h_l0 (K : Nat) (x : Args ps) (r_l0 : St → Option Res) (a : A_l0) : ev K (sub body [1, 1, 1, 0, 0, 0]) (S_l0 x a) (kLoop live_l0 r_l0 (k_l0 K x)) = l0.step K x (fun a => r_l0 (S_l0 x a)) a := by kernel_rfl
theorem ok_l0 (K : Nat) (x : Args ps) : N_l0 K x = l0 K x := funext fun a => evLoop_iter live_l0 (ev K (sub body [1, 1, 1, 0, 0, 0])) (k_l0 K x) (S_l0 x) (fun rec a => l0.step K x rec a) (fun r_l0 a => (h_l0 K x r_l0 a)) K a
theorem eqn (K : Nat) (x : Args ps) : evF (G K) T L K Tryz.f293 ps rs true x = f K x := (show evF (G K) T L K Tryz.f293 ps rs true x = pre K (N_l0 K x) x by kernel_rfl).trans (by rw [ok_l0 K x]; rfl)
end slices_BinarySearchFunc_impl_Fact_impl_Fact_int
/-! ### cmp.isNaN[int] -/
namespace cmp_isNaN_int
@[reducible] def ps : List PK := [.rd (.int .i64)]
@[reducible] def rs : List RK := [.v false .bool]
abbrev Res := Ress rs × Outs ps
noncomputable def pre (K : Nat) (x : Args ps) : Option Res := some ((x.1 != x.1, ()), ())
noncomputable def f (K : Nat) (x : Args ps) : Option Res := pre K x
noncomputable def c (K : Nat) : Ctr := ⟨193, ps, rs, true, f K⟩
noncomputable def G (K : Nat) : List Ctr := []
noncomputable def L : List (Nat × List (Nat × List Coe)) := []
noncomputable def body : Code := bodyOf Tryz.f193
noncomputable abbrev ev (K : Nat) : Code → St → (Ex → St → Option Res) → Option Res := evK (G K) T L K
noncomputable abbrev fin : Ex → St → Option Res := finK T ps rs true Tryz.f193.results.toList
theorem eqn (K : Nat) (x : Args ps) : evF (G K) T L K Tryz.f193 ps rs true x = f K x := by kernel_rfl
end cmp_isNaN_int
/-! ### cmp.Compare[int] -/
namespace cmp_Compare_int
@[reducible] def ps : List PK := [.rd (.int .i64), .rd (.int .i64)]
@[reducible] def rs : List RK := [.v false (.int .i64)]
abbrev Res := Ress rs × Outs ps
noncomputable def pre (K : Nat) (x : Args ps) : Option Res := (cmp_isNaN_int.f K (x.1, ())).bind fun y1 => (cmp_isNaN_int.f K (x.2.1, ())).bind fun y2 => bif y1.1.1 then (bif y2.1.1 then (some ((0, ()), ())) else (some (((-1), ()), ()))) else (bif y2.1.1 then (some ((1, ()), ())) else (bif decide (x.1 < x.2.1) then (some (((-1), ()), ())) else (bif decide (x.1 > x.2.1) then (some ((1, ()), ())) else (some ((0, ()), ())))))
noncomputable def f (K : Nat) (x : Args ps) : Option Res := pre K x
noncomputable def c (K : Nat) : Ctr := ⟨123, ps, rs, true, f K⟩
noncomputable def G (K : Nat) : List Ctr := [cmp_isNaN_int.c K]
noncomputable def L : List (Nat × List (Nat × List Coe)) := []
noncomputable def body : Code := bodyOf Tryz.f123
noncomputable abbrev ev (K : Nat) : Code → St → (Ex → St → Option Res) → Option Res := evK (G K) T L K
noncomputable abbrev fin : Ex → St → Option Res := finK T ps rs true Tryz.f123.results.toList
theorem eqn (K : Nat) (x : Args ps) : evF (G K) T L K Tryz.f123 ps rs true x = f K x := by kernel_rfl
end cmp_Compare_int
/-! ### impl.find$1 -/
namespace impl_find_1
@[reducible] def ps : List PK := [.rd t2, .rd (.int .i64)]
@[reducible] def rs : List RK := [.v false (.int .i64)]
abbrev Res := Ress rs × Outs ps
noncomputable def pre (K : Nat) (x : Args ps) : Option Res := (cmp_Compare_int.f K (x.1.1, x.2.1, ())).bind fun y1 => some ((y1.1.1, ()), ())
noncomputable def f (K : Nat) (x : Args ps) : Option Res := pre K x
noncomputable def c (K : Nat) : Ctr := ⟨294, ps, rs, true, f K⟩
noncomputable def G (K : Nat) : List Ctr := [cmp_Compare_int.c K]
noncomputable def L : List (Nat × List (Nat × List Coe)) := []
noncomputable def body : Code := bodyOf Tryz.f294
noncomputable abbrev ev (K : Nat) : Code → St → (Ex → St → Option Res) → Option Res := evK (G K) T L K
noncomputable abbrev fin : Ex → St → Option Res := finK T ps rs true Tryz.f294.results.toList
theorem eqn (K : Nat) (x : Args ps) : evF (G K) T L K Tryz.f294 ps rs true x = f K x := by kernel_rfl
end impl_find_1
/-! ### impl.find -/
namespace impl_find
@[reducible] def ps : List PK := [.rd (.list 132 t2), .rd (.int .i64)]
@[reducible] def rs : List RK := [.v false (.int .i64), .v false .bool]
abbrev Res := Ress rs × Outs ps
noncomputable def pre (K : Nat) (x : Args ps) : Option Res := (slices_BinarySearchFunc_impl_Fact_impl_Fact_int.f K (x.1, x.2.1, fun y1 => (impl_find_1.f K (y1.1, y1.2.1, ())).map fun y => y.1.1, ())).bind fun y2 => some ((y2.1.1, y2.1.2.1, ()), ())
noncomputable def f (K : Nat) (x : Args ps) : Option Res := pre K x
noncomputable def c (K : Nat) : Ctr := ⟨243, ps, rs, true, f K⟩
noncomputable def G (K : Nat) : List Ctr := [slices_BinarySearchFunc_impl_Fact_impl_Fact_int.c K, impl_find_1.c K]
noncomputable def L : List (Nat × List (Nat × List Coe)) := []
noncomputable def body : Code := bodyOf Tryz.f243
noncomputable abbrev ev (K : Nat) : Code → St → (Ex → St → Option Res) → Option Res := evK (G K) T L K
noncomputable abbrev fin : Ex → St → Option Res := finK T ps rs true Tryz.f243.results.toList
theorem eqn (K : Nat) (x : Args ps) : evF (G K) T L K Tryz.f243 ps rs true x = f K x := by kernel_rfl
end impl_find
/-! ### impl.TableOf -/
namespace impl_TableOf
@[reducible] def ps : List PK := [.rd (.list 132 t2), .rd (.int .i64)]
@[reducible] def rs : List RK := [.v false t2, .v false .bool]
abbrev Res := Ress rs × Outs ps
noncomputable def pre (K : Nat) (x : Args ps) : Option Res := (impl_TableOk.f K (x.1, ())).bind fun y1 => bif !y1.1.1 then (some (((0, (0, (0, false))), false, ()), ())) else ((impl_find.f K (x.1, x.2.1, ())).bind fun y2 => bif !y2.1.2.1 then (some (((0, (0, (0, false))), false, ()), ())) else ((idx x.1 y2.1.1).bind fun y3 => some ((y3, true, ()), ())))
noncomputable def f (K : Nat) (x : Args ps) : Option Res := pre K x
noncomputable def c (K : Nat) : Ctr := ⟨194, ps, rs, true, f K⟩
noncomputable def G (K : Nat) : List Ctr := [impl_TableOk.c K, impl_find.c K]
noncomputable def L : List (Nat × List (Nat × List Coe)) := []
noncomputable def body : Code := bodyOf Tryz.f194
noncomputable abbrev ev (K : Nat) : Code → St → (Ex → St → Option Res) → Option Res := evK (G K) T L K
noncomputable abbrev fin : Ex → St → Option Res := finK T ps rs true Tryz.f194.results.toList
theorem eqn (K : Nat) (x : Args ps) : evF (G K) T L K Tryz.f194 ps rs true x = f K x := by kernel_rfl
end impl_TableOf
/-! ### impl.siteOf -/
namespace impl_siteOf
@[reducible] def ps : List PK := [.rd (.int .i64)]
@[reducible] def rs : List RK := [.v false (.int .i64)]
abbrev Res := Ress rs × Outs ps
noncomputable def pre (K : Nat) (x : Args ps) : Option Res := some ((wr .i64 (Int.tdiv x.1 4), ()), ())
noncomputable def f (K : Nat) (x : Args ps) : Option Res := pre K x
noncomputable def c (K : Nat) : Ctr := ⟨91, ps, rs, true, f K⟩
noncomputable def G (K : Nat) : List Ctr := []
noncomputable def L : List (Nat × List (Nat × List Coe)) := []
noncomputable def body : Code := bodyOf Tryz.f91
noncomputable abbrev ev (K : Nat) : Code → St → (Ex → St → Option Res) → Option Res := evK (G K) T L K
noncomputable abbrev fin : Ex → St → Option Res := finK T ps rs true Tryz.f91.results.toList
theorem eqn (K : Nat) (x : Args ps) : evF (G K) T L K Tryz.f91 ps rs true x = f K x := by kernel_rfl
end impl_siteOf
/-! ### impl.Node).site -/
namespace impl_Node_site
@[reducible] def ps : List PK := [.rd t48]
@[reducible] def rs : List RK := [.v false (.int .i64)]
abbrev Res := Ress rs × Outs ps
noncomputable def pre (K : Nat) (x : Args ps) : Option Res := (impl_siteOf.f K (x.1.1, ())).bind fun y1 => some ((y1.1.1, ()), ())
noncomputable def f (K : Nat) (x : Args ps) : Option Res := pre K x
noncomputable def c (K : Nat) : Ctr := ⟨90, ps, rs, true, f K⟩
noncomputable def G (K : Nat) : List Ctr := [impl_siteOf.c K]
noncomputable def L : List (Nat × List (Nat × List Coe)) := []
noncomputable def body : Code := bodyOf Tryz.f90
noncomputable abbrev ev (K : Nat) : Code → St → (Ex → St → Option Res) → Option Res := evK (G K) T L K
noncomputable abbrev fin : Ex → St → Option Res := finK T ps rs true Tryz.f90.results.toList
theorem eqn (K : Nat) (x : Args ps) : evF (G K) T L K Tryz.f90 ps rs true x = f K x := by kernel_rfl
end impl_Node_site
/-! ### impl.Fact] -/
namespace slices_IndexFunc_impl_Fact_impl_Fact
@[reducible] def ps : List PK := [.rd (.list 132 t2), .fn [t2] .bool]
@[reducible] def rs : List RK := [.v false (.int .i64)]
abbrev Res := Ress rs × Outs ps
abbrev A_l0 := Int
noncomputable def l0.step (K : Nat) (x : Args ps) (rec_l0 : A_l0 → Option Res) (a : A_l0) : Option Res := bif decide (a < (List.length x.1 : Int)) then ((idx x.1 a).bind fun y1 => (x.2.1 (y1, ())).bind fun y2 => bif y2 then (some ((a, ()), ())) else (rec_l0 (wr .i64 (a + 1)))) else (some (((-1), ()), ()))
noncomputable def l0 (K : Nat) (x : Args ps) : A_l0 → Option Res := iterate (fun rec_l0 a => l0.step K x rec_l0 a) K
noncomputable def pre (K : Nat) (N_l0 : A_l0 → Option Res) (x : Args ps) : Option Res := N_l0 0
noncomputable def f (K : Nat) (x : Args ps) : Option Res := pre K (l0 K x) x
noncomputable def c (K : Nat) : Ctr := ⟨206, ps, rs, true, f K⟩
noncomputable def G (K : Nat) : List Ctr := []
noncomputable def live_l0 : List (Nat × List Coe) := [(0, [.ro true 132 t2]), (1, [.keep]), (7, [.keep]), (8, [.keep])]
noncomputable def L : List (Nat × List (Nat × List Coe)) := [(3, live_l0)]
noncomputable def body : Code := bodyOf Tryz.f206
noncomputable abbrev ev (K : Nat) : Code → St → (Ex → St → Option Res) → Option Res := evK (G K) T L K
noncomputable abbrev fin : Ex → St → Option Res := finK T ps rs true Tryz.f206.results.toList
noncomputable def S_l0 (x : Args ps) (a : A_l0) : St := mkSt [(0, ⟨0, .one, [.ro true 132 t2 x.1]⟩), (1, ⟨0, .one, [.fn [t2] .bool x.2.1]⟩), (7, ⟨0, .one, [.int .i64 (List.length x.1 : Int)]⟩), (8, ⟨0, .one, [.int .i64 a]⟩)]
noncomputable def k_l0 (K : Nat) (x : Args ps) : Ex → St → Option Res := kAt (ev K) body [1, 0, 1, 0] fin
noncomputable def N_l0 (K : Nat) (x : Args ps) : A_l0 → Option Res := fun a => evLoop live_l0 (ev K (sub body [1, 0, 1, 0, 0])) K (S_l0 x a) (k_l0 K x)
theorem h_l0 (K : Nat) (x : Args ps) (r_l0 : St → Option Res) (a : A_l0) : ev K (sub body [1, 0, 1, 0, 0]) (S_l0 x a) (kLoop live_l0 r_l0 (k_l0 K x)) = l0.step K x (fun a => r_l0 (S_l0 x a)) a := by kernel_rfl
theorem ok_l0 (K : Nat) (x : Args ps) : N_l0 K x = l0 K x := funext fun a => evLoop_iter live_l0 (ev K (sub body [1, 0, 1, 0, 0])) (k_l0 K x) (S_l0 x) (fun rec a => l0.step K x rec a) (fun r_l0 a => (h_l0 K x r_l0 a)) K a
theorem eqn (K : Nat) (x : Args ps) : evF (G K) T L K Tryz.f206 ps rs true x = f K x := (show evF (G K) T L K Tryz.f206 ps rs true x = pre K (N_l0 K x) x by kernel_rfl).trans (by rw [ok_l0 K x]; rfl)
end slices_IndexFunc_impl_Fact_impl_Fact
/-! ### impl.Fact] -/
namespace slices_ContainsFunc_impl_Fact_impl_Fact
@[reducible] def ps : List PK := [.rd (.list 132 t2), .fn [t2] .bool]
@[reducible] def rs : List RK := [.v false .bool]
abbrev Res := Ress rs × Outs ps
noncomputable def pre (K : Nat) (x : Args ps) : Option Res := (slices_IndexFunc_impl_Fact_impl_Fact.f K (x.1, x.2.1, ())).bind fun y1 => some ((decide (y1.1.1 ≥ 0), ()), ())
noncomputable def f (K : Nat) (x : Args ps) : Option Res := pre K x
noncomputable def c (K : Nat) : Ctr := ⟨141, ps, rs, true, f K⟩
noncomputable def G (K : Nat) : List Ctr := [slices_IndexFunc_impl_Fact_impl_Fact.c K]
noncomputable def L : List (Nat × List (Nat × List Coe)) := []
noncomputable def body : Code := bodyOf Tryz.f141
noncomputable abbrev ev (K : Nat) : Code → St → (Ex → St → Option Res) → Option Res := evK (G K) T L K
noncomputable abbrev fin : Ex → St → Option Res := finK T ps rs true Tryz.f141.results.toList
theorem eqn (K : Nat) (x : Args ps) : evF (G K) T L K Tryz.f141 ps rs true x = f K x := by kernel_rfl
end slices_ContainsFunc_impl_Fact_impl_Fact
/-! ### impl.ofSite$1 -/
namespace impl_ofSite_1
@[reducible] def ps : List PK := [.rd t2, .rref (.int .i64)]
@[reducible] def rs : List RK := [.v false .bool]
abbrev Res := Ress rs × Outs ps
noncomputable def pre (K : Nat) (x : Args ps) : Option Res := (impl_siteOf.f K (x.1.1, ())).bind fun y1 => some ((y1.1.1 != x.2.1, ()), ())
noncomputable def f (K : Nat) (x : Args ps) : Option Res := pre K x
noncomputable def c (K : Nat) : Ctr := ⟨183, ps, rs, true, f K⟩
noncomputable def G (K : Nat) : List Ctr := [impl_siteOf.c K]
noncomputable def L : List (Nat × List (Nat × List Coe)) := []
noncomputable def body : Code := bodyOf Tryz.f183
noncomputable abbrev ev (K : Nat) : Code → St → (Ex → St → Option Res) → Option Res := evK (G K) T L K
noncomputable abbrev fin : Ex → St → Option Res := finK T ps rs true Tryz.f183.results.toList
theorem eqn (K : Nat) (x : Args ps) : evF (G K) T L K Tryz.f183 ps rs true x = f K x := by kernel_rfl
end impl_ofSite_1
/-! ### impl.ofSite -/
namespace impl_ofSite
@[reducible] def ps : List PK := [.rd (.list 132 t2), .rd (.int .i64)]
@[reducible] def rs : List RK := [.v false .bool]
abbrev Res := Ress rs × Outs ps
noncomputable def pre (K : Nat) (x : Args ps) : Option Res := (slices_ContainsFunc_impl_Fact_impl_Fact.f K (x.1, fun y1 => (impl_ofSite_1.f K (y1.1, x.2.1, ())).map fun y => y.1.1, ())).bind fun y2 => some ((!y2.1.1, ()), ())
noncomputable def f (K : Nat) (x : Args ps) : Option Res := pre K x
noncomputable def c (K : Nat) : Ctr := ⟨89, ps, rs, true, f K⟩
noncomputable def G (K : Nat) : List Ctr := [slices_ContainsFunc_impl_Fact_impl_Fact.c K, impl_ofSite_1.c K]
noncomputable def L : List (Nat × List (Nat × List Coe)) := []
noncomputable def body : Code := bodyOf Tryz.f89
noncomputable abbrev ev (K : Nat) : Code → St → (Ex → St → Option Res) → Option Res := evK (G K) T L K
noncomputable abbrev fin : Ex → St → Option Res := finK T ps rs true Tryz.f89.results.toList
theorem eqn (K : Nat) (x : Args ps) : evF (G K) T L K Tryz.f89 ps rs true x = f K x := by kernel_rfl
end impl_ofSite
/-! ### impl.facts -/
namespace impl_facts
@[reducible] def ps : List PK := [.rd (.list 173 t12)]
@[reducible] def rs : List RK := [.v true (.list 132 t2)]
abbrev Res := Ress rs × Outs ps
abbrev A_l0 := List (Ty.den t2) × Int
noncomputable def l0.step (K : Nat) (x : Args ps) (rec_l0 : A_l0 → Option Res) (a : A_l0) : Option Res := bif decide (a.2 < (List.length x.1 : Int)) then ((idx x.1 a.2).bind fun y1 => bif decide ((List.length a.1 + List.length ([y1.1])) * 32 ≤ sizeK) then (rec_l0 (a.1 ++ ([y1.1]), wr .i64 (a.2 + 1))) else none) else (some ((a.1, ()), ()))
noncomputable def l0 (K : Nat) (x : Args ps) : A_l0 → Option Res := iterate (fun rec_l0 a => l0.step K x rec_l0 a) K
noncomputable def pre (K : Nat) (N_l0 : A_l0 → Option Res) (x : Args ps) : Option Res := N_l0 ([], 0)
noncomputable def f (K : Nat) (x : Args ps) : Option Res := pre K (l0 K x) x
noncomputable def c (K : Nat) : Ctr := ⟨289, ps, rs, true, f K⟩
noncomputable def G (K : Nat) : List Ctr := []
noncomputable def live_l0 : List (Nat × List Coe) := [(3, [.own false 132 t2]), (6, [.ro true 173 t12]), (7, [.keep]), (8, [.keep])]
noncomputable def L : List (Nat × List (Nat × List Coe)) := [(4, live_l0)]
noncomputable def body : Code := bodyOf Tryz.f289
noncomputable abbrev ev (K : Nat) : Code → St → (Ex → St → Option Res) → Option Res := evK (G K) T L K
noncomputable abbrev fin : Ex → St → Option Res := finK T ps rs true Tryz.f289.results.toList
noncomputable def S_l0 (x : Args ps) (a : A_l0) : St := mkSt [(3, ⟨0, .one, [.own false 132 t2 a.1]⟩), (6, ⟨0, .one, [.ro true 173 t12 x.1]⟩), (7, ⟨0, .one, [.int .i64 (List.length x.1 : Int)]⟩), (8, ⟨0, .one, [.int .i64 a.2]⟩)]
noncomputable def k_l0 (K : Nat) (x : Args ps) : Ex → St → Option Res := kAt (ev K) body [1, 1, 0, 1, 0] fin
noncomputable def N_l0 (K : Nat) (x : Args ps) : A_l0 → Option Res := fun a => evLoop live_l0 (ev K (sub body [1, 1, 0, 1, 0, 0])) K (S_l0 x a) (k_l0 K x)
theorem h_l0 (K : Nat) (x : Args ps) (r_l0 : St → Option Res) (a : A_l0) : ev K (sub body [1, 1, 0, 1, 0, 0]) (S_l0 x a) (kLoop live_l0 r_l0 (k_l0 K x)) = l0.step K x (fun a => r_l0 (S_l0 x a)) a := by kernel_rfl
theorem ok_l0 (K : Nat) (x : Args ps) : N_l0 K x = l0 K x := funext fun a => evLoop_iter live_l0 (ev K (sub body [1, 1, 0, 1, 0, 0])) (k_l0 K x) (S_l0 x) (fun rec a => l0.step K x rec a) (fun r_l0 a => (h_l0 K x r_l0 a)) K a
theorem eqn (K : Nat) (x : Args ps) : evF (G K) T L K Tryz.f289 ps rs true x = f K x := (show evF (G K) T L K Tryz.f289 ps rs true x = pre K (N_l0 K x) x by kernel_rfl).trans (by rw [ok_l0 K x]; rfl)
end impl_facts
/-! ### impl.Item] -/
namespace slices_IndexFunc_impl_Item_impl_Item
@[reducible] def ps : List PK := [.rd (.list 173 t12), .fn [t12] .bool]
@[reducible] def rs : List RK := [.v false (.int .i64)]
abbrev Res := Ress rs × Outs ps
abbrev A_l0 := Int
noncomputable def l0.step (K : Nat) (x : Args ps) (rec_l0 : A_l0 → Option Res) (a : A_l0) : Option Res := bif decide (a < (List.length x.1 : Int)) then ((idx x.1 a).bind fun y1 => (x.2.1 (y1, ())).bind fun y2 => bif y2 then (some ((a, ()), ())) else (rec_l0 (wr .i64 (a + 1)))) else (some (((-1), ()), ()))
noncomputable def l0 (K : Nat) (x : Args ps) : A_l0 → Option Res := iterate (fun rec_l0 a => l0.step K x rec_l0 a) K
noncomputable def pre (K : Nat) (N_l0 : A_l0 → Option Res) (x : Args ps) : Option Res := N_l0 0
noncomputable def f (K : Nat) (x : Args ps) : Option Res := pre K (l0 K x) x
noncomputable def c (K : Nat) : Ctr := ⟨290, ps, rs, true, f K⟩
noncomputable def G (K : Nat) : List Ctr := []
noncomputable def live_l0 : List (Nat × List Coe) := [(0, [.ro true 173 t12]), (1, [.keep]), (7, [.keep]), (8, [.keep])]
noncomputable def L : List (Nat × List (Nat × List Coe)) := [(3, live_l0)]
noncomputable def body : Code := bodyOf Tryz.f290
noncomputable abbrev ev (K : Nat) : Code → St → (Ex → St → Option Res) → Option Res := evK (G K) T L K
noncomputable abbrev fin : Ex → St → Option Res := finK T ps rs true Tryz.f290.results.toList
noncomputable def S_l0 (x : Args ps) (a : A_l0) : St := mkSt [(0, ⟨0, .one, [.ro true 173 t12 x.1]⟩), (1, ⟨0, .one, [.fn [t12] .bool x.2.1]⟩), (7, ⟨0, .one, [.int .i64 (List.length x.1 : Int)]⟩), (8, ⟨0, .one, [.int .i64 a]⟩)]
noncomputable def k_l0 (K : Nat) (x : Args ps) : Ex → St → Option Res := kAt (ev K) body [1, 0, 1, 0] fin
noncomputable def N_l0 (K : Nat) (x : Args ps) : A_l0 → Option Res := fun a => evLoop live_l0 (ev K (sub body [1, 0, 1, 0, 0])) K (S_l0 x a) (k_l0 K x)
theorem h_l0 (K : Nat) (x : Args ps) (r_l0 : St → Option Res) (a : A_l0) : ev K (sub body [1, 0, 1, 0, 0]) (S_l0 x a) (kLoop live_l0 r_l0 (k_l0 K x)) = l0.step K x (fun a => r_l0 (S_l0 x a)) a := by kernel_rfl
theorem ok_l0 (K : Nat) (x : Args ps) : N_l0 K x = l0 K x := funext fun a => evLoop_iter live_l0 (ev K (sub body [1, 0, 1, 0, 0])) (k_l0 K x) (S_l0 x) (fun rec a => l0.step K x rec a) (fun r_l0 a => (h_l0 K x r_l0 a)) K a
theorem eqn (K : Nat) (x : Args ps) : evF (G K) T L K Tryz.f290 ps rs true x = f K x := (show evF (G K) T L K Tryz.f290 ps rs true x = pre K (N_l0 K x) x by kernel_rfl).trans (by rw [ok_l0 K x]; rfl)
end slices_IndexFunc_impl_Item_impl_Item
/-! ### impl.Item] -/
namespace slices_ContainsFunc_impl_Item_impl_Item
@[reducible] def ps : List PK := [.rd (.list 173 t12), .fn [t12] .bool]
@[reducible] def rs : List RK := [.v false .bool]
abbrev Res := Ress rs × Outs ps
noncomputable def pre (K : Nat) (x : Args ps) : Option Res := (slices_IndexFunc_impl_Item_impl_Item.f K (x.1, x.2.1, ())).bind fun y1 => some ((decide (y1.1.1 ≥ 0), ()), ())
noncomputable def f (K : Nat) (x : Args ps) : Option Res := pre K x
noncomputable def c (K : Nat) : Ctr := ⟨234, ps, rs, true, f K⟩
noncomputable def G (K : Nat) : List Ctr := [slices_IndexFunc_impl_Item_impl_Item.c K]
noncomputable def L : List (Nat × List (Nat × List Coe)) := []
noncomputable def body : Code := bodyOf Tryz.f234
noncomputable abbrev ev (K : Nat) : Code → St → (Ex → St → Option Res) → Option Res := evK (G K) T L K
noncomputable abbrev fin : Ex → St → Option Res := finK T ps rs true Tryz.f234.results.toList
theorem eqn (K : Nat) (x : Args ps) : evF (G K) T L K Tryz.f234 ps rs true x = f K x := by kernel_rfl
end slices_ContainsFunc_impl_Item_impl_Item
/-! ### impl.CastOk$1 -/
namespace impl_CastOk_1
@[reducible] def ps : List PK := [.rd t12]
@[reducible] def rs : List RK := [.v false .bool]
abbrev Res := Ress rs × Outs ps
noncomputable def pre (K : Nat) (x : Args ps) : Option Res := (impl_in.f K (x.1.2, 1, 4, ())).bind fun y1 => some ((!y1.1.1, ()), ())
noncomputable def f (K : Nat) (x : Args ps) : Option Res := pre K x
noncomputable def c (K : Nat) : Ctr := ⟨288, ps, rs, true, f K⟩
noncomputable def G (K : Nat) : List Ctr := [impl_in.c K]
noncomputable def L : List (Nat × List (Nat × List Coe)) := []
noncomputable def body : Code := bodyOf Tryz.f288
noncomputable abbrev ev (K : Nat) : Code → St → (Ex → St → Option Res) → Option Res := evK (G K) T L K
noncomputable abbrev fin : Ex → St → Option Res := finK T ps rs true Tryz.f288.results.toList
theorem eqn (K : Nat) (x : Args ps) : evF (G K) T L K Tryz.f288 ps rs true x = f K x := by kernel_rfl
end impl_CastOk_1
/-! ### impl.CastOk -/
namespace impl_CastOk
@[reducible] def ps : List PK := [.rd (.list 173 t12)]
@[reducible] def rs : List RK := [.v false .bool]
abbrev Res := Ress rs × Outs ps
noncomputable def pre (K : Nat) (x : Args ps) : Option Res := (impl_facts.f K (x.1, ())).bind fun y1 => (impl_TableOk.f K (y1.1.1, ())).bind fun y2 => bif y2.1.1 then ((slices_ContainsFunc_impl_Item_impl_Item.f K (x.1, fun y3 => (impl_CastOk_1.f K (y3.1, ())).map fun y => y.1.1, ())).bind fun y4 => some ((!y4.1.1, ()), ())) else (some ((false, ()), ()))
noncomputable def f (K : Nat) (x : Args ps) : Option Res := pre K x
noncomputable def c (K : Nat) : Ctr := ⟨233, ps, rs, true, f K⟩
noncomputable def G (K : Nat) : List Ctr := [impl_TableOk.c K, slices_ContainsFunc_impl_Item_impl_Item.c K, impl_CastOk_1.c K, impl_facts.c K]
noncomputable def L : List (Nat × List (Nat × List Coe)) := []
noncomputable def body : Code := bodyOf Tryz.f233
noncomputable abbrev ev (K : Nat) : Code → St → (Ex → St → Option Res) → Option Res := evK (G K) T L K
noncomputable abbrev fin : Ex → St → Option Res := finK T ps rs true Tryz.f233.results.toList
theorem eqn (K : Nat) (x : Args ps) : evF (G K) T L K Tryz.f233 ps rs true x = f K x := by kernel_rfl
end impl_CastOk
/-! ### cmp.Or[int] -/
namespace cmp_Or_int
@[reducible] def ps : List PK := [.rd (.list 3 (.int .i64))]
@[reducible] def rs : List RK := [.v false (.int .i64)]
abbrev Res := Ress rs × Outs ps
abbrev A_l0 := Int
noncomputable def l0.step (K : Nat) (x : Args ps) (rec_l0 : A_l0 → Option Res) (a : A_l0) : Option Res := bif decide (a < (List.length x.1 : Int)) then ((idx x.1 a).bind fun y1 => bif y1 != 0 then (some ((y1, ()), ())) else (rec_l0 (wr .i64 (a + 1)))) else (some ((0, ()), ()))
noncomputable def l0 (K : Nat) (x : Args ps) : A_l0 → Option Res := iterate (fun rec_l0 a => l0.step K x rec_l0 a) K
noncomputable def pre (K : Nat) (N_l0 : A_l0 → Option Res) (x : Args ps) : Option Res := N_l0 0
noncomputable def f (K : Nat) (x : Args ps) : Option Res := pre K (l0 K x) x
noncomputable def c (K : Nat) : Ctr := ⟨189, ps, rs, true, f K⟩
noncomputable def G (K : Nat) : List Ctr := []
noncomputable def live_l0 : List (Nat × List Coe) := [(3, [.keep]), (6, [.ro true 3 (.int .i64)]), (7, [.keep]), (8, [.keep])]
noncomputable def L : List (Nat × List (Nat × List Coe)) := [(4, live_l0)]
noncomputable def body : Code := bodyOf Tryz.f189
noncomputable abbrev ev (K : Nat) : Code → St → (Ex → St → Option Res) → Option Res := evK (G K) T L K
noncomputable abbrev fin : Ex → St → Option Res := finK T ps rs true Tryz.f189.results.toList
noncomputable def S_l0 (x : Args ps) (a : A_l0) : St := mkSt [(3, ⟨0, .one, [.int .i64 0]⟩), (6, ⟨0, .one, [.ro true 3 (.int .i64) x.1]⟩), (7, ⟨0, .one, [.int .i64 (List.length x.1 : Int)]⟩), (8, ⟨0, .one, [.int .i64 a]⟩)]
noncomputable def k_l0 (K : Nat) (x : Args ps) : Ex → St → Option Res := kAt (ev K) body [1, 1, 0, 1, 0] fin
noncomputable def N_l0 (K : Nat) (x : Args ps) : A_l0 → Option Res := fun a => evLoop live_l0 (ev K (sub body [1, 1, 0, 1, 0, 0])) K (S_l0 x a) (k_l0 K x)
theorem h_l0 (K : Nat) (x : Args ps) (r_l0 : St → Option Res) (a : A_l0) : ev K (sub body [1, 1, 0, 1, 0, 0]) (S_l0 x a) (kLoop live_l0 r_l0 (k_l0 K x)) = l0.step K x (fun a => r_l0 (S_l0 x a)) a := by kernel_rfl
theorem ok_l0 (K : Nat) (x : Args ps) : N_l0 K x = l0 K x := funext fun a => evLoop_iter live_l0 (ev K (sub body [1, 1, 0, 1, 0, 0])) (k_l0 K x) (S_l0 x) (fun rec a => l0.step K x rec a) (fun r_l0 a => (h_l0 K x r_l0 a)) K a
theorem eqn (K : Nat) (x : Args ps) : evF (G K) T L K Tryz.f189 ps rs true x = f K x := (show evF (G K) T L K Tryz.f189 ps rs true x = pre K (N_l0 K x) x by kernel_rfl).trans (by rw [ok_l0 K x]; rfl)
end cmp_Or_int
/-! ### impl.Fact).compare -/
namespace impl_Fact_compare
@[reducible] def ps : List PK := [.rd t2, .rd t2]
@[reducible] def rs : List RK := [.v false (.int .i64)]
abbrev Res := Ress rs × Outs ps
noncomputable def pre (K : Nat) (x : Args ps) : Option Res := bif x.1.2.2.2 then (bif !x.2.1.2.2.2 then ((cmp_Compare_int.f K (x.1.1, x.2.1.1, ())).bind fun y1 => (cmp_Compare_int.f K (x.1.2.1, x.2.1.2.1, ())).bind fun y2 => (cmp_Compare_int.f K (x.1.2.2.1, x.2.1.2.2.1, ())).bind fun y3 => (cmp_Or_int.f K ([y1.1.1, y2.1.1, y3.1.1, 1], ())).bind fun y4 => some ((y4.1.1, ()), ())) else (bif x.2.1.2.2.2 then (bif !x.1.2.2.2 then ((cmp_Compare_int.f K (x.1.1, x.2.1.1, ())).bind fun y5 => (cmp_Compare_int.f K (x.1.2.1, x.2.1.2.1, ())).bind fun y6 => (cmp_Compare_int.f K (x.1.2.2.1, x.2.1.2.2.1, ())).bind fun y7 => (cmp_Or_int.f K ([y5.1.1, y6.1.1, y7.1.1, (-1)], ())).bind fun y8 => some ((y8.1.1, ()), ())) else ((cmp_Compare_int.f K (x.1.1, x.2.1.1, ())).bind fun y9 => (cmp_Compare_int.f K (x.1.2.1, x.2.1.2.1, ())).bind fun y10 => (cmp_Compare_int.f K (x.1.2.2.1, x.2.1.2.2.1, ())).bind fun y11 => (cmp_Or_int.f K ([y9.1.1, y10.1.1, y11.1.1, 0], ())).bind fun y12 => some ((y12.1.1, ()), ()))) else ((cmp_Compare_int.f K (x.1.1, x.2.1.1, ())).bind fun y13 => (cmp_Compare_int.f K (x.1.2.1, x.2.1.2.1, ())).bind fun y14 => (cmp_Compare_int.f K (x.1.2.2.1, x.2.1.2.2.1, ())).bind fun y15 => (cmp_Or_int.f K ([y13.1.1, y14.1.1, y15.1.1, 0], ())).bind fun y16 => some ((y16.1.1, ()), ())))) else (bif x.2.1.2.2.2 then (bif !x.1.2.2.2 then ((cmp_Compare_int.f K (x.1.1, x.2.1.1, ())).bind fun y17 => (cmp_Compare_int.f K (x.1.2.1, x.2.1.2.1, ())).bind fun y18 => (cmp_Compare_int.f K (x.1.2.2.1, x.2.1.2.2.1, ())).bind fun y19 => (cmp_Or_int.f K ([y17.1.1, y18.1.1, y19.1.1, (-1)], ())).bind fun y20 => some ((y20.1.1, ()), ())) else ((cmp_Compare_int.f K (x.1.1, x.2.1.1, ())).bind fun y21 => (cmp_Compare_int.f K (x.1.2.1, x.2.1.2.1, ())).bind fun y22 => (cmp_Compare_int.f K (x.1.2.2.1, x.2.1.2.2.1, ())).bind fun y23 => (cmp_Or_int.f K ([y21.1.1, y22.1.1, y23.1.1, 0], ())).bind fun y24 => some ((y24.1.1, ()), ()))) else ((cmp_Compare_int.f K (x.1.1, x.2.1.1, ())).bind fun y25 => (cmp_Compare_int.f K (x.1.2.1, x.2.1.2.1, ())).bind fun y26 => (cmp_Compare_int.f K (x.1.2.2.1, x.2.1.2.2.1, ())).bind fun y27 => (cmp_Or_int.f K ([y25.1.1, y26.1.1, y27.1.1, 0], ())).bind fun y28 => some ((y28.1.1, ()), ())))
noncomputable def f (K : Nat) (x : Args ps) : Option Res := pre K x
noncomputable def c (K : Nat) : Ctr := ⟨113, ps, rs, true, f K⟩
noncomputable def G (K : Nat) : List Ctr := [cmp_Compare_int.c K, cmp_Or_int.c K]
noncomputable def L : List (Nat × List (Nat × List Coe)) := []
noncomputable def body : Code := bodyOf Tryz.f113
noncomputable abbrev ev (K : Nat) : Code → St → (Ex → St → Option Res) → Option Res := evK (G K) T L K
noncomputable abbrev fin : Ex → St → Option Res := finK T ps rs true Tryz.f113.results.toList
theorem eqn (K : Nat) (x : Args ps) : evF (G K) T L K Tryz.f113 ps rs true x = f K x := by kernel_rfl
end impl_Fact_compare
/-! ### impl.FactOver -/
namespace impl_FactOver
@[reducible] def ps : List PK := [.rd t2, .rd t2]
@[reducible] def rs : List RK := [.v false .bool]
abbrev Res := Ress rs × Outs ps
noncomputable def pre (K : Nat) (x : Args ps) : Option Res := (impl_FactOk.f K (x.1, ())).bind fun y1 => bif y1.1.1 then ((impl_FactOk.f K (x.2.1, ())).bind fun y2 => bif y2.1.1 then (bif x.1.1 == x.2.1.1 then ((impl_Fact_compare.f K (x.1, x.2.1, ())).bind fun y3 => some ((decide (y3.1.1 > 0), ()), ())) else (some ((false, ()), ()))) else (some ((false, ()), ()))) else (some ((false, ()), ()))
noncomputable def f (K : Nat) (x : Args ps) : Option Res := pre K x
noncomputable def c (K : Nat) : Ctr := ⟨236, ps, rs, true, f K⟩
noncomputable def G (K : Nat) : List Ctr := [impl_FactOk.c K, impl_Fact_compare.c K]
noncomputable def L : List (Nat × List (Nat × List Coe)) := []
noncomputable def body : Code := bodyOf Tryz.f236
noncomputable abbrev ev (K : Nat) : Code → St → (Ex → St → Option Res) → Option Res := evK (G K) T L K
noncomputable abbrev fin : Ex → St → Option Res := finK T ps rs true Tryz.f236.results.toList
theorem eqn (K : Nat) (x : Args ps) : evF (G K) T L K Tryz.f236 ps rs true x = f K x := by kernel_rfl
end impl_FactOver
/-! ### impl.Node).tableOk$1 -/
namespace impl_Node_tableOk_1
@[reducible] def ps : List PK := [.rd t12, .rref t48]
@[reducible] def rs : List RK := [.v false .bool]
abbrev Res := Ress rs × Outs ps
noncomputable def pre (K : Nat) (x : Args ps) : Option Res := (impl_TableOf.f K (x.2.1.2.2.2.2.2.2.2.2.1, x.1.1.1, ())).bind fun y1 => bif !y1.1.2.1 then (some ((true, ()), ())) else ((impl_FactOver.f K (x.1.1, y1.1.1, ())).bind fun y2 => some ((y2.1.1, ()), ()))
noncomputable def f (K : Nat) (x : Args ps) : Option Res := pre K x
noncomputable def c (K : Nat) : Ctr := ⟨235, ps, rs, true, f K⟩
noncomputable def G (K : Nat) : List Ctr := [impl_TableOf.c K, impl_FactOver.c K]
noncomputable def L : List (Nat × List (Nat × List Coe)) := []
noncomputable def body : Code := bodyOf Tryz.f235
noncomputable abbrev ev (K : Nat) : Code → St → (Ex → St → Option Res) → Option Res := evK (G K) T L K
noncomputable abbrev fin : Ex → St → Option Res := finK T ps rs true Tryz.f235.results.toList
theorem eqn (K : Nat) (x : Args ps) : evF (G K) T L K Tryz.f235 ps rs true x = f K x := by kernel_rfl
end impl_Node_tableOk_1
/-! ### impl.Node).tableOk -/
namespace impl_Node_tableOk
@[reducible] def ps : List PK := [.rd t48]
@[reducible] def rs : List RK := [.v false .bool]
abbrev Res := Ress rs × Outs ps
noncomputable def pre (K : Nat) (x : Args ps) : Option Res := bif x.1.2.2.1 then ((impl_TableOf.f K (x.1.2.2.2.2.2.2.2.2.1, x.1.1, ())).bind fun y1 => bif !y1.1.2.1 then (some ((false, ()), ())) else (bif !Ty.eqv t2 y1.1.1 (x.1.1, (x.1.2.2.2.2.1, (4, x.1.2.2.2.1))) then (some ((false, ()), ())) else ((impl_Node_site.f K (x.1, ())).bind fun y2 => (impl_ofSite.f K (x.1.2.2.2.2.2.2.2.2.1, y2.1.1, ())).bind fun y3 => bif !y3.1.1 then (some ((false, ()), ())) else ((impl_CastOk.f K (x.1.2.2.2.2.2.2.2.2.2.1, ())).bind fun y4 => bif !y4.1.1 then (some ((false, ()), ())) else ((slices_ContainsFunc_impl_Item_impl_Item.f K (x.1.2.2.2.2.2.2.2.2.2.1, fun y5 => (impl_Node_tableOk_1.f K (y5.1, x.1, ())).map fun y => y.1.1, ())).bind fun y6 => some ((!y6.1.1, ()), ())))))) else ((impl_TableOf.f K (x.1.2.2.2.2.2.2.2.2.1, x.1.1, ())).bind fun y7 => bif !y7.1.2.1 then (some ((false, ()), ())) else (bif !Ty.eqv t2 y7.1.1 (x.1.1, (x.1.2.2.2.2.1, (1, x.1.2.2.2.1))) then (some ((false, ()), ())) else ((impl_Node_site.f K (x.1, ())).bind fun y8 => (impl_ofSite.f K (x.1.2.2.2.2.2.2.2.2.1, y8.1.1, ())).bind fun y9 => bif !y9.1.1 then (some ((false, ()), ())) else ((impl_CastOk.f K (x.1.2.2.2.2.2.2.2.2.2.1, ())).bind fun y10 => bif !y10.1.1 then (some ((false, ()), ())) else ((slices_ContainsFunc_impl_Item_impl_Item.f K (x.1.2.2.2.2.2.2.2.2.2.1, fun y11 => (impl_Node_tableOk_1.f K (y11.1, x.1, ())).map fun y => y.1.1, ())).bind fun y12 => some ((!y12.1.1, ()), ()))))))
noncomputable def f (K : Nat) (x : Args ps) : Option Res := pre K x
noncomputable def c (K : Nat) : Ctr := ⟨171, ps, rs, true, f K⟩
noncomputable def G (K : Nat) : List Ctr := [impl_ofSite.c K, impl_Node_site.c K, impl_TableOf.c K, impl_CastOk.c K, slices_ContainsFunc_impl_Item_impl_Item.c K, impl_Node_tableOk_1.c K]
noncomputable def L : List (Nat × List (Nat × List Coe)) := []
noncomputable def body : Code := bodyOf Tryz.f171
noncomputable abbrev ev (K : Nat) : Code → St → (Ex → St → Option Res) → Option Res := evK (G K) T L K
noncomputable abbrev fin : Ex → St → Option Res := finK T ps rs true Tryz.f171.results.toList
theorem eqn (K : Nat) (x : Args ps) : evF (G K) T L K Tryz.f171 ps rs true x = f K x := by kernel_rfl
end impl_Node_tableOk
/-! ### impl.Node).probeOk -/
namespace impl_Node_probeOk
@[reducible] def ps : List PK := [.rd t48]
@[reducible] def rs : List RK := [.v false .bool]
abbrev Res := Ress rs × Outs ps
noncomputable def pre (K : Nat) (x : Args ps) : Option Res := bif x.1.2.2.2.2.2.2.2.2.2.2.1.1 == (-1) then (some ((Ty.eqv t2 x.1.2.2.2.2.2.2.2.2.2.2.1 ((-1), (0, (0, false))), ()), ())) else ((impl_TableOf.f K (x.1.2.2.2.2.2.2.2.2.1, x.1.2.2.2.2.2.2.2.2.2.2.1.1, ())).bind fun y1 => bif y1.1.2.1 then (bif x.1.2.2.2.2.2.2.2.2.2.2.1.1 != x.1.1 then ((impl_in.f K (x.1.2.2.2.2.2.2.2.2.2.2.1.2.1, 0, x.1.2.2.2.2.2.1, ())).bind fun y2 => bif y2.1.1 then ((impl_in.f K (x.1.2.2.2.2.2.2.2.2.2.2.1.2.2.1, 1, x.1.2.2.2.2.2.2.1, ())).bind fun y3 => some ((y3.1.1, ()), ())) else (some ((false, ()), ()))) else (some ((false, ()), ()))) else (some ((false, ()), ())))
noncomputable def f (K : Nat) (x : Args ps) : Option Res := pre K x
noncomputable def c (K : Nat) : Ctr := ⟨172, ps, rs, true, f K⟩
noncomputable def G (K : Nat) : List Ctr := [impl_in.c K, impl_TableOf.c K]
noncomputable def L : List (Nat × List (Nat × List Coe)) := []
noncomputable def body : Code := bodyOf Tryz.f172
noncomputable abbrev ev (K : Nat) : Code → St → (Ex → St → Option Res) → Option Res := evK (G K) T L K
noncomputable abbrev fin : Ex → St → Option Res := finK T ps rs true Tryz.f172.results.toList
theorem eqn (K : Nat) (x : Args ps) : evF (G K) T L K Tryz.f172 ps rs true x = f K x := by kernel_rfl
end impl_Node_probeOk
/-! ### impl.Node).near -/
namespace impl_Node_near
@[reducible] def ps : List PK := [.rd t48, .rd (.int .i64)]
@[reducible] def rs : List RK := [.v false .bool]
abbrev Res := Ress rs × Outs ps
noncomputable def pre (K : Nat) (x : Args ps) : Option Res := (impl_isNode.f K (x.2.1, ())).bind fun y1 => bif y1.1.1 then ((impl_siteOf.f K (x.2.1, ())).bind fun y2 => (impl_Node_site.f K (x.1, ())).bind fun y3 => some ((y2.1.1 == y3.1.1, ()), ())) else (some ((false, ()), ()))
noncomputable def f (K : Nat) (x : Args ps) : Option Res := pre K x
noncomputable def c (K : Nat) : Ctr := ⟨88, ps, rs, true, f K⟩
noncomputable def G (K : Nat) : List Ctr := [impl_Node_site.c K, impl_siteOf.c K, impl_isNode.c K]
noncomputable def L : List (Nat × List (Nat × List Coe)) := []
noncomputable def body : Code := bodyOf Tryz.f88
noncomputable abbrev ev (K : Nat) : Code → St → (Ex → St → Option Res) → Option Res := evK (G K) T L K
noncomputable abbrev fin : Ex → St → Option Res := finK T ps rs true Tryz.f88.results.toList
theorem eqn (K : Nat) (x : Args ps) : evF (G K) T L K Tryz.f88 ps rs true x = f K x := by kernel_rfl
end impl_Node_near
/-! ### impl.Node).doubtsOk -/
namespace impl_Node_doubtsOk
@[reducible] def ps : List PK := [.rd t48]
@[reducible] def rs : List RK := [.v false .bool]
abbrev Res := Ress rs × Outs ps
abbrev A_l2 := List (Ty.den t2) × Int × List (Ty.den (.int .i64)) × Int × Int × Int × Int × Int × List (Ty.den (.int .i64))
abbrev A_l1 := List (Ty.den t2) × Int
abbrev A_l0 := List (Ty.den t2) × Int
noncomputable def l2.step (K : Nat) (x : Args ps) (rec_l1 : A_l1 → Option Res) (rec_l2 : A_l2 → Option Res) (a : A_l2) : Option Res := bif decide (a.2.2.2.2.1 < a.2.2.2.1) then ((idx a.2.2.1 a.2.2.2.2.1).bind fun y8 => (impl_Node_near.f K (x.1, y8, ())).bind fun y9 => bif !y9.1.1 then (some ((false, ()), ())) else (bif decide (a.2.2.2.2.1 > 0) then ((idx a.2.2.2.2.2.2.2.2 (wr .i64 (a.2.2.2.2.1 - 1))).bind fun y10 => bif decide (y8 ≤ y10) then (some ((false, ()), ())) else (rec_l2 (a.1, a.2.1, a.2.2.1, a.2.2.2.1, wr .i64 (a.2.2.2.2.1 + 1), a.2.2.2.2.2.1, a.2.2.2.2.2.2.1, a.2.2.2.2.2.2.2.1, a.2.2.2.2.2.2.2.2))) else (rec_l2 (a.1, a.2.1, a.2.2.1, a.2.2.2.1, wr .i64 (a.2.2.2.2.1 + 1), a.2.2.2.2.2.1, a.2.2.2.2.2.2.1, a.2.2.2.2.2.2.2.1, a.2.2.2.2.2.2.2.2)))) else (rec_l1 (a.1, wr .i64 (a.2.1 + 1)))
noncomputable def l2 (K : Nat) (x : Args ps) (rec_l1 : A_l1 → Option Res) : A_l2 → Option Res := iterate (fun rec_l2 a => l2.step K x rec_l1 rec_l2 a) K
noncomputable def l1.step (K : Nat) (x : Args ps) (N_l2 : A_l2 → Option Res) (rec_l1 : A_l1 → Option Res) (a : A_l1) : Option Res := bif decide (a.2 < (List.length x.1.2.2.2.2.2.2.2.2.2.2.2.1 : Int)) then ((idx x.1.2.2.2.2.2.2.2.2.2.2.2.1 a.2).bind fun y2 => (idx a.1 a.2).bind fun _ => (idx a.1 (Int.toNat a.2 : Nat)).bind fun y4 => bif y2.1 != y4.1 then (some ((false, ()), ())) else ((idx a.1 a.2).bind fun _ => (idx a.1 (Int.toNat a.2 : Nat)).bind fun y6 => bif y2.2.1 != y6.2.1 then (some ((false, ()), ())) else ((impl_in.f K (y2.2.2.1, 0, x.1.2.2.2.2.2.1, ())).bind fun y7 => bif !y7.1.1 then (some ((false, ()), ())) else (bif (List.length y2.2.2.2 : Int) == 0 then (some ((false, ()), ())) else (N_l2 (a.1, a.2, y2.2.2.2, (List.length y2.2.2.2 : Int), 0, y2.1, y2.2.1, y2.2.2.1, y2.2.2.2)))))) else (some ((true, ()), ()))
noncomputable def l1 (K : Nat) (x : Args ps) : A_l1 → Option Res := iterate (fun rec_l1 a => l1.step K x (l2 K x rec_l1) rec_l1 a) K
noncomputable def l0.step (K : Nat) (x : Args ps) (N_l1 : A_l1 → Option Res) (rec_l0 : A_l0 → Option Res) (a : A_l0) : Option Res := bif decide (a.2 < (List.length x.1.2.2.2.2.2.2.2.2.1 : Int)) then ((idx x.1.2.2.2.2.2.2.2.2.1 a.2).bind fun y1 => bif y1.2.2.1 == 2 then (bif decide ((List.length a.1 + List.length ([y1])) * 32 ≤ sizeK) then (rec_l0 (a.1 ++ ([y1]), wr .i64 (a.2 + 1))) else none) else (rec_l0 (a.1, wr .i64 (a.2 + 1)))) else (bif (List.length x.1.2.2.2.2.2.2.2.2.2.2.2.1 : Int) != (List.length a.1 : Int) then (some ((false, ()), ())) else (N_l1 (a.1, 0)))
noncomputable def l0 (K : Nat) (x : Args ps) : A_l0 → Option Res := iterate (fun rec_l0 a => l0.step K x (l1 K x) rec_l0 a) K
noncomputable def pre (K : Nat) (N_l0 : A_l0 → Option Res) (x : Args ps) : Option Res := N_l0 ([], 0)
noncomputable def f (K : Nat) (x : Args ps) : Option Res := pre K (l0 K x) x
noncomputable def c (K : Nat) : Ctr := ⟨173, ps, rs, true, f K⟩
noncomputable def G (K : Nat) : List Ctr := [impl_Node_near.c K, impl_in.c K]
noncomputable def live_l2 : List (Nat × List Coe) := [(1, [.keep]), (3, [.own false 132 t2]), (7, [.keep]), (32, [.ro true 177 t8]), (33, [.keep]), (34, [.keep]), (72, [.ro true 3 (.int .i64)]), (73, [.keep]), (74, [.keep]), (100001, [.keep, .keep, .keep, .keep, .keep, .keep, .keep, .keep, .ro true 132 t2, .ro true 173 t12, .keep, .keep, .keep, .keep, .ro true 177 t8, .keep, .keep, .keep, .keep, .ro true 94 t10, .ro true 119 t11]), (100007, [.keep, .keep, .keep, .ro true 3 (.int .i64)])]
noncomputable def live_l1 : List (Nat × List Coe) := [(1, [.keep]), (3, [.own false 132 t2]), (32, [.ro true 177 t8]), (33, [.keep]), (34, [.keep]), (100001, [.keep, .keep, .keep, .keep, .keep, .keep, .keep, .keep, .ro true 132 t2, .ro true 173 t12, .keep, .keep, .keep, .keep, .ro true 177 t8, .keep, .keep, .keep, .keep, .ro true 94 t10, .ro true 119 t11])]
noncomputable def live_l0 : List (Nat × List Coe) := [(1, [.keep]), (3, [.own false 132 t2]), (11, [.ro true 132 t2]), (12, [.keep]), (13, [.keep]), (100001, [.keep, .keep, .keep, .keep, .keep, .keep, .keep, .keep, .ro true 132 t2, .ro true 173 t12, .keep, .keep, .keep, .keep, .ro true 177 t8, .keep, .keep, .keep, .keep, .ro true 94 t10, .ro true 119 t11])]
noncomputable def L : List (Nat × List (Nat × List Coe)) := [(17, live_l2), (12, live_l1), (4, live_l0)]
noncomputable def body : Code := bodyOf Tryz.f173
noncomputable abbrev ev (K : Nat) : Code → St → (Ex → St → Option Res) → Option Res := evK (G K) T L K
noncomputable abbrev fin : Ex → St → Option Res := finK T ps rs true Tryz.f173.results.toList
noncomputable def S_l0 (x : Args ps) (a : A_l0) : St := mkSt [(1, ⟨0, .one, [.bp 100001 0]⟩), (3, ⟨0, .one, [.own false 132 t2 a.1]⟩), (11, ⟨0, .one, [.ro true 132 t2 x.1.2.2.2.2.2.2.2.2.1]⟩), (12, ⟨0, .one, [.int .i64 (List.length x.1.2.2.2.2.2.2.2.2.1 : Int)]⟩), (13, ⟨0, .one, [.int .i64 a.2]⟩), (100001, ⟨0, .agg, [.int .i64 x.1.1, .bool x.1.2.1, .bool x.1.2.2.1, .bool x.1.2.2.2.1, .int .i64 x.1.2.2.2.2.1, .int .i64 x.1.2.2.2.2.2.1, .int .i64 x.1.2.2.2.2.2.2.1, .int .i64 x.1.2.2.2.2.2.2.2.1, .ro true 132 t2 x.1.2.2.2.2.2.2.2.2.1, .ro true 173 t12 x.1.2.2.2.2.2.2.2.2.2.1, .int .i64 x.1.2.2.2.2.2.2.2.2.2.2.1.1, .int .i64 x.1.2.2.2.2.2.2.2.2.2.2.1.2.1, .int .i64 x.1.2.2.2.2.2.2.2.2.2.2.1.2.2.1, .bool x.1.2.2.2.2.2.2.2.2.2.2.1.2.2.2, .ro true 177 t8 x.1.2.2.2.2.2.2.2.2.2.2.2.1, .int .i64 x.1.2.2.2.2.2.2.2.2.2.2.2.2.1.1, .int .i64 x.1.2.2.2.2.2.2.2.2.2.2.2.2.1.2.1, .int .i64 x.1.2.2.2.2.2.2.2.2.2.2.2.2.1.2.2.1, .int .i64 x.1.2.2.2.2.2.2.2.2.2.2.2.2.1.2.2.2, .ro true 94 t10 x.1.2.2.2.2.2.2.2.2.2.2.2.2.2.1, .ro true 119 t11 x.1.2.2.2.2.2.2.2.2.2.2.2.2.2.2]⟩)]
noncomputable def S_l1 (x : Args ps) (a : A_l1) : St := mkSt [(1, ⟨0, .one, [.bp 100001 0]⟩), (3, ⟨0, .one, [.own false 132 t2 a.1]⟩), (32, ⟨0, .one, [.ro true 177 t8 x.1.2.2.2.2.2.2.2.2.2.2.2.1]⟩), (33, ⟨0, .one, [.int .i64 (List.length x.1.2.2.2.2.2.2.2.2.2.2.2.1 : Int)]⟩), (34, ⟨0, .one, [.int .i64 a.2]⟩), (100001, ⟨0, .agg, [.int .i64 x.1.1, .bool x.1.2.1, .bool x.1.2.2.1, .bool x.1.2.2.2.1, .int .i64 x.1.2.2.2.2.1, .int .i64 x.1.2.2.2.2.2.1, .int .i64 x.1.2.2.2.2.2.2.1, .int .i64 x.1.2.2.2.2.2.2.2.1, .ro true 132 t2 x.1.2.2.2.2.2.2.2.2.1, .ro true 173 t12 x.1.2.2.2.2.2.2.2.2.2.1, .int .i64 x.1.2.2.2.2.2.2.2.2.2.2.1.1, .int .i64 x.1.2.2.2.2.2.2.2.2.2.2.1.2.1, .int .i64 x.1.2.2.2.2.2.2.2.2.2.2.1.2.2.1, .bool x.1.2.2.2.2.2.2.2.2.2.2.1.2.2.2, .ro true 177 t8 x.1.2.2.2.2.2.2.2.2.2.2.2.1, .int .i64 x.1.2.2.2.2.2.2.2.2.2.2.2.2.1.1, .int .i64 x.1.2.2.2.2.2.2.2.2.2.2.2.2.1.2.1, .int .i64 x.1.2.2.2.2.2.2.2.2.2.2.2.2.1.2.2.1, .int .i64 x.1.2.2.2.2.2.2.2.2.2.2.2.2.1.2.2.2, .ro true 94 t10 x.1.2.2.2.2.2.2.2.2.2.2.2.2.2.1, .ro true 119 t11 x.1.2.2.2.2.2.2.2.2.2.2.2.2.2.2]⟩)]
noncomputable def S_l2 (x : Args ps) (a : A_l2) : St := mkSt [(1, ⟨0, .one, [.bp 100001 0]⟩), (3, ⟨0, .one, [.own false 132 t2 a.1]⟩), (7, ⟨0, .one, [.bp 100007 0]⟩), (32, ⟨0, .one, [.ro true 177 t8 x.1.2.2.2.2.2.2.2.2.2.2.2.1]⟩), (33, ⟨0, .one, [.int .i64 (List.length x.1.2.2.2.2.2.2.2.2.2.2.2.1 : Int)]⟩), (34, ⟨0, .one, [.int .i64 a.2.1]⟩), (72, ⟨0, .one, [.ro true 3 (.int .i64) a.2.2.1]⟩), (73, ⟨0, .one, [.int .i64 a.2.2.2.1]⟩), (74, ⟨0, .one, [.int .i64 a.2.2.2.2.1]⟩), (100001, ⟨0, .agg, [.int .i64 x.1.1, .bool x.1.2.1, .bool x.1.2.2.1, .bool x.1.2.2.2.1, .int .i64 x.1.2.2.2.2.1, .int .i64 x.1.2.2.2.2.2.1, .int .i64 x.1.2.2.2.2.2.2.1, .int .i64 x.1.2.2.2.2.2.2.2.1, .ro true 132 t2 x.1.2.2.2.2.2.2.2.2.1, .ro true 173 t12 x.1.2.2.2.2.2.2.2.2.2.1, .int .i64 x.1.2.2.2.2.2.2.2.2.2.2.1.1, .int .i64 x.1.2.2.2.2.2.2.2.2.2.2.1.2.1, .int .i64 x.1.2.2.2.2.2.2.2.2.2.2.1.2.2.1, .bool x.1.2.2.2.2.2.2.2.2.2.2.1.2.2.2, .ro true 177 t8 x.1.2.2.2.2.2.2.2.2.2.2.2.1, .int .i64 x.1.2.2.2.2.2.2.2.2.2.2.2.2.1.1, .int .i64 x.1.2.2.2.2.2.2.2.2.2.2.2.2.1.2.1, .int .i64 x.1.2.2.2.2.2.2.2.2.2.2.2.2.1.2.2.1, .int .i64 x.1.2.2.2.2.2.2.2.2.2.2.2.2.1.2.2.2, .ro true 94 t10 x.1.2.2.2.2.2.2.2.2.2.2.2.2.2.1, .ro true 119 t11 x.1.2.2.2.2.2.2.2.2.2.2.2.2.2.2]⟩), (100007, ⟨0, .agg, [.int .i64 a.2.2.2.2.2.1, .int .i64 a.2.2.2.2.2.2.1, .int .i64 a.2.2.2.2.2.2.2.1, .ro true 3 (.int .i64) a.2.2.2.2.2.2.2.2]⟩)]
noncomputable def k_l0 (K : Nat) (x : Args ps) : Ex → St → Option Res := kAt (ev K) body [1, 1, 0, 1, 0] fin
noncomputable def N_l0 (K : Nat) (x : Args ps) : A_l0 → Option Res := fun a => evLoop live_l0 (ev K (sub body [1, 1, 0, 1, 0, 0])) K (S_l0 x a) (k_l0 K x)
noncomputable def k_l1 (K : Nat) (x : Args ps) : Ex → St → Option Res := kAt (ev K) body [1, 1, 1, 1, 0, 1, 0] fin
noncomputable def N_l1 (K : Nat) (x : Args ps) : A_l1 → Option Res := fun a => evLoop live_l1 (ev K (sub body [1, 1, 1, 1, 0, 1, 0, 0])) K (S_l1 x a) (k_l1 K x)
noncomputable def k_l2 (K : Nat) (x : Args ps) (r_l1 : St → Option Res) : Ex → St → Option Res := kAt (ev K) (sub body [1, 1, 1, 1, 0, 1, 0, 0]) [1, 1, 0, 0, 1, 1, 1, 0] (kLoop live_l1 r_l1 (k_l1 K x))
noncomputable def N_l2 (K : Nat) (x : Args ps) (r_l1 : St → Option Res) : A_l2 → Option Res := fun a => evLoop live_l2 (ev K (sub body [1, 1, 1, 1, 0, 1, 0, 0, 1, 1, 0, 0, 1, 1, 1, 0, 0])) K (S_l2 x a) (k_l2 K x r_l1)
theorem h_l2 (K : Nat) (x : Args ps) (r_l1 : St → Option Res) (r_l2 : St → Option Res) (a : A_l2) : ev K (sub body [1, 1, 1, 1, 0, 1, 0, 0, 1, 1, 0, 0, 1, 1, 1, 0, 0]) (S_l2 x a) (kLoop live_l2 r_l2 (k_l2 K x r_l1)) = l2.step K x (fun a => r_l1 (S_l1 x a)) (fun a => r_l2 (S_l2 x a)) a := by kernel_rfl
theorem ok_l2 (K : Nat) (x : Args ps) (r_l1 : St → Option Res) : N_l2 K x r_l1 = l2 K x (fun a => r_l1 (S_l1 x a)) := funext fun a => evLoop_iter live_l2 (ev K (sub body [1, 1, 1, 1, 0, 1, 0, 0, 1, 1, 0, 0, 1, 1, 1, 0, 0])) (k_l2 K x r_l1) (S_l2 x) (fun rec a => l2.step K x (fun a => r_l1 (S_l1 x a)) rec a) (fun r_l2 a => (h_l2 K x r_l1 r_l2 a)) K a
theorem h_l1 (K : Nat) (x : Args ps) (r_l1 : St → Option Res) (a : A_l1) : ev K (sub body [1, 1, 1, 1, 0, 1, 0, 0]) (S_l1 x a) (kLoop live_l1 r_l1 (k_l1 K x)) = l1.step K x (N_l2 K x r_l1) (fun a => r_l1 (S_l1 x a)) a := by kernel_rfl
theorem ok_l1 (K : Nat) (x : Args ps) : N_l1 K x = l1 K x := funext fun a => evLoop_iter live_l1 (ev K (sub body [1, 1, 1, 1, 0, 1, 0, 0])) (k_l1 K x) (S_l1 x) (fun rec a => l1.step K x (l2 K x rec) rec a) (fun r_l1 a => (h_l1 K x r_l1 a).trans (by rw [ok_l2 K x r_l1])) K a
theorem h_l0 (K : Nat) (x : Args ps) (r_l0 : St → Option Res) (a : A_l0) : ev K (sub body [1, 1, 0, 1, 0, 0]) (S_l0 x a) (kLoop live_l0 r_l0 (k_l0 K x)) = l0.step K x (N_l1 K x) (fun a => r_l0 (S_l0 x a)) a := by kernel_rfl
theorem ok_l0 (K : Nat) (x : Args ps) : N_l0 K x = l0 K x := funext fun a => evLoop_iter live_l0 (ev K (sub body [1, 1, 0, 1, 0, 0])) (k_l0 K x) (S_l0 x) (fun rec a => l0.step K x (l1 K x) rec a) (fun r_l0 a => (h_l0 K x r_l0 a).trans (by rw [ok_l1 K x])) K a
theorem eqn (K : Nat) (x : Args ps) : evF (G K) T L K Tryz.f173 ps rs true x = f K x := (show evF (G K) T L K Tryz.f173 ps rs true x = pre K (N_l0 K x) x by kernel_rfl).trans (by rw [ok_l0 K x]; rfl)
end impl_Node_doubtsOk
/-! ### impl.CoordOk -/
namespace impl_CoordOk
@[reducible] def ps : List PK := [.rd t5]
@[reducible] def rs : List RK := [.v false .bool]
abbrev Res := Ress rs × Outs ps
noncomputable def pre (K : Nat) (x : Args ps) : Option Res := (impl_in.f K (x.1.1, (-100000), 100000, ())).bind fun y1 => bif y1.1.1 then ((impl_in.f K (x.1.2.1, (-100000), 100000, ())).bind fun y2 => bif y2.1.1 then ((impl_in.f K (x.1.2.2.1, 0, 100000, ())).bind fun y3 => bif y3.1.1 then ((impl_in.f K (x.1.2.2.2, 1, 1500, ())).bind fun y4 => some ((y4.1.1, ()), ())) else (some ((false, ()), ()))) else (some ((false, ()), ()))) else (some ((false, ()), ()))
noncomputable def f (K : Nat) (x : Args ps) : Option Res := pre K x
noncomputable def c (K : Nat) : Ctr := ⟨174, ps, rs, true, f K⟩
noncomputable def G (K : Nat) : List Ctr := [impl_in.c K]
noncomputable def L : List (Nat × List (Nat × List Coe)) := []
noncomputable def body : Code := bodyOf Tryz.f174
noncomputable abbrev ev (K : Nat) : Code → St → (Ex → St → Option Res) → Option Res := evK (G K) T L K
noncomputable abbrev fin : Ex → St → Option Res := finK T ps rs true Tryz.f174.results.toList
theorem eqn (K : Nat) (x : Args ps) : evF (G K) T L K Tryz.f174 ps rs true x = f K x := by kernel_rfl
end impl_CoordOk
/-! ### impl.Node).other -/
namespace impl_Node_other
@[reducible] def ps : List PK := [.rd t48, .rd (.int .i64)]
@[reducible] def rs : List RK := [.v false .bool]
abbrev Res := Ress rs × Outs ps
noncomputable def pre (K : Nat) (x : Args ps) : Option Res := (impl_Node_near.f K (x.1, x.2.1, ())).bind fun y1 => bif y1.1.1 then (some ((x.2.1 != x.1.1, ()), ())) else (some ((false, ()), ()))
noncomputable def f (K : Nat) (x : Args ps) : Option Res := pre K x
noncomputable def c (K : Nat) : Ctr := ⟨199, ps, rs, true, f K⟩
noncomputable def G (K : Nat) : List Ctr := [impl_Node_near.c K]
noncomputable def L : List (Nat × List (Nat × List Coe)) := []
noncomputable def body : Code := bodyOf Tryz.f199
noncomputable abbrev ev (K : Nat) : Code → St → (Ex → St → Option Res) → Option Res := evK (G K) T L K
noncomputable abbrev fin : Ex → St → Option Res := finK T ps rs true Tryz.f199.results.toList
theorem eqn (K : Nat) (x : Args ps) : evF (G K) T L K Tryz.f199 ps rs true x = f K x := by kernel_rfl
end impl_Node_other
/-! ### slices.IndexFunc[[]int,int] -/
namespace slices_IndexFunc_int_int
@[reducible] def ps : List PK := [.rd (.list 3 (.int .i64)), .fn [(.int .i64)] .bool]
@[reducible] def rs : List RK := [.v false (.int .i64)]
abbrev Res := Ress rs × Outs ps
abbrev A_l0 := Int
noncomputable def l0.step (K : Nat) (x : Args ps) (rec_l0 : A_l0 → Option Res) (a : A_l0) : Option Res := bif decide (a < (List.length x.1 : Int)) then ((idx x.1 a).bind fun y1 => (x.2.1 (y1, ())).bind fun y2 => bif y2 then (some ((a, ()), ())) else (rec_l0 (wr .i64 (a + 1)))) else (some (((-1), ()), ()))
noncomputable def l0 (K : Nat) (x : Args ps) : A_l0 → Option Res := iterate (fun rec_l0 a => l0.step K x rec_l0 a) K
noncomputable def pre (K : Nat) (N_l0 : A_l0 → Option Res) (x : Args ps) : Option Res := N_l0 0
noncomputable def f (K : Nat) (x : Args ps) : Option Res := pre K (l0 K x) x
noncomputable def c (K : Nat) : Ctr := ⟨291, ps, rs, true, f K⟩
noncomputable def G (K : Nat) : List Ctr := []
noncomputable def live_l0 : List (Nat × List Coe) := [(0, [.ro true 3 (.int .i64)]), (1, [.keep]), (7, [.keep]), (8, [.keep])]
noncomputable def L : List (Nat × List (Nat × List Coe)) := [(3, live_l0)]
noncomputable def body : Code := bodyOf Tryz.f291
noncomputable abbrev ev (K : Nat) : Code → St → (Ex → St → Option Res) → Option Res := evK (G K) T L K
noncomputable abbrev fin : Ex → St → Option Res := finK T ps rs true Tryz.f291.results.toList
noncomputable def S_l0 (x : Args ps) (a : A_l0) : St := mkSt [(0, ⟨0, .one, [.ro true 3 (.int .i64) x.1]⟩), (1, ⟨0, .one, [.fn [(.int .i64)] .bool x.2.1]⟩), (7, ⟨0, .one, [.int .i64 (List.length x.1 : Int)]⟩), (8, ⟨0, .one, [.int .i64 a]⟩)]
noncomputable def k_l0 (K : Nat) (x : Args ps) : Ex → St → Option Res := kAt (ev K) body [1, 0, 1, 0] fin
noncomputable def N_l0 (K : Nat) (x : Args ps) : A_l0 → Option Res := fun a => evLoop live_l0 (ev K (sub body [1, 0, 1, 0, 0])) K (S_l0 x a) (k_l0 K x)
theorem h_l0 (K : Nat) (x : Args ps) (r_l0 : St → Option Res) (a : A_l0) : ev K (sub body [1, 0, 1, 0, 0]) (S_l0 x a) (kLoop live_l0 r_l0 (k_l0 K x)) = l0.step K x (fun a => r_l0 (S_l0 x a)) a := by kernel_rfl
theorem ok_l0 (K : Nat) (x : Args ps) : N_l0 K x = l0 K x := funext fun a => evLoop_iter live_l0 (ev K (sub body [1, 0, 1, 0, 0])) (k_l0 K x) (S_l0 x) (fun rec a => l0.step K x rec a) (fun r_l0 a => (h_l0 K x r_l0 a)) K a
theorem eqn (K : Nat) (x : Args ps) : evF (G K) T L K Tryz.f291 ps rs true x = f K x := (show evF (G K) T L K Tryz.f291 ps rs true x = pre K (N_l0 K x) x by kernel_rfl).trans (by rw [ok_l0 K x]; rfl)
end slices_IndexFunc_int_int
/-! ### slices.ContainsFunc[[]int,int] -/
namespace slices_ContainsFunc_int_int
@[reducible] def ps : List PK := [.rd (.list 3 (.int .i64)), .fn [(.int .i64)] .bool]
@[reducible] def rs : List RK := [.v false .bool]
abbrev Res := Ress rs × Outs ps
noncomputable def pre (K : Nat) (x : Args ps) : Option Res := (slices_IndexFunc_int_int.f K (x.1, x.2.1, ())).bind fun y1 => some ((decide (y1.1.1 ≥ 0), ()), ())
noncomputable def f (K : Nat) (x : Args ps) : Option Res := pre K x
noncomputable def c (K : Nat) : Ctr := ⟨238, ps, rs, true, f K⟩
noncomputable def G (K : Nat) : List Ctr := [slices_IndexFunc_int_int.c K]
noncomputable def L : List (Nat × List (Nat × List Coe)) := []
noncomputable def body : Code := bodyOf Tryz.f238
noncomputable abbrev ev (K : Nat) : Code → St → (Ex → St → Option Res) → Option Res := evK (G K) T L K
noncomputable abbrev fin : Ex → St → Option Res := finK T ps rs true Tryz.f238.results.toList
theorem eqn (K : Nat) (x : Args ps) : evF (G K) T L K Tryz.f238 ps rs true x = f K x := by kernel_rfl
end slices_ContainsFunc_int_int
/-! ### impl.Node).placesOk$1 -/
namespace impl_Node_placesOk_1
@[reducible] def ps : List PK := [.rd (.int .i64)]
@[reducible] def rs : List RK := [.v false .bool]
abbrev Res := Ress rs × Outs ps
noncomputable def pre (K : Nat) (x : Args ps) : Option Res := (impl_in.f K (x.1, 1, 60000, ())).bind fun y1 => some ((!y1.1.1, ()), ())
noncomputable def f (K : Nat) (x : Args ps) : Option Res := pre K x
noncomputable def c (K : Nat) : Ctr := ⟨237, ps, rs, true, f K⟩
noncomputable def G (K : Nat) : List Ctr := [impl_in.c K]
noncomputable def L : List (Nat × List (Nat × List Coe)) := []
noncomputable def body : Code := bodyOf Tryz.f237
noncomputable abbrev ev (K : Nat) : Code → St → (Ex → St → Option Res) → Option Res := evK (G K) T L K
noncomputable abbrev fin : Ex → St → Option Res := finK T ps rs true Tryz.f237.results.toList
theorem eqn (K : Nat) (x : Args ps) : evF (G K) T L K Tryz.f237 ps rs true x = f K x := by kernel_rfl
end impl_Node_placesOk_1
/-! ### impl.Node).placesOk -/
namespace impl_Node_placesOk
@[reducible] def ps : List PK := [.rd t48]
@[reducible] def rs : List RK := [.v false .bool]
abbrev Res := Ress rs × Outs ps
abbrev A_l0 := Int
noncomputable def l0.step (K : Nat) (x : Args ps) (rec_l0 : A_l0 → Option Res) (a : A_l0) : Option Res := bif decide (a < (List.length x.1.2.2.2.2.2.2.2.2.2.2.2.2.2.1 : Int)) then ((idx x.1.2.2.2.2.2.2.2.2.2.2.2.2.2.1 a).bind fun y1 => (impl_Node_other.f K (x.1, y1.1, ())).bind fun y2 => bif !y2.1.1 then (some ((false, ()), ())) else (bif decide (a > 0) then ((idx x.1.2.2.2.2.2.2.2.2.2.2.2.2.2.1 (wr .i64 (a - 1))).bind fun y3 => bif decide (y1.1 ≤ y3.1) then (some ((false, ()), ())) else ((impl_CoordOk.f K (y1.2.1, ())).bind fun y4 => bif !y4.1.1 then (some ((false, ()), ())) else ((impl_in.f K ((List.length y1.2.2 : Int), 1, 3, ())).bind fun y5 => bif !y5.1.1 then (some ((false, ()), ())) else ((slices_ContainsFunc_int_int.f K (y1.2.2, fun y6 => (impl_Node_placesOk_1.f K (y6.1, ())).map fun y => y.1.1, ())).bind fun y7 => bif y7.1.1 then (some ((false, ()), ())) else (rec_l0 (wr .i64 (a + 1))))))) else ((impl_CoordOk.f K (y1.2.1, ())).bind fun y8 => bif !y8.1.1 then (some ((false, ()), ())) else ((impl_in.f K ((List.length y1.2.2 : Int), 1, 3, ())).bind fun y9 => bif !y9.1.1 then (some ((false, ()), ())) else ((slices_ContainsFunc_int_int.f K (y1.2.2, fun y10 => (impl_Node_placesOk_1.f K (y10.1, ())).map fun y => y.1.1, ())).bind fun y11 => bif y11.1.1 then (some ((false, ()), ())) else (rec_l0 (wr .i64 (a + 1)))))))) else (some ((true, ()), ()))
noncomputable def l0 (K : Nat) (x : Args ps) : A_l0 → Option Res := iterate (fun rec_l0 a => l0.step K x rec_l0 a) K
noncomputable def pre (K : Nat) (N_l0 : A_l0 → Option Res) (x : Args ps) : Option Res := N_l0 0
noncomputable def f (K : Nat) (x : Args ps) : Option Res := pre K (l0 K x) x
noncomputable def c (K : Nat) : Ctr := ⟨175, ps, rs, true, f K⟩
noncomputable def G (K : Nat) : List Ctr := [impl_in.c K, impl_CoordOk.c K, impl_Node_other.c K, impl_Node_placesOk_1.c K, slices_ContainsFunc_int_int.c K]
noncomputable def live_l0 : List (Nat × List Coe) := [(1, [.keep]), (3, [.keep]), (7, [.ro true 94 t10]), (8, [.keep]), (9, [.keep]), (100001, [.keep, .keep, .keep, .keep, .keep, .keep, .keep, .keep, .ro true 132 t2, .ro true 173 t12, .keep, .keep, .keep, .keep, .ro true 177 t8, .keep, .keep, .keep, .keep, .ro true 94 t10, .ro true 119 t11])]
noncomputable def L : List (Nat × List (Nat × List Coe)) := [(4, live_l0)]
noncomputable def body : Code := bodyOf Tryz.f175
noncomputable abbrev ev (K : Nat) : Code → St → (Ex → St → Option Res) → Option Res := evK (G K) T L K
noncomputable abbrev fin : Ex → St → Option Res := finK T ps rs true Tryz.f175.results.toList
noncomputable def S_l0 (x : Args ps) (a : A_l0) : St := mkSt [(1, ⟨0, .one, [.bp 100001 0]⟩), (3, ⟨0, .one, [.clo 237 []]⟩), (7, ⟨0, .one, [.ro true 94 t10 x.1.2.2.2.2.2.2.2.2.2.2.2.2.2.1]⟩), (8, ⟨0, .one, [.int .i64 (List.length x.1.2.2.2.2.2.2.2.2.2.2.2.2.2.1 : Int)]⟩), (9, ⟨0, .one, [.int .i64 a]⟩), (100001, ⟨0, .agg, [.int .i64 x.1.1, .bool x.1.2.1, .bool x.1.2.2.1, .bool x.1.2.2.2.1, .int .i64 x.1.2.2.2.2.1, .int .i64 x.1.2.2.2.2.2.1, .int .i64 x.1.2.2.2.2.2.2.1, .int .i64 x.1.2.2.2.2.2.2.2.1, .ro true 132 t2 x.1.2.2.2.2.2.2.2.2.1, .ro true 173 t12 x.1.2.2.2.2.2.2.2.2.2.1, .int .i64 x.1.2.2.2.2.2.2.2.2.2.2.1.1, .int .i64 x.1.2.2.2.2.2.2.2.2.2.2.1.2.1, .int .i64 x.1.2.2.2.2.2.2.2.2.2.2.1.2.2.1, .bool x.1.2.2.2.2.2.2.2.2.2.2.1.2.2.2, .ro true 177 t8 x.1.2.2.2.2.2.2.2.2.2.2.2.1, .int .i64 x.1.2.2.2.2.2.2.2.2.2.2.2.2.1.1, .int .i64 x.1.2.2.2.2.2.2.2.2.2.2.2.2.1.2.1, .int .i64 x.1.2.2.2.2.2.2.2.2.2.2.2.2.1.2.2.1, .int .i64 x.1.2.2.2.2.2.2.2.2.2.2.2.2.1.2.2.2, .ro true 94 t10 x.1.2.2.2.2.2.2.2.2.2.2.2.2.2.1, .ro true 119 t11 x.1.2.2.2.2.2.2.2.2.2.2.2.2.2.2]⟩)]
noncomputable def k_l0 (K : Nat) (x : Args ps) : Ex → St → Option Res := kAt (ev K) body [1, 1, 0, 1, 0] fin
noncomputable def N_l0 (K : Nat) (x : Args ps) : A_l0 → Option Res := fun a => evLoop live_l0 (ev K (sub body [1, 1, 0, 1, 0, 0])) K (S_l0 x a) (k_l0 K x)
theorem h_l0 (K : Nat) (x : Args ps) (r_l0 : St → Option Res) (a : A_l0) : ev K (sub body [1, 1, 0, 1, 0, 0]) (S_l0 x a) (kLoop live_l0 r_l0 (k_l0 K x)) = l0.step K x (fun a => r_l0 (S_l0 x a)) a := by kernel_rfl
theorem ok_l0 (K : Nat) (x : Args ps) : N_l0 K x = l0 K x := funext fun a => evLoop_iter live_l0 (ev K (sub body [1, 1, 0, 1, 0, 0])) (k_l0 K x) (S_l0 x) (fun rec a => l0.step K x rec a) (fun r_l0 a => (h_l0 K x r_l0 a)) K a
theorem eqn (K : Nat) (x : Args ps) : evF (G K) T L K Tryz.f175 ps rs true x = f K x := (show evF (G K) T L K Tryz.f175 ps rs true x = pre K (N_l0 K x) x by kernel_rfl).trans (by rw [ok_l0 K x]; rfl)
end impl_Node_placesOk
/-! ### impl.Node).othersOk -/
namespace impl_Node_othersOk
@[reducible] def ps : List PK := [.rd t48]
@[reducible] def rs : List RK := [.v false .bool]
abbrev Res := Ress rs × Outs ps
abbrev A_l0 := Int
noncomputable def l0.step (K : Nat) (x : Args ps) (rec_l0 : A_l0 → Option Res) (a : A_l0) : Option Res := bif decide (a < (List.length x.1.2.2.2.2.2.2.2.2.2.2.2.2.2.2 : Int)) then ((idx x.1.2.2.2.2.2.2.2.2.2.2.2.2.2.2 a).bind fun y1 => (impl_siteOf.f K (7, ())).bind fun y2 => (impl_in.f K (y1.1, 0, y2.1.1, ())).bind fun y3 => bif !y3.1.1 then (some ((false, ()), ())) else ((impl_Node_site.f K (x.1, ())).bind fun y4 => bif y1.1 == y4.1.1 then (some ((false, ()), ())) else (bif decide (a > 0) then ((idx x.1.2.2.2.2.2.2.2.2.2.2.2.2.2.2 (wr .i64 (a - 1))).bind fun y5 => bif decide (y1.1 ≤ y5.1) then (some ((false, ()), ())) else (bif (List.length y1.2 : Int) == 0 then (some ((false, ()), ())) else ((impl_TableOk.f K (y1.2, ())).bind fun y6 => bif !y6.1.1 then (some ((false, ()), ())) else ((impl_ofSite.f K (y1.2, y1.1, ())).bind fun y7 => bif !y7.1.1 then (some ((false, ()), ())) else (rec_l0 (wr .i64 (a + 1))))))) else (bif (List.length y1.2 : Int) == 0 then (some ((false, ()), ())) else ((impl_TableOk.f K (y1.2, ())).bind fun y8 => bif !y8.1.1 then (some ((false, ()), ())) else ((impl_ofSite.f K (y1.2, y1.1, ())).bind fun y9 => bif !y9.1.1 then (some ((false, ()), ())) else (rec_l0 (wr .i64 (a + 1))))))))) else (some ((true, ()), ()))
noncomputable def l0 (K : Nat) (x : Args ps) : A_l0 → Option Res := iterate (fun rec_l0 a => l0.step K x rec_l0 a) K
noncomputable def pre (K : Nat) (N_l0 : A_l0 → Option Res) (x : Args ps) : Option Res := N_l0 0
noncomputable def f (K : Nat) (x : Args ps) : Option Res := pre K (l0 K x) x
noncomputable def c (K : Nat) : Ctr := ⟨176, ps, rs, true, f K⟩
noncomputable def G (K : Nat) : List Ctr := [impl_ofSite.c K, impl_Node_site.c K, impl_siteOf.c K, impl_in.c K, impl_TableOk.c K]
noncomputable def live_l0 : List (Nat × List Coe) := [(1, [.keep]), (6, [.ro true 119 t11]), (7, [.keep]), (8, [.keep]), (100001, [.keep, .keep, .keep, .keep, .keep, .keep, .keep, .keep, .ro true 132 t2, .ro true 173 t12, .keep, .keep, .keep, .keep, .ro true 177 t8, .keep, .keep, .keep, .keep, .ro true 94 t10, .ro true 119 t11])]
noncomputable def L : List (Nat × List (Nat × List Coe)) := [(3, live_l0)]
noncomputable def body : Code := bodyOf Tryz.f176
noncomputable abbrev ev (K : Nat) : Code → St → (Ex → St → Option Res) → Option Res := evK (G K) T L K
noncomputable abbrev fin : Ex → St → Option Res := finK T ps rs true Tryz.f176.results.toList
noncomputable def S_l0 (x : Args ps) (a : A_l0) : St := mkSt [(1, ⟨0, .one, [.bp 100001 0]⟩), (6, ⟨0, .one, [.ro true 119 t11 x.1.2.2.2.2.2.2.2.2.2.2.2.2.2.2]⟩), (7, ⟨0, .one, [.int .i64 (List.length x.1.2.2.2.2.2.2.2.2.2.2.2.2.2.2 : Int)]⟩), (8, ⟨0, .one, [.int .i64 a]⟩), (100001, ⟨0, .agg, [.int .i64 x.1.1, .bool x.1.2.1, .bool x.1.2.2.1, .bool x.1.2.2.2.1, .int .i64 x.1.2.2.2.2.1, .int .i64 x.1.2.2.2.2.2.1, .int .i64 x.1.2.2.2.2.2.2.1, .int .i64 x.1.2.2.2.2.2.2.2.1, .ro true 132 t2 x.1.2.2.2.2.2.2.2.2.1, .ro true 173 t12 x.1.2.2.2.2.2.2.2.2.2.1, .int .i64 x.1.2.2.2.2.2.2.2.2.2.2.1.1, .int .i64 x.1.2.2.2.2.2.2.2.2.2.2.1.2.1, .int .i64 x.1.2.2.2.2.2.2.2.2.2.2.1.2.2.1, .bool x.1.2.2.2.2.2.2.2.2.2.2.1.2.2.2, .ro true 177 t8 x.1.2.2.2.2.2.2.2.2.2.2.2.1, .int .i64 x.1.2.2.2.2.2.2.2.2.2.2.2.2.1.1, .int .i64 x.1.2.2.2.2.2.2.2.2.2.2.2.2.1.2.1, .int .i64 x.1.2.2.2.2.2.2.2.2.2.2.2.2.1.2.2.1, .int .i64 x.1.2.2.2.2.2.2.2.2.2.2.2.2.1.2.2.2, .ro true 94 t10 x.1.2.2.2.2.2.2.2.2.2.2.2.2.2.1, .ro true 119 t11 x.1.2.2.2.2.2.2.2.2.2.2.2.2.2.2]⟩)]
noncomputable def k_l0 (K : Nat) (x : Args ps) : Ex → St → Option Res := kAt (ev K) body [1, 0, 1, 0] fin
noncomputable def N_l0 (K : Nat) (x : Args ps) : A_l0 → Option Res := fun a => evLoop live_l0 (ev K (sub body [1, 0, 1, 0, 0])) K (S_l0 x a) (k_l0 K x)
theorem h_l0 (K : Nat) (x : Args ps) (r_l0 : St → Option Res) (a : A_l0) : ev K (sub body [1, 0, 1, 0, 0]) (S_l0 x a) (kLoop live_l0 r_l0 (k_l0 K x)) = l0.step K x (fun a => r_l0 (S_l0 x a)) a := by kernel_rfl
theorem ok_l0 (K : Nat) (x : Args ps) : N_l0 K x = l0 K x := funext fun a => evLoop_iter live_l0 (ev K (sub body [1, 0, 1, 0, 0])) (k_l0 K x) (S_l0 x) (fun rec a => l0.step K x rec a) (fun r_l0 a => (h_l0 K x r_l0 a)) K a
theorem eqn (K : Nat) (x : Args ps) : evF (G K) T L K Tryz.f176 ps rs true x = f K x := (show evF (G K) T L K Tryz.f176 ps rs true x = pre K (N_l0 K x) x by kernel_rfl).trans (by rw [ok_l0 K x]; rfl)
end impl_Node_othersOk
/-! ### impl.NodeOk -/
namespace impl_NodeOk
@[reducible] def ps : List PK := [.rd t48]
@[reducible] def rs : List RK := [.v false .bool]
abbrev Res := Ress rs × Outs ps
noncomputable def pre (K : Nat) (x : Args ps) : Option Res := (impl_isNode.f K (x.1.1, ())).bind fun y1 => bif !y1.1.1 then (some ((false, ()), ())) else ((impl_in.f K (x.1.2.2.2.2.2.1, 0, 999999, ())).bind fun y2 => bif !y2.1.1 then (some ((false, ()), ())) else ((impl_in.f K (x.1.2.2.2.2.2.2.1, 0, 999999, ())).bind fun y3 => bif !y3.1.1 then (some ((false, ()), ())) else ((impl_in.f K (x.1.2.2.2.2.2.2.2.1, 0, 8, ())).bind fun y4 => bif !y4.1.1 then (some ((false, ()), ())) else ((impl_in.f K (x.1.2.2.2.2.1, 0, 999, ())).bind fun y5 => bif !y5.1.1 then (some ((false, ()), ())) else (bif !x.1.2.1 then ((impl_Node_isDown.f K (x.1, ())).bind fun y6 => some ((y6.1.1, ()), ())) else ((impl_Node_tableOk.f K (x.1, ())).bind fun y7 => bif y7.1.1 then ((impl_Node_probeOk.f K (x.1, ())).bind fun y8 => bif y8.1.1 then ((impl_Node_doubtsOk.f K (x.1, ())).bind fun y9 => bif y9.1.1 then ((impl_CoordOk.f K (x.1.2.2.2.2.2.2.2.2.2.2.2.2.1, ())).bind fun y10 => bif y10.1.1 then ((impl_Node_placesOk.f K (x.1, ())).bind fun y11 => bif y11.1.1 then ((impl_Node_othersOk.f K (x.1, ())).bind fun y12 => some ((y12.1.1, ()), ())) else (some ((false, ()), ()))) else (some ((false, ()), ()))) else (some ((false, ()), ()))) else (some ((false, ()), ()))) else (some ((false, ()), ()))))))))
noncomputable def f (K : Nat) (x : Args ps) : Option Res := pre K x
noncomputable def c (K : Nat) : Ctr := ⟨76, ps, rs, true, f K⟩
noncomputable def G (K : Nat) : List Ctr := [impl_in.c K, impl_isNode.c K, impl_Node_isDown.c K, impl_Node_tableOk.c K, impl_Node_probeOk.c K, impl_Node_doubtsOk.c K, impl_CoordOk.c K, impl_Node_placesOk.c K, impl_Node_othersOk.c K]
noncomputable def L : List (Nat × List (Nat × List Coe)) := []
noncomputable def body : Code := bodyOf Tryz.f76
noncomputable abbrev ev (K : Nat) : Code → St → (Ex → St → Option Res) → Option Res := evK (G K) T L K
noncomputable abbrev fin : Ex → St → Option Res := finK T ps rs true Tryz.f76.results.toList
theorem eqn (K : Nat) (x : Args ps) : evF (G K) T L K Tryz.f76 ps rs true x = f K x := by kernel_rfl
end impl_NodeOk
/-! ### impl.clamp -/
namespace impl_clamp
@[reducible] def ps : List PK := [.rd (.int .i64), .rd (.int .i64), .rd (.int .i64)]
@[reducible] def rs : List RK := [.v false (.int .i64)]
abbrev Res := Ress rs × Outs ps
noncomputable def pre (K : Nat) (x : Args ps) : Option Res := some ((bif decide (x.2.1 < (bif decide (x.2.2.1 < x.1) then x.2.2.1 else x.1)) then bif decide (x.2.2.1 < x.1) then x.2.2.1 else x.1 else x.2.1, ()), ())
noncomputable def f (K : Nat) (x : Args ps) : Option Res := pre K x
noncomputable def c (K : Nat) : Ctr := ⟨196, ps, rs, true, f K⟩
noncomputable def G (K : Nat) : List Ctr := []
noncomputable def L : List (Nat × List (Nat × List Coe)) := []
noncomputable def body : Code := bodyOf Tryz.f196
noncomputable abbrev ev (K : Nat) : Code → St → (Ex → St → Option Res) → Option Res := evK (G K) T L K
noncomputable abbrev fin : Ex → St → Option Res := finK T ps rs true Tryz.f196.results.toList
theorem eqn (K : Nat) (x : Args ps) : evF (G K) T L K Tryz.f196 ps rs true x = f K x := by kernel_rfl
end impl_clamp
/-! ### impl.FixClamp -/
namespace impl_FixClamp
@[reducible] def ps : List PK := [.rd (.int .i64)]
@[reducible] def rs : List RK := [.v false (.int .i64)]
abbrev Res := Ress rs × Outs ps
noncomputable def pre (K : Nat) (x : Args ps) : Option Res := (impl_clamp.f K (x.1, (-1000000000), 1000000000, ())).bind fun y1 => some ((y1.1.1, ()), ())
noncomputable def f (K : Nat) (x : Args ps) : Option Res := pre K x
noncomputable def c (K : Nat) : Ctr := ⟨239, ps, rs, true, f K⟩
noncomputable def G (K : Nat) : List Ctr := [impl_clamp.c K]
noncomputable def L : List (Nat × List (Nat × List Coe)) := []
noncomputable def body : Code := bodyOf Tryz.f239
noncomputable abbrev ev (K : Nat) : Code → St → (Ex → St → Option Res) → Option Res := evK (G K) T L K
noncomputable abbrev fin : Ex → St → Option Res := finK T ps rs true Tryz.f239.results.toList
theorem eqn (K : Nat) (x : Args ps) : evF (G K) T L K Tryz.f239 ps rs true x = f K x := by kernel_rfl
end impl_FixClamp
/-! ### impl.root -/
namespace impl_root
@[reducible] def ps : List PK := [.rd (.int .i64)]
@[reducible] def rs : List RK := [.v false (.int .i64)]
abbrev Res := Ress rs × Outs ps
abbrev A_l0 := Int × Int
noncomputable def l0.step (K : Nat) (x : Args ps) (rec_l0 : A_l0 → Option Res) (a : A_l0) : Option Res := bif decide ((wr .i64 (a.2 - a.1)) > 1) then (bif decide ((wr .i64 ((wr .i64 (Int.tdiv (wr .i64 (a.1 + a.2)) 2)) * (wr .i64 (Int.tdiv (wr .i64 (a.1 + a.2)) 2)))) ≤ x.1) then (rec_l0 (wr .i64 (Int.tdiv (wr .i64 (a.1 + a.2)) 2), a.2)) else (rec_l0 (a.1, wr .i64 (Int.tdiv (wr .i64 (a.1 + a.2)) 2)))) else (some ((a.1, ()), ()))
noncomputable def l0 (K : Nat) (x : Args ps) : A_l0 → Option Res := iterate (fun rec_l0 a => l0.step K x rec_l0 a) K
noncomputable def pre (K : Nat) (N_l0 : A_l0 → Option Res) (x : Args ps) : Option Res := N_l0 (0, 2147483648)
noncomputable def f (K : Nat) (x : Args ps) : Option Res := pre K (l0 K x) x
noncomputable def c (K : Nat) : Ctr := ⟨240, ps, rs, true, f K⟩
noncomputable def G (K : Nat) : List Ctr := []
noncomputable def live_l0 : List (Nat × List Coe) := [(0, [.keep]), (3, [.keep]), (4, [.keep])]
noncomputable def L : List (Nat × List (Nat × List Coe)) := [(3, live_l0)]
noncomputable def body : Code := bodyOf Tryz.f240
noncomputable abbrev ev (K : Nat) : Code → St → (Ex → St → Option Res) → Option Res := evK (G K) T L K
noncomputable abbrev fin : Ex → St → Option Res := finK T ps rs true Tryz.f240.results.toList
noncomputable def S_l0 (x : Args ps) (a : A_l0) : St := mkSt [(0, ⟨0, .one, [.int .i64 x.1]⟩), (3, ⟨0, .one, [.int .i64 a.1]⟩), (4, ⟨0, .one, [.int .i64 a.2]⟩)]
noncomputable def k_l0 (K : Nat) (x : Args ps) : Ex → St → Option Res := kAt (ev K) body [1, 1, 0, 0] fin
noncomputable def N_l0 (K : Nat) (x : Args ps) : A_l0 → Option Res := fun a => evLoop live_l0 (ev K (sub body [1, 1, 0, 0, 0])) K (S_l0 x a) (k_l0 K x)
theorem h_l0 (K : Nat) (x : Args ps) (r_l0 : St → Option Res) (a : A_l0) : ev K (sub body [1, 1, 0, 0, 0]) (S_l0 x a) (kLoop live_l0 r_l0 (k_l0 K x)) = l0.step K x (fun a => r_l0 (S_l0 x a)) a := by kernel_rfl
theorem ok_l0 (K : Nat) (x : Args ps) : N_l0 K x = l0 K x := funext fun a => evLoop_iter live_l0 (ev K (sub body [1, 1, 0, 0, 0])) (k_l0 K x) (S_l0 x) (fun rec a => l0.step K x rec a) (fun r_l0 a => (h_l0 K x r_l0 a)) K a
theorem eqn (K : Nat) (x : Args ps) : evF (G K) T L K Tryz.f240 ps rs true x = f K x := (show evF (G K) T L K Tryz.f240 ps rs true x = pre K (N_l0 K x) x by kernel_rfl).trans (by rw [ok_l0 K x]; rfl)
end impl_root
/-! ### impl.FixNorm -/
namespace impl_FixNorm
@[reducible] def ps : List PK := [.rd (.int .i64), .rd (.int .i64)]
@[reducible] def rs : List RK := [.v false (.int .i64)]
abbrev Res := Ress rs × Outs ps
noncomputable def pre (K : Nat) (x : Args ps) : Option Res := (impl_FixClamp.f K (x.1, ())).bind fun y1 => (impl_FixClamp.f K (x.2.1, ())).bind fun y2 => (impl_root.f K (wr .i64 ((wr .i64 (y1.1.1 * y1.1.1)) + (wr .i64 (y2.1.1 * y2.1.1))), ())).bind fun y3 => (impl_FixClamp.f K (y3.1.1, ())).bind fun y4 => some ((y4.1.1, ()), ())
noncomputable def f (K : Nat) (x : Args ps) : Option Res := pre K x
noncomputable def c (K : Nat) : Ctr := ⟨177, ps, rs, true, f K⟩
noncomputable def G (K : Nat) : List Ctr := [impl_FixClamp.c K, impl_root.c K]
noncomputable def L : List (Nat × List (Nat × List Coe)) := []
noncomputable def body : Code := bodyOf Tryz.f177
noncomputable abbrev ev (K : Nat) : Code → St → (Ex → St → Option Res) → Option Res := evK (G K) T L K
noncomputable abbrev fin : Ex → St → Option Res := finK T ps rs true Tryz.f177.results.toList
theorem eqn (K : Nat) (x : Args ps) : evF (G K) T L K Tryz.f177 ps rs true x = f K x := by kernel_rfl
end impl_FixNorm
/-! ### impl.CoordDist -/
namespace impl_CoordDist
@[reducible] def ps : List PK := [.rd t5, .rd t5]
@[reducible] def rs : List RK := [.v false (.int .i64)]
abbrev Res := Ress rs × Outs ps
noncomputable def pre (K : Nat) (x : Args ps) : Option Res := (impl_CoordOk.f K (x.1, ())).bind fun y1 => bif !y1.1.1 then (some ((0, ()), ())) else ((impl_CoordOk.f K (x.2.1, ())).bind fun y2 => bif !y2.1.1 then (some ((0, ()), ())) else ((impl_FixNorm.f K (wr .i64 (x.1.1 - x.2.1.1), wr .i64 (x.1.2.1 - x.2.1.2.1), ())).bind fun y3 => some ((wr .i64 ((wr .i64 (y3.1.1 + x.1.2.2.1)) + x.2.1.2.2.1), ()), ())))
noncomputable def f (K : Nat) (x : Args ps) : Option Res := pre K x
noncomputable def c (K : Nat) : Ctr := ⟨77, ps, rs, true, f K⟩
noncomputable def G (K : Nat) : List Ctr := [impl_CoordOk.c K, impl_FixNorm.c K]
noncomputable def L : List (Nat × List (Nat × List Coe)) := []
noncomputable def body : Code := bodyOf Tryz.f77
noncomputable abbrev ev (K : Nat) : Code → St → (Ex → St → Option Res) → Option Res := evK (G K) T L K
noncomputable abbrev fin : Ex → St → Option Res := finK T ps rs true Tryz.f77.results.toList
theorem eqn (K : Nat) (x : Args ps) : evF (G K) T L K Tryz.f77 ps rs true x = f K x := by kernel_rfl
end impl_CoordDist
/-! ### impl.NodeTrip -/
namespace impl_NodeTrip
@[reducible] def ps : List PK := [.rd t48, .rd (.int .i64)]
@[reducible] def rs : List RK := [.v false (.int .i64), .v false .bool]
abbrev Res := Ress rs × Outs ps
noncomputable def pre (K : Nat) (x : Args ps) : Option Res := (slices_IndexFunc_impl_Place_impl_Place.f K (x.1.2.2.2.2.2.2.2.2.2.2.2.2.2.1, fun y1 => (impl_NodeTrip_1.f K (y1.1, x.2.1, ())).map fun y => y.1.1, ())).bind fun y2 => bif decide (y2.1.1 < 0) then (some ((0, false, ()), ())) else ((impl_NodeOk.f K (x.1, ())).bind fun y3 => bif !y3.1.1 then (some ((0, false, ()), ())) else ((idx x.1.2.2.2.2.2.2.2.2.2.2.2.2.2.1 y2.1.1).bind fun y4 => (impl_CoordDist.f K (x.1.2.2.2.2.2.2.2.2.2.2.2.2.1, y4.2.1, ())).bind fun y5 => some ((y5.1.1, true, ()), ())))
noncomputable def f (K : Nat) (x : Args ps) : Option Res := pre K x
noncomputable def c (K : Nat) : Ctr := ⟨18, ps, rs, true, f K⟩
noncomputable def G (K : Nat) : List Ctr := [slices_IndexFunc_impl_Place_impl_Place.c K, impl_NodeTrip_1.c K, impl_NodeOk.c K, impl_CoordDist.c K]
noncomputable def L : List (Nat × List (Nat × List Coe)) := []
noncomputable def body : Code := bodyOf Tryz.f18
noncomputable abbrev ev (K : Nat) : Code → St → (Ex → St → Option Res) → Option Res := evK (G K) T L K
noncomputable abbrev fin : Ex → St → Option Res := finK T ps rs true Tryz.f18.results.toList
theorem eqn (K : Nat) (x : Args ps) : evF (G K) T L K Tryz.f18 ps rs true x = f K x := by kernel_rfl
end impl_NodeTrip
/-! ### laws.eqFact -/
namespace laws_eqFact
@[reducible] def ps : List PK := [.rd t2, .rd t2]
@[reducible] def rs : List RK := [.v false .bool]
abbrev Res := Ress rs × Outs ps
noncomputable def pre (K : Nat) (x : Args ps) : Option Res := bif x.1.1 != x.2.1.1 then (some ((false, ()), ())) else (bif x.1.2.1 != x.2.1.2.1 then (some ((false, ()), ())) else (bif x.1.2.2.1 != x.2.1.2.2.1 then (some ((false, ()), ())) else (bif x.1.2.2.2 != x.2.1.2.2.2 then (some ((false, ()), ())) else (some ((true, ()), ())))))
noncomputable def f (K : Nat) (x : Args ps) : Option Res := pre K x
noncomputable def c (K : Nat) : Ctr := ⟨136, ps, rs, true, f K⟩
noncomputable def G (K : Nat) : List Ctr := []
noncomputable def L : List (Nat × List (Nat × List Coe)) := []
noncomputable def body : Code := bodyOf Tryz.f136
noncomputable abbrev ev (K : Nat) : Code → St → (Ex → St → Option Res) → Option Res := evK (G K) T L K
noncomputable abbrev fin : Ex → St → Option Res := finK T ps rs true Tryz.f136.results.toList
theorem eqn (K : Nat) (x : Args ps) : evF (G K) T L K Tryz.f136 ps rs true x = f K x := by kernel_rfl
end laws_eqFact
/-! ### laws.eqFactS -/
namespace laws_eqFactS
@[reducible] def ps : List PK := [.rd (.list 132 t2), .rd (.list 132 t2)]
@[reducible] def rs : List RK := [.v false .bool]
abbrev Res := Ress rs × Outs ps
abbrev A_l0 := Int
noncomputable def l0.step (K : Nat) (x : Args ps) (rec_l0 : A_l0 → Option Res) (a : A_l0) : Option Res := bif decide (a < (List.length x.1 : Int)) then ((idx x.1 a).bind fun y1 => (idx x.2.1 a).bind fun y2 => (laws_eqFact.f K (y1, y2, ())).bind fun y3 => bif !y3.1.1 then (some ((false, ()), ())) else (rec_l0 (wr .i64 (a + 1)))) else (some ((true, ()), ()))
noncomputable def l0 (K : Nat) (x : Args ps) : A_l0 → Option Res := iterate (fun rec_l0 a => l0.step K x rec_l0 a) K
noncomputable def pre (K : Nat) (N_l0 : A_l0 → Option Res) (x : Args ps) : Option Res := bif (List.length x.1 : Int) != (List.length x.2.1 : Int) then (some ((false, ()), ())) else (N_l0 0)
noncomputable def f (K : Nat) (x : Args ps) : Option Res := pre K (l0 K x) x
noncomputable def c (K : Nat) : Ctr := ⟨46, ps, rs, true, f K⟩
noncomputable def G (K : Nat) : List Ctr := [laws_eqFact.c K]
noncomputable def live_l0 : List (Nat × List Coe) := [(0, [.ro true 132 t2]), (1, [.ro true 132 t2]), (5, [.keep])]
noncomputable def L : List (Nat × List (Nat × List Coe)) := [(5, live_l0)]
noncomputable def body : Code := bodyOf Tryz.f46
noncomputable abbrev ev (K : Nat) : Code → St → (Ex → St → Option Res) → Option Res := evK (G K) T L K
noncomputable abbrev fin : Ex → St → Option Res := finK T ps rs true Tryz.f46.results.toList
noncomputable def S_l0 (x : Args ps) (a : A_l0) : St := mkSt [(0, ⟨0, .one, [.ro true 132 t2 x.1]⟩), (1, ⟨0, .one, [.ro true 132 t2 x.2.1]⟩), (5, ⟨0, .one, [.int .i64 a]⟩)]
noncomputable def k_l0 (K : Nat) (x : Args ps) : Ex → St → Option Res := kAt (ev K) body [1, 1, 0, 1, 0] fin
noncomputable def N_l0 (K : Nat) (x : Args ps) : A_l0 → Option Res := fun a => evLoop live_l0 (ev K (sub body [1, 1, 0, 1, 0, 0])) K (S_l0 x a) (k_l0 K x)
theorem h_l0 (K : Nat) (x : Args ps) (r_l0 : St → Option Res) (a : A_l0) : ev K (sub body [1, 1, 0, 1, 0, 0]) (S_l0 x a) (kLoop live_l0 r_l0 (k_l0 K x)) = l0.step K x (fun a => r_l0 (S_l0 x a)) a := by kernel_rfl
theorem ok_l0 (K : Nat) (x : Args ps) : N_l0 K x = l0 K x := funext fun a => evLoop_iter live_l0 (ev K (sub body [1, 1, 0, 1, 0, 0])) (k_l0 K x) (S_l0 x) (fun rec a => l0.step K x rec a) (fun r_l0 a => (h_l0 K x r_l0 a)) K a
theorem eqn (K : Nat) (x : Args ps) : evF (G K) T L K Tryz.f46 ps rs true x = f K x := (show evF (G K) T L K Tryz.f46 ps rs true x = pre K (N_l0 K x) x by kernel_rfl).trans (by rw [ok_l0 K x]; rfl)
end laws_eqFactS
/-! ### laws.eqItem -/
namespace laws_eqItem
@[reducible] def ps : List PK := [.rd t12, .rd t12]
@[reducible] def rs : List RK := [.v false .bool]
abbrev Res := Ress rs × Outs ps
noncomputable def pre (K : Nat) (x : Args ps) : Option Res := (laws_eqFact.f K (x.1.1, x.2.1.1, ())).bind fun y1 => bif !y1.1.1 then (some ((false, ()), ())) else (bif x.1.2 != x.2.1.2 then (some ((false, ()), ())) else (some ((true, ()), ())))
noncomputable def f (K : Nat) (x : Args ps) : Option Res := pre K x
noncomputable def c (K : Nat) : Ctr := ⟨178, ps, rs, true, f K⟩
noncomputable def G (K : Nat) : List Ctr := [laws_eqFact.c K]
noncomputable def L : List (Nat × List (Nat × List Coe)) := []
noncomputable def body : Code := bodyOf Tryz.f178
noncomputable abbrev ev (K : Nat) : Code → St → (Ex → St → Option Res) → Option Res := evK (G K) T L K
noncomputable abbrev fin : Ex → St → Option Res := finK T ps rs true Tryz.f178.results.toList
theorem eqn (K : Nat) (x : Args ps) : evF (G K) T L K Tryz.f178 ps rs true x = f K x := by kernel_rfl
end laws_eqItem
/-! ### laws.eqItemS -/
namespace laws_eqItemS
@[reducible] def ps : List PK := [.rd (.list 173 t12), .rd (.list 173 t12)]
@[reducible] def rs : List RK := [.v false .bool]
abbrev Res := Ress rs × Outs ps
abbrev A_l0 := Int
noncomputable def l0.step (K : Nat) (x : Args ps) (rec_l0 : A_l0 → Option Res) (a : A_l0) : Option Res := bif decide (a < (List.length x.1 : Int)) then ((idx x.1 a).bind fun y1 => (idx x.2.1 a).bind fun y2 => (laws_eqItem.f K (y1, y2, ())).bind fun y3 => bif !y3.1.1 then (some ((false, ()), ())) else (rec_l0 (wr .i64 (a + 1)))) else (some ((true, ()), ()))
noncomputable def l0 (K : Nat) (x : Args ps) : A_l0 → Option Res := iterate (fun rec_l0 a => l0.step K x rec_l0 a) K
noncomputable def pre (K : Nat) (N_l0 : A_l0 → Option Res) (x : Args ps) : Option Res := bif (List.length x.1 : Int) != (List.length x.2.1 : Int) then (some ((false, ()), ())) else (N_l0 0)
noncomputable def f (K : Nat) (x : Args ps) : Option Res := pre K (l0 K x) x
noncomputable def c (K : Nat) : Ctr := ⟨78, ps, rs, true, f K⟩
noncomputable def G (K : Nat) : List Ctr := [laws_eqItem.c K]
noncomputable def live_l0 : List (Nat × List Coe) := [(0, [.ro true 173 t12]), (1, [.ro true 173 t12]), (5, [.keep])]
noncomputable def L : List (Nat × List (Nat × List Coe)) := [(5, live_l0)]
noncomputable def body : Code := bodyOf Tryz.f78
noncomputable abbrev ev (K : Nat) : Code → St → (Ex → St → Option Res) → Option Res := evK (G K) T L K
noncomputable abbrev fin : Ex → St → Option Res := finK T ps rs true Tryz.f78.results.toList
noncomputable def S_l0 (x : Args ps) (a : A_l0) : St := mkSt [(0, ⟨0, .one, [.ro true 173 t12 x.1]⟩), (1, ⟨0, .one, [.ro true 173 t12 x.2.1]⟩), (5, ⟨0, .one, [.int .i64 a]⟩)]
noncomputable def k_l0 (K : Nat) (x : Args ps) : Ex → St → Option Res := kAt (ev K) body [1, 1, 0, 1, 0] fin
noncomputable def N_l0 (K : Nat) (x : Args ps) : A_l0 → Option Res := fun a => evLoop live_l0 (ev K (sub body [1, 1, 0, 1, 0, 0])) K (S_l0 x a) (k_l0 K x)
theorem h_l0 (K : Nat) (x : Args ps) (r_l0 : St → Option Res) (a : A_l0) : ev K (sub body [1, 1, 0, 1, 0, 0]) (S_l0 x a) (kLoop live_l0 r_l0 (k_l0 K x)) = l0.step K x (fun a => r_l0 (S_l0 x a)) a := by kernel_rfl
theorem ok_l0 (K : Nat) (x : Args ps) : N_l0 K x = l0 K x := funext fun a => evLoop_iter live_l0 (ev K (sub body [1, 1, 0, 1, 0, 0])) (k_l0 K x) (S_l0 x) (fun rec a => l0.step K x rec a) (fun r_l0 a => (h_l0 K x r_l0 a)) K a
theorem eqn (K : Nat) (x : Args ps) : evF (G K) T L K Tryz.f78 ps rs true x = f K x := (show evF (G K) T L K Tryz.f78 ps rs true x = pre K (N_l0 K x) x by kernel_rfl).trans (by rw [ok_l0 K x]; rfl)
end laws_eqItemS
/-! ### laws.eqProbe -/
namespace laws_eqProbe
@[reducible] def ps : List PK := [.rd t2, .rd t2]
@[reducible] def rs : List RK := [.v false .bool]
abbrev Res := Ress rs × Outs ps
noncomputable def pre (K : Nat) (x : Args ps) : Option Res := bif x.1.1 != x.2.1.1 then (some ((false, ()), ())) else (bif x.1.2.1 != x.2.1.2.1 then (some ((false, ()), ())) else (bif x.1.2.2.1 != x.2.1.2.2.1 then (some ((false, ()), ())) else (bif x.1.2.2.2 != x.2.1.2.2.2 then (some ((false, ()), ())) else (some ((true, ()), ())))))
noncomputable def f (K : Nat) (x : Args ps) : Option Res := pre K x
noncomputable def c (K : Nat) : Ctr := ⟨79, ps, rs, true, f K⟩
noncomputable def G (K : Nat) : List Ctr := []
noncomputable def L : List (Nat × List (Nat × List Coe)) := []
noncomputable def body : Code := bodyOf Tryz.f79
noncomputable abbrev ev (K : Nat) : Code → St → (Ex → St → Option Res) → Option Res := evK (G K) T L K
noncomputable abbrev fin : Ex → St → Option Res := finK T ps rs true Tryz.f79.results.toList
theorem eqn (K : Nat) (x : Args ps) : evF (G K) T L K Tryz.f79 ps rs true x = f K x := by kernel_rfl
end laws_eqProbe
/-! ### laws.eqIntS -/
namespace laws_eqIntS
@[reducible] def ps : List PK := [.rd (.list 3 (.int .i64)), .rd (.list 3 (.int .i64))]
@[reducible] def rs : List RK := [.v false .bool]
abbrev Res := Ress rs × Outs ps
abbrev A_l0 := Int
noncomputable def l0.step (K : Nat) (x : Args ps) (rec_l0 : A_l0 → Option Res) (a : A_l0) : Option Res := bif decide (a < (List.length x.1 : Int)) then ((idx x.1 a).bind fun y1 => (idx x.2.1 a).bind fun y2 => bif y1 != y2 then (some ((false, ()), ())) else (rec_l0 (wr .i64 (a + 1)))) else (some ((true, ()), ()))
noncomputable def l0 (K : Nat) (x : Args ps) : A_l0 → Option Res := iterate (fun rec_l0 a => l0.step K x rec_l0 a) K
noncomputable def pre (K : Nat) (N_l0 : A_l0 → Option Res) (x : Args ps) : Option Res := bif (List.length x.1 : Int) != (List.length x.2.1 : Int) then (some ((false, ()), ())) else (N_l0 0)
noncomputable def f (K : Nat) (x : Args ps) : Option Res := pre K (l0 K x) x
noncomputable def c (K : Nat) : Ctr := ⟨27, ps, rs, true, f K⟩
noncomputable def G (K : Nat) : List Ctr := []
noncomputable def live_l0 : List (Nat × List Coe) := [(0, [.ro true 3 (.int .i64)]), (1, [.ro true 3 (.int .i64)]), (5, [.keep])]
noncomputable def L : List (Nat × List (Nat × List Coe)) := [(5, live_l0)]
noncomputable def body : Code := bodyOf Tryz.f27
noncomputable abbrev ev (K : Nat) : Code → St → (Ex → St → Option Res) → Option Res := evK (G K) T L K
noncomputable abbrev fin : Ex → St → Option Res := finK T ps rs true Tryz.f27.results.toList
noncomputable def S_l0 (x : Args ps) (a : A_l0) : St := mkSt [(0, ⟨0, .one, [.ro true 3 (.int .i64) x.1]⟩), (1, ⟨0, .one, [.ro true 3 (.int .i64) x.2.1]⟩), (5, ⟨0, .one, [.int .i64 a]⟩)]
noncomputable def k_l0 (K : Nat) (x : Args ps) : Ex → St → Option Res := kAt (ev K) body [1, 1, 0, 1, 0] fin
noncomputable def N_l0 (K : Nat) (x : Args ps) : A_l0 → Option Res := fun a => evLoop live_l0 (ev K (sub body [1, 1, 0, 1, 0, 0])) K (S_l0 x a) (k_l0 K x)
theorem h_l0 (K : Nat) (x : Args ps) (r_l0 : St → Option Res) (a : A_l0) : ev K (sub body [1, 1, 0, 1, 0, 0]) (S_l0 x a) (kLoop live_l0 r_l0 (k_l0 K x)) = l0.step K x (fun a => r_l0 (S_l0 x a)) a := by kernel_rfl
theorem ok_l0 (K : Nat) (x : Args ps) : N_l0 K x = l0 K x := funext fun a => evLoop_iter live_l0 (ev K (sub body [1, 1, 0, 1, 0, 0])) (k_l0 K x) (S_l0 x) (fun rec a => l0.step K x rec a) (fun r_l0 a => (h_l0 K x r_l0 a)) K a
theorem eqn (K : Nat) (x : Args ps) : evF (G K) T L K Tryz.f27 ps rs true x = f K x := (show evF (G K) T L K Tryz.f27 ps rs true x = pre K (N_l0 K x) x by kernel_rfl).trans (by rw [ok_l0 K x]; rfl)
end laws_eqIntS
/-! ### laws.eqDoubt -/
namespace laws_eqDoubt
@[reducible] def ps : List PK := [.rd t8, .rd t8]
@[reducible] def rs : List RK := [.v false .bool]
abbrev Res := Ress rs × Outs ps
noncomputable def pre (K : Nat) (x : Args ps) : Option Res := bif x.1.1 != x.2.1.1 then (some ((false, ()), ())) else (bif x.1.2.1 != x.2.1.2.1 then (some ((false, ()), ())) else (bif x.1.2.2.1 != x.2.1.2.2.1 then (some ((false, ()), ())) else ((laws_eqIntS.f K (x.1.2.2.2, x.2.1.2.2.2, ())).bind fun y1 => bif !y1.1.1 then (some ((false, ()), ())) else (some ((true, ()), ())))))
noncomputable def f (K : Nat) (x : Args ps) : Option Res := pre K x
noncomputable def c (K : Nat) : Ctr := ⟨179, ps, rs, true, f K⟩
noncomputable def G (K : Nat) : List Ctr := [laws_eqIntS.c K]
noncomputable def L : List (Nat × List (Nat × List Coe)) := []
noncomputable def body : Code := bodyOf Tryz.f179
noncomputable abbrev ev (K : Nat) : Code → St → (Ex → St → Option Res) → Option Res := evK (G K) T L K
noncomputable abbrev fin : Ex → St → Option Res := finK T ps rs true Tryz.f179.results.toList
theorem eqn (K : Nat) (x : Args ps) : evF (G K) T L K Tryz.f179 ps rs true x = f K x := by kernel_rfl
end laws_eqDoubt
/-! ### laws.eqDoubtS -/
namespace laws_eqDoubtS
@[reducible] def ps : List PK := [.rd (.list 177 t8), .rd (.list 177 t8)]
@[reducible] def rs : List RK := [.v false .bool]
abbrev Res := Ress rs × Outs ps
abbrev A_l0 := Int
noncomputable def l0.step (K : Nat) (x : Args ps) (rec_l0 : A_l0 → Option Res) (a : A_l0) : Option Res := bif decide (a < (List.length x.1 : Int)) then ((idx x.1 a).bind fun y1 => (idx x.2.1 a).bind fun y2 => (laws_eqDoubt.f K (y1, y2, ())).bind fun y3 => bif !y3.1.1 then (some ((false, ()), ())) else (rec_l0 (wr .i64 (a + 1)))) else (some ((true, ()), ()))
noncomputable def l0 (K : Nat) (x : Args ps) : A_l0 → Option Res := iterate (fun rec_l0 a => l0.step K x rec_l0 a) K
noncomputable def pre (K : Nat) (N_l0 : A_l0 → Option Res) (x : Args ps) : Option Res := bif (List.length x.1 : Int) != (List.length x.2.1 : Int) then (some ((false, ()), ())) else (N_l0 0)
noncomputable def f (K : Nat) (x : Args ps) : Option Res := pre K (l0 K x) x
noncomputable def c (K : Nat) : Ctr := ⟨80, ps, rs, true, f K⟩
noncomputable def G (K : Nat) : List Ctr := [laws_eqDoubt.c K]
noncomputable def live_l0 : List (Nat × List Coe) := [(0, [.ro true 177 t8]), (1, [.ro true 177 t8]), (5, [.keep])]
noncomputable def L : List (Nat × List (Nat × List Coe)) := [(5, live_l0)]
noncomputable def body : Code := bodyOf Tryz.f80
noncomputable abbrev ev (K : Nat) : Code → St → (Ex → St → Option Res) → Option Res := evK (G K) T L K
noncomputable abbrev fin : Ex → St → Option Res := finK T ps rs true Tryz.f80.results.toList
noncomputable def S_l0 (x : Args ps) (a : A_l0) : St := mkSt [(0, ⟨0, .one, [.ro true 177 t8 x.1]⟩), (1, ⟨0, .one, [.ro true 177 t8 x.2.1]⟩), (5, ⟨0, .one, [.int .i64 a]⟩)]
noncomputable def k_l0 (K : Nat) (x : Args ps) : Ex → St → Option Res := kAt (ev K) body [1, 1, 0, 1, 0] fin
noncomputable def N_l0 (K : Nat) (x : Args ps) : A_l0 → Option Res := fun a => evLoop live_l0 (ev K (sub body [1, 1, 0, 1, 0, 0])) K (S_l0 x a) (k_l0 K x)
theorem h_l0 (K : Nat) (x : Args ps) (r_l0 : St → Option Res) (a : A_l0) : ev K (sub body [1, 1, 0, 1, 0, 0]) (S_l0 x a) (kLoop live_l0 r_l0 (k_l0 K x)) = l0.step K x (fun a => r_l0 (S_l0 x a)) a := by kernel_rfl
theorem ok_l0 (K : Nat) (x : Args ps) : N_l0 K x = l0 K x := funext fun a => evLoop_iter live_l0 (ev K (sub body [1, 1, 0, 1, 0, 0])) (k_l0 K x) (S_l0 x) (fun rec a => l0.step K x rec a) (fun r_l0 a => (h_l0 K x r_l0 a)) K a
theorem eqn (K : Nat) (x : Args ps) : evF (G K) T L K Tryz.f80 ps rs true x = f K x := (show evF (G K) T L K Tryz.f80 ps rs true x = pre K (N_l0 K x) x by kernel_rfl).trans (by rw [ok_l0 K x]; rfl)
end laws_eqDoubtS
/-! ### laws.eqCoord -/
namespace laws_eqCoord
@[reducible] def ps : List PK := [.rd t5, .rd t5]
@[reducible] def rs : List RK := [.v false .bool]
abbrev Res := Ress rs × Outs ps
noncomputable def pre (K : Nat) (x : Args ps) : Option Res := bif x.1.1 != x.2.1.1 then (some ((false, ()), ())) else (bif x.1.2.1 != x.2.1.2.1 then (some ((false, ()), ())) else (bif x.1.2.2.1 != x.2.1.2.2.1 then (some ((false, ()), ())) else (bif x.1.2.2.2 != x.2.1.2.2.2 then (some ((false, ()), ())) else (some ((true, ()), ())))))
noncomputable def f (K : Nat) (x : Args ps) : Option Res := pre K x
noncomputable def c (K : Nat) : Ctr := ⟨81, ps, rs, true, f K⟩
noncomputable def G (K : Nat) : List Ctr := []
noncomputable def L : List (Nat × List (Nat × List Coe)) := []
noncomputable def body : Code := bodyOf Tryz.f81
noncomputable abbrev ev (K : Nat) : Code → St → (Ex → St → Option Res) → Option Res := evK (G K) T L K
noncomputable abbrev fin : Ex → St → Option Res := finK T ps rs true Tryz.f81.results.toList
theorem eqn (K : Nat) (x : Args ps) : evF (G K) T L K Tryz.f81 ps rs true x = f K x := by kernel_rfl
end laws_eqCoord
/-! ### laws.eqPlace -/
namespace laws_eqPlace
@[reducible] def ps : List PK := [.rd t10, .rd t10]
@[reducible] def rs : List RK := [.v false .bool]
abbrev Res := Ress rs × Outs ps
noncomputable def pre (K : Nat) (x : Args ps) : Option Res := bif x.1.1 != x.2.1.1 then (some ((false, ()), ())) else ((laws_eqCoord.f K (x.1.2.1, x.2.1.2.1, ())).bind fun y1 => bif !y1.1.1 then (some ((false, ()), ())) else ((laws_eqIntS.f K (x.1.2.2, x.2.1.2.2, ())).bind fun y2 => bif !y2.1.1 then (some ((false, ()), ())) else (some ((true, ()), ()))))
noncomputable def f (K : Nat) (x : Args ps) : Option Res := pre K x
noncomputable def c (K : Nat) : Ctr := ⟨180, ps, rs, true, f K⟩
noncomputable def G (K : Nat) : List Ctr := [laws_eqIntS.c K, laws_eqCoord.c K]
noncomputable def L : List (Nat × List (Nat × List Coe)) := []
noncomputable def body : Code := bodyOf Tryz.f180
noncomputable abbrev ev (K : Nat) : Code → St → (Ex → St → Option Res) → Option Res := evK (G K) T L K
noncomputable abbrev fin : Ex → St → Option Res := finK T ps rs true Tryz.f180.results.toList
theorem eqn (K : Nat) (x : Args ps) : evF (G K) T L K Tryz.f180 ps rs true x = f K x := by kernel_rfl
end laws_eqPlace
/-! ### laws.eqPlaceS -/
namespace laws_eqPlaceS
@[reducible] def ps : List PK := [.rd (.list 94 t10), .rd (.list 94 t10)]
@[reducible] def rs : List RK := [.v false .bool]
abbrev Res := Ress rs × Outs ps
abbrev A_l0 := Int
noncomputable def l0.step (K : Nat) (x : Args ps) (rec_l0 : A_l0 → Option Res) (a : A_l0) : Option Res := bif decide (a < (List.length x.1 : Int)) then ((idx x.1 a).bind fun y1 => (idx x.2.1 a).bind fun y2 => (laws_eqPlace.f K (y1, y2, ())).bind fun y3 => bif !y3.1.1 then (some ((false, ()), ())) else (rec_l0 (wr .i64 (a + 1)))) else (some ((true, ()), ()))
noncomputable def l0 (K : Nat) (x : Args ps) : A_l0 → Option Res := iterate (fun rec_l0 a => l0.step K x rec_l0 a) K
noncomputable def pre (K : Nat) (N_l0 : A_l0 → Option Res) (x : Args ps) : Option Res := bif (List.length x.1 : Int) != (List.length x.2.1 : Int) then (some ((false, ()), ())) else (N_l0 0)
noncomputable def f (K : Nat) (x : Args ps) : Option Res := pre K (l0 K x) x
noncomputable def c (K : Nat) : Ctr := ⟨82, ps, rs, true, f K⟩
noncomputable def G (K : Nat) : List Ctr := [laws_eqPlace.c K]
noncomputable def live_l0 : List (Nat × List Coe) := [(0, [.ro true 94 t10]), (1, [.ro true 94 t10]), (5, [.keep])]
noncomputable def L : List (Nat × List (Nat × List Coe)) := [(5, live_l0)]
noncomputable def body : Code := bodyOf Tryz.f82
noncomputable abbrev ev (K : Nat) : Code → St → (Ex → St → Option Res) → Option Res := evK (G K) T L K
noncomputable abbrev fin : Ex → St → Option Res := finK T ps rs true Tryz.f82.results.toList
noncomputable def S_l0 (x : Args ps) (a : A_l0) : St := mkSt [(0, ⟨0, .one, [.ro true 94 t10 x.1]⟩), (1, ⟨0, .one, [.ro true 94 t10 x.2.1]⟩), (5, ⟨0, .one, [.int .i64 a]⟩)]
noncomputable def k_l0 (K : Nat) (x : Args ps) : Ex → St → Option Res := kAt (ev K) body [1, 1, 0, 1, 0] fin
noncomputable def N_l0 (K : Nat) (x : Args ps) : A_l0 → Option Res := fun a => evLoop live_l0 (ev K (sub body [1, 1, 0, 1, 0, 0])) K (S_l0 x a) (k_l0 K x)
theorem h_l0 (K : Nat) (x : Args ps) (r_l0 : St → Option Res) (a : A_l0) : ev K (sub body [1, 1, 0, 1, 0, 0]) (S_l0 x a) (kLoop live_l0 r_l0 (k_l0 K x)) = l0.step K x (fun a => r_l0 (S_l0 x a)) a := by kernel_rfl
theorem ok_l0 (K : Nat) (x : Args ps) : N_l0 K x = l0 K x := funext fun a => evLoop_iter live_l0 (ev K (sub body [1, 1, 0, 1, 0, 0])) (k_l0 K x) (S_l0 x) (fun rec a => l0.step K x rec a) (fun r_l0 a => (h_l0 K x r_l0 a)) K a
theorem eqn (K : Nat) (x : Args ps) : evF (G K) T L K Tryz.f82 ps rs true x = f K x := (show evF (G K) T L K Tryz.f82 ps rs true x = pre K (N_l0 K x) x by kernel_rfl).trans (by rw [ok_l0 K x]; rfl)
end laws_eqPlaceS
/-! ### laws.eqForeign -/
namespace laws_eqForeign
@[reducible] def ps : List PK := [.rd t11, .rd t11]
@[reducible] def rs : List RK := [.v false .bool]
abbrev Res := Ress rs × Outs ps
noncomputable def pre (K : Nat) (x : Args ps) : Option Res := bif x.1.1 != x.2.1.1 then (some ((false, ()), ())) else ((laws_eqFactS.f K (x.1.2, x.2.1.2, ())).bind fun y1 => bif !y1.1.1 then (some ((false, ()), ())) else (some ((true, ()), ())))
noncomputable def f (K : Nat) (x : Args ps) : Option Res := pre K x
noncomputable def c (K : Nat) : Ctr := ⟨181, ps, rs, true, f K⟩
noncomputable def G (K : Nat) : List Ctr := [laws_eqFactS.c K]
noncomputable def L : List (Nat × List (Nat × List Coe)) := []
noncomputable def body : Code := bodyOf Tryz.f181
noncomputable abbrev ev (K : Nat) : Code → St → (Ex → St → Option Res) → Option Res := evK (G K) T L K
noncomputable abbrev fin : Ex → St → Option Res := finK T ps rs true Tryz.f181.results.toList
theorem eqn (K : Nat) (x : Args ps) : evF (G K) T L K Tryz.f181 ps rs true x = f K x := by kernel_rfl
end laws_eqForeign
/-! ### laws.eqForeignS -/
namespace laws_eqForeignS
@[reducible] def ps : List PK := [.rd (.list 119 t11), .rd (.list 119 t11)]
@[reducible] def rs : List RK := [.v false .bool]
abbrev Res := Ress rs × Outs ps
abbrev A_l0 := Int
noncomputable def l0.step (K : Nat) (x : Args ps) (rec_l0 : A_l0 → Option Res) (a : A_l0) : Option Res := bif decide (a < (List.length x.1 : Int)) then ((idx x.1 a).bind fun y1 => (idx x.2.1 a).bind fun y2 => (laws_eqForeign.f K (y1, y2, ())).bind fun y3 => bif !y3.1.1 then (some ((false, ()), ())) else (rec_l0 (wr .i64 (a + 1)))) else (some ((true, ()), ()))
noncomputable def l0 (K : Nat) (x : Args ps) : A_l0 → Option Res := iterate (fun rec_l0 a => l0.step K x rec_l0 a) K
noncomputable def pre (K : Nat) (N_l0 : A_l0 → Option Res) (x : Args ps) : Option Res := bif (List.length x.1 : Int) != (List.length x.2.1 : Int) then (some ((false, ()), ())) else (N_l0 0)
noncomputable def f (K : Nat) (x : Args ps) : Option Res := pre K (l0 K x) x
noncomputable def c (K : Nat) : Ctr := ⟨83, ps, rs, true, f K⟩
noncomputable def G (K : Nat) : List Ctr := [laws_eqForeign.c K]
noncomputable def live_l0 : List (Nat × List Coe) := [(0, [.ro true 119 t11]), (1, [.ro true 119 t11]), (5, [.keep])]
noncomputable def L : List (Nat × List (Nat × List Coe)) := [(5, live_l0)]
noncomputable def body : Code := bodyOf Tryz.f83
noncomputable abbrev ev (K : Nat) : Code → St → (Ex → St → Option Res) → Option Res := evK (G K) T L K
noncomputable abbrev fin : Ex → St → Option Res := finK T ps rs true Tryz.f83.results.toList
noncomputable def S_l0 (x : Args ps) (a : A_l0) : St := mkSt [(0, ⟨0, .one, [.ro true 119 t11 x.1]⟩), (1, ⟨0, .one, [.ro true 119 t11 x.2.1]⟩), (5, ⟨0, .one, [.int .i64 a]⟩)]
noncomputable def k_l0 (K : Nat) (x : Args ps) : Ex → St → Option Res := kAt (ev K) body [1, 1, 0, 1, 0] fin
noncomputable def N_l0 (K : Nat) (x : Args ps) : A_l0 → Option Res := fun a => evLoop live_l0 (ev K (sub body [1, 1, 0, 1, 0, 0])) K (S_l0 x a) (k_l0 K x)
theorem h_l0 (K : Nat) (x : Args ps) (r_l0 : St → Option Res) (a : A_l0) : ev K (sub body [1, 1, 0, 1, 0, 0]) (S_l0 x a) (kLoop live_l0 r_l0 (k_l0 K x)) = l0.step K x (fun a => r_l0 (S_l0 x a)) a := by kernel_rfl
theorem ok_l0 (K : Nat) (x : Args ps) : N_l0 K x = l0 K x := funext fun a => evLoop_iter live_l0 (ev K (sub body [1, 1, 0, 1, 0, 0])) (k_l0 K x) (S_l0 x) (fun rec a => l0.step K x rec a) (fun r_l0 a => (h_l0 K x r_l0 a)) K a
theorem eqn (K : Nat) (x : Args ps) : evF (G K) T L K Tryz.f83 ps rs true x = f K x := (show evF (G K) T L K Tryz.f83 ps rs true x = pre K (N_l0 K x) x by kernel_rfl).trans (by rw [ok_l0 K x]; rfl)
end laws_eqForeignS
/-! ### laws.eqNode -/
namespace laws_eqNode
@[reducible] def ps : List PK := [.rd t48, .rd t48]
@[reducible] def rs : List RK := [.v false .bool]
abbrev Res := Ress rs × Outs ps
noncomputable def pre (K : Nat) (x : Args ps) : Option Res := bif x.1.1 != x.2.1.1 then (some ((false, ()), ())) else (bif x.1.2.1 != x.2.1.2.1 then (some ((false, ()), ())) else (bif x.1.2.2.1 != x.2.1.2.2.1 then (some ((false, ()), ())) else (bif x.1.2.2.2.1 != x.2.1.2.2.2.1 then (some ((false, ()), ())) else (bif x.1.2.2.2.2.1 != x.2.1.2.2.2.2.1 then (some ((false, ()), ())) else (bif x.1.2.2.2.2.2.1 != x.2.1.2.2.2.2.2.1 then (some ((false, ()), ())) else (bif x.1.2.2.2.2.2.2.1 != x.2.1.2.2.2.2.2.2.1 then (some ((false, ()), ())) else (bif x.1.2.2.2.2.2.2.2.1 != x.2.1.2.2.2.2.2.2.2.1 then (some ((false, ()), ())) else ((laws_eqFactS.f K (x.1.2.2.2.2.2.2.2.2.1, x.2.1.2.2.2.2.2.2.2.2.1, ())).bind fun y1 => bif !y1.1.1 then (some ((false, ()), ())) else ((laws_eqItemS.f K (x.1.2.2.2.2.2.2.2.2.2.1, x.2.1.2.2.2.2.2.2.2.2.2.1, ())).bind fun y2 => bif !y2.1.1 then (some ((false, ()), ())) else ((laws_eqProbe.f K (x.1.2.2.2.2.2.2.2.2.2.2.1, x.2.1.2.2.2.2.2.2.2.2.2.2.1, ())).bind fun y3 => bif !y3.1.1 then (some ((false, ()), ())) else ((laws_eqDoubtS.f K (x.1.2.2.2.2.2.2.2.2.2.2.2.1, x.2.1.2.2.2.2.2.2.2.2.2.2.2.1, ())).bind fun y4 => bif !y4.1.1 then (some ((false, ()), ())) else ((laws_eqCoord.f K (x.1.2.2.2.2.2.2.2.2.2.2.2.2.1, x.2.1.2.2.2.2.2.2.2.2.2.2.2.2.1, ())).bind fun y5 => bif !y5.1.1 then (some ((false, ()), ())) else ((laws_eqPlaceS.f K (x.1.2.2.2.2.2.2.2.2.2.2.2.2.2.1, x.2.1.2.2.2.2.2.2.2.2.2.2.2.2.2.1, ())).bind fun y6 => bif !y6.1.1 then (some ((false, ()), ())) else ((laws_eqForeignS.f K (x.1.2.2.2.2.2.2.2.2.2.2.2.2.2.2, x.2.1.2.2.2.2.2.2.2.2.2.2.2.2.2.2, ())).bind fun y7 => bif !y7.1.1 then (some ((false, ()), ())) else (some ((true, ()), ()))))))))))))))))
noncomputable def f (K : Nat) (x : Args ps) : Option Res := pre K x
noncomputable def c (K : Nat) : Ctr := ⟨19, ps, rs, true, f K⟩
noncomputable def G (K : Nat) : List Ctr := [laws_eqFactS.c K, laws_eqItemS.c K, laws_eqProbe.c K, laws_eqDoubtS.c K, laws_eqCoord.c K, laws_eqPlaceS.c K, laws_eqForeignS.c K]
noncomputable def L : List (Nat × List (Nat × List Coe)) := []
noncomputable def body : Code := bodyOf Tryz.f19
noncomputable abbrev ev (K : Nat) : Code → St → (Ex → St → Option Res) → Option Res := evK (G K) T L K
noncomputable abbrev fin : Ex → St → Option Res := finK T ps rs true Tryz.f19.results.toList
theorem eqn (K : Nat) (x : Args ps) : evF (G K) T L K Tryz.f19 ps rs true x = f K x := by kernel_rfl
end laws_eqNode
/-! ### laws.FnExactNodeTrip -/
namespace laws_FnExactNodeTrip
@[reducible] def ps : List PK := [.rd t34, .rd (.int .i64)]
@[reducible] def rs : List RK := [.v false .bool]
abbrev Res := Ress rs × Outs ps
noncomputable def pre (K : Nat) (x : Args ps) : Option Res := (laws_szNode.f K (x.1, 1048576, ())).bind fun y1 => bif decide (y1.1.1 < 0) then (some ((true, ()), ())) else ((laws_toNode.f K (x.1, ())).bind fun y2 => (spec_NodeTrip.f K (y2.1.1, x.2.1, ())).bind fun y3 => (laws_toNode.f K (x.1, ())).bind fun y4 => (impl_NodeTrip.f K (y4.1.1, x.2.1, ())).bind fun y5 => bif y5.1.1 != y3.1.1 then (some ((false, ()), ())) else (bif y5.1.2.1 != y3.1.2.1 then (some ((false, ()), ())) else ((laws_toNode.f K (x.1, ())).bind fun y6 => (laws_eqNode.f K (y4.1.1, y6.1.1, ())).bind fun y7 => bif !y7.1.1 then (some ((false, ()), ())) else (some ((true, ()), ())))))
noncomputable def f (K : Nat) (x : Args ps) : Option Res := pre K x
noncomputable def c (K : Nat) : Ctr := ⟨3, ps, rs, true, f K⟩
noncomputable def G (K : Nat) : List Ctr := [laws_szNode.c K, spec_NodeTrip.c K, laws_toNode.c K, impl_NodeTrip.c K, laws_eqNode.c K]
noncomputable def L : List (Nat × List (Nat × List Coe)) := []
noncomputable def body : Code := bodyOf Tryz.f3
noncomputable abbrev ev (K : Nat) : Code → St → (Ex → St → Option Res) → Option Res := evK (G K) T L K
noncomputable abbrev fin : Ex → St → Option Res := finK T ps rs true Tryz.f3.results.toList
theorem eqn (K : Nat) (x : Args ps) : evF (G K) T L K Tryz.f3 ps rs true x = f K x := by kernel_rfl
end laws_FnExactNodeTrip
/-! ### laws.szWord -/
namespace laws_szWord
@[reducible] def ps : List PK := [.rd t55, .rd (.int .i64)]
@[reducible] def rs : List RK := [.v false (.int .i64)]
abbrev Res := Ress rs × Outs ps
noncomputable def pre (K : Nat) (x : Args ps) : Option Res := (laws_szFactS.f K (x.1.2.2.2.2.2.2.2, x.2.1, ())).bind fun y1 => bif decide (y1.1.1 < 0) then (some (((-1), ()), ())) else (some ((y1.1.1, ()), ()))
noncomputable def f (K : Nat) (x : Args ps) : Option Res := pre K x
noncomputable def c (K : Nat) : Ctr := ⟨20, ps, rs, true, f K⟩
noncomputable def G (K : Nat) : List Ctr := [laws_szFactS.c K]
noncomputable def L : List (Nat × List (Nat × List Coe)) := []
noncomputable def body : Code := bodyOf Tryz.f20
noncomputable abbrev ev (K : Nat) : Code → St → (Ex → St → Option Res) → Option Res := evK (G K) T L K
noncomputable abbrev fin : Ex → St → Option Res := finK T ps rs true Tryz.f20.results.toList
theorem eqn (K : Nat) (x : Args ps) : evF (G K) T L K Tryz.f20 ps rs true x = f K x := by kernel_rfl
end laws_szWord
/-! ### laws.toWord -/
namespace laws_toWord
@[reducible] def ps : List PK := [.rd t55]
@[reducible] def rs : List RK := [.v true t19]
abbrev Res := Ress rs × Outs ps
noncomputable def pre (K : Nat) (x : Args ps) : Option Res := (laws_toCoord.f K (x.1.2.2.2.2.2.2.1, ())).bind fun y1 => (laws_toFactS.f K (x.1.2.2.2.2.2.2.2, ())).bind fun y2 => some (((x.1.1, (x.1.2.1, (x.1.2.2.1, (x.1.2.2.2.1, (x.1.2.2.2.2.1, (x.1.2.2.2.2.2.1, (y1.1.1, y2.1.1))))))), ()), ())
noncomputable def f (K : Nat) (x : Args ps) : Option Res := pre K x
noncomputable def c (K : Nat) : Ctr := ⟨22, ps, rs, true, f K⟩
noncomputable def G (K : Nat) : List Ctr := [laws_toFactS.c K, laws_toCoord.c K]
noncomputable def L : List (Nat × List (Nat × List Coe)) := []
noncomputable def body : Code := bodyOf Tryz.f22
noncomputable abbrev ev (K : Nat) : Code → St → (Ex → St → Option Res) → Option Res := evK (G K) T L K
noncomputable abbrev fin : Ex → St → Option Res := finK T ps rs true Tryz.f22.results.toList
theorem eqn (K : Nat) (x : Args ps) : evF (G K) T L K Tryz.f22 ps rs true x = f K x := by kernel_rfl
end laws_toWord
/-! ### spec.WordOk -/
namespace spec_WordOk
@[reducible] def ps : List PK := [.rd t19]
@[reducible] def rs : List RK := [.v false .bool]
abbrev Res := Ress rs × Outs ps
noncomputable def pre (K : Nat) (x : Args ps) : Option Res := (spec_l1In.f K (x.1.1, 1, 2, ())).bind fun y1 => bif !y1.1.1 then (some ((false, ()), ())) else ((spec_l1In.f K (x.1.2.1, 1, 6, ())).bind fun y2 => bif !y2.1.1 then (some ((false, ()), ())) else ((spec_l1In.f K (x.1.2.2.1, 0, 7, ())).bind fun y3 => bif !y3.1.1 then (some ((false, ()), ())) else ((spec_l1In.f K (x.1.2.2.2.1, 0, 7, ())).bind fun y4 => bif !y4.1.1 then (some ((false, ()), ())) else ((spec_l1In.f K (x.1.2.2.2.2.1, 0, 999999, ())).bind fun y5 => bif !y5.1.1 then (some ((false, ()), ())) else ((spec_l1In.f K (x.1.2.2.2.2.2.1, 0, 7, ())).bind fun y6 => bif !y6.1.1 then (some ((false, ()), ())) else ((spec_CoordOk.f K (x.1.2.2.2.2.2.2.1, ())).bind fun y7 => bif !y7.1.1 then (some ((false, ()), ())) else ((spec_TableOk.f K (x.1.2.2.2.2.2.2.2, ())).bind fun y8 => bif !y8.1.1 then (some ((false, ()), ())) else (bif x.1.2.1 == 6 then (bif decide ((List.length x.1.2.2.2.2.2.2.2 : Int) > 0) then ((idx x.1.2.2.2.2.2.2.2 0).bind fun y9 => (spec_l4Site.f K (x.1.2.2.2.2.2.2.2, wr .i64 (Int.tdiv y9.1 4), ())).bind fun y10 => some ((y10.1.1, ()), ())) else (some ((false, ()), ()))) else ((spec_l4Site.f K (x.1.2.2.2.2.2.2.2, wr .i64 (Int.tdiv x.1.2.2.1 4), ())).bind fun y11 => some ((y11.1.1, ()), ()))))))))))
noncomputable def f (K : Nat) (x : Args ps) : Option Res := pre K x
noncomputable def c (K : Nat) : Ctr := ⟨84, ps, rs, true, f K⟩
noncomputable def G (K : Nat) : List Ctr := [spec_l1In.c K, spec_TableOk.c K, spec_l4Site.c K, spec_CoordOk.c K]
noncomputable def L : List (Nat × List (Nat × List Coe)) := []
noncomputable def body : Code := bodyOf Tryz.f84
noncomputable abbrev ev (K : Nat) : Code → St → (Ex → St → Option Res) → Option Res := evK (G K) T L K
noncomputable abbrev fin : Ex → St → Option Res := finK T ps rs true Tryz.f84.results.toList
theorem eqn (K : Nat) (x : Args ps) : evF (G K) T L K Tryz.f84 ps rs true x = f K x := by kernel_rfl
end spec_WordOk
/-! ### spec.l22Takes -/
namespace spec_l22Takes
@[reducible] def ps : List PK := [.rd t48, .rd t19]
@[reducible] def rs : List RK := [.v false .bool]
abbrev Res := Ress rs × Outs ps
noncomputable def pre (K : Nat) (x : Args ps) : Option Res := bif !x.1.2.1 then (some ((false, ()), ())) else (bif x.1.2.2.1 then (some ((false, ()), ())) else (bif x.2.1.2.2.2.1 != x.1.1 then (some ((false, ()), ())) else (bif x.2.1.2.2.1 == x.1.1 then (some ((false, ()), ())) else ((spec_l21Site.f K (x.1.1, ())).bind fun y1 => bif x.2.1.1 == 2 then (bif x.2.1.2.1 == 6 then ((spec_l21Site.f K (x.2.1.2.2.1, ())).bind fun y2 => bif y2.1.1 != y1.1.1 then ((spec_l4Site.f K (x.2.1.2.2.2.2.2.2.2, y1.1.1, ())).bind fun y3 => bif y3.1.1 then (some ((true, ()), ())) else ((spec_l21Site.f K (x.2.1.2.2.1, ())).bind fun y4 => (spec_l4Site.f K (x.2.1.2.2.2.2.2.2.2, y4.1.1, ())).bind fun y5 => some ((y5.1.1, ()), ()))) else (some ((false, ()), ()))) else (some ((false, ()), ()))) else ((spec_l21Site.f K (x.2.1.2.2.1, ())).bind fun y6 => bif y6.1.1 == y1.1.1 then (bif x.2.1.2.1 != 6 then (some ((true, ()), ())) else ((spec_l4Site.f K (x.2.1.2.2.2.2.2.2.2, y1.1.1, ())).bind fun y7 => some ((!y7.1.1, ()), ()))) else (some ((false, ()), ())))))))
noncomputable def f (K : Nat) (x : Args ps) : Option Res := pre K x
noncomputable def c (K : Nat) : Ctr := ⟨85, ps, rs, true, f K⟩
noncomputable def G (K : Nat) : List Ctr := [spec_l21Site.c K, spec_l4Site.c K]
noncomputable def L : List (Nat × List (Nat × List Coe)) := []
noncomputable def body : Code := bodyOf Tryz.f85
noncomputable abbrev ev (K : Nat) : Code → St → (Ex → St → Option Res) → Option Res := evK (G K) T L K
noncomputable abbrev fin : Ex → St → Option Res := finK T ps rs true Tryz.f85.results.toList
theorem eqn (K : Nat) (x : Args ps) : evF (G K) T L K Tryz.f85 ps rs true x = f K x := by kernel_rfl
end spec_l22Takes
/-! ### spec.NodeTakes -/
namespace spec_NodeTakes
@[reducible] def ps : List PK := [.rd t48, .rd t19]
@[reducible] def rs : List RK := [.v false .bool]
abbrev Res := Ress rs × Outs ps
noncomputable def pre (K : Nat) (x : Args ps) : Option Res := (spec_NodeOk.f K (x.1, ())).bind fun y1 => bif !y1.1.1 then (some ((false, ()), ())) else ((spec_WordOk.f K (x.2.1, ())).bind fun y2 => bif !y2.1.1 then (some ((false, ()), ())) else ((spec_l22Takes.f K (x.1, x.2.1, ())).bind fun y3 => some ((y3.1.1, ()), ())))
noncomputable def f (K : Nat) (x : Args ps) : Option Res := pre K x
noncomputable def c (K : Nat) : Ctr := ⟨21, ps, rs, true, f K⟩
noncomputable def G (K : Nat) : List Ctr := [spec_NodeOk.c K, spec_WordOk.c K, spec_l22Takes.c K]
noncomputable def L : List (Nat × List (Nat × List Coe)) := []
noncomputable def body : Code := bodyOf Tryz.f21
noncomputable abbrev ev (K : Nat) : Code → St → (Ex → St → Option Res) → Option Res := evK (G K) T L K
noncomputable abbrev fin : Ex → St → Option Res := finK T ps rs true Tryz.f21.results.toList
theorem eqn (K : Nat) (x : Args ps) : evF (G K) T L K Tryz.f21 ps rs true x = f K x := by kernel_rfl
end spec_NodeTakes
/-! ### impl.WordOk -/
namespace impl_WordOk
@[reducible] def ps : List PK := [.rd t19]
@[reducible] def rs : List RK := [.v false .bool]
abbrev Res := Ress rs × Outs ps
noncomputable def pre (K : Nat) (x : Args ps) : Option Res := (impl_in.f K (x.1.1, 1, 2, ())).bind fun y1 => bif !y1.1.1 then (some ((false, ()), ())) else ((impl_in.f K (x.1.2.1, 1, 6, ())).bind fun y2 => bif !y2.1.1 then (some ((false, ()), ())) else ((impl_isNode.f K (x.1.2.2.1, ())).bind fun y3 => bif !y3.1.1 then (some ((false, ()), ())) else ((impl_isNode.f K (x.1.2.2.2.1, ())).bind fun y4 => bif !y4.1.1 then (some ((false, ()), ())) else ((impl_isNode.f K (x.1.2.2.2.2.2.1, ())).bind fun y5 => bif !y5.1.1 then (some ((false, ()), ())) else ((impl_in.f K (x.1.2.2.2.2.1, 0, 999999, ())).bind fun y6 => bif !y6.1.1 then (some ((false, ()), ())) else ((impl_CoordOk.f K (x.1.2.2.2.2.2.2.1, ())).bind fun y7 => bif !y7.1.1 then (some ((false, ()), ())) else ((impl_TableOk.f K (x.1.2.2.2.2.2.2.2, ())).bind fun y8 => bif !y8.1.1 then (some ((false, ()), ())) else (bif x.1.2.1 == 6 then (bif decide ((List.length x.1.2.2.2.2.2.2.2 : Int) > 0) then ((idx x.1.2.2.2.2.2.2.2 0).bind fun y9 => (impl_siteOf.f K (y9.1, ())).bind fun y10 => (impl_ofSite.f K (x.1.2.2.2.2.2.2.2, y10.1.1, ())).bind fun y11 => some ((y11.1.1, ()), ())) else (some ((false, ()), ()))) else ((impl_siteOf.f K (x.1.2.2.1, ())).bind fun y12 => (impl_ofSite.f K (x.1.2.2.2.2.2.2.2, y12.1.1, ())).bind fun y13 => some ((y13.1.1, ()), ()))))))))))
noncomputable def f (K : Nat) (x : Args ps) : Option Res := pre K x
noncomputable def c (K : Nat) : Ctr := ⟨86, ps, rs, true, f K⟩
noncomputable def G (K : Nat) : List Ctr := [impl_ofSite.c K, impl_siteOf.c K, impl_in.c K, impl_isNode.c K, impl_CoordOk.c K, impl_TableOk.c K]
noncomputable def L : List (Nat × List (Nat × List Coe)) := []
noncomputable def body : Code := bodyOf Tryz.f86
noncomputable abbrev ev (K : Nat) : Code → St → (Ex → St → Option Res) → Option Res := evK (G K) T L K
noncomputable abbrev fin : Ex → St → Option Res := finK T ps rs true Tryz.f86.results.toList
theorem eqn (K : Nat) (x : Args ps) : evF (G K) T L K Tryz.f86 ps rs true x = f K x := by kernel_rfl
end impl_WordOk
/-! ### impl.Node).active -/
namespace impl_Node_active
@[reducible] def ps : List PK := [.rd t48]
@[reducible] def rs : List RK := [.v false .bool]
abbrev Res := Ress rs × Outs ps
noncomputable def pre (K : Nat) (x : Args ps) : Option Res := bif x.1.2.1 then (some ((!x.1.2.2.1, ()), ())) else (some ((false, ()), ()))
noncomputable def f (K : Nat) (x : Args ps) : Option Res := pre K x
noncomputable def c (K : Nat) : Ctr := ⟨87, ps, rs, true, f K⟩
noncomputable def G (K : Nat) : List Ctr := []
noncomputable def L : List (Nat × List (Nat × List Coe)) := []
noncomputable def body : Code := bodyOf Tryz.f87
noncomputable abbrev ev (K : Nat) : Code → St → (Ex → St → Option Res) → Option Res := evK (G K) T L K
noncomputable abbrev fin : Ex → St → Option Res := finK T ps rs true Tryz.f87.results.toList
theorem eqn (K : Nat) (x : Args ps) : evF (G K) T L K Tryz.f87 ps rs true x = f K x := by kernel_rfl
end impl_Node_active
/-! ### impl.NodeTakes -/
namespace impl_NodeTakes
@[reducible] def ps : List PK := [.rd t48, .rd t19]
@[reducible] def rs : List RK := [.v false .bool]
abbrev Res := Ress rs × Outs ps
noncomputable def pre (K : Nat) (x : Args ps) : Option Res := (impl_NodeOk.f K (x.1, ())).bind fun y1 => bif !y1.1.1 then (some ((false, ()), ())) else ((impl_WordOk.f K (x.2.1, ())).bind fun y2 => bif !y2.1.1 then (some ((false, ()), ())) else ((impl_Node_active.f K (x.1, ())).bind fun y3 => bif !y3.1.1 then (some ((false, ()), ())) else (bif x.2.1.2.2.2.1 != x.1.1 then (some ((false, ()), ())) else (bif x.2.1.2.2.1 == x.1.1 then (some ((false, ()), ())) else (bif x.2.1.1 == 1 then ((impl_Node_near.f K (x.1, x.2.1.2.2.1, ())).bind fun y4 => bif y4.1.1 then (bif x.2.1.2.1 != 6 then (some ((true, ()), ())) else ((impl_Node_site.f K (x.1, ())).bind fun y5 => (impl_ofSite.f K (x.2.1.2.2.2.2.2.2.2, y5.1.1, ())).bind fun y6 => some ((!y6.1.1, ()), ()))) else (some ((false, ()), ()))) else (bif x.2.1.2.1 == 6 then ((impl_Node_near.f K (x.1, x.2.1.2.2.1, ())).bind fun y7 => bif !y7.1.1 then ((impl_siteOf.f K (x.2.1.2.2.1, ())).bind fun y8 => (impl_ofSite.f K (x.2.1.2.2.2.2.2.2.2, y8.1.1, ())).bind fun y9 => bif y9.1.1 then (some ((true, ()), ())) else ((impl_Node_site.f K (x.1, ())).bind fun y10 => (impl_ofSite.f K (x.2.1.2.2.2.2.2.2.2, y10.1.1, ())).bind fun y11 => some ((y11.1.1, ()), ()))) else (some ((false, ()), ()))) else (some ((false, ()), ()))))))))
noncomputable def f (K : Nat) (x : Args ps) : Option Res := pre K x
noncomputable def c (K : Nat) : Ctr := ⟨23, ps, rs, true, f K⟩
noncomputable def G (K : Nat) : List Ctr := [impl_NodeOk.c K, impl_WordOk.c K, impl_Node_active.c K, impl_Node_near.c K, impl_ofSite.c K, impl_Node_site.c K, impl_siteOf.c K]
noncomputable def L : List (Nat × List (Nat × List Coe)) := []
noncomputable def body : Code := bodyOf Tryz.f23
noncomputable abbrev ev (K : Nat) : Code → St → (Ex → St → Option Res) → Option Res := evK (G K) T L K
noncomputable abbrev fin : Ex → St → Option Res := finK T ps rs true Tryz.f23.results.toList
theorem eqn (K : Nat) (x : Args ps) : evF (G K) T L K Tryz.f23 ps rs true x = f K x := by kernel_rfl
end impl_NodeTakes
/-! ### laws.eqWord -/
namespace laws_eqWord
@[reducible] def ps : List PK := [.rd t19, .rd t19]
@[reducible] def rs : List RK := [.v false .bool]
abbrev Res := Ress rs × Outs ps
noncomputable def pre (K : Nat) (x : Args ps) : Option Res := bif x.1.1 != x.2.1.1 then (some ((false, ()), ())) else (bif x.1.2.1 != x.2.1.2.1 then (some ((false, ()), ())) else (bif x.1.2.2.1 != x.2.1.2.2.1 then (some ((false, ()), ())) else (bif x.1.2.2.2.1 != x.2.1.2.2.2.1 then (some ((false, ()), ())) else (bif x.1.2.2.2.2.1 != x.2.1.2.2.2.2.1 then (some ((false, ()), ())) else (bif x.1.2.2.2.2.2.1 != x.2.1.2.2.2.2.2.1 then (some ((false, ()), ())) else ((laws_eqCoord.f K (x.1.2.2.2.2.2.2.1, x.2.1.2.2.2.2.2.2.1, ())).bind fun y1 => bif !y1.1.1 then (some ((false, ()), ())) else ((laws_eqFactS.f K (x.1.2.2.2.2.2.2.2, x.2.1.2.2.2.2.2.2.2, ())).bind fun y2 => bif !y2.1.1 then (some ((false, ()), ())) else (some ((true, ()), ())))))))))
noncomputable def f (K : Nat) (x : Args ps) : Option Res := pre K x
noncomputable def c (K : Nat) : Ctr := ⟨24, ps, rs, true, f K⟩
noncomputable def G (K : Nat) : List Ctr := [laws_eqFactS.c K, laws_eqCoord.c K]
noncomputable def L : List (Nat × List (Nat × List Coe)) := []
noncomputable def body : Code := bodyOf Tryz.f24
noncomputable abbrev ev (K : Nat) : Code → St → (Ex → St → Option Res) → Option Res := evK (G K) T L K
noncomputable abbrev fin : Ex → St → Option Res := finK T ps rs true Tryz.f24.results.toList
theorem eqn (K : Nat) (x : Args ps) : evF (G K) T L K Tryz.f24 ps rs true x = f K x := by kernel_rfl
end laws_eqWord
/-! ### laws.FnExactNodeTakes -/
namespace laws_FnExactNodeTakes
@[reducible] def ps : List PK := [.rd t34, .rd t55]
@[reducible] def rs : List RK := [.v false .bool]
abbrev Res := Ress rs × Outs ps
noncomputable def pre (K : Nat) (x : Args ps) : Option Res := (laws_szNode.f K (x.1, 1048576, ())).bind fun y1 => bif decide (y1.1.1 < 0) then (some ((true, ()), ())) else ((laws_szWord.f K (x.2.1, y1.1.1, ())).bind fun y2 => bif decide (y2.1.1 < 0) then (some ((true, ()), ())) else ((laws_toNode.f K (x.1, ())).bind fun y3 => (laws_toWord.f K (x.2.1, ())).bind fun y4 => (spec_NodeTakes.f K (y3.1.1, y4.1.1, ())).bind fun y5 => (laws_toNode.f K (x.1, ())).bind fun y6 => (laws_toWord.f K (x.2.1, ())).bind fun y7 => (impl_NodeTakes.f K (y6.1.1, y7.1.1, ())).bind fun y8 => bif y8.1.1 != y5.1.1 then (some ((false, ()), ())) else ((laws_toNode.f K (x.1, ())).bind fun y9 => (laws_eqNode.f K (y6.1.1, y9.1.1, ())).bind fun y10 => bif !y10.1.1 then (some ((false, ()), ())) else ((laws_toWord.f K (x.2.1, ())).bind fun y11 => (laws_eqWord.f K (y7.1.1, y11.1.1, ())).bind fun y12 => bif !y12.1.1 then (some ((false, ()), ())) else (some ((true, ()), ()))))))
noncomputable def f (K : Nat) (x : Args ps) : Option Res := pre K x
noncomputable def c (K : Nat) : Ctr := ⟨4, ps, rs, true, f K⟩
noncomputable def G (K : Nat) : List Ctr := [laws_szNode.c K, laws_toNode.c K, laws_eqNode.c K, laws_szWord.c K, spec_NodeTakes.c K, laws_toWord.c K, impl_NodeTakes.c K, laws_eqWord.c K]
noncomputable def L : List (Nat × List (Nat × List Coe)) := []
noncomputable def body : Code := bodyOf Tryz.f4
noncomputable abbrev ev (K : Nat) : Code → St → (Ex → St → Option Res) → Option Res := evK (G K) T L K
noncomputable abbrev fin : Ex → St → Option Res := finK T ps rs true Tryz.f4.results.toList
theorem eqn (K : Nat) (x : Args ps) : evF (G K) T L K Tryz.f4 ps rs true x = f K x := by kernel_rfl
end laws_FnExactNodeTakes
/-! ### laws.szNodeS -/
namespace laws_szNodeS
@[reducible] def ps : List PK := [.rd (.list 32 t34), .rd (.int .i64)]
@[reducible] def rs : List RK := [.v false (.int .i64)]
abbrev Res := Ress rs × Outs ps
abbrev A_l0 := Int × Int
noncomputable def l0.step (K : Nat) (x : Args ps) (rec_l0 : A_l0 → Option Res) (a : A_l0) : Option Res := bif decide (a.2 < (List.length x.1 : Int)) then ((idx x.1 a.2).bind fun y1 => (laws_szNode.f K (y1, a.1, ())).bind fun y2 => bif decide (y2.1.1 < 0) then (some (((-1), ()), ())) else (rec_l0 (y2.1.1, wr .i64 (a.2 + 1)))) else (some ((a.1, ()), ()))
noncomputable def l0 (K : Nat) (x : Args ps) : A_l0 → Option Res := iterate (fun rec_l0 a => l0.step K x rec_l0 a) K
noncomputable def pre (K : Nat) (N_l0 : A_l0 → Option Res) (x : Args ps) : Option Res := bif decide ((wr .i64 (x.2.1 - (List.length x.1 : Int))) < 0) then (some (((-1), ()), ())) else (N_l0 (wr .i64 (x.2.1 - (List.length x.1 : Int)), 0))
noncomputable def f (K : Nat) (x : Args ps) : Option Res := pre K (l0 K x) x
noncomputable def c (K : Nat) : Ctr := ⟨100, ps, rs, true, f K⟩
noncomputable def G (K : Nat) : List Ctr := [laws_szNode.c K]
noncomputable def live_l0 : List (Nat × List Coe) := [(0, [.ro true 32 t34]), (1, [.keep]), (5, [.keep])]
noncomputable def L : List (Nat × List (Nat × List Coe)) := [(6, live_l0)]
noncomputable def body : Code := bodyOf Tryz.f100
noncomputable abbrev ev (K : Nat) : Code → St → (Ex → St → Option Res) → Option Res := evK (G K) T L K
noncomputable abbrev fin : Ex → St → Option Res := finK T ps rs true Tryz.f100.results.toList
noncomputable def S_l0 (x : Args ps) (a : A_l0) : St := mkSt [(0, ⟨0, .one, [.ro true 32 t34 x.1]⟩), (1, ⟨0, .one, [.int .i64 a.1]⟩), (5, ⟨0, .one, [.int .i64 a.2]⟩)]
noncomputable def k_l0 (K : Nat) (x : Args ps) : Ex → St → Option Res := kAt (ev K) body [1, 1, 1, 0, 1, 0] fin
noncomputable def N_l0 (K : Nat) (x : Args ps) : A_l0 → Option Res := fun a => evLoop live_l0 (ev K (sub body [1, 1, 1, 0, 1, 0, 0])) K (S_l0 x a) (k_l0 K x)
theorem h_l0 (K : Nat) (x : Args ps) (r_l0 : St → Option Res) (a : A_l0) : ev K (sub body [1, 1, 1, 0, 1, 0, 0]) (S_l0 x a) (kLoop live_l0 r_l0 (k_l0 K x)) = l0.step K x (fun a => r_l0 (S_l0 x a)) a := by kernel_rfl
theorem ok_l0 (K : Nat) (x : Args ps) : N_l0 K x = l0 K x := funext fun a => evLoop_iter live_l0 (ev K (sub body [1, 1, 1, 0, 1, 0, 0])) (k_l0 K x) (S_l0 x) (fun rec a => l0.step K x rec a) (fun r_l0 a => (h_l0 K x r_l0 a)) K a
theorem eqn (K : Nat) (x : Args ps) : evF (G K) T L K Tryz.f100 ps rs true x = f K x := (show evF (G K) T L K Tryz.f100 ps rs true x = pre K (N_l0 K x) x by kernel_rfl).trans (by rw [ok_l0 K x]; rfl)
end laws_szNodeS
/-! ### laws.szFlight -/
namespace laws_szFlight
@[reducible] def ps : List PK := [.rd t57, .rd (.int .i64)]
@[reducible] def rs : List RK := [.v false (.int .i64)]
abbrev Res := Ress rs × Outs ps
noncomputable def pre (K : Nat) (x : Args ps) : Option Res := bif decide ((wr .i64 (x.2.1 - (x.1.2.1.size : Int))) < 0) then (some (((-1), ()), ())) else (some ((wr .i64 (x.2.1 - (x.1.2.1.size : Int)), ()), ()))
noncomputable def f (K : Nat) (x : Args ps) : Option Res := pre K x
noncomputable def c (K : Nat) : Ctr := ⟨186, ps, rs, true, f K⟩
noncomputable def G (K : Nat) : List Ctr := []
noncomputable def L : List (Nat × List (Nat × List Coe)) := []
noncomputable def body : Code := bodyOf Tryz.f186
noncomputable abbrev ev (K : Nat) : Code → St → (Ex → St → Option Res) → Option Res := evK (G K) T L K
noncomputable abbrev fin : Ex → St → Option Res := finK T ps rs true Tryz.f186.results.toList
theorem eqn (K : Nat) (x : Args ps) : evF (G K) T L K Tryz.f186 ps rs true x = f K x := by kernel_rfl
end laws_szFlight
/-! ### laws.szFlightS -/
namespace laws_szFlightS
@[reducible] def ps : List PK := [.rd (.list 187 t57), .rd (.int .i64)]
@[reducible] def rs : List RK := [.v false (.int .i64)]
abbrev Res := Ress rs × Outs ps
abbrev A_l0 := Int × Int
noncomputable def l0.step (K : Nat) (x : Args ps) (rec_l0 : A_l0 → Option Res) (a : A_l0) : Option Res := bif decide (a.2 < (List.length x.1 : Int)) then ((idx x.1 a.2).bind fun y1 => (laws_szFlight.f K (y1, a.1, ())).bind fun y2 => bif decide (y2.1.1 < 0) then (some (((-1), ()), ())) else (rec_l0 (y2.1.1, wr .i64 (a.2 + 1)))) else (some ((a.1, ()), ()))
noncomputable def l0 (K : Nat) (x : Args ps) : A_l0 → Option Res := iterate (fun rec_l0 a => l0.step K x rec_l0 a) K
noncomputable def pre (K : Nat) (N_l0 : A_l0 → Option Res) (x : Args ps) : Option Res := bif decide ((wr .i64 (x.2.1 - (List.length x.1 : Int))) < 0) then (some (((-1), ()), ())) else (N_l0 (wr .i64 (x.2.1 - (List.length x.1 : Int)), 0))
noncomputable def f (K : Nat) (x : Args ps) : Option Res := pre K (l0 K x) x
noncomputable def c (K : Nat) : Ctr := ⟨101, ps, rs, true, f K⟩
noncomputable def G (K : Nat) : List Ctr := [laws_szFlight.c K]
noncomputable def live_l0 : List (Nat × List Coe) := [(0, [.ro true 187 t57]), (1, [.keep]), (5, [.keep])]
noncomputable def L : List (Nat × List (Nat × List Coe)) := [(6, live_l0)]
noncomputable def body : Code := bodyOf Tryz.f101
noncomputable abbrev ev (K : Nat) : Code → St → (Ex → St → Option Res) → Option Res := evK (G K) T L K
noncomputable abbrev fin : Ex → St → Option Res := finK T ps rs true Tryz.f101.results.toList
noncomputable def S_l0 (x : Args ps) (a : A_l0) : St := mkSt [(0, ⟨0, .one, [.ro true 187 t57 x.1]⟩), (1, ⟨0, .one, [.int .i64 a.1]⟩), (5, ⟨0, .one, [.int .i64 a.2]⟩)]
noncomputable def k_l0 (K : Nat) (x : Args ps) : Ex → St → Option Res := kAt (ev K) body [1, 1, 1, 0, 1, 0] fin
noncomputable def N_l0 (K : Nat) (x : Args ps) : A_l0 → Option Res := fun a => evLoop live_l0 (ev K (sub body [1, 1, 1, 0, 1, 0, 0])) K (S_l0 x a) (k_l0 K x)
theorem h_l0 (K : Nat) (x : Args ps) (r_l0 : St → Option Res) (a : A_l0) : ev K (sub body [1, 1, 1, 0, 1, 0, 0]) (S_l0 x a) (kLoop live_l0 r_l0 (k_l0 K x)) = l0.step K x (fun a => r_l0 (S_l0 x a)) a := by kernel_rfl
theorem ok_l0 (K : Nat) (x : Args ps) : N_l0 K x = l0 K x := funext fun a => evLoop_iter live_l0 (ev K (sub body [1, 1, 1, 0, 1, 0, 0])) (k_l0 K x) (S_l0 x) (fun rec a => l0.step K x rec a) (fun r_l0 a => (h_l0 K x r_l0 a)) K a
theorem eqn (K : Nat) (x : Args ps) : evF (G K) T L K Tryz.f101 ps rs true x = f K x := (show evF (G K) T L K Tryz.f101 ps rs true x = pre K (N_l0 K x) x by kernel_rfl).trans (by rw [ok_l0 K x]; rfl)
end laws_szFlightS
/-! ### laws.szWorld -/
namespace laws_szWorld
@[reducible] def ps : List PK := [.rd t60, .rd (.int .i64)]
@[reducible] def rs : List RK := [.v false (.int .i64)]
abbrev Res := Ress rs × Outs ps
noncomputable def pre (K : Nat) (x : Args ps) : Option Res := (laws_szNodeS.f K (x.1.1, x.2.1, ())).bind fun y1 => bif decide (y1.1.1 < 0) then (some (((-1), ()), ())) else ((laws_szFlightS.f K (x.1.2.1, y1.1.1, ())).bind fun y2 => bif decide (y2.1.1 < 0) then (some (((-1), ()), ())) else ((laws_szIntS.f K (x.1.2.2.1, y2.1.1, ())).bind fun y3 => bif decide (y3.1.1 < 0) then (some (((-1), ()), ())) else ((laws_szFactS.f K (x.1.2.2.2, y3.1.1, ())).bind fun y4 => bif decide (y4.1.1 < 0) then (some (((-1), ()), ())) else (some ((y4.1.1, ()), ())))))
noncomputable def f (K : Nat) (x : Args ps) : Option Res := pre K x
noncomputable def c (K : Nat) : Ctr := ⟨31, ps, rs, true, f K⟩
noncomputable def G (K : Nat) : List Ctr := [laws_szFactS.c K, laws_szNodeS.c K, laws_szFlightS.c K, laws_szIntS.c K]
noncomputable def L : List (Nat × List (Nat × List Coe)) := []
noncomputable def body : Code := bodyOf Tryz.f31
noncomputable abbrev ev (K : Nat) : Code → St → (Ex → St → Option Res) → Option Res := evK (G K) T L K
noncomputable abbrev fin : Ex → St → Option Res := finK T ps rs true Tryz.f31.results.toList
theorem eqn (K : Nat) (x : Args ps) : evF (G K) T L K Tryz.f31 ps rs true x = f K x := by kernel_rfl
end laws_szWorld
/-! ### laws.toNodeS -/
namespace laws_toNodeS
@[reducible] def ps : List PK := [.rd (.list 32 t34)]
@[reducible] def rs : List RK := [.v true (.list 44 t48)]
abbrev Res := Ress rs × Outs ps
abbrev A_l0 := List (Ty.den t48) × Int
noncomputable def l0.step (K : Nat) (x : Args ps) (rec_l0 : A_l0 → Option Res) (a : A_l0) : Option Res := bif decide (a.2 < (List.length x.1 : Int)) then ((idx x.1 a.2).bind fun y1 => (laws_toNode.f K (y1, ())).bind fun y2 => (idx a.1 a.2).bind fun _ => (idx a.1 (Int.toNat a.2 : Nat)).bind fun y4 => rec_l0 (a.1.set (Int.toNat a.2) y2.1.1, wr .i64 (a.2 + 1))) else (some ((a.1, ()), ()))
noncomputable def l0 (K : Nat) (x : Args ps) : A_l0 → Option Res := iterate (fun rec_l0 a => l0.step K x rec_l0 a) K
noncomputable def pre (K : Nat) (N_l0 : A_l0 → Option Res) (x : Args ps) : Option Res := bif decide (0 ≤ (List.length x.1 : Int)) && decide ((List.length x.1 : Int) = (List.length x.1 : Int)) && decide ((List.length x.1 : Int) * (232 : Nat) ≤ sizeK) then (N_l0 (List.replicate (Int.toNat (List.length x.1 : Int)) (0, (false, (false, (false, (0, (0, (0, (0, ([], ([], ((0, (0, (0, false))), ([], ((0, (0, (0, 0))), ([], [])))))))))))))), 0)) else none
noncomputable def f (K : Nat) (x : Args ps) : Option Res := pre K (l0 K x) x
noncomputable def c (K : Nat) : Ctr := ⟨107, ps, rs, true, f K⟩
noncomputable def G (K : Nat) : List Ctr := [laws_toNode.c K]
noncomputable def live_l0 : List (Nat × List Coe) := [(0, [.ro true 32 t34]), (3, [.own false 44 t48]), (4, [.keep])]
noncomputable def L : List (Nat × List (Nat × List Coe)) := [(4, live_l0)]
noncomputable def body : Code := bodyOf Tryz.f107
noncomputable abbrev ev (K : Nat) : Code → St → (Ex → St → Option Res) → Option Res := evK (G K) T L K
noncomputable abbrev fin : Ex → St → Option Res := finK T ps rs true Tryz.f107.results.toList
noncomputable def S_l0 (x : Args ps) (a : A_l0) : St := mkSt [(0, ⟨0, .one, [.ro true 32 t34 x.1]⟩), (3, ⟨0, .one, [.own false 44 t48 a.1]⟩), (4, ⟨0, .one, [.int .i64 a.2]⟩)]
noncomputable def k_l0 (K : Nat) (x : Args ps) : Ex → St → Option Res := kAt (ev K) body [1, 1, 0, 1, 0] fin
noncomputable def N_l0 (K : Nat) (x : Args ps) : A_l0 → Option Res := fun a => evLoop live_l0 (ev K (sub body [1, 1, 0, 1, 0, 0])) K (S_l0 x a) (k_l0 K x)
theorem h_l0 (K : Nat) (x : Args ps) (r_l0 : St → Option Res) (a : A_l0) : ev K (sub body [1, 1, 0, 1, 0, 0]) (S_l0 x a) (kLoop live_l0 r_l0 (k_l0 K x)) = l0.step K x (fun a => r_l0 (S_l0 x a)) a := by kernel_rfl
theorem ok_l0 (K : Nat) (x : Args ps) : N_l0 K x = l0 K x := funext fun a => evLoop_iter live_l0 (ev K (sub body [1, 1, 0, 1, 0, 0])) (k_l0 K x) (S_l0 x) (fun rec a => l0.step K x rec a) (fun r_l0 a => (h_l0 K x r_l0 a)) K a
theorem eqn (K : Nat) (x : Args ps) : evF (G K) T L K Tryz.f107 ps rs true x = f K x := (show evF (G K) T L K Tryz.f107 ps rs true x = pre K (N_l0 K x) x by kernel_rfl).trans (by rw [ok_l0 K x]; rfl)
end laws_toNodeS
/-! ### laws.toFlight -/
namespace laws_toFlight
@[reducible] def ps : List PK := [.rd t57]
@[reducible] def rs : List RK := [.v false t57]
abbrev Res := Ress rs × Outs ps
noncomputable def pre (K : Nat) (x : Args ps) : Option Res := some ((x.1, ()), ())
noncomputable def f (K : Nat) (x : Args ps) : Option Res := pre K x
noncomputable def c (K : Nat) : Ctr := ⟨188, ps, rs, true, f K⟩
noncomputable def G (K : Nat) : List Ctr := []
noncomputable def L : List (Nat × List (Nat × List Coe)) := []
noncomputable def body : Code := bodyOf Tryz.f188
noncomputable abbrev ev (K : Nat) : Code → St → (Ex → St → Option Res) → Option Res := evK (G K) T L K
noncomputable abbrev fin : Ex → St → Option Res := finK T ps rs true Tryz.f188.results.toList
theorem eqn (K : Nat) (x : Args ps) : evF (G K) T L K Tryz.f188 ps rs true x = f K x := by kernel_rfl
end laws_toFlight
/-! ### laws.toFlightS -/
namespace laws_toFlightS
@[reducible] def ps : List PK := [.rd (.list 187 t57)]
@[reducible] def rs : List RK := [.v true (.list 129 t57)]
abbrev Res := Ress rs × Outs ps
abbrev A_l0 := List (Ty.den t57) × Int
noncomputable def l0.step (K : Nat) (x : Args ps) (rec_l0 : A_l0 → Option Res) (a : A_l0) : Option Res := bif decide (a.2 < (List.length x.1 : Int)) then ((idx x.1 a.2).bind fun y1 => (laws_toFlight.f K (y1, ())).bind fun y2 => (idx a.1 a.2).bind fun _ => (idx a.1 (Int.toNat a.2 : Nat)).bind fun y4 => rec_l0 (a.1.set (Int.toNat a.2) y2.1.1, wr .i64 (a.2 + 1))) else (some ((a.1, ()), ()))
noncomputable def l0 (K : Nat) (x : Args ps) : A_l0 → Option Res := iterate (fun rec_l0 a => l0.step K x rec_l0 a) K
noncomputable def pre (K : Nat) (N_l0 : A_l0 → Option Res) (x : Args ps) : Option Res := bif decide (0 ≤ (List.length x.1 : Int)) && decide ((List.length x.1 : Int) = (List.length x.1 : Int)) && decide ((List.length x.1 : Int) * (32 : Nat) ≤ sizeK) then (N_l0 (List.replicate (Int.toNat (List.length x.1 : Int)) (0, (ByteArray.empty, false)), 0)) else none
noncomputable def f (K : Nat) (x : Args ps) : Option Res := pre K (l0 K x) x
noncomputable def c (K : Nat) : Ctr := ⟨108, ps, rs, true, f K⟩
noncomputable def G (K : Nat) : List Ctr := [laws_toFlight.c K]
noncomputable def live_l0 : List (Nat × List Coe) := [(0, [.ro true 187 t57]), (3, [.own false 129 t57]), (4, [.keep])]
noncomputable def L : List (Nat × List (Nat × List Coe)) := [(4, live_l0)]
noncomputable def body : Code := bodyOf Tryz.f108
noncomputable abbrev ev (K : Nat) : Code → St → (Ex → St → Option Res) → Option Res := evK (G K) T L K
noncomputable abbrev fin : Ex → St → Option Res := finK T ps rs true Tryz.f108.results.toList
noncomputable def S_l0 (x : Args ps) (a : A_l0) : St := mkSt [(0, ⟨0, .one, [.ro true 187 t57 x.1]⟩), (3, ⟨0, .one, [.own false 129 t57 a.1]⟩), (4, ⟨0, .one, [.int .i64 a.2]⟩)]
noncomputable def k_l0 (K : Nat) (x : Args ps) : Ex → St → Option Res := kAt (ev K) body [1, 1, 0, 1, 0] fin
noncomputable def N_l0 (K : Nat) (x : Args ps) : A_l0 → Option Res := fun a => evLoop live_l0 (ev K (sub body [1, 1, 0, 1, 0, 0])) K (S_l0 x a) (k_l0 K x)
theorem h_l0 (K : Nat) (x : Args ps) (r_l0 : St → Option Res) (a : A_l0) : ev K (sub body [1, 1, 0, 1, 0, 0]) (S_l0 x a) (kLoop live_l0 r_l0 (k_l0 K x)) = l0.step K x (fun a => r_l0 (S_l0 x a)) a := by kernel_rfl
theorem ok_l0 (K : Nat) (x : Args ps) : N_l0 K x = l0 K x := funext fun a => evLoop_iter live_l0 (ev K (sub body [1, 1, 0, 1, 0, 0])) (k_l0 K x) (S_l0 x) (fun rec a => l0.step K x rec a) (fun r_l0 a => (h_l0 K x r_l0 a)) K a
theorem eqn (K : Nat) (x : Args ps) : evF (G K) T L K Tryz.f108 ps rs true x = f K x := (show evF (G K) T L K Tryz.f108 ps rs true x = pre K (N_l0 K x) x by kernel_rfl).trans (by rw [ok_l0 K x]; rfl)
end laws_toFlightS
/-! ### laws.toWorld -/
namespace laws_toWorld
@[reducible] def ps : List PK := [.rd t60]
@[reducible] def rs : List RK := [.v true t63]
abbrev Res := Ress rs × Outs ps
noncomputable def pre (K : Nat) (x : Args ps) : Option Res := (laws_toNodeS.f K (x.1.1, ())).bind fun y1 => (laws_toFlightS.f K (x.1.2.1, ())).bind fun y2 => (laws_toIntS.f K (x.1.2.2.1, ())).bind fun y3 => (laws_toFactS.f K (x.1.2.2.2, ())).bind fun y4 => some (((y1.1.1, (y2.1.1, (y3.1.1, y4.1.1))), ()), ())
noncomputable def f (K : Nat) (x : Args ps) : Option Res := pre K x
noncomputable def c (K : Nat) : Ctr := ⟨33, ps, rs, true, f K⟩
noncomputable def G (K : Nat) : List Ctr := [laws_toFactS.c K, laws_toNodeS.c K, laws_toFlightS.c K, laws_toIntS.c K]
noncomputable def L : List (Nat × List (Nat × List Coe)) := []
noncomputable def body : Code := bodyOf Tryz.f33
noncomputable abbrev ev (K : Nat) : Code → St → (Ex → St → Option Res) → Option Res := evK (G K) T L K
noncomputable abbrev fin : Ex → St → Option Res := finK T ps rs true Tryz.f33.results.toList
theorem eqn (K : Nat) (x : Args ps) : evF (G K) T L K Tryz.f33 ps rs true x = f K x := by kernel_rfl
end laws_toWorld
/-! ### spec.l51Gate -/
namespace spec_l51Gate
@[reducible] def ps : List PK := [.rd (.int .i64)]
@[reducible] def rs : List RK := [.v false .bool]
abbrev Res := Ress rs × Outs ps
noncomputable def pre (K : Nat) (x : Args ps) : Option Res := some ((decide ((Int.tmod x.1 4) < 3), ()), ())
noncomputable def f (K : Nat) (x : Args ps) : Option Res := pre K x
noncomputable def c (K : Nat) : Ctr := ⟨103, ps, rs, true, f K⟩
noncomputable def G (K : Nat) : List Ctr := []
noncomputable def L : List (Nat × List (Nat × List Coe)) := []
noncomputable def body : Code := bodyOf Tryz.f103
noncomputable abbrev ev (K : Nat) : Code → St → (Ex → St → Option Res) → Option Res := evK (G K) T L K
noncomputable abbrev fin : Ex → St → Option Res := finK T ps rs true Tryz.f103.results.toList
theorem eqn (K : Nat) (x : Args ps) : evF (G K) T L K Tryz.f103 ps rs true x = f K x := by kernel_rfl
end spec_l51Gate
/-! ### spec.l51Less -/
namespace spec_l51Less
@[reducible] def ps : List PK := [.rd t2, .rd t2]
@[reducible] def rs : List RK := [.v false .bool]
abbrev Res := Ress rs × Outs ps
noncomputable def pre (K : Nat) (x : Args ps) : Option Res := bif x.1.1 != x.2.1.1 then (some ((decide (x.1.1 < x.2.1.1), ()), ())) else ((spec_l3Over.f K (x.2.1, x.1, ())).bind fun y1 => some ((y1.1.1, ()), ()))
noncomputable def f (K : Nat) (x : Args ps) : Option Res := pre K x
noncomputable def c (K : Nat) : Ctr := ⟨106, ps, rs, true, f K⟩
noncomputable def G (K : Nat) : List Ctr := [spec_l3Over.c K]
noncomputable def L : List (Nat × List (Nat × List Coe)) := []
noncomputable def body : Code := bodyOf Tryz.f106
noncomputable abbrev ev (K : Nat) : Code → St → (Ex → St → Option Res) → Option Res := evK (G K) T L K
noncomputable abbrev fin : Ex → St → Option Res := finK T ps rs true Tryz.f106.results.toList
theorem eqn (K : Nat) (x : Args ps) : evF (G K) T L K Tryz.f106 ps rs true x = f K x := by kernel_rfl
end spec_l51Less
/-! ### spec.WorldOk -/
namespace spec_WorldOk
@[reducible] def ps : List PK := [.rd t63]
@[reducible] def rs : List RK := [.v false .bool]
abbrev Res := Ress rs × Outs ps
abbrev A_l2 := Int
abbrev A_l1 := Int
abbrev A_l0 := Int
noncomputable def l2.step (K : Nat) (x : Args ps) (rec_l2 : A_l2 → Option Res) (a : A_l2) : Option Res := bif decide (a < (List.length x.1.2.2.2 : Int)) then ((idx x.1.2.2.2 a).bind fun y11 => (spec_FactOk.f K (y11, ())).bind fun y12 => bif !y12.1.1 then (some ((false, ()), ())) else (bif decide (a > 0) then ((idx x.1.2.2.2 (wr .i64 (a - 1))).bind fun y13 => (idx x.1.2.2.2 a).bind fun y14 => (spec_l51Less.f K (y13, y14, ())).bind fun y15 => bif !y15.1.1 then (some ((false, ()), ())) else (rec_l2 (wr .i64 (a + 1)))) else (rec_l2 (wr .i64 (a + 1))))) else (some ((true, ()), ()))
noncomputable def l2 (K : Nat) (x : Args ps) : A_l2 → Option Res := iterate (fun rec_l2 a => l2.step K x rec_l2 a) K
noncomputable def l1.step (K : Nat) (x : Args ps) (N_l2 : A_l2 → Option Res) (rec_l1 : A_l1 → Option Res) (a : A_l1) : Option Res := bif decide (a < (List.length x.1.2.1 : Int)) then ((idx x.1.2.1 a).bind fun y8 => (spec_l1In.f K (y8.1, 0, 7, ())).bind fun y9 => bif !y9.1.1 then (some ((false, ()), ())) else ((idx x.1.2.1 a).bind fun y10 => bif decide ((y10.2.1.size : Int) > 300) then (some ((false, ()), ())) else (rec_l1 (wr .i64 (a + 1))))) else (N_l2 0)
noncomputable def l1 (K : Nat) (x : Args ps) : A_l1 → Option Res := iterate (fun rec_l1 a => l1.step K x (l2 K x) rec_l1 a) K
noncomputable def l0.step (K : Nat) (x : Args ps) (N_l1 : A_l1 → Option Res) (rec_l0 : A_l0 → Option Res) (a : A_l0) : Option Res := bif decide (a < (List.length x.1.1 : Int)) then ((idx x.1.1 a).bind fun y1 => bif y1.1 != a then (some ((false, ()), ())) else ((idx x.1.1 a).bind fun y2 => (spec_l51Gate.f K (a, ())).bind fun y3 => bif y2.2.2.2.1 != y3.1.1 then (some ((false, ()), ())) else ((idx x.1.1 a).bind fun y4 => (spec_NodeOk.f K (y4, ())).bind fun y5 => bif !y5.1.1 then (some ((false, ()), ())) else ((idx x.1.2.2.1 a).bind fun y6 => (spec_l1In.f K (y6, 0, 2, ())).bind fun y7 => bif !y7.1.1 then (some ((false, ()), ())) else (rec_l0 (wr .i64 (a + 1))))))) else (N_l1 0)
noncomputable def l0 (K : Nat) (x : Args ps) : A_l0 → Option Res := iterate (fun rec_l0 a => l0.step K x (l1 K x) rec_l0 a) K
noncomputable def pre (K : Nat) (N_l0 : A_l0 → Option Res) (x : Args ps) : Option Res := bif (List.length x.1.1 : Int) != 8 then (some ((false, ()), ())) else (bif (List.length x.1.2.2.1 : Int) != (List.length x.1.1 : Int) then (some ((false, ()), ())) else (bif decide ((List.length x.1.2.1 : Int) > 60) then (some ((false, ()), ())) else (N_l0 0)))
noncomputable def f (K : Nat) (x : Args ps) : Option Res := pre K (l0 K x) x
noncomputable def c (K : Nat) : Ctr := ⟨32, ps, rs, true, f K⟩
noncomputable def G (K : Nat) : List Ctr := [spec_NodeOk.c K, spec_l51Gate.c K, spec_l1In.c K, spec_FactOk.c K, spec_l51Less.c K]
noncomputable def live_l2 : List (Nat × List Coe) := [(1, [.keep]), (5, [.keep]), (100001, [.ro true 44 t48, .ro true 129 t57, .ro true 3 (.int .i64), .ro true 132 t2])]
noncomputable def live_l1 : List (Nat × List Coe) := [(1, [.keep]), (4, [.keep]), (100001, [.ro true 44 t48, .ro true 129 t57, .ro true 3 (.int .i64), .ro true 132 t2])]
noncomputable def live_l0 : List (Nat × List Coe) := [(1, [.keep]), (3, [.keep]), (100001, [.ro true 44 t48, .ro true 129 t57, .ro true 3 (.int .i64), .ro true 132 t2])]
noncomputable def L : List (Nat × List (Nat × List Coe)) := [(15, live_l2), (10, live_l1), (5, live_l0)]
noncomputable def body : Code := bodyOf Tryz.f32
noncomputable abbrev ev (K : Nat) : Code → St → (Ex → St → Option Res) → Option Res := evK (G K) T L K
noncomputable abbrev fin : Ex → St → Option Res := finK T ps rs true Tryz.f32.results.toList
noncomputable def S_l0 (x : Args ps) (a : A_l0) : St := mkSt [(1, ⟨0, .one, [.bp 100001 0]⟩), (3, ⟨0, .one, [.int .i64 a]⟩), (100001, ⟨0, .agg, [.ro true 44 t48 x.1.1, .ro true 129 t57 x.1.2.1, .ro true 3 (.int .i64) x.1.2.2.1, .ro true 132 t2 x.1.2.2.2]⟩)]
noncomputable def S_l1 (x : Args ps) (a : A_l1) : St := mkSt [(1, ⟨0, .one, [.bp 100001 0]⟩), (4, ⟨0, .one, [.int .i64 a]⟩), (100001, ⟨0, .agg, [.ro true 44 t48 x.1.1, .ro true 129 t57 x.1.2.1, .ro true 3 (.int .i64) x.1.2.2.1, .ro true 132 t2 x.1.2.2.2]⟩)]
noncomputable def S_l2 (x : Args ps) (a : A_l2) : St := mkSt [(1, ⟨0, .one, [.bp 100001 0]⟩), (5, ⟨0, .one, [.int .i64 a]⟩), (100001, ⟨0, .agg, [.ro true 44 t48 x.1.1, .ro true 129 t57 x.1.2.1, .ro true 3 (.int .i64) x.1.2.2.1, .ro true 132 t2 x.1.2.2.2]⟩)]
noncomputable def k_l0 (K : Nat) (x : Args ps) : Ex → St → Option Res := kAt (ev K) body [1, 1, 0, 1, 0] fin
noncomputable def N_l0 (K : Nat) (x : Args ps) : A_l0 → Option Res := fun a => evLoop live_l0 (ev K (sub body [1, 1, 0, 1, 0, 0])) K (S_l0 x a) (k_l0 K x)
noncomputable def k_l1 (K : Nat) (x : Args ps) : Ex → St → Option Res := kAt (ev K) body [1, 1, 1, 0, 1, 0] fin
noncomputable def N_l1 (K : Nat) (x : Args ps) : A_l1 → Option Res := fun a => evLoop live_l1 (ev K (sub body [1, 1, 1, 0, 1, 0, 0])) K (S_l1 x a) (k_l1 K x)
noncomputable def k_l2 (K : Nat) (x : Args ps) : Ex → St → Option Res := kAt (ev K) body [1, 1, 1, 1, 0, 1, 0] fin
noncomputable def N_l2 (K : Nat) (x : Args ps) : A_l2 → Option Res := fun a => evLoop live_l2 (ev K (sub body [1, 1, 1, 1, 0, 1, 0, 0])) K (S_l2 x a) (k_l2 K x)
theorem h_l2 (K : Nat) (x : Args ps) (r_l2 : St → Option Res) (a : A_l2) : ev K (sub body [1, 1, 1, 1, 0, 1, 0, 0]) (S_l2 x a) (kLoop live_l2 r_l2 (k_l2 K x)) = l2.step K x (fun a => r_l2 (S_l2 x a)) a := by kernel_rfl
theorem ok_l2 (K : Nat) (x : Args ps) : N_l2 K x = l2 K x := funext fun a => evLoop_iter live_l2 (ev K (sub body [1, 1, 1, 1, 0, 1, 0, 0])) (k_l2 K x) (S_l2 x) (fun rec a => l2.step K x rec a) (fun r_l2 a => (h_l2 K x r_l2 a)) K a
theorem h_l1 (K : Nat) (x : Args ps) (r_l1 : St → Option Res) (a : A_l1) : ev K (sub body [1, 1, 1, 0, 1, 0, 0]) (S_l1 x a) (kLoop live_l1 r_l1 (k_l1 K x)) = l1.step K x (N_l2 K x) (fun a => r_l1 (S_l1 x a)) a := by kernel_rfl
theorem ok_l1 (K : Nat) (x : Args ps) : N_l1 K x = l1 K x := funext fun a => evLoop_iter live_l1 (ev K (sub body [1, 1, 1, 0, 1, 0, 0])) (k_l1 K x) (S_l1 x) (fun rec a => l1.step K x (l2 K x) rec a) (fun r_l1 a => (h_l1 K x r_l1 a).trans (by rw [ok_l2 K x])) K a
theorem h_l0 (K : Nat) (x : Args ps) (r_l0 : St → Option Res) (a : A_l0) : ev K (sub body [1, 1, 0, 1, 0, 0]) (S_l0 x a) (kLoop live_l0 r_l0 (k_l0 K x)) = l0.step K x (N_l1 K x) (fun a => r_l0 (S_l0 x a)) a := by kernel_rfl
theorem ok_l0 (K : Nat) (x : Args ps) : N_l0 K x = l0 K x := funext fun a => evLoop_iter live_l0 (ev K (sub body [1, 1, 0, 1, 0, 0])) (k_l0 K x) (S_l0 x) (fun rec a => l0.step K x (l1 K x) rec a) (fun r_l0 a => (h_l0 K x r_l0 a).trans (by rw [ok_l1 K x])) K a
theorem eqn (K : Nat) (x : Args ps) : evF (G K) T L K Tryz.f32 ps rs true x = f K x := (show evF (G K) T L K Tryz.f32 ps rs true x = pre K (N_l0 K x) x by kernel_rfl).trans (by rw [ok_l0 K x]; rfl)
end spec_WorldOk
/-! ### impl.mayGate -/
namespace impl_mayGate
@[reducible] def ps : List PK := [.rd (.int .i64)]
@[reducible] def rs : List RK := [.v false .bool]
abbrev Res := Ress rs × Outs ps
noncomputable def pre (K : Nat) (x : Args ps) : Option Res := some (((Int.tmod x.1 4) != 3, ()), ())
noncomputable def f (K : Nat) (x : Args ps) : Option Res := pre K x
noncomputable def c (K : Nat) : Ctr := ⟨110, ps, rs, true, f K⟩
noncomputable def G (K : Nat) : List Ctr := []
noncomputable def L : List (Nat × List (Nat × List Coe)) := []
noncomputable def body : Code := bodyOf Tryz.f110
noncomputable abbrev ev (K : Nat) : Code → St → (Ex → St → Option Res) → Option Res := evK (G K) T L K
noncomputable abbrev fin : Ex → St → Option Res := finK T ps rs true Tryz.f110.results.toList
theorem eqn (K : Nat) (x : Args ps) : evF (G K) T L K Tryz.f110 ps rs true x = f K x := by kernel_rfl
end impl_mayGate
/-! ### impl.Flight] -/
namespace slices_IndexFunc_impl_Flight_impl_Flight
@[reducible] def ps : List PK := [.rd (.list 129 t57), .fn [t57] .bool]
@[reducible] def rs : List RK := [.v false (.int .i64)]
abbrev Res := Ress rs × Outs ps
abbrev A_l0 := Int
noncomputable def l0.step (K : Nat) (x : Args ps) (rec_l0 : A_l0 → Option Res) (a : A_l0) : Option Res := bif decide (a < (List.length x.1 : Int)) then ((idx x.1 a).bind fun y1 => (x.2.1 (y1, ())).bind fun y2 => bif y2 then (some ((a, ()), ())) else (rec_l0 (wr .i64 (a + 1)))) else (some (((-1), ()), ()))
noncomputable def l0 (K : Nat) (x : Args ps) : A_l0 → Option Res := iterate (fun rec_l0 a => l0.step K x rec_l0 a) K
noncomputable def pre (K : Nat) (N_l0 : A_l0 → Option Res) (x : Args ps) : Option Res := N_l0 0
noncomputable def f (K : Nat) (x : Args ps) : Option Res := pre K (l0 K x) x
noncomputable def c (K : Nat) : Ctr := ⟨190, ps, rs, true, f K⟩
noncomputable def G (K : Nat) : List Ctr := []
noncomputable def live_l0 : List (Nat × List Coe) := [(0, [.ro true 129 t57]), (1, [.keep]), (7, [.keep]), (8, [.keep])]
noncomputable def L : List (Nat × List (Nat × List Coe)) := [(3, live_l0)]
noncomputable def body : Code := bodyOf Tryz.f190
noncomputable abbrev ev (K : Nat) : Code → St → (Ex → St → Option Res) → Option Res := evK (G K) T L K
noncomputable abbrev fin : Ex → St → Option Res := finK T ps rs true Tryz.f190.results.toList
noncomputable def S_l0 (x : Args ps) (a : A_l0) : St := mkSt [(0, ⟨0, .one, [.ro true 129 t57 x.1]⟩), (1, ⟨0, .one, [.fn [t57] .bool x.2.1]⟩), (7, ⟨0, .one, [.int .i64 (List.length x.1 : Int)]⟩), (8, ⟨0, .one, [.int .i64 a]⟩)]
noncomputable def k_l0 (K : Nat) (x : Args ps) : Ex → St → Option Res := kAt (ev K) body [1, 0, 1, 0] fin
noncomputable def N_l0 (K : Nat) (x : Args ps) : A_l0 → Option Res := fun a => evLoop live_l0 (ev K (sub body [1, 0, 1, 0, 0])) K (S_l0 x a) (k_l0 K x)
theorem h_l0 (K : Nat) (x : Args ps) (r_l0 : St → Option Res) (a : A_l0) : ev K (sub body [1, 0, 1, 0, 0]) (S_l0 x a) (kLoop live_l0 r_l0 (k_l0 K x)) = l0.step K x (fun a => r_l0 (S_l0 x a)) a := by kernel_rfl
theorem ok_l0 (K : Nat) (x : Args ps) : N_l0 K x = l0 K x := funext fun a => evLoop_iter live_l0 (ev K (sub body [1, 0, 1, 0, 0])) (k_l0 K x) (S_l0 x) (fun rec a => l0.step K x rec a) (fun r_l0 a => (h_l0 K x r_l0 a)) K a
theorem eqn (K : Nat) (x : Args ps) : evF (G K) T L K Tryz.f190 ps rs true x = f K x := (show evF (G K) T L K Tryz.f190 ps rs true x = pre K (N_l0 K x) x by kernel_rfl).trans (by rw [ok_l0 K x]; rfl)
end slices_IndexFunc_impl_Flight_impl_Flight
/-! ### impl.Flight] -/
namespace slices_ContainsFunc_impl_Flight_impl_Flight
@[reducible] def ps : List PK := [.rd (.list 129 t57), .fn [t57] .bool]
@[reducible] def rs : List RK := [.v false .bool]
abbrev Res := Ress rs × Outs ps
noncomputable def pre (K : Nat) (x : Args ps) : Option Res := (slices_IndexFunc_impl_Flight_impl_Flight.f K (x.1, x.2.1, ())).bind fun y1 => some ((decide (y1.1.1 ≥ 0), ()), ())
noncomputable def f (K : Nat) (x : Args ps) : Option Res := pre K x
noncomputable def c (K : Nat) : Ctr := ⟨114, ps, rs, true, f K⟩
noncomputable def G (K : Nat) : List Ctr := [slices_IndexFunc_impl_Flight_impl_Flight.c K]
noncomputable def L : List (Nat × List (Nat × List Coe)) := []
noncomputable def body : Code := bodyOf Tryz.f114
noncomputable abbrev ev (K : Nat) : Code → St → (Ex → St → Option Res) → Option Res := evK (G K) T L K
noncomputable abbrev fin : Ex → St → Option Res := finK T ps rs true Tryz.f114.results.toList
theorem eqn (K : Nat) (x : Args ps) : evF (G K) T L K Tryz.f114 ps rs true x = f K x := by kernel_rfl
end slices_ContainsFunc_impl_Flight_impl_Flight
/-! ### impl.WorldOk$1 -/
namespace impl_WorldOk_1
@[reducible] def ps : List PK := [.rd t57]
@[reducible] def rs : List RK := [.v false .bool]
abbrev Res := Ress rs × Outs ps
noncomputable def pre (K : Nat) (x : Args ps) : Option Res := (impl_isNode.f K (x.1.1, ())).bind fun y1 => bif !y1.1.1 then (some ((true, ()), ())) else (some ((decide ((x.1.2.1.size : Int) > 300), ()), ()))
noncomputable def f (K : Nat) (x : Args ps) : Option Res := pre K x
noncomputable def c (K : Nat) : Ctr := ⟨115, ps, rs, true, f K⟩
noncomputable def G (K : Nat) : List Ctr := [impl_isNode.c K]
noncomputable def L : List (Nat × List (Nat × List Coe)) := []
noncomputable def body : Code := bodyOf Tryz.f115
noncomputable abbrev ev (K : Nat) : Code → St → (Ex → St → Option Res) → Option Res := evK (G K) T L K
noncomputable abbrev fin : Ex → St → Option Res := finK T ps rs true Tryz.f115.results.toList
theorem eqn (K : Nat) (x : Args ps) : evF (G K) T L K Tryz.f115 ps rs true x = f K x := by kernel_rfl
end impl_WorldOk_1
/-! ### impl.WorldOk -/
namespace impl_WorldOk
@[reducible] def ps : List PK := [.rd t63]
@[reducible] def rs : List RK := [.v false .bool]
abbrev Res := Ress rs × Outs ps
abbrev A_l1 := Int
abbrev A_l0 := Int
noncomputable def l1.step (K : Nat) (x : Args ps) (rec_l1 : A_l1 → Option Res) (a : A_l1) : Option Res := bif decide (a < (List.length x.1.2.2.2 : Int)) then ((idx x.1.2.2.2 a).bind fun y6 => (impl_FactOk.f K (y6, ())).bind fun y7 => bif !y7.1.1 then (some ((false, ()), ())) else (bif decide (a > 0) then ((idx x.1.2.2.2 (wr .i64 (a - 1))).bind fun y8 => (impl_Fact_compare.f K (y8, y6, ())).bind fun y9 => bif decide (y9.1.1 ≥ 0) then (some ((false, ()), ())) else (rec_l1 (wr .i64 (a + 1)))) else (rec_l1 (wr .i64 (a + 1))))) else ((slices_ContainsFunc_impl_Flight_impl_Flight.f K (x.1.2.1, fun y10 => (impl_WorldOk_1.f K (y10.1, ())).map fun y => y.1.1, ())).bind fun y11 => some ((!y11.1.1, ()), ()))
noncomputable def l1 (K : Nat) (x : Args ps) : A_l1 → Option Res := iterate (fun rec_l1 a => l1.step K x rec_l1 a) K
noncomputable def l0.step (K : Nat) (x : Args ps) (N_l1 : A_l1 → Option Res) (rec_l0 : A_l0 → Option Res) (a : A_l0) : Option Res := bif decide (a < (List.length x.1.1 : Int)) then ((idx x.1.1 a).bind fun y1 => (impl_NodeOk.f K (y1, ())).bind fun y2 => bif !y2.1.1 then (some ((false, ()), ())) else (bif y1.1 != a then (some ((false, ()), ())) else ((impl_mayGate.f K (a, ())).bind fun y3 => bif y1.2.2.2.1 != y3.1.1 then (some ((false, ()), ())) else ((idx x.1.2.2.1 a).bind fun y4 => (impl_in.f K (y4, 0, 2, ())).bind fun y5 => bif !y5.1.1 then (some ((false, ()), ())) else (rec_l0 (wr .i64 (a + 1))))))) else (N_l1 0)
noncomputable def l0 (K : Nat) (x : Args ps) : A_l0 → Option Res := iterate (fun rec_l0 a => l0.step K x (l1 K x) rec_l0 a) K
noncomputable def pre (K : Nat) (N_l0 : A_l0 → Option Res) (x : Args ps) : Option Res := bif (List.length x.1.1 : Int) != 8 then (some ((false, ()), ())) else (bif (List.length x.1.2.2.1 : Int) != 8 then (some ((false, ()), ())) else (bif decide ((List.length x.1.2.1 : Int) > 60) then (some ((false, ()), ())) else (N_l0 0)))
noncomputable def f (K : Nat) (x : Args ps) : Option Res := pre K (l0 K x) x
noncomputable def c (K : Nat) : Ctr := ⟨34, ps, rs, true, f K⟩
noncomputable def G (K : Nat) : List Ctr := [impl_NodeOk.c K, impl_mayGate.c K, impl_in.c K, impl_FactOk.c K, impl_Fact_compare.c K, slices_ContainsFunc_impl_Flight_impl_Flight.c K, impl_WorldOk_1.c K]
noncomputable def live_l1 : List (Nat × List Coe) := [(1, [.keep]), (58, [.ro true 132 t2]), (59, [.keep]), (60, [.keep]), (100001, [.ro true 44 t48, .ro true 129 t57, .ro true 3 (.int .i64), .ro true 132 t2])]
noncomputable def live_l0 : List (Nat × List Coe) := [(1, [.keep]), (24, [.ro true 44 t48]), (25, [.keep]), (26, [.keep]), (100001, [.ro true 44 t48, .ro true 129 t57, .ro true 3 (.int .i64), .ro true 132 t2])]
noncomputable def L : List (Nat × List (Nat × List Coe)) := [(11, live_l1), (5, live_l0)]
noncomputable def body : Code := bodyOf Tryz.f34
noncomputable abbrev ev (K : Nat) : Code → St → (Ex → St → Option Res) → Option Res := evK (G K) T L K
noncomputable abbrev fin : Ex → St → Option Res := finK T ps rs true Tryz.f34.results.toList
noncomputable def S_l0 (x : Args ps) (a : A_l0) : St := mkSt [(1, ⟨0, .one, [.bp 100001 0]⟩), (24, ⟨0, .one, [.ro true 44 t48 x.1.1]⟩), (25, ⟨0, .one, [.int .i64 (List.length x.1.1 : Int)]⟩), (26, ⟨0, .one, [.int .i64 a]⟩), (100001, ⟨0, .agg, [.ro true 44 t48 x.1.1, .ro true 129 t57 x.1.2.1, .ro true 3 (.int .i64) x.1.2.2.1, .ro true 132 t2 x.1.2.2.2]⟩)]
noncomputable def S_l1 (x : Args ps) (a : A_l1) : St := mkSt [(1, ⟨0, .one, [.bp 100001 0]⟩), (58, ⟨0, .one, [.ro true 132 t2 x.1.2.2.2]⟩), (59, ⟨0, .one, [.int .i64 (List.length x.1.2.2.2 : Int)]⟩), (60, ⟨0, .one, [.int .i64 a]⟩), (100001, ⟨0, .agg, [.ro true 44 t48 x.1.1, .ro true 129 t57 x.1.2.1, .ro true 3 (.int .i64) x.1.2.2.1, .ro true 132 t2 x.1.2.2.2]⟩)]
noncomputable def k_l0 (K : Nat) (x : Args ps) : Ex → St → Option Res := kAt (ev K) body [1, 1, 0, 1, 0] fin
noncomputable def N_l0 (K : Nat) (x : Args ps) : A_l0 → Option Res := fun a => evLoop live_l0 (ev K (sub body [1, 1, 0, 1, 0, 0])) K (S_l0 x a) (k_l0 K x)
noncomputable def k_l1 (K : Nat) (x : Args ps) : Ex → St → Option Res := kAt (ev K) body [1, 1, 1, 0, 1, 0] fin
noncomputable def N_l1 (K : Nat) (x : Args ps) : A_l1 → Option Res := fun a => evLoop live_l1 (ev K (sub body [1, 1, 1, 0, 1, 0, 0])) K (S_l1 x a) (k_l1 K x)
theorem h_l1 (K : Nat) (x : Args ps) (r_l1 : St → Option Res) (a : A_l1) : ev K (sub body [1, 1, 1, 0, 1, 0, 0]) (S_l1 x a) (kLoop live_l1 r_l1 (k_l1 K x)) = l1.step K x (fun a => r_l1 (S_l1 x a)) a := by kernel_rfl
theorem ok_l1 (K : Nat) (x : Args ps) : N_l1 K x = l1 K x := funext fun a => evLoop_iter live_l1 (ev K (sub body [1, 1, 1, 0, 1, 0, 0])) (k_l1 K x) (S_l1 x) (fun rec a => l1.step K x rec a) (fun r_l1 a => (h_l1 K x r_l1 a)) K a
theorem h_l0 (K : Nat) (x : Args ps) (r_l0 : St → Option Res) (a : A_l0) : ev K (sub body [1, 1, 0, 1, 0, 0]) (S_l0 x a) (kLoop live_l0 r_l0 (k_l0 K x)) = l0.step K x (N_l1 K x) (fun a => r_l0 (S_l0 x a)) a := by kernel_rfl
theorem ok_l0 (K : Nat) (x : Args ps) : N_l0 K x = l0 K x := funext fun a => evLoop_iter live_l0 (ev K (sub body [1, 1, 0, 1, 0, 0])) (k_l0 K x) (S_l0 x) (fun rec a => l0.step K x (l1 K x) rec a) (fun r_l0 a => (h_l0 K x r_l0 a).trans (by rw [ok_l1 K x])) K a
theorem eqn (K : Nat) (x : Args ps) : evF (G K) T L K Tryz.f34 ps rs true x = f K x := (show evF (G K) T L K Tryz.f34 ps rs true x = pre K (N_l0 K x) x by kernel_rfl).trans (by rw [ok_l0 K x]; rfl)
end impl_WorldOk
/-! ### laws.eqNodeS -/
namespace laws_eqNodeS
@[reducible] def ps : List PK := [.rd (.list 44 t48), .rd (.list 44 t48)]
@[reducible] def rs : List RK := [.v false .bool]
abbrev Res := Ress rs × Outs ps
abbrev A_l0 := Int
noncomputable def l0.step (K : Nat) (x : Args ps) (rec_l0 : A_l0 → Option Res) (a : A_l0) : Option Res := bif decide (a < (List.length x.1 : Int)) then ((idx x.1 a).bind fun y1 => (idx x.2.1 a).bind fun y2 => (laws_eqNode.f K (y1, y2, ())).bind fun y3 => bif !y3.1.1 then (some ((false, ()), ())) else (rec_l0 (wr .i64 (a + 1)))) else (some ((true, ()), ()))
noncomputable def l0 (K : Nat) (x : Args ps) : A_l0 → Option Res := iterate (fun rec_l0 a => l0.step K x rec_l0 a) K
noncomputable def pre (K : Nat) (N_l0 : A_l0 → Option Res) (x : Args ps) : Option Res := bif (List.length x.1 : Int) != (List.length x.2.1 : Int) then (some ((false, ()), ())) else (N_l0 0)
noncomputable def f (K : Nat) (x : Args ps) : Option Res := pre K (l0 K x) x
noncomputable def c (K : Nat) : Ctr := ⟨117, ps, rs, true, f K⟩
noncomputable def G (K : Nat) : List Ctr := [laws_eqNode.c K]
noncomputable def live_l0 : List (Nat × List Coe) := [(0, [.ro true 44 t48]), (1, [.ro true 44 t48]), (5, [.keep])]
noncomputable def L : List (Nat × List (Nat × List Coe)) := [(5, live_l0)]
noncomputable def body : Code := bodyOf Tryz.f117
noncomputable abbrev ev (K : Nat) : Code → St → (Ex → St → Option Res) → Option Res := evK (G K) T L K
noncomputable abbrev fin : Ex → St → Option Res := finK T ps rs true Tryz.f117.results.toList
noncomputable def S_l0 (x : Args ps) (a : A_l0) : St := mkSt [(0, ⟨0, .one, [.ro true 44 t48 x.1]⟩), (1, ⟨0, .one, [.ro true 44 t48 x.2.1]⟩), (5, ⟨0, .one, [.int .i64 a]⟩)]
noncomputable def k_l0 (K : Nat) (x : Args ps) : Ex → St → Option Res := kAt (ev K) body [1, 1, 0, 1, 0] fin
noncomputable def N_l0 (K : Nat) (x : Args ps) : A_l0 → Option Res := fun a => evLoop live_l0 (ev K (sub body [1, 1, 0, 1, 0, 0])) K (S_l0 x a) (k_l0 K x)
theorem h_l0 (K : Nat) (x : Args ps) (r_l0 : St → Option Res) (a : A_l0) : ev K (sub body [1, 1, 0, 1, 0, 0]) (S_l0 x a) (kLoop live_l0 r_l0 (k_l0 K x)) = l0.step K x (fun a => r_l0 (S_l0 x a)) a := by kernel_rfl
theorem ok_l0 (K : Nat) (x : Args ps) : N_l0 K x = l0 K x := funext fun a => evLoop_iter live_l0 (ev K (sub body [1, 1, 0, 1, 0, 0])) (k_l0 K x) (S_l0 x) (fun rec a => l0.step K x rec a) (fun r_l0 a => (h_l0 K x r_l0 a)) K a
theorem eqn (K : Nat) (x : Args ps) : evF (G K) T L K Tryz.f117 ps rs true x = f K x := (show evF (G K) T L K Tryz.f117 ps rs true x = pre K (N_l0 K x) x by kernel_rfl).trans (by rw [ok_l0 K x]; rfl)
end laws_eqNodeS
/-! ### laws.eqFlight -/
namespace laws_eqFlight
@[reducible] def ps : List PK := [.rd t57, .rd t57]
@[reducible] def rs : List RK := [.v false .bool]
abbrev Res := Ress rs × Outs ps
noncomputable def pre (K : Nat) (x : Args ps) : Option Res := bif x.1.1 != x.2.1.1 then (some ((false, ()), ())) else (bif x.1.2.1.toList != x.2.1.2.1.toList then (some ((false, ()), ())) else (bif x.1.2.2 != x.2.1.2.2 then (some ((false, ()), ())) else (some ((true, ()), ()))))
noncomputable def f (K : Nat) (x : Args ps) : Option Res := pre K x
noncomputable def c (K : Nat) : Ctr := ⟨191, ps, rs, true, f K⟩
noncomputable def G (K : Nat) : List Ctr := []
noncomputable def L : List (Nat × List (Nat × List Coe)) := []
noncomputable def body : Code := bodyOf Tryz.f191
noncomputable abbrev ev (K : Nat) : Code → St → (Ex → St → Option Res) → Option Res := evK (G K) T L K
noncomputable abbrev fin : Ex → St → Option Res := finK T ps rs true Tryz.f191.results.toList
theorem eqn (K : Nat) (x : Args ps) : evF (G K) T L K Tryz.f191 ps rs true x = f K x := by kernel_rfl
end laws_eqFlight
/-! ### laws.eqFlightS -/
namespace laws_eqFlightS
@[reducible] def ps : List PK := [.rd (.list 129 t57), .rd (.list 129 t57)]
@[reducible] def rs : List RK := [.v false .bool]
abbrev Res := Ress rs × Outs ps
abbrev A_l0 := Int
noncomputable def l0.step (K : Nat) (x : Args ps) (rec_l0 : A_l0 → Option Res) (a : A_l0) : Option Res := bif decide (a < (List.length x.1 : Int)) then ((idx x.1 a).bind fun y1 => (idx x.2.1 a).bind fun y2 => (laws_eqFlight.f K (y1, y2, ())).bind fun y3 => bif !y3.1.1 then (some ((false, ()), ())) else (rec_l0 (wr .i64 (a + 1)))) else (some ((true, ()), ()))
noncomputable def l0 (K : Nat) (x : Args ps) : A_l0 → Option Res := iterate (fun rec_l0 a => l0.step K x rec_l0 a) K
noncomputable def pre (K : Nat) (N_l0 : A_l0 → Option Res) (x : Args ps) : Option Res := bif (List.length x.1 : Int) != (List.length x.2.1 : Int) then (some ((false, ()), ())) else (N_l0 0)
noncomputable def f (K : Nat) (x : Args ps) : Option Res := pre K (l0 K x) x
noncomputable def c (K : Nat) : Ctr := ⟨118, ps, rs, true, f K⟩
noncomputable def G (K : Nat) : List Ctr := [laws_eqFlight.c K]
noncomputable def live_l0 : List (Nat × List Coe) := [(0, [.ro true 129 t57]), (1, [.ro true 129 t57]), (5, [.keep])]
noncomputable def L : List (Nat × List (Nat × List Coe)) := [(5, live_l0)]
noncomputable def body : Code := bodyOf Tryz.f118
noncomputable abbrev ev (K : Nat) : Code → St → (Ex → St → Option Res) → Option Res := evK (G K) T L K
noncomputable abbrev fin : Ex → St → Option Res := finK T ps rs true Tryz.f118.results.toList
noncomputable def S_l0 (x : Args ps) (a : A_l0) : St := mkSt [(0, ⟨0, .one, [.ro true 129 t57 x.1]⟩), (1, ⟨0, .one, [.ro true 129 t57 x.2.1]⟩), (5, ⟨0, .one, [.int .i64 a]⟩)]
noncomputable def k_l0 (K : Nat) (x : Args ps) : Ex → St → Option Res := kAt (ev K) body [1, 1, 0, 1, 0] fin
noncomputable def N_l0 (K : Nat) (x : Args ps) : A_l0 → Option Res := fun a => evLoop live_l0 (ev K (sub body [1, 1, 0, 1, 0, 0])) K (S_l0 x a) (k_l0 K x)
theorem h_l0 (K : Nat) (x : Args ps) (r_l0 : St → Option Res) (a : A_l0) : ev K (sub body [1, 1, 0, 1, 0, 0]) (S_l0 x a) (kLoop live_l0 r_l0 (k_l0 K x)) = l0.step K x (fun a => r_l0 (S_l0 x a)) a := by kernel_rfl
theorem ok_l0 (K : Nat) (x : Args ps) : N_l0 K x = l0 K x := funext fun a => evLoop_iter live_l0 (ev K (sub body [1, 1, 0, 1, 0, 0])) (k_l0 K x) (S_l0 x) (fun rec a => l0.step K x rec a) (fun r_l0 a => (h_l0 K x r_l0 a)) K a
theorem eqn (K : Nat) (x : Args ps) : evF (G K) T L K Tryz.f118 ps rs true x = f K x := (show evF (G K) T L K Tryz.f118 ps rs true x = pre K (N_l0 K x) x by kernel_rfl).trans (by rw [ok_l0 K x]; rfl)
end laws_eqFlightS
/-! ### laws.eqWorld -/
namespace laws_eqWorld
@[reducible] def ps : List PK := [.rd t63, .rd t63]
@[reducible] def rs : List RK := [.v false .bool]
abbrev Res := Ress rs × Outs ps
noncomputable def pre (K : Nat) (x : Args ps) : Option Res := (laws_eqNodeS.f K (x.1.1, x.2.1.1, ())).bind fun y1 => bif !y1.1.1 then (some ((false, ()), ())) else ((laws_eqFlightS.f K (x.1.2.1, x.2.1.2.1, ())).bind fun y2 => bif !y2.1.1 then (some ((false, ()), ())) else ((laws_eqIntS.f K (x.1.2.2.1, x.2.1.2.2.1, ())).bind fun y3 => bif !y3.1.1 then (some ((false, ()), ())) else ((laws_eqFactS.f K (x.1.2.2.2, x.2.1.2.2.2, ())).bind fun y4 => bif !y4.1.1 then (some ((false, ()), ())) else (some ((true, ()), ())))))
noncomputable def f (K : Nat) (x : Args ps) : Option Res := pre K x
noncomputable def c (K : Nat) : Ctr := ⟨35, ps, rs, true, f K⟩
noncomputable def G (K : Nat) : List Ctr := [laws_eqIntS.c K, laws_eqFactS.c K, laws_eqNodeS.c K, laws_eqFlightS.c K]
noncomputable def L : List (Nat × List (Nat × List Coe)) := []
noncomputable def body : Code := bodyOf Tryz.f35
noncomputable abbrev ev (K : Nat) : Code → St → (Ex → St → Option Res) → Option Res := evK (G K) T L K
noncomputable abbrev fin : Ex → St → Option Res := finK T ps rs true Tryz.f35.results.toList
theorem eqn (K : Nat) (x : Args ps) : evF (G K) T L K Tryz.f35 ps rs true x = f K x := by kernel_rfl
end laws_eqWorld
/-! ### laws.FnExactWorldOk -/
namespace laws_FnExactWorldOk
@[reducible] def ps : List PK := [.rd t60]
@[reducible] def rs : List RK := [.v false .bool]
abbrev Res := Ress rs × Outs ps
noncomputable def pre (K : Nat) (x : Args ps) : Option Res := (laws_szWorld.f K (x.1, 1048576, ())).bind fun y1 => bif decide (y1.1.1 < 0) then (some ((true, ()), ())) else ((laws_toWorld.f K (x.1, ())).bind fun y2 => (spec_WorldOk.f K (y2.1.1, ())).bind fun y3 => (laws_toWorld.f K (x.1, ())).bind fun y4 => (impl_WorldOk.f K (y4.1.1, ())).bind fun y5 => bif y5.1.1 != y3.1.1 then (some ((false, ()), ())) else ((laws_toWorld.f K (x.1, ())).bind fun y6 => (laws_eqWorld.f K (y4.1.1, y6.1.1, ())).bind fun y7 => bif !y7.1.1 then (some ((false, ()), ())) else (some ((true, ()), ()))))
noncomputable def f (K : Nat) (x : Args ps) : Option Res := pre K x
noncomputable def c (K : Nat) : Ctr := ⟨6, ps, rs, true, f K⟩
noncomputable def G (K : Nat) : List Ctr := [laws_szWorld.c K, spec_WorldOk.c K, laws_toWorld.c K, impl_WorldOk.c K, laws_eqWorld.c K]
noncomputable def L : List (Nat × List (Nat × List Coe)) := []
noncomputable def body : Code := bodyOf Tryz.f6
noncomputable abbrev ev (K : Nat) : Code → St → (Ex → St → Option Res) → Option Res := evK (G K) T L K
noncomputable abbrev fin : Ex → St → Option Res := finK T ps rs true Tryz.f6.results.toList
theorem eqn (K : Nat) (x : Args ps) : evF (G K) T L K Tryz.f6 ps rs true x = f K x := by kernel_rfl
end laws_FnExactWorldOk
end
end Go.Proofs.YthgnfidnmnkeaaaGreatEv
