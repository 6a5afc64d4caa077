/- The functions, on plain values. Printed by run3.py. -/
import Derived.Test.YthgnfidnmnkeaaaGreatProg
import Derived.Test.YthgnfidnmnkeaaaGreatE0
set_option linter.unusedVariables false
set_option maxRecDepth 100000
namespace Go.Proofs.YthgnfidnmnkeaaaGreatEv
open Go Go.Proofs
noncomputable section
@[reducible] def t0 : Ty := .pair (.int .i64) .bool
@[reducible] def t1 : Ty := .pair (.int .i64) t0
@[reducible] def t2 : Ty := .pair (.int .i64) t1
@[reducible] def t3 : Ty := .pair t2 (.int .i64)
@[reducible] def t4 : Ty := .pair (.int .i64) (.list true 3 (.int .i64))
@[reducible] def t5 : Ty := .pair (.int .i64) t4
@[reducible] def t6 : Ty := .pair (.int .i64) t5
@[reducible] def t7 : Ty := .pair (.int .i64) (.int .i64)
@[reducible] def t8 : Ty := .pair (.int .i64) t7
@[reducible] def t9 : Ty := .pair (.int .i64) t8
@[reducible] def t10 : Ty := .pair t9 (.list true 3 (.int .i64))
@[reducible] def t11 : Ty := .pair (.int .i64) t10
@[reducible] def t12 : Ty := .pair (.int .i64) (.list true 132 t2)
@[reducible] def t13 : Ty := .pair (.list true 94 t11) (.list true 119 t12)
@[reducible] def t14 : Ty := .pair t9 t13
@[reducible] def t15 : Ty := .pair (.list true 177 t6) t14
@[reducible] def t16 : Ty := .pair t2 t15
@[reducible] def t17 : Ty := .pair (.list true 173 t3) t16
@[reducible] def t18 : Ty := .pair (.list true 132 t2) t17
@[reducible] def t19 : Ty := .pair (.int .i64) t18
@[reducible] def t20 : Ty := .pair (.int .i64) t19
@[reducible] def t21 : Ty := .pair (.int .i64) t20
@[reducible] def t22 : Ty := .pair (.int .i64) t21
@[reducible] def t23 : Ty := .pair .bool t22
@[reducible] def t24 : Ty := .pair .bool t23
@[reducible] def t25 : Ty := .pair .bool t24
@[reducible] def t26 : Ty := .pair (.int .i64) t25
@[reducible] def t27 : Ty := .pair .str .bool
@[reducible] def t28 : Ty := .pair (.int .i64) t27
@[reducible] def t29 : Ty := .pair (.int .i64) (.list false 3 (.int .i64))
@[reducible] def t30 : Ty := .pair (.int .i64) t29
@[reducible] def t31 : Ty := .pair (.int .i64) t30
@[reducible] def t32 : Ty := .pair t9 (.list false 3 (.int .i64))
@[reducible] def t33 : Ty := .pair (.int .i64) t32
@[reducible] def t34 : Ty := .pair (.int .i64) (.list false 171 t2)
@[reducible] def t35 : Ty := .pair (.list false 165 t33) (.list false 168 t34)
@[reducible] def t36 : Ty := .pair t9 t35
@[reducible] def t37 : Ty := .pair (.list false 162 t31) t36
@[reducible] def t38 : Ty := .pair t2 t37
@[reducible] def t39 : Ty := .pair (.list false 176 t3) t38
@[reducible] def t40 : Ty := .pair (.list false 171 t2) t39
@[reducible] def t41 : Ty := .pair (.int .i64) t40
@[reducible] def t42 : Ty := .pair (.int .i64) t41
@[reducible] def t43 : Ty := .pair (.int .i64) t42
@[reducible] def t44 : Ty := .pair (.int .i64) t43
@[reducible] def t45 : Ty := .pair .bool t44
@[reducible] def t46 : Ty := .pair .bool t45
@[reducible] def t47 : Ty := .pair .bool t46
@[reducible] def t48 : Ty := .pair (.int .i64) t47
@[reducible] def t49 : Ty := .pair (.list false 3 (.int .i64)) (.list false 171 t2)
@[reducible] def t50 : Ty := .pair (.list false 187 t28) t49
@[reducible] def t51 : Ty := .pair (.list false 32 t48) t50
@[reducible] def t52 : Ty := .pair (.list true 3 (.int .i64)) (.list true 132 t2)
@[reducible] def t53 : Ty := .pair (.list true 129 t28) t52
@[reducible] def t54 : Ty := .pair (.list true 44 t26) t53
@[reducible] def t55 : Ty := .pair (.int .i64) (.list false 132 t2)
@[reducible] def t56 : Ty := .pair (.list false 94 t33) (.list false 119 t55)
@[reducible] def t57 : Ty := .pair t9 t56
@[reducible] def t58 : Ty := .pair (.list false 177 t31) t57
@[reducible] def t59 : Ty := .pair t2 t58
@[reducible] def t60 : Ty := .pair (.list false 173 t3) t59
@[reducible] def t61 : Ty := .pair (.list false 132 t2) t60
@[reducible] def t62 : Ty := .pair (.int .i64) t61
@[reducible] def t63 : Ty := .pair (.int .i64) t62
@[reducible] def t64 : Ty := .pair (.int .i64) t63
@[reducible] def t65 : Ty := .pair (.int .i64) t64
@[reducible] def t66 : Ty := .pair .bool t65
@[reducible] def t67 : Ty := .pair .bool t66
@[reducible] def t68 : Ty := .pair .bool t67
@[reducible] def t69 : Ty := .pair (.int .i64) t68
@[reducible] def t70 : Ty := .pair (.list false 3 (.int .i64)) (.list false 132 t2)
@[reducible] def t71 : Ty := .pair (.list false 129 t28) t70
@[reducible] def t72 : Ty := .pair (.list false 44 t69) t71
@[reducible] def t73 : Ty := .pair (.int .i64) (.list true 171 t2)
@[reducible] def t74 : Ty := .pair (.list true 165 t11) (.list true 168 t73)
@[reducible] def t75 : Ty := .pair t9 t74
@[reducible] def t76 : Ty := .pair (.list true 162 t6) t75
@[reducible] def t77 : Ty := .pair t2 t76
@[reducible] def t78 : Ty := .pair (.list true 176 t3) t77
@[reducible] def t79 : Ty := .pair (.list true 171 t2) t78
@[reducible] def t80 : Ty := .pair (.int .i64) t79
@[reducible] def t81 : Ty := .pair (.int .i64) t80
@[reducible] def t82 : Ty := .pair (.int .i64) t81
@[reducible] def t83 : Ty := .pair (.int .i64) t82
@[reducible] def t84 : Ty := .pair .bool t83
@[reducible] def t85 : Ty := .pair .bool t84
@[reducible] def t86 : Ty := .pair .bool t85
@[reducible] def t87 : Ty := .pair (.int .i64) t86
@[reducible] def t88 : Ty := .pair (.list true 3 (.int .i64)) (.list true 171 t2)
@[reducible] def t89 : Ty := .pair (.list true 187 t28) t88
@[reducible] def t90 : Ty := .pair (.list true 32 t87) t89
@[reducible] def ty_laws_Probe_D : Ty := t2
@[reducible] def ty_laws_Coord_D : Ty := t9
@[reducible] def ty_laws_Node_D : Ty := t87
@[reducible] def ty_impl_Probe_D : Ty := t2
@[reducible] def ty_impl_Coord_D : Ty := t9
@[reducible] def ty_impl_Node_D : Ty := t26
@[reducible] def ty_laws_World_D : Ty := t90
@[reducible] def ty_impl_World_D : Ty := t54
@[reducible] def ty_impl_Place_D : Ty := t11
@[reducible] def ty_impl_Foreign_D : Ty := t12
@[reducible] def ty_impl_Flight_D : Ty := t28
@[reducible] def ty_impl_Fact_D : Ty := t2
@[reducible] def ty_laws_Doubt_D : Ty := t6
@[reducible] def ty_laws_Place_D : Ty := t11
@[reducible] def ty_laws_Foreign_D : Ty := t73
@[reducible] def ty_laws_Fact_D : Ty := t2
@[reducible] def ty_impl_Item_D : Ty := t3
@[reducible] def ty_laws_Item_D : Ty := t3
@[reducible] def ty_impl_Doubt_D : Ty := t6
@[reducible] def ty_laws_Flight_D : Ty := t28
@[reducible] def ty_laws_Probe_S : Ty := t2
@[reducible] def ty_laws_Coord_S : Ty := t9
@[reducible] def ty_laws_Node_S : Ty := t48
@[reducible] def ty_impl_Probe_S : Ty := t2
@[reducible] def ty_impl_Coord_S : Ty := t9
@[reducible] def ty_impl_Node_S : Ty := t69
@[reducible] def ty_laws_World_S : Ty := t51
@[reducible] def ty_impl_World_S : Ty := t72
@[reducible] def ty_impl_Place_S : Ty := t33
@[reducible] def ty_impl_Foreign_S : Ty := t55
@[reducible] def ty_impl_Flight_S : Ty := t28
@[reducible] def ty_impl_Fact_S : Ty := t2
@[reducible] def ty_laws_Doubt_S : Ty := t31
@[reducible] def ty_laws_Place_S : Ty := t33
@[reducible] def ty_laws_Foreign_S : Ty := t34
@[reducible] def ty_laws_Fact_S : Ty := t2
@[reducible] def ty_impl_Item_S : Ty := t3
@[reducible] def ty_laws_Item_S : Ty := t3
@[reducible] def ty_impl_Doubt_S : Ty := t31
@[reducible] def ty_laws_Flight_S : Ty := t28
@[reducible] def ty_laws_Probe_NS : Ty := t2
@[reducible] def ty_laws_Coord_NS : Ty := t9
@[reducible] def ty_impl_Probe_NS : Ty := t2
@[reducible] def ty_impl_Coord_NS : Ty := t9
@[reducible] def ty_impl_Place_NS : Ty := t33
@[reducible] def ty_impl_Foreign_NS : Ty := t55
@[reducible] def ty_impl_Flight_NS : Ty := t28
@[reducible] def ty_impl_Fact_NS : Ty := t2
@[reducible] def ty_laws_Doubt_NS : Ty := t31
@[reducible] def ty_laws_Place_NS : Ty := t33
@[reducible] def ty_laws_Foreign_NS : Ty := t34
@[reducible] def ty_laws_Fact_NS : Ty := t2
@[reducible] def ty_impl_Item_NS : Ty := t3
@[reducible] def ty_laws_Item_NS : Ty := t3
@[reducible] def ty_impl_Doubt_NS : Ty := t31
@[reducible] def ty_laws_Flight_NS : Ty := t28
@[reducible] def ty_laws_Probe_ND : Ty := t2
@[reducible] def ty_laws_Coord_ND : Ty := t9
@[reducible] def ty_impl_Probe_ND : Ty := t2
@[reducible] def ty_impl_Coord_ND : Ty := t9
@[reducible] def ty_impl_Place_ND : Ty := t33
@[reducible] def ty_impl_Foreign_ND : Ty := t55
@[reducible] def ty_impl_Flight_ND : Ty := t28
@[reducible] def ty_impl_Fact_ND : Ty := t2
@[reducible] def ty_laws_Doubt_ND : Ty := t31
@[reducible] def ty_laws_Place_ND : Ty := t33
@[reducible] def ty_laws_Foreign_ND : Ty := t34
@[reducible] def ty_laws_Fact_ND : Ty := t2
@[reducible] def ty_impl_Item_ND : Ty := t3
@[reducible] def ty_laws_Item_ND : Ty := t3
@[reducible] def ty_impl_Doubt_ND : Ty := t31
@[reducible] def ty_laws_Flight_ND : Ty := t28
@[reducible] def ty_laws_Probe_WT : Ty := t2
@[reducible] def ty_laws_Coord_WT : Ty := t9
@[reducible] def ty_laws_Node_WT : Ty := t48
@[reducible] def ty_impl_Probe_WT : Ty := t2
@[reducible] def ty_impl_Coord_WT : Ty := t9
@[reducible] def ty_impl_Node_WT : Ty := t69
@[reducible] def ty_impl_Place_WT : Ty := t33
@[reducible] def ty_impl_Foreign_WT : Ty := t55
@[reducible] def ty_impl_Flight_WT : Ty := t28
@[reducible] def ty_impl_Fact_WT : Ty := t2
@[reducible] def ty_laws_Doubt_WT : Ty := t31
@[reducible] def ty_laws_Place_WT : Ty := t33
@[reducible] def ty_laws_Foreign_WT : Ty := t34
@[reducible] def ty_laws_Fact_WT : Ty := t2
@[reducible] def ty_impl_Item_WT : Ty := t3
@[reducible] def ty_laws_Item_WT : Ty := t3
@[reducible] def ty_impl_Doubt_WT : Ty := t31
@[reducible] def ty_laws_Flight_WT : Ty := t28
@[reducible] def ty_laws_Probe_WF : Ty := t2
@[reducible] def ty_laws_Coord_WF : Ty := t9
@[reducible] def ty_laws_Node_WF : Ty := t48
@[reducible] def ty_impl_Probe_WF : Ty := t2
@[reducible] def ty_impl_Coord_WF : Ty := t9
@[reducible] def ty_impl_Node_WF : Ty := t69
@[reducible] def ty_laws_World_WF : Ty := t51
@[reducible] def ty_impl_World_WF : Ty := t72
@[reducible] def ty_impl_Place_WF : Ty := t33
@[reducible] def ty_impl_Foreign_WF : Ty := t55
@[reducible] def ty_impl_Flight_WF : Ty := t28
@[reducible] def ty_impl_Fact_WF : Ty := t2
@[reducible] def ty_laws_Doubt_WF : Ty := t31
@[reducible] def ty_laws_Place_WF : Ty := t33
@[reducible] def ty_laws_Foreign_WF : Ty := t34
@[reducible] def ty_laws_Fact_WF : Ty := t2
@[reducible] def ty_impl_Item_WF : Ty := t3
@[reducible] def ty_laws_Item_WF : Ty := t3
@[reducible] def ty_impl_Doubt_WF : Ty := t31
@[reducible] def ty_laws_Flight_WF : Ty := t28
@[reducible] def ty_laws_Probe_NT : Ty := t2
@[reducible] def ty_laws_Coord_NT : Ty := t9
@[reducible] def ty_laws_Node_NT : Ty := t48
@[reducible] def ty_impl_Probe_NT : Ty := t2
@[reducible] def ty_impl_Coord_NT : Ty := t9
@[reducible] def ty_impl_Node_NT : Ty := t69
@[reducible] def ty_impl_Place_NT : Ty := t33
@[reducible] def ty_impl_Foreign_NT : Ty := t55
@[reducible] def ty_impl_Flight_NT : Ty := t28
@[reducible] def ty_impl_Fact_NT : Ty := t2
@[reducible] def ty_laws_Doubt_NT : Ty := t31
@[reducible] def ty_laws_Place_NT : Ty := t33
@[reducible] def ty_laws_Foreign_NT : Ty := t34
@[reducible] def ty_laws_Fact_NT : Ty := t2
@[reducible] def ty_impl_Item_NT : Ty := t3
@[reducible] def ty_laws_Item_NT : Ty := t3
@[reducible] def ty_impl_Doubt_NT : Ty := t31
@[reducible] def ty_laws_Flight_NT : Ty := t28
@[reducible] def ty_laws_Probe_NL : Ty := t2
@[reducible] def ty_laws_Coord_NL : Ty := t9
@[reducible] def ty_impl_Probe_NL : Ty := t2
@[reducible] def ty_impl_Coord_NL : Ty := t9
@[reducible] def ty_impl_Place_NL : Ty := t11
@[reducible] def ty_impl_Foreign_NL : Ty := t55
@[reducible] def ty_impl_Flight_NL : Ty := t28
@[reducible] def ty_impl_Fact_NL : Ty := t2
@[reducible] def ty_laws_Doubt_NL : Ty := t6
@[reducible] def ty_laws_Place_NL : Ty := t11
@[reducible] def ty_laws_Foreign_NL : Ty := t34
@[reducible] def ty_laws_Fact_NL : Ty := t2
@[reducible] def ty_impl_Item_NL : Ty := t3
@[reducible] def ty_laws_Item_NL : Ty := t3
@[reducible] def ty_impl_Doubt_NL : Ty := t6
@[reducible] def ty_laws_Flight_NL : Ty := t28
def Tl_D : List (TypeId × TI) := [(3, .int .i64), (4, .bool), (5, .int .u8), (9, .str), (22, .slice 171 t2 32), (23, .slice 176 t3 40), (25, .struct t2 [(0, 1, false), (1, 1, false), (2, 1, false), (3, 1, false)]), (26, .slice 162 t6 48), (28, .struct t9 [(0, 1, false), (1, 1, false), (2, 1, false), (3, 1, false)]), (29, .slice 165 t11 64), (30, .slice 168 t73 32), (32, .struct t87 [(0, 1, false), (1, 1, false), (2, 1, false), (3, 1, false), (4, 1, false), (5, 1, false), (6, 1, false), (7, 1, false), (8, 1, false), (9, 1, false), (10, 4, true), (14, 1, false), (15, 4, true), (19, 1, false), (20, 1, false)]), (36, .slice 132 t2 32), (37, .slice 173 t3 40), (38, .struct t2 [(0, 1, false), (1, 1, false), (2, 1, false), (3, 1, false)]), (39, .slice 177 t6 48), (40, .struct t9 [(0, 1, false), (1, 1, false), (2, 1, false), (3, 1, false)]), (41, .slice 94 t11 64), (42, .slice 119 t12 32), (44, .struct t26 [(0, 1, false), (1, 1, false), (2, 1, false), (3, 1, false), (4, 1, false), (5, 1, false), (6, 1, false), (7, 1, false), (8, 1, false), (9, 1, false), (10, 4, true), (14, 1, false), (15, 4, true), (19, 1, false), (20, 1, false)]), (57, .slice 3 (.int .i64) 8), (62, .slice 32 t87 232), (63, .slice 187 t28 32), (65, .struct t90 [(0, 1, false), (1, 1, false), (2, 1, false), (3, 1, false)]), (68, .slice 44 t26 232), (69, .slice 129 t28 32), (71, .struct t54 [(0, 1, false), (1, 1, false), (2, 1, false), (3, 1, false)]), (94, .struct t11 [(0, 1, false), (1, 4, true), (5, 1, false)]), (113, .fn), (119, .struct t12 [(0, 1, false), (1, 1, false)]), (129, .struct t28 [(0, 1, false), (1, 1, false), (2, 1, false)]), (130, .fn), (132, .struct t2 [(0, 1, false), (1, 1, false), (2, 1, false), (3, 1, false)]), (139, .fn), (162, .struct t6 [(0, 1, false), (1, 1, false), (2, 1, false), (3, 1, false)]), (165, .struct t11 [(0, 1, false), (1, 4, true), (5, 1, false)]), (168, .struct t73 [(0, 1, false), (1, 1, false)]), (171, .struct t2 [(0, 1, false), (1, 1, false), (2, 1, false), (3, 1, false)]), (173, .struct t3 [(0, 4, true), (4, 1, false)]), (176, .struct t3 [(0, 4, true), (4, 1, false)]), (177, .struct t6 [(0, 1, false), (1, 1, false), (2, 1, false), (3, 1, false)]), (187, .struct t28 [(0, 1, false), (1, 1, false), (2, 1, false)]), (201, .fn), (213, .fn), (221, .int .u64), (258, .fn), (267, .int .u32), (269, .int .u64), (293, .ptr)]
def T_D (t : TypeId) : TI := tlook Tl_D t
def Tl_S : List (TypeId × TI) := [(3, .int .i64), (4, .bool), (9, .str), (36, .slice 132 t2 32), (37, .slice 173 t3 40), (38, .struct t2 [(0, 1, false), (1, 1, false), (2, 1, false), (3, 1, false)]), (39, .slice 177 t31 48), (40, .struct t9 [(0, 1, false), (1, 1, false), (2, 1, false), (3, 1, false)]), (41, .slice 94 t33 64), (42, .slice 119 t55 32), (44, .struct t69 [(0, 1, false), (1, 1, false), (2, 1, false), (3, 1, false), (4, 1, false), (5, 1, false), (6, 1, false), (7, 1, false), (8, 1, false), (9, 1, false), (10, 4, true), (14, 1, false), (15, 4, true), (19, 1, false), (20, 1, false)]), (57, .slice 3 (.int .i64) 8), (68, .slice 44 t69 232), (69, .slice 129 t28 32), (71, .struct t72 [(0, 1, false), (1, 1, false), (2, 1, false), (3, 1, false)]), (94, .struct t33 [(0, 1, false), (1, 4, true), (5, 1, false)]), (119, .struct t55 [(0, 1, false), (1, 1, false)]), (129, .struct t28 [(0, 1, false), (1, 1, false), (2, 1, false)]), (132, .struct t2 [(0, 1, false), (1, 1, false), (2, 1, false), (3, 1, false)]), (173, .struct t3 [(0, 4, true), (4, 1, false)]), (177, .struct t31 [(0, 1, false), (1, 1, false), (2, 1, false), (3, 1, false)]), (201, .fn), (221, .int .u64), (260, .int .i64)]
def T_S (t : TypeId) : TI := tlook Tl_S t
namespace m_slices_Clone_impl_Fact_impl_Fact
@[reducible] def ps : List PK := [.rd (.list false 132 t2)]
@[reducible] def rs : List RK := [.v (.list true 132 t2)]
abbrev Res := Ress rs × Outs ps
noncomputable def f (K : Nat) (x : Args ps) : Option Res := cloneM t2 32 x.1
noncomputable def c (K : Nat) : Ctr := ⟨201, ps, rs, true, f K⟩
end m_slices_Clone_impl_Fact_impl_Fact
namespace laws_szFactS
@[reducible] def ps : List PK := [.rd (.list false 171 t2), .rd (.int .i64)]
@[reducible] def rs : List RK := [.v (.int .i64)]
abbrev Res := Ress rs × Outs ps
noncomputable def pre (K : Nat) (x : Args ps) : Option Res := bif decide ((wr .i64 (x.2.1 - (List.length x.1 : Int))) < 0) then (some (((-1), ()), ())) else (some ((wr .i64 (x.2.1 - (List.length x.1 : Int)), ()), ()))
noncomputable def f (K : Nat) (x : Args ps) : Option Res := pre K x
noncomputable def c (K : Nat) : Ctr := ⟨60, ps, rs, true, f K⟩
noncomputable def G (K : Nat) : List Ctr := []
noncomputable def L : List (Nat × List (Nat × List Coe)) := []
noncomputable def body : Code := bodyOf Tryz.f60
noncomputable abbrev ev (K : Nat) : Code → St → (Ex → St → Option Res) → Option Res := evK (G K) T_D L K
noncomputable abbrev fin : Ex → St → Option Res := finK T_D ps rs true Tryz.f60.results.toList
end laws_szFactS
namespace laws_szItemS
@[reducible] def ps : List PK := [.rd (.list false 176 t3), .rd (.int .i64)]
@[reducible] def rs : List RK := [.v (.int .i64)]
abbrev Res := Ress rs × Outs ps
noncomputable def pre (K : Nat) (x : Args ps) : Option Res := bif decide ((wr .i64 (x.2.1 - (List.length x.1 : Int))) < 0) then (some (((-1), ()), ())) else (some ((wr .i64 (x.2.1 - (List.length x.1 : Int)), ()), ()))
noncomputable def f (K : Nat) (x : Args ps) : Option Res := pre K x
noncomputable def c (K : Nat) : Ctr := ⟨61, ps, rs, true, f K⟩
noncomputable def G (K : Nat) : List Ctr := []
noncomputable def L : List (Nat × List (Nat × List Coe)) := []
noncomputable def body : Code := bodyOf Tryz.f61
noncomputable abbrev ev (K : Nat) : Code → St → (Ex → St → Option Res) → Option Res := evK (G K) T_D L K
noncomputable abbrev fin : Ex → St → Option Res := finK T_D ps rs true Tryz.f61.results.toList
end laws_szItemS
namespace laws_szIntS
@[reducible] def ps : List PK := [.rd (.list false 3 (.int .i64)), .rd (.int .i64)]
@[reducible] def rs : List RK := [.v (.int .i64)]
abbrev Res := Ress rs × Outs ps
noncomputable def pre (K : Nat) (x : Args ps) : Option Res := bif decide ((wr .i64 (x.2.1 - (List.length x.1 : Int))) < 0) then (some (((-1), ()), ())) else (some ((wr .i64 (x.2.1 - (List.length x.1 : Int)), ()), ()))
noncomputable def f (K : Nat) (x : Args ps) : Option Res := pre K x
noncomputable def c (K : Nat) : Ctr := ⟨102, ps, rs, true, f K⟩
noncomputable def G (K : Nat) : List Ctr := []
noncomputable def L : List (Nat × List (Nat × List Coe)) := []
noncomputable def body : Code := bodyOf Tryz.f102
noncomputable abbrev ev (K : Nat) : Code → St → (Ex → St → Option Res) → Option Res := evK (G K) T_D L K
noncomputable abbrev fin : Ex → St → Option Res := finK T_D ps rs true Tryz.f102.results.toList
end laws_szIntS
namespace laws_szDoubt
@[reducible] def ps : List PK := [.rd t31, .rd (.int .i64)]
@[reducible] def rs : List RK := [.v (.int .i64)]
abbrev Res := Ress rs × Outs ps
noncomputable def pre (K : Nat) (x : Args ps) : Option Res := (laws_szIntS.f K (x.1.2.2.2, x.2.1, ())).bind fun y1 => bif decide (y1.1.1 < 0) then (some (((-1), ()), ())) else (some ((y1.1.1, ()), ()))
noncomputable def f (K : Nat) (x : Args ps) : Option Res := pre K x
noncomputable def c (K : Nat) : Ctr := ⟨152, ps, rs, true, f K⟩
noncomputable def G (K : Nat) : List Ctr := [laws_szIntS.c K]
noncomputable def L : List (Nat × List (Nat × List Coe)) := []
noncomputable def body : Code := bodyOf Tryz.f152
noncomputable abbrev ev (K : Nat) : Code → St → (Ex → St → Option Res) → Option Res := evK (G K) T_D L K
noncomputable abbrev fin : Ex → St → Option Res := finK T_D ps rs true Tryz.f152.results.toList
end laws_szDoubt
namespace laws_szDoubtS
@[reducible] def ps : List PK := [.rd (.list false 162 t31), .rd (.int .i64)]
@[reducible] def rs : List RK := [.v (.int .i64)]
abbrev Res := Ress rs × Outs ps
abbrev A_l0 := Int × Int
noncomputable def l0.step (K : Nat) (x : Args ps) (rec_l0 : A_l0 → Option Res) (a : A_l0) : Option Res := bif decide (a.2 < (List.length x.1 : Int)) then ((idx x.1 a.2).bind fun y1 => (laws_szDoubt.f K (y1, a.1, ())).bind fun y2 => bif decide (y2.1.1 < 0) then (some (((-1), ()), ())) else (rec_l0 (y2.1.1, wr .i64 (a.2 + 1)))) else (some ((a.1, ()), ()))
noncomputable def l0 (K : Nat) (x : Args ps) : A_l0 → Option Res := iterate (fun rec_l0 a => l0.step K x rec_l0 a) K
noncomputable def pre (K : Nat) (N_l0 : A_l0 → Option Res) (x : Args ps) : Option Res := bif decide ((wr .i64 (x.2.1 - (List.length x.1 : Int))) < 0) then (some (((-1), ()), ())) else (N_l0 (wr .i64 (x.2.1 - (List.length x.1 : Int)), 0))
noncomputable def f (K : Nat) (x : Args ps) : Option Res := pre K (l0 K x) x
noncomputable def c (K : Nat) : Ctr := ⟨62, ps, rs, true, f K⟩
noncomputable def G (K : Nat) : List Ctr := [laws_szDoubt.c K]
noncomputable def live_l0 : List (Nat × List Coe) := [(0, [.ro true 162 t31]), (1, [.keep]), (5, [.keep])]
noncomputable def L : List (Nat × List (Nat × List Coe)) := [(6, live_l0)]
noncomputable def body : Code := bodyOf Tryz.f62
noncomputable abbrev ev (K : Nat) : Code → St → (Ex → St → Option Res) → Option Res := evK (G K) T_D L K
noncomputable abbrev fin : Ex → St → Option Res := finK T_D ps rs true Tryz.f62.results.toList
noncomputable def S_l0 (x : Args ps) (a : A_l0) : St := mkSt [(0, ⟨0, .one, [.ro true 162 t31 x.1]⟩), (1, ⟨0, .one, [.int .i64 a.1]⟩), (5, ⟨0, .one, [.int .i64 a.2]⟩)]
noncomputable def k_l0 (K : Nat) (x : Args ps) : Ex → St → Option Res := kAt (ev K) body [1, 1, 1, 0, 1, 0] fin
noncomputable def N_l0 (K : Nat) (x : Args ps) : A_l0 → Option Res := fun a => evLoop live_l0 (ev K (sub body [1, 1, 1, 0, 1, 0, 0])) K (S_l0 x a) (k_l0 K x)
end laws_szDoubtS
namespace laws_szPlace
@[reducible] def ps : List PK := [.rd t33, .rd (.int .i64)]
@[reducible] def rs : List RK := [.v (.int .i64)]
abbrev Res := Ress rs × Outs ps
noncomputable def pre (K : Nat) (x : Args ps) : Option Res := (laws_szIntS.f K (x.1.2.2, x.2.1, ())).bind fun y1 => bif decide (y1.1.1 < 0) then (some (((-1), ()), ())) else (some ((y1.1.1, ()), ()))
noncomputable def f (K : Nat) (x : Args ps) : Option Res := pre K x
noncomputable def c (K : Nat) : Ctr := ⟨153, ps, rs, true, f K⟩
noncomputable def G (K : Nat) : List Ctr := [laws_szIntS.c K]
noncomputable def L : List (Nat × List (Nat × List Coe)) := []
noncomputable def body : Code := bodyOf Tryz.f153
noncomputable abbrev ev (K : Nat) : Code → St → (Ex → St → Option Res) → Option Res := evK (G K) T_D L K
noncomputable abbrev fin : Ex → St → Option Res := finK T_D ps rs true Tryz.f153.results.toList
end laws_szPlace
namespace laws_szPlaceS
@[reducible] def ps : List PK := [.rd (.list false 165 t33), .rd (.int .i64)]
@[reducible] def rs : List RK := [.v (.int .i64)]
abbrev Res := Ress rs × Outs ps
abbrev A_l0 := Int × Int
noncomputable def l0.step (K : Nat) (x : Args ps) (rec_l0 : A_l0 → Option Res) (a : A_l0) : Option Res := bif decide (a.2 < (List.length x.1 : Int)) then ((idx x.1 a.2).bind fun y1 => (laws_szPlace.f K (y1, a.1, ())).bind fun y2 => bif decide (y2.1.1 < 0) then (some (((-1), ()), ())) else (rec_l0 (y2.1.1, wr .i64 (a.2 + 1)))) else (some ((a.1, ()), ()))
noncomputable def l0 (K : Nat) (x : Args ps) : A_l0 → Option Res := iterate (fun rec_l0 a => l0.step K x rec_l0 a) K
noncomputable def pre (K : Nat) (N_l0 : A_l0 → Option Res) (x : Args ps) : Option Res := bif decide ((wr .i64 (x.2.1 - (List.length x.1 : Int))) < 0) then (some (((-1), ()), ())) else (N_l0 (wr .i64 (x.2.1 - (List.length x.1 : Int)), 0))
noncomputable def f (K : Nat) (x : Args ps) : Option Res := pre K (l0 K x) x
noncomputable def c (K : Nat) : Ctr := ⟨63, ps, rs, true, f K⟩
noncomputable def G (K : Nat) : List Ctr := [laws_szPlace.c K]
noncomputable def live_l0 : List (Nat × List Coe) := [(0, [.ro true 165 t33]), (1, [.keep]), (5, [.keep])]
noncomputable def L : List (Nat × List (Nat × List Coe)) := [(6, live_l0)]
noncomputable def body : Code := bodyOf Tryz.f63
noncomputable abbrev ev (K : Nat) : Code → St → (Ex → St → Option Res) → Option Res := evK (G K) T_D L K
noncomputable abbrev fin : Ex → St → Option Res := finK T_D ps rs true Tryz.f63.results.toList
noncomputable def S_l0 (x : Args ps) (a : A_l0) : St := mkSt [(0, ⟨0, .one, [.ro true 165 t33 x.1]⟩), (1, ⟨0, .one, [.int .i64 a.1]⟩), (5, ⟨0, .one, [.int .i64 a.2]⟩)]
noncomputable def k_l0 (K : Nat) (x : Args ps) : Ex → St → Option Res := kAt (ev K) body [1, 1, 1, 0, 1, 0] fin
noncomputable def N_l0 (K : Nat) (x : Args ps) : A_l0 → Option Res := fun a => evLoop live_l0 (ev K (sub body [1, 1, 1, 0, 1, 0, 0])) K (S_l0 x a) (k_l0 K x)
end laws_szPlaceS
namespace laws_szForeign
@[reducible] def ps : List PK := [.rd t34, .rd (.int .i64)]
@[reducible] def rs : List RK := [.v (.int .i64)]
abbrev Res := Ress rs × Outs ps
noncomputable def pre (K : Nat) (x : Args ps) : Option Res := (laws_szFactS.f K (x.1.2, x.2.1, ())).bind fun y1 => bif decide (y1.1.1 < 0) then (some (((-1), ()), ())) else (some ((y1.1.1, ()), ()))
noncomputable def f (K : Nat) (x : Args ps) : Option Res := pre K x
noncomputable def c (K : Nat) : Ctr := ⟨154, ps, rs, true, f K⟩
noncomputable def G (K : Nat) : List Ctr := [laws_szFactS.c K]
noncomputable def L : List (Nat × List (Nat × List Coe)) := []
noncomputable def body : Code := bodyOf Tryz.f154
noncomputable abbrev ev (K : Nat) : Code → St → (Ex → St → Option Res) → Option Res := evK (G K) T_D L K
noncomputable abbrev fin : Ex → St → Option Res := finK T_D ps rs true Tryz.f154.results.toList
end laws_szForeign
namespace laws_szForeignS
@[reducible] def ps : List PK := [.rd (.list false 168 t34), .rd (.int .i64)]
@[reducible] def rs : List RK := [.v (.int .i64)]
abbrev Res := Ress rs × Outs ps
abbrev A_l0 := Int × Int
noncomputable def l0.step (K : Nat) (x : Args ps) (rec_l0 : A_l0 → Option Res) (a : A_l0) : Option Res := bif decide (a.2 < (List.length x.1 : Int)) then ((idx x.1 a.2).bind fun y1 => (laws_szForeign.f K (y1, a.1, ())).bind fun y2 => bif decide (y2.1.1 < 0) then (some (((-1), ()), ())) else (rec_l0 (y2.1.1, wr .i64 (a.2 + 1)))) else (some ((a.1, ()), ()))
noncomputable def l0 (K : Nat) (x : Args ps) : A_l0 → Option Res := iterate (fun rec_l0 a => l0.step K x rec_l0 a) K
noncomputable def pre (K : Nat) (N_l0 : A_l0 → Option Res) (x : Args ps) : Option Res := bif decide ((wr .i64 (x.2.1 - (List.length x.1 : Int))) < 0) then (some (((-1), ()), ())) else (N_l0 (wr .i64 (x.2.1 - (List.length x.1 : Int)), 0))
noncomputable def f (K : Nat) (x : Args ps) : Option Res := pre K (l0 K x) x
noncomputable def c (K : Nat) : Ctr := ⟨64, ps, rs, true, f K⟩
noncomputable def G (K : Nat) : List Ctr := [laws_szForeign.c K]
noncomputable def live_l0 : List (Nat × List Coe) := [(0, [.ro true 168 t34]), (1, [.keep]), (5, [.keep])]
noncomputable def L : List (Nat × List (Nat × List Coe)) := [(6, live_l0)]
noncomputable def body : Code := bodyOf Tryz.f64
noncomputable abbrev ev (K : Nat) : Code → St → (Ex → St → Option Res) → Option Res := evK (G K) T_D L K
noncomputable abbrev fin : Ex → St → Option Res := finK T_D ps rs true Tryz.f64.results.toList
noncomputable def S_l0 (x : Args ps) (a : A_l0) : St := mkSt [(0, ⟨0, .one, [.ro true 168 t34 x.1]⟩), (1, ⟨0, .one, [.int .i64 a.1]⟩), (5, ⟨0, .one, [.int .i64 a.2]⟩)]
noncomputable def k_l0 (K : Nat) (x : Args ps) : Ex → St → Option Res := kAt (ev K) body [1, 1, 1, 0, 1, 0] fin
noncomputable def N_l0 (K : Nat) (x : Args ps) : A_l0 → Option Res := fun a => evLoop live_l0 (ev K (sub body [1, 1, 1, 0, 1, 0, 0])) K (S_l0 x a) (k_l0 K x)
end laws_szForeignS
namespace laws_szNode
@[reducible] def ps : List PK := [.rd t48, .rd (.int .i64)]
@[reducible] def rs : List RK := [.v (.int .i64)]
abbrev Res := Ress rs × Outs ps
noncomputable def pre (K : Nat) (x : Args ps) : Option Res := (laws_szFactS.f K (x.1.2.2.2.2.2.2.2.2.1, x.2.1, ())).bind fun y1 => bif decide (y1.1.1 < 0) then (some (((-1), ()), ())) else ((laws_szItemS.f K (x.1.2.2.2.2.2.2.2.2.2.1, y1.1.1, ())).bind fun y2 => bif decide (y2.1.1 < 0) then (some (((-1), ()), ())) else ((laws_szDoubtS.f K (x.1.2.2.2.2.2.2.2.2.2.2.2.1, y2.1.1, ())).bind fun y3 => bif decide (y3.1.1 < 0) then (some (((-1), ()), ())) else ((laws_szPlaceS.f K (x.1.2.2.2.2.2.2.2.2.2.2.2.2.2.1, y3.1.1, ())).bind fun y4 => bif decide (y4.1.1 < 0) then (some (((-1), ()), ())) else ((laws_szForeignS.f K (x.1.2.2.2.2.2.2.2.2.2.2.2.2.2.2, y4.1.1, ())).bind fun y5 => bif decide (y5.1.1 < 0) then (some (((-1), ()), ())) else (some ((y5.1.1, ()), ()))))))
noncomputable def f (K : Nat) (x : Args ps) : Option Res := pre K x
noncomputable def c (K : Nat) : Ctr := ⟨15, ps, rs, true, f K⟩
noncomputable def G (K : Nat) : List Ctr := [laws_szFactS.c K, laws_szItemS.c K, laws_szDoubtS.c K, laws_szPlaceS.c K, laws_szForeignS.c K]
noncomputable def L : List (Nat × List (Nat × List Coe)) := []
noncomputable def body : Code := bodyOf Tryz.f15
noncomputable abbrev ev (K : Nat) : Code → St → (Ex → St → Option Res) → Option Res := evK (G K) T_D L K
noncomputable abbrev fin : Ex → St → Option Res := finK T_D ps rs true Tryz.f15.results.toList
end laws_szNode
namespace laws_szNodeS
@[reducible] def ps : List PK := [.rd (.list false 32 t48), .rd (.int .i64)]
@[reducible] def rs : List RK := [.v (.int .i64)]
abbrev Res := Ress rs × Outs ps
abbrev A_l0 := Int × Int
noncomputable def l0.step (K : Nat) (x : Args ps) (rec_l0 : A_l0 → Option Res) (a : A_l0) : Option Res := bif decide (a.2 < (List.length x.1 : Int)) then ((idx x.1 a.2).bind fun y1 => (laws_szNode.f K (y1, a.1, ())).bind fun y2 => bif decide (y2.1.1 < 0) then (some (((-1), ()), ())) else (rec_l0 (y2.1.1, wr .i64 (a.2 + 1)))) else (some ((a.1, ()), ()))
noncomputable def l0 (K : Nat) (x : Args ps) : A_l0 → Option Res := iterate (fun rec_l0 a => l0.step K x rec_l0 a) K
noncomputable def pre (K : Nat) (N_l0 : A_l0 → Option Res) (x : Args ps) : Option Res := bif decide ((wr .i64 (x.2.1 - (List.length x.1 : Int))) < 0) then (some (((-1), ()), ())) else (N_l0 (wr .i64 (x.2.1 - (List.length x.1 : Int)), 0))
noncomputable def f (K : Nat) (x : Args ps) : Option Res := pre K (l0 K x) x
noncomputable def c (K : Nat) : Ctr := ⟨100, ps, rs, true, f K⟩
noncomputable def G (K : Nat) : List Ctr := [laws_szNode.c K]
noncomputable def live_l0 : List (Nat × List Coe) := [(0, [.ro true 32 t48]), (1, [.keep]), (5, [.keep])]
noncomputable def L : List (Nat × List (Nat × List Coe)) := [(6, live_l0)]
noncomputable def body : Code := bodyOf Tryz.f100
noncomputable abbrev ev (K : Nat) : Code → St → (Ex → St → Option Res) → Option Res := evK (G K) T_D L K
noncomputable abbrev fin : Ex → St → Option Res := finK T_D ps rs true Tryz.f100.results.toList
noncomputable def S_l0 (x : Args ps) (a : A_l0) : St := mkSt [(0, ⟨0, .one, [.ro true 32 t48 x.1]⟩), (1, ⟨0, .one, [.int .i64 a.1]⟩), (5, ⟨0, .one, [.int .i64 a.2]⟩)]
noncomputable def k_l0 (K : Nat) (x : Args ps) : Ex → St → Option Res := kAt (ev K) body [1, 1, 1, 0, 1, 0] fin
noncomputable def N_l0 (K : Nat) (x : Args ps) : A_l0 → Option Res := fun a => evLoop live_l0 (ev K (sub body [1, 1, 1, 0, 1, 0, 0])) K (S_l0 x a) (k_l0 K x)
end laws_szNodeS
namespace laws_szFlight
@[reducible] def ps : List PK := [.rd t28, .rd (.int .i64)]
@[reducible] def rs : List RK := [.v (.int .i64)]
abbrev Res := Ress rs × Outs ps
noncomputable def pre (K : Nat) (x : Args ps) : Option Res := bif decide ((wr .i64 (x.2.1 - (x.1.2.1.size : Int))) < 0) then (some (((-1), ()), ())) else (some ((wr .i64 (x.2.1 - (x.1.2.1.size : Int)), ()), ()))
noncomputable def f (K : Nat) (x : Args ps) : Option Res := pre K x
noncomputable def c (K : Nat) : Ctr := ⟨186, ps, rs, true, f K⟩
noncomputable def G (K : Nat) : List Ctr := []
noncomputable def L : List (Nat × List (Nat × List Coe)) := []
noncomputable def body : Code := bodyOf Tryz.f186
noncomputable abbrev ev (K : Nat) : Code → St → (Ex → St → Option Res) → Option Res := evK (G K) T_D L K
noncomputable abbrev fin : Ex → St → Option Res := finK T_D ps rs true Tryz.f186.results.toList
end laws_szFlight
namespace laws_szFlightS
@[reducible] def ps : List PK := [.rd (.list false 187 t28), .rd (.int .i64)]
@[reducible] def rs : List RK := [.v (.int .i64)]
abbrev Res := Ress rs × Outs ps
abbrev A_l0 := Int × Int
noncomputable def l0.step (K : Nat) (x : Args ps) (rec_l0 : A_l0 → Option Res) (a : A_l0) : Option Res := bif decide (a.2 < (List.length x.1 : Int)) then ((idx x.1 a.2).bind fun y1 => (laws_szFlight.f K (y1, a.1, ())).bind fun y2 => bif decide (y2.1.1 < 0) then (some (((-1), ()), ())) else (rec_l0 (y2.1.1, wr .i64 (a.2 + 1)))) else (some ((a.1, ()), ()))
noncomputable def l0 (K : Nat) (x : Args ps) : A_l0 → Option Res := iterate (fun rec_l0 a => l0.step K x rec_l0 a) K
noncomputable def pre (K : Nat) (N_l0 : A_l0 → Option Res) (x : Args ps) : Option Res := bif decide ((wr .i64 (x.2.1 - (List.length x.1 : Int))) < 0) then (some (((-1), ()), ())) else (N_l0 (wr .i64 (x.2.1 - (List.length x.1 : Int)), 0))
noncomputable def f (K : Nat) (x : Args ps) : Option Res := pre K (l0 K x) x
noncomputable def c (K : Nat) : Ctr := ⟨101, ps, rs, true, f K⟩
noncomputable def G (K : Nat) : List Ctr := [laws_szFlight.c K]
noncomputable def live_l0 : List (Nat × List Coe) := [(0, [.ro true 187 t28]), (1, [.keep]), (5, [.keep])]
noncomputable def L : List (Nat × List (Nat × List Coe)) := [(6, live_l0)]
noncomputable def body : Code := bodyOf Tryz.f101
noncomputable abbrev ev (K : Nat) : Code → St → (Ex → St → Option Res) → Option Res := evK (G K) T_D L K
noncomputable abbrev fin : Ex → St → Option Res := finK T_D ps rs true Tryz.f101.results.toList
noncomputable def S_l0 (x : Args ps) (a : A_l0) : St := mkSt [(0, ⟨0, .one, [.ro true 187 t28 x.1]⟩), (1, ⟨0, .one, [.int .i64 a.1]⟩), (5, ⟨0, .one, [.int .i64 a.2]⟩)]
noncomputable def k_l0 (K : Nat) (x : Args ps) : Ex → St → Option Res := kAt (ev K) body [1, 1, 1, 0, 1, 0] fin
noncomputable def N_l0 (K : Nat) (x : Args ps) : A_l0 → Option Res := fun a => evLoop live_l0 (ev K (sub body [1, 1, 1, 0, 1, 0, 0])) K (S_l0 x a) (k_l0 K x)
end laws_szFlightS
namespace laws_szWorld
@[reducible] def ps : List PK := [.rd t51, .rd (.int .i64)]
@[reducible] def rs : List RK := [.v (.int .i64)]
abbrev Res := Ress rs × Outs ps
noncomputable def pre (K : Nat) (x : Args ps) : Option Res := (laws_szNodeS.f K (x.1.1, x.2.1, ())).bind fun y1 => bif decide (y1.1.1 < 0) then (some (((-1), ()), ())) else ((laws_szFlightS.f K (x.1.2.1, y1.1.1, ())).bind fun y2 => bif decide (y2.1.1 < 0) then (some (((-1), ()), ())) else ((laws_szIntS.f K (x.1.2.2.1, y2.1.1, ())).bind fun y3 => bif decide (y3.1.1 < 0) then (some (((-1), ()), ())) else ((laws_szFactS.f K (x.1.2.2.2, y3.1.1, ())).bind fun y4 => bif decide (y4.1.1 < 0) then (some (((-1), ()), ())) else (some ((y4.1.1, ()), ())))))
noncomputable def f (K : Nat) (x : Args ps) : Option Res := pre K x
noncomputable def c (K : Nat) : Ctr := ⟨31, ps, rs, true, f K⟩
noncomputable def G (K : Nat) : List Ctr := [laws_szFactS.c K, laws_szNodeS.c K, laws_szFlightS.c K, laws_szIntS.c K]
noncomputable def L : List (Nat × List (Nat × List Coe)) := []
noncomputable def body : Code := bodyOf Tryz.f31
noncomputable abbrev ev (K : Nat) : Code → St → (Ex → St → Option Res) → Option Res := evK (G K) T_D L K
noncomputable abbrev fin : Ex → St → Option Res := finK T_D ps rs true Tryz.f31.results.toList
end laws_szWorld
namespace laws_toFact
@[reducible] def ps : List PK := [.rd t2]
@[reducible] def rs : List RK := [.v t2]
abbrev Res := Ress rs × Outs ps
noncomputable def pre (K : Nat) (x : Args ps) : Option Res := some ((x.1, ()), ())
noncomputable def f (K : Nat) (x : Args ps) : Option Res := pre K x
noncomputable def c (K : Nat) : Ctr := ⟨165, ps, rs, true, f K⟩
noncomputable def G (K : Nat) : List Ctr := []
noncomputable def L : List (Nat × List (Nat × List Coe)) := []
noncomputable def body : Code := bodyOf Tryz.f165
noncomputable abbrev ev (K : Nat) : Code → St → (Ex → St → Option Res) → Option Res := evK (G K) T_D L K
noncomputable abbrev fin : Ex → St → Option Res := finK T_D ps rs true Tryz.f165.results.toList
end laws_toFact
namespace laws_toFactS
@[reducible] def ps : List PK := [.rd (.list false 171 t2)]
@[reducible] def rs : List RK := [.v (.list true 132 t2)]
abbrev Res := Ress rs × Outs ps
abbrev A_l0 := List (Ty.den t2) × Int
noncomputable def l0.step (K : Nat) (x : Args ps) (rec_l0 : A_l0 → Option Res) (a : A_l0) : Option Res := bif decide (a.2 < (List.length x.1 : Int)) then ((idx x.1 a.2).bind fun y1 => (laws_toFact.f K (y1, ())).bind fun y2 => (idx a.1 a.2).bind fun _ => (idx a.1 (Int.toNat a.2 : Nat)).bind fun y4 => rec_l0 (a.1.set (Int.toNat a.2) y2.1.1, wr .i64 (a.2 + 1))) else (some ((a.1, ()), ()))
noncomputable def l0 (K : Nat) (x : Args ps) : A_l0 → Option Res := iterate (fun rec_l0 a => l0.step K x rec_l0 a) K
noncomputable def pre (K : Nat) (N_l0 : A_l0 → Option Res) (x : Args ps) : Option Res := bif decide (0 ≤ (List.length x.1 : Int)) && decide ((List.length x.1 : Int) = (List.length x.1 : Int)) && decide ((List.length x.1 : Int) * (32 : Nat) ≤ sizeK) then (N_l0 (List.replicate (Int.toNat (List.length x.1 : Int)) ((0, (0, (0, false))) : Ty.den t2), 0)) else none
noncomputable def f (K : Nat) (x : Args ps) : Option Res := pre K (l0 K x) x
noncomputable def c (K : Nat) : Ctr := ⟨67, ps, rs, true, f K⟩
noncomputable def G (K : Nat) : List Ctr := [laws_toFact.c K]
noncomputable def live_l0 : List (Nat × List Coe) := [(0, [.ro true 171 t2]), (3, [.own false 132 t2]), (4, [.keep])]
noncomputable def L : List (Nat × List (Nat × List Coe)) := [(4, live_l0)]
noncomputable def body : Code := bodyOf Tryz.f67
noncomputable abbrev ev (K : Nat) : Code → St → (Ex → St → Option Res) → Option Res := evK (G K) T_D L K
noncomputable abbrev fin : Ex → St → Option Res := finK T_D ps rs true Tryz.f67.results.toList
noncomputable def S_l0 (x : Args ps) (a : A_l0) : St := mkSt [(0, ⟨0, .one, [.ro true 171 t2 x.1]⟩), (3, ⟨0, .one, [.own false none 132 t2 a.1]⟩), (4, ⟨0, .one, [.int .i64 a.2]⟩)]
noncomputable def k_l0 (K : Nat) (x : Args ps) : Ex → St → Option Res := kAt (ev K) body [1, 1, 0, 1, 0] fin
noncomputable def N_l0 (K : Nat) (x : Args ps) : A_l0 → Option Res := fun a => evLoop live_l0 (ev K (sub body [1, 1, 0, 1, 0, 0])) K (S_l0 x a) (k_l0 K x)
end laws_toFactS
namespace laws_toItem
@[reducible] def ps : List PK := [.rd t3]
@[reducible] def rs : List RK := [.v t3]
abbrev Res := Ress rs × Outs ps
noncomputable def pre (K : Nat) (x : Args ps) : Option Res := (laws_toFact.f K (x.1.1, ())).bind fun y1 => some (((y1.1.1, x.1.2), ()), ())
noncomputable def f (K : Nat) (x : Args ps) : Option Res := pre K x
noncomputable def c (K : Nat) : Ctr := ⟨166, ps, rs, true, f K⟩
noncomputable def G (K : Nat) : List Ctr := [laws_toFact.c K]
noncomputable def L : List (Nat × List (Nat × List Coe)) := []
noncomputable def body : Code := bodyOf Tryz.f166
noncomputable abbrev ev (K : Nat) : Code → St → (Ex → St → Option Res) → Option Res := evK (G K) T_D L K
noncomputable abbrev fin : Ex → St → Option Res := finK T_D ps rs true Tryz.f166.results.toList
end laws_toItem
namespace laws_toItemS
@[reducible] def ps : List PK := [.rd (.list false 176 t3)]
@[reducible] def rs : List RK := [.v (.list true 173 t3)]
abbrev Res := Ress rs × Outs ps
abbrev A_l0 := List (Ty.den t3) × Int
noncomputable def l0.step (K : Nat) (x : Args ps) (rec_l0 : A_l0 → Option Res) (a : A_l0) : Option Res := bif decide (a.2 < (List.length x.1 : Int)) then ((idx x.1 a.2).bind fun y1 => (laws_toItem.f K (y1, ())).bind fun y2 => (idx a.1 a.2).bind fun _ => (idx a.1 (Int.toNat a.2 : Nat)).bind fun y4 => rec_l0 (a.1.set (Int.toNat a.2) y2.1.1, wr .i64 (a.2 + 1))) else (some ((a.1, ()), ()))
noncomputable def l0 (K : Nat) (x : Args ps) : A_l0 → Option Res := iterate (fun rec_l0 a => l0.step K x rec_l0 a) K
noncomputable def pre (K : Nat) (N_l0 : A_l0 → Option Res) (x : Args ps) : Option Res := bif decide (0 ≤ (List.length x.1 : Int)) && decide ((List.length x.1 : Int) = (List.length x.1 : Int)) && decide ((List.length x.1 : Int) * (40 : Nat) ≤ sizeK) then (N_l0 (List.replicate (Int.toNat (List.length x.1 : Int)) (((0, (0, (0, false))), 0) : Ty.den t3), 0)) else none
noncomputable def f (K : Nat) (x : Args ps) : Option Res := pre K (l0 K x) x
noncomputable def c (K : Nat) : Ctr := ⟨68, ps, rs, true, f K⟩
noncomputable def G (K : Nat) : List Ctr := [laws_toItem.c K]
noncomputable def live_l0 : List (Nat × List Coe) := [(0, [.ro true 176 t3]), (3, [.own false 173 t3]), (4, [.keep])]
noncomputable def L : List (Nat × List (Nat × List Coe)) := [(4, live_l0)]
noncomputable def body : Code := bodyOf Tryz.f68
noncomputable abbrev ev (K : Nat) : Code → St → (Ex → St → Option Res) → Option Res := evK (G K) T_D L K
noncomputable abbrev fin : Ex → St → Option Res := finK T_D ps rs true Tryz.f68.results.toList
noncomputable def S_l0 (x : Args ps) (a : A_l0) : St := mkSt [(0, ⟨0, .one, [.ro true 176 t3 x.1]⟩), (3, ⟨0, .one, [.own false none 173 t3 a.1]⟩), (4, ⟨0, .one, [.int .i64 a.2]⟩)]
noncomputable def k_l0 (K : Nat) (x : Args ps) : Ex → St → Option Res := kAt (ev K) body [1, 1, 0, 1, 0] fin
noncomputable def N_l0 (K : Nat) (x : Args ps) : A_l0 → Option Res := fun a => evLoop live_l0 (ev K (sub body [1, 1, 0, 1, 0, 0])) K (S_l0 x a) (k_l0 K x)
end laws_toItemS
namespace laws_toProbe
@[reducible] def ps : List PK := [.rd t2]
@[reducible] def rs : List RK := [.v t2]
abbrev Res := Ress rs × Outs ps
noncomputable def pre (K : Nat) (x : Args ps) : Option Res := some ((x.1, ()), ())
noncomputable def f (K : Nat) (x : Args ps) : Option Res := pre K x
noncomputable def c (K : Nat) : Ctr := ⟨69, ps, rs, true, f K⟩
noncomputable def G (K : Nat) : List Ctr := []
noncomputable def L : List (Nat × List (Nat × List Coe)) := []
noncomputable def body : Code := bodyOf Tryz.f69
noncomputable abbrev ev (K : Nat) : Code → St → (Ex → St → Option Res) → Option Res := evK (G K) T_D L K
noncomputable abbrev fin : Ex → St → Option Res := finK T_D ps rs true Tryz.f69.results.toList
end laws_toProbe
namespace laws_toIntS
@[reducible] def ps : List PK := [.rd (.list false 3 (.int .i64))]
@[reducible] def rs : List RK := [.v (.list true 3 (.int .i64))]
abbrev Res := Ress rs × Outs ps
abbrev A_l0 := List (Ty.den (.int .i64)) × Int
noncomputable def l0.step (K : Nat) (x : Args ps) (rec_l0 : A_l0 → Option Res) (a : A_l0) : Option Res := bif decide (a.2 < (List.length x.1 : Int)) then ((idx x.1 a.2).bind fun y1 => (idx a.1 a.2).bind fun _ => (idx a.1 (Int.toNat a.2 : Nat)).bind fun y3 => rec_l0 (a.1.set (Int.toNat a.2) y1, wr .i64 (a.2 + 1))) else (some ((a.1, ()), ()))
noncomputable def l0 (K : Nat) (x : Args ps) : A_l0 → Option Res := iterate (fun rec_l0 a => l0.step K x rec_l0 a) K
noncomputable def pre (K : Nat) (N_l0 : A_l0 → Option Res) (x : Args ps) : Option Res := bif decide (0 ≤ (List.length x.1 : Int)) && decide ((List.length x.1 : Int) = (List.length x.1 : Int)) && decide ((List.length x.1 : Int) * (8 : Nat) ≤ sizeK) then (N_l0 (List.replicate (Int.toNat (List.length x.1 : Int)) (0 : Ty.den (.int .i64)), 0)) else none
noncomputable def f (K : Nat) (x : Args ps) : Option Res := pre K (l0 K x) x
noncomputable def c (K : Nat) : Ctr := ⟨109, ps, rs, true, f K⟩
noncomputable def G (K : Nat) : List Ctr := []
noncomputable def live_l0 : List (Nat × List Coe) := [(0, [.ro true 3 (.int .i64)]), (3, [.own false 3 (.int .i64)]), (4, [.keep])]
noncomputable def L : List (Nat × List (Nat × List Coe)) := [(4, live_l0)]
noncomputable def body : Code := bodyOf Tryz.f109
noncomputable abbrev ev (K : Nat) : Code → St → (Ex → St → Option Res) → Option Res := evK (G K) T_D L K
noncomputable abbrev fin : Ex → St → Option Res := finK T_D ps rs true Tryz.f109.results.toList
noncomputable def S_l0 (x : Args ps) (a : A_l0) : St := mkSt [(0, ⟨0, .one, [.ro true 3 (.int .i64) x.1]⟩), (3, ⟨0, .one, [.own false none 3 (.int .i64) a.1]⟩), (4, ⟨0, .one, [.int .i64 a.2]⟩)]
noncomputable def k_l0 (K : Nat) (x : Args ps) : Ex → St → Option Res := kAt (ev K) body [1, 1, 0, 1, 0] fin
noncomputable def N_l0 (K : Nat) (x : Args ps) : A_l0 → Option Res := fun a => evLoop live_l0 (ev K (sub body [1, 1, 0, 1, 0, 0])) K (S_l0 x a) (k_l0 K x)
end laws_toIntS
namespace laws_toDoubt
@[reducible] def ps : List PK := [.rd t31]
@[reducible] def rs : List RK := [.v t6]
abbrev Res := Ress rs × Outs ps
noncomputable def pre (K : Nat) (x : Args ps) : Option Res := (laws_toIntS.f K (x.1.2.2.2, ())).bind fun y1 => some (((x.1.1, (x.1.2.1, (x.1.2.2.1, y1.1.1))), ()), ())
noncomputable def f (K : Nat) (x : Args ps) : Option Res := pre K x
noncomputable def c (K : Nat) : Ctr := ⟨167, ps, rs, true, f K⟩
noncomputable def G (K : Nat) : List Ctr := [laws_toIntS.c K]
noncomputable def L : List (Nat × List (Nat × List Coe)) := []
noncomputable def body : Code := bodyOf Tryz.f167
noncomputable abbrev ev (K : Nat) : Code → St → (Ex → St → Option Res) → Option Res := evK (G K) T_D L K
noncomputable abbrev fin : Ex → St → Option Res := finK T_D ps rs true Tryz.f167.results.toList
end laws_toDoubt
namespace laws_toDoubtS
@[reducible] def ps : List PK := [.rd (.list false 162 t31)]
@[reducible] def rs : List RK := [.v (.list true 177 t6)]
abbrev Res := Ress rs × Outs ps
abbrev A_l0 := List (Ty.den t6) × Int
noncomputable def l0.step (K : Nat) (x : Args ps) (rec_l0 : A_l0 → Option Res) (a : A_l0) : Option Res := bif decide (a.2 < (List.length x.1 : Int)) then ((idx x.1 a.2).bind fun y1 => (laws_toDoubt.f K (y1, ())).bind fun y2 => (idx a.1 a.2).bind fun _ => (idx a.1 (Int.toNat a.2 : Nat)).bind fun y4 => rec_l0 (a.1.set (Int.toNat a.2) y2.1.1, wr .i64 (a.2 + 1))) else (some ((a.1, ()), ()))
noncomputable def l0 (K : Nat) (x : Args ps) : A_l0 → Option Res := iterate (fun rec_l0 a => l0.step K x rec_l0 a) K
noncomputable def pre (K : Nat) (N_l0 : A_l0 → Option Res) (x : Args ps) : Option Res := bif decide (0 ≤ (List.length x.1 : Int)) && decide ((List.length x.1 : Int) = (List.length x.1 : Int)) && decide ((List.length x.1 : Int) * (48 : Nat) ≤ sizeK) then (N_l0 (List.replicate (Int.toNat (List.length x.1 : Int)) ((0, (0, (0, []))) : Ty.den t6), 0)) else none
noncomputable def f (K : Nat) (x : Args ps) : Option Res := pre K (l0 K x) x
noncomputable def c (K : Nat) : Ctr := ⟨70, ps, rs, true, f K⟩
noncomputable def G (K : Nat) : List Ctr := [laws_toDoubt.c K]
noncomputable def live_l0 : List (Nat × List Coe) := [(0, [.ro true 162 t31]), (3, [.own false 177 t6]), (4, [.keep])]
noncomputable def L : List (Nat × List (Nat × List Coe)) := [(4, live_l0)]
noncomputable def body : Code := bodyOf Tryz.f70
noncomputable abbrev ev (K : Nat) : Code → St → (Ex → St → Option Res) → Option Res := evK (G K) T_D L K
noncomputable abbrev fin : Ex → St → Option Res := finK T_D ps rs true Tryz.f70.results.toList
noncomputable def S_l0 (x : Args ps) (a : A_l0) : St := mkSt [(0, ⟨0, .one, [.ro true 162 t31 x.1]⟩), (3, ⟨0, .one, [.own false none 177 t6 a.1]⟩), (4, ⟨0, .one, [.int .i64 a.2]⟩)]
noncomputable def k_l0 (K : Nat) (x : Args ps) : Ex → St → Option Res := kAt (ev K) body [1, 1, 0, 1, 0] fin
noncomputable def N_l0 (K : Nat) (x : Args ps) : A_l0 → Option Res := fun a => evLoop live_l0 (ev K (sub body [1, 1, 0, 1, 0, 0])) K (S_l0 x a) (k_l0 K x)
end laws_toDoubtS
namespace laws_toCoord
@[reducible] def ps : List PK := [.rd t9]
@[reducible] def rs : List RK := [.v t9]
abbrev Res := Ress rs × Outs ps
noncomputable def pre (K : Nat) (x : Args ps) : Option Res := some ((x.1, ()), ())
noncomputable def f (K : Nat) (x : Args ps) : Option Res := pre K x
noncomputable def c (K : Nat) : Ctr := ⟨71, ps, rs, true, f K⟩
noncomputable def G (K : Nat) : List Ctr := []
noncomputable def L : List (Nat × List (Nat × List Coe)) := []
noncomputable def body : Code := bodyOf Tryz.f71
noncomputable abbrev ev (K : Nat) : Code → St → (Ex → St → Option Res) → Option Res := evK (G K) T_D L K
noncomputable abbrev fin : Ex → St → Option Res := finK T_D ps rs true Tryz.f71.results.toList
end laws_toCoord
namespace laws_toPlace
@[reducible] def ps : List PK := [.rd t33]
@[reducible] def rs : List RK := [.v t11]
abbrev Res := Ress rs × Outs ps
noncomputable def pre (K : Nat) (x : Args ps) : Option Res := (laws_toCoord.f K (x.1.2.1, ())).bind fun y1 => (laws_toIntS.f K (x.1.2.2, ())).bind fun y2 => some (((x.1.1, (y1.1.1, y2.1.1)), ()), ())
noncomputable def f (K : Nat) (x : Args ps) : Option Res := pre K x
noncomputable def c (K : Nat) : Ctr := ⟨168, ps, rs, true, f K⟩
noncomputable def G (K : Nat) : List Ctr := [laws_toCoord.c K, laws_toIntS.c K]
noncomputable def L : List (Nat × List (Nat × List Coe)) := []
noncomputable def body : Code := bodyOf Tryz.f168
noncomputable abbrev ev (K : Nat) : Code → St → (Ex → St → Option Res) → Option Res := evK (G K) T_D L K
noncomputable abbrev fin : Ex → St → Option Res := finK T_D ps rs true Tryz.f168.results.toList
end laws_toPlace
namespace laws_toPlaceS
@[reducible] def ps : List PK := [.rd (.list false 165 t33)]
@[reducible] def rs : List RK := [.v (.list true 94 t11)]
abbrev Res := Ress rs × Outs ps
abbrev A_l0 := List (Ty.den t11) × Int
noncomputable def l0.step (K : Nat) (x : Args ps) (rec_l0 : A_l0 → Option Res) (a : A_l0) : Option Res := bif decide (a.2 < (List.length x.1 : Int)) then ((idx x.1 a.2).bind fun y1 => (laws_toPlace.f K (y1, ())).bind fun y2 => (idx a.1 a.2).bind fun _ => (idx a.1 (Int.toNat a.2 : Nat)).bind fun y4 => rec_l0 (a.1.set (Int.toNat a.2) y2.1.1, wr .i64 (a.2 + 1))) else (some ((a.1, ()), ()))
noncomputable def l0 (K : Nat) (x : Args ps) : A_l0 → Option Res := iterate (fun rec_l0 a => l0.step K x rec_l0 a) K
noncomputable def pre (K : Nat) (N_l0 : A_l0 → Option Res) (x : Args ps) : Option Res := bif decide (0 ≤ (List.length x.1 : Int)) && decide ((List.length x.1 : Int) = (List.length x.1 : Int)) && decide ((List.length x.1 : Int) * (64 : Nat) ≤ sizeK) then (N_l0 (List.replicate (Int.toNat (List.length x.1 : Int)) ((0, ((0, (0, (0, 0))), [])) : Ty.den t11), 0)) else none
noncomputable def f (K : Nat) (x : Args ps) : Option Res := pre K (l0 K x) x
noncomputable def c (K : Nat) : Ctr := ⟨72, ps, rs, true, f K⟩
noncomputable def G (K : Nat) : List Ctr := [laws_toPlace.c K]
noncomputable def live_l0 : List (Nat × List Coe) := [(0, [.ro true 165 t33]), (3, [.own false 94 t11]), (4, [.keep])]
noncomputable def L : List (Nat × List (Nat × List Coe)) := [(4, live_l0)]
noncomputable def body : Code := bodyOf Tryz.f72
noncomputable abbrev ev (K : Nat) : Code → St → (Ex → St → Option Res) → Option Res := evK (G K) T_D L K
noncomputable abbrev fin : Ex → St → Option Res := finK T_D ps rs true Tryz.f72.results.toList
noncomputable def S_l0 (x : Args ps) (a : A_l0) : St := mkSt [(0, ⟨0, .one, [.ro true 165 t33 x.1]⟩), (3, ⟨0, .one, [.own false none 94 t11 a.1]⟩), (4, ⟨0, .one, [.int .i64 a.2]⟩)]
noncomputable def k_l0 (K : Nat) (x : Args ps) : Ex → St → Option Res := kAt (ev K) body [1, 1, 0, 1, 0] fin
noncomputable def N_l0 (K : Nat) (x : Args ps) : A_l0 → Option Res := fun a => evLoop live_l0 (ev K (sub body [1, 1, 0, 1, 0, 0])) K (S_l0 x a) (k_l0 K x)
end laws_toPlaceS
namespace laws_toForeign
@[reducible] def ps : List PK := [.rd t34]
@[reducible] def rs : List RK := [.v t12]
abbrev Res := Ress rs × Outs ps
noncomputable def pre (K : Nat) (x : Args ps) : Option Res := (laws_toFactS.f K (x.1.2, ())).bind fun y1 => some (((x.1.1, y1.1.1), ()), ())
noncomputable def f (K : Nat) (x : Args ps) : Option Res := pre K x
noncomputable def c (K : Nat) : Ctr := ⟨169, ps, rs, true, f K⟩
noncomputable def G (K : Nat) : List Ctr := [laws_toFactS.c K]
noncomputable def L : List (Nat × List (Nat × List Coe)) := []
noncomputable def body : Code := bodyOf Tryz.f169
noncomputable abbrev ev (K : Nat) : Code → St → (Ex → St → Option Res) → Option Res := evK (G K) T_D L K
noncomputable abbrev fin : Ex → St → Option Res := finK T_D ps rs true Tryz.f169.results.toList
end laws_toForeign
namespace laws_toForeignS
@[reducible] def ps : List PK := [.rd (.list false 168 t34)]
@[reducible] def rs : List RK := [.v (.list true 119 t12)]
abbrev Res := Ress rs × Outs ps
abbrev A_l0 := List (Ty.den t12) × Int
noncomputable def l0.step (K : Nat) (x : Args ps) (rec_l0 : A_l0 → Option Res) (a : A_l0) : Option Res := bif decide (a.2 < (List.length x.1 : Int)) then ((idx x.1 a.2).bind fun y1 => (laws_toForeign.f K (y1, ())).bind fun y2 => (idx a.1 a.2).bind fun _ => (idx a.1 (Int.toNat a.2 : Nat)).bind fun y4 => rec_l0 (a.1.set (Int.toNat a.2) y2.1.1, wr .i64 (a.2 + 1))) else (some ((a.1, ()), ()))
noncomputable def l0 (K : Nat) (x : Args ps) : A_l0 → Option Res := iterate (fun rec_l0 a => l0.step K x rec_l0 a) K
noncomputable def pre (K : Nat) (N_l0 : A_l0 → Option Res) (x : Args ps) : Option Res := bif decide (0 ≤ (List.length x.1 : Int)) && decide ((List.length x.1 : Int) = (List.length x.1 : Int)) && decide ((List.length x.1 : Int) * (32 : Nat) ≤ sizeK) then (N_l0 (List.replicate (Int.toNat (List.length x.1 : Int)) ((0, []) : Ty.den t12), 0)) else none
noncomputable def f (K : Nat) (x : Args ps) : Option Res := pre K (l0 K x) x
noncomputable def c (K : Nat) : Ctr := ⟨73, ps, rs, true, f K⟩
noncomputable def G (K : Nat) : List Ctr := [laws_toForeign.c K]
noncomputable def live_l0 : List (Nat × List Coe) := [(0, [.ro true 168 t34]), (3, [.own false 119 t12]), (4, [.keep])]
noncomputable def L : List (Nat × List (Nat × List Coe)) := [(4, live_l0)]
noncomputable def body : Code := bodyOf Tryz.f73
noncomputable abbrev ev (K : Nat) : Code → St → (Ex → St → Option Res) → Option Res := evK (G K) T_D L K
noncomputable abbrev fin : Ex → St → Option Res := finK T_D ps rs true Tryz.f73.results.toList
noncomputable def S_l0 (x : Args ps) (a : A_l0) : St := mkSt [(0, ⟨0, .one, [.ro true 168 t34 x.1]⟩), (3, ⟨0, .one, [.own false none 119 t12 a.1]⟩), (4, ⟨0, .one, [.int .i64 a.2]⟩)]
noncomputable def k_l0 (K : Nat) (x : Args ps) : Ex → St → Option Res := kAt (ev K) body [1, 1, 0, 1, 0] fin
noncomputable def N_l0 (K : Nat) (x : Args ps) : A_l0 → Option Res := fun a => evLoop live_l0 (ev K (sub body [1, 1, 0, 1, 0, 0])) K (S_l0 x a) (k_l0 K x)
end laws_toForeignS
namespace laws_toNode
@[reducible] def ps : List PK := [.rd t48]
@[reducible] def rs : List RK := [.v t26]
abbrev Res := Ress rs × Outs ps
noncomputable def pre (K : Nat) (x : Args ps) : Option Res := (laws_toFactS.f K (x.1.2.2.2.2.2.2.2.2.1, ())).bind fun y1 => (laws_toItemS.f K (x.1.2.2.2.2.2.2.2.2.2.1, ())).bind fun y2 => (laws_toProbe.f K (x.1.2.2.2.2.2.2.2.2.2.2.1, ())).bind fun y3 => (laws_toDoubtS.f K (x.1.2.2.2.2.2.2.2.2.2.2.2.1, ())).bind fun y4 => (laws_toCoord.f K (x.1.2.2.2.2.2.2.2.2.2.2.2.2.1, ())).bind fun y5 => (laws_toPlaceS.f K (x.1.2.2.2.2.2.2.2.2.2.2.2.2.2.1, ())).bind fun y6 => (laws_toForeignS.f K (x.1.2.2.2.2.2.2.2.2.2.2.2.2.2.2, ())).bind fun y7 => some (((x.1.1, (x.1.2.1, (x.1.2.2.1, (x.1.2.2.2.1, (x.1.2.2.2.2.1, (x.1.2.2.2.2.2.1, (x.1.2.2.2.2.2.2.1, (x.1.2.2.2.2.2.2.2.1, (y1.1.1, (y2.1.1, (y3.1.1, (y4.1.1, (y5.1.1, (y6.1.1, y7.1.1)))))))))))))), ()), ())
noncomputable def f (K : Nat) (x : Args ps) : Option Res := pre K x
noncomputable def c (K : Nat) : Ctr := ⟨17, ps, rs, true, f K⟩
noncomputable def G (K : Nat) : List Ctr := [laws_toFactS.c K, laws_toItemS.c K, laws_toProbe.c K, laws_toDoubtS.c K, laws_toCoord.c K, laws_toPlaceS.c K, laws_toForeignS.c K]
noncomputable def L : List (Nat × List (Nat × List Coe)) := []
noncomputable def body : Code := bodyOf Tryz.f17
noncomputable abbrev ev (K : Nat) : Code → St → (Ex → St → Option Res) → Option Res := evK (G K) T_D L K
noncomputable abbrev fin : Ex → St → Option Res := finK T_D ps rs true Tryz.f17.results.toList
end laws_toNode
namespace laws_toNodeS
@[reducible] def ps : List PK := [.rd (.list false 32 t48)]
@[reducible] def rs : List RK := [.v (.list true 44 t26)]
abbrev Res := Ress rs × Outs ps
abbrev A_l0 := List (Ty.den t26) × Int
noncomputable def l0.step (K : Nat) (x : Args ps) (rec_l0 : A_l0 → Option Res) (a : A_l0) : Option Res := bif decide (a.2 < (List.length x.1 : Int)) then ((idx x.1 a.2).bind fun y1 => (laws_toNode.f K (y1, ())).bind fun y2 => (idx a.1 a.2).bind fun _ => (idx a.1 (Int.toNat a.2 : Nat)).bind fun y4 => rec_l0 (a.1.set (Int.toNat a.2) y2.1.1, wr .i64 (a.2 + 1))) else (some ((a.1, ()), ()))
noncomputable def l0 (K : Nat) (x : Args ps) : A_l0 → Option Res := iterate (fun rec_l0 a => l0.step K x rec_l0 a) K
noncomputable def pre (K : Nat) (N_l0 : A_l0 → Option Res) (x : Args ps) : Option Res := bif decide (0 ≤ (List.length x.1 : Int)) && decide ((List.length x.1 : Int) = (List.length x.1 : Int)) && decide ((List.length x.1 : Int) * (232 : Nat) ≤ sizeK) then (N_l0 (List.replicate (Int.toNat (List.length x.1 : Int)) ((0, (false, (false, (false, (0, (0, (0, (0, ([], ([], ((0, (0, (0, false))), ([], ((0, (0, (0, 0))), ([], [])))))))))))))) : Ty.den t26), 0)) else none
noncomputable def f (K : Nat) (x : Args ps) : Option Res := pre K (l0 K x) x
noncomputable def c (K : Nat) : Ctr := ⟨107, ps, rs, true, f K⟩
noncomputable def G (K : Nat) : List Ctr := [laws_toNode.c K]
noncomputable def live_l0 : List (Nat × List Coe) := [(0, [.ro true 32 t48]), (3, [.own false 44 t26]), (4, [.keep])]
noncomputable def L : List (Nat × List (Nat × List Coe)) := [(4, live_l0)]
noncomputable def body : Code := bodyOf Tryz.f107
noncomputable abbrev ev (K : Nat) : Code → St → (Ex → St → Option Res) → Option Res := evK (G K) T_D L K
noncomputable abbrev fin : Ex → St → Option Res := finK T_D ps rs true Tryz.f107.results.toList
noncomputable def S_l0 (x : Args ps) (a : A_l0) : St := mkSt [(0, ⟨0, .one, [.ro true 32 t48 x.1]⟩), (3, ⟨0, .one, [.own false none 44 t26 a.1]⟩), (4, ⟨0, .one, [.int .i64 a.2]⟩)]
noncomputable def k_l0 (K : Nat) (x : Args ps) : Ex → St → Option Res := kAt (ev K) body [1, 1, 0, 1, 0] fin
noncomputable def N_l0 (K : Nat) (x : Args ps) : A_l0 → Option Res := fun a => evLoop live_l0 (ev K (sub body [1, 1, 0, 1, 0, 0])) K (S_l0 x a) (k_l0 K x)
end laws_toNodeS
namespace laws_toFlight
@[reducible] def ps : List PK := [.rd t28]
@[reducible] def rs : List RK := [.v t28]
abbrev Res := Ress rs × Outs ps
noncomputable def pre (K : Nat) (x : Args ps) : Option Res := some ((x.1, ()), ())
noncomputable def f (K : Nat) (x : Args ps) : Option Res := pre K x
noncomputable def c (K : Nat) : Ctr := ⟨188, ps, rs, true, f K⟩
noncomputable def G (K : Nat) : List Ctr := []
noncomputable def L : List (Nat × List (Nat × List Coe)) := []
noncomputable def body : Code := bodyOf Tryz.f188
noncomputable abbrev ev (K : Nat) : Code → St → (Ex → St → Option Res) → Option Res := evK (G K) T_D L K
noncomputable abbrev fin : Ex → St → Option Res := finK T_D ps rs true Tryz.f188.results.toList
end laws_toFlight
namespace laws_toFlightS
@[reducible] def ps : List PK := [.rd (.list false 187 t28)]
@[reducible] def rs : List RK := [.v (.list true 129 t28)]
abbrev Res := Ress rs × Outs ps
abbrev A_l0 := List (Ty.den t28) × Int
noncomputable def l0.step (K : Nat) (x : Args ps) (rec_l0 : A_l0 → Option Res) (a : A_l0) : Option Res := bif decide (a.2 < (List.length x.1 : Int)) then ((idx x.1 a.2).bind fun y1 => (laws_toFlight.f K (y1, ())).bind fun y2 => (idx a.1 a.2).bind fun _ => (idx a.1 (Int.toNat a.2 : Nat)).bind fun y4 => rec_l0 (a.1.set (Int.toNat a.2) y2.1.1, wr .i64 (a.2 + 1))) else (some ((a.1, ()), ()))
noncomputable def l0 (K : Nat) (x : Args ps) : A_l0 → Option Res := iterate (fun rec_l0 a => l0.step K x rec_l0 a) K
noncomputable def pre (K : Nat) (N_l0 : A_l0 → Option Res) (x : Args ps) : Option Res := bif decide (0 ≤ (List.length x.1 : Int)) && decide ((List.length x.1 : Int) = (List.length x.1 : Int)) && decide ((List.length x.1 : Int) * (32 : Nat) ≤ sizeK) then (N_l0 (List.replicate (Int.toNat (List.length x.1 : Int)) ((0, (ByteArray.empty, false)) : Ty.den t28), 0)) else none
noncomputable def f (K : Nat) (x : Args ps) : Option Res := pre K (l0 K x) x
noncomputable def c (K : Nat) : Ctr := ⟨108, ps, rs, true, f K⟩
noncomputable def G (K : Nat) : List Ctr := [laws_toFlight.c K]
noncomputable def live_l0 : List (Nat × List Coe) := [(0, [.ro true 187 t28]), (3, [.own false 129 t28]), (4, [.keep])]
noncomputable def L : List (Nat × List (Nat × List Coe)) := [(4, live_l0)]
noncomputable def body : Code := bodyOf Tryz.f108
noncomputable abbrev ev (K : Nat) : Code → St → (Ex → St → Option Res) → Option Res := evK (G K) T_D L K
noncomputable abbrev fin : Ex → St → Option Res := finK T_D ps rs true Tryz.f108.results.toList
noncomputable def S_l0 (x : Args ps) (a : A_l0) : St := mkSt [(0, ⟨0, .one, [.ro true 187 t28 x.1]⟩), (3, ⟨0, .one, [.own false none 129 t28 a.1]⟩), (4, ⟨0, .one, [.int .i64 a.2]⟩)]
noncomputable def k_l0 (K : Nat) (x : Args ps) : Ex → St → Option Res := kAt (ev K) body [1, 1, 0, 1, 0] fin
noncomputable def N_l0 (K : Nat) (x : Args ps) : A_l0 → Option Res := fun a => evLoop live_l0 (ev K (sub body [1, 1, 0, 1, 0, 0])) K (S_l0 x a) (k_l0 K x)
end laws_toFlightS
namespace laws_toWorld
@[reducible] def ps : List PK := [.rd t51]
@[reducible] def rs : List RK := [.v t54]
abbrev Res := Ress rs × Outs ps
noncomputable def pre (K : Nat) (x : Args ps) : Option Res := (laws_toNodeS.f K (x.1.1, ())).bind fun y1 => (laws_toFlightS.f K (x.1.2.1, ())).bind fun y2 => (laws_toIntS.f K (x.1.2.2.1, ())).bind fun y3 => (laws_toFactS.f K (x.1.2.2.2, ())).bind fun y4 => some (((y1.1.1, (y2.1.1, (y3.1.1, y4.1.1))), ()), ())
noncomputable def f (K : Nat) (x : Args ps) : Option Res := pre K x
noncomputable def c (K : Nat) : Ctr := ⟨33, ps, rs, true, f K⟩
noncomputable def G (K : Nat) : List Ctr := [laws_toFactS.c K, laws_toNodeS.c K, laws_toFlightS.c K, laws_toIntS.c K]
noncomputable def L : List (Nat × List (Nat × List Coe)) := []
noncomputable def body : Code := bodyOf Tryz.f33
noncomputable abbrev ev (K : Nat) : Code → St → (Ex → St → Option Res) → Option Res := evK (G K) T_D L K
noncomputable abbrev fin : Ex → St → Option Res := finK T_D ps rs true Tryz.f33.results.toList
end laws_toWorld
namespace laws_eqIntS
@[reducible] def ps : List PK := [.rd (.list false 3 (.int .i64)), .rd (.list false 3 (.int .i64))]
@[reducible] def rs : List RK := [.v .bool]
abbrev Res := Ress rs × Outs ps
abbrev A_l0 := Int
noncomputable def l0.step (K : Nat) (x : Args ps) (rec_l0 : A_l0 → Option Res) (a : A_l0) : Option Res := bif decide (a < (List.length x.1 : Int)) then ((idx x.1 a).bind fun y1 => (idx x.2.1 a).bind fun y2 => bif y1 != y2 then (some ((false, ()), ())) else (rec_l0 (wr .i64 (a + 1)))) else (some ((true, ()), ()))
noncomputable def l0 (K : Nat) (x : Args ps) : A_l0 → Option Res := iterate (fun rec_l0 a => l0.step K x rec_l0 a) K
noncomputable def pre (K : Nat) (N_l0 : A_l0 → Option Res) (x : Args ps) : Option Res := bif (List.length x.1 : Int) != (List.length x.2.1 : Int) then (some ((false, ()), ())) else (N_l0 0)
noncomputable def f (K : Nat) (x : Args ps) : Option Res := pre K (l0 K x) x
noncomputable def c (K : Nat) : Ctr := ⟨27, ps, rs, true, f K⟩
noncomputable def G (K : Nat) : List Ctr := []
noncomputable def live_l0 : List (Nat × List Coe) := [(0, [.ro true 3 (.int .i64)]), (1, [.ro true 3 (.int .i64)]), (5, [.keep])]
noncomputable def L : List (Nat × List (Nat × List Coe)) := [(5, live_l0)]
noncomputable def body : Code := bodyOf Tryz.f27
noncomputable abbrev ev (K : Nat) : Code → St → (Ex → St → Option Res) → Option Res := evK (G K) T_D L K
noncomputable abbrev fin : Ex → St → Option Res := finK T_D ps rs true Tryz.f27.results.toList
noncomputable def S_l0 (x : Args ps) (a : A_l0) : St := mkSt [(0, ⟨0, .one, [.ro true 3 (.int .i64) x.1]⟩), (1, ⟨0, .one, [.ro true 3 (.int .i64) x.2.1]⟩), (5, ⟨0, .one, [.int .i64 a]⟩)]
noncomputable def k_l0 (K : Nat) (x : Args ps) : Ex → St → Option Res := kAt (ev K) body [1, 1, 0, 1, 0] fin
noncomputable def N_l0 (K : Nat) (x : Args ps) : A_l0 → Option Res := fun a => evLoop live_l0 (ev K (sub body [1, 1, 0, 1, 0, 0])) K (S_l0 x a) (k_l0 K x)
end laws_eqIntS
namespace laws_eqFact
@[reducible] def ps : List PK := [.rd t2, .rd t2]
@[reducible] def rs : List RK := [.v .bool]
abbrev Res := Ress rs × Outs ps
noncomputable def pre (K : Nat) (x : Args ps) : Option Res := bif x.1.1 != x.2.1.1 then (some ((false, ()), ())) else (bif x.1.2.1 != x.2.1.2.1 then (some ((false, ()), ())) else (bif x.1.2.2.1 != x.2.1.2.2.1 then (some ((false, ()), ())) else (bif x.1.2.2.2 != x.2.1.2.2.2 then (some ((false, ()), ())) else (some ((true, ()), ())))))
noncomputable def f (K : Nat) (x : Args ps) : Option Res := pre K x
noncomputable def c (K : Nat) : Ctr := ⟨136, ps, rs, true, f K⟩
noncomputable def G (K : Nat) : List Ctr := []
noncomputable def L : List (Nat × List (Nat × List Coe)) := []
noncomputable def body : Code := bodyOf Tryz.f136
noncomputable abbrev ev (K : Nat) : Code → St → (Ex → St → Option Res) → Option Res := evK (G K) T_D L K
noncomputable abbrev fin : Ex → St → Option Res := finK T_D ps rs true Tryz.f136.results.toList
end laws_eqFact
namespace laws_eqFactS
@[reducible] def ps : List PK := [.rd (.list false 132 t2), .rd (.list false 132 t2)]
@[reducible] def rs : List RK := [.v .bool]
abbrev Res := Ress rs × Outs ps
abbrev A_l0 := Int
noncomputable def l0.step (K : Nat) (x : Args ps) (rec_l0 : A_l0 → Option Res) (a : A_l0) : Option Res := bif decide (a < (List.length x.1 : Int)) then ((idx x.1 a).bind fun y1 => (idx x.2.1 a).bind fun y2 => (laws_eqFact.f K (y1, y2, ())).bind fun y3 => bif !y3.1.1 then (some ((false, ()), ())) else (rec_l0 (wr .i64 (a + 1)))) else (some ((true, ()), ()))
noncomputable def l0 (K : Nat) (x : Args ps) : A_l0 → Option Res := iterate (fun rec_l0 a => l0.step K x rec_l0 a) K
noncomputable def pre (K : Nat) (N_l0 : A_l0 → Option Res) (x : Args ps) : Option Res := bif (List.length x.1 : Int) != (List.length x.2.1 : Int) then (some ((false, ()), ())) else (N_l0 0)
noncomputable def f (K : Nat) (x : Args ps) : Option Res := pre K (l0 K x) x
noncomputable def c (K : Nat) : Ctr := ⟨46, ps, rs, true, f K⟩
noncomputable def G (K : Nat) : List Ctr := [laws_eqFact.c K]
noncomputable def live_l0 : List (Nat × List Coe) := [(0, [.ro true 132 t2]), (1, [.ro true 132 t2]), (5, [.keep])]
noncomputable def L : List (Nat × List (Nat × List Coe)) := [(5, live_l0)]
noncomputable def body : Code := bodyOf Tryz.f46
noncomputable abbrev ev (K : Nat) : Code → St → (Ex → St → Option Res) → Option Res := evK (G K) T_D L K
noncomputable abbrev fin : Ex → St → Option Res := finK T_D ps rs true Tryz.f46.results.toList
noncomputable def S_l0 (x : Args ps) (a : A_l0) : St := mkSt [(0, ⟨0, .one, [.ro true 132 t2 x.1]⟩), (1, ⟨0, .one, [.ro true 132 t2 x.2.1]⟩), (5, ⟨0, .one, [.int .i64 a]⟩)]
noncomputable def k_l0 (K : Nat) (x : Args ps) : Ex → St → Option Res := kAt (ev K) body [1, 1, 0, 1, 0] fin
noncomputable def N_l0 (K : Nat) (x : Args ps) : A_l0 → Option Res := fun a => evLoop live_l0 (ev K (sub body [1, 1, 0, 1, 0, 0])) K (S_l0 x a) (k_l0 K x)
end laws_eqFactS
namespace laws_eqItem
@[reducible] def ps : List PK := [.rd t3, .rd t3]
@[reducible] def rs : List RK := [.v .bool]
abbrev Res := Ress rs × Outs ps
noncomputable def pre (K : Nat) (x : Args ps) : Option Res := (laws_eqFact.f K (x.1.1, x.2.1.1, ())).bind fun y1 => bif !y1.1.1 then (some ((false, ()), ())) else (bif x.1.2 != x.2.1.2 then (some ((false, ()), ())) else (some ((true, ()), ())))
noncomputable def f (K : Nat) (x : Args ps) : Option Res := pre K x
noncomputable def c (K : Nat) : Ctr := ⟨178, ps, rs, true, f K⟩
noncomputable def G (K : Nat) : List Ctr := [laws_eqFact.c K]
noncomputable def L : List (Nat × List (Nat × List Coe)) := []
noncomputable def body : Code := bodyOf Tryz.f178
noncomputable abbrev ev (K : Nat) : Code → St → (Ex → St → Option Res) → Option Res := evK (G K) T_D L K
noncomputable abbrev fin : Ex → St → Option Res := finK T_D ps rs true Tryz.f178.results.toList
end laws_eqItem
namespace laws_eqItemS
@[reducible] def ps : List PK := [.rd (.list false 173 t3), .rd (.list false 173 t3)]
@[reducible] def rs : List RK := [.v .bool]
abbrev Res := Ress rs × Outs ps
abbrev A_l0 := Int
noncomputable def l0.step (K : Nat) (x : Args ps) (rec_l0 : A_l0 → Option Res) (a : A_l0) : Option Res := bif decide (a < (List.length x.1 : Int)) then ((idx x.1 a).bind fun y1 => (idx x.2.1 a).bind fun y2 => (laws_eqItem.f K (y1, y2, ())).bind fun y3 => bif !y3.1.1 then (some ((false, ()), ())) else (rec_l0 (wr .i64 (a + 1)))) else (some ((true, ()), ()))
noncomputable def l0 (K : Nat) (x : Args ps) : A_l0 → Option Res := iterate (fun rec_l0 a => l0.step K x rec_l0 a) K
noncomputable def pre (K : Nat) (N_l0 : A_l0 → Option Res) (x : Args ps) : Option Res := bif (List.length x.1 : Int) != (List.length x.2.1 : Int) then (some ((false, ()), ())) else (N_l0 0)
noncomputable def f (K : Nat) (x : Args ps) : Option Res := pre K (l0 K x) x
noncomputable def c (K : Nat) : Ctr := ⟨78, ps, rs, true, f K⟩
noncomputable def G (K : Nat) : List Ctr := [laws_eqItem.c K]
noncomputable def live_l0 : List (Nat × List Coe) := [(0, [.ro true 173 t3]), (1, [.ro true 173 t3]), (5, [.keep])]
noncomputable def L : List (Nat × List (Nat × List Coe)) := [(5, live_l0)]
noncomputable def body : Code := bodyOf Tryz.f78
noncomputable abbrev ev (K : Nat) : Code → St → (Ex → St → Option Res) → Option Res := evK (G K) T_D L K
noncomputable abbrev fin : Ex → St → Option Res := finK T_D ps rs true Tryz.f78.results.toList
noncomputable def S_l0 (x : Args ps) (a : A_l0) : St := mkSt [(0, ⟨0, .one, [.ro true 173 t3 x.1]⟩), (1, ⟨0, .one, [.ro true 173 t3 x.2.1]⟩), (5, ⟨0, .one, [.int .i64 a]⟩)]
noncomputable def k_l0 (K : Nat) (x : Args ps) : Ex → St → Option Res := kAt (ev K) body [1, 1, 0, 1, 0] fin
noncomputable def N_l0 (K : Nat) (x : Args ps) : A_l0 → Option Res := fun a => evLoop live_l0 (ev K (sub body [1, 1, 0, 1, 0, 0])) K (S_l0 x a) (k_l0 K x)
end laws_eqItemS
namespace laws_eqProbe
@[reducible] def ps : List PK := [.rd t2, .rd t2]
@[reducible] def rs : List RK := [.v .bool]
abbrev Res := Ress rs × Outs ps
noncomputable def pre (K : Nat) (x : Args ps) : Option Res := bif x.1.1 != x.2.1.1 then (some ((false, ()), ())) else (bif x.1.2.1 != x.2.1.2.1 then (some ((false, ()), ())) else (bif x.1.2.2.1 != x.2.1.2.2.1 then (some ((false, ()), ())) else (bif x.1.2.2.2 != x.2.1.2.2.2 then (some ((false, ()), ())) else (some ((true, ()), ())))))
noncomputable def f (K : Nat) (x : Args ps) : Option Res := pre K x
noncomputable def c (K : Nat) : Ctr := ⟨79, ps, rs, true, f K⟩
noncomputable def G (K : Nat) : List Ctr := []
noncomputable def L : List (Nat × List (Nat × List Coe)) := []
noncomputable def body : Code := bodyOf Tryz.f79
noncomputable abbrev ev (K : Nat) : Code → St → (Ex → St → Option Res) → Option Res := evK (G K) T_D L K
noncomputable abbrev fin : Ex → St → Option Res := finK T_D ps rs true Tryz.f79.results.toList
end laws_eqProbe
namespace laws_eqDoubt
@[reducible] def ps : List PK := [.rd t31, .rd t31]
@[reducible] def rs : List RK := [.v .bool]
abbrev Res := Ress rs × Outs ps
noncomputable def pre (K : Nat) (x : Args ps) : Option Res := bif x.1.1 != x.2.1.1 then (some ((false, ()), ())) else (bif x.1.2.1 != x.2.1.2.1 then (some ((false, ()), ())) else (bif x.1.2.2.1 != x.2.1.2.2.1 then (some ((false, ()), ())) else ((laws_eqIntS.f K (x.1.2.2.2, x.2.1.2.2.2, ())).bind fun y1 => bif !y1.1.1 then (some ((false, ()), ())) else (some ((true, ()), ())))))
noncomputable def f (K : Nat) (x : Args ps) : Option Res := pre K x
noncomputable def c (K : Nat) : Ctr := ⟨179, ps, rs, true, f K⟩
noncomputable def G (K : Nat) : List Ctr := [laws_eqIntS.c K]
noncomputable def L : List (Nat × List (Nat × List Coe)) := []
noncomputable def body : Code := bodyOf Tryz.f179
noncomputable abbrev ev (K : Nat) : Code → St → (Ex → St → Option Res) → Option Res := evK (G K) T_D L K
noncomputable abbrev fin : Ex → St → Option Res := finK T_D ps rs true Tryz.f179.results.toList
end laws_eqDoubt
namespace laws_eqDoubtS
@[reducible] def ps : List PK := [.rd (.list false 177 t31), .rd (.list false 177 t31)]
@[reducible] def rs : List RK := [.v .bool]
abbrev Res := Ress rs × Outs ps
abbrev A_l0 := Int
noncomputable def l0.step (K : Nat) (x : Args ps) (rec_l0 : A_l0 → Option Res) (a : A_l0) : Option Res := bif decide (a < (List.length x.1 : Int)) then ((idx x.1 a).bind fun y1 => (idx x.2.1 a).bind fun y2 => (laws_eqDoubt.f K (y1, y2, ())).bind fun y3 => bif !y3.1.1 then (some ((false, ()), ())) else (rec_l0 (wr .i64 (a + 1)))) else (some ((true, ()), ()))
noncomputable def l0 (K : Nat) (x : Args ps) : A_l0 → Option Res := iterate (fun rec_l0 a => l0.step K x rec_l0 a) K
noncomputable def pre (K : Nat) (N_l0 : A_l0 → Option Res) (x : Args ps) : Option Res := bif (List.length x.1 : Int) != (List.length x.2.1 : Int) then (some ((false, ()), ())) else (N_l0 0)
noncomputable def f (K : Nat) (x : Args ps) : Option Res := pre K (l0 K x) x
noncomputable def c (K : Nat) : Ctr := ⟨80, ps, rs, true, f K⟩
noncomputable def G (K : Nat) : List Ctr := [laws_eqDoubt.c K]
noncomputable def live_l0 : List (Nat × List Coe) := [(0, [.ro true 177 t31]), (1, [.ro true 177 t31]), (5, [.keep])]
noncomputable def L : List (Nat × List (Nat × List Coe)) := [(5, live_l0)]
noncomputable def body : Code := bodyOf Tryz.f80
noncomputable abbrev ev (K : Nat) : Code → St → (Ex → St → Option Res) → Option Res := evK (G K) T_D L K
noncomputable abbrev fin : Ex → St → Option Res := finK T_D ps rs true Tryz.f80.results.toList
noncomputable def S_l0 (x : Args ps) (a : A_l0) : St := mkSt [(0, ⟨0, .one, [.ro true 177 t31 x.1]⟩), (1, ⟨0, .one, [.ro true 177 t31 x.2.1]⟩), (5, ⟨0, .one, [.int .i64 a]⟩)]
noncomputable def k_l0 (K : Nat) (x : Args ps) : Ex → St → Option Res := kAt (ev K) body [1, 1, 0, 1, 0] fin
noncomputable def N_l0 (K : Nat) (x : Args ps) : A_l0 → Option Res := fun a => evLoop live_l0 (ev K (sub body [1, 1, 0, 1, 0, 0])) K (S_l0 x a) (k_l0 K x)
end laws_eqDoubtS
namespace laws_eqCoord
@[reducible] def ps : List PK := [.rd t9, .rd t9]
@[reducible] def rs : List RK := [.v .bool]
abbrev Res := Ress rs × Outs ps
noncomputable def pre (K : Nat) (x : Args ps) : Option Res := bif x.1.1 != x.2.1.1 then (some ((false, ()), ())) else (bif x.1.2.1 != x.2.1.2.1 then (some ((false, ()), ())) else (bif x.1.2.2.1 != x.2.1.2.2.1 then (some ((false, ()), ())) else (bif x.1.2.2.2 != x.2.1.2.2.2 then (some ((false, ()), ())) else (some ((true, ()), ())))))
noncomputable def f (K : Nat) (x : Args ps) : Option Res := pre K x
noncomputable def c (K : Nat) : Ctr := ⟨81, ps, rs, true, f K⟩
noncomputable def G (K : Nat) : List Ctr := []
noncomputable def L : List (Nat × List (Nat × List Coe)) := []
noncomputable def body : Code := bodyOf Tryz.f81
noncomputable abbrev ev (K : Nat) : Code → St → (Ex → St → Option Res) → Option Res := evK (G K) T_D L K
noncomputable abbrev fin : Ex → St → Option Res := finK T_D ps rs true Tryz.f81.results.toList
end laws_eqCoord
namespace laws_eqPlace
@[reducible] def ps : List PK := [.rd t33, .rd t33]
@[reducible] def rs : List RK := [.v .bool]
abbrev Res := Ress rs × Outs ps
noncomputable def pre (K : Nat) (x : Args ps) : Option Res := bif x.1.1 != x.2.1.1 then (some ((false, ()), ())) else ((laws_eqCoord.f K (x.1.2.1, x.2.1.2.1, ())).bind fun y1 => bif !y1.1.1 then (some ((false, ()), ())) else ((laws_eqIntS.f K (x.1.2.2, x.2.1.2.2, ())).bind fun y2 => bif !y2.1.1 then (some ((false, ()), ())) else (some ((true, ()), ()))))
noncomputable def f (K : Nat) (x : Args ps) : Option Res := pre K x
noncomputable def c (K : Nat) : Ctr := ⟨180, ps, rs, true, f K⟩
noncomputable def G (K : Nat) : List Ctr := [laws_eqIntS.c K, laws_eqCoord.c K]
noncomputable def L : List (Nat × List (Nat × List Coe)) := []
noncomputable def body : Code := bodyOf Tryz.f180
noncomputable abbrev ev (K : Nat) : Code → St → (Ex → St → Option Res) → Option Res := evK (G K) T_D L K
noncomputable abbrev fin : Ex → St → Option Res := finK T_D ps rs true Tryz.f180.results.toList
end laws_eqPlace
namespace laws_eqPlaceS
@[reducible] def ps : List PK := [.rd (.list false 94 t33), .rd (.list false 94 t33)]
@[reducible] def rs : List RK := [.v .bool]
abbrev Res := Ress rs × Outs ps
abbrev A_l0 := Int
noncomputable def l0.step (K : Nat) (x : Args ps) (rec_l0 : A_l0 → Option Res) (a : A_l0) : Option Res := bif decide (a < (List.length x.1 : Int)) then ((idx x.1 a).bind fun y1 => (idx x.2.1 a).bind fun y2 => (laws_eqPlace.f K (y1, y2, ())).bind fun y3 => bif !y3.1.1 then (some ((false, ()), ())) else (rec_l0 (wr .i64 (a + 1)))) else (some ((true, ()), ()))
noncomputable def l0 (K : Nat) (x : Args ps) : A_l0 → Option Res := iterate (fun rec_l0 a => l0.step K x rec_l0 a) K
noncomputable def pre (K : Nat) (N_l0 : A_l0 → Option Res) (x : Args ps) : Option Res := bif (List.length x.1 : Int) != (List.length x.2.1 : Int) then (some ((false, ()), ())) else (N_l0 0)
noncomputable def f (K : Nat) (x : Args ps) : Option Res := pre K (l0 K x) x
noncomputable def c (K : Nat) : Ctr := ⟨82, ps, rs, true, f K⟩
noncomputable def G (K : Nat) : List Ctr := [laws_eqPlace.c K]
noncomputable def live_l0 : List (Nat × List Coe) := [(0, [.ro true 94 t33]), (1, [.ro true 94 t33]), (5, [.keep])]
noncomputable def L : List (Nat × List (Nat × List Coe)) := [(5, live_l0)]
noncomputable def body : Code := bodyOf Tryz.f82
noncomputable abbrev ev (K : Nat) : Code → St → (Ex → St → Option Res) → Option Res := evK (G K) T_D L K
noncomputable abbrev fin : Ex → St → Option Res := finK T_D ps rs true Tryz.f82.results.toList
noncomputable def S_l0 (x : Args ps) (a : A_l0) : St := mkSt [(0, ⟨0, .one, [.ro true 94 t33 x.1]⟩), (1, ⟨0, .one, [.ro true 94 t33 x.2.1]⟩), (5, ⟨0, .one, [.int .i64 a]⟩)]
noncomputable def k_l0 (K : Nat) (x : Args ps) : Ex → St → Option Res := kAt (ev K) body [1, 1, 0, 1, 0] fin
noncomputable def N_l0 (K : Nat) (x : Args ps) : A_l0 → Option Res := fun a => evLoop live_l0 (ev K (sub body [1, 1, 0, 1, 0, 0])) K (S_l0 x a) (k_l0 K x)
end laws_eqPlaceS
namespace laws_eqForeign
@[reducible] def ps : List PK := [.rd t55, .rd t55]
@[reducible] def rs : List RK := [.v .bool]
abbrev Res := Ress rs × Outs ps
noncomputable def pre (K : Nat) (x : Args ps) : Option Res := bif x.1.1 != x.2.1.1 then (some ((false, ()), ())) else ((laws_eqFactS.f K (x.1.2, x.2.1.2, ())).bind fun y1 => bif !y1.1.1 then (some ((false, ()), ())) else (some ((true, ()), ())))
noncomputable def f (K : Nat) (x : Args ps) : Option Res := pre K x
noncomputable def c (K : Nat) : Ctr := ⟨181, ps, rs, true, f K⟩
noncomputable def G (K : Nat) : List Ctr := [laws_eqFactS.c K]
noncomputable def L : List (Nat × List (Nat × List Coe)) := []
noncomputable def body : Code := bodyOf Tryz.f181
noncomputable abbrev ev (K : Nat) : Code → St → (Ex → St → Option Res) → Option Res := evK (G K) T_D L K
noncomputable abbrev fin : Ex → St → Option Res := finK T_D ps rs true Tryz.f181.results.toList
end laws_eqForeign
namespace laws_eqForeignS
@[reducible] def ps : List PK := [.rd (.list false 119 t55), .rd (.list false 119 t55)]
@[reducible] def rs : List RK := [.v .bool]
abbrev Res := Ress rs × Outs ps
abbrev A_l0 := Int
noncomputable def l0.step (K : Nat) (x : Args ps) (rec_l0 : A_l0 → Option Res) (a : A_l0) : Option Res := bif decide (a < (List.length x.1 : Int)) then ((idx x.1 a).bind fun y1 => (idx x.2.1 a).bind fun y2 => (laws_eqForeign.f K (y1, y2, ())).bind fun y3 => bif !y3.1.1 then (some ((false, ()), ())) else (rec_l0 (wr .i64 (a + 1)))) else (some ((true, ()), ()))
noncomputable def l0 (K : Nat) (x : Args ps) : A_l0 → Option Res := iterate (fun rec_l0 a => l0.step K x rec_l0 a) K
noncomputable def pre (K : Nat) (N_l0 : A_l0 → Option Res) (x : Args ps) : Option Res := bif (List.length x.1 : Int) != (List.length x.2.1 : Int) then (some ((false, ()), ())) else (N_l0 0)
noncomputable def f (K : Nat) (x : Args ps) : Option Res := pre K (l0 K x) x
noncomputable def c (K : Nat) : Ctr := ⟨83, ps, rs, true, f K⟩
noncomputable def G (K : Nat) : List Ctr := [laws_eqForeign.c K]
noncomputable def live_l0 : List (Nat × List Coe) := [(0, [.ro true 119 t55]), (1, [.ro true 119 t55]), (5, [.keep])]
noncomputable def L : List (Nat × List (Nat × List Coe)) := [(5, live_l0)]
noncomputable def body : Code := bodyOf Tryz.f83
noncomputable abbrev ev (K : Nat) : Code → St → (Ex → St → Option Res) → Option Res := evK (G K) T_D L K
noncomputable abbrev fin : Ex → St → Option Res := finK T_D ps rs true Tryz.f83.results.toList
noncomputable def S_l0 (x : Args ps) (a : A_l0) : St := mkSt [(0, ⟨0, .one, [.ro true 119 t55 x.1]⟩), (1, ⟨0, .one, [.ro true 119 t55 x.2.1]⟩), (5, ⟨0, .one, [.int .i64 a]⟩)]
noncomputable def k_l0 (K : Nat) (x : Args ps) : Ex → St → Option Res := kAt (ev K) body [1, 1, 0, 1, 0] fin
noncomputable def N_l0 (K : Nat) (x : Args ps) : A_l0 → Option Res := fun a => evLoop live_l0 (ev K (sub body [1, 1, 0, 1, 0, 0])) K (S_l0 x a) (k_l0 K x)
end laws_eqForeignS
namespace laws_eqNode
@[reducible] def ps : List PK := [.rd t69, .rd t69]
@[reducible] def rs : List RK := [.v .bool]
abbrev Res := Ress rs × Outs ps
noncomputable def pre (K : Nat) (x : Args ps) : Option Res := bif x.1.1 != x.2.1.1 then (some ((false, ()), ())) else (bif x.1.2.1 != x.2.1.2.1 then (some ((false, ()), ())) else (bif x.1.2.2.1 != x.2.1.2.2.1 then (some ((false, ()), ())) else (bif x.1.2.2.2.1 != x.2.1.2.2.2.1 then (some ((false, ()), ())) else (bif x.1.2.2.2.2.1 != x.2.1.2.2.2.2.1 then (some ((false, ()), ())) else (bif x.1.2.2.2.2.2.1 != x.2.1.2.2.2.2.2.1 then (some ((false, ()), ())) else (bif x.1.2.2.2.2.2.2.1 != x.2.1.2.2.2.2.2.2.1 then (some ((false, ()), ())) else (bif x.1.2.2.2.2.2.2.2.1 != x.2.1.2.2.2.2.2.2.2.1 then (some ((false, ()), ())) else ((laws_eqFactS.f K (x.1.2.2.2.2.2.2.2.2.1, x.2.1.2.2.2.2.2.2.2.2.1, ())).bind fun y1 => bif !y1.1.1 then (some ((false, ()), ())) else ((laws_eqItemS.f K (x.1.2.2.2.2.2.2.2.2.2.1, x.2.1.2.2.2.2.2.2.2.2.2.1, ())).bind fun y2 => bif !y2.1.1 then (some ((false, ()), ())) else ((laws_eqProbe.f K (x.1.2.2.2.2.2.2.2.2.2.2.1, x.2.1.2.2.2.2.2.2.2.2.2.2.1, ())).bind fun y3 => bif !y3.1.1 then (some ((false, ()), ())) else ((laws_eqDoubtS.f K (x.1.2.2.2.2.2.2.2.2.2.2.2.1, x.2.1.2.2.2.2.2.2.2.2.2.2.2.1, ())).bind fun y4 => bif !y4.1.1 then (some ((false, ()), ())) else ((laws_eqCoord.f K (x.1.2.2.2.2.2.2.2.2.2.2.2.2.1, x.2.1.2.2.2.2.2.2.2.2.2.2.2.2.1, ())).bind fun y5 => bif !y5.1.1 then (some ((false, ()), ())) else ((laws_eqPlaceS.f K (x.1.2.2.2.2.2.2.2.2.2.2.2.2.2.1, x.2.1.2.2.2.2.2.2.2.2.2.2.2.2.2.1, ())).bind fun y6 => bif !y6.1.1 then (some ((false, ()), ())) else ((laws_eqForeignS.f K (x.1.2.2.2.2.2.2.2.2.2.2.2.2.2.2, x.2.1.2.2.2.2.2.2.2.2.2.2.2.2.2.2, ())).bind fun y7 => bif !y7.1.1 then (some ((false, ()), ())) else (some ((true, ()), ()))))))))))))))))
noncomputable def f (K : Nat) (x : Args ps) : Option Res := pre K x
noncomputable def c (K : Nat) : Ctr := ⟨19, ps, rs, true, f K⟩
noncomputable def G (K : Nat) : List Ctr := [laws_eqFactS.c K, laws_eqItemS.c K, laws_eqProbe.c K, laws_eqDoubtS.c K, laws_eqCoord.c K, laws_eqPlaceS.c K, laws_eqForeignS.c K]
noncomputable def L : List (Nat × List (Nat × List Coe)) := []
noncomputable def body : Code := bodyOf Tryz.f19
noncomputable abbrev ev (K : Nat) : Code → St → (Ex → St → Option Res) → Option Res := evK (G K) T_D L K
noncomputable abbrev fin : Ex → St → Option Res := finK T_D ps rs true Tryz.f19.results.toList
end laws_eqNode
namespace laws_eqNodeS
@[reducible] def ps : List PK := [.rd (.list false 44 t69), .rd (.list false 44 t69)]
@[reducible] def rs : List RK := [.v .bool]
abbrev Res := Ress rs × Outs ps
abbrev A_l0 := Int
noncomputable def l0.step (K : Nat) (x : Args ps) (rec_l0 : A_l0 → Option Res) (a : A_l0) : Option Res := bif decide (a < (List.length x.1 : Int)) then ((idx x.1 a).bind fun y1 => (idx x.2.1 a).bind fun y2 => (laws_eqNode.f K (y1, y2, ())).bind fun y3 => bif !y3.1.1 then (some ((false, ()), ())) else (rec_l0 (wr .i64 (a + 1)))) else (some ((true, ()), ()))
noncomputable def l0 (K : Nat) (x : Args ps) : A_l0 → Option Res := iterate (fun rec_l0 a => l0.step K x rec_l0 a) K
noncomputable def pre (K : Nat) (N_l0 : A_l0 → Option Res) (x : Args ps) : Option Res := bif (List.length x.1 : Int) != (List.length x.2.1 : Int) then (some ((false, ()), ())) else (N_l0 0)
noncomputable def f (K : Nat) (x : Args ps) : Option Res := pre K (l0 K x) x
noncomputable def c (K : Nat) : Ctr := ⟨117, ps, rs, true, f K⟩
noncomputable def G (K : Nat) : List Ctr := [laws_eqNode.c K]
noncomputable def live_l0 : List (Nat × List Coe) := [(0, [.ro true 44 t69]), (1, [.ro true 44 t69]), (5, [.keep])]
noncomputable def L : List (Nat × List (Nat × List Coe)) := [(5, live_l0)]
noncomputable def body : Code := bodyOf Tryz.f117
noncomputable abbrev ev (K : Nat) : Code → St → (Ex → St → Option Res) → Option Res := evK (G K) T_D L K
noncomputable abbrev fin : Ex → St → Option Res := finK T_D ps rs true Tryz.f117.results.toList
noncomputable def S_l0 (x : Args ps) (a : A_l0) : St := mkSt [(0, ⟨0, .one, [.ro true 44 t69 x.1]⟩), (1, ⟨0, .one, [.ro true 44 t69 x.2.1]⟩), (5, ⟨0, .one, [.int .i64 a]⟩)]
noncomputable def k_l0 (K : Nat) (x : Args ps) : Ex → St → Option Res := kAt (ev K) body [1, 1, 0, 1, 0] fin
noncomputable def N_l0 (K : Nat) (x : Args ps) : A_l0 → Option Res := fun a => evLoop live_l0 (ev K (sub body [1, 1, 0, 1, 0, 0])) K (S_l0 x a) (k_l0 K x)
end laws_eqNodeS
namespace laws_eqFlight
@[reducible] def ps : List PK := [.rd t28, .rd t28]
@[reducible] def rs : List RK := [.v .bool]
abbrev Res := Ress rs × Outs ps
noncomputable def pre (K : Nat) (x : Args ps) : Option Res := bif x.1.1 != x.2.1.1 then (some ((false, ()), ())) else (bif x.1.2.1.toList != x.2.1.2.1.toList then (some ((false, ()), ())) else (bif x.1.2.2 != x.2.1.2.2 then (some ((false, ()), ())) else (some ((true, ()), ()))))
noncomputable def f (K : Nat) (x : Args ps) : Option Res := pre K x
noncomputable def c (K : Nat) : Ctr := ⟨191, ps, rs, true, f K⟩
noncomputable def G (K : Nat) : List Ctr := []
noncomputable def L : List (Nat × List (Nat × List Coe)) := []
noncomputable def body : Code := bodyOf Tryz.f191
noncomputable abbrev ev (K : Nat) : Code → St → (Ex → St → Option Res) → Option Res := evK (G K) T_D L K
noncomputable abbrev fin : Ex → St → Option Res := finK T_D ps rs true Tryz.f191.results.toList
end laws_eqFlight
namespace laws_eqFlightS
@[reducible] def ps : List PK := [.rd (.list false 129 t28), .rd (.list false 129 t28)]
@[reducible] def rs : List RK := [.v .bool]
abbrev Res := Ress rs × Outs ps
abbrev A_l0 := Int
noncomputable def l0.step (K : Nat) (x : Args ps) (rec_l0 : A_l0 → Option Res) (a : A_l0) : Option Res := bif decide (a < (List.length x.1 : Int)) then ((idx x.1 a).bind fun y1 => (idx x.2.1 a).bind fun y2 => (laws_eqFlight.f K (y1, y2, ())).bind fun y3 => bif !y3.1.1 then (some ((false, ()), ())) else (rec_l0 (wr .i64 (a + 1)))) else (some ((true, ()), ()))
noncomputable def l0 (K : Nat) (x : Args ps) : A_l0 → Option Res := iterate (fun rec_l0 a => l0.step K x rec_l0 a) K
noncomputable def pre (K : Nat) (N_l0 : A_l0 → Option Res) (x : Args ps) : Option Res := bif (List.length x.1 : Int) != (List.length x.2.1 : Int) then (some ((false, ()), ())) else (N_l0 0)
noncomputable def f (K : Nat) (x : Args ps) : Option Res := pre K (l0 K x) x
noncomputable def c (K : Nat) : Ctr := ⟨118, ps, rs, true, f K⟩
noncomputable def G (K : Nat) : List Ctr := [laws_eqFlight.c K]
noncomputable def live_l0 : List (Nat × List Coe) := [(0, [.ro true 129 t28]), (1, [.ro true 129 t28]), (5, [.keep])]
noncomputable def L : List (Nat × List (Nat × List Coe)) := [(5, live_l0)]
noncomputable def body : Code := bodyOf Tryz.f118
noncomputable abbrev ev (K : Nat) : Code → St → (Ex → St → Option Res) → Option Res := evK (G K) T_D L K
noncomputable abbrev fin : Ex → St → Option Res := finK T_D ps rs true Tryz.f118.results.toList
noncomputable def S_l0 (x : Args ps) (a : A_l0) : St := mkSt [(0, ⟨0, .one, [.ro true 129 t28 x.1]⟩), (1, ⟨0, .one, [.ro true 129 t28 x.2.1]⟩), (5, ⟨0, .one, [.int .i64 a]⟩)]
noncomputable def k_l0 (K : Nat) (x : Args ps) : Ex → St → Option Res := kAt (ev K) body [1, 1, 0, 1, 0] fin
noncomputable def N_l0 (K : Nat) (x : Args ps) : A_l0 → Option Res := fun a => evLoop live_l0 (ev K (sub body [1, 1, 0, 1, 0, 0])) K (S_l0 x a) (k_l0 K x)
end laws_eqFlightS
namespace laws_eqWorld
@[reducible] def ps : List PK := [.rd t72, .rd t72]
@[reducible] def rs : List RK := [.v .bool]
abbrev Res := Ress rs × Outs ps
noncomputable def pre (K : Nat) (x : Args ps) : Option Res := (laws_eqNodeS.f K (x.1.1, x.2.1.1, ())).bind fun y1 => bif !y1.1.1 then (some ((false, ()), ())) else ((laws_eqFlightS.f K (x.1.2.1, x.2.1.2.1, ())).bind fun y2 => bif !y2.1.1 then (some ((false, ()), ())) else ((laws_eqIntS.f K (x.1.2.2.1, x.2.1.2.2.1, ())).bind fun y3 => bif !y3.1.1 then (some ((false, ()), ())) else ((laws_eqFactS.f K (x.1.2.2.2, x.2.1.2.2.2, ())).bind fun y4 => bif !y4.1.1 then (some ((false, ()), ())) else (some ((true, ()), ())))))
noncomputable def f (K : Nat) (x : Args ps) : Option Res := pre K x
noncomputable def c (K : Nat) : Ctr := ⟨35, ps, rs, true, f K⟩
noncomputable def G (K : Nat) : List Ctr := [laws_eqIntS.c K, laws_eqFactS.c K, laws_eqNodeS.c K, laws_eqFlightS.c K]
noncomputable def L : List (Nat × List (Nat × List Coe)) := []
noncomputable def body : Code := bodyOf Tryz.f35
noncomputable abbrev ev (K : Nat) : Code → St → (Ex → St → Option Res) → Option Res := evK (G K) T_D L K
noncomputable abbrev fin : Ex → St → Option Res := finK T_D ps rs true Tryz.f35.results.toList
end laws_eqWorld
namespace spec_l21Site
@[reducible] def ps : List PK := [.rd (.int .i64)]
@[reducible] def rs : List RK := [.v (.int .i64)]
abbrev Res := Ress rs × Outs ps
noncomputable def pre (K : Nat) (x : Args ps) : Option Res := some ((wr .i64 (Int.tdiv x.1 4), ()), ())
noncomputable def f (K : Nat) (x : Args ps) : Option Res := pre K x
noncomputable def c (K : Nat) : Ctr := ⟨92, ps, rs, true, f K⟩
noncomputable def G (K : Nat) : List Ctr := []
noncomputable def L : List (Nat × List (Nat × List Coe)) := []
noncomputable def body : Code := bodyOf Tryz.f92
noncomputable abbrev ev (K : Nat) : Code → St → (Ex → St → Option Res) → Option Res := evK (G K) T_S L K
noncomputable abbrev fin : Ex → St → Option Res := finK T_S ps rs true Tryz.f92.results.toList
end spec_l21Site
namespace spec_l1In
@[reducible] def ps : List PK := [.rd (.int .i64), .rd (.int .i64), .rd (.int .i64)]
@[reducible] def rs : List RK := [.v .bool]
abbrev Res := Ress rs × Outs ps
noncomputable def pre (K : Nat) (x : Args ps) : Option Res := bif decide (x.1 ≥ x.2.1) then (some ((decide (x.1 ≤ x.2.2.1), ()), ())) else (some ((false, ()), ()))
noncomputable def f (K : Nat) (x : Args ps) : Option Res := pre K x
noncomputable def c (K : Nat) : Ctr := ⟨104, ps, rs, true, f K⟩
noncomputable def G (K : Nat) : List Ctr := []
noncomputable def L : List (Nat × List (Nat × List Coe)) := []
noncomputable def body : Code := bodyOf Tryz.f104
noncomputable abbrev ev (K : Nat) : Code → St → (Ex → St → Option Res) → Option Res := evK (G K) T_S L K
noncomputable abbrev fin : Ex → St → Option Res := finK T_S ps rs true Tryz.f104.results.toList
end spec_l1In
namespace spec_FactOk
@[reducible] def ps : List PK := [.rd t2]
@[reducible] def rs : List RK := [.v .bool]
abbrev Res := Ress rs × Outs ps
noncomputable def pre (K : Nat) (x : Args ps) : Option Res := (spec_l1In.f K (x.1.1, 0, 7, ())).bind fun y1 => bif y1.1.1 then ((spec_l1In.f K (x.1.2.1, 0, 999, ())).bind fun y2 => bif y2.1.1 then ((spec_l1In.f K (x.1.2.2.1, 1, 4, ())).bind fun y3 => some ((y3.1.1, ()), ())) else (some ((false, ()), ()))) else (some ((false, ()), ()))
noncomputable def f (K : Nat) (x : Args ps) : Option Res := pre K x
noncomputable def c (K : Nat) : Ctr := ⟨105, ps, rs, true, f K⟩
noncomputable def G (K : Nat) : List Ctr := [spec_l1In.c K]
noncomputable def L : List (Nat × List (Nat × List Coe)) := []
noncomputable def body : Code := bodyOf Tryz.f105
noncomputable abbrev ev (K : Nat) : Code → St → (Ex → St → Option Res) → Option Res := evK (G K) T_S L K
noncomputable abbrev fin : Ex → St → Option Res := finK T_S ps rs true Tryz.f105.results.toList
end spec_FactOk
namespace spec_TableOk
@[reducible] def ps : List PK := [.rd (.list false 132 t2)]
@[reducible] def rs : List RK := [.v .bool]
abbrev Res := Ress rs × Outs ps
abbrev A_l0 := Int
noncomputable def l0.step (K : Nat) (x : Args ps) (rec_l0 : A_l0 → Option Res) (a : A_l0) : Option Res := bif decide (a < (List.length x.1 : Int)) then ((idx x.1 a).bind fun y1 => (spec_FactOk.f K (y1, ())).bind fun y2 => bif !y2.1.1 then (some ((false, ()), ())) else (bif decide (a > 0) then ((idx x.1 (wr .i64 (a - 1))).bind fun y3 => (idx x.1 a).bind fun y4 => bif decide (y3.1 ≥ y4.1) then (some ((false, ()), ())) else (rec_l0 (wr .i64 (a + 1)))) else (rec_l0 (wr .i64 (a + 1))))) else (some ((true, ()), ()))
noncomputable def l0 (K : Nat) (x : Args ps) : A_l0 → Option Res := iterate (fun rec_l0 a => l0.step K x rec_l0 a) K
noncomputable def pre (K : Nat) (N_l0 : A_l0 → Option Res) (x : Args ps) : Option Res := N_l0 0
noncomputable def f (K : Nat) (x : Args ps) : Option Res := pre K (l0 K x) x
noncomputable def c (K : Nat) : Ctr := ⟨155, ps, rs, true, f K⟩
noncomputable def G (K : Nat) : List Ctr := [spec_FactOk.c K]
noncomputable def live_l0 : List (Nat × List Coe) := [(0, [.ro true 132 t2]), (3, [.keep])]
noncomputable def L : List (Nat × List (Nat × List Coe)) := [(3, live_l0)]
noncomputable def body : Code := bodyOf Tryz.f155
noncomputable abbrev ev (K : Nat) : Code → St → (Ex → St → Option Res) → Option Res := evK (G K) T_S L K
noncomputable abbrev fin : Ex → St → Option Res := finK T_S ps rs true Tryz.f155.results.toList
noncomputable def S_l0 (x : Args ps) (a : A_l0) : St := mkSt [(0, ⟨0, .one, [.ro true 132 t2 x.1]⟩), (3, ⟨0, .one, [.int .i64 a]⟩)]
noncomputable def k_l0 (K : Nat) (x : Args ps) : Ex → St → Option Res := kAt (ev K) body [1, 0, 1, 0] fin
noncomputable def N_l0 (K : Nat) (x : Args ps) : A_l0 → Option Res := fun a => evLoop live_l0 (ev K (sub body [1, 0, 1, 0, 0])) K (S_l0 x a) (k_l0 K x)
end spec_TableOk
namespace spec_l4Site
@[reducible] def ps : List PK := [.rd (.list false 132 t2), .rd (.int .i64)]
@[reducible] def rs : List RK := [.v .bool]
abbrev Res := Ress rs × Outs ps
abbrev A_l0 := Int
noncomputable def l0.step (K : Nat) (x : Args ps) (rec_l0 : A_l0 → Option Res) (a : A_l0) : Option Res := bif decide (a < (List.length x.1 : Int)) then ((idx x.1 a).bind fun y1 => bif (wr .i64 (Int.tdiv y1.1 4)) != x.2.1 then (some ((false, ()), ())) else (rec_l0 (wr .i64 (a + 1)))) else (some ((true, ()), ()))
noncomputable def l0 (K : Nat) (x : Args ps) : A_l0 → Option Res := iterate (fun rec_l0 a => l0.step K x rec_l0 a) K
noncomputable def pre (K : Nat) (N_l0 : A_l0 → Option Res) (x : Args ps) : Option Res := N_l0 0
noncomputable def f (K : Nat) (x : Args ps) : Option Res := pre K (l0 K x) x
noncomputable def c (K : Nat) : Ctr := ⟨156, ps, rs, true, f K⟩
noncomputable def G (K : Nat) : List Ctr := []
noncomputable def live_l0 : List (Nat × List Coe) := [(0, [.ro true 132 t2]), (1, [.keep]), (5, [.keep])]
noncomputable def L : List (Nat × List (Nat × List Coe)) := [(3, live_l0)]
noncomputable def body : Code := bodyOf Tryz.f156
noncomputable abbrev ev (K : Nat) : Code → St → (Ex → St → Option Res) → Option Res := evK (G K) T_S L K
noncomputable abbrev fin : Ex → St → Option Res := finK T_S ps rs true Tryz.f156.results.toList
noncomputable def S_l0 (x : Args ps) (a : A_l0) : St := mkSt [(0, ⟨0, .one, [.ro true 132 t2 x.1]⟩), (1, ⟨0, .one, [.int .i64 x.2.1]⟩), (5, ⟨0, .one, [.int .i64 a]⟩)]
noncomputable def k_l0 (K : Nat) (x : Args ps) : Ex → St → Option Res := kAt (ev K) body [1, 0, 1, 0] fin
noncomputable def N_l0 (K : Nat) (x : Args ps) : A_l0 → Option Res := fun a => evLoop live_l0 (ev K (sub body [1, 0, 1, 0, 0])) K (S_l0 x a) (k_l0 K x)
end spec_l4Site
namespace spec_l3Find
@[reducible] def ps : List PK := [.rd (.list false 132 t2), .rd (.int .i64)]
@[reducible] def rs : List RK := [.v (.int .i64)]
abbrev Res := Ress rs × Outs ps
abbrev A_l0 := Int
noncomputable def l0.step (K : Nat) (x : Args ps) (rec_l0 : A_l0 → Option Res) (a : A_l0) : Option Res := bif decide (a < (List.length x.1 : Int)) then ((idx x.1 a).bind fun y1 => bif y1.1 == x.2.1 then (some ((a, ()), ())) else (rec_l0 (wr .i64 (a + 1)))) else (some (((-1), ()), ()))
noncomputable def l0 (K : Nat) (x : Args ps) : A_l0 → Option Res := iterate (fun rec_l0 a => l0.step K x rec_l0 a) K
noncomputable def pre (K : Nat) (N_l0 : A_l0 → Option Res) (x : Args ps) : Option Res := N_l0 0
noncomputable def f (K : Nat) (x : Args ps) : Option Res := pre K (l0 K x) x
noncomputable def c (K : Nat) : Ctr := ⟨119, ps, rs, true, f K⟩
noncomputable def G (K : Nat) : List Ctr := []
noncomputable def live_l0 : List (Nat × List Coe) := [(0, [.ro true 132 t2]), (1, [.keep]), (5, [.keep])]
noncomputable def L : List (Nat × List (Nat × List Coe)) := [(3, live_l0)]
noncomputable def body : Code := bodyOf Tryz.f119
noncomputable abbrev ev (K : Nat) : Code → St → (Ex → St → Option Res) → Option Res := evK (G K) T_S L K
noncomputable abbrev fin : Ex → St → Option Res := finK T_S ps rs true Tryz.f119.results.toList
noncomputable def S_l0 (x : Args ps) (a : A_l0) : St := mkSt [(0, ⟨0, .one, [.ro true 132 t2 x.1]⟩), (1, ⟨0, .one, [.int .i64 x.2.1]⟩), (5, ⟨0, .one, [.int .i64 a]⟩)]
noncomputable def k_l0 (K : Nat) (x : Args ps) : Ex → St → Option Res := kAt (ev K) body [1, 0, 1, 0] fin
noncomputable def N_l0 (K : Nat) (x : Args ps) : A_l0 → Option Res := fun a => evLoop live_l0 (ev K (sub body [1, 0, 1, 0, 0])) K (S_l0 x a) (k_l0 K x)
end spec_l3Find
namespace spec_l21Self
@[reducible] def ps : List PK := [.rd t69]
@[reducible] def rs : List RK := [.v .bool]
abbrev Res := Ress rs × Outs ps
noncomputable def pre (K : Nat) (x : Args ps) : Option Res := (spec_l3Find.f K (x.1.2.2.2.2.2.2.2.2.1, x.1.1, ())).bind fun y1 => bif decide (y1.1.1 < 0) then (some ((false, ()), ())) else ((idx x.1.2.2.2.2.2.2.2.2.1 y1.1.1).bind fun y2 => bif x.1.2.2.1 then (bif y2.2.1 == x.1.2.2.2.2.1 then (bif y2.2.2.1 == 4 then (some ((y2.2.2.2 == x.1.2.2.2.1, ()), ())) else (some ((false, ()), ()))) else (some ((false, ()), ()))) else (bif y2.2.1 == x.1.2.2.2.2.1 then (bif y2.2.2.1 == 1 then (some ((y2.2.2.2 == x.1.2.2.2.1, ()), ())) else (some ((false, ()), ()))) else (some ((false, ()), ()))))
noncomputable def f (K : Nat) (x : Args ps) : Option Res := pre K x
noncomputable def c (K : Nat) : Ctr := ⟨157, ps, rs, true, f K⟩
noncomputable def G (K : Nat) : List Ctr := [spec_l3Find.c K]
noncomputable def L : List (Nat × List (Nat × List Coe)) := []
noncomputable def body : Code := bodyOf Tryz.f157
noncomputable abbrev ev (K : Nat) : Code → St → (Ex → St → Option Res) → Option Res := evK (G K) T_S L K
noncomputable abbrev fin : Ex → St → Option Res := finK T_S ps rs true Tryz.f157.results.toList
end spec_l21Self
namespace spec_l3Over
@[reducible] def ps : List PK := [.rd t2, .rd t2]
@[reducible] def rs : List RK := [.v .bool]
abbrev Res := Ress rs × Outs ps
noncomputable def pre (K : Nat) (x : Args ps) : Option Res := bif x.1.2.1 != x.2.1.2.1 then (some ((decide (x.1.2.1 > x.2.1.2.1), ()), ())) else (bif x.1.2.2.1 != x.2.1.2.2.1 then (some ((decide (x.1.2.2.1 > x.2.1.2.2.1), ()), ())) else (bif x.1.2.2.2 then (some ((!x.2.1.2.2.2, ()), ())) else (some ((false, ()), ()))))
noncomputable def f (K : Nat) (x : Args ps) : Option Res := pre K x
noncomputable def c (K : Nat) : Ctr := ⟨187, ps, rs, true, f K⟩
noncomputable def G (K : Nat) : List Ctr := []
noncomputable def L : List (Nat × List (Nat × List Coe)) := []
noncomputable def body : Code := bodyOf Tryz.f187
noncomputable abbrev ev (K : Nat) : Code → St → (Ex → St → Option Res) → Option Res := evK (G K) T_S L K
noncomputable abbrev fin : Ex → St → Option Res := finK T_S ps rs true Tryz.f187.results.toList
end spec_l3Over
namespace spec_CastOk
@[reducible] def ps : List PK := [.rd (.list false 173 t3)]
@[reducible] def rs : List RK := [.v .bool]
abbrev Res := Ress rs × Outs ps
abbrev A_l0 := Int
noncomputable def l0.step (K : Nat) (x : Args ps) (rec_l0 : A_l0 → Option Res) (a : A_l0) : Option Res := bif decide (a < (List.length x.1 : Int)) then ((idx x.1 a).bind fun y1 => (spec_FactOk.f K (y1.1, ())).bind fun y2 => bif !y2.1.1 then (some ((false, ()), ())) else ((idx x.1 a).bind fun y3 => (spec_l1In.f K (y3.2, 1, 4, ())).bind fun y4 => bif !y4.1.1 then (some ((false, ()), ())) else (bif decide (a > 0) then ((idx x.1 (wr .i64 (a - 1))).bind fun y5 => (idx x.1 a).bind fun y6 => bif decide (y5.1.1 ≥ y6.1.1) then (some ((false, ()), ())) else (rec_l0 (wr .i64 (a + 1)))) else (rec_l0 (wr .i64 (a + 1)))))) else (some ((true, ()), ()))
noncomputable def l0 (K : Nat) (x : Args ps) : A_l0 → Option Res := iterate (fun rec_l0 a => l0.step K x rec_l0 a) K
noncomputable def pre (K : Nat) (N_l0 : A_l0 → Option Res) (x : Args ps) : Option Res := N_l0 0
noncomputable def f (K : Nat) (x : Args ps) : Option Res := pre K (l0 K x) x
noncomputable def c (K : Nat) : Ctr := ⟨230, ps, rs, true, f K⟩
noncomputable def G (K : Nat) : List Ctr := [spec_l1In.c K, spec_FactOk.c K]
noncomputable def live_l0 : List (Nat × List Coe) := [(0, [.ro true 173 t3]), (3, [.keep])]
noncomputable def L : List (Nat × List (Nat × List Coe)) := [(3, live_l0)]
noncomputable def body : Code := bodyOf Tryz.f230
noncomputable abbrev ev (K : Nat) : Code → St → (Ex → St → Option Res) → Option Res := evK (G K) T_S L K
noncomputable abbrev fin : Ex → St → Option Res := finK T_S ps rs true Tryz.f230.results.toList
noncomputable def S_l0 (x : Args ps) (a : A_l0) : St := mkSt [(0, ⟨0, .one, [.ro true 173 t3 x.1]⟩), (3, ⟨0, .one, [.int .i64 a]⟩)]
noncomputable def k_l0 (K : Nat) (x : Args ps) : Ex → St → Option Res := kAt (ev K) body [1, 0, 1, 0] fin
noncomputable def N_l0 (K : Nat) (x : Args ps) : A_l0 → Option Res := fun a => evLoop live_l0 (ev K (sub body [1, 0, 1, 0, 0])) K (S_l0 x a) (k_l0 K x)
end spec_CastOk
namespace spec_l21CastOk
@[reducible] def ps : List PK := [.rd t69]
@[reducible] def rs : List RK := [.v .bool]
abbrev Res := Ress rs × Outs ps
abbrev A_l0 := Int
noncomputable def l0.step (K : Nat) (x : Args ps) (rec_l0 : A_l0 → Option Res) (a : A_l0) : Option Res := bif decide (a < (List.length x.1.2.2.2.2.2.2.2.2.2.1 : Int)) then ((idx x.1.2.2.2.2.2.2.2.2.2.1 a).bind fun y2 => (spec_l3Find.f K (x.1.2.2.2.2.2.2.2.2.1, y2.1.1, ())).bind fun y3 => bif decide (y3.1.1 < 0) then (some ((false, ()), ())) else ((idx x.1.2.2.2.2.2.2.2.2.2.1 a).bind fun y4 => (idx x.1.2.2.2.2.2.2.2.2.1 y3.1.1).bind fun y5 => (spec_l3Over.f K (y4.1, y5, ())).bind fun y6 => bif y6.1.1 then (some ((false, ()), ())) else (rec_l0 (wr .i64 (a + 1))))) else (some ((true, ()), ()))
noncomputable def l0 (K : Nat) (x : Args ps) : A_l0 → Option Res := iterate (fun rec_l0 a => l0.step K x rec_l0 a) K
noncomputable def pre (K : Nat) (N_l0 : A_l0 → Option Res) (x : Args ps) : Option Res := (spec_CastOk.f K (x.1.2.2.2.2.2.2.2.2.2.1, ())).bind fun y1 => bif !y1.1.1 then (some ((false, ()), ())) else (N_l0 0)
noncomputable def f (K : Nat) (x : Args ps) : Option Res := pre K (l0 K x) x
noncomputable def c (K : Nat) : Ctr := ⟨158, ps, rs, true, f K⟩
noncomputable def G (K : Nat) : List Ctr := [spec_l3Find.c K, spec_l3Over.c K, spec_CastOk.c K]
noncomputable def live_l0 : List (Nat × List Coe) := [(1, [.keep]), (3, [.keep]), (100001, [.keep, .keep, .keep, .keep, .keep, .keep, .keep, .keep, .ro true 132 t2, .ro true 173 t3, .keep, .keep, .keep, .keep, .ro true 177 t31, .keep, .keep, .keep, .keep, .ro true 94 t33, .ro true 119 t55])]
noncomputable def L : List (Nat × List (Nat × List Coe)) := [(5, live_l0)]
noncomputable def body : Code := bodyOf Tryz.f158
noncomputable abbrev ev (K : Nat) : Code → St → (Ex → St → Option Res) → Option Res := evK (G K) T_S L K
noncomputable abbrev fin : Ex → St → Option Res := finK T_S ps rs true Tryz.f158.results.toList
noncomputable def S_l0 (x : Args ps) (a : A_l0) : St := mkSt [(1, ⟨0, .one, [.bp 100001 0]⟩), (3, ⟨0, .one, [.int .i64 a]⟩), (100001, ⟨0, .agg, [.int .i64 x.1.1, .bool x.1.2.1, .bool x.1.2.2.1, .bool x.1.2.2.2.1, .int .i64 x.1.2.2.2.2.1, .int .i64 x.1.2.2.2.2.2.1, .int .i64 x.1.2.2.2.2.2.2.1, .int .i64 x.1.2.2.2.2.2.2.2.1, .ro true 132 t2 x.1.2.2.2.2.2.2.2.2.1, .ro true 173 t3 x.1.2.2.2.2.2.2.2.2.2.1, .int .i64 x.1.2.2.2.2.2.2.2.2.2.2.1.1, .int .i64 x.1.2.2.2.2.2.2.2.2.2.2.1.2.1, .int .i64 x.1.2.2.2.2.2.2.2.2.2.2.1.2.2.1, .bool x.1.2.2.2.2.2.2.2.2.2.2.1.2.2.2, .ro true 177 t31 x.1.2.2.2.2.2.2.2.2.2.2.2.1, .int .i64 x.1.2.2.2.2.2.2.2.2.2.2.2.2.1.1, .int .i64 x.1.2.2.2.2.2.2.2.2.2.2.2.2.1.2.1, .int .i64 x.1.2.2.2.2.2.2.2.2.2.2.2.2.1.2.2.1, .int .i64 x.1.2.2.2.2.2.2.2.2.2.2.2.2.1.2.2.2, .ro true 94 t33 x.1.2.2.2.2.2.2.2.2.2.2.2.2.2.1, .ro true 119 t55 x.1.2.2.2.2.2.2.2.2.2.2.2.2.2.2]⟩)]
noncomputable def k_l0 (K : Nat) (x : Args ps) : Ex → St → Option Res := kAt (ev K) body [1, 1, 0, 1, 0] fin
noncomputable def N_l0 (K : Nat) (x : Args ps) : A_l0 → Option Res := fun a => evLoop live_l0 (ev K (sub body [1, 1, 0, 1, 0, 0])) K (S_l0 x a) (k_l0 K x)
end spec_l21CastOk
namespace spec_l21ProbeOk
@[reducible] def ps : List PK := [.rd t69]
@[reducible] def rs : List RK := [.v .bool]
abbrev Res := Ress rs × Outs ps
noncomputable def pre (K : Nat) (x : Args ps) : Option Res := bif x.1.2.2.2.2.2.2.2.2.2.2.1.1 == (-1) then (bif x.1.2.2.2.2.2.2.2.2.2.2.1.2.1 == 0 then (bif x.1.2.2.2.2.2.2.2.2.2.2.1.2.2.1 == 0 then (some ((!x.1.2.2.2.2.2.2.2.2.2.2.1.2.2.2, ()), ())) else (some ((false, ()), ()))) else (some ((false, ()), ()))) else (bif x.1.2.2.2.2.2.2.2.2.2.2.1.1 != x.1.1 then ((spec_l3Find.f K (x.1.2.2.2.2.2.2.2.2.1, x.1.2.2.2.2.2.2.2.2.2.2.1.1, ())).bind fun y1 => bif decide (y1.1.1 ≥ 0) then ((spec_l1In.f K (x.1.2.2.2.2.2.2.2.2.2.2.1.2.1, 0, x.1.2.2.2.2.2.1, ())).bind fun y2 => bif y2.1.1 then ((spec_l1In.f K (x.1.2.2.2.2.2.2.2.2.2.2.1.2.2.1, 1, x.1.2.2.2.2.2.2.1, ())).bind fun y3 => some ((y3.1.1, ()), ())) else (some ((false, ()), ()))) else (some ((false, ()), ()))) else (some ((false, ()), ())))
noncomputable def f (K : Nat) (x : Args ps) : Option Res := pre K x
noncomputable def c (K : Nat) : Ctr := ⟨159, ps, rs, true, f K⟩
noncomputable def G (K : Nat) : List Ctr := [spec_l1In.c K, spec_l3Find.c K]
noncomputable def L : List (Nat × List (Nat × List Coe)) := []
noncomputable def body : Code := bodyOf Tryz.f159
noncomputable abbrev ev (K : Nat) : Code → St → (Ex → St → Option Res) → Option Res := evK (G K) T_S L K
noncomputable abbrev fin : Ex → St → Option Res := finK T_S ps rs true Tryz.f159.results.toList
end spec_l21ProbeOk
namespace spec_l21DoubtsOk
@[reducible] def ps : List PK := [.rd t69]
@[reducible] def rs : List RK := [.v .bool]
abbrev Res := Ress rs × Outs ps
abbrev A_l1 := Int × Int × Int × Int × Int × List (Ty.den (.int .i64))
abbrev A_l2 := Int × Int
abbrev A_l0 := Int
noncomputable def l1.step (K : Nat) (x : Args ps) (rec_l0 : A_l0 → Option Res) (rec_l1 : A_l1 → Option Res) (a : A_l1) : Option Res := bif decide (a.2.1 < (List.length a.2.2.2.2.2 : Int)) then ((idx a.2.2.2.2.2 a.2.1).bind fun y7 => (spec_l1In.f K (y7, 0, 7, ())).bind fun y8 => bif !y8.1.1 then (some ((false, ()), ())) else ((idx a.2.2.2.2.2 a.2.1).bind fun y9 => (spec_l21Site.f K (y9, ())).bind fun y10 => (spec_l21Site.f K (x.1.1, ())).bind fun y11 => bif y10.1.1 != y11.1.1 then (some ((false, ()), ())) else (bif decide (a.2.1 > 0) then ((idx a.2.2.2.2.2 (wr .i64 (a.2.1 - 1))).bind fun y12 => (idx a.2.2.2.2.2 a.2.1).bind fun y13 => bif decide (y12 ≥ y13) then (some ((false, ()), ())) else (rec_l1 (a.1, wr .i64 (a.2.1 + 1), a.2.2.1, a.2.2.2.1, a.2.2.2.2.1, a.2.2.2.2.2))) else (rec_l1 (a.1, wr .i64 (a.2.1 + 1), a.2.2.1, a.2.2.2.1, a.2.2.2.2.1, a.2.2.2.2.2))))) else (rec_l0 (wr .i64 (a.1 + 1)))
noncomputable def l1 (K : Nat) (x : Args ps) (rec_l0 : A_l0 → Option Res) : A_l1 → Option Res := iterate (fun rec_l1 a => l1.step K x rec_l0 rec_l1 a) K
noncomputable def l2.step (K : Nat) (x : Args ps) (rec_l2 : A_l2 → Option Res) (a : A_l2) : Option Res := bif decide (a.2 < (List.length x.1.2.2.2.2.2.2.2.2.1 : Int)) then ((idx x.1.2.2.2.2.2.2.2.2.1 a.2).bind fun y17 => bif y17.2.2.1 == 2 then (rec_l2 (wr .i64 (a.1 + 1), wr .i64 (a.2 + 1))) else (rec_l2 (a.1, wr .i64 (a.2 + 1)))) else (some ((a.1 == (List.length x.1.2.2.2.2.2.2.2.2.2.2.2.1 : Int), ()), ()))
noncomputable def l2 (K : Nat) (x : Args ps) : A_l2 → Option Res := iterate (fun rec_l2 a => l2.step K x rec_l2 a) K
noncomputable def l0.step (K : Nat) (x : Args ps) (N_l1 : A_l1 → Option Res) (N_l2 : A_l2 → Option Res) (rec_l0 : A_l0 → Option Res) (a : A_l0) : Option Res := bif decide (a < (List.length x.1.2.2.2.2.2.2.2.2.2.2.2.1 : Int)) then ((idx x.1.2.2.2.2.2.2.2.2.2.2.2.1 a).bind fun y1 => (spec_l3Find.f K (x.1.2.2.2.2.2.2.2.2.1, y1.1, ())).bind fun y2 => bif decide (a > 0) then ((idx x.1.2.2.2.2.2.2.2.2.2.2.2.1 (wr .i64 (a - 1))).bind fun y3 => bif decide (y3.1 ≥ y1.1) then (some ((false, ()), ())) else (bif decide (y2.1.1 < 0) then (some ((false, ()), ())) else ((idx x.1.2.2.2.2.2.2.2.2.1 y2.1.1).bind fun y4 => bif y4.2.2.1 != 2 then (some ((false, ()), ())) else ((idx x.1.2.2.2.2.2.2.2.2.1 y2.1.1).bind fun y5 => bif y5.2.1 != y1.2.1 then (some ((false, ()), ())) else ((spec_l1In.f K (y1.2.2.1, 0, x.1.2.2.2.2.2.1, ())).bind fun y6 => bif !y6.1.1 then (some ((false, ()), ())) else (bif (List.length y1.2.2.2 : Int) == 0 then (some ((false, ()), ())) else (N_l1 (a, 0, y1.1, y1.2.1, y1.2.2.1, y1.2.2.2)))))))) else (bif decide (y2.1.1 < 0) then (some ((false, ()), ())) else ((idx x.1.2.2.2.2.2.2.2.2.1 y2.1.1).bind fun y14 => bif y14.2.2.1 != 2 then (some ((false, ()), ())) else ((idx x.1.2.2.2.2.2.2.2.2.1 y2.1.1).bind fun y15 => bif y15.2.1 != y1.2.1 then (some ((false, ()), ())) else ((spec_l1In.f K (y1.2.2.1, 0, x.1.2.2.2.2.2.1, ())).bind fun y16 => bif !y16.1.1 then (some ((false, ()), ())) else (bif (List.length y1.2.2.2 : Int) == 0 then (some ((false, ()), ())) else (N_l1 (a, 0, y1.1, y1.2.1, y1.2.2.1, y1.2.2.2)))))))) else (N_l2 (0, 0))
noncomputable def l0 (K : Nat) (x : Args ps) : A_l0 → Option Res := iterate (fun rec_l0 a => l0.step K x (l1 K x rec_l0) (l2 K x) rec_l0 a) K
noncomputable def pre (K : Nat) (N_l0 : A_l0 → Option Res) (x : Args ps) : Option Res := N_l0 0
noncomputable def f (K : Nat) (x : Args ps) : Option Res := pre K (l0 K x) x
noncomputable def c (K : Nat) : Ctr := ⟨160, ps, rs, true, f K⟩
noncomputable def G (K : Nat) : List Ctr := [spec_l21Site.c K, spec_l1In.c K, spec_l3Find.c K]
noncomputable def live_l1 : List (Nat × List Coe) := [(1, [.keep]), (3, [.keep]), (4, [.keep]), (6, [.keep]), (100001, [.keep, .keep, .keep, .keep, .keep, .keep, .keep, .keep, .ro true 132 t2, .ro true 173 t3, .keep, .keep, .keep, .keep, .ro true 177 t31, .keep, .keep, .keep, .keep, .ro true 94 t33, .ro true 119 t55]), (100004, [.keep, .keep, .keep, .ro true 3 (.int .i64)])]
noncomputable def live_l2 : List (Nat × List Coe) := [(1, [.keep]), (7, [.keep]), (8, [.keep]), (100001, [.keep, .keep, .keep, .keep, .keep, .keep, .keep, .keep, .ro true 132 t2, .ro true 173 t3, .keep, .keep, .keep, .keep, .ro true 177 t31, .keep, .keep, .keep, .keep, .ro true 94 t33, .ro true 119 t55])]
noncomputable def live_l0 : List (Nat × List Coe) := [(1, [.keep]), (3, [.keep]), (100001, [.keep, .keep, .keep, .keep, .keep, .keep, .keep, .keep, .ro true 132 t2, .ro true 173 t3, .keep, .keep, .keep, .keep, .ro true 177 t31, .keep, .keep, .keep, .keep, .ro true 94 t33, .ro true 119 t55])]
noncomputable def L : List (Nat × List (Nat × List Coe)) := [(10, live_l1), (16, live_l2), (3, live_l0)]
noncomputable def body : Code := bodyOf Tryz.f160
noncomputable abbrev ev (K : Nat) : Code → St → (Ex → St → Option Res) → Option Res := evK (G K) T_S L K
noncomputable abbrev fin : Ex → St → Option Res := finK T_S ps rs true Tryz.f160.results.toList
noncomputable def S_l0 (x : Args ps) (a : A_l0) : St := mkSt [(1, ⟨0, .one, [.bp 100001 0]⟩), (3, ⟨0, .one, [.int .i64 a]⟩), (100001, ⟨0, .agg, [.int .i64 x.1.1, .bool x.1.2.1, .bool x.1.2.2.1, .bool x.1.2.2.2.1, .int .i64 x.1.2.2.2.2.1, .int .i64 x.1.2.2.2.2.2.1, .int .i64 x.1.2.2.2.2.2.2.1, .int .i64 x.1.2.2.2.2.2.2.2.1, .ro true 132 t2 x.1.2.2.2.2.2.2.2.2.1, .ro true 173 t3 x.1.2.2.2.2.2.2.2.2.2.1, .int .i64 x.1.2.2.2.2.2.2.2.2.2.2.1.1, .int .i64 x.1.2.2.2.2.2.2.2.2.2.2.1.2.1, .int .i64 x.1.2.2.2.2.2.2.2.2.2.2.1.2.2.1, .bool x.1.2.2.2.2.2.2.2.2.2.2.1.2.2.2, .ro true 177 t31 x.1.2.2.2.2.2.2.2.2.2.2.2.1, .int .i64 x.1.2.2.2.2.2.2.2.2.2.2.2.2.1.1, .int .i64 x.1.2.2.2.2.2.2.2.2.2.2.2.2.1.2.1, .int .i64 x.1.2.2.2.2.2.2.2.2.2.2.2.2.1.2.2.1, .int .i64 x.1.2.2.2.2.2.2.2.2.2.2.2.2.1.2.2.2, .ro true 94 t33 x.1.2.2.2.2.2.2.2.2.2.2.2.2.2.1, .ro true 119 t55 x.1.2.2.2.2.2.2.2.2.2.2.2.2.2.2]⟩)]
noncomputable def S_l2 (x : Args ps) (a : A_l2) : St := mkSt [(1, ⟨0, .one, [.bp 100001 0]⟩), (7, ⟨0, .one, [.int .i64 a.1]⟩), (8, ⟨0, .one, [.int .i64 a.2]⟩), (100001, ⟨0, .agg, [.int .i64 x.1.1, .bool x.1.2.1, .bool x.1.2.2.1, .bool x.1.2.2.2.1, .int .i64 x.1.2.2.2.2.1, .int .i64 x.1.2.2.2.2.2.1, .int .i64 x.1.2.2.2.2.2.2.1, .int .i64 x.1.2.2.2.2.2.2.2.1, .ro true 132 t2 x.1.2.2.2.2.2.2.2.2.1, .ro true 173 t3 x.1.2.2.2.2.2.2.2.2.2.1, .int .i64 x.1.2.2.2.2.2.2.2.2.2.2.1.1, .int .i64 x.1.2.2.2.2.2.2.2.2.2.2.1.2.1, .int .i64 x.1.2.2.2.2.2.2.2.2.2.2.1.2.2.1, .bool x.1.2.2.2.2.2.2.2.2.2.2.1.2.2.2, .ro true 177 t31 x.1.2.2.2.2.2.2.2.2.2.2.2.1, .int .i64 x.1.2.2.2.2.2.2.2.2.2.2.2.2.1.1, .int .i64 x.1.2.2.2.2.2.2.2.2.2.2.2.2.1.2.1, .int .i64 x.1.2.2.2.2.2.2.2.2.2.2.2.2.1.2.2.1, .int .i64 x.1.2.2.2.2.2.2.2.2.2.2.2.2.1.2.2.2, .ro true 94 t33 x.1.2.2.2.2.2.2.2.2.2.2.2.2.2.1, .ro true 119 t55 x.1.2.2.2.2.2.2.2.2.2.2.2.2.2.2]⟩)]
noncomputable def S_l1 (x : Args ps) (a : A_l1) : St := mkSt [(1, ⟨0, .one, [.bp 100001 0]⟩), (3, ⟨0, .one, [.int .i64 a.1]⟩), (4, ⟨0, .one, [.bp 100004 0]⟩), (6, ⟨0, .one, [.int .i64 a.2.1]⟩), (100001, ⟨0, .agg, [.int .i64 x.1.1, .bool x.1.2.1, .bool x.1.2.2.1, .bool x.1.2.2.2.1, .int .i64 x.1.2.2.2.2.1, .int .i64 x.1.2.2.2.2.2.1, .int .i64 x.1.2.2.2.2.2.2.1, .int .i64 x.1.2.2.2.2.2.2.2.1, .ro true 132 t2 x.1.2.2.2.2.2.2.2.2.1, .ro true 173 t3 x.1.2.2.2.2.2.2.2.2.2.1, .int .i64 x.1.2.2.2.2.2.2.2.2.2.2.1.1, .int .i64 x.1.2.2.2.2.2.2.2.2.2.2.1.2.1, .int .i64 x.1.2.2.2.2.2.2.2.2.2.2.1.2.2.1, .bool x.1.2.2.2.2.2.2.2.2.2.2.1.2.2.2, .ro true 177 t31 x.1.2.2.2.2.2.2.2.2.2.2.2.1, .int .i64 x.1.2.2.2.2.2.2.2.2.2.2.2.2.1.1, .int .i64 x.1.2.2.2.2.2.2.2.2.2.2.2.2.1.2.1, .int .i64 x.1.2.2.2.2.2.2.2.2.2.2.2.2.1.2.2.1, .int .i64 x.1.2.2.2.2.2.2.2.2.2.2.2.2.1.2.2.2, .ro true 94 t33 x.1.2.2.2.2.2.2.2.2.2.2.2.2.2.1, .ro true 119 t55 x.1.2.2.2.2.2.2.2.2.2.2.2.2.2.2]⟩), (100004, ⟨0, .agg, [.int .i64 a.2.2.1, .int .i64 a.2.2.2.1, .int .i64 a.2.2.2.2.1, .ro true 3 (.int .i64) a.2.2.2.2.2]⟩)]
noncomputable def k_l0 (K : Nat) (x : Args ps) : Ex → St → Option Res := kAt (ev K) body [1, 0, 1, 0] fin
noncomputable def N_l0 (K : Nat) (x : Args ps) : A_l0 → Option Res := fun a => evLoop live_l0 (ev K (sub body [1, 0, 1, 0, 0])) K (S_l0 x a) (k_l0 K x)
noncomputable def k_l2 (K : Nat) (x : Args ps) : Ex → St → Option Res := kAt (ev K) body [1, 1, 1, 0, 1, 0] fin
noncomputable def N_l2 (K : Nat) (x : Args ps) : A_l2 → Option Res := fun a => evLoop live_l2 (ev K (sub body [1, 1, 1, 0, 1, 0, 0])) K (S_l2 x a) (k_l2 K x)
noncomputable def k_l1 (K : Nat) (x : Args ps) (r_l0 : St → Option Res) : Ex → St → Option Res := kAt (ev K) (sub body [1, 0, 1, 0, 0]) [1, 0, 0, 1, 1, 1, 1, 0] (kLoop live_l0 r_l0 (k_l0 K x))
noncomputable def N_l1 (K : Nat) (x : Args ps) (r_l0 : St → Option Res) : A_l1 → Option Res := fun a => evLoop live_l1 (ev K (sub body [1, 0, 1, 0, 0, 1, 0, 0, 1, 1, 1, 1, 0, 0])) K (S_l1 x a) (k_l1 K x r_l0)
end spec_l21DoubtsOk
namespace spec_CoordOk
@[reducible] def ps : List PK := [.rd t9]
@[reducible] def rs : List RK := [.v .bool]
abbrev Res := Ress rs × Outs ps
noncomputable def pre (K : Nat) (x : Args ps) : Option Res := (spec_l1In.f K (x.1.1, (-100000), 100000, ())).bind fun y1 => bif y1.1.1 then ((spec_l1In.f K (x.1.2.1, (-100000), 100000, ())).bind fun y2 => bif y2.1.1 then ((spec_l1In.f K (x.1.2.2.1, 0, 100000, ())).bind fun y3 => bif y3.1.1 then ((spec_l1In.f K (x.1.2.2.2, 1, 1500, ())).bind fun y4 => some ((y4.1.1, ()), ())) else (some ((false, ()), ()))) else (some ((false, ()), ()))) else (some ((false, ()), ()))
noncomputable def f (K : Nat) (x : Args ps) : Option Res := pre K x
noncomputable def c (K : Nat) : Ctr := ⟨161, ps, rs, true, f K⟩
noncomputable def G (K : Nat) : List Ctr := [spec_l1In.c K]
noncomputable def L : List (Nat × List (Nat × List Coe)) := []
noncomputable def body : Code := bodyOf Tryz.f161
noncomputable abbrev ev (K : Nat) : Code → St → (Ex → St → Option Res) → Option Res := evK (G K) T_S L K
noncomputable abbrev fin : Ex → St → Option Res := finK T_S ps rs true Tryz.f161.results.toList
end spec_CoordOk
namespace spec_l21PlacesOk
@[reducible] def ps : List PK := [.rd t69]
@[reducible] def rs : List RK := [.v .bool]
abbrev Res := Ress rs × Outs ps
abbrev A_l1 := Int × Int × Int × Int × Int × Int × Int × List (Ty.den (.int .i64))
abbrev A_l0 := Int
noncomputable def l1.step (K : Nat) (x : Args ps) (rec_l0 : A_l0 → Option Res) (rec_l1 : A_l1 → Option Res) (a : A_l1) : Option Res := bif decide (a.2.1 < (List.length a.2.2.2.2.2.2.2 : Int)) then ((idx a.2.2.2.2.2.2.2 a.2.1).bind fun y8 => (spec_l1In.f K (y8, 1, 60000, ())).bind fun y9 => bif !y9.1.1 then (some ((false, ()), ())) else (rec_l1 (a.1, wr .i64 (a.2.1 + 1), a.2.2.1, a.2.2.2.1, a.2.2.2.2.1, a.2.2.2.2.2.1, a.2.2.2.2.2.2.1, a.2.2.2.2.2.2.2))) else (rec_l0 (wr .i64 (a.1 + 1)))
noncomputable def l1 (K : Nat) (x : Args ps) (rec_l0 : A_l0 → Option Res) : A_l1 → Option Res := iterate (fun rec_l1 a => l1.step K x rec_l0 rec_l1 a) K
noncomputable def l0.step (K : Nat) (x : Args ps) (N_l1 : A_l1 → Option Res) (rec_l0 : A_l0 → Option Res) (a : A_l0) : Option Res := bif decide (a < (List.length x.1.2.2.2.2.2.2.2.2.2.2.2.2.2.1 : Int)) then ((idx x.1.2.2.2.2.2.2.2.2.2.2.2.2.2.1 a).bind fun y1 => (spec_l1In.f K (y1.1, 0, 7, ())).bind fun y2 => bif !y2.1.1 then (some ((false, ()), ())) else ((spec_l21Site.f K (y1.1, ())).bind fun y3 => (spec_l21Site.f K (x.1.1, ())).bind fun y4 => bif y3.1.1 != y4.1.1 then (some ((false, ()), ())) else (bif y1.1 == x.1.1 then (some ((false, ()), ())) else (bif decide (a > 0) then ((idx x.1.2.2.2.2.2.2.2.2.2.2.2.2.2.1 (wr .i64 (a - 1))).bind fun y5 => bif decide (y5.1 ≥ y1.1) then (some ((false, ()), ())) else ((spec_CoordOk.f K (y1.2.1, ())).bind fun y6 => bif !y6.1.1 then (some ((false, ()), ())) else ((spec_l1In.f K ((List.length y1.2.2 : Int), 1, 3, ())).bind fun y7 => bif !y7.1.1 then (some ((false, ()), ())) else (N_l1 (a, 0, y1.1, y1.2.1.1, y1.2.1.2.1, y1.2.1.2.2.1, y1.2.1.2.2.2, y1.2.2))))) else ((spec_CoordOk.f K (y1.2.1, ())).bind fun y10 => bif !y10.1.1 then (some ((false, ()), ())) else ((spec_l1In.f K ((List.length y1.2.2 : Int), 1, 3, ())).bind fun y11 => bif !y11.1.1 then (some ((false, ()), ())) else (N_l1 (a, 0, y1.1, y1.2.1.1, y1.2.1.2.1, y1.2.1.2.2.1, y1.2.1.2.2.2, y1.2.2)))))))) else (some ((true, ()), ()))
noncomputable def l0 (K : Nat) (x : Args ps) : A_l0 → Option Res := iterate (fun rec_l0 a => l0.step K x (l1 K x rec_l0) rec_l0 a) K
noncomputable def pre (K : Nat) (N_l0 : A_l0 → Option Res) (x : Args ps) : Option Res := N_l0 0
noncomputable def f (K : Nat) (x : Args ps) : Option Res := pre K (l0 K x) x
noncomputable def c (K : Nat) : Ctr := ⟨162, ps, rs, true, f K⟩
noncomputable def G (K : Nat) : List Ctr := [spec_l21Site.c K, spec_l1In.c K, spec_CoordOk.c K]
noncomputable def live_l1 : List (Nat × List Coe) := [(1, [.keep]), (3, [.keep]), (4, [.keep]), (5, [.keep]), (100001, [.keep, .keep, .keep, .keep, .keep, .keep, .keep, .keep, .ro true 132 t2, .ro true 173 t3, .keep, .keep, .keep, .keep, .ro true 177 t31, .keep, .keep, .keep, .keep, .ro true 94 t33, .ro true 119 t55]), (100004, [.keep, .keep, .keep, .keep, .keep, .ro true 3 (.int .i64)])]
noncomputable def live_l0 : List (Nat × List Coe) := [(1, [.keep]), (3, [.keep]), (100001, [.keep, .keep, .keep, .keep, .keep, .keep, .keep, .keep, .ro true 132 t2, .ro true 173 t3, .keep, .keep, .keep, .keep, .ro true 177 t31, .keep, .keep, .keep, .keep, .ro true 94 t33, .ro true 119 t55])]
noncomputable def L : List (Nat × List (Nat × List Coe)) := [(9, live_l1), (3, live_l0)]
noncomputable def body : Code := bodyOf Tryz.f162
noncomputable abbrev ev (K : Nat) : Code → St → (Ex → St → Option Res) → Option Res := evK (G K) T_S L K
noncomputable abbrev fin : Ex → St → Option Res := finK T_S ps rs true Tryz.f162.results.toList
noncomputable def S_l0 (x : Args ps) (a : A_l0) : St := mkSt [(1, ⟨0, .one, [.bp 100001 0]⟩), (3, ⟨0, .one, [.int .i64 a]⟩), (100001, ⟨0, .agg, [.int .i64 x.1.1, .bool x.1.2.1, .bool x.1.2.2.1, .bool x.1.2.2.2.1, .int .i64 x.1.2.2.2.2.1, .int .i64 x.1.2.2.2.2.2.1, .int .i64 x.1.2.2.2.2.2.2.1, .int .i64 x.1.2.2.2.2.2.2.2.1, .ro true 132 t2 x.1.2.2.2.2.2.2.2.2.1, .ro true 173 t3 x.1.2.2.2.2.2.2.2.2.2.1, .int .i64 x.1.2.2.2.2.2.2.2.2.2.2.1.1, .int .i64 x.1.2.2.2.2.2.2.2.2.2.2.1.2.1, .int .i64 x.1.2.2.2.2.2.2.2.2.2.2.1.2.2.1, .bool x.1.2.2.2.2.2.2.2.2.2.2.1.2.2.2, .ro true 177 t31 x.1.2.2.2.2.2.2.2.2.2.2.2.1, .int .i64 x.1.2.2.2.2.2.2.2.2.2.2.2.2.1.1, .int .i64 x.1.2.2.2.2.2.2.2.2.2.2.2.2.1.2.1, .int .i64 x.1.2.2.2.2.2.2.2.2.2.2.2.2.1.2.2.1, .int .i64 x.1.2.2.2.2.2.2.2.2.2.2.2.2.1.2.2.2, .ro true 94 t33 x.1.2.2.2.2.2.2.2.2.2.2.2.2.2.1, .ro true 119 t55 x.1.2.2.2.2.2.2.2.2.2.2.2.2.2.2]⟩)]
noncomputable def S_l1 (x : Args ps) (a : A_l1) : St := mkSt [(1, ⟨0, .one, [.bp 100001 0]⟩), (3, ⟨0, .one, [.int .i64 a.1]⟩), (4, ⟨0, .one, [.bp 100004 0]⟩), (5, ⟨0, .one, [.int .i64 a.2.1]⟩), (100001, ⟨0, .agg, [.int .i64 x.1.1, .bool x.1.2.1, .bool x.1.2.2.1, .bool x.1.2.2.2.1, .int .i64 x.1.2.2.2.2.1, .int .i64 x.1.2.2.2.2.2.1, .int .i64 x.1.2.2.2.2.2.2.1, .int .i64 x.1.2.2.2.2.2.2.2.1, .ro true 132 t2 x.1.2.2.2.2.2.2.2.2.1, .ro true 173 t3 x.1.2.2.2.2.2.2.2.2.2.1, .int .i64 x.1.2.2.2.2.2.2.2.2.2.2.1.1, .int .i64 x.1.2.2.2.2.2.2.2.2.2.2.1.2.1, .int .i64 x.1.2.2.2.2.2.2.2.2.2.2.1.2.2.1, .bool x.1.2.2.2.2.2.2.2.2.2.2.1.2.2.2, .ro true 177 t31 x.1.2.2.2.2.2.2.2.2.2.2.2.1, .int .i64 x.1.2.2.2.2.2.2.2.2.2.2.2.2.1.1, .int .i64 x.1.2.2.2.2.2.2.2.2.2.2.2.2.1.2.1, .int .i64 x.1.2.2.2.2.2.2.2.2.2.2.2.2.1.2.2.1, .int .i64 x.1.2.2.2.2.2.2.2.2.2.2.2.2.1.2.2.2, .ro true 94 t33 x.1.2.2.2.2.2.2.2.2.2.2.2.2.2.1, .ro true 119 t55 x.1.2.2.2.2.2.2.2.2.2.2.2.2.2.2]⟩), (100004, ⟨0, .agg, [.int .i64 a.2.2.1, .int .i64 a.2.2.2.1, .int .i64 a.2.2.2.2.1, .int .i64 a.2.2.2.2.2.1, .int .i64 a.2.2.2.2.2.2.1, .ro true 3 (.int .i64) a.2.2.2.2.2.2.2]⟩)]
noncomputable def k_l0 (K : Nat) (x : Args ps) : Ex → St → Option Res := kAt (ev K) body [1, 0, 1, 0] fin
noncomputable def N_l0 (K : Nat) (x : Args ps) : A_l0 → Option Res := fun a => evLoop live_l0 (ev K (sub body [1, 0, 1, 0, 0])) K (S_l0 x a) (k_l0 K x)
noncomputable def k_l1 (K : Nat) (x : Args ps) (r_l0 : St → Option Res) : Ex → St → Option Res := kAt (ev K) (sub body [1, 0, 1, 0, 0]) [1, 0, 0, 1, 1, 1, 0] (kLoop live_l0 r_l0 (k_l0 K x))
noncomputable def N_l1 (K : Nat) (x : Args ps) (r_l0 : St → Option Res) : A_l1 → Option Res := fun a => evLoop live_l1 (ev K (sub body [1, 0, 1, 0, 0, 1, 0, 0, 1, 1, 1, 0, 0])) K (S_l1 x a) (k_l1 K x r_l0)
end spec_l21PlacesOk
namespace spec_l21OthersOk
@[reducible] def ps : List PK := [.rd t69]
@[reducible] def rs : List RK := [.v .bool]
abbrev Res := Ress rs × Outs ps
abbrev A_l0 := Int
noncomputable def l0.step (K : Nat) (x : Args ps) (rec_l0 : A_l0 → Option Res) (a : A_l0) : Option Res := bif decide (a < (List.length x.1.2.2.2.2.2.2.2.2.2.2.2.2.2.2 : Int)) then ((idx x.1.2.2.2.2.2.2.2.2.2.2.2.2.2.2 a).bind fun y1 => (spec_l1In.f K (y1.1, 0, 1, ())).bind fun y2 => bif !y2.1.1 then (some ((false, ()), ())) else ((spec_l21Site.f K (x.1.1, ())).bind fun y3 => bif y1.1 == y3.1.1 then (some ((false, ()), ())) else (bif decide (a > 0) then ((idx x.1.2.2.2.2.2.2.2.2.2.2.2.2.2.2 (wr .i64 (a - 1))).bind fun y4 => bif decide (y4.1 ≥ y1.1) then (some ((false, ()), ())) else (bif (List.length y1.2 : Int) == 0 then (some ((false, ()), ())) else ((spec_TableOk.f K (y1.2, ())).bind fun y5 => bif !y5.1.1 then (some ((false, ()), ())) else ((spec_l4Site.f K (y1.2, y1.1, ())).bind fun y6 => bif !y6.1.1 then (some ((false, ()), ())) else (rec_l0 (wr .i64 (a + 1))))))) else (bif (List.length y1.2 : Int) == 0 then (some ((false, ()), ())) else ((spec_TableOk.f K (y1.2, ())).bind fun y7 => bif !y7.1.1 then (some ((false, ()), ())) else ((spec_l4Site.f K (y1.2, y1.1, ())).bind fun y8 => bif !y8.1.1 then (some ((false, ()), ())) else (rec_l0 (wr .i64 (a + 1))))))))) else (some ((true, ()), ()))
noncomputable def l0 (K : Nat) (x : Args ps) : A_l0 → Option Res := iterate (fun rec_l0 a => l0.step K x rec_l0 a) K
noncomputable def pre (K : Nat) (N_l0 : A_l0 → Option Res) (x : Args ps) : Option Res := N_l0 0
noncomputable def f (K : Nat) (x : Args ps) : Option Res := pre K (l0 K x) x
noncomputable def c (K : Nat) : Ctr := ⟨163, ps, rs, true, f K⟩
noncomputable def G (K : Nat) : List Ctr := [spec_l21Site.c K, spec_l1In.c K, spec_TableOk.c K, spec_l4Site.c K]
noncomputable def live_l0 : List (Nat × List Coe) := [(1, [.keep]), (3, [.keep]), (100001, [.keep, .keep, .keep, .keep, .keep, .keep, .keep, .keep, .ro true 132 t2, .ro true 173 t3, .keep, .keep, .keep, .keep, .ro true 177 t31, .keep, .keep, .keep, .keep, .ro true 94 t33, .ro true 119 t55])]
noncomputable def L : List (Nat × List (Nat × List Coe)) := [(3, live_l0)]
noncomputable def body : Code := bodyOf Tryz.f163
noncomputable abbrev ev (K : Nat) : Code → St → (Ex → St → Option Res) → Option Res := evK (G K) T_S L K
noncomputable abbrev fin : Ex → St → Option Res := finK T_S ps rs true Tryz.f163.results.toList
noncomputable def S_l0 (x : Args ps) (a : A_l0) : St := mkSt [(1, ⟨0, .one, [.bp 100001 0]⟩), (3, ⟨0, .one, [.int .i64 a]⟩), (100001, ⟨0, .agg, [.int .i64 x.1.1, .bool x.1.2.1, .bool x.1.2.2.1, .bool x.1.2.2.2.1, .int .i64 x.1.2.2.2.2.1, .int .i64 x.1.2.2.2.2.2.1, .int .i64 x.1.2.2.2.2.2.2.1, .int .i64 x.1.2.2.2.2.2.2.2.1, .ro true 132 t2 x.1.2.2.2.2.2.2.2.2.1, .ro true 173 t3 x.1.2.2.2.2.2.2.2.2.2.1, .int .i64 x.1.2.2.2.2.2.2.2.2.2.2.1.1, .int .i64 x.1.2.2.2.2.2.2.2.2.2.2.1.2.1, .int .i64 x.1.2.2.2.2.2.2.2.2.2.2.1.2.2.1, .bool x.1.2.2.2.2.2.2.2.2.2.2.1.2.2.2, .ro true 177 t31 x.1.2.2.2.2.2.2.2.2.2.2.2.1, .int .i64 x.1.2.2.2.2.2.2.2.2.2.2.2.2.1.1, .int .i64 x.1.2.2.2.2.2.2.2.2.2.2.2.2.1.2.1, .int .i64 x.1.2.2.2.2.2.2.2.2.2.2.2.2.1.2.2.1, .int .i64 x.1.2.2.2.2.2.2.2.2.2.2.2.2.1.2.2.2, .ro true 94 t33 x.1.2.2.2.2.2.2.2.2.2.2.2.2.2.1, .ro true 119 t55 x.1.2.2.2.2.2.2.2.2.2.2.2.2.2.2]⟩)]
noncomputable def k_l0 (K : Nat) (x : Args ps) : Ex → St → Option Res := kAt (ev K) body [1, 0, 1, 0] fin
noncomputable def N_l0 (K : Nat) (x : Args ps) : A_l0 → Option Res := fun a => evLoop live_l0 (ev K (sub body [1, 0, 1, 0, 0])) K (S_l0 x a) (k_l0 K x)
end spec_l21OthersOk
namespace spec_NodeOk
@[reducible] def ps : List PK := [.rd t69]
@[reducible] def rs : List RK := [.v .bool]
abbrev Res := Ress rs × Outs ps
noncomputable def pre (K : Nat) (x : Args ps) : Option Res := (spec_l1In.f K (x.1.1, 0, 7, ())).bind fun y1 => bif !y1.1.1 then (some ((false, ()), ())) else ((spec_l1In.f K (x.1.2.2.2.2.2.1, 0, 999999, ())).bind fun y2 => bif !y2.1.1 then (some ((false, ()), ())) else ((spec_l1In.f K (x.1.2.2.2.2.2.2.1, 0, 999999, ())).bind fun y3 => bif !y3.1.1 then (some ((false, ()), ())) else ((spec_l1In.f K (x.1.2.2.2.2.2.2.2.1, 0, 8, ())).bind fun y4 => bif !y4.1.1 then (some ((false, ()), ())) else ((spec_l1In.f K (x.1.2.2.2.2.1, 0, 999, ())).bind fun y5 => bif !y5.1.1 then (some ((false, ()), ())) else (bif !x.1.2.1 then (bif !x.1.2.2.1 then (bif x.1.2.2.2.2.1 == 0 then (bif x.1.2.2.2.2.2.1 == 0 then (bif x.1.2.2.2.2.2.2.1 == 0 then (bif x.1.2.2.2.2.2.2.2.1 == 0 then (bif (wr .i64 ((wr .i64 ((wr .i64 ((wr .i64 ((List.length x.1.2.2.2.2.2.2.2.2.1 : Int) + (List.length x.1.2.2.2.2.2.2.2.2.2.1 : Int))) + (List.length x.1.2.2.2.2.2.2.2.2.2.2.2.1 : Int))) + (List.length x.1.2.2.2.2.2.2.2.2.2.2.2.2.2.1 : Int))) + (List.length x.1.2.2.2.2.2.2.2.2.2.2.2.2.2.2 : Int))) == 0 then (bif x.1.2.2.2.2.2.2.2.2.2.2.1.1 == 0 then (bif x.1.2.2.2.2.2.2.2.2.2.2.1.2.1 == 0 then (bif x.1.2.2.2.2.2.2.2.2.2.2.1.2.2.1 == 0 then (bif !x.1.2.2.2.2.2.2.2.2.2.2.1.2.2.2 then (bif x.1.2.2.2.2.2.2.2.2.2.2.2.2.1.1 == 0 then (bif x.1.2.2.2.2.2.2.2.2.2.2.2.2.1.2.1 == 0 then (bif x.1.2.2.2.2.2.2.2.2.2.2.2.2.1.2.2.1 == 0 then (some ((x.1.2.2.2.2.2.2.2.2.2.2.2.2.1.2.2.2 == 0, ()), ())) else (some ((false, ()), ()))) else (some ((false, ()), ()))) else (some ((false, ()), ()))) else (some ((false, ()), ()))) else (some ((false, ()), ()))) else (some ((false, ()), ()))) else (some ((false, ()), ()))) else (some ((false, ()), ()))) else (some ((false, ()), ()))) else (some ((false, ()), ()))) else (some ((false, ()), ()))) else (some ((false, ()), ()))) else (some ((false, ()), ()))) else ((spec_TableOk.f K (x.1.2.2.2.2.2.2.2.2.1, ())).bind fun y6 => bif y6.1.1 then ((spec_l21Site.f K (x.1.1, ())).bind fun y7 => (spec_l4Site.f K (x.1.2.2.2.2.2.2.2.2.1, y7.1.1, ())).bind fun y8 => bif y8.1.1 then ((spec_l21Self.f K (x.1, ())).bind fun y9 => bif y9.1.1 then ((spec_l21CastOk.f K (x.1, ())).bind fun y10 => bif y10.1.1 then ((spec_l21ProbeOk.f K (x.1, ())).bind fun y11 => bif y11.1.1 then ((spec_l21DoubtsOk.f K (x.1, ())).bind fun y12 => bif y12.1.1 then ((spec_CoordOk.f K (x.1.2.2.2.2.2.2.2.2.2.2.2.2.1, ())).bind fun y13 => bif y13.1.1 then ((spec_l21PlacesOk.f K (x.1, ())).bind fun y14 => bif y14.1.1 then ((spec_l21OthersOk.f K (x.1, ())).bind fun y15 => some ((y15.1.1, ()), ())) else (some ((false, ()), ()))) else (some ((false, ()), ()))) else (some ((false, ()), ()))) else (some ((false, ()), ()))) else (some ((false, ()), ()))) else (some ((false, ()), ()))) else (some ((false, ()), ()))) else (some ((false, ()), ()))))))))
noncomputable def f (K : Nat) (x : Args ps) : Option Res := pre K x
noncomputable def c (K : Nat) : Ctr := ⟨65, ps, rs, true, f K⟩
noncomputable def G (K : Nat) : List Ctr := [spec_l21Site.c K, spec_l1In.c K, spec_TableOk.c K, spec_l4Site.c K, spec_l21Self.c K, spec_l21CastOk.c K, spec_l21ProbeOk.c K, spec_l21DoubtsOk.c K, spec_CoordOk.c K, spec_l21PlacesOk.c K, spec_l21OthersOk.c K]
noncomputable def L : List (Nat × List (Nat × List Coe)) := []
noncomputable def body : Code := bodyOf Tryz.f65
noncomputable abbrev ev (K : Nat) : Code → St → (Ex → St → Option Res) → Option Res := evK (G K) T_S L K
noncomputable abbrev fin : Ex → St → Option Res := finK T_S ps rs true Tryz.f65.results.toList
end spec_NodeOk
namespace spec_l51Gate
@[reducible] def ps : List PK := [.rd (.int .i64)]
@[reducible] def rs : List RK := [.v .bool]
abbrev Res := Ress rs × Outs ps
noncomputable def pre (K : Nat) (x : Args ps) : Option Res := some ((decide ((Int.tmod x.1 4) < 3), ()), ())
noncomputable def f (K : Nat) (x : Args ps) : Option Res := pre K x
noncomputable def c (K : Nat) : Ctr := ⟨103, ps, rs, true, f K⟩
noncomputable def G (K : Nat) : List Ctr := []
noncomputable def L : List (Nat × List (Nat × List Coe)) := []
noncomputable def body : Code := bodyOf Tryz.f103
noncomputable abbrev ev (K : Nat) : Code → St → (Ex → St → Option Res) → Option Res := evK (G K) T_S L K
noncomputable abbrev fin : Ex → St → Option Res := finK T_S ps rs true Tryz.f103.results.toList
end spec_l51Gate
namespace spec_l51Less
@[reducible] def ps : List PK := [.rd t2, .rd t2]
@[reducible] def rs : List RK := [.v .bool]
abbrev Res := Ress rs × Outs ps
noncomputable def pre (K : Nat) (x : Args ps) : Option Res := bif x.1.1 != x.2.1.1 then (some ((decide (x.1.1 < x.2.1.1), ()), ())) else ((spec_l3Over.f K (x.2.1, x.1, ())).bind fun y1 => some ((y1.1.1, ()), ()))
noncomputable def f (K : Nat) (x : Args ps) : Option Res := pre K x
noncomputable def c (K : Nat) : Ctr := ⟨106, ps, rs, true, f K⟩
noncomputable def G (K : Nat) : List Ctr := [spec_l3Over.c K]
noncomputable def L : List (Nat × List (Nat × List Coe)) := []
noncomputable def body : Code := bodyOf Tryz.f106
noncomputable abbrev ev (K : Nat) : Code → St → (Ex → St → Option Res) → Option Res := evK (G K) T_S L K
noncomputable abbrev fin : Ex → St → Option Res := finK T_S ps rs true Tryz.f106.results.toList
end spec_l51Less
namespace spec_WorldOk
@[reducible] def ps : List PK := [.rd t72]
@[reducible] def rs : List RK := [.v .bool]
abbrev Res := Ress rs × Outs ps
abbrev A_l2 := Int
abbrev A_l1 := Int
abbrev A_l0 := Int
noncomputable def l2.step (K : Nat) (x : Args ps) (rec_l2 : A_l2 → Option Res) (a : A_l2) : Option Res := bif decide (a < (List.length x.1.2.2.2 : Int)) then ((idx x.1.2.2.2 a).bind fun y11 => (spec_FactOk.f K (y11, ())).bind fun y12 => bif !y12.1.1 then (some ((false, ()), ())) else (bif decide (a > 0) then ((idx x.1.2.2.2 (wr .i64 (a - 1))).bind fun y13 => (idx x.1.2.2.2 a).bind fun y14 => (spec_l51Less.f K (y13, y14, ())).bind fun y15 => bif !y15.1.1 then (some ((false, ()), ())) else (rec_l2 (wr .i64 (a + 1)))) else (rec_l2 (wr .i64 (a + 1))))) else (some ((true, ()), ()))
noncomputable def l2 (K : Nat) (x : Args ps) : A_l2 → Option Res := iterate (fun rec_l2 a => l2.step K x rec_l2 a) K
noncomputable def l1.step (K : Nat) (x : Args ps) (N_l2 : A_l2 → Option Res) (rec_l1 : A_l1 → Option Res) (a : A_l1) : Option Res := bif decide (a < (List.length x.1.2.1 : Int)) then ((idx x.1.2.1 a).bind fun y8 => (spec_l1In.f K (y8.1, 0, 7, ())).bind fun y9 => bif !y9.1.1 then (some ((false, ()), ())) else ((idx x.1.2.1 a).bind fun y10 => bif decide ((y10.2.1.size : Int) > 300) then (some ((false, ()), ())) else (rec_l1 (wr .i64 (a + 1))))) else (N_l2 0)
noncomputable def l1 (K : Nat) (x : Args ps) : A_l1 → Option Res := iterate (fun rec_l1 a => l1.step K x (l2 K x) rec_l1 a) K
noncomputable def l0.step (K : Nat) (x : Args ps) (N_l1 : A_l1 → Option Res) (rec_l0 : A_l0 → Option Res) (a : A_l0) : Option Res := bif decide (a < (List.length x.1.1 : Int)) then ((idx x.1.1 a).bind fun y1 => bif y1.1 != a then (some ((false, ()), ())) else ((idx x.1.1 a).bind fun y2 => (spec_l51Gate.f K (a, ())).bind fun y3 => bif y2.2.2.2.1 != y3.1.1 then (some ((false, ()), ())) else ((idx x.1.1 a).bind fun y4 => (spec_NodeOk.f K (y4, ())).bind fun y5 => bif !y5.1.1 then (some ((false, ()), ())) else ((idx x.1.2.2.1 a).bind fun y6 => (spec_l1In.f K (y6, 0, 2, ())).bind fun y7 => bif !y7.1.1 then (some ((false, ()), ())) else (rec_l0 (wr .i64 (a + 1))))))) else (N_l1 0)
noncomputable def l0 (K : Nat) (x : Args ps) : A_l0 → Option Res := iterate (fun rec_l0 a => l0.step K x (l1 K x) rec_l0 a) K
noncomputable def pre (K : Nat) (N_l0 : A_l0 → Option Res) (x : Args ps) : Option Res := bif (List.length x.1.1 : Int) != 8 then (some ((false, ()), ())) else (bif (List.length x.1.2.2.1 : Int) != (List.length x.1.1 : Int) then (some ((false, ()), ())) else (bif decide ((List.length x.1.2.1 : Int) > 60) then (some ((false, ()), ())) else (N_l0 0)))
noncomputable def f (K : Nat) (x : Args ps) : Option Res := pre K (l0 K x) x
noncomputable def c (K : Nat) : Ctr := ⟨32, ps, rs, true, f K⟩
noncomputable def G (K : Nat) : List Ctr := [spec_NodeOk.c K, spec_l51Gate.c K, spec_l1In.c K, spec_FactOk.c K, spec_l51Less.c K]
noncomputable def live_l2 : List (Nat × List Coe) := [(1, [.keep]), (5, [.keep]), (100001, [.ro true 44 t69, .ro true 129 t28, .ro true 3 (.int .i64), .ro true 132 t2])]
noncomputable def live_l1 : List (Nat × List Coe) := [(1, [.keep]), (4, [.keep]), (100001, [.ro true 44 t69, .ro true 129 t28, .ro true 3 (.int .i64), .ro true 132 t2])]
noncomputable def live_l0 : List (Nat × List Coe) := [(1, [.keep]), (3, [.keep]), (100001, [.ro true 44 t69, .ro true 129 t28, .ro true 3 (.int .i64), .ro true 132 t2])]
noncomputable def L : List (Nat × List (Nat × List Coe)) := [(15, live_l2), (10, live_l1), (5, live_l0)]
noncomputable def body : Code := bodyOf Tryz.f32
noncomputable abbrev ev (K : Nat) : Code → St → (Ex → St → Option Res) → Option Res := evK (G K) T_S L K
noncomputable abbrev fin : Ex → St → Option Res := finK T_S ps rs true Tryz.f32.results.toList
noncomputable def S_l0 (x : Args ps) (a : A_l0) : St := mkSt [(1, ⟨0, .one, [.bp 100001 0]⟩), (3, ⟨0, .one, [.int .i64 a]⟩), (100001, ⟨0, .agg, [.ro true 44 t69 x.1.1, .ro true 129 t28 x.1.2.1, .ro true 3 (.int .i64) x.1.2.2.1, .ro true 132 t2 x.1.2.2.2]⟩)]
noncomputable def S_l1 (x : Args ps) (a : A_l1) : St := mkSt [(1, ⟨0, .one, [.bp 100001 0]⟩), (4, ⟨0, .one, [.int .i64 a]⟩), (100001, ⟨0, .agg, [.ro true 44 t69 x.1.1, .ro true 129 t28 x.1.2.1, .ro true 3 (.int .i64) x.1.2.2.1, .ro true 132 t2 x.1.2.2.2]⟩)]
noncomputable def S_l2 (x : Args ps) (a : A_l2) : St := mkSt [(1, ⟨0, .one, [.bp 100001 0]⟩), (5, ⟨0, .one, [.int .i64 a]⟩), (100001, ⟨0, .agg, [.ro true 44 t69 x.1.1, .ro true 129 t28 x.1.2.1, .ro true 3 (.int .i64) x.1.2.2.1, .ro true 132 t2 x.1.2.2.2]⟩)]
noncomputable def k_l0 (K : Nat) (x : Args ps) : Ex → St → Option Res := kAt (ev K) body [1, 1, 0, 1, 0] fin
noncomputable def N_l0 (K : Nat) (x : Args ps) : A_l0 → Option Res := fun a => evLoop live_l0 (ev K (sub body [1, 1, 0, 1, 0, 0])) K (S_l0 x a) (k_l0 K x)
noncomputable def k_l1 (K : Nat) (x : Args ps) : Ex → St → Option Res := kAt (ev K) body [1, 1, 1, 0, 1, 0] fin
noncomputable def N_l1 (K : Nat) (x : Args ps) : A_l1 → Option Res := fun a => evLoop live_l1 (ev K (sub body [1, 1, 1, 0, 1, 0, 0])) K (S_l1 x a) (k_l1 K x)
noncomputable def k_l2 (K : Nat) (x : Args ps) : Ex → St → Option Res := kAt (ev K) body [1, 1, 1, 1, 0, 1, 0] fin
noncomputable def N_l2 (K : Nat) (x : Args ps) : A_l2 → Option Res := fun a => evLoop live_l2 (ev K (sub body [1, 1, 1, 1, 0, 1, 0, 0])) K (S_l2 x a) (k_l2 K x)
end spec_WorldOk
namespace spec_NodeView
@[reducible] def ps : List PK := [.rd t69]
@[reducible] def rs : List RK := [.v (.list false 132 t2)]
abbrev Res := Ress rs × Outs ps
abbrev A_l1 := List (Ty.den t2) × Int × Int
abbrev A_l0 := List (Ty.den t2) × Int
noncomputable def l1.step (K : Nat) (x : Args ps) (rec_l0 : A_l0 → Option Res) (rec_l1 : A_l1 → Option Res) (a : A_l1) : Option Res := bif decide (a.2.2 < (List.length x.1.2.2.2.2.2.2.2.2.2.2.2.2.2.2 : Int)) then ((idx x.1.2.2.2.2.2.2.2.2.2.2.2.2.2.2 a.2.2).bind fun y3 => bif y3.1 == a.2.1 then ((idx x.1.2.2.2.2.2.2.2.2.2.2.2.2.2.2 a.2.2).bind fun y4 => bif decide ((List.length a.1 + List.length y4.2) * 32 ≤ sizeK) then (rec_l1 (a.1 ++ y4.2, a.2.1, wr .i64 (a.2.2 + 1))) else none) else (rec_l1 (a.1, a.2.1, wr .i64 (a.2.2 + 1)))) else (rec_l0 (a.1, wr .i64 (a.2.1 + 1)))
noncomputable def l1 (K : Nat) (x : Args ps) (rec_l0 : A_l0 → Option Res) : A_l1 → Option Res := iterate (fun rec_l1 a => l1.step K x rec_l0 rec_l1 a) K
noncomputable def l0.step (K : Nat) (x : Args ps) (N_l1 : A_l1 → Option Res) (rec_l0 : A_l0 → Option Res) (a : A_l0) : Option Res := bif decide (a.2 ≤ 1) then ((spec_l21Site.f K (x.1.1, ())).bind fun y2 => bif a.2 == y2.1.1 then (bif decide ((List.length a.1 + List.length x.1.2.2.2.2.2.2.2.2.1) * 32 ≤ sizeK) then (N_l1 (a.1 ++ x.1.2.2.2.2.2.2.2.2.1, a.2, 0)) else none) else (N_l1 (a.1, a.2, 0))) else (some ((a.1, ()), ()))
noncomputable def l0 (K : Nat) (x : Args ps) : A_l0 → Option Res := iterate (fun rec_l0 a => l0.step K x (l1 K x rec_l0) rec_l0 a) K
noncomputable def pre (K : Nat) (N_l0 : A_l0 → Option Res) (x : Args ps) : Option Res := (spec_NodeOk.f K (x.1, ())).bind fun y1 => bif !y1.1.1 then (some (([], ()), ())) else (bif !x.1.2.1 then (some (([], ()), ())) else (N_l0 ([], 0)))
noncomputable def f (K : Nat) (x : Args ps) : Option Res := pre K (l0 K x) x
noncomputable def c (K : Nat) : Ctr := ⟨44, ps, rs, true, f K⟩
noncomputable def G (K : Nat) : List Ctr := [spec_NodeOk.c K, spec_l21Site.c K]
noncomputable def live_l1 : List (Nat × List Coe) := [(1, [.keep]), (3, [.own false 132 t2]), (4, [.keep]), (5, [.keep]), (100001, [.keep, .keep, .keep, .keep, .keep, .keep, .keep, .keep, .ro true 132 t2, .ro true 173 t3, .keep, .keep, .keep, .keep, .ro true 177 t31, .keep, .keep, .keep, .keep, .ro true 94 t33, .ro true 119 t55])]
noncomputable def live_l0 : List (Nat × List Coe) := [(1, [.keep]), (3, [.own false 132 t2]), (4, [.keep]), (100001, [.keep, .keep, .keep, .keep, .keep, .keep, .keep, .keep, .ro true 132 t2, .ro true 173 t3, .keep, .keep, .keep, .keep, .ro true 177 t31, .keep, .keep, .keep, .keep, .ro true 94 t33, .ro true 119 t55])]
noncomputable def L : List (Nat × List (Nat × List Coe)) := [(11, live_l1), (6, live_l0)]
noncomputable def body : Code := bodyOf Tryz.f44
noncomputable abbrev ev (K : Nat) : Code → St → (Ex → St → Option Res) → Option Res := evK (G K) T_S L K
noncomputable abbrev fin : Ex → St → Option Res := finK T_S ps rs true Tryz.f44.results.toList
noncomputable def S_l0 (x : Args ps) (a : A_l0) : St := mkSt [(1, ⟨0, .one, [.bp 100001 0]⟩), (3, ⟨0, .one, [.own false none 132 t2 a.1]⟩), (4, ⟨0, .one, [.int .i64 a.2]⟩), (100001, ⟨0, .agg, [.int .i64 x.1.1, .bool x.1.2.1, .bool x.1.2.2.1, .bool x.1.2.2.2.1, .int .i64 x.1.2.2.2.2.1, .int .i64 x.1.2.2.2.2.2.1, .int .i64 x.1.2.2.2.2.2.2.1, .int .i64 x.1.2.2.2.2.2.2.2.1, .ro true 132 t2 x.1.2.2.2.2.2.2.2.2.1, .ro true 173 t3 x.1.2.2.2.2.2.2.2.2.2.1, .int .i64 x.1.2.2.2.2.2.2.2.2.2.2.1.1, .int .i64 x.1.2.2.2.2.2.2.2.2.2.2.1.2.1, .int .i64 x.1.2.2.2.2.2.2.2.2.2.2.1.2.2.1, .bool x.1.2.2.2.2.2.2.2.2.2.2.1.2.2.2, .ro true 177 t31 x.1.2.2.2.2.2.2.2.2.2.2.2.1, .int .i64 x.1.2.2.2.2.2.2.2.2.2.2.2.2.1.1, .int .i64 x.1.2.2.2.2.2.2.2.2.2.2.2.2.1.2.1, .int .i64 x.1.2.2.2.2.2.2.2.2.2.2.2.2.1.2.2.1, .int .i64 x.1.2.2.2.2.2.2.2.2.2.2.2.2.1.2.2.2, .ro true 94 t33 x.1.2.2.2.2.2.2.2.2.2.2.2.2.2.1, .ro true 119 t55 x.1.2.2.2.2.2.2.2.2.2.2.2.2.2.2]⟩)]
noncomputable def S_l1 (x : Args ps) (a : A_l1) : St := mkSt [(1, ⟨0, .one, [.bp 100001 0]⟩), (3, ⟨0, .one, [.own false none 132 t2 a.1]⟩), (4, ⟨0, .one, [.int .i64 a.2.1]⟩), (5, ⟨0, .one, [.int .i64 a.2.2]⟩), (100001, ⟨0, .agg, [.int .i64 x.1.1, .bool x.1.2.1, .bool x.1.2.2.1, .bool x.1.2.2.2.1, .int .i64 x.1.2.2.2.2.1, .int .i64 x.1.2.2.2.2.2.1, .int .i64 x.1.2.2.2.2.2.2.1, .int .i64 x.1.2.2.2.2.2.2.2.1, .ro true 132 t2 x.1.2.2.2.2.2.2.2.2.1, .ro true 173 t3 x.1.2.2.2.2.2.2.2.2.2.1, .int .i64 x.1.2.2.2.2.2.2.2.2.2.2.1.1, .int .i64 x.1.2.2.2.2.2.2.2.2.2.2.1.2.1, .int .i64 x.1.2.2.2.2.2.2.2.2.2.2.1.2.2.1, .bool x.1.2.2.2.2.2.2.2.2.2.2.1.2.2.2, .ro true 177 t31 x.1.2.2.2.2.2.2.2.2.2.2.2.1, .int .i64 x.1.2.2.2.2.2.2.2.2.2.2.2.2.1.1, .int .i64 x.1.2.2.2.2.2.2.2.2.2.2.2.2.1.2.1, .int .i64 x.1.2.2.2.2.2.2.2.2.2.2.2.2.1.2.2.1, .int .i64 x.1.2.2.2.2.2.2.2.2.2.2.2.2.1.2.2.2, .ro true 94 t33 x.1.2.2.2.2.2.2.2.2.2.2.2.2.2.1, .ro true 119 t55 x.1.2.2.2.2.2.2.2.2.2.2.2.2.2.2]⟩)]
noncomputable def k_l0 (K : Nat) (x : Args ps) : Ex → St → Option Res := kAt (ev K) body [1, 1, 1, 0, 1, 0] fin
noncomputable def N_l0 (K : Nat) (x : Args ps) : A_l0 → Option Res := fun a => evLoop live_l0 (ev K (sub body [1, 1, 1, 0, 1, 0, 0])) K (S_l0 x a) (k_l0 K x)
noncomputable def k_l1 (K : Nat) (x : Args ps) (r_l0 : St → Option Res) : Ex → St → Option Res := kAt (ev K) (sub body [1, 1, 1, 0, 1, 0, 0]) [1, 0, 0, 1, 1, 0] (kLoop live_l0 r_l0 (k_l0 K x))
noncomputable def N_l1 (K : Nat) (x : Args ps) (r_l0 : St → Option Res) : A_l1 → Option Res := fun a => evLoop live_l1 (ev K (sub body [1, 1, 1, 0, 1, 0, 0, 1, 0, 0, 1, 1, 0, 0])) K (S_l1 x a) (k_l1 K x r_l0)
end spec_NodeView
namespace spec_l52Facts
@[reducible] def ps : List PK := [.rd (.list false 132 t2), .rd (.list false 132 t2)]
@[reducible] def rs : List RK := [.v .bool]
abbrev Res := Ress rs × Outs ps
abbrev A_l0 := Int
noncomputable def l0.step (K : Nat) (x : Args ps) (rec_l0 : A_l0 → Option Res) (a : A_l0) : Option Res := bif decide (a < (List.length x.1 : Int)) then ((idx x.1 a).bind fun y1 => (idx x.2.1 a).bind fun y2 => bif !Ty.eqv t2 y1 y2 then (some ((false, ()), ())) else (rec_l0 (wr .i64 (a + 1)))) else (some ((true, ()), ()))
noncomputable def l0 (K : Nat) (x : Args ps) : A_l0 → Option Res := iterate (fun rec_l0 a => l0.step K x rec_l0 a) K
noncomputable def pre (K : Nat) (N_l0 : A_l0 → Option Res) (x : Args ps) : Option Res := bif (List.length x.1 : Int) != (List.length x.2.1 : Int) then (some ((false, ()), ())) else (N_l0 0)
noncomputable def f (K : Nat) (x : Args ps) : Option Res := pre K (l0 K x) x
noncomputable def c (K : Nat) : Ctr := ⟨142, ps, rs, true, f K⟩
noncomputable def G (K : Nat) : List Ctr := []
noncomputable def live_l0 : List (Nat × List Coe) := [(0, [.ro true 132 t2]), (1, [.ro true 132 t2]), (5, [.keep])]
noncomputable def L : List (Nat × List (Nat × List Coe)) := [(5, live_l0)]
noncomputable def body : Code := bodyOf Tryz.f142
noncomputable abbrev ev (K : Nat) : Code → St → (Ex → St → Option Res) → Option Res := evK (G K) T_S L K
noncomputable abbrev fin : Ex → St → Option Res := finK T_S ps rs true Tryz.f142.results.toList
noncomputable def S_l0 (x : Args ps) (a : A_l0) : St := mkSt [(0, ⟨0, .one, [.ro true 132 t2 x.1]⟩), (1, ⟨0, .one, [.ro true 132 t2 x.2.1]⟩), (5, ⟨0, .one, [.int .i64 a]⟩)]
noncomputable def k_l0 (K : Nat) (x : Args ps) : Ex → St → Option Res := kAt (ev K) body [1, 1, 0, 1, 0] fin
noncomputable def N_l0 (K : Nat) (x : Args ps) : A_l0 → Option Res := fun a => evLoop live_l0 (ev K (sub body [1, 1, 0, 1, 0, 0])) K (S_l0 x a) (k_l0 K x)
end spec_l52Facts
namespace spec_WorldSame
@[reducible] def ps : List PK := [.rd t72]
@[reducible] def rs : List RK := [.v .bool]
abbrev Res := Ress rs × Outs ps
abbrev A_l1 := List (Ty.den t2) × Int
abbrev A_l0 := Bool × List (Ty.den t2) × Int
noncomputable def l1.step (K : Nat) (x : Args ps) (rec_l1 : A_l1 → Option Res) (a : A_l1) : Option Res := bif decide (a.2 < (List.length x.1.1 : Int)) then ((spec_l3Find.f K (a.1, a.2, ())).bind fun y6 => bif decide (y6.1.1 ≥ 0) then ((idx a.1 y6.1.1).bind fun y7 => (idx x.1.1 a.2).bind fun y8 => bif y8.2.1 then ((idx x.1.1 a.2).bind fun y9 => bif (y7.2.2.1 == 1) != (!y9.2.2.1) then (some ((false, ()), ())) else (rec_l1 (a.1, wr .i64 (a.2 + 1)))) else (bif (y7.2.2.1 == 1) != false then (some ((false, ()), ())) else (rec_l1 (a.1, wr .i64 (a.2 + 1))))) else ((idx x.1.1 a.2).bind fun y10 => bif y10.2.1 then ((idx x.1.1 a.2).bind fun y11 => bif false != (!y11.2.2.1) then (some ((false, ()), ())) else (rec_l1 (a.1, wr .i64 (a.2 + 1)))) else (bif false != false then (some ((false, ()), ())) else (rec_l1 (a.1, wr .i64 (a.2 + 1)))))) else (some ((true, ()), ()))
noncomputable def l1 (K : Nat) (x : Args ps) : A_l1 → Option Res := iterate (fun rec_l1 a => l1.step K x rec_l1 a) K
noncomputable def l0.step (K : Nat) (x : Args ps) (N_l1 : A_l1 → Option Res) (rec_l0 : A_l0 → Option Res) (a : A_l0) : Option Res := bif decide (a.2.2 < (List.length x.1.1 : Int)) then ((idx x.1.1 a.2.2).bind fun y2 => bif !y2.2.1 then (rec_l0 (a.1, a.2.1, wr .i64 (a.2.2 + 1))) else (bif y2.2.2.1 then (rec_l0 (a.1, a.2.1, wr .i64 (a.2.2 + 1))) else ((spec_NodeView.f K (y2, ())).bind fun y3 => bif a.1 then ((spec_l52Facts.f K (y3.1.1, y3.1.1, ())).bind fun y4 => bif !y4.1.1 then (some ((false, ()), ())) else (rec_l0 (false, y3.1.1, wr .i64 (a.2.2 + 1)))) else ((spec_l52Facts.f K (y3.1.1, a.2.1, ())).bind fun y5 => bif !y5.1.1 then (some ((false, ()), ())) else (rec_l0 (a.1, a.2.1, wr .i64 (a.2.2 + 1))))))) else (bif a.1 then (some ((true, ()), ())) else (N_l1 (a.2.1, 0)))
noncomputable def l0 (K : Nat) (x : Args ps) : A_l0 → Option Res := iterate (fun rec_l0 a => l0.step K x (l1 K x) rec_l0 a) K
noncomputable def pre (K : Nat) (N_l0 : A_l0 → Option Res) (x : Args ps) : Option Res := (spec_WorldOk.f K (x.1, ())).bind fun y1 => bif !y1.1.1 then (some ((false, ()), ())) else (N_l0 (true, [], 0))
noncomputable def f (K : Nat) (x : Args ps) : Option Res := pre K (l0 K x) x
noncomputable def c (K : Nat) : Ctr := ⟨51, ps, rs, true, f K⟩
noncomputable def G (K : Nat) : List Ctr := [spec_WorldOk.c K, spec_NodeView.c K, spec_l3Find.c K, spec_l52Facts.c K]
noncomputable def live_l1 : List (Nat × List Coe) := [(1, [.keep]), (4, [.ro false 132 t2]), (8, [.keep]), (100001, [.ro true 44 t69, .ro true 129 t28, .ro true 3 (.int .i64), .ro true 132 t2])]
noncomputable def live_l0 : List (Nat × List Coe) := [(1, [.keep]), (3, [.keep]), (4, [.ro false 132 t2]), (5, [.keep]), (100001, [.ro true 44 t69, .ro true 129 t28, .ro true 3 (.int .i64), .ro true 132 t2])]
noncomputable def L : List (Nat × List (Nat × List Coe)) := [(20, live_l1), (7, live_l0)]
noncomputable def body : Code := bodyOf Tryz.f51
noncomputable abbrev ev (K : Nat) : Code → St → (Ex → St → Option Res) → Option Res := evK (G K) T_S L K
noncomputable abbrev fin : Ex → St → Option Res := finK T_S ps rs true Tryz.f51.results.toList
noncomputable def S_l0 (x : Args ps) (a : A_l0) : St := mkSt [(1, ⟨0, .one, [.bp 100001 0]⟩), (3, ⟨0, .one, [.bool a.1]⟩), (4, ⟨0, .one, [.ro false 132 t2 a.2.1]⟩), (5, ⟨0, .one, [.int .i64 a.2.2]⟩), (100001, ⟨0, .agg, [.ro true 44 t69 x.1.1, .ro true 129 t28 x.1.2.1, .ro true 3 (.int .i64) x.1.2.2.1, .ro true 132 t2 x.1.2.2.2]⟩)]
noncomputable def S_l1 (x : Args ps) (a : A_l1) : St := mkSt [(1, ⟨0, .one, [.bp 100001 0]⟩), (4, ⟨0, .one, [.ro false 132 t2 a.1]⟩), (8, ⟨0, .one, [.int .i64 a.2]⟩), (100001, ⟨0, .agg, [.ro true 44 t69 x.1.1, .ro true 129 t28 x.1.2.1, .ro true 3 (.int .i64) x.1.2.2.1, .ro true 132 t2 x.1.2.2.2]⟩)]
noncomputable def k_l0 (K : Nat) (x : Args ps) : Ex → St → Option Res := kAt (ev K) body [1, 1, 1, 1, 0, 1, 0] fin
noncomputable def N_l0 (K : Nat) (x : Args ps) : A_l0 → Option Res := fun a => evLoop live_l0 (ev K (sub body [1, 1, 1, 1, 0, 1, 0, 0])) K (S_l0 x a) (k_l0 K x)
noncomputable def k_l1 (K : Nat) (x : Args ps) : Ex → St → Option Res := kAt (ev K) body [1, 1, 1, 1, 1, 1, 0, 1, 0] fin
noncomputable def N_l1 (K : Nat) (x : Args ps) : A_l1 → Option Res := fun a => evLoop live_l1 (ev K (sub body [1, 1, 1, 1, 1, 1, 0, 1, 0, 0])) K (S_l1 x a) (k_l1 K x)
end spec_WorldSame
namespace impl_in
@[reducible] def ps : List PK := [.rd (.int .i64), .rd (.int .i64), .rd (.int .i64)]
@[reducible] def rs : List RK := [.v .bool]
abbrev Res := Ress rs × Outs ps
noncomputable def pre (K : Nat) (x : Args ps) : Option Res := bif decide (x.1 ≥ x.2.1) then (some ((decide (x.1 ≤ x.2.2.1), ()), ())) else (some ((false, ()), ()))
noncomputable def f (K : Nat) (x : Args ps) : Option Res := pre K x
noncomputable def c (K : Nat) : Ctr := ⟨111, ps, rs, true, f K⟩
noncomputable def G (K : Nat) : List Ctr := []
noncomputable def L : List (Nat × List (Nat × List Coe)) := []
noncomputable def body : Code := bodyOf Tryz.f111
noncomputable abbrev ev (K : Nat) : Code → St → (Ex → St → Option Res) → Option Res := evK (G K) T_D L K
noncomputable abbrev fin : Ex → St → Option Res := finK T_D ps rs true Tryz.f111.results.toList
end impl_in
namespace impl_isNode
@[reducible] def ps : List PK := [.rd (.int .i64)]
@[reducible] def rs : List RK := [.v .bool]
abbrev Res := Ress rs × Outs ps
noncomputable def pre (K : Nat) (x : Args ps) : Option Res := (impl_in.f K (x.1, 0, 7, ())).bind fun y1 => some ((y1.1.1, ()), ())
noncomputable def f (K : Nat) (x : Args ps) : Option Res := pre K x
noncomputable def c (K : Nat) : Ctr := ⟨116, ps, rs, true, f K⟩
noncomputable def G (K : Nat) : List Ctr := [impl_in.c K]
noncomputable def L : List (Nat × List (Nat × List Coe)) := []
noncomputable def body : Code := bodyOf Tryz.f116
noncomputable abbrev ev (K : Nat) : Code → St → (Ex → St → Option Res) → Option Res := evK (G K) T_D L K
noncomputable abbrev fin : Ex → St → Option Res := finK T_D ps rs true Tryz.f116.results.toList
end impl_isNode
namespace impl_Node_isDown
@[reducible] def ps : List PK := [.rd t69]
@[reducible] def rs : List RK := [.v .bool]
abbrev Res := Ress rs × Outs ps
noncomputable def pre (K : Nat) (x : Args ps) : Option Res := bif !x.1.2.2.1 then (bif x.1.2.2.2.2.1 == 0 then (bif x.1.2.2.2.2.2.1 == 0 then (bif x.1.2.2.2.2.2.2.1 == 0 then (bif x.1.2.2.2.2.2.2.2.1 == 0 then (bif (wr .i64 ((wr .i64 ((wr .i64 ((wr .i64 ((List.length x.1.2.2.2.2.2.2.2.2.1 : Int) + (List.length x.1.2.2.2.2.2.2.2.2.2.1 : Int))) + (List.length x.1.2.2.2.2.2.2.2.2.2.2.2.1 : Int))) + (List.length x.1.2.2.2.2.2.2.2.2.2.2.2.2.2.1 : Int))) + (List.length x.1.2.2.2.2.2.2.2.2.2.2.2.2.2.2 : Int))) == 0 then (bif Ty.eqv t2 x.1.2.2.2.2.2.2.2.2.2.2.1 (0, (0, (0, false))) then (some ((Ty.eqv t9 x.1.2.2.2.2.2.2.2.2.2.2.2.2.1 (0, (0, (0, 0))), ()), ())) else (some ((false, ()), ()))) else (some ((false, ()), ()))) else (some ((false, ()), ()))) else (some ((false, ()), ()))) else (some ((false, ()), ()))) else (some ((false, ()), ()))) else (some ((false, ()), ()))
noncomputable def f (K : Nat) (x : Args ps) : Option Res := pre K x
noncomputable def c (K : Nat) : Ctr := ⟨170, ps, rs, true, f K⟩
noncomputable def G (K : Nat) : List Ctr := []
noncomputable def L : List (Nat × List (Nat × List Coe)) := []
noncomputable def body : Code := bodyOf Tryz.f170
noncomputable abbrev ev (K : Nat) : Code → St → (Ex → St → Option Res) → Option Res := evK (G K) T_D L K
noncomputable abbrev fin : Ex → St → Option Res := finK T_D ps rs true Tryz.f170.results.toList
end impl_Node_isDown
namespace slices_IndexFunc_impl_Fact_impl_Fact
@[reducible] def ps : List PK := [.rd (.list false 132 t2), .fn [t2] .bool]
@[reducible] def rs : List RK := [.v (.int .i64)]
abbrev Res := Ress rs × Outs ps
abbrev A_l0 := Int
noncomputable def l0.step (K : Nat) (x : Args ps) (rec_l0 : A_l0 → Option Res) (a : A_l0) : Option Res := bif decide (a < (List.length x.1 : Int)) then ((idx x.1 a).bind fun y1 => (x.2.1 (y1, ())).bind fun y2 => bif y2 then (some ((a, ()), ())) else (rec_l0 (wr .i64 (a + 1)))) else (some (((-1), ()), ()))
noncomputable def l0 (K : Nat) (x : Args ps) : A_l0 → Option Res := iterate (fun rec_l0 a => l0.step K x rec_l0 a) K
noncomputable def pre (K : Nat) (N_l0 : A_l0 → Option Res) (x : Args ps) : Option Res := N_l0 0
noncomputable def f (K : Nat) (x : Args ps) : Option Res := pre K (l0 K x) x
noncomputable def c (K : Nat) : Ctr := ⟨206, ps, rs, true, f K⟩
noncomputable def G (K : Nat) : List Ctr := []
noncomputable def live_l0 : List (Nat × List Coe) := [(0, [.ro true 132 t2]), (1, [.keep]), (7, [.keep]), (8, [.keep])]
noncomputable def L : List (Nat × List (Nat × List Coe)) := [(3, live_l0)]
noncomputable def body : Code := bodyOf Tryz.f206
noncomputable abbrev ev (K : Nat) : Code → St → (Ex → St → Option Res) → Option Res := evK (G K) T_D L K
noncomputable abbrev fin : Ex → St → Option Res := finK T_D ps rs true Tryz.f206.results.toList
noncomputable def S_l0 (x : Args ps) (a : A_l0) : St := mkSt [(0, ⟨0, .one, [.ro true 132 t2 x.1]⟩), (1, ⟨0, .one, [.fn [t2] .bool x.2.1]⟩), (7, ⟨0, .one, [.int .i64 (List.length x.1 : Int)]⟩), (8, ⟨0, .one, [.int .i64 a]⟩)]
noncomputable def k_l0 (K : Nat) (x : Args ps) : Ex → St → Option Res := kAt (ev K) body [1, 0, 1, 0] fin
noncomputable def N_l0 (K : Nat) (x : Args ps) : A_l0 → Option Res := fun a => evLoop live_l0 (ev K (sub body [1, 0, 1, 0, 0])) K (S_l0 x a) (k_l0 K x)
end slices_IndexFunc_impl_Fact_impl_Fact
namespace slices_ContainsFunc_impl_Fact_impl_Fact
@[reducible] def ps : List PK := [.rd (.list false 132 t2), .fn [t2] .bool]
@[reducible] def rs : List RK := [.v .bool]
abbrev Res := Ress rs × Outs ps
noncomputable def pre (K : Nat) (x : Args ps) : Option Res := (slices_IndexFunc_impl_Fact_impl_Fact.f K (x.1, x.2.1, ())).bind fun y1 => some ((decide (y1.1.1 ≥ 0), ()), ())
noncomputable def f (K : Nat) (x : Args ps) : Option Res := pre K x
noncomputable def c (K : Nat) : Ctr := ⟨141, ps, rs, true, f K⟩
noncomputable def G (K : Nat) : List Ctr := [slices_IndexFunc_impl_Fact_impl_Fact.c K]
noncomputable def L : List (Nat × List (Nat × List Coe)) := []
noncomputable def body : Code := bodyOf Tryz.f141
noncomputable abbrev ev (K : Nat) : Code → St → (Ex → St → Option Res) → Option Res := evK (G K) T_D L K
noncomputable abbrev fin : Ex → St → Option Res := finK T_D ps rs true Tryz.f141.results.toList
end slices_ContainsFunc_impl_Fact_impl_Fact
namespace impl_siteOf
@[reducible] def ps : List PK := [.rd (.int .i64)]
@[reducible] def rs : List RK := [.v (.int .i64)]
abbrev Res := Ress rs × Outs ps
noncomputable def pre (K : Nat) (x : Args ps) : Option Res := some ((wr .i64 (Int.tdiv x.1 4), ()), ())
noncomputable def f (K : Nat) (x : Args ps) : Option Res := pre K x
noncomputable def c (K : Nat) : Ctr := ⟨91, ps, rs, true, f K⟩
noncomputable def G (K : Nat) : List Ctr := []
noncomputable def L : List (Nat × List (Nat × List Coe)) := []
noncomputable def body : Code := bodyOf Tryz.f91
noncomputable abbrev ev (K : Nat) : Code → St → (Ex → St → Option Res) → Option Res := evK (G K) T_D L K
noncomputable abbrev fin : Ex → St → Option Res := finK T_D ps rs true Tryz.f91.results.toList
end impl_siteOf
namespace impl_ofSite_1
@[reducible] def ps : List PK := [.rd t2, .rref (.int .i64)]
@[reducible] def rs : List RK := [.v .bool]
abbrev Res := Ress rs × Outs ps
noncomputable def pre (K : Nat) (x : Args ps) : Option Res := (impl_siteOf.f K (x.1.1, ())).bind fun y1 => some ((y1.1.1 != x.2.1, ()), ())
noncomputable def f (K : Nat) (x : Args ps) : Option Res := pre K x
noncomputable def c (K : Nat) : Ctr := ⟨183, ps, rs, true, f K⟩
noncomputable def G (K : Nat) : List Ctr := [impl_siteOf.c K]
noncomputable def L : List (Nat × List (Nat × List Coe)) := []
noncomputable def body : Code := bodyOf Tryz.f183
noncomputable abbrev ev (K : Nat) : Code → St → (Ex → St → Option Res) → Option Res := evK (G K) T_D L K
noncomputable abbrev fin : Ex → St → Option Res := finK T_D ps rs true Tryz.f183.results.toList
end impl_ofSite_1
namespace impl_ofSite
@[reducible] def ps : List PK := [.rd (.list false 132 t2), .rd (.int .i64)]
@[reducible] def rs : List RK := [.v .bool]
abbrev Res := Ress rs × Outs ps
noncomputable def pre (K : Nat) (x : Args ps) : Option Res := (slices_ContainsFunc_impl_Fact_impl_Fact.f K (x.1, fun y1 => (impl_ofSite_1.f K (y1.1, x.2.1, ())).map fun y => y.1.1, ())).bind fun y2 => some ((!y2.1.1, ()), ())
noncomputable def f (K : Nat) (x : Args ps) : Option Res := pre K x
noncomputable def c (K : Nat) : Ctr := ⟨89, ps, rs, true, f K⟩
noncomputable def G (K : Nat) : List Ctr := [slices_ContainsFunc_impl_Fact_impl_Fact.c K, impl_ofSite_1.c K]
noncomputable def L : List (Nat × List (Nat × List Coe)) := []
noncomputable def body : Code := bodyOf Tryz.f89
noncomputable abbrev ev (K : Nat) : Code → St → (Ex → St → Option Res) → Option Res := evK (G K) T_D L K
noncomputable abbrev fin : Ex → St → Option Res := finK T_D ps rs true Tryz.f89.results.toList
end impl_ofSite
namespace impl_Node_site
@[reducible] def ps : List PK := [.rd t69]
@[reducible] def rs : List RK := [.v (.int .i64)]
abbrev Res := Ress rs × Outs ps
noncomputable def pre (K : Nat) (x : Args ps) : Option Res := (impl_siteOf.f K (x.1.1, ())).bind fun y1 => some ((y1.1.1, ()), ())
noncomputable def f (K : Nat) (x : Args ps) : Option Res := pre K x
noncomputable def c (K : Nat) : Ctr := ⟨90, ps, rs, true, f K⟩
noncomputable def G (K : Nat) : List Ctr := [impl_siteOf.c K]
noncomputable def L : List (Nat × List (Nat × List Coe)) := []
noncomputable def body : Code := bodyOf Tryz.f90
noncomputable abbrev ev (K : Nat) : Code → St → (Ex → St → Option Res) → Option Res := evK (G K) T_D L K
noncomputable abbrev fin : Ex → St → Option Res := finK T_D ps rs true Tryz.f90.results.toList
end impl_Node_site
namespace impl_FactOk
@[reducible] def ps : List PK := [.rd t2]
@[reducible] def rs : List RK := [.v .bool]
abbrev Res := Ress rs × Outs ps
noncomputable def pre (K : Nat) (x : Args ps) : Option Res := (impl_isNode.f K (x.1.1, ())).bind fun y1 => bif y1.1.1 then ((impl_in.f K (x.1.2.1, 0, 999, ())).bind fun y2 => bif y2.1.1 then ((impl_in.f K (x.1.2.2.1, 1, 4, ())).bind fun y3 => some ((y3.1.1, ()), ())) else (some ((false, ()), ()))) else (some ((false, ()), ()))
noncomputable def f (K : Nat) (x : Args ps) : Option Res := pre K x
noncomputable def c (K : Nat) : Ctr := ⟨112, ps, rs, true, f K⟩
noncomputable def G (K : Nat) : List Ctr := [impl_in.c K, impl_isNode.c K]
noncomputable def L : List (Nat × List (Nat × List Coe)) := []
noncomputable def body : Code := bodyOf Tryz.f112
noncomputable abbrev ev (K : Nat) : Code → St → (Ex → St → Option Res) → Option Res := evK (G K) T_D L K
noncomputable abbrev fin : Ex → St → Option Res := finK T_D ps rs true Tryz.f112.results.toList
end impl_FactOk
namespace impl_TableOk
@[reducible] def ps : List PK := [.rd (.list false 132 t2)]
@[reducible] def rs : List RK := [.v .bool]
abbrev Res := Ress rs × Outs ps
abbrev A_l0 := Int
noncomputable def l0.step (K : Nat) (x : Args ps) (rec_l0 : A_l0 → Option Res) (a : A_l0) : Option Res := bif decide (a < (List.length x.1 : Int)) then ((idx x.1 a).bind fun y1 => (impl_FactOk.f K (y1, ())).bind fun y2 => bif !y2.1.1 then (some ((false, ()), ())) else (bif decide (a > 0) then ((idx x.1 (wr .i64 (a - 1))).bind fun y3 => bif decide (y1.1 ≤ y3.1) then (some ((false, ()), ())) else (rec_l0 (wr .i64 (a + 1)))) else (rec_l0 (wr .i64 (a + 1))))) else (some ((true, ()), ()))
noncomputable def l0 (K : Nat) (x : Args ps) : A_l0 → Option Res := iterate (fun rec_l0 a => l0.step K x rec_l0 a) K
noncomputable def pre (K : Nat) (N_l0 : A_l0 → Option Res) (x : Args ps) : Option Res := N_l0 0
noncomputable def f (K : Nat) (x : Args ps) : Option Res := pre K (l0 K x) x
noncomputable def c (K : Nat) : Ctr := ⟨182, ps, rs, true, f K⟩
noncomputable def G (K : Nat) : List Ctr := [impl_FactOk.c K]
noncomputable def live_l0 : List (Nat × List Coe) := [(0, [.ro true 132 t2]), (5, [.ro true 132 t2]), (6, [.keep]), (7, [.keep])]
noncomputable def L : List (Nat × List (Nat × List Coe)) := [(3, live_l0)]
noncomputable def body : Code := bodyOf Tryz.f182
noncomputable abbrev ev (K : Nat) : Code → St → (Ex → St → Option Res) → Option Res := evK (G K) T_D L K
noncomputable abbrev fin : Ex → St → Option Res := finK T_D ps rs true Tryz.f182.results.toList
noncomputable def S_l0 (x : Args ps) (a : A_l0) : St := mkSt [(0, ⟨0, .one, [.ro true 132 t2 x.1]⟩), (5, ⟨0, .one, [.ro true 132 t2 x.1]⟩), (6, ⟨0, .one, [.int .i64 (List.length x.1 : Int)]⟩), (7, ⟨0, .one, [.int .i64 a]⟩)]
noncomputable def k_l0 (K : Nat) (x : Args ps) : Ex → St → Option Res := kAt (ev K) body [1, 0, 1, 0] fin
noncomputable def N_l0 (K : Nat) (x : Args ps) : A_l0 → Option Res := fun a => evLoop live_l0 (ev K (sub body [1, 0, 1, 0, 0])) K (S_l0 x a) (k_l0 K x)
end impl_TableOk
namespace slices_BinarySearchFunc_impl_Fact_impl_Fact_int
@[reducible] def ps : List PK := [.rd (.list false 132 t2), .rd (.int .i64), .fn [t2, (.int .i64)] (.int .i64)]
@[reducible] def rs : List RK := [.v (.int .i64), .v .bool]
abbrev Res := Ress rs × Outs ps
abbrev A_l0 := Int × Int
noncomputable def l0.step (K : Nat) (x : Args ps) (rec_l0 : A_l0 → Option Res) (a : A_l0) : Option Res := bif decide (a.1 < a.2) then ((idx x.1 (wr .i64 (Int.fdiv (wr .u64 (wr .i64 (a.1 + a.2))) (2 ^ 1)))).bind fun y1 => (x.2.2.1 (y1, x.2.1, ())).bind fun y2 => bif decide (y2 < 0) then (rec_l0 (wr .i64 ((wr .i64 (Int.fdiv (wr .u64 (wr .i64 (a.1 + a.2))) (2 ^ 1))) + 1), a.2)) else (rec_l0 (a.1, wr .i64 (Int.fdiv (wr .u64 (wr .i64 (a.1 + a.2))) (2 ^ 1))))) else (bif decide (a.1 < (List.length x.1 : Int)) then ((idx x.1 a.1).bind fun y3 => (x.2.2.1 (y3, x.2.1, ())).bind fun y4 => some ((a.1, y4 == 0, ()), ())) else (some ((a.1, false, ()), ())))
noncomputable def l0 (K : Nat) (x : Args ps) : A_l0 → Option Res := iterate (fun rec_l0 a => l0.step K x rec_l0 a) K
noncomputable def pre (K : Nat) (N_l0 : A_l0 → Option Res) (x : Args ps) : Option Res := N_l0 (0, (List.length x.1 : Int))
noncomputable def f (K : Nat) (x : Args ps) : Option Res := pre K (l0 K x) x
noncomputable def c (K : Nat) : Ctr := ⟨293, ps, rs, true, f K⟩
noncomputable def G (K : Nat) : List Ctr := []
noncomputable def live_l0 : List (Nat × List Coe) := [(0, [.ro true 132 t2]), (1, [.keep]), (2, [.keep]), (8, [.keep]), (9, [.keep]), (10, [.keep])]
noncomputable def L : List (Nat × List (Nat × List Coe)) := [(4, live_l0)]
noncomputable def body : Code := bodyOf Tryz.f293
noncomputable abbrev ev (K : Nat) : Code → St → (Ex → St → Option Res) → Option Res := evK (G K) T_D L K
noncomputable abbrev fin : Ex → St → Option Res := finK T_D ps rs true Tryz.f293.results.toList
noncomputable def S_l0 (x : Args ps) (a : A_l0) : St := mkSt [(0, ⟨0, .one, [.ro true 132 t2 x.1]⟩), (1, ⟨0, .one, [.int .i64 x.2.1]⟩), (2, ⟨0, .one, [.fn [t2, (.int .i64)] (.int .i64) x.2.2.1]⟩), (8, ⟨0, .one, [.int .i64 (List.length x.1 : Int)]⟩), (9, ⟨0, .one, [.int .i64 a.1]⟩), (10, ⟨0, .one, [.int .i64 a.2]⟩)]
noncomputable def k_l0 (K : Nat) (x : Args ps) : Ex → St → Option Res := kAt (ev K) body [1, 1, 1, 0, 0] fin
noncomputable def N_l0 (K : Nat) (x : Args ps) : A_l0 → Option Res := fun a => evLoop live_l0 (ev K (sub body [1, 1, 1, 0, 0, 0])) K (S_l0 x a) (k_l0 K x)
end slices_BinarySearchFunc_impl_Fact_impl_Fact_int
namespace cmp_isNaN_int
@[reducible] def ps : List PK := [.rd (.int .i64)]
@[reducible] def rs : List RK := [.v .bool]
abbrev Res := Ress rs × Outs ps
noncomputable def pre (K : Nat) (x : Args ps) : Option Res := some ((x.1 != x.1, ()), ())
noncomputable def f (K : Nat) (x : Args ps) : Option Res := pre K x
noncomputable def c (K : Nat) : Ctr := ⟨193, ps, rs, true, f K⟩
noncomputable def G (K : Nat) : List Ctr := []
noncomputable def L : List (Nat × List (Nat × List Coe)) := []
noncomputable def body : Code := bodyOf Tryz.f193
noncomputable abbrev ev (K : Nat) : Code → St → (Ex → St → Option Res) → Option Res := evK (G K) T_D L K
noncomputable abbrev fin : Ex → St → Option Res := finK T_D ps rs true Tryz.f193.results.toList
end cmp_isNaN_int
namespace cmp_Compare_int
@[reducible] def ps : List PK := [.rd (.int .i64), .rd (.int .i64)]
@[reducible] def rs : List RK := [.v (.int .i64)]
abbrev Res := Ress rs × Outs ps
noncomputable def pre (K : Nat) (x : Args ps) : Option Res := (cmp_isNaN_int.f K (x.1, ())).bind fun y1 => (cmp_isNaN_int.f K (x.2.1, ())).bind fun y2 => bif y1.1.1 then (bif y2.1.1 then (some ((0, ()), ())) else (some (((-1), ()), ()))) else (bif y2.1.1 then (some ((1, ()), ())) else (bif decide (x.1 < x.2.1) then (some (((-1), ()), ())) else (bif decide (x.1 > x.2.1) then (some ((1, ()), ())) else (some ((0, ()), ())))))
noncomputable def f (K : Nat) (x : Args ps) : Option Res := pre K x
noncomputable def c (K : Nat) : Ctr := ⟨123, ps, rs, true, f K⟩
noncomputable def G (K : Nat) : List Ctr := [cmp_isNaN_int.c K]
noncomputable def L : List (Nat × List (Nat × List Coe)) := []
noncomputable def body : Code := bodyOf Tryz.f123
noncomputable abbrev ev (K : Nat) : Code → St → (Ex → St → Option Res) → Option Res := evK (G K) T_D L K
noncomputable abbrev fin : Ex → St → Option Res := finK T_D ps rs true Tryz.f123.results.toList
end cmp_Compare_int
namespace impl_find_1
@[reducible] def ps : List PK := [.rd t2, .rd (.int .i64)]
@[reducible] def rs : List RK := [.v (.int .i64)]
abbrev Res := Ress rs × Outs ps
noncomputable def pre (K : Nat) (x : Args ps) : Option Res := (cmp_Compare_int.f K (x.1.1, x.2.1, ())).bind fun y1 => some ((y1.1.1, ()), ())
noncomputable def f (K : Nat) (x : Args ps) : Option Res := pre K x
noncomputable def c (K : Nat) : Ctr := ⟨294, ps, rs, true, f K⟩
noncomputable def G (K : Nat) : List Ctr := [cmp_Compare_int.c K]
noncomputable def L : List (Nat × List (Nat × List Coe)) := []
noncomputable def body : Code := bodyOf Tryz.f294
noncomputable abbrev ev (K : Nat) : Code → St → (Ex → St → Option Res) → Option Res := evK (G K) T_D L K
noncomputable abbrev fin : Ex → St → Option Res := finK T_D ps rs true Tryz.f294.results.toList
end impl_find_1
namespace impl_find
@[reducible] def ps : List PK := [.rd (.list false 132 t2), .rd (.int .i64)]
@[reducible] def rs : List RK := [.v (.int .i64), .v .bool]
abbrev Res := Ress rs × Outs ps
noncomputable def pre (K : Nat) (x : Args ps) : Option Res := (slices_BinarySearchFunc_impl_Fact_impl_Fact_int.f K (x.1, x.2.1, fun y1 => (impl_find_1.f K (y1.1, y1.2.1, ())).map fun y => y.1.1, ())).bind fun y2 => some ((y2.1.1, y2.1.2.1, ()), ())
noncomputable def f (K : Nat) (x : Args ps) : Option Res := pre K x
noncomputable def c (K : Nat) : Ctr := ⟨243, ps, rs, true, f K⟩
noncomputable def G (K : Nat) : List Ctr := [slices_BinarySearchFunc_impl_Fact_impl_Fact_int.c K, impl_find_1.c K]
noncomputable def L : List (Nat × List (Nat × List Coe)) := []
noncomputable def body : Code := bodyOf Tryz.f243
noncomputable abbrev ev (K : Nat) : Code → St → (Ex → St → Option Res) → Option Res := evK (G K) T_D L K
noncomputable abbrev fin : Ex → St → Option Res := finK T_D ps rs true Tryz.f243.results.toList
end impl_find
namespace impl_TableOf
@[reducible] def ps : List PK := [.rd (.list false 132 t2), .rd (.int .i64)]
@[reducible] def rs : List RK := [.v t2, .v .bool]
abbrev Res := Ress rs × Outs ps
noncomputable def pre (K : Nat) (x : Args ps) : Option Res := (impl_TableOk.f K (x.1, ())).bind fun y1 => bif !y1.1.1 then (some (((0, (0, (0, false))), false, ()), ())) else ((impl_find.f K (x.1, x.2.1, ())).bind fun y2 => bif !y2.1.2.1 then (some (((0, (0, (0, false))), false, ()), ())) else ((idx x.1 y2.1.1).bind fun y3 => some ((y3, true, ()), ())))
noncomputable def f (K : Nat) (x : Args ps) : Option Res := pre K x
noncomputable def c (K : Nat) : Ctr := ⟨194, ps, rs, true, f K⟩
noncomputable def G (K : Nat) : List Ctr := [impl_TableOk.c K, impl_find.c K]
noncomputable def L : List (Nat × List (Nat × List Coe)) := []
noncomputable def body : Code := bodyOf Tryz.f194
noncomputable abbrev ev (K : Nat) : Code → St → (Ex → St → Option Res) → Option Res := evK (G K) T_D L K
noncomputable abbrev fin : Ex → St → Option Res := finK T_D ps rs true Tryz.f194.results.toList
end impl_TableOf
namespace slices_IndexFunc_impl_Item_impl_Item
@[reducible] def ps : List PK := [.rd (.list false 173 t3), .fn [t3] .bool]
@[reducible] def rs : List RK := [.v (.int .i64)]
abbrev Res := Ress rs × Outs ps
abbrev A_l0 := Int
noncomputable def l0.step (K : Nat) (x : Args ps) (rec_l0 : A_l0 → Option Res) (a : A_l0) : Option Res := bif decide (a < (List.length x.1 : Int)) then ((idx x.1 a).bind fun y1 => (x.2.1 (y1, ())).bind fun y2 => bif y2 then (some ((a, ()), ())) else (rec_l0 (wr .i64 (a + 1)))) else (some (((-1), ()), ()))
noncomputable def l0 (K : Nat) (x : Args ps) : A_l0 → Option Res := iterate (fun rec_l0 a => l0.step K x rec_l0 a) K
noncomputable def pre (K : Nat) (N_l0 : A_l0 → Option Res) (x : Args ps) : Option Res := N_l0 0
noncomputable def f (K : Nat) (x : Args ps) : Option Res := pre K (l0 K x) x
noncomputable def c (K : Nat) : Ctr := ⟨290, ps, rs, true, f K⟩
noncomputable def G (K : Nat) : List Ctr := []
noncomputable def live_l0 : List (Nat × List Coe) := [(0, [.ro true 173 t3]), (1, [.keep]), (7, [.keep]), (8, [.keep])]
noncomputable def L : List (Nat × List (Nat × List Coe)) := [(3, live_l0)]
noncomputable def body : Code := bodyOf Tryz.f290
noncomputable abbrev ev (K : Nat) : Code → St → (Ex → St → Option Res) → Option Res := evK (G K) T_D L K
noncomputable abbrev fin : Ex → St → Option Res := finK T_D ps rs true Tryz.f290.results.toList
noncomputable def S_l0 (x : Args ps) (a : A_l0) : St := mkSt [(0, ⟨0, .one, [.ro true 173 t3 x.1]⟩), (1, ⟨0, .one, [.fn [t3] .bool x.2.1]⟩), (7, ⟨0, .one, [.int .i64 (List.length x.1 : Int)]⟩), (8, ⟨0, .one, [.int .i64 a]⟩)]
noncomputable def k_l0 (K : Nat) (x : Args ps) : Ex → St → Option Res := kAt (ev K) body [1, 0, 1, 0] fin
noncomputable def N_l0 (K : Nat) (x : Args ps) : A_l0 → Option Res := fun a => evLoop live_l0 (ev K (sub body [1, 0, 1, 0, 0])) K (S_l0 x a) (k_l0 K x)
end slices_IndexFunc_impl_Item_impl_Item
namespace slices_ContainsFunc_impl_Item_impl_Item
@[reducible] def ps : List PK := [.rd (.list false 173 t3), .fn [t3] .bool]
@[reducible] def rs : List RK := [.v .bool]
abbrev Res := Ress rs × Outs ps
noncomputable def pre (K : Nat) (x : Args ps) : Option Res := (slices_IndexFunc_impl_Item_impl_Item.f K (x.1, x.2.1, ())).bind fun y1 => some ((decide (y1.1.1 ≥ 0), ()), ())
noncomputable def f (K : Nat) (x : Args ps) : Option Res := pre K x
noncomputable def c (K : Nat) : Ctr := ⟨234, ps, rs, true, f K⟩
noncomputable def G (K : Nat) : List Ctr := [slices_IndexFunc_impl_Item_impl_Item.c K]
noncomputable def L : List (Nat × List (Nat × List Coe)) := []
noncomputable def body : Code := bodyOf Tryz.f234
noncomputable abbrev ev (K : Nat) : Code → St → (Ex → St → Option Res) → Option Res := evK (G K) T_D L K
noncomputable abbrev fin : Ex → St → Option Res := finK T_D ps rs true Tryz.f234.results.toList
end slices_ContainsFunc_impl_Item_impl_Item
namespace impl_CastOk_1
@[reducible] def ps : List PK := [.rd t3]
@[reducible] def rs : List RK := [.v .bool]
abbrev Res := Ress rs × Outs ps
noncomputable def pre (K : Nat) (x : Args ps) : Option Res := (impl_in.f K (x.1.2, 1, 4, ())).bind fun y1 => some ((!y1.1.1, ()), ())
noncomputable def f (K : Nat) (x : Args ps) : Option Res := pre K x
noncomputable def c (K : Nat) : Ctr := ⟨288, ps, rs, true, f K⟩
noncomputable def G (K : Nat) : List Ctr := [impl_in.c K]
noncomputable def L : List (Nat × List (Nat × List Coe)) := []
noncomputable def body : Code := bodyOf Tryz.f288
noncomputable abbrev ev (K : Nat) : Code → St → (Ex → St → Option Res) → Option Res := evK (G K) T_D L K
noncomputable abbrev fin : Ex → St → Option Res := finK T_D ps rs true Tryz.f288.results.toList
end impl_CastOk_1
namespace impl_facts
@[reducible] def ps : List PK := [.rd (.list false 173 t3)]
@[reducible] def rs : List RK := [.v (.list true 132 t2)]
abbrev Res := Ress rs × Outs ps
abbrev A_l0 := List (Ty.den t2) × Int
noncomputable def l0.step (K : Nat) (x : Args ps) (rec_l0 : A_l0 → Option Res) (a : A_l0) : Option Res := bif decide (a.2 < (List.length x.1 : Int)) then ((idx x.1 a.2).bind fun y1 => bif decide ((List.length a.1 + List.length ([y1.1])) * 32 ≤ sizeK) then (rec_l0 (a.1 ++ ([y1.1]), wr .i64 (a.2 + 1))) else none) else (some ((a.1, ()), ()))
noncomputable def l0 (K : Nat) (x : Args ps) : A_l0 → Option Res := iterate (fun rec_l0 a => l0.step K x rec_l0 a) K
noncomputable def pre (K : Nat) (N_l0 : A_l0 → Option Res) (x : Args ps) : Option Res := N_l0 ([], 0)
noncomputable def f (K : Nat) (x : Args ps) : Option Res := pre K (l0 K x) x
noncomputable def c (K : Nat) : Ctr := ⟨289, ps, rs, true, f K⟩
noncomputable def G (K : Nat) : List Ctr := []
noncomputable def live_l0 : List (Nat × List Coe) := [(3, [.own false 132 t2]), (6, [.ro true 173 t3]), (7, [.keep]), (8, [.keep])]
noncomputable def L : List (Nat × List (Nat × List Coe)) := [(4, live_l0)]
noncomputable def body : Code := bodyOf Tryz.f289
noncomputable abbrev ev (K : Nat) : Code → St → (Ex → St → Option Res) → Option Res := evK (G K) T_D L K
noncomputable abbrev fin : Ex → St → Option Res := finK T_D ps rs true Tryz.f289.results.toList
noncomputable def S_l0 (x : Args ps) (a : A_l0) : St := mkSt [(3, ⟨0, .one, [.own false none 132 t2 a.1]⟩), (6, ⟨0, .one, [.ro true 173 t3 x.1]⟩), (7, ⟨0, .one, [.int .i64 (List.length x.1 : Int)]⟩), (8, ⟨0, .one, [.int .i64 a.2]⟩)]
noncomputable def k_l0 (K : Nat) (x : Args ps) : Ex → St → Option Res := kAt (ev K) body [1, 1, 0, 1, 0] fin
noncomputable def N_l0 (K : Nat) (x : Args ps) : A_l0 → Option Res := fun a => evLoop live_l0 (ev K (sub body [1, 1, 0, 1, 0, 0])) K (S_l0 x a) (k_l0 K x)
end impl_facts
namespace impl_CastOk
@[reducible] def ps : List PK := [.rd (.list false 173 t3)]
@[reducible] def rs : List RK := [.v .bool]
abbrev Res := Ress rs × Outs ps
noncomputable def pre (K : Nat) (x : Args ps) : Option Res := (impl_facts.f K (x.1, ())).bind fun y1 => (impl_TableOk.f K (y1.1.1, ())).bind fun y2 => bif y2.1.1 then ((slices_ContainsFunc_impl_Item_impl_Item.f K (x.1, fun y3 => (impl_CastOk_1.f K (y3.1, ())).map fun y => y.1.1, ())).bind fun y4 => some ((!y4.1.1, ()), ())) else (some ((false, ()), ()))
noncomputable def f (K : Nat) (x : Args ps) : Option Res := pre K x
noncomputable def c (K : Nat) : Ctr := ⟨233, ps, rs, true, f K⟩
noncomputable def G (K : Nat) : List Ctr := [impl_TableOk.c K, slices_ContainsFunc_impl_Item_impl_Item.c K, impl_CastOk_1.c K, impl_facts.c K]
noncomputable def L : List (Nat × List (Nat × List Coe)) := []
noncomputable def body : Code := bodyOf Tryz.f233
noncomputable abbrev ev (K : Nat) : Code → St → (Ex → St → Option Res) → Option Res := evK (G K) T_D L K
noncomputable abbrev fin : Ex → St → Option Res := finK T_D ps rs true Tryz.f233.results.toList
end impl_CastOk
namespace cmp_Or_int
@[reducible] def ps : List PK := [.rd (.list false 3 (.int .i64))]
@[reducible] def rs : List RK := [.v (.int .i64)]
abbrev Res := Ress rs × Outs ps
abbrev A_l0 := Int
noncomputable def l0.step (K : Nat) (x : Args ps) (rec_l0 : A_l0 → Option Res) (a : A_l0) : Option Res := bif decide (a < (List.length x.1 : Int)) then ((idx x.1 a).bind fun y1 => bif y1 != 0 then (some ((y1, ()), ())) else (rec_l0 (wr .i64 (a + 1)))) else (some ((0, ()), ()))
noncomputable def l0 (K : Nat) (x : Args ps) : A_l0 → Option Res := iterate (fun rec_l0 a => l0.step K x rec_l0 a) K
noncomputable def pre (K : Nat) (N_l0 : A_l0 → Option Res) (x : Args ps) : Option Res := N_l0 0
noncomputable def f (K : Nat) (x : Args ps) : Option Res := pre K (l0 K x) x
noncomputable def c (K : Nat) : Ctr := ⟨189, ps, rs, true, f K⟩
noncomputable def G (K : Nat) : List Ctr := []
noncomputable def live_l0 : List (Nat × List Coe) := [(3, [.keep]), (6, [.ro true 3 (.int .i64)]), (7, [.keep]), (8, [.keep])]
noncomputable def L : List (Nat × List (Nat × List Coe)) := [(4, live_l0)]
noncomputable def body : Code := bodyOf Tryz.f189
noncomputable abbrev ev (K : Nat) : Code → St → (Ex → St → Option Res) → Option Res := evK (G K) T_D L K
noncomputable abbrev fin : Ex → St → Option Res := finK T_D ps rs true Tryz.f189.results.toList
noncomputable def S_l0 (x : Args ps) (a : A_l0) : St := mkSt [(3, ⟨0, .one, [.int .i64 0]⟩), (6, ⟨0, .one, [.ro true 3 (.int .i64) x.1]⟩), (7, ⟨0, .one, [.int .i64 (List.length x.1 : Int)]⟩), (8, ⟨0, .one, [.int .i64 a]⟩)]
noncomputable def k_l0 (K : Nat) (x : Args ps) : Ex → St → Option Res := kAt (ev K) body [1, 1, 0, 1, 0] fin
noncomputable def N_l0 (K : Nat) (x : Args ps) : A_l0 → Option Res := fun a => evLoop live_l0 (ev K (sub body [1, 1, 0, 1, 0, 0])) K (S_l0 x a) (k_l0 K x)
end cmp_Or_int
namespace impl_Fact_compare
@[reducible] def ps : List PK := [.rd t2, .rd t2]
@[reducible] def rs : List RK := [.v (.int .i64)]
abbrev Res := Ress rs × Outs ps
noncomputable def pre (K : Nat) (x : Args ps) : Option Res := bif x.1.2.2.2 then (bif !x.2.1.2.2.2 then ((cmp_Compare_int.f K (x.1.1, x.2.1.1, ())).bind fun y1 => (cmp_Compare_int.f K (x.1.2.1, x.2.1.2.1, ())).bind fun y2 => (cmp_Compare_int.f K (x.1.2.2.1, x.2.1.2.2.1, ())).bind fun y3 => (cmp_Or_int.f K ([y1.1.1, y2.1.1, y3.1.1, 1], ())).bind fun y4 => some ((y4.1.1, ()), ())) else (bif x.2.1.2.2.2 then (bif !x.1.2.2.2 then ((cmp_Compare_int.f K (x.1.1, x.2.1.1, ())).bind fun y5 => (cmp_Compare_int.f K (x.1.2.1, x.2.1.2.1, ())).bind fun y6 => (cmp_Compare_int.f K (x.1.2.2.1, x.2.1.2.2.1, ())).bind fun y7 => (cmp_Or_int.f K ([y5.1.1, y6.1.1, y7.1.1, (-1)], ())).bind fun y8 => some ((y8.1.1, ()), ())) else ((cmp_Compare_int.f K (x.1.1, x.2.1.1, ())).bind fun y9 => (cmp_Compare_int.f K (x.1.2.1, x.2.1.2.1, ())).bind fun y10 => (cmp_Compare_int.f K (x.1.2.2.1, x.2.1.2.2.1, ())).bind fun y11 => (cmp_Or_int.f K ([y9.1.1, y10.1.1, y11.1.1, 0], ())).bind fun y12 => some ((y12.1.1, ()), ()))) else ((cmp_Compare_int.f K (x.1.1, x.2.1.1, ())).bind fun y13 => (cmp_Compare_int.f K (x.1.2.1, x.2.1.2.1, ())).bind fun y14 => (cmp_Compare_int.f K (x.1.2.2.1, x.2.1.2.2.1, ())).bind fun y15 => (cmp_Or_int.f K ([y13.1.1, y14.1.1, y15.1.1, 0], ())).bind fun y16 => some ((y16.1.1, ()), ())))) else (bif x.2.1.2.2.2 then (bif !x.1.2.2.2 then ((cmp_Compare_int.f K (x.1.1, x.2.1.1, ())).bind fun y17 => (cmp_Compare_int.f K (x.1.2.1, x.2.1.2.1, ())).bind fun y18 => (cmp_Compare_int.f K (x.1.2.2.1, x.2.1.2.2.1, ())).bind fun y19 => (cmp_Or_int.f K ([y17.1.1, y18.1.1, y19.1.1, (-1)], ())).bind fun y20 => some ((y20.1.1, ()), ())) else ((cmp_Compare_int.f K (x.1.1, x.2.1.1, ())).bind fun y21 => (cmp_Compare_int.f K (x.1.2.1, x.2.1.2.1, ())).bind fun y22 => (cmp_Compare_int.f K (x.1.2.2.1, x.2.1.2.2.1, ())).bind fun y23 => (cmp_Or_int.f K ([y21.1.1, y22.1.1, y23.1.1, 0], ())).bind fun y24 => some ((y24.1.1, ()), ()))) else ((cmp_Compare_int.f K (x.1.1, x.2.1.1, ())).bind fun y25 => (cmp_Compare_int.f K (x.1.2.1, x.2.1.2.1, ())).bind fun y26 => (cmp_Compare_int.f K (x.1.2.2.1, x.2.1.2.2.1, ())).bind fun y27 => (cmp_Or_int.f K ([y25.1.1, y26.1.1, y27.1.1, 0], ())).bind fun y28 => some ((y28.1.1, ()), ())))
noncomputable def f (K : Nat) (x : Args ps) : Option Res := pre K x
noncomputable def c (K : Nat) : Ctr := ⟨113, ps, rs, true, f K⟩
noncomputable def G (K : Nat) : List Ctr := [cmp_Compare_int.c K, cmp_Or_int.c K]
noncomputable def L : List (Nat × List (Nat × List Coe)) := []
noncomputable def body : Code := bodyOf Tryz.f113
noncomputable abbrev ev (K : Nat) : Code → St → (Ex → St → Option Res) → Option Res := evK (G K) T_D L K
noncomputable abbrev fin : Ex → St → Option Res := finK T_D ps rs true Tryz.f113.results.toList
end impl_Fact_compare
namespace impl_FactOver
@[reducible] def ps : List PK := [.rd t2, .rd t2]
@[reducible] def rs : List RK := [.v .bool]
abbrev Res := Ress rs × Outs ps
noncomputable def pre (K : Nat) (x : Args ps) : Option Res := (impl_FactOk.f K (x.1, ())).bind fun y1 => bif y1.1.1 then ((impl_FactOk.f K (x.2.1, ())).bind fun y2 => bif y2.1.1 then (bif x.1.1 == x.2.1.1 then ((impl_Fact_compare.f K (x.1, x.2.1, ())).bind fun y3 => some ((decide (y3.1.1 > 0), ()), ())) else (some ((false, ()), ()))) else (some ((false, ()), ()))) else (some ((false, ()), ()))
noncomputable def f (K : Nat) (x : Args ps) : Option Res := pre K x
noncomputable def c (K : Nat) : Ctr := ⟨236, ps, rs, true, f K⟩
noncomputable def G (K : Nat) : List Ctr := [impl_FactOk.c K, impl_Fact_compare.c K]
noncomputable def L : List (Nat × List (Nat × List Coe)) := []
noncomputable def body : Code := bodyOf Tryz.f236
noncomputable abbrev ev (K : Nat) : Code → St → (Ex → St → Option Res) → Option Res := evK (G K) T_D L K
noncomputable abbrev fin : Ex → St → Option Res := finK T_D ps rs true Tryz.f236.results.toList
end impl_FactOver
namespace impl_Node_tableOk_1
@[reducible] def ps : List PK := [.rd t3, .rref t69]
@[reducible] def rs : List RK := [.v .bool]
abbrev Res := Ress rs × Outs ps
noncomputable def pre (K : Nat) (x : Args ps) : Option Res := (impl_TableOf.f K (x.2.1.2.2.2.2.2.2.2.2.1, x.1.1.1, ())).bind fun y1 => bif !y1.1.2.1 then (some ((true, ()), ())) else ((impl_FactOver.f K (x.1.1, y1.1.1, ())).bind fun y2 => some ((y2.1.1, ()), ()))
noncomputable def f (K : Nat) (x : Args ps) : Option Res := pre K x
noncomputable def c (K : Nat) : Ctr := ⟨235, ps, rs, true, f K⟩
noncomputable def G (K : Nat) : List Ctr := [impl_TableOf.c K, impl_FactOver.c K]
noncomputable def L : List (Nat × List (Nat × List Coe)) := []
noncomputable def body : Code := bodyOf Tryz.f235
noncomputable abbrev ev (K : Nat) : Code → St → (Ex → St → Option Res) → Option Res := evK (G K) T_D L K
noncomputable abbrev fin : Ex → St → Option Res := finK T_D ps rs true Tryz.f235.results.toList
end impl_Node_tableOk_1
namespace impl_Node_tableOk
@[reducible] def ps : List PK := [.rd t69]
@[reducible] def rs : List RK := [.v .bool]
abbrev Res := Ress rs × Outs ps
noncomputable def pre (K : Nat) (x : Args ps) : Option Res := bif x.1.2.2.1 then ((impl_TableOf.f K (x.1.2.2.2.2.2.2.2.2.1, x.1.1, ())).bind fun y1 => bif !y1.1.2.1 then (some ((false, ()), ())) else (bif !Ty.eqv t2 y1.1.1 (x.1.1, (x.1.2.2.2.2.1, (4, x.1.2.2.2.1))) then (some ((false, ()), ())) else ((impl_Node_site.f K (x.1, ())).bind fun y2 => (impl_ofSite.f K (x.1.2.2.2.2.2.2.2.2.1, y2.1.1, ())).bind fun y3 => bif !y3.1.1 then (some ((false, ()), ())) else ((impl_CastOk.f K (x.1.2.2.2.2.2.2.2.2.2.1, ())).bind fun y4 => bif !y4.1.1 then (some ((false, ()), ())) else ((slices_ContainsFunc_impl_Item_impl_Item.f K (x.1.2.2.2.2.2.2.2.2.2.1, fun y5 => (impl_Node_tableOk_1.f K (y5.1, x.1, ())).map fun y => y.1.1, ())).bind fun y6 => some ((!y6.1.1, ()), ())))))) else ((impl_TableOf.f K (x.1.2.2.2.2.2.2.2.2.1, x.1.1, ())).bind fun y7 => bif !y7.1.2.1 then (some ((false, ()), ())) else (bif !Ty.eqv t2 y7.1.1 (x.1.1, (x.1.2.2.2.2.1, (1, x.1.2.2.2.1))) then (some ((false, ()), ())) else ((impl_Node_site.f K (x.1, ())).bind fun y8 => (impl_ofSite.f K (x.1.2.2.2.2.2.2.2.2.1, y8.1.1, ())).bind fun y9 => bif !y9.1.1 then (some ((false, ()), ())) else ((impl_CastOk.f K (x.1.2.2.2.2.2.2.2.2.2.1, ())).bind fun y10 => bif !y10.1.1 then (some ((false, ()), ())) else ((slices_ContainsFunc_impl_Item_impl_Item.f K (x.1.2.2.2.2.2.2.2.2.2.1, fun y11 => (impl_Node_tableOk_1.f K (y11.1, x.1, ())).map fun y => y.1.1, ())).bind fun y12 => some ((!y12.1.1, ()), ()))))))
noncomputable def f (K : Nat) (x : Args ps) : Option Res := pre K x
noncomputable def c (K : Nat) : Ctr := ⟨171, ps, rs, true, f K⟩
noncomputable def G (K : Nat) : List Ctr := [impl_ofSite.c K, impl_Node_site.c K, impl_TableOf.c K, impl_CastOk.c K, slices_ContainsFunc_impl_Item_impl_Item.c K, impl_Node_tableOk_1.c K]
noncomputable def L : List (Nat × List (Nat × List Coe)) := []
noncomputable def body : Code := bodyOf Tryz.f171
noncomputable abbrev ev (K : Nat) : Code → St → (Ex → St → Option Res) → Option Res := evK (G K) T_D L K
noncomputable abbrev fin : Ex → St → Option Res := finK T_D ps rs true Tryz.f171.results.toList
end impl_Node_tableOk
namespace impl_Node_probeOk
@[reducible] def ps : List PK := [.rd t69]
@[reducible] def rs : List RK := [.v .bool]
abbrev Res := Ress rs × Outs ps
noncomputable def pre (K : Nat) (x : Args ps) : Option Res := bif x.1.2.2.2.2.2.2.2.2.2.2.1.1 == (-1) then (some ((Ty.eqv t2 x.1.2.2.2.2.2.2.2.2.2.2.1 ((-1), (0, (0, false))), ()), ())) else ((impl_TableOf.f K (x.1.2.2.2.2.2.2.2.2.1, x.1.2.2.2.2.2.2.2.2.2.2.1.1, ())).bind fun y1 => bif y1.1.2.1 then (bif x.1.2.2.2.2.2.2.2.2.2.2.1.1 != x.1.1 then ((impl_in.f K (x.1.2.2.2.2.2.2.2.2.2.2.1.2.1, 0, x.1.2.2.2.2.2.1, ())).bind fun y2 => bif y2.1.1 then ((impl_in.f K (x.1.2.2.2.2.2.2.2.2.2.2.1.2.2.1, 1, x.1.2.2.2.2.2.2.1, ())).bind fun y3 => some ((y3.1.1, ()), ())) else (some ((false, ()), ()))) else (some ((false, ()), ()))) else (some ((false, ()), ())))
noncomputable def f (K : Nat) (x : Args ps) : Option Res := pre K x
noncomputable def c (K : Nat) : Ctr := ⟨172, ps, rs, true, f K⟩
noncomputable def G (K : Nat) : List Ctr := [impl_in.c K, impl_TableOf.c K]
noncomputable def L : List (Nat × List (Nat × List Coe)) := []
noncomputable def body : Code := bodyOf Tryz.f172
noncomputable abbrev ev (K : Nat) : Code → St → (Ex → St → Option Res) → Option Res := evK (G K) T_D L K
noncomputable abbrev fin : Ex → St → Option Res := finK T_D ps rs true Tryz.f172.results.toList
end impl_Node_probeOk
namespace impl_Node_near
@[reducible] def ps : List PK := [.rd t69, .rd (.int .i64)]
@[reducible] def rs : List RK := [.v .bool]
abbrev Res := Ress rs × Outs ps
noncomputable def pre (K : Nat) (x : Args ps) : Option Res := (impl_isNode.f K (x.2.1, ())).bind fun y1 => bif y1.1.1 then ((impl_siteOf.f K (x.2.1, ())).bind fun y2 => (impl_Node_site.f K (x.1, ())).bind fun y3 => some ((y2.1.1 == y3.1.1, ()), ())) else (some ((false, ()), ()))
noncomputable def f (K : Nat) (x : Args ps) : Option Res := pre K x
noncomputable def c (K : Nat) : Ctr := ⟨88, ps, rs, true, f K⟩
noncomputable def G (K : Nat) : List Ctr := [impl_Node_site.c K, impl_siteOf.c K, impl_isNode.c K]
noncomputable def L : List (Nat × List (Nat × List Coe)) := []
noncomputable def body : Code := bodyOf Tryz.f88
noncomputable abbrev ev (K : Nat) : Code → St → (Ex → St → Option Res) → Option Res := evK (G K) T_D L K
noncomputable abbrev fin : Ex → St → Option Res := finK T_D ps rs true Tryz.f88.results.toList
end impl_Node_near
namespace impl_Node_doubtsOk
@[reducible] def ps : List PK := [.rd t69]
@[reducible] def rs : List RK := [.v .bool]
abbrev Res := Ress rs × Outs ps
abbrev A_l2 := List (Ty.den t2) × Int × List (Ty.den (.int .i64)) × Int × Int × Int × Int × Int × List (Ty.den (.int .i64))
abbrev A_l1 := List (Ty.den t2) × Int
abbrev A_l0 := List (Ty.den t2) × Int
noncomputable def l2.step (K : Nat) (x : Args ps) (rec_l1 : A_l1 → Option Res) (rec_l2 : A_l2 → Option Res) (a : A_l2) : Option Res := bif decide (a.2.2.2.2.1 < a.2.2.2.1) then ((idx a.2.2.1 a.2.2.2.2.1).bind fun y8 => (impl_Node_near.f K (x.1, y8, ())).bind fun y9 => bif !y9.1.1 then (some ((false, ()), ())) else (bif decide (a.2.2.2.2.1 > 0) then ((idx a.2.2.2.2.2.2.2.2 (wr .i64 (a.2.2.2.2.1 - 1))).bind fun y10 => bif decide (y8 ≤ y10) then (some ((false, ()), ())) else (rec_l2 (a.1, a.2.1, a.2.2.1, a.2.2.2.1, wr .i64 (a.2.2.2.2.1 + 1), a.2.2.2.2.2.1, a.2.2.2.2.2.2.1, a.2.2.2.2.2.2.2.1, a.2.2.2.2.2.2.2.2))) else (rec_l2 (a.1, a.2.1, a.2.2.1, a.2.2.2.1, wr .i64 (a.2.2.2.2.1 + 1), a.2.2.2.2.2.1, a.2.2.2.2.2.2.1, a.2.2.2.2.2.2.2.1, a.2.2.2.2.2.2.2.2)))) else (rec_l1 (a.1, wr .i64 (a.2.1 + 1)))
noncomputable def l2 (K : Nat) (x : Args ps) (rec_l1 : A_l1 → Option Res) : A_l2 → Option Res := iterate (fun rec_l2 a => l2.step K x rec_l1 rec_l2 a) K
noncomputable def l1.step (K : Nat) (x : Args ps) (N_l2 : A_l2 → Option Res) (rec_l1 : A_l1 → Option Res) (a : A_l1) : Option Res := bif decide (a.2 < (List.length x.1.2.2.2.2.2.2.2.2.2.2.2.1 : Int)) then ((idx x.1.2.2.2.2.2.2.2.2.2.2.2.1 a.2).bind fun y2 => (idx a.1 a.2).bind fun _ => (idx a.1 (Int.toNat a.2 : Nat)).bind fun y4 => bif y2.1 != y4.1 then (some ((false, ()), ())) else ((idx a.1 a.2).bind fun _ => (idx a.1 (Int.toNat a.2 : Nat)).bind fun y6 => bif y2.2.1 != y6.2.1 then (some ((false, ()), ())) else ((impl_in.f K (y2.2.2.1, 0, x.1.2.2.2.2.2.1, ())).bind fun y7 => bif !y7.1.1 then (some ((false, ()), ())) else (bif (List.length y2.2.2.2 : Int) == 0 then (some ((false, ()), ())) else (N_l2 (a.1, a.2, y2.2.2.2, (List.length y2.2.2.2 : Int), 0, y2.1, y2.2.1, y2.2.2.1, y2.2.2.2)))))) else (some ((true, ()), ()))
noncomputable def l1 (K : Nat) (x : Args ps) : A_l1 → Option Res := iterate (fun rec_l1 a => l1.step K x (l2 K x rec_l1) rec_l1 a) K
noncomputable def l0.step (K : Nat) (x : Args ps) (N_l1 : A_l1 → Option Res) (rec_l0 : A_l0 → Option Res) (a : A_l0) : Option Res := bif decide (a.2 < (List.length x.1.2.2.2.2.2.2.2.2.1 : Int)) then ((idx x.1.2.2.2.2.2.2.2.2.1 a.2).bind fun y1 => bif y1.2.2.1 == 2 then (bif decide ((List.length a.1 + List.length ([y1])) * 32 ≤ sizeK) then (rec_l0 (a.1 ++ ([y1]), wr .i64 (a.2 + 1))) else none) else (rec_l0 (a.1, wr .i64 (a.2 + 1)))) else (bif (List.length x.1.2.2.2.2.2.2.2.2.2.2.2.1 : Int) != (List.length a.1 : Int) then (some ((false, ()), ())) else (N_l1 (a.1, 0)))
noncomputable def l0 (K : Nat) (x : Args ps) : A_l0 → Option Res := iterate (fun rec_l0 a => l0.step K x (l1 K x) rec_l0 a) K
noncomputable def pre (K : Nat) (N_l0 : A_l0 → Option Res) (x : Args ps) : Option Res := N_l0 ([], 0)
noncomputable def f (K : Nat) (x : Args ps) : Option Res := pre K (l0 K x) x
noncomputable def c (K : Nat) : Ctr := ⟨173, ps, rs, true, f K⟩
noncomputable def G (K : Nat) : List Ctr := [impl_Node_near.c K, impl_in.c K]
noncomputable def live_l2 : List (Nat × List Coe) := [(1, [.keep]), (3, [.own false 132 t2]), (7, [.keep]), (32, [.ro true 177 t31]), (33, [.keep]), (34, [.keep]), (72, [.ro true 3 (.int .i64)]), (73, [.keep]), (74, [.keep]), (100001, [.keep, .keep, .keep, .keep, .keep, .keep, .keep, .keep, .ro true 132 t2, .ro true 173 t3, .keep, .keep, .keep, .keep, .ro true 177 t31, .keep, .keep, .keep, .keep, .ro true 94 t33, .ro true 119 t55]), (100007, [.keep, .keep, .keep, .ro true 3 (.int .i64)])]
noncomputable def live_l1 : List (Nat × List Coe) := [(1, [.keep]), (3, [.own false 132 t2]), (32, [.ro true 177 t31]), (33, [.keep]), (34, [.keep]), (100001, [.keep, .keep, .keep, .keep, .keep, .keep, .keep, .keep, .ro true 132 t2, .ro true 173 t3, .keep, .keep, .keep, .keep, .ro true 177 t31, .keep, .keep, .keep, .keep, .ro true 94 t33, .ro true 119 t55])]
noncomputable def live_l0 : List (Nat × List Coe) := [(1, [.keep]), (3, [.own false 132 t2]), (11, [.ro true 132 t2]), (12, [.keep]), (13, [.keep]), (100001, [.keep, .keep, .keep, .keep, .keep, .keep, .keep, .keep, .ro true 132 t2, .ro true 173 t3, .keep, .keep, .keep, .keep, .ro true 177 t31, .keep, .keep, .keep, .keep, .ro true 94 t33, .ro true 119 t55])]
noncomputable def L : List (Nat × List (Nat × List Coe)) := [(17, live_l2), (12, live_l1), (4, live_l0)]
noncomputable def body : Code := bodyOf Tryz.f173
noncomputable abbrev ev (K : Nat) : Code → St → (Ex → St → Option Res) → Option Res := evK (G K) T_D L K
noncomputable abbrev fin : Ex → St → Option Res := finK T_D ps rs true Tryz.f173.results.toList
noncomputable def S_l0 (x : Args ps) (a : A_l0) : St := mkSt [(1, ⟨0, .one, [.bp 100001 0]⟩), (3, ⟨0, .one, [.own false none 132 t2 a.1]⟩), (11, ⟨0, .one, [.ro true 132 t2 x.1.2.2.2.2.2.2.2.2.1]⟩), (12, ⟨0, .one, [.int .i64 (List.length x.1.2.2.2.2.2.2.2.2.1 : Int)]⟩), (13, ⟨0, .one, [.int .i64 a.2]⟩), (100001, ⟨0, .agg, [.int .i64 x.1.1, .bool x.1.2.1, .bool x.1.2.2.1, .bool x.1.2.2.2.1, .int .i64 x.1.2.2.2.2.1, .int .i64 x.1.2.2.2.2.2.1, .int .i64 x.1.2.2.2.2.2.2.1, .int .i64 x.1.2.2.2.2.2.2.2.1, .ro true 132 t2 x.1.2.2.2.2.2.2.2.2.1, .ro true 173 t3 x.1.2.2.2.2.2.2.2.2.2.1, .int .i64 x.1.2.2.2.2.2.2.2.2.2.2.1.1, .int .i64 x.1.2.2.2.2.2.2.2.2.2.2.1.2.1, .int .i64 x.1.2.2.2.2.2.2.2.2.2.2.1.2.2.1, .bool x.1.2.2.2.2.2.2.2.2.2.2.1.2.2.2, .ro true 177 t31 x.1.2.2.2.2.2.2.2.2.2.2.2.1, .int .i64 x.1.2.2.2.2.2.2.2.2.2.2.2.2.1.1, .int .i64 x.1.2.2.2.2.2.2.2.2.2.2.2.2.1.2.1, .int .i64 x.1.2.2.2.2.2.2.2.2.2.2.2.2.1.2.2.1, .int .i64 x.1.2.2.2.2.2.2.2.2.2.2.2.2.1.2.2.2, .ro true 94 t33 x.1.2.2.2.2.2.2.2.2.2.2.2.2.2.1, .ro true 119 t55 x.1.2.2.2.2.2.2.2.2.2.2.2.2.2.2]⟩)]
noncomputable def S_l1 (x : Args ps) (a : A_l1) : St := mkSt [(1, ⟨0, .one, [.bp 100001 0]⟩), (3, ⟨0, .one, [.own false none 132 t2 a.1]⟩), (32, ⟨0, .one, [.ro true 177 t31 x.1.2.2.2.2.2.2.2.2.2.2.2.1]⟩), (33, ⟨0, .one, [.int .i64 (List.length x.1.2.2.2.2.2.2.2.2.2.2.2.1 : Int)]⟩), (34, ⟨0, .one, [.int .i64 a.2]⟩), (100001, ⟨0, .agg, [.int .i64 x.1.1, .bool x.1.2.1, .bool x.1.2.2.1, .bool x.1.2.2.2.1, .int .i64 x.1.2.2.2.2.1, .int .i64 x.1.2.2.2.2.2.1, .int .i64 x.1.2.2.2.2.2.2.1, .int .i64 x.1.2.2.2.2.2.2.2.1, .ro true 132 t2 x.1.2.2.2.2.2.2.2.2.1, .ro true 173 t3 x.1.2.2.2.2.2.2.2.2.2.1, .int .i64 x.1.2.2.2.2.2.2.2.2.2.2.1.1, .int .i64 x.1.2.2.2.2.2.2.2.2.2.2.1.2.1, .int .i64 x.1.2.2.2.2.2.2.2.2.2.2.1.2.2.1, .bool x.1.2.2.2.2.2.2.2.2.2.2.1.2.2.2, .ro true 177 t31 x.1.2.2.2.2.2.2.2.2.2.2.2.1, .int .i64 x.1.2.2.2.2.2.2.2.2.2.2.2.2.1.1, .int .i64 x.1.2.2.2.2.2.2.2.2.2.2.2.2.1.2.1, .int .i64 x.1.2.2.2.2.2.2.2.2.2.2.2.2.1.2.2.1, .int .i64 x.1.2.2.2.2.2.2.2.2.2.2.2.2.1.2.2.2, .ro true 94 t33 x.1.2.2.2.2.2.2.2.2.2.2.2.2.2.1, .ro true 119 t55 x.1.2.2.2.2.2.2.2.2.2.2.2.2.2.2]⟩)]
noncomputable def S_l2 (x : Args ps) (a : A_l2) : St := mkSt [(1, ⟨0, .one, [.bp 100001 0]⟩), (3, ⟨0, .one, [.own false none 132 t2 a.1]⟩), (7, ⟨0, .one, [.bp 100007 0]⟩), (32, ⟨0, .one, [.ro true 177 t31 x.1.2.2.2.2.2.2.2.2.2.2.2.1]⟩), (33, ⟨0, .one, [.int .i64 (List.length x.1.2.2.2.2.2.2.2.2.2.2.2.1 : Int)]⟩), (34, ⟨0, .one, [.int .i64 a.2.1]⟩), (72, ⟨0, .one, [.ro true 3 (.int .i64) a.2.2.1]⟩), (73, ⟨0, .one, [.int .i64 a.2.2.2.1]⟩), (74, ⟨0, .one, [.int .i64 a.2.2.2.2.1]⟩), (100001, ⟨0, .agg, [.int .i64 x.1.1, .bool x.1.2.1, .bool x.1.2.2.1, .bool x.1.2.2.2.1, .int .i64 x.1.2.2.2.2.1, .int .i64 x.1.2.2.2.2.2.1, .int .i64 x.1.2.2.2.2.2.2.1, .int .i64 x.1.2.2.2.2.2.2.2.1, .ro true 132 t2 x.1.2.2.2.2.2.2.2.2.1, .ro true 173 t3 x.1.2.2.2.2.2.2.2.2.2.1, .int .i64 x.1.2.2.2.2.2.2.2.2.2.2.1.1, .int .i64 x.1.2.2.2.2.2.2.2.2.2.2.1.2.1, .int .i64 x.1.2.2.2.2.2.2.2.2.2.2.1.2.2.1, .bool x.1.2.2.2.2.2.2.2.2.2.2.1.2.2.2, .ro true 177 t31 x.1.2.2.2.2.2.2.2.2.2.2.2.1, .int .i64 x.1.2.2.2.2.2.2.2.2.2.2.2.2.1.1, .int .i64 x.1.2.2.2.2.2.2.2.2.2.2.2.2.1.2.1, .int .i64 x.1.2.2.2.2.2.2.2.2.2.2.2.2.1.2.2.1, .int .i64 x.1.2.2.2.2.2.2.2.2.2.2.2.2.1.2.2.2, .ro true 94 t33 x.1.2.2.2.2.2.2.2.2.2.2.2.2.2.1, .ro true 119 t55 x.1.2.2.2.2.2.2.2.2.2.2.2.2.2.2]⟩), (100007, ⟨0, .agg, [.int .i64 a.2.2.2.2.2.1, .int .i64 a.2.2.2.2.2.2.1, .int .i64 a.2.2.2.2.2.2.2.1, .ro true 3 (.int .i64) a.2.2.2.2.2.2.2.2]⟩)]
noncomputable def k_l0 (K : Nat) (x : Args ps) : Ex → St → Option Res := kAt (ev K) body [1, 1, 0, 1, 0] fin
noncomputable def N_l0 (K : Nat) (x : Args ps) : A_l0 → Option Res := fun a => evLoop live_l0 (ev K (sub body [1, 1, 0, 1, 0, 0])) K (S_l0 x a) (k_l0 K x)
noncomputable def k_l1 (K : Nat) (x : Args ps) : Ex → St → Option Res := kAt (ev K) body [1, 1, 1, 1, 0, 1, 0] fin
noncomputable def N_l1 (K : Nat) (x : Args ps) : A_l1 → Option Res := fun a => evLoop live_l1 (ev K (sub body [1, 1, 1, 1, 0, 1, 0, 0])) K (S_l1 x a) (k_l1 K x)
noncomputable def k_l2 (K : Nat) (x : Args ps) (r_l1 : St → Option Res) : Ex → St → Option Res := kAt (ev K) (sub body [1, 1, 1, 1, 0, 1, 0, 0]) [1, 1, 0, 0, 1, 1, 1, 0] (kLoop live_l1 r_l1 (k_l1 K x))
noncomputable def N_l2 (K : Nat) (x : Args ps) (r_l1 : St → Option Res) : A_l2 → Option Res := fun a => evLoop live_l2 (ev K (sub body [1, 1, 1, 1, 0, 1, 0, 0, 1, 1, 0, 0, 1, 1, 1, 0, 0])) K (S_l2 x a) (k_l2 K x r_l1)
end impl_Node_doubtsOk
namespace impl_CoordOk
@[reducible] def ps : List PK := [.rd t9]
@[reducible] def rs : List RK := [.v .bool]
abbrev Res := Ress rs × Outs ps
noncomputable def pre (K : Nat) (x : Args ps) : Option Res := (impl_in.f K (x.1.1, (-100000), 100000, ())).bind fun y1 => bif y1.1.1 then ((impl_in.f K (x.1.2.1, (-100000), 100000, ())).bind fun y2 => bif y2.1.1 then ((impl_in.f K (x.1.2.2.1, 0, 100000, ())).bind fun y3 => bif y3.1.1 then ((impl_in.f K (x.1.2.2.2, 1, 1500, ())).bind fun y4 => some ((y4.1.1, ()), ())) else (some ((false, ()), ()))) else (some ((false, ()), ()))) else (some ((false, ()), ()))
noncomputable def f (K : Nat) (x : Args ps) : Option Res := pre K x
noncomputable def c (K : Nat) : Ctr := ⟨174, ps, rs, true, f K⟩
noncomputable def G (K : Nat) : List Ctr := [impl_in.c K]
noncomputable def L : List (Nat × List (Nat × List Coe)) := []
noncomputable def body : Code := bodyOf Tryz.f174
noncomputable abbrev ev (K : Nat) : Code → St → (Ex → St → Option Res) → Option Res := evK (G K) T_D L K
noncomputable abbrev fin : Ex → St → Option Res := finK T_D ps rs true Tryz.f174.results.toList
end impl_CoordOk
namespace impl_Node_other
@[reducible] def ps : List PK := [.rd t69, .rd (.int .i64)]
@[reducible] def rs : List RK := [.v .bool]
abbrev Res := Ress rs × Outs ps
noncomputable def pre (K : Nat) (x : Args ps) : Option Res := (impl_Node_near.f K (x.1, x.2.1, ())).bind fun y1 => bif y1.1.1 then (some ((x.2.1 != x.1.1, ()), ())) else (some ((false, ()), ()))
noncomputable def f (K : Nat) (x : Args ps) : Option Res := pre K x
noncomputable def c (K : Nat) : Ctr := ⟨199, ps, rs, true, f K⟩
noncomputable def G (K : Nat) : List Ctr := [impl_Node_near.c K]
noncomputable def L : List (Nat × List (Nat × List Coe)) := []
noncomputable def body : Code := bodyOf Tryz.f199
noncomputable abbrev ev (K : Nat) : Code → St → (Ex → St → Option Res) → Option Res := evK (G K) T_D L K
noncomputable abbrev fin : Ex → St → Option Res := finK T_D ps rs true Tryz.f199.results.toList
end impl_Node_other
namespace impl_Node_placesOk_1
@[reducible] def ps : List PK := [.rd (.int .i64)]
@[reducible] def rs : List RK := [.v .bool]
abbrev Res := Ress rs × Outs ps
noncomputable def pre (K : Nat) (x : Args ps) : Option Res := (impl_in.f K (x.1, 1, 60000, ())).bind fun y1 => some ((!y1.1.1, ()), ())
noncomputable def f (K : Nat) (x : Args ps) : Option Res := pre K x
noncomputable def c (K : Nat) : Ctr := ⟨237, ps, rs, true, f K⟩
noncomputable def G (K : Nat) : List Ctr := [impl_in.c K]
noncomputable def L : List (Nat × List (Nat × List Coe)) := []
noncomputable def body : Code := bodyOf Tryz.f237
noncomputable abbrev ev (K : Nat) : Code → St → (Ex → St → Option Res) → Option Res := evK (G K) T_D L K
noncomputable abbrev fin : Ex → St → Option Res := finK T_D ps rs true Tryz.f237.results.toList
end impl_Node_placesOk_1
namespace slices_IndexFunc_int_int
@[reducible] def ps : List PK := [.rd (.list false 3 (.int .i64)), .fn [(.int .i64)] .bool]
@[reducible] def rs : List RK := [.v (.int .i64)]
abbrev Res := Ress rs × Outs ps
abbrev A_l0 := Int
noncomputable def l0.step (K : Nat) (x : Args ps) (rec_l0 : A_l0 → Option Res) (a : A_l0) : Option Res := bif decide (a < (List.length x.1 : Int)) then ((idx x.1 a).bind fun y1 => (x.2.1 (y1, ())).bind fun y2 => bif y2 then (some ((a, ()), ())) else (rec_l0 (wr .i64 (a + 1)))) else (some (((-1), ()), ()))
noncomputable def l0 (K : Nat) (x : Args ps) : A_l0 → Option Res := iterate (fun rec_l0 a => l0.step K x rec_l0 a) K
noncomputable def pre (K : Nat) (N_l0 : A_l0 → Option Res) (x : Args ps) : Option Res := N_l0 0
noncomputable def f (K : Nat) (x : Args ps) : Option Res := pre K (l0 K x) x
noncomputable def c (K : Nat) : Ctr := ⟨291, ps, rs, true, f K⟩
noncomputable def G (K : Nat) : List Ctr := []
noncomputable def live_l0 : List (Nat × List Coe) := [(0, [.ro true 3 (.int .i64)]), (1, [.keep]), (7, [.keep]), (8, [.keep])]
noncomputable def L : List (Nat × List (Nat × List Coe)) := [(3, live_l0)]
noncomputable def body : Code := bodyOf Tryz.f291
noncomputable abbrev ev (K : Nat) : Code → St → (Ex → St → Option Res) → Option Res := evK (G K) T_D L K
noncomputable abbrev fin : Ex → St → Option Res := finK T_D ps rs true Tryz.f291.results.toList
noncomputable def S_l0 (x : Args ps) (a : A_l0) : St := mkSt [(0, ⟨0, .one, [.ro true 3 (.int .i64) x.1]⟩), (1, ⟨0, .one, [.fn [(.int .i64)] .bool x.2.1]⟩), (7, ⟨0, .one, [.int .i64 (List.length x.1 : Int)]⟩), (8, ⟨0, .one, [.int .i64 a]⟩)]
noncomputable def k_l0 (K : Nat) (x : Args ps) : Ex → St → Option Res := kAt (ev K) body [1, 0, 1, 0] fin
noncomputable def N_l0 (K : Nat) (x : Args ps) : A_l0 → Option Res := fun a => evLoop live_l0 (ev K (sub body [1, 0, 1, 0, 0])) K (S_l0 x a) (k_l0 K x)
end slices_IndexFunc_int_int
namespace slices_ContainsFunc_int_int
@[reducible] def ps : List PK := [.rd (.list false 3 (.int .i64)), .fn [(.int .i64)] .bool]
@[reducible] def rs : List RK := [.v .bool]
abbrev Res := Ress rs × Outs ps
noncomputable def pre (K : Nat) (x : Args ps) : Option Res := (slices_IndexFunc_int_int.f K (x.1, x.2.1, ())).bind fun y1 => some ((decide (y1.1.1 ≥ 0), ()), ())
noncomputable def f (K : Nat) (x : Args ps) : Option Res := pre K x
noncomputable def c (K : Nat) : Ctr := ⟨238, ps, rs, true, f K⟩
noncomputable def G (K : Nat) : List Ctr := [slices_IndexFunc_int_int.c K]
noncomputable def L : List (Nat × List (Nat × List Coe)) := []
noncomputable def body : Code := bodyOf Tryz.f238
noncomputable abbrev ev (K : Nat) : Code → St → (Ex → St → Option Res) → Option Res := evK (G K) T_D L K
noncomputable abbrev fin : Ex → St → Option Res := finK T_D ps rs true Tryz.f238.results.toList
end slices_ContainsFunc_int_int
namespace impl_Node_placesOk
@[reducible] def ps : List PK := [.rd t69]
@[reducible] def rs : List RK := [.v .bool]
abbrev Res := Ress rs × Outs ps
abbrev A_l0 := Int
noncomputable def l0.step (K : Nat) (x : Args ps) (rec_l0 : A_l0 → Option Res) (a : A_l0) : Option Res := bif decide (a < (List.length x.1.2.2.2.2.2.2.2.2.2.2.2.2.2.1 : Int)) then ((idx x.1.2.2.2.2.2.2.2.2.2.2.2.2.2.1 a).bind fun y1 => (impl_Node_other.f K (x.1, y1.1, ())).bind fun y2 => bif !y2.1.1 then (some ((false, ()), ())) else (bif decide (a > 0) then ((idx x.1.2.2.2.2.2.2.2.2.2.2.2.2.2.1 (wr .i64 (a - 1))).bind fun y3 => bif decide (y1.1 ≤ y3.1) then (some ((false, ()), ())) else ((impl_CoordOk.f K (y1.2.1, ())).bind fun y4 => bif !y4.1.1 then (some ((false, ()), ())) else ((impl_in.f K ((List.length y1.2.2 : Int), 1, 3, ())).bind fun y5 => bif !y5.1.1 then (some ((false, ()), ())) else ((slices_ContainsFunc_int_int.f K (y1.2.2, fun y6 => (impl_Node_placesOk_1.f K (y6.1, ())).map fun y => y.1.1, ())).bind fun y7 => bif y7.1.1 then (some ((false, ()), ())) else (rec_l0 (wr .i64 (a + 1))))))) else ((impl_CoordOk.f K (y1.2.1, ())).bind fun y8 => bif !y8.1.1 then (some ((false, ()), ())) else ((impl_in.f K ((List.length y1.2.2 : Int), 1, 3, ())).bind fun y9 => bif !y9.1.1 then (some ((false, ()), ())) else ((slices_ContainsFunc_int_int.f K (y1.2.2, fun y10 => (impl_Node_placesOk_1.f K (y10.1, ())).map fun y => y.1.1, ())).bind fun y11 => bif y11.1.1 then (some ((false, ()), ())) else (rec_l0 (wr .i64 (a + 1)))))))) else (some ((true, ()), ()))
noncomputable def l0 (K : Nat) (x : Args ps) : A_l0 → Option Res := iterate (fun rec_l0 a => l0.step K x rec_l0 a) K
noncomputable def pre (K : Nat) (N_l0 : A_l0 → Option Res) (x : Args ps) : Option Res := N_l0 0
noncomputable def f (K : Nat) (x : Args ps) : Option Res := pre K (l0 K x) x
noncomputable def c (K : Nat) : Ctr := ⟨175, ps, rs, true, f K⟩
noncomputable def G (K : Nat) : List Ctr := [impl_in.c K, impl_CoordOk.c K, impl_Node_other.c K, impl_Node_placesOk_1.c K, slices_ContainsFunc_int_int.c K]
noncomputable def live_l0 : List (Nat × List Coe) := [(1, [.keep]), (3, [.keep]), (7, [.ro true 94 t33]), (8, [.keep]), (9, [.keep]), (100001, [.keep, .keep, .keep, .keep, .keep, .keep, .keep, .keep, .ro true 132 t2, .ro true 173 t3, .keep, .keep, .keep, .keep, .ro true 177 t31, .keep, .keep, .keep, .keep, .ro true 94 t33, .ro true 119 t55])]
noncomputable def L : List (Nat × List (Nat × List Coe)) := [(4, live_l0)]
noncomputable def body : Code := bodyOf Tryz.f175
noncomputable abbrev ev (K : Nat) : Code → St → (Ex → St → Option Res) → Option Res := evK (G K) T_D L K
noncomputable abbrev fin : Ex → St → Option Res := finK T_D ps rs true Tryz.f175.results.toList
noncomputable def S_l0 (x : Args ps) (a : A_l0) : St := mkSt [(1, ⟨0, .one, [.bp 100001 0]⟩), (3, ⟨0, .one, [.clo 237 []]⟩), (7, ⟨0, .one, [.ro true 94 t33 x.1.2.2.2.2.2.2.2.2.2.2.2.2.2.1]⟩), (8, ⟨0, .one, [.int .i64 (List.length x.1.2.2.2.2.2.2.2.2.2.2.2.2.2.1 : Int)]⟩), (9, ⟨0, .one, [.int .i64 a]⟩), (100001, ⟨0, .agg, [.int .i64 x.1.1, .bool x.1.2.1, .bool x.1.2.2.1, .bool x.1.2.2.2.1, .int .i64 x.1.2.2.2.2.1, .int .i64 x.1.2.2.2.2.2.1, .int .i64 x.1.2.2.2.2.2.2.1, .int .i64 x.1.2.2.2.2.2.2.2.1, .ro true 132 t2 x.1.2.2.2.2.2.2.2.2.1, .ro true 173 t3 x.1.2.2.2.2.2.2.2.2.2.1, .int .i64 x.1.2.2.2.2.2.2.2.2.2.2.1.1, .int .i64 x.1.2.2.2.2.2.2.2.2.2.2.1.2.1, .int .i64 x.1.2.2.2.2.2.2.2.2.2.2.1.2.2.1, .bool x.1.2.2.2.2.2.2.2.2.2.2.1.2.2.2, .ro true 177 t31 x.1.2.2.2.2.2.2.2.2.2.2.2.1, .int .i64 x.1.2.2.2.2.2.2.2.2.2.2.2.2.1.1, .int .i64 x.1.2.2.2.2.2.2.2.2.2.2.2.2.1.2.1, .int .i64 x.1.2.2.2.2.2.2.2.2.2.2.2.2.1.2.2.1, .int .i64 x.1.2.2.2.2.2.2.2.2.2.2.2.2.1.2.2.2, .ro true 94 t33 x.1.2.2.2.2.2.2.2.2.2.2.2.2.2.1, .ro true 119 t55 x.1.2.2.2.2.2.2.2.2.2.2.2.2.2.2]⟩)]
noncomputable def k_l0 (K : Nat) (x : Args ps) : Ex → St → Option Res := kAt (ev K) body [1, 1, 0, 1, 0] fin
noncomputable def N_l0 (K : Nat) (x : Args ps) : A_l0 → Option Res := fun a => evLoop live_l0 (ev K (sub body [1, 1, 0, 1, 0, 0])) K (S_l0 x a) (k_l0 K x)
end impl_Node_placesOk
namespace impl_Node_othersOk
@[reducible] def ps : List PK := [.rd t69]
@[reducible] def rs : List RK := [.v .bool]
abbrev Res := Ress rs × Outs ps
abbrev A_l0 := Int
noncomputable def l0.step (K : Nat) (x : Args ps) (rec_l0 : A_l0 → Option Res) (a : A_l0) : Option Res := bif decide (a < (List.length x.1.2.2.2.2.2.2.2.2.2.2.2.2.2.2 : Int)) then ((idx x.1.2.2.2.2.2.2.2.2.2.2.2.2.2.2 a).bind fun y1 => (impl_siteOf.f K (7, ())).bind fun y2 => (impl_in.f K (y1.1, 0, y2.1.1, ())).bind fun y3 => bif !y3.1.1 then (some ((false, ()), ())) else ((impl_Node_site.f K (x.1, ())).bind fun y4 => bif y1.1 == y4.1.1 then (some ((false, ()), ())) else (bif decide (a > 0) then ((idx x.1.2.2.2.2.2.2.2.2.2.2.2.2.2.2 (wr .i64 (a - 1))).bind fun y5 => bif decide (y1.1 ≤ y5.1) then (some ((false, ()), ())) else (bif (List.length y1.2 : Int) == 0 then (some ((false, ()), ())) else ((impl_TableOk.f K (y1.2, ())).bind fun y6 => bif !y6.1.1 then (some ((false, ()), ())) else ((impl_ofSite.f K (y1.2, y1.1, ())).bind fun y7 => bif !y7.1.1 then (some ((false, ()), ())) else (rec_l0 (wr .i64 (a + 1))))))) else (bif (List.length y1.2 : Int) == 0 then (some ((false, ()), ())) else ((impl_TableOk.f K (y1.2, ())).bind fun y8 => bif !y8.1.1 then (some ((false, ()), ())) else ((impl_ofSite.f K (y1.2, y1.1, ())).bind fun y9 => bif !y9.1.1 then (some ((false, ()), ())) else (rec_l0 (wr .i64 (a + 1))))))))) else (some ((true, ()), ()))
noncomputable def l0 (K : Nat) (x : Args ps) : A_l0 → Option Res := iterate (fun rec_l0 a => l0.step K x rec_l0 a) K
noncomputable def pre (K : Nat) (N_l0 : A_l0 → Option Res) (x : Args ps) : Option Res := N_l0 0
noncomputable def f (K : Nat) (x : Args ps) : Option Res := pre K (l0 K x) x
noncomputable def c (K : Nat) : Ctr := ⟨176, ps, rs, true, f K⟩
noncomputable def G (K : Nat) : List Ctr := [impl_ofSite.c K, impl_Node_site.c K, impl_siteOf.c K, impl_in.c K, impl_TableOk.c K]
noncomputable def live_l0 : List (Nat × List Coe) := [(1, [.keep]), (6, [.ro true 119 t55]), (7, [.keep]), (8, [.keep]), (100001, [.keep, .keep, .keep, .keep, .keep, .keep, .keep, .keep, .ro true 132 t2, .ro true 173 t3, .keep, .keep, .keep, .keep, .ro true 177 t31, .keep, .keep, .keep, .keep, .ro true 94 t33, .ro true 119 t55])]
noncomputable def L : List (Nat × List (Nat × List Coe)) := [(3, live_l0)]
noncomputable def body : Code := bodyOf Tryz.f176
noncomputable abbrev ev (K : Nat) : Code → St → (Ex → St → Option Res) → Option Res := evK (G K) T_D L K
noncomputable abbrev fin : Ex → St → Option Res := finK T_D ps rs true Tryz.f176.results.toList
noncomputable def S_l0 (x : Args ps) (a : A_l0) : St := mkSt [(1, ⟨0, .one, [.bp 100001 0]⟩), (6, ⟨0, .one, [.ro true 119 t55 x.1.2.2.2.2.2.2.2.2.2.2.2.2.2.2]⟩), (7, ⟨0, .one, [.int .i64 (List.length x.1.2.2.2.2.2.2.2.2.2.2.2.2.2.2 : Int)]⟩), (8, ⟨0, .one, [.int .i64 a]⟩), (100001, ⟨0, .agg, [.int .i64 x.1.1, .bool x.1.2.1, .bool x.1.2.2.1, .bool x.1.2.2.2.1, .int .i64 x.1.2.2.2.2.1, .int .i64 x.1.2.2.2.2.2.1, .int .i64 x.1.2.2.2.2.2.2.1, .int .i64 x.1.2.2.2.2.2.2.2.1, .ro true 132 t2 x.1.2.2.2.2.2.2.2.2.1, .ro true 173 t3 x.1.2.2.2.2.2.2.2.2.2.1, .int .i64 x.1.2.2.2.2.2.2.2.2.2.2.1.1, .int .i64 x.1.2.2.2.2.2.2.2.2.2.2.1.2.1, .int .i64 x.1.2.2.2.2.2.2.2.2.2.2.1.2.2.1, .bool x.1.2.2.2.2.2.2.2.2.2.2.1.2.2.2, .ro true 177 t31 x.1.2.2.2.2.2.2.2.2.2.2.2.1, .int .i64 x.1.2.2.2.2.2.2.2.2.2.2.2.2.1.1, .int .i64 x.1.2.2.2.2.2.2.2.2.2.2.2.2.1.2.1, .int .i64 x.1.2.2.2.2.2.2.2.2.2.2.2.2.1.2.2.1, .int .i64 x.1.2.2.2.2.2.2.2.2.2.2.2.2.1.2.2.2, .ro true 94 t33 x.1.2.2.2.2.2.2.2.2.2.2.2.2.2.1, .ro true 119 t55 x.1.2.2.2.2.2.2.2.2.2.2.2.2.2.2]⟩)]
noncomputable def k_l0 (K : Nat) (x : Args ps) : Ex → St → Option Res := kAt (ev K) body [1, 0, 1, 0] fin
noncomputable def N_l0 (K : Nat) (x : Args ps) : A_l0 → Option Res := fun a => evLoop live_l0 (ev K (sub body [1, 0, 1, 0, 0])) K (S_l0 x a) (k_l0 K x)
end impl_Node_othersOk
namespace impl_NodeOk
@[reducible] def ps : List PK := [.rd t69]
@[reducible] def rs : List RK := [.v .bool]
abbrev Res := Ress rs × Outs ps
noncomputable def pre (K : Nat) (x : Args ps) : Option Res := (impl_isNode.f K (x.1.1, ())).bind fun y1 => bif !y1.1.1 then (some ((false, ()), ())) else ((impl_in.f K (x.1.2.2.2.2.2.1, 0, 999999, ())).bind fun y2 => bif !y2.1.1 then (some ((false, ()), ())) else ((impl_in.f K (x.1.2.2.2.2.2.2.1, 0, 999999, ())).bind fun y3 => bif !y3.1.1 then (some ((false, ()), ())) else ((impl_in.f K (x.1.2.2.2.2.2.2.2.1, 0, 8, ())).bind fun y4 => bif !y4.1.1 then (some ((false, ()), ())) else ((impl_in.f K (x.1.2.2.2.2.1, 0, 999, ())).bind fun y5 => bif !y5.1.1 then (some ((false, ()), ())) else (bif !x.1.2.1 then ((impl_Node_isDown.f K (x.1, ())).bind fun y6 => some ((y6.1.1, ()), ())) else ((impl_Node_tableOk.f K (x.1, ())).bind fun y7 => bif y7.1.1 then ((impl_Node_probeOk.f K (x.1, ())).bind fun y8 => bif y8.1.1 then ((impl_Node_doubtsOk.f K (x.1, ())).bind fun y9 => bif y9.1.1 then ((impl_CoordOk.f K (x.1.2.2.2.2.2.2.2.2.2.2.2.2.1, ())).bind fun y10 => bif y10.1.1 then ((impl_Node_placesOk.f K (x.1, ())).bind fun y11 => bif y11.1.1 then ((impl_Node_othersOk.f K (x.1, ())).bind fun y12 => some ((y12.1.1, ()), ())) else (some ((false, ()), ()))) else (some ((false, ()), ()))) else (some ((false, ()), ()))) else (some ((false, ()), ()))) else (some ((false, ()), ()))))))))
noncomputable def f (K : Nat) (x : Args ps) : Option Res := pre K x
noncomputable def c (K : Nat) : Ctr := ⟨76, ps, rs, true, f K⟩
noncomputable def G (K : Nat) : List Ctr := [impl_in.c K, impl_isNode.c K, impl_Node_isDown.c K, impl_Node_tableOk.c K, impl_Node_probeOk.c K, impl_Node_doubtsOk.c K, impl_CoordOk.c K, impl_Node_placesOk.c K, impl_Node_othersOk.c K]
noncomputable def L : List (Nat × List (Nat × List Coe)) := []
noncomputable def body : Code := bodyOf Tryz.f76
noncomputable abbrev ev (K : Nat) : Code → St → (Ex → St → Option Res) → Option Res := evK (G K) T_D L K
noncomputable abbrev fin : Ex → St → Option Res := finK T_D ps rs true Tryz.f76.results.toList
end impl_NodeOk
namespace impl_mayGate
@[reducible] def ps : List PK := [.rd (.int .i64)]
@[reducible] def rs : List RK := [.v .bool]
abbrev Res := Ress rs × Outs ps
noncomputable def pre (K : Nat) (x : Args ps) : Option Res := some (((Int.tmod x.1 4) != 3, ()), ())
noncomputable def f (K : Nat) (x : Args ps) : Option Res := pre K x
noncomputable def c (K : Nat) : Ctr := ⟨110, ps, rs, true, f K⟩
noncomputable def G (K : Nat) : List Ctr := []
noncomputable def L : List (Nat × List (Nat × List Coe)) := []
noncomputable def body : Code := bodyOf Tryz.f110
noncomputable abbrev ev (K : Nat) : Code → St → (Ex → St → Option Res) → Option Res := evK (G K) T_D L K
noncomputable abbrev fin : Ex → St → Option Res := finK T_D ps rs true Tryz.f110.results.toList
end impl_mayGate
namespace slices_IndexFunc_impl_Flight_impl_Flight
@[reducible] def ps : List PK := [.rd (.list false 129 t28), .fn [t28] .bool]
@[reducible] def rs : List RK := [.v (.int .i64)]
abbrev Res := Ress rs × Outs ps
abbrev A_l0 := Int
noncomputable def l0.step (K : Nat) (x : Args ps) (rec_l0 : A_l0 → Option Res) (a : A_l0) : Option Res := bif decide (a < (List.length x.1 : Int)) then ((idx x.1 a).bind fun y1 => (x.2.1 (y1, ())).bind fun y2 => bif y2 then (some ((a, ()), ())) else (rec_l0 (wr .i64 (a + 1)))) else (some (((-1), ()), ()))
noncomputable def l0 (K : Nat) (x : Args ps) : A_l0 → Option Res := iterate (fun rec_l0 a => l0.step K x rec_l0 a) K
noncomputable def pre (K : Nat) (N_l0 : A_l0 → Option Res) (x : Args ps) : Option Res := N_l0 0
noncomputable def f (K : Nat) (x : Args ps) : Option Res := pre K (l0 K x) x
noncomputable def c (K : Nat) : Ctr := ⟨190, ps, rs, true, f K⟩
noncomputable def G (K : Nat) : List Ctr := []
noncomputable def live_l0 : List (Nat × List Coe) := [(0, [.ro true 129 t28]), (1, [.keep]), (7, [.keep]), (8, [.keep])]
noncomputable def L : List (Nat × List (Nat × List Coe)) := [(3, live_l0)]
noncomputable def body : Code := bodyOf Tryz.f190
noncomputable abbrev ev (K : Nat) : Code → St → (Ex → St → Option Res) → Option Res := evK (G K) T_D L K
noncomputable abbrev fin : Ex → St → Option Res := finK T_D ps rs true Tryz.f190.results.toList
noncomputable def S_l0 (x : Args ps) (a : A_l0) : St := mkSt [(0, ⟨0, .one, [.ro true 129 t28 x.1]⟩), (1, ⟨0, .one, [.fn [t28] .bool x.2.1]⟩), (7, ⟨0, .one, [.int .i64 (List.length x.1 : Int)]⟩), (8, ⟨0, .one, [.int .i64 a]⟩)]
noncomputable def k_l0 (K : Nat) (x : Args ps) : Ex → St → Option Res := kAt (ev K) body [1, 0, 1, 0] fin
noncomputable def N_l0 (K : Nat) (x : Args ps) : A_l0 → Option Res := fun a => evLoop live_l0 (ev K (sub body [1, 0, 1, 0, 0])) K (S_l0 x a) (k_l0 K x)
end slices_IndexFunc_impl_Flight_impl_Flight
namespace slices_ContainsFunc_impl_Flight_impl_Flight
@[reducible] def ps : List PK := [.rd (.list false 129 t28), .fn [t28] .bool]
@[reducible] def rs : List RK := [.v .bool]
abbrev Res := Ress rs × Outs ps
noncomputable def pre (K : Nat) (x : Args ps) : Option Res := (slices_IndexFunc_impl_Flight_impl_Flight.f K (x.1, x.2.1, ())).bind fun y1 => some ((decide (y1.1.1 ≥ 0), ()), ())
noncomputable def f (K : Nat) (x : Args ps) : Option Res := pre K x
noncomputable def c (K : Nat) : Ctr := ⟨114, ps, rs, true, f K⟩
noncomputable def G (K : Nat) : List Ctr := [slices_IndexFunc_impl_Flight_impl_Flight.c K]
noncomputable def L : List (Nat × List (Nat × List Coe)) := []
noncomputable def body : Code := bodyOf Tryz.f114
noncomputable abbrev ev (K : Nat) : Code → St → (Ex → St → Option Res) → Option Res := evK (G K) T_D L K
noncomputable abbrev fin : Ex → St → Option Res := finK T_D ps rs true Tryz.f114.results.toList
end slices_ContainsFunc_impl_Flight_impl_Flight
namespace impl_WorldOk_1
@[reducible] def ps : List PK := [.rd t28]
@[reducible] def rs : List RK := [.v .bool]
abbrev Res := Ress rs × Outs ps
noncomputable def pre (K : Nat) (x : Args ps) : Option Res := (impl_isNode.f K (x.1.1, ())).bind fun y1 => bif !y1.1.1 then (some ((true, ()), ())) else (some ((decide ((x.1.2.1.size : Int) > 300), ()), ()))
noncomputable def f (K : Nat) (x : Args ps) : Option Res := pre K x
noncomputable def c (K : Nat) : Ctr := ⟨115, ps, rs, true, f K⟩
noncomputable def G (K : Nat) : List Ctr := [impl_isNode.c K]
noncomputable def L : List (Nat × List (Nat × List Coe)) := []
noncomputable def body : Code := bodyOf Tryz.f115
noncomputable abbrev ev (K : Nat) : Code → St → (Ex → St → Option Res) → Option Res := evK (G K) T_D L K
noncomputable abbrev fin : Ex → St → Option Res := finK T_D ps rs true Tryz.f115.results.toList
end impl_WorldOk_1
namespace impl_WorldOk
@[reducible] def ps : List PK := [.rd t72]
@[reducible] def rs : List RK := [.v .bool]
abbrev Res := Ress rs × Outs ps
abbrev A_l1 := Int
abbrev A_l0 := Int
noncomputable def l1.step (K : Nat) (x : Args ps) (rec_l1 : A_l1 → Option Res) (a : A_l1) : Option Res := bif decide (a < (List.length x.1.2.2.2 : Int)) then ((idx x.1.2.2.2 a).bind fun y6 => (impl_FactOk.f K (y6, ())).bind fun y7 => bif !y7.1.1 then (some ((false, ()), ())) else (bif decide (a > 0) then ((idx x.1.2.2.2 (wr .i64 (a - 1))).bind fun y8 => (impl_Fact_compare.f K (y8, y6, ())).bind fun y9 => bif decide (y9.1.1 ≥ 0) then (some ((false, ()), ())) else (rec_l1 (wr .i64 (a + 1)))) else (rec_l1 (wr .i64 (a + 1))))) else ((slices_ContainsFunc_impl_Flight_impl_Flight.f K (x.1.2.1, fun y10 => (impl_WorldOk_1.f K (y10.1, ())).map fun y => y.1.1, ())).bind fun y11 => some ((!y11.1.1, ()), ()))
noncomputable def l1 (K : Nat) (x : Args ps) : A_l1 → Option Res := iterate (fun rec_l1 a => l1.step K x rec_l1 a) K
noncomputable def l0.step (K : Nat) (x : Args ps) (N_l1 : A_l1 → Option Res) (rec_l0 : A_l0 → Option Res) (a : A_l0) : Option Res := bif decide (a < (List.length x.1.1 : Int)) then ((idx x.1.1 a).bind fun y1 => (impl_NodeOk.f K (y1, ())).bind fun y2 => bif !y2.1.1 then (some ((false, ()), ())) else (bif y1.1 != a then (some ((false, ()), ())) else ((impl_mayGate.f K (a, ())).bind fun y3 => bif y1.2.2.2.1 != y3.1.1 then (some ((false, ()), ())) else ((idx x.1.2.2.1 a).bind fun y4 => (impl_in.f K (y4, 0, 2, ())).bind fun y5 => bif !y5.1.1 then (some ((false, ()), ())) else (rec_l0 (wr .i64 (a + 1))))))) else (N_l1 0)
noncomputable def l0 (K : Nat) (x : Args ps) : A_l0 → Option Res := iterate (fun rec_l0 a => l0.step K x (l1 K x) rec_l0 a) K
noncomputable def pre (K : Nat) (N_l0 : A_l0 → Option Res) (x : Args ps) : Option Res := bif (List.length x.1.1 : Int) != 8 then (some ((false, ()), ())) else (bif (List.length x.1.2.2.1 : Int) != 8 then (some ((false, ()), ())) else (bif decide ((List.length x.1.2.1 : Int) > 60) then (some ((false, ()), ())) else (N_l0 0)))
noncomputable def f (K : Nat) (x : Args ps) : Option Res := pre K (l0 K x) x
noncomputable def c (K : Nat) : Ctr := ⟨34, ps, rs, true, f K⟩
noncomputable def G (K : Nat) : List Ctr := [impl_NodeOk.c K, impl_mayGate.c K, impl_in.c K, impl_FactOk.c K, impl_Fact_compare.c K, slices_ContainsFunc_impl_Flight_impl_Flight.c K, impl_WorldOk_1.c K]
noncomputable def live_l1 : List (Nat × List Coe) := [(1, [.keep]), (58, [.ro true 132 t2]), (59, [.keep]), (60, [.keep]), (100001, [.ro true 44 t69, .ro true 129 t28, .ro true 3 (.int .i64), .ro true 132 t2])]
noncomputable def live_l0 : List (Nat × List Coe) := [(1, [.keep]), (24, [.ro true 44 t69]), (25, [.keep]), (26, [.keep]), (100001, [.ro true 44 t69, .ro true 129 t28, .ro true 3 (.int .i64), .ro true 132 t2])]
noncomputable def L : List (Nat × List (Nat × List Coe)) := [(11, live_l1), (5, live_l0)]
noncomputable def body : Code := bodyOf Tryz.f34
noncomputable abbrev ev (K : Nat) : Code → St → (Ex → St → Option Res) → Option Res := evK (G K) T_D L K
noncomputable abbrev fin : Ex → St → Option Res := finK T_D ps rs true Tryz.f34.results.toList
noncomputable def S_l0 (x : Args ps) (a : A_l0) : St := mkSt [(1, ⟨0, .one, [.bp 100001 0]⟩), (24, ⟨0, .one, [.ro true 44 t69 x.1.1]⟩), (25, ⟨0, .one, [.int .i64 (List.length x.1.1 : Int)]⟩), (26, ⟨0, .one, [.int .i64 a]⟩), (100001, ⟨0, .agg, [.ro true 44 t69 x.1.1, .ro true 129 t28 x.1.2.1, .ro true 3 (.int .i64) x.1.2.2.1, .ro true 132 t2 x.1.2.2.2]⟩)]
noncomputable def S_l1 (x : Args ps) (a : A_l1) : St := mkSt [(1, ⟨0, .one, [.bp 100001 0]⟩), (58, ⟨0, .one, [.ro true 132 t2 x.1.2.2.2]⟩), (59, ⟨0, .one, [.int .i64 (List.length x.1.2.2.2 : Int)]⟩), (60, ⟨0, .one, [.int .i64 a]⟩), (100001, ⟨0, .agg, [.ro true 44 t69 x.1.1, .ro true 129 t28 x.1.2.1, .ro true 3 (.int .i64) x.1.2.2.1, .ro true 132 t2 x.1.2.2.2]⟩)]
noncomputable def k_l0 (K : Nat) (x : Args ps) : Ex → St → Option Res := kAt (ev K) body [1, 1, 0, 1, 0] fin
noncomputable def N_l0 (K : Nat) (x : Args ps) : A_l0 → Option Res := fun a => evLoop live_l0 (ev K (sub body [1, 1, 0, 1, 0, 0])) K (S_l0 x a) (k_l0 K x)
noncomputable def k_l1 (K : Nat) (x : Args ps) : Ex → St → Option Res := kAt (ev K) body [1, 1, 1, 0, 1, 0] fin
noncomputable def N_l1 (K : Nat) (x : Args ps) : A_l1 → Option Res := fun a => evLoop live_l1 (ev K (sub body [1, 1, 1, 0, 1, 0, 0])) K (S_l1 x a) (k_l1 K x)
end impl_WorldOk
namespace impl_Node_active
@[reducible] def ps : List PK := [.rd t69]
@[reducible] def rs : List RK := [.v .bool]
abbrev Res := Ress rs × Outs ps
noncomputable def pre (K : Nat) (x : Args ps) : Option Res := bif x.1.2.1 then (some ((!x.1.2.2.1, ()), ())) else (some ((false, ()), ()))
noncomputable def f (K : Nat) (x : Args ps) : Option Res := pre K x
noncomputable def c (K : Nat) : Ctr := ⟨87, ps, rs, true, f K⟩
noncomputable def G (K : Nat) : List Ctr := []
noncomputable def L : List (Nat × List (Nat × List Coe)) := []
noncomputable def body : Code := bodyOf Tryz.f87
noncomputable abbrev ev (K : Nat) : Code → St → (Ex → St → Option Res) → Option Res := evK (G K) T_D L K
noncomputable abbrev fin : Ex → St → Option Res := finK T_D ps rs true Tryz.f87.results.toList
end impl_Node_active
namespace slices_insertionSortCmpFunc_impl_Fact
@[reducible] def ps : List PK := [.io (.list true 132 t2), .rd (.int .i64), .rd (.int .i64), .fn [t2, t2] (.int .i64)]
@[reducible] def rs : List RK := []
abbrev Res := Ress rs × Outs ps
abbrev A_l1 := List (Ty.den t2) × Int × Int
abbrev A_l0 := List (Ty.den t2) × Int
noncomputable def l1.step (K : Nat) (x : Args ps) (rec_l0 : A_l0 → Option Res) (rec_l1 : A_l1 → Option Res) (a : A_l1) : Option Res := bif decide (a.2.2 > x.2.1) then ((idx a.1 a.2.2).bind fun _ => (idx a.1 (Int.toNat a.2.2 : Nat)).bind fun y2 => (idx a.1 (wr .i64 (a.2.2 - 1))).bind fun _ => (idx a.1 (Int.toNat (wr .i64 (a.2.2 - 1)) : Nat)).bind fun y4 => (x.2.2.2.1 (y2, y4, ())).bind fun y5 => bif decide (y5 < 0) then ((idx a.1 (wr .i64 (a.2.2 - 1))).bind fun _ => (idx a.1 (Int.toNat (wr .i64 (a.2.2 - 1)) : Nat)).bind fun y7 => (idx a.1 a.2.2).bind fun _ => (idx a.1 (Int.toNat a.2.2 : Nat)).bind fun y9 => (idx a.1 a.2.2).bind fun _ => (idx a.1 (Int.toNat a.2.2 : Nat)).bind fun y11 => (idx (a.1.set (Int.toNat a.2.2) y7) (wr .i64 (a.2.2 - 1))).bind fun _ => (idx (a.1.set (Int.toNat a.2.2) y7) (Int.toNat (wr .i64 (a.2.2 - 1)) : Nat)).bind fun y13 => rec_l1 ((a.1.set (Int.toNat a.2.2) y7).set (Int.toNat (wr .i64 (a.2.2 - 1))) y9, a.2.1, wr .i64 (a.2.2 - 1))) else (rec_l0 (a.1, wr .i64 (a.2.1 + 1)))) else (rec_l0 (a.1, wr .i64 (a.2.1 + 1)))
noncomputable def l1 (K : Nat) (x : Args ps) (rec_l0 : A_l0 → Option Res) : A_l1 → Option Res := iterate (fun rec_l1 a => l1.step K x rec_l0 rec_l1 a) K
noncomputable def l0.step (K : Nat) (x : Args ps) (N_l1 : A_l1 → Option Res) (rec_l0 : A_l0 → Option Res) (a : A_l0) : Option Res := bif decide (a.2 < x.2.2.1) then (N_l1 (a.1, a.2, a.2)) else (some ((), (a.1, ())))
noncomputable def l0 (K : Nat) (x : Args ps) : A_l0 → Option Res := iterate (fun rec_l0 a => l0.step K x (l1 K x rec_l0) rec_l0 a) K
noncomputable def pre (K : Nat) (N_l0 : A_l0 → Option Res) (x : Args ps) : Option Res := N_l0 (x.1, wr .i64 (x.2.1 + 1))
noncomputable def f (K : Nat) (x : Args ps) : Option Res := pre K (l0 K x) x
noncomputable def c (K : Nat) : Ctr := ⟨295, ps, rs, true, f K⟩
noncomputable def G (K : Nat) : List Ctr := []
noncomputable def live_l1 : List (Nat × List Coe) := [(0, [.own false 132 t2]), (1, [.keep]), (2, [.keep]), (3, [.keep]), (8, [.keep]), (9, [.keep])]
noncomputable def live_l0 : List (Nat × List Coe) := [(0, [.own false 132 t2]), (1, [.keep]), (2, [.keep]), (3, [.keep]), (8, [.keep])]
noncomputable def L : List (Nat × List (Nat × List Coe)) := [(5, live_l1), (2, live_l0)]
noncomputable def body : Code := bodyOf Tryz.f295
noncomputable abbrev ev (K : Nat) : Code → St → (Ex → St → Option Res) → Option Res := evK (G K) T_S L K
noncomputable abbrev fin : Ex → St → Option Res := finK T_S ps rs true Tryz.f295.results.toList
noncomputable def S_l0 (x : Args ps) (a : A_l0) : St := mkSt [(0, ⟨0, .one, [.own false none 132 t2 a.1]⟩), (1, ⟨0, .one, [.int .i64 x.2.1]⟩), (2, ⟨0, .one, [.int .i64 x.2.2.1]⟩), (3, ⟨0, .one, [.fn [t2, t2] (.int .i64) x.2.2.2.1]⟩), (8, ⟨0, .one, [.int .i64 a.2]⟩)]
noncomputable def S_l1 (x : Args ps) (a : A_l1) : St := mkSt [(0, ⟨0, .one, [.own false none 132 t2 a.1]⟩), (1, ⟨0, .one, [.int .i64 x.2.1]⟩), (2, ⟨0, .one, [.int .i64 x.2.2.1]⟩), (3, ⟨0, .one, [.fn [t2, t2] (.int .i64) x.2.2.2.1]⟩), (8, ⟨0, .one, [.int .i64 a.2.1]⟩), (9, ⟨0, .one, [.int .i64 a.2.2]⟩)]
noncomputable def k_l0 (K : Nat) (x : Args ps) : Ex → St → Option Res := kAt (ev K) body [1, 0] fin
noncomputable def N_l0 (K : Nat) (x : Args ps) : A_l0 → Option Res := fun a => evLoop live_l0 (ev K (sub body [1, 0, 0])) K (S_l0 x a) (k_l0 K x)
noncomputable def k_l1 (K : Nat) (x : Args ps) (r_l0 : St → Option Res) : Ex → St → Option Res := kAt (ev K) (sub body [1, 0, 0]) [1, 0, 0, 1, 0] (kLoop live_l0 r_l0 (k_l0 K x))
noncomputable def N_l1 (K : Nat) (x : Args ps) (r_l0 : St → Option Res) : A_l1 → Option Res := fun a => evLoop live_l1 (ev K (sub body [1, 0, 0, 1, 0, 0, 1, 0, 0])) K (S_l1 x a) (k_l1 K x r_l0)
end slices_insertionSortCmpFunc_impl_Fact
namespace slices_order2CmpFunc_impl_Fact
@[reducible] def ps : List PK := [.rd (.list false 132 t2), .rd (.int .i64), .rd (.int .i64), .iop (.int .i64), .fn [t2, t2] (.int .i64)]
@[reducible] def rs : List RK := [.v (.int .i64), .v (.int .i64)]
abbrev Res := Ress rs × Outs ps
noncomputable def pre (K : Nat) (x : Args ps) : Option Res := (idx x.1 x.2.2.1).bind fun y1 => (idx x.1 x.2.1).bind fun y2 => (x.2.2.2.2.1 (y1, y2, ())).bind fun y3 => bif decide (y3 < 0) then (some ((x.2.2.1, x.2.1, ()), (wr .i64 (x.2.2.2.1 + 1), ()))) else (some ((x.2.1, x.2.2.1, ()), (x.2.2.2.1, ())))
noncomputable def f (K : Nat) (x : Args ps) : Option Res := pre K x
noncomputable def c (K : Nat) : Ctr := ⟨356, ps, rs, true, f K⟩
noncomputable def G (K : Nat) : List Ctr := []
noncomputable def L : List (Nat × List (Nat × List Coe)) := []
noncomputable def body : Code := bodyOf Tryz.f356
noncomputable abbrev ev (K : Nat) : Code → St → (Ex → St → Option Res) → Option Res := evK (G K) T_D L K
noncomputable abbrev fin : Ex → St → Option Res := finK T_D ps rs true Tryz.f356.results.toList
end slices_order2CmpFunc_impl_Fact
namespace slices_medianCmpFunc_impl_Fact
@[reducible] def ps : List PK := [.rd (.list false 132 t2), .rd (.int .i64), .rd (.int .i64), .rd (.int .i64), .iop (.int .i64), .fn [t2, t2] (.int .i64)]
@[reducible] def rs : List RK := [.v (.int .i64)]
abbrev Res := Ress rs × Outs ps
noncomputable def pre (K : Nat) (x : Args ps) : Option Res := (slices_order2CmpFunc_impl_Fact.f K (x.1, x.2.1, x.2.2.1, x.2.2.2.2.1, x.2.2.2.2.2.1, ())).bind fun y1 => (slices_order2CmpFunc_impl_Fact.f K (x.1, y1.1.2.1, x.2.2.2.1, y1.2.1, x.2.2.2.2.2.1, ())).bind fun y2 => (slices_order2CmpFunc_impl_Fact.f K (x.1, y1.1.1, y2.1.1, y2.2.1, x.2.2.2.2.2.1, ())).bind fun y3 => some ((y3.1.2.1, ()), (y3.2.1, ()))
noncomputable def f (K : Nat) (x : Args ps) : Option Res := pre K x
noncomputable def c (K : Nat) : Ctr := ⟨334, ps, rs, true, f K⟩
noncomputable def G (K : Nat) : List Ctr := [slices_order2CmpFunc_impl_Fact.c K]
noncomputable def L : List (Nat × List (Nat × List Coe)) := []
noncomputable def body : Code := bodyOf Tryz.f334
noncomputable abbrev ev (K : Nat) : Code → St → (Ex → St → Option Res) → Option Res := evK (G K) T_D L K
noncomputable abbrev fin : Ex → St → Option Res := finK T_D ps rs true Tryz.f334.results.toList
end slices_medianCmpFunc_impl_Fact
namespace slices_medianAdjacentCmpFunc_impl_Fact
@[reducible] def ps : List PK := [.rd (.list false 132 t2), .rd (.int .i64), .iop (.int .i64), .fn [t2, t2] (.int .i64)]
@[reducible] def rs : List RK := [.v (.int .i64)]
abbrev Res := Ress rs × Outs ps
noncomputable def pre (K : Nat) (x : Args ps) : Option Res := (slices_medianCmpFunc_impl_Fact.f K (x.1, wr .i64 (x.2.1 - 1), x.2.1, wr .i64 (x.2.1 + 1), x.2.2.1, x.2.2.2.1, ())).bind fun y1 => some ((y1.1.1, ()), (y1.2.1, ()))
noncomputable def f (K : Nat) (x : Args ps) : Option Res := pre K x
noncomputable def c (K : Nat) : Ctr := ⟨333, ps, rs, true, f K⟩
noncomputable def G (K : Nat) : List Ctr := [slices_medianCmpFunc_impl_Fact.c K]
noncomputable def L : List (Nat × List (Nat × List Coe)) := []
noncomputable def body : Code := bodyOf Tryz.f333
noncomputable abbrev ev (K : Nat) : Code → St → (Ex → St → Option Res) → Option Res := evK (G K) T_D L K
noncomputable abbrev fin : Ex → St → Option Res := finK T_D ps rs true Tryz.f333.results.toList
end slices_medianAdjacentCmpFunc_impl_Fact
namespace slices_choosePivotCmpFunc_impl_Fact
@[reducible] def ps : List PK := [.rd (.list false 132 t2), .rd (.int .i64), .rd (.int .i64), .fn [t2, t2] (.int .i64)]
@[reducible] def rs : List RK := [.v (.int .i64), .v (.int .i64)]
abbrev Res := Ress rs × Outs ps
noncomputable def pre (K : Nat) (x : Args ps) : Option Res := bif decide ((wr .i64 (x.2.2.1 - x.2.1)) ≥ 8) then (bif decide ((wr .i64 (x.2.2.1 - x.2.1)) ≥ 50) then ((slices_medianAdjacentCmpFunc_impl_Fact.f K (x.1, wr .i64 (x.2.1 + (wr .i64 ((wr .i64 (Int.tdiv (wr .i64 (x.2.2.1 - x.2.1)) 4)) * 1))), 0, x.2.2.2.1, ())).bind fun y1 => (slices_medianAdjacentCmpFunc_impl_Fact.f K (x.1, wr .i64 (x.2.1 + (wr .i64 ((wr .i64 (Int.tdiv (wr .i64 (x.2.2.1 - x.2.1)) 4)) * 2))), y1.2.1, x.2.2.2.1, ())).bind fun y2 => (slices_medianAdjacentCmpFunc_impl_Fact.f K (x.1, wr .i64 (x.2.1 + (wr .i64 ((wr .i64 (Int.tdiv (wr .i64 (x.2.2.1 - x.2.1)) 4)) * 3))), y2.2.1, x.2.2.2.1, ())).bind fun y3 => (slices_medianCmpFunc_impl_Fact.f K (x.1, y1.1.1, y2.1.1, y3.1.1, y3.2.1, x.2.2.2.1, ())).bind fun y4 => bif y4.2.1 == 0 then (some ((y4.1.1, 1, ()), ())) else (bif y4.2.1 == 12 then (some ((y4.1.1, 2, ()), ())) else (some ((y4.1.1, 0, ()), ())))) else ((slices_medianCmpFunc_impl_Fact.f K (x.1, wr .i64 (x.2.1 + (wr .i64 ((wr .i64 (Int.tdiv (wr .i64 (x.2.2.1 - x.2.1)) 4)) * 1))), wr .i64 (x.2.1 + (wr .i64 ((wr .i64 (Int.tdiv (wr .i64 (x.2.2.1 - x.2.1)) 4)) * 2))), wr .i64 (x.2.1 + (wr .i64 ((wr .i64 (Int.tdiv (wr .i64 (x.2.2.1 - x.2.1)) 4)) * 3))), 0, x.2.2.2.1, ())).bind fun y5 => bif y5.2.1 == 0 then (some ((y5.1.1, 1, ()), ())) else (bif y5.2.1 == 12 then (some ((y5.1.1, 2, ()), ())) else (some ((y5.1.1, 0, ()), ()))))) else (some ((wr .i64 (x.2.1 + (wr .i64 ((wr .i64 (Int.tdiv (wr .i64 (x.2.2.1 - x.2.1)) 4)) * 2))), 1, ()), ()))
noncomputable def f (K : Nat) (x : Args ps) : Option Res := pre K x
noncomputable def c (K : Nat) : Ctr := ⟨298, ps, rs, true, f K⟩
noncomputable def G (K : Nat) : List Ctr := [slices_medianAdjacentCmpFunc_impl_Fact.c K, slices_medianCmpFunc_impl_Fact.c K]
noncomputable def L : List (Nat × List (Nat × List Coe)) := []
noncomputable def body : Code := bodyOf Tryz.f298
noncomputable abbrev ev (K : Nat) : Code → St → (Ex → St → Option Res) → Option Res := evK (G K) T_D L K
noncomputable abbrev fin : Ex → St → Option Res := finK T_D ps rs true Tryz.f298.results.toList
end slices_choosePivotCmpFunc_impl_Fact
namespace slices_pdqsortCmpFunc_impl_Fact
@[reducible] def ps : List PK := [.io (.list true 132 t2), .rd (.int .i64), .rd (.int .i64), .rd (.int .i64), .fn [t2, t2] (.int .i64)]
@[reducible] def rs : List RK := []
abbrev Res := Ress rs × Outs ps
abbrev A_l0 := Unit
noncomputable def l0.step (K : Nat) (x : Args ps) (rec_l0 : A_l0 → Option Res) (a : A_l0) : Option Res := bif decide ((wr .i64 (x.2.2.1 - x.2.1)) ≤ 12) then ((slices_insertionSortCmpFunc_impl_Fact.f K (x.1, x.2.1, x.2.2.1, x.2.2.2.2.1, ())).bind fun y1 => some ((), (y1.2.1, ()))) else (bif x.2.2.2.1 == 0 then none else ((slices_choosePivotCmpFunc_impl_Fact.f K (x.1, x.2.1, x.2.2.1, x.2.2.2.2.1, ())).bind fun y2 => bif y2.1.2.1 == 2 then none else (bif y2.1.2.1 == 1 then none else (bif decide (x.2.1 > 0) then ((idx x.1 (wr .i64 (x.2.1 - 1))).bind fun _ => (idx x.1 (Int.toNat (wr .i64 (x.2.1 - 1)) : Nat)).bind fun y4 => (idx x.1 y2.1.1).bind fun _ => (idx x.1 (Int.toNat y2.1.1 : Nat)).bind fun y6 => (x.2.2.2.2.1 (y4, y6, ())).bind fun y7 => bif !(decide (y7 < 0)) then none else none) else none))))
noncomputable def l0 (K : Nat) (x : Args ps) : A_l0 → Option Res := iterate (fun rec_l0 a => l0.step K x rec_l0 a) K
noncomputable def pre (K : Nat) (N_l0 : A_l0 → Option Res) (x : Args ps) : Option Res := N_l0 ()
noncomputable def f (K : Nat) (x : Args ps) : Option Res := pre K (l0 K x) x
noncomputable def c (K : Nat) : Ctr := ⟨246, ps, rs, true, f K⟩
noncomputable def G (K : Nat) : List Ctr := [slices_insertionSortCmpFunc_impl_Fact.c K, slices_choosePivotCmpFunc_impl_Fact.c K]
noncomputable def live_l0 : List (Nat × List Coe) := [(0, [.own false 132 t2]), (1, [.keep]), (2, [.keep]), (3, [.keep]), (4, [.keep]), (10, [.keep]), (11, [.keep])]
noncomputable def L : List (Nat × List (Nat × List Coe)) := [(3, live_l0)]
noncomputable def body : Code := bodyOf Tryz.f246
noncomputable abbrev ev (K : Nat) : Code → St → (Ex → St → Option Res) → Option Res := evK (G K) T_S L K
noncomputable abbrev fin : Ex → St → Option Res := finK T_S ps rs true Tryz.f246.results.toList
noncomputable def S_l0 (x : Args ps) (a : A_l0) : St := mkSt [(0, ⟨0, .one, [.own false none 132 t2 x.1]⟩), (1, ⟨0, .one, [.int .i64 x.2.1]⟩), (2, ⟨0, .one, [.int .i64 x.2.2.1]⟩), (3, ⟨0, .one, [.int .i64 x.2.2.2.1]⟩), (4, ⟨0, .one, [.fn [t2, t2] (.int .i64) x.2.2.2.2.1]⟩), (10, ⟨0, .one, [.bool true]⟩), (11, ⟨0, .one, [.bool true]⟩)]
noncomputable def k_l0 (K : Nat) (x : Args ps) : Ex → St → Option Res := kAt (ev K) body [1, 1, 0] fin
noncomputable def N_l0 (K : Nat) (x : Args ps) : A_l0 → Option Res := fun a => evLoop live_l0 (ev K (sub body [1, 1, 0, 0])) K (S_l0 x a) (k_l0 K x)
end slices_pdqsortCmpFunc_impl_Fact
namespace math_bits_Len64
@[reducible] def ps : List PK := [.rd (.int .u64)]
@[reducible] def rs : List RK := [.v (.int .i64)]
abbrev Res := Ress rs × Outs ps
noncomputable def pre (K : Nat) (x : Args ps) : Option Res := bif decide (x.1 ≥ 4294967296) then (bif decide ((Int.fdiv x.1 (2 ^ 32)) ≥ 65536) then (bif decide ((Int.fdiv (Int.fdiv x.1 (2 ^ 32)) (2 ^ 16)) ≥ 256) then ((idx (ByteArray.mk #[0, 1, 2, 2, 3, 3, 3, 3, 4, 4, 4, 4, 4, 4, 4, 4, 5, 5, 5, 5, 5, 5, 5, 5, 5, 5, 5, 5, 5, 5, 5, 5, 6, 6, 6, 6, 6, 6, 6, 6, 6, 6, 6, 6, 6, 6, 6, 6, 6, 6, 6, 6, 6, 6, 6, 6, 6, 6, 6, 6, 6, 6, 6, 6, 7, 7, 7, 7, 7, 7, 7, 7, 7, 7, 7, 7, 7, 7, 7, 7, 7, 7, 7, 7, 7, 7, 7, 7, 7, 7, 7, 7, 7, 7, 7, 7, 7, 7, 7, 7, 7, 7, 7, 7, 7, 7, 7, 7, 7, 7, 7, 7, 7, 7, 7, 7, 7, 7, 7, 7, 7, 7, 7, 7, 7, 7, 7, 7, 8, 8, 8, 8, 8, 8, 8, 8, 8, 8, 8, 8, 8, 8, 8, 8, 8, 8, 8, 8, 8, 8, 8, 8, 8, 8, 8, 8, 8, 8, 8, 8, 8, 8, 8, 8, 8, 8, 8, 8, 8, 8, 8, 8, 8, 8, 8, 8, 8, 8, 8, 8, 8, 8, 8, 8, 8, 8, 8, 8, 8, 8, 8, 8, 8, 8, 8, 8, 8, 8, 8, 8, 8, 8, 8, 8, 8, 8, 8, 8, 8, 8, 8, 8, 8, 8, 8, 8, 8, 8, 8, 8, 8, 8, 8, 8, 8, 8, 8, 8, 8, 8, 8, 8, 8, 8, 8, 8, 8, 8, 8, 8, 8, 8, 8, 8, 8, 8, 8, 8, 8, 8, 8, 8, 8, 8, 8, 8]).data.toList (wr .u8 (Int.fdiv (Int.fdiv (Int.fdiv x.1 (2 ^ 32)) (2 ^ 16)) (2 ^ 8)))).bind fun y1 => some ((wr .i64 ((wr .i64 ((wr .i64 (32 + 16)) + 8)) + (wr .i64 (y1.toNat : Int))), ()), ())) else ((idx (ByteArray.mk #[0, 1, 2, 2, 3, 3, 3, 3, 4, 4, 4, 4, 4, 4, 4, 4, 5, 5, 5, 5, 5, 5, 5, 5, 5, 5, 5, 5, 5, 5, 5, 5, 6, 6, 6, 6, 6, 6, 6, 6, 6, 6, 6, 6, 6, 6, 6, 6, 6, 6, 6, 6, 6, 6, 6, 6, 6, 6, 6, 6, 6, 6, 6, 6, 7, 7, 7, 7, 7, 7, 7, 7, 7, 7, 7, 7, 7, 7, 7, 7, 7, 7, 7, 7, 7, 7, 7, 7, 7, 7, 7, 7, 7, 7, 7, 7, 7, 7, 7, 7, 7, 7, 7, 7, 7, 7, 7, 7, 7, 7, 7, 7, 7, 7, 7, 7, 7, 7, 7, 7, 7, 7, 7, 7, 7, 7, 7, 7, 8, 8, 8, 8, 8, 8, 8, 8, 8, 8, 8, 8, 8, 8, 8, 8, 8, 8, 8, 8, 8, 8, 8, 8, 8, 8, 8, 8, 8, 8, 8, 8, 8, 8, 8, 8, 8, 8, 8, 8, 8, 8, 8, 8, 8, 8, 8, 8, 8, 8, 8, 8, 8, 8, 8, 8, 8, 8, 8, 8, 8, 8, 8, 8, 8, 8, 8, 8, 8, 8, 8, 8, 8, 8, 8, 8, 8, 8, 8, 8, 8, 8, 8, 8, 8, 8, 8, 8, 8, 8, 8, 8, 8, 8, 8, 8, 8, 8, 8, 8, 8, 8, 8, 8, 8, 8, 8, 8, 8, 8, 8, 8, 8, 8, 8, 8, 8, 8, 8, 8, 8, 8, 8, 8, 8, 8, 8, 8]).data.toList (wr .u8 (Int.fdiv (Int.fdiv x.1 (2 ^ 32)) (2 ^ 16)))).bind fun y2 => some ((wr .i64 ((wr .i64 (32 + 16)) + (wr .i64 (y2.toNat : Int))), ()), ()))) else (bif decide ((Int.fdiv x.1 (2 ^ 32)) ≥ 256) then ((idx (ByteArray.mk #[0, 1, 2, 2, 3, 3, 3, 3, 4, 4, 4, 4, 4, 4, 4, 4, 5, 5, 5, 5, 5, 5, 5, 5, 5, 5, 5, 5, 5, 5, 5, 5, 6, 6, 6, 6, 6, 6, 6, 6, 6, 6, 6, 6, 6, 6, 6, 6, 6, 6, 6, 6, 6, 6, 6, 6, 6, 6, 6, 6, 6, 6, 6, 6, 7, 7, 7, 7, 7, 7, 7, 7, 7, 7, 7, 7, 7, 7, 7, 7, 7, 7, 7, 7, 7, 7, 7, 7, 7, 7, 7, 7, 7, 7, 7, 7, 7, 7, 7, 7, 7, 7, 7, 7, 7, 7, 7, 7, 7, 7, 7, 7, 7, 7, 7, 7, 7, 7, 7, 7, 7, 7, 7, 7, 7, 7, 7, 7, 8, 8, 8, 8, 8, 8, 8, 8, 8, 8, 8, 8, 8, 8, 8, 8, 8, 8, 8, 8, 8, 8, 8, 8, 8, 8, 8, 8, 8, 8, 8, 8, 8, 8, 8, 8, 8, 8, 8, 8, 8, 8, 8, 8, 8, 8, 8, 8, 8, 8, 8, 8, 8, 8, 8, 8, 8, 8, 8, 8, 8, 8, 8, 8, 8, 8, 8, 8, 8, 8, 8, 8, 8, 8, 8, 8, 8, 8, 8, 8, 8, 8, 8, 8, 8, 8, 8, 8, 8, 8, 8, 8, 8, 8, 8, 8, 8, 8, 8, 8, 8, 8, 8, 8, 8, 8, 8, 8, 8, 8, 8, 8, 8, 8, 8, 8, 8, 8, 8, 8, 8, 8, 8, 8, 8, 8, 8, 8]).data.toList (wr .u8 (Int.fdiv (Int.fdiv x.1 (2 ^ 32)) (2 ^ 8)))).bind fun y3 => some ((wr .i64 ((wr .i64 (32 + 8)) + (wr .i64 (y3.toNat : Int))), ()), ())) else ((idx (ByteArray.mk #[0, 1, 2, 2, 3, 3, 3, 3, 4, 4, 4, 4, 4, 4, 4, 4, 5, 5, 5, 5, 5, 5, 5, 5, 5, 5, 5, 5, 5, 5, 5, 5, 6, 6, 6, 6, 6, 6, 6, 6, 6, 6, 6, 6, 6, 6, 6, 6, 6, 6, 6, 6, 6, 6, 6, 6, 6, 6, 6, 6, 6, 6, 6, 6, 7, 7, 7, 7, 7, 7, 7, 7, 7, 7, 7, 7, 7, 7, 7, 7, 7, 7, 7, 7, 7, 7, 7, 7, 7, 7, 7, 7, 7, 7, 7, 7, 7, 7, 7, 7, 7, 7, 7, 7, 7, 7, 7, 7, 7, 7, 7, 7, 7, 7, 7, 7, 7, 7, 7, 7, 7, 7, 7, 7, 7, 7, 7, 7, 8, 8, 8, 8, 8, 8, 8, 8, 8, 8, 8, 8, 8, 8, 8, 8, 8, 8, 8, 8, 8, 8, 8, 8, 8, 8, 8, 8, 8, 8, 8, 8, 8, 8, 8, 8, 8, 8, 8, 8, 8, 8, 8, 8, 8, 8, 8, 8, 8, 8, 8, 8, 8, 8, 8, 8, 8, 8, 8, 8, 8, 8, 8, 8, 8, 8, 8, 8, 8, 8, 8, 8, 8, 8, 8, 8, 8, 8, 8, 8, 8, 8, 8, 8, 8, 8, 8, 8, 8, 8, 8, 8, 8, 8, 8, 8, 8, 8, 8, 8, 8, 8, 8, 8, 8, 8, 8, 8, 8, 8, 8, 8, 8, 8, 8, 8, 8, 8, 8, 8, 8, 8, 8, 8, 8, 8, 8, 8]).data.toList (wr .u8 (Int.fdiv x.1 (2 ^ 32)))).bind fun y4 => some ((wr .i64 (32 + (wr .i64 (y4.toNat : Int))), ()), ())))) else (bif decide (x.1 ≥ 65536) then (bif decide ((Int.fdiv x.1 (2 ^ 16)) ≥ 256) then ((idx (ByteArray.mk #[0, 1, 2, 2, 3, 3, 3, 3, 4, 4, 4, 4, 4, 4, 4, 4, 5, 5, 5, 5, 5, 5, 5, 5, 5, 5, 5, 5, 5, 5, 5, 5, 6, 6, 6, 6, 6, 6, 6, 6, 6, 6, 6, 6, 6, 6, 6, 6, 6, 6, 6, 6, 6, 6, 6, 6, 6, 6, 6, 6, 6, 6, 6, 6, 7, 7, 7, 7, 7, 7, 7, 7, 7, 7, 7, 7, 7, 7, 7, 7, 7, 7, 7, 7, 7, 7, 7, 7, 7, 7, 7, 7, 7, 7, 7, 7, 7, 7, 7, 7, 7, 7, 7, 7, 7, 7, 7, 7, 7, 7, 7, 7, 7, 7, 7, 7, 7, 7, 7, 7, 7, 7, 7, 7, 7, 7, 7, 7, 8, 8, 8, 8, 8, 8, 8, 8, 8, 8, 8, 8, 8, 8, 8, 8, 8, 8, 8, 8, 8, 8, 8, 8, 8, 8, 8, 8, 8, 8, 8, 8, 8, 8, 8, 8, 8, 8, 8, 8, 8, 8, 8, 8, 8, 8, 8, 8, 8, 8, 8, 8, 8, 8, 8, 8, 8, 8, 8, 8, 8, 8, 8, 8, 8, 8, 8, 8, 8, 8, 8, 8, 8, 8, 8, 8, 8, 8, 8, 8, 8, 8, 8, 8, 8, 8, 8, 8, 8, 8, 8, 8, 8, 8, 8, 8, 8, 8, 8, 8, 8, 8, 8, 8, 8, 8, 8, 8, 8, 8, 8, 8, 8, 8, 8, 8, 8, 8, 8, 8, 8, 8, 8, 8, 8, 8, 8, 8]).data.toList (wr .u8 (Int.fdiv (Int.fdiv x.1 (2 ^ 16)) (2 ^ 8)))).bind fun y5 => some ((wr .i64 ((wr .i64 ((wr .i64 (0 + 16)) + 8)) + (wr .i64 (y5.toNat : Int))), ()), ())) else ((idx (ByteArray.mk #[0, 1, 2, 2, 3, 3, 3, 3, 4, 4, 4, 4, 4, 4, 4, 4, 5, 5, 5, 5, 5, 5, 5, 5, 5, 5, 5, 5, 5, 5, 5, 5, 6, 6, 6, 6, 6, 6, 6, 6, 6, 6, 6, 6, 6, 6, 6, 6, 6, 6, 6, 6, 6, 6, 6, 6, 6, 6, 6, 6, 6, 6, 6, 6, 7, 7, 7, 7, 7, 7, 7, 7, 7, 7, 7, 7, 7, 7, 7, 7, 7, 7, 7, 7, 7, 7, 7, 7, 7, 7, 7, 7, 7, 7, 7, 7, 7, 7, 7, 7, 7, 7, 7, 7, 7, 7, 7, 7, 7, 7, 7, 7, 7, 7, 7, 7, 7, 7, 7, 7, 7, 7, 7, 7, 7, 7, 7, 7, 8, 8, 8, 8, 8, 8, 8, 8, 8, 8, 8, 8, 8, 8, 8, 8, 8, 8, 8, 8, 8, 8, 8, 8, 8, 8, 8, 8, 8, 8, 8, 8, 8, 8, 8, 8, 8, 8, 8, 8, 8, 8, 8, 8, 8, 8, 8, 8, 8, 8, 8, 8, 8, 8, 8, 8, 8, 8, 8, 8, 8, 8, 8, 8, 8, 8, 8, 8, 8, 8, 8, 8, 8, 8, 8, 8, 8, 8, 8, 8, 8, 8, 8, 8, 8, 8, 8, 8, 8, 8, 8, 8, 8, 8, 8, 8, 8, 8, 8, 8, 8, 8, 8, 8, 8, 8, 8, 8, 8, 8, 8, 8, 8, 8, 8, 8, 8, 8, 8, 8, 8, 8, 8, 8, 8, 8, 8, 8]).data.toList (wr .u8 (Int.fdiv x.1 (2 ^ 16)))).bind fun y6 => some ((wr .i64 ((wr .i64 (0 + 16)) + (wr .i64 (y6.toNat : Int))), ()), ()))) else (bif decide (x.1 ≥ 256) then ((idx (ByteArray.mk #[0, 1, 2, 2, 3, 3, 3, 3, 4, 4, 4, 4, 4, 4, 4, 4, 5, 5, 5, 5, 5, 5, 5, 5, 5, 5, 5, 5, 5, 5, 5, 5, 6, 6, 6, 6, 6, 6, 6, 6, 6, 6, 6, 6, 6, 6, 6, 6, 6, 6, 6, 6, 6, 6, 6, 6, 6, 6, 6, 6, 6, 6, 6, 6, 7, 7, 7, 7, 7, 7, 7, 7, 7, 7, 7, 7, 7, 7, 7, 7, 7, 7, 7, 7, 7, 7, 7, 7, 7, 7, 7, 7, 7, 7, 7, 7, 7, 7, 7, 7, 7, 7, 7, 7, 7, 7, 7, 7, 7, 7, 7, 7, 7, 7, 7, 7, 7, 7, 7, 7, 7, 7, 7, 7, 7, 7, 7, 7, 8, 8, 8, 8, 8, 8, 8, 8, 8, 8, 8, 8, 8, 8, 8, 8, 8, 8, 8, 8, 8, 8, 8, 8, 8, 8, 8, 8, 8, 8, 8, 8, 8, 8, 8, 8, 8, 8, 8, 8, 8, 8, 8, 8, 8, 8, 8, 8, 8, 8, 8, 8, 8, 8, 8, 8, 8, 8, 8, 8, 8, 8, 8, 8, 8, 8, 8, 8, 8, 8, 8, 8, 8, 8, 8, 8, 8, 8, 8, 8, 8, 8, 8, 8, 8, 8, 8, 8, 8, 8, 8, 8, 8, 8, 8, 8, 8, 8, 8, 8, 8, 8, 8, 8, 8, 8, 8, 8, 8, 8, 8, 8, 8, 8, 8, 8, 8, 8, 8, 8, 8, 8, 8, 8, 8, 8, 8, 8]).data.toList (wr .u8 (Int.fdiv x.1 (2 ^ 8)))).bind fun y7 => some ((wr .i64 ((wr .i64 (0 + 8)) + (wr .i64 (y7.toNat : Int))), ()), ())) else ((idx (ByteArray.mk #[0, 1, 2, 2, 3, 3, 3, 3, 4, 4, 4, 4, 4, 4, 4, 4, 5, 5, 5, 5, 5, 5, 5, 5, 5, 5, 5, 5, 5, 5, 5, 5, 6, 6, 6, 6, 6, 6, 6, 6, 6, 6, 6, 6, 6, 6, 6, 6, 6, 6, 6, 6, 6, 6, 6, 6, 6, 6, 6, 6, 6, 6, 6, 6, 7, 7, 7, 7, 7, 7, 7, 7, 7, 7, 7, 7, 7, 7, 7, 7, 7, 7, 7, 7, 7, 7, 7, 7, 7, 7, 7, 7, 7, 7, 7, 7, 7, 7, 7, 7, 7, 7, 7, 7, 7, 7, 7, 7, 7, 7, 7, 7, 7, 7, 7, 7, 7, 7, 7, 7, 7, 7, 7, 7, 7, 7, 7, 7, 8, 8, 8, 8, 8, 8, 8, 8, 8, 8, 8, 8, 8, 8, 8, 8, 8, 8, 8, 8, 8, 8, 8, 8, 8, 8, 8, 8, 8, 8, 8, 8, 8, 8, 8, 8, 8, 8, 8, 8, 8, 8, 8, 8, 8, 8, 8, 8, 8, 8, 8, 8, 8, 8, 8, 8, 8, 8, 8, 8, 8, 8, 8, 8, 8, 8, 8, 8, 8, 8, 8, 8, 8, 8, 8, 8, 8, 8, 8, 8, 8, 8, 8, 8, 8, 8, 8, 8, 8, 8, 8, 8, 8, 8, 8, 8, 8, 8, 8, 8, 8, 8, 8, 8, 8, 8, 8, 8, 8, 8, 8, 8, 8, 8, 8, 8, 8, 8, 8, 8, 8, 8, 8, 8, 8, 8, 8, 8]).data.toList (wr .u8 x.1)).bind fun y8 => some ((wr .i64 (0 + (wr .i64 (y8.toNat : Int))), ()), ()))))
noncomputable def f (K : Nat) (x : Args ps) : Option Res := pre K x
noncomputable def c (K : Nat) : Ctr := ⟨304, ps, rs, true, f K⟩
noncomputable def G (K : Nat) : List Ctr := []
noncomputable def L : List (Nat × List (Nat × List Coe)) := []
noncomputable def body : Code := bodyOf Tryz.f304
noncomputable abbrev ev (K : Nat) : Code → St → (Ex → St → Option Res) → Option Res := evK (G K) T_D L K
noncomputable abbrev fin : Ex → St → Option Res := finK T_D ps rs true Tryz.f304.results.toList
end math_bits_Len64
namespace math_bits_Len
@[reducible] def ps : List PK := [.rd (.int .u64)]
@[reducible] def rs : List RK := [.v (.int .i64)]
abbrev Res := Ress rs × Outs ps
noncomputable def pre (K : Nat) (x : Args ps) : Option Res := (math_bits_Len64.f K (x.1, ())).bind fun y1 => some ((y1.1.1, ()), ())
noncomputable def f (K : Nat) (x : Args ps) : Option Res := pre K x
noncomputable def c (K : Nat) : Ctr := ⟨247, ps, rs, true, f K⟩
noncomputable def G (K : Nat) : List Ctr := [math_bits_Len64.c K]
noncomputable def L : List (Nat × List (Nat × List Coe)) := []
noncomputable def body : Code := bodyOf Tryz.f247
noncomputable abbrev ev (K : Nat) : Code → St → (Ex → St → Option Res) → Option Res := evK (G K) T_D L K
noncomputable abbrev fin : Ex → St → Option Res := finK T_D ps rs true Tryz.f247.results.toList
end math_bits_Len
namespace slices_SortFunc_impl_Fact_impl_Fact
@[reducible] def ps : List PK := [.io (.list true 132 t2), .fn [t2, t2] (.int .i64)]
@[reducible] def rs : List RK := []
abbrev Res := Ress rs × Outs ps
noncomputable def pre (K : Nat) (x : Args ps) : Option Res := (math_bits_Len.f K (wr .u64 (List.length x.1 : Int), ())).bind fun y1 => (slices_pdqsortCmpFunc_impl_Fact.f K (x.1, 0, (List.length x.1 : Int), y1.1.1, x.2.1, ())).bind fun y2 => some ((), (y2.2.1, ()))
noncomputable def f (K : Nat) (x : Args ps) : Option Res := pre K x
noncomputable def c (K : Nat) : Ctr := ⟨202, ps, rs, true, f K⟩
noncomputable def G (K : Nat) : List Ctr := [slices_pdqsortCmpFunc_impl_Fact.c K, math_bits_Len.c K]
noncomputable def L : List (Nat × List (Nat × List Coe)) := []
noncomputable def body : Code := bodyOf Tryz.f202
noncomputable abbrev ev (K : Nat) : Code → St → (Ex → St → Option Res) → Option Res := evK (G K) T_S L K
noncomputable abbrev fin : Ex → St → Option Res := finK T_S ps rs true Tryz.f202.results.toList
end slices_SortFunc_impl_Fact_impl_Fact
namespace slices_Clip_impl_Fact_impl_Fact
@[reducible] def ps : List PK := [.own (.list true 132 t2)]
@[reducible] def rs : List RK := [.v (.list true 132 t2)]
abbrev Res := Ress rs × Outs ps
noncomputable def pre (K : Nat) (x : Args ps) : Option Res := bif true && decide ((List.length x.1 : Int) = (List.length x.1 : Int)) && decide ((List.length x.1 : Int) = (List.length x.1 : Int)) && true then (some ((x.1, ()), ())) else none
noncomputable def f (K : Nat) (x : Args ps) : Option Res := pre K x
noncomputable def c (K : Nat) : Ctr := ⟨203, ps, rs, true, f K⟩
noncomputable def G (K : Nat) : List Ctr := []
noncomputable def L : List (Nat × List (Nat × List Coe)) := []
noncomputable def body : Code := bodyOf Tryz.f203
noncomputable abbrev ev (K : Nat) : Code → St → (Ex → St → Option Res) → Option Res := evK (G K) T_D L K
noncomputable abbrev fin : Ex → St → Option Res := finK T_D ps rs true Tryz.f203.results.toList
end slices_Clip_impl_Fact_impl_Fact
namespace impl_Node_view
@[reducible] def ps : List PK := [.rd t69]
@[reducible] def rs : List RK := [.v (.list true 132 t2)]
abbrev Res := Ress rs × Outs ps
abbrev A_l0 := List (Ty.den t2) × Int
noncomputable def l0.step (K : Nat) (x : Args ps) (rec_l0 : A_l0 → Option Res) (a : A_l0) : Option Res := bif decide (a.2 < (List.length x.1.2.2.2.2.2.2.2.2.2.2.2.2.2.2 : Int)) then ((idx x.1.2.2.2.2.2.2.2.2.2.2.2.2.2.2 a.2).bind fun y2 => bif decide ((List.length a.1 + List.length y2.2) * 32 ≤ sizeK) then (rec_l0 (a.1 ++ y2.2, wr .i64 (a.2 + 1))) else none) else ((slices_SortFunc_impl_Fact_impl_Fact.f K (a.1, fun y3 => (impl_Fact_compare.f K (y3.1, y3.2.1, ())).map fun y => y.1.1, ())).bind fun y4 => (slices_Clip_impl_Fact_impl_Fact.f K (y4.2.1, ())).bind fun y5 => some ((y5.1.1, ()), ()))
noncomputable def l0 (K : Nat) (x : Args ps) : A_l0 → Option Res := iterate (fun rec_l0 a => l0.step K x rec_l0 a) K
noncomputable def pre (K : Nat) (N_l0 : A_l0 → Option Res) (x : Args ps) : Option Res := (m_slices_Clone_impl_Fact_impl_Fact.f K (x.1.2.2.2.2.2.2.2.2.1, ())).bind fun y1 => N_l0 (y1.1.1, 0)
noncomputable def f (K : Nat) (x : Args ps) : Option Res := pre K (l0 K x) x
noncomputable def c (K : Nat) : Ctr := ⟨135, ps, rs, true, f K⟩
noncomputable def G (K : Nat) : List Ctr := [impl_Fact_compare.c K, m_slices_Clone_impl_Fact_impl_Fact.c K, slices_SortFunc_impl_Fact_impl_Fact.c K, slices_Clip_impl_Fact_impl_Fact.c K]
noncomputable def live_l0 : List (Nat × List Coe) := [(3, [.own false 132 t2]), (10, [.ro true 119 t55]), (11, [.keep]), (12, [.keep])]
noncomputable def L : List (Nat × List (Nat × List Coe)) := [(4, live_l0)]
noncomputable def body : Code := bodyOf Tryz.f135
noncomputable abbrev ev (K : Nat) : Code → St → (Ex → St → Option Res) → Option Res := evK (G K) T_D L K
noncomputable abbrev fin : Ex → St → Option Res := finK T_D ps rs true Tryz.f135.results.toList
noncomputable def S_l0 (x : Args ps) (a : A_l0) : St := mkSt [(3, ⟨0, .one, [.own false none 132 t2 a.1]⟩), (10, ⟨0, .one, [.ro true 119 t55 x.1.2.2.2.2.2.2.2.2.2.2.2.2.2.2]⟩), (11, ⟨0, .one, [.int .i64 (List.length x.1.2.2.2.2.2.2.2.2.2.2.2.2.2.2 : Int)]⟩), (12, ⟨0, .one, [.int .i64 a.2]⟩)]
noncomputable def k_l0 (K : Nat) (x : Args ps) : Ex → St → Option Res := kAt (ev K) body [1, 1, 0, 1, 0] fin
noncomputable def N_l0 (K : Nat) (x : Args ps) : A_l0 → Option Res := fun a => evLoop live_l0 (ev K (sub body [1, 1, 0, 1, 0, 0])) K (S_l0 x a) (k_l0 K x)
end impl_Node_view
namespace impl_nodes
@[reducible] def ps : List PK := [.rd (.list false 132 t2), .fn [t2] .bool]
@[reducible] def rs : List RK := [.v (.list true 3 (.int .i64))]
abbrev Res := Ress rs × Outs ps
abbrev A_l0 := List (Ty.den (.int .i64)) × Int
noncomputable def l0.step (K : Nat) (x : Args ps) (rec_l0 : A_l0 → Option Res) (a : A_l0) : Option Res := bif decide (a.2 < (List.length x.1 : Int)) then ((idx x.1 a.2).bind fun y1 => (x.2.1 (y1, ())).bind fun y2 => bif y2 then (bif decide ((List.length a.1 + List.length ([y1.1])) * 8 ≤ sizeK) then (rec_l0 (a.1 ++ ([y1.1]), wr .i64 (a.2 + 1))) else none) else (rec_l0 (a.1, wr .i64 (a.2 + 1)))) else (some ((a.1, ()), ()))
noncomputable def l0 (K : Nat) (x : Args ps) : A_l0 → Option Res := iterate (fun rec_l0 a => l0.step K x rec_l0 a) K
noncomputable def pre (K : Nat) (N_l0 : A_l0 → Option Res) (x : Args ps) : Option Res := N_l0 ([], 0)
noncomputable def f (K : Nat) (x : Args ps) : Option Res := pre K (l0 K x) x
noncomputable def c (K : Nat) : Ctr := ⟨184, ps, rs, true, f K⟩
noncomputable def G (K : Nat) : List Ctr := []
noncomputable def live_l0 : List (Nat × List Coe) := [(1, [.keep]), (5, [.own false 3 (.int .i64)]), (8, [.ro true 132 t2]), (9, [.keep]), (10, [.keep])]
noncomputable def L : List (Nat × List (Nat × List Coe)) := [(4, live_l0)]
noncomputable def body : Code := bodyOf Tryz.f184
noncomputable abbrev ev (K : Nat) : Code → St → (Ex → St → Option Res) → Option Res := evK (G K) T_D L K
noncomputable abbrev fin : Ex → St → Option Res := finK T_D ps rs true Tryz.f184.results.toList
noncomputable def S_l0 (x : Args ps) (a : A_l0) : St := mkSt [(1, ⟨0, .one, [.fn [t2] .bool x.2.1]⟩), (5, ⟨0, .one, [.own false none 3 (.int .i64) a.1]⟩), (8, ⟨0, .one, [.ro true 132 t2 x.1]⟩), (9, ⟨0, .one, [.int .i64 (List.length x.1 : Int)]⟩), (10, ⟨0, .one, [.int .i64 a.2]⟩)]
noncomputable def k_l0 (K : Nat) (x : Args ps) : Ex → St → Option Res := kAt (ev K) body [1, 1, 0, 1, 0] fin
noncomputable def N_l0 (K : Nat) (x : Args ps) : A_l0 → Option Res := fun a => evLoop live_l0 (ev K (sub body [1, 1, 0, 1, 0, 0])) K (S_l0 x a) (k_l0 K x)
end impl_nodes
namespace impl_World_same_1
@[reducible] def ps : List PK := [.rd t2]
@[reducible] def rs : List RK := [.v .bool]
abbrev Res := Ress rs × Outs ps
noncomputable def pre (K : Nat) (x : Args ps) : Option Res := some ((x.1.2.2.1 == 1, ()), ())
noncomputable def f (K : Nat) (x : Args ps) : Option Res := pre K x
noncomputable def c (K : Nat) : Ctr := ⟨207, ps, rs, true, f K⟩
noncomputable def G (K : Nat) : List Ctr := []
noncomputable def L : List (Nat × List (Nat × List Coe)) := []
noncomputable def body : Code := bodyOf Tryz.f207
noncomputable abbrev ev (K : Nat) : Code → St → (Ex → St → Option Res) → Option Res := evK (G K) T_D L K
noncomputable abbrev fin : Ex → St → Option Res := finK T_D ps rs true Tryz.f207.results.toList
end impl_World_same_1
namespace slices_Equal_int_int
@[reducible] def ps : List PK := [.rd (.list false 3 (.int .i64)), .rd (.list false 3 (.int .i64))]
@[reducible] def rs : List RK := [.v .bool]
abbrev Res := Ress rs × Outs ps
abbrev A_l0 := Int
noncomputable def l0.step (K : Nat) (x : Args ps) (rec_l0 : A_l0 → Option Res) (a : A_l0) : Option Res := bif decide (a < (List.length x.1 : Int)) then ((idx x.1 a).bind fun y1 => (idx x.2.1 a).bind fun y2 => bif y1 != y2 then (some ((false, ()), ())) else (rec_l0 (wr .i64 (a + 1)))) else (some ((true, ()), ()))
noncomputable def l0 (K : Nat) (x : Args ps) : A_l0 → Option Res := iterate (fun rec_l0 a => l0.step K x rec_l0 a) K
noncomputable def pre (K : Nat) (N_l0 : A_l0 → Option Res) (x : Args ps) : Option Res := bif (List.length x.1 : Int) != (List.length x.2.1 : Int) then (some ((false, ()), ())) else (N_l0 0)
noncomputable def f (K : Nat) (x : Args ps) : Option Res := pre K (l0 K x) x
noncomputable def c (K : Nat) : Ctr := ⟨208, ps, rs, true, f K⟩
noncomputable def G (K : Nat) : List Ctr := []
noncomputable def live_l0 : List (Nat × List Coe) := [(0, [.ro true 3 (.int .i64)]), (1, [.ro true 3 (.int .i64)]), (12, [.keep]), (13, [.keep])]
noncomputable def L : List (Nat × List (Nat × List Coe)) := [(5, live_l0)]
noncomputable def body : Code := bodyOf Tryz.f208
noncomputable abbrev ev (K : Nat) : Code → St → (Ex → St → Option Res) → Option Res := evK (G K) T_D L K
noncomputable abbrev fin : Ex → St → Option Res := finK T_D ps rs true Tryz.f208.results.toList
noncomputable def S_l0 (x : Args ps) (a : A_l0) : St := mkSt [(0, ⟨0, .one, [.ro true 3 (.int .i64) x.1]⟩), (1, ⟨0, .one, [.ro true 3 (.int .i64) x.2.1]⟩), (12, ⟨0, .one, [.int .i64 (List.length x.1 : Int)]⟩), (13, ⟨0, .one, [.int .i64 a]⟩)]
noncomputable def k_l0 (K : Nat) (x : Args ps) : Ex → St → Option Res := kAt (ev K) body [1, 1, 0, 1, 0] fin
noncomputable def N_l0 (K : Nat) (x : Args ps) : A_l0 → Option Res := fun a => evLoop live_l0 (ev K (sub body [1, 1, 0, 1, 0, 0])) K (S_l0 x a) (k_l0 K x)
end slices_Equal_int_int
namespace slices_Equal_impl_Fact_impl_Fact
@[reducible] def ps : List PK := [.rd (.list false 132 t2), .rd (.list false 132 t2)]
@[reducible] def rs : List RK := [.v .bool]
abbrev Res := Ress rs × Outs ps
abbrev A_l0 := Int
noncomputable def l0.step (K : Nat) (x : Args ps) (rec_l0 : A_l0 → Option Res) (a : A_l0) : Option Res := bif decide (a < (List.length x.1 : Int)) then ((idx x.1 a).bind fun y1 => (idx x.2.1 a).bind fun y2 => bif !Ty.eqv t2 y1 y2 then (some ((false, ()), ())) else (rec_l0 (wr .i64 (a + 1)))) else (some ((true, ()), ()))
noncomputable def l0 (K : Nat) (x : Args ps) : A_l0 → Option Res := iterate (fun rec_l0 a => l0.step K x rec_l0 a) K
noncomputable def pre (K : Nat) (N_l0 : A_l0 → Option Res) (x : Args ps) : Option Res := bif (List.length x.1 : Int) != (List.length x.2.1 : Int) then (some ((false, ()), ())) else (N_l0 0)
noncomputable def f (K : Nat) (x : Args ps) : Option Res := pre K (l0 K x) x
noncomputable def c (K : Nat) : Ctr := ⟨209, ps, rs, true, f K⟩
noncomputable def G (K : Nat) : List Ctr := []
noncomputable def live_l0 : List (Nat × List Coe) := [(0, [.ro true 132 t2]), (1, [.ro true 132 t2]), (12, [.keep]), (13, [.keep])]
noncomputable def L : List (Nat × List (Nat × List Coe)) := [(5, live_l0)]
noncomputable def body : Code := bodyOf Tryz.f209
noncomputable abbrev ev (K : Nat) : Code → St → (Ex → St → Option Res) → Option Res := evK (G K) T_D L K
noncomputable abbrev fin : Ex → St → Option Res := finK T_D ps rs true Tryz.f209.results.toList
noncomputable def S_l0 (x : Args ps) (a : A_l0) : St := mkSt [(0, ⟨0, .one, [.ro true 132 t2 x.1]⟩), (1, ⟨0, .one, [.ro true 132 t2 x.2.1]⟩), (12, ⟨0, .one, [.int .i64 (List.length x.1 : Int)]⟩), (13, ⟨0, .one, [.int .i64 a]⟩)]
noncomputable def k_l0 (K : Nat) (x : Args ps) : Ex → St → Option Res := kAt (ev K) body [1, 1, 0, 1, 0] fin
noncomputable def N_l0 (K : Nat) (x : Args ps) : A_l0 → Option Res := fun a => evLoop live_l0 (ev K (sub body [1, 1, 0, 1, 0, 0])) K (S_l0 x a) (k_l0 K x)
end slices_Equal_impl_Fact_impl_Fact
namespace impl_World_same
@[reducible] def ps : List PK := [.rd t72]
@[reducible] def rs : List RK := [.v .bool]
abbrev Res := Ress rs × Outs ps
abbrev A_l1 := List (Ty.den (.int .i64)) × Int × Int
abbrev A_l0 := List (Ty.den (.int .i64)) × Int
noncomputable def l1.step (K : Nat) (x : Args ps) (rec_l1 : A_l1 → Option Res) (a : A_l1) : Option Res := bif decide (a.2.2 < a.2.1) then ((idx a.1 a.2.2).bind fun _ => (idx a.1 (Int.toNat a.2.2 : Nat)).bind fun y4 => (idx x.1.1 y4).bind fun y5 => (impl_Node_view.f K (y5, ())).bind fun y6 => (impl_nodes.f K (y6.1.1, fun y7 => (impl_World_same_1.f K (y7.1, ())).map fun y => y.1.1, ())).bind fun y8 => (slices_Equal_int_int.f K (y8.1.1, a.1, ())).bind fun y9 => bif !y9.1.1 then (some ((false, ()), ())) else ((idx a.1 0).bind fun _ => (idx a.1 (Int.toNat 0 : Nat)).bind fun y11 => (idx x.1.1 y11).bind fun y12 => (impl_Node_view.f K (y12, ())).bind fun y13 => (slices_Equal_impl_Fact_impl_Fact.f K (y6.1.1, y13.1.1, ())).bind fun y14 => bif !y14.1.1 then (some ((false, ()), ())) else (rec_l1 (a.1, a.2.1, wr .i64 (a.2.2 + 1))))) else (some ((true, ()), ()))
noncomputable def l1 (K : Nat) (x : Args ps) : A_l1 → Option Res := iterate (fun rec_l1 a => l1.step K x rec_l1 a) K
noncomputable def l0.step (K : Nat) (x : Args ps) (N_l1 : A_l1 → Option Res) (rec_l0 : A_l0 → Option Res) (a : A_l0) : Option Res := bif decide (a.2 < (List.length x.1.1 : Int)) then ((idx x.1.1 a.2).bind fun y1 => (impl_Node_active.f K (y1, ())).bind fun y2 => bif y2.1.1 then (bif decide ((List.length a.1 + List.length ([a.2])) * 8 ≤ sizeK) then (rec_l0 (a.1 ++ ([a.2]), wr .i64 (a.2 + 1))) else none) else (rec_l0 (a.1, wr .i64 (a.2 + 1)))) else (N_l1 (a.1, (List.length a.1 : Int), 0))
noncomputable def l0 (K : Nat) (x : Args ps) : A_l0 → Option Res := iterate (fun rec_l0 a => l0.step K x (l1 K x) rec_l0 a) K
noncomputable def pre (K : Nat) (N_l0 : A_l0 → Option Res) (x : Args ps) : Option Res := N_l0 ([], 0)
noncomputable def f (K : Nat) (x : Args ps) : Option Res := pre K (l0 K x) x
noncomputable def c (K : Nat) : Ctr := ⟨143, ps, rs, true, f K⟩
noncomputable def G (K : Nat) : List Ctr := [impl_Node_active.c K, impl_Node_view.c K, impl_nodes.c K, impl_World_same_1.c K, slices_Equal_int_int.c K, slices_Equal_impl_Fact_impl_Fact.c K]
noncomputable def live_l1 : List (Nat × List Coe) := [(1, [.keep]), (3, [.own false 3 (.int .i64)]), (25, [.keep]), (26, [.keep]), (27, [.keep]), (100001, [.ro true 44 t69, .ro true 129 t28, .ro true 3 (.int .i64), .ro true 132 t2])]
noncomputable def live_l0 : List (Nat × List Coe) := [(1, [.keep]), (3, [.own false 3 (.int .i64)]), (11, [.ro true 44 t69]), (12, [.keep]), (13, [.keep]), (100001, [.ro true 44 t69, .ro true 129 t28, .ro true 3 (.int .i64), .ro true 132 t2])]
noncomputable def L : List (Nat × List (Nat × List Coe)) := [(10, live_l1), (4, live_l0)]
noncomputable def body : Code := bodyOf Tryz.f143
noncomputable abbrev ev (K : Nat) : Code → St → (Ex → St → Option Res) → Option Res := evK (G K) T_D L K
noncomputable abbrev fin : Ex → St → Option Res := finK T_D ps rs true Tryz.f143.results.toList
noncomputable def S_l0 (x : Args ps) (a : A_l0) : St := mkSt [(1, ⟨0, .one, [.bp 100001 0]⟩), (3, ⟨0, .one, [.own false none 3 (.int .i64) a.1]⟩), (11, ⟨0, .one, [.ro true 44 t69 x.1.1]⟩), (12, ⟨0, .one, [.int .i64 (List.length x.1.1 : Int)]⟩), (13, ⟨0, .one, [.int .i64 a.2]⟩), (100001, ⟨0, .agg, [.ro true 44 t69 x.1.1, .ro true 129 t28 x.1.2.1, .ro true 3 (.int .i64) x.1.2.2.1, .ro true 132 t2 x.1.2.2.2]⟩)]
noncomputable def S_l1 (x : Args ps) (a : A_l1) : St := mkSt [(1, ⟨0, .one, [.bp 100001 0]⟩), (3, ⟨0, .one, [.own false none 3 (.int .i64) a.1]⟩), (25, ⟨0, .one, [.al 3 0 0]⟩), (26, ⟨0, .one, [.int .i64 a.2.1]⟩), (27, ⟨0, .one, [.int .i64 a.2.2]⟩), (100001, ⟨0, .agg, [.ro true 44 t69 x.1.1, .ro true 129 t28 x.1.2.1, .ro true 3 (.int .i64) x.1.2.2.1, .ro true 132 t2 x.1.2.2.2]⟩)]
noncomputable def k_l0 (K : Nat) (x : Args ps) : Ex → St → Option Res := kAt (ev K) body [1, 1, 0, 1, 0] fin
noncomputable def N_l0 (K : Nat) (x : Args ps) : A_l0 → Option Res := fun a => evLoop live_l0 (ev K (sub body [1, 1, 0, 1, 0, 0])) K (S_l0 x a) (k_l0 K x)
noncomputable def k_l1 (K : Nat) (x : Args ps) : Ex → St → Option Res := kAt (ev K) body [1, 1, 1, 0, 1, 0] fin
noncomputable def N_l1 (K : Nat) (x : Args ps) : A_l1 → Option Res := fun a => evLoop live_l1 (ev K (sub body [1, 1, 1, 0, 1, 0, 0])) K (S_l1 x a) (k_l1 K x)
end impl_World_same
namespace impl_WorldSame
@[reducible] def ps : List PK := [.rd t72]
@[reducible] def rs : List RK := [.v .bool]
abbrev Res := Ress rs × Outs ps
noncomputable def pre (K : Nat) (x : Args ps) : Option Res := (impl_WorldOk.f K (x.1, ())).bind fun y1 => bif y1.1.1 then ((impl_World_same.f K (x.1, ())).bind fun y2 => some ((y2.1.1, ()), ())) else (some ((false, ()), ()))
noncomputable def f (K : Nat) (x : Args ps) : Option Res := pre K x
noncomputable def c (K : Nat) : Ctr := ⟨52, ps, rs, true, f K⟩
noncomputable def G (K : Nat) : List Ctr := [impl_WorldOk.c K, impl_World_same.c K]
noncomputable def L : List (Nat × List (Nat × List Coe)) := []
noncomputable def body : Code := bodyOf Tryz.f52
noncomputable abbrev ev (K : Nat) : Code → St → (Ex → St → Option Res) → Option Res := evK (G K) T_D L K
noncomputable abbrev fin : Ex → St → Option Res := finK T_D ps rs true Tryz.f52.results.toList
end impl_WorldSame
namespace laws_FnExactWorldSame
@[reducible] def ps : List PK := [.rd t51]
@[reducible] def rs : List RK := [.v .bool]
abbrev Res := Ress rs × Outs ps
noncomputable def pre (K : Nat) (x : Args ps) : Option Res := (laws_szWorld.f K (x.1, 1048576, ())).bind fun y1 => bif decide (y1.1.1 < 0) then (some ((true, ()), ())) else ((laws_toWorld.f K (x.1, ())).bind fun y2 => (spec_WorldSame.f K (y2.1.1, ())).bind fun y3 => (laws_toWorld.f K (x.1, ())).bind fun y4 => (impl_WorldSame.f K (y4.1.1, ())).bind fun y5 => bif y5.1.1 != y3.1.1 then (some ((false, ()), ())) else ((laws_toWorld.f K (x.1, ())).bind fun y6 => (laws_eqWorld.f K (y4.1.1, y6.1.1, ())).bind fun y7 => bif !y7.1.1 then (some ((false, ()), ())) else (some ((true, ()), ()))))
noncomputable def f (K : Nat) (x : Args ps) : Option Res := pre K x
noncomputable def c (K : Nat) : Ctr := ⟨11, ps, rs, true, f K⟩
noncomputable def G (K : Nat) : List Ctr := [laws_szWorld.c K, laws_toWorld.c K, laws_eqWorld.c K, spec_WorldSame.c K, impl_WorldSame.c K]
noncomputable def L : List (Nat × List (Nat × List Coe)) := []
noncomputable def body : Code := bodyOf Tryz.f11
noncomputable abbrev ev (K : Nat) : Code → St → (Ex → St → Option Res) → Option Res := evK (G K) T_D L K
noncomputable abbrev fin : Ex → St → Option Res := finK T_D ps rs true Tryz.f11.results.toList
end laws_FnExactWorldSame
end
end Go.Proofs.YthgnfidnmnkeaaaGreatEv
