/- The functions, on plain values. Printed by run3.py. -/
import Derived.Test.YtaelpfghkndliaaGreatProg
import Derived.Test.YtaelpfghkndliaaGreatE0
set_option linter.unusedVariables false
set_option maxRecDepth 100000
set_option linter.unusedVariables false
set_option linter.unusedSimpArgs false
open Int renaming toNat->BB,tdiv->BC,fdiv->BD
open List renaming length->BA
namespace Go.Proofs.YtaelpfghkndliaaGreatEv
open Go Go.Proofs
noncomputable section
variable (K:Nat)
abbrev I6:Ty:=.int .i64
abbrev t0:Ty:=.pair I6 .bool
abbrev t1:Ty:=.pair I6 t0
abbrev t2:Ty:=.pair I6 t1
abbrev t3:Ty:=.pair t2 I6
abbrev t4:Ty:=.pair I6 (.list false 3 I6)
abbrev t5:Ty:=.pair I6 t4
abbrev t6:Ty:=.pair I6 t5
abbrev t7:Ty:=.pair I6 I6
abbrev t8:Ty:=.pair I6 t7
abbrev t9:Ty:=.pair I6 t8
abbrev t10:Ty:=.pair t9 (.list false 3 I6)
abbrev t11:Ty:=.pair I6 t10
abbrev t12:Ty:=.pair I6 (.list false 68 t2)
abbrev t13:Ty:=.pair (.list false 115 t11) (.list false 117 t12)
abbrev t14:Ty:=.pair t9 t13
abbrev t15:Ty:=.pair (.list false 112 t6) t14
abbrev t16:Ty:=.pair t2 t15
abbrev t17:Ty:=.pair (.list false 143 t3) t16
abbrev t18:Ty:=.pair (.list false 68 t2) t17
abbrev t19:Ty:=.pair I6 t18
abbrev t20:Ty:=.pair I6 t19
abbrev t21:Ty:=.pair I6 t20
abbrev t22:Ty:=.pair I6 t21
abbrev t23:Ty:=.pair .bool t22
abbrev t24:Ty:=.pair .bool t23
abbrev t25:Ty:=.pair .bool t24
abbrev t26:Ty:=.pair I6 t25
abbrev t27:Ty:=.pair (.list true 112 t6) t14
abbrev t28:Ty:=.pair t2 t27
abbrev t29:Ty:=.pair (.list false 143 t3) t28
abbrev t30:Ty:=.pair (.list false 68 t2) t29
abbrev t31:Ty:=.pair I6 t30
abbrev t32:Ty:=.pair I6 t31
abbrev t33:Ty:=.pair I6 t32
abbrev t34:Ty:=.pair I6 t33
abbrev t35:Ty:=.pair .bool t34
abbrev t36:Ty:=.pair .bool t35
abbrev t37:Ty:=.pair .bool t36
abbrev t38:Ty:=.pair I6 t37
abbrev t39:Ty:=.pair .str .bool
abbrev t40:Ty:=.pair I6 t39
abbrev t41:Ty:=.pair t9 (.list false 68 t2)
abbrev t42:Ty:=.pair I6 t41
abbrev t43:Ty:=.pair I6 t42
abbrev t44:Ty:=.pair I6 t43
abbrev t45:Ty:=.pair I6 t44
abbrev t46:Ty:=.pair I6 t45
abbrev t47:Ty:=.pair I6 t46
abbrev t48:Ty:=.pair I6 (.list true 3 I6)
abbrev t49:Ty:=.pair I6 t48
abbrev t50:Ty:=.pair I6 t49
abbrev t51:Ty:=.pair t9 (.list true 3 I6)
abbrev t52:Ty:=.pair I6 t51
abbrev t53:Ty:=.pair (.list true 115 t11) (.list true 117 t12)
abbrev t54:Ty:=.pair t9 t53
abbrev t55:Ty:=.pair (.list true 112 t6) t54
abbrev t56:Ty:=.pair t2 t55
abbrev t57:Ty:=.pair (.list true 143 t3) t56
abbrev t58:Ty:=.pair (.list true 68 t2) t57
abbrev t59:Ty:=.pair I6 t58
abbrev t60:Ty:=.pair I6 t59
abbrev t61:Ty:=.pair I6 t60
abbrev t62:Ty:=.pair I6 t61
abbrev t63:Ty:=.pair .bool t62
abbrev t64:Ty:=.pair .bool t63
abbrev t65:Ty:=.pair .bool t64
abbrev t66:Ty:=.pair I6 t65
abbrev t67:Ty:=.pair (.list true 115 t52) (.list true 117 t12)
abbrev t68:Ty:=.pair t9 t67
abbrev t69:Ty:=.pair (.list true 112 t50) t68
abbrev t70:Ty:=.pair t2 t69
abbrev t71:Ty:=.pair (.list true 143 t3) t70
abbrev t72:Ty:=.pair (.list true 68 t2) t71
abbrev t73:Ty:=.pair I6 t72
abbrev t74:Ty:=.pair I6 t73
abbrev t75:Ty:=.pair I6 t74
abbrev t76:Ty:=.pair I6 t75
abbrev t77:Ty:=.pair .bool t76
abbrev t78:Ty:=.pair .bool t77
abbrev t79:Ty:=.pair .bool t78
abbrev t80:Ty:=.pair I6 t79
abbrev t81:Ty:=.pair t9 (.list true 68 t2)
abbrev t82:Ty:=.pair I6 t81
abbrev t83:Ty:=.pair I6 t82
abbrev t84:Ty:=.pair I6 t83
abbrev t85:Ty:=.pair I6 t84
abbrev t86:Ty:=.pair I6 t85
abbrev t87:Ty:=.pair I6 t86
abbrev t88:Ty:=.pair (.list false 5 (.int .u8)) I6
abbrev t89:Ty:=.pair (.list false 3 I6) (.list false 68 t2)
abbrev t90:Ty:=.pair (.list false 173 t40) t89
abbrev t91:Ty:=.pair (.list false 45 t26) t90
abbrev t92:Ty:=.pair (.list true 3 I6) (.list false 68 t2)
abbrev t93:Ty:=.pair (.list true 173 t40) t92
abbrev t94:Ty:=.pair (.list true 45 t38) t93
abbrev t95:Ty:=.pair (.list true 45 t26) t93
abbrev ty_impl_Coord_D:Ty:=t9
abbrev ty_impl_Fact_D:Ty:=t2
def Tl_D:List (TypeId×TI):=[(46,.slice 51 t87 104)]
def T_D (t:TypeId):TI:=fW Tl_D t
def Tl_ND:List (TypeId×TI):=[(3,.int .i64),(37,.slice 68 t2 32),(38,.slice 143 t3 40),(40,.slice 112 t6 48),(42,.slice 115 t11 64),(43,.slice 117 t12 32),(45,.struct t66 [(0,1,false),(1,1,false),(2,1,false),(3,1,false),(4,1,false),(5,1,false),(6,1,false),(7,1,false),(8,1,false),(9,1,false),(10,4,true),(14,1,false),(15,4,true),(19,1,false),(20,1,false)]),(104,.slice 3 I6 8),(112,.struct t6 [(0,1,false),(1,1,false),(2,1,false),(3,1,false)]),(115,.struct t11 [(0,1,false),(1,4,true),(5,1,false)]),(117,.struct t12 [(0,1,false),(1,1,false)])]
def T_ND (t:TypeId):TI:=fW Tl_ND t
def Tl_NL:List (TypeId×TI):=[(3,.int .i64),(4,.bool),(5,.int .u8),(9,.str),(37,.slice 68 t2 32),(38,.slice 143 t3 40),(39,.struct t2 [(0,1,false),(1,1,false),(2,1,false),(3,1,false)]),(40,.slice 112 t50 48),(41,.struct t9 [(0,1,false),(1,1,false),(2,1,false),(3,1,false)]),(42,.slice 115 t52 64),(43,.slice 117 t12 32),(45,.struct t80 [(0,1,false),(1,1,false),(2,1,false),(3,1,false),(4,1,false),(5,1,false),(6,1,false),(7,1,false),(8,1,false),(9,1,false),(10,4,true),(14,1,false),(15,4,true),(19,1,false),(20,1,false)]),(46,.slice 51 t87 104),(51,.struct t87 [(0,1,false),(1,1,false),(2,1,false),(3,1,false),(4,1,false),(5,1,false),(6,4,true),(10,1,false)]),(60,.slice 5 (.int .u8) 1),(68,.struct t2 [(0,1,false),(1,1,false),(2,1,false),(3,1,false)]),(86,.ptr),(88,.fn),(104,.slice 3 I6 8),(112,.struct t50 [(0,1,false),(1,1,false),(2,1,false),(3,1,false)]),(115,.struct t52 [(0,1,false),(1,4,true),(5,1,false)]),(117,.struct t12 [(0,1,false),(1,1,false)]),(120,.fn),(143,.struct t3 [(0,4,true),(4,1,false)]),(176,.fn),(180,.fn),(181,.fn),(195,.fn),(226,.fn),(230,.int .u64),(239,.fn),(241,.fn),(305,.int .u32),(307,.int .u64),(317,.ptr)]
def T_NL (t:TypeId):TI:=fW Tl_NL t
def Tl_NS:List (TypeId×TI):=[(3,.int .i64),(4,.bool),(5,.int .u8),(9,.str),(37,.slice 68 t2 32),(38,.slice 143 t3 40),(39,.struct t2 [(0,1,false),(1,1,false),(2,1,false),(3,1,false)]),(40,.slice 112 t6 48),(41,.struct t9 [(0,1,false),(1,1,false),(2,1,false),(3,1,false)]),(42,.slice 115 t11 64),(43,.slice 117 t12 32),(45,.struct t38 [(0,1,false),(1,1,false),(2,1,false),(3,1,false),(4,1,false),(5,1,false),(6,1,false),(7,1,false),(8,1,false),(9,1,false),(10,4,true),(14,1,false),(15,4,true),(19,1,false),(20,1,false)]),(46,.slice 51 t47 104),(51,.struct t47 [(0,1,false),(1,1,false),(2,1,false),(3,1,false),(4,1,false),(5,1,false),(6,4,true),(10,1,false)]),(60,.slice 5 (.int .u8) 1),(68,.struct t2 [(0,1,false),(1,1,false),(2,1,false),(3,1,false)]),(102,.slice 45 t38 232),(103,.slice 173 t40 32),(104,.slice 3 I6 8),(106,.struct t94 [(0,1,false),(1,1,false),(2,1,false),(3,1,false)]),(112,.struct t6 [(0,1,false),(1,1,false),(2,1,false),(3,1,false)]),(115,.struct t11 [(0,1,false),(1,4,true),(5,1,false)]),(117,.struct t12 [(0,1,false),(1,1,false)]),(173,.struct t40 [(0,1,false),(1,1,false),(2,1,false)]),(209,.struct t2 [(0,1,false),(1,1,false),(2,1,false),(3,1,false)])]
def T_NS (t:TypeId):TI:=fW Tl_NS t
def Tl_NT:List (TypeId×TI):=[(3,.int .i64),(4,.bool),(37,.slice 68 t2 32),(45,.struct t26 [(0,1,false),(1,1,false),(2,1,false),(3,1,false),(4,1,false),(5,1,false),(6,1,false),(7,1,false),(8,1,false),(9,1,false),(10,4,true),(14,1,false),(15,4,true),(19,1,false),(20,1,false)]),(46,.slice 51 t47 104),(68,.struct t2 [(0,1,false),(1,1,false),(2,1,false),(3,1,false)]),(102,.slice 45 t26 232),(104,.slice 3 I6 8),(106,.struct t95 [(0,1,false),(1,1,false),(2,1,false),(3,1,false)]),(209,.struct t2 [(0,1,false),(1,1,false),(2,1,false),(3,1,false)])]
def T_NT (t:TypeId):TI:=fW Tl_NT t
def Tl_S:List (TypeId×TI):=[(3,.int .i64),(4,.bool),(5,.int .u8),(9,.str),(37,.slice 68 t2 32),(38,.slice 143 t3 40),(39,.struct t2 [(0,1,false),(1,1,false),(2,1,false),(3,1,false)]),(40,.slice 112 t6 48),(41,.struct t9 [(0,1,false),(1,1,false),(2,1,false),(3,1,false)]),(42,.slice 115 t11 64),(43,.slice 117 t12 32),(45,.struct t26 [(0,1,false),(1,1,false),(2,1,false),(3,1,false),(4,1,false),(5,1,false),(6,1,false),(7,1,false),(8,1,false),(9,1,false),(10,4,true),(14,1,false),(15,4,true),(19,1,false),(20,1,false)]),(46,.slice 51 t47 104),(51,.struct t47 [(0,1,false),(1,1,false),(2,1,false),(3,1,false),(4,1,false),(5,1,false),(6,4,true),(10,1,false)]),(60,.slice 5 (.int .u8) 1),(68,.struct t2 [(0,1,false),(1,1,false),(2,1,false),(3,1,false)]),(100,.ptr),(102,.slice 45 t26 232),(103,.slice 173 t40 32),(104,.slice 3 I6 8),(106,.struct t91 [(0,1,false),(1,1,false),(2,1,false),(3,1,false)]),(112,.struct t6 [(0,1,false),(1,1,false),(2,1,false),(3,1,false)]),(115,.struct t11 [(0,1,false),(1,4,true),(5,1,false)]),(117,.struct t12 [(0,1,false),(1,1,false)]),(143,.struct t3 [(0,4,true),(4,1,false)]),(163,.struct t88 [(0,1,false),(1,1,false)]),(164,.slice 209 t2 32),(173,.struct t40 [(0,1,false),(1,1,false),(2,1,false)]),(180,.fn),(209,.struct t2 [(0,1,false),(1,1,false),(2,1,false),(3,1,false)]),(218,.slice 9 .str 16),(230,.int .u64),(264,.slice 4 .bool 1),(298,.int .i64)]
def T_S (t:TypeId):TI:=fW Tl_S t
def Tl_WF:List (TypeId×TI):=[(3,.int .i64),(37,.slice 68 t2 32),(41,.struct t9 [(0,1,false),(1,1,false),(2,1,false),(3,1,false)]),(51,.struct t87 [(0,1,false),(1,1,false),(2,1,false),(3,1,false),(4,1,false),(5,1,false),(6,4,true),(10,1,false)]),(100,.ptr),(104,.slice 3 I6 8)]
def T_WF (t:TypeId):TI:=fW Tl_WF t
def w0 (n:Ty.den t26):List Leaf:=[.int .i64 n.1,.bool n.2.1,.bool n.2.2.1,.bool n.2.2.2.1,.int .i64 n.2.2.2.2.1,.int .i64 n.2.2.2.2.2.1,.int .i64 n.2.2.2.2.2.2.1,.int .i64 n.2.2.2.2.2.2.2.1,.ro true 68 t2 n.2.2.2.2.2.2.2.2.1,.ro true 143 t3 n.2.2.2.2.2.2.2.2.2.1,.int .i64 n.2.2.2.2.2.2.2.2.2.2.1.1,.int .i64 n.2.2.2.2.2.2.2.2.2.2.1.2.1,.int .i64 n.2.2.2.2.2.2.2.2.2.2.1.2.2.1,.bool n.2.2.2.2.2.2.2.2.2.2.1.2.2.2,.ro true 112 t6 n.2.2.2.2.2.2.2.2.2.2.2.1,.int .i64 n.2.2.2.2.2.2.2.2.2.2.2.2.1.1,.int .i64 n.2.2.2.2.2.2.2.2.2.2.2.2.1.2.1,.int .i64 n.2.2.2.2.2.2.2.2.2.2.2.2.1.2.2.1,.int .i64 n.2.2.2.2.2.2.2.2.2.2.2.2.1.2.2.2,.ro true 115 t11 n.2.2.2.2.2.2.2.2.2.2.2.2.2.1,.ro true 117 t12 n.2.2.2.2.2.2.2.2.2.2.2.2.2.2]
def w1 (n:Ty.den t2):List Leaf:=[.int .i64 n.1,.int .i64 n.2.1,.int .i64 n.2.2.1,.bool n.2.2.2]
def w2 (n:Ty.den t26):List Leaf:=[.int .i64 n.1,.bool n.2.1,.bool n.2.2.1,.bool n.2.2.2.1,.int .i64 n.2.2.2.2.1,.int .i64 n.2.2.2.2.2.1,.int .i64 n.2.2.2.2.2.2.1,.int .i64 n.2.2.2.2.2.2.2.1,.ro true 68 t2 n.2.2.2.2.2.2.2.2.1,.ro true 143 t3 n.2.2.2.2.2.2.2.2.2.1,.int .i64 n.2.2.2.2.2.2.2.2.2.2.1.1,.int .i64 n.2.2.2.2.2.2.2.2.2.2.1.2.1,.int .i64 n.2.2.2.2.2.2.2.2.2.2.1.2.2.1,.bool n.2.2.2.2.2.2.2.2.2.2.1.2.2.2,.own true none 112 t6 n.2.2.2.2.2.2.2.2.2.2.2.1,.int .i64 n.2.2.2.2.2.2.2.2.2.2.2.2.1.1,.int .i64 n.2.2.2.2.2.2.2.2.2.2.2.2.1.2.1,.int .i64 n.2.2.2.2.2.2.2.2.2.2.2.2.1.2.2.1,.int .i64 n.2.2.2.2.2.2.2.2.2.2.2.2.1.2.2.2,.ro true 115 t11 n.2.2.2.2.2.2.2.2.2.2.2.2.2.1,.ro true 117 t12 n.2.2.2.2.2.2.2.2.2.2.2.2.2.2]
def w3 (n:Ty.den t47):List Leaf:=[.int .i64 n.1,.int .i64 n.2.1,.int .i64 n.2.2.1,.int .i64 n.2.2.2.1,.int .i64 n.2.2.2.2.1,.int .i64 n.2.2.2.2.2.1,.int .i64 n.2.2.2.2.2.2.1.1,.int .i64 n.2.2.2.2.2.2.1.2.1,.int .i64 n.2.2.2.2.2.2.1.2.2.1,.int .i64 n.2.2.2.2.2.2.1.2.2.2,.ro true 68 t2 n.2.2.2.2.2.2.2]
def w4 (n:Ty.den t91):List Leaf:=[.ro true 45 t26 n.1,.ro true 173 t40 n.2.1,.ro true 3 I6 n.2.2.1,.ro true 68 t2 n.2.2.2]
def wa0 (n:Int×Int×Int×List (Ty.den I6)):List Leaf:=[.int .i64 n.1,.int .i64 n.2.1,.int .i64 n.2.2.1,.ro true 3 I6 n.2.2.2]
def wa5 (n:Int×Int×Int×Bool):List Leaf:=[.int .i64 n.1,.int .i64 n.2.1,.int .i64 n.2.2.1,.bool n.2.2.2]
def wa8 (n:List (Ty.den t26)×List (Ty.den t40)×List (Ty.den I6)×List (Ty.den t2)):List Leaf:=[.ro false 45 t26 n.1,.ro false 173 t40 n.2.1,.ro false 3 I6 n.2.2.1,.ro false 68 t2 n.2.2.2]
theorem evl {A R:Type}{live:List (Nat×List Coe)}{e:St->(Ex->St->Option R)->Option R}{k:Ex->St->Option R}{S:A->St}{step:(A->Option R)->A->Option R}{K:Nat}(h:∀ r a,e (S a) (gG live r k)=step (λa=>r (S a)) a):(λa=>aV live e K (S a) k)=ae step K:=funext λa=>kP live e k S step h K a
abbrev zc286a0 {A0 A1 A2 A3 A4 A5 A6 A7 A8 A9 A10 A11 A12 A13 A14 A15 A16 A17 A18 A19 R:Type}(a:A0×A1×A2×A3×A4×A5×A6×A7×A8×A9×A10×A11×A12×A13×A14×A15×A16×A17×A18×A19)(r:R):=((a.1,a.2.1,a.2.2.1,a.2.2.2.1,a.2.2.2.2.1,a.2.2.2.2.2.1,a.2.2.2.2.2.2.1,a.2.2.2.2.2.2.2.1,a.2.2.2.2.2.2.2.2.1,a.2.2.2.2.2.2.2.2.2.1,(a.2.2.2.2.2.2.2.2.2.2.1,a.2.2.2.2.2.2.2.2.2.2.2.1,a.2.2.2.2.2.2.2.2.2.2.2.2.1,a.2.2.2.2.2.2.2.2.2.2.2.2.2.1),a.2.2.2.2.2.2.2.2.2.2.2.2.2.2.1,(a.2.2.2.2.2.2.2.2.2.2.2.2.2.2.2.1,a.2.2.2.2.2.2.2.2.2.2.2.2.2.2.2.2.1,a.2.2.2.2.2.2.2.2.2.2.2.2.2.2.2.2.2.1,a.2.2.2.2.2.2.2.2.2.2.2.2.2.2.2.2.2.2.1),a.2.2.2.2.2.2.2.2.2.2.2.2.2.2.2.2.2.2.2),r)
abbrev zc3ec45 {A0 A1 A2 A3 A4 A5 A6 A7 A8 A9 A10 A11 A12 A13 A14 A15 A16 A17 A18 A19:Type}(a:A0×A1×A2×A3×A4×A5×A6×A7×A8×A9×(A10×A11×A12×A13)×A14×(A15×A16×A17×A18)×A19):=(a.1,a.2.1,a.2.2.1,a.2.2.2.1,a.2.2.2.2.1,a.2.2.2.2.2.1,a.2.2.2.2.2.2.1,a.2.2.2.2.2.2.2.1,a.2.2.2.2.2.2.2.2.1,a.2.2.2.2.2.2.2.2.2.1,a.2.2.2.2.2.2.2.2.2.2.1.1,a.2.2.2.2.2.2.2.2.2.2.1.2.1,a.2.2.2.2.2.2.2.2.2.2.1.2.2.1,a.2.2.2.2.2.2.2.2.2.2.1.2.2.2,a.2.2.2.2.2.2.2.2.2.2.2.1,a.2.2.2.2.2.2.2.2.2.2.2.2.1.1,a.2.2.2.2.2.2.2.2.2.2.2.2.1.2.1,a.2.2.2.2.2.2.2.2.2.2.2.2.1.2.2.1,a.2.2.2.2.2.2.2.2.2.2.2.2.1.2.2.2,a.2.2.2.2.2.2.2.2.2.2.2.2.2)
abbrev zc43b32 {A0 A1 A2 A3 A4 A5 A6 A7 A8 A9 A10 A11 A12 A13 A14 A15 A16 A17 A18 A19:Type}(a:A0×A1×A2×A3×A4×A5×A6×A7×A8×A9×A10×A11×A12×A13×A14×A15×A16×A17×A18×A19):=(a.1,a.2.1,a.2.2.1,a.2.2.2.1,a.2.2.2.2.1,a.2.2.2.2.2.1,a.2.2.2.2.2.2.1,a.2.2.2.2.2.2.2.1,a.2.2.2.2.2.2.2.2.1,a.2.2.2.2.2.2.2.2.2.1,(a.2.2.2.2.2.2.2.2.2.2.1,a.2.2.2.2.2.2.2.2.2.2.2.1,a.2.2.2.2.2.2.2.2.2.2.2.2.1,a.2.2.2.2.2.2.2.2.2.2.2.2.2.1),a.2.2.2.2.2.2.2.2.2.2.2.2.2.2.1,(a.2.2.2.2.2.2.2.2.2.2.2.2.2.2.2.1,a.2.2.2.2.2.2.2.2.2.2.2.2.2.2.2.2.1,a.2.2.2.2.2.2.2.2.2.2.2.2.2.2.2.2.2.1,a.2.2.2.2.2.2.2.2.2.2.2.2.2.2.2.2.2.2.1),a.2.2.2.2.2.2.2.2.2.2.2.2.2.2.2.2.2.2.2)
abbrev zceae5f {A0 A1 A2 A3 A4 A5 A6 A7 A8 A9 A10 A11 A12 A13 A14 A15 A16:Type}(a:A0×A1×A2×A3×A4×A5×A6×A7×A8×A9×A10×A11×A12×A13×A14×A15×A16):=(a.1,a.2.1,a.2.2.1,a.2.2.2.1,a.2.2.2.2.1,a.2.2.2.2.2.1,a.2.2.2.2.2.2.1,(a.2.2.2.2.2.2.2.1,a.2.2.2.2.2.2.2.2.1,a.2.2.2.2.2.2.2.2.2.1,a.2.2.2.2.2.2.2.2.2.2.1),a.2.2.2.2.2.2.2.2.2.2.2.1,(a.2.2.2.2.2.2.2.2.2.2.2.2.1,a.2.2.2.2.2.2.2.2.2.2.2.2.2.1,a.2.2.2.2.2.2.2.2.2.2.2.2.2.2.1,a.2.2.2.2.2.2.2.2.2.2.2.2.2.2.2.1),a.2.2.2.2.2.2.2.2.2.2.2.2.2.2.2.2)
abbrev zc00556 {A0 A1 A2 A3 R:Type}(a:A0×A1×A2×A3)(r:R):=(a.1,a.2.1,a.2.2.1,a.2.2.2,r)
abbrev zcp4 {A0 A1 A2 A3 A4 R:Type}(a:A0×A1×A2×A3×A4)(r:R):=(a.1,a.2.1,a.2.2.1,a.2.2.2.1,r)
abbrev zcp8 {A0 A1 A2 A3 A4 A5 A6 A7 A8 R:Type}(a:A0×A1×A2×A3×A4×A5×A6×A7×A8)(r:R):=(a.1,a.2.1,a.2.2.1,a.2.2.2.1,a.2.2.2.2.1,a.2.2.2.2.2.1,a.2.2.2.2.2.2.1,a.2.2.2.2.2.2.2.1,r)
abbrev Kc0:List Coe:=[.keep,.keep,.keep,.keep,.keep,.keep,.keep,.keep,.ro true 68 t2,.ro true 143 t3,.keep,.keep,.keep,.keep,.ro true 112 t6,.keep,.keep,.keep,.keep,.ro true 115 t11,.ro true 117 t12]
abbrev Kc1:List Coe:=[.keep,.keep,.keep,.keep]
abbrev Kc2:List Coe:=[.keep,.keep,.keep,.keep,.keep,.keep,.keep,.keep,.keep,.keep,.keep,.keep,.keep,.keep,.keep,.keep,.keep,.keep,.keep,.keep,.keep]
abbrev Kc3:List Coe:=[.keep,.keep,.keep,.keep,.keep,.keep,.keep,.keep,.ro true 68 t2,.ro true 143 t3,.keep,.keep,.keep,.keep,.own true 112 t6,.keep,.keep,.keep,.keep,.ro true 115 t11,.ro true 117 t12]
abbrev Kc4:List Coe:=[.keep,.keep,.keep,.ro true 3 I6]
abbrev Kc5:List Coe:=[.keep,.keep,.keep,.keep,.keep,.keep,.keep,.keep,.keep,.keep,.keep]
abbrev Kc6:List Coe:=[.keep,.keep,.keep,.keep,.keep,.ro true 3 I6]
abbrev Kc7:List Coe:=[.keep,.keep,.keep,.keep,.keep,.keep,.keep,.keep,.own false 68 t2,.own false 143 t3,.keep,.keep,.keep,.keep,.own false 112 t50,.keep,.keep,.keep,.keep,.own false 115 t52,.own true 117 t12]
namespace Q0
abbrev ps:List PK:=[.rd (.list false 68 t2)]
abbrev rs:List RK:=[.v (.list true 68 t2)]
abbrev R:=Option (ai rs×ah ps)
def f (K:Nat)(x:ab ps):R:=fI t2 32 x.1
def c:Ctr:=⟨85,ps,rs,true,f K⟩
end Q0
namespace Q1
abbrev ps:List PK:=[.own (.list true 68 t2),.rd I6,.own (.list true 68 t2)]
abbrev rs:List RK:=[.v (.list true 68 t2)]
abbrev R:=Option (ai rs×ah ps)
def f (K:Nat)(x:ab ps):R:=fN t2 32 x.1 x.2.1 x.2.2.1
def c:Ctr:=⟨143,ps,rs,true,f K⟩
end Q1
namespace Q2
abbrev ps:List PK:=[.rd (.list false 143 t3)]
abbrev rs:List RK:=[.v (.list true 143 t3)]
abbrev R:=Option (ai rs×ah ps)
def f (K:Nat)(x:ab ps):R:=fI t3 40 x.1
def c:Ctr:=⟨164,ps,rs,true,f K⟩
end Q2
namespace Q3
abbrev ps:List PK:=[.own (.list true 143 t3),.rd I6,.own (.list true 143 t3)]
abbrev rs:List RK:=[.v (.list true 143 t3)]
abbrev R:=Option (ai rs×ah ps)
def f (K:Nat)(x:ab ps):R:=fN t3 40 x.1 x.2.1 x.2.2.1
def c:Ctr:=⟨264,ps,rs,true,f K⟩
end Q3
namespace Q4
abbrev ps:List PK:=[.own (.list true 112 t50),.fn [t6] .bool]
abbrev rs:List RK:=[.v (.list true 112 t50)]
abbrev R:=Option (ai rs×ah ps)
def f (K:Nat)(x:ab ps):R:=gH t50 x.1 x.2.1
def c:Ctr:=⟨220,ps,rs,true,f K⟩
end Q4
namespace Q5
abbrev ps:List PK:=[.own (.list true 112 t50),.rd I6,.own (.list true 112 t50)]
abbrev rs:List RK:=[.v (.list true 112 t50)]
abbrev R:=Option (ai rs×ah ps)
def f (K:Nat)(x:ab ps):R:=fN t50 48 x.1 x.2.1 x.2.2.1
def c:Ctr:=⟨224,ps,rs,true,f K⟩
end Q5
namespace Q6
abbrev ps:List PK:=[.own (.list true 3 I6),.rd I6,.own (.list true 3 I6)]
abbrev rs:List RK:=[.v (.list true 3 I6)]
abbrev R:=Option (ai rs×ah ps)
def f (K:Nat)(x:ab ps):R:=fN I6 8 x.1 x.2.1 x.2.2.1
def c:Ctr:=⟨174,ps,rs,true,f K⟩
end Q6
namespace Q7
abbrev ps:List PK:=[.own (.list true 117 t12),.rd I6,.own (.list true 117 t12)]
abbrev rs:List RK:=[.v (.list true 117 t12)]
abbrev R:=Option (ai rs×ah ps)
def f (K:Nat)(x:ab ps):R:=fN t12 32 x.1 x.2.1 x.2.2.1
def c:Ctr:=⟨168,ps,rs,false,f K⟩
end Q7
namespace Q8
abbrev ps:List PK:=[.rd (.list false 3 I6)]
abbrev rs:List RK:=[.v (.list true 3 I6)]
abbrev R:=Option (ai rs×ah ps)
def f (K:Nat)(x:ab ps):R:=fI I6 8 x.1
def c:Ctr:=⟨163,ps,rs,true,f K⟩
end Q8
namespace Q9
abbrev ps:List PK:=[.own (.list true 143 t3),.fn [t3] .bool]
abbrev rs:List RK:=[.v (.list true 143 t3)]
abbrev R:=Option (ai rs×ah ps)
def f (K:Nat)(x:ab ps):R:=gH t3 x.1 x.2.1
def c:Ctr:=⟨273,ps,rs,true,f K⟩
end Q9
namespace Q10
abbrev ps:List PK:=[.rd I6]
abbrev rs:List RK:=[.v .str]
abbrev R:=Option (ai rs×ah ps)
def step (g:ab ps->R)(x:ab ps):R:=bif decide (x.1<(-9223372036854775807)) then (some (((ByteArray.mk #[45,57,50,50,51,51,55,50,48,51,54,56,53,52,55,55,53,56,48,56]),()),())) else (bif decide (x.1<0) then ((g (wr .i64 (0-x.1),())).bind λy1=>aU (ByteArray.mk #[45]) y1.1.1 λy2=>some ((y2,()),())) else (bif decide (x.1<10) then (some ((gF ([wr .u8 (wr .i64 (48+x.1))]),()),())) else ((g (wr .i64 (BC x.1 10),())).bind λy3=>aU y3.1.1 (gF ([wr .u8 (wr .i64 (48+(Int.tmod x.1 10)))])) λy4=>some ((y4,()),()))))
def f (x:ab ps):R:=Nat.rec (motive:=λ_=>ab ps->R) (λ_=>none) (λ_ g x=>step g x) K x
def c:Ctr:=⟨287,ps,rs,true,f K⟩
end Q10
namespace Q11
abbrev ps:List PK:=[.rd I6,.rd I6,.rd I6]
abbrev rs:List RK:=[.v .bool]
abbrev R:=Option (ai rs×ah ps)
def f (K:Nat)(x:ab ps):R:=bif decide (x.1>=x.2.1) then (some ((decide (x.1<=x.2.2.1),()),())) else (some ((false,()),()))
def c:Ctr:=⟨88,ps,rs,true,f K⟩
end Q11
namespace Q12
abbrev ps:List PK:=[.rd t2]
abbrev rs:List RK:=[.v .bool]
abbrev R:=Option (ai rs×ah ps)
def f (x:ab ps):R:=(Q11.f K (x.1.1,0,7,())).bind λy1=>bif y1.1.1 then ((Q11.f K (x.1.2.1,0,999,())).bind λy2=>bif y2.1.1 then ((Q11.f K (x.1.2.2.1,1,4,())).bind λy3=>some ((y3.1.1,()),())) else (some ((false,()),()))) else (some ((false,()),()))
def c:Ctr:=⟨148,ps,rs,true,f K⟩
end Q12
namespace Q13
abbrev ps:List PK:=[.rd (.list false 68 t2)]
abbrev rs:List RK:=[.v .bool]
abbrev R:=Option (ai rs×ah ps)
abbrev A0:=Int
def s0 (x:ab ps)(r0:A0->R)(a:A0):R:=bif decide (a<(BA x.1:Int)) then ((idx x.1 a).bind λy1=>(Q12.f K (y1,())).bind λy2=>bif !y2.1.1 then (some ((false,()),())) else (bif decide (a>0) then ((idx x.1 (wr .i64 (a-1))).bind λy3=>(idx x.1 a).bind λy4=>bif decide (y3.1>=y4.1) then (some ((false,()),())) else (r0 (wr .i64 (a+1)))) else (r0 (wr .i64 (a+1))))) else (some ((true,()),()))
def l0 (x:ab ps):A0->R:=ae (s0 K x) K
def pre (K:Nat)(N0:A0->R)(x:ab ps):R:=N0 0
def f (x:ab ps):R:=pre K (l0 K x) x
def c:Ctr:=⟨89,ps,rs,true,f K⟩
end Q13
namespace Q14
abbrev ps:List PK:=[.rd (.list false 68 t2),.rd I6]
abbrev rs:List RK:=[.v .bool]
abbrev R:=Option (ai rs×ah ps)
abbrev A0:=Int
def s0 (K:Nat)(x:ab ps)(r0:A0->R)(a:A0):R:=bif decide (a<(BA x.1:Int)) then ((idx x.1 a).bind λy1=>bif (wr .i64 (BC y1.1 4)) != x.2.1 then (some ((false,()),())) else (r0 (wr .i64 (a+1)))) else (some ((true,()),()))
def l0 (x:ab ps):A0->R:=ae (s0 K x) K
def pre (K:Nat)(N0:A0->R)(x:ab ps):R:=N0 0
def f (x:ab ps):R:=pre K (l0 K x) x
def c:Ctr:=⟨90,ps,rs,true,f K⟩
end Q14
namespace Q15
abbrev ps:List PK:=[.rd I6]
abbrev rs:List RK:=[.v I6]
abbrev R:=Option (ai rs×ah ps)
def f (K:Nat)(x:ab ps):R:=some ((wr .i64 (BC x.1 4),()),())
def c:Ctr:=⟨91,ps,rs,true,f K⟩
end Q15
namespace Q16
abbrev ps:List PK:=[.rd (.list false 68 t2),.rd I6]
abbrev rs:List RK:=[.v I6]
abbrev R:=Option (ai rs×ah ps)
abbrev A0:=Int
def s0 (K:Nat)(x:ab ps)(r0:A0->R)(a:A0):R:=bif decide (a<(BA x.1:Int)) then ((idx x.1 a).bind λy1=>bif y1.1==x.2.1 then (some ((a,()),())) else (r0 (wr .i64 (a+1)))) else (some (((-1),()),()))
def l0 (x:ab ps):A0->R:=ae (s0 K x) K
def pre (K:Nat)(N0:A0->R)(x:ab ps):R:=N0 0
def f (x:ab ps):R:=pre K (l0 K x) x
def c:Ctr:=⟨149,ps,rs,true,f K⟩
end Q16
namespace Q17
abbrev ps:List PK:=[.rd t26]
abbrev rs:List RK:=[.v .bool]
abbrev R:=Option (ai rs×ah ps)
def f (x:ab ps):R:=let b1:=x.1.2.2.2;(Q16.f K (b1.2.2.2.2.2.1,x.1.1,())).bind λy1=>let j1:R:=some ((false,()),());bif decide (y1.1.1<0) then j1 else ((idx b1.2.2.2.2.2.1 y1.1.1).bind λy2=>let j2:=((y2.2.2.2==b1.1,()),());bif x.1.2.2.1 then (bif y2.2.1==b1.2.1 then (bif y2.2.2.1==4 then (some j2) else j1) else j1) else (bif y2.2.1==b1.2.1 then (bif y2.2.2.1==1 then (some j2) else j1) else j1))
def c:Ctr:=⟨92,ps,rs,true,f K⟩
end Q17
namespace Q18
abbrev ps:List PK:=[.rd (.list false 143 t3)]
abbrev rs:List RK:=[.v .bool]
abbrev R:=Option (ai rs×ah ps)
abbrev A0:=Int
def s0 (x:ab ps)(r0:A0->R)(a:A0):R:=bif decide (a<(BA x.1:Int)) then ((idx x.1 a).bind λy1=>(Q12.f K (y1.1,())).bind λy2=>let j1:R:=some ((false,()),());bif !y2.1.1 then j1 else ((idx x.1 a).bind λy3=>(Q11.f K (y3.2,1,4,())).bind λy4=>bif !y4.1.1 then j1 else (bif decide (a>0) then ((idx x.1 (wr .i64 (a-1))).bind λy5=>(idx x.1 a).bind λy6=>bif decide (y5.1.1>=y6.1.1) then j1 else (r0 (wr .i64 (a+1)))) else (r0 (wr .i64 (a+1)))))) else (some ((true,()),()))
def l0 (x:ab ps):A0->R:=ae (s0 K x) K
def pre (K:Nat)(N0:A0->R)(x:ab ps):R:=N0 0
def f (x:ab ps):R:=pre K (l0 K x) x
def c:Ctr:=⟨150,ps,rs,true,f K⟩
end Q18
namespace Q19
abbrev ps:List PK:=[.rd t2,.rd t2]
abbrev rs:List RK:=[.v .bool]
abbrev R:=Option (ai rs×ah ps)
def f (K:Nat)(x:ab ps):R:=bif x.1.2.1 != x.2.1.2.1 then (some ((decide (x.1.2.1>x.2.1.2.1),()),())) else (bif x.1.2.2.1 != x.2.1.2.2.1 then (some ((decide (x.1.2.2.1>x.2.1.2.2.1),()),())) else (bif x.1.2.2.2 then (some ((!x.2.1.2.2.2,()),())) else (some ((false,()),()))))
def c:Ctr:=⟨151,ps,rs,true,f K⟩
end Q19
namespace Q20
abbrev ps:List PK:=[.rd t26]
abbrev rs:List RK:=[.v .bool]
abbrev R:=Option (ai rs×ah ps)
abbrev A0:=Int
def s0 (x:ab ps)(r0:A0->R)(a:A0):R:=let b1:=x.1.2.2.2.2.2.2.2.2;bif decide (a<(BA b1.2.1:Int)) then ((idx b1.2.1 a).bind λy2=>(Q16.f K (b1.1,y2.1.1,())).bind λy3=>bif decide (y3.1.1<0) then (some ((false,()),())) else ((idx b1.2.1 a).bind λy4=>(idx b1.1 y3.1.1).bind λy5=>(Q19.f K (y4.1,y5,())).bind λy6=>bif y6.1.1 then (some ((false,()),())) else (r0 (wr .i64 (a+1))))) else (some ((true,()),()))
def l0 (x:ab ps):A0->R:=ae (s0 K x) K
def pre (N0:A0->R)(x:ab ps):R:=(Q18.f K (x.1.2.2.2.2.2.2.2.2.2.1,())).bind λy1=>bif !y1.1.1 then (some ((false,()),())) else (N0 0)
def f (x:ab ps):R:=pre K (l0 K x) x
def c:Ctr:=⟨93,ps,rs,true,f K⟩
end Q20
namespace Q21
abbrev ps:List PK:=[.rd t26]
abbrev rs:List RK:=[.v .bool]
abbrev R:=Option (ai rs×ah ps)
def f (x:ab ps):R:=let b2:=x.1.2.2.2.2.2;let b1:=b2.2.2.2.2.2.1;let j1:R:=some ((false,()),());bif b1.1==(-1) then (bif b1.2.1==0 then (bif b1.2.2.1==0 then (some ((!b1.2.2.2,()),())) else j1) else j1) else (bif b1.1 != x.1.1 then ((Q16.f K (b2.2.2.2.1,b1.1,())).bind λy1=>bif decide (y1.1.1>=0) then ((Q11.f K (b1.2.1,0,b2.1,())).bind λy2=>bif y2.1.1 then ((Q11.f K (b1.2.2.1,1,b2.2.1,())).bind λy3=>some ((y3.1.1,()),())) else j1) else j1) else j1)
def c:Ctr:=⟨94,ps,rs,true,f K⟩
end Q21
namespace Q22
abbrev ps:List PK:=[.rd t26]
abbrev rs:List RK:=[.v .bool]
abbrev R:=Option (ai rs×ah ps)
abbrev A1:=Int×Int×Int×Int×Int×List (Ty.den I6)
abbrev A2:=Int×Int
abbrev A0:=Int
def s1 (x:ab ps)(r0:A0->R)(r1:A1->R)(a:A1):R:=let b1:=a.2.2.2.2.2;bif decide (a.2.1<(BA b1:Int)) then ((idx b1 a.2.1).bind λy7=>(Q11.f K (y7,0,7,())).bind λy8=>let j1:R:=some ((false,()),());bif !y8.1.1 then j1 else ((idx b1 a.2.1).bind λy9=>(Q15.f K (y9,())).bind λy10=>(Q15.f K (x.1.1,())).bind λy11=>bif y10.1.1 != y11.1.1 then j1 else (let j2:=(a.1,wr .i64 (a.2.1+1),a.2.2);bif decide (a.2.1>0) then ((idx b1 (wr .i64 (a.2.1-1))).bind λy12=>(idx b1 a.2.1).bind λy13=>bif decide (y12>=y13) then j1 else (r1 j2)) else (r1 j2)))) else (r0 (wr .i64 (a.1+1)))
def l1 (x:ab ps)(r0:A0->R):A1->R:=ae (s1 K x r0) K
def s2 (K:Nat)(x:ab ps)(r2:A2->R)(a:A2):R:=let b1:=x.1.2.2.2.2.2.2.2.2;bif decide (a.2<(BA b1.1:Int)) then ((idx b1.1 a.2).bind λy17=>bif y17.2.2.1==2 then (r2 (wr .i64 (a.1+1),wr .i64 (a.2+1))) else (r2 (a.1,wr .i64 (a.2+1)))) else (some ((a.1==(BA b1.2.2.2.1:Int),()),()))
def l2 (x:ab ps):A2->R:=ae (s2 K x) K
def s0 (x:ab ps)(N1:A1->R)(N2:A2->R)(r0:A0->R)(a:A0):R:=let b1:=x.1.2.2.2.2.2.2.2.2;bif decide (a<(BA b1.2.2.2.1:Int)) then ((idx b1.2.2.2.1 a).bind λy1=>(Q16.f K (b1.1,y1.1,())).bind λy2=>let j2:R:=some ((false,()),());let j1:R:=bif decide (y2.1.1<0) then j2 else ((idx b1.1 y2.1.1).bind λy4=>bif y4.2.2.1 != 2 then j2 else ((idx b1.1 y2.1.1).bind λy5=>bif y5.2.1 != y1.2.1 then j2 else ((Q11.f K (y1.2.2.1,0,x.1.2.2.2.2.2.1,())).bind λy6=>bif !y6.1.1 then j2 else (bif (BA y1.2.2.2:Int)==0 then j2 else (N1 (a,0,y1))))));bif decide (a>0) then ((idx b1.2.2.2.1 (wr .i64 (a-1))).bind λy3=>bif decide (y3.1>=y1.1) then j2 else j1) else j1) else (N2 (0,0))
def l0 (x:ab ps):A0->R:=ae (λr0 a=>s0 K x (l1 K x r0) (l2 K x) r0 a) K
def pre (K:Nat)(N0:A0->R)(x:ab ps):R:=N0 0
def f (x:ab ps):R:=pre K (l0 K x) x
def c:Ctr:=⟨95,ps,rs,true,f K⟩
def G:List Ctr:=[Q11.c K,Q15.c K,Q16.c K]
def v1:List (Nat×List Coe):=[(1,[.keep]),(3,[.keep]),(4,[.keep]),(6,[.keep]),(100001,Kc0),(100004,Kc4)]
def v2:List (Nat×List Coe):=[(1,[.keep]),(7,[.keep]),(8,[.keep]),(100001,Kc0)]
def v0:List (Nat×List Coe):=[(1,[.keep]),(3,[.keep]),(100001,Kc0)]
def L:List (Nat×List (Nat×List Coe)):=[(10,v1),(16,v2),(3,v0)]
def body:Code:=cM Tryz.f95
abbrev ev:Code->St->(Ex->St->R)->R:=evK (G K) T_S L K
abbrev fin:Ex->St->R:=db T_S ps rs true Tryz.f95.results.toList
def S0 (x:ab ps)(a:A0):St:=av [(1,⟨0,.one,[.bp 100001 0]⟩),(3,⟨0,.one,[.int .i64 a]⟩),(100001,⟨0,.agg,(w0 x.1)⟩)]
def S2 (x:ab ps)(a:A2):St:=av [(1,⟨0,.one,[.bp 100001 0]⟩),(7,⟨0,.one,[.int .i64 a.1]⟩),(8,⟨0,.one,[.int .i64 a.2]⟩),(100001,⟨0,.agg,(w0 x.1)⟩)]
def S1 (x:ab ps)(a:A1):St:=av [(1,⟨0,.one,[.bp 100001 0]⟩),(3,⟨0,.one,[.int .i64 a.1]⟩),(4,⟨0,.one,[.bp 100004 0]⟩),(6,⟨0,.one,[.int .i64 a.2.1]⟩),(100001,⟨0,.agg,(w0 x.1)⟩),(100004,⟨0,.agg,(wa0 a.2.2)⟩)]
def k0 (x:ab ps):Ex->St->R:=kAt (ev K) body [1,0,1,0] fin
def N0 (x:ab ps):A0->R:=λa=>aV v0 (ev K (sub body [1,0,1,0,0])) K (S0 x a) (k0 K x)
def k2 (x:ab ps):Ex->St->R:=kAt (ev K) body [1,1,1,0,1,0] fin
def N2 (x:ab ps):A2->R:=λa=>aV v2 (ev K (sub body [1,1,1,0,1,0,0])) K (S2 x a) (k2 K x)
def k1 (x:ab ps)(q0:St->R):Ex->St->R:=kAt (ev K) (sub body [1,0,1,0,0]) [1,0,0,1,1,1,1,0] (gG v0 q0 (k0 K x))
def N1 (x:ab ps)(q0:St->R):A1->R:=λa=>aV v1 (ev K (sub body [1,0,1,0,0,1,0,0,1,1,1,1,0,0])) K (S1 x a) (k1 K x q0)
end Q22
namespace Q23
abbrev ps:List PK:=[.rd t9]
abbrev rs:List RK:=[.v .bool]
abbrev R:=Option (ai rs×ah ps)
def f (x:ab ps):R:=(Q11.f K (x.1.1,(-100000),100000,())).bind λy1=>let j1:R:=some ((false,()),());bif y1.1.1 then ((Q11.f K (x.1.2.1,(-100000),100000,())).bind λy2=>bif y2.1.1 then ((Q11.f K (x.1.2.2.1,0,100000,())).bind λy3=>bif y3.1.1 then ((Q11.f K (x.1.2.2.2,1,1500,())).bind λy4=>some ((y4.1.1,()),())) else j1) else j1) else j1
def c:Ctr:=⟨96,ps,rs,true,f K⟩
end Q23
namespace Q24
abbrev ps:List PK:=[.rd t26]
abbrev rs:List RK:=[.v .bool]
abbrev R:=Option (ai rs×ah ps)
abbrev A1:=Int×Int×Int×Int×Int×Int×Int×List (Ty.den I6)
abbrev A0:=Int
def s1 (x:ab ps)(r0:A0->R)(r1:A1->R)(a:A1):R:=bif decide (a.2.1<(BA a.2.2.2.2.2.2.2:Int)) then ((idx a.2.2.2.2.2.2.2 a.2.1).bind λy8=>(Q11.f K (y8,1,60000,())).bind λy9=>bif !y9.1.1 then (some ((false,()),())) else (r1 (a.1,wr .i64 (a.2.1+1),a.2.2))) else (r0 (wr .i64 (a.1+1)))
def l1 (x:ab ps)(r0:A0->R):A1->R:=ae (s1 K x r0) K
def s0 (x:ab ps)(N1:A1->R)(r0:A0->R)(a:A0):R:=let b1:=x.1.2.2.2.2.2.2.2.2.2.2.2.2.2.1;bif decide (a<(BA b1:Int)) then ((idx b1 a).bind λy1=>(Q11.f K (y1.1,0,7,())).bind λy2=>let j2:R:=some ((false,()),());bif !y2.1.1 then j2 else ((Q15.f K (y1.1,())).bind λy3=>(Q15.f K (x.1.1,())).bind λy4=>bif y3.1.1 != y4.1.1 then j2 else (bif y1.1==x.1.1 then j2 else (let j1:R:=(Q23.f K (y1.2.1,())).bind λy6=>bif !y6.1.1 then j2 else ((Q11.f K ((BA y1.2.2:Int),1,3,())).bind λy7=>bif !y7.1.1 then j2 else (N1 (a,0,y1.1,y1.2.1.1,y1.2.1.2.1,y1.2.1.2.2.1,y1.2.1.2.2.2,y1.2.2)));bif decide (a>0) then ((idx b1 (wr .i64 (a-1))).bind λy5=>bif decide (y5.1>=y1.1) then j2 else j1) else j1)))) else (some ((true,()),()))
def l0 (x:ab ps):A0->R:=ae (λr0 a=>s0 K x (l1 K x r0) r0 a) K
def pre (K:Nat)(N0:A0->R)(x:ab ps):R:=N0 0
def f (x:ab ps):R:=pre K (l0 K x) x
def c:Ctr:=⟨97,ps,rs,true,f K⟩
def G:List Ctr:=[Q11.c K,Q15.c K,Q23.c K]
def v1:List (Nat×List Coe):=[(1,[.keep]),(3,[.keep]),(4,[.keep]),(5,[.keep]),(100001,Kc0),(100004,Kc6)]
def v0:List (Nat×List Coe):=[(1,[.keep]),(3,[.keep]),(100001,Kc0)]
def L:List (Nat×List (Nat×List Coe)):=[(9,v1),(3,v0)]
def body:Code:=cM Tryz.f97
abbrev ev:Code->St->(Ex->St->R)->R:=evK (G K) T_S L K
abbrev fin:Ex->St->R:=db T_S ps rs true Tryz.f97.results.toList
def S0 (x:ab ps)(a:A0):St:=av [(1,⟨0,.one,[.bp 100001 0]⟩),(3,⟨0,.one,[.int .i64 a]⟩),(100001,⟨0,.agg,(w0 x.1)⟩)]
def S1 (x:ab ps)(a:A1):St:=av [(1,⟨0,.one,[.bp 100001 0]⟩),(3,⟨0,.one,[.int .i64 a.1]⟩),(4,⟨0,.one,[.bp 100004 0]⟩),(5,⟨0,.one,[.int .i64 a.2.1]⟩),(100001,⟨0,.agg,(w0 x.1)⟩),(100004,⟨0,.agg,[.int .i64 a.2.2.1,.int .i64 a.2.2.2.1,.int .i64 a.2.2.2.2.1,.int .i64 a.2.2.2.2.2.1,.int .i64 a.2.2.2.2.2.2.1,.ro true 3 I6 a.2.2.2.2.2.2.2]⟩)]
def k0 (x:ab ps):Ex->St->R:=kAt (ev K) body [1,0,1,0] fin
def N0 (x:ab ps):A0->R:=λa=>aV v0 (ev K (sub body [1,0,1,0,0])) K (S0 x a) (k0 K x)
def k1 (x:ab ps)(q0:St->R):Ex->St->R:=kAt (ev K) (sub body [1,0,1,0,0]) [1,0,0,1,1,1,0] (gG v0 q0 (k0 K x))
def N1 (x:ab ps)(q0:St->R):A1->R:=λa=>aV v1 (ev K (sub body [1,0,1,0,0,1,0,0,1,1,1,0,0])) K (S1 x a) (k1 K x q0)
end Q24
namespace Q25
abbrev ps:List PK:=[.rd t26]
abbrev rs:List RK:=[.v .bool]
abbrev R:=Option (ai rs×ah ps)
abbrev A0:=Int
def s0 (x:ab ps)(r0:A0->R)(a:A0):R:=let b1:=x.1.2.2.2.2.2.2.2.2.2.2.2.2.2.2;bif decide (a<(BA b1:Int)) then ((idx b1 a).bind λy1=>(Q11.f K (y1.1,0,1,())).bind λy2=>let j2:R:=some ((false,()),());bif !y2.1.1 then j2 else ((Q15.f K (x.1.1,())).bind λy3=>bif y1.1==y3.1.1 then j2 else (let j1:R:=bif (BA y1.2:Int)==0 then j2 else ((Q13.f K (y1.2,())).bind λy5=>bif !y5.1.1 then j2 else ((Q14.f K (y1.2,y1.1,())).bind λy6=>bif !y6.1.1 then j2 else (r0 (wr .i64 (a+1)))));bif decide (a>0) then ((idx b1 (wr .i64 (a-1))).bind λy4=>bif decide (y4.1>=y1.1) then j2 else j1) else j1))) else (some ((true,()),()))
def l0 (x:ab ps):A0->R:=ae (s0 K x) K
def pre (K:Nat)(N0:A0->R)(x:ab ps):R:=N0 0
def f (x:ab ps):R:=pre K (l0 K x) x
def c:Ctr:=⟨98,ps,rs,true,f K⟩
end Q25
namespace Q26
abbrev ps:List PK:=[.rd t26]
abbrev rs:List RK:=[.v .bool]
abbrev R:=Option (ai rs×ah ps)
def f (x:ab ps):R:=let b3:=x.1.2.2.2.2;let b1:=b3.2.2.2;let b2:=b1.2.2.2;(Q11.f K (x.1.1,0,7,())).bind λy1=>let j1:R:=some ((false,()),());bif !y1.1.1 then j1 else ((Q11.f K (b3.2.1,0,999999,())).bind λy2=>bif !y2.1.1 then j1 else ((Q11.f K (b3.2.2.1,0,999999,())).bind λy3=>bif !y3.1.1 then j1 else ((Q11.f K (b1.1,0,8,())).bind λy4=>bif !y4.1.1 then j1 else ((Q11.f K (b3.1,0,999,())).bind λy5=>bif !y5.1.1 then j1 else (bif !x.1.2.1 then (bif !x.1.2.2.1 then (bif b3.1==0 then (bif b3.2.1==0 then (bif b3.2.2.1==0 then (bif b1.1==0 then (bif (wr .i64 ((wr .i64 ((wr .i64 ((wr .i64 ((BA b1.2.1:Int)+(BA b1.2.2.1:Int)))+(BA b2.2.1:Int)))+(BA b2.2.2.2.1:Int)))+(BA b2.2.2.2.2:Int)))==0 then (bif b2.1.1==0 then (bif b2.1.2.1==0 then (bif b2.1.2.2.1==0 then (bif !b2.1.2.2.2 then (bif b2.2.2.1.1==0 then (bif b2.2.2.1.2.1==0 then (bif b2.2.2.1.2.2.1==0 then (some ((b2.2.2.1.2.2.2==0,()),())) else j1) else j1) else j1) else j1) else j1) else j1) else j1) else j1) else j1) else j1) else j1) else j1) else j1) else ((Q13.f K (b1.2.1,())).bind λy6=>bif y6.1.1 then ((Q15.f K (x.1.1,())).bind λy7=>(Q14.f K (b1.2.1,y7.1.1,())).bind λy8=>bif y8.1.1 then ((Q17.f K (x.1,())).bind λy9=>bif y9.1.1 then ((Q20.f K (x.1,())).bind λy10=>bif y10.1.1 then ((Q21.f K (x.1,())).bind λy11=>bif y11.1.1 then ((Q22.f K (x.1,())).bind λy12=>bif y12.1.1 then ((Q23.f K (b2.2.2.1,())).bind λy13=>bif y13.1.1 then ((Q24.f K (x.1,())).bind λy14=>bif y14.1.1 then ((Q25.f K (x.1,())).bind λy15=>some ((y15.1.1,()),())) else j1) else j1) else j1) else j1) else j1) else j1) else j1) else j1))))))
def c:Ctr:=⟨32,ps,rs,true,f K⟩
end Q26
namespace Q27
abbrev ps:List PK:=[.rd t47]
abbrev rs:List RK:=[.v .bool]
abbrev R:=Option (ai rs×ah ps)
def f (x:ab ps):R:=let b1:=x.1.2.2.2.2.2;(Q11.f K (x.1.1,1,2,())).bind λy1=>let j1:R:=some ((false,()),());bif !y1.1.1 then j1 else ((Q11.f K (x.1.2.1,1,6,())).bind λy2=>bif !y2.1.1 then j1 else ((Q11.f K (x.1.2.2.1,0,7,())).bind λy3=>bif !y3.1.1 then j1 else ((Q11.f K (x.1.2.2.2.1,0,7,())).bind λy4=>bif !y4.1.1 then j1 else ((Q11.f K (x.1.2.2.2.2.1,0,999999,())).bind λy5=>bif !y5.1.1 then j1 else ((Q11.f K (b1.1,0,7,())).bind λy6=>bif !y6.1.1 then j1 else ((Q23.f K (b1.2.1,())).bind λy7=>bif !y7.1.1 then j1 else ((Q13.f K (b1.2.2,())).bind λy8=>bif !y8.1.1 then j1 else (bif x.1.2.1==6 then (bif decide ((BA b1.2.2:Int)>0) then ((idx b1.2.2 0).bind λy9=>(Q14.f K (b1.2.2,wr .i64 (BC y9.1 4),())).bind λy10=>some ((y10.1.1,()),())) else j1) else ((Q14.f K (b1.2.2,wr .i64 (BC x.1.2.2.1 4),())).bind λy11=>some ((y11.1.1,()),()))))))))))
def c:Ctr:=⟨82,ps,rs,true,f K⟩
end Q27
namespace Q28
abbrev ps:List PK:=[.rd t26,.rd t47]
abbrev rs:List RK:=[.v .bool]
abbrev R:=Option (ai rs×ah ps)
def f (x:ab ps):R:=let b1:=x.2.1.2.2;let j1:R:=some ((false,()),());bif !x.1.2.1 then j1 else (bif x.1.2.2.1 then j1 else (bif b1.2.1 != x.1.1 then j1 else (bif b1.1==x.1.1 then j1 else ((Q15.f K (x.1.1,())).bind λy1=>let j2:=(b1.2.2.2.2.2,y1.1.1,());bif x.2.1.1==2 then (bif x.2.1.2.1==6 then ((Q15.f K (b1.1,())).bind λy2=>bif y2.1.1 != y1.1.1 then ((Q14.f K j2).bind λy3=>bif y3.1.1 then (some ((true,()),())) else ((Q15.f K (b1.1,())).bind λy4=>(Q14.f K (b1.2.2.2.2.2,y4.1.1,())).bind λy5=>some ((y5.1.1,()),()))) else j1) else j1) else ((Q15.f K (b1.1,())).bind λy6=>bif y6.1.1==y1.1.1 then (bif x.2.1.2.1 != 6 then (some ((true,()),())) else ((Q14.f K j2).bind λy7=>some ((!y7.1.1,()),()))) else j1)))))
def c:Ctr:=⟨83,ps,rs,true,f K⟩
end Q28
namespace Q29
abbrev ps:List PK:=[.rd (.list false 68 t2),.rd t2]
abbrev rs:List RK:=[.v (.list false 68 t2),.v .bool]
abbrev R:=Option (ai rs×ah ps)
abbrev A0:=Int
def s0 (K:Nat)(x:ab ps)(r0:A0->R)(a:A0):R:=let j1:R:=bif decide (0<=0)&&decide (0<=a)&&decide (a<=(BA x.1:Int))&&true then (let j2:=(x.1.take (BB a)).drop (BB 0);bif decide ((BA ([]:List (Ty.den t2))+BA j2)*32<=an) then (bif decide ((BA ([]++j2)+BA ([x.2.1]))*32<=an) then (bif decide (0<=a)&&decide (a<=(BA x.1:Int))&&decide ((BA x.1:Int)<=(BA x.1:Int))&&true then (let j3:=((x.1.take (BB (BA x.1:Int))).drop (BB a));bif decide ((BA (([]++j2)++([x.2.1]))+BA j3)*32<=an) then (some (((([]++j2)++([x.2.1]))++j3,true,()),())) else none) else none) else none) else none) else none;bif decide (a<(BA x.1:Int)) then ((idx x.1 a).bind λy6=>bif decide (y6.1<x.2.1.1) then (r0 (wr .i64 (a+1))) else j1) else j1
def l0 (x:ab ps):A0->R:=ae (s0 K x) K
def pre (N0:A0->R)(x:ab ps):R:=(Q16.f K (x.1,x.2.1.1,())).bind λy1=>bif decide (y1.1.1>=0) then ((idx x.1 y1.1.1).bind λy2=>(Q19.f K (x.2.1,y2,())).bind λy3=>bif !y3.1.1 then (some ((x.1,false,()),())) else (bif decide ((BA ([]:List (Ty.den t2))+BA x.1)*32<=an) then ((idx ([]++x.1) y1.1.1).bind λ_=>(idx ([]++x.1) (BB y1.1.1:Nat)).bind λy5=>some ((([]++x.1).set (BB y1.1.1) x.2.1,true,()),())) else none)) else (N0 0)
def f (x:ab ps):R:=pre K (l0 K x) x
def c:Ctr:=⟨210,ps,rs,false,f K⟩
end Q29
namespace Q30
abbrev ps:List PK:=[.rd (.list false 143 t3),.rd t2]
abbrev rs:List RK:=[.v (.list false 143 t3)]
abbrev R:=Option (ai rs×ah ps)
abbrev A0:=List (Ty.den t3)×Bool×Int
def s0 (x:ab ps)(r0:A0->R)(a:A0):R:=let j3:=BA a.1+BA ([(x.2.1,4)]);bif decide (a.2.2<(BA x.1:Int)) then ((idx x.1 a.2.2).bind λy1=>let j2:R:=bif y1.1.1 != x.2.1.1 then ((idx x.1 a.2.2).bind λy4=>bif decide ((BA a.1+BA ([y4]))*40<=an) then (r0 (a.1++([y4]),a.2.1,wr .i64 (a.2.2+1))) else none) else (r0 (a.1,a.2.1,wr .i64 (a.2.2+1)));let j1:R:=bif !a.2.1 then (bif decide (y1.1.1>=x.2.1.1) then (bif decide (j3*40<=an) then (bif y1.1.1 != x.2.1.1 then ((idx x.1 a.2.2).bind λy3=>bif decide ((BA (a.1++([(x.2.1,4)]))+BA ([y3]))*40<=an) then (r0 ((a.1++([(x.2.1,4)]))++([y3]),true,wr .i64 (a.2.2+1))) else none) else (r0 (a.1++([(x.2.1,4)]),true,wr .i64 (a.2.2+1)))) else none) else j2) else j2;bif y1.1.1==x.2.1.1 then ((Q19.f K (x.2.1,y1.1,())).bind λy2=>bif !y2.1.1 then (some ((x.1,()),())) else j1) else j1) else (bif !a.2.1 then (bif decide (j3*40<=an) then (some ((a.1++([(x.2.1,4)]),()),())) else none) else (some ((a.1,()),())))
def l0 (x:ab ps):A0->R:=ae (s0 K x) K
def pre (K:Nat)(N0:A0->R)(x:ab ps):R:=N0 ([],false,0)
def f (x:ab ps):R:=pre K (l0 K x) x
def c:Ctr:=⟨215,ps,rs,false,f K⟩
end Q30
namespace Q31
abbrev ps:List PK:=[.rd t26,.rd t2,.rd I6]
abbrev rs:List RK:=[.v (.list true 112 t6)]
abbrev R:=Option (ai rs×ah ps)
abbrev A0:=List (Ty.den t6)×Bool×Int
def s0 (K:Nat)(x:ab ps)(r0:A0->R)(a:A0):R:=let j1:=[(x.2.1.1,x.2.1.2.1,x.1.2.2.2.2.2.1,[x.2.2.1])];let j3:=BA a.1+BA j1;bif decide (a.2.2<(BA x.1.2.2.2.2.2.2.2.2.2.2.2.1:Int)) then ((idx x.1.2.2.2.2.2.2.2.2.2.2.2.1 a.2.2).bind λy1=>let j2:R:=bif y1.1 != x.2.1.1 then (bif decide ((BA a.1+BA ([y1]))*48<=an) then (r0 (a.1++([y1]),a.2.1,wr .i64 (a.2.2+1))) else none) else (r0 (a.1,a.2.1,wr .i64 (a.2.2+1)));bif !a.2.1 then (bif decide (y1.1>=x.2.1.1) then (bif decide (j3*48<=an) then (bif y1.1 != x.2.1.1 then (bif decide ((BA (a.1++j1)+BA ([y1]))*48<=an) then (r0 ((a.1++j1)++([y1]),true,wr .i64 (a.2.2+1))) else none) else (r0 (a.1++j1,true,wr .i64 (a.2.2+1)))) else none) else j2) else j2) else (bif !a.2.1 then (bif decide (j3*48<=an) then (some ((a.1++j1,()),())) else none) else (some ((a.1,()),())))
def l0 (x:ab ps):A0->R:=ae (s0 K x) K
def pre (K:Nat)(N0:A0->R)(x:ab ps):R:=N0 ([],x.2.1.2.2.1 != 2,0)
def f (x:ab ps):R:=pre K (l0 K x) x
def c:Ctr:=⟨216,ps,rs,false,f K⟩
end Q31
namespace Q32
abbrev ps:List PK:=[.own t38,.rd t2,.rd I6]
abbrev rs:List RK:=[.v t38]
abbrev R:=Option (ai rs×ah ps)
def f (x:ab ps):R:=let b1:=x.1.2.2.2.2.2.2.2.2;(Q29.f K (b1.1,x.2.1,())).bind λy1=>bif !y1.1.2.1 then (some ((x.1,()),())) else ((Q16.f K (b1.1,x.2.1.1,())).bind λy2=>let j3:=(b1.2.1,x.2.1,());let j1:R:=(Q30.f K j3).bind λy7=>(Q31.f K ((zcp8 x.1 (y1.1.1,y7.1.1,b1.2.2)),x.2.1,x.2.2.1,())).bind λy8=>some (((zcp8 x.1 (y1.1.1,y7.1.1,b1.2.2.1,y8.1.1,b1.2.2.2.2)),()),());bif decide (y2.1.1>=0) then ((idx b1.1 y2.1.1).bind λy3=>bif y3.2.1==x.2.1.2.1 then ((idx b1.1 y2.1.1).bind λy4=>(Q30.f K j3).bind λy5=>let j2:=(zcp8 x.1 (y1.1.1,y5.1.1,b1.2.2));bif !(y4.2.2.1==x.2.1.2.2.1) then ((Q31.f K (j2,x.2.1,x.2.2.1,())).bind λy6=>some (((zcp8 x.1 (y1.1.1,y5.1.1,b1.2.2.1,y6.1.1,b1.2.2.2.2)),()),())) else (some ((j2,()),()))) else j1) else j1)
def c:Ctr:=⟨161,ps,rs,false,f K⟩
end Q32
namespace Q33
abbrev ps:List PK:=[.own t38,.rd t2]
abbrev rs:List RK:=[.v t38]
abbrev R:=Option (ai rs×ah ps)
def f (x:ab ps):R:=(Q16.f K (x.1.2.2.2.2.2.2.2.2.1,x.1.1,())).bind λy1=>(idx x.1.2.2.2.2.2.2.2.2.1 y1.1.1).bind λy2=>(Q19.f K (x.2.1,y2,())).bind λy3=>bif !y3.1.1 then (some ((x.1,()),())) else (bif decide (x.2.1.2.1>=999) then (some ((x.1,()),())) else ((Q32.f K ((zcp4 x.1 (wr .i64 (x.2.1.2.1+1),x.1.2.2.2.2.2)),(x.1.1,wr .i64 (x.2.1.2.1+1),1,x.1.2.2.2.1),x.1.1,())).bind λy4=>some ((y4.1.1,()),())))
def c:Ctr:=⟨159,ps,rs,false,f K⟩
end Q33
namespace Q34
abbrev ps:List PK:=[.own t38,.rd t2,.rd I6]
abbrev rs:List RK:=[.v t38]
abbrev R:=Option (ai rs×ah ps)
abbrev A1:=Int×Int×List (Ty.den t6)×Int×Int×Int×List (Ty.den I6)
abbrev A0:=Int×List (Ty.den t6)
def s1 (K:Nat)(x:ab ps)(r0:A0->R)(r1:A1->R)(a:A1):R:=let b1:=a.2.2.2.2.2;let j2:=(BA b1.2:Int);let j1:R:=bif decide (0<=0)&&decide (0<=a.2.1)&&decide (a.2.1<=j2)&&true then (let j3:=(b1.2.take (BB a.2.1)).drop (BB 0);bif decide ((BA ([]:List (Ty.den I6))+BA j3)*8<=an) then (bif decide ((BA ([]++j3)+BA ([x.2.2.1]))*8<=an) then (bif decide (0<=a.2.1)&&decide (a.2.1<=j2)&&decide (j2<=j2)&&true then (let j5:=(b1.2.take (BB j2)).drop (BB a.2.1);bif decide ((BA (([]++j3)++([x.2.2.1]))+BA j5)*8<=an) then ((idx a.2.2.1 a.1).bind λ_=>(idx a.2.2.1 (BB a.1:Nat)).bind λy5=>r0 (wr .i64 (a.1+1),a.2.2.1.set (BB a.1) (a.2.2.2.1,a.2.2.2.2.1,b1.1,(([]++j3)++([x.2.2.1]))++j5))) else none) else none) else none) else none) else none;let j4:R:=bif a.2.1==j2 then j1 else ((idx b1.2 a.2.1).bind λy6=>bif y6 != x.2.2.1 then j1 else (r0 (wr .i64 (a.1+1),a.2.2.1)));bif decide (a.2.1<j2) then ((idx b1.2 a.2.1).bind λy3=>bif decide (y3<x.2.2.1) then (r1 (a.1,wr .i64 (a.2.1+1),a.2.2)) else j4) else j4
def l1 (x:ab ps)(r0:A0->R):A1->R:=ae (s1 K x r0) K
def s0 (K:Nat)(x:ab ps)(N1:A1->R)(r0:A0->R)(a:A0):R:=let b1:=x.1.2.2.2.2.2.2.2.2;bif decide (a.1<(BA a.2:Int)) then ((idx a.2 a.1).bind λ_=>(idx a.2 (BB a.1:Nat)).bind λy2=>let j1:R:=r0 (wr .i64 (a.1+1),a.2);bif y2.1 != x.2.1.1 then j1 else (bif y2.2.1 != x.2.1.2.1 then j1 else (bif x.2.1.2.2.1 != 2 then j1 else (N1 (a.1,0,a.2,y2))))) else (some (((zcp8 x.1 (b1.1,b1.2.1,b1.2.2.1,a.2,b1.2.2.2.2)),()),()))
def l0 (x:ab ps):A0->R:=ae (λr0 a=>s0 K x (l1 K x r0) r0 a) K
def pre (K:Nat)(N0:A0->R)(x:ab ps):R:=N0 (0,x.1.2.2.2.2.2.2.2.2.2.2.2.1)
def f (x:ab ps):R:=pre K (l0 K x) x
def c:Ctr:=⟨160,ps,rs,false,f K⟩
def G (K:Nat):List Ctr:=[]
def v1:List (Nat×List Coe):=[(2,[.keep]),(3,[.keep]),(4,[.keep]),(6,[.keep]),(7,[.keep]),(8,[.keep]),(9,[.keep]),(100003,Kc3),(100004,Kc1),(100006,Kc2),(100008,Kc4)]
def v0:List (Nat×List Coe):=[(2,[.keep]),(3,[.keep]),(4,[.keep]),(6,[.keep]),(7,[.keep]),(100003,Kc3),(100004,Kc1),(100006,Kc2)]
def L:List (Nat×List (Nat×List Coe)):=[(8,v1),(3,v0)]
def body:Code:=cM Tryz.f160
abbrev ev:Code->St->(Ex->St->R)->R:=evK (G K) T_NS L K
abbrev fin:Ex->St->R:=db T_NS ps rs false Tryz.f160.results.toList
def S0 (x:ab ps)(a:A0):St:=av [(2,⟨0,.one,[.int .i64 x.2.2.1]⟩),(3,⟨0,.one,[.bp 100003 0]⟩),(4,⟨0,.one,[.bp 100004 0]⟩),(6,⟨0,.one,[.bp 100006 0]⟩),(7,⟨0,.one,[.int .i64 a.1]⟩),(100003,⟨0,.agg,[.int .i64 x.1.1,.bool x.1.2.1,.bool x.1.2.2.1,.bool x.1.2.2.2.1,.int .i64 x.1.2.2.2.2.1,.int .i64 x.1.2.2.2.2.2.1,.int .i64 x.1.2.2.2.2.2.2.1,.int .i64 x.1.2.2.2.2.2.2.2.1,.ro true 68 t2 x.1.2.2.2.2.2.2.2.2.1,.ro true 143 t3 x.1.2.2.2.2.2.2.2.2.2.1,.int .i64 x.1.2.2.2.2.2.2.2.2.2.2.1.1,.int .i64 x.1.2.2.2.2.2.2.2.2.2.2.1.2.1,.int .i64 x.1.2.2.2.2.2.2.2.2.2.2.1.2.2.1,.bool x.1.2.2.2.2.2.2.2.2.2.2.1.2.2.2,.own true none 112 t6 a.2,.int .i64 x.1.2.2.2.2.2.2.2.2.2.2.2.2.1.1,.int .i64 x.1.2.2.2.2.2.2.2.2.2.2.2.2.1.2.1,.int .i64 x.1.2.2.2.2.2.2.2.2.2.2.2.2.1.2.2.1,.int .i64 x.1.2.2.2.2.2.2.2.2.2.2.2.2.1.2.2.2,.ro true 115 t11 x.1.2.2.2.2.2.2.2.2.2.2.2.2.2.1,.ro true 117 t12 x.1.2.2.2.2.2.2.2.2.2.2.2.2.2.2]⟩),(100004,⟨0,.agg,(w1 x.2.1)⟩),(100006,⟨0,.agg,[.int .i64 0,.bool false,.bool false,.bool false,.int .i64 0,.int .i64 0,.int .i64 0,.int .i64 0,.nil,.nil,.int .i64 0,.int .i64 0,.int .i64 0,.bool false,.nil,.int .i64 0,.int .i64 0,.int .i64 0,.int .i64 0,.nil,.nil]⟩)]
def S1 (x:ab ps)(a:A1):St:=av [(2,⟨0,.one,[.int .i64 x.2.2.1]⟩),(3,⟨0,.one,[.bp 100003 0]⟩),(4,⟨0,.one,[.bp 100004 0]⟩),(6,⟨0,.one,[.bp 100006 0]⟩),(7,⟨0,.one,[.int .i64 a.1]⟩),(8,⟨0,.one,[.bp 100008 0]⟩),(9,⟨0,.one,[.int .i64 a.2.1]⟩),(100003,⟨0,.agg,[.int .i64 x.1.1,.bool x.1.2.1,.bool x.1.2.2.1,.bool x.1.2.2.2.1,.int .i64 x.1.2.2.2.2.1,.int .i64 x.1.2.2.2.2.2.1,.int .i64 x.1.2.2.2.2.2.2.1,.int .i64 x.1.2.2.2.2.2.2.2.1,.ro true 68 t2 x.1.2.2.2.2.2.2.2.2.1,.ro true 143 t3 x.1.2.2.2.2.2.2.2.2.2.1,.int .i64 x.1.2.2.2.2.2.2.2.2.2.2.1.1,.int .i64 x.1.2.2.2.2.2.2.2.2.2.2.1.2.1,.int .i64 x.1.2.2.2.2.2.2.2.2.2.2.1.2.2.1,.bool x.1.2.2.2.2.2.2.2.2.2.2.1.2.2.2,.own true none 112 t6 a.2.2.1,.int .i64 x.1.2.2.2.2.2.2.2.2.2.2.2.2.1.1,.int .i64 x.1.2.2.2.2.2.2.2.2.2.2.2.2.1.2.1,.int .i64 x.1.2.2.2.2.2.2.2.2.2.2.2.2.1.2.2.1,.int .i64 x.1.2.2.2.2.2.2.2.2.2.2.2.2.1.2.2.2,.ro true 115 t11 x.1.2.2.2.2.2.2.2.2.2.2.2.2.2.1,.ro true 117 t12 x.1.2.2.2.2.2.2.2.2.2.2.2.2.2.2]⟩),(100004,⟨0,.agg,(w1 x.2.1)⟩),(100006,⟨0,.agg,[.int .i64 0,.bool false,.bool false,.bool false,.int .i64 0,.int .i64 0,.int .i64 0,.int .i64 0,.nil,.nil,.int .i64 0,.int .i64 0,.int .i64 0,.bool false,.nil,.int .i64 0,.int .i64 0,.int .i64 0,.int .i64 0,.nil,.nil]⟩),(100008,⟨0,.agg,(wa0 a.2.2.2)⟩)]
def k0 (x:ab ps):Ex->St->R:=kAt (ev K) body [1,0,1,0] fin
def N0 (x:ab ps):A0->R:=λa=>aV v0 (ev K (sub body [1,0,1,0,0])) K (S0 x a) (k0 K x)
def k1 (x:ab ps)(q0:St->R):Ex->St->R:=kAt (ev K) (sub body [1,0,1,0,0]) [1,0,0,1,1,1,0,0] (gG v0 q0 (k0 K x))
def N1 (x:ab ps)(q0:St->R):A1->R:=λa=>aV v1 (ev K (sub body [1,0,1,0,0,1,0,0,1,1,1,0,0,0])) K (S1 x a) (k1 K x q0)
end Q34
namespace Q35
abbrev ps:List PK:=[.own t38,.rd (.list false 68 t2),.rd I6]
abbrev rs:List RK:=[.v t38]
abbrev R:=Option (ai rs×ah ps)
abbrev A0:=Int×Int×Bool×Bool×Bool×Int×Int×Int×Int×List (Ty.den t2)×List (Ty.den t3)×Int×Int×Int×Bool×List (Ty.den t6)×Int×Int×Int×Int×List (Ty.den t11)×List (Ty.den t12)
def s0 (x:ab ps)(r0:A0->R)(a:A0):R:=bif decide (a.1<(BA x.2.1:Int)) then ((idx x.2.1 a.1).bind λy1=>bif y1.1==a.2.1 then ((Q33.f K (zc286a0 a.2 (y1,()))).bind λy2=>r0 (wr .i64 (a.1+1),(zc3ec45 y2.1.1))) else ((Q32.f K (zc286a0 a.2 (y1,x.2.2.1,()))).bind λy3=>(Q34.f K (y3.1.1,y1,x.2.2.1,())).bind λy4=>r0 (wr .i64 (a.1+1),(zc3ec45 y4.1.1)))) else (some ((zc286a0 a.2 ()),()))
def l0 (x:ab ps):A0->R:=ae (s0 K x) K
def pre (K:Nat)(N0:A0->R)(x:ab ps):R:=N0 (0,(zc3ec45 x.1))
def f (x:ab ps):R:=pre K (l0 K x) x
def c:Ctr:=⟨104,ps,rs,false,f K⟩
end Q35
namespace Q36
abbrev ps:List PK:=[.own (.list true 68 t2),.rd t2]
abbrev rs:List RK:=[.v (.list true 68 t2),.v .bool]
abbrev R:=Option (ai rs×ah ps)
abbrev A0:=Int
def s0 (K:Nat)(x:ab ps)(r0:A0->R)(a:A0):R:=let j1:R:=bif decide (0<=0)&&decide (0<=a)&&decide (a<=(BA x.1:Int))&&true then (let j2:=(x.1.take (BB a)).drop (BB 0);bif decide ((BA ([]:List (Ty.den t2))+BA j2)*32<=an) then (bif decide ((BA ([]++j2)+BA ([x.2.1]))*32<=an) then (bif decide (0<=a)&&decide (a<=(BA x.1:Int))&&decide ((BA x.1:Int)<=(BA x.1:Int))&&true then (let j3:=((x.1.take (BB (BA x.1:Int))).drop (BB a));bif decide ((BA (([]++j2)++([x.2.1]))+BA j3)*32<=an) then (some (((([]++j2)++([x.2.1]))++j3,true,()),())) else none) else none) else none) else none) else none;bif decide (a<(BA x.1:Int)) then ((idx x.1 a).bind λ_=>(idx x.1 (BB a:Nat)).bind λy8=>bif decide (y8.1<x.2.1.1) then (r0 (wr .i64 (a+1))) else j1) else j1
def l0 (x:ab ps):A0->R:=ae (s0 K x) K
def pre (N0:A0->R)(x:ab ps):R:=(Q16.f K (x.1,x.2.1.1,())).bind λy1=>bif decide (y1.1.1>=0) then ((idx x.1 y1.1.1).bind λ_=>(idx x.1 (BB y1.1.1:Nat)).bind λy3=>(Q19.f K (x.2.1,y3,())).bind λy4=>bif !y4.1.1 then (some ((x.1,false,()),())) else (bif decide ((BA ([]:List (Ty.den t2))+BA x.1)*32<=an) then ((idx ([]++x.1) y1.1.1).bind λ_=>(idx ([]++x.1) (BB y1.1.1:Nat)).bind λy6=>some ((([]++x.1).set (BB y1.1.1) x.2.1,true,()),())) else none)) else (N0 0)
def f (x:ab ps):R:=pre K (l0 K x) x
def c:Ctr:=⟨210,ps,rs,true,f K⟩
end Q36
namespace Q37
abbrev ps:List PK:=[.rd (.list false 68 t2),.rd (.list false 68 t2)]
abbrev rs:List RK:=[.v (.list true 68 t2)]
abbrev R:=Option (ai rs×ah ps)
abbrev A0:=List (Ty.den t2)×Int
def s0 (x:ab ps)(r0:A0->R)(a:A0):R:=bif decide (a.2<(BA x.2.1:Int)) then ((idx x.2.1 a.2).bind λy3=>(Q36.f K (a.1,y3,())).bind λy4=>r0 (y4.1.1,wr .i64 (a.2+1))) else (some ((a.1,()),()))
def l0 (x:ab ps):A0->R:=ae (s0 K x) K
def pre (N0:A0->R)(x:ab ps):R:=(Q13.f K (x.1,())).bind λy1=>bif !y1.1.1 then (some (([],()),())) else ((Q13.f K (x.2.1,())).bind λy2=>bif !y2.1.1 then (some (([],()),())) else (bif decide ((BA ([]:List (Ty.den t2))+BA x.1)*32<=an) then (N0 ([]++x.1,0)) else none))
def f (x:ab ps):R:=pre K (l0 K x) x
def c:Ctr:=⟨208,ps,rs,true,f K⟩
end Q37
namespace Q38
abbrev ps:List PK:=[.rd t26,.rd I6,.rd (.list false 68 t2)]
abbrev rs:List RK:=[.v (.list true 68 t2)]
abbrev R:=Option (ai rs×ah ps)
abbrev A0:=Int
def s0 (x:ab ps)(r0:A0->R)(a:A0):R:=let b1:=x.1.2.2.2.2.2.2.2.2.2.2.2.2.2.2;bif decide (a<(BA b1:Int)) then ((idx b1 a).bind λy1=>bif y1.1==x.2.1 then ((idx b1 a).bind λy2=>(Q37.f K (y2.2,x.2.2.1,())).bind λy3=>some ((y3.1.1,()),())) else (r0 (wr .i64 (a+1)))) else (bif decide ((BA ([]:List (Ty.den t2))+BA x.2.2.1)*32<=an) then (some (([]++x.2.2.1,()),())) else none)
def l0 (x:ab ps):A0->R:=ae (s0 K x) K
def pre (K:Nat)(N0:A0->R)(x:ab ps):R:=N0 0
def f (x:ab ps):R:=pre K (l0 K x) x
def c:Ctr:=⟨153,ps,rs,true,f K⟩
end Q38
namespace Q39
abbrev ps:List PK:=[.own t38,.rd I6,.rd (.list false 68 t2)]
abbrev rs:List RK:=[.v t38]
abbrev R:=Option (ai rs×ah ps)
abbrev A0:=List (Ty.den t12)×Bool×Int
def s0 (K:Nat)(x:ab ps)(r0:A0->R)(a:A0):R:=let b2:=x.1.2.2.2.2.2.2.2.2;let b1:=b2.2.2.2.2;let j2:=BA a.1+BA ([(x.2.1,x.2.2.1)]);bif decide (a.2.2<(BA b1.2.2:Int)) then ((idx b1.2.2 a.2.2).bind λy1=>let j1:R:=bif y1.1 != x.2.1 then (bif decide ((BA a.1+BA ([y1]))*32<=an) then (r0 (a.1++([y1]),a.2.1,wr .i64 (a.2.2+1))) else none) else (r0 (a.1,a.2.1,wr .i64 (a.2.2+1)));bif !a.2.1 then (bif decide (y1.1>=x.2.1) then (bif decide (j2*32<=an) then (bif y1.1 != x.2.1 then (let j3:=a.1++([(x.2.1,x.2.2.1)]);bif decide ((BA j3+BA ([y1]))*32<=an) then (r0 (j3++([y1]),true,wr .i64 (a.2.2+1))) else none) else (r0 (a.1++([(x.2.1,x.2.2.1)]),true,wr .i64 (a.2.2+1)))) else none) else j1) else j1) else (bif !a.2.1 then (bif decide (j2*32<=an) then (some (((zcp8 x.1 (zcp4 b2 (b1.1,b1.2.1,a.1++([(x.2.1,x.2.2.1)])))),()),())) else none) else (some (((zcp8 x.1 (zcp4 b2 (b1.1,b1.2.1,a.1))),()),())))
def l0 (x:ab ps):A0->R:=ae (s0 K x) K
def pre (K:Nat)(N0:A0->R)(x:ab ps):R:=N0 ([],false,0)
def f (x:ab ps):R:=pre K (l0 K x) x
def c:Ctr:=⟨154,ps,rs,false,f K⟩
end Q39
namespace Q40
abbrev ps:List PK:=[.rd (.list false 68 t2),.rd (.list false 68 t2)]
abbrev rs:List RK:=[.v .bool]
abbrev R:=Option (ai rs×ah ps)
abbrev A0:=Int
def s0 (K:Nat)(x:ab ps)(r0:A0->R)(a:A0):R:=bif decide (a<(BA x.1:Int)) then ((idx x.1 a).bind λy1=>(idx x.2.1 a).bind λy2=>bif !Ty.eqv t2 y1 y2 then (some ((true,()),())) else (r0 (wr .i64 (a+1)))) else (some ((false,()),()))
def l0 (x:ab ps):A0->R:=ae (s0 K x) K
def pre (K:Nat)(N0:A0->R)(x:ab ps):R:=bif (BA x.1:Int) != (BA x.2.1:Int) then (some ((true,()),())) else (N0 0)
def f (x:ab ps):R:=pre K (l0 K x) x
def c:Ctr:=⟨155,ps,rs,true,f K⟩
end Q40
namespace Q41
abbrev ps:List PK:=[.rd t26,.rd I6,.rd I6,.rd I6,.rd I6,.rd (.list false 68 t2)]
abbrev rs:List RK:=[.v t47]
abbrev R:=Option (ai rs×ah ps)
def f (K:Nat)(x:ab ps):R:=bif decide ((BA ([]:List (Ty.den t2))+BA x.2.2.2.2.2.1)*32<=an) then (some (((1,x.2.1,x.1.1,x.2.2.1,x.2.2.2.1,x.2.2.2.2.1,x.1.2.2.2.2.2.2.2.2.2.2.2.2.1,[]++x.2.2.2.2.2.1),()),())) else none
def c:Ctr:=⟨156,ps,rs,true,f K⟩
end Q41
namespace Q42
abbrev ps:List PK:=[.own t38,.rd t47]
abbrev rs:List RK:=[.v t38,.v (.list true 51 t47)]
abbrev R:=Option (ai rs×ah ps)
def f (x:ab ps):R:=let b1:=x.2.1.2.2.2.2.2.2.2;(Q15.f K (x.1.1,())).bind λy1=>(Q14.f K (b1,y1.1.1,())).bind λy2=>bif y2.1.1 then ((Q35.f K (x.1,b1,x.1.1,())).bind λy3=>some ((y3.1.1,[],()),())) else ((idx b1 0).bind λy4=>(Q15.f K (y4.1,())).bind λy5=>(Q38.f K (x.1,y5.1.1,b1,())).bind λy6=>(Q39.f K (x.1,y5.1.1,y6.1.1,())).bind λy7=>bif x.2.1.1==2 then ((Q40.f K (b1,y6.1.1,())).bind λy8=>bif y8.1.1 then ((Q41.f K (y7.1.1,6,x.2.1.2.2.1,0,x.1.1,y6.1.1,())).bind λy9=>some ((y7.1.1,[(2,y9.1.1.2)],()),())) else (some ((y7.1.1,[],()),()))) else (some ((y7.1.1,[],()),())))
def c:Ctr:=⟨102,ps,rs,false,f K⟩
end Q42
namespace Q43
abbrev ps:List PK:=[.rd (.list false 143 t3),.rd (.list false 4 .bool)]
abbrev rs:List RK:=[.v I6]
abbrev R:=Option (ai rs×ah ps)
abbrev A0:=Int×Int
def s0 (K:Nat)(x:ab ps)(r0:A0->R)(a:A0):R:=bif decide (a.2<(BA x.1:Int)) then ((idx x.2.1 a.2).bind λy1=>bif !y1 then (bif decide (a.1<0) then (r0 (a.2,wr .i64 (a.2+1))) else ((idx x.1 a.2).bind λy2=>(idx x.1 a.1).bind λy3=>bif decide (y2.2>y3.2) then (r0 (a.2,wr .i64 (a.2+1))) else (r0 (a.1,wr .i64 (a.2+1))))) else (r0 (a.1,wr .i64 (a.2+1)))) else (some ((a.1,()),()))
def l0 (x:ab ps):A0->R:=ae (s0 K x) K
def pre (K:Nat)(N0:A0->R)(x:ab ps):R:=N0 ((-1),0)
def f (x:ab ps):R:=pre K (l0 K x) x
def c:Ctr:=⟨256,ps,rs,true,f K⟩
end Q43
namespace Q44
abbrev ps:List PK:=[.rd (.list false 143 t3),.rd I6]
abbrev rs:List RK:=[.v (.list true 68 t2),.v (.list true 143 t3)]
abbrev R:=Option (ai rs×ah ps)
abbrev A1:=List (Ty.den .bool)×List (Ty.den t2)×List (Ty.den t3)×Int
abbrev A0:=List (Ty.den .bool)×Int
def s1 (K:Nat)(x:ab ps)(r1:A1->R)(a:A1):R:=let b2:=a.2.2.1;let b1:=a.2.2.2;bif decide (b1<(BA x.1:Int)) then ((idx x.1 b1).bind λy2=>(idx a.1 b1).bind λ_=>(idx a.1 (BB b1:Nat)).bind λy4=>bif y4 then (bif decide ((BA a.2.1+BA ([y2.1]))*32<=an) then (bif decide ((wr .i64 (y2.2-1))>0) then (let j1:=[(y2.1,wr .i64 (y2.2-1))];bif decide ((BA b2+BA j1)*40<=an) then (r1 (a.1,a.2.1++([y2.1]),b2++j1,wr .i64 (b1+1))) else none) else (r1 (a.1,a.2.1++([y2.1]),b2,wr .i64 (b1+1)))) else none) else (bif decide (y2.2>0) then (bif decide ((BA b2+BA ([y2]))*40<=an) then (r1 (a.1,a.2.1,b2++([y2]),wr .i64 (b1+1))) else none) else (r1 (a.1,a.2.1,b2,wr .i64 (b1+1))))) else (some ((a.2.1,b2,()),()))
def l1 (x:ab ps):A1->R:=ae (s1 K x) K
def s0 (x:ab ps)(N1:A1->R)(r0:A0->R)(a:A0):R:=bif decide (a.2<x.2.1) then ((Q43.f K (x.1,a.1,())).bind λy1=>bif decide (y1.1.1<0) then (N1 (a.1,[],[],0)) else ((idx a.1 y1.1.1).bind λ_=>(idx a.1 (BB y1.1.1:Nat)).bind λy6=>r0 (a.1.set (BB y1.1.1) true,wr .i64 (a.2+1)))) else (N1 (a.1,[],[],0))
def l0 (x:ab ps):A0->R:=ae (s0 K x (l1 K x)) K
def pre (K:Nat)(N0:A0->R)(x:ab ps):R:=bif decide (0<=(BA x.1:Int))&&decide ((BA x.1:Int)=(BA x.1:Int))&&decide ((BA x.1:Int)*(1:Nat)<=an) then (N0 (List.replicate (BB (BA x.1:Int)) (false:Ty.den .bool),0)) else none
def f (x:ab ps):R:=pre K (l0 K x) x
def c:Ctr:=⟨209,ps,rs,true,f K⟩
def G:List Ctr:=[Q43.c K]
def v1:List (Nat×List Coe):=[(0,[.ro true 143 t3]),(6,[.own false 4 .bool]),(9,[.own false 68 t2]),(10,[.own false 143 t3]),(11,[.keep])]
def v0:List (Nat×List Coe):=[(0,[.ro true 143 t3]),(1,[.keep]),(6,[.own false 4 .bool]),(7,[.keep])]
def L:List (Nat×List (Nat×List Coe)):=[(12,v1),(4,v0)]
def body:Code:=cM Tryz.f209
abbrev ev:Code->St->(Ex->St->R)->R:=evK (G K) T_S L K
abbrev fin:Ex->St->R:=db T_S ps rs true Tryz.f209.results.toList
def S0 (x:ab ps)(a:A0):St:=av [(0,⟨0,.one,[.ro true 143 t3 x.1]⟩),(1,⟨0,.one,[.int .i64 x.2.1]⟩),(6,⟨0,.one,[.own false none 4 .bool a.1]⟩),(7,⟨0,.one,[.int .i64 a.2]⟩)]
def S1 (x:ab ps)(a:A1):St:=av [(0,⟨0,.one,[.ro true 143 t3 x.1]⟩),(6,⟨0,.one,[.own false none 4 .bool a.1]⟩),(9,⟨0,.one,[.own false none 68 t2 a.2.1]⟩),(10,⟨0,.one,[.own false none 143 t3 a.2.2.1]⟩),(11,⟨0,.one,[.int .i64 a.2.2.2]⟩)]
def k0 (x:ab ps):Ex->St->R:=kAt (ev K) body [1,1,0,1,0] fin
def N0 (x:ab ps):A0->R:=λa=>aV v0 (ev K (sub body [1,1,0,1,0,0])) K (S0 x a) (k0 K x)
def k1 (x:ab ps):Ex->St->R:=kAt (ev K) body [1,1,1,1,1,0,1,0] fin
def N1 (x:ab ps):A1->R:=λa=>aV v1 (ev K (sub body [1,1,1,1,1,0,1,0,0])) K (S1 x a) (k1 K x)
end Q44
namespace Q45
abbrev ps:List PK:=[.own t38,.rd I6]
abbrev rs:List RK:=[.v (.list true 68 t2),.v t38]
abbrev R:=Option (ai rs×ah ps)
def f (x:ab ps):R:=let b1:=x.1.2.2.2.2.2.2.2.2;(Q44.f K (b1.2.1,3,())).bind λy1=>(Q16.f K (b1.1,x.2.1,())).bind λy2=>let j1:=(zcp8 x.1 (b1.1,y1.1.2.1,b1.2.2));bif decide (y2.1.1>=0) then ((idx b1.1 y2.1.1).bind λy3=>bif y3.2.2.1==2 then ((idx b1.1 y2.1.1).bind λy4=>(Q36.f K (y1.1.1,y4,())).bind λy5=>some ((y5.1.1,j1,()),())) else (some ((y1.1.1,j1,()),()))) else (some ((y1.1.1,j1,()),()))
def c:Ctr:=⟨157,ps,rs,false,f K⟩
end Q45
namespace Q46
abbrev ps:List PK:=[.rd I6,.rd I6,.rd I6]
abbrev rs:List RK:=[.v I6]
abbrev R:=Option (ai rs×ah ps)
def f (K:Nat)(x:ab ps):R:=bif decide (x.1<x.2.1) then (some ((x.2.1,()),())) else (bif decide (x.1>x.2.2.1) then (some ((x.2.2.1,()),())) else (some ((x.1,()),())))
def c:Ctr:=⟨211,ps,rs,true,f K⟩
end Q46
namespace Q47
abbrev ps:List PK:=[.rd (.list false 3 I6),.rd I6]
abbrev rs:List RK:=[.v (.list false 3 I6)]
abbrev R:=Option (ai rs×ah ps)
def f (K:Nat)(x:ab ps):R:=bif decide ((BA ([]:List (Ty.den I6))+BA x.1)*8<=an) then (bif decide ((BA ([]++x.1)+BA ([x.2.1]))*8<=an) then (bif decide ((BA (([]++x.1)++([x.2.1])):Int)>3) then (bif decide (0<=(wr .i64 ((BA (([]++x.1)++([x.2.1])):Int)-3)))&&decide ((wr .i64 ((BA (([]++x.1)++([x.2.1])):Int)-3))<=(BA (([]++x.1)++([x.2.1])):Int))&&decide ((BA (([]++x.1)++([x.2.1])):Int)<=(BA (([]++x.1)++([x.2.1])):Int))&&true then (some ((((([]++x.1)++([x.2.1])).take (BB (BA (([]++x.1)++([x.2.1])):Int))).drop (BB (wr .i64 ((BA (([]++x.1)++([x.2.1])):Int)-3))),()),())) else none) else (some ((([]++x.1)++([x.2.1]),()),()))) else none) else none
def c:Ctr:=⟨257,ps,rs,true,f K⟩
end Q47
namespace Q48
abbrev ps:List PK:=[.rd (.list false 115 t11),.rd I6,.rd t9,.rd I6]
abbrev rs:List RK:=[.v (.list true 115 t11)]
abbrev R:=Option (ai rs×ah ps)
abbrev A0:=List (Ty.den t11)×Bool×Int×List (Ty.den I6)
def s0 (x:ab ps)(r0:A0->R)(a:A0):R:=let b1:=a.2.2.1;bif decide (b1<(BA x.1:Int)) then ((idx x.1 b1).bind λy1=>let j5:=BA a.1+BA ([y1]);bif y1.1==x.2.1 then (let j2:R:=bif y1.1 != x.2.1 then (bif decide (j5*64<=an) then (r0 (a.1++([y1]),a.2.1,wr .i64 (b1+1),y1.2.2)) else none) else (r0 (a.1,a.2.1,wr .i64 (b1+1),y1.2.2));bif !a.2.1 then (bif decide (y1.1>=x.2.1) then ((Q47.f K (y1.2.2,x.2.2.2.1,())).bind λy2=>let j3:=[(x.2.1,x.2.2.1,y2.1.1)];bif decide ((BA a.1+BA j3)*64<=an) then (bif y1.1 != x.2.1 then (bif decide ((BA (a.1++j3)+BA ([y1]))*64<=an) then (r0 ((a.1++j3)++([y1]),true,wr .i64 (b1+1),y2.1.1)) else none) else (r0 (a.1++j3,true,wr .i64 (b1+1),y2.1.1))) else none) else j2) else j2) else (let j1:R:=bif y1.1 != x.2.1 then (bif decide (j5*64<=an) then (r0 (a.1++([y1]),a.2.1,wr .i64 (b1+1),a.2.2.2)) else none) else (r0 (a.1,a.2.1,wr .i64 (b1+1),a.2.2.2));bif !a.2.1 then (bif decide (y1.1>=x.2.1) then ((Q47.f K (a.2.2.2,x.2.2.2.1,())).bind λy3=>let j4:=[(x.2.1,x.2.2.1,y3.1.1)];bif decide ((BA a.1+BA j4)*64<=an) then (bif y1.1 != x.2.1 then (bif decide ((BA (a.1++j4)+BA ([y1]))*64<=an) then (r0 ((a.1++j4)++([y1]),true,wr .i64 (b1+1),y3.1.1)) else none) else (r0 (a.1++j4,true,wr .i64 (b1+1),y3.1.1))) else none) else j1) else j1)) else (bif !a.2.1 then ((Q47.f K (a.2.2.2,x.2.2.2.1,())).bind λy4=>let j6:=[(x.2.1,x.2.2.1,y4.1.1)];bif decide ((BA a.1+BA j6)*64<=an) then (some ((a.1++j6,()),())) else none) else (some ((a.1,()),())))
def l0 (x:ab ps):A0->R:=ae (s0 K x) K
def pre (K:Nat)(N0:A0->R)(x:ab ps):R:=N0 ([],false,0,[])
def f (x:ab ps):R:=pre K (l0 K x) x
def c:Ctr:=⟨212,ps,rs,false,f K⟩
end Q48
namespace Q49
abbrev ps:List PK:=[.rd I6]
abbrev rs:List RK:=[.v I6]
abbrev R:=Option (ai rs×ah ps)
def f (x:ab ps):R:=(Q46.f K (x.1,(-1000000000),1000000000,())).bind λy1=>some ((y1.1.1,()),())
def c:Ctr:=⟨291,ps,rs,true,f K⟩
end Q49
namespace Q50
abbrev ps:List PK:=[.rd I6]
abbrev rs:List RK:=[.v I6]
abbrev R:=Option (ai rs×ah ps)
abbrev A0:=Int×Int
def s0 (K:Nat)(x:ab ps)(r0:A0->R)(a:A0):R:=bif decide (a.1<a.2) then (let j1:=BC (wr .i64 ((wr .i64 (a.1+a.2))+1)) 2;bif decide (wr .i64 j1=0) then none else (bif decide ((wr .i64 j1)<=(wr .i64 (BC x.1 (wr .i64 j1)))) then (r0 (wr .i64 j1,a.2)) else (r0 (a.1,wr .i64 ((wr .i64 j1)-1))))) else (some ((a.1,()),()))
def l0 (x:ab ps):A0->R:=ae (s0 K x) K
def pre (K:Nat)(N0:A0->R)(x:ab ps):R:=N0 (0,1500000000)
def f (x:ab ps):R:=pre K (l0 K x) x
def c:Ctr:=⟨292,ps,rs,true,f K⟩
end Q50
namespace Q51
abbrev ps:List PK:=[.rd I6,.rd I6]
abbrev rs:List RK:=[.v I6]
abbrev R:=Option (ai rs×ah ps)
def f (x:ab ps):R:=(Q49.f K (x.1,())).bind λy1=>(Q49.f K (x.2.1,())).bind λy2=>(Q50.f K (wr .i64 ((wr .i64 (y1.1.1*y1.1.1))+(wr .i64 (y2.1.1*y2.1.1))),())).bind λy3=>(Q49.f K (y3.1.1,())).bind λy4=>some ((y4.1.1,()),())
def c:Ctr:=⟨260,ps,rs,true,f K⟩
end Q51
namespace Q52
abbrev ps:List PK:=[.rd t9,.rd t9]
abbrev rs:List RK:=[.v I6]
abbrev R:=Option (ai rs×ah ps)
def f (x:ab ps):R:=(Q23.f K (x.1,())).bind λy1=>bif !y1.1.1 then (some ((0,()),())) else ((Q23.f K (x.2.1,())).bind λy2=>bif !y2.1.1 then (some ((0,()),())) else ((Q51.f K (wr .i64 (x.1.1-x.2.1.1),wr .i64 (x.1.2.1-x.2.1.2.1),())).bind λy3=>some ((wr .i64 ((wr .i64 (y3.1.1+x.1.2.2.1))+x.2.1.2.2.1),()),())))
def c:Ctr:=⟨258,ps,rs,true,f K⟩
end Q52
namespace Q53
abbrev ps:List PK:=[.rd t9,.rd t9,.rd I6]
abbrev rs:List RK:=[.v I6]
abbrev R:=Option (ai rs×ah ps)
def f (K:Nat)(x:ab ps):R:=bif decide (wr .i64 (x.1.2.2.2+x.2.1.2.2.2)=0) then none else (some ((wr .i64 (BC (wr .i64 (BC (wr .i64 (x.2.2.1*x.1.2.2.2)) (wr .i64 (x.1.2.2.2+x.2.1.2.2.2)))) 4),()),()))
def c:Ctr:=⟨259,ps,rs,true,f K⟩
end Q53
namespace Q54
abbrev ps:List PK:=[.rd I6]
abbrev rs:List RK:=[.v I6,.v I6]
abbrev R:=Option (ai rs×ah ps)
def f (K:Nat)(x:ab ps):R:=bif (bA .i64 x.1 3)==0 then (some ((1,0,()),())) else (bif (bA .i64 x.1 3)==1 then (some ((0,1,()),())) else (bif (bA .i64 x.1 3)==2 then (some (((-1),0,()),())) else (some ((0,(-1),()),()))))
def c:Ctr:=⟨261,ps,rs,true,f K⟩
end Q54
namespace Q55
abbrev ps:List PK:=[.rd I6]
abbrev rs:List RK:=[.v I6]
abbrev R:=Option (ai rs×ah ps)
def f (K:Nat)(x:ab ps):R:=bif decide (x.1<0) then (some ((wr .i64 (0-x.1),()),())) else (some ((x.1,()),()))
def c:Ctr:=⟨293,ps,rs,true,f K⟩
end Q55
namespace Q56
abbrev ps:List PK:=[.rd t9,.rd t9,.rd I6,.rd I6]
abbrev rs:List RK:=[.v I6]
abbrev R:=Option (ai rs×ah ps)
def f (x:ab ps):R:=let b1:=x.1.2.2.2;(Q55.f K (x.2.2.1,())).bind λy1=>bif decide (x.2.2.2.1=0) then none else ((Q46.f K (wr .i64 (BC (wr .i64 (y1.1.1*1000)) x.2.2.2.1),0,1500,())).bind λy2=>bif decide (wr .i64 (b1+x.2.1.2.2.2)=0) then none else ((Q46.f K (wr .i64 (b1+(wr .i64 (BC (wr .i64 (BC (wr .i64 ((wr .i64 (y2.1.1-b1))*b1)) (wr .i64 (b1+x.2.1.2.2.2)))) 4))),1,1500,())).bind λy3=>some ((y3.1.1,()),())))
def c:Ctr:=⟨262,ps,rs,true,f K⟩
end Q56
namespace Q57
abbrev ps:List PK:=[.rd t9,.rd t9,.rd I6,.rd I6]
abbrev rs:List RK:=[.v t9]
abbrev R:=Option (ai rs×ah ps)
def f (x:ab ps):R:=(Q23.f K (x.1,())).bind λy1=>bif !y1.1.1 then (some (((0,0,0,0),()),())) else ((Q23.f K (x.2.1,())).bind λy2=>bif !y2.1.1 then (some ((x.1,()),())) else ((Q11.f K (x.2.2.1,1,60000,())).bind λy3=>bif !y3.1.1 then (some ((x.1,()),())) else ((Q52.f K (x.1,x.2.1,())).bind λy4=>(Q53.f K (x.1,x.2.1,wr .i64 (x.2.2.1-y4.1.1),())).bind λy5=>(Q51.f K (wr .i64 (x.1.1-x.2.1.1),wr .i64 (x.1.2.1-x.2.1.2.1),())).bind λy6=>let j1:=(x.1,x.2.1,wr .i64 (x.2.2.1-y4.1.1),x.2.2.1,());let j2:=(wr .i64 (x.1.2.2.1+(wr .i64 (BC y5.1.1 4))),0,100000,());bif y6.1.1==0 then ((Q54.f K (x.2.2.2.1,())).bind λy7=>bif decide (y5.1.1<0) then (let j3:=wr .i64 (BC (wr .i64 (y5.1.1*0)) 1);(Q46.f K (wr .i64 (x.1.1+j3),(-100000),100000,())).bind λy8=>(Q46.f K (wr .i64 (x.1.2.1+j3),(-100000),100000,())).bind λy9=>(Q46.f K j2).bind λy10=>(Q56.f K j1).bind λy11=>some (((y8.1.1,y9.1.1,y10.1.1,y11.1.1),()),())) else ((Q46.f K (wr .i64 (x.1.1+(wr .i64 (BC (wr .i64 (y5.1.1*y7.1.1)) 1))),(-100000),100000,())).bind λy12=>(Q46.f K (wr .i64 (x.1.2.1+(wr .i64 (BC (wr .i64 (y5.1.1*y7.1.2.1)) 1))),(-100000),100000,())).bind λy13=>(Q46.f K j2).bind λy14=>(Q56.f K j1).bind λy15=>some (((y12.1.1,y13.1.1,y14.1.1,y15.1.1),()),()))) else (let j4:=wr .i64 (x.1.2.1-x.2.1.2.1);let j5:=wr .i64 (x.1.1-x.2.1.1);bif decide (y5.1.1<(wr .i64 (0-y6.1.1))) then (bif decide (y6.1.1=0) then none else ((Q46.f K (wr .i64 (x.1.1+(wr .i64 (BC (wr .i64 ((wr .i64 (0-y6.1.1))*j5)) y6.1.1))),(-100000),100000,())).bind λy16=>bif decide (y6.1.1=0) then none else ((Q46.f K (wr .i64 (x.1.2.1+(wr .i64 (BC (wr .i64 ((wr .i64 (0-y6.1.1))*j4)) y6.1.1))),(-100000),100000,())).bind λy17=>(Q46.f K (wr .i64 (x.1.2.2.1+(wr .i64 (BC (wr .i64 (0-y6.1.1)) 4))),0,100000,())).bind λy18=>(Q56.f K j1).bind λy19=>some (((y16.1.1,y17.1.1,y18.1.1,y19.1.1),()),())))) else (bif decide (y6.1.1=0) then none else ((Q46.f K (wr .i64 (x.1.1+(wr .i64 (BC (wr .i64 (y5.1.1*j5)) y6.1.1))),(-100000),100000,())).bind λy20=>bif decide (y6.1.1=0) then none else ((Q46.f K (wr .i64 (x.1.2.1+(wr .i64 (BC (wr .i64 (y5.1.1*j4)) y6.1.1))),(-100000),100000,())).bind λy21=>(Q46.f K j2).bind λy22=>(Q56.f K j1).bind λy23=>some (((y20.1.1,y21.1.1,y22.1.1,y23.1.1),()),()))))))))
def c:Ctr:=⟨213,ps,rs,true,f K⟩
end Q57
namespace Q58
abbrev ps:List PK:=[.rd (.list false 3 I6)]
abbrev rs:List RK:=[.v I6]
abbrev R:=Option (ai rs×ah ps)
abbrev A1:=List (Ty.den I6)×List (Ty.den I6)×Int×Int
abbrev A0:=List (Ty.den I6)×List (Ty.den I6)×Int
def s1 (K:Nat)(x:ab ps)(r0:A0->R)(r1:A1->R)(a:A1):R:=let b1:=a.2.2.2;let j3:=(BA a.2.1:Int);let j1:R:=bif decide (0<=0)&&decide (0<=b1)&&decide (b1<=j3)&&true then (let j2:=(a.2.1.take (BB b1)).drop (BB 0);bif decide ((BA ([]:List (Ty.den I6))+BA j2)*8<=an) then ((idx a.1 a.2.2.1).bind λy3=>bif decide ((BA ([]++j2)+BA ([y3]))*8<=an) then (bif decide (0<=b1)&&decide (b1<=j3)&&decide (j3<=j3)&&true then (let j4:=(a.2.1.take (BB j3)).drop (BB b1);bif decide ((BA (([]++j2)++([y3]))+BA j4)*8<=an) then (r0 (a.1,(([]++j2)++([y3]))++j4,wr .i64 (a.2.2.1+1))) else none) else none) else none) else none) else none;bif decide (b1<j3) then ((idx a.2.1 b1).bind λy1=>(idx a.1 a.2.2.1).bind λy2=>bif decide (y1<=y2) then (r1 (a.1,a.2.1,a.2.2.1,wr .i64 (b1+1))) else j1) else j1
def l1 (x:ab ps)(r0:A0->R):A1->R:=ae (s1 K x r0) K
def s0 (K:Nat)(x:ab ps)(N1:A1->R)(r0:A0->R)(a:A0):R:=bif decide (a.2.2<(BA a.1:Int)) then (N1 (a.1,a.2.1,a.2.2,0)) else (bif (BA a.2.1:Int)==0 then (some ((0,()),())) else ((idx a.2.1 (wr .i64 (BC (wr .i64 ((BA a.2.1:Int)-1)) 2))).bind λy5=>some ((y5,()),())))
def l0 (x:ab ps):A0->R:=ae (λr0 a=>s0 K x (l1 K x r0) r0 a) K
def pre (K:Nat)(N0:A0->R)(x:ab ps):R:=bif decide ((BA x.1:Int)>3) then (let j1:=(wr .i64 ((BA x.1:Int)-3));bif decide (0<=j1)&&decide (j1<=(BA x.1:Int))&&decide ((BA x.1:Int)<=(BA x.1:Int))&&true then (N0 ((x.1.take (BB (BA x.1:Int))).drop (BB j1),[],0)) else none) else (N0 (x.1,[],0))
def f (x:ab ps):R:=pre K (l0 K x) x
def c:Ctr:=⟨214,ps,rs,true,f K⟩
def G (K:Nat):List Ctr:=[]
def v1:List (Nat×List Coe):=[(3,[.ro true 3 I6]),(4,[.ro false 3 I6]),(5,[.keep]),(6,[.keep])]
def v0:List (Nat×List Coe):=[(3,[.ro true 3 I6]),(4,[.ro false 3 I6]),(5,[.keep])]
def L:List (Nat×List (Nat×List Coe)):=[(10,v1),(7,v0)]
def body:Code:=cM Tryz.f214
abbrev ev:Code->St->(Ex->St->R)->R:=evK (G K) T_S L K
abbrev fin:Ex->St->R:=db T_S ps rs true Tryz.f214.results.toList
def S0 (x:ab ps)(a:A0):St:=av [(3,⟨0,.one,[.ro true 3 I6 a.1]⟩),(4,⟨0,.one,[.ro false 3 I6 a.2.1]⟩),(5,⟨0,.one,[.int .i64 a.2.2]⟩)]
def S1 (x:ab ps)(a:A1):St:=av [(3,⟨0,.one,[.ro true 3 I6 a.1]⟩),(4,⟨0,.one,[.ro false 3 I6 a.2.1]⟩),(5,⟨0,.one,[.int .i64 a.2.2.1]⟩),(6,⟨0,.one,[.int .i64 a.2.2.2]⟩)]
def k0 (x:ab ps):Ex->St->R:=kAt (ev K) body [1,1,1,1,0,1,0] fin
def N0 (x:ab ps):A0->R:=λa=>aV v0 (ev K (sub body [1,1,1,1,0,1,0,0])) K (S0 x a) (k0 K x)
def k1 (x:ab ps)(q0:St->R):Ex->St->R:=kAt (ev K) (sub body [1,1,1,1,0,1,0,0]) [1,0,0,1,0,0] (gG v0 q0 (k0 K x))
def N1 (x:ab ps)(q0:St->R):A1->R:=λa=>aV v1 (ev K (sub body [1,1,1,1,0,1,0,0,1,0,0,1,0,0,0])) K (S1 x a) (k1 K x q0)
end Q58
namespace Q59
abbrev ps:List PK:=[.own t38,.rd t47]
abbrev rs:List RK:=[.v t38]
abbrev R:=Option (ai rs×ah ps)
abbrev A0:=Int×Int×Int×Int×Int×List (Ty.den t11)
def s0 (x:ab ps)(r0:A0->R)(a:A0):R:=let b2:=x.1.2.2.2.2.2.2.2.2;let b1:=a.2.2.2.2.2;let j1:=(a.2.1,a.2.2.1,a.2.2.2.1,a.2.2.2.2.1);bif decide (a.1<(BA b1:Int)) then ((idx b1 a.1).bind λ_=>(idx b1 (BB a.1:Nat)).bind λy4=>bif y4.1==x.2.1.2.2.1 then ((idx b1 a.1).bind λ_=>(idx b1 (BB a.1:Nat)).bind λy6=>(Q58.f K (y6.2.2,())).bind λy7=>(Q57.f K (j1,x.2.1.2.2.2.2.2.2.1,y7.1.1,x.2.1.2.2.2.2.1,())).bind λy8=>r0 (wr .i64 (a.1+1),(zc00556 y8.1.1 b1))) else (r0 (wr .i64 (a.1+1),a.2))) else (some (((zcp8 x.1 (b2.1,b2.2.1,((-1),0,0,false),b2.2.2.2.1,j1,b1,b2.2.2.2.2.2.2)),()),()))
def l0 (x:ab ps):A0->R:=ae (s0 K x) K
def pre (N0:A0->R)(x:ab ps):R:=let b2:=x.2.1.2.2;let b1:=x.1.2.2.2.2.2.2.2.2.2.2;bif decide (b1.1.1<0) then (some ((x.1,()),())) else (bif b1.1.1 != b2.1 then (some ((x.1,()),())) else (bif b1.1.2.2.1 != b2.2.2.1 then (some ((x.1,()),())) else (bif b2.2.2.2.1 != b2.1 then (some ((x.1,()),())) else ((Q46.f K (wr .i64 ((wr .i64 ((wr .i64 (x.1.2.2.2.2.2.1-b1.1.2.1))*1000))+500),1,60000,())).bind λy1=>(Q48.f K (b1.2.2.2.1,b2.1,b2.2.2.2.2.1,y1.1.1,())).bind λy2=>N0 (0,(zc00556 b1.2.2.1 y2.1.1))))))
def f (x:ab ps):R:=pre K (l0 K x) x
def c:Ctr:=⟨158,ps,rs,false,f K⟩
end Q59
namespace Q60
abbrev ps:List PK:=[.own t38,.rd t47]
abbrev rs:List RK:=[.v t38,.v (.list true 51 t47)]
abbrev R:=Option (ai rs×ah ps)
def f (x:ab ps):R:=let b2:=x.2.1.2;let b1:=b2.2.2.2.2.1;(Q15.f K (x.1.1,())).bind λy1=>let j1:R:=some ((x.1,[],()),());let j2:=(x.1,b1,());bif b2.1==1 then ((Q15.f K (b1,())).bind λy2=>bif y2.1.1 != y1.1.1 then j1 else (bif b1==x.1.1 then j1 else ((Q45.f K j2).bind λy3=>(Q41.f K (y3.1.2.1,2,b1,b2.2.2.2.1,x.1.1,y3.1.1,())).bind λy4=>some ((y3.1.2.1,[y4.1.1],()),())))) else (bif b2.1==3 then ((Q15.f K (b1,())).bind λy5=>bif y5.1.1 != y1.1.1 then j1 else (bif b1==x.1.1 then j1 else (bif b1==b2.2.1 then j1 else ((Q45.f K j2).bind λy6=>(Q41.f K (y6.1.2.1,1,b1,b2.2.2.2.1,b2.2.1,y6.1.1,())).bind λy7=>some ((y6.1.2.1,[y7.1.1],()),()))))) else (bif b2.1==4 then ((Q41.f K (x.1,5,b2.2.1,0,x.1.1,x.1.2.2.2.2.2.2.2.2.1,())).bind λy8=>some ((x.1,[y8.1.1],()),())) else (bif b2.1==2 then ((Q59.f K (x.1,x.2.1,())).bind λy9=>some ((y9.1.1,[],()),())) else j1)))
def c:Ctr:=⟨103,ps,rs,false,f K⟩
end Q60
namespace Q61
abbrev ps:List PK:=[.own t38,.rd t47]
abbrev rs:List RK:=[.v t38,.v (.list true 51 t47)]
abbrev R:=Option (ai rs×ah ps)
def f (x:ab ps):R:=(Q27.f K (x.2.1,())).bind λy1=>bif !y1.1.1 then (some ((x.1,[],()),())) else ((Q28.f K (x.1,x.2.1,())).bind λy2=>bif !y2.1.1 then (some ((x.1,[],()),())) else (bif x.2.1.2.1==6 then ((Q42.f K (x.1,x.2.1,())).bind λy3=>some ((y3.1.1,y3.1.2.1,()),())) else ((Q35.f K (x.1,x.2.1.2.2.2.2.2.2.2,x.2.1.2.2.1,())).bind λy4=>(Q60.f K (y4.1.1,x.2.1,())).bind λy5=>some ((y5.1.1,y5.1.2.1,()),()))))
def c:Ctr:=⟨38,ps,rs,false,f K⟩
end Q61
namespace Q62
abbrev ps:List PK:=[.rd t26]
abbrev rs:List RK:=[.v t66]
abbrev R:=Option (ai rs×ah ps)
abbrev A2:=Int×List (Ty.den t6)×List (Ty.den t11)×List (Ty.den t12)
abbrev A1:=Int×List (Ty.den t6)×List (Ty.den t11)
abbrev A0:=Int×List (Ty.den t6)
def s2 (K:Nat)(x:ab ps)(r2:A2->R)(a:A2):R:=let b1:=x.1.2.2.2.2.2.2.2.2;bif decide (a.1<(BA b1.2.2.2.2.2.2:Int)) then ((idx b1.2.2.2.2.2.2 a.1).bind λy3=>bif decide ((BA ([]:List (Ty.den t2))+BA y3.2)*32<=an) then (bif decide ((BA a.2.2.2+BA ([(y3.1,[]++y3.2)]))*32<=an) then (r2 (wr .i64 (a.1+1),a.2.1,a.2.2.1,a.2.2.2++([(y3.1,[]++y3.2)]))) else none) else none) else (some (((zcp8 x.1 ([]++b1.1,[]++b1.2.1,b1.2.2.1,a.2.1,b1.2.2.2.2.1,a.2.2)),()),()))
def l2 (x:ab ps):A2->R:=ae (s2 K x) K
def s1 (K:Nat)(x:ab ps)(N2:A2->R)(r1:A1->R)(a:A1):R:=let b1:=x.1.2.2.2.2.2.2.2.2.2.2.2.2.2.1;bif decide (a.1<(BA b1:Int)) then ((idx b1 a.1).bind λy2=>bif decide ((BA ([]:List (Ty.den I6))+BA y2.2.2)*8<=an) then (bif decide ((BA a.2.2+BA ([(y2.1,y2.2.1,[]++y2.2.2)]))*64<=an) then (r1 (wr .i64 (a.1+1),a.2.1,a.2.2++([(y2.1,y2.2.1,[]++y2.2.2)]))) else none) else none) else (N2 (0,a.2.1,a.2.2,[]))
def l1 (x:ab ps):A1->R:=ae (s1 K x (l2 K x)) K
def s0 (K:Nat)(x:ab ps)(N1:A1->R)(r0:A0->R)(a:A0):R:=bif decide (a.1<(BA x.1.2.2.2.2.2.2.2.2.2.2.2.1:Int)) then ((idx x.1.2.2.2.2.2.2.2.2.2.2.2.1 a.1).bind λy1=>bif decide ((BA ([]:List (Ty.den I6))+BA y1.2.2.2)*8<=an) then (bif decide ((BA a.2+BA ([(y1.1,y1.2.1,y1.2.2.1,[]++y1.2.2.2)]))*48<=an) then (r0 (wr .i64 (a.1+1),a.2++([(y1.1,y1.2.1,y1.2.2.1,[]++y1.2.2.2)]))) else none) else none) else (N1 (0,a.2,[]))
def l0 (x:ab ps):A0->R:=ae (s0 K x (l1 K x)) K
def pre (K:Nat)(N0:A0->R)(x:ab ps):R:=bif decide ((BA ([]:List (Ty.den t2))+BA x.1.2.2.2.2.2.2.2.2.1)*32<=an) then (bif decide ((BA ([]:List (Ty.den t3))+BA x.1.2.2.2.2.2.2.2.2.2.1)*40<=an) then (N0 (0,[])) else none) else none
def f (x:ab ps):R:=pre K (l0 K x) x
def c:Ctr:=⟨39,ps,rs,true,f K⟩
def G (K:Nat):List Ctr:=[]
def v2:List (Nat×List Coe):=[(1,[.keep]),(2,[.keep]),(3,[.keep]),(8,[.keep]),(100001,Kc0),(100002,Kc2),(100003,[.keep,.keep,.keep,.keep,.keep,.keep,.keep,.keep,.own false 68 t2,.own false 143 t3,.keep,.keep,.keep,.keep,.own false 112 t6,.keep,.keep,.keep,.keep,.own false 115 t11,.own false 117 t12])]
def v1:List (Nat×List Coe):=[(1,[.keep]),(2,[.keep]),(3,[.keep]),(6,[.keep]),(100001,Kc0),(100002,Kc2),(100003,[.keep,.keep,.keep,.keep,.keep,.keep,.keep,.keep,.own false 68 t2,.own false 143 t3,.keep,.keep,.keep,.keep,.own false 112 t6,.keep,.keep,.keep,.keep,.own false 115 t11,.ro true 117 t12])]
def v0:List (Nat×List Coe):=[(1,[.keep]),(2,[.keep]),(3,[.keep]),(4,[.keep]),(100001,Kc0),(100002,Kc2),(100003,[.keep,.keep,.keep,.keep,.keep,.keep,.keep,.keep,.own false 68 t2,.own false 143 t3,.keep,.keep,.keep,.keep,.own false 112 t6,.keep,.keep,.keep,.keep,.ro true 115 t11,.ro true 117 t12])]
def L:List (Nat×List (Nat×List Coe)):=[(21,v2),(14,v1),(7,v0)]
def body:Code:=cM Tryz.f39
abbrev ev:Code->St->(Ex->St->R)->R:=evK (G K) T_ND L K
abbrev fin:Ex->St->R:=db T_ND ps rs true Tryz.f39.results.toList
def S0 (x:ab ps)(a:A0):St:=av [(1,⟨0,.one,[.bp 100001 0]⟩),(2,⟨0,.one,[.bp 100002 0]⟩),(3,⟨0,.one,[.bp 100003 0]⟩),(4,⟨0,.one,[.int .i64 a.1]⟩),(100001,⟨0,.agg,(w0 x.1)⟩),(100002,⟨0,.agg,[.int .i64 0,.bool false,.bool false,.bool false,.int .i64 0,.int .i64 0,.int .i64 0,.int .i64 0,.nil,.nil,.int .i64 0,.int .i64 0,.int .i64 0,.bool false,.nil,.int .i64 0,.int .i64 0,.int .i64 0,.int .i64 0,.nil,.nil]⟩),(100003,⟨0,.agg,[.int .i64 x.1.1,.bool x.1.2.1,.bool x.1.2.2.1,.bool x.1.2.2.2.1,.int .i64 x.1.2.2.2.2.1,.int .i64 x.1.2.2.2.2.2.1,.int .i64 x.1.2.2.2.2.2.2.1,.int .i64 x.1.2.2.2.2.2.2.2.1,.own false none 68 t2 ([]++x.1.2.2.2.2.2.2.2.2.1),.own false none 143 t3 ([]++x.1.2.2.2.2.2.2.2.2.2.1),.int .i64 x.1.2.2.2.2.2.2.2.2.2.2.1.1,.int .i64 x.1.2.2.2.2.2.2.2.2.2.2.1.2.1,.int .i64 x.1.2.2.2.2.2.2.2.2.2.2.1.2.2.1,.bool x.1.2.2.2.2.2.2.2.2.2.2.1.2.2.2,.own false none 112 t6 a.2,.int .i64 x.1.2.2.2.2.2.2.2.2.2.2.2.2.1.1,.int .i64 x.1.2.2.2.2.2.2.2.2.2.2.2.2.1.2.1,.int .i64 x.1.2.2.2.2.2.2.2.2.2.2.2.2.1.2.2.1,.int .i64 x.1.2.2.2.2.2.2.2.2.2.2.2.2.1.2.2.2,.ro true 115 t11 x.1.2.2.2.2.2.2.2.2.2.2.2.2.2.1,.ro true 117 t12 x.1.2.2.2.2.2.2.2.2.2.2.2.2.2.2]⟩)]
def S1 (x:ab ps)(a:A1):St:=av [(1,⟨0,.one,[.bp 100001 0]⟩),(2,⟨0,.one,[.bp 100002 0]⟩),(3,⟨0,.one,[.bp 100003 0]⟩),(6,⟨0,.one,[.int .i64 a.1]⟩),(100001,⟨0,.agg,(w0 x.1)⟩),(100002,⟨0,.agg,[.int .i64 0,.bool false,.bool false,.bool false,.int .i64 0,.int .i64 0,.int .i64 0,.int .i64 0,.nil,.nil,.int .i64 0,.int .i64 0,.int .i64 0,.bool false,.nil,.int .i64 0,.int .i64 0,.int .i64 0,.int .i64 0,.nil,.nil]⟩),(100003,⟨0,.agg,[.int .i64 x.1.1,.bool x.1.2.1,.bool x.1.2.2.1,.bool x.1.2.2.2.1,.int .i64 x.1.2.2.2.2.1,.int .i64 x.1.2.2.2.2.2.1,.int .i64 x.1.2.2.2.2.2.2.1,.int .i64 x.1.2.2.2.2.2.2.2.1,.own false none 68 t2 ([]++x.1.2.2.2.2.2.2.2.2.1),.own false none 143 t3 ([]++x.1.2.2.2.2.2.2.2.2.2.1),.int .i64 x.1.2.2.2.2.2.2.2.2.2.2.1.1,.int .i64 x.1.2.2.2.2.2.2.2.2.2.2.1.2.1,.int .i64 x.1.2.2.2.2.2.2.2.2.2.2.1.2.2.1,.bool x.1.2.2.2.2.2.2.2.2.2.2.1.2.2.2,.own false none 112 t6 a.2.1,.int .i64 x.1.2.2.2.2.2.2.2.2.2.2.2.2.1.1,.int .i64 x.1.2.2.2.2.2.2.2.2.2.2.2.2.1.2.1,.int .i64 x.1.2.2.2.2.2.2.2.2.2.2.2.2.1.2.2.1,.int .i64 x.1.2.2.2.2.2.2.2.2.2.2.2.2.1.2.2.2,.own false none 115 t11 a.2.2,.ro true 117 t12 x.1.2.2.2.2.2.2.2.2.2.2.2.2.2.2]⟩)]
def S2 (x:ab ps)(a:A2):St:=av [(1,⟨0,.one,[.bp 100001 0]⟩),(2,⟨0,.one,[.bp 100002 0]⟩),(3,⟨0,.one,[.bp 100003 0]⟩),(8,⟨0,.one,[.int .i64 a.1]⟩),(100001,⟨0,.agg,(w0 x.1)⟩),(100002,⟨0,.agg,[.int .i64 0,.bool false,.bool false,.bool false,.int .i64 0,.int .i64 0,.int .i64 0,.int .i64 0,.nil,.nil,.int .i64 0,.int .i64 0,.int .i64 0,.bool false,.nil,.int .i64 0,.int .i64 0,.int .i64 0,.int .i64 0,.nil,.nil]⟩),(100003,⟨0,.agg,[.int .i64 x.1.1,.bool x.1.2.1,.bool x.1.2.2.1,.bool x.1.2.2.2.1,.int .i64 x.1.2.2.2.2.1,.int .i64 x.1.2.2.2.2.2.1,.int .i64 x.1.2.2.2.2.2.2.1,.int .i64 x.1.2.2.2.2.2.2.2.1,.own false none 68 t2 ([]++x.1.2.2.2.2.2.2.2.2.1),.own false none 143 t3 ([]++x.1.2.2.2.2.2.2.2.2.2.1),.int .i64 x.1.2.2.2.2.2.2.2.2.2.2.1.1,.int .i64 x.1.2.2.2.2.2.2.2.2.2.2.1.2.1,.int .i64 x.1.2.2.2.2.2.2.2.2.2.2.1.2.2.1,.bool x.1.2.2.2.2.2.2.2.2.2.2.1.2.2.2,.own false none 112 t6 a.2.1,.int .i64 x.1.2.2.2.2.2.2.2.2.2.2.2.2.1.1,.int .i64 x.1.2.2.2.2.2.2.2.2.2.2.2.2.1.2.1,.int .i64 x.1.2.2.2.2.2.2.2.2.2.2.2.2.1.2.2.1,.int .i64 x.1.2.2.2.2.2.2.2.2.2.2.2.2.1.2.2.2,.own false none 115 t11 a.2.2.1,.own false none 117 t12 a.2.2.2]⟩)]
def k0 (x:ab ps):Ex->St->R:=kAt (ev K) body [1,1,1,1,1,0,1,0] fin
def N0 (x:ab ps):A0->R:=λa=>aV v0 (ev K (sub body [1,1,1,1,1,0,1,0,0])) K (S0 x a) (k0 K x)
def k1 (x:ab ps):Ex->St->R:=kAt (ev K) body [1,1,1,1,1,1,1,0,1,0] fin
def N1 (x:ab ps):A1->R:=λa=>aV v1 (ev K (sub body [1,1,1,1,1,1,1,0,1,0,0])) K (S1 x a) (k1 K x)
def k2 (x:ab ps):Ex->St->R:=kAt (ev K) body [1,1,1,1,1,1,1,1,1,0,1,0] fin
def N2 (x:ab ps):A2->R:=λa=>aV v2 (ev K (sub body [1,1,1,1,1,1,1,1,1,0,1,0,0])) K (S2 x a) (k2 K x)
end Q62
namespace Q63
abbrev ps:List PK:=[.rd t26,.rd t47]
abbrev rs:List RK:=[.v t38,.v (.list true 51 t47)]
abbrev R:=Option (ai rs×ah ps)
def f (x:ab ps):R:=(Q26.f K (x.1,())).bind λy1=>bif !y1.1.1 then (some (((0,false,false,false,0,0,0,0,[],[],(0,0,0,false),[],(0,0,0,0),[],[]),[],()),())) else ((Q62.f K (x.1,())).bind λy2=>(Q61.f K (y2.1.1,x.2.1,())).bind λy3=>(Q62.f K (y3.1.1,())).bind λy4=>some ((y4.1.1,y3.1.2.1,()),()))
def c:Ctr:=⟨11,ps,rs,false,f K⟩
end Q63
namespace Q64
abbrev ps:List PK:=[.rd I6,.rd I6,.rd I6]
abbrev rs:List RK:=[.v .bool]
abbrev R:=Option (ai rs×ah ps)
def f (K:Nat)(x:ab ps):R:=bif decide (x.1>=x.2.1) then (some ((decide (x.1<=x.2.2.1),()),())) else (some ((false,()),()))
def c:Ctr:=⟨132,ps,rs,true,f K⟩
end Q64
namespace Q65
abbrev ps:List PK:=[.rd I6]
abbrev rs:List RK:=[.v .bool]
abbrev R:=Option (ai rs×ah ps)
def f (x:ab ps):R:=(Q64.f K (x.1,0,7,())).bind λy1=>some ((y1.1.1,()),())
def c:Ctr:=⟨131,ps,rs,true,f K⟩
end Q65
namespace Q66
abbrev ps:List PK:=[.rd t26]
abbrev rs:List RK:=[.v .bool]
abbrev R:=Option (ai rs×ah ps)
def f (K:Nat)(x:ab ps):R:=let b2:=x.1.2.2.2.2;let b1:=b2.2.2.2;let j1:R:=some ((false,()),());bif !x.1.2.2.1 then (bif b2.1==0 then (bif b2.2.1==0 then (bif b2.2.2.1==0 then (bif b1.1==0 then (bif (wr .i64 ((wr .i64 ((wr .i64 ((wr .i64 ((BA b1.2.1:Int)+(BA b1.2.2.1:Int)))+(BA b1.2.2.2.2.1:Int)))+(BA b1.2.2.2.2.2.2.1:Int)))+(BA b1.2.2.2.2.2.2.2:Int)))==0 then (bif Ty.eqv t2 b1.2.2.2.1 (0,0,0,false) then (some ((Ty.eqv t9 b1.2.2.2.2.2.1 (0,0,0,0),()),())) else j1) else j1) else j1) else j1) else j1) else j1) else j1
def c:Ctr:=⟨133,ps,rs,true,f K⟩
end Q66
namespace Q67
abbrev ps:List PK:=[.rd t2]
abbrev rs:List RK:=[.v .bool]
abbrev R:=Option (ai rs×ah ps)
def f (x:ab ps):R:=(Q65.f K (x.1.1,())).bind λy1=>bif y1.1.1 then ((Q64.f K (x.1.2.1,0,999,())).bind λy2=>bif y2.1.1 then ((Q64.f K (x.1.2.2.1,1,4,())).bind λy3=>some ((y3.1.1,()),())) else (some ((false,()),()))) else (some ((false,()),()))
def c:Ctr:=⟨142,ps,rs,true,f K⟩
end Q67
namespace Q68
abbrev ps:List PK:=[.rd (.list false 68 t2)]
abbrev rs:List RK:=[.v .bool]
abbrev R:=Option (ai rs×ah ps)
abbrev A0:=Int
def s0 (x:ab ps)(r0:A0->R)(a:A0):R:=bif decide (a<(BA x.1:Int)) then ((idx x.1 a).bind λy1=>(Q67.f K (y1,())).bind λy2=>bif !y2.1.1 then (some ((false,()),())) else (bif decide (a>0) then ((idx x.1 (wr .i64 (a-1))).bind λy3=>bif decide (y1.1<=y3.1) then (some ((false,()),())) else (r0 (wr .i64 (a+1)))) else (r0 (wr .i64 (a+1))))) else (some ((true,()),()))
def l0 (x:ab ps):A0->R:=ae (s0 K x) K
def pre (K:Nat)(N0:A0->R)(x:ab ps):R:=N0 0
def f (x:ab ps):R:=pre K (l0 K x) x
def c:Ctr:=⟨84,ps,rs,true,f K⟩
end Q68
namespace Q69
abbrev ps:List PK:=[.rd (.list false 68 t2),.rd I6,.fn [t2,I6] I6]
abbrev rs:List RK:=[.v I6,.v .bool]
abbrev R:=Option (ai rs×ah ps)
abbrev A0:=Int×Int
def s0 (K:Nat)(x:ab ps)(r0:A0->R)(a:A0):R:=bif decide (a.1<a.2) then (let j1:=BD (wr .u64 (wr .i64 (a.1+a.2))) (2 ^ 1);(idx x.1 (wr .i64 j1)).bind λy1=>(x.2.2.1 (y1,x.2.1,())).bind λy2=>bif decide (y2<0) then (r0 (wr .i64 ((wr .i64 j1)+1),a.2)) else (r0 (a.1,wr .i64 j1))) else (bif decide (a.1<(BA x.1:Int)) then ((idx x.1 a.1).bind λy3=>(x.2.2.1 (y3,x.2.1,())).bind λy4=>some ((a.1,y4==0,()),())) else (some ((a.1,false,()),())))
def l0 (x:ab ps):A0->R:=ae (s0 K x) K
def pre (K:Nat)(N0:A0->R)(x:ab ps):R:=N0 (0,(BA x.1:Int))
def f (x:ab ps):R:=pre K (l0 K x) x
def c:Ctr:=⟨145,ps,rs,true,f K⟩
end Q69
namespace Q70
abbrev ps:List PK:=[.rd I6]
abbrev rs:List RK:=[.v .bool]
abbrev R:=Option (ai rs×ah ps)
def f (K:Nat)(x:ab ps):R:=some ((x.1 != x.1,()),())
def c:Ctr:=⟨207,ps,rs,true,f K⟩
end Q70
namespace Q71
abbrev ps:List PK:=[.rd I6,.rd I6]
abbrev rs:List RK:=[.v I6]
abbrev R:=Option (ai rs×ah ps)
def f (x:ab ps):R:=(Q70.f K (x.1,())).bind λy1=>(Q70.f K (x.2.1,())).bind λy2=>bif y1.1.1 then (bif y2.1.1 then (some ((0,()),())) else (some (((-1),()),()))) else (bif y2.1.1 then (some ((1,()),())) else (bif decide (x.1<x.2.1) then (some (((-1),()),())) else (bif decide (x.1>x.2.1) then (some ((1,()),())) else (some ((0,()),())))))
def c:Ctr:=⟨147,ps,rs,true,f K⟩
end Q71
namespace Q72
abbrev ps:List PK:=[.rd t2,.rd I6]
abbrev rs:List RK:=[.v I6]
abbrev R:=Option (ai rs×ah ps)
def f (x:ab ps):R:=(Q71.f K (x.1.1,x.2.1,())).bind λy1=>some ((y1.1.1,()),())
def c:Ctr:=⟨146,ps,rs,true,f K⟩
end Q72
namespace Q73
abbrev ps:List PK:=[.rd (.list false 68 t2),.rd I6]
abbrev rs:List RK:=[.v I6,.v .bool]
abbrev R:=Option (ai rs×ah ps)
def f (x:ab ps):R:=(Q69.f K (x.1,x.2.1,λy1=>(Q72.f K (y1.1,y1.2.1,())).map λy=>y.1.1,())).bind λy2=>some ((y2.1.1,y2.1.2.1,()),())
def c:Ctr:=⟨87,ps,rs,true,f K⟩
end Q73
namespace Q74
abbrev ps:List PK:=[.rd (.list false 68 t2),.rd I6]
abbrev rs:List RK:=[.v t2,.v .bool]
abbrev R:=Option (ai rs×ah ps)
def f (x:ab ps):R:=(Q68.f K (x.1,())).bind λy1=>let j1:=(((0,0,0,false),false,()),());bif !y1.1.1 then (some j1) else ((Q73.f K (x.1,x.2.1,())).bind λy2=>bif !y2.1.2.1 then (some j1) else ((idx x.1 y2.1.1).bind λy3=>some ((y3,true,()),())))
def c:Ctr:=⟨30,ps,rs,true,f K⟩
end Q74
namespace Q75
abbrev ps:List PK:=[.rd (.list false 68 t2),.fn [t2] .bool]
abbrev rs:List RK:=[.v I6]
abbrev R:=Option (ai rs×ah ps)
abbrev A0:=Int
def s0 (K:Nat)(x:ab ps)(r0:A0->R)(a:A0):R:=bif decide (a<(BA x.1:Int)) then ((idx x.1 a).bind λy1=>(x.2.1 (y1,())).bind λy2=>bif y2 then (some ((a,()),())) else (r0 (wr .i64 (a+1)))) else (some (((-1),()),()))
def l0 (x:ab ps):A0->R:=ae (s0 K x) K
def pre (K:Nat)(N0:A0->R)(x:ab ps):R:=N0 0
def f (x:ab ps):R:=pre K (l0 K x) x
def c:Ctr:=⟨203,ps,rs,true,f K⟩
end Q75
namespace Q76
abbrev ps:List PK:=[.rd (.list false 68 t2),.fn [t2] .bool]
abbrev rs:List RK:=[.v .bool]
abbrev R:=Option (ai rs×ah ps)
def f (x:ab ps):R:=(Q75.f K (x.1,x.2.1,())).bind λy1=>some ((decide (y1.1.1>=0),()),())
def c:Ctr:=⟨140,ps,rs,true,f K⟩
end Q76
namespace Q77
abbrev ps:List PK:=[.rd I6]
abbrev rs:List RK:=[.v I6]
abbrev R:=Option (ai rs×ah ps)
def f (K:Nat)(x:ab ps):R:=some ((wr .i64 (BC x.1 4),()),())
def c:Ctr:=⟨81,ps,rs,true,f K⟩
end Q77
namespace Q78
abbrev ps:List PK:=[.rd t2,.rref I6]
abbrev rs:List RK:=[.v .bool]
abbrev R:=Option (ai rs×ah ps)
def f (x:ab ps):R:=(Q77.f K (x.1.1,())).bind λy1=>some ((y1.1.1 != x.2.1,()),())
def c:Ctr:=⟨141,ps,rs,true,f K⟩
end Q78
namespace Q79
abbrev ps:List PK:=[.rd (.list false 68 t2),.rd I6]
abbrev rs:List RK:=[.v .bool]
abbrev R:=Option (ai rs×ah ps)
def f (x:ab ps):R:=(Q76.f K (x.1,λy1=>(Q78.f K (y1.1,x.2.1,())).map λy=>y.1.1,())).bind λy2=>some ((!y2.1.1,()),())
def c:Ctr:=⟨79,ps,rs,true,f K⟩
end Q79
namespace Q80
abbrev ps:List PK:=[.rd t26]
abbrev rs:List RK:=[.v I6]
abbrev R:=Option (ai rs×ah ps)
def f (x:ab ps):R:=(Q77.f K (x.1.1,())).bind λy1=>some ((y1.1.1,()),())
def c:Ctr:=⟨80,ps,rs,true,f K⟩
end Q80
namespace Q81
abbrev ps:List PK:=[.rd (.list false 143 t3),.fn [t3] .bool]
abbrev rs:List RK:=[.v I6]
abbrev R:=Option (ai rs×ah ps)
abbrev A0:=Int
def s0 (K:Nat)(x:ab ps)(r0:A0->R)(a:A0):R:=bif decide (a<(BA x.1:Int)) then ((idx x.1 a).bind λy1=>(x.2.1 (y1,())).bind λy2=>bif y2 then (some ((a,()),())) else (r0 (wr .i64 (a+1)))) else (some (((-1),()),()))
def l0 (x:ab ps):A0->R:=ae (s0 K x) K
def pre (K:Nat)(N0:A0->R)(x:ab ps):R:=N0 0
def f (x:ab ps):R:=pre K (l0 K x) x
def c:Ctr:=⟨253,ps,rs,true,f K⟩
end Q81
namespace Q82
abbrev ps:List PK:=[.rd (.list false 143 t3),.fn [t3] .bool]
abbrev rs:List RK:=[.v .bool]
abbrev R:=Option (ai rs×ah ps)
def f (x:ab ps):R:=(Q81.f K (x.1,x.2.1,())).bind λy1=>some ((decide (y1.1.1>=0),()),())
def c:Ctr:=⟨199,ps,rs,true,f K⟩
end Q82
namespace Q83
abbrev ps:List PK:=[.rd t3]
abbrev rs:List RK:=[.v .bool]
abbrev R:=Option (ai rs×ah ps)
def f (x:ab ps):R:=(Q64.f K (x.1.2,1,4,())).bind λy1=>some ((!y1.1.1,()),())
def c:Ctr:=⟨251,ps,rs,true,f K⟩
end Q83
namespace Q84
abbrev ps:List PK:=[.rd (.list false 143 t3)]
abbrev rs:List RK:=[.v (.list true 68 t2)]
abbrev R:=Option (ai rs×ah ps)
abbrev A0:=List (Ty.den t2)×Int
def s0 (K:Nat)(x:ab ps)(r0:A0->R)(a:A0):R:=bif decide (a.2<(BA x.1:Int)) then ((idx x.1 a.2).bind λy1=>bif decide ((BA a.1+BA ([y1.1]))*32<=an) then (r0 (a.1++([y1.1]),wr .i64 (a.2+1))) else none) else (some ((a.1,()),()))
def l0 (x:ab ps):A0->R:=ae (s0 K x) K
def pre (K:Nat)(N0:A0->R)(x:ab ps):R:=N0 ([],0)
def f (x:ab ps):R:=pre K (l0 K x) x
def c:Ctr:=⟨252,ps,rs,true,f K⟩
end Q84
namespace Q85
abbrev ps:List PK:=[.rd (.list false 143 t3)]
abbrev rs:List RK:=[.v .bool]
abbrev R:=Option (ai rs×ah ps)
def f (x:ab ps):R:=(Q84.f K (x.1,())).bind λy1=>(Q68.f K (y1.1.1,())).bind λy2=>bif y2.1.1 then ((Q82.f K (x.1,λy3=>(Q83.f K (y3.1,())).map λy=>y.1.1,())).bind λy4=>some ((!y4.1.1,()),())) else (some ((false,()),()))
def c:Ctr:=⟨198,ps,rs,true,f K⟩
end Q85
namespace Q86
abbrev ps:List PK:=[.rd (.list false 3 I6)]
abbrev rs:List RK:=[.v I6]
abbrev R:=Option (ai rs×ah ps)
abbrev A0:=Int
def s0 (K:Nat)(x:ab ps)(r0:A0->R)(a:A0):R:=bif decide (a<(BA x.1:Int)) then ((idx x.1 a).bind λy1=>bif y1 != 0 then (some ((y1,()),())) else (r0 (wr .i64 (a+1)))) else (some ((0,()),()))
def l0 (x:ab ps):A0->R:=ae (s0 K x) K
def pre (K:Nat)(N0:A0->R)(x:ab ps):R:=N0 0
def f (x:ab ps):R:=pre K (l0 K x) x
def c:Ctr:=⟨206,ps,rs,true,f K⟩
end Q86
namespace Q87
abbrev ps:List PK:=[.rd t2,.rd t2]
abbrev rs:List RK:=[.v I6]
abbrev R:=Option (ai rs×ah ps)
def f (x:ab ps):R:=let j3:=(x.1.2.2.1,x.2.1.2.2.1,());let j4:=(x.1.2.1,x.2.1.2.1,());let j2:R:=(Q71.f K (x.1.1,x.2.1.1,())).bind λy9=>(Q71.f K j4).bind λy10=>(Q71.f K j3).bind λy11=>(Q86.f K ([y9.1.1,y10.1.1,y11.1.1,0],())).bind λy12=>some ((y12.1.1,()),());let j1:R:=bif x.2.1.2.2.2 then (bif !x.1.2.2.2 then ((Q71.f K (x.1.1,x.2.1.1,())).bind λy5=>(Q71.f K j4).bind λy6=>(Q71.f K j3).bind λy7=>(Q86.f K ([y5.1.1,y6.1.1,y7.1.1,(-1)],())).bind λy8=>some ((y8.1.1,()),())) else j2) else j2;bif x.1.2.2.2 then (bif !x.2.1.2.2.2 then ((Q71.f K (x.1.1,x.2.1.1,())).bind λy1=>(Q71.f K j4).bind λy2=>(Q71.f K j3).bind λy3=>(Q86.f K ([y1.1.1,y2.1.1,y3.1.1,1],())).bind λy4=>some ((y4.1.1,()),())) else j1) else j1
def c:Ctr:=⟨144,ps,rs,true,f K⟩
end Q87
namespace Q88
abbrev ps:List PK:=[.rd t2,.rd t2]
abbrev rs:List RK:=[.v .bool]
abbrev R:=Option (ai rs×ah ps)
def f (x:ab ps):R:=(Q67.f K (x.1,())).bind λy1=>let j1:R:=some ((false,()),());bif y1.1.1 then ((Q67.f K (x.2.1,())).bind λy2=>bif y2.1.1 then (bif x.1.1==x.2.1.1 then ((Q87.f K (x.1,x.2.1,())).bind λy3=>some ((decide (y3.1.1>0),()),())) else j1) else j1) else j1
def c:Ctr:=⟨171,ps,rs,true,f K⟩
end Q88
namespace Q89
abbrev ps:List PK:=[.rd t3,.rref t26]
abbrev rs:List RK:=[.v .bool]
abbrev R:=Option (ai rs×ah ps)
def f (x:ab ps):R:=(Q74.f K (x.2.1.2.2.2.2.2.2.2.2.1,x.1.1.1,())).bind λy1=>bif !y1.1.2.1 then (some ((true,()),())) else ((Q88.f K (x.1.1,y1.1.1,())).bind λy2=>some ((y2.1.1,()),()))
def c:Ctr:=⟨200,ps,rs,true,f K⟩
end Q89
namespace Q90
abbrev ps:List PK:=[.rd t26]
abbrev rs:List RK:=[.v .bool]
abbrev R:=Option (ai rs×ah ps)
def f (x:ab ps):R:=let b2:=x.1.2.2.2;let b1:=b2.2.2.2.2.2;let j2:R:=some ((false,()),());let j1:R:=(Q80.f K (x.1,())).bind λy2=>(Q79.f K (b1.1,y2.1.1,())).bind λy3=>bif !y3.1.1 then j2 else ((Q85.f K (b1.2.1,())).bind λy4=>bif !y4.1.1 then j2 else ((Q82.f K (b1.2.1,λy5=>(Q89.f K (y5.1,x.1,())).map λy=>y.1.1,())).bind λy6=>some ((!y6.1.1,()),())));let j3:=(b1.1,x.1.1,());bif x.1.2.2.1 then ((Q74.f K j3).bind λy1=>bif !y1.1.2.1 then j2 else (bif !Ty.eqv t2 y1.1.1 (x.1.1,b2.2.1,4,b2.1) then j2 else j1)) else ((Q74.f K j3).bind λy7=>bif !y7.1.2.1 then j2 else (bif !Ty.eqv t2 y7.1.1 (x.1.1,b2.2.1,1,b2.1) then j2 else j1))
def c:Ctr:=⟨134,ps,rs,true,f K⟩
end Q90
namespace Q91
abbrev ps:List PK:=[.rd t26]
abbrev rs:List RK:=[.v .bool]
abbrev R:=Option (ai rs×ah ps)
def f (x:ab ps):R:=let b2:=x.1.2.2.2.2.2;let b1:=b2.2.2.2.2.2.1;bif b1.1==(-1) then (some ((Ty.eqv t2 b1 ((-1),0,0,false),()),())) else ((Q74.f K (b2.2.2.2.1,b1.1,())).bind λy1=>let j1:R:=some ((false,()),());bif y1.1.2.1 then (bif b1.1 != x.1.1 then ((Q64.f K (b1.2.1,0,b2.1,())).bind λy2=>bif y2.1.1 then ((Q64.f K (b1.2.2.1,1,b2.2.1,())).bind λy3=>some ((y3.1.1,()),())) else j1) else j1) else j1)
def c:Ctr:=⟨135,ps,rs,true,f K⟩
end Q91
namespace Q92
abbrev ps:List PK:=[.rd t26,.rd I6]
abbrev rs:List RK:=[.v .bool]
abbrev R:=Option (ai rs×ah ps)
def f (x:ab ps):R:=(Q65.f K (x.2.1,())).bind λy1=>bif y1.1.1 then ((Q77.f K (x.2.1,())).bind λy2=>(Q80.f K (x.1,())).bind λy3=>some ((y2.1.1==y3.1.1,()),())) else (some ((false,()),()))
def c:Ctr:=⟨78,ps,rs,true,f K⟩
end Q92
namespace Q93
abbrev ps:List PK:=[.rd t26]
abbrev rs:List RK:=[.v .bool]
abbrev R:=Option (ai rs×ah ps)
abbrev A2:=List (Ty.den t2)×Int×List (Ty.den I6)×Int×Int×Int×Int×Int×List (Ty.den I6)
abbrev A1:=List (Ty.den t2)×Int
abbrev A0:=List (Ty.den t2)×Int
def s2 (x:ab ps)(r1:A1->R)(r2:A2->R)(a:A2):R:=let b1:=a.2.2.2.2;bif decide (b1.1<a.2.2.2.1) then ((idx a.2.2.1 b1.1).bind λy8=>(Q92.f K (x.1,y8,())).bind λy9=>bif !y9.1.1 then (some ((false,()),())) else (let j1:=(zcp4 a (wr .i64 (b1.1+1),b1.2));bif decide (b1.1>0) then ((idx b1.2.2.2.2 (wr .i64 (b1.1-1))).bind λy10=>bif decide (y8<=y10) then (some ((false,()),())) else (r2 j1)) else (r2 j1))) else (r1 (a.1,wr .i64 (a.2.1+1)))
def l2 (x:ab ps)(r1:A1->R):A2->R:=ae (s2 K x r1) K
def s1 (x:ab ps)(N2:A2->R)(r1:A1->R)(a:A1):R:=bif decide (a.2<(BA x.1.2.2.2.2.2.2.2.2.2.2.2.1:Int)) then ((idx x.1.2.2.2.2.2.2.2.2.2.2.2.1 a.2).bind λy2=>(idx a.1 a.2).bind λ_=>(idx a.1 (BB a.2:Nat)).bind λy4=>let j1:R:=some ((false,()),());bif y2.1 != y4.1 then j1 else ((idx a.1 a.2).bind λ_=>(idx a.1 (BB a.2:Nat)).bind λy6=>bif y2.2.1 != y6.2.1 then j1 else ((Q64.f K (y2.2.2.1,0,x.1.2.2.2.2.2.1,())).bind λy7=>bif !y7.1.1 then j1 else (let j2:=(BA y2.2.2.2:Int);bif j2==0 then j1 else (N2 (a.1,a.2,y2.2.2.2,j2,0,y2)))))) else (some ((true,()),()))
def l1 (x:ab ps):A1->R:=ae (λr1 a=>s1 K x (l2 K x r1) r1 a) K
def s0 (K:Nat)(x:ab ps)(N1:A1->R)(r0:A0->R)(a:A0):R:=let b1:=x.1.2.2.2.2.2.2.2.2;bif decide (a.2<(BA b1.1:Int)) then ((idx b1.1 a.2).bind λy1=>bif y1.2.2.1==2 then (bif decide ((BA a.1+BA ([y1]))*32<=an) then (r0 (a.1++([y1]),wr .i64 (a.2+1))) else none) else (r0 (a.1,wr .i64 (a.2+1)))) else (bif (BA b1.2.2.2.1:Int) != (BA a.1:Int) then (some ((false,()),())) else (N1 (a.1,0)))
def l0 (x:ab ps):A0->R:=ae (s0 K x (l1 K x)) K
def pre (K:Nat)(N0:A0->R)(x:ab ps):R:=N0 ([],0)
def f (x:ab ps):R:=pre K (l0 K x) x
def c:Ctr:=⟨136,ps,rs,true,f K⟩
def G:List Ctr:=[Q92.c K,Q64.c K]
def v2:List (Nat×List Coe):=[(1,[.keep]),(3,[.own false 68 t2]),(7,[.keep]),(32,[.ro true 112 t6]),(33,[.keep]),(34,[.keep]),(72,[.ro true 3 I6]),(73,[.keep]),(74,[.keep]),(100001,Kc0),(100007,Kc4)]
def v1:List (Nat×List Coe):=[(1,[.keep]),(3,[.own false 68 t2]),(32,[.ro true 112 t6]),(33,[.keep]),(34,[.keep]),(100001,Kc0)]
def v0:List (Nat×List Coe):=[(1,[.keep]),(3,[.own false 68 t2]),(11,[.ro true 68 t2]),(12,[.keep]),(13,[.keep]),(100001,Kc0)]
def L:List (Nat×List (Nat×List Coe)):=[(17,v2),(12,v1),(4,v0)]
def body:Code:=cM Tryz.f136
abbrev ev:Code->St->(Ex->St->R)->R:=evK (G K) T_NL L K
abbrev fin:Ex->St->R:=db T_NL ps rs true Tryz.f136.results.toList
def S0 (x:ab ps)(a:A0):St:=av [(1,⟨0,.one,[.bp 100001 0]⟩),(3,⟨0,.one,[.own false none 68 t2 a.1]⟩),(11,⟨0,.one,[.ro true 68 t2 x.1.2.2.2.2.2.2.2.2.1]⟩),(12,⟨0,.one,[.int .i64 (BA x.1.2.2.2.2.2.2.2.2.1:Int)]⟩),(13,⟨0,.one,[.int .i64 a.2]⟩),(100001,⟨0,.agg,(w0 x.1)⟩)]
def S1 (x:ab ps)(a:A1):St:=av [(1,⟨0,.one,[.bp 100001 0]⟩),(3,⟨0,.one,[.own false none 68 t2 a.1]⟩),(32,⟨0,.one,[.ro true 112 t6 x.1.2.2.2.2.2.2.2.2.2.2.2.1]⟩),(33,⟨0,.one,[.int .i64 (BA x.1.2.2.2.2.2.2.2.2.2.2.2.1:Int)]⟩),(34,⟨0,.one,[.int .i64 a.2]⟩),(100001,⟨0,.agg,(w0 x.1)⟩)]
def S2 (x:ab ps)(a:A2):St:=av [(1,⟨0,.one,[.bp 100001 0]⟩),(3,⟨0,.one,[.own false none 68 t2 a.1]⟩),(7,⟨0,.one,[.bp 100007 0]⟩),(32,⟨0,.one,[.ro true 112 t6 x.1.2.2.2.2.2.2.2.2.2.2.2.1]⟩),(33,⟨0,.one,[.int .i64 (BA x.1.2.2.2.2.2.2.2.2.2.2.2.1:Int)]⟩),(34,⟨0,.one,[.int .i64 a.2.1]⟩),(72,⟨0,.one,[.ro true 3 I6 a.2.2.1]⟩),(73,⟨0,.one,[.int .i64 a.2.2.2.1]⟩),(74,⟨0,.one,[.int .i64 a.2.2.2.2.1]⟩),(100001,⟨0,.agg,(w0 x.1)⟩),(100007,⟨0,.agg,(wa0 a.2.2.2.2.2)⟩)]
def k0 (x:ab ps):Ex->St->R:=kAt (ev K) body [1,1,0,1,0] fin
def N0 (x:ab ps):A0->R:=λa=>aV v0 (ev K (sub body [1,1,0,1,0,0])) K (S0 x a) (k0 K x)
def k1 (x:ab ps):Ex->St->R:=kAt (ev K) body [1,1,1,1,0,1,0] fin
def N1 (x:ab ps):A1->R:=λa=>aV v1 (ev K (sub body [1,1,1,1,0,1,0,0])) K (S1 x a) (k1 K x)
def k2 (x:ab ps)(q1:St->R):Ex->St->R:=kAt (ev K) (sub body [1,1,1,1,0,1,0,0]) [1,1,0,0,1,1,1,0] (gG v1 q1 (k1 K x))
def N2 (x:ab ps)(q1:St->R):A2->R:=λa=>aV v2 (ev K (sub body [1,1,1,1,0,1,0,0,1,1,0,0,1,1,1,0,0])) K (S2 x a) (k2 K x q1)
end Q93
namespace Q94
abbrev ps:List PK:=[.rd t9]
abbrev rs:List RK:=[.v .bool]
abbrev R:=Option (ai rs×ah ps)
def f (x:ab ps):R:=(Q64.f K (x.1.1,(-100000),100000,())).bind λy1=>let j1:R:=some ((false,()),());bif y1.1.1 then ((Q64.f K (x.1.2.1,(-100000),100000,())).bind λy2=>bif y2.1.1 then ((Q64.f K (x.1.2.2.1,0,100000,())).bind λy3=>bif y3.1.1 then ((Q64.f K (x.1.2.2.2,1,1500,())).bind λy4=>some ((y4.1.1,()),())) else j1) else j1) else j1
def c:Ctr:=⟨137,ps,rs,true,f K⟩
end Q94
namespace Q95
abbrev ps:List PK:=[.rd t26,.rd I6]
abbrev rs:List RK:=[.v .bool]
abbrev R:=Option (ai rs×ah ps)
def f (x:ab ps):R:=(Q92.f K (x.1,x.2.1,())).bind λy1=>bif y1.1.1 then (some ((x.2.1 != x.1.1,()),())) else (some ((false,()),()))
def c:Ctr:=⟨114,ps,rs,true,f K⟩
end Q95
namespace Q96
abbrev ps:List PK:=[.rd I6]
abbrev rs:List RK:=[.v .bool]
abbrev R:=Option (ai rs×ah ps)
def f (x:ab ps):R:=(Q64.f K (x.1,1,60000,())).bind λy1=>some ((!y1.1.1,()),())
def c:Ctr:=⟨201,ps,rs,true,f K⟩
end Q96
namespace Q97
abbrev ps:List PK:=[.rd (.list false 3 I6),.fn [I6] .bool]
abbrev rs:List RK:=[.v I6]
abbrev R:=Option (ai rs×ah ps)
abbrev A0:=Int
def s0 (K:Nat)(x:ab ps)(r0:A0->R)(a:A0):R:=bif decide (a<(BA x.1:Int)) then ((idx x.1 a).bind λy1=>(x.2.1 (y1,())).bind λy2=>bif y2 then (some ((a,()),())) else (r0 (wr .i64 (a+1)))) else (some (((-1),()),()))
def l0 (x:ab ps):A0->R:=ae (s0 K x) K
def pre (K:Nat)(N0:A0->R)(x:ab ps):R:=N0 0
def f (x:ab ps):R:=pre K (l0 K x) x
def c:Ctr:=⟨254,ps,rs,true,f K⟩
end Q97
namespace Q98
abbrev ps:List PK:=[.rd (.list false 3 I6),.fn [I6] .bool]
abbrev rs:List RK:=[.v .bool]
abbrev R:=Option (ai rs×ah ps)
def f (x:ab ps):R:=(Q97.f K (x.1,x.2.1,())).bind λy1=>some ((decide (y1.1.1>=0),()),())
def c:Ctr:=⟨202,ps,rs,true,f K⟩
end Q98
namespace Q99
abbrev ps:List PK:=[.rd t26]
abbrev rs:List RK:=[.v .bool]
abbrev R:=Option (ai rs×ah ps)
abbrev A0:=Int
def s0 (x:ab ps)(r0:A0->R)(a:A0):R:=let b1:=x.1.2.2.2.2.2.2.2.2.2.2.2.2.2.1;bif decide (a<(BA b1:Int)) then ((idx b1 a).bind λy1=>(Q95.f K (x.1,y1.1,())).bind λy2=>let j2:R:=some ((false,()),());bif !y2.1.1 then j2 else (let j1:R:=(Q94.f K (y1.2.1,())).bind λy4=>bif !y4.1.1 then j2 else ((Q64.f K ((BA y1.2.2:Int),1,3,())).bind λy5=>bif !y5.1.1 then j2 else ((Q98.f K (y1.2.2,λy6=>(Q96.f K (y6.1,())).map λy=>y.1.1,())).bind λy7=>bif y7.1.1 then j2 else (r0 (wr .i64 (a+1)))));bif decide (a>0) then ((idx b1 (wr .i64 (a-1))).bind λy3=>bif decide (y1.1<=y3.1) then j2 else j1) else j1)) else (some ((true,()),()))
def l0 (x:ab ps):A0->R:=ae (s0 K x) K
def pre (K:Nat)(N0:A0->R)(x:ab ps):R:=N0 0
def f (x:ab ps):R:=pre K (l0 K x) x
def c:Ctr:=⟨138,ps,rs,true,f K⟩
end Q99
namespace Q100
abbrev ps:List PK:=[.rd t26]
abbrev rs:List RK:=[.v .bool]
abbrev R:=Option (ai rs×ah ps)
abbrev A0:=Int
def s0 (x:ab ps)(r0:A0->R)(a:A0):R:=let b1:=x.1.2.2.2.2.2.2.2.2.2.2.2.2.2.2;bif decide (a<(BA b1:Int)) then ((idx b1 a).bind λy1=>(Q77.f K (7,())).bind λy2=>(Q64.f K (y1.1,0,y2.1.1,())).bind λy3=>let j2:R:=some ((false,()),());bif !y3.1.1 then j2 else ((Q80.f K (x.1,())).bind λy4=>bif y1.1==y4.1.1 then j2 else (let j1:R:=bif (BA y1.2:Int)==0 then j2 else ((Q68.f K (y1.2,())).bind λy6=>bif !y6.1.1 then j2 else ((Q79.f K (y1.2,y1.1,())).bind λy7=>bif !y7.1.1 then j2 else (r0 (wr .i64 (a+1)))));bif decide (a>0) then ((idx b1 (wr .i64 (a-1))).bind λy5=>bif decide (y1.1<=y5.1) then j2 else j1) else j1))) else (some ((true,()),()))
def l0 (x:ab ps):A0->R:=ae (s0 K x) K
def pre (K:Nat)(N0:A0->R)(x:ab ps):R:=N0 0
def f (x:ab ps):R:=pre K (l0 K x) x
def c:Ctr:=⟨139,ps,rs,true,f K⟩
end Q100
namespace Q101
abbrev ps:List PK:=[.rd t26]
abbrev rs:List RK:=[.v .bool]
abbrev R:=Option (ai rs×ah ps)
def f (x:ab ps):R:=let b1:=x.1.2.2.2.2;(Q65.f K (x.1.1,())).bind λy1=>let j1:R:=some ((false,()),());bif !y1.1.1 then j1 else ((Q64.f K (b1.2.1,0,999999,())).bind λy2=>bif !y2.1.1 then j1 else ((Q64.f K (b1.2.2.1,0,999999,())).bind λy3=>bif !y3.1.1 then j1 else ((Q64.f K (b1.2.2.2.1,0,8,())).bind λy4=>bif !y4.1.1 then j1 else ((Q64.f K (b1.1,0,999,())).bind λy5=>bif !y5.1.1 then j1 else (bif !x.1.2.1 then ((Q66.f K (x.1,())).bind λy6=>some ((y6.1.1,()),())) else ((Q90.f K (x.1,())).bind λy7=>bif y7.1.1 then ((Q91.f K (x.1,())).bind λy8=>bif y8.1.1 then ((Q93.f K (x.1,())).bind λy9=>bif y9.1.1 then ((Q94.f K (b1.2.2.2.2.2.2.2.2.1,())).bind λy10=>bif y10.1.1 then ((Q99.f K (x.1,())).bind λy11=>bif y11.1.1 then ((Q100.f K (x.1,())).bind λy12=>some ((y12.1.1,()),())) else j1) else j1) else j1) else j1) else j1))))))
def c:Ctr:=⟨75,ps,rs,true,f K⟩
end Q101
namespace Q102
abbrev ps:List PK:=[.rd t47]
abbrev rs:List RK:=[.v .bool]
abbrev R:=Option (ai rs×ah ps)
def f (x:ab ps):R:=let b1:=x.1.2.2.2.2.2;(Q64.f K (x.1.1,1,2,())).bind λy1=>let j1:R:=some ((false,()),());bif !y1.1.1 then j1 else ((Q64.f K (x.1.2.1,1,6,())).bind λy2=>bif !y2.1.1 then j1 else ((Q65.f K (x.1.2.2.1,())).bind λy3=>bif !y3.1.1 then j1 else ((Q65.f K (x.1.2.2.2.1,())).bind λy4=>bif !y4.1.1 then j1 else ((Q65.f K (b1.1,())).bind λy5=>bif !y5.1.1 then j1 else ((Q64.f K (x.1.2.2.2.2.1,0,999999,())).bind λy6=>bif !y6.1.1 then j1 else ((Q94.f K (b1.2.1,())).bind λy7=>bif !y7.1.1 then j1 else ((Q68.f K (b1.2.2,())).bind λy8=>bif !y8.1.1 then j1 else (bif x.1.2.1==6 then (bif decide ((BA b1.2.2:Int)>0) then ((idx b1.2.2 0).bind λy9=>(Q77.f K (y9.1,())).bind λy10=>(Q79.f K (b1.2.2,y10.1.1,())).bind λy11=>some ((y11.1.1,()),())) else j1) else ((Q77.f K (x.1.2.2.1,())).bind λy12=>(Q79.f K (b1.2.2,y12.1.1,())).bind λy13=>some ((y13.1.1,()),()))))))))))
def c:Ctr:=⟨76,ps,rs,true,f K⟩
end Q102
namespace Q103
abbrev ps:List PK:=[.rd t26]
abbrev rs:List RK:=[.v .bool]
abbrev R:=Option (ai rs×ah ps)
def f (K:Nat)(x:ab ps):R:=bif x.1.2.1 then (some ((!x.1.2.2.1,()),())) else (some ((false,()),()))
def c:Ctr:=⟨77,ps,rs,true,f K⟩
end Q103
namespace Q104
abbrev ps:List PK:=[.rd t26,.rd t47]
abbrev rs:List RK:=[.v .bool]
abbrev R:=Option (ai rs×ah ps)
def f (x:ab ps):R:=let b1:=x.2.1.2.2;(Q101.f K (x.1,())).bind λy1=>let j1:R:=some ((false,()),());bif !y1.1.1 then j1 else ((Q102.f K (x.2.1,())).bind λy2=>bif !y2.1.1 then j1 else ((Q103.f K (x.1,())).bind λy3=>bif !y3.1.1 then j1 else (bif b1.2.1 != x.1.1 then j1 else (bif b1.1==x.1.1 then j1 else (bif x.2.1.1==1 then ((Q92.f K (x.1,b1.1,())).bind λy4=>bif y4.1.1 then (bif x.2.1.2.1 != 6 then (some ((true,()),())) else ((Q80.f K (x.1,())).bind λy5=>(Q79.f K (b1.2.2.2.2.2,y5.1.1,())).bind λy6=>some ((!y6.1.1,()),()))) else j1) else (bif x.2.1.2.1==6 then ((Q92.f K (x.1,b1.1,())).bind λy7=>bif !y7.1.1 then ((Q77.f K (b1.1,())).bind λy8=>(Q79.f K (b1.2.2.2.2.2,y8.1.1,())).bind λy9=>bif y9.1.1 then (some ((true,()),())) else ((Q80.f K (x.1,())).bind λy10=>(Q79.f K (b1.2.2.2.2.2,y10.1.1,())).bind λy11=>some ((y11.1.1,()),()))) else j1) else j1))))))
def c:Ctr:=⟨26,ps,rs,true,f K⟩
end Q104
namespace Q105
abbrev ps:List PK:=[.rd (.list false 68 t2),.rd t2]
abbrev rs:List RK:=[.v (.list true 68 t2),.v .bool]
abbrev R:=Option (ai rs×ah ps)
def f (x:ab ps):R:=(Q0.f K (x.1,())).bind λy1=>(Q73.f K (y1.1.1,x.2.1.1,())).bind λy2=>bif !y2.1.2.1 then ((Q1.f K (y1.1.1,y2.1.1,[x.2.1],())).bind λy3=>some ((y3.1.1,true,()),())) else ((idx y1.1.1 y2.1.1).bind λ_=>(idx y1.1.1 (BB y2.1.1:Nat)).bind λy5=>(Q87.f K (x.2.1,y5,())).bind λy6=>bif decide (y6.1.1>0) then ((idx y1.1.1 y2.1.1).bind λ_=>(idx y1.1.1 (BB y2.1.1:Nat)).bind λy8=>some ((y1.1.1.set (BB y2.1.1) x.2.1,true,()),())) else (some ((y1.1.1,false,()),())))
def c:Ctr:=⟨86,ps,rs,true,f K⟩
end Q105
namespace Q106
abbrev ps:List PK:=[.rd (.list false 68 t2),.rd (.list false 68 t2)]
abbrev rs:List RK:=[.v (.list true 68 t2)]
abbrev R:=Option (ai rs×ah ps)
abbrev A0:=List (Ty.den t2)×Int
def s0 (x:ab ps)(r0:A0->R)(a:A0):R:=bif decide (a.2<(BA x.2.1:Int)) then ((idx x.2.1 a.2).bind λy4=>(Q105.f K (a.1,y4,())).bind λy5=>r0 (y5.1.1,wr .i64 (a.2+1))) else (some ((a.1,()),()))
def l0 (x:ab ps):A0->R:=ae (s0 K x) K
def pre (N0:A0->R)(x:ab ps):R:=(Q68.f K (x.1,())).bind λy1=>bif !y1.1.1 then (some (([],()),())) else ((Q68.f K (x.2.1,())).bind λy2=>bif !y2.1.1 then (some (([],()),())) else ((Q0.f K (x.1,())).bind λy3=>N0 (y3.1.1,0)))
def f (x:ab ps):R:=pre K (l0 K x) x
def c:Ctr:=⟨29,ps,rs,true,f K⟩
end Q106
namespace Q107
abbrev ps:List PK:=[.rd (.list false 143 t3),.rd t2]
abbrev rs:List RK:=[.v (.list true 143 t3)]
abbrev R:=Option (ai rs×ah ps)
def f (x:ab ps):R:=(Q85.f K (x.1,())).bind λy1=>bif !y1.1.1 then (some (([],()),())) else ((Q67.f K (x.2.1,())).bind λy2=>bif !y2.1.1 then (some (([],()),())) else ((Q2.f K (x.1,())).bind λy3=>(Q84.f K (y3.1.1,())).bind λy4=>(Q73.f K (y4.1.1,x.2.1.1,())).bind λy5=>bif !y5.1.2.1 then ((Q3.f K (y3.1.1,y5.1.1,[(x.2.1,4)],())).bind λy6=>some ((y6.1.1,()),())) else ((idx y3.1.1 y5.1.1).bind λ_=>(idx y3.1.1 (BB y5.1.1:Nat)).bind λy8=>(Q87.f K (x.2.1,y8.1,())).bind λy9=>bif decide (y9.1.1>0) then ((idx y3.1.1 y5.1.1).bind λ_=>(idx y3.1.1 (BB y5.1.1:Nat)).bind λy11=>some ((y3.1.1.set (BB y5.1.1) (x.2.1,4),()),())) else (some ((y3.1.1,()),())))))
def c:Ctr:=⟨219,ps,rs,true,f K⟩
end Q107
namespace Q108
abbrev ps:List PK:=[.rd (.list false 112 t6),.fn [t6] .bool]
abbrev rs:List RK:=[.v I6]
abbrev R:=Option (ai rs×ah ps)
abbrev A0:=Int
def s0 (K:Nat)(x:ab ps)(r0:A0->R)(a:A0):R:=bif decide (a<(BA x.1:Int)) then ((idx x.1 a).bind λy1=>(x.2.1 (y1,())).bind λy2=>bif y2 then (some ((a,()),())) else (r0 (wr .i64 (a+1)))) else (some (((-1),()),()))
def l0 (x:ab ps):A0->R:=ae (s0 K x) K
def pre (K:Nat)(N0:A0->R)(x:ab ps):R:=N0 0
def f (x:ab ps):R:=pre K (l0 K x) x
def c:Ctr:=⟨265,ps,rs,true,f K⟩
end Q108
namespace Q109
abbrev ps:List PK:=[.rd t6,.rref t2]
abbrev rs:List RK:=[.v .bool]
abbrev R:=Option (ai rs×ah ps)
def f (K:Nat)(x:ab ps):R:=some ((x.1.1==x.2.1.1,()),())
def c:Ctr:=⟨221,ps,rs,true,f K⟩
end Q109
namespace Q110
abbrev ps:List PK:=[.rd (.list false 112 t6),.rd I6,.fn [t6,I6] I6]
abbrev rs:List RK:=[.v I6,.v .bool]
abbrev R:=Option (ai rs×ah ps)
abbrev A0:=Int×Int
def s0 (K:Nat)(x:ab ps)(r0:A0->R)(a:A0):R:=bif decide (a.1<a.2) then (let j1:=BD (wr .u64 (wr .i64 (a.1+a.2))) (2 ^ 1);(idx x.1 (wr .i64 j1)).bind λy1=>(x.2.2.1 (y1,x.2.1,())).bind λy2=>bif decide (y2<0) then (r0 (wr .i64 ((wr .i64 j1)+1),a.2)) else (r0 (a.1,wr .i64 j1))) else (bif decide (a.1<(BA x.1:Int)) then ((idx x.1 a.1).bind λy3=>(x.2.2.1 (y3,x.2.1,())).bind λy4=>some ((a.1,y4==0,()),())) else (some ((a.1,false,()),())))
def l0 (x:ab ps):A0->R:=ae (s0 K x) K
def pre (K:Nat)(N0:A0->R)(x:ab ps):R:=N0 (0,(BA x.1:Int))
def f (x:ab ps):R:=pre K (l0 K x) x
def c:Ctr:=⟨222,ps,rs,true,f K⟩
end Q110
namespace Q111
abbrev ps:List PK:=[.rd t6,.rd I6]
abbrev rs:List RK:=[.v I6]
abbrev R:=Option (ai rs×ah ps)
def f (K:Nat)(x:ab ps):R:=some ((wr .i64 (x.1.1-x.2.1),()),())
def c:Ctr:=⟨223,ps,rs,true,f K⟩
end Q111
namespace Q112
abbrev ps:List PK:=[.iop t80,.rd t2,.rd I6]
abbrev rs:List RK:=[]
abbrev R:=Option (ai rs×ah ps)
def f (x:ab ps):R:=let b1:=x.1.2.2.2.2.2.2.2.2;(Q74.f K (b1.1,x.2.1.1,())).bind λy1=>(Q105.f K (b1.1,x.2.1,())).bind λy2=>bif !y2.1.2.1 then (some ((),x.1,())) else ((Q107.f K (b1.2.1,x.2.1,())).bind λy3=>let j1:R:=(Q4.f K (b1.2.2.2.1,λy4=>(Q109.f K (y4.1,x.2.1,())).map λy=>y.1.1,())).bind λy5=>bif x.2.1.2.2.1==2 then ((Q110.f K (y5.1.1,x.2.1.1,λy6=>(Q111.f K (y6.1,y6.2.1,())).map λy=>y.1.1,())).bind λy7=>(Q5.f K (y5.1.1,y7.1.1,[(x.2.1.1,x.2.1.2.1,x.1.2.2.2.2.2.1,[x.2.2.1])],())).bind λy8=>some ((),(zcp8 x.1 (y2.1.1,y3.1.1,b1.2.2.1,y8.1.1,b1.2.2.2.2)),())) else (some ((),(zcp8 x.1 (y2.1.1,y3.1.1,b1.2.2.1,y5.1.1,b1.2.2.2.2)),()));bif y1.1.1.2.2.1==x.2.1.2.2.1 then (bif y1.1.1.2.1==x.2.1.2.1 then (some ((),(zcp8 x.1 (y2.1.1,y3.1.1,b1.2.2)),())) else j1) else j1)
def c:Ctr:=⟨172,ps,rs,false,f K⟩
end Q112
namespace Q113
abbrev ps:List PK:=[.rd I6,.rd I6]
abbrev rs:List RK:=[.v .bool]
abbrev R:=Option (ai rs×ah ps)
def f (x:ab ps):R:=(Q70.f K (x.1,())).bind λy1=>let j1:=((decide (x.1<x.2.1),()),());bif y1.1.1 then ((Q70.f K (x.2.1,())).bind λy2=>bif !y2.1.1 then (some ((true,()),())) else (some j1)) else (some j1)
def c:Ctr:=⟨225,ps,rs,true,f K⟩
end Q113
namespace Q114
abbrev ps:List PK:=[.rd I6]
abbrev rs:List RK:=[.v .bool]
abbrev R:=Option (ai rs×ah ps)
def f (K:Nat)(x:ab ps):R:=some ((x.1 != x.1,()),())
def c:Ctr:=⟨226,ps,rs,true,f K⟩
end Q114
namespace Q115
abbrev ps:List PK:=[.rd (.list false 3 I6),.rd I6]
abbrev rs:List RK:=[.v I6,.v .bool]
abbrev R:=Option (ai rs×ah ps)
abbrev A0:=Int×Int
def s0 (x:ab ps)(r0:A0->R)(a:A0):R:=bif decide (a.1<a.2) then (let j1:=BD (wr .u64 (wr .i64 (a.1+a.2))) (2 ^ 1);(idx x.1 (wr .i64 j1)).bind λy1=>(Q113.f K (y1,x.2.1,())).bind λy2=>bif y2.1.1 then (r0 (wr .i64 ((wr .i64 j1)+1),a.2)) else (r0 (a.1,wr .i64 j1))) else (bif decide (a.1<(BA x.1:Int)) then ((idx x.1 a.1).bind λy3=>bif y3==x.2.1 then (some ((a.1,true,()),())) else ((idx x.1 a.1).bind λy4=>(Q114.f K (y4,())).bind λy5=>bif y5.1.1 then ((Q114.f K (x.2.1,())).bind λy6=>some ((a.1,y6.1.1,()),())) else (some ((a.1,false,()),())))) else (some ((a.1,false,()),())))
def l0 (x:ab ps):A0->R:=ae (s0 K x) K
def pre (K:Nat)(N0:A0->R)(x:ab ps):R:=N0 (0,(BA x.1:Int))
def f (x:ab ps):R:=pre K (l0 K x) x
def c:Ctr:=⟨173,ps,rs,true,f K⟩
end Q115
end
end Go.Proofs.YtaelpfghkndliaaGreatEv
