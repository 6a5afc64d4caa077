/- The functions, on plain values. Printed by run3.py. -/
import Derived.Test.YtdjmnbdicpgmiaaProg
import Derived.Test.YtdjmnbdicpgmiaaE0
set_option linter.unusedVariables false
set_option maxRecDepth 100000
namespace Go.Proofs.YtdjmnbdicpgmiaaEv
open Go Go.Proofs
noncomputable section
@[reducible] def t0 : Ty := .pair (.int .i64) .bool
@[reducible] def t1 : Ty := .pair (.int .i64) t0
@[reducible] def t2 : Ty := .pair (.int .i64) t1
@[reducible] def t3 : Ty := .pair t2 (.int .i64)
@[reducible] def t4 : Ty := .pair (.list false 5 (.int .u8)) (.int .i64)
@[reducible] def ty_impl_Fact_D : Ty := t2
@[reducible] def ty_impl_News_D : Ty := t3
@[reducible] def ty_laws_Fact_D : Ty := t2
@[reducible] def ty_impl_Fact_S : Ty := t2
@[reducible] def ty_impl_News_S : Ty := t3
@[reducible] def ty_laws_Fact_S : Ty := t2
@[reducible] def ty_spec_l1Rd_S : Ty := t4
@[reducible] def ty_impl_Fact_NS : Ty := t2
@[reducible] def ty_impl_News_NS : Ty := t3
@[reducible] def ty_laws_Fact_NS : Ty := t2
@[reducible] def ty_spec_l1Rd_NS : Ty := t4
@[reducible] def ty_impl_Fact_ND : Ty := t2
@[reducible] def ty_impl_News_ND : Ty := t3
@[reducible] def ty_laws_Fact_ND : Ty := t2
@[reducible] def ty_spec_l1Rd_ND : Ty := t4
@[reducible] def ty_impl_Fact_WT : Ty := t2
@[reducible] def ty_impl_News_WT : Ty := t3
@[reducible] def ty_laws_Fact_WT : Ty := t2
@[reducible] def ty_spec_l1Rd_WT : Ty := t4
@[reducible] def ty_impl_Fact_WF : Ty := t2
@[reducible] def ty_impl_News_WF : Ty := t3
@[reducible] def ty_laws_Fact_WF : Ty := t2
@[reducible] def ty_spec_l1Rd_WF : Ty := t4
@[reducible] def ty_impl_Fact_NT : Ty := t2
@[reducible] def ty_impl_News_NT : Ty := t3
@[reducible] def ty_laws_Fact_NT : Ty := t2
@[reducible] def ty_spec_l1Rd_NT : Ty := t4
@[reducible] def ty_impl_Fact_NL : Ty := t2
@[reducible] def ty_impl_News_NL : Ty := t3
@[reducible] def ty_laws_Fact_NL : Ty := t2
def Tl_D : List (TypeId × TI) := [(3, .int .i64), (4, .bool), (25, .slice 39 t2 32), (29, .slice 41 t3 40), (34, .slice 5 (.int .u8) 1), (39, .struct t2 [(0, 1, false), (1, 1, false), (2, 1, false), (3, 1, false)]), (41, .struct t3 [(0, 4, true), (4, 1, false)]), (50, .slice 3 (.int .i64) 8), (72, .fn), (76, .int .u64)]
def T_D (t : TypeId) : TI := tlook Tl_D t
def Tl_S : List (TypeId × TI) := [(3, .int .i64), (4, .bool), (5, .int .u8), (25, .slice 39 t2 32), (29, .slice 41 t3 40), (34, .slice 5 (.int .u8) 1), (39, .struct t2 [(0, 1, false), (1, 1, false), (2, 1, false), (3, 1, false)]), (41, .struct t3 [(0, 4, true), (4, 1, false)]), (50, .slice 3 (.int .i64) 8), (56, .ptr), (65, .struct t4 [(0, 1, false), (1, 1, false)])]
def T_S (t : TypeId) : TI := tlook Tl_S t
namespace m_slices_Clone_impl_Fact_impl_Fact
@[reducible] def ps : List PK := [.rd (.list false 39 t2)]
@[reducible] def rs : List RK := [.v (.list true 39 t2)]
abbrev Res := Ress rs × Outs ps
noncomputable def f (K : Nat) (x : Args ps) : Option Res := cloneM t2 32 x.1
noncomputable def c (K : Nat) : Ctr := ⟨39, ps, rs, true, f K⟩
end m_slices_Clone_impl_Fact_impl_Fact
namespace m_slices_Insert_impl_Fact_impl_Fact
@[reducible] def ps : List PK := [.own (.list true 39 t2), .rd (.int .i64), .own (.list true 39 t2)]
@[reducible] def rs : List RK := [.v (.list true 39 t2)]
abbrev Res := Ress rs × Outs ps
noncomputable def f (K : Nat) (x : Args ps) : Option Res := insertM t2 32 x.1 x.2.1 x.2.2.1
noncomputable def c (K : Nat) : Ctr := ⟨50, ps, rs, true, f K⟩
end m_slices_Insert_impl_Fact_impl_Fact
namespace spec_l1In
@[reducible] def ps : List PK := [.rd (.int .i64), .rd (.int .i64), .rd (.int .i64)]
@[reducible] def rs : List RK := [.v .bool]
abbrev Res := Ress rs × Outs ps
noncomputable def pre (K : Nat) (x : Args ps) : Option Res := bif decide (x.1 ≥ x.2.1) then (some ((decide (x.1 ≤ x.2.2.1), ()), ())) else (some ((false, ()), ()))
noncomputable def f (K : Nat) (x : Args ps) : Option Res := pre K x
noncomputable def c (K : Nat) : Ctr := ⟨46, ps, rs, true, f K⟩
noncomputable def G (K : Nat) : List Ctr := []
noncomputable def L : List (Nat × List (Nat × List Coe)) := []
noncomputable def body : Code := bodyOf Try.f46
noncomputable abbrev ev (K : Nat) : Code → St → (Ex → St → Option Res) → Option Res := evK (G K) T_S L K
noncomputable abbrev fin : Ex → St → Option Res := finK T_S ps rs true Try.f46.results.toList
end spec_l1In
namespace spec_FactOk
@[reducible] def ps : List PK := [.rd t2]
@[reducible] def rs : List RK := [.v .bool]
abbrev Res := Ress rs × Outs ps
noncomputable def pre (K : Nat) (x : Args ps) : Option Res := (spec_l1In.f K (x.1.1, 0, 7, ())).bind fun y1 => bif y1.1.1 then ((spec_l1In.f K (x.1.2.1, 0, 999, ())).bind fun y2 => bif y2.1.1 then ((spec_l1In.f K (x.1.2.2.1, 1, 4, ())).bind fun y3 => some ((y3.1.1, ()), ())) else (some ((false, ()), ()))) else (some ((false, ()), ()))
noncomputable def f (K : Nat) (x : Args ps) : Option Res := pre K x
noncomputable def c (K : Nat) : Ctr := ⟨36, ps, rs, true, f K⟩
noncomputable def G (K : Nat) : List Ctr := [spec_l1In.c K]
noncomputable def L : List (Nat × List (Nat × List Coe)) := []
noncomputable def body : Code := bodyOf Try.f36
noncomputable abbrev ev (K : Nat) : Code → St → (Ex → St → Option Res) → Option Res := evK (G K) T_S L K
noncomputable abbrev fin : Ex → St → Option Res := finK T_S ps rs true Try.f36.results.toList
end spec_FactOk
namespace spec_TableOk
@[reducible] def ps : List PK := [.rd (.list false 39 t2)]
@[reducible] def rs : List RK := [.v .bool]
abbrev Res := Ress rs × Outs ps
abbrev A_l0 := Int
noncomputable def l0.step (K : Nat) (x : Args ps) (rec_l0 : A_l0 → Option Res) (a : A_l0) : Option Res := bif decide (a < (List.length x.1 : Int)) then ((idx x.1 a).bind fun y1 => (spec_FactOk.f K (y1, ())).bind fun y2 => bif !y2.1.1 then (some ((false, ()), ())) else (bif decide (a > 0) then ((idx x.1 (wr .i64 (a - 1))).bind fun y3 => (idx x.1 a).bind fun y4 => bif decide (y3.1 ≥ y4.1) then (some ((false, ()), ())) else (rec_l0 (wr .i64 (a + 1)))) else (rec_l0 (wr .i64 (a + 1))))) else (some ((true, ()), ()))
noncomputable def l0 (K : Nat) (x : Args ps) : A_l0 → Option Res := iterate (fun rec_l0 a => l0.step K x rec_l0 a) K
noncomputable def pre (K : Nat) (N_l0 : A_l0 → Option Res) (x : Args ps) : Option Res := N_l0 0
noncomputable def f (K : Nat) (x : Args ps) : Option Res := pre K (l0 K x) x
noncomputable def c (K : Nat) : Ctr := ⟨19, ps, rs, true, f K⟩
noncomputable def G (K : Nat) : List Ctr := [spec_FactOk.c K]
noncomputable def live_l0 : List (Nat × List Coe) := [(0, [.ro true 39 t2]), (3, [.keep])]
noncomputable def L : List (Nat × List (Nat × List Coe)) := [(3, live_l0)]
noncomputable def body : Code := bodyOf Try.f19
noncomputable abbrev ev (K : Nat) : Code → St → (Ex → St → Option Res) → Option Res := evK (G K) T_S L K
noncomputable abbrev fin : Ex → St → Option Res := finK T_S ps rs true Try.f19.results.toList
noncomputable def S_l0 (x : Args ps) (a : A_l0) : St := mkSt [(0, ⟨0, .one, [.ro true 39 t2 x.1]⟩), (3, ⟨0, .one, [.int .i64 a]⟩)]
noncomputable def k_l0 (K : Nat) (x : Args ps) : Ex → St → Option Res := kAt (ev K) body [1, 0, 1, 0] fin
noncomputable def N_l0 (K : Nat) (x : Args ps) : A_l0 → Option Res := fun a => evLoop live_l0 (ev K (sub body [1, 0, 1, 0, 0])) K (S_l0 x a) (k_l0 K x)
end spec_TableOk
namespace spec_l3Find
@[reducible] def ps : List PK := [.rd (.list false 39 t2), .rd (.int .i64)]
@[reducible] def rs : List RK := [.v (.int .i64)]
abbrev Res := Ress rs × Outs ps
abbrev A_l0 := Int
noncomputable def l0.step (K : Nat) (x : Args ps) (rec_l0 : A_l0 → Option Res) (a : A_l0) : Option Res := bif decide (a < (List.length x.1 : Int)) then ((idx x.1 a).bind fun y1 => bif y1.1 == x.2.1 then (some ((a, ()), ())) else (rec_l0 (wr .i64 (a + 1)))) else (some (((-1), ()), ()))
noncomputable def l0 (K : Nat) (x : Args ps) : A_l0 → Option Res := iterate (fun rec_l0 a => l0.step K x rec_l0 a) K
noncomputable def pre (K : Nat) (N_l0 : A_l0 → Option Res) (x : Args ps) : Option Res := N_l0 0
noncomputable def f (K : Nat) (x : Args ps) : Option Res := pre K (l0 K x) x
noncomputable def c (K : Nat) : Ctr := ⟨28, ps, rs, true, f K⟩
noncomputable def G (K : Nat) : List Ctr := []
noncomputable def live_l0 : List (Nat × List Coe) := [(0, [.ro true 39 t2]), (1, [.keep]), (5, [.keep])]
noncomputable def L : List (Nat × List (Nat × List Coe)) := [(3, live_l0)]
noncomputable def body : Code := bodyOf Try.f28
noncomputable abbrev ev (K : Nat) : Code → St → (Ex → St → Option Res) → Option Res := evK (G K) T_S L K
noncomputable abbrev fin : Ex → St → Option Res := finK T_S ps rs true Try.f28.results.toList
noncomputable def S_l0 (x : Args ps) (a : A_l0) : St := mkSt [(0, ⟨0, .one, [.ro true 39 t2 x.1]⟩), (1, ⟨0, .one, [.int .i64 x.2.1]⟩), (5, ⟨0, .one, [.int .i64 a]⟩)]
noncomputable def k_l0 (K : Nat) (x : Args ps) : Ex → St → Option Res := kAt (ev K) body [1, 0, 1, 0] fin
noncomputable def N_l0 (K : Nat) (x : Args ps) : A_l0 → Option Res := fun a => evLoop live_l0 (ev K (sub body [1, 0, 1, 0, 0])) K (S_l0 x a) (k_l0 K x)
end spec_l3Find
namespace spec_ViewNews
@[reducible] def ps : List PK := [.rd (.list false 39 t2), .rd (.list false 39 t2)]
@[reducible] def rs : List RK := [.v (.list true 41 t3)]
abbrev Res := Ress rs × Outs ps
abbrev A_l0 := List (Ty.den t3) × Int
noncomputable def l0.step (K : Nat) (x : Args ps) (rec_l0 : A_l0 → Option Res) (a : A_l0) : Option Res := bif decide (a.2 < (List.length x.2.1 : Int)) then ((idx x.2.1 a.2).bind fun y3 => (spec_l3Find.f K (x.1, y3.1, ())).bind fun y4 => bif decide (y4.1.1 < 0) then ((idx x.2.1 a.2).bind fun y5 => bif decide ((List.length a.1 + List.length ([(y5, 0)])) * 40 ≤ sizeK) then (rec_l0 (a.1 ++ ([(y5, 0)]), wr .i64 (a.2 + 1))) else none) else ((idx x.1 y4.1.1).bind fun y6 => (idx x.2.1 a.2).bind fun y7 => bif !Ty.eqv t2 y6 y7 then ((idx x.2.1 a.2).bind fun y8 => (idx x.1 y4.1.1).bind fun y9 => bif decide ((List.length a.1 + List.length ([(y8, y9.2.2.1)])) * 40 ≤ sizeK) then (rec_l0 (a.1 ++ ([(y8, y9.2.2.1)]), wr .i64 (a.2 + 1))) else none) else (rec_l0 (a.1, wr .i64 (a.2 + 1))))) else (some ((a.1, ()), ()))
noncomputable def l0 (K : Nat) (x : Args ps) : A_l0 → Option Res := iterate (fun rec_l0 a => l0.step K x rec_l0 a) K
noncomputable def pre (K : Nat) (N_l0 : A_l0 → Option Res) (x : Args ps) : Option Res := (spec_TableOk.f K (x.1, ())).bind fun y1 => bif !y1.1.1 then (some (([], ()), ())) else ((spec_TableOk.f K (x.2.1, ())).bind fun y2 => bif !y2.1.1 then (some (([], ()), ())) else (N_l0 ([], 0)))
noncomputable def f (K : Nat) (x : Args ps) : Option Res := pre K (l0 K x) x
noncomputable def c (K : Nat) : Ctr := ⟨11, ps, rs, true, f K⟩
noncomputable def G (K : Nat) : List Ctr := [spec_TableOk.c K, spec_l3Find.c K]
noncomputable def live_l0 : List (Nat × List Coe) := [(0, [.ro true 39 t2]), (1, [.ro true 39 t2]), (5, [.own false 41 t3]), (6, [.keep])]
noncomputable def L : List (Nat × List (Nat × List Coe)) := [(6, live_l0)]
noncomputable def body : Code := bodyOf Try.f11
noncomputable abbrev ev (K : Nat) : Code → St → (Ex → St → Option Res) → Option Res := evK (G K) T_S L K
noncomputable abbrev fin : Ex → St → Option Res := finK T_S ps rs true Try.f11.results.toList
noncomputable def S_l0 (x : Args ps) (a : A_l0) : St := mkSt [(0, ⟨0, .one, [.ro true 39 t2 x.1]⟩), (1, ⟨0, .one, [.ro true 39 t2 x.2.1]⟩), (5, ⟨0, .one, [.own false none 41 t3 a.1]⟩), (6, ⟨0, .one, [.int .i64 a.2]⟩)]
noncomputable def k_l0 (K : Nat) (x : Args ps) : Ex → St → Option Res := kAt (ev K) body [1, 1, 1, 0, 1, 0] fin
noncomputable def N_l0 (K : Nat) (x : Args ps) : A_l0 → Option Res := fun a => evLoop live_l0 (ev K (sub body [1, 1, 1, 0, 1, 0, 0])) K (S_l0 x a) (k_l0 K x)
end spec_ViewNews
namespace impl_in
@[reducible] def ps : List PK := [.rd (.int .i64), .rd (.int .i64), .rd (.int .i64)]
@[reducible] def rs : List RK := [.v .bool]
abbrev Res := Ress rs × Outs ps
noncomputable def pre (K : Nat) (x : Args ps) : Option Res := bif decide (x.1 ≥ x.2.1) then (some ((decide (x.1 ≤ x.2.2.1), ()), ())) else (some ((false, ()), ()))
noncomputable def f (K : Nat) (x : Args ps) : Option Res := pre K x
noncomputable def c (K : Nat) : Ctr := ⟨45, ps, rs, true, f K⟩
noncomputable def G (K : Nat) : List Ctr := []
noncomputable def L : List (Nat × List (Nat × List Coe)) := []
noncomputable def body : Code := bodyOf Try.f45
noncomputable abbrev ev (K : Nat) : Code → St → (Ex → St → Option Res) → Option Res := evK (G K) T_D L K
noncomputable abbrev fin : Ex → St → Option Res := finK T_D ps rs true Try.f45.results.toList
end impl_in
namespace impl_isNode
@[reducible] def ps : List PK := [.rd (.int .i64)]
@[reducible] def rs : List RK := [.v .bool]
abbrev Res := Ress rs × Outs ps
noncomputable def pre (K : Nat) (x : Args ps) : Option Res := (impl_in.f K (x.1, 0, 7, ())).bind fun y1 => some ((y1.1.1, ()), ())
noncomputable def f (K : Nat) (x : Args ps) : Option Res := pre K x
noncomputable def c (K : Nat) : Ctr := ⟨44, ps, rs, true, f K⟩
noncomputable def G (K : Nat) : List Ctr := [impl_in.c K]
noncomputable def L : List (Nat × List (Nat × List Coe)) := []
noncomputable def body : Code := bodyOf Try.f44
noncomputable abbrev ev (K : Nat) : Code → St → (Ex → St → Option Res) → Option Res := evK (G K) T_D L K
noncomputable abbrev fin : Ex → St → Option Res := finK T_D ps rs true Try.f44.results.toList
end impl_isNode
namespace impl_FactOk
@[reducible] def ps : List PK := [.rd t2]
@[reducible] def rs : List RK := [.v .bool]
abbrev Res := Ress rs × Outs ps
noncomputable def pre (K : Nat) (x : Args ps) : Option Res := (impl_isNode.f K (x.1.1, ())).bind fun y1 => bif y1.1.1 then ((impl_in.f K (x.1.2.1, 0, 999, ())).bind fun y2 => bif y2.1.1 then ((impl_in.f K (x.1.2.2.1, 1, 4, ())).bind fun y3 => some ((y3.1.1, ()), ())) else (some ((false, ()), ()))) else (some ((false, ()), ()))
noncomputable def f (K : Nat) (x : Args ps) : Option Res := pre K x
noncomputable def c (K : Nat) : Ctr := ⟨35, ps, rs, true, f K⟩
noncomputable def G (K : Nat) : List Ctr := [impl_isNode.c K, impl_in.c K]
noncomputable def L : List (Nat × List (Nat × List Coe)) := []
noncomputable def body : Code := bodyOf Try.f35
noncomputable abbrev ev (K : Nat) : Code → St → (Ex → St → Option Res) → Option Res := evK (G K) T_D L K
noncomputable abbrev fin : Ex → St → Option Res := finK T_D ps rs true Try.f35.results.toList
end impl_FactOk
namespace impl_TableOk
@[reducible] def ps : List PK := [.rd (.list false 39 t2)]
@[reducible] def rs : List RK := [.v .bool]
abbrev Res := Ress rs × Outs ps
abbrev A_l0 := Int
noncomputable def l0.step (K : Nat) (x : Args ps) (rec_l0 : A_l0 → Option Res) (a : A_l0) : Option Res := bif decide (a < (List.length x.1 : Int)) then ((idx x.1 a).bind fun y1 => (impl_FactOk.f K (y1, ())).bind fun y2 => bif !y2.1.1 then (some ((false, ()), ())) else (bif decide (a > 0) then ((idx x.1 (wr .i64 (a - 1))).bind fun y3 => bif decide (y1.1 ≤ y3.1) then (some ((false, ()), ())) else (rec_l0 (wr .i64 (a + 1)))) else (rec_l0 (wr .i64 (a + 1))))) else (some ((true, ()), ()))
noncomputable def l0 (K : Nat) (x : Args ps) : A_l0 → Option Res := iterate (fun rec_l0 a => l0.step K x rec_l0 a) K
noncomputable def pre (K : Nat) (N_l0 : A_l0 → Option Res) (x : Args ps) : Option Res := N_l0 0
noncomputable def f (K : Nat) (x : Args ps) : Option Res := pre K (l0 K x) x
noncomputable def c (K : Nat) : Ctr := ⟨18, ps, rs, true, f K⟩
noncomputable def G (K : Nat) : List Ctr := [impl_FactOk.c K]
noncomputable def live_l0 : List (Nat × List Coe) := [(0, [.ro true 39 t2]), (5, [.ro true 39 t2]), (6, [.keep]), (7, [.keep])]
noncomputable def L : List (Nat × List (Nat × List Coe)) := [(3, live_l0)]
noncomputable def body : Code := bodyOf Try.f18
noncomputable abbrev ev (K : Nat) : Code → St → (Ex → St → Option Res) → Option Res := evK (G K) T_D L K
noncomputable abbrev fin : Ex → St → Option Res := finK T_D ps rs true Try.f18.results.toList
noncomputable def S_l0 (x : Args ps) (a : A_l0) : St := mkSt [(0, ⟨0, .one, [.ro true 39 t2 x.1]⟩), (5, ⟨0, .one, [.ro true 39 t2 x.1]⟩), (6, ⟨0, .one, [.int .i64 (List.length x.1 : Int)]⟩), (7, ⟨0, .one, [.int .i64 a]⟩)]
noncomputable def k_l0 (K : Nat) (x : Args ps) : Ex → St → Option Res := kAt (ev K) body [1, 0, 1, 0] fin
noncomputable def N_l0 (K : Nat) (x : Args ps) : A_l0 → Option Res := fun a => evLoop live_l0 (ev K (sub body [1, 0, 1, 0, 0])) K (S_l0 x a) (k_l0 K x)
end impl_TableOk
namespace slices_BinarySearchFunc_impl_Fact_impl_Fact_int
@[reducible] def ps : List PK := [.rd (.list false 39 t2), .rd (.int .i64), .fn [t2, (.int .i64)] (.int .i64)]
@[reducible] def rs : List RK := [.v (.int .i64), .v .bool]
abbrev Res := Ress rs × Outs ps
abbrev A_l0 := Int × Int
noncomputable def l0.step (K : Nat) (x : Args ps) (rec_l0 : A_l0 → Option Res) (a : A_l0) : Option Res := bif decide (a.1 < a.2) then ((idx x.1 (wr .i64 (Int.fdiv (wr .u64 (wr .i64 (a.1 + a.2))) (2 ^ 1)))).bind fun y1 => (x.2.2.1 (y1, x.2.1, ())).bind fun y2 => bif decide (y2 < 0) then (rec_l0 (wr .i64 ((wr .i64 (Int.fdiv (wr .u64 (wr .i64 (a.1 + a.2))) (2 ^ 1))) + 1), a.2)) else (rec_l0 (a.1, wr .i64 (Int.fdiv (wr .u64 (wr .i64 (a.1 + a.2))) (2 ^ 1))))) else (bif decide (a.1 < (List.length x.1 : Int)) then ((idx x.1 a.1).bind fun y3 => (x.2.2.1 (y3, x.2.1, ())).bind fun y4 => some ((a.1, y4 == 0, ()), ())) else (some ((a.1, false, ()), ())))
noncomputable def l0 (K : Nat) (x : Args ps) : A_l0 → Option Res := iterate (fun rec_l0 a => l0.step K x rec_l0 a) K
noncomputable def pre (K : Nat) (N_l0 : A_l0 → Option Res) (x : Args ps) : Option Res := N_l0 (0, (List.length x.1 : Int))
noncomputable def f (K : Nat) (x : Args ps) : Option Res := pre K (l0 K x) x
noncomputable def c (K : Nat) : Ctr := ⟨47, ps, rs, true, f K⟩
noncomputable def G (K : Nat) : List Ctr := []
noncomputable def live_l0 : List (Nat × List Coe) := [(0, [.ro true 39 t2]), (1, [.keep]), (2, [.keep]), (8, [.keep]), (9, [.keep]), (10, [.keep])]
noncomputable def L : List (Nat × List (Nat × List Coe)) := [(4, live_l0)]
noncomputable def body : Code := bodyOf Try.f47
noncomputable abbrev ev (K : Nat) : Code → St → (Ex → St → Option Res) → Option Res := evK (G K) T_D L K
noncomputable abbrev fin : Ex → St → Option Res := finK T_D ps rs true Try.f47.results.toList
noncomputable def S_l0 (x : Args ps) (a : A_l0) : St := mkSt [(0, ⟨0, .one, [.ro true 39 t2 x.1]⟩), (1, ⟨0, .one, [.int .i64 x.2.1]⟩), (2, ⟨0, .one, [.fn [t2, (.int .i64)] (.int .i64) x.2.2.1]⟩), (8, ⟨0, .one, [.int .i64 (List.length x.1 : Int)]⟩), (9, ⟨0, .one, [.int .i64 a.1]⟩), (10, ⟨0, .one, [.int .i64 a.2]⟩)]
noncomputable def k_l0 (K : Nat) (x : Args ps) : Ex → St → Option Res := kAt (ev K) body [1, 1, 1, 0, 0] fin
noncomputable def N_l0 (K : Nat) (x : Args ps) : A_l0 → Option Res := fun a => evLoop live_l0 (ev K (sub body [1, 1, 1, 0, 0, 0])) K (S_l0 x a) (k_l0 K x)
end slices_BinarySearchFunc_impl_Fact_impl_Fact_int
namespace cmp_isNaN_int
@[reducible] def ps : List PK := [.rd (.int .i64)]
@[reducible] def rs : List RK := [.v .bool]
abbrev Res := Ress rs × Outs ps
noncomputable def pre (K : Nat) (x : Args ps) : Option Res := some ((x.1 != x.1, ()), ())
noncomputable def f (K : Nat) (x : Args ps) : Option Res := pre K x
noncomputable def c (K : Nat) : Ctr := ⟨54, ps, rs, true, f K⟩
noncomputable def G (K : Nat) : List Ctr := []
noncomputable def L : List (Nat × List (Nat × List Coe)) := []
noncomputable def body : Code := bodyOf Try.f54
noncomputable abbrev ev (K : Nat) : Code → St → (Ex → St → Option Res) → Option Res := evK (G K) T_D L K
noncomputable abbrev fin : Ex → St → Option Res := finK T_D ps rs true Try.f54.results.toList
end cmp_isNaN_int
namespace cmp_Compare_int
@[reducible] def ps : List PK := [.rd (.int .i64), .rd (.int .i64)]
@[reducible] def rs : List RK := [.v (.int .i64)]
abbrev Res := Ress rs × Outs ps
noncomputable def pre (K : Nat) (x : Args ps) : Option Res := (cmp_isNaN_int.f K (x.1, ())).bind fun y1 => (cmp_isNaN_int.f K (x.2.1, ())).bind fun y2 => bif y1.1.1 then (bif y2.1.1 then (some ((0, ()), ())) else (some (((-1), ()), ()))) else (bif y2.1.1 then (some ((1, ()), ())) else (bif decide (x.1 < x.2.1) then (some (((-1), ()), ())) else (bif decide (x.1 > x.2.1) then (some ((1, ()), ())) else (some ((0, ()), ())))))
noncomputable def f (K : Nat) (x : Args ps) : Option Res := pre K x
noncomputable def c (K : Nat) : Ctr := ⟨49, ps, rs, true, f K⟩
noncomputable def G (K : Nat) : List Ctr := [cmp_isNaN_int.c K]
noncomputable def L : List (Nat × List (Nat × List Coe)) := []
noncomputable def body : Code := bodyOf Try.f49
noncomputable abbrev ev (K : Nat) : Code → St → (Ex → St → Option Res) → Option Res := evK (G K) T_D L K
noncomputable abbrev fin : Ex → St → Option Res := finK T_D ps rs true Try.f49.results.toList
end cmp_Compare_int
namespace impl_find_1
@[reducible] def ps : List PK := [.rd t2, .rd (.int .i64)]
@[reducible] def rs : List RK := [.v (.int .i64)]
abbrev Res := Ress rs × Outs ps
noncomputable def pre (K : Nat) (x : Args ps) : Option Res := (cmp_Compare_int.f K (x.1.1, x.2.1, ())).bind fun y1 => some ((y1.1.1, ()), ())
noncomputable def f (K : Nat) (x : Args ps) : Option Res := pre K x
noncomputable def c (K : Nat) : Ctr := ⟨48, ps, rs, true, f K⟩
noncomputable def G (K : Nat) : List Ctr := [cmp_Compare_int.c K]
noncomputable def L : List (Nat × List (Nat × List Coe)) := []
noncomputable def body : Code := bodyOf Try.f48
noncomputable abbrev ev (K : Nat) : Code → St → (Ex → St → Option Res) → Option Res := evK (G K) T_D L K
noncomputable abbrev fin : Ex → St → Option Res := finK T_D ps rs true Try.f48.results.toList
end impl_find_1
namespace impl_find
@[reducible] def ps : List PK := [.rd (.list false 39 t2), .rd (.int .i64)]
@[reducible] def rs : List RK := [.v (.int .i64), .v .bool]
abbrev Res := Ress rs × Outs ps
noncomputable def pre (K : Nat) (x : Args ps) : Option Res := (slices_BinarySearchFunc_impl_Fact_impl_Fact_int.f K (x.1, x.2.1, fun y1 => (impl_find_1.f K (y1.1, y1.2.1, ())).map fun y => y.1.1, ())).bind fun y2 => some ((y2.1.1, y2.1.2.1, ()), ())
noncomputable def f (K : Nat) (x : Args ps) : Option Res := pre K x
noncomputable def c (K : Nat) : Ctr := ⟨37, ps, rs, true, f K⟩
noncomputable def G (K : Nat) : List Ctr := [slices_BinarySearchFunc_impl_Fact_impl_Fact_int.c K, impl_find_1.c K]
noncomputable def L : List (Nat × List (Nat × List Coe)) := []
noncomputable def body : Code := bodyOf Try.f37
noncomputable abbrev ev (K : Nat) : Code → St → (Ex → St → Option Res) → Option Res := evK (G K) T_D L K
noncomputable abbrev fin : Ex → St → Option Res := finK T_D ps rs true Try.f37.results.toList
end impl_find
namespace impl_TableOf
@[reducible] def ps : List PK := [.rd (.list false 39 t2), .rd (.int .i64)]
@[reducible] def rs : List RK := [.v t2, .v .bool]
abbrev Res := Ress rs × Outs ps
noncomputable def pre (K : Nat) (x : Args ps) : Option Res := (impl_TableOk.f K (x.1, ())).bind fun y1 => bif !y1.1.1 then (some (((0, (0, (0, false))), false, ()), ())) else ((impl_find.f K (x.1, x.2.1, ())).bind fun y2 => bif !y2.1.2.1 then (some (((0, (0, (0, false))), false, ()), ())) else ((idx x.1 y2.1.1).bind fun y3 => some ((y3, true, ()), ())))
noncomputable def f (K : Nat) (x : Args ps) : Option Res := pre K x
noncomputable def c (K : Nat) : Ctr := ⟨20, ps, rs, true, f K⟩
noncomputable def G (K : Nat) : List Ctr := [impl_TableOk.c K, impl_find.c K]
noncomputable def L : List (Nat × List (Nat × List Coe)) := []
noncomputable def body : Code := bodyOf Try.f20
noncomputable abbrev ev (K : Nat) : Code → St → (Ex → St → Option Res) → Option Res := evK (G K) T_D L K
noncomputable abbrev fin : Ex → St → Option Res := finK T_D ps rs true Try.f20.results.toList
end impl_TableOf
namespace slices_Index_impl_Fact_impl_Fact
@[reducible] def ps : List PK := [.rd (.list false 39 t2), .rd t2]
@[reducible] def rs : List RK := [.v (.int .i64)]
abbrev Res := Ress rs × Outs ps
abbrev A_l0 := Int
noncomputable def l0.step (K : Nat) (x : Args ps) (rec_l0 : A_l0 → Option Res) (a : A_l0) : Option Res := bif decide (a < (List.length x.1 : Int)) then ((idx x.1 a).bind fun y1 => bif Ty.eqv t2 x.2.1 y1 then (some ((a, ()), ())) else (rec_l0 (wr .i64 (a + 1)))) else (some (((-1), ()), ()))
noncomputable def l0 (K : Nat) (x : Args ps) : A_l0 → Option Res := iterate (fun rec_l0 a => l0.step K x rec_l0 a) K
noncomputable def pre (K : Nat) (N_l0 : A_l0 → Option Res) (x : Args ps) : Option Res := N_l0 0
noncomputable def f (K : Nat) (x : Args ps) : Option Res := pre K (l0 K x) x
noncomputable def c (K : Nat) : Ctr := ⟨40, ps, rs, true, f K⟩
noncomputable def G (K : Nat) : List Ctr := []
noncomputable def live_l0 : List (Nat × List Coe) := [(0, [.ro true 39 t2]), (3, [.keep]), (7, [.keep]), (8, [.keep]), (100003, [.keep, .keep, .keep, .keep])]
noncomputable def L : List (Nat × List (Nat × List Coe)) := [(3, live_l0)]
noncomputable def body : Code := bodyOf Try.f40
noncomputable abbrev ev (K : Nat) : Code → St → (Ex → St → Option Res) → Option Res := evK (G K) T_D L K
noncomputable abbrev fin : Ex → St → Option Res := finK T_D ps rs true Try.f40.results.toList
noncomputable def S_l0 (x : Args ps) (a : A_l0) : St := mkSt [(0, ⟨0, .one, [.ro true 39 t2 x.1]⟩), (3, ⟨0, .one, [.bp 100003 0]⟩), (7, ⟨0, .one, [.int .i64 (List.length x.1 : Int)]⟩), (8, ⟨0, .one, [.int .i64 a]⟩), (100003, ⟨0, .agg, [.int .i64 x.2.1.1, .int .i64 x.2.1.2.1, .int .i64 x.2.1.2.2.1, .bool x.2.1.2.2.2]⟩)]
noncomputable def k_l0 (K : Nat) (x : Args ps) : Ex → St → Option Res := kAt (ev K) body [1, 0, 1, 0] fin
noncomputable def N_l0 (K : Nat) (x : Args ps) : A_l0 → Option Res := fun a => evLoop live_l0 (ev K (sub body [1, 0, 1, 0, 0])) K (S_l0 x a) (k_l0 K x)
end slices_Index_impl_Fact_impl_Fact
namespace slices_Contains_impl_Fact_impl_Fact
@[reducible] def ps : List PK := [.rd (.list false 39 t2), .rd t2]
@[reducible] def rs : List RK := [.v .bool]
abbrev Res := Ress rs × Outs ps
noncomputable def pre (K : Nat) (x : Args ps) : Option Res := (slices_Index_impl_Fact_impl_Fact.f K (x.1, x.2.1, ())).bind fun y1 => some ((decide (y1.1.1 ≥ 0), ()), ())
noncomputable def f (K : Nat) (x : Args ps) : Option Res := pre K x
noncomputable def c (K : Nat) : Ctr := ⟨29, ps, rs, true, f K⟩
noncomputable def G (K : Nat) : List Ctr := [slices_Index_impl_Fact_impl_Fact.c K]
noncomputable def L : List (Nat × List (Nat × List Coe)) := []
noncomputable def body : Code := bodyOf Try.f29
noncomputable abbrev ev (K : Nat) : Code → St → (Ex → St → Option Res) → Option Res := evK (G K) T_D L K
noncomputable abbrev fin : Ex → St → Option Res := finK T_D ps rs true Try.f29.results.toList
end slices_Contains_impl_Fact_impl_Fact
namespace impl_ViewNews
@[reducible] def ps : List PK := [.rd (.list false 39 t2), .rd (.list false 39 t2)]
@[reducible] def rs : List RK := [.v (.list true 41 t3)]
abbrev Res := Ress rs × Outs ps
abbrev A_l0 := List (Ty.den t3) × Int
noncomputable def l0.step (K : Nat) (x : Args ps) (rec_l0 : A_l0 → Option Res) (a : A_l0) : Option Res := bif decide (a.2 < (List.length x.2.1 : Int)) then ((idx x.2.1 a.2).bind fun y3 => (impl_TableOf.f K (x.1, y3.1, ())).bind fun y4 => (slices_Contains_impl_Fact_impl_Fact.f K (x.1, y3, ())).bind fun y5 => bif !y5.1.1 then (bif decide ((List.length a.1 + List.length ([(y3, y4.1.1.2.2.1)])) * 40 ≤ sizeK) then (rec_l0 (a.1 ++ ([(y3, y4.1.1.2.2.1)]), wr .i64 (a.2 + 1))) else none) else (rec_l0 (a.1, wr .i64 (a.2 + 1)))) else (some ((a.1, ()), ()))
noncomputable def l0 (K : Nat) (x : Args ps) : A_l0 → Option Res := iterate (fun rec_l0 a => l0.step K x rec_l0 a) K
noncomputable def pre (K : Nat) (N_l0 : A_l0 → Option Res) (x : Args ps) : Option Res := (impl_TableOk.f K (x.1, ())).bind fun y1 => bif !y1.1.1 then (some (([], ()), ())) else ((impl_TableOk.f K (x.2.1, ())).bind fun y2 => bif !y2.1.1 then (some (([], ()), ())) else (N_l0 ([], 0)))
noncomputable def f (K : Nat) (x : Args ps) : Option Res := pre K (l0 K x) x
noncomputable def c (K : Nat) : Ctr := ⟨12, ps, rs, true, f K⟩
noncomputable def G (K : Nat) : List Ctr := [impl_TableOk.c K, impl_TableOf.c K, slices_Contains_impl_Fact_impl_Fact.c K]
noncomputable def live_l0 : List (Nat × List Coe) := [(0, [.ro true 39 t2]), (5, [.own false 41 t3]), (18, [.ro true 39 t2]), (19, [.keep]), (20, [.keep])]
noncomputable def L : List (Nat × List (Nat × List Coe)) := [(6, live_l0)]
noncomputable def body : Code := bodyOf Try.f12
noncomputable abbrev ev (K : Nat) : Code → St → (Ex → St → Option Res) → Option Res := evK (G K) T_D L K
noncomputable abbrev fin : Ex → St → Option Res := finK T_D ps rs true Try.f12.results.toList
noncomputable def S_l0 (x : Args ps) (a : A_l0) : St := mkSt [(0, ⟨0, .one, [.ro true 39 t2 x.1]⟩), (5, ⟨0, .one, [.own false none 41 t3 a.1]⟩), (18, ⟨0, .one, [.ro true 39 t2 x.2.1]⟩), (19, ⟨0, .one, [.int .i64 (List.length x.2.1 : Int)]⟩), (20, ⟨0, .one, [.int .i64 a.2]⟩)]
noncomputable def k_l0 (K : Nat) (x : Args ps) : Ex → St → Option Res := kAt (ev K) body [1, 1, 1, 0, 1, 0] fin
noncomputable def N_l0 (K : Nat) (x : Args ps) : A_l0 → Option Res := fun a => evLoop live_l0 (ev K (sub body [1, 1, 1, 0, 1, 0, 0])) K (S_l0 x a) (k_l0 K x)
end impl_ViewNews
namespace spec_l1Open
@[reducible] def ps : List PK := [.rd (.list false 5 (.int .u8))]
@[reducible] def rs : List RK := [.box t4]
abbrev Res := Ress rs × Outs ps
noncomputable def pre (K : Nat) (x : Args ps) : Option Res := bif decide ((List.length x.1 : Int) > 2000) then (bif decide (0 ≤ 0) && decide (0 ≤ 2000) && decide (2000 ≤ (List.length x.1 : Int)) && true then (some ((((x.1.take (Int.toNat 2000)).drop (Int.toNat 0), 0), ()), ())) else none) else (some (((x.1, 0), ()), ()))
noncomputable def f (K : Nat) (x : Args ps) : Option Res := pre K x
noncomputable def c (K : Nat) : Ctr := ⟨31, ps, rs, false, f K⟩
noncomputable def G (K : Nat) : List Ctr := []
noncomputable def L : List (Nat × List (Nat × List Coe)) := []
noncomputable def body : Code := bodyOf Try.f31
noncomputable abbrev ev (K : Nat) : Code → St → (Ex → St → Option Res) → Option Res := evK (G K) T_S L K
noncomputable abbrev fin : Ex → St → Option Res := finK T_S ps rs false Try.f31.results.toList
end spec_l1Open
namespace spec_l1Rd_pick
@[reducible] def ps : List PK := [.iop t4, .rd (.int .i64)]
@[reducible] def rs : List RK := [.v (.int .i64)]
abbrev Res := Ress rs × Outs ps
noncomputable def pre (K : Nat) (x : Args ps) : Option Res := bif decide (x.2.1 < 1) then (some ((0, ()), ((x.1.1, wr .i64 (x.1.2 + 1)), ()))) else (bif (List.length x.1.1 : Int) == 0 then (some ((0, ()), ((x.1.1, wr .i64 (x.1.2 + 1)), ()))) else (bif decide ((wr .i64 ((wr .i64 (x.1.2 + 1)) - 1)) < (List.length x.1.1 : Int)) then ((idx x.1.1 (wr .i64 ((wr .i64 (x.1.2 + 1)) - 1))).bind fun y1 => bif decide (x.2.1 = 0) then none else (some ((Int.tmod (wr .i64 y1) x.2.1, ()), ((x.1.1, wr .i64 (x.1.2 + 1)), ())))) else (bif decide ((List.length x.1.1 : Int) = 0) then none else ((idx x.1.1 (Int.tmod (wr .i64 ((wr .i64 (x.1.2 + 1)) - 1)) (List.length x.1.1 : Int))).bind fun y2 => bif decide ((List.length x.1.1 : Int) = 0) then none else ((idx x.1.1 (Int.tmod (wr .i64 ((wr .i64 ((wr .i64 ((wr .i64 (x.1.2 + 1)) - 1)) * 7)) + 3)) (List.length x.1.1 : Int))).bind fun y3 => bif decide ((List.length x.1.1 : Int) = 0) then none else (bif decide (x.2.1 = 0) then none else (some ((Int.tmod (xorI .i64 (wr .i64 ((wr .i64 ((wr .i64 ((wr .i64 ((wr .i64 y2) * 131)) + (wr .i64 ((wr .i64 y3) * 1117)))) + (wr .i64 ((wr .i64 ((wr .i64 (x.1.2 + 1)) - 1)) * 29)))) + (wr .i64 ((wr .i64 (Int.tdiv (wr .i64 ((wr .i64 (x.1.2 + 1)) - 1)) (List.length x.1.1 : Int))) * 53)))) (wr .i64 (Int.tdiv (wr .i64 ((wr .i64 ((wr .i64 ((wr .i64 ((wr .i64 y2) * 131)) + (wr .i64 ((wr .i64 y3) * 1117)))) + (wr .i64 ((wr .i64 ((wr .i64 (x.1.2 + 1)) - 1)) * 29)))) + (wr .i64 ((wr .i64 (Int.tdiv (wr .i64 ((wr .i64 (x.1.2 + 1)) - 1)) (List.length x.1.1 : Int))) * 53)))) 64))) x.2.1, ()), ((x.1.1, wr .i64 (x.1.2 + 1)), ())))))))))
noncomputable def f (K : Nat) (x : Args ps) : Option Res := pre K x
noncomputable def c (K : Nat) : Ctr := ⟨33, ps, rs, false, f K⟩
noncomputable def G (K : Nat) : List Ctr := []
noncomputable def L : List (Nat × List (Nat × List Coe)) := []
noncomputable def body : Code := bodyOf Try.f33
noncomputable abbrev ev (K : Nat) : Code → St → (Ex → St → Option Res) → Option Res := evK (G K) T_S L K
noncomputable abbrev fin : Ex → St → Option Res := finK T_S ps rs false Try.f33.results.toList
end spec_l1Rd_pick
namespace spec_l3Over
@[reducible] def ps : List PK := [.rd t2, .rd t2]
@[reducible] def rs : List RK := [.v .bool]
abbrev Res := Ress rs × Outs ps
noncomputable def pre (K : Nat) (x : Args ps) : Option Res := bif x.1.2.1 != x.2.1.2.1 then (some ((decide (x.1.2.1 > x.2.1.2.1), ()), ())) else (bif x.1.2.2.1 != x.2.1.2.2.1 then (some ((decide (x.1.2.2.1 > x.2.1.2.2.1), ()), ())) else (bif x.1.2.2.2 then (some ((!x.2.1.2.2.2, ()), ())) else (some ((false, ()), ()))))
noncomputable def f (K : Nat) (x : Args ps) : Option Res := pre K x
noncomputable def c (K : Nat) : Ctr := ⟨53, ps, rs, true, f K⟩
noncomputable def G (K : Nat) : List Ctr := []
noncomputable def L : List (Nat × List (Nat × List Coe)) := []
noncomputable def body : Code := bodyOf Try.f53
noncomputable abbrev ev (K : Nat) : Code → St → (Ex → St → Option Res) → Option Res := evK (G K) T_S L K
noncomputable abbrev fin : Ex → St → Option Res := finK T_S ps rs true Try.f53.results.toList
end spec_l3Over
namespace spec_l3Put
@[reducible] def ps : List PK := [.own (.list true 39 t2), .rd t2]
@[reducible] def rs : List RK := [.v (.list true 39 t2), .v .bool]
abbrev Res := Ress rs × Outs ps
abbrev A_l0 := Int
noncomputable def l0.step (K : Nat) (x : Args ps) (rec_l0 : A_l0 → Option Res) (a : A_l0) : Option Res := bif decide (a < (List.length x.1 : Int)) then ((idx x.1 a).bind fun _ => (idx x.1 (Int.toNat a : Nat)).bind fun y8 => bif decide (y8.1 < x.2.1.1) then (rec_l0 (wr .i64 (a + 1))) else (bif decide (0 ≤ 0) && decide (0 ≤ a) && decide (a ≤ (List.length x.1 : Int)) && true then (bif decide ((List.length ([] : List (Ty.den t2)) + List.length ((x.1.take (Int.toNat a)).drop (Int.toNat 0))) * 32 ≤ sizeK) then (bif decide ((List.length ([] ++ ((x.1.take (Int.toNat a)).drop (Int.toNat 0))) + List.length ([x.2.1])) * 32 ≤ sizeK) then (bif decide (0 ≤ a) && decide (a ≤ (List.length x.1 : Int)) && decide ((List.length x.1 : Int) ≤ (List.length x.1 : Int)) && true then (bif decide ((List.length (([] ++ ((x.1.take (Int.toNat a)).drop (Int.toNat 0))) ++ ([x.2.1])) + List.length ((x.1.take (Int.toNat (List.length x.1 : Int))).drop (Int.toNat a))) * 32 ≤ sizeK) then (some (((([] ++ ((x.1.take (Int.toNat a)).drop (Int.toNat 0))) ++ ([x.2.1])) ++ ((x.1.take (Int.toNat (List.length x.1 : Int))).drop (Int.toNat a)), true, ()), ())) else none) else none) else none) else none) else none)) else (bif decide (0 ≤ 0) && decide (0 ≤ a) && decide (a ≤ (List.length x.1 : Int)) && true then (bif decide ((List.length ([] : List (Ty.den t2)) + List.length ((x.1.take (Int.toNat a)).drop (Int.toNat 0))) * 32 ≤ sizeK) then (bif decide ((List.length ([] ++ ((x.1.take (Int.toNat a)).drop (Int.toNat 0))) + List.length ([x.2.1])) * 32 ≤ sizeK) then (bif decide (0 ≤ a) && decide (a ≤ (List.length x.1 : Int)) && decide ((List.length x.1 : Int) ≤ (List.length x.1 : Int)) && true then (bif decide ((List.length (([] ++ ((x.1.take (Int.toNat a)).drop (Int.toNat 0))) ++ ([x.2.1])) + List.length ((x.1.take (Int.toNat (List.length x.1 : Int))).drop (Int.toNat a))) * 32 ≤ sizeK) then (some (((([] ++ ((x.1.take (Int.toNat a)).drop (Int.toNat 0))) ++ ([x.2.1])) ++ ((x.1.take (Int.toNat (List.length x.1 : Int))).drop (Int.toNat a)), true, ()), ())) else none) else none) else none) else none) else none)
noncomputable def l0 (K : Nat) (x : Args ps) : A_l0 → Option Res := iterate (fun rec_l0 a => l0.step K x rec_l0 a) K
noncomputable def pre (K : Nat) (N_l0 : A_l0 → Option Res) (x : Args ps) : Option Res := (spec_l3Find.f K (x.1, x.2.1.1, ())).bind fun y1 => bif decide (y1.1.1 ≥ 0) then ((idx x.1 y1.1.1).bind fun _ => (idx x.1 (Int.toNat y1.1.1 : Nat)).bind fun y3 => (spec_l3Over.f K (x.2.1, y3, ())).bind fun y4 => bif !y4.1.1 then (some ((x.1, false, ()), ())) else (bif decide ((List.length ([] : List (Ty.den t2)) + List.length x.1) * 32 ≤ sizeK) then ((idx ([] ++ x.1) y1.1.1).bind fun _ => (idx ([] ++ x.1) (Int.toNat y1.1.1 : Nat)).bind fun y6 => some ((([] ++ x.1).set (Int.toNat y1.1.1) x.2.1, true, ()), ())) else none)) else (N_l0 0)
noncomputable def f (K : Nat) (x : Args ps) : Option Res := pre K (l0 K x) x
noncomputable def c (K : Nat) : Ctr := ⟨43, ps, rs, true, f K⟩
noncomputable def G (K : Nat) : List Ctr := [spec_l3Find.c K, spec_l3Over.c K]
noncomputable def live_l0 : List (Nat × List Coe) := [(0, [.own false 39 t2]), (3, [.keep]), (8, [.keep]), (100003, [.keep, .keep, .keep, .keep])]
noncomputable def L : List (Nat × List (Nat × List Coe)) := [(10, live_l0)]
noncomputable def body : Code := bodyOf Try.f43
noncomputable abbrev ev (K : Nat) : Code → St → (Ex → St → Option Res) → Option Res := evK (G K) T_S L K
noncomputable abbrev fin : Ex → St → Option Res := finK T_S ps rs true Try.f43.results.toList
noncomputable def S_l0 (x : Args ps) (a : A_l0) : St := mkSt [(0, ⟨0, .one, [.own false none 39 t2 x.1]⟩), (3, ⟨0, .one, [.bp 100003 0]⟩), (8, ⟨0, .one, [.int .i64 a]⟩), (100003, ⟨0, .agg, [.int .i64 x.2.1.1, .int .i64 x.2.1.2.1, .int .i64 x.2.1.2.2.1, .bool x.2.1.2.2.2]⟩)]
noncomputable def k_l0 (K : Nat) (x : Args ps) : Ex → St → Option Res := kAt (ev K) body [1, 1, 1, 1, 0, 0] fin
noncomputable def N_l0 (K : Nat) (x : Args ps) : A_l0 → Option Res := fun a => evLoop live_l0 (ev K (sub body [1, 1, 1, 1, 0, 0, 0])) K (S_l0 x a) (k_l0 K x)
end spec_l3Put
namespace spec_l51Gate
@[reducible] def ps : List PK := [.rd (.int .i64)]
@[reducible] def rs : List RK := [.v .bool]
abbrev Res := Ress rs × Outs ps
noncomputable def pre (K : Nat) (x : Args ps) : Option Res := some ((decide ((Int.tmod x.1 4) < 3), ()), ())
noncomputable def f (K : Nat) (x : Args ps) : Option Res := pre K x
noncomputable def c (K : Nat) : Ctr := ⟨58, ps, rs, true, f K⟩
noncomputable def G (K : Nat) : List Ctr := []
noncomputable def L : List (Nat × List (Nat × List Coe)) := []
noncomputable def body : Code := bodyOf Try.f58
noncomputable abbrev ev (K : Nat) : Code → St → (Ex → St → Option Res) → Option Res := evK (G K) T_S L K
noncomputable abbrev fin : Ex → St → Option Res := finK T_S ps rs true Try.f58.results.toList
end spec_l51Gate
namespace spec_l61Fact
@[reducible] def ps : List PK := [.iop t4, .rd (.int .i64)]
@[reducible] def rs : List RK := [.v t2]
abbrev Res := Ress rs × Outs ps
noncomputable def pre (K : Nat) (x : Args ps) : Option Res := (spec_l1Rd_pick.f K (x.1, 4, ())).bind fun y1 => (spec_l1Rd_pick.f K (y1.2.1, 3, ())).bind fun y2 => (spec_l1Rd_pick.f K (y2.2.1, 12, ())).bind fun y3 => (spec_l1Rd_pick.f K (y3.2.1, 3, ())).bind fun y4 => (idx ([y2.1.1, y3.1.1, 999]) y4.1.1).bind fun _ => (idx ([y2.1.1, y3.1.1, 999]) (Int.toNat y4.1.1 : Nat)).bind fun y6 => (spec_l1Rd_pick.f K (y4.2.1, 4, ())).bind fun y7 => (spec_l51Gate.f K (wr .i64 ((wr .i64 (x.2.1 * 4)) + y1.1.1), ())).bind fun y8 => some (((wr .i64 ((wr .i64 (x.2.1 * 4)) + y1.1.1), (y6, (wr .i64 (1 + y7.1.1), y8.1.1))), ()), (y7.2.1, ()))
noncomputable def f (K : Nat) (x : Args ps) : Option Res := pre K x
noncomputable def c (K : Nat) : Ctr := ⟨52, ps, rs, false, f K⟩
noncomputable def G (K : Nat) : List Ctr := [spec_l1Rd_pick.c K, spec_l51Gate.c K]
noncomputable def L : List (Nat × List (Nat × List Coe)) := []
noncomputable def body : Code := bodyOf Try.f52
noncomputable abbrev ev (K : Nat) : Code → St → (Ex → St → Option Res) → Option Res := evK (G K) T_S L K
noncomputable abbrev fin : Ex → St → Option Res := finK T_S ps rs false Try.f52.results.toList
end spec_l61Fact
namespace spec_l61Table
@[reducible] def ps : List PK := [.iop t4, .rd (.int .i64)]
@[reducible] def rs : List RK := [.v (.list true 39 t2)]
abbrev Res := Ress rs × Outs ps
abbrev A_l0 := List (Ty.den t2) × Int × List (Ty.den (.int .u8)) × Int
noncomputable def l0.step (K : Nat) (x : Args ps) (rec_l0 : A_l0 → Option Res) (a : A_l0) : Option Res := bif decide (a.2.1 > 0) then (bif decide (x.2.1 < 0) then ((spec_l1Rd_pick.f K (a.2.2, 2, ())).bind fun y2 => (spec_l61Fact.f K (y2.2.1, y2.1.1, ())).bind fun y3 => (spec_l3Put.f K (a.1, y3.1.1, ())).bind fun y4 => rec_l0 (y4.1.1, wr .i64 (a.2.1 - 1), y3.2.1.1, y3.2.1.2)) else ((spec_l61Fact.f K (a.2.2, x.2.1, ())).bind fun y5 => (spec_l3Put.f K (a.1, y5.1.1, ())).bind fun y6 => rec_l0 (y6.1.1, wr .i64 (a.2.1 - 1), y5.2.1.1, y5.2.1.2))) else (some ((a.1, ()), (a.2.2, ())))
noncomputable def l0 (K : Nat) (x : Args ps) : A_l0 → Option Res := iterate (fun rec_l0 a => l0.step K x rec_l0 a) K
noncomputable def pre (K : Nat) (N_l0 : A_l0 → Option Res) (x : Args ps) : Option Res := (spec_l1Rd_pick.f K (x.1, 6, ())).bind fun y1 => N_l0 ([], y1.1.1, y1.2.1.1, y1.2.1.2)
noncomputable def f (K : Nat) (x : Args ps) : Option Res := pre K (l0 K x) x
noncomputable def c (K : Nat) : Ctr := ⟨41, ps, rs, false, f K⟩
noncomputable def G (K : Nat) : List Ctr := [spec_l1Rd_pick.c K, spec_l3Put.c K, spec_l61Fact.c K]
noncomputable def live_l0 : List (Nat × List Coe) := [(0, [.keep]), (1, [.keep]), (5, [.own false 39 t2]), (6, [.keep]), (100000, [.ro true 5 (.int .u8), .keep])]
noncomputable def L : List (Nat × List (Nat × List Coe)) := [(4, live_l0)]
noncomputable def body : Code := bodyOf Try.f41
noncomputable abbrev ev (K : Nat) : Code → St → (Ex → St → Option Res) → Option Res := evK (G K) T_S L K
noncomputable abbrev fin : Ex → St → Option Res := finK T_S ps rs false Try.f41.results.toList
noncomputable def S_l0 (x : Args ps) (a : A_l0) : St := mkSt [(0, ⟨0, .one, [.bp 100000 0]⟩), (1, ⟨0, .one, [.int .i64 x.2.1]⟩), (5, ⟨0, .one, [.own false none 39 t2 a.1]⟩), (6, ⟨0, .one, [.int .i64 a.2.1]⟩), (100000, ⟨0, .agg, [.ro true 5 (.int .u8) a.2.2.1, .int .i64 a.2.2.2]⟩)]
noncomputable def k_l0 (K : Nat) (x : Args ps) : Ex → St → Option Res := kAt (ev K) body [1, 1, 0, 1, 0] fin
noncomputable def N_l0 (K : Nat) (x : Args ps) : A_l0 → Option Res := fun a => evLoop live_l0 (ev K (sub body [1, 1, 0, 1, 0, 0])) K (S_l0 x a) (k_l0 K x)
end spec_l61Table
namespace spec_l61AnyFact
@[reducible] def ps : List PK := [.iop t4]
@[reducible] def rs : List RK := [.v t2]
abbrev Res := Ress rs × Outs ps
noncomputable def pre (K : Nat) (x : Args ps) : Option Res := (spec_l1Rd_pick.f K (x.1, 2, ())).bind fun y1 => (spec_l61Fact.f K (y1.2.1, y1.1.1, ())).bind fun y2 => (spec_l1Rd_pick.f K (y2.2.1, 12, ())).bind fun y3 => bif y3.1.1 == 0 then ((spec_l1Rd_pick.f K (y3.2.1, 2, ())).bind fun y4 => (idx ([(-1), 8] : List (Int)) y4.1.1).bind fun _ => (idx ([(-1), 8] : List (Int)) (Int.toNat y4.1.1 : Nat)).bind fun y6 => some (((y6, y2.1.1.2), ()), (y4.2.1, ()))) else (bif y3.1.1 == 1 then ((spec_l1Rd_pick.f K (y3.2.1, 2, ())).bind fun y7 => (idx ([(-1), 1000] : List (Int)) y7.1.1).bind fun _ => (idx ([(-1), 1000] : List (Int)) (Int.toNat y7.1.1 : Nat)).bind fun y9 => some (((y2.1.1.1, (y9, y2.1.1.2.2)), ()), (y7.2.1, ()))) else (bif y3.1.1 == 2 then ((spec_l1Rd_pick.f K (y3.2.1, 2, ())).bind fun y10 => (idx ([0, 5] : List (Int)) y10.1.1).bind fun _ => (idx ([0, 5] : List (Int)) (Int.toNat y10.1.1 : Nat)).bind fun y12 => some (((y2.1.1.1, (y2.1.1.2.1, (y12, y2.1.1.2.2.2))), ()), (y10.2.1, ()))) else (bif y3.1.1 == 3 then (some (((y2.1.1.1, (y2.1.1.2.1, (y2.1.1.2.2.1, !y2.1.1.2.2.2))), ()), (y3.2.1, ()))) else (some ((y2.1.1, ()), (y3.2.1, ()))))))
noncomputable def f (K : Nat) (x : Args ps) : Option Res := pre K x
noncomputable def c (K : Nat) : Ctr := ⟨42, ps, rs, false, f K⟩
noncomputable def G (K : Nat) : List Ctr := [spec_l1Rd_pick.c K, spec_l61Fact.c K]
noncomputable def L : List (Nat × List (Nat × List Coe)) := []
noncomputable def body : Code := bodyOf Try.f42
noncomputable abbrev ev (K : Nat) : Code → St → (Ex → St → Option Res) → Option Res := evK (G K) T_S L K
noncomputable abbrev fin : Ex → St → Option Res := finK T_S ps rs false Try.f42.results.toList
end spec_l61AnyFact
namespace spec_l61AnyTable
@[reducible] def ps : List PK := [.iop t4]
@[reducible] def rs : List RK := [.v (.list true 39 t2)]
abbrev Res := Ress rs × Outs ps
noncomputable def pre (K : Nat) (x : Args ps) : Option Res := (spec_l61Table.f K (x.1, (-1), ())).bind fun y1 => bif decide ((List.length y1.1.1 : Int) > 0) then ((spec_l1Rd_pick.f K (y1.2.1, 12, ())).bind fun y2 => bif y2.1.1 == 0 then ((spec_l1Rd_pick.f K (y2.2.1, (List.length y1.1.1 : Int), ())).bind fun y3 => (spec_l1Rd_pick.f K (y3.2.1, 3, ())).bind fun y4 => bif y4.1.1 == 0 then ((spec_l61AnyFact.f K (y4.2.1, ())).bind fun y5 => (idx y1.1.1 y3.1.1).bind fun _ => (idx y1.1.1 (Int.toNat y3.1.1 : Nat)).bind fun y7 => some ((y1.1.1.set (Int.toNat y3.1.1) y5.1.1, ()), (y5.2.1, ()))) else (bif y4.1.1 == 1 then ((idx y1.1.1 y3.1.1).bind fun _ => (idx y1.1.1 (Int.toNat y3.1.1 : Nat)).bind fun y9 => bif decide ((List.length y1.1.1 + List.length ([y9])) * 32 ≤ sizeK) then (some ((y1.1.1 ++ ([y9]), ()), (y4.2.1, ()))) else none) else ((idx y1.1.1 y3.1.1).bind fun _ => (idx y1.1.1 (Int.toNat y3.1.1 : Nat)).bind fun y11 => some ((y1.1.1.set (Int.toNat y3.1.1) (y11.1, (y11.2.1, (0, y11.2.2.2))), ()), (y4.2.1, ()))))) else (some ((y1.1.1, ()), (y2.2.1, ())))) else (some ((y1.1.1, ()), (y1.2.1, ())))
noncomputable def f (K : Nat) (x : Args ps) : Option Res := pre K x
noncomputable def c (K : Nat) : Ctr := ⟨32, ps, rs, false, f K⟩
noncomputable def G (K : Nat) : List Ctr := [spec_l1Rd_pick.c K, spec_l61Table.c K, spec_l61AnyFact.c K]
noncomputable def L : List (Nat × List (Nat × List Coe)) := []
noncomputable def body : Code := bodyOf Try.f32
noncomputable abbrev ev (K : Nat) : Code → St → (Ex → St → Option Res) → Option Res := evK (G K) T_S L K
noncomputable abbrev fin : Ex → St → Option Res := finK T_S ps rs false Try.f32.results.toList
end spec_l61AnyTable
namespace spec_TableJoin
@[reducible] def ps : List PK := [.rd (.list false 39 t2), .rd (.list false 39 t2)]
@[reducible] def rs : List RK := [.v (.list true 39 t2)]
abbrev Res := Ress rs × Outs ps
abbrev A_l0 := List (Ty.den t2) × Int
noncomputable def l0.step (K : Nat) (x : Args ps) (rec_l0 : A_l0 → Option Res) (a : A_l0) : Option Res := bif decide (a.2 < (List.length x.2.1 : Int)) then ((idx x.2.1 a.2).bind fun y3 => (spec_l3Put.f K (a.1, y3, ())).bind fun y4 => rec_l0 (y4.1.1, wr .i64 (a.2 + 1))) else (some ((a.1, ()), ()))
noncomputable def l0 (K : Nat) (x : Args ps) : A_l0 → Option Res := iterate (fun rec_l0 a => l0.step K x rec_l0 a) K
noncomputable def pre (K : Nat) (N_l0 : A_l0 → Option Res) (x : Args ps) : Option Res := (spec_TableOk.f K (x.1, ())).bind fun y1 => bif !y1.1.1 then (some (([], ()), ())) else ((spec_TableOk.f K (x.2.1, ())).bind fun y2 => bif !y2.1.1 then (some (([], ()), ())) else (bif decide ((List.length ([] : List (Ty.den t2)) + List.length x.1) * 32 ≤ sizeK) then (N_l0 ([] ++ x.1, 0)) else none))
noncomputable def f (K : Nat) (x : Args ps) : Option Res := pre K (l0 K x) x
noncomputable def c (K : Nat) : Ctr := ⟨34, ps, rs, true, f K⟩
noncomputable def G (K : Nat) : List Ctr := [spec_TableOk.c K, spec_l3Put.c K]
noncomputable def live_l0 : List (Nat × List Coe) := [(1, [.ro true 39 t2]), (5, [.own false 39 t2]), (6, [.keep])]
noncomputable def L : List (Nat × List (Nat × List Coe)) := [(6, live_l0)]
noncomputable def body : Code := bodyOf Try.f34
noncomputable abbrev ev (K : Nat) : Code → St → (Ex → St → Option Res) → Option Res := evK (G K) T_S L K
noncomputable abbrev fin : Ex → St → Option Res := finK T_S ps rs true Try.f34.results.toList
noncomputable def S_l0 (x : Args ps) (a : A_l0) : St := mkSt [(1, ⟨0, .one, [.ro true 39 t2 x.2.1]⟩), (5, ⟨0, .one, [.own false none 39 t2 a.1]⟩), (6, ⟨0, .one, [.int .i64 a.2]⟩)]
noncomputable def k_l0 (K : Nat) (x : Args ps) : Ex → St → Option Res := kAt (ev K) body [1, 1, 1, 0, 1, 0] fin
noncomputable def N_l0 (K : Nat) (x : Args ps) : A_l0 → Option Res := fun a => evLoop live_l0 (ev K (sub body [1, 1, 1, 0, 1, 0, 0])) K (S_l0 x a) (k_l0 K x)
end spec_TableJoin
namespace spec_DrawViewNews
@[reducible] def ps : List PK := [.rd (.list false 5 (.int .u8))]
@[reducible] def rs : List RK := [.bv (.list false 39 t2), .bv (.list false 39 t2)]
abbrev Res := Ress rs × Outs ps
noncomputable def pre (K : Nat) (x : Args ps) : Option Res := (spec_l1Open.f K (x.1, ())).bind fun y1 => (spec_l61AnyTable.f K (y1.1.1, ())).bind fun y2 => (spec_l61AnyTable.f K (y2.2.1, ())).bind fun y3 => (spec_l1Rd_pick.f K (y3.2.1, 2, ())).bind fun y4 => bif y4.1.1 == 0 then ((spec_TableJoin.f K (y2.1.1, y3.1.1, ())).bind fun y5 => some ((y2.1.1, y5.1.1, ()), ())) else (some ((y2.1.1, y3.1.1, ()), ()))
noncomputable def f (K : Nat) (x : Args ps) : Option Res := pre K x
noncomputable def c (K : Nat) : Ctr := ⟨17, ps, rs, true, f K⟩
noncomputable def G (K : Nat) : List Ctr := [spec_l1Open.c K, spec_l61AnyTable.c K, spec_l1Rd_pick.c K, spec_TableJoin.c K]
noncomputable def L : List (Nat × List (Nat × List Coe)) := []
noncomputable def body : Code := bodyOf Try.f17
noncomputable abbrev ev (K : Nat) : Code → St → (Ex → St → Option Res) → Option Res := evK (G K) T_S L K
noncomputable abbrev fin : Ex → St → Option Res := finK T_S ps rs true Try.f17.results.toList
end spec_DrawViewNews
namespace cmp_Or_int
@[reducible] def ps : List PK := [.rd (.list false 3 (.int .i64))]
@[reducible] def rs : List RK := [.v (.int .i64)]
abbrev Res := Ress rs × Outs ps
abbrev A_l0 := Int
noncomputable def l0.step (K : Nat) (x : Args ps) (rec_l0 : A_l0 → Option Res) (a : A_l0) : Option Res := bif decide (a < (List.length x.1 : Int)) then ((idx x.1 a).bind fun y1 => bif y1 != 0 then (some ((y1, ()), ())) else (rec_l0 (wr .i64 (a + 1)))) else (some ((0, ()), ()))
noncomputable def l0 (K : Nat) (x : Args ps) : A_l0 → Option Res := iterate (fun rec_l0 a => l0.step K x rec_l0 a) K
noncomputable def pre (K : Nat) (N_l0 : A_l0 → Option Res) (x : Args ps) : Option Res := N_l0 0
noncomputable def f (K : Nat) (x : Args ps) : Option Res := pre K (l0 K x) x
noncomputable def c (K : Nat) : Ctr := ⟨57, ps, rs, true, f K⟩
noncomputable def G (K : Nat) : List Ctr := []
noncomputable def live_l0 : List (Nat × List Coe) := [(3, [.keep]), (6, [.ro true 3 (.int .i64)]), (7, [.keep]), (8, [.keep])]
noncomputable def L : List (Nat × List (Nat × List Coe)) := [(4, live_l0)]
noncomputable def body : Code := bodyOf Try.f57
noncomputable abbrev ev (K : Nat) : Code → St → (Ex → St → Option Res) → Option Res := evK (G K) T_D L K
noncomputable abbrev fin : Ex → St → Option Res := finK T_D ps rs true Try.f57.results.toList
noncomputable def S_l0 (x : Args ps) (a : A_l0) : St := mkSt [(3, ⟨0, .one, [.int .i64 0]⟩), (6, ⟨0, .one, [.ro true 3 (.int .i64) x.1]⟩), (7, ⟨0, .one, [.int .i64 (List.length x.1 : Int)]⟩), (8, ⟨0, .one, [.int .i64 a]⟩)]
noncomputable def k_l0 (K : Nat) (x : Args ps) : Ex → St → Option Res := kAt (ev K) body [1, 1, 0, 1, 0] fin
noncomputable def N_l0 (K : Nat) (x : Args ps) : A_l0 → Option Res := fun a => evLoop live_l0 (ev K (sub body [1, 1, 0, 1, 0, 0])) K (S_l0 x a) (k_l0 K x)
end cmp_Or_int
namespace impl_Fact_compare
@[reducible] def ps : List PK := [.rd t2, .rd t2]
@[reducible] def rs : List RK := [.v (.int .i64)]
abbrev Res := Ress rs × Outs ps
noncomputable def pre (K : Nat) (x : Args ps) : Option Res := bif x.1.2.2.2 then (bif !x.2.1.2.2.2 then ((cmp_Compare_int.f K (x.1.1, x.2.1.1, ())).bind fun y1 => (cmp_Compare_int.f K (x.1.2.1, x.2.1.2.1, ())).bind fun y2 => (cmp_Compare_int.f K (x.1.2.2.1, x.2.1.2.2.1, ())).bind fun y3 => (cmp_Or_int.f K ([y1.1.1, y2.1.1, y3.1.1, 1], ())).bind fun y4 => some ((y4.1.1, ()), ())) else (bif x.2.1.2.2.2 then (bif !x.1.2.2.2 then ((cmp_Compare_int.f K (x.1.1, x.2.1.1, ())).bind fun y5 => (cmp_Compare_int.f K (x.1.2.1, x.2.1.2.1, ())).bind fun y6 => (cmp_Compare_int.f K (x.1.2.2.1, x.2.1.2.2.1, ())).bind fun y7 => (cmp_Or_int.f K ([y5.1.1, y6.1.1, y7.1.1, (-1)], ())).bind fun y8 => some ((y8.1.1, ()), ())) else ((cmp_Compare_int.f K (x.1.1, x.2.1.1, ())).bind fun y9 => (cmp_Compare_int.f K (x.1.2.1, x.2.1.2.1, ())).bind fun y10 => (cmp_Compare_int.f K (x.1.2.2.1, x.2.1.2.2.1, ())).bind fun y11 => (cmp_Or_int.f K ([y9.1.1, y10.1.1, y11.1.1, 0], ())).bind fun y12 => some ((y12.1.1, ()), ()))) else ((cmp_Compare_int.f K (x.1.1, x.2.1.1, ())).bind fun y13 => (cmp_Compare_int.f K (x.1.2.1, x.2.1.2.1, ())).bind fun y14 => (cmp_Compare_int.f K (x.1.2.2.1, x.2.1.2.2.1, ())).bind fun y15 => (cmp_Or_int.f K ([y13.1.1, y14.1.1, y15.1.1, 0], ())).bind fun y16 => some ((y16.1.1, ()), ())))) else (bif x.2.1.2.2.2 then (bif !x.1.2.2.2 then ((cmp_Compare_int.f K (x.1.1, x.2.1.1, ())).bind fun y17 => (cmp_Compare_int.f K (x.1.2.1, x.2.1.2.1, ())).bind fun y18 => (cmp_Compare_int.f K (x.1.2.2.1, x.2.1.2.2.1, ())).bind fun y19 => (cmp_Or_int.f K ([y17.1.1, y18.1.1, y19.1.1, (-1)], ())).bind fun y20 => some ((y20.1.1, ()), ())) else ((cmp_Compare_int.f K (x.1.1, x.2.1.1, ())).bind fun y21 => (cmp_Compare_int.f K (x.1.2.1, x.2.1.2.1, ())).bind fun y22 => (cmp_Compare_int.f K (x.1.2.2.1, x.2.1.2.2.1, ())).bind fun y23 => (cmp_Or_int.f K ([y21.1.1, y22.1.1, y23.1.1, 0], ())).bind fun y24 => some ((y24.1.1, ()), ()))) else ((cmp_Compare_int.f K (x.1.1, x.2.1.1, ())).bind fun y25 => (cmp_Compare_int.f K (x.1.2.1, x.2.1.2.1, ())).bind fun y26 => (cmp_Compare_int.f K (x.1.2.2.1, x.2.1.2.2.1, ())).bind fun y27 => (cmp_Or_int.f K ([y25.1.1, y26.1.1, y27.1.1, 0], ())).bind fun y28 => some ((y28.1.1, ()), ())))
noncomputable def f (K : Nat) (x : Args ps) : Option Res := pre K x
noncomputable def c (K : Nat) : Ctr := ⟨51, ps, rs, true, f K⟩
noncomputable def G (K : Nat) : List Ctr := [cmp_Compare_int.c K, cmp_Or_int.c K]
noncomputable def L : List (Nat × List (Nat × List Coe)) := []
noncomputable def body : Code := bodyOf Try.f51
noncomputable abbrev ev (K : Nat) : Code → St → (Ex → St → Option Res) → Option Res := evK (G K) T_D L K
noncomputable abbrev fin : Ex → St → Option Res := finK T_D ps rs true Try.f51.results.toList
end impl_Fact_compare
namespace impl_put
@[reducible] def ps : List PK := [.rd (.list false 39 t2), .rd t2]
@[reducible] def rs : List RK := [.v (.list true 39 t2), .v .bool]
abbrev Res := Ress rs × Outs ps
noncomputable def pre (K : Nat) (x : Args ps) : Option Res := (m_slices_Clone_impl_Fact_impl_Fact.f K (x.1, ())).bind fun y1 => (impl_find.f K (y1.1.1, x.2.1.1, ())).bind fun y2 => bif !y2.1.2.1 then ((m_slices_Insert_impl_Fact_impl_Fact.f K (y1.1.1, y2.1.1, [x.2.1], ())).bind fun y3 => some ((y3.1.1, true, ()), ())) else ((idx y1.1.1 y2.1.1).bind fun _ => (idx y1.1.1 (Int.toNat y2.1.1 : Nat)).bind fun y5 => (impl_Fact_compare.f K (x.2.1, y5, ())).bind fun y6 => bif decide (y6.1.1 > 0) then ((idx y1.1.1 y2.1.1).bind fun _ => (idx y1.1.1 (Int.toNat y2.1.1 : Nat)).bind fun y8 => some ((y1.1.1.set (Int.toNat y2.1.1) x.2.1, true, ()), ())) else (some ((y1.1.1, false, ()), ())))
noncomputable def f (K : Nat) (x : Args ps) : Option Res := pre K x
noncomputable def c (K : Nat) : Ctr := ⟨38, ps, rs, true, f K⟩
noncomputable def G (K : Nat) : List Ctr := [impl_find.c K, m_slices_Clone_impl_Fact_impl_Fact.c K, m_slices_Insert_impl_Fact_impl_Fact.c K, impl_Fact_compare.c K]
noncomputable def L : List (Nat × List (Nat × List Coe)) := []
noncomputable def body : Code := bodyOf Try.f38
noncomputable abbrev ev (K : Nat) : Code → St → (Ex → St → Option Res) → Option Res := evK (G K) T_D L K
noncomputable abbrev fin : Ex → St → Option Res := finK T_D ps rs true Try.f38.results.toList
end impl_put
namespace impl_TablePut
@[reducible] def ps : List PK := [.rd (.list false 39 t2), .rd t2]
@[reducible] def rs : List RK := [.v (.list true 39 t2), .v .bool]
abbrev Res := Ress rs × Outs ps
noncomputable def pre (K : Nat) (x : Args ps) : Option Res := (impl_TableOk.f K (x.1, ())).bind fun y1 => bif !y1.1.1 then (some (([], false, ()), ())) else ((impl_FactOk.f K (x.2.1, ())).bind fun y2 => bif !y2.1.1 then (some (([], false, ()), ())) else ((impl_put.f K (x.1, x.2.1, ())).bind fun y3 => some ((y3.1.1, y3.1.2.1, ()), ())))
noncomputable def f (K : Nat) (x : Args ps) : Option Res := pre K x
noncomputable def c (K : Nat) : Ctr := ⟨21, ps, rs, true, f K⟩
noncomputable def G (K : Nat) : List Ctr := [impl_TableOk.c K, impl_FactOk.c K, impl_put.c K]
noncomputable def L : List (Nat × List (Nat × List Coe)) := []
noncomputable def body : Code := bodyOf Try.f21
noncomputable abbrev ev (K : Nat) : Code → St → (Ex → St → Option Res) → Option Res := evK (G K) T_D L K
noncomputable abbrev fin : Ex → St → Option Res := finK T_D ps rs true Try.f21.results.toList
end impl_TablePut
namespace laws_lhFacts
@[reducible] def ps : List PK := [.rd (.list false 39 t2), .rd (.list false 39 t2)]
@[reducible] def rs : List RK := [.v .bool]
abbrev Res := Ress rs × Outs ps
abbrev A_l0 := Int
noncomputable def l0.step (K : Nat) (x : Args ps) (rec_l0 : A_l0 → Option Res) (a : A_l0) : Option Res := bif decide (a < (List.length x.1 : Int)) then ((idx x.1 a).bind fun y1 => (idx x.2.1 a).bind fun y2 => bif !Ty.eqv t2 y1 y2 then (some ((false, ()), ())) else (rec_l0 (wr .i64 (a + 1)))) else (some ((true, ()), ()))
noncomputable def l0 (K : Nat) (x : Args ps) : A_l0 → Option Res := iterate (fun rec_l0 a => l0.step K x rec_l0 a) K
noncomputable def pre (K : Nat) (N_l0 : A_l0 → Option Res) (x : Args ps) : Option Res := bif (List.length x.1 : Int) != (List.length x.2.1 : Int) then (some ((false, ()), ())) else (N_l0 0)
noncomputable def f (K : Nat) (x : Args ps) : Option Res := pre K (l0 K x) x
noncomputable def c (K : Nat) : Ctr := ⟨22, ps, rs, true, f K⟩
noncomputable def G (K : Nat) : List Ctr := []
noncomputable def live_l0 : List (Nat × List Coe) := [(0, [.ro true 39 t2]), (1, [.ro true 39 t2]), (5, [.keep])]
noncomputable def L : List (Nat × List (Nat × List Coe)) := [(5, live_l0)]
noncomputable def body : Code := bodyOf Try.f22
noncomputable abbrev ev (K : Nat) : Code → St → (Ex → St → Option Res) → Option Res := evK (G K) T_D L K
noncomputable abbrev fin : Ex → St → Option Res := finK T_D ps rs true Try.f22.results.toList
noncomputable def S_l0 (x : Args ps) (a : A_l0) : St := mkSt [(0, ⟨0, .one, [.ro true 39 t2 x.1]⟩), (1, ⟨0, .one, [.ro true 39 t2 x.2.1]⟩), (5, ⟨0, .one, [.int .i64 a]⟩)]
noncomputable def k_l0 (K : Nat) (x : Args ps) : Ex → St → Option Res := kAt (ev K) body [1, 1, 0, 1, 0] fin
noncomputable def N_l0 (K : Nat) (x : Args ps) : A_l0 → Option Res := fun a => evLoop live_l0 (ev K (sub body [1, 1, 0, 1, 0, 0])) K (S_l0 x a) (k_l0 K x)
end laws_lhFacts
namespace impl_TableJoin
@[reducible] def ps : List PK := [.rd (.list false 39 t2), .rd (.list false 39 t2)]
@[reducible] def rs : List RK := [.v (.list true 39 t2)]
abbrev Res := Ress rs × Outs ps
abbrev A_l0 := List (Ty.den t2) × Int
noncomputable def l0.step (K : Nat) (x : Args ps) (rec_l0 : A_l0 → Option Res) (a : A_l0) : Option Res := bif decide (a.2 < (List.length x.2.1 : Int)) then ((idx x.2.1 a.2).bind fun y4 => (impl_put.f K (a.1, y4, ())).bind fun y5 => rec_l0 (y5.1.1, wr .i64 (a.2 + 1))) else (some ((a.1, ()), ()))
noncomputable def l0 (K : Nat) (x : Args ps) : A_l0 → Option Res := iterate (fun rec_l0 a => l0.step K x rec_l0 a) K
noncomputable def pre (K : Nat) (N_l0 : A_l0 → Option Res) (x : Args ps) : Option Res := (impl_TableOk.f K (x.1, ())).bind fun y1 => bif !y1.1.1 then (some (([], ()), ())) else ((impl_TableOk.f K (x.2.1, ())).bind fun y2 => bif !y2.1.1 then (some (([], ()), ())) else ((m_slices_Clone_impl_Fact_impl_Fact.f K (x.1, ())).bind fun y3 => N_l0 (y3.1.1, 0)))
noncomputable def f (K : Nat) (x : Args ps) : Option Res := pre K (l0 K x) x
noncomputable def c (K : Nat) : Ctr := ⟨23, ps, rs, true, f K⟩
noncomputable def G (K : Nat) : List Ctr := [impl_TableOk.c K, impl_put.c K, m_slices_Clone_impl_Fact_impl_Fact.c K]
noncomputable def live_l0 : List (Nat × List Coe) := [(5, [.own false 39 t2]), (18, [.ro true 39 t2]), (19, [.keep]), (20, [.keep])]
noncomputable def L : List (Nat × List (Nat × List Coe)) := [(6, live_l0)]
noncomputable def body : Code := bodyOf Try.f23
noncomputable abbrev ev (K : Nat) : Code → St → (Ex → St → Option Res) → Option Res := evK (G K) T_D L K
noncomputable abbrev fin : Ex → St → Option Res := finK T_D ps rs true Try.f23.results.toList
noncomputable def S_l0 (x : Args ps) (a : A_l0) : St := mkSt [(5, ⟨0, .one, [.own false none 39 t2 a.1]⟩), (18, ⟨0, .one, [.ro true 39 t2 x.2.1]⟩), (19, ⟨0, .one, [.int .i64 (List.length x.2.1 : Int)]⟩), (20, ⟨0, .one, [.int .i64 a.2]⟩)]
noncomputable def k_l0 (K : Nat) (x : Args ps) : Ex → St → Option Res := kAt (ev K) body [1, 1, 1, 0, 1, 0] fin
noncomputable def N_l0 (K : Nat) (x : Args ps) : A_l0 → Option Res := fun a => evLoop live_l0 (ev K (sub body [1, 1, 1, 0, 1, 0, 0])) K (S_l0 x a) (k_l0 K x)
end impl_TableJoin
namespace laws_FnViewNews
@[reducible] def ps : List PK := [.rd (.list false 5 (.int .u8))]
@[reducible] def rs : List RK := [.v .bool]
abbrev Res := Ress rs × Outs ps
abbrev A_l0 := List (Ty.den t2) × List (Ty.den t2) × List (Ty.den t3) × List (Ty.den t3) × List (Ty.den t2) × Int
noncomputable def l0.step (K : Nat) (x : Args ps) (rec_l0 : A_l0 → Option Res) (a : A_l0) : Option Res := bif decide (a.2.2.2.2.2 < (List.length a.2.2.1 : Int)) then ((idx a.2.2.1 a.2.2.2.2.2).bind fun y7 => (idx a.2.2.2.1 a.2.2.2.2.2).bind fun y8 => bif !Ty.eqv t3 y7 y8 then (some ((false, ()), ())) else ((idx a.2.2.1 a.2.2.2.2.2).bind fun y9 => (impl_TableOf.f K (a.1, y9.1.1, ())).bind fun y10 => bif y10.1.2.1 then ((idx a.2.2.1 a.2.2.2.2.2).bind fun y11 => bif Ty.eqv t2 y10.1.1 y11.1 then (some ((false, ()), ())) else ((idx a.2.2.1 a.2.2.2.2.2).bind fun y12 => bif y10.1.1.2.2.1 != y12.2 then (some ((false, ()), ())) else (bif !y10.1.2.1 then ((idx a.2.2.1 a.2.2.2.2.2).bind fun y13 => bif y13.2 != 0 then (some ((false, ()), ())) else ((idx a.2.2.1 a.2.2.2.2.2).bind fun y14 => (impl_TablePut.f K (a.2.2.2.2.1, y14.1, ())).bind fun y15 => rec_l0 (a.1, a.2.1, a.2.2.1, a.2.2.2.1, y15.1.1, wr .i64 (a.2.2.2.2.2 + 1)))) else ((idx a.2.2.1 a.2.2.2.2.2).bind fun y16 => (impl_TablePut.f K (a.2.2.2.2.1, y16.1, ())).bind fun y17 => rec_l0 (a.1, a.2.1, a.2.2.1, a.2.2.2.1, y17.1.1, wr .i64 (a.2.2.2.2.2 + 1)))))) else (bif !y10.1.2.1 then ((idx a.2.2.1 a.2.2.2.2.2).bind fun y18 => bif y18.2 != 0 then (some ((false, ()), ())) else ((idx a.2.2.1 a.2.2.2.2.2).bind fun y19 => (impl_TablePut.f K (a.2.2.2.2.1, y19.1, ())).bind fun y20 => rec_l0 (a.1, a.2.1, a.2.2.1, a.2.2.2.1, y20.1.1, wr .i64 (a.2.2.2.2.2 + 1)))) else ((idx a.2.2.1 a.2.2.2.2.2).bind fun y21 => (impl_TablePut.f K (a.2.2.2.2.1, y21.1, ())).bind fun y22 => rec_l0 (a.1, a.2.1, a.2.2.1, a.2.2.2.1, y22.1.1, wr .i64 (a.2.2.2.2.2 + 1)))))) else ((spec_TableOk.f K (a.1, ())).bind fun y23 => bif !y23.1.1 then (some ((true, ()), ())) else ((spec_TableOk.f K (a.2.1, ())).bind fun y24 => bif !y24.1.1 then (some ((true, ()), ())) else ((impl_TableJoin.f K (a.1, a.2.1, ())).bind fun y25 => (laws_lhFacts.f K (a.2.2.2.2.1, y25.1.1, ())).bind fun y26 => some ((y26.1.1, ()), ()))))
noncomputable def l0 (K : Nat) (x : Args ps) : A_l0 → Option Res := iterate (fun rec_l0 a => l0.step K x rec_l0 a) K
noncomputable def pre (K : Nat) (N_l0 : A_l0 → Option Res) (x : Args ps) : Option Res := bif decide ((List.length x.1 : Int) > 1048576) then (some ((true, ()), ())) else ((spec_DrawViewNews.f K (x.1, ())).bind fun y1 => (impl_ViewNews.f K (y1.1.1, y1.1.2.1, ())).bind fun y2 => (spec_ViewNews.f K (y1.1.1, y1.1.2.1, ())).bind fun y3 => bif (List.length y2.1.1 : Int) != (List.length y3.1.1 : Int) then (some ((false, ()), ())) else ((impl_TableOk.f K (y1.1.1, ())).bind fun y4 => (spec_TableOk.f K (y1.1.1, ())).bind fun y5 => bif y4.1.1 != y5.1.1 then (some ((false, ()), ())) else ((impl_ViewNews.f K (y1.1.1, y1.1.1, ())).bind fun y6 => bif (List.length y6.1.1 : Int) != 0 then (some ((false, ()), ())) else (N_l0 (y1.1.1, y1.1.2.1, y2.1.1, y3.1.1, y1.1.1, 0)))))
noncomputable def f (K : Nat) (x : Args ps) : Option Res := pre K (l0 K x) x
noncomputable def c (K : Nat) : Ctr := ⟨5, ps, rs, true, f K⟩
noncomputable def G (K : Nat) : List Ctr := [spec_ViewNews.c K, impl_ViewNews.c K, spec_DrawViewNews.c K, impl_TableOk.c K, spec_TableOk.c K, impl_TableOf.c K, impl_TablePut.c K, laws_lhFacts.c K, impl_TableJoin.c K]
noncomputable def live_l0 : List (Nat × List Coe) := [(3, [.ro true 39 t2]), (4, [.ro true 39 t2]), (5, [.ro false 41 t3]), (6, [.ro false 41 t3]), (7, [.ro true 39 t2]), (8, [.keep])]
noncomputable def L : List (Nat × List (Nat × List Coe)) := [(11, live_l0)]
noncomputable def body : Code := bodyOf Try.f5
noncomputable abbrev ev (K : Nat) : Code → St → (Ex → St → Option Res) → Option Res := evK (G K) T_D L K
noncomputable abbrev fin : Ex → St → Option Res := finK T_D ps rs true Try.f5.results.toList
noncomputable def S_l0 (x : Args ps) (a : A_l0) : St := mkSt [(3, ⟨0, .one, [.ro true 39 t2 a.1]⟩), (4, ⟨0, .one, [.ro true 39 t2 a.2.1]⟩), (5, ⟨0, .one, [.ro false 41 t3 a.2.2.1]⟩), (6, ⟨0, .one, [.ro false 41 t3 a.2.2.2.1]⟩), (7, ⟨0, .one, [.ro true 39 t2 a.2.2.2.2.1]⟩), (8, ⟨0, .one, [.int .i64 a.2.2.2.2.2]⟩)]
noncomputable def k_l0 (K : Nat) (x : Args ps) : Ex → St → Option Res := kAt (ev K) body [1, 1, 1, 1, 1, 1, 1, 0, 1, 0] fin
noncomputable def N_l0 (K : Nat) (x : Args ps) : A_l0 → Option Res := fun a => evLoop live_l0 (ev K (sub body [1, 1, 1, 1, 1, 1, 1, 0, 1, 0, 0])) K (S_l0 x a) (k_l0 K x)
end laws_FnViewNews
end
end Go.Proofs.YtdjmnbdicpgmiaaEv
