/- The functions, on plain values. Printed by run3.py. -/
import Derived.Test.YtdjmnbdicpgmiaaProg
import Derived.Test.YtdjmnbdicpgmiaaE0
set_option linter.unusedVariables false
set_option maxRecDepth 100000
namespace Go.Proofs.YtdjmnbdicpgmiaaEv
open Go Go.Proofs
noncomputable section
@[reducible] def t0 : Ty := .pair (.int .i64) .bool
@[reducible] def t1 : Ty := .pair (.int .i64) t0
@[reducible] def t2 : Ty := .pair (.int .i64) t1
@[reducible] def t3 : Ty := .pair t2 (.int .i64)
@[reducible] def ty_impl_Fact_D : Ty := t2
@[reducible] def ty_impl_News_D : Ty := t3
@[reducible] def ty_laws_Fact_D : Ty := t2
@[reducible] def ty_impl_Fact_S : Ty := t2
@[reducible] def ty_impl_News_S : Ty := t3
@[reducible] def ty_laws_Fact_S : Ty := t2
@[reducible] def ty_impl_Fact_NS : Ty := t2
@[reducible] def ty_impl_News_NS : Ty := t3
@[reducible] def ty_laws_Fact_NS : Ty := t2
@[reducible] def ty_impl_Fact_ND : Ty := t2
@[reducible] def ty_impl_News_ND : Ty := t3
@[reducible] def ty_laws_Fact_ND : Ty := t2
@[reducible] def ty_impl_Fact_WT : Ty := t2
@[reducible] def ty_impl_News_WT : Ty := t3
@[reducible] def ty_laws_Fact_WT : Ty := t2
@[reducible] def ty_impl_Fact_WF : Ty := t2
@[reducible] def ty_impl_News_WF : Ty := t3
@[reducible] def ty_laws_Fact_WF : Ty := t2
@[reducible] def ty_impl_Fact_NT : Ty := t2
@[reducible] def ty_impl_News_NT : Ty := t3
@[reducible] def ty_laws_Fact_NT : Ty := t2
@[reducible] def ty_impl_Fact_NL : Ty := t2
@[reducible] def ty_impl_News_NL : Ty := t3
@[reducible] def ty_laws_Fact_NL : Ty := t2
def Tl_D : List (TypeId × TI) := [(3, .int .i64), (4, .bool), (22, .slice 49 t2 32), (25, .slice 39 t2 32), (29, .slice 41 t3 40), (39, .struct t2 [(0, 1, false), (1, 1, false), (2, 1, false), (3, 1, false)]), (41, .struct t3 [(0, 4, true), (4, 1, false)]), (49, .struct t2 [(0, 1, false), (1, 1, false), (2, 1, false), (3, 1, false)]), (72, .fn), (76, .int .u64)]
def T_D (t : TypeId) : TI := tlook Tl_D t
def Tl_S : List (TypeId × TI) := [(3, .int .i64), (25, .slice 39 t2 32), (29, .slice 41 t3 40), (39, .struct t2 [(0, 1, false), (1, 1, false), (2, 1, false), (3, 1, false)]), (41, .struct t3 [(0, 4, true), (4, 1, false)])]
def T_S (t : TypeId) : TI := tlook Tl_S t
namespace laws_szFactS
@[reducible] def ps : List PK := [.rd (.list false 49 t2), .rd (.int .i64)]
@[reducible] def rs : List RK := [.v (.int .i64)]
abbrev Res := Ress rs × Outs ps
noncomputable def pre (K : Nat) (x : Args ps) : Option Res := bif decide ((wr .i64 (x.2.1 - (List.length x.1 : Int))) < 0) then (some (((-1), ()), ())) else (some ((wr .i64 (x.2.1 - (List.length x.1 : Int)), ()), ()))
noncomputable def f (K : Nat) (x : Args ps) : Option Res := pre K x
noncomputable def c (K : Nat) : Ctr := ⟨6, ps, rs, true, f K⟩
noncomputable def G (K : Nat) : List Ctr := []
noncomputable def L : List (Nat × List (Nat × List Coe)) := []
noncomputable def body : Code := bodyOf Try.f6
noncomputable abbrev ev (K : Nat) : Code → St → (Ex → St → Option Res) → Option Res := evK (G K) T_D L K
noncomputable abbrev fin : Ex → St → Option Res := finK T_D ps rs true Try.f6.results.toList
end laws_szFactS
namespace laws_toFact
@[reducible] def ps : List PK := [.rd t2]
@[reducible] def rs : List RK := [.v t2]
abbrev Res := Ress rs × Outs ps
noncomputable def pre (K : Nat) (x : Args ps) : Option Res := some ((x.1, ()), ())
noncomputable def f (K : Nat) (x : Args ps) : Option Res := pre K x
noncomputable def c (K : Nat) : Ctr := ⟨24, ps, rs, true, f K⟩
noncomputable def G (K : Nat) : List Ctr := []
noncomputable def L : List (Nat × List (Nat × List Coe)) := []
noncomputable def body : Code := bodyOf Try.f24
noncomputable abbrev ev (K : Nat) : Code → St → (Ex → St → Option Res) → Option Res := evK (G K) T_D L K
noncomputable abbrev fin : Ex → St → Option Res := finK T_D ps rs true Try.f24.results.toList
end laws_toFact
namespace laws_toFactS
@[reducible] def ps : List PK := [.rd (.list false 49 t2)]
@[reducible] def rs : List RK := [.v (.list true 39 t2)]
abbrev Res := Ress rs × Outs ps
abbrev A_l0 := List (Ty.den t2) × Int
noncomputable def l0.step (K : Nat) (x : Args ps) (rec_l0 : A_l0 → Option Res) (a : A_l0) : Option Res := bif decide (a.2 < (List.length x.1 : Int)) then ((idx x.1 a.2).bind fun y1 => (laws_toFact.f K (y1, ())).bind fun y2 => (idx a.1 a.2).bind fun _ => (idx a.1 (Int.toNat a.2 : Nat)).bind fun y4 => rec_l0 (a.1.set (Int.toNat a.2) y2.1.1, wr .i64 (a.2 + 1))) else (some ((a.1, ()), ()))
noncomputable def l0 (K : Nat) (x : Args ps) : A_l0 → Option Res := iterate (fun rec_l0 a => l0.step K x rec_l0 a) K
noncomputable def pre (K : Nat) (N_l0 : A_l0 → Option Res) (x : Args ps) : Option Res := bif decide (0 ≤ (List.length x.1 : Int)) && decide ((List.length x.1 : Int) = (List.length x.1 : Int)) && decide ((List.length x.1 : Int) * (32 : Nat) ≤ sizeK) then (N_l0 (List.replicate (Int.toNat (List.length x.1 : Int)) ((0, (0, (0, false))) : Ty.den t2), 0)) else none
noncomputable def f (K : Nat) (x : Args ps) : Option Res := pre K (l0 K x) x
noncomputable def c (K : Nat) : Ctr := ⟨8, ps, rs, true, f K⟩
noncomputable def G (K : Nat) : List Ctr := [laws_toFact.c K]
noncomputable def live_l0 : List (Nat × List Coe) := [(0, [.ro true 49 t2]), (3, [.own false 39 t2]), (4, [.keep])]
noncomputable def L : List (Nat × List (Nat × List Coe)) := [(4, live_l0)]
noncomputable def body : Code := bodyOf Try.f8
noncomputable abbrev ev (K : Nat) : Code → St → (Ex → St → Option Res) → Option Res := evK (G K) T_D L K
noncomputable abbrev fin : Ex → St → Option Res := finK T_D ps rs true Try.f8.results.toList
noncomputable def S_l0 (x : Args ps) (a : A_l0) : St := mkSt [(0, ⟨0, .one, [.ro true 49 t2 x.1]⟩), (3, ⟨0, .one, [.own false none 39 t2 a.1]⟩), (4, ⟨0, .one, [.int .i64 a.2]⟩)]
noncomputable def k_l0 (K : Nat) (x : Args ps) : Ex → St → Option Res := kAt (ev K) body [1, 1, 0, 1, 0] fin
noncomputable def N_l0 (K : Nat) (x : Args ps) : A_l0 → Option Res := fun a => evLoop live_l0 (ev K (sub body [1, 1, 0, 1, 0, 0])) K (S_l0 x a) (k_l0 K x)
end laws_toFactS
namespace laws_eqFact
@[reducible] def ps : List PK := [.rd t2, .rd t2]
@[reducible] def rs : List RK := [.v .bool]
abbrev Res := Ress rs × Outs ps
noncomputable def pre (K : Nat) (x : Args ps) : Option Res := bif x.1.1 != x.2.1.1 then (some ((false, ()), ())) else (bif x.1.2.1 != x.2.1.2.1 then (some ((false, ()), ())) else (bif x.1.2.2.1 != x.2.1.2.2.1 then (some ((false, ()), ())) else (bif x.1.2.2.2 != x.2.1.2.2.2 then (some ((false, ()), ())) else (some ((true, ()), ())))))
noncomputable def f (K : Nat) (x : Args ps) : Option Res := pre K x
noncomputable def c (K : Nat) : Ctr := ⟨27, ps, rs, true, f K⟩
noncomputable def G (K : Nat) : List Ctr := []
noncomputable def L : List (Nat × List (Nat × List Coe)) := []
noncomputable def body : Code := bodyOf Try.f27
noncomputable abbrev ev (K : Nat) : Code → St → (Ex → St → Option Res) → Option Res := evK (G K) T_D L K
noncomputable abbrev fin : Ex → St → Option Res := finK T_D ps rs true Try.f27.results.toList
end laws_eqFact
namespace laws_eqFactS
@[reducible] def ps : List PK := [.rd (.list false 39 t2), .rd (.list false 39 t2)]
@[reducible] def rs : List RK := [.v .bool]
abbrev Res := Ress rs × Outs ps
abbrev A_l0 := Int
noncomputable def l0.step (K : Nat) (x : Args ps) (rec_l0 : A_l0 → Option Res) (a : A_l0) : Option Res := bif decide (a < (List.length x.1 : Int)) then ((idx x.1 a).bind fun y1 => (idx x.2.1 a).bind fun y2 => (laws_eqFact.f K (y1, y2, ())).bind fun y3 => bif !y3.1.1 then (some ((false, ()), ())) else (rec_l0 (wr .i64 (a + 1)))) else (some ((true, ()), ()))
noncomputable def l0 (K : Nat) (x : Args ps) : A_l0 → Option Res := iterate (fun rec_l0 a => l0.step K x rec_l0 a) K
noncomputable def pre (K : Nat) (N_l0 : A_l0 → Option Res) (x : Args ps) : Option Res := bif (List.length x.1 : Int) != (List.length x.2.1 : Int) then (some ((false, ()), ())) else (N_l0 0)
noncomputable def f (K : Nat) (x : Args ps) : Option Res := pre K (l0 K x) x
noncomputable def c (K : Nat) : Ctr := ⟨10, ps, rs, true, f K⟩
noncomputable def G (K : Nat) : List Ctr := [laws_eqFact.c K]
noncomputable def live_l0 : List (Nat × List Coe) := [(0, [.ro true 39 t2]), (1, [.ro true 39 t2]), (5, [.keep])]
noncomputable def L : List (Nat × List (Nat × List Coe)) := [(5, live_l0)]
noncomputable def body : Code := bodyOf Try.f10
noncomputable abbrev ev (K : Nat) : Code → St → (Ex → St → Option Res) → Option Res := evK (G K) T_D L K
noncomputable abbrev fin : Ex → St → Option Res := finK T_D ps rs true Try.f10.results.toList
noncomputable def S_l0 (x : Args ps) (a : A_l0) : St := mkSt [(0, ⟨0, .one, [.ro true 39 t2 x.1]⟩), (1, ⟨0, .one, [.ro true 39 t2 x.2.1]⟩), (5, ⟨0, .one, [.int .i64 a]⟩)]
noncomputable def k_l0 (K : Nat) (x : Args ps) : Ex → St → Option Res := kAt (ev K) body [1, 1, 0, 1, 0] fin
noncomputable def N_l0 (K : Nat) (x : Args ps) : A_l0 → Option Res := fun a => evLoop live_l0 (ev K (sub body [1, 1, 0, 1, 0, 0])) K (S_l0 x a) (k_l0 K x)
end laws_eqFactS
namespace spec_l1In
@[reducible] def ps : List PK := [.rd (.int .i64), .rd (.int .i64), .rd (.int .i64)]
@[reducible] def rs : List RK := [.v .bool]
abbrev Res := Ress rs × Outs ps
noncomputable def pre (K : Nat) (x : Args ps) : Option Res := bif decide (x.1 ≥ x.2.1) then (some ((decide (x.1 ≤ x.2.2.1), ()), ())) else (some ((false, ()), ()))
noncomputable def f (K : Nat) (x : Args ps) : Option Res := pre K x
noncomputable def c (K : Nat) : Ctr := ⟨46, ps, rs, true, f K⟩
noncomputable def G (K : Nat) : List Ctr := []
noncomputable def L : List (Nat × List (Nat × List Coe)) := []
noncomputable def body : Code := bodyOf Try.f46
noncomputable abbrev ev (K : Nat) : Code → St → (Ex → St → Option Res) → Option Res := evK (G K) T_S L K
noncomputable abbrev fin : Ex → St → Option Res := finK T_S ps rs true Try.f46.results.toList
end spec_l1In
namespace spec_FactOk
@[reducible] def ps : List PK := [.rd t2]
@[reducible] def rs : List RK := [.v .bool]
abbrev Res := Ress rs × Outs ps
noncomputable def pre (K : Nat) (x : Args ps) : Option Res := (spec_l1In.f K (x.1.1, 0, 7, ())).bind fun y1 => bif y1.1.1 then ((spec_l1In.f K (x.1.2.1, 0, 999, ())).bind fun y2 => bif y2.1.1 then ((spec_l1In.f K (x.1.2.2.1, 1, 4, ())).bind fun y3 => some ((y3.1.1, ()), ())) else (some ((false, ()), ()))) else (some ((false, ()), ()))
noncomputable def f (K : Nat) (x : Args ps) : Option Res := pre K x
noncomputable def c (K : Nat) : Ctr := ⟨36, ps, rs, true, f K⟩
noncomputable def G (K : Nat) : List Ctr := [spec_l1In.c K]
noncomputable def L : List (Nat × List (Nat × List Coe)) := []
noncomputable def body : Code := bodyOf Try.f36
noncomputable abbrev ev (K : Nat) : Code → St → (Ex → St → Option Res) → Option Res := evK (G K) T_S L K
noncomputable abbrev fin : Ex → St → Option Res := finK T_S ps rs true Try.f36.results.toList
end spec_FactOk
namespace spec_TableOk
@[reducible] def ps : List PK := [.rd (.list false 39 t2)]
@[reducible] def rs : List RK := [.v .bool]
abbrev Res := Ress rs × Outs ps
abbrev A_l0 := Int
noncomputable def l0.step (K : Nat) (x : Args ps) (rec_l0 : A_l0 → Option Res) (a : A_l0) : Option Res := bif decide (a < (List.length x.1 : Int)) then ((idx x.1 a).bind fun y1 => (spec_FactOk.f K (y1, ())).bind fun y2 => bif !y2.1.1 then (some ((false, ()), ())) else (bif decide (a > 0) then ((idx x.1 (wr .i64 (a - 1))).bind fun y3 => (idx x.1 a).bind fun y4 => bif decide (y3.1 ≥ y4.1) then (some ((false, ()), ())) else (rec_l0 (wr .i64 (a + 1)))) else (rec_l0 (wr .i64 (a + 1))))) else (some ((true, ()), ()))
noncomputable def l0 (K : Nat) (x : Args ps) : A_l0 → Option Res := iterate (fun rec_l0 a => l0.step K x rec_l0 a) K
noncomputable def pre (K : Nat) (N_l0 : A_l0 → Option Res) (x : Args ps) : Option Res := N_l0 0
noncomputable def f (K : Nat) (x : Args ps) : Option Res := pre K (l0 K x) x
noncomputable def c (K : Nat) : Ctr := ⟨19, ps, rs, true, f K⟩
noncomputable def G (K : Nat) : List Ctr := [spec_FactOk.c K]
noncomputable def live_l0 : List (Nat × List Coe) := [(0, [.ro true 39 t2]), (3, [.keep])]
noncomputable def L : List (Nat × List (Nat × List Coe)) := [(3, live_l0)]
noncomputable def body : Code := bodyOf Try.f19
noncomputable abbrev ev (K : Nat) : Code → St → (Ex → St → Option Res) → Option Res := evK (G K) T_S L K
noncomputable abbrev fin : Ex → St → Option Res := finK T_S ps rs true Try.f19.results.toList
noncomputable def S_l0 (x : Args ps) (a : A_l0) : St := mkSt [(0, ⟨0, .one, [.ro true 39 t2 x.1]⟩), (3, ⟨0, .one, [.int .i64 a]⟩)]
noncomputable def k_l0 (K : Nat) (x : Args ps) : Ex → St → Option Res := kAt (ev K) body [1, 0, 1, 0] fin
noncomputable def N_l0 (K : Nat) (x : Args ps) : A_l0 → Option Res := fun a => evLoop live_l0 (ev K (sub body [1, 0, 1, 0, 0])) K (S_l0 x a) (k_l0 K x)
end spec_TableOk
namespace spec_l3Find
@[reducible] def ps : List PK := [.rd (.list false 39 t2), .rd (.int .i64)]
@[reducible] def rs : List RK := [.v (.int .i64)]
abbrev Res := Ress rs × Outs ps
abbrev A_l0 := Int
noncomputable def l0.step (K : Nat) (x : Args ps) (rec_l0 : A_l0 → Option Res) (a : A_l0) : Option Res := bif decide (a < (List.length x.1 : Int)) then ((idx x.1 a).bind fun y1 => bif y1.1 == x.2.1 then (some ((a, ()), ())) else (rec_l0 (wr .i64 (a + 1)))) else (some (((-1), ()), ()))
noncomputable def l0 (K : Nat) (x : Args ps) : A_l0 → Option Res := iterate (fun rec_l0 a => l0.step K x rec_l0 a) K
noncomputable def pre (K : Nat) (N_l0 : A_l0 → Option Res) (x : Args ps) : Option Res := N_l0 0
noncomputable def f (K : Nat) (x : Args ps) : Option Res := pre K (l0 K x) x
noncomputable def c (K : Nat) : Ctr := ⟨28, ps, rs, true, f K⟩
noncomputable def G (K : Nat) : List Ctr := []
noncomputable def live_l0 : List (Nat × List Coe) := [(0, [.ro true 39 t2]), (1, [.keep]), (5, [.keep])]
noncomputable def L : List (Nat × List (Nat × List Coe)) := [(3, live_l0)]
noncomputable def body : Code := bodyOf Try.f28
noncomputable abbrev ev (K : Nat) : Code → St → (Ex → St → Option Res) → Option Res := evK (G K) T_S L K
noncomputable abbrev fin : Ex → St → Option Res := finK T_S ps rs true Try.f28.results.toList
noncomputable def S_l0 (x : Args ps) (a : A_l0) : St := mkSt [(0, ⟨0, .one, [.ro true 39 t2 x.1]⟩), (1, ⟨0, .one, [.int .i64 x.2.1]⟩), (5, ⟨0, .one, [.int .i64 a]⟩)]
noncomputable def k_l0 (K : Nat) (x : Args ps) : Ex → St → Option Res := kAt (ev K) body [1, 0, 1, 0] fin
noncomputable def N_l0 (K : Nat) (x : Args ps) : A_l0 → Option Res := fun a => evLoop live_l0 (ev K (sub body [1, 0, 1, 0, 0])) K (S_l0 x a) (k_l0 K x)
end spec_l3Find
namespace spec_ViewNews
@[reducible] def ps : List PK := [.rd (.list false 39 t2), .rd (.list false 39 t2)]
@[reducible] def rs : List RK := [.v (.list true 41 t3)]
abbrev Res := Ress rs × Outs ps
abbrev A_l0 := List (Ty.den t3) × Int
noncomputable def l0.step (K : Nat) (x : Args ps) (rec_l0 : A_l0 → Option Res) (a : A_l0) : Option Res := bif decide (a.2 < (List.length x.2.1 : Int)) then ((idx x.2.1 a.2).bind fun y3 => (spec_l3Find.f K (x.1, y3.1, ())).bind fun y4 => bif decide (y4.1.1 < 0) then ((idx x.2.1 a.2).bind fun y5 => bif decide ((List.length a.1 + List.length ([(y5, 0)])) * 40 ≤ sizeK) then (rec_l0 (a.1 ++ ([(y5, 0)]), wr .i64 (a.2 + 1))) else none) else ((idx x.1 y4.1.1).bind fun y6 => (idx x.2.1 a.2).bind fun y7 => bif !Ty.eqv t2 y6 y7 then ((idx x.2.1 a.2).bind fun y8 => (idx x.1 y4.1.1).bind fun y9 => bif decide ((List.length a.1 + List.length ([(y8, y9.2.2.1)])) * 40 ≤ sizeK) then (rec_l0 (a.1 ++ ([(y8, y9.2.2.1)]), wr .i64 (a.2 + 1))) else none) else (rec_l0 (a.1, wr .i64 (a.2 + 1))))) else (some ((a.1, ()), ()))
noncomputable def l0 (K : Nat) (x : Args ps) : A_l0 → Option Res := iterate (fun rec_l0 a => l0.step K x rec_l0 a) K
noncomputable def pre (K : Nat) (N_l0 : A_l0 → Option Res) (x : Args ps) : Option Res := (spec_TableOk.f K (x.1, ())).bind fun y1 => bif !y1.1.1 then (some (([], ()), ())) else ((spec_TableOk.f K (x.2.1, ())).bind fun y2 => bif !y2.1.1 then (some (([], ()), ())) else (N_l0 ([], 0)))
noncomputable def f (K : Nat) (x : Args ps) : Option Res := pre K (l0 K x) x
noncomputable def c (K : Nat) : Ctr := ⟨11, ps, rs, true, f K⟩
noncomputable def G (K : Nat) : List Ctr := [spec_TableOk.c K, spec_l3Find.c K]
noncomputable def live_l0 : List (Nat × List Coe) := [(0, [.ro true 39 t2]), (1, [.ro true 39 t2]), (5, [.own false 41 t3]), (6, [.keep])]
noncomputable def L : List (Nat × List (Nat × List Coe)) := [(6, live_l0)]
noncomputable def body : Code := bodyOf Try.f11
noncomputable abbrev ev (K : Nat) : Code → St → (Ex → St → Option Res) → Option Res := evK (G K) T_S L K
noncomputable abbrev fin : Ex → St → Option Res := finK T_S ps rs true Try.f11.results.toList
noncomputable def S_l0 (x : Args ps) (a : A_l0) : St := mkSt [(0, ⟨0, .one, [.ro true 39 t2 x.1]⟩), (1, ⟨0, .one, [.ro true 39 t2 x.2.1]⟩), (5, ⟨0, .one, [.own false none 41 t3 a.1]⟩), (6, ⟨0, .one, [.int .i64 a.2]⟩)]
noncomputable def k_l0 (K : Nat) (x : Args ps) : Ex → St → Option Res := kAt (ev K) body [1, 1, 1, 0, 1, 0] fin
noncomputable def N_l0 (K : Nat) (x : Args ps) : A_l0 → Option Res := fun a => evLoop live_l0 (ev K (sub body [1, 1, 1, 0, 1, 0, 0])) K (S_l0 x a) (k_l0 K x)
end spec_ViewNews
namespace impl_in
@[reducible] def ps : List PK := [.rd (.int .i64), .rd (.int .i64), .rd (.int .i64)]
@[reducible] def rs : List RK := [.v .bool]
abbrev Res := Ress rs × Outs ps
noncomputable def pre (K : Nat) (x : Args ps) : Option Res := bif decide (x.1 ≥ x.2.1) then (some ((decide (x.1 ≤ x.2.2.1), ()), ())) else (some ((false, ()), ()))
noncomputable def f (K : Nat) (x : Args ps) : Option Res := pre K x
noncomputable def c (K : Nat) : Ctr := ⟨45, ps, rs, true, f K⟩
noncomputable def G (K : Nat) : List Ctr := []
noncomputable def L : List (Nat × List (Nat × List Coe)) := []
noncomputable def body : Code := bodyOf Try.f45
noncomputable abbrev ev (K : Nat) : Code → St → (Ex → St → Option Res) → Option Res := evK (G K) T_D L K
noncomputable abbrev fin : Ex → St → Option Res := finK T_D ps rs true Try.f45.results.toList
end impl_in
namespace impl_isNode
@[reducible] def ps : List PK := [.rd (.int .i64)]
@[reducible] def rs : List RK := [.v .bool]
abbrev Res := Ress rs × Outs ps
noncomputable def pre (K : Nat) (x : Args ps) : Option Res := (impl_in.f K (x.1, 0, 7, ())).bind fun y1 => some ((y1.1.1, ()), ())
noncomputable def f (K : Nat) (x : Args ps) : Option Res := pre K x
noncomputable def c (K : Nat) : Ctr := ⟨44, ps, rs, true, f K⟩
noncomputable def G (K : Nat) : List Ctr := [impl_in.c K]
noncomputable def L : List (Nat × List (Nat × List Coe)) := []
noncomputable def body : Code := bodyOf Try.f44
noncomputable abbrev ev (K : Nat) : Code → St → (Ex → St → Option Res) → Option Res := evK (G K) T_D L K
noncomputable abbrev fin : Ex → St → Option Res := finK T_D ps rs true Try.f44.results.toList
end impl_isNode
namespace impl_FactOk
@[reducible] def ps : List PK := [.rd t2]
@[reducible] def rs : List RK := [.v .bool]
abbrev Res := Ress rs × Outs ps
noncomputable def pre (K : Nat) (x : Args ps) : Option Res := (impl_isNode.f K (x.1.1, ())).bind fun y1 => bif y1.1.1 then ((impl_in.f K (x.1.2.1, 0, 999, ())).bind fun y2 => bif y2.1.1 then ((impl_in.f K (x.1.2.2.1, 1, 4, ())).bind fun y3 => some ((y3.1.1, ()), ())) else (some ((false, ()), ()))) else (some ((false, ()), ()))
noncomputable def f (K : Nat) (x : Args ps) : Option Res := pre K x
noncomputable def c (K : Nat) : Ctr := ⟨35, ps, rs, true, f K⟩
noncomputable def G (K : Nat) : List Ctr := [impl_isNode.c K, impl_in.c K]
noncomputable def L : List (Nat × List (Nat × List Coe)) := []
noncomputable def body : Code := bodyOf Try.f35
noncomputable abbrev ev (K : Nat) : Code → St → (Ex → St → Option Res) → Option Res := evK (G K) T_D L K
noncomputable abbrev fin : Ex → St → Option Res := finK T_D ps rs true Try.f35.results.toList
end impl_FactOk
namespace impl_TableOk
@[reducible] def ps : List PK := [.rd (.list false 39 t2)]
@[reducible] def rs : List RK := [.v .bool]
abbrev Res := Ress rs × Outs ps
abbrev A_l0 := Int
noncomputable def l0.step (K : Nat) (x : Args ps) (rec_l0 : A_l0 → Option Res) (a : A_l0) : Option Res := bif decide (a < (List.length x.1 : Int)) then ((idx x.1 a).bind fun y1 => (impl_FactOk.f K (y1, ())).bind fun y2 => bif !y2.1.1 then (some ((false, ()), ())) else (bif decide (a > 0) then ((idx x.1 (wr .i64 (a - 1))).bind fun y3 => bif decide (y1.1 ≤ y3.1) then (some ((false, ()), ())) else (rec_l0 (wr .i64 (a + 1)))) else (rec_l0 (wr .i64 (a + 1))))) else (some ((true, ()), ()))
noncomputable def l0 (K : Nat) (x : Args ps) : A_l0 → Option Res := iterate (fun rec_l0 a => l0.step K x rec_l0 a) K
noncomputable def pre (K : Nat) (N_l0 : A_l0 → Option Res) (x : Args ps) : Option Res := N_l0 0
noncomputable def f (K : Nat) (x : Args ps) : Option Res := pre K (l0 K x) x
noncomputable def c (K : Nat) : Ctr := ⟨18, ps, rs, true, f K⟩
noncomputable def G (K : Nat) : List Ctr := [impl_FactOk.c K]
noncomputable def live_l0 : List (Nat × List Coe) := [(0, [.ro true 39 t2]), (5, [.ro true 39 t2]), (6, [.keep]), (7, [.keep])]
noncomputable def L : List (Nat × List (Nat × List Coe)) := [(3, live_l0)]
noncomputable def body : Code := bodyOf Try.f18
noncomputable abbrev ev (K : Nat) : Code → St → (Ex → St → Option Res) → Option Res := evK (G K) T_D L K
noncomputable abbrev fin : Ex → St → Option Res := finK T_D ps rs true Try.f18.results.toList
noncomputable def S_l0 (x : Args ps) (a : A_l0) : St := mkSt [(0, ⟨0, .one, [.ro true 39 t2 x.1]⟩), (5, ⟨0, .one, [.ro true 39 t2 x.1]⟩), (6, ⟨0, .one, [.int .i64 (List.length x.1 : Int)]⟩), (7, ⟨0, .one, [.int .i64 a]⟩)]
noncomputable def k_l0 (K : Nat) (x : Args ps) : Ex → St → Option Res := kAt (ev K) body [1, 0, 1, 0] fin
noncomputable def N_l0 (K : Nat) (x : Args ps) : A_l0 → Option Res := fun a => evLoop live_l0 (ev K (sub body [1, 0, 1, 0, 0])) K (S_l0 x a) (k_l0 K x)
end impl_TableOk
namespace slices_BinarySearchFunc_impl_Fact_impl_Fact_int
@[reducible] def ps : List PK := [.rd (.list false 39 t2), .rd (.int .i64), .fn [t2, (.int .i64)] (.int .i64)]
@[reducible] def rs : List RK := [.v (.int .i64), .v .bool]
abbrev Res := Ress rs × Outs ps
abbrev A_l0 := Int × Int
noncomputable def l0.step (K : Nat) (x : Args ps) (rec_l0 : A_l0 → Option Res) (a : A_l0) : Option Res := bif decide (a.1 < a.2) then ((idx x.1 (wr .i64 (Int.fdiv (wr .u64 (wr .i64 (a.1 + a.2))) (2 ^ 1)))).bind fun y1 => (x.2.2.1 (y1, x.2.1, ())).bind fun y2 => bif decide (y2 < 0) then (rec_l0 (wr .i64 ((wr .i64 (Int.fdiv (wr .u64 (wr .i64 (a.1 + a.2))) (2 ^ 1))) + 1), a.2)) else (rec_l0 (a.1, wr .i64 (Int.fdiv (wr .u64 (wr .i64 (a.1 + a.2))) (2 ^ 1))))) else (bif decide (a.1 < (List.length x.1 : Int)) then ((idx x.1 a.1).bind fun y3 => (x.2.2.1 (y3, x.2.1, ())).bind fun y4 => some ((a.1, y4 == 0, ()), ())) else (some ((a.1, false, ()), ())))
noncomputable def l0 (K : Nat) (x : Args ps) : A_l0 → Option Res := iterate (fun rec_l0 a => l0.step K x rec_l0 a) K
noncomputable def pre (K : Nat) (N_l0 : A_l0 → Option Res) (x : Args ps) : Option Res := N_l0 (0, (List.length x.1 : Int))
noncomputable def f (K : Nat) (x : Args ps) : Option Res := pre K (l0 K x) x
noncomputable def c (K : Nat) : Ctr := ⟨47, ps, rs, true, f K⟩
noncomputable def G (K : Nat) : List Ctr := []
noncomputable def live_l0 : List (Nat × List Coe) := [(0, [.ro true 39 t2]), (1, [.keep]), (2, [.keep]), (8, [.keep]), (9, [.keep]), (10, [.keep])]
noncomputable def L : List (Nat × List (Nat × List Coe)) := [(4, live_l0)]
noncomputable def body : Code := bodyOf Try.f47
noncomputable abbrev ev (K : Nat) : Code → St → (Ex → St → Option Res) → Option Res := evK (G K) T_D L K
noncomputable abbrev fin : Ex → St → Option Res := finK T_D ps rs true Try.f47.results.toList
noncomputable def S_l0 (x : Args ps) (a : A_l0) : St := mkSt [(0, ⟨0, .one, [.ro true 39 t2 x.1]⟩), (1, ⟨0, .one, [.int .i64 x.2.1]⟩), (2, ⟨0, .one, [.fn [t2, (.int .i64)] (.int .i64) x.2.2.1]⟩), (8, ⟨0, .one, [.int .i64 (List.length x.1 : Int)]⟩), (9, ⟨0, .one, [.int .i64 a.1]⟩), (10, ⟨0, .one, [.int .i64 a.2]⟩)]
noncomputable def k_l0 (K : Nat) (x : Args ps) : Ex → St → Option Res := kAt (ev K) body [1, 1, 1, 0, 0] fin
noncomputable def N_l0 (K : Nat) (x : Args ps) : A_l0 → Option Res := fun a => evLoop live_l0 (ev K (sub body [1, 1, 1, 0, 0, 0])) K (S_l0 x a) (k_l0 K x)
end slices_BinarySearchFunc_impl_Fact_impl_Fact_int
namespace cmp_isNaN_int
@[reducible] def ps : List PK := [.rd (.int .i64)]
@[reducible] def rs : List RK := [.v .bool]
abbrev Res := Ress rs × Outs ps
noncomputable def pre (K : Nat) (x : Args ps) : Option Res := some ((x.1 != x.1, ()), ())
noncomputable def f (K : Nat) (x : Args ps) : Option Res := pre K x
noncomputable def c (K : Nat) : Ctr := ⟨54, ps, rs, true, f K⟩
noncomputable def G (K : Nat) : List Ctr := []
noncomputable def L : List (Nat × List (Nat × List Coe)) := []
noncomputable def body : Code := bodyOf Try.f54
noncomputable abbrev ev (K : Nat) : Code → St → (Ex → St → Option Res) → Option Res := evK (G K) T_D L K
noncomputable abbrev fin : Ex → St → Option Res := finK T_D ps rs true Try.f54.results.toList
end cmp_isNaN_int
namespace cmp_Compare_int
@[reducible] def ps : List PK := [.rd (.int .i64), .rd (.int .i64)]
@[reducible] def rs : List RK := [.v (.int .i64)]
abbrev Res := Ress rs × Outs ps
noncomputable def pre (K : Nat) (x : Args ps) : Option Res := (cmp_isNaN_int.f K (x.1, ())).bind fun y1 => (cmp_isNaN_int.f K (x.2.1, ())).bind fun y2 => bif y1.1.1 then (bif y2.1.1 then (some ((0, ()), ())) else (some (((-1), ()), ()))) else (bif y2.1.1 then (some ((1, ()), ())) else (bif decide (x.1 < x.2.1) then (some (((-1), ()), ())) else (bif decide (x.1 > x.2.1) then (some ((1, ()), ())) else (some ((0, ()), ())))))
noncomputable def f (K : Nat) (x : Args ps) : Option Res := pre K x
noncomputable def c (K : Nat) : Ctr := ⟨49, ps, rs, true, f K⟩
noncomputable def G (K : Nat) : List Ctr := [cmp_isNaN_int.c K]
noncomputable def L : List (Nat × List (Nat × List Coe)) := []
noncomputable def body : Code := bodyOf Try.f49
noncomputable abbrev ev (K : Nat) : Code → St → (Ex → St → Option Res) → Option Res := evK (G K) T_D L K
noncomputable abbrev fin : Ex → St → Option Res := finK T_D ps rs true Try.f49.results.toList
end cmp_Compare_int
namespace impl_find_1
@[reducible] def ps : List PK := [.rd t2, .rd (.int .i64)]
@[reducible] def rs : List RK := [.v (.int .i64)]
abbrev Res := Ress rs × Outs ps
noncomputable def pre (K : Nat) (x : Args ps) : Option Res := (cmp_Compare_int.f K (x.1.1, x.2.1, ())).bind fun y1 => some ((y1.1.1, ()), ())
noncomputable def f (K : Nat) (x : Args ps) : Option Res := pre K x
noncomputable def c (K : Nat) : Ctr := ⟨48, ps, rs, true, f K⟩
noncomputable def G (K : Nat) : List Ctr := [cmp_Compare_int.c K]
noncomputable def L : List (Nat × List (Nat × List Coe)) := []
noncomputable def body : Code := bodyOf Try.f48
noncomputable abbrev ev (K : Nat) : Code → St → (Ex → St → Option Res) → Option Res := evK (G K) T_D L K
noncomputable abbrev fin : Ex → St → Option Res := finK T_D ps rs true Try.f48.results.toList
end impl_find_1
namespace impl_find
@[reducible] def ps : List PK := [.rd (.list false 39 t2), .rd (.int .i64)]
@[reducible] def rs : List RK := [.v (.int .i64), .v .bool]
abbrev Res := Ress rs × Outs ps
noncomputable def pre (K : Nat) (x : Args ps) : Option Res := (slices_BinarySearchFunc_impl_Fact_impl_Fact_int.f K (x.1, x.2.1, fun y1 => (impl_find_1.f K (y1.1, y1.2.1, ())).map fun y => y.1.1, ())).bind fun y2 => some ((y2.1.1, y2.1.2.1, ()), ())
noncomputable def f (K : Nat) (x : Args ps) : Option Res := pre K x
noncomputable def c (K : Nat) : Ctr := ⟨37, ps, rs, true, f K⟩
noncomputable def G (K : Nat) : List Ctr := [slices_BinarySearchFunc_impl_Fact_impl_Fact_int.c K, impl_find_1.c K]
noncomputable def L : List (Nat × List (Nat × List Coe)) := []
noncomputable def body : Code := bodyOf Try.f37
noncomputable abbrev ev (K : Nat) : Code → St → (Ex → St → Option Res) → Option Res := evK (G K) T_D L K
noncomputable abbrev fin : Ex → St → Option Res := finK T_D ps rs true Try.f37.results.toList
end impl_find
namespace impl_TableOf
@[reducible] def ps : List PK := [.rd (.list false 39 t2), .rd (.int .i64)]
@[reducible] def rs : List RK := [.v t2, .v .bool]
abbrev Res := Ress rs × Outs ps
noncomputable def pre (K : Nat) (x : Args ps) : Option Res := (impl_TableOk.f K (x.1, ())).bind fun y1 => bif !y1.1.1 then (some (((0, (0, (0, false))), false, ()), ())) else ((impl_find.f K (x.1, x.2.1, ())).bind fun y2 => bif !y2.1.2.1 then (some (((0, (0, (0, false))), false, ()), ())) else ((idx x.1 y2.1.1).bind fun y3 => some ((y3, true, ()), ())))
noncomputable def f (K : Nat) (x : Args ps) : Option Res := pre K x
noncomputable def c (K : Nat) : Ctr := ⟨20, ps, rs, true, f K⟩
noncomputable def G (K : Nat) : List Ctr := [impl_TableOk.c K, impl_find.c K]
noncomputable def L : List (Nat × List (Nat × List Coe)) := []
noncomputable def body : Code := bodyOf Try.f20
noncomputable abbrev ev (K : Nat) : Code → St → (Ex → St → Option Res) → Option Res := evK (G K) T_D L K
noncomputable abbrev fin : Ex → St → Option Res := finK T_D ps rs true Try.f20.results.toList
end impl_TableOf
namespace slices_Index_impl_Fact_impl_Fact
@[reducible] def ps : List PK := [.rd (.list false 39 t2), .rd t2]
@[reducible] def rs : List RK := [.v (.int .i64)]
abbrev Res := Ress rs × Outs ps
abbrev A_l0 := Int
noncomputable def l0.step (K : Nat) (x : Args ps) (rec_l0 : A_l0 → Option Res) (a : A_l0) : Option Res := bif decide (a < (List.length x.1 : Int)) then ((idx x.1 a).bind fun y1 => bif Ty.eqv t2 x.2.1 y1 then (some ((a, ()), ())) else (rec_l0 (wr .i64 (a + 1)))) else (some (((-1), ()), ()))
noncomputable def l0 (K : Nat) (x : Args ps) : A_l0 → Option Res := iterate (fun rec_l0 a => l0.step K x rec_l0 a) K
noncomputable def pre (K : Nat) (N_l0 : A_l0 → Option Res) (x : Args ps) : Option Res := N_l0 0
noncomputable def f (K : Nat) (x : Args ps) : Option Res := pre K (l0 K x) x
noncomputable def c (K : Nat) : Ctr := ⟨40, ps, rs, true, f K⟩
noncomputable def G (K : Nat) : List Ctr := []
noncomputable def live_l0 : List (Nat × List Coe) := [(0, [.ro true 39 t2]), (3, [.keep]), (7, [.keep]), (8, [.keep]), (100003, [.keep, .keep, .keep, .keep])]
noncomputable def L : List (Nat × List (Nat × List Coe)) := [(3, live_l0)]
noncomputable def body : Code := bodyOf Try.f40
noncomputable abbrev ev (K : Nat) : Code → St → (Ex → St → Option Res) → Option Res := evK (G K) T_D L K
noncomputable abbrev fin : Ex → St → Option Res := finK T_D ps rs true Try.f40.results.toList
noncomputable def S_l0 (x : Args ps) (a : A_l0) : St := mkSt [(0, ⟨0, .one, [.ro true 39 t2 x.1]⟩), (3, ⟨0, .one, [.bp 100003 0]⟩), (7, ⟨0, .one, [.int .i64 (List.length x.1 : Int)]⟩), (8, ⟨0, .one, [.int .i64 a]⟩), (100003, ⟨0, .agg, [.int .i64 x.2.1.1, .int .i64 x.2.1.2.1, .int .i64 x.2.1.2.2.1, .bool x.2.1.2.2.2]⟩)]
noncomputable def k_l0 (K : Nat) (x : Args ps) : Ex → St → Option Res := kAt (ev K) body [1, 0, 1, 0] fin
noncomputable def N_l0 (K : Nat) (x : Args ps) : A_l0 → Option Res := fun a => evLoop live_l0 (ev K (sub body [1, 0, 1, 0, 0])) K (S_l0 x a) (k_l0 K x)
end slices_Index_impl_Fact_impl_Fact
namespace slices_Contains_impl_Fact_impl_Fact
@[reducible] def ps : List PK := [.rd (.list false 39 t2), .rd t2]
@[reducible] def rs : List RK := [.v .bool]
abbrev Res := Ress rs × Outs ps
noncomputable def pre (K : Nat) (x : Args ps) : Option Res := (slices_Index_impl_Fact_impl_Fact.f K (x.1, x.2.1, ())).bind fun y1 => some ((decide (y1.1.1 ≥ 0), ()), ())
noncomputable def f (K : Nat) (x : Args ps) : Option Res := pre K x
noncomputable def c (K : Nat) : Ctr := ⟨29, ps, rs, true, f K⟩
noncomputable def G (K : Nat) : List Ctr := [slices_Index_impl_Fact_impl_Fact.c K]
noncomputable def L : List (Nat × List (Nat × List Coe)) := []
noncomputable def body : Code := bodyOf Try.f29
noncomputable abbrev ev (K : Nat) : Code → St → (Ex → St → Option Res) → Option Res := evK (G K) T_D L K
noncomputable abbrev fin : Ex → St → Option Res := finK T_D ps rs true Try.f29.results.toList
end slices_Contains_impl_Fact_impl_Fact
namespace impl_ViewNews
@[reducible] def ps : List PK := [.rd (.list false 39 t2), .rd (.list false 39 t2)]
@[reducible] def rs : List RK := [.v (.list true 41 t3)]
abbrev Res := Ress rs × Outs ps
abbrev A_l0 := List (Ty.den t3) × Int
noncomputable def l0.step (K : Nat) (x : Args ps) (rec_l0 : A_l0 → Option Res) (a : A_l0) : Option Res := bif decide (a.2 < (List.length x.2.1 : Int)) then ((idx x.2.1 a.2).bind fun y3 => (impl_TableOf.f K (x.1, y3.1, ())).bind fun y4 => (slices_Contains_impl_Fact_impl_Fact.f K (x.1, y3, ())).bind fun y5 => bif !y5.1.1 then (bif decide ((List.length a.1 + List.length ([(y3, y4.1.1.2.2.1)])) * 40 ≤ sizeK) then (rec_l0 (a.1 ++ ([(y3, y4.1.1.2.2.1)]), wr .i64 (a.2 + 1))) else none) else (rec_l0 (a.1, wr .i64 (a.2 + 1)))) else (some ((a.1, ()), ()))
noncomputable def l0 (K : Nat) (x : Args ps) : A_l0 → Option Res := iterate (fun rec_l0 a => l0.step K x rec_l0 a) K
noncomputable def pre (K : Nat) (N_l0 : A_l0 → Option Res) (x : Args ps) : Option Res := (impl_TableOk.f K (x.1, ())).bind fun y1 => bif !y1.1.1 then (some (([], ()), ())) else ((impl_TableOk.f K (x.2.1, ())).bind fun y2 => bif !y2.1.1 then (some (([], ()), ())) else (N_l0 ([], 0)))
noncomputable def f (K : Nat) (x : Args ps) : Option Res := pre K (l0 K x) x
noncomputable def c (K : Nat) : Ctr := ⟨12, ps, rs, true, f K⟩
noncomputable def G (K : Nat) : List Ctr := [impl_TableOk.c K, impl_TableOf.c K, slices_Contains_impl_Fact_impl_Fact.c K]
noncomputable def live_l0 : List (Nat × List Coe) := [(0, [.ro true 39 t2]), (5, [.own false 41 t3]), (18, [.ro true 39 t2]), (19, [.keep]), (20, [.keep])]
noncomputable def L : List (Nat × List (Nat × List Coe)) := [(6, live_l0)]
noncomputable def body : Code := bodyOf Try.f12
noncomputable abbrev ev (K : Nat) : Code → St → (Ex → St → Option Res) → Option Res := evK (G K) T_D L K
noncomputable abbrev fin : Ex → St → Option Res := finK T_D ps rs true Try.f12.results.toList
noncomputable def S_l0 (x : Args ps) (a : A_l0) : St := mkSt [(0, ⟨0, .one, [.ro true 39 t2 x.1]⟩), (5, ⟨0, .one, [.own false none 41 t3 a.1]⟩), (18, ⟨0, .one, [.ro true 39 t2 x.2.1]⟩), (19, ⟨0, .one, [.int .i64 (List.length x.2.1 : Int)]⟩), (20, ⟨0, .one, [.int .i64 a.2]⟩)]
noncomputable def k_l0 (K : Nat) (x : Args ps) : Ex → St → Option Res := kAt (ev K) body [1, 1, 1, 0, 1, 0] fin
noncomputable def N_l0 (K : Nat) (x : Args ps) : A_l0 → Option Res := fun a => evLoop live_l0 (ev K (sub body [1, 1, 1, 0, 1, 0, 0])) K (S_l0 x a) (k_l0 K x)
end impl_ViewNews
namespace laws_eqNews
@[reducible] def ps : List PK := [.rd t3, .rd t3]
@[reducible] def rs : List RK := [.v .bool]
abbrev Res := Ress rs × Outs ps
noncomputable def pre (K : Nat) (x : Args ps) : Option Res := (laws_eqFact.f K (x.1.1, x.2.1.1, ())).bind fun y1 => bif !y1.1.1 then (some ((false, ()), ())) else (bif x.1.2 != x.2.1.2 then (some ((false, ()), ())) else (some ((true, ()), ())))
noncomputable def f (K : Nat) (x : Args ps) : Option Res := pre K x
noncomputable def c (K : Nat) : Ctr := ⟨30, ps, rs, true, f K⟩
noncomputable def G (K : Nat) : List Ctr := [laws_eqFact.c K]
noncomputable def L : List (Nat × List (Nat × List Coe)) := []
noncomputable def body : Code := bodyOf Try.f30
noncomputable abbrev ev (K : Nat) : Code → St → (Ex → St → Option Res) → Option Res := evK (G K) T_D L K
noncomputable abbrev fin : Ex → St → Option Res := finK T_D ps rs true Try.f30.results.toList
end laws_eqNews
namespace laws_eqNewsS
@[reducible] def ps : List PK := [.rd (.list false 41 t3), .rd (.list false 41 t3)]
@[reducible] def rs : List RK := [.v .bool]
abbrev Res := Ress rs × Outs ps
abbrev A_l0 := Int
noncomputable def l0.step (K : Nat) (x : Args ps) (rec_l0 : A_l0 → Option Res) (a : A_l0) : Option Res := bif decide (a < (List.length x.1 : Int)) then ((idx x.1 a).bind fun y1 => (idx x.2.1 a).bind fun y2 => (laws_eqNews.f K (y1, y2, ())).bind fun y3 => bif !y3.1.1 then (some ((false, ()), ())) else (rec_l0 (wr .i64 (a + 1)))) else (some ((true, ()), ()))
noncomputable def l0 (K : Nat) (x : Args ps) : A_l0 → Option Res := iterate (fun rec_l0 a => l0.step K x rec_l0 a) K
noncomputable def pre (K : Nat) (N_l0 : A_l0 → Option Res) (x : Args ps) : Option Res := bif (List.length x.1 : Int) != (List.length x.2.1 : Int) then (some ((false, ()), ())) else (N_l0 0)
noncomputable def f (K : Nat) (x : Args ps) : Option Res := pre K (l0 K x) x
noncomputable def c (K : Nat) : Ctr := ⟨13, ps, rs, true, f K⟩
noncomputable def G (K : Nat) : List Ctr := [laws_eqNews.c K]
noncomputable def live_l0 : List (Nat × List Coe) := [(0, [.ro true 41 t3]), (1, [.ro true 41 t3]), (5, [.keep])]
noncomputable def L : List (Nat × List (Nat × List Coe)) := [(5, live_l0)]
noncomputable def body : Code := bodyOf Try.f13
noncomputable abbrev ev (K : Nat) : Code → St → (Ex → St → Option Res) → Option Res := evK (G K) T_D L K
noncomputable abbrev fin : Ex → St → Option Res := finK T_D ps rs true Try.f13.results.toList
noncomputable def S_l0 (x : Args ps) (a : A_l0) : St := mkSt [(0, ⟨0, .one, [.ro true 41 t3 x.1]⟩), (1, ⟨0, .one, [.ro true 41 t3 x.2.1]⟩), (5, ⟨0, .one, [.int .i64 a]⟩)]
noncomputable def k_l0 (K : Nat) (x : Args ps) : Ex → St → Option Res := kAt (ev K) body [1, 1, 0, 1, 0] fin
noncomputable def N_l0 (K : Nat) (x : Args ps) : A_l0 → Option Res := fun a => evLoop live_l0 (ev K (sub body [1, 1, 0, 1, 0, 0])) K (S_l0 x a) (k_l0 K x)
end laws_eqNewsS
namespace laws_markFactS
@[reducible] def ps : List PK := [.io (.list true 39 t2), .rd (.int .i64)]
@[reducible] def rs : List RK := [.v (.int .i64)]
abbrev Res := Ress rs × Outs ps
abbrev A_l0 := List (Ty.den t2) × Int × Int
noncomputable def l0.step (K : Nat) (x : Args ps) (rec_l0 : A_l0 → Option Res) (a : A_l0) : Option Res := bif decide (a.2.2 < (List.length a.1 : Int)) then ((idx a.1 a.2.2).bind fun _ => (idx a.1 (Int.toNat a.2.2 : Nat)).bind fun y2 => (idx (a.1.set (Int.toNat a.2.2) (a.2.1, y2.2)) a.2.2).bind fun _ => (idx (a.1.set (Int.toNat a.2.2) (a.2.1, y2.2)) (Int.toNat a.2.2 : Nat)).bind fun y4 => (idx ((a.1.set (Int.toNat a.2.2) (a.2.1, y2.2)).set (Int.toNat a.2.2) (y4.1, (wr .i64 (a.2.1 + 1), y4.2.2))) a.2.2).bind fun _ => (idx ((a.1.set (Int.toNat a.2.2) (a.2.1, y2.2)).set (Int.toNat a.2.2) (y4.1, (wr .i64 (a.2.1 + 1), y4.2.2))) (Int.toNat a.2.2 : Nat)).bind fun y6 => (idx (((a.1.set (Int.toNat a.2.2) (a.2.1, y2.2)).set (Int.toNat a.2.2) (y4.1, (wr .i64 (a.2.1 + 1), y4.2.2))).set (Int.toNat a.2.2) (y6.1, (y6.2.1, (wr .i64 ((wr .i64 (a.2.1 + 1)) + 1), y6.2.2.2)))) a.2.2).bind fun _ => (idx (((a.1.set (Int.toNat a.2.2) (a.2.1, y2.2)).set (Int.toNat a.2.2) (y4.1, (wr .i64 (a.2.1 + 1), y4.2.2))).set (Int.toNat a.2.2) (y6.1, (y6.2.1, (wr .i64 ((wr .i64 (a.2.1 + 1)) + 1), y6.2.2.2)))) (Int.toNat a.2.2 : Nat)).bind fun y8 => rec_l0 ((((a.1.set (Int.toNat a.2.2) (a.2.1, y2.2)).set (Int.toNat a.2.2) (y4.1, (wr .i64 (a.2.1 + 1), y4.2.2))).set (Int.toNat a.2.2) (y6.1, (y6.2.1, (wr .i64 ((wr .i64 (a.2.1 + 1)) + 1), y6.2.2.2)))).set (Int.toNat a.2.2) (y8.1, (y8.2.1, (y8.2.2.1, (Int.tmod (wr .i64 ((wr .i64 ((wr .i64 (a.2.1 + 1)) + 1)) + 1)) 3) == 0))), wr .i64 ((wr .i64 ((wr .i64 ((wr .i64 (a.2.1 + 1)) + 1)) + 1)) + 1), wr .i64 (a.2.2 + 1))) else (some ((a.2.1, ()), (a.1, ())))
noncomputable def l0 (K : Nat) (x : Args ps) : A_l0 → Option Res := iterate (fun rec_l0 a => l0.step K x rec_l0 a) K
noncomputable def pre (K : Nat) (N_l0 : A_l0 → Option Res) (x : Args ps) : Option Res := N_l0 (x.1, x.2.1, 0)
noncomputable def f (K : Nat) (x : Args ps) : Option Res := pre K (l0 K x) x
noncomputable def c (K : Nat) : Ctr := ⟨14, ps, rs, true, f K⟩
noncomputable def G (K : Nat) : List Ctr := []
noncomputable def live_l0 : List (Nat × List Coe) := [(0, [.own false 39 t2]), (1, [.keep]), (5, [.keep])]
noncomputable def L : List (Nat × List (Nat × List Coe)) := [(3, live_l0)]
noncomputable def body : Code := bodyOf Try.f14
noncomputable abbrev ev (K : Nat) : Code → St → (Ex → St → Option Res) → Option Res := evK (G K) T_D L K
noncomputable abbrev fin : Ex → St → Option Res := finK T_D ps rs true Try.f14.results.toList
noncomputable def S_l0 (x : Args ps) (a : A_l0) : St := mkSt [(0, ⟨0, .one, [.own false none 39 t2 a.1]⟩), (1, ⟨0, .one, [.int .i64 a.2.1]⟩), (5, ⟨0, .one, [.int .i64 a.2.2]⟩)]
noncomputable def k_l0 (K : Nat) (x : Args ps) : Ex → St → Option Res := kAt (ev K) body [1, 0, 1, 0] fin
noncomputable def N_l0 (K : Nat) (x : Args ps) : A_l0 → Option Res := fun a => evLoop live_l0 (ev K (sub body [1, 0, 1, 0, 0])) K (S_l0 x a) (k_l0 K x)
end laws_markFactS
namespace laws_markNewsS
@[reducible] def ps : List PK := [.io (.list true 41 t3), .rd (.int .i64)]
@[reducible] def rs : List RK := [.v (.int .i64)]
abbrev Res := Ress rs × Outs ps
abbrev A_l0 := List (Ty.den t3) × Int × Int
noncomputable def l0.step (K : Nat) (x : Args ps) (rec_l0 : A_l0 → Option Res) (a : A_l0) : Option Res := bif decide (a.2.2 < (List.length a.1 : Int)) then ((idx a.1 a.2.2).bind fun _ => (idx a.1 (Int.toNat a.2.2 : Nat)).bind fun y2 => (idx (a.1.set (Int.toNat a.2.2) ((a.2.1, y2.1.2), y2.2)) a.2.2).bind fun _ => (idx (a.1.set (Int.toNat a.2.2) ((a.2.1, y2.1.2), y2.2)) (Int.toNat a.2.2 : Nat)).bind fun y4 => (idx ((a.1.set (Int.toNat a.2.2) ((a.2.1, y2.1.2), y2.2)).set (Int.toNat a.2.2) ((y4.1.1, (wr .i64 (a.2.1 + 1), y4.1.2.2)), y4.2)) a.2.2).bind fun _ => (idx ((a.1.set (Int.toNat a.2.2) ((a.2.1, y2.1.2), y2.2)).set (Int.toNat a.2.2) ((y4.1.1, (wr .i64 (a.2.1 + 1), y4.1.2.2)), y4.2)) (Int.toNat a.2.2 : Nat)).bind fun y6 => (idx (((a.1.set (Int.toNat a.2.2) ((a.2.1, y2.1.2), y2.2)).set (Int.toNat a.2.2) ((y4.1.1, (wr .i64 (a.2.1 + 1), y4.1.2.2)), y4.2)).set (Int.toNat a.2.2) ((y6.1.1, (y6.1.2.1, (wr .i64 ((wr .i64 (a.2.1 + 1)) + 1), y6.1.2.2.2))), y6.2)) a.2.2).bind fun _ => (idx (((a.1.set (Int.toNat a.2.2) ((a.2.1, y2.1.2), y2.2)).set (Int.toNat a.2.2) ((y4.1.1, (wr .i64 (a.2.1 + 1), y4.1.2.2)), y4.2)).set (Int.toNat a.2.2) ((y6.1.1, (y6.1.2.1, (wr .i64 ((wr .i64 (a.2.1 + 1)) + 1), y6.1.2.2.2))), y6.2)) (Int.toNat a.2.2 : Nat)).bind fun y8 => (idx ((((a.1.set (Int.toNat a.2.2) ((a.2.1, y2.1.2), y2.2)).set (Int.toNat a.2.2) ((y4.1.1, (wr .i64 (a.2.1 + 1), y4.1.2.2)), y4.2)).set (Int.toNat a.2.2) ((y6.1.1, (y6.1.2.1, (wr .i64 ((wr .i64 (a.2.1 + 1)) + 1), y6.1.2.2.2))), y6.2)).set (Int.toNat a.2.2) ((y8.1.1, (y8.1.2.1, (y8.1.2.2.1, (Int.tmod (wr .i64 ((wr .i64 ((wr .i64 (a.2.1 + 1)) + 1)) + 1)) 3) == 0))), y8.2)) a.2.2).bind fun _ => (idx ((((a.1.set (Int.toNat a.2.2) ((a.2.1, y2.1.2), y2.2)).set (Int.toNat a.2.2) ((y4.1.1, (wr .i64 (a.2.1 + 1), y4.1.2.2)), y4.2)).set (Int.toNat a.2.2) ((y6.1.1, (y6.1.2.1, (wr .i64 ((wr .i64 (a.2.1 + 1)) + 1), y6.1.2.2.2))), y6.2)).set (Int.toNat a.2.2) ((y8.1.1, (y8.1.2.1, (y8.1.2.2.1, (Int.tmod (wr .i64 ((wr .i64 ((wr .i64 (a.2.1 + 1)) + 1)) + 1)) 3) == 0))), y8.2)) (Int.toNat a.2.2 : Nat)).bind fun y10 => rec_l0 (((((a.1.set (Int.toNat a.2.2) ((a.2.1, y2.1.2), y2.2)).set (Int.toNat a.2.2) ((y4.1.1, (wr .i64 (a.2.1 + 1), y4.1.2.2)), y4.2)).set (Int.toNat a.2.2) ((y6.1.1, (y6.1.2.1, (wr .i64 ((wr .i64 (a.2.1 + 1)) + 1), y6.1.2.2.2))), y6.2)).set (Int.toNat a.2.2) ((y8.1.1, (y8.1.2.1, (y8.1.2.2.1, (Int.tmod (wr .i64 ((wr .i64 ((wr .i64 (a.2.1 + 1)) + 1)) + 1)) 3) == 0))), y8.2)).set (Int.toNat a.2.2) (y10.1, wr .i64 ((wr .i64 ((wr .i64 ((wr .i64 (a.2.1 + 1)) + 1)) + 1)) + 1)), wr .i64 ((wr .i64 ((wr .i64 ((wr .i64 ((wr .i64 (a.2.1 + 1)) + 1)) + 1)) + 1)) + 1), wr .i64 (a.2.2 + 1))) else (some ((a.2.1, ()), (a.1, ())))
noncomputable def l0 (K : Nat) (x : Args ps) : A_l0 → Option Res := iterate (fun rec_l0 a => l0.step K x rec_l0 a) K
noncomputable def pre (K : Nat) (N_l0 : A_l0 → Option Res) (x : Args ps) : Option Res := N_l0 (x.1, x.2.1, 0)
noncomputable def f (K : Nat) (x : Args ps) : Option Res := pre K (l0 K x) x
noncomputable def c (K : Nat) : Ctr := ⟨15, ps, rs, true, f K⟩
noncomputable def G (K : Nat) : List Ctr := []
noncomputable def live_l0 : List (Nat × List Coe) := [(0, [.own false 41 t3]), (1, [.keep]), (5, [.keep])]
noncomputable def L : List (Nat × List (Nat × List Coe)) := [(3, live_l0)]
noncomputable def body : Code := bodyOf Try.f15
noncomputable abbrev ev (K : Nat) : Code → St → (Ex → St → Option Res) → Option Res := evK (G K) T_D L K
noncomputable abbrev fin : Ex → St → Option Res := finK T_D ps rs true Try.f15.results.toList
noncomputable def S_l0 (x : Args ps) (a : A_l0) : St := mkSt [(0, ⟨0, .one, [.own false none 41 t3 a.1]⟩), (1, ⟨0, .one, [.int .i64 a.2.1]⟩), (5, ⟨0, .one, [.int .i64 a.2.2]⟩)]
noncomputable def k_l0 (K : Nat) (x : Args ps) : Ex → St → Option Res := kAt (ev K) body [1, 0, 1, 0] fin
noncomputable def N_l0 (K : Nat) (x : Args ps) : A_l0 → Option Res := fun a => evLoop live_l0 (ev K (sub body [1, 0, 1, 0, 0])) K (S_l0 x a) (k_l0 K x)
end laws_markNewsS
namespace laws_heldNewsS
@[reducible] def ps : List PK := [.rd (.list false 41 t3), .rd (.int .i64)]
@[reducible] def rs : List RK := [.v (.int .i64)]
abbrev Res := Ress rs × Outs ps
abbrev A_l0 := Int × Int
noncomputable def l0.step (K : Nat) (x : Args ps) (rec_l0 : A_l0 → Option Res) (a : A_l0) : Option Res := bif decide (a.2 < (List.length x.1 : Int)) then ((idx x.1 a.2).bind fun y1 => bif y1.1.1 != a.1 then (some (((-1), ()), ())) else ((idx x.1 a.2).bind fun y2 => bif y2.1.2.1 != (wr .i64 (a.1 + 1)) then (some (((-1), ()), ())) else ((idx x.1 a.2).bind fun y3 => bif y3.1.2.2.1 != (wr .i64 ((wr .i64 (a.1 + 1)) + 1)) then (some (((-1), ()), ())) else ((idx x.1 a.2).bind fun y4 => bif y4.1.2.2.2 != ((Int.tmod (wr .i64 ((wr .i64 ((wr .i64 (a.1 + 1)) + 1)) + 1)) 3) == 0) then (some (((-1), ()), ())) else ((idx x.1 a.2).bind fun y5 => bif y5.2 != (wr .i64 ((wr .i64 ((wr .i64 ((wr .i64 (a.1 + 1)) + 1)) + 1)) + 1)) then (some (((-1), ()), ())) else (rec_l0 (wr .i64 ((wr .i64 ((wr .i64 ((wr .i64 ((wr .i64 (a.1 + 1)) + 1)) + 1)) + 1)) + 1), wr .i64 (a.2 + 1)))))))) else (some ((a.1, ()), ()))
noncomputable def l0 (K : Nat) (x : Args ps) : A_l0 → Option Res := iterate (fun rec_l0 a => l0.step K x rec_l0 a) K
noncomputable def pre (K : Nat) (N_l0 : A_l0 → Option Res) (x : Args ps) : Option Res := N_l0 (x.2.1, 0)
noncomputable def f (K : Nat) (x : Args ps) : Option Res := pre K (l0 K x) x
noncomputable def c (K : Nat) : Ctr := ⟨16, ps, rs, true, f K⟩
noncomputable def G (K : Nat) : List Ctr := []
noncomputable def live_l0 : List (Nat × List Coe) := [(0, [.ro true 41 t3]), (1, [.keep]), (5, [.keep])]
noncomputable def L : List (Nat × List (Nat × List Coe)) := [(3, live_l0)]
noncomputable def body : Code := bodyOf Try.f16
noncomputable abbrev ev (K : Nat) : Code → St → (Ex → St → Option Res) → Option Res := evK (G K) T_D L K
noncomputable abbrev fin : Ex → St → Option Res := finK T_D ps rs true Try.f16.results.toList
noncomputable def S_l0 (x : Args ps) (a : A_l0) : St := mkSt [(0, ⟨0, .one, [.ro true 41 t3 x.1]⟩), (1, ⟨0, .one, [.int .i64 a.1]⟩), (5, ⟨0, .one, [.int .i64 a.2]⟩)]
noncomputable def k_l0 (K : Nat) (x : Args ps) : Ex → St → Option Res := kAt (ev K) body [1, 0, 1, 0] fin
noncomputable def N_l0 (K : Nat) (x : Args ps) : A_l0 → Option Res := fun a => evLoop live_l0 (ev K (sub body [1, 0, 1, 0, 0])) K (S_l0 x a) (k_l0 K x)
end laws_heldNewsS
namespace laws_FnExactViewNews
@[reducible] def ps : List PK := [.rd (.list false 49 t2), .rd (.list false 49 t2)]
@[reducible] def rs : List RK := [.v .bool]
abbrev Res := Ress rs × Outs ps
noncomputable def pre (K : Nat) (x : Args ps) : Option Res := (laws_szFactS.f K (x.1, 1048576, ())).bind fun y1 => bif decide (y1.1.1 < 0) then (some ((true, ()), ())) else ((laws_szFactS.f K (x.2.1, y1.1.1, ())).bind fun y2 => bif decide (y2.1.1 < 0) then (some ((true, ()), ())) else ((laws_toFactS.f K (x.1, ())).bind fun y3 => (laws_toFactS.f K (x.2.1, ())).bind fun y4 => (spec_ViewNews.f K (y3.1.1, y4.1.1, ())).bind fun y5 => (laws_toFactS.f K (x.1, ())).bind fun y6 => (laws_toFactS.f K (x.2.1, ())).bind fun y7 => (impl_ViewNews.f K (y6.1.1, y7.1.1, ())).bind fun y8 => (laws_eqNewsS.f K (y8.1.1, y5.1.1, ())).bind fun y9 => bif !y9.1.1 then (some ((false, ()), ())) else ((laws_toFactS.f K (x.1, ())).bind fun y10 => (laws_eqFactS.f K (y6.1.1, y10.1.1, ())).bind fun y11 => bif !y11.1.1 then (some ((false, ()), ())) else ((laws_toFactS.f K (x.2.1, ())).bind fun y12 => (laws_eqFactS.f K (y7.1.1, y12.1.1, ())).bind fun y13 => bif !y13.1.1 then (some ((false, ()), ())) else ((laws_markFactS.f K (y6.1.1, 1, ())).bind fun y14 => (laws_markFactS.f K (y7.1.1, y14.1.1, ())).bind fun y15 => bif decide (y15.1.1 < 0) then (some ((false, ()), ())) else ((laws_eqNewsS.f K (y8.1.1, y5.1.1, ())).bind fun y16 => bif !y16.1.1 then (some ((false, ()), ())) else ((laws_markNewsS.f K (y8.1.1, 1, ())).bind fun y17 => (laws_heldNewsS.f K (y17.2.1, 1, ())).bind fun y18 => bif decide (y18.1.1 < 0) then (some ((false, ()), ())) else (bif y18.1.1 != y17.1.1 then (some ((false, ()), ())) else ((laws_toFactS.f K (x.1, ())).bind fun y19 => (laws_toFactS.f K (x.2.1, ())).bind fun y20 => (impl_ViewNews.f K (y19.1.1, y20.1.1, ())).bind fun y21 => (laws_eqNewsS.f K (y21.1.1, y5.1.1, ())).bind fun y22 => bif !y22.1.1 then (some ((false, ()), ())) else ((laws_heldNewsS.f K (y17.2.1, 1, ())).bind fun y23 => bif decide (y23.1.1 < 0) then (some ((false, ()), ())) else (bif y23.1.1 != y17.1.1 then (some ((false, ()), ())) else (some ((true, ()), ())))))))))))))
noncomputable def f (K : Nat) (x : Args ps) : Option Res := pre K x
noncomputable def c (K : Nat) : Ctr := ⟨4, ps, rs, true, f K⟩
noncomputable def G (K : Nat) : List Ctr := [laws_szFactS.c K, laws_toFactS.c K, laws_eqFactS.c K, spec_ViewNews.c K, impl_ViewNews.c K, laws_eqNewsS.c K, laws_markFactS.c K, laws_markNewsS.c K, laws_heldNewsS.c K]
noncomputable def L : List (Nat × List (Nat × List Coe)) := []
noncomputable def body : Code := bodyOf Try.f4
noncomputable abbrev ev (K : Nat) : Code → St → (Ex → St → Option Res) → Option Res := evK (G K) T_D L K
noncomputable abbrev fin : Ex → St → Option Res := finK T_D ps rs true Try.f4.results.toList
end laws_FnExactViewNews
end
end Go.Proofs.YtdjmnbdicpgmiaaEv
