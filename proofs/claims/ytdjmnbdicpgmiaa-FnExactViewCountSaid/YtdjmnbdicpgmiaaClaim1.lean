/- FnExactViewCount: for every input the law returns true, and each argument reads behind the call as it read before. -/
import Derived.Test.YtdjmnbdicpgmiaaRows
import Derived.Test.YtdjmnbdicpgmiaaSnd
import Derived.Test.YtdjmnbdicpgmiaaLaw1
import Derived.Test.YtdjmnbdicpgmiaaEv31
namespace Go.Proofs.Ytdjmnbdicpgmiaa
open Go.ChangeShapes Go.WideShapes Go.ChangeAt Go.RowKit Go.Proofs.YtdjmnbdicpgmiaaEv

theorem Try.own : ownKnob Try.prog.godebug = none := by kernel_rfl
theorem Try.laidOut : laidOutB Try.prog = true := by kernel_rfl

set_option maxRecDepth 100000 in
theorem fnExactViewCount_lifted (os : Os) (started : os.Started) (H : Type) (enc : TypeId × Value → H) :
    ReturnsInHanded {} Try.checked os 3 .any (Rows.fnExactViewCountSpec.pre6 enc Try.prog Try.f3 Rows.fnExactViewCountRow.domain false) (Rows.fnExactViewCountSpec.post enc Try.prog Try.f3 false true false false) := by
  refine returnsInHanded_of_change (C := Try.checked) Try.own started (by kernel_rfl) Try.func3
    (ChangeSpec.witness6 (enc := enc) (C := Try.checked) false ⟨#[], #[.slice none 0 0, .int .i64 0], []⟩ 8 (by kernel_rfl) (by kernel_rfl) (by kernel_rfl) (by kernel_rfl)) ?_
  intro W base args ds gs before hval hW hcnd _
  have hW' := hW
  obtain ⟨p, q, hA, hV, e0, hfz, hnd⟩ := hW
  obtain ⟨x, hx, hsx⟩ := open_args (pr := fun k => k < W.heap.size) [.list 49 t2, .int .i64] Try.f3.params.toList args.toList ds p (by kernel_rfl) hA ⟨base, fun j t v h1 h2 => hval j t v (by simpa using h1) (by simpa using h2)⟩
  obtain ⟨xs, v, u⟩ := x
  obtain ⟨⟨hlen, _⟩, _, _⟩ := hsx
  have hcalls := law_calls (tys := [.list 49 t2, .int .i64]) (laws_FnExactViewCount.sound (xs.length + 1)) (x := (xs, v, ())) hx (law_ViewCount xs v (by simpa [maxLen] using hlen) (xs.length + 1) (Nat.lt_succ_self _))
  rw [Array.toArray_toList] at hcalls
  refine hcalls.mono fun e W' ⟨he, hb⟩ => ?_
  subst he
  have hds : ∃ d1 d2, ds = [d1, d2] := by
    have hA' : DataW.TrodAll enc Try.prog W 0 (fun _ => true) true Try.f3.params.toList args.toList ds p := hA
    rw [Try.params3] at hA'
    obtain ⟨v0, v1, d0, d1, p0, p1, _, h1, _⟩ := trodAll_two hA'
    exact ⟨d0, d1, h1⟩
  obtain ⟨d1, d2, rfl⟩ := hds
  have hgs : gs = [] := (trodVars_none hV).1
  subst hgs
  exact ⟨_, rfl, post_of_below Try.laidOut hW' rfl hb (by rw [Try.params3]; decide +kernel) (tb := 4) (by kernel_rfl) (by kernel_rfl) rfl rfl rfl⟩

theorem fnExactViewCount_holds : Rows.FnExactViewCountSaid :=
  OpenClaim.holds_of_wide 3 Try.f3 rfl rfl rfl rfl rfl rfl rfl ⟨rfl, rfl, rfl, rfl, rfl⟩ rfl rfl rfl rfl rfl (by kernel_rfl) Try.func3 (by kernel_rfl)
    (of_decide_eq_true (by kernel_rfl)) (by unfold Func.isWrapper; first | (rw [if_pos (by decide +kernel)]; kernel_rfl) | (rw [if_neg (by decide +kernel)]; exact ⟨rfl, rfl⟩))
    (fun os started H enc _ => fnExactViewCount_lifted os started H enc)

end Go.Proofs.Ytdjmnbdicpgmiaa
