/- A law's call: its arguments opened, its end. -/
import Derived.Test.YthgnfidnmnkeaaaGreatEv30
namespace Go.Proofs.YthgnfidnmnkeaaaGreatEv
open Go Go.RowKit Go.ChangeShapes Go.WideShapes

section
variable {H : Type} {enc : TypeId × Value → H} {P : Program} {w : World}

/-- One argument's value. -/
theorem open_arg {n : Nat} {a : Ty} {t : TypeId} (hs : shT P (n + 1) a t = true) {v : Value} {d : DataW H} {p : List MemPlace} (hr : DataW.Trod enc P w 0 (fun _ => true) true t v d p) {base : Nat} (hok : Value.okWide P w .any base t v) :
    ∃ x : a.den, (∃ cs, ValOk a.isAgg v cs ∧ Rd w (fun k => k < w.heap.size) a x cs) ∧ Sm a x := by
  obtain ⟨fuel, hr⟩ := hr
  obtain ⟨x, hx, hsx⟩ := open_rd (n + 1) a t hs fuel _ _ hr
  refine ⟨x, ⟨v.cells.toList, ?_, hx⟩, hsx⟩
  cases a with
  | int k =>
    simp only [shT] at hs
    split at hs
    · rename_i k' hu
      obtain ⟨n, rfl⟩ := okWide_int hu hok
      rfl
    · cases hs
  | bool =>
    simp only [shT] at hs
    split at hs
    · rename_i hu
      obtain ⟨n, rfl⟩ := okWide_bool hu hok
      rfl
    · cases hs
  | str =>
    simp only [shT] at hs
    split at hs
    · rename_i hu
      obtain ⟨n, rfl⟩ := okWide_string hu hok
      rfl
    · cases hs
  | list E e =>
    simp only [shT] at hs
    split at hs
    · rename_i E' hu
      obtain ⟨A, len, cap, rfl⟩ := okWide_slice hu hok
      rfl
    · cases hs
  | unit => simp [shT] at hs
  | pair b c =>
    simp only [shT] at hs
    split at hs
    · rename_i fs hu
      obtain ⟨cs, rfl, _⟩ := okWide_struct hu hok
      show Value.agg cs = .agg (Value.agg cs).cells.toList.toArray
      simp [Value.cells]
    · cases hs

/-- The arguments' sizes. -/
def Sms : (as : List Ty) → Args (as.map .rd) → Prop
  | [], _ => True
  | a :: as, x => Sm a x.1 ∧ Sms as x.2

def shTs (P : Program) : List Ty → List TypeId → Bool
  | [], [] => true
  | a :: as, t :: ts => shT P 64 a t && shTs P as ts
  | _, _ => false

theorem open_args {pr : Nat → Prop} : ∀ (as : List Ty) (ts : List TypeId) (vs : List Value) (ds : List (DataW H)) (ps : List MemPlace), shTs P as ts = true → DataW.TrodAll enc P w 0 (fun _ => true) true ts vs ds ps →
    (∃ base, ∀ (j : Nat) (t : TypeId) (v : Value), ts[j]? = some t → vs[j]? = some v → Value.okWide P w .any base t v) → ∃ x : Args (as.map .rd), ArgsOk P w (fun k => k < w.heap.size) pr (as.map .rd) x vs ∧ Sms as x
  | [], [], [], [], _, _, _, _ => ⟨(), rfl, trivial⟩
  | [], [], [], _ :: _, _, _, h, _ => h.elim
  | [], [], _ :: _, _, _, _, h, _ => h.elim
  | [], _ :: _, _, _, _, h, _, _ => by simp [shTs] at h
  | _ :: _, [], _, _, _, h, _, _ => by simp [shTs] at h
  | _ :: _, _ :: _, [], _, _, _, h, _ => h.elim
  | _ :: _, _ :: _, _ :: _, [], _, _, h, _ => h.elim
  | a :: as, t :: ts, v :: vs, d :: ds, ps, hs, ⟨p, q, h1, h2, _⟩, ⟨base, hok⟩ => by
    simp only [shTs, Bool.and_eq_true] at hs
    obtain ⟨x, hx, hsx⟩ := open_arg (n := 63) hs.1 h1 (hok 0 t v rfl rfl)
    obtain ⟨y, hy, hsy⟩ := open_args as ts vs ds q hs.2 h2 ⟨base, fun j t' v' h3 h4 => hok (j + 1) t' v' (by simpa using h3) (by simpa using h4)⟩
    exact ⟨(x, y), ⟨v, vs, rfl, hx, hy⟩, hsx, hsy⟩

/-- A law that only reads, and answers true. -/
theorem law_calls {f : FuncId} {tys : List Ty} {fresh : Bool} {den : Args (tys.map PK.rd) → Option (Ress [.v false .bool] × Outs (tys.map PK.rd))} (hs : Sound P ⟨f, tys.map .rd, [.v false .bool], fresh, den⟩) {x : Args (tys.map .rd)} {vs : List Value} {o : Outs (tys.map .rd)}
    (hx : ArgsOk P w (fun k => k < w.heap.size) (fun k => k < w.heap.size) (tys.map .rd) x vs) (hd : den x = some ((true, ()), o)) : Calls P f vs.toArray w (fun e w' => e = .returned (.bool true) ∧ Below w.heap.size w w') := by
  have hb : ∀ vs, blocks (tys.map .rd) vs = [] := fun vs => blocks_reads _ vs (by
    rw [List.all_eq_true]
    intro p hp
    obtain ⟨a, _, rfl⟩ := List.mem_map.1 hp
    rfl)
  have := hs.2 w (fun k => k < w.heap.size) x vs _ (hx.mono (fun _ h => h) (fun k hk => ⟨hk, by rw [hb]; simp⟩)) (fun k hk => ⟨hk, by rw [hb]; simp⟩) (by rw [hb]; exact List.nodup_nil) hd
  refine this.mono fun e w' hp => ?_
  obtain ⟨v, N, rfl, hsz, hos, htp, hou, hfr, _, _, hres⟩ := hp
  refine ⟨?_, ⟨hos, htp, hou, hsz, fun k hk => hfr k hk (by rw [hb]; simp)⟩⟩
  obtain ⟨cs, bsd, hs1, _, hs3, hs4, _, _⟩ := hres.vals rfl
  have hs1 : cs = [v] := hs1
  subst hs1
  have := hs4 false 0 (.bool true) v rfl rfl
  have hv : v = .bool true := this
  rw [hv]

end
end Go.Proofs.YthgnfidnmnkeaaaGreatEv
