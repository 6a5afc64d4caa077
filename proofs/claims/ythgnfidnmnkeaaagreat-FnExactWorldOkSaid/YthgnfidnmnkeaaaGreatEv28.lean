/- The table of types, checked by computing. -/
import Derived.Test.YthgnfidnmnkeaaaGreatEv27
import Derived.Laws.StructEq
namespace Go.Proofs.YthgnfidnmnkeaaaGreatEv
open Go Go.RowKit

section
variable {P : Program}

def szB (P : Program) (t : TypeId) (n : Nat) : Bool :=
  match P.info? t with
  | some i => Nat.beq i.size n
  | none => false

theorem szB_ok {t : TypeId} {n : Nat} (h : szB P t n = true) : SizedAt P t n := by
  unfold szB at h
  unfold SizedAt
  split at h
  · rename_i i hi
    rw [hi]
    simp only [Option.map_some]
    rw [Nat.eq_of_beq_eq_true h]
  · cases h

def aggB (P : Program) (t : TypeId) (agg : Bool) : Bool :=
  match P.underlying t with
  | some (.struct _) | some (.array _ _) => agg
  | some _ => !agg
  | none => false

theorem aggB_ok {t : TypeId} {agg : Bool} (h : aggB P t agg = true) : (P.underlying t).map (fun d => match d with | .struct _ | .array _ _ => true | _ => false) = some agg := by
  unfold aggB at h
  split at h
  · rename_i hu; rw [hu]; simp [h]
  · rename_i hu; rw [hu]; simp [h]
  · rename_i d h1 h2 hu
    rw [hu]
    simp only [Option.map_some, Option.some.injEq]
    cases agg with
    | true => cases h
    | false =>
      cases d <;> first | rfl | (exact absurd hu (h1 _)) | (exact absurd hu (h2 _ _))
  · cases h

theorem agg_run {t : TypeId} {agg : Bool} (h : (P.underlying t).map (fun d => match d with | .struct _ | .array _ _ => true | _ => false) = some agg) (w : World) : (isAgg t).run P w = .ok agg w := by
  unfold isAgg
  cases hd' : P.underlying t with
  | none => simp [hd'] at h
  | some dd =>
    rw [hd'] at h
    simp only [Option.map_some, Option.some.injEq] at h
    subst h
    rw [Sem.run_bind, run_underlying hd' w]
    cases dd <;> rfl

/-! ### '==' -/
def fieldB (P : Program) (f : Field) (off : Nat) (b : Ty) : Bool := (f.name != "_") && Nat.beq f.offset off && szB P f.type b.cells && aggB P f.type b.isAgg

def eqF (P : Program) (g : Ty → TypeId → Bool) : List Field → Nat → Ty → Bool
  | [], _, _ => false
  | [f], off, b => fieldB P f off b && g b f.type
  | f :: fs, off, .pair b c => fieldB P f off b && g b f.type && eqF P g fs (off + b.cells) c
  | _, _, _ => false

def eqT (P : Program) : Nat → Ty → TypeId → Bool
  | 0, _, _ => false
  | n + 1, a, t => match a with
    | .int k => (match P.underlying t with | some (.int k') => decide (k' = k) | _ => false)
    | .bool => (match P.underlying t with | some .bool => true | _ => false)
    | .str => (match P.underlying t with | some .string => true | _ => false)
    | .pair b c => (match P.underlying t with | some (.struct fs) => !P.stoodInHeld t && eqF P (eqT P n) fs.toList 0 (.pair b c) | _ => false)
    | _ => false

theorem flat_one : ∀ (b : Ty), b.isAgg = false → b.cells = 1
  | .int _, _ => rfl
  | .bool, _ => rfl
  | .str, _ => rfl
  | .list _ _, _ => rfl
  | .unit, h => by cases h
  | .pair _ _, h => by cases h

theorem run_part {f : Field} {off : Nat} {b : Ty} (h : fieldB P f off b = true) {xs p c s : List Value} (hx : xs = p ++ c ++ s) (hp : p.length = off) (hc : c.length = b.cells) (w : World) :
    ∃ v, (part f.type xs.toArray f.offset).run P w = .ok v w ∧ ValOk b.isAgg v c := by
  unfold fieldB at h
  simp only [Bool.and_eq_true] at h
  obtain ⟨⟨⟨_, h2⟩, h3⟩, h4⟩ := h
  have h2 := Nat.eq_of_beq_eq_true h2
  have hagg := agg_run (aggB_ok h4) w
  have hsz := sized_run (szB_ok h3) w
  have hdrop : (xs.drop off).take b.cells = c := by
    rw [hx, List.append_assoc, ← hp, List.drop_left, ← hc, List.take_left]
  cases hb : b.isAgg with
  | true =>
    rw [hb] at hagg
    refine ⟨.agg c.toArray, ?_, rfl⟩
    have e : xs.toArray.extract off (off + b.cells) = c.toArray := by
      rw [List.extract_toArray, List.extract_eq_take_drop, Nat.add_sub_cancel_left, hdrop]
    simp only [part, Sem.run_bind, hagg, Result.andThen_ok, if_true, hsz, Sem.run_pure, h2, e]
  | false =>
    rw [hb] at hagg
    have h1 := flat_one b hb
    rw [h1] at hc
    match c, hc with
    | [v], _ =>
      refine ⟨v, ?_, rfl⟩
      have e : xs.toArray[off]? = some v := by
        simp only [List.getElem?_toArray]
        rw [hx, List.append_assoc, List.getElem?_append_right (by omega)]
        simp [hp]
      simp only [part, Sem.run_bind, hagg, Result.andThen_ok, Bool.false_eq_true, if_false, h2, e, Sem.run_pure]

/-- What '==' comes to at a type. -/
def EqSem (P : Program) (d : Nat) (b : Ty) (t : TypeId) : Prop := ∀ (w : World) (G : Nat → Prop) (x y : b.den) (vx vy : Value) (cx cy : List Value), ValOk b.isAgg vx cx → Rd w G b x cx → ValOk b.isAgg vy cy → Rd w G b y cy →
  (Op.equalIn d t vx vy).run P w = .ok (b.eqv x y) w

theorem eqF_ok {d : Nat} {g : Ty → TypeId → Bool} (hg : ∀ b t, g b t = true → EqSem P d b t) : ∀ (fs : List Field) (off : Nat) (b : Ty), eqF P g fs off b = true → ∀ (w : World) (G : Nat → Prop) (x y : b.den) (px cx py cy : List Value),
    px.length = off → py.length = off → Rd w G b x cx → Rd w G b y cy → (Op.eqFields d (px ++ cx).toArray (py ++ cy).toArray fs).run P w = .ok (b.eqv x y) w
  | [], _, _, h => by simp [eqF] at h
  | [f], off, b, h => by
    intro w G x y px cx py cy hpx hpy hx hy
    simp only [eqF, Bool.and_eq_true] at h
    obtain ⟨v1, h1, h2⟩ := run_part h.1 (xs := px ++ cx) (p := px) (c := cx) (s := []) (by simp) hpx hx.len w
    obtain ⟨v2, h3, h4⟩ := run_part h.1 (xs := py ++ cy) (p := py) (c := cy) (s := []) (by simp) hpy hy.len w
    have h5 := hg b f.type h.2 w G x y v1 v2 cx cy h2 hx h4 hy
    have hn : f.name ≠ "_" := by
      have := h.1
      unfold fieldB at this
      simp only [Bool.and_eq_true] at this
      simpa using this.1.1.1
    simp only [Op.eqFields, if_pos hn, Sem.run_bind, h1, h3, h5, Result.andThen_ok]
    cases b.eqv x y <;> simp
  | f :: f' :: fs, off, .pair b c, h => by
    intro w G x y px cx py cy hpx hpy hx hy
    simp only [eqF, Bool.and_eq_true] at h
    obtain ⟨⟨hf, hgb⟩, hrest⟩ := h
    obtain ⟨c1, c2, rfl, hx1, hx2⟩ := hx
    obtain ⟨d1, d2, rfl, hy1, hy2⟩ := hy
    obtain ⟨v1, h1, h2⟩ := run_part hf (xs := px ++ (c1 ++ c2)) (p := px) (c := c1) (s := c2) (by simp) hpx hx1.len w
    obtain ⟨v2, h3, h4⟩ := run_part hf (xs := py ++ (d1 ++ d2)) (p := py) (c := d1) (s := d2) (by simp) hpy hy1.len w
    have h5 := hg b f.type hgb w G x.1 y.1 v1 v2 c1 d1 h2 hx1 h4 hy1
    have h6 := eqF_ok hg (f' :: fs) (off + b.cells) c hrest w G x.2 y.2 (px ++ c1) c2 (py ++ d1) d2 (by simp [hpx, hx1.len]) (by simp [hpy, hy1.len]) hx2 hy2
    rw [List.append_assoc, List.append_assoc] at h6
    have hn : f.name ≠ "_" := by
      unfold fieldB at hf
      simp only [Bool.and_eq_true] at hf
      simpa using hf.1.1.1
    rw [Op.eqFields]
    simp only [if_pos hn, Sem.run_bind, h1, h3, h5, Result.andThen_ok]
    show _ = Result.ok (b.eqv x.1 y.1 && c.eqv x.2 y.2) w
    cases b.eqv x.1 y.1 with
    | false => simp
    | true => simpa using h6
  | f :: f' :: fs, off, .int _, h => by simp [eqF] at h
  | f :: f' :: fs, off, .bool, h => by simp [eqF] at h
  | f :: f' :: fs, off, .str, h => by simp [eqF] at h
  | f :: f' :: fs, off, .unit, h => by simp [eqF] at h
  | f :: f' :: fs, off, .list _ _, h => by simp [eqF] at h

theorem bytes_beq (x y : ByteArray) : (x == y) = decide (x = y) := by
  rw [beq_toListBytes]
  by_cases h : x = y
  · subst h; simp
  · rw [decide_eq_false h]
    cases hb : (x.toList == y.toList) with
    | false => rfl
    | true =>
      exfalso
      apply h
      have := eq_of_beq hb
      rw [ByteArray.toList_eq, ByteArray.toList_eq] at this
      apply ByteArray.ext
      exact Array.ext' this

theorem eqT_ok : ∀ (n : Nat) (a : Ty) (t : TypeId), eqT P n a t = true → ∀ d, n ≤ d → EqSem P d a t
  | 0, _, _, h => by simp [eqT] at h
  | n + 1, a, t, h => by
    intro d hd
    obtain ⟨d, rfl⟩ : ∃ d', d = d' + 1 := ⟨d - 1, by omega⟩
    intro w G x y vx vy cx cy hvx hx hvy hy
    cases a with
    | int k =>
      simp only [eqT] at h
      split at h
      · rename_i k' hu
        have hk := of_decide_eq_true h
        subst hk
        have hx : cx = [.int k' x] := hx
        have hy : cy = [.int k' y] := hy
        have hvx : cx = [vx] := hvx
        have hvy : cy = [vy] := hvy
        rw [hx] at hvx; rw [hy] at hvy
        simp at hvx hvy
        subst hvx; subst hvy
        simp [Op.equalIn, run_underlying hu, Ty.eqv]
        rfl
      · cases h
    | bool =>
      simp only [eqT] at h
      split at h
      · rename_i hu
        have hx : cx = [.bool x] := hx
        have hy : cy = [.bool y] := hy
        have hvx : cx = [vx] := hvx
        have hvy : cy = [vy] := hvy
        rw [hx] at hvx; rw [hy] at hvy
        simp at hvx hvy
        subst hvx; subst hvy
        simp [Op.equalIn, run_underlying hu, Ty.eqv]
      · cases h
    | str =>
      simp only [eqT] at h
      split at h
      · rename_i hu
        have hx : cx = [.string x] := hx
        have hy : cy = [.string y] := hy
        have hvx : cx = [vx] := hvx
        have hvy : cy = [vy] := hvy
        rw [hx] at hvx; rw [hy] at hvy
        simp at hvx hvy
        subst hvx; subst hvy
        have := bytes_beq x y
        simp [Op.equalIn, run_underlying hu, Ty.eqv, this]
      · cases h
    | pair b c =>
      simp only [eqT] at h
      split at h
      · rename_i fs hu
        simp only [Bool.and_eq_true, Bool.not_eq_true'] at h
        have hf : P.fieldsOf t = fs := by simp [Program.fieldsOf, hu]
        have hvx : vx = .agg cx.toArray := hvx
        have hvy : vy = .agg cy.toArray := hvy
        subst hvx; subst hvy
        rw [run_equalIn_struct (P := P) w d t _ _ (by rw [hf]; exact hu) h.1, hf]
        have := eqF_ok (P := P) (fun b t hb => eqT_ok n b t hb d (by omega)) fs.toList 0 (.pair b c) h.2 w G x y [] cx [] cy rfl rfl hx hy
        simpa using this
      · cases h
    | unit => simp [eqT] at h
    | list E e => simp [eqT] at h

theorem eqAt_of {t : TypeId} {a : Ty} (h : eqT P 64 a t = true) (ha : a.isAgg = true) : EqAt P t a := by
  intro _ w G x y cx cy hx hy
  have := eqT_ok 64 a t h Op.maxDepth (by decide) w G x y (.agg cx.toArray) (.agg cy.toArray) cx cy (by rw [ha]; rfl) hx (by rw [ha]; rfl) hy
  exact this

/-! ### The table -/
def sameV : Value → Value → Bool
  | .int k n, .int k' n' => decide (k = k') && decide (n = n')
  | .bool b, .bool b' => b == b'
  | .string s, .string s' => decide (s.toList = s'.toList)
  | .slice none 0 0, .slice none 0 0 => true
  | .pointer none, .pointer none => true
  | .nilFunc, .nilFunc => true
  | _, _ => false

def sameZ : List Value → List Value → Bool
  | [], [] => true
  | v :: vs, u :: us => sameV v u && sameZ vs us
  | _, _ => false

theorem sameV_ok {v u : Value} (h : sameV v u = true) : v = u := by
  unfold sameV at h
  split at h
  · simp only [Bool.and_eq_true, decide_eq_true_eq] at h
    rw [h.1, h.2]
  · rw [eq_of_beq h]
  · rename_i s s'
    have : s = s' := by
      have h1 := bytes_beq s s'
      rw [beq_toListBytes, of_decide_eq_true h] at h1
      simpa using h1.symm
    rw [this]
  · rfl
  · rfl
  · rfl
  · cases h

theorem sameZ_ok : ∀ {vs us : List Value}, sameZ vs us = true → vs = us
  | [], [], _ => rfl
  | v :: vs, u :: us, h => by
    simp only [sameZ, Bool.and_eq_true] at h
    rw [sameV_ok h.1, sameZ_ok h.2]
  | [], _ :: _, h => by simp [sameZ] at h
  | _ :: _, [], h => by simp [sameZ] at h

def zB (P : Program) (t : TypeId) (agg : Bool) (cs : List Value) : Bool :=
  match P.info? t with
  | some i => match i.zero with
    | some (.agg xs) => agg && sameZ xs.toList cs
    | some v => !agg && sameZ [v] cs
    | none => false
  | none => false

theorem zB_agg {t : TypeId} {cs : List Value} (h : zB P t true cs = true) : ZeroAt P t (.agg cs.toArray) := by
  unfold zB at h
  unfold ZeroAt
  split at h
  · rename_i i hi
    rw [hi]
    split at h
    · rename_i xs hz
      simp only [Bool.true_and] at h
      rw [Option.map_some, hz, ← sameZ_ok h, Array.toArray_toList]
    · cases h
    · cases h
  · cases h

theorem zB_one {t : TypeId} {v : Value} (h : zB P t false [v] = true) : ZeroAt P t v := by
  unfold zB at h
  unfold ZeroAt
  split at h
  · rename_i i hi
    rw [hi]
    split at h
    · cases h
    · rename_i u _ hz
      simp only [Bool.not_false, Bool.true_and] at h
      have := sameZ_ok h
      simp only [List.cons.injEq, and_true] at this
      rw [Option.map_some, hz, this]
    · cases h
  · cases h

def fieldsB (P : Program) (n : Nat) : List Field → List (Nat × Nat × Bool) → Bool
  | [], [] => true
  | f :: fs, (off, k, agg) :: xs => Nat.beq f.offset off && szB P f.type k && aggB P f.type agg && Nat.blt 0 k && Nat.ble (off + k) n && (agg || Nat.beq k 1) && fieldsB P n fs xs
  | _, _ => false

def tiB (P : Program) (t : TypeId) : TI → Bool
  | .int k => (match P.underlying t with | some (.int k') => decide (k' = k) | _ => false) && szB P t 1 && zB P t false [.int k 0]
  | .bool => (match P.underlying t with | some .bool => true | _ => false) && szB P t 1 && zB P t false [.bool false]
  | .str => (match P.underlying t with | some .string => true | _ => false) && szB P t 1 && zB P t false [.string ByteArray.empty]
  | .slice E e bytes => (match P.underlying t with | some (.slice E') => Nat.beq E' E | _ => false) && szB P t 1 && zB P t false [.slice none 0 0] && Nat.blt 0 e.cells && Nat.blt 0 bytes &&
      szB P E e.cells && (match P.info? E with | some i => Nat.beq i.bytes bytes && (match i.zero with | some z => sameZ z.cells.toList (zeroCells e) | none => false) | none => false)
  | .struct a flds => (match P.underlying t with | some (.struct fs) => fieldsB P a.cells fs.toList flds | _ => false) && szB P t a.cells && zB P t true (zeroCells a) && a.isAgg && (!a.flat || eqT P 64 a t) && !P.eqGuardType P.depth t
  | .ptr => (match P.underlying t with | some (.pointer _) => true | _ => false) && szB P t 1 && zB P t false [.pointer none]
  | .fn => (match P.underlying t with | some (.func _ _ _) => true | _ => false) && szB P t 1 && zB P t false [.nilFunc]
  | .none => true

theorem fieldsB_ok {n : Nat} : ∀ {fs : List Field} {xs : List (Nat × Nat × Bool)}, fieldsB P n fs xs = true →
    fs.mapM (fun f => (P.info? f.type).map fun i => (f.offset, i.size)) = some (xs.map fun x => (x.1, x.2.1)) ∧
    ∀ (i off k : Nat) (agg : Bool), xs[i]? = some (off, k, agg) → (agg = false → k = 1) ∧ ∃ f : Field, fs[i]? = some f ∧ f.offset = off ∧ 0 < k ∧ off + k ≤ n ∧ SizedAt P f.type k ∧
      (P.underlying f.type).map (fun d => match d with | .struct _ | .array _ _ => true | _ => false) = some agg
  | [], [], _ => ⟨rfl, fun i off k agg h => by simp at h⟩
  | [], _ :: _, h => by simp [fieldsB] at h
  | _ :: _, [], h => by simp [fieldsB] at h
  | f :: fs, (off, k, agg) :: xs, h => by
    simp only [fieldsB, Bool.and_eq_true, Bool.or_eq_true] at h
    obtain ⟨⟨⟨⟨⟨⟨h1, h2⟩, h3⟩, h4⟩, h5⟩, h6⟩, h7⟩ := h
    have h1 := Nat.eq_of_beq_eq_true h1
    have hsz := szB_ok h2
    obtain ⟨h8, h9⟩ := fieldsB_ok h7
    constructor
    · unfold SizedAt at hsz
      cases hi : P.info? f.type with
      | none => rw [hi] at hsz; cases hsz
      | some i =>
        rw [hi] at hsz
        simp only [Option.map_some, Option.some.injEq] at hsz
        simp [List.mapM_cons, hi, h8, hsz, h1]
    · intro i off' k' agg' hx
      cases i with
      | zero =>
        simp at hx
        obtain ⟨rfl, rfl, rfl⟩ := hx
        refine ⟨fun ha => ?_, f, rfl, h1, by simpa [Nat.blt_eq] using h4, Nat.le_of_ble_eq_true h5, hsz, aggB_ok h3⟩
        rcases h6 with h6 | h6
        · rw [ha] at h6; cases h6
        · exact Nat.eq_of_beq_eq_true h6
      | succ i =>
        obtain ⟨q1, f', q2, q3⟩ := h9 i off' k' agg' (by simpa using hx)
        exact ⟨q1, f', by simpa using q2, q3⟩

theorem tiB_ok {t : TypeId} {i : TI} (h : tiB P t i = true) : TIok P t i := by
  cases i with
  | none => trivial
  | int k =>
    simp only [tiB, Bool.and_eq_true] at h
    obtain ⟨⟨h1, h2⟩, h3⟩ := h
    split at h1
    · rename_i k' hu
      rw [of_decide_eq_true h1] at hu
      exact ⟨hu, szB_ok h2, zB_one h3⟩
    · cases h1
  | bool =>
    simp only [tiB, Bool.and_eq_true] at h
    obtain ⟨⟨h1, h2⟩, h3⟩ := h
    split at h1
    · rename_i hu; exact ⟨hu, szB_ok h2, zB_one h3⟩
    · cases h1
  | str =>
    simp only [tiB, Bool.and_eq_true] at h
    obtain ⟨⟨h1, h2⟩, h3⟩ := h
    split at h1
    · rename_i hu; exact ⟨hu, szB_ok h2, zB_one h3⟩
    · cases h1
  | ptr =>
    simp only [tiB, Bool.and_eq_true] at h
    obtain ⟨⟨h1, h2⟩, h3⟩ := h
    split at h1
    · rename_i e hu; exact ⟨⟨e, hu⟩, szB_ok h2, zB_one h3⟩
    · cases h1
  | fn =>
    simp only [tiB, Bool.and_eq_true] at h
    obtain ⟨⟨h1, h2⟩, h3⟩ := h
    split at h1
    · rename_i x y z hu; exact ⟨⟨x, y, z, hu⟩, szB_ok h2, zB_one h3⟩
    · cases h1
  | slice E e bytes =>
    simp only [tiB, Bool.and_eq_true] at h
    obtain ⟨⟨⟨⟨⟨⟨h1, h2⟩, h3⟩, h4⟩, h5⟩, h6⟩, h7⟩ := h
    split at h1
    · rename_i E' hu
      rw [Nat.eq_of_beq_eq_true h1] at hu
      split at h7
      · rename_i ti hti
        simp only [Bool.and_eq_true] at h7
        obtain ⟨h8, h9⟩ := h7
        split at h9
        · rename_i z hz
          have hsz := szB_ok h6
          unfold SizedAt at hsz
          rw [hti] at hsz
          simp only [Option.map_some, Option.some.injEq] at hsz
          exact ⟨hu, szB_ok h2, zB_one h3, by simpa [Nat.blt_eq] using h4, by simpa [Nat.blt_eq] using h5, ti, z, hti, hsz, Nat.eq_of_beq_eq_true h8, hz, sameZ_ok h9⟩
        · cases h9
      · cases h7
    · cases h1
  | struct a flds =>
    simp only [tiB, Bool.and_eq_true, Bool.or_eq_true, Bool.not_eq_true'] at h
    obtain ⟨⟨⟨⟨⟨h1, h2⟩, h3⟩, h4⟩, h5⟩, h6⟩ := h
    split at h1
    · rename_i fs hu
      obtain ⟨h7, h8⟩ := fieldsB_ok h1
      refine ⟨⟨fs, hu, h7, fun i off n agg hx => ?_⟩, szB_ok h2, zB_agg h3, ?_, h6⟩
      · obtain ⟨q1, f, q2, q3⟩ := h8 i off n agg hx
        exact ⟨q1, f, by simpa using q2, q3⟩
      · intro hf
        rcases h5 with h5 | h5
        · rw [hf] at h5; cases h5
        · exact eqAt_of h5 h4 hf
    · cases h1

/-- The whole table. -/
def tlB (P : Program) : List (TypeId × TI) → Bool
  | [] => true
  | x :: l => tiB P x.1 x.2 && tlB P l

theorem tlB_ok : ∀ {l : List (TypeId × TI)}, tlB P l = true → TOk P (tlook l) := by
  intro l h
  refine tlook_ok ?_
  induction l with
  | nil => simp
  | cons x l ih =>
    simp only [tlB, Bool.and_eq_true] at h
    intro y hy
    rcases List.mem_cons.1 hy with rfl | hy
    · exact tiB_ok h.1
    · exact ih h.2 y hy

end
end Go.Proofs.YthgnfidnmnkeaaaGreatEv
