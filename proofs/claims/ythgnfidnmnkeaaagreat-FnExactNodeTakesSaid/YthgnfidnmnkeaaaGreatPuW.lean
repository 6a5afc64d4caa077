/- Words: what is one, its size, its copy. -/
import Derived.Test.YthgnfidnmnkeaaaGreatPu7
namespace Go.Proofs.YthgnfidnmnkeaaaGreatEv
open Go

abbrev Word := Int × Int × Int × Int × Int × Int × Coord × List Fact
abbrev Word.table (w : Word) : List Fact := w.2.2.2.2.2.2.2
abbrev Word.coord (w : Word) : Coord := w.2.2.2.2.2.2.1

def HeadP : List Fact → Prop
  | [] => False
  | f :: l => SiteP (f :: l) (siteI f.1)

def WordP (w : Word) : Prop := InP w.1 1 2 ∧ InP w.2.1 1 6 ∧ InP w.2.2.1 0 7 ∧ InP w.2.2.2.1 0 7 ∧ InP w.2.2.2.2.1 0 999999 ∧ InP w.2.2.2.2.2.1 0 7 ∧ CoordP (Word.coord w) ∧ TableP (Word.table w) ∧
  (if w.2.1 = 6 then HeadP (Word.table w) else SiteP (Word.table w) (siteI w.2.2.1))

theorem wordOk_s (K : Nat) (w : Word) (hw : (Word.table w).length ≤ 1048576) (hK : 1048577 < K) : Ret (spec_WordOk.f K (w, ())) (WordP w) := by
  refine Ret.nx (in_s K _ _ _) fun _ => Ret.nx (in_s K _ _ _) fun _ => Ret.nx (in_s K _ _ _) fun _ => Ret.nx (in_s K _ _ _) fun _ => Ret.nx (in_s K _ _ _) fun _ => Ret.nx (in_s K _ _ _) fun _ => Ret.nx (coord_s K _) fun _ => Ret.nx (tableOk_s K _ hw hK) fun _ => ?_
  dsimp only
  by_cases h : w.2.1 = 6
  · rw [show (w.2.1 == 6) = true by simpa using h, if_pos h]
    obtain ⟨w1, w2, w3, w4, w5, w6, w7, t⟩ := w
    cases t with
    | nil => exact Ret.no (fun h => h)
    | cons f l =>
      rw [show decide ((List.length (f :: l) : Int) > 0) = true from decide_eq_true (by simp only [List.length_cons]; omega)]
      simp only [cond_true]
      exact Ret.vl (idx_get (xs := f :: l) (i := 0) (by simp)) (l4Site_s K _ _ hw hK).id
  · rw [show (w.2.1 == 6) = false by simpa using h, if_neg h]
    exact (l4Site_s K _ _ hw hK).id

theorem wordOk_i (K : Nat) (w : Word) (hw : (Word.table w).length ≤ 1048576) (hK : 1048577 < K) : Ret (impl_WordOk.f K (w, ())) (WordP w) := by
  refine Ret.iff (Q := WordP w) (Ret.nx (in_i K _ _ _) fun _ => Ret.nx (in_i K _ _ _) fun _ => Ret.nx (isNode_i K _) fun _ => Ret.nx (isNode_i K _) fun _ => Ret.nx (isNode_i K _) fun _ => Ret.nx (in_i K _ _ _) fun _ => Ret.nx (coord_i K _) fun _ => Ret.nx (tableOk_i K _ hw hK)
    (Q := if w.2.1 = 6 then HeadP (Word.table w) else SiteP (Word.table w) (siteI w.2.2.1)) fun _ => ?_) ?_
  · dsimp only
    by_cases h : w.2.1 = 6
    · rw [show (w.2.1 == 6) = true by simpa using h, if_pos h]
      obtain ⟨w1, w2, w3, w4, w5, w6, w7, t⟩ := w
      cases t with
      | nil => exact Ret.no (fun h => h)
      | cons f l =>
        rw [show decide ((List.length (f :: l) : Int) > 0) = true from decide_eq_true (by simp only [List.length_cons]; omega)]
        simp only [cond_true]
        exact Ret.vl (idx_get (xs := f :: l) (i := 0) (by simp)) (Ret.vl (site_i K _) (ofSite_i K _ _ hw hK).id)
    · rw [show (w.2.1 == 6) = false by simpa using h, if_neg h]
      simp only [cond_false]
      exact Ret.vl (site_i K _) (ofSite_i K _ _ hw hK).id
  · unfold WordP
    constructor
    · rintro ⟨h1, h2, h3, h4, h5, h6, h7, h8, h9⟩; exact ⟨h1, h2, h3, h4, h6, h5, h7, h8, h9⟩
    · rintro ⟨h1, h2, h3, h4, h6, h5, h7, h8, h9⟩; exact ⟨h1, h2, h3, h4, h5, h6, h7, h8, h9⟩

theorem szWord_ok (K : Nat) (w : Word) (hw : (Word.table w).length ≤ 9223372036854775807) (left : Int) (h0 : 0 ≤ left) (h1 : left ≤ 1048576) : Szd (laws_szWord.f K (w, left, ())) left ((Word.table w).length ≤ 1048576) :=
  Szd.iff (Szd.bind (szFactS_ok K (Word.table w) left h0 h1 hw) (G := fun y5 => some ((y5.1.1, ()), ())) fun r5 a5 _ _ => Szd.ret r5 a5) fun h => h.1

theorem toWord_ok (K : Nat) (w : Word) (hw : (Word.table w).length ≤ 1048576) (hK : 1048577 < K) : laws_toWord.f K (w, ()) = some ((w, ()), ()) := by
  simp only [laws_toWord.f, laws_toWord.pre]
  rw [toFactS_ok K _ hw hK]
  rfl

theorem eqWord_refl (K : Nat) (w : Word) (hw : (Word.table w).length ≤ 1048576) (hK : 1048577 < K) : laws_eqWord.f K (w, w, ()) = rb true := by
  simp only [laws_eqWord.f, laws_eqWord.pre, bne_self_eq_false, cond_false]
  rw [eqCoord_refl K, eqFactS_refl K _ hw hK]
  rfl

end Go.Proofs.YthgnfidnmnkeaaaGreatEv
