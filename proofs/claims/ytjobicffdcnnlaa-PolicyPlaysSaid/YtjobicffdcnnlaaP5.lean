import Derived.Test.YtjobicffdcnnlaaP4
/- The plain law of policy: lists of counts. -/
namespace Go.Proofs.Ytjobicffdcnnlaa
open Go Go.RowKit
set_option linter.unusedSimpArgs false
set_option linter.unusedVariables false

/-- One by one no greater. -/
def LeL (s t : List Int) : Prop := s.length = t.length ∧ ∀ i, s.getD i 0 ≤ t.getD i 0
theorem LeL.head {s t : List Int} (h : LeL s t) : headP s ≤ headP t := by rw [headP_getD, headP_getD]; exact h.2 0
theorem LeL.one {x y : Int} (h : x ≤ y) : LeL [x] [y] := ⟨rfl, fun i => by cases i <;> simp [h]⟩
theorem getD_snoc (s : List Int) (n : Int) (i : Nat) : (s ++ [n]).getD i 0 = if i < s.length then s.getD i 0 else if i = s.length then n else 0 := by
  simp only [List.getD_eq_getElem?_getD]
  by_cases h : i < s.length
  · simp [h, List.getElem?_append_left h]
  · rw [List.getElem?_append_right (by omega)]
    by_cases h2 : i = s.length
    · subst h2; simp
    · have : ([n] : List Int)[i - s.length]? = none := by simp; omega
      simp [h, h2, this]
theorem LeL.put {c : CF} {s t : List Int} (h : LeL s t) {m n : Int} (hm : m ≤ n) : LeL (putP c s m) (putP c t n) := by
  obtain ⟨hl, hi⟩ := h
  refine ⟨by simp [putP, hl], fun i => ?_⟩
  unfold putP
  rw [hl]
  have e : ∀ (l : List Int) (k : Nat), (l.drop k).getD i 0 = l.getD (k + i) 0 := fun l k => by simp [List.getD_eq_getElem?_getD]
  rw [e, e, getD_snoc, getD_snoc, hl]
  split
  · exact hi _
  · split
    · exact hm
    · exact Int.le_refl _

/-- The last that are kept of all. -/
def lastP (c : CF) (a : List Int) : List Int := a.drop (a.length - c.per.toNat)
theorem lastP_one {c : CF} (r : Rts c) (n : Int) : lastP c [n] = [n] := by
  have := r.per0
  unfold lastP
  rw [show [n].length - c.per.toNat = 0 by simp; omega]
  rfl
theorem lastP_put {c : CF} (r : Rts c) (a : List Int) (n : Int) : putP c (lastP c a) n = lastP c (a ++ [n]) := by
  have := r.per0
  unfold putP lastP
  rw [show a.drop (a.length - c.per.toNat) ++ [n] = (a ++ [n]).drop (a.length - c.per.toNat) by rw [List.drop_append_of_le_length (by omega)], List.drop_drop]
  congr 1
  simp
  omega
theorem lastP_head (c : CF) (a : List Int) : headP (lastP c a) = a.getD (a.length - c.per.toNat) 0 := by
  rw [headP_getD]
  unfold lastP
  simp [List.getD_eq_getElem?_getD]
theorem lastP_length (c : CF) (a : List Int) : (lastP c a).length = min a.length c.per.toNat := by
  unfold lastP; simp; omega
/-- What may be set. -/
def setB (c : CF) (l : List Int) : Bool := decide (1 ≤ l.length) && (decide ((l.length : Int) ≤ c.per) && l.all fun x => decide (c.lo ≤ x) && decide (x ≤ c.hi))
theorem Kept.setB {c : CF} {l : List Int} (k : Kept c l) : setB c l = true := by
  have h1 := k.pos; have h2 := k.len; have h3 := k.all
  unfold Ytjobicffdcnnlaa.setB
  simp only [Bool.and_eq_true, decide_eq_true_eq, List.all_eq_true]
  exact ⟨h1, by omega, h3⟩
theorem Kept.of_set {c : CF} {l : List Int} (h : Ytjobicffdcnnlaa.setB c l = true) : Kept c l := by
  unfold Ytjobicffdcnnlaa.setB at h
  simp only [Bool.and_eq_true, decide_eq_true_eq, List.all_eq_true] at h
  exact ⟨h.1, by omega, h.2.2⟩
def putB (c : CF) (n : Int) : Bool := decide (c.lo ≤ n) && decide (n ≤ c.hi)
end Go.Proofs.Ytjobicffdcnnlaa
