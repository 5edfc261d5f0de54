import Derived.Test.YtjobicffdcnnlaaP3
/- The plain law of policy: bounds, limits, the counts that are kept. -/
namespace Go.Proofs.Ytjobicffdcnnlaa
open Go Go.RowKit
set_option linter.unusedSimpArgs false
set_option linter.unusedVariables false

/-- The greatest count behind a base, and the least. -/
def upP (c : CF) (b : Int) : Int := max (b + c.pup) ((b * (100 + c.tup) + 99) / 100)
def dnP (c : CF) (b : Int) : Int := max (min (b - c.pdn) (b * (100 - c.tdn) / 100)) 0
def mayBs (c : CF) (b : Int) : Bool := mayRatesR c && (decide (0 ≤ b) && decide (b ≤ 10000))
def loB (c : CF) (b : Int) : Int := if mayBs c b = true then dnP c b else 0
def hiB (c : CF) (b : Int) : Int := if mayBs c b = true then upP c b else 0
def newB (c : CF) (n : Int) : Bool := mayRatesR c && (decide (c.lo ≤ n) && decide (n ≤ c.hi))
def limP (c : CF) (b w : Int) : Int := min (max (min (max w (loB c b)) (hiB c b)) c.lo) c.hi
def headP (l : List Int) : Int := l.headD 0
def putP (c : CF) (l : List Int) (n : Int) : List Int := (l ++ [n]).drop ((l.length + 1) - c.per.toNat)

/-- The rates of a configuration whose rates may be. -/
structure Rts (c : CF) : Prop where
  lo0 : 1 ≤ c.lo
  lo1 : c.lo ≤ 10000
  hi0 : c.lo ≤ c.hi
  hi1 : c.hi ≤ 10000
  pup0 : 1 ≤ c.pup
  pup1 : c.pup ≤ 1000
  tup0 : 1 ≤ c.tup
  tup1 : c.tup ≤ 1000
  pdn0 : 1 ≤ c.pdn
  pdn1 : c.pdn ≤ 1000
  tdn0 : 1 ≤ c.tdn
  tdn1 : c.tdn ≤ 100
  per0 : 1 ≤ c.per
  per1 : c.per ≤ 60
theorem rts_of {c : CF} (h : mayRatesR c = true) : Rts c := by
  unfold mayRatesR inR at h
  simp at h
  constructor <;> omega
theorem Fits.rts {c : CF} (h : Fits c) : Rts c := rts_of h.rates
theorem mayBs_of {c : CF} (h : mayRatesR c = true) {b : Int} (h0 : 0 ≤ b) (h1 : b ≤ 10000) : mayBs c b = true := by
  unfold mayBs; simp [h, h0, h1]

theorem mul_lin {b x y : Int} (h0 : 0 ≤ b) (h : x ≤ y) : b * x ≤ b * y := Int.mul_le_mul_of_nonneg_left h h0
theorem dnP_le {c : CF} (r : Rts c) {b : Int} (h0 : 0 ≤ b) : dnP c b ≤ b := by
  have := r.pdn0
  unfold dnP; omega
theorem dnP_nonneg (c : CF) (b : Int) : 0 ≤ dnP c b := by unfold dnP; omega
theorem le_upP {c : CF} (r : Rts c) {b : Int} (h0 : 0 ≤ b) : b ≤ upP c b := by
  have := r.pup0
  unfold upP; omega
theorem dnP_mono {c : CF} (r : Rts c) {x y : Int} (h0 : 0 ≤ x) (h : x ≤ y) : dnP c x ≤ dnP c y := by
  have h1 : x * (100 - c.tdn) ≤ y * (100 - c.tdn) := Int.mul_le_mul_of_nonneg_right h (by have := r.tdn1; omega)
  unfold dnP; omega
theorem upP_mono {c : CF} (r : Rts c) {x y : Int} (h0 : 0 ≤ x) (h : x ≤ y) : upP c x ≤ upP c y := by
  have h1 : x * (100 + c.tup) ≤ y * (100 + c.tup) := Int.mul_le_mul_of_nonneg_right h (by have := r.tup0; omega)
  unfold upP; omega
theorem bounds_mono {c : CF} (hr : mayRatesR c = true) {x y : Int} (h0 : 0 ≤ x) (h : x ≤ y) (h1 : y ≤ 10000) :
    loB c x ≤ loB c y ∧ hiB c x ≤ hiB c y ∧ loB c x ≤ x ∧ x ≤ hiB c x := by
  have r := rts_of hr
  unfold loB hiB
  rw [if_pos (mayBs_of hr h0 (by omega)), if_pos (mayBs_of hr (by omega) h1), if_pos (mayBs_of hr h0 (by omega)), if_pos (mayBs_of hr (by omega) h1)]
  exact ⟨dnP_mono r h0 h, upP_mono r h0 h, dnP_le r h0, le_upP r h0⟩
theorem limP_in {c : CF} (r : Rts c) (b w : Int) : c.lo ≤ limP c b w ∧ limP c b w ≤ c.hi := by
  have := r.hi0
  unfold limP; omega
theorem limP_mono {c : CF} (hr : mayRatesR c = true) {x y w v : Int} (h0 : 0 ≤ x) (h : x ≤ y) (h1 : y ≤ 10000) (hw : w ≤ v) : limP c x w ≤ limP c y v := by
  obtain ⟨a, b, _, _⟩ := bounds_mono hr h0 h h1
  unfold limP; omega
theorem limP_same {c : CF} (hr : mayRatesR c = true) {b w : Int} (h0 : c.lo ≤ b) (h1 : b ≤ c.hi) : limP c b (limP c b w) = limP c b w := by
  have r := rts_of hr
  have := r.hi0; have := r.lo0; have := r.hi1
  obtain ⟨_, _, x, y⟩ := bounds_mono hr (x := b) (y := b) (by omega) (Int.le_refl _) (by omega)
  unfold limP; omega
theorem limP_within {c : CF} (hr : mayRatesR c = true) {b w : Int} (h0 : c.lo ≤ b) (h1 : b ≤ c.hi) :
    min (loB c b) b ≤ limP c b w ∧ limP c b w ≤ max (hiB c b) b ∧ (loB c b ≤ w → w ≤ hiB c b → c.lo ≤ w → w ≤ c.hi → limP c b w = w) := by
  have r := rts_of hr
  have := r.hi0; have := r.lo0; have := r.hi1
  obtain ⟨_, _, x, y⟩ := bounds_mono hr (x := b) (y := b) (by omega) (Int.le_refl _) (by omega)
  unfold limP; omega

/-- What is kept: from one to the period's count, all of them counts that may be. -/
structure Kept (c : CF) (l : List Int) : Prop where
  pos : 1 ≤ l.length
  len : l.length ≤ c.per.toNat
  all : ∀ x ∈ l, c.lo ≤ x ∧ x ≤ c.hi
theorem Kept.one {c : CF} (r : Rts c) {n : Int} (h : c.lo ≤ n ∧ n ≤ c.hi) : Kept c [n] := ⟨by simp, by have := r.per0; simp; omega, fun x hx => by simp at hx; exact hx ▸ h⟩
theorem Kept.put {c : CF} (r : Rts c) {l : List Int} (k : Kept c l) {n : Int} (h : c.lo ≤ n ∧ n ≤ c.hi) : Kept c (putP c l n) := by
  have := r.per0; have := k.pos
  refine ⟨by simp [putP]; omega, by simp [putP]; omega, fun x hx => ?_⟩
  have := List.mem_of_mem_drop hx
  rcases List.mem_append.1 this with m | m
  · exact k.all x m
  · simp at m; exact m ▸ h
theorem Kept.head {c : CF} {l : List Int} (k : Kept c l) : c.lo ≤ headP l ∧ headP l ≤ c.hi := by
  match l, k with
  | x :: r, k => exact k.all x (by simp)
  | [], k => have := k.pos; simp at this
theorem headP_getD (l : List Int) : headP l = l.getD 0 0 := by cases l <;> rfl
theorem putP_length (c : CF) (r : Rts c) (l : List Int) (n : Int) : (putP c l n).length = min (l.length + 1) c.per.toNat := by
  have := r.per0
  simp [putP]; omega
end Go.Proofs.Ytjobicffdcnnlaa
