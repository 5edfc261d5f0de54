/- The plain law of ratio: what one number wants, without Go and without memory. -/
namespace Go.Proofs.Ytjobicffdcnnlaa

def mayB (v t tol : Int) : Bool := decide (0 ≤ v) && decide (v ≤ 1099511627776) && decide (1 ≤ t) && decide (t ≤ 1099511627776) && decide (0 ≤ tol) && decide (tol ≤ 1000)
theorem mayB_true {v t tol : Int} (h : mayB v t tol = true) : 0 ≤ v ∧ v ≤ 1099511627776 ∧ 1 ≤ t ∧ t ≤ 1099511627776 ∧ 0 ≤ tol ∧ tol ≤ 1000 := by
  unfold mayB at h; simp only [Bool.and_eq_true, decide_eq_true_eq] at h; omega
theorem mayB_of {v t tol : Int} (h : 0 ≤ v ∧ v ≤ 1099511627776 ∧ 1 ≤ t ∧ t ≤ 1099511627776 ∧ 0 ≤ tol ∧ tol ≤ 1000) : mayB v t tol = true := by
  unfold mayB; simp only [Bool.and_eq_true, decide_eq_true_eq]; omega

def inB (v t tol : Int) : Bool := mayB v t tol && (decide (t * (1000 - tol) ≤ v * 1000) && decide (v * 1000 ≤ t * (1000 + tol)))
def wantV (n v t tol : Int) : Int := if n < 0 ∨ 10000 < n ∨ mayB v t tol = false then 0 else if inB v t tol = true then n else min ((n * v + t - 1) / t) 1000000
theorem wantV_range (n v t tol : Int) : 0 ≤ wantV n v t tol ∧ wantV n v t tol ≤ 1000000 := by
  unfold wantV
  split
  · omega
  · rename_i h
    split
    · omega
    · have hm : mayB v t tol = true := by cases hh : mayB v t tol <;> simp_all
      obtain ⟨a1, a2, a3, a4, a5, a6⟩ := mayB_true hm
      have e1 : 0 ≤ n * v := Int.mul_nonneg (by omega) (by omega)
      have e3 : 0 ≤ (n * v + t - 1) / t := Int.ediv_nonneg (by omega) (by omega)
      omega
def mostL (n tol : Int) : List (Int × Int) → Int → Option Int
  | [], acc => some acc
  | (v, t) :: r, acc => if mayB v t tol = true then mostL n tol r (max acc (wantV n v t tol)) else none
def mostV (n tol : Int) (vs ts : List Int) : Option Int := if vs.length ≠ ts.length ∨ vs.length = 0 ∨ n < 0 ∨ 10000 < n then none else mostL n tol (vs.zip ts) 0

theorem ceil_ge {a t k : Int} (ht : 0 < t) (h : k * t ≤ a) : k ≤ (a + t - 1) / t := Int.le_ediv_of_mul_le ht (by omega)
theorem ceil_le {a t k : Int} (ht : 0 < t) (h : a ≤ k * t) : (a + t - 1) / t ≤ k := by
  have : (a + t - 1) / t < k + 1 := Int.ediv_lt_of_lt_mul ht (by rw [Int.add_mul]; omega)
  omega
theorem ceil_mono {a b t : Int} (ht : 0 < t) (h : a ≤ b) : (a + t - 1) / t ≤ (b + t - 1) / t := Int.ediv_le_ediv ht (by omega)
theorem ceil_mul {a t : Int} (ht : 0 < t) : a ≤ (a + t - 1) / t * t ∧ ((a + t - 1) / t - 1) * t < a := by
  have h1 := Int.emod_add_mul_ediv (a + t - 1) t
  have h2 := Int.emod_nonneg (a + t - 1) (show t ≠ 0 by omega)
  have h3 := Int.emod_lt_of_pos (a + t - 1) ht
  rw [Int.mul_comm] at h1
  rw [Int.sub_mul]
  omega

/-- What a wanted count is, where all may be. -/
theorem wantV_eq {n v t tol : Int} (h0 : 0 ≤ n) (h1 : n ≤ 10000) (hm : mayB v t tol = true) : wantV n v t tol = if inB v t tol = true then n else min ((n * v + t - 1) / t) 1000000 := by
  unfold wantV
  rw [if_neg (by rw [hm]; simp; omega)]
theorem inB_eq {v t tol : Int} (hm : mayB v t tol = true) : inB v t tol = true ↔ t * (1000 - tol) ≤ v * 1000 ∧ v * 1000 ≤ t * (1000 + tol) := by
  unfold inB; rw [hm]; simp

theorem want_mono {x y p q t l : Int} (x0 : 0 ≤ x) (xy : x ≤ y) (y1 : y ≤ 10000) (p0 : 0 ≤ p) (pq : p ≤ q) (q1 : q ≤ 1099511627776) (t0 : 1 ≤ t) (t1 : t ≤ 1099511627776) (l0 : 0 ≤ l) (l1 : l ≤ 1000) :
    wantV x p t l ≤ wantV y q t l := by
  have hp : mayB p t l = true := mayB_of (by omega)
  have hq : mayB q t l = true := mayB_of (by omega)
  rw [wantV_eq x0 (by omega) hp, wantV_eq (by omega) y1 hq]
  have ip := inB_eq hp
  have iq := inB_eq hq
  have e1 : t * (1000 - l) = t * 1000 - t * l := Int.mul_sub _ _ _
  have e2 : t * (1000 + l) = t * 1000 + t * l := Int.mul_add _ _ _
  have e3 : 0 ≤ t * l := Int.mul_nonneg (by omega) l0
  rw [e1, e2] at ip iq
  by_cases a : inB p t l = true <;> by_cases b : inB q t l = true
  · rw [if_pos a, if_pos b]; exact xy
  · rw [if_pos a, if_neg b]
    have hqt : t ≤ q := by have := ip.1 a; have := mt iq.2 b; omega
    have := ceil_ge (a := y * q) (k := y) (show 0 < t by omega) (Int.mul_le_mul_of_nonneg_left hqt (by omega))
    omega
  · rw [if_neg a, if_pos b]
    have hpt : p ≤ t := by have := iq.1 b; have := mt ip.2 a; omega
    have := ceil_le (a := x * p) (k := x) (show 0 < t by omega) (Int.mul_le_mul_of_nonneg_left hpt (by omega))
    omega
  · rw [if_neg a, if_neg b]
    have := ceil_mono (a := x * p) (b := y * q) (show 0 < t by omega) (Int.mul_le_mul xy pq p0 (by omega))
    omega

/-- 13.1: within, above, below. -/
theorem want_band {n x g l : Int} (n0 : 0 ≤ n) (n1 : n ≤ 10000) (x0 : 0 ≤ x) (x1 : x ≤ 1099511627776) (g0 : 1 ≤ g) (g1 : g ≤ 1099511627776) (l0 : 0 ≤ l) (l1 : l ≤ 1000) :
    (inB x g l = true → wantV n x g l = n ∧ inB g g l = true) ∧
    (inB x g l = false → g < x → n ≤ wantV n x g l ∧ g * (1000 + l) < x * 1000) ∧
    (inB x g l = false → x ≤ g → wantV n x g l ≤ n ∧ x * 1000 < g * (1000 - l) ∧ (0 < wantV n x g l ↔ 0 < n ∧ 0 < x)) := by
  have hp : mayB x g l = true := mayB_of (by omega)
  have hg : mayB g g l = true := mayB_of (by omega)
  have ip := inB_eq hp
  have ig := inB_eq hg
  have e1 : g * (1000 - l) = g * 1000 - g * l := Int.mul_sub _ _ _
  have e2 : g * (1000 + l) = g * 1000 + g * l := Int.mul_add _ _ _
  have e3 : 0 ≤ g * l := Int.mul_nonneg (by omega) l0
  rw [e1, e2] at ip ig
  rw [e1, e2, wantV_eq n0 n1 hp]
  refine ⟨fun a => ?_, fun a b => ?_, fun a b => ?_⟩
  · rw [if_pos a]; exact ⟨rfl, ig.2 (by omega)⟩
  · rw [if_neg (by simp [a])]
    have a' : ¬ inB x g l = true := by simp [a]
    have := mt ip.2 a'
    have := ceil_ge (a := n * x) (k := n) (show 0 < g by omega) (Int.mul_le_mul_of_nonneg_left (show g ≤ x by omega) n0)
    omega
  · rw [if_neg (by simp [a])]
    have a' : ¬ inB x g l = true := by simp [a]
    have := mt ip.2 a'
    have h1 := ceil_le (a := n * x) (k := n) (show 0 < g by omega) (Int.mul_le_mul_of_nonneg_left (show x ≤ g by omega) n0)
    refine ⟨by omega, by omega, ?_⟩
    constructor
    · intro h
      refine ⟨by omega, ?_⟩
      rcases Int.lt_or_eq_of_le x0 with h2 | h2
      · exact h2
      · subst h2
        have := ceil_le (a := n * 0) (k := 0) (show 0 < g by omega) (by omega)
        omega
    · intro ⟨h2, h3⟩
      have h4 : 0 < n * x := Int.mul_pos h2 h3
      have h5 := (ceil_mul (a := n * x) (show 0 < g by omega)).1
      have h6 : ¬ (n * x + g - 1) / g ≤ 0 := fun h7 => by
        have := Int.mul_le_mul_of_nonneg_right h7 (show 0 ≤ g by omega)
        omega
      omega

/-- 13.1: the least count of which the load for each is not above the target. -/
theorem want_ceil {n x g : Int} (n0 : 0 ≤ n) (n1 : n ≤ 1000) (x0 : 0 ≤ x) (x1 : x ≤ 100000) (g0 : 1 ≤ g) (g1 : g ≤ 100000) :
    (inB x g 50 = true → wantV n x g 50 = n) ∧
    (inB x g 50 = false → wantV n x g 50 = 1000000 → 999999 * g < n * x) ∧
    (inB x g 50 = false → wantV n x g 50 ≠ 1000000 → n * x ≤ wantV n x g 50 * g ∧ (wantV n x g 50 - 1) * g < n * x) := by
  have hp : mayB x g 50 = true := mayB_of (by omega)
  rw [wantV_eq n0 (by omega) hp]
  have hc := ceil_mul (a := n * x) (show 0 < g by omega)
  refine ⟨fun a => by rw [if_pos a], fun a h => ?_, fun a h => ?_⟩
  · rw [if_neg (by simp [a])] at h
    have h6 : 999999 ≤ (n * x + g - 1) / g - 1 := by omega
    have := Int.mul_le_mul_of_nonneg_right h6 (show 0 ≤ g by omega)
    omega
  · rw [if_neg (by simp [a])] at h ⊢
    rw [show min ((n * x + g - 1) / g) 1000000 = (n * x + g - 1) / g by omega]
    exact hc
end Go.Proofs.Ytjobicffdcnnlaa
