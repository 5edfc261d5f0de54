import Derived.Test.YtjobicffdcnnlaaC11
/- The plain law of made configurations: what they are between, and that they may be. -/
namespace Go.Proofs.Ytjobicffdcnnlaa
open Go Go.RowKit
set_option linter.unusedSimpArgs false
set_option linter.unusedVariables false

structure Fits (c : CF) : Prop where
  f0 : 0 ≤ c.f
  f1 : c.f ≤ 2
  n0 : 3 * c.f + 1 ≤ c.n
  n1 : c.n ≤ 3 * c.f + 4
  m0 : 1 ≤ c.m
  m1 : c.m ≤ 2
  q0 : 2 * c.f + 1 ≤ c.q
  q1 : c.q ≤ c.n
  fresh0 : 1 ≤ c.fresh
  fresh1 : c.fresh ≤ 3
  grace0 : 1 ≤ c.grace
  grace1 : c.grace ≤ 3
  window0 : 1 ≤ c.window
  window1 : c.window ≤ 64
  t00 : 1 ≤ c.t0
  t01 : c.t0 ≤ 2000
  t1m : (c.m = 1 ∧ c.t1 = 0) ∨ (c.m = 2 ∧ 1 ≤ c.t1 ∧ c.t1 ≤ 2000)
  t2z : c.t2 = 0
  t3z : c.t3 = 0
  tol0 : 0 ≤ c.tol
  tol1 : c.tol ≤ 299
  lo0 : 1 ≤ c.lo
  lo1 : c.lo ≤ 5
  hi0 : c.lo ≤ c.hi
  hi1 : c.hi ≤ 100
  cup0 : 0 ≤ c.cup
  cup1 : c.cup ≤ 3
  cdn0 : 0 ≤ c.cdn
  cdn1 : c.cdn ≤ 4
  pup0 : 1 ≤ c.pup
  pup1 : c.pup ≤ 5
  tup0 : 1 ≤ c.tup
  tup1 : c.tup ≤ 150
  pdn0 : 1 ≤ c.pdn
  pdn1 : c.pdn ≤ 5
  tdn0 : 1 ≤ c.tdn
  tdn1 : c.tdn ≤ 100
  per0 : 1 ≤ c.per
  per1 : c.per ≤ 4
  far0 : 0 ≤ c.far
  far1 : c.far ≤ 499
  str0 : 1 ≤ c.str
  str1 : c.str ≤ 3
  pro0 : 1 ≤ c.pro
  pro1 : c.pro ≤ 4
  sec0 : 64 ≤ c.sec
  sec1 : c.sec ≤ 363
  seed0 : 0 ≤ c.seed
  seed1 : c.seed ≤ 99999

theorem fits_dflt : Fits dflt := by constructor <;> decide

theorem good_of {p : Part} (h1 : p.lo ≤ p.is) (h2 : p.is ≤ p.hi) : badP p = false := by
  unfold badP; simp; omega
theorem bad_lo {p : Part} (h1 : p.is < p.lo) : badP p = true := by
  unfold badP; simp; omega
theorem bad_hi {p : Part} (h1 : p.hi < p.is) : badP p = true := by
  unfold badP; simp; omega

theorem Fits.fhi {c : CF} (h : Fits c) : c.f ≤ fHi c.n := by
  have := h.f0; have := h.f1; have := h.n0; have := h.n1
  unfold fHi
  rw [wrap64_id (x := c.n - 1) (by omega) (by omega), Int.tdiv_eq_ediv_of_nonneg (by omega), wrap64_id (by omega) (by omega)]
  omega
theorem Fits.clamp {c : CF} (h : Fits c) : clampF c.f = c.f := by
  have := h.f0; have := h.f1
  unfold clampF; omega
theorem Fits.targets {c : CF} (h : Fits c) : targetsB c = true := by
  have := h.m0; have := h.t00; have := h.t01; have := h.t2z; have := h.t3z
  unfold targetsB
  rw [okT_in (x := c.t0) (by omega), okT_out (x := c.t2) (by have := h.m1; omega), okT_out (x := c.t3) (by have := h.m1; omega)]
  rcases h.t1m with ⟨e, z⟩ | ⟨e, z0, z1⟩
  · rw [okT_out (x := c.t1) (by omega)]
    simp [*]
    omega
  · rw [okT_in (x := c.t1) (by omega)]
    simp [*]
    omega
theorem Fits.targetsV {c : CF} (h : Fits c) : targetsV c = 1 := by
  unfold Ytjobicffdcnnlaa.targetsV
  rw [h.targets]
  rfl
theorem Fits.good {c : CF} (h : Fits c) : ∀ p ∈ partsL c, badP p = false := by
  intro p hp
  have hf := h.fhi
  have hq := h.clamp
  have ht := h.targetsV
  obtain ⟨⟩ := h
  simp only [partsL, List.mem_cons, List.not_mem_nil, or_false] at hp
  rcases hp with e | e | e | e | e | e | e | e | e | e | e | e | e | e | e | e | e | e | e | e | e | e <;> subst e <;> refine good_of ?_ ?_ <;> simp only [] <;> omega
theorem Fits.may {c : CF} (h : Fits c) : mayC c = true := by
  unfold mayC
  rw [List.all_eq_true]
  intro p hp
  rw [h.good p hp]; rfl
theorem Fits.rates {c : CF} (h : Fits c) : mayRatesR c = true := by
  obtain ⟨⟩ := h
  unfold mayRatesR inR
  simp
  omega
theorem wskip (q : Part) (r : List Part) (h : badP q = false) : wrongL (q :: r) = wrongL r := by rw [wrong_cons, h]; rfl
theorem wstop (q : Part) (r : List Part) (h : badP q = true) : wrongL (q :: r) = q.name := by rw [wrong_cons, h]; rfl
theorem wrongL_at : ∀ (l : List Part) (k : Nat) (p : Part), (∀ j q, j < k → l[j]? = some q → badP q = false) → l[k]? = some p → badP p = true → wrongL l = p.name
  | [], k, p, _, h, _ => by simp at h
  | x :: r, 0, p, _, h, hb => by
    have hx : x = p := by simpa using h
    subst hx
    exact wstop _ _ hb
  | x :: r, k + 1, p, hg, h, hb => by
    rw [wskip _ _ (hg 0 x (by omega) rfl)]
    exact wrongL_at r k p (fun j q hj hq => hg (j + 1) q (by omega) (by simpa using hq)) (by simpa using h) hb
/-- A part is wrong where those ahead of it are the made one's. -/
theorem Fits.wrong {c c' : CF} (h : Fits c) (k : Nat) (p : Part) (hs : (partsL c').take k = (partsL c).take k) (hp : (partsL c')[k]? = some p) (hb : badP p = true) : wrongV c' = p.name := by
  refine wrongL_at _ k p (fun j q hj hq => ?_) hp hb
  have : ((partsL c').take k)[j]? = some q := by rw [List.getElem?_take_of_lt hj]; exact hq
  rw [hs, List.getElem?_take_of_lt hj] at this
  exact h.good q (List.mem_of_getElem? this)
theorem not_may_of_wrong {c : CF} {r : ByteArray} (h : wrongV c = r) (hr : r.data.toList ≠ []) : mayC c = false := by
  cases hm : mayC c with
  | false => rfl
  | true =>
    have := (wrongL_may (partsL c) (names_ne c)).1 hm
    change wrongV c = _ at this
    rw [h] at this
    subst this
    simp at hr
end Go.Proofs.Ytjobicffdcnnlaa
