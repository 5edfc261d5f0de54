import Derived.Test.YtjobicffdcnnlaaC11
/- The plain law of made configurations: what they are between, and that they may be. -/
namespace Go.Proofs.Ytjobicffdcnnlaa
open Go Go.RowKit
set_option linter.unusedSimpArgs false
set_option linter.unusedVariables false

structure Fits (c : CF) : Prop where
  f0 : 0 ≤ c.f
  f1 : c.f ≤ 2
  n0 : 3 * c.f + 1 ≤ c.n
  n1 : c.n ≤ 3 * c.f + 4
  m0 : 1 ≤ c.m
  m1 : c.m ≤ 2
  q0 : 2 * c.f + 1 ≤ c.q
  q1 : c.q ≤ c.n
  fresh0 : 1 ≤ c.fresh
  fresh1 : c.fresh ≤ 3
  grace0 : 1 ≤ c.grace
  grace1 : c.grace ≤ 3
  window0 : 1 ≤ c.window
  window1 : c.window ≤ 64
  t00 : 1 ≤ c.t0
  t01 : c.t0 ≤ 2000
  t1m : (c.m = 1 ∧ c.t1 = 0) ∨ (c.m = 2 ∧ 1 ≤ c.t1 ∧ c.t1 ≤ 2000)
  t2z : c.t2 = 0
  t3z : c.t3 = 0
  tol0 : 0 ≤ c.tol
  tol1 : c.tol ≤ 299
  lo0 : 1 ≤ c.lo
  lo1 : c.lo ≤ 5
  hi0 : c.lo ≤ c.hi
  hi1 : c.hi ≤ 100
  cup0 : 0 ≤ c.cup
  cup1 : c.cup ≤ 3
  cdn0 : 0 ≤ c.cdn
  cdn1 : c.cdn ≤ 4
  pup0 : 1 ≤ c.pup
  pup1 : c.pup ≤ 5
  tup0 : 1 ≤ c.tup
  tup1 : c.tup ≤ 150
  pdn0 : 1 ≤ c.pdn
  pdn1 : c.pdn ≤ 5
  tdn0 : 1 ≤ c.tdn
  tdn1 : c.tdn ≤ 100
  per0 : 1 ≤ c.per
  per1 : c.per ≤ 4
  far0 : 0 ≤ c.far
  far1 : c.far ≤ 499
  str0 : 1 ≤ c.str
  str1 : c.str ≤ 3
  pro0 : 1 ≤ c.pro
  pro1 : c.pro ≤ 4
  sec0 : 64 ≤ c.sec
  sec1 : c.sec ≤ 363
  seed0 : 0 ≤ c.seed
  seed1 : c.seed ≤ 99999

theorem fits_dflt : Fits dflt := by constructor <;> decide

theorem good_of {p : Part} (h1 : p.lo ≤ p.is) (h2 : p.is ≤ p.hi) : badP p = false := by
  unfold badP; simp; omega
theorem bad_lo {p : Part} (h1 : p.is < p.lo) : badP p = true := by
  unfold badP; simp; omega
theorem bad_hi {p : Part} (h1 : p.hi < p.is) : badP p = true := by
  unfold badP; simp; omega

theorem Fits.fhi {c : CF} (h : Fits c) : c.f ≤ fHi c.n := by
  have := h.f0; have := h.f1; have := h.n0; have := h.n1
  unfold fHi
  rw [wrap64_id (x := c.n - 1) (by omega) (by omega), Int.tdiv_eq_ediv_of_nonneg (by omega), wrap64_id (by omega) (by omega)]
  omega
theorem Fits.clamp {c : CF} (h : Fits c) : clampF c.f = c.f := by
  have := h.f0; have := h.f1
  unfold clampF; omega
theorem Fits.targets {c : CF} (h : Fits c) : targetsB c = true := by
  have := h.m0; have := h.t00; have := h.t01; have := h.t2z; have := h.t3z
  unfold targetsB
  rw [okT_in (x := c.t0) (by omega), okT_out (x := c.t2) (by have := h.m1; omega), okT_out (x := c.t3) (by have := h.m1; omega)]
  rcases h.t1m with ⟨e, z⟩ | ⟨e, z0, z1⟩
  · rw [okT_out (x := c.t1) (by omega)]
    simp [*]
    omega
  · rw [okT_in (x := c.t1) (by omega)]
    simp [*]
    omega
theorem Fits.targetsV {c : CF} (h : Fits c) : targetsV c = 1 := by
  unfold Ytjobicffdcnnlaa.targetsV
  rw [h.targets]
  rfl
theorem Fits.good {c : CF} (h : Fits c) : ∀ p ∈ partsL c, badP p = false := by
  intro p hp
  have hf := h.fhi
  have hq := h.clamp
  have ht := h.targetsV
  obtain ⟨⟩ := h
  simp only [partsL, List.mem_cons, List.not_mem_nil, or_false] at hp
  rcases hp with e | e | e | e | e | e | e | e | e | e | e | e | e | e | e | e | e | e | e | e | e | e <;> subst e <;> refine good_of ?_ ?_ <;> simp only [] <;> omega
theorem Fits.may {c : CF} (h : Fits c) : mayC c = true := by
  unfold mayC
  rw [List.all_eq_true]
  intro p hp
  rw [h.good p hp]; rfl
theorem Fits.rates {c : CF} (h : Fits c) : mayRatesR c = true := by
  obtain ⟨⟩ := h
  unfold mayRatesR inR
  simp
  omega
theorem wskip (q : Part) (r : List Part) (h : badP q = false) : wrongL (q :: r) = wrongL r := by rw [wrong_cons, h]; rfl
theorem wstop (q : Part) (r : List Part) (h : badP q = true) : wrongL (q :: r) = q.name := by rw [wrong_cons, h]; rfl
theorem wrongL_at : ∀ (l : List Part) (k : Nat) (p : Part), (∀ j q, j < k → l[j]? = some q → badP q = false) → l[k]? = some p → badP p = true → wrongL l = p.name
  | [], k, p, _, h, _ => by simp at h
  | x :: r, 0, p, _, h, hb => by
    have hx : x = p := by simpa using h
    subst hx
    exact wstop _ _ hb
  | x :: r, k + 1, p, hg, h, hb => by
    rw [wskip _ _ (hg 0 x (by omega) rfl)]
    exact wrongL_at r k p (fun j q hj hq => hg (j + 1) q (by omega) (by simpa using hq)) (by simpa using h) hb
/-- A part is wrong where those ahead of it are the made one's. -/
theorem Fits.wrong {c c' : CF} (h : Fits c) (k : Nat) (p : Part) (hs : (partsL c').take k = (partsL c).take k) (hp : (partsL c')[k]? = some p) (hb : badP p = true) : wrongV c' = p.name := by
  refine wrongL_at _ k p (fun j q hj hq => ?_) hp hb
  have : ((partsL c').take k)[j]? = some q := by rw [List.getElem?_take_of_lt hj]; exact hq
  rw [hs, List.getElem?_take_of_lt hj] at this
  exact h.good q (List.mem_of_getElem? this)
theorem not_may_of_wrong {c : CF} {r : ByteArray} (h : wrongV c = r) (hr : r.data.toList ≠ []) : mayC c = false := by
  cases hm : mayC c with
  | false => rfl
  | true =>
    have := (wrongL_may (partsL c) (names_ne c)).1 hm
    change wrongV c = _ at this
    rw [h] at this
    subst this
    simp at hr
end Go.Proofs.Ytjobicffdcnnlaa
/- The plain law of policy: bounds, limits, the counts that are kept. -/
namespace Go.Proofs.Ytjobicffdcnnlaa
open Go Go.RowKit
set_option linter.unusedSimpArgs false
set_option linter.unusedVariables false

/-- The greatest count behind a base, and the least. -/
def upP (c : CF) (b : Int) : Int := max (b + c.pup) ((b * (100 + c.tup) + 99) / 100)
def dnP (c : CF) (b : Int) : Int := max (min (b - c.pdn) (b * (100 - c.tdn) / 100)) 0
def mayBs (c : CF) (b : Int) : Bool := mayRatesR c && (decide (0 ≤ b) && decide (b ≤ 10000))
def loB (c : CF) (b : Int) : Int := if mayBs c b = true then dnP c b else 0
def hiB (c : CF) (b : Int) : Int := if mayBs c b = true then upP c b else 0
def newB (c : CF) (n : Int) : Bool := mayRatesR c && (decide (c.lo ≤ n) && decide (n ≤ c.hi))
def limP (c : CF) (b w : Int) : Int := min (max (min (max w (loB c b)) (hiB c b)) c.lo) c.hi
def headP (l : List Int) : Int := l.headD 0
def putP (c : CF) (l : List Int) (n : Int) : List Int := (l ++ [n]).drop ((l.length + 1) - c.per.toNat)

/-- The rates of a configuration whose rates may be. -/
structure Rts (c : CF) : Prop where
  lo0 : 1 ≤ c.lo
  lo1 : c.lo ≤ 10000
  hi0 : c.lo ≤ c.hi
  hi1 : c.hi ≤ 10000
  pup0 : 1 ≤ c.pup
  pup1 : c.pup ≤ 1000
  tup0 : 1 ≤ c.tup
  tup1 : c.tup ≤ 1000
  pdn0 : 1 ≤ c.pdn
  pdn1 : c.pdn ≤ 1000
  tdn0 : 1 ≤ c.tdn
  tdn1 : c.tdn ≤ 100
  per0 : 1 ≤ c.per
  per1 : c.per ≤ 60
theorem rts_of {c : CF} (h : mayRatesR c = true) : Rts c := by
  unfold mayRatesR inR at h
  simp at h
  constructor <;> omega
theorem Fits.rts {c : CF} (h : Fits c) : Rts c := rts_of h.rates
theorem mayBs_of {c : CF} (h : mayRatesR c = true) {b : Int} (h0 : 0 ≤ b) (h1 : b ≤ 10000) : mayBs c b = true := by
  unfold mayBs; simp [h, h0, h1]

theorem mul_lin {b x y : Int} (h0 : 0 ≤ b) (h : x ≤ y) : b * x ≤ b * y := Int.mul_le_mul_of_nonneg_left h h0
theorem dnP_le {c : CF} (r : Rts c) {b : Int} (h0 : 0 ≤ b) : dnP c b ≤ b := by
  have := r.pdn0
  unfold dnP; omega
theorem dnP_nonneg (c : CF) (b : Int) : 0 ≤ dnP c b := by unfold dnP; omega
theorem le_upP {c : CF} (r : Rts c) {b : Int} (h0 : 0 ≤ b) : b ≤ upP c b := by
  have := r.pup0
  unfold upP; omega
theorem dnP_mono {c : CF} (r : Rts c) {x y : Int} (h0 : 0 ≤ x) (h : x ≤ y) : dnP c x ≤ dnP c y := by
  have h1 : x * (100 - c.tdn) ≤ y * (100 - c.tdn) := Int.mul_le_mul_of_nonneg_right h (by have := r.tdn1; omega)
  unfold dnP; omega
theorem upP_mono {c : CF} (r : Rts c) {x y : Int} (h0 : 0 ≤ x) (h : x ≤ y) : upP c x ≤ upP c y := by
  have h1 : x * (100 + c.tup) ≤ y * (100 + c.tup) := Int.mul_le_mul_of_nonneg_right h (by have := r.tup0; omega)
  unfold upP; omega
theorem bounds_mono {c : CF} (hr : mayRatesR c = true) {x y : Int} (h0 : 0 ≤ x) (h : x ≤ y) (h1 : y ≤ 10000) :
    loB c x ≤ loB c y ∧ hiB c x ≤ hiB c y ∧ loB c x ≤ x ∧ x ≤ hiB c x := by
  have r := rts_of hr
  unfold loB hiB
  rw [if_pos (mayBs_of hr h0 (by omega)), if_pos (mayBs_of hr (by omega) h1), if_pos (mayBs_of hr h0 (by omega)), if_pos (mayBs_of hr (by omega) h1)]
  exact ⟨dnP_mono r h0 h, upP_mono r h0 h, dnP_le r h0, le_upP r h0⟩
theorem limP_in {c : CF} (r : Rts c) (b w : Int) : c.lo ≤ limP c b w ∧ limP c b w ≤ c.hi := by
  have := r.hi0
  unfold limP; omega
theorem limP_mono {c : CF} (hr : mayRatesR c = true) {x y w v : Int} (h0 : 0 ≤ x) (h : x ≤ y) (h1 : y ≤ 10000) (hw : w ≤ v) : limP c x w ≤ limP c y v := by
  obtain ⟨a, b, _, _⟩ := bounds_mono hr h0 h h1
  unfold limP; omega
theorem limP_same {c : CF} (hr : mayRatesR c = true) {b w : Int} (h0 : c.lo ≤ b) (h1 : b ≤ c.hi) : limP c b (limP c b w) = limP c b w := by
  have r := rts_of hr
  have := r.hi0; have := r.lo0; have := r.hi1
  obtain ⟨_, _, x, y⟩ := bounds_mono hr (x := b) (y := b) (by omega) (Int.le_refl _) (by omega)
  unfold limP; omega
theorem limP_within {c : CF} (hr : mayRatesR c = true) {b w : Int} (h0 : c.lo ≤ b) (h1 : b ≤ c.hi) :
    min (loB c b) b ≤ limP c b w ∧ limP c b w ≤ max (hiB c b) b ∧ (loB c b ≤ w → w ≤ hiB c b → c.lo ≤ w → w ≤ c.hi → limP c b w = w) := by
  have r := rts_of hr
  have := r.hi0; have := r.lo0; have := r.hi1
  obtain ⟨_, _, x, y⟩ := bounds_mono hr (x := b) (y := b) (by omega) (Int.le_refl _) (by omega)
  unfold limP; omega

/-- What is kept: from one to the period's count, all of them counts that may be. -/
structure Kept (c : CF) (l : List Int) : Prop where
  pos : 1 ≤ l.length
  len : l.length ≤ c.per.toNat
  all : ∀ x ∈ l, c.lo ≤ x ∧ x ≤ c.hi
theorem Kept.one {c : CF} (r : Rts c) {n : Int} (h : c.lo ≤ n ∧ n ≤ c.hi) : Kept c [n] := ⟨by simp, by have := r.per0; simp; omega, fun x hx => by simp at hx; exact hx ▸ h⟩
theorem Kept.put {c : CF} (r : Rts c) {l : List Int} (k : Kept c l) {n : Int} (h : c.lo ≤ n ∧ n ≤ c.hi) : Kept c (putP c l n) := by
  have := r.per0; have := k.pos
  refine ⟨by simp [putP]; omega, by simp [putP]; omega, fun x hx => ?_⟩
  have := List.mem_of_mem_drop hx
  rcases List.mem_append.1 this with m | m
  · exact k.all x m
  · simp at m; exact m ▸ h
theorem Kept.head {c : CF} {l : List Int} (k : Kept c l) : c.lo ≤ headP l ∧ headP l ≤ c.hi := by
  match l, k with
  | x :: r, k => exact k.all x (by simp)
  | [], k => have := k.pos; simp at this
theorem headP_getD (l : List Int) : headP l = l.getD 0 0 := by cases l <;> rfl
theorem putP_length (c : CF) (r : Rts c) (l : List Int) (n : Int) : (putP c l n).length = min (l.length + 1) c.per.toNat := by
  have := r.per0
  simp [putP]; omega
end Go.Proofs.Ytjobicffdcnnlaa
/- The plain law of policy: lists of counts. -/
namespace Go.Proofs.Ytjobicffdcnnlaa
open Go Go.RowKit
set_option linter.unusedSimpArgs false
set_option linter.unusedVariables false

/-- One by one no greater. -/
def LeL (s t : List Int) : Prop := s.length = t.length ∧ ∀ i, s.getD i 0 ≤ t.getD i 0
theorem LeL.head {s t : List Int} (h : LeL s t) : headP s ≤ headP t := by rw [headP_getD, headP_getD]; exact h.2 0
theorem LeL.one {x y : Int} (h : x ≤ y) : LeL [x] [y] := ⟨rfl, fun i => by cases i <;> simp [h]⟩
theorem getD_snoc (s : List Int) (n : Int) (i : Nat) : (s ++ [n]).getD i 0 = if i < s.length then s.getD i 0 else if i = s.length then n else 0 := by
  simp only [List.getD_eq_getElem?_getD]
  by_cases h : i < s.length
  · simp [h, List.getElem?_append_left h]
  · rw [List.getElem?_append_right (by omega)]
    by_cases h2 : i = s.length
    · subst h2; simp
    · have : ([n] : List Int)[i - s.length]? = none := by simp; omega
      simp [h, h2, this]
theorem LeL.put {c : CF} {s t : List Int} (h : LeL s t) {m n : Int} (hm : m ≤ n) : LeL (putP c s m) (putP c t n) := by
  obtain ⟨hl, hi⟩ := h
  refine ⟨by simp [putP, hl], fun i => ?_⟩
  unfold putP
  rw [hl]
  have e : ∀ (l : List Int) (k : Nat), (l.drop k).getD i 0 = l.getD (k + i) 0 := fun l k => by simp [List.getD_eq_getElem?_getD]
  rw [e, e, getD_snoc, getD_snoc, hl]
  split
  · exact hi _
  · split
    · exact hm
    · exact Int.le_refl _

/-- The last that are kept of all. -/
def lastP (c : CF) (a : List Int) : List Int := a.drop (a.length - c.per.toNat)
theorem lastP_one {c : CF} (r : Rts c) (n : Int) : lastP c [n] = [n] := by
  have := r.per0
  unfold lastP
  rw [show [n].length - c.per.toNat = 0 by simp; omega]
  rfl
theorem lastP_put {c : CF} (r : Rts c) (a : List Int) (n : Int) : putP c (lastP c a) n = lastP c (a ++ [n]) := by
  have := r.per0
  unfold putP lastP
  rw [show a.drop (a.length - c.per.toNat) ++ [n] = (a ++ [n]).drop (a.length - c.per.toNat) by rw [List.drop_append_of_le_length (by omega)], List.drop_drop]
  congr 1
  simp
  omega
theorem lastP_head (c : CF) (a : List Int) : headP (lastP c a) = a.getD (a.length - c.per.toNat) 0 := by
  rw [headP_getD]
  unfold lastP
  simp [List.getD_eq_getElem?_getD]
theorem lastP_length (c : CF) (a : List Int) : (lastP c a).length = min a.length c.per.toNat := by
  unfold lastP; simp; omega
/-- What may be set. -/
def setB (c : CF) (l : List Int) : Bool := decide (1 ≤ l.length) && (decide ((l.length : Int) ≤ c.per) && l.all fun x => decide (c.lo ≤ x) && decide (x ≤ c.hi))
theorem Kept.setB {c : CF} {l : List Int} (k : Kept c l) : setB c l = true := by
  have h1 := k.pos; have h2 := k.len; have h3 := k.all
  unfold Ytjobicffdcnnlaa.setB
  simp only [Bool.and_eq_true, decide_eq_true_eq, List.all_eq_true]
  exact ⟨h1, by omega, h3⟩
theorem Kept.of_set {c : CF} {l : List Int} (h : Ytjobicffdcnnlaa.setB c l = true) : Kept c l := by
  unfold Ytjobicffdcnnlaa.setB at h
  simp only [Bool.and_eq_true, decide_eq_true_eq, List.all_eq_true] at h
  exact ⟨h.1, by omega, h.2.2⟩
def putB (c : CF) (n : Int) : Bool := decide (c.lo ≤ n) && decide (n ≤ c.hi)
end Go.Proofs.Ytjobicffdcnnlaa
