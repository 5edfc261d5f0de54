import Derived.Test.YtjobicffdcnnlaaC8
/- The plain law of conf: the program's parts say what the document says. -/
namespace Go.Proofs.Ytjobicffdcnnlaa
open Go Go.RowKit

theorem bad_in (nm : ByteArray) (a lo hi : Int) : badP ⟨nm, a, lo, hi⟩ = !inR a lo hi := by
  unfold badP inR
  by_cases h1 : lo ≤ a <;> by_cases h2 : a ≤ hi <;> simp [h1, h2] <;> omega
theorem wrap64_id {x : Int} (h1 : -9223372036854775808 ≤ x) (h2 : x ≤ 9223372036854775807) : wrap64 x = x := by unfold wrap64; omega
theorem bad_f {c : CF} (nm : ByteArray) (h : inR c.n 1 16 = true) : badP ⟨nm, c.f, 0, fHi c.n⟩ = !okF c := by
  have hn : 1 ≤ c.n ∧ c.n ≤ 16 := by unfold inR at h; simp at h; exact h
  have e : fHi c.n = (c.n - 1) / 3 := by
    unfold fHi
    rw [wrap64_id (x := c.n - 1) (by omega) (by omega), Int.tdiv_eq_ediv_of_nonneg (by omega), wrap64_id (by omega) (by omega)]
  rw [bad_in, e]
  unfold inR okF
  by_cases h1 : 0 ≤ c.f <;> by_cases h2 : c.f ≤ (c.n - 1) / 3 <;> by_cases h3 : c.f ≤ 5 <;> by_cases h4 : 3 * c.f + 1 ≤ c.n <;> simp [h1, h2, h3, h4] <;> omega
theorem bad_q {c : CF} (nm : ByteArray) (h : okF c = true) : badP ⟨nm, c.q, 2 * clampF c.f + 1, c.n⟩ = !inR c.q (2 * c.f + 1) c.n := by
  have hf : 0 ≤ c.f ∧ c.f ≤ 5 := by unfold okF at h; simp at h; exact ⟨h.1, h.2.1⟩
  have e : clampF c.f = c.f := by unfold clampF; omega
  rw [bad_in, e]
theorem bad_t (c : CF) (nm : ByteArray) : badP ⟨nm, targetsV c, 1, 1⟩ = !targetsB c := by
  unfold badP targetsV b01
  cases targetsB c <;> rfl

theorem wrong_cons (p : Part) (r : List Part) : wrongL (p :: r) = if badP p = true then p.name else wrongL r := rfl
theorem wrong_eq (c : CF) : wrongV c = wrongR c := by
  unfold wrongV wrongR partsL
  rw [wrong_cons, bad_in]
  cases h0 : inR c.n 1 16 with
  | false => rfl
  | true =>
    rw [wrong_cons, bad_f _ h0]
    cases h1 : okF c with
    | false => rfl
    | true =>
      rw [wrong_cons, bad_in, wrong_cons, bad_q _ h1, wrong_cons, bad_in, wrong_cons, bad_in, wrong_cons, bad_in, wrong_cons, bad_t, wrong_cons, bad_in, wrong_cons, bad_in, wrong_cons, bad_in, wrong_cons, bad_in, wrong_cons, bad_in,
        wrong_cons, bad_in, wrong_cons, bad_in, wrong_cons, bad_in, wrong_cons, bad_in, wrong_cons, bad_in, wrong_cons, bad_in, wrong_cons, bad_in, wrong_cons, bad_in, wrong_cons, bad_in]
      simp only [Bool.not_eq_true', Bool.true_eq_false, if_false]
      rfl

theorem rates_eq (c : CF) : ratesC c = mayRatesR c := by
  unfold ratesC
  rw [ratesFrom_skip (by decide), ratesFrom_skip (by decide), ratesFrom_skip (by decide), ratesFrom_skip (by decide), ratesFrom_skip (by decide), ratesFrom_skip (by decide), ratesFrom_skip (by decide), ratesFrom_skip (by decide), ratesFrom_skip (by decide),
    ratesFrom_step (p := ⟨⟨#[109, 105, 110]⟩, c.lo, 1, 10000⟩) (by decide) rfl, ratesFrom_step (p := ⟨⟨#[109, 97, 120]⟩, c.hi, c.lo, 10000⟩) (by decide) rfl, ratesFrom_skip (by decide), ratesFrom_skip (by decide),
    ratesFrom_step (p := ⟨⟨#[112, 111, 100, 115, 117, 112]⟩, c.pup, 1, 1000⟩) (by decide) rfl, ratesFrom_step (p := ⟨⟨#[112, 99, 116, 117, 112]⟩, c.tup, 1, 1000⟩) (by decide) rfl, ratesFrom_step (p := ⟨⟨#[112, 111, 100, 115, 100, 111, 119, 110]⟩, c.pdn, 1, 1000⟩) (by decide) rfl, ratesFrom_step (p := ⟨⟨#[112, 99, 116, 100, 111, 119, 110]⟩, c.tdn, 1, 100⟩) (by decide) rfl, ratesFrom_step (p := ⟨⟨#[112, 101, 114, 105, 111, 100]⟩, c.per, 1, 60⟩) (by decide) rfl,
    ratesFrom_skip (by decide), ratesFrom_skip (by decide), ratesFrom_skip (by decide), ratesFrom_skip (by decide)]
  simp only [bad_in, Bool.not_not, ratesFrom, Bool.and_true]
  rfl
end Go.Proofs.Ytjobicffdcnnlaa
