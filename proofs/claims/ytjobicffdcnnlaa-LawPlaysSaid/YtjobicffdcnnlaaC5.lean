import Derived.Test.YtjobicffdcnnlaaC2
namespace Go.Proofs.Ytjobicffdcnnlaa
open Go.RowKit
set_option linter.unusedSimpArgs false
set_option linter.unusedVariables false

def badP (p : Part) : Bool := decide (p.is < p.lo) || decide (p.hi < p.is)
def wrongL : List Part → ByteArray
  | [] => ⟨#[]⟩
  | p :: r => if badP p = true then p.name else wrongL r
def wrongV (c : CF) : ByteArray := wrongL (partsL c)

theorem partCells_at : ∀ (l : List Part) (k : Nat) (p : Part), l[k]? = some p → (partCells l)[k * 4]? = some (.string p.name) ∧ (partCells l)[k * 4 + 1]? = some (.int .i64 p.is) ∧ (partCells l)[k * 4 + 2]? = some (.int .i64 p.lo) ∧ (partCells l)[k * 4 + 3]? = some (.int .i64 p.hi)
  | [], k, p, h => by simp at h
  | x :: r, 0, p, h => by
    have hx : x = p := by simpa using h
    subst hx
    exact ⟨rfl, rfl, rfl, rfl⟩
  | x :: r, k + 1, p, h => by
    have ih := partCells_at r k p (by simpa using h)
    have e : ∀ j, (partCells (x :: r))[j + 4]? = (partCells r)[j]? := fun j => rfl
    refine ⟨?_, ?_, ?_, ?_⟩
    · rw [show (k + 1) * 4 = k * 4 + 4 by omega, e]; exact ih.1
    · rw [show (k + 1) * 4 + 1 = k * 4 + 1 + 4 by omega, e]; exact ih.2.1
    · rw [show (k + 1) * 4 + 2 = k * 4 + 2 + 4 by omega, e]; exact ih.2.2.1
    · rw [show (k + 1) * 4 + 3 = k * 4 + 3 + 4 by omega, e]; exact ih.2.2.2
theorem cell_of_block {w : World} {B : Nat} {cs : List Value} {t : TypeId} {i : Nat} {v : Value} (h : w.heap[B]? = some (.cells cs.toArray t (0, 0))) (hv : cs[i]? = some v) : w.cell? ⟨B, i, none⟩ = some v := by
  unfold World.cell?
  rw [h]
  simpa using hv
theorem partsL_length (c : CF) : (partsL c).length = 22 := rfl
theorem part_at {w : World} {B : Nat} {c : CF} (h : w.heap[B]? = some (.cells (partCells (partsL c)).toArray 104 (0, 0))) {k : Nat} (hk : k < 22) :
    ∃ p, (partsL c)[k]? = some p ∧ (partsL c).drop k = p :: (partsL c).drop (k + 1) ∧ w.cell? ⟨B, k * 4, none⟩ = some (.string p.name) ∧ w.cell? ⟨B, k * 4 + 1, none⟩ = some (.int .i64 p.is) ∧ w.cell? ⟨B, k * 4 + 2, none⟩ = some (.int .i64 p.lo) ∧ w.cell? ⟨B, k * 4 + 3, none⟩ = some (.int .i64 p.hi) := by
  have hl : k < (partsL c).length := hk
  obtain ⟨h0, h1, h2, h3⟩ := partCells_at (partsL c) k _ (List.getElem?_eq_getElem hl)
  exact ⟨_, List.getElem?_eq_getElem hl, List.drop_eq_getElem_cons hl, cell_of_block h h0, cell_of_block h h1, cell_of_block h h2, cell_of_block h h3⟩

set_option maxHeartbeats 1000000 in
set_option maxRecDepth 100000 in
theorem wrong_core (c : CF) (r : ByteArray) (hr : wrongV c = r) (w : World) : Calls Try.prog 40 #[.agg #[.int .i64 c.n, .int .i64 c.f, .int .i64 c.m, .int .i64 c.q, .int .i64 c.fresh, .int .i64 c.grace, .int .i64 c.window, .int .i64 c.t0, .int .i64 c.t1, .int .i64 c.t2, .int .i64 c.t3, .int .i64 c.tol, .int .i64 c.lo, .int .i64 c.hi, .int .i64 c.cup, .int .i64 c.cdn, .int .i64 c.pup, .int .i64 c.tup, .int .i64 c.pdn, .int .i64 c.tdn, .int .i64 c.per, .int .i64 c.far, .int .i64 c.str, .int .i64 c.pro, .int .i64 c.sec, .int .u64 c.seed]] w fun e w' => e = .returned (.string r) ∧ Gr w w' := by
  have HR : Hid (wrongL ((partsL c).drop 0) = r) := by rw [List.drop_zero]; exact hr
  clear hr
  have hpa := fun w => parts_any c w
  have HP := Lib.hid hpa; clear hpa
  go_enter Try.func40, Try.ntmps40
  go_wp2_with fail
  refine (HP.out _).mono ?_
  rintro e w1 ⟨B, rfl, hB, hblk, hgr0⟩
  have hgr : Gr w w1 := ((Gr.refl w).alloc _).trans hgr0
  clear hgr0
  go_wp2_with fail
  go_loopw [8] (fun i wr => ∃ k : Nat, k ≤ 22 ∧ i = .int .i64 k ∧ Gr w1 wr ∧ Hid (wrongL ((partsL c).drop k) = r)) (fun i _ => 22 - (intOf i).toNat)
  case atStart => exact ⟨0, by omega, rfl, Gr.refl _, HR⟩
  case round =>
    obtain ⟨k, hk, rfl, hg, hw⟩ := hrel
    by_cases hlt : k < 22
    · have hblk' := hg.block hblk
      obtain ⟨p, hp, hd, c0, c1, c2, c3⟩ := part_at hblk' hlt
      have hw' := hw.out
      rw [hd] at hw'
      clear hw hd hp hblk' HP
      cases hb : badP p with
      | true =>
        have hr : r = p.name := by rw [← hw']; simp [wrongL, hb]
        clear hw'
        subst hr
        have hb' : ¬ (p.lo ≤ p.is ∧ p.is ≤ p.hi) := by unfold badP at hb; simp at hb; omega
        clear hb
        by_cases h1 : p.is < p.lo
        · go_wp2
          go_ret
          exact ⟨rfl, (hgr.trans hg).alloc _⟩
        · go_wp2
          go_ret
          exact ⟨rfl, (hgr.trans hg).alloc _⟩
      | false =>
        have hn : Hid (wrongL ((partsL c).drop (k + 1)) = r) := by rw [← hw']; simp [wrongL, hb, Hid]
        have hb1 : p.lo ≤ p.is := by unfold badP at hb; simp at hb; omega
        have hb2 : p.is ≤ p.hi := by unfold badP at hb; simp at hb; omega
        clear hw' hb
        go_wp2
        go_roundw
        case rel => exact ⟨k + 1, by omega, by go_num, hg.alloc _, hn⟩
        case measure => simp [intOf]; omega
    · have hr : r = ⟨#[]⟩ := by rw [← hw.out, List.drop_eq_nil_of_le (by rw [partsL_length]; omega)]; rfl
      clear hw HP
      subst hr
      go_wp2
      go_ret
      exact ⟨rfl, hgr.trans hg⟩
end Go.Proofs.Ytjobicffdcnnlaa
namespace Go.Proofs.Ytjobicffdcnnlaa
open Go.RowKit
set_option linter.unusedSimpArgs false
set_option linter.unusedVariables false

theorem wrong_any (c : CF) (w : World) : Calls Try.prog 40 #[.agg #[.int .i64 c.n, .int .i64 c.f, .int .i64 c.m, .int .i64 c.q, .int .i64 c.fresh, .int .i64 c.grace, .int .i64 c.window, .int .i64 c.t0, .int .i64 c.t1, .int .i64 c.t2, .int .i64 c.t3, .int .i64 c.tol, .int .i64 c.lo, .int .i64 c.hi, .int .i64 c.cup, .int .i64 c.cdn, .int .i64 c.pup, .int .i64 c.tup, .int .i64 c.pdn, .int .i64 c.tdn, .int .i64 c.per, .int .i64 c.far, .int .i64 c.str, .int .i64 c.pro, .int .i64 c.sec, .int .u64 c.seed]] w fun e w' => e = .returned (.string (wrongV c)) ∧ Gr w w' := wrong_core c _ rfl w

def mayC (c : CF) : Bool := (partsL c).all fun p => !badP p
theorem wrongL_may : ∀ l : List Part, (∀ p ∈ l, p.name.data.toList ≠ []) → ((l.all fun p => !badP p) = true → wrongL l = ⟨#[]⟩) ∧ ((l.all fun p => !badP p) = false → (wrongL l).data.toList ≠ [])
  | [], _ => ⟨fun _ => rfl, fun h => by simp at h⟩
  | p :: r, h => by
    have ih := wrongL_may r (fun q hq => h q (by simp [hq]))
    cases hb : badP p with
    | true => exact ⟨fun h1 => by simp [hb] at h1, fun _ => by simp only [wrongL, hb, if_true]; exact h p (by simp)⟩
    | false => simp only [wrongL, hb, List.all_cons, Bool.not_false, Bool.true_and, Bool.false_eq_true, if_false]; exact ih
theorem names_ne (c : CF) : ∀ p ∈ partsL c, p.name.data.toList ≠ [] := by
  intro p hp
  simp only [partsL, List.mem_cons, List.not_mem_nil, or_false] at hp
  rcases hp with h | h | h | h | h | h | h | h | h | h | h | h | h | h | h | h | h | h | h | h | h | h <;> subst h <;> simp

theorem may_any_C (c : CF) (w : World) : Calls Try.prog 41 #[.agg #[.int .i64 c.n, .int .i64 c.f, .int .i64 c.m, .int .i64 c.q, .int .i64 c.fresh, .int .i64 c.grace, .int .i64 c.window, .int .i64 c.t0, .int .i64 c.t1, .int .i64 c.t2, .int .i64 c.t3, .int .i64 c.tol, .int .i64 c.lo, .int .i64 c.hi, .int .i64 c.cup, .int .i64 c.cdn, .int .i64 c.pup, .int .i64 c.tup, .int .i64 c.pdn, .int .i64 c.tdn, .int .i64 c.per, .int .i64 c.far, .int .i64 c.str, .int .i64 c.pro, .int .i64 c.sec, .int .u64 c.seed]] w fun e w' => e = .returned (.bool (mayC c)) ∧ Gr w w' := by
  have hw := fun w => wrong_any c w
  obtain ⟨h1, h2⟩ := wrongL_may (partsL c) (names_ne c)
  cases hm : mayC c with
  | true =>
    have hr : wrongV c = ⟨#[]⟩ := h1 hm
    rw [hr] at hw
    clear h1 h2 hm hr
    have HW := Lib.hid hw; clear hw
    go_enter Try.func41, Try.ntmps41
    go_wp2_with fail
    refine (HW.out _).mono ?_
    rintro e w1 ⟨rfl, hg⟩
    have hgr : Gr w w1 := ((Gr.refl w).alloc _).trans hg
    clear hg
    go_wp2
    go_ret
    exact ⟨rfl, hgr⟩
  | false =>
    have hr := h2 hm
    change (wrongV c).data.toList ≠ [] at hr
    generalize wrongV c = r at *
    clear h1 h2 hm
    have hn1 : r.toList.isEmpty = false := by
      rw [ByteArray.toList_eq]; simpa using hr
    have HW := Lib.hid hw; clear hw
    go_enter Try.func41, Try.ntmps41
    go_wp2_with fail
    refine (HW.out _).mono ?_
    rintro e w1 ⟨rfl, hg⟩
    have hgr : Gr w w1 := ((Gr.refl w).alloc _).trans hg
    clear hg HW
    go_wp2
    go_ret
    exact ⟨rfl, hgr⟩

theorem honest_any (c : CF) (w : World) : Calls Try.prog 43 #[.agg #[.int .i64 c.n, .int .i64 c.f, .int .i64 c.m, .int .i64 c.q, .int .i64 c.fresh, .int .i64 c.grace, .int .i64 c.window, .int .i64 c.t0, .int .i64 c.t1, .int .i64 c.t2, .int .i64 c.t3, .int .i64 c.tol, .int .i64 c.lo, .int .i64 c.hi, .int .i64 c.cup, .int .i64 c.cdn, .int .i64 c.pup, .int .i64 c.tup, .int .i64 c.pdn, .int .i64 c.tdn, .int .i64 c.per, .int .i64 c.far, .int .i64 c.str, .int .i64 c.pro, .int .i64 c.sec, .int .u64 c.seed]] w fun e w' => e = .returned (.int .i64 (wrap64 (c.n - c.f))) ∧ Gr w w' := by
  go_enter Try.func43, Try.ntmps43
  go_wp2
  go_ret
  exact ⟨rfl, (Gr.refl w).alloc _⟩
end Go.Proofs.Ytjobicffdcnnlaa
namespace Go.Proofs.Ytjobicffdcnnlaa
open Go.RowKit
set_option linter.unusedSimpArgs false
set_option linter.unusedVariables false

/-- Which parts bound a count's rate: min, max, podsup, pctup, podsdown, pctdown, period. -/
def rateAt (k : Nat) : Bool := k == 9 || k == 10 || (13 ≤ k && k ≤ 17)
def ratesFrom (c : CF) : Nat → Nat → Bool
  | 0, _ => true
  | n + 1, k => (!rateAt k || !badP ((partsL c).getD k ⟨⟨#[]⟩, 0, 0, 0⟩)) && ratesFrom c n (k + 1)
def ratesC (c : CF) : Bool := ratesFrom c 22 0

theorem ratesFrom_skip {c : CF} {n k : Nat} (h : rateAt k = false) : ratesFrom c (n + 1) k = ratesFrom c n (k + 1) := by
  rw [ratesFrom, h]; rfl
theorem ratesFrom_step {c : CF} {n k : Nat} {p : Part} (h : rateAt k = true) (hp : (partsL c)[k]? = some p) : ratesFrom c (n + 1) k = (!badP p && ratesFrom c n (k + 1)) := by
  rw [ratesFrom, h, List.getD_eq_getElem?_getD, hp]; rfl

set_option maxHeartbeats 4000000 in
set_option maxRecDepth 100000 in
theorem rates_core (c : CF) (b : Bool) (hb0 : ratesC c = b) (w : World) : Calls Try.prog 85 #[.agg #[.int .i64 c.n, .int .i64 c.f, .int .i64 c.m, .int .i64 c.q, .int .i64 c.fresh, .int .i64 c.grace, .int .i64 c.window, .int .i64 c.t0, .int .i64 c.t1, .int .i64 c.t2, .int .i64 c.t3, .int .i64 c.tol, .int .i64 c.lo, .int .i64 c.hi, .int .i64 c.cup, .int .i64 c.cdn, .int .i64 c.pup, .int .i64 c.tup, .int .i64 c.pdn, .int .i64 c.tdn, .int .i64 c.per, .int .i64 c.far, .int .i64 c.str, .int .i64 c.pro, .int .i64 c.sec, .int .u64 c.seed]] w fun e w' => e = .returned (.bool b) ∧ Gr w w' := by
  have HR : Hid (ratesFrom c 22 0 = b) := by unfold ratesC at hb0; exact hb0
  clear hb0
  have hpa := fun w => parts_any c w
  have HP := Lib.hid hpa; clear hpa
  go_enter Try.func85, Try.ntmps85
  go_wp2_with fail
  refine (HP.out _).mono ?_
  rintro e w1 ⟨B, rfl, hB, hblk, hgr0⟩
  have hgr : Gr w w1 := ((Gr.refl w).alloc _).trans hgr0
  clear hgr0 HP
  have HB := Lib.hid hblk; clear hblk
  go_wp2_with fail
  go_loopw [8] (fun i wr => ∃ k n : Nat, k + n = 22 ∧ i = .int .i64 k ∧ Gr w1 wr ∧ Hid (ratesFrom c n k = b)) (fun i _ => 22 - (intOf i).toNat)
  case atStart => exact ⟨0, 22, rfl, rfl, Gr.refl _, HR⟩
  case round =>
    obtain ⟨k, n, hk, rfl, hg, hw⟩ := hrel
    rcases (show k = 0 ∨ k = 1 ∨ k = 2 ∨ k = 3 ∨ k = 4 ∨ k = 5 ∨ k = 6 ∨ k = 7 ∨ k = 8 ∨ k = 9 ∨ k = 10 ∨ k = 11 ∨ k = 12 ∨ k = 13 ∨ k = 14 ∨ k = 15 ∨ k = 16 ∨ k = 17 ∨ k = 18 ∨ k = 19 ∨ k = 20 ∨ k = 21 ∨ k = 22 by omega) with h | h | h | h | h | h | h | h | h | h | h | h | h | h | h | h | h | h | h | h | h | h | h
    · subst h
      obtain rfl : n = 21 + 1 := by omega
      obtain ⟨p, hp, -, c0, c1, c2, c3⟩ := part_at (hg.block HB.out) (show 0 < 22 by omega)
      have hpp : p = ⟨⟨#[110]⟩, c.n, 1, 16⟩ := by simpa [partsL] using hp.symm
      subst hpp
      have hn : Hid (ratesFrom c 21 (0 + 1) = b) := by rw [← ratesFrom_skip (by decide)]; exact hw.out
      clear hw hp
      go_wp2
      go_roundw
      case rel => exact ⟨0 + 1, 21, rfl, by first | rfl | go_num, hg.alloc _, hn⟩
      case measure => simp [intOf]
    · subst h
      obtain rfl : n = 20 + 1 := by omega
      obtain ⟨p, hp, -, c0, c1, c2, c3⟩ := part_at (hg.block HB.out) (show 1 < 22 by omega)
      have hpp : p = ⟨⟨#[102]⟩, c.f, 0, fHi c.n⟩ := by simpa [partsL] using hp.symm
      subst hpp
      have hn : Hid (ratesFrom c 20 (1 + 1) = b) := by rw [← ratesFrom_skip (by decide)]; exact hw.out
      clear hw hp
      go_wp2
      go_roundw
      case rel => exact ⟨1 + 1, 20, rfl, by first | rfl | go_num, hg.alloc _, hn⟩
      case measure => simp [intOf]
    · subst h
      obtain rfl : n = 19 + 1 := by omega
      obtain ⟨p, hp, -, c0, c1, c2, c3⟩ := part_at (hg.block HB.out) (show 2 < 22 by omega)
      have hpp : p = ⟨⟨#[109]⟩, c.m, 1, 4⟩ := by simpa [partsL] using hp.symm
      subst hpp
      have hn : Hid (ratesFrom c 19 (2 + 1) = b) := by rw [← ratesFrom_skip (by decide)]; exact hw.out
      clear hw hp
      go_wp2
      go_roundw
      case rel => exact ⟨2 + 1, 19, rfl, by first | rfl | go_num, hg.alloc _, hn⟩
      case measure => simp [intOf]
    · subst h
      obtain rfl : n = 18 + 1 := by omega
      obtain ⟨p, hp, -, c0, c1, c2, c3⟩ := part_at (hg.block HB.out) (show 3 < 22 by omega)
      have hpp : p = ⟨⟨#[113, 117, 111, 114, 117, 109]⟩, c.q, 2 * clampF c.f + 1, c.n⟩ := by simpa [partsL] using hp.symm
      subst hpp
      have hn : Hid (ratesFrom c 18 (3 + 1) = b) := by rw [← ratesFrom_skip (by decide)]; exact hw.out
      clear hw hp
      go_wp2
      go_roundw
      case rel => exact ⟨3 + 1, 18, rfl, by first | rfl | go_num, hg.alloc _, hn⟩
      case measure => simp [intOf]
    · subst h
      obtain rfl : n = 17 + 1 := by omega
      obtain ⟨p, hp, -, c0, c1, c2, c3⟩ := part_at (hg.block HB.out) (show 4 < 22 by omega)
      have hpp : p = ⟨⟨#[102, 114, 101, 115, 104]⟩, c.fresh, 1, 8⟩ := by simpa [partsL] using hp.symm
      subst hpp
      have hn : Hid (ratesFrom c 17 (4 + 1) = b) := by rw [← ratesFrom_skip (by decide)]; exact hw.out
      clear hw hp
      go_wp2
      go_roundw
      case rel => exact ⟨4 + 1, 17, rfl, by first | rfl | go_num, hg.alloc _, hn⟩
      case measure => simp [intOf]
    · subst h
      obtain rfl : n = 16 + 1 := by omega
      obtain ⟨p, hp, -, c0, c1, c2, c3⟩ := part_at (hg.block HB.out) (show 5 < 22 by omega)
      have hpp : p = ⟨⟨#[103, 114, 97, 99, 101]⟩, c.grace, 1, 100⟩ := by simpa [partsL] using hp.symm
      subst hpp
      have hn : Hid (ratesFrom c 16 (5 + 1) = b) := by rw [← ratesFrom_skip (by decide)]; exact hw.out
      clear hw hp
      go_wp2
      go_roundw
      case rel => exact ⟨5 + 1, 16, rfl, by first | rfl | go_num, hg.alloc _, hn⟩
      case measure => simp [intOf]
    · subst h
      obtain rfl : n = 15 + 1 := by omega
      obtain ⟨p, hp, -, c0, c1, c2, c3⟩ := part_at (hg.block HB.out) (show 6 < 22 by omega)
      have hpp : p = ⟨⟨#[119, 105, 110, 100, 111, 119]⟩, c.window, 1, 64⟩ := by simpa [partsL] using hp.symm
      subst hpp
      have hn : Hid (ratesFrom c 15 (6 + 1) = b) := by rw [← ratesFrom_skip (by decide)]; exact hw.out
      clear hw hp
      go_wp2
      go_roundw
      case rel => exact ⟨6 + 1, 15, rfl, by first | rfl | go_num, hg.alloc _, hn⟩
      case measure => simp [intOf]
    · subst h
      obtain rfl : n = 14 + 1 := by omega
      obtain ⟨p, hp, -, c0, c1, c2, c3⟩ := part_at (hg.block HB.out) (show 7 < 22 by omega)
      have hpp : p = ⟨⟨#[116, 97, 114, 103, 101, 116]⟩, targetsV c, 1, 1⟩ := by simpa [partsL] using hp.symm
      subst hpp
      have hn : Hid (ratesFrom c 14 (7 + 1) = b) := by rw [← ratesFrom_skip (by decide)]; exact hw.out
      clear hw hp
      go_wp2
      go_roundw
      case rel => exact ⟨7 + 1, 14, rfl, by first | rfl | go_num, hg.alloc _, hn⟩
      case measure => simp [intOf]
    · subst h
      obtain rfl : n = 13 + 1 := by omega
      obtain ⟨p, hp, -, c0, c1, c2, c3⟩ := part_at (hg.block HB.out) (show 8 < 22 by omega)
      have hpp : p = ⟨⟨#[116, 111, 108]⟩, c.tol, 0, 1000⟩ := by simpa [partsL] using hp.symm
      subst hpp
      have hn : Hid (ratesFrom c 13 (8 + 1) = b) := by rw [← ratesFrom_skip (by decide)]; exact hw.out
      clear hw hp
      go_wp2
      go_roundw
      case rel => exact ⟨8 + 1, 13, rfl, by first | rfl | go_num, hg.alloc _, hn⟩
      case measure => simp [intOf]
    · subst h
      obtain rfl : n = 12 + 1 := by omega
      obtain ⟨p, hp, -, c0, c1, c2, c3⟩ := part_at (hg.block HB.out) (show 9 < 22 by omega)
      have hpp : p = ⟨⟨#[109, 105, 110]⟩, c.lo, 1, 10000⟩ := by simpa [partsL] using hp.symm
      subst hpp
      have hs : (!badP ⟨⟨#[109, 105, 110]⟩, c.lo, 1, 10000⟩ && ratesFrom c 12 (9 + 1)) = b := by rw [← ratesFrom_step (by decide) hp]; exact hw.out
      clear hw hp
      by_cases h1 : c.lo < 1
      · have hr : b = false := by rw [← hs]; simp [badP, h1]
        clear hs
        subst hr
        go_wp2
        go_ret
        exact ⟨rfl, (hgr.trans hg).alloc _⟩
      · by_cases h2 : 10000 < c.lo
        · have hr : b = false := by rw [← hs]; simp [badP, h2]
          clear hs
          subst hr
          go_wp2
          go_ret
          exact ⟨rfl, (hgr.trans hg).alloc _⟩
        · have hn : Hid (ratesFrom c 12 (9 + 1) = b) := by rw [← hs]; simp [badP, h1, h2, Hid]
          clear hs
          go_wp2
          go_roundw
          case rel => exact ⟨9 + 1, 12, rfl, by first | rfl | go_num, hg.alloc _, hn⟩
          case measure => simp [intOf]
    · subst h
      obtain rfl : n = 11 + 1 := by omega
      obtain ⟨p, hp, -, c0, c1, c2, c3⟩ := part_at (hg.block HB.out) (show 10 < 22 by omega)
      have hpp : p = ⟨⟨#[109, 97, 120]⟩, c.hi, c.lo, 10000⟩ := by simpa [partsL] using hp.symm
      subst hpp
      have hs : (!badP ⟨⟨#[109, 97, 120]⟩, c.hi, c.lo, 10000⟩ && ratesFrom c 11 (10 + 1)) = b := by rw [← ratesFrom_step (by decide) hp]; exact hw.out
      clear hw hp
      by_cases h1 : c.hi < c.lo
      · have hr : b = false := by rw [← hs]; simp [badP, h1]
        clear hs
        subst hr
        go_wp2
        go_ret
        exact ⟨rfl, (hgr.trans hg).alloc _⟩
      · by_cases h2 : 10000 < c.hi
        · have hr : b = false := by rw [← hs]; simp [badP, h2]
          clear hs
          subst hr
          go_wp2
          go_ret
          exact ⟨rfl, (hgr.trans hg).alloc _⟩
        · have hn : Hid (ratesFrom c 11 (10 + 1) = b) := by rw [← hs]; simp [badP, h1, h2, Hid]
          clear hs
          go_wp2
          go_roundw
          case rel => exact ⟨10 + 1, 11, rfl, by first | rfl | go_num, hg.alloc _, hn⟩
          case measure => simp [intOf]
    · subst h
      obtain rfl : n = 10 + 1 := by omega
      obtain ⟨p, hp, -, c0, c1, c2, c3⟩ := part_at (hg.block HB.out) (show 11 < 22 by omega)
      have hpp : p = ⟨⟨#[99, 97, 108, 109, 117, 112]⟩, c.cup, 0, 60⟩ := by simpa [partsL] using hp.symm
      subst hpp
      have hn : Hid (ratesFrom c 10 (11 + 1) = b) := by rw [← ratesFrom_skip (by decide)]; exact hw.out
      clear hw hp
      go_wp2
      go_roundw
      case rel => exact ⟨11 + 1, 10, rfl, by first | rfl | go_num, hg.alloc _, hn⟩
      case measure => simp [intOf]
    · subst h
      obtain rfl : n = 9 + 1 := by omega
      obtain ⟨p, hp, -, c0, c1, c2, c3⟩ := part_at (hg.block HB.out) (show 12 < 22 by omega)
      have hpp : p = ⟨⟨#[99, 97, 108, 109, 100, 111, 119, 110]⟩, c.cdn, 0, 60⟩ := by simpa [partsL] using hp.symm
      subst hpp
      have hn : Hid (ratesFrom c 9 (12 + 1) = b) := by rw [← ratesFrom_skip (by decide)]; exact hw.out
      clear hw hp
      go_wp2
      go_roundw
      case rel => exact ⟨12 + 1, 9, rfl, by first | rfl | go_num, hg.alloc _, hn⟩
      case measure => simp [intOf]
    · subst h
      obtain rfl : n = 8 + 1 := by omega
      obtain ⟨p, hp, -, c0, c1, c2, c3⟩ := part_at (hg.block HB.out) (show 13 < 22 by omega)
      have hpp : p = ⟨⟨#[112, 111, 100, 115, 117, 112]⟩, c.pup, 1, 1000⟩ := by simpa [partsL] using hp.symm
      subst hpp
      have hs : (!badP ⟨⟨#[112, 111, 100, 115, 117, 112]⟩, c.pup, 1, 1000⟩ && ratesFrom c 8 (13 + 1)) = b := by rw [← ratesFrom_step (by decide) hp]; exact hw.out
      clear hw hp
      by_cases h1 : c.pup < 1
      · have hr : b = false := by rw [← hs]; simp [badP, h1]
        clear hs
        subst hr
        go_wp2
        go_ret
        exact ⟨rfl, (hgr.trans hg).alloc _⟩
      · by_cases h2 : 1000 < c.pup
        · have hr : b = false := by rw [← hs]; simp [badP, h2]
          clear hs
          subst hr
          go_wp2
          go_ret
          exact ⟨rfl, (hgr.trans hg).alloc _⟩
        · have hn : Hid (ratesFrom c 8 (13 + 1) = b) := by rw [← hs]; simp [badP, h1, h2, Hid]
          clear hs
          go_wp2
          go_roundw
          case rel => exact ⟨13 + 1, 8, rfl, by first | rfl | go_num, hg.alloc _, hn⟩
          case measure => simp [intOf]
    · subst h
      obtain rfl : n = 7 + 1 := by omega
      obtain ⟨p, hp, -, c0, c1, c2, c3⟩ := part_at (hg.block HB.out) (show 14 < 22 by omega)
      have hpp : p = ⟨⟨#[112, 99, 116, 117, 112]⟩, c.tup, 1, 1000⟩ := by simpa [partsL] using hp.symm
      subst hpp
      have hs : (!badP ⟨⟨#[112, 99, 116, 117, 112]⟩, c.tup, 1, 1000⟩ && ratesFrom c 7 (14 + 1)) = b := by rw [← ratesFrom_step (by decide) hp]; exact hw.out
      clear hw hp
      by_cases h1 : c.tup < 1
      · have hr : b = false := by rw [← hs]; simp [badP, h1]
        clear hs
        subst hr
        go_wp2
        go_ret
        exact ⟨rfl, (hgr.trans hg).alloc _⟩
      · by_cases h2 : 1000 < c.tup
        · have hr : b = false := by rw [← hs]; simp [badP, h2]
          clear hs
          subst hr
          go_wp2
          go_ret
          exact ⟨rfl, (hgr.trans hg).alloc _⟩
        · have hn : Hid (ratesFrom c 7 (14 + 1) = b) := by rw [← hs]; simp [badP, h1, h2, Hid]
          clear hs
          go_wp2
          go_roundw
          case rel => exact ⟨14 + 1, 7, rfl, by first | rfl | go_num, hg.alloc _, hn⟩
          case measure => simp [intOf]
    · subst h
      obtain rfl : n = 6 + 1 := by omega
      obtain ⟨p, hp, -, c0, c1, c2, c3⟩ := part_at (hg.block HB.out) (show 15 < 22 by omega)
      have hpp : p = ⟨⟨#[112, 111, 100, 115, 100, 111, 119, 110]⟩, c.pdn, 1, 1000⟩ := by simpa [partsL] using hp.symm
      subst hpp
      have hs : (!badP ⟨⟨#[112, 111, 100, 115, 100, 111, 119, 110]⟩, c.pdn, 1, 1000⟩ && ratesFrom c 6 (15 + 1)) = b := by rw [← ratesFrom_step (by decide) hp]; exact hw.out
      clear hw hp
      by_cases h1 : c.pdn < 1
      · have hr : b = false := by rw [← hs]; simp [badP, h1]
        clear hs
        subst hr
        go_wp2
        go_ret
        exact ⟨rfl, (hgr.trans hg).alloc _⟩
      · by_cases h2 : 1000 < c.pdn
        · have hr : b = false := by rw [← hs]; simp [badP, h2]
          clear hs
          subst hr
          go_wp2
          go_ret
          exact ⟨rfl, (hgr.trans hg).alloc _⟩
        · have hn : Hid (ratesFrom c 6 (15 + 1) = b) := by rw [← hs]; simp [badP, h1, h2, Hid]
          clear hs
          go_wp2
          go_roundw
          case rel => exact ⟨15 + 1, 6, rfl, by first | rfl | go_num, hg.alloc _, hn⟩
          case measure => simp [intOf]
    · subst h
      obtain rfl : n = 5 + 1 := by omega
      obtain ⟨p, hp, -, c0, c1, c2, c3⟩ := part_at (hg.block HB.out) (show 16 < 22 by omega)
      have hpp : p = ⟨⟨#[112, 99, 116, 100, 111, 119, 110]⟩, c.tdn, 1, 100⟩ := by simpa [partsL] using hp.symm
      subst hpp
      have hs : (!badP ⟨⟨#[112, 99, 116, 100, 111, 119, 110]⟩, c.tdn, 1, 100⟩ && ratesFrom c 5 (16 + 1)) = b := by rw [← ratesFrom_step (by decide) hp]; exact hw.out
      clear hw hp
      by_cases h1 : c.tdn < 1
      · have hr : b = false := by rw [← hs]; simp [badP, h1]
        clear hs
        subst hr
        go_wp2
        go_ret
        exact ⟨rfl, (hgr.trans hg).alloc _⟩
      · by_cases h2 : 100 < c.tdn
        · have hr : b = false := by rw [← hs]; simp [badP, h2]
          clear hs
          subst hr
          go_wp2
          go_ret
          exact ⟨rfl, (hgr.trans hg).alloc _⟩
        · have hn : Hid (ratesFrom c 5 (16 + 1) = b) := by rw [← hs]; simp [badP, h1, h2, Hid]
          clear hs
          go_wp2
          go_roundw
          case rel => exact ⟨16 + 1, 5, rfl, by first | rfl | go_num, hg.alloc _, hn⟩
          case measure => simp [intOf]
    · subst h
      obtain rfl : n = 4 + 1 := by omega
      obtain ⟨p, hp, -, c0, c1, c2, c3⟩ := part_at (hg.block HB.out) (show 17 < 22 by omega)
      have hpp : p = ⟨⟨#[112, 101, 114, 105, 111, 100]⟩, c.per, 1, 60⟩ := by simpa [partsL] using hp.symm
      subst hpp
      have hs : (!badP ⟨⟨#[112, 101, 114, 105, 111, 100]⟩, c.per, 1, 60⟩ && ratesFrom c 4 (17 + 1)) = b := by rw [← ratesFrom_step (by decide) hp]; exact hw.out
      clear hw hp
      by_cases h1 : c.per < 1
      · have hr : b = false := by rw [← hs]; simp [badP, h1]
        clear hs
        subst hr
        go_wp2
        go_ret
        exact ⟨rfl, (hgr.trans hg).alloc _⟩
      · by_cases h2 : 60 < c.per
        · have hr : b = false := by rw [← hs]; simp [badP, h2]
          clear hs
          subst hr
          go_wp2
          go_ret
          exact ⟨rfl, (hgr.trans hg).alloc _⟩
        · have hn : Hid (ratesFrom c 4 (17 + 1) = b) := by rw [← hs]; simp [badP, h1, h2, Hid]
          clear hs
          go_wp2
          go_roundw
          case rel => exact ⟨17 + 1, 4, rfl, by first | rfl | go_num, hg.alloc _, hn⟩
          case measure => simp [intOf]
    · subst h
      obtain rfl : n = 3 + 1 := by omega
      obtain ⟨p, hp, -, c0, c1, c2, c3⟩ := part_at (hg.block HB.out) (show 18 < 22 by omega)
      have hpp : p = ⟨⟨#[102, 97, 114]⟩, c.far, 0, 1099511627776⟩ := by simpa [partsL] using hp.symm
      subst hpp
      have hn : Hid (ratesFrom c 3 (18 + 1) = b) := by rw [← ratesFrom_skip (by decide)]; exact hw.out
      clear hw hp
      go_wp2
      go_roundw
      case rel => exact ⟨18 + 1, 3, rfl, by first | rfl | go_num, hg.alloc _, hn⟩
      case measure => simp [intOf]
    · subst h
      obtain rfl : n = 2 + 1 := by omega
      obtain ⟨p, hp, -, c0, c1, c2, c3⟩ := part_at (hg.block HB.out) (show 19 < 22 by omega)
      have hpp : p = ⟨⟨#[115, 116, 114, 105, 107, 101, 115]⟩, c.str, 1, 100⟩ := by simpa [partsL] using hp.symm
      subst hpp
      have hn : Hid (ratesFrom c 2 (19 + 1) = b) := by rw [← ratesFrom_skip (by decide)]; exact hw.out
      clear hw hp
      go_wp2
      go_roundw
      case rel => exact ⟨19 + 1, 2, rfl, by first | rfl | go_num, hg.alloc _, hn⟩
      case measure => simp [intOf]
    · subst h
      obtain rfl : n = 1 + 1 := by omega
      obtain ⟨p, hp, -, c0, c1, c2, c3⟩ := part_at (hg.block HB.out) (show 20 < 22 by omega)
      have hpp : p = ⟨⟨#[112, 114, 111, 98, 101]⟩, c.pro, 1, 100⟩ := by simpa [partsL] using hp.symm
      subst hpp
      have hn : Hid (ratesFrom c 1 (20 + 1) = b) := by rw [← ratesFrom_skip (by decide)]; exact hw.out
      clear hw hp
      go_wp2
      go_roundw
      case rel => exact ⟨20 + 1, 1, rfl, by first | rfl | go_num, hg.alloc _, hn⟩
      case measure => simp [intOf]
    · subst h
      obtain rfl : n = 0 + 1 := by omega
      obtain ⟨p, hp, -, c0, c1, c2, c3⟩ := part_at (hg.block HB.out) (show 21 < 22 by omega)
      have hpp : p = ⟨⟨#[115, 101, 99, 116, 111, 114, 115]⟩, c.sec, 64, 4096⟩ := by simpa [partsL] using hp.symm
      subst hpp
      have hn : Hid (ratesFrom c 0 (21 + 1) = b) := by rw [← ratesFrom_skip (by decide)]; exact hw.out
      clear hw hp
      go_wp2
      go_roundw
      case rel => exact ⟨21 + 1, 0, rfl, by first | rfl | go_num, hg.alloc _, hn⟩
      case measure => simp [intOf]
    · subst h
      obtain rfl : n = 0 := by omega
      have hr : b = true := hw.out.symm
      clear hw
      subst hr
      go_wp2
      go_ret
      exact ⟨rfl, hgr.trans hg⟩
theorem rates_any (c : CF) (w : World) : Calls Try.prog 85 #[.agg #[.int .i64 c.n, .int .i64 c.f, .int .i64 c.m, .int .i64 c.q, .int .i64 c.fresh, .int .i64 c.grace, .int .i64 c.window, .int .i64 c.t0, .int .i64 c.t1, .int .i64 c.t2, .int .i64 c.t3, .int .i64 c.tol, .int .i64 c.lo, .int .i64 c.hi, .int .i64 c.cup, .int .i64 c.cdn, .int .i64 c.pup, .int .i64 c.tup, .int .i64 c.pdn, .int .i64 c.tdn, .int .i64 c.per, .int .i64 c.far, .int .i64 c.str, .int .i64 c.pro, .int .i64 c.sec, .int .u64 c.seed]] w fun e w' => e = .returned (.bool (ratesC c)) ∧ Gr w w' := rates_core c _ rfl w
end Go.Proofs.Ytjobicffdcnnlaa
