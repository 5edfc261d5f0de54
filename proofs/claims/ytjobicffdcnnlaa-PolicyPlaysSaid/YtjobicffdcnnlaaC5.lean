import Derived.Test.YtjobicffdcnnlaaC4
namespace Go.Proofs.Ytjobicffdcnnlaa
open Go.RowKit
set_option linter.unusedSimpArgs false
set_option linter.unusedVariables false

/-- Which parts bound a count's rate: min, max, podsup, pctup, podsdown, pctdown, period. -/
def rateAt (k : Nat) : Bool := k == 9 || k == 10 || (13 ≤ k && k ≤ 17)
def ratesFrom (c : CF) : Nat → Nat → Bool
  | 0, _ => true
  | n + 1, k => (!rateAt k || !badP ((partsL c).getD k ⟨⟨#[]⟩, 0, 0, 0⟩)) && ratesFrom c n (k + 1)
def ratesC (c : CF) : Bool := ratesFrom c 22 0

theorem ratesFrom_skip {c : CF} {n k : Nat} (h : rateAt k = false) : ratesFrom c (n + 1) k = ratesFrom c n (k + 1) := by
  rw [ratesFrom, h]; rfl
theorem ratesFrom_step {c : CF} {n k : Nat} {p : Part} (h : rateAt k = true) (hp : (partsL c)[k]? = some p) : ratesFrom c (n + 1) k = (!badP p && ratesFrom c n (k + 1)) := by
  rw [ratesFrom, h, List.getD_eq_getElem?_getD, hp]; rfl

set_option maxHeartbeats 4000000 in
set_option maxRecDepth 100000 in
theorem rates_core (c : CF) (b : Bool) (hb0 : ratesC c = b) (w : World) : Calls Try.prog 85 #[.agg #[.int .i64 c.n, .int .i64 c.f, .int .i64 c.m, .int .i64 c.q, .int .i64 c.fresh, .int .i64 c.grace, .int .i64 c.window, .int .i64 c.t0, .int .i64 c.t1, .int .i64 c.t2, .int .i64 c.t3, .int .i64 c.tol, .int .i64 c.lo, .int .i64 c.hi, .int .i64 c.cup, .int .i64 c.cdn, .int .i64 c.pup, .int .i64 c.tup, .int .i64 c.pdn, .int .i64 c.tdn, .int .i64 c.per, .int .i64 c.far, .int .i64 c.str, .int .i64 c.pro, .int .i64 c.sec, .int .u64 c.seed]] w fun e w' => e = .returned (.bool b) ∧ Gr w w' := by
  have HR : Hid (ratesFrom c 22 0 = b) := by unfold ratesC at hb0; exact hb0
  clear hb0
  have hpa := fun w => parts_any c w
  have HP := Lib.hid hpa; clear hpa
  go_enter Try.func85, Try.ntmps85
  go_wp2_with fail
  refine (HP.out _).mono ?_
  rintro e w1 ⟨B, rfl, hB, hblk, hgr0⟩
  have hgr : Gr w w1 := ((Gr.refl w).alloc _).trans hgr0
  clear hgr0 HP
  have HB := Lib.hid hblk; clear hblk
  go_wp2_with fail
  go_loopw [8] (fun i wr => ∃ k n : Nat, k + n = 22 ∧ i = .int .i64 k ∧ Gr w1 wr ∧ Hid (ratesFrom c n k = b)) (fun i _ => 22 - (intOf i).toNat)
  case atStart => exact ⟨0, 22, rfl, rfl, Gr.refl _, HR⟩
  case round =>
    obtain ⟨k, n, hk, rfl, hg, hw⟩ := hrel
    rcases (show k = 0 ∨ k = 1 ∨ k = 2 ∨ k = 3 ∨ k = 4 ∨ k = 5 ∨ k = 6 ∨ k = 7 ∨ k = 8 ∨ k = 9 ∨ k = 10 ∨ k = 11 ∨ k = 12 ∨ k = 13 ∨ k = 14 ∨ k = 15 ∨ k = 16 ∨ k = 17 ∨ k = 18 ∨ k = 19 ∨ k = 20 ∨ k = 21 ∨ k = 22 by omega) with h | h | h | h | h | h | h | h | h | h | h | h | h | h | h | h | h | h | h | h | h | h | h
    · subst h
      obtain rfl : n = 21 + 1 := by omega
      obtain ⟨p, hp, -, c0, c1, c2, c3⟩ := part_at (hg.block HB.out) (show 0 < 22 by omega)
      have hpp : p = ⟨⟨#[110]⟩, c.n, 1, 16⟩ := by simpa [partsL] using hp.symm
      subst hpp
      have hn : Hid (ratesFrom c 21 (0 + 1) = b) := by rw [← ratesFrom_skip (by decide)]; exact hw.out
      clear hw hp
      go_wp2
      go_roundw
      case rel => exact ⟨0 + 1, 21, rfl, by first | rfl | go_num, hg.alloc _, hn⟩
      case measure => simp [intOf]
    · subst h
      obtain rfl : n = 20 + 1 := by omega
      obtain ⟨p, hp, -, c0, c1, c2, c3⟩ := part_at (hg.block HB.out) (show 1 < 22 by omega)
      have hpp : p = ⟨⟨#[102]⟩, c.f, 0, fHi c.n⟩ := by simpa [partsL] using hp.symm
      subst hpp
      have hn : Hid (ratesFrom c 20 (1 + 1) = b) := by rw [← ratesFrom_skip (by decide)]; exact hw.out
      clear hw hp
      go_wp2
      go_roundw
      case rel => exact ⟨1 + 1, 20, rfl, by first | rfl | go_num, hg.alloc _, hn⟩
      case measure => simp [intOf]
    · subst h
      obtain rfl : n = 19 + 1 := by omega
      obtain ⟨p, hp, -, c0, c1, c2, c3⟩ := part_at (hg.block HB.out) (show 2 < 22 by omega)
      have hpp : p = ⟨⟨#[109]⟩, c.m, 1, 4⟩ := by simpa [partsL] using hp.symm
      subst hpp
      have hn : Hid (ratesFrom c 19 (2 + 1) = b) := by rw [← ratesFrom_skip (by decide)]; exact hw.out
      clear hw hp
      go_wp2
      go_roundw
      case rel => exact ⟨2 + 1, 19, rfl, by first | rfl | go_num, hg.alloc _, hn⟩
      case measure => simp [intOf]
    · subst h
      obtain rfl : n = 18 + 1 := by omega
      obtain ⟨p, hp, -, c0, c1, c2, c3⟩ := part_at (hg.block HB.out) (show 3 < 22 by omega)
      have hpp : p = ⟨⟨#[113, 117, 111, 114, 117, 109]⟩, c.q, 2 * clampF c.f + 1, c.n⟩ := by simpa [partsL] using hp.symm
      subst hpp
      have hn : Hid (ratesFrom c 18 (3 + 1) = b) := by rw [← ratesFrom_skip (by decide)]; exact hw.out
      clear hw hp
      go_wp2
      go_roundw
      case rel => exact ⟨3 + 1, 18, rfl, by first | rfl | go_num, hg.alloc _, hn⟩
      case measure => simp [intOf]
    · subst h
      obtain rfl : n = 17 + 1 := by omega
      obtain ⟨p, hp, -, c0, c1, c2, c3⟩ := part_at (hg.block HB.out) (show 4 < 22 by omega)
      have hpp : p = ⟨⟨#[102, 114, 101, 115, 104]⟩, c.fresh, 1, 8⟩ := by simpa [partsL] using hp.symm
      subst hpp
      have hn : Hid (ratesFrom c 17 (4 + 1) = b) := by rw [← ratesFrom_skip (by decide)]; exact hw.out
      clear hw hp
      go_wp2
      go_roundw
      case rel => exact ⟨4 + 1, 17, rfl, by first | rfl | go_num, hg.alloc _, hn⟩
      case measure => simp [intOf]
    · subst h
      obtain rfl : n = 16 + 1 := by omega
      obtain ⟨p, hp, -, c0, c1, c2, c3⟩ := part_at (hg.block HB.out) (show 5 < 22 by omega)
      have hpp : p = ⟨⟨#[103, 114, 97, 99, 101]⟩, c.grace, 1, 100⟩ := by simpa [partsL] using hp.symm
      subst hpp
      have hn : Hid (ratesFrom c 16 (5 + 1) = b) := by rw [← ratesFrom_skip (by decide)]; exact hw.out
      clear hw hp
      go_wp2
      go_roundw
      case rel => exact ⟨5 + 1, 16, rfl, by first | rfl | go_num, hg.alloc _, hn⟩
      case measure => simp [intOf]
    · subst h
      obtain rfl : n = 15 + 1 := by omega
      obtain ⟨p, hp, -, c0, c1, c2, c3⟩ := part_at (hg.block HB.out) (show 6 < 22 by omega)
      have hpp : p = ⟨⟨#[119, 105, 110, 100, 111, 119]⟩, c.window, 1, 64⟩ := by simpa [partsL] using hp.symm
      subst hpp
      have hn : Hid (ratesFrom c 15 (6 + 1) = b) := by rw [← ratesFrom_skip (by decide)]; exact hw.out
      clear hw hp
      go_wp2
      go_roundw
      case rel => exact ⟨6 + 1, 15, rfl, by first | rfl | go_num, hg.alloc _, hn⟩
      case measure => simp [intOf]
    · subst h
      obtain rfl : n = 14 + 1 := by omega
      obtain ⟨p, hp, -, c0, c1, c2, c3⟩ := part_at (hg.block HB.out) (show 7 < 22 by omega)
      have hpp : p = ⟨⟨#[116, 97, 114, 103, 101, 116]⟩, targetsV c, 1, 1⟩ := by simpa [partsL] using hp.symm
      subst hpp
      have hn : Hid (ratesFrom c 14 (7 + 1) = b) := by rw [← ratesFrom_skip (by decide)]; exact hw.out
      clear hw hp
      go_wp2
      go_roundw
      case rel => exact ⟨7 + 1, 14, rfl, by first | rfl | go_num, hg.alloc _, hn⟩
      case measure => simp [intOf]
    · subst h
      obtain rfl : n = 13 + 1 := by omega
      obtain ⟨p, hp, -, c0, c1, c2, c3⟩ := part_at (hg.block HB.out) (show 8 < 22 by omega)
      have hpp : p = ⟨⟨#[116, 111, 108]⟩, c.tol, 0, 1000⟩ := by simpa [partsL] using hp.symm
      subst hpp
      have hn : Hid (ratesFrom c 13 (8 + 1) = b) := by rw [← ratesFrom_skip (by decide)]; exact hw.out
      clear hw hp
      go_wp2
      go_roundw
      case rel => exact ⟨8 + 1, 13, rfl, by first | rfl | go_num, hg.alloc _, hn⟩
      case measure => simp [intOf]
    · subst h
      obtain rfl : n = 12 + 1 := by omega
      obtain ⟨p, hp, -, c0, c1, c2, c3⟩ := part_at (hg.block HB.out) (show 9 < 22 by omega)
      have hpp : p = ⟨⟨#[109, 105, 110]⟩, c.lo, 1, 10000⟩ := by simpa [partsL] using hp.symm
      subst hpp
      have hs : (!badP ⟨⟨#[109, 105, 110]⟩, c.lo, 1, 10000⟩ && ratesFrom c 12 (9 + 1)) = b := by rw [← ratesFrom_step (by decide) hp]; exact hw.out
      clear hw hp
      by_cases h1 : c.lo < 1
      · have hr : b = false := by rw [← hs]; simp [badP, h1]
        clear hs
        subst hr
        go_wp2
        go_ret
        exact ⟨rfl, (hgr.trans hg).alloc _⟩
      · by_cases h2 : 10000 < c.lo
        · have hr : b = false := by rw [← hs]; simp [badP, h2]
          clear hs
          subst hr
          go_wp2
          go_ret
          exact ⟨rfl, (hgr.trans hg).alloc _⟩
        · have hn : Hid (ratesFrom c 12 (9 + 1) = b) := by rw [← hs]; simp [badP, h1, h2, Hid]
          clear hs
          go_wp2
          go_roundw
          case rel => exact ⟨9 + 1, 12, rfl, by first | rfl | go_num, hg.alloc _, hn⟩
          case measure => simp [intOf]
    · subst h
      obtain rfl : n = 11 + 1 := by omega
      obtain ⟨p, hp, -, c0, c1, c2, c3⟩ := part_at (hg.block HB.out) (show 10 < 22 by omega)
      have hpp : p = ⟨⟨#[109, 97, 120]⟩, c.hi, c.lo, 10000⟩ := by simpa [partsL] using hp.symm
      subst hpp
      have hs : (!badP ⟨⟨#[109, 97, 120]⟩, c.hi, c.lo, 10000⟩ && ratesFrom c 11 (10 + 1)) = b := by rw [← ratesFrom_step (by decide) hp]; exact hw.out
      clear hw hp
      by_cases h1 : c.hi < c.lo
      · have hr : b = false := by rw [← hs]; simp [badP, h1]
        clear hs
        subst hr
        go_wp2
        go_ret
        exact ⟨rfl, (hgr.trans hg).alloc _⟩
      · by_cases h2 : 10000 < c.hi
        · have hr : b = false := by rw [← hs]; simp [badP, h2]
          clear hs
          subst hr
          go_wp2
          go_ret
          exact ⟨rfl, (hgr.trans hg).alloc _⟩
        · have hn : Hid (ratesFrom c 11 (10 + 1) = b) := by rw [← hs]; simp [badP, h1, h2, Hid]
          clear hs
          go_wp2
          go_roundw
          case rel => exact ⟨10 + 1, 11, rfl, by first | rfl | go_num, hg.alloc _, hn⟩
          case measure => simp [intOf]
    · subst h
      obtain rfl : n = 10 + 1 := by omega
      obtain ⟨p, hp, -, c0, c1, c2, c3⟩ := part_at (hg.block HB.out) (show 11 < 22 by omega)
      have hpp : p = ⟨⟨#[99, 97, 108, 109, 117, 112]⟩, c.cup, 0, 60⟩ := by simpa [partsL] using hp.symm
      subst hpp
      have hn : Hid (ratesFrom c 10 (11 + 1) = b) := by rw [← ratesFrom_skip (by decide)]; exact hw.out
      clear hw hp
      go_wp2
      go_roundw
      case rel => exact ⟨11 + 1, 10, rfl, by first | rfl | go_num, hg.alloc _, hn⟩
      case measure => simp [intOf]
    · subst h
      obtain rfl : n = 9 + 1 := by omega
      obtain ⟨p, hp, -, c0, c1, c2, c3⟩ := part_at (hg.block HB.out) (show 12 < 22 by omega)
      have hpp : p = ⟨⟨#[99, 97, 108, 109, 100, 111, 119, 110]⟩, c.cdn, 0, 60⟩ := by simpa [partsL] using hp.symm
      subst hpp
      have hn : Hid (ratesFrom c 9 (12 + 1) = b) := by rw [← ratesFrom_skip (by decide)]; exact hw.out
      clear hw hp
      go_wp2
      go_roundw
      case rel => exact ⟨12 + 1, 9, rfl, by first | rfl | go_num, hg.alloc _, hn⟩
      case measure => simp [intOf]
    · subst h
      obtain rfl : n = 8 + 1 := by omega
      obtain ⟨p, hp, -, c0, c1, c2, c3⟩ := part_at (hg.block HB.out) (show 13 < 22 by omega)
      have hpp : p = ⟨⟨#[112, 111, 100, 115, 117, 112]⟩, c.pup, 1, 1000⟩ := by simpa [partsL] using hp.symm
      subst hpp
      have hs : (!badP ⟨⟨#[112, 111, 100, 115, 117, 112]⟩, c.pup, 1, 1000⟩ && ratesFrom c 8 (13 + 1)) = b := by rw [← ratesFrom_step (by decide) hp]; exact hw.out
      clear hw hp
      by_cases h1 : c.pup < 1
      · have hr : b = false := by rw [← hs]; simp [badP, h1]
        clear hs
        subst hr
        go_wp2
        go_ret
        exact ⟨rfl, (hgr.trans hg).alloc _⟩
      · by_cases h2 : 1000 < c.pup
        · have hr : b = false := by rw [← hs]; simp [badP, h2]
          clear hs
          subst hr
          go_wp2
          go_ret
          exact ⟨rfl, (hgr.trans hg).alloc _⟩
        · have hn : Hid (ratesFrom c 8 (13 + 1) = b) := by rw [← hs]; simp [badP, h1, h2, Hid]
          clear hs
          go_wp2
          go_roundw
          case rel => exact ⟨13 + 1, 8, rfl, by first | rfl | go_num, hg.alloc _, hn⟩
          case measure => simp [intOf]
    · subst h
      obtain rfl : n = 7 + 1 := by omega
      obtain ⟨p, hp, -, c0, c1, c2, c3⟩ := part_at (hg.block HB.out) (show 14 < 22 by omega)
      have hpp : p = ⟨⟨#[112, 99, 116, 117, 112]⟩, c.tup, 1, 1000⟩ := by simpa [partsL] using hp.symm
      subst hpp
      have hs : (!badP ⟨⟨#[112, 99, 116, 117, 112]⟩, c.tup, 1, 1000⟩ && ratesFrom c 7 (14 + 1)) = b := by rw [← ratesFrom_step (by decide) hp]; exact hw.out
      clear hw hp
      by_cases h1 : c.tup < 1
      · have hr : b = false := by rw [← hs]; simp [badP, h1]
        clear hs
        subst hr
        go_wp2
        go_ret
        exact ⟨rfl, (hgr.trans hg).alloc _⟩
      · by_cases h2 : 1000 < c.tup
        · have hr : b = false := by rw [← hs]; simp [badP, h2]
          clear hs
          subst hr
          go_wp2
          go_ret
          exact ⟨rfl, (hgr.trans hg).alloc _⟩
        · have hn : Hid (ratesFrom c 7 (14 + 1) = b) := by rw [← hs]; simp [badP, h1, h2, Hid]
          clear hs
          go_wp2
          go_roundw
          case rel => exact ⟨14 + 1, 7, rfl, by first | rfl | go_num, hg.alloc _, hn⟩
          case measure => simp [intOf]
    · subst h
      obtain rfl : n = 6 + 1 := by omega
      obtain ⟨p, hp, -, c0, c1, c2, c3⟩ := part_at (hg.block HB.out) (show 15 < 22 by omega)
      have hpp : p = ⟨⟨#[112, 111, 100, 115, 100, 111, 119, 110]⟩, c.pdn, 1, 1000⟩ := by simpa [partsL] using hp.symm
      subst hpp
      have hs : (!badP ⟨⟨#[112, 111, 100, 115, 100, 111, 119, 110]⟩, c.pdn, 1, 1000⟩ && ratesFrom c 6 (15 + 1)) = b := by rw [← ratesFrom_step (by decide) hp]; exact hw.out
      clear hw hp
      by_cases h1 : c.pdn < 1
      · have hr : b = false := by rw [← hs]; simp [badP, h1]
        clear hs
        subst hr
        go_wp2
        go_ret
        exact ⟨rfl, (hgr.trans hg).alloc _⟩
      · by_cases h2 : 1000 < c.pdn
        · have hr : b = false := by rw [← hs]; simp [badP, h2]
          clear hs
          subst hr
          go_wp2
          go_ret
          exact ⟨rfl, (hgr.trans hg).alloc _⟩
        · have hn : Hid (ratesFrom c 6 (15 + 1) = b) := by rw [← hs]; simp [badP, h1, h2, Hid]
          clear hs
          go_wp2
          go_roundw
          case rel => exact ⟨15 + 1, 6, rfl, by first | rfl | go_num, hg.alloc _, hn⟩
          case measure => simp [intOf]
    · subst h
      obtain rfl : n = 5 + 1 := by omega
      obtain ⟨p, hp, -, c0, c1, c2, c3⟩ := part_at (hg.block HB.out) (show 16 < 22 by omega)
      have hpp : p = ⟨⟨#[112, 99, 116, 100, 111, 119, 110]⟩, c.tdn, 1, 100⟩ := by simpa [partsL] using hp.symm
      subst hpp
      have hs : (!badP ⟨⟨#[112, 99, 116, 100, 111, 119, 110]⟩, c.tdn, 1, 100⟩ && ratesFrom c 5 (16 + 1)) = b := by rw [← ratesFrom_step (by decide) hp]; exact hw.out
      clear hw hp
      by_cases h1 : c.tdn < 1
      · have hr : b = false := by rw [← hs]; simp [badP, h1]
        clear hs
        subst hr
        go_wp2
        go_ret
        exact ⟨rfl, (hgr.trans hg).alloc _⟩
      · by_cases h2 : 100 < c.tdn
        · have hr : b = false := by rw [← hs]; simp [badP, h2]
          clear hs
          subst hr
          go_wp2
          go_ret
          exact ⟨rfl, (hgr.trans hg).alloc _⟩
        · have hn : Hid (ratesFrom c 5 (16 + 1) = b) := by rw [← hs]; simp [badP, h1, h2, Hid]
          clear hs
          go_wp2
          go_roundw
          case rel => exact ⟨16 + 1, 5, rfl, by first | rfl | go_num, hg.alloc _, hn⟩
          case measure => simp [intOf]
    · subst h
      obtain rfl : n = 4 + 1 := by omega
      obtain ⟨p, hp, -, c0, c1, c2, c3⟩ := part_at (hg.block HB.out) (show 17 < 22 by omega)
      have hpp : p = ⟨⟨#[112, 101, 114, 105, 111, 100]⟩, c.per, 1, 60⟩ := by simpa [partsL] using hp.symm
      subst hpp
      have hs : (!badP ⟨⟨#[112, 101, 114, 105, 111, 100]⟩, c.per, 1, 60⟩ && ratesFrom c 4 (17 + 1)) = b := by rw [← ratesFrom_step (by decide) hp]; exact hw.out
      clear hw hp
      by_cases h1 : c.per < 1
      · have hr : b = false := by rw [← hs]; simp [badP, h1]
        clear hs
        subst hr
        go_wp2
        go_ret
        exact ⟨rfl, (hgr.trans hg).alloc _⟩
      · by_cases h2 : 60 < c.per
        · have hr : b = false := by rw [← hs]; simp [badP, h2]
          clear hs
          subst hr
          go_wp2
          go_ret
          exact ⟨rfl, (hgr.trans hg).alloc _⟩
        · have hn : Hid (ratesFrom c 4 (17 + 1) = b) := by rw [← hs]; simp [badP, h1, h2, Hid]
          clear hs
          go_wp2
          go_roundw
          case rel => exact ⟨17 + 1, 4, rfl, by first | rfl | go_num, hg.alloc _, hn⟩
          case measure => simp [intOf]
    · subst h
      obtain rfl : n = 3 + 1 := by omega
      obtain ⟨p, hp, -, c0, c1, c2, c3⟩ := part_at (hg.block HB.out) (show 18 < 22 by omega)
      have hpp : p = ⟨⟨#[102, 97, 114]⟩, c.far, 0, 1099511627776⟩ := by simpa [partsL] using hp.symm
      subst hpp
      have hn : Hid (ratesFrom c 3 (18 + 1) = b) := by rw [← ratesFrom_skip (by decide)]; exact hw.out
      clear hw hp
      go_wp2
      go_roundw
      case rel => exact ⟨18 + 1, 3, rfl, by first | rfl | go_num, hg.alloc _, hn⟩
      case measure => simp [intOf]
    · subst h
      obtain rfl : n = 2 + 1 := by omega
      obtain ⟨p, hp, -, c0, c1, c2, c3⟩ := part_at (hg.block HB.out) (show 19 < 22 by omega)
      have hpp : p = ⟨⟨#[115, 116, 114, 105, 107, 101, 115]⟩, c.str, 1, 100⟩ := by simpa [partsL] using hp.symm
      subst hpp
      have hn : Hid (ratesFrom c 2 (19 + 1) = b) := by rw [← ratesFrom_skip (by decide)]; exact hw.out
      clear hw hp
      go_wp2
      go_roundw
      case rel => exact ⟨19 + 1, 2, rfl, by first | rfl | go_num, hg.alloc _, hn⟩
      case measure => simp [intOf]
    · subst h
      obtain rfl : n = 1 + 1 := by omega
      obtain ⟨p, hp, -, c0, c1, c2, c3⟩ := part_at (hg.block HB.out) (show 20 < 22 by omega)
      have hpp : p = ⟨⟨#[112, 114, 111, 98, 101]⟩, c.pro, 1, 100⟩ := by simpa [partsL] using hp.symm
      subst hpp
      have hn : Hid (ratesFrom c 1 (20 + 1) = b) := by rw [← ratesFrom_skip (by decide)]; exact hw.out
      clear hw hp
      go_wp2
      go_roundw
      case rel => exact ⟨20 + 1, 1, rfl, by first | rfl | go_num, hg.alloc _, hn⟩
      case measure => simp [intOf]
    · subst h
      obtain rfl : n = 0 + 1 := by omega
      obtain ⟨p, hp, -, c0, c1, c2, c3⟩ := part_at (hg.block HB.out) (show 21 < 22 by omega)
      have hpp : p = ⟨⟨#[115, 101, 99, 116, 111, 114, 115]⟩, c.sec, 64, 4096⟩ := by simpa [partsL] using hp.symm
      subst hpp
      have hn : Hid (ratesFrom c 0 (21 + 1) = b) := by rw [← ratesFrom_skip (by decide)]; exact hw.out
      clear hw hp
      go_wp2
      go_roundw
      case rel => exact ⟨21 + 1, 0, rfl, by first | rfl | go_num, hg.alloc _, hn⟩
      case measure => simp [intOf]
    · subst h
      obtain rfl : n = 0 := by omega
      have hr : b = true := hw.out.symm
      clear hw
      subst hr
      go_wp2
      go_ret
      exact ⟨rfl, hgr.trans hg⟩
theorem rates_any (c : CF) (w : World) : Calls Try.prog 85 #[.agg #[.int .i64 c.n, .int .i64 c.f, .int .i64 c.m, .int .i64 c.q, .int .i64 c.fresh, .int .i64 c.grace, .int .i64 c.window, .int .i64 c.t0, .int .i64 c.t1, .int .i64 c.t2, .int .i64 c.t3, .int .i64 c.tol, .int .i64 c.lo, .int .i64 c.hi, .int .i64 c.cup, .int .i64 c.cdn, .int .i64 c.pup, .int .i64 c.tup, .int .i64 c.pdn, .int .i64 c.tdn, .int .i64 c.per, .int .i64 c.far, .int .i64 c.str, .int .i64 c.pro, .int .i64 c.sec, .int .u64 c.seed]] w fun e w' => e = .returned (.bool (ratesC c)) ∧ Gr w w' := rates_core c _ rfl w
end Go.Proofs.Ytjobicffdcnnlaa
