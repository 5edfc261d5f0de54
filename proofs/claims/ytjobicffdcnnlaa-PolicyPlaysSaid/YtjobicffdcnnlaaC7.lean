import Derived.Test.YtjobicffdcnnlaaC6
namespace Go.Proofs.Ytjobicffdcnnlaa
open Go.RowKit
set_option linter.unusedSimpArgs false
set_option linter.unusedVariables false

set_option maxHeartbeats 1000000 in
theorem r_targets_core (c : CF) (b : Bool) (hb : targetsB c = b) (w : World) : Calls Try.prog 84 #[.agg #[.int .i64 c.n, .int .i64 c.f, .int .i64 c.m, .int .i64 c.q, .int .i64 c.fresh, .int .i64 c.grace, .int .i64 c.window, .int .i64 c.t0, .int .i64 c.t1, .int .i64 c.t2, .int .i64 c.t3, .int .i64 c.tol, .int .i64 c.lo, .int .i64 c.hi, .int .i64 c.cup, .int .i64 c.cdn, .int .i64 c.pup, .int .i64 c.tup, .int .i64 c.pdn, .int .i64 c.tdn, .int .i64 c.per, .int .i64 c.far, .int .i64 c.str, .int .i64 c.pro, .int .i64 c.sec, .int .u64 c.seed]] w fun e w' => e = .returned (.bool b) ∧ w.alloc (.cells #[.int .i64 c.n, .int .i64 c.f, .int .i64 c.m, .int .i64 c.q, .int .i64 c.fresh, .int .i64 c.grace, .int .i64 c.window, .int .i64 c.t0, .int .i64 c.t1, .int .i64 c.t2, .int .i64 c.t3, .int .i64 c.tol, .int .i64 c.lo, .int .i64 c.hi, .int .i64 c.cup, .int .i64 c.cdn, .int .i64 c.pup, .int .i64 c.tup, .int .i64 c.pdn, .int .i64 c.tdn, .int .i64 c.per, .int .i64 c.far, .int .i64 c.str, .int .i64 c.pro, .int .i64 c.sec, .int .u64 c.seed] 36) = w' := by
  have H0 := Lib.hid hb; clear hb
  go_enter Try.func84, Try.ntmps84
  go_wp2
  go_loop [3] (fun i => ∃ k : Nat, k ≤ 4 ∧ i = .int .i64 k ∧ Hid (restT c k = b)) (fun i => 4 - (intOf i).toNat)
  case atStart => exact ⟨0, by omega, rfl, H0⟩
  case round =>
    obtain ⟨k, hk, rfl, hr⟩ := hrel
    rcases (show k = 0 ∨ k = 1 ∨ k = 2 ∨ k = 3 ∨ k = 4 by omega) with h | h | h | h | h <;> subst h
    · by_cases hm : (0 : Int) < c.m
      · have ho := okT_in (x := c.t0) hm
        by_cases hx : 1 ≤ c.t0
        · by_cases hy : c.t0 ≤ 1099511627776
          · have hn : Hid (restT c 1 = b) := by have h := hr.out; simpa only [restT, targetsB, ho, hx, hy, decide_true, Bool.true_and, Bool.and_true, Hid] using h
            clear hr ho
            go_wp2
            go_round
            case rel => exact ⟨1, by omega, by first | rfl | go_num, hn⟩
            case measure => simp [intOf]
          · have hf : b = false := by have h := hr.out; simp only [restT, targetsB, ho, hx, hy, decide_true, decide_false, Bool.and_false, Bool.false_and] at h; exact h.symm
            clear hr ho
            subst hf
            go_wp2
            go_ret
            exact ⟨rfl, rfl⟩
        · have hf : b = false := by have h := hr.out; simp only [restT, targetsB, ho, hx, decide_false, Bool.false_and] at h; exact h.symm
          clear hr ho
          subst hf
          go_wp2
          go_ret
          exact ⟨rfl, rfl⟩
      · have ho := okT_out (x := c.t0) hm
        by_cases hx : c.t0 = 0
        · have ho' : okT c 0 c.t0 = true := by rw [ho, hx]; rfl
          have hn : Hid (restT c 1 = b) := by have h := hr.out; simp only [restT, targetsB, ho', Bool.true_and] at h; exact h
          have hz : (c.t0 != 0) = false := by simp [hx]
          clear hr ho ho' hx
          go_wp2
          go_round
          case rel => exact ⟨1, by omega, by first | rfl | go_num, hn⟩
          case measure => simp [intOf]
        · have hz : (c.t0 != 0) = true := by simp [hx]
          have hf : b = false := by have h := hr.out; simp only [restT, targetsB, ho, beq_eq_false_iff_ne.2 hx, Bool.false_and] at h; exact h.symm
          clear hr ho hx
          subst hf
          go_wp2
          go_ret
          exact ⟨rfl, rfl⟩
    · by_cases hm : (1 : Int) < c.m
      · have ho := okT_in (x := c.t1) hm
        by_cases hx : 1 ≤ c.t1
        · by_cases hy : c.t1 ≤ 1099511627776
          · have hn : Hid (restT c 2 = b) := by have h := hr.out; simpa only [restT, targetsB, ho, hx, hy, decide_true, Bool.true_and, Bool.and_true, Hid] using h
            clear hr ho
            go_wp2
            go_round
            case rel => exact ⟨2, by omega, by first | rfl | go_num, hn⟩
            case measure => simp [intOf]
          · have hf : b = false := by have h := hr.out; simp only [restT, targetsB, ho, hx, hy, decide_true, decide_false, Bool.and_false, Bool.false_and] at h; exact h.symm
            clear hr ho
            subst hf
            go_wp2
            go_ret
            exact ⟨rfl, rfl⟩
        · have hf : b = false := by have h := hr.out; simp only [restT, targetsB, ho, hx, decide_false, Bool.false_and] at h; exact h.symm
          clear hr ho
          subst hf
          go_wp2
          go_ret
          exact ⟨rfl, rfl⟩
      · have ho := okT_out (x := c.t1) hm
        by_cases hx : c.t1 = 0
        · have ho' : okT c 1 c.t1 = true := by rw [ho, hx]; rfl
          have hn : Hid (restT c 2 = b) := by have h := hr.out; simp only [restT, targetsB, ho', Bool.true_and] at h; exact h
          have hz : (c.t1 != 0) = false := by simp [hx]
          clear hr ho ho' hx
          go_wp2
          go_round
          case rel => exact ⟨2, by omega, by first | rfl | go_num, hn⟩
          case measure => simp [intOf]
        · have hz : (c.t1 != 0) = true := by simp [hx]
          have hf : b = false := by have h := hr.out; simp only [restT, targetsB, ho, beq_eq_false_iff_ne.2 hx, Bool.false_and] at h; exact h.symm
          clear hr ho hx
          subst hf
          go_wp2
          go_ret
          exact ⟨rfl, rfl⟩
    · by_cases hm : (2 : Int) < c.m
      · have ho := okT_in (x := c.t2) hm
        by_cases hx : 1 ≤ c.t2
        · by_cases hy : c.t2 ≤ 1099511627776
          · have hn : Hid (restT c 3 = b) := by have h := hr.out; simpa only [restT, targetsB, ho, hx, hy, decide_true, Bool.true_and, Bool.and_true, Hid] using h
            clear hr ho
            go_wp2
            go_round
            case rel => exact ⟨3, by omega, by first | rfl | go_num, hn⟩
            case measure => simp [intOf]
          · have hf : b = false := by have h := hr.out; simp only [restT, targetsB, ho, hx, hy, decide_true, decide_false, Bool.and_false, Bool.false_and] at h; exact h.symm
            clear hr ho
            subst hf
            go_wp2
            go_ret
            exact ⟨rfl, rfl⟩
        · have hf : b = false := by have h := hr.out; simp only [restT, targetsB, ho, hx, decide_false, Bool.false_and] at h; exact h.symm
          clear hr ho
          subst hf
          go_wp2
          go_ret
          exact ⟨rfl, rfl⟩
      · have ho := okT_out (x := c.t2) hm
        by_cases hx : c.t2 = 0
        · have ho' : okT c 2 c.t2 = true := by rw [ho, hx]; rfl
          have hn : Hid (restT c 3 = b) := by have h := hr.out; simp only [restT, targetsB, ho', Bool.true_and] at h; exact h
          have hz : (c.t2 != 0) = false := by simp [hx]
          clear hr ho ho' hx
          go_wp2
          go_round
          case rel => exact ⟨3, by omega, by first | rfl | go_num, hn⟩
          case measure => simp [intOf]
        · have hz : (c.t2 != 0) = true := by simp [hx]
          have hf : b = false := by have h := hr.out; simp only [restT, targetsB, ho, beq_eq_false_iff_ne.2 hx, Bool.false_and] at h; exact h.symm
          clear hr ho hx
          subst hf
          go_wp2
          go_ret
          exact ⟨rfl, rfl⟩
    · by_cases hm : (3 : Int) < c.m
      · have ho := okT_in (x := c.t3) hm
        by_cases hx : 1 ≤ c.t3
        · by_cases hy : c.t3 ≤ 1099511627776
          · have hn : Hid (restT c 4 = b) := by have h := hr.out; simpa only [restT, targetsB, ho, hx, hy, decide_true, Bool.true_and, Bool.and_true, Hid] using h
            clear hr ho
            go_wp2
            go_round
            case rel => exact ⟨4, by omega, by first | rfl | go_num, hn⟩
            case measure => simp [intOf]
          · have hf : b = false := by have h := hr.out; simp only [restT, targetsB, ho, hx, hy, decide_true, decide_false, Bool.and_false, Bool.false_and] at h; exact h.symm
            clear hr ho
            subst hf
            go_wp2
            go_ret
            exact ⟨rfl, rfl⟩
        · have hf : b = false := by have h := hr.out; simp only [restT, targetsB, ho, hx, decide_false, Bool.false_and] at h; exact h.symm
          clear hr ho
          subst hf
          go_wp2
          go_ret
          exact ⟨rfl, rfl⟩
      · have ho := okT_out (x := c.t3) hm
        by_cases hx : c.t3 = 0
        · have ho' : okT c 3 c.t3 = true := by rw [ho, hx]; rfl
          have hn : Hid (restT c 4 = b) := by have h := hr.out; simp only [restT, targetsB, ho', Bool.true_and] at h; exact h
          have hz : (c.t3 != 0) = false := by simp [hx]
          clear hr ho ho' hx
          go_wp2
          go_round
          case rel => exact ⟨4, by omega, by first | rfl | go_num, hn⟩
          case measure => simp [intOf]
        · have hz : (c.t3 != 0) = true := by simp [hx]
          have hf : b = false := by have h := hr.out; simp only [restT, targetsB, ho, beq_eq_false_iff_ne.2 hx, Bool.false_and] at h; exact h.symm
          clear hr ho hx
          subst hf
          go_wp2
          go_ret
          exact ⟨rfl, rfl⟩
    · have hf : b = true := hr.out.symm
      clear hr
      subst hf
      go_wp2
      go_ret
      exact ⟨rfl, rfl⟩
theorem r_targets_any (c : CF) (w : World) : Calls Try.prog 84 #[.agg #[.int .i64 c.n, .int .i64 c.f, .int .i64 c.m, .int .i64 c.q, .int .i64 c.fresh, .int .i64 c.grace, .int .i64 c.window, .int .i64 c.t0, .int .i64 c.t1, .int .i64 c.t2, .int .i64 c.t3, .int .i64 c.tol, .int .i64 c.lo, .int .i64 c.hi, .int .i64 c.cup, .int .i64 c.cdn, .int .i64 c.pup, .int .i64 c.tup, .int .i64 c.pdn, .int .i64 c.tdn, .int .i64 c.per, .int .i64 c.far, .int .i64 c.str, .int .i64 c.pro, .int .i64 c.sec, .int .u64 c.seed]] w fun e w' => e = .returned (.bool (targetsB c)) ∧ w.alloc (.cells #[.int .i64 c.n, .int .i64 c.f, .int .i64 c.m, .int .i64 c.q, .int .i64 c.fresh, .int .i64 c.grace, .int .i64 c.window, .int .i64 c.t0, .int .i64 c.t1, .int .i64 c.t2, .int .i64 c.t3, .int .i64 c.tol, .int .i64 c.lo, .int .i64 c.hi, .int .i64 c.cup, .int .i64 c.cdn, .int .i64 c.pup, .int .i64 c.tup, .int .i64 c.pdn, .int .i64 c.tdn, .int .i64 c.per, .int .i64 c.far, .int .i64 c.str, .int .i64 c.pro, .int .i64 c.sec, .int .u64 c.seed] 36) = w' := r_targets_core c _ rfl w

def inR (a lo hi : Int) : Bool := decide (lo ≤ a) && decide (a ≤ hi)
theorem in_true (a lo hi : Int) (h : inR a lo hi = true) (w : World) : Calls Try.prog 83 #[.int .i64 a, .int .i64 lo, .int .i64 hi] w fun e w' => e = .returned (.bool true) ∧ w = w' := by rw [← h]; exact in_any1 a lo hi w
theorem in_false (a lo hi : Int) (h : inR a lo hi = false) (w : World) : Calls Try.prog 83 #[.int .i64 a, .int .i64 lo, .int .i64 hi] w fun e w' => e = .returned (.bool false) ∧ w = w' := by rw [← h]; exact in_any1 a lo hi w
def mayRatesR (c : CF) : Bool := inR c.lo 1 10000 && (inR c.hi c.lo 10000 && (inR c.pup 1 1000 && (inR c.tup 1 1000 && (inR c.pdn 1 1000 && (inR c.tdn 1 100 && inR c.per 1 60)))))

set_option maxHeartbeats 2000000 in
theorem mayRates_any (c : CF) (w : World) : Calls Try.prog 90 #[.agg #[.int .i64 c.n, .int .i64 c.f, .int .i64 c.m, .int .i64 c.q, .int .i64 c.fresh, .int .i64 c.grace, .int .i64 c.window, .int .i64 c.t0, .int .i64 c.t1, .int .i64 c.t2, .int .i64 c.t3, .int .i64 c.tol, .int .i64 c.lo, .int .i64 c.hi, .int .i64 c.cup, .int .i64 c.cdn, .int .i64 c.pup, .int .i64 c.tup, .int .i64 c.pdn, .int .i64 c.tdn, .int .i64 c.per, .int .i64 c.far, .int .i64 c.str, .int .i64 c.pro, .int .i64 c.sec, .int .u64 c.seed]] w fun e w' => e = .returned (.bool (mayRatesR c)) ∧ Gr w w' := by
  have hi := in_any1
  cases h0 : inR c.lo 1 10000 with
  | false =>
    have hr : mayRatesR c = false := by unfold mayRatesR; simp [h0]
    rw [hr]; clear hr hi
    have g0 := in_false c.lo 1 10000 h0
    clear h0
    go_enter Try.func90, Try.ntmps90
    go_wp2_with fail
    refine (g0 _).mono ?_; rintro e w' ⟨rfl, rfl⟩
    go_wp2
    go_ret
    exact ⟨rfl, (Gr.refl w).alloc _⟩
  | true =>
    cases h1 : inR c.hi c.lo 10000 with
    | false =>
      have hr : mayRatesR c = false := by unfold mayRatesR; simp [h0, h1]
      rw [hr]; clear hr hi
      have g0 := in_true c.lo 1 10000 h0
      have g1 := in_false c.hi c.lo 10000 h1
      clear h0 h1
      go_enter Try.func90, Try.ntmps90
      go_wp2_with fail
      refine (g0 _).mono ?_; rintro e w' ⟨rfl, rfl⟩
      go_wp2_with fail
      refine (g1 _).mono ?_; rintro e w' ⟨rfl, rfl⟩
      go_wp2
      go_ret
      exact ⟨rfl, (Gr.refl w).alloc _⟩
    | true =>
      cases h2 : inR c.pup 1 1000 with
      | false =>
        have hr : mayRatesR c = false := by unfold mayRatesR; simp [h0, h1, h2]
        rw [hr]; clear hr hi
        have g0 := in_true c.lo 1 10000 h0
        have g1 := in_true c.hi c.lo 10000 h1
        have g2 := in_false c.pup 1 1000 h2
        clear h0 h1 h2
        go_enter Try.func90, Try.ntmps90
        go_wp2_with fail
        refine (g0 _).mono ?_; rintro e w' ⟨rfl, rfl⟩
        go_wp2_with fail
        refine (g1 _).mono ?_; rintro e w' ⟨rfl, rfl⟩
        go_wp2_with fail
        refine (g2 _).mono ?_; rintro e w' ⟨rfl, rfl⟩
        go_wp2
        go_ret
        exact ⟨rfl, (Gr.refl w).alloc _⟩
      | true =>
        cases h3 : inR c.tup 1 1000 with
        | false =>
          have hr : mayRatesR c = false := by unfold mayRatesR; simp [h0, h1, h2, h3]
          rw [hr]; clear hr hi
          have g0 := in_true c.lo 1 10000 h0
          have g1 := in_true c.hi c.lo 10000 h1
          have g2 := in_true c.pup 1 1000 h2
          have g3 := in_false c.tup 1 1000 h3
          clear h0 h1 h2 h3
          go_enter Try.func90, Try.ntmps90
          go_wp2_with fail
          refine (g0 _).mono ?_; rintro e w' ⟨rfl, rfl⟩
          go_wp2_with fail
          refine (g1 _).mono ?_; rintro e w' ⟨rfl, rfl⟩
          go_wp2_with fail
          refine (g2 _).mono ?_; rintro e w' ⟨rfl, rfl⟩
          go_wp2_with fail
          refine (g3 _).mono ?_; rintro e w' ⟨rfl, rfl⟩
          go_wp2
          go_ret
          exact ⟨rfl, (Gr.refl w).alloc _⟩
        | true =>
          cases h4 : inR c.pdn 1 1000 with
          | false =>
            have hr : mayRatesR c = false := by unfold mayRatesR; simp [h0, h1, h2, h3, h4]
            rw [hr]; clear hr hi
            have g0 := in_true c.lo 1 10000 h0
            have g1 := in_true c.hi c.lo 10000 h1
            have g2 := in_true c.pup 1 1000 h2
            have g3 := in_true c.tup 1 1000 h3
            have g4 := in_false c.pdn 1 1000 h4
            clear h0 h1 h2 h3 h4
            go_enter Try.func90, Try.ntmps90
            go_wp2_with fail
            refine (g0 _).mono ?_; rintro e w' ⟨rfl, rfl⟩
            go_wp2_with fail
            refine (g1 _).mono ?_; rintro e w' ⟨rfl, rfl⟩
            go_wp2_with fail
            refine (g2 _).mono ?_; rintro e w' ⟨rfl, rfl⟩
            go_wp2_with fail
            refine (g3 _).mono ?_; rintro e w' ⟨rfl, rfl⟩
            go_wp2_with fail
            refine (g4 _).mono ?_; rintro e w' ⟨rfl, rfl⟩
            go_wp2
            go_ret
            exact ⟨rfl, (Gr.refl w).alloc _⟩
          | true =>
            cases h5 : inR c.tdn 1 100 with
            | false =>
              have hr : mayRatesR c = false := by unfold mayRatesR; simp [h0, h1, h2, h3, h4, h5]
              rw [hr]; clear hr hi
              have g0 := in_true c.lo 1 10000 h0
              have g1 := in_true c.hi c.lo 10000 h1
              have g2 := in_true c.pup 1 1000 h2
              have g3 := in_true c.tup 1 1000 h3
              have g4 := in_true c.pdn 1 1000 h4
              have g5 := in_false c.tdn 1 100 h5
              clear h0 h1 h2 h3 h4 h5
              go_enter Try.func90, Try.ntmps90
              go_wp2_with fail
              refine (g0 _).mono ?_; rintro e w' ⟨rfl, rfl⟩
              go_wp2_with fail
              refine (g1 _).mono ?_; rintro e w' ⟨rfl, rfl⟩
              go_wp2_with fail
              refine (g2 _).mono ?_; rintro e w' ⟨rfl, rfl⟩
              go_wp2_with fail
              refine (g3 _).mono ?_; rintro e w' ⟨rfl, rfl⟩
              go_wp2_with fail
              refine (g4 _).mono ?_; rintro e w' ⟨rfl, rfl⟩
              go_wp2_with fail
              refine (g5 _).mono ?_; rintro e w' ⟨rfl, rfl⟩
              go_wp2
              go_ret
              exact ⟨rfl, (Gr.refl w).alloc _⟩
            | true =>
              cases h6 : inR c.per 1 60 with
              | false =>
                have hr : mayRatesR c = false := by unfold mayRatesR; simp [h0, h1, h2, h3, h4, h5, h6]
                rw [hr]; clear hr hi
                have g0 := in_true c.lo 1 10000 h0
                have g1 := in_true c.hi c.lo 10000 h1
                have g2 := in_true c.pup 1 1000 h2
                have g3 := in_true c.tup 1 1000 h3
                have g4 := in_true c.pdn 1 1000 h4
                have g5 := in_true c.tdn 1 100 h5
                have g6 := in_false c.per 1 60 h6
                clear h0 h1 h2 h3 h4 h5 h6
                go_enter Try.func90, Try.ntmps90
                go_wp2_with fail
                refine (g0 _).mono ?_; rintro e w' ⟨rfl, rfl⟩
                go_wp2_with fail
                refine (g1 _).mono ?_; rintro e w' ⟨rfl, rfl⟩
                go_wp2_with fail
                refine (g2 _).mono ?_; rintro e w' ⟨rfl, rfl⟩
                go_wp2_with fail
                refine (g3 _).mono ?_; rintro e w' ⟨rfl, rfl⟩
                go_wp2_with fail
                refine (g4 _).mono ?_; rintro e w' ⟨rfl, rfl⟩
                go_wp2_with fail
                refine (g5 _).mono ?_; rintro e w' ⟨rfl, rfl⟩
                go_wp2_with fail
                refine (g6 _).mono ?_; rintro e w' ⟨rfl, rfl⟩
                go_wp2
                go_ret
                exact ⟨rfl, (Gr.refl w).alloc _⟩
              | true =>
                have hr : mayRatesR c = true := by unfold mayRatesR; simp [h0, h1, h2, h3, h4, h5, h6]
                rw [hr]; clear hr hi
                have g0 := in_true c.lo 1 10000 h0
                have g1 := in_true c.hi c.lo 10000 h1
                have g2 := in_true c.pup 1 1000 h2
                have g3 := in_true c.tup 1 1000 h3
                have g4 := in_true c.pdn 1 1000 h4
                have g5 := in_true c.tdn 1 100 h5
                have g6 := in_true c.per 1 60 h6
                clear h0 h1 h2 h3 h4 h5 h6
                go_enter Try.func90, Try.ntmps90
                go_wp2_with fail
                refine (g0 _).mono ?_; rintro e w' ⟨rfl, rfl⟩
                go_wp2_with fail
                refine (g1 _).mono ?_; rintro e w' ⟨rfl, rfl⟩
                go_wp2_with fail
                refine (g2 _).mono ?_; rintro e w' ⟨rfl, rfl⟩
                go_wp2_with fail
                refine (g3 _).mono ?_; rintro e w' ⟨rfl, rfl⟩
                go_wp2_with fail
                refine (g4 _).mono ?_; rintro e w' ⟨rfl, rfl⟩
                go_wp2_with fail
                refine (g5 _).mono ?_; rintro e w' ⟨rfl, rfl⟩
                go_wp2_with fail
                refine (g6 _).mono ?_; rintro e w' ⟨rfl, rfl⟩
                go_wp2
                go_ret
                exact ⟨rfl, (Gr.refl w).alloc _⟩
end Go.Proofs.Ytjobicffdcnnlaa
