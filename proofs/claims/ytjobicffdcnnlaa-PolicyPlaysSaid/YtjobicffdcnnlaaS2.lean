import Derived.Test.YtjobicffdcnnlaaS1
/- Bounds, New and Clone: the program's and the document's. -/
namespace Go.Proofs.Ytjobicffdcnnlaa
open Go.RowKit Go.Lib
set_option linter.unusedSimpArgs false
set_option linter.unusedVariables false
set_option maxRecDepth 100000

theorem rates_false (c : CF) (h : ratesC c = false) (w : World) : Calls Try.prog 85 #[.agg #[.int .i64 c.n, .int .i64 c.f, .int .i64 c.m, .int .i64 c.q, .int .i64 c.fresh, .int .i64 c.grace, .int .i64 c.window, .int .i64 c.t0, .int .i64 c.t1, .int .i64 c.t2, .int .i64 c.t3, .int .i64 c.tol, .int .i64 c.lo, .int .i64 c.hi, .int .i64 c.cup, .int .i64 c.cdn, .int .i64 c.pup, .int .i64 c.tup, .int .i64 c.pdn, .int .i64 c.tdn, .int .i64 c.per, .int .i64 c.far, .int .i64 c.str, .int .i64 c.pro, .int .i64 c.sec, .int .u64 c.seed]] w fun e w' => e = .returned (.bool false) ∧ Gr w w' := h ▸ rates_any c w
theorem rates_true (c : CF) (h : ratesC c = true) (w : World) : Calls Try.prog 85 #[.agg #[.int .i64 c.n, .int .i64 c.f, .int .i64 c.m, .int .i64 c.q, .int .i64 c.fresh, .int .i64 c.grace, .int .i64 c.window, .int .i64 c.t0, .int .i64 c.t1, .int .i64 c.t2, .int .i64 c.t3, .int .i64 c.tol, .int .i64 c.lo, .int .i64 c.hi, .int .i64 c.cup, .int .i64 c.cdn, .int .i64 c.pup, .int .i64 c.tup, .int .i64 c.pdn, .int .i64 c.tdn, .int .i64 c.per, .int .i64 c.far, .int .i64 c.str, .int .i64 c.pro, .int .i64 c.sec, .int .u64 c.seed]] w fun e w' => e = .returned (.bool true) ∧ Gr w w' := h ▸ rates_any c w
theorem mayRates_b (c : CF) {b : Bool} (h : mayRatesR c = b) (w : World) : Calls Try.prog 90 #[.agg #[.int .i64 c.n, .int .i64 c.f, .int .i64 c.m, .int .i64 c.q, .int .i64 c.fresh, .int .i64 c.grace, .int .i64 c.window, .int .i64 c.t0, .int .i64 c.t1, .int .i64 c.t2, .int .i64 c.t3, .int .i64 c.tol, .int .i64 c.lo, .int .i64 c.hi, .int .i64 c.cup, .int .i64 c.cdn, .int .i64 c.pup, .int .i64 c.tup, .int .i64 c.pdn, .int .i64 c.tdn, .int .i64 c.per, .int .i64 c.far, .int .i64 c.str, .int .i64 c.pro, .int .i64 c.sec, .int .u64 c.seed]] w fun e w' => e = .returned (.bool b) ∧ Gr w w' := h ▸ mayRates_any c w

theorem ret_pair {a b c d : Int} (h : a = c) (k : b = d) : Ending.returned (.tuple #[.int .i64 a, .int .i64 b]) = Ending.returned (.tuple #[.int .i64 c, .int .i64 d]) := by rw [h, k]
theorem quo100 {x : Int} (h : 0 ≤ x) : x.tdiv 100 = x / 100 := Int.tdiv_eq_ediv_of_nonneg h

set_option maxHeartbeats 2000000 in
theorem bounds_any (c : CF) (b : Int) (w : World) : Calls Try.prog 53 #[.agg #[.int .i64 c.n, .int .i64 c.f, .int .i64 c.m, .int .i64 c.q, .int .i64 c.fresh, .int .i64 c.grace, .int .i64 c.window, .int .i64 c.t0, .int .i64 c.t1, .int .i64 c.t2, .int .i64 c.t3, .int .i64 c.tol, .int .i64 c.lo, .int .i64 c.hi, .int .i64 c.cup, .int .i64 c.cdn, .int .i64 c.pup, .int .i64 c.tup, .int .i64 c.pdn, .int .i64 c.tdn, .int .i64 c.per, .int .i64 c.far, .int .i64 c.str, .int .i64 c.pro, .int .i64 c.sec, .int .u64 c.seed], .int .i64 b] w fun e w' => e = .returned (.tuple #[.int .i64 (loB c b), .int .i64 (hiB c b)]) ∧ Gr w w' := by
  have A0 := start_at (Gr.refl w) c
  cases hm : mayRatesR c with
  | false =>
    have hr := fun w => rates_false c (by rw [rates_eq]; exact hm) w
    have e1 : loB c b = 0 := by unfold loB mayBs; simp [hm]
    have e2 : hiB c b = 0 := by unfold hiB mayBs; simp [hm]
    rw [e1, e2]
    clear e1 e2 hm
    have HR := Lib.hid hr; clear hr
    go_enter Try.func53, Try.ntmps53
    go_upto_region 1 with (fail)
    generalize w.alloc (.cells #[.int .i64 c.n, .int .i64 c.f, .int .i64 c.m, .int .i64 c.q, .int .i64 c.fresh, .int .i64 c.grace, .int .i64 c.window, .int .i64 c.t0, .int .i64 c.t1, .int .i64 c.t2, .int .i64 c.t3, .int .i64 c.tol, .int .i64 c.lo, .int .i64 c.hi, .int .i64 c.cup, .int .i64 c.cdn, .int .i64 c.pup, .int .i64 c.tup, .int .i64 c.pdn, .int .i64 c.tdn, .int .i64 c.per, .int .i64 c.far, .int .i64 c.str, .int .i64 c.pro, .int .i64 c.sec, .int .u64 c.seed] 36) = w1 at *
    generalize w.heap.size = b0 at *
    have hk := A0.conf
    go_wp2_with ((go_at_call 85; refine (HR.out _).mono ?_; rintro e w2 ⟨rfl, hg⟩; replace A0 := A0.on hg; clear hg hk))
    go_ret2
    exact ⟨rfl, A0.gr⟩
  | true =>
    have hr := fun w => rates_true c (by rw [rates_eq]; exact hm) w
    have HR := Lib.hid hr; clear hr
    by_cases h0 : 0 ≤ b
    · by_cases h1 : b ≤ 10000
      · have e1 : loB c b = dnP c b := by unfold loB; rw [if_pos (mayBs_of hm h0 h1)]
        have e2 : hiB c b = upP c b := by unfold hiB; rw [if_pos (mayBs_of hm h0 h1)]
        rw [e1, e2]
        have r := rts_of hm
        have p0 := r.pup0; have p1 := r.pup1; have q0 := r.tup0; have q1 := r.tup1; have s0 := r.pdn0; have s1 := r.pdn1; have t0 := r.tdn0; have t1 := r.tdn1
        clear e1 e2 hm r
        have m0 : 0 ≤ b * (100 + c.tup) := Int.mul_nonneg h0 (by omega)
        have m1 : b * (100 + c.tup) ≤ 10000 * 1100 := Int.le_trans (Int.mul_le_mul_of_nonneg_right h1 (by omega)) (Int.mul_le_mul_of_nonneg_left (by omega) (by omega))
        have m2 : 0 ≤ b * (100 - c.tdn) := Int.mul_nonneg h0 (by omega)
        have m3 : b * (100 - c.tdn) ≤ 10000 * 99 := Int.le_trans (Int.mul_le_mul_of_nonneg_right h1 (by omega)) (Int.mul_le_mul_of_nonneg_left (by omega) (by omega))
        have eu : upP c b = max (b + c.pup) ((b * (100 + c.tup) + 99) / 100) := rfl
        have ed : dnP c b = max (min (b - c.pdn) (b * (100 - c.tdn) / 100)) 0 := rfl
        have EU := Lib.hid eu
        have ED := Lib.hid ed
        clear eu ed
        generalize upP c b = U at *
        generalize dnP c b = D at *
        go_enter Try.func53, Try.ntmps53
        go_upto_region 1 with (fail)
        generalize w.alloc (.cells #[.int .i64 c.n, .int .i64 c.f, .int .i64 c.m, .int .i64 c.q, .int .i64 c.fresh, .int .i64 c.grace, .int .i64 c.window, .int .i64 c.t0, .int .i64 c.t1, .int .i64 c.t2, .int .i64 c.t3, .int .i64 c.tol, .int .i64 c.lo, .int .i64 c.hi, .int .i64 c.cup, .int .i64 c.cdn, .int .i64 c.pup, .int .i64 c.tup, .int .i64 c.pdn, .int .i64 c.tdn, .int .i64 c.per, .int .i64 c.far, .int .i64 c.str, .int .i64 c.pro, .int .i64 c.sec, .int .u64 c.seed] 36) = w1 at *
        generalize w.heap.size = b0 at *
        have hk := A0.conf
        go_wp2_with ((go_at_call 85; refine (HR.out _).mono ?_; rintro e w2 ⟨rfl, hg⟩; replace A0 := A0.on hg; clear hg hk; have hc := A0.cell))
        all_goals
          go_ret2
          refine ⟨?_, A0.gr⟩
          rw [EU.out, ED.out]
          clear EU ED HR
          refine ret_pair ?_ ?_ <;> omega
      · have e1 : loB c b = 0 := by unfold loB mayBs; simp [h1]
        have e2 : hiB c b = 0 := by unfold hiB mayBs; simp [h1]
        rw [e1, e2]
        clear e1 e2 hm
        go_enter Try.func53, Try.ntmps53
        go_upto_region 1 with (fail)
        generalize w.alloc (.cells #[.int .i64 c.n, .int .i64 c.f, .int .i64 c.m, .int .i64 c.q, .int .i64 c.fresh, .int .i64 c.grace, .int .i64 c.window, .int .i64 c.t0, .int .i64 c.t1, .int .i64 c.t2, .int .i64 c.t3, .int .i64 c.tol, .int .i64 c.lo, .int .i64 c.hi, .int .i64 c.cup, .int .i64 c.cdn, .int .i64 c.pup, .int .i64 c.tup, .int .i64 c.pdn, .int .i64 c.tdn, .int .i64 c.per, .int .i64 c.far, .int .i64 c.str, .int .i64 c.pro, .int .i64 c.sec, .int .u64 c.seed] 36) = w1 at *
        generalize w.heap.size = b0 at *
        have hk := A0.conf
        go_wp2_with ((go_at_call 85; refine (HR.out _).mono ?_; rintro e w2 ⟨rfl, hg⟩; replace A0 := A0.on hg; clear hg hk))
        go_ret2
        exact ⟨rfl, A0.gr⟩
    · have e1 : loB c b = 0 := by unfold loB mayBs; simp [h0]
      have e2 : hiB c b = 0 := by unfold hiB mayBs; simp [h0]
      rw [e1, e2]
      clear e1 e2 hm
      go_enter Try.func53, Try.ntmps53
      go_upto_region 1 with (fail)
      generalize w.alloc (.cells #[.int .i64 c.n, .int .i64 c.f, .int .i64 c.m, .int .i64 c.q, .int .i64 c.fresh, .int .i64 c.grace, .int .i64 c.window, .int .i64 c.t0, .int .i64 c.t1, .int .i64 c.t2, .int .i64 c.t3, .int .i64 c.tol, .int .i64 c.lo, .int .i64 c.hi, .int .i64 c.cup, .int .i64 c.cdn, .int .i64 c.pup, .int .i64 c.tup, .int .i64 c.pdn, .int .i64 c.tdn, .int .i64 c.per, .int .i64 c.far, .int .i64 c.str, .int .i64 c.pro, .int .i64 c.sec, .int .u64 c.seed] 36) = w1 at *
      generalize w.heap.size = b0 at *
      have hk := A0.conf
      go_wp2_with ((go_at_call 85; refine (HR.out _).mono ?_; rintro e w2 ⟨rfl, hg⟩; replace A0 := A0.on hg; clear hg hk))
      go_ret2
      exact ⟨rfl, A0.gr⟩
set_option maxHeartbeats 2000000 in
theorem r_bounds_any (c : CF) (b : Int) (w : World) : Calls Try.prog 54 #[.agg #[.int .i64 c.n, .int .i64 c.f, .int .i64 c.m, .int .i64 c.q, .int .i64 c.fresh, .int .i64 c.grace, .int .i64 c.window, .int .i64 c.t0, .int .i64 c.t1, .int .i64 c.t2, .int .i64 c.t3, .int .i64 c.tol, .int .i64 c.lo, .int .i64 c.hi, .int .i64 c.cup, .int .i64 c.cdn, .int .i64 c.pup, .int .i64 c.tup, .int .i64 c.pdn, .int .i64 c.tdn, .int .i64 c.per, .int .i64 c.far, .int .i64 c.str, .int .i64 c.pro, .int .i64 c.sec, .int .u64 c.seed], .int .i64 b] w fun e w' => e = .returned (.tuple #[.int .i64 (loB c b), .int .i64 (hiB c b)]) ∧ Gr w w' := by
  have A0 := start_at (Gr.refl w) c
  cases hm : mayRatesR c with
  | false =>
    have hr := fun w => mayRates_b c hm w
    have e1 : loB c b = 0 := by unfold loB mayBs; simp [hm]
    have e2 : hiB c b = 0 := by unfold hiB mayBs; simp [hm]
    rw [e1, e2]
    clear e1 e2 hm
    have HR := Lib.hid hr; clear hr
    go_enter Try.func54, Try.ntmps54
    go_upto_region 1 with (fail)
    generalize w.alloc (.cells #[.int .i64 c.n, .int .i64 c.f, .int .i64 c.m, .int .i64 c.q, .int .i64 c.fresh, .int .i64 c.grace, .int .i64 c.window, .int .i64 c.t0, .int .i64 c.t1, .int .i64 c.t2, .int .i64 c.t3, .int .i64 c.tol, .int .i64 c.lo, .int .i64 c.hi, .int .i64 c.cup, .int .i64 c.cdn, .int .i64 c.pup, .int .i64 c.tup, .int .i64 c.pdn, .int .i64 c.tdn, .int .i64 c.per, .int .i64 c.far, .int .i64 c.str, .int .i64 c.pro, .int .i64 c.sec, .int .u64 c.seed] 36) = w1 at *
    generalize w.heap.size = b0 at *
    have hk := A0.conf
    go_wp2_with ((go_at_call 90; refine (HR.out _).mono ?_; rintro e w2 ⟨rfl, hg⟩; replace A0 := A0.on hg; clear hg hk))
    go_ret2
    exact ⟨rfl, A0.gr⟩
  | true =>
    have hr := fun w => mayRates_b c hm w
    have HR := Lib.hid hr; clear hr
    by_cases h0 : 0 ≤ b
    · by_cases h1 : b ≤ 10000
      · have e1 : loB c b = dnP c b := by unfold loB; rw [if_pos (mayBs_of hm h0 h1)]
        have e2 : hiB c b = upP c b := by unfold hiB; rw [if_pos (mayBs_of hm h0 h1)]
        rw [e1, e2]
        have r := rts_of hm
        have p0 := r.pup0; have p1 := r.pup1; have q0 := r.tup0; have q1 := r.tup1; have s0 := r.pdn0; have s1 := r.pdn1; have t0 := r.tdn0; have t1 := r.tdn1
        clear e1 e2 hm r
        have m0 : 0 ≤ b * (100 + c.tup) := Int.mul_nonneg h0 (by omega)
        have m1 : b * (100 + c.tup) ≤ 10000 * 1100 := Int.le_trans (Int.mul_le_mul_of_nonneg_right h1 (by omega)) (Int.mul_le_mul_of_nonneg_left (by omega) (by omega))
        have m2 : 0 ≤ b * (100 - c.tdn) := Int.mul_nonneg h0 (by omega)
        have m3 : b * (100 - c.tdn) ≤ 10000 * 99 := Int.le_trans (Int.mul_le_mul_of_nonneg_right h1 (by omega)) (Int.mul_le_mul_of_nonneg_left (by omega) (by omega))
        have eu : upP c b = max (b + c.pup) ((b * (100 + c.tup) + 99) / 100) := rfl
        have ed : dnP c b = max (min (b - c.pdn) (b * (100 - c.tdn) / 100)) 0 := rfl
        have EU := Lib.hid eu
        have ED := Lib.hid ed
        clear eu ed
        generalize upP c b = U at *
        generalize dnP c b = D at *
        go_enter Try.func54, Try.ntmps54
        go_upto_region 1 with (fail)
        generalize w.alloc (.cells #[.int .i64 c.n, .int .i64 c.f, .int .i64 c.m, .int .i64 c.q, .int .i64 c.fresh, .int .i64 c.grace, .int .i64 c.window, .int .i64 c.t0, .int .i64 c.t1, .int .i64 c.t2, .int .i64 c.t3, .int .i64 c.tol, .int .i64 c.lo, .int .i64 c.hi, .int .i64 c.cup, .int .i64 c.cdn, .int .i64 c.pup, .int .i64 c.tup, .int .i64 c.pdn, .int .i64 c.tdn, .int .i64 c.per, .int .i64 c.far, .int .i64 c.str, .int .i64 c.pro, .int .i64 c.sec, .int .u64 c.seed] 36) = w1 at *
        generalize w.heap.size = b0 at *
        have hk := A0.conf
        go_wp2_with ((go_at_call 90; refine (HR.out _).mono ?_; rintro e w2 ⟨rfl, hg⟩; replace A0 := A0.on hg; clear hg hk; have hc := A0.cell))
        all_goals
          go_ret2
          refine ⟨?_, A0.gr⟩
          rw [EU.out, ED.out]
          clear EU ED HR
          refine ret_pair ?_ ?_ <;> omega
      · have e1 : loB c b = 0 := by unfold loB mayBs; simp [h1]
        have e2 : hiB c b = 0 := by unfold hiB mayBs; simp [h1]
        rw [e1, e2]
        clear e1 e2 hm
        go_enter Try.func54, Try.ntmps54
        go_upto_region 1 with (fail)
        generalize w.alloc (.cells #[.int .i64 c.n, .int .i64 c.f, .int .i64 c.m, .int .i64 c.q, .int .i64 c.fresh, .int .i64 c.grace, .int .i64 c.window, .int .i64 c.t0, .int .i64 c.t1, .int .i64 c.t2, .int .i64 c.t3, .int .i64 c.tol, .int .i64 c.lo, .int .i64 c.hi, .int .i64 c.cup, .int .i64 c.cdn, .int .i64 c.pup, .int .i64 c.tup, .int .i64 c.pdn, .int .i64 c.tdn, .int .i64 c.per, .int .i64 c.far, .int .i64 c.str, .int .i64 c.pro, .int .i64 c.sec, .int .u64 c.seed] 36) = w1 at *
        generalize w.heap.size = b0 at *
        have hk := A0.conf
        go_wp2_with ((go_at_call 90; refine (HR.out _).mono ?_; rintro e w2 ⟨rfl, hg⟩; replace A0 := A0.on hg; clear hg hk))
        go_ret2
        exact ⟨rfl, A0.gr⟩
    · have e1 : loB c b = 0 := by unfold loB mayBs; simp [h0]
      have e2 : hiB c b = 0 := by unfold hiB mayBs; simp [h0]
      rw [e1, e2]
      clear e1 e2 hm
      go_enter Try.func54, Try.ntmps54
      go_upto_region 1 with (fail)
      generalize w.alloc (.cells #[.int .i64 c.n, .int .i64 c.f, .int .i64 c.m, .int .i64 c.q, .int .i64 c.fresh, .int .i64 c.grace, .int .i64 c.window, .int .i64 c.t0, .int .i64 c.t1, .int .i64 c.t2, .int .i64 c.t3, .int .i64 c.tol, .int .i64 c.lo, .int .i64 c.hi, .int .i64 c.cup, .int .i64 c.cdn, .int .i64 c.pup, .int .i64 c.tup, .int .i64 c.pdn, .int .i64 c.tdn, .int .i64 c.per, .int .i64 c.far, .int .i64 c.str, .int .i64 c.pro, .int .i64 c.sec, .int .u64 c.seed] 36) = w1 at *
      generalize w.heap.size = b0 at *
      have hk := A0.conf
      go_wp2_with ((go_at_call 90; refine (HR.out _).mono ?_; rintro e w2 ⟨rfl, hg⟩; replace A0 := A0.on hg; clear hg hk))
      go_ret2
      exact ⟨rfl, A0.gr⟩

theorem newB_of {c : CF} {n : Int} (h : newB c n = true) : mayRatesR c = true ∧ c.lo ≤ n ∧ n ≤ c.hi := by
  unfold newB at h
  simp at h
  exact ⟨h.1, h.2.1, h.2.2⟩
set_option maxHeartbeats 2000000 in
theorem new_ok (c : CF) (n : Int) (h : newB c n = true) (w : World) : Calls Try.prog 45 #[.agg #[.int .i64 c.n, .int .i64 c.f, .int .i64 c.m, .int .i64 c.q, .int .i64 c.fresh, .int .i64 c.grace, .int .i64 c.window, .int .i64 c.t0, .int .i64 c.t1, .int .i64 c.t2, .int .i64 c.t3, .int .i64 c.tol, .int .i64 c.lo, .int .i64 c.hi, .int .i64 c.cup, .int .i64 c.cdn, .int .i64 c.pup, .int .i64 c.tup, .int .i64 c.pdn, .int .i64 c.tdn, .int .i64 c.per, .int .i64 c.far, .int .i64 c.str, .int .i64 c.pro, .int .i64 c.sec, .int .u64 c.seed], .int .i64 n] w fun e w' =>
    ∃ p g, e = .returned (.pointer (some ⟨p, 0, none⟩)) ∧ Pol w' p g 1 c [n] 0 ∧ w.heap.size ≤ p ∧ w.heap.size ≤ g ∧ Gr w w' := by
  have A0 := start_at (Gr.refl w) c
  obtain ⟨hm, h0, h1⟩ := newB_of h
  clear h
  have hr := fun w => rates_true c (by rw [rates_eq]; exact hm) w
  have HR := Lib.hid hr; clear hr hm
  go_enter Try.func45, Try.ntmps45
  go_upto_region 1 with (fail)
  generalize w.alloc (.cells #[.int .i64 c.n, .int .i64 c.f, .int .i64 c.m, .int .i64 c.q, .int .i64 c.fresh, .int .i64 c.grace, .int .i64 c.window, .int .i64 c.t0, .int .i64 c.t1, .int .i64 c.t2, .int .i64 c.t3, .int .i64 c.tol, .int .i64 c.lo, .int .i64 c.hi, .int .i64 c.cup, .int .i64 c.cdn, .int .i64 c.pup, .int .i64 c.tup, .int .i64 c.pdn, .int .i64 c.tdn, .int .i64 c.per, .int .i64 c.far, .int .i64 c.str, .int .i64 c.pro, .int .i64 c.sec, .int .u64 c.seed] 36) = w1 at *
  generalize w.heap.size = b0 at *
  have hk := A0.conf
  go_upto_region 3 with ((go_at_call 85; refine (HR.out _).mono ?_; rintro e w2 ⟨rfl, hg⟩; replace A0 := A0.on hg; clear hg hk; have hc := A0.cell))
  rename World => w2
  refine wp_region_lit ?_
  refine wpList_val (.agg #[.int .i64 c.n, .int .i64 c.f, .int .i64 c.m, .int .i64 c.q, .int .i64 c.fresh, .int .i64 c.grace, .int .i64 c.window, .int .i64 c.t0, .int .i64 c.t1, .int .i64 c.t2, .int .i64 c.t3, .int .i64 c.tol, .int .i64 c.lo, .int .i64 c.hi, .int .i64 c.cup, .int .i64 c.cdn, .int .i64 c.pup, .int .i64 c.tup, .int .i64 c.pdn, .int .i64 c.tdn, .int .i64 c.per, .int .i64 c.far, .int .i64 c.str, .int .i64 c.pro, .int .i64 c.sec, .int .u64 c.seed]) w2 rfl (xload36_of rfl A0.conf) ?_
  refine wpList_val (.int .i64 n) w2 rfl (by kernel_rfl) ?_
  refine wpList_val (.slice (some ⟨w2.heap.size, 0, none⟩) 1 1) (w2.alloc (.cells #[.int .i64 n] 3)) rfl (by kernel_rfl) ?_
  refine wpList_val (.agg #[.int .i64 c.n, .int .i64 c.f, .int .i64 c.m, .int .i64 c.q, .int .i64 c.fresh, .int .i64 c.grace, .int .i64 c.window, .int .i64 c.t0, .int .i64 c.t1, .int .i64 c.t2, .int .i64 c.t3, .int .i64 c.tol, .int .i64 c.lo, .int .i64 c.hi, .int .i64 c.cup, .int .i64 c.cdn, .int .i64 c.pup, .int .i64 c.tup, .int .i64 c.pdn, .int .i64 c.tdn, .int .i64 c.per, .int .i64 c.far, .int .i64 c.str, .int .i64 c.pro, .int .i64 c.sec, .int .u64 c.seed, .slice (some ⟨w2.heap.size, 0, none⟩) 1 1, .int .i64 0]) (w2.alloc (.cells #[.int .i64 n] 3)) rfl (by kernel_rfl) ?_
  refine wpList_val (.pointer (some ⟨(w2.alloc (.cells #[.int .i64 n] 3)).heap.size, 0, none⟩)) ((w2.alloc (.cells #[.int .i64 n] 3)).alloc (.cells #[.int .i64 c.n, .int .i64 c.f, .int .i64 c.m, .int .i64 c.q, .int .i64 c.fresh, .int .i64 c.grace, .int .i64 c.window, .int .i64 c.t0, .int .i64 c.t1, .int .i64 c.t2, .int .i64 c.t3, .int .i64 c.tol, .int .i64 c.lo, .int .i64 c.hi, .int .i64 c.cup, .int .i64 c.cdn, .int .i64 c.pup, .int .i64 c.tup, .int .i64 c.pdn, .int .i64 c.tdn, .int .i64 c.per, .int .i64 c.far, .int .i64 c.str, .int .i64 c.pro, .int .i64 c.sec, .int .u64 c.seed, .slice (some ⟨w2.heap.size, 0, none⟩) 1 1, .int .i64 0] 112)) rfl (by kernel_rfl) ?_
  go_wp2
  go_ret
  have g0 := A0.gr
  refine ⟨_, _, rfl, ⟨heap_new (size_alloc _ _).symm, ?_, ?_⟩, ?_, ?_, (g0.alloc _).alloc _⟩
  · exact own_of_block (w := w2.alloc (.cells #[.int .i64 n] 3)) ⟨rfl, .inr ⟨w2.heap.size, 1, _, rfl, Nat.le_refl _, heap_new rfl, by simp, by unfold maxLen; omega, rfl, rfl⟩⟩ (Below.heap_alloc _ _ _ (by simp))
  · simp
  · have := g0.size; simp; omega
  · exact g0.size
set_option maxHeartbeats 2000000 in
theorem new_no (c : CF) (n : Int) (h : newB c n = false) (w : World) : Calls Try.prog 45 #[.agg #[.int .i64 c.n, .int .i64 c.f, .int .i64 c.m, .int .i64 c.q, .int .i64 c.fresh, .int .i64 c.grace, .int .i64 c.window, .int .i64 c.t0, .int .i64 c.t1, .int .i64 c.t2, .int .i64 c.t3, .int .i64 c.tol, .int .i64 c.lo, .int .i64 c.hi, .int .i64 c.cup, .int .i64 c.cdn, .int .i64 c.pup, .int .i64 c.tup, .int .i64 c.pdn, .int .i64 c.tdn, .int .i64 c.per, .int .i64 c.far, .int .i64 c.str, .int .i64 c.pro, .int .i64 c.sec, .int .u64 c.seed], .int .i64 n] w fun e w' => e = .returned (.pointer none) ∧ Gr w w' := by
  have A0 := start_at (Gr.refl w) c
  cases hm : mayRatesR c with
  | false =>
    have hr := fun w => rates_false c (by rw [rates_eq]; exact hm) w
    have HR := Lib.hid hr; clear hr hm h
    go_enter Try.func45, Try.ntmps45
    go_upto_region 1 with (fail)
    generalize w.alloc (.cells #[.int .i64 c.n, .int .i64 c.f, .int .i64 c.m, .int .i64 c.q, .int .i64 c.fresh, .int .i64 c.grace, .int .i64 c.window, .int .i64 c.t0, .int .i64 c.t1, .int .i64 c.t2, .int .i64 c.t3, .int .i64 c.tol, .int .i64 c.lo, .int .i64 c.hi, .int .i64 c.cup, .int .i64 c.cdn, .int .i64 c.pup, .int .i64 c.tup, .int .i64 c.pdn, .int .i64 c.tdn, .int .i64 c.per, .int .i64 c.far, .int .i64 c.str, .int .i64 c.pro, .int .i64 c.sec, .int .u64 c.seed] 36) = w1 at *
    generalize w.heap.size = b0 at *
    have hk := A0.conf
    go_wp2_with ((go_at_call 85; refine (HR.out _).mono ?_; rintro e w2 ⟨rfl, hg⟩; replace A0 := A0.on hg; clear hg hk; have hc := A0.cell))
    go_ret
    exact ⟨rfl, A0.gr⟩
  | true =>
    have hr := fun w => rates_true c (by rw [rates_eq]; exact hm) w
    have hb : ¬ (c.lo ≤ n ∧ n ≤ c.hi) := by unfold newB at h; simpa [hm] using h
    have HR := Lib.hid hr; clear hr hm h
    by_cases h0 : c.lo ≤ n
    all_goals
      go_enter Try.func45, Try.ntmps45
      go_upto_region 1 with (fail)
      generalize w.alloc (.cells #[.int .i64 c.n, .int .i64 c.f, .int .i64 c.m, .int .i64 c.q, .int .i64 c.fresh, .int .i64 c.grace, .int .i64 c.window, .int .i64 c.t0, .int .i64 c.t1, .int .i64 c.t2, .int .i64 c.t3, .int .i64 c.tol, .int .i64 c.lo, .int .i64 c.hi, .int .i64 c.cup, .int .i64 c.cdn, .int .i64 c.pup, .int .i64 c.tup, .int .i64 c.pdn, .int .i64 c.tdn, .int .i64 c.per, .int .i64 c.far, .int .i64 c.str, .int .i64 c.pro, .int .i64 c.sec, .int .u64 c.seed] 36) = w1 at *
      generalize w.heap.size = b0 at *
      have hk := A0.conf
      go_wp2_with ((go_at_call 85; refine (HR.out _).mono ?_; rintro e w2 ⟨rfl, hg⟩; replace A0 := A0.on hg; clear hg hk; have hc := A0.cell))
      go_ret
      exact ⟨rfl, A0.gr⟩
set_option maxHeartbeats 2000000 in
theorem r_new_ok (c : CF) (n : Int) (h : newB c n = true) (w : World) : Calls Try.prog 52 #[.agg #[.int .i64 c.n, .int .i64 c.f, .int .i64 c.m, .int .i64 c.q, .int .i64 c.fresh, .int .i64 c.grace, .int .i64 c.window, .int .i64 c.t0, .int .i64 c.t1, .int .i64 c.t2, .int .i64 c.t3, .int .i64 c.tol, .int .i64 c.lo, .int .i64 c.hi, .int .i64 c.cup, .int .i64 c.cdn, .int .i64 c.pup, .int .i64 c.tup, .int .i64 c.pdn, .int .i64 c.tdn, .int .i64 c.per, .int .i64 c.far, .int .i64 c.str, .int .i64 c.pro, .int .i64 c.sec, .int .u64 c.seed], .int .i64 n] w fun e w' =>
    ∃ p g, e = .returned (.pointer (some ⟨p, 0, none⟩)) ∧ Rol w' p g 1 c [n] ∧ w.heap.size ≤ p ∧ w.heap.size ≤ g ∧ Gr w w' := by
  have A0 := start_at (Gr.refl w) c
  obtain ⟨hm, h0, h1⟩ := newB_of h
  clear h
  have hr := fun w => mayRates_b c hm w
  have HR := Lib.hid hr; clear hr hm
  go_enter Try.func52, Try.ntmps52
  go_upto_region 1 with (fail)
  generalize w.alloc (.cells #[.int .i64 c.n, .int .i64 c.f, .int .i64 c.m, .int .i64 c.q, .int .i64 c.fresh, .int .i64 c.grace, .int .i64 c.window, .int .i64 c.t0, .int .i64 c.t1, .int .i64 c.t2, .int .i64 c.t3, .int .i64 c.tol, .int .i64 c.lo, .int .i64 c.hi, .int .i64 c.cup, .int .i64 c.cdn, .int .i64 c.pup, .int .i64 c.tup, .int .i64 c.pdn, .int .i64 c.tdn, .int .i64 c.per, .int .i64 c.far, .int .i64 c.str, .int .i64 c.pro, .int .i64 c.sec, .int .u64 c.seed] 36) = w1 at *
  generalize w.heap.size = b0 at *
  have hk := A0.conf
  go_upto_region 3 with ((go_at_call 90; refine (HR.out _).mono ?_; rintro e w2 ⟨rfl, hg⟩; replace A0 := A0.on hg; clear hg hk; have hc := A0.cell))
  rename World => w2
  refine wp_region_lit ?_
  refine wpList_val (.agg #[.int .i64 c.n, .int .i64 c.f, .int .i64 c.m, .int .i64 c.q, .int .i64 c.fresh, .int .i64 c.grace, .int .i64 c.window, .int .i64 c.t0, .int .i64 c.t1, .int .i64 c.t2, .int .i64 c.t3, .int .i64 c.tol, .int .i64 c.lo, .int .i64 c.hi, .int .i64 c.cup, .int .i64 c.cdn, .int .i64 c.pup, .int .i64 c.tup, .int .i64 c.pdn, .int .i64 c.tdn, .int .i64 c.per, .int .i64 c.far, .int .i64 c.str, .int .i64 c.pro, .int .i64 c.sec, .int .u64 c.seed]) w2 rfl (xload36_of rfl A0.conf) ?_
  refine wpList_val (.int .i64 n) w2 rfl (by kernel_rfl) ?_
  refine wpList_val (.slice (some ⟨w2.heap.size, 0, none⟩) 1 1) (w2.alloc (.cells #[.int .i64 n] 3)) rfl (by kernel_rfl) ?_
  refine wpList_val (.agg #[.int .i64 c.n, .int .i64 c.f, .int .i64 c.m, .int .i64 c.q, .int .i64 c.fresh, .int .i64 c.grace, .int .i64 c.window, .int .i64 c.t0, .int .i64 c.t1, .int .i64 c.t2, .int .i64 c.t3, .int .i64 c.tol, .int .i64 c.lo, .int .i64 c.hi, .int .i64 c.cup, .int .i64 c.cdn, .int .i64 c.pup, .int .i64 c.tup, .int .i64 c.pdn, .int .i64 c.tdn, .int .i64 c.per, .int .i64 c.far, .int .i64 c.str, .int .i64 c.pro, .int .i64 c.sec, .int .u64 c.seed, .slice (some ⟨w2.heap.size, 0, none⟩) 1 1]) (w2.alloc (.cells #[.int .i64 n] 3)) rfl (by kernel_rfl) ?_
  refine wpList_val (.pointer (some ⟨(w2.alloc (.cells #[.int .i64 n] 3)).heap.size, 0, none⟩)) ((w2.alloc (.cells #[.int .i64 n] 3)).alloc (.cells #[.int .i64 c.n, .int .i64 c.f, .int .i64 c.m, .int .i64 c.q, .int .i64 c.fresh, .int .i64 c.grace, .int .i64 c.window, .int .i64 c.t0, .int .i64 c.t1, .int .i64 c.t2, .int .i64 c.t3, .int .i64 c.tol, .int .i64 c.lo, .int .i64 c.hi, .int .i64 c.cup, .int .i64 c.cdn, .int .i64 c.pup, .int .i64 c.tup, .int .i64 c.pdn, .int .i64 c.tdn, .int .i64 c.per, .int .i64 c.far, .int .i64 c.str, .int .i64 c.pro, .int .i64 c.sec, .int .u64 c.seed, .slice (some ⟨w2.heap.size, 0, none⟩) 1 1] 62)) rfl (by kernel_rfl) ?_
  go_wp2
  go_ret
  have g0 := A0.gr
  refine ⟨_, _, rfl, ⟨heap_new (size_alloc _ _).symm, ?_, ?_⟩, ?_, ?_, (g0.alloc _).alloc _⟩
  · exact own_of_block (w := w2.alloc (.cells #[.int .i64 n] 3)) ⟨rfl, .inr ⟨w2.heap.size, 1, _, rfl, Nat.le_refl _, heap_new rfl, by simp, by unfold maxLen; omega, rfl, rfl⟩⟩ (Below.heap_alloc _ _ _ (by simp))
  · simp
  · have := g0.size; simp; omega
  · exact g0.size
set_option maxHeartbeats 2000000 in
theorem r_new_no (c : CF) (n : Int) (h : newB c n = false) (w : World) : Calls Try.prog 52 #[.agg #[.int .i64 c.n, .int .i64 c.f, .int .i64 c.m, .int .i64 c.q, .int .i64 c.fresh, .int .i64 c.grace, .int .i64 c.window, .int .i64 c.t0, .int .i64 c.t1, .int .i64 c.t2, .int .i64 c.t3, .int .i64 c.tol, .int .i64 c.lo, .int .i64 c.hi, .int .i64 c.cup, .int .i64 c.cdn, .int .i64 c.pup, .int .i64 c.tup, .int .i64 c.pdn, .int .i64 c.tdn, .int .i64 c.per, .int .i64 c.far, .int .i64 c.str, .int .i64 c.pro, .int .i64 c.sec, .int .u64 c.seed], .int .i64 n] w fun e w' => e = .returned (.pointer none) ∧ Gr w w' := by
  have A0 := start_at (Gr.refl w) c
  cases hm : mayRatesR c with
  | false =>
    have hr := fun w => mayRates_b c hm w
    have HR := Lib.hid hr; clear hr hm h
    go_enter Try.func52, Try.ntmps52
    go_upto_region 1 with (fail)
    generalize w.alloc (.cells #[.int .i64 c.n, .int .i64 c.f, .int .i64 c.m, .int .i64 c.q, .int .i64 c.fresh, .int .i64 c.grace, .int .i64 c.window, .int .i64 c.t0, .int .i64 c.t1, .int .i64 c.t2, .int .i64 c.t3, .int .i64 c.tol, .int .i64 c.lo, .int .i64 c.hi, .int .i64 c.cup, .int .i64 c.cdn, .int .i64 c.pup, .int .i64 c.tup, .int .i64 c.pdn, .int .i64 c.tdn, .int .i64 c.per, .int .i64 c.far, .int .i64 c.str, .int .i64 c.pro, .int .i64 c.sec, .int .u64 c.seed] 36) = w1 at *
    generalize w.heap.size = b0 at *
    have hk := A0.conf
    go_wp2_with ((go_at_call 90; refine (HR.out _).mono ?_; rintro e w2 ⟨rfl, hg⟩; replace A0 := A0.on hg; clear hg hk; have hc := A0.cell))
    go_ret
    exact ⟨rfl, A0.gr⟩
  | true =>
    have hr := fun w => mayRates_b c hm w
    have hb : ¬ (c.lo ≤ n ∧ n ≤ c.hi) := by unfold newB at h; simpa [hm] using h
    have HR := Lib.hid hr; clear hr hm h
    by_cases h0 : c.lo ≤ n
    all_goals
      go_enter Try.func52, Try.ntmps52
      go_upto_region 1 with (fail)
      generalize w.alloc (.cells #[.int .i64 c.n, .int .i64 c.f, .int .i64 c.m, .int .i64 c.q, .int .i64 c.fresh, .int .i64 c.grace, .int .i64 c.window, .int .i64 c.t0, .int .i64 c.t1, .int .i64 c.t2, .int .i64 c.t3, .int .i64 c.tol, .int .i64 c.lo, .int .i64 c.hi, .int .i64 c.cup, .int .i64 c.cdn, .int .i64 c.pup, .int .i64 c.tup, .int .i64 c.pdn, .int .i64 c.tdn, .int .i64 c.per, .int .i64 c.far, .int .i64 c.str, .int .i64 c.pro, .int .i64 c.sec, .int .u64 c.seed] 36) = w1 at *
      generalize w.heap.size = b0 at *
      have hk := A0.conf
      go_wp2_with ((go_at_call 90; refine (HR.out _).mono ?_; rintro e w2 ⟨rfl, hg⟩; replace A0 := A0.on hg; clear hg hk; have hc := A0.cell))
      go_ret
      exact ⟨rfl, A0.gr⟩
end Go.Proofs.Ytjobicffdcnnlaa
