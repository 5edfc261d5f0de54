import Derived.Test.YtjobicffdcnnlaaS1
import Derived.Deep.LoopGhost
import Derived.Lib.Walk
/- Bounds, New and Clone: the program's and the document's. -/
namespace Go.Proofs.Ytjobicffdcnnlaa
open Go.RowKit Go.Lib
set_option linter.unusedSimpArgs false
set_option linter.unusedVariables false
set_option maxRecDepth 100000

theorem rates_false (c : CF) (h : ratesC c = false) (w : World) : Calls Try.prog 85 #[.agg #[.int .i64 c.n, .int .i64 c.f, .int .i64 c.m, .int .i64 c.q, .int .i64 c.fresh, .int .i64 c.grace, .int .i64 c.window, .int .i64 c.t0, .int .i64 c.t1, .int .i64 c.t2, .int .i64 c.t3, .int .i64 c.tol, .int .i64 c.lo, .int .i64 c.hi, .int .i64 c.cup, .int .i64 c.cdn, .int .i64 c.pup, .int .i64 c.tup, .int .i64 c.pdn, .int .i64 c.tdn, .int .i64 c.per, .int .i64 c.far, .int .i64 c.str, .int .i64 c.pro, .int .i64 c.sec, .int .u64 c.seed]] w fun e w' => e = .returned (.bool false) ∧ Gr w w' := h ▸ rates_any c w
theorem rates_true (c : CF) (h : ratesC c = true) (w : World) : Calls Try.prog 85 #[.agg #[.int .i64 c.n, .int .i64 c.f, .int .i64 c.m, .int .i64 c.q, .int .i64 c.fresh, .int .i64 c.grace, .int .i64 c.window, .int .i64 c.t0, .int .i64 c.t1, .int .i64 c.t2, .int .i64 c.t3, .int .i64 c.tol, .int .i64 c.lo, .int .i64 c.hi, .int .i64 c.cup, .int .i64 c.cdn, .int .i64 c.pup, .int .i64 c.tup, .int .i64 c.pdn, .int .i64 c.tdn, .int .i64 c.per, .int .i64 c.far, .int .i64 c.str, .int .i64 c.pro, .int .i64 c.sec, .int .u64 c.seed]] w fun e w' => e = .returned (.bool true) ∧ Gr w w' := h ▸ rates_any c w
theorem mayRates_b (c : CF) {b : Bool} (h : mayRatesR c = b) (w : World) : Calls Try.prog 90 #[.agg #[.int .i64 c.n, .int .i64 c.f, .int .i64 c.m, .int .i64 c.q, .int .i64 c.fresh, .int .i64 c.grace, .int .i64 c.window, .int .i64 c.t0, .int .i64 c.t1, .int .i64 c.t2, .int .i64 c.t3, .int .i64 c.tol, .int .i64 c.lo, .int .i64 c.hi, .int .i64 c.cup, .int .i64 c.cdn, .int .i64 c.pup, .int .i64 c.tup, .int .i64 c.pdn, .int .i64 c.tdn, .int .i64 c.per, .int .i64 c.far, .int .i64 c.str, .int .i64 c.pro, .int .i64 c.sec, .int .u64 c.seed]] w fun e w' => e = .returned (.bool b) ∧ Gr w w' := h ▸ mayRates_any c w

theorem ret_pair {a b c d : Int} (h : a = c) (k : b = d) : Ending.returned (.tuple #[.int .i64 a, .int .i64 b]) = Ending.returned (.tuple #[.int .i64 c, .int .i64 d]) := by rw [h, k]
theorem quo100 {x : Int} (h : 0 ≤ x) : x.tdiv 100 = x / 100 := Int.tdiv_eq_ediv_of_nonneg h

set_option maxHeartbeats 2000000 in
theorem bounds_any (c : CF) (b : Int) (w : World) : Calls Try.prog 53 #[.agg #[.int .i64 c.n, .int .i64 c.f, .int .i64 c.m, .int .i64 c.q, .int .i64 c.fresh, .int .i64 c.grace, .int .i64 c.window, .int .i64 c.t0, .int .i64 c.t1, .int .i64 c.t2, .int .i64 c.t3, .int .i64 c.tol, .int .i64 c.lo, .int .i64 c.hi, .int .i64 c.cup, .int .i64 c.cdn, .int .i64 c.pup, .int .i64 c.tup, .int .i64 c.pdn, .int .i64 c.tdn, .int .i64 c.per, .int .i64 c.far, .int .i64 c.str, .int .i64 c.pro, .int .i64 c.sec, .int .u64 c.seed], .int .i64 b] w fun e w' => e = .returned (.tuple #[.int .i64 (loB c b), .int .i64 (hiB c b)]) ∧ Gr w w' := by
  have A0 := start_at (Gr.refl w) c
  cases hm : mayRatesR c with
  | false =>
    have hr := fun w => rates_false c (by rw [rates_eq]; exact hm) w
    have e1 : loB c b = 0 := by unfold loB mayBs; simp [hm]
    have e2 : hiB c b = 0 := by unfold hiB mayBs; simp [hm]
    rw [e1, e2]
    clear e1 e2 hm
    have HR := Lib.hid hr; clear hr
    go_enter Try.func53, Try.ntmps53
    go_upto_region 1 with (fail)
    generalize w.alloc (.cells #[.int .i64 c.n, .int .i64 c.f, .int .i64 c.m, .int .i64 c.q, .int .i64 c.fresh, .int .i64 c.grace, .int .i64 c.window, .int .i64 c.t0, .int .i64 c.t1, .int .i64 c.t2, .int .i64 c.t3, .int .i64 c.tol, .int .i64 c.lo, .int .i64 c.hi, .int .i64 c.cup, .int .i64 c.cdn, .int .i64 c.pup, .int .i64 c.tup, .int .i64 c.pdn, .int .i64 c.tdn, .int .i64 c.per, .int .i64 c.far, .int .i64 c.str, .int .i64 c.pro, .int .i64 c.sec, .int .u64 c.seed] 36) = w1 at *
    generalize w.heap.size = b0 at *
    have hk := A0.conf
    go_wp2_with ((go_at_call 85; refine (HR.out _).mono ?_; rintro e w2 ⟨rfl, hg⟩; replace A0 := A0.on hg; clear hg hk))
    go_ret2
    exact ⟨rfl, A0.gr⟩
  | true =>
    have hr := fun w => rates_true c (by rw [rates_eq]; exact hm) w
    have HR := Lib.hid hr; clear hr
    by_cases h0 : 0 ≤ b
    · by_cases h1 : b ≤ 10000
      · have e1 : loB c b = dnP c b := by unfold loB; rw [if_pos (mayBs_of hm h0 h1)]
        have e2 : hiB c b = upP c b := by unfold hiB; rw [if_pos (mayBs_of hm h0 h1)]
        rw [e1, e2]
        have r := rts_of hm
        have p0 := r.pup0; have p1 := r.pup1; have q0 := r.tup0; have q1 := r.tup1; have s0 := r.pdn0; have s1 := r.pdn1; have t0 := r.tdn0; have t1 := r.tdn1
        clear e1 e2 hm r
        have m0 : 0 ≤ b * (100 + c.tup) := Int.mul_nonneg h0 (by omega)
        have m1 : b * (100 + c.tup) ≤ 10000 * 1100 := Int.le_trans (Int.mul_le_mul_of_nonneg_right h1 (by omega)) (Int.mul_le_mul_of_nonneg_left (by omega) (by omega))
        have m2 : 0 ≤ b * (100 - c.tdn) := Int.mul_nonneg h0 (by omega)
        have m3 : b * (100 - c.tdn) ≤ 10000 * 99 := Int.le_trans (Int.mul_le_mul_of_nonneg_right h1 (by omega)) (Int.mul_le_mul_of_nonneg_left (by omega) (by omega))
        have eu : upP c b = max (b + c.pup) ((b * (100 + c.tup) + 99) / 100) := rfl
        have ed : dnP c b = max (min (b - c.pdn) (b * (100 - c.tdn) / 100)) 0 := rfl
        have EU := Lib.hid eu
        have ED := Lib.hid ed
        clear eu ed
        generalize upP c b = U at *
        generalize dnP c b = D at *
        go_enter Try.func53, Try.ntmps53
        go_upto_region 1 with (fail)
        generalize w.alloc (.cells #[.int .i64 c.n, .int .i64 c.f, .int .i64 c.m, .int .i64 c.q, .int .i64 c.fresh, .int .i64 c.grace, .int .i64 c.window, .int .i64 c.t0, .int .i64 c.t1, .int .i64 c.t2, .int .i64 c.t3, .int .i64 c.tol, .int .i64 c.lo, .int .i64 c.hi, .int .i64 c.cup, .int .i64 c.cdn, .int .i64 c.pup, .int .i64 c.tup, .int .i64 c.pdn, .int .i64 c.tdn, .int .i64 c.per, .int .i64 c.far, .int .i64 c.str, .int .i64 c.pro, .int .i64 c.sec, .int .u64 c.seed] 36) = w1 at *
        generalize w.heap.size = b0 at *
        have hk := A0.conf
        go_wp2_with ((go_at_call 85; refine (HR.out _).mono ?_; rintro e w2 ⟨rfl, hg⟩; replace A0 := A0.on hg; clear hg hk; have hc := A0.cell))
        all_goals
          go_ret2
          refine ⟨?_, A0.gr⟩
          rw [EU.out, ED.out]
          clear EU ED HR
          refine ret_pair ?_ ?_ <;> omega
      · have e1 : loB c b = 0 := by unfold loB mayBs; simp [h1]
        have e2 : hiB c b = 0 := by unfold hiB mayBs; simp [h1]
        rw [e1, e2]
        clear e1 e2 hm
        go_enter Try.func53, Try.ntmps53
        go_upto_region 1 with (fail)
        generalize w.alloc (.cells #[.int .i64 c.n, .int .i64 c.f, .int .i64 c.m, .int .i64 c.q, .int .i64 c.fresh, .int .i64 c.grace, .int .i64 c.window, .int .i64 c.t0, .int .i64 c.t1, .int .i64 c.t2, .int .i64 c.t3, .int .i64 c.tol, .int .i64 c.lo, .int .i64 c.hi, .int .i64 c.cup, .int .i64 c.cdn, .int .i64 c.pup, .int .i64 c.tup, .int .i64 c.pdn, .int .i64 c.tdn, .int .i64 c.per, .int .i64 c.far, .int .i64 c.str, .int .i64 c.pro, .int .i64 c.sec, .int .u64 c.seed] 36) = w1 at *
        generalize w.heap.size = b0 at *
        have hk := A0.conf
        go_wp2_with ((go_at_call 85; refine (HR.out _).mono ?_; rintro e w2 ⟨rfl, hg⟩; replace A0 := A0.on hg; clear hg hk))
        go_ret2
        exact ⟨rfl, A0.gr⟩
    · have e1 : loB c b = 0 := by unfold loB mayBs; simp [h0]
      have e2 : hiB c b = 0 := by unfold hiB mayBs; simp [h0]
      rw [e1, e2]
      clear e1 e2 hm
      go_enter Try.func53, Try.ntmps53
      go_upto_region 1 with (fail)
      generalize w.alloc (.cells #[.int .i64 c.n, .int .i64 c.f, .int .i64 c.m, .int .i64 c.q, .int .i64 c.fresh, .int .i64 c.grace, .int .i64 c.window, .int .i64 c.t0, .int .i64 c.t1, .int .i64 c.t2, .int .i64 c.t3, .int .i64 c.tol, .int .i64 c.lo, .int .i64 c.hi, .int .i64 c.cup, .int .i64 c.cdn, .int .i64 c.pup, .int .i64 c.tup, .int .i64 c.pdn, .int .i64 c.tdn, .int .i64 c.per, .int .i64 c.far, .int .i64 c.str, .int .i64 c.pro, .int .i64 c.sec, .int .u64 c.seed] 36) = w1 at *
      generalize w.heap.size = b0 at *
      have hk := A0.conf
      go_wp2_with ((go_at_call 85; refine (HR.out _).mono ?_; rintro e w2 ⟨rfl, hg⟩; replace A0 := A0.on hg; clear hg hk))
      go_ret2
      exact ⟨rfl, A0.gr⟩
set_option maxHeartbeats 2000000 in
theorem r_bounds_any (c : CF) (b : Int) (w : World) : Calls Try.prog 54 #[.agg #[.int .i64 c.n, .int .i64 c.f, .int .i64 c.m, .int .i64 c.q, .int .i64 c.fresh, .int .i64 c.grace, .int .i64 c.window, .int .i64 c.t0, .int .i64 c.t1, .int .i64 c.t2, .int .i64 c.t3, .int .i64 c.tol, .int .i64 c.lo, .int .i64 c.hi, .int .i64 c.cup, .int .i64 c.cdn, .int .i64 c.pup, .int .i64 c.tup, .int .i64 c.pdn, .int .i64 c.tdn, .int .i64 c.per, .int .i64 c.far, .int .i64 c.str, .int .i64 c.pro, .int .i64 c.sec, .int .u64 c.seed], .int .i64 b] w fun e w' => e = .returned (.tuple #[.int .i64 (loB c b), .int .i64 (hiB c b)]) ∧ Gr w w' := by
  have A0 := start_at (Gr.refl w) c
  cases hm : mayRatesR c with
  | false =>
    have hr := fun w => mayRates_b c hm w
    have e1 : loB c b = 0 := by unfold loB mayBs; simp [hm]
    have e2 : hiB c b = 0 := by unfold hiB mayBs; simp [hm]
    rw [e1, e2]
    clear e1 e2 hm
    have HR := Lib.hid hr; clear hr
    go_enter Try.func54, Try.ntmps54
    go_upto_region 1 with (fail)
    generalize w.alloc (.cells #[.int .i64 c.n, .int .i64 c.f, .int .i64 c.m, .int .i64 c.q, .int .i64 c.fresh, .int .i64 c.grace, .int .i64 c.window, .int .i64 c.t0, .int .i64 c.t1, .int .i64 c.t2, .int .i64 c.t3, .int .i64 c.tol, .int .i64 c.lo, .int .i64 c.hi, .int .i64 c.cup, .int .i64 c.cdn, .int .i64 c.pup, .int .i64 c.tup, .int .i64 c.pdn, .int .i64 c.tdn, .int .i64 c.per, .int .i64 c.far, .int .i64 c.str, .int .i64 c.pro, .int .i64 c.sec, .int .u64 c.seed] 36) = w1 at *
    generalize w.heap.size = b0 at *
    have hk := A0.conf
    go_wp2_with ((go_at_call 90; refine (HR.out _).mono ?_; rintro e w2 ⟨rfl, hg⟩; replace A0 := A0.on hg; clear hg hk))
    go_ret2
    exact ⟨rfl, A0.gr⟩
  | true =>
    have hr := fun w => mayRates_b c hm w
    have HR := Lib.hid hr; clear hr
    by_cases h0 : 0 ≤ b
    · by_cases h1 : b ≤ 10000
      · have e1 : loB c b = dnP c b := by unfold loB; rw [if_pos (mayBs_of hm h0 h1)]
        have e2 : hiB c b = upP c b := by unfold hiB; rw [if_pos (mayBs_of hm h0 h1)]
        rw [e1, e2]
        have r := rts_of hm
        have p0 := r.pup0; have p1 := r.pup1; have q0 := r.tup0; have q1 := r.tup1; have s0 := r.pdn0; have s1 := r.pdn1; have t0 := r.tdn0; have t1 := r.tdn1
        clear e1 e2 hm r
        have m0 : 0 ≤ b * (100 + c.tup) := Int.mul_nonneg h0 (by omega)
        have m1 : b * (100 + c.tup) ≤ 10000 * 1100 := Int.le_trans (Int.mul_le_mul_of_nonneg_right h1 (by omega)) (Int.mul_le_mul_of_nonneg_left (by omega) (by omega))
        have m2 : 0 ≤ b * (100 - c.tdn) := Int.mul_nonneg h0 (by omega)
        have m3 : b * (100 - c.tdn) ≤ 10000 * 99 := Int.le_trans (Int.mul_le_mul_of_nonneg_right h1 (by omega)) (Int.mul_le_mul_of_nonneg_left (by omega) (by omega))
        have eu : upP c b = max (b + c.pup) ((b * (100 + c.tup) + 99) / 100) := rfl
        have ed : dnP c b = max (min (b - c.pdn) (b * (100 - c.tdn) / 100)) 0 := rfl
        have EU := Lib.hid eu
        have ED := Lib.hid ed
        clear eu ed
        generalize upP c b = U at *
        generalize dnP c b = D at *
        go_enter Try.func54, Try.ntmps54
        go_upto_region 1 with (fail)
        generalize w.alloc (.cells #[.int .i64 c.n, .int .i64 c.f, .int .i64 c.m, .int .i64 c.q, .int .i64 c.fresh, .int .i64 c.grace, .int .i64 c.window, .int .i64 c.t0, .int .i64 c.t1, .int .i64 c.t2, .int .i64 c.t3, .int .i64 c.tol, .int .i64 c.lo, .int .i64 c.hi, .int .i64 c.cup, .int .i64 c.cdn, .int .i64 c.pup, .int .i64 c.tup, .int .i64 c.pdn, .int .i64 c.tdn, .int .i64 c.per, .int .i64 c.far, .int .i64 c.str, .int .i64 c.pro, .int .i64 c.sec, .int .u64 c.seed] 36) = w1 at *
        generalize w.heap.size = b0 at *
        have hk := A0.conf
        go_wp2_with ((go_at_call 90; refine (HR.out _).mono ?_; rintro e w2 ⟨rfl, hg⟩; replace A0 := A0.on hg; clear hg hk; have hc := A0.cell))
        all_goals
          go_ret2
          refine ⟨?_, A0.gr⟩
          rw [EU.out, ED.out]
          clear EU ED HR
          refine ret_pair ?_ ?_ <;> omega
      · have e1 : loB c b = 0 := by unfold loB mayBs; simp [h1]
        have e2 : hiB c b = 0 := by unfold hiB mayBs; simp [h1]
        rw [e1, e2]
        clear e1 e2 hm
        go_enter Try.func54, Try.ntmps54
        go_upto_region 1 with (fail)
        generalize w.alloc (.cells #[.int .i64 c.n, .int .i64 c.f, .int .i64 c.m, .int .i64 c.q, .int .i64 c.fresh, .int .i64 c.grace, .int .i64 c.window, .int .i64 c.t0, .int .i64 c.t1, .int .i64 c.t2, .int .i64 c.t3, .int .i64 c.tol, .int .i64 c.lo, .int .i64 c.hi, .int .i64 c.cup, .int .i64 c.cdn, .int .i64 c.pup, .int .i64 c.tup, .int .i64 c.pdn, .int .i64 c.tdn, .int .i64 c.per, .int .i64 c.far, .int .i64 c.str, .int .i64 c.pro, .int .i64 c.sec, .int .u64 c.seed] 36) = w1 at *
        generalize w.heap.size = b0 at *
        have hk := A0.conf
        go_wp2_with ((go_at_call 90; refine (HR.out _).mono ?_; rintro e w2 ⟨rfl, hg⟩; replace A0 := A0.on hg; clear hg hk))
        go_ret2
        exact ⟨rfl, A0.gr⟩
    · have e1 : loB c b = 0 := by unfold loB mayBs; simp [h0]
      have e2 : hiB c b = 0 := by unfold hiB mayBs; simp [h0]
      rw [e1, e2]
      clear e1 e2 hm
      go_enter Try.func54, Try.ntmps54
      go_upto_region 1 with (fail)
      generalize w.alloc (.cells #[.int .i64 c.n, .int .i64 c.f, .int .i64 c.m, .int .i64 c.q, .int .i64 c.fresh, .int .i64 c.grace, .int .i64 c.window, .int .i64 c.t0, .int .i64 c.t1, .int .i64 c.t2, .int .i64 c.t3, .int .i64 c.tol, .int .i64 c.lo, .int .i64 c.hi, .int .i64 c.cup, .int .i64 c.cdn, .int .i64 c.pup, .int .i64 c.tup, .int .i64 c.pdn, .int .i64 c.tdn, .int .i64 c.per, .int .i64 c.far, .int .i64 c.str, .int .i64 c.pro, .int .i64 c.sec, .int .u64 c.seed] 36) = w1 at *
      generalize w.heap.size = b0 at *
      have hk := A0.conf
      go_wp2_with ((go_at_call 90; refine (HR.out _).mono ?_; rintro e w2 ⟨rfl, hg⟩; replace A0 := A0.on hg; clear hg hk))
      go_ret2
      exact ⟨rfl, A0.gr⟩

theorem newB_of {c : CF} {n : Int} (h : newB c n = true) : mayRatesR c = true ∧ c.lo ≤ n ∧ n ≤ c.hi := by
  unfold newB at h
  simp at h
  exact ⟨h.1, h.2.1, h.2.2⟩
set_option maxHeartbeats 2000000 in
theorem new_ok (c : CF) (n : Int) (h : newB c n = true) (w : World) : Calls Try.prog 45 #[.agg #[.int .i64 c.n, .int .i64 c.f, .int .i64 c.m, .int .i64 c.q, .int .i64 c.fresh, .int .i64 c.grace, .int .i64 c.window, .int .i64 c.t0, .int .i64 c.t1, .int .i64 c.t2, .int .i64 c.t3, .int .i64 c.tol, .int .i64 c.lo, .int .i64 c.hi, .int .i64 c.cup, .int .i64 c.cdn, .int .i64 c.pup, .int .i64 c.tup, .int .i64 c.pdn, .int .i64 c.tdn, .int .i64 c.per, .int .i64 c.far, .int .i64 c.str, .int .i64 c.pro, .int .i64 c.sec, .int .u64 c.seed], .int .i64 n] w fun e w' =>
    ∃ p g, e = .returned (.pointer (some ⟨p, 0, none⟩)) ∧ Pol w' p g 1 c [n] 0 ∧ w.heap.size ≤ p ∧ w.heap.size ≤ g ∧ Gr w w' := by
  have A0 := start_at (Gr.refl w) c
  obtain ⟨hm, h0, h1⟩ := newB_of h
  clear h
  have hr := fun w => rates_true c (by rw [rates_eq]; exact hm) w
  have HR := Lib.hid hr; clear hr hm
  go_enter Try.func45, Try.ntmps45
  go_upto_region 1 with (fail)
  generalize w.alloc (.cells #[.int .i64 c.n, .int .i64 c.f, .int .i64 c.m, .int .i64 c.q, .int .i64 c.fresh, .int .i64 c.grace, .int .i64 c.window, .int .i64 c.t0, .int .i64 c.t1, .int .i64 c.t2, .int .i64 c.t3, .int .i64 c.tol, .int .i64 c.lo, .int .i64 c.hi, .int .i64 c.cup, .int .i64 c.cdn, .int .i64 c.pup, .int .i64 c.tup, .int .i64 c.pdn, .int .i64 c.tdn, .int .i64 c.per, .int .i64 c.far, .int .i64 c.str, .int .i64 c.pro, .int .i64 c.sec, .int .u64 c.seed] 36) = w1 at *
  generalize w.heap.size = b0 at *
  have hk := A0.conf
  go_upto_region 3 with ((go_at_call 85; refine (HR.out _).mono ?_; rintro e w2 ⟨rfl, hg⟩; replace A0 := A0.on hg; clear hg hk; have hc := A0.cell))
  rename World => w2
  refine wp_region_lit ?_
  refine wpList_val (.agg #[.int .i64 c.n, .int .i64 c.f, .int .i64 c.m, .int .i64 c.q, .int .i64 c.fresh, .int .i64 c.grace, .int .i64 c.window, .int .i64 c.t0, .int .i64 c.t1, .int .i64 c.t2, .int .i64 c.t3, .int .i64 c.tol, .int .i64 c.lo, .int .i64 c.hi, .int .i64 c.cup, .int .i64 c.cdn, .int .i64 c.pup, .int .i64 c.tup, .int .i64 c.pdn, .int .i64 c.tdn, .int .i64 c.per, .int .i64 c.far, .int .i64 c.str, .int .i64 c.pro, .int .i64 c.sec, .int .u64 c.seed]) w2 rfl (xload36_of rfl A0.conf) ?_
  refine wpList_val (.int .i64 n) w2 rfl (by kernel_rfl) ?_
  refine wpList_val (.slice (some ⟨w2.heap.size, 0, none⟩) 1 1) (w2.alloc (.cells #[.int .i64 n] 3)) rfl (by kernel_rfl) ?_
  refine wpList_val (.agg #[.int .i64 c.n, .int .i64 c.f, .int .i64 c.m, .int .i64 c.q, .int .i64 c.fresh, .int .i64 c.grace, .int .i64 c.window, .int .i64 c.t0, .int .i64 c.t1, .int .i64 c.t2, .int .i64 c.t3, .int .i64 c.tol, .int .i64 c.lo, .int .i64 c.hi, .int .i64 c.cup, .int .i64 c.cdn, .int .i64 c.pup, .int .i64 c.tup, .int .i64 c.pdn, .int .i64 c.tdn, .int .i64 c.per, .int .i64 c.far, .int .i64 c.str, .int .i64 c.pro, .int .i64 c.sec, .int .u64 c.seed, .slice (some ⟨w2.heap.size, 0, none⟩) 1 1, .int .i64 0]) (w2.alloc (.cells #[.int .i64 n] 3)) rfl (by kernel_rfl) ?_
  refine wpList_val (.pointer (some ⟨(w2.alloc (.cells #[.int .i64 n] 3)).heap.size, 0, none⟩)) ((w2.alloc (.cells #[.int .i64 n] 3)).alloc (.cells #[.int .i64 c.n, .int .i64 c.f, .int .i64 c.m, .int .i64 c.q, .int .i64 c.fresh, .int .i64 c.grace, .int .i64 c.window, .int .i64 c.t0, .int .i64 c.t1, .int .i64 c.t2, .int .i64 c.t3, .int .i64 c.tol, .int .i64 c.lo, .int .i64 c.hi, .int .i64 c.cup, .int .i64 c.cdn, .int .i64 c.pup, .int .i64 c.tup, .int .i64 c.pdn, .int .i64 c.tdn, .int .i64 c.per, .int .i64 c.far, .int .i64 c.str, .int .i64 c.pro, .int .i64 c.sec, .int .u64 c.seed, .slice (some ⟨w2.heap.size, 0, none⟩) 1 1, .int .i64 0] 112)) rfl (by kernel_rfl) ?_
  go_wp2
  go_ret
  have g0 := A0.gr
  refine ⟨_, _, rfl, ⟨heap_new (size_alloc _ _).symm, ?_, ?_⟩, ?_, ?_, (g0.alloc _).alloc _⟩
  · exact own_of_block (w := w2.alloc (.cells #[.int .i64 n] 3)) ⟨rfl, .inr ⟨w2.heap.size, 1, _, rfl, Nat.le_refl _, heap_new rfl, by simp, by unfold maxLen; omega, rfl, rfl⟩⟩ (Below.heap_alloc _ _ _ (by simp))
  · simp
  · have := g0.size; simp; omega
  · exact g0.size
set_option maxHeartbeats 2000000 in
theorem new_no (c : CF) (n : Int) (h : newB c n = false) (w : World) : Calls Try.prog 45 #[.agg #[.int .i64 c.n, .int .i64 c.f, .int .i64 c.m, .int .i64 c.q, .int .i64 c.fresh, .int .i64 c.grace, .int .i64 c.window, .int .i64 c.t0, .int .i64 c.t1, .int .i64 c.t2, .int .i64 c.t3, .int .i64 c.tol, .int .i64 c.lo, .int .i64 c.hi, .int .i64 c.cup, .int .i64 c.cdn, .int .i64 c.pup, .int .i64 c.tup, .int .i64 c.pdn, .int .i64 c.tdn, .int .i64 c.per, .int .i64 c.far, .int .i64 c.str, .int .i64 c.pro, .int .i64 c.sec, .int .u64 c.seed], .int .i64 n] w fun e w' => e = .returned (.pointer none) ∧ Gr w w' := by
  have A0 := start_at (Gr.refl w) c
  cases hm : mayRatesR c with
  | false =>
    have hr := fun w => rates_false c (by rw [rates_eq]; exact hm) w
    have HR := Lib.hid hr; clear hr hm h
    go_enter Try.func45, Try.ntmps45
    go_upto_region 1 with (fail)
    generalize w.alloc (.cells #[.int .i64 c.n, .int .i64 c.f, .int .i64 c.m, .int .i64 c.q, .int .i64 c.fresh, .int .i64 c.grace, .int .i64 c.window, .int .i64 c.t0, .int .i64 c.t1, .int .i64 c.t2, .int .i64 c.t3, .int .i64 c.tol, .int .i64 c.lo, .int .i64 c.hi, .int .i64 c.cup, .int .i64 c.cdn, .int .i64 c.pup, .int .i64 c.tup, .int .i64 c.pdn, .int .i64 c.tdn, .int .i64 c.per, .int .i64 c.far, .int .i64 c.str, .int .i64 c.pro, .int .i64 c.sec, .int .u64 c.seed] 36) = w1 at *
    generalize w.heap.size = b0 at *
    have hk := A0.conf
    go_wp2_with ((go_at_call 85; refine (HR.out _).mono ?_; rintro e w2 ⟨rfl, hg⟩; replace A0 := A0.on hg; clear hg hk; have hc := A0.cell))
    go_ret
    exact ⟨rfl, A0.gr⟩
  | true =>
    have hr := fun w => rates_true c (by rw [rates_eq]; exact hm) w
    have hb : ¬ (c.lo ≤ n ∧ n ≤ c.hi) := by unfold newB at h; simpa [hm] using h
    have HR := Lib.hid hr; clear hr hm h
    by_cases h0 : c.lo ≤ n
    all_goals
      go_enter Try.func45, Try.ntmps45
      go_upto_region 1 with (fail)
      generalize w.alloc (.cells #[.int .i64 c.n, .int .i64 c.f, .int .i64 c.m, .int .i64 c.q, .int .i64 c.fresh, .int .i64 c.grace, .int .i64 c.window, .int .i64 c.t0, .int .i64 c.t1, .int .i64 c.t2, .int .i64 c.t3, .int .i64 c.tol, .int .i64 c.lo, .int .i64 c.hi, .int .i64 c.cup, .int .i64 c.cdn, .int .i64 c.pup, .int .i64 c.tup, .int .i64 c.pdn, .int .i64 c.tdn, .int .i64 c.per, .int .i64 c.far, .int .i64 c.str, .int .i64 c.pro, .int .i64 c.sec, .int .u64 c.seed] 36) = w1 at *
      generalize w.heap.size = b0 at *
      have hk := A0.conf
      go_wp2_with ((go_at_call 85; refine (HR.out _).mono ?_; rintro e w2 ⟨rfl, hg⟩; replace A0 := A0.on hg; clear hg hk; have hc := A0.cell))
      go_ret
      exact ⟨rfl, A0.gr⟩
set_option maxHeartbeats 2000000 in
theorem r_new_ok (c : CF) (n : Int) (h : newB c n = true) (w : World) : Calls Try.prog 52 #[.agg #[.int .i64 c.n, .int .i64 c.f, .int .i64 c.m, .int .i64 c.q, .int .i64 c.fresh, .int .i64 c.grace, .int .i64 c.window, .int .i64 c.t0, .int .i64 c.t1, .int .i64 c.t2, .int .i64 c.t3, .int .i64 c.tol, .int .i64 c.lo, .int .i64 c.hi, .int .i64 c.cup, .int .i64 c.cdn, .int .i64 c.pup, .int .i64 c.tup, .int .i64 c.pdn, .int .i64 c.tdn, .int .i64 c.per, .int .i64 c.far, .int .i64 c.str, .int .i64 c.pro, .int .i64 c.sec, .int .u64 c.seed], .int .i64 n] w fun e w' =>
    ∃ p g, e = .returned (.pointer (some ⟨p, 0, none⟩)) ∧ Rol w' p g 1 c [n] ∧ w.heap.size ≤ p ∧ w.heap.size ≤ g ∧ Gr w w' := by
  have A0 := start_at (Gr.refl w) c
  obtain ⟨hm, h0, h1⟩ := newB_of h
  clear h
  have hr := fun w => mayRates_b c hm w
  have HR := Lib.hid hr; clear hr hm
  go_enter Try.func52, Try.ntmps52
  go_upto_region 1 with (fail)
  generalize w.alloc (.cells #[.int .i64 c.n, .int .i64 c.f, .int .i64 c.m, .int .i64 c.q, .int .i64 c.fresh, .int .i64 c.grace, .int .i64 c.window, .int .i64 c.t0, .int .i64 c.t1, .int .i64 c.t2, .int .i64 c.t3, .int .i64 c.tol, .int .i64 c.lo, .int .i64 c.hi, .int .i64 c.cup, .int .i64 c.cdn, .int .i64 c.pup, .int .i64 c.tup, .int .i64 c.pdn, .int .i64 c.tdn, .int .i64 c.per, .int .i64 c.far, .int .i64 c.str, .int .i64 c.pro, .int .i64 c.sec, .int .u64 c.seed] 36) = w1 at *
  generalize w.heap.size = b0 at *
  have hk := A0.conf
  go_upto_region 3 with ((go_at_call 90; refine (HR.out _).mono ?_; rintro e w2 ⟨rfl, hg⟩; replace A0 := A0.on hg; clear hg hk; have hc := A0.cell))
  rename World => w2
  refine wp_region_lit ?_
  refine wpList_val (.agg #[.int .i64 c.n, .int .i64 c.f, .int .i64 c.m, .int .i64 c.q, .int .i64 c.fresh, .int .i64 c.grace, .int .i64 c.window, .int .i64 c.t0, .int .i64 c.t1, .int .i64 c.t2, .int .i64 c.t3, .int .i64 c.tol, .int .i64 c.lo, .int .i64 c.hi, .int .i64 c.cup, .int .i64 c.cdn, .int .i64 c.pup, .int .i64 c.tup, .int .i64 c.pdn, .int .i64 c.tdn, .int .i64 c.per, .int .i64 c.far, .int .i64 c.str, .int .i64 c.pro, .int .i64 c.sec, .int .u64 c.seed]) w2 rfl (xload36_of rfl A0.conf) ?_
  refine wpList_val (.int .i64 n) w2 rfl (by kernel_rfl) ?_
  refine wpList_val (.slice (some ⟨w2.heap.size, 0, none⟩) 1 1) (w2.alloc (.cells #[.int .i64 n] 3)) rfl (by kernel_rfl) ?_
  refine wpList_val (.agg #[.int .i64 c.n, .int .i64 c.f, .int .i64 c.m, .int .i64 c.q, .int .i64 c.fresh, .int .i64 c.grace, .int .i64 c.window, .int .i64 c.t0, .int .i64 c.t1, .int .i64 c.t2, .int .i64 c.t3, .int .i64 c.tol, .int .i64 c.lo, .int .i64 c.hi, .int .i64 c.cup, .int .i64 c.cdn, .int .i64 c.pup, .int .i64 c.tup, .int .i64 c.pdn, .int .i64 c.tdn, .int .i64 c.per, .int .i64 c.far, .int .i64 c.str, .int .i64 c.pro, .int .i64 c.sec, .int .u64 c.seed, .slice (some ⟨w2.heap.size, 0, none⟩) 1 1]) (w2.alloc (.cells #[.int .i64 n] 3)) rfl (by kernel_rfl) ?_
  refine wpList_val (.pointer (some ⟨(w2.alloc (.cells #[.int .i64 n] 3)).heap.size, 0, none⟩)) ((w2.alloc (.cells #[.int .i64 n] 3)).alloc (.cells #[.int .i64 c.n, .int .i64 c.f, .int .i64 c.m, .int .i64 c.q, .int .i64 c.fresh, .int .i64 c.grace, .int .i64 c.window, .int .i64 c.t0, .int .i64 c.t1, .int .i64 c.t2, .int .i64 c.t3, .int .i64 c.tol, .int .i64 c.lo, .int .i64 c.hi, .int .i64 c.cup, .int .i64 c.cdn, .int .i64 c.pup, .int .i64 c.tup, .int .i64 c.pdn, .int .i64 c.tdn, .int .i64 c.per, .int .i64 c.far, .int .i64 c.str, .int .i64 c.pro, .int .i64 c.sec, .int .u64 c.seed, .slice (some ⟨w2.heap.size, 0, none⟩) 1 1] 62)) rfl (by kernel_rfl) ?_
  go_wp2
  go_ret
  have g0 := A0.gr
  refine ⟨_, _, rfl, ⟨heap_new (size_alloc _ _).symm, ?_, ?_⟩, ?_, ?_, (g0.alloc _).alloc _⟩
  · exact own_of_block (w := w2.alloc (.cells #[.int .i64 n] 3)) ⟨rfl, .inr ⟨w2.heap.size, 1, _, rfl, Nat.le_refl _, heap_new rfl, by simp, by unfold maxLen; omega, rfl, rfl⟩⟩ (Below.heap_alloc _ _ _ (by simp))
  · simp
  · have := g0.size; simp; omega
  · exact g0.size
set_option maxHeartbeats 2000000 in
theorem r_new_no (c : CF) (n : Int) (h : newB c n = false) (w : World) : Calls Try.prog 52 #[.agg #[.int .i64 c.n, .int .i64 c.f, .int .i64 c.m, .int .i64 c.q, .int .i64 c.fresh, .int .i64 c.grace, .int .i64 c.window, .int .i64 c.t0, .int .i64 c.t1, .int .i64 c.t2, .int .i64 c.t3, .int .i64 c.tol, .int .i64 c.lo, .int .i64 c.hi, .int .i64 c.cup, .int .i64 c.cdn, .int .i64 c.pup, .int .i64 c.tup, .int .i64 c.pdn, .int .i64 c.tdn, .int .i64 c.per, .int .i64 c.far, .int .i64 c.str, .int .i64 c.pro, .int .i64 c.sec, .int .u64 c.seed], .int .i64 n] w fun e w' => e = .returned (.pointer none) ∧ Gr w w' := by
  have A0 := start_at (Gr.refl w) c
  cases hm : mayRatesR c with
  | false =>
    have hr := fun w => mayRates_b c hm w
    have HR := Lib.hid hr; clear hr hm h
    go_enter Try.func52, Try.ntmps52
    go_upto_region 1 with (fail)
    generalize w.alloc (.cells #[.int .i64 c.n, .int .i64 c.f, .int .i64 c.m, .int .i64 c.q, .int .i64 c.fresh, .int .i64 c.grace, .int .i64 c.window, .int .i64 c.t0, .int .i64 c.t1, .int .i64 c.t2, .int .i64 c.t3, .int .i64 c.tol, .int .i64 c.lo, .int .i64 c.hi, .int .i64 c.cup, .int .i64 c.cdn, .int .i64 c.pup, .int .i64 c.tup, .int .i64 c.pdn, .int .i64 c.tdn, .int .i64 c.per, .int .i64 c.far, .int .i64 c.str, .int .i64 c.pro, .int .i64 c.sec, .int .u64 c.seed] 36) = w1 at *
    generalize w.heap.size = b0 at *
    have hk := A0.conf
    go_wp2_with ((go_at_call 90; refine (HR.out _).mono ?_; rintro e w2 ⟨rfl, hg⟩; replace A0 := A0.on hg; clear hg hk; have hc := A0.cell))
    go_ret
    exact ⟨rfl, A0.gr⟩
  | true =>
    have hr := fun w => mayRates_b c hm w
    have hb : ¬ (c.lo ≤ n ∧ n ≤ c.hi) := by unfold newB at h; simpa [hm] using h
    have HR := Lib.hid hr; clear hr hm h
    by_cases h0 : c.lo ≤ n
    all_goals
      go_enter Try.func52, Try.ntmps52
      go_upto_region 1 with (fail)
      generalize w.alloc (.cells #[.int .i64 c.n, .int .i64 c.f, .int .i64 c.m, .int .i64 c.q, .int .i64 c.fresh, .int .i64 c.grace, .int .i64 c.window, .int .i64 c.t0, .int .i64 c.t1, .int .i64 c.t2, .int .i64 c.t3, .int .i64 c.tol, .int .i64 c.lo, .int .i64 c.hi, .int .i64 c.cup, .int .i64 c.cdn, .int .i64 c.pup, .int .i64 c.tup, .int .i64 c.pdn, .int .i64 c.tdn, .int .i64 c.per, .int .i64 c.far, .int .i64 c.str, .int .i64 c.pro, .int .i64 c.sec, .int .u64 c.seed] 36) = w1 at *
      generalize w.heap.size = b0 at *
      have hk := A0.conf
      go_wp2_with ((go_at_call 90; refine (HR.out _).mono ?_; rintro e w2 ⟨rfl, hg⟩; replace A0 := A0.on hg; clear hg hk; have hc := A0.cell))
      go_ret
      exact ⟨rfl, A0.gr⟩
end Go.Proofs.Ytjobicffdcnnlaa
/- slices.Clone of whole numbers. -/
namespace Go.Proofs.Ytjobicffdcnnlaa
open Go.RowKit Go.Lib
set_option linter.unusedSimpArgs false
set_option linter.unusedVariables false

theorem info3 : (Try.prog.info? 3).map (fun i => (i.zero, i.size, i.bytes)) = some (some (.int .i64 0), 1, 8) := by kernel_rfl
set_option maxHeartbeats 2000000 in
set_option maxRecDepth 100000 in
theorem clone_any (b off n c : Nat) (l : List Int) (w : World) (hz : l.length = n) (hbig : n * 8 ≤ 140737488355328) (hpos : 0 < n) (hc : ∀ j, j < l.length → w.cell? ⟨b, off + j, none⟩ = some (.int .i64 (l.getD j 0))) :
    Calls Try.prog 86 #[.slice (some ⟨b, off, none⟩) n c] w fun e w' => ∃ g cap, e = .returned (.slice (some ⟨g, 0, none⟩) n cap) ∧ w'.ownsRow g 3 1 (.slice (some ⟨g, 0, none⟩) n cap) n (l.map (Value.int .i64)) ∧ w.heap.size ≤ g ∧ Gr w w' := by
  have q45 : ∀ (w : World) (a : Option Addr) (n c n' c' : Nat), (binOp .eql 45 (.slice a n c) (.slice none n' c')).run Try.prog w = .ok (.bool a.isNone) w := fun w a n c n' c' => Lib.run_eql_slice_nil w _ _ a n c n' c' Try.underlying45
  obtain ⟨i0, hi, hz0, hz1, hz2⟩ := info_parts info3
  have A : Aside (∀ j, j < l.length → w.cell? ⟨b, off + j, none⟩ = some (.int .i64 (l.getD j 0))) := hc
  clear hc
  go_enter Try.func86, Try.ntmps86
  go_wp2_with (at_builtin; refine wpList_append_own _ rfl _ _ 45 rfl w.heap.size 3 i0 (.int .i64 0) 1 8 Try.underlying45 hi hz0 hz1 hz2 rfl (by decide) _ _ _ rfl (World.ownsRow_made w #[] 0 (Nat.le_refl _) (Nat.zero_le _) rfl) ⟨b, off, none⟩ n c (l.map (Value.int .i64)) rfl ?qc1 ?qc2 ?qc3 ?qc4 ?qc5 ?qc6 ?_)
  case qc1 => simp; omega
  case qc2 =>
    intro j u hj
    have hjn : j < l.length := by
      have := (List.getElem?_eq_some_iff.1 hj).1
      simpa using this
    rw [Addr.add_lit]
    refine Lib.cell?_alloc_some _ ?_
    rw [A.out j hjn]
    have e : (l.map (Value.int .i64))[j]? = some (Value.int .i64 (l.getD j 0)) := by simp [List.getD, List.getElem?_eq_getElem hjn]
    rw [e] at hj
    exact hj
  case qc3 => intro u hu; obtain ⟨x, _, rfl⟩ := List.mem_map.1 hu; rfl
  case qc4 => unfold maxLen; omega
  case qc5 => omega
  case qc6 => simp
  intro v' w1 hown hgrow hnil
  go_wp2
  go_ret
  have hg : Gr w w1 := ⟨((Below.refl _ w).alloc (Nat.le_refl _) _).grown hgrow (by simp) (by intro k hk; simp [Value.ownBlock] at hk; omega)⟩
  have hown' : w1.ownsRow w.heap.size 3 1 v' n (l.map (.int .i64)) := by simpa using hown
  rcases hown'.2 with ⟨_, h0⟩ | ⟨g, cap, cur, hv, hb, _⟩
  · omega
  · subst hv
    exact ⟨g, cap, rfl, own_re hown', hb, hg⟩
end Go.Proofs.Ytjobicffdcnnlaa
/- Base, All, Limit of the program's policy. -/
namespace Go.Proofs.Ytjobicffdcnnlaa
open Go.RowKit Go.Lib
set_option linter.unusedSimpArgs false
set_option linter.unusedVariables false
set_option maxRecDepth 100000

theorem find101 : Extern.find Try.f101 = some (Extern.Atomic.update (Op.intArith .add) .i64 true) := by rfl
theorem call101 {w : World} {p off : Nat} {k y : Int} (hc : w.cell? ⟨p, off, none⟩ = some (.int .i64 k)) (hz : w.frozen? ⟨p, off, none⟩ = false) :
    (callFunc 101 #[.pointer (some ⟨p, off, none⟩), .int .i64 y]).run Try.prog w = .ok (.value (.int .i64 (wrap64 (k + y)))) (w.setCell ⟨p, off, none⟩ (.int .i64 (wrap64 (k + y)))) :=
  run_call_add (P := Try.prog) (f := 101) (fn := Try.f101) Try.func101 (by rfl) (by rfl) (by rfl) .i64 find101 hc hz (by simp [go_sem, Op.intArith, IntKind.wrap_i64, wrap64])
theorem add_any (p off : Nat) (k y : Int) (w : World) (hc : w.cell? ⟨p, off, none⟩ = some (.int .i64 k)) (hz : w.frozen? ⟨p, off, none⟩ = false) :
    Calls Try.prog 89 #[.pointer (some ⟨p, off, none⟩), .int .i64 y] w fun e w' => e = .returned (.int .i64 (wrap64 (k + y))) ∧ w' = w.setCell ⟨p, off, none⟩ (.int .i64 (wrap64 (k + y))) := by
  have hadd := call101 (y := y) hc hz
  go_enter Try.func89, Try.ntmps89
  go_wp2
  go_ret
  exact ⟨rfl, rfl⟩

theorem base_any {w : World} {p g cap : Nat} {c : CF} {l : List Int} {k : Int} (h : Pol w p g cap c l k) (hl : 1 ≤ l.length) :
    Calls Try.prog 50 #[.pointer (some ⟨p, 0, none⟩)] w fun e w' => e = .returned (.int .i64 (headP l)) ∧ w = w' := by
  have hc := h.cell
  have hh := own_cell h.own (j := 0) (by omega)
  rw [headP_getD]
  generalize l.getD 0 0 = x at *
  have hpos : 0 < l.length := hl
  generalize l.length = n at *
  clear h
  go_enter Try.func50, Try.ntmps50
  go_wp2
  go_ret
  exact ⟨rfl, rfl⟩
theorem base_none (w : World) : Calls Try.prog 50 #[.pointer none] w fun e w' => e = .returned (.int .i64 0) ∧ w = w' := by
  go_enter Try.func50, Try.ntmps50
  go_wp2
  go_ret
  exact ⟨rfl, rfl⟩
theorem all_any {w : World} {p g cap : Nat} {c : CF} {l : List Int} {k : Int} (h : Pol w p g cap c l k) (hl : 1 ≤ l.length) (hm : l.length ≤ 1000) :
    Calls Try.prog 48 #[.pointer (some ⟨p, 0, none⟩)] w fun e w' => ∃ g' cap', e = .returned (.slice (some ⟨g', 0, none⟩) l.length cap') ∧ w'.ownsRow g' 3 1 (.slice (some ⟨g', 0, none⟩) l.length cap') l.length (l.map (Value.int .i64)) ∧ w.heap.size ≤ g' ∧ Gr w w' := by
  have hc := h.cell
  have K := fun w' (e : w = w') => clone_any g 0 l.length cap l w' rfl (by omega) (by omega) (fun j hj => by rw [← e, Nat.zero_add]; exact own_cell h.own hj)
  have HK := Lib.hid K; clear K h
  generalize hn : l.length = n at *
  go_enter Try.func48, Try.ntmps48
  go_wp2_with fail
  refine (HK.out _ rfl).mono ?_
  rintro e w1 ⟨g', cap', rfl, h1, h2, h3⟩
  go_wp2
  go_ret
  exact ⟨g', cap', rfl, h1, h2, h3⟩
theorem base_gr {w : World} {p g cap : Nat} {c : CF} {l : List Int} {k : Int} (h : Pol w p g cap c l k) (hl : 1 ≤ l.length) :
    Calls Try.prog 50 #[.pointer (some ⟨p, 0, none⟩)] w fun e w' => e = .returned (.int .i64 (headP l)) ∧ Gr w w' := (base_any h hl).mono fun _ _ ⟨a, b⟩ => ⟨a, b ▸ Gr.refl _⟩
set_option maxHeartbeats 2000000 in
theorem limit_any {w : World} {p g cap : Nat} {c : CF} {l : List Int} {k : Int} (h : Pol w p g cap c l k) (hl : 1 ≤ l.length) (x : Int) :
    Calls Try.prog 49 #[.pointer (some ⟨p, 0, none⟩), .int .i64 x] w fun e w' => ∃ k', e = .returned (.int .i64 (limP c (headP l) x)) ∧ Pol w' p g cap c l k' ∧ Tc p g w w' := by
  have hc : w.cell? ⟨p, 27, none⟩ = some (.int .i64 k) := h.cell 27
  have hz := h.froz 27
  have H := h.setK (wrap64 (k + 1))
  have T := Tc.cellp p g 27 w (.int .i64 (wrap64 (k + 1)))
  clear h
  have el : limP c (headP l) x = min (max (min (max x (loB c (headP l))) (hiB c (headP l))) c.lo) c.hi := rfl
  have EL := Lib.hid el; clear el
  generalize limP c (headP l) x = r at *
  have hbd := bounds_any c (headP l)
  generalize loB c (headP l) = L at *
  generalize hiB c (headP l) = U at *
  go_enter Try.func49, Try.ntmps49
  go_upto_region 4 with ((go_at_call 89; refine (add_any p 27 k 1 _ hc hz).mono ?_; rintro e w1 ⟨rfl, rfl⟩))
  clear hc hz
  generalize World.setCell _ _ _ = w1 at *
  refine wp_region_quiet_gw (by kernel_rfl) (by kernel_rfl) ?_
  have hk := fun s : Gw w1 => (H.on s.gr).conf
  have hb := fun s : Gw w1 => base_gr (H.on s.gr) hl
  repeat (go_big_quiet_step (first | (go_at_call 50; exact q_gr (hb _)) | (go_at_call 53; exact q_gr (hbd _))))
  refine wpQuiet_nil fun s => ?_
  clear hk hb hbd
  replace H := H.on s.gr
  replace T := T.trans (Tc.of_gr s.gr)
  generalize s.val = w2 at *
  go_upto_region 5 with (fail)
  refine wp_region_quiet_gw (by kernel_rfl) (by kernel_rfl) ?_
  have hc := fun s : Gw w2 => (H.on s.gr).cell
  repeat (go_big_quiet_step (fail))
  refine wpQuiet_nil fun s => ?_
  replace H := H.on s.gr
  replace T := T.trans (Tc.of_gr s.gr)
  clear hc
  go_wp2
  all_goals
    go_ret
    refine ⟨_, ret_int ?_, H, T⟩
    rw [EL.out]
theorem limit_none (x : Int) (w : World) : Calls Try.prog 49 #[.pointer none, .int .i64 x] w fun e w' => e = .returned (.int .i64 0) ∧ w = w' := by
  go_enter Try.func49, Try.ntmps49
  go_wp2
  go_ret
  exact ⟨rfl, rfl⟩
end Go.Proofs.Ytjobicffdcnnlaa
