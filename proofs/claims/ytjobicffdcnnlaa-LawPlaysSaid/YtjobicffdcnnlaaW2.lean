import Derived.Test.YtjobicffdcnnlaaR3
namespace Go.Proofs.Ytjobicffdcnnlaa
open Go.RowKit

theorem u64_nonneg (a : Int) : 0 ≤ IntKind.u64.wrap a := by
  unfold IntKind.wrap; simp [IntKind.signed, IntKind.bits]; omega
theorem u64_mod (a k : Int) (hk : 0 < k) : ∃ x, IntKind.u64.wrap a % k = x ∧ 0 ≤ x ∧ x < k := ⟨_, rfl, Int.emod_nonneg _ (by omega), Int.emod_lt_of_pos _ hk⟩

theorem ratioRises_walk (a0 a1 a2 a3 a4 a5 : Int) (w : World) (_w0 : (Lit.int .i64 a0).wf = true) (_w1 : (Lit.int .i64 a1).wf = true) (_w2 : (Lit.int .i64 a2).wf = true) (_w3 : (Lit.int .i64 a3).wf = true) (_w4 : (Lit.int .i64 a4).wf = true) (_w5 : (Lit.int .i64 a5).wf = true) :
    Calls Try.prog 4 #[.int .i64 a0, .int .i64 a1, .int .i64 a2, .int .i64 a3, .int .i64 a4, .int .i64 a5] w fun e w' => e = .returned (.bool true) ∧ Below w.heap.size w w' := by
  have hw := want_any
  have u0 := u64_nonneg a0
  have u1 := u64_nonneg a1
  have u2 := u64_nonneg a2
  have u3 := u64_nonneg a3
  have u4 := u64_nonneg a4
  have u5 := u64_nonneg a5
  obtain ⟨x, hx, x0, x1⟩ := u64_mod a0 10001 (by omega)
  obtain ⟨y, hy, y0, y1⟩ := u64_mod a1 10001 (by omega)
  obtain ⟨p, hp, p0, p1⟩ := u64_mod a2 1099511627777 (by omega)
  obtain ⟨q, hq, q0, q1⟩ := u64_mod a3 1099511627777 (by omega)
  obtain ⟨g, hg, g0, g1⟩ := u64_mod a4 1099511627776 (by omega)
  obtain ⟨l, hl, l0, l1⟩ := u64_mod a5 1001 (by omega)
  have m1 : x ≤ y → p ≤ q → wantV x p (1 + g) l ≤ wantV y q (1 + g) l := fun a b => want_mono (by omega) a (by omega) (by omega) b (by omega) (by omega) (by omega) (by omega) (by omega)
  have m2 : y < x → p ≤ q → wantV y p (1 + g) l ≤ wantV x q (1 + g) l := fun a b => want_mono (by omega) (by omega) (by omega) (by omega) b (by omega) (by omega) (by omega) (by omega) (by omega)
  have m3 : x ≤ y → q < p → wantV x q (1 + g) l ≤ wantV y p (1 + g) l := fun a b => want_mono (by omega) a (by omega) (by omega) (by omega) (by omega) (by omega) (by omega) (by omega) (by omega)
  have m4 : y < x → q < p → wantV y q (1 + g) l ≤ wantV x p (1 + g) l := fun a b => want_mono (by omega) (by omega) (by omega) (by omega) (by omega) (by omega) (by omega) (by omega) (by omega) (by omega)
  go_enter Try.func4, Try.ntmps4
  go_wp2_with (first | (go_at_call 29; refine (told13_any _).mono ?_; rintro e w' ⟨rfl, hb⟩) | (go_at_call 34; refine (hw _ _ _ _ _).mono ?_; rintro e w' ⟨rfl, rfl⟩))

  all_goals
    go_ret
    refine ⟨ret_bool ?_, by assumption⟩
    simp [*]
end Go.Proofs.Ytjobicffdcnnlaa
