import Derived.Test.YtjobicffdcnnlaaC3
namespace Go.Proofs.Ytjobicffdcnnlaa
open Go.RowKit
set_option linter.unusedSimpArgs false
set_option linter.unusedVariables false

theorem wrong_any (c : CF) (w : World) : Calls Try.prog 40 #[.agg #[.int .i64 c.n, .int .i64 c.f, .int .i64 c.m, .int .i64 c.q, .int .i64 c.fresh, .int .i64 c.grace, .int .i64 c.window, .int .i64 c.t0, .int .i64 c.t1, .int .i64 c.t2, .int .i64 c.t3, .int .i64 c.tol, .int .i64 c.lo, .int .i64 c.hi, .int .i64 c.cup, .int .i64 c.cdn, .int .i64 c.pup, .int .i64 c.tup, .int .i64 c.pdn, .int .i64 c.tdn, .int .i64 c.per, .int .i64 c.far, .int .i64 c.str, .int .i64 c.pro, .int .i64 c.sec, .int .u64 c.seed]] w fun e w' => e = .returned (.string (wrongV c)) ∧ Gr w w' := wrong_core c _ rfl w

def mayC (c : CF) : Bool := (partsL c).all fun p => !badP p
theorem wrongL_may : ∀ l : List Part, (∀ p ∈ l, p.name.data.toList ≠ []) → ((l.all fun p => !badP p) = true → wrongL l = ⟨#[]⟩) ∧ ((l.all fun p => !badP p) = false → (wrongL l).data.toList ≠ [])
  | [], _ => ⟨fun _ => rfl, fun h => by simp at h⟩
  | p :: r, h => by
    have ih := wrongL_may r (fun q hq => h q (by simp [hq]))
    cases hb : badP p with
    | true => exact ⟨fun h1 => by simp [hb] at h1, fun _ => by simp only [wrongL, hb, if_true]; exact h p (by simp)⟩
    | false => simp only [wrongL, hb, List.all_cons, Bool.not_false, Bool.true_and, Bool.false_eq_true, if_false]; exact ih
theorem names_ne (c : CF) : ∀ p ∈ partsL c, p.name.data.toList ≠ [] := by
  intro p hp
  simp only [partsL, List.mem_cons, List.not_mem_nil, or_false] at hp
  rcases hp with h | h | h | h | h | h | h | h | h | h | h | h | h | h | h | h | h | h | h | h | h | h <;> subst h <;> simp

theorem may_any_C (c : CF) (w : World) : Calls Try.prog 41 #[.agg #[.int .i64 c.n, .int .i64 c.f, .int .i64 c.m, .int .i64 c.q, .int .i64 c.fresh, .int .i64 c.grace, .int .i64 c.window, .int .i64 c.t0, .int .i64 c.t1, .int .i64 c.t2, .int .i64 c.t3, .int .i64 c.tol, .int .i64 c.lo, .int .i64 c.hi, .int .i64 c.cup, .int .i64 c.cdn, .int .i64 c.pup, .int .i64 c.tup, .int .i64 c.pdn, .int .i64 c.tdn, .int .i64 c.per, .int .i64 c.far, .int .i64 c.str, .int .i64 c.pro, .int .i64 c.sec, .int .u64 c.seed]] w fun e w' => e = .returned (.bool (mayC c)) ∧ Gr w w' := by
  have hw := fun w => wrong_any c w
  obtain ⟨h1, h2⟩ := wrongL_may (partsL c) (names_ne c)
  cases hm : mayC c with
  | true =>
    have hr : wrongV c = ⟨#[]⟩ := h1 hm
    rw [hr] at hw
    clear h1 h2 hm hr
    have HW := Lib.hid hw; clear hw
    go_enter Try.func41, Try.ntmps41
    go_wp2_with fail
    refine (HW.out _).mono ?_
    rintro e w1 ⟨rfl, hg⟩
    have hgr : Gr w w1 := ((Gr.refl w).alloc _).trans hg
    clear hg
    go_wp2
    go_ret
    exact ⟨rfl, hgr⟩
  | false =>
    have hr := h2 hm
    change (wrongV c).data.toList ≠ [] at hr
    generalize wrongV c = r at *
    clear h1 h2 hm
    have hn1 : r.toList.isEmpty = false := by
      rw [ByteArray.toList_eq]; simpa using hr
    have HW := Lib.hid hw; clear hw
    go_enter Try.func41, Try.ntmps41
    go_wp2_with fail
    refine (HW.out _).mono ?_
    rintro e w1 ⟨rfl, hg⟩
    have hgr : Gr w w1 := ((Gr.refl w).alloc _).trans hg
    clear hg HW
    go_wp2
    go_ret
    exact ⟨rfl, hgr⟩

theorem honest_any (c : CF) (w : World) : Calls Try.prog 43 #[.agg #[.int .i64 c.n, .int .i64 c.f, .int .i64 c.m, .int .i64 c.q, .int .i64 c.fresh, .int .i64 c.grace, .int .i64 c.window, .int .i64 c.t0, .int .i64 c.t1, .int .i64 c.t2, .int .i64 c.t3, .int .i64 c.tol, .int .i64 c.lo, .int .i64 c.hi, .int .i64 c.cup, .int .i64 c.cdn, .int .i64 c.pup, .int .i64 c.tup, .int .i64 c.pdn, .int .i64 c.tdn, .int .i64 c.per, .int .i64 c.far, .int .i64 c.str, .int .i64 c.pro, .int .i64 c.sec, .int .u64 c.seed]] w fun e w' => e = .returned (.int .i64 (wrap64 (c.n - c.f))) ∧ Gr w w' := by
  go_enter Try.func43, Try.ntmps43
  go_wp2
  go_ret
  exact ⟨rfl, (Gr.refl w).alloc _⟩
end Go.Proofs.Ytjobicffdcnnlaa
