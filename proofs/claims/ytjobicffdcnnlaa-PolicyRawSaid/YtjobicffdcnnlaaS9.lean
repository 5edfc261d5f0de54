import Derived.Test.YtjobicffdcnnlaaS8
import Derived.Test.YtjobicffdcnnlaaC10
import Derived.Test.YtjobicffdcnnlaaQ5
/- PolicyRaw. -/
namespace Go.Proofs.Ytjobicffdcnnlaa
open Go.RowKit
set_option linter.unusedSimpArgs false
set_option linter.unusedVariables false
set_option maxRecDepth 100000

set_option maxHeartbeats 4000000 in
theorem policyRaw_any (c : CF) (b n : Int) (w : World) : Calls Try.prog 16 #[.agg #[.int .i64 c.n, .int .i64 c.f, .int .i64 c.m, .int .i64 c.q, .int .i64 c.fresh, .int .i64 c.grace, .int .i64 c.window, .int .i64 c.t0, .int .i64 c.t1, .int .i64 c.t2, .int .i64 c.t3, .int .i64 c.tol, .int .i64 c.lo, .int .i64 c.hi, .int .i64 c.cup, .int .i64 c.cdn, .int .i64 c.pup, .int .i64 c.tup, .int .i64 c.pdn, .int .i64 c.tdn, .int .i64 c.per, .int .i64 c.far, .int .i64 c.str, .int .i64 c.pro, .int .i64 c.sec, .int .u64 c.seed], .int .i64 b, .int .i64 n] w fun e w' => e = .returned (.bool true) ∧ Gr w w' := by
  have A := start_at (Gr.refl w) c
  have h1 := bounds_any c b
  have h2 := r_bounds_any c b
  generalize loB c b = lo at *
  generalize hiB c b = hi at *
  go_enter Try.func16, Try.ntmps16
  go_upto_region 1 with (fail)
  generalize w.alloc (.cells #[.int .i64 c.n, .int .i64 c.f, .int .i64 c.m, .int .i64 c.q, .int .i64 c.fresh, .int .i64 c.grace, .int .i64 c.window, .int .i64 c.t0, .int .i64 c.t1, .int .i64 c.t2, .int .i64 c.t3, .int .i64 c.tol, .int .i64 c.lo, .int .i64 c.hi, .int .i64 c.cup, .int .i64 c.cdn, .int .i64 c.pup, .int .i64 c.tup, .int .i64 c.pdn, .int .i64 c.tdn, .int .i64 c.per, .int .i64 c.far, .int .i64 c.str, .int .i64 c.pro, .int .i64 c.sec, .int .u64 c.seed] 36) = w1 at *
  generalize w.heap.size = b0 at *
  have hk := A.conf
  go_wp2_with fail
  refine (h1 _).mono ?_
  rintro e w2 ⟨rfl, hg⟩
  replace A := A.on hg
  clear hg hk
  have hk := A.conf
  go_wp2_with fail
  refine (h2 _).mono ?_
  rintro e w3 ⟨rfl, hg⟩
  replace A := A.on hg
  clear hg hk h1 h2
  have hk := A.conf
  go_upto_region 3 with (fail)
  have hks : ∀ s : Gw w3, conf36? s.val ⟨b0, 0, none⟩ = some #[.int .i64 c.n, .int .i64 c.f, .int .i64 c.m, .int .i64 c.q, .int .i64 c.fresh, .int .i64 c.grace, .int .i64 c.window, .int .i64 c.t0, .int .i64 c.t1, .int .i64 c.t2, .int .i64 c.t3, .int .i64 c.tol, .int .i64 c.lo, .int .i64 c.hi, .int .i64 c.cup, .int .i64 c.cdn, .int .i64 c.pup, .int .i64 c.tup, .int .i64 c.pdn, .int .i64 c.tdn, .int .i64 c.per, .int .i64 c.far, .int .i64 c.str, .int .i64 c.pro, .int .i64 c.sec, .int .u64 c.seed] := fun s => A.confG s
  clear hk
  cases hb : newB c n with
  | true =>
    refine wp_region_grp (fun w' => ∃ s : Gw w3, w' = s.val) [([], [0]), ([1, 2, 3, 4, 5, 6, 7, 8, 9, 10, 11, 12, 13, 16, 17], [14]), ([15], [18]), ([19, 20, 21, 22], [])] (by kernel_rfl) (by as_aux_lemma => kernel_rfl) (by as_aux_lemma => kernel_rfl) (by kernel_rfl) (fun d v c a w h => by cases d <;> exact h) (Gr.fresh w3).in_ ?_
    simp only [wpGrp, wpSeqC, List.filterMap_cons, List.filterMap_nil, List.getElem?_toArray, List.getElem?_cons_succ, List.getElem?_cons_zero]
    refine wpQuiet_nil ?_
    refine wpOp_gr 23 51 #[] (.bool true) rfl rfl rfl (by kernel_rfl) (Gr.fresh w3) (told15_any _) fun w4 G4 _ => ?_
    simp only [Act.put, List.setIfInBounds_toArray, List.set_cons_succ, List.set_cons_zero]
    show wpQuiet _ _ _ _ [_, _, _, _, _, _, _, _, _, _, _, _, _, _, _] _
    repeat (go_big_quiet_step (fail))
    refine wpQuiet_nil ?_
    refine wpOp_new (R := fun v _ => ∃ p, v = .pointer (some ⟨p, 0, none⟩)) 37 45 #[.agg #[.int .i64 c.n, .int .i64 c.f, .int .i64 c.m, .int .i64 c.q, .int .i64 c.fresh, .int .i64 c.grace, .int .i64 c.window, .int .i64 c.t0, .int .i64 c.t1, .int .i64 c.t2, .int .i64 c.t3, .int .i64 c.tol, .int .i64 c.lo, .int .i64 c.hi, .int .i64 c.cup, .int .i64 c.cdn, .int .i64 c.pup, .int .i64 c.tup, .int .i64 c.pdn, .int .i64 c.tdn, .int .i64 c.per, .int .i64 c.far, .int .i64 c.str, .int .i64 c.pro, .int .i64 c.sec, .int .u64 c.seed], .int .i64 n] rfl rfl rfl (by kernel_rfl) G4 ((new_ok c n hb _).mono fun e w' ⟨p, g, h1, _, _, _, h2⟩ => ⟨_, h1, ⟨p, rfl⟩, h2⟩) fun v5 w5 hv5 G5 _ => ?_
    obtain ⟨p5, rfl⟩ := hv5
    simp only [Act.put, List.setIfInBounds_toArray, List.set_cons_succ, List.set_cons_zero]
    show wpQuiet _ _ _ _ [_] _
    repeat (go_big_quiet_step (fail))
    refine wpQuiet_nil ?_
    refine wpOp_new (R := fun v _ => ∃ p, v = .pointer (some ⟨p, 0, none⟩)) 41 52 #[.agg #[.int .i64 c.n, .int .i64 c.f, .int .i64 c.m, .int .i64 c.q, .int .i64 c.fresh, .int .i64 c.grace, .int .i64 c.window, .int .i64 c.t0, .int .i64 c.t1, .int .i64 c.t2, .int .i64 c.t3, .int .i64 c.tol, .int .i64 c.lo, .int .i64 c.hi, .int .i64 c.cup, .int .i64 c.cdn, .int .i64 c.pup, .int .i64 c.tup, .int .i64 c.pdn, .int .i64 c.tdn, .int .i64 c.per, .int .i64 c.far, .int .i64 c.str, .int .i64 c.pro, .int .i64 c.sec, .int .u64 c.seed], .int .i64 n] rfl rfl rfl (by kernel_rfl) G5 ((r_new_ok c n hb _).mono fun e w' ⟨p, g, h1, _, _, _, h2⟩ => ⟨_, h1, ⟨p, rfl⟩, h2⟩) fun v6 w6 hv6 G6 _ => ?_
    obtain ⟨p6, rfl⟩ := hv6
    simp only [Act.put, List.setIfInBounds_toArray, List.set_cons_succ, List.set_cons_zero]
    show wpQuiet _ _ _ _ [_, _, _, _] _
    repeat (go_big_quiet_step (fail))
    refine wpQuiet_nil ?_
    replace A := A.on G6
    go_wp2
    go_ret
    exact ⟨rfl, A.gr⟩
  | false =>
    refine wp_region_grp (fun w' => ∃ s : Gw w3, w' = s.val) [([], [0]), ([1, 2, 3, 4, 5, 6, 7, 8, 9, 10, 11, 12, 13, 16, 17], [14]), ([15], [18]), ([19, 20, 21, 22], [])] (by kernel_rfl) (by as_aux_lemma => kernel_rfl) (by as_aux_lemma => kernel_rfl) (by kernel_rfl) (fun d v c a w h => by cases d <;> exact h) (Gr.fresh w3).in_ ?_
    simp only [wpGrp, wpSeqC, List.filterMap_cons, List.filterMap_nil, List.getElem?_toArray, List.getElem?_cons_succ, List.getElem?_cons_zero]
    refine wpQuiet_nil ?_
    refine wpOp_gr 23 51 #[] (.bool true) rfl rfl rfl (by kernel_rfl) (Gr.fresh w3) (told15_any _) fun w4 G4 _ => ?_
    simp only [Act.put, List.setIfInBounds_toArray, List.set_cons_succ, List.set_cons_zero]
    show wpQuiet _ _ _ _ [_, _, _, _, _, _, _, _, _, _, _, _, _, _, _] _
    repeat (go_big_quiet_step (fail))
    refine wpQuiet_nil ?_
    refine wpOp_new (R := fun v _ => v = .pointer none) 37 45 #[.agg #[.int .i64 c.n, .int .i64 c.f, .int .i64 c.m, .int .i64 c.q, .int .i64 c.fresh, .int .i64 c.grace, .int .i64 c.window, .int .i64 c.t0, .int .i64 c.t1, .int .i64 c.t2, .int .i64 c.t3, .int .i64 c.tol, .int .i64 c.lo, .int .i64 c.hi, .int .i64 c.cup, .int .i64 c.cdn, .int .i64 c.pup, .int .i64 c.tup, .int .i64 c.pdn, .int .i64 c.tdn, .int .i64 c.per, .int .i64 c.far, .int .i64 c.str, .int .i64 c.pro, .int .i64 c.sec, .int .u64 c.seed], .int .i64 n] rfl rfl rfl (by kernel_rfl) G4 ((new_no c n hb _).mono fun e w' ⟨h1, h2⟩ => ⟨_, h1, rfl, h2⟩) fun v5 w5 hv5 G5 _ => ?_
    obtain rfl := hv5
    simp only [Act.put, List.setIfInBounds_toArray, List.set_cons_succ, List.set_cons_zero]
    show wpQuiet _ _ _ _ [_] _
    repeat (go_big_quiet_step (fail))
    refine wpQuiet_nil ?_
    refine wpOp_new (R := fun v _ => v = .pointer none) 41 52 #[.agg #[.int .i64 c.n, .int .i64 c.f, .int .i64 c.m, .int .i64 c.q, .int .i64 c.fresh, .int .i64 c.grace, .int .i64 c.window, .int .i64 c.t0, .int .i64 c.t1, .int .i64 c.t2, .int .i64 c.t3, .int .i64 c.tol, .int .i64 c.lo, .int .i64 c.hi, .int .i64 c.cup, .int .i64 c.cdn, .int .i64 c.pup, .int .i64 c.tup, .int .i64 c.pdn, .int .i64 c.tdn, .int .i64 c.per, .int .i64 c.far, .int .i64 c.str, .int .i64 c.pro, .int .i64 c.sec, .int .u64 c.seed], .int .i64 n] rfl rfl rfl (by kernel_rfl) G5 ((r_new_no c n hb _).mono fun e w' ⟨h1, h2⟩ => ⟨_, h1, rfl, h2⟩) fun v6 w6 hv6 G6 _ => ?_
    obtain rfl := hv6
    simp only [Act.put, List.setIfInBounds_toArray, List.set_cons_succ, List.set_cons_zero]
    show wpQuiet _ _ _ _ [_, _, _, _] _
    repeat (go_big_quiet_step (fail))
    refine wpQuiet_nil ?_
    replace A := A.on G6
    go_wp2
    go_ret
    exact ⟨rfl, A.gr⟩
end Go.Proofs.Ytjobicffdcnnlaa
namespace Go.Proofs.Ytjobicffdcnnlaa
open Go.RowKit
theorem policyRaw_walk (c : CF) (b n : Int) (W : World) (h : ∀ x ∈ intsC c, (Lit.int .i64 x).wf = true) (h' : (Lit.int .u64 c.seed).wf = true) (h1 : (Lit.int .i64 b).wf = true) (h2 : (Lit.int .i64 n).wf = true) :
    Calls Try.prog 16 #[.agg #[.int .i64 c.n, .int .i64 c.f, .int .i64 c.m, .int .i64 c.q, .int .i64 c.fresh, .int .i64 c.grace, .int .i64 c.window, .int .i64 c.t0, .int .i64 c.t1, .int .i64 c.t2, .int .i64 c.t3, .int .i64 c.tol, .int .i64 c.lo, .int .i64 c.hi, .int .i64 c.cup, .int .i64 c.cdn, .int .i64 c.pup, .int .i64 c.tup, .int .i64 c.pdn, .int .i64 c.tdn, .int .i64 c.per, .int .i64 c.far, .int .i64 c.str, .int .i64 c.pro, .int .i64 c.sec, .int .u64 c.seed], .int .i64 b, .int .i64 n] W fun e w' => e = .returned (.bool true) ∧ Below W.heap.size W w' := (policyRaw_any c b n W).mono fun _ _ h => ⟨h.1, h.2.out⟩
end Go.Proofs.Ytjobicffdcnnlaa
