import Derived.Test.YtjobicffdcnnlaaG2
import Derived.Test.YtjobicffdcnnlaaS8
/- PolicyWithin. -/
namespace Go.Proofs.Ytjobicffdcnnlaa
open Go.RowKit
set_option linter.unusedSimpArgs false
set_option linter.unusedVariables false
set_option maxRecDepth 100000

theorem fit_new (A : Option Addr) (n cap : Nat) (zs : List Int) (w : World) (h : RI w A n zs) : Calls Try.prog 44 #[.slice A n cap] w fun e w' => ∃ v, e = .returned v ∧ (∃ c, Fits c ∧ v = .agg #[.int .i64 c.n, .int .i64 c.f, .int .i64 c.m, .int .i64 c.q, .int .i64 c.fresh, .int .i64 c.grace, .int .i64 c.window, .int .i64 c.t0, .int .i64 c.t1, .int .i64 c.t2, .int .i64 c.t3, .int .i64 c.tol, .int .i64 c.lo, .int .i64 c.hi, .int .i64 c.cup, .int .i64 c.cdn, .int .i64 c.pup, .int .i64 c.tup, .int .i64 c.pdn, .int .i64 c.tdn, .int .i64 c.per, .int .i64 c.far, .int .i64 c.str, .int .i64 c.pro, .int .i64 c.sec, .int .u64 c.seed] ∧ Gr w w') :=
  (fit_any A n cap zs w h).mono fun _ _ ⟨c, h1, h2, h3⟩ => ⟨_, h2, c, h1, rfl, h3⟩

theorem wpList_new {P : Program} {ops : Array Oper} {Q : Exit → Act → World → Prop} {rest : List Oper} {o : Oper} {a : Act} {w : World} {R : Value → World → Prop} (f : FuncId) (args : Array Value) (hg : o.guard = none)
    (h : (execOp a.eval o).run P w = .ok (.enter f args) w) (hc : Calls P f args w fun e w' => ∃ v, e = .returned v ∧ R v w') (k : ∀ v w', R v w' → wpList P ops Q rest (a.put o.dst v) w') : wpList P ops Q (o :: rest) a w :=
  wpList_plain hg fun K hK => by
    unfold Oper.wp
    rw [h, Oper.upon_enter]
    exact hc.mono fun e w' ⟨v, he, hr⟩ => by subst he; exact hK _ _ (k v w' hr)

set_option maxHeartbeats 4000000 in
theorem policyWithin_any (A0 : Option Addr) (n cap : Nat) (zs : List Int) (a1 a2 : Int) (w : World) (h : RI w A0 n zs) : Calls Try.prog 19 #[.slice A0 n cap, .int .i64 a1, .int .i64 a2] w fun e w' => e = .returned (.bool true) ∧ Gr w w' := by
  have hf := fit_new A0 n cap zs w h
  have HF := Lib.hid hf
  clear hf h
  have u0 := u64_nonneg a1
  go_enter Try.func19, Try.ntmps19
  go_upto_region 1 with (fail)
  refine wp_region_lit ?_
  refine wpList_val (.slice A0 n cap) w rfl (by kernel_rfl) ?_
  refine wpList_new 44 #[.slice A0 n cap] rfl (by kernel_rfl) HF.out fun v w1 hv => ?_
  obtain ⟨c, hc, rfl, hg⟩ := hv
  refine wpList_val (.pointer (some ⟨w1.heap.size, 0, none⟩)) (w1.alloc (.cells zero36 36)) rfl (xalloc36 ..) ?_
  refine wpList_skip' (w1.alloc (.cells #[.int .i64 c.n, .int .i64 c.f, .int .i64 c.m, .int .i64 c.q, .int .i64 c.fresh, .int .i64 c.grace, .int .i64 c.window, .int .i64 c.t0, .int .i64 c.t1, .int .i64 c.t2, .int .i64 c.t3, .int .i64 c.tol, .int .i64 c.lo, .int .i64 c.hi, .int .i64 c.cup, .int .i64 c.cdn, .int .i64 c.pup, .int .i64 c.tup, .int .i64 c.pdn, .int .i64 c.tdn, .int .i64 c.per, .int .i64 c.far, .int .i64 c.str, .int .i64 c.pro, .int .i64 c.sec, .int .u64 c.seed] 36)) rfl (xstore36_at rfl (by kernel_rfl) (by kernel_rfl) rfl rfl (by kernel_rfl)) ?_
  have A := start_at hg c
  have hbs : w1.heap.size < (w1.alloc (.cells #[.int .i64 c.n, .int .i64 c.f, .int .i64 c.m, .int .i64 c.q, .int .i64 c.fresh, .int .i64 c.grace, .int .i64 c.window, .int .i64 c.t0, .int .i64 c.t1, .int .i64 c.t2, .int .i64 c.t3, .int .i64 c.tol, .int .i64 c.lo, .int .i64 c.hi, .int .i64 c.cup, .int .i64 c.cdn, .int .i64 c.pup, .int .i64 c.tup, .int .i64 c.pdn, .int .i64 c.tdn, .int .i64 c.per, .int .i64 c.far, .int .i64 c.str, .int .i64 c.pro, .int .i64 c.sec, .int .u64 c.seed] 36)).heap.size := by simp
  generalize w1.alloc (.cells #[.int .i64 c.n, .int .i64 c.f, .int .i64 c.m, .int .i64 c.q, .int .i64 c.fresh, .int .i64 c.grace, .int .i64 c.window, .int .i64 c.t0, .int .i64 c.t1, .int .i64 c.t2, .int .i64 c.t3, .int .i64 c.tol, .int .i64 c.lo, .int .i64 c.hi, .int .i64 c.cup, .int .i64 c.cdn, .int .i64 c.pup, .int .i64 c.tup, .int .i64 c.pdn, .int .i64 c.tdn, .int .i64 c.per, .int .i64 c.far, .int .i64 c.str, .int .i64 c.pro, .int .i64 c.sec, .int .u64 c.seed] 36) = w2 at *
  generalize w1.heap.size = b at *
  have hr := hc.rates
  have l0 := hc.lo0
  have l1 := hc.lo1
  have l2 := hc.hi0
  have l3 := hc.hi1
  clear hg HF
  as_aux_lemma =>
    obtain ⟨x, hx, x0, x1⟩ := u64_mod a1 (c.hi - c.lo + 1) (by omega)
    obtain ⟨f, hf⟩ : ∃ f, c.lo + x = f := ⟨_, rfl⟩
    have f0 : c.lo ≤ f := by omega
    have f1 : f ≤ c.hi := by omega
    go_upto_region 2 with (fail)
    simp only [Act.put, List.setIfInBounds_toArray, List.set_cons_succ, List.set_cons_zero]
    refine wp_region_quiet_gw (by kernel_rfl) (by kernel_rfl) ?_
    have hcg := A.cellG
    repeat (go_big_quiet_step (fail))
    refine wpQuiet_nil fun s => ?_
    replace A := A.on s.gr
    have hbs2 := s.gr.size
    generalize s.val = w3 at *
    clear hcg hx u0 x0 x1 hf
    as_aux_lemma =>
      have hk := A.conf
      have hnb : newB c f = true := by unfold newB; simp [hr, f0, f1]
      have K1 := limP_within hr (w := a2) f0 f1
      have K2 := limP_in hc.rts f a2
      have KB := bounds_mono hr (x := f) (y := f) (by omega) (Int.le_refl _) (by omega)
      have KB1 := KB.2.2.1
      have KB2 := KB.2.2.2
      clear KB
      have K3 := limP_same hr (w := a2) f0 f1
      go_wp2_with fail
      refine (new_ok c f hnb _).mono ?_
      rintro e w5 ⟨p, g, rfl, H, hp, hg5, hg⟩
      replace A := A.on hg
      have hws := A.new
      have hpw : w.heap.size ≤ p := by omega
      have hgw : w.heap.size ≤ g := by omega
      have hbp : b ≠ p := by omega
      have hbg : b ≠ g := by omega
      clear hg hk
      have hk := A.conf
      have hb := bounds_any c f
      go_wp2_with fail
      refine (hb _).mono ?_
      rintro e w6 ⟨rfl, hg⟩
      replace A := A.on hg
      replace H := H.on hg
      clear hg hk hb
      have hk := A.conf
      have hL : limP c (headP [f]) a2 = limP c f a2 := rfl
      have hl := limit_v H (by simp) a2 (limP c f a2) rfl
      generalize limP c f a2 = m at *
      generalize loB c f = lo at *
      generalize hiB c f = hi at *
      go_wp2_with fail
      refine hl.mono ?_
      rintro e w7 ⟨k1, rfl, H1, T⟩
      replace A := T.at_ A hpw hgw hbp hbg
      clear H T hk hl hL
      have K21 := K2.1
      have K22 := K2.2
      have K11 : lo ≤ m := by have := K1.1; omega
      have K12 : m ≤ hi := by have := K1.2.1; omega
      have K13 := K1.2.2
      have KM1 : min lo f = lo := by omega
      have KM2 : max hi f = hi := by omega
      have K4 : limP c (headP [f]) m = m := K3
      clear K1 K2 K3
      have R4 := Lib.hid K4
      clear K4
      rcases (show (lo ≤ a2 ∧ a2 ≤ hi ∧ c.lo ≤ a2 ∧ a2 ≤ c.hi ∧ m = a2) ∨ (a2 < lo) ∨ (lo ≤ a2 ∧ hi < a2) ∨ (lo ≤ a2 ∧ a2 ≤ hi ∧ a2 < c.lo) ∨ (lo ≤ a2 ∧ a2 ≤ hi ∧ c.lo ≤ a2 ∧ c.hi < a2) by omega) with ⟨q1, q2, q3, q4, rfl⟩ | q1 | ⟨q1, q2⟩ | ⟨q1, q2, q3⟩ | ⟨q1, q2, q3, q4⟩
      all_goals
       as_aux_lemma =>
        clear K13
        have hc' := A.cell
        go_wp2_with fail
        refine (told15_any _).mono ?_
        rintro e w8 ⟨rfl, hg⟩
        replace A := A.on hg
        replace H1 := H1.on hg
        clear hg hc'
        have hc' := A.cell
        go_wp2_with fail
        refine (limit_v H1 (by simp) m m R4.out).mono ?_
        rintro e w9 ⟨k2, rfl, H2, T2⟩
        have GG := T2.gr A.gr hpw hgw
        clear H1 H2 T2 hc'
        go_wp2
        go_ret
        refine ⟨ret_bool ?_, GG⟩
        simp [*] <;> omega
theorem policyWithin_walk (A0 : Option Addr) (n cap : Nat) (zs : List Int) (a1 a2 : Int) (W : World) (h : RI W A0 n zs) (h0 : ∀ x ∈ zs, (Lit.int .i64 x).wf = true) (h1 : (Lit.int .i64 a1).wf = true) (h2 : (Lit.int .i64 a2).wf = true) :
    Calls Try.prog 19 #[.slice A0 n cap, .int .i64 a1, .int .i64 a2] W fun e w' => e = .returned (.bool true) ∧ Below W.heap.size W w' := (policyWithin_any A0 n cap zs a1 a2 W h).mono fun _ _ h => ⟨h.1, h.2.out⟩
end Go.Proofs.Ytjobicffdcnnlaa
