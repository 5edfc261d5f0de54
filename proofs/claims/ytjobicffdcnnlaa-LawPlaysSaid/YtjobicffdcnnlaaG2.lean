import Derived.Test.YtjobicffdcnnlaaG1
import Derived.Deep.CutBlock
import Derived.Deep.DeepCutAuto
/- Fit makes configurations that may be. -/
namespace Go.Proofs.Ytjobicffdcnnlaa
open Go.RowKit
set_option linter.unusedSimpArgs false
set_option linter.unusedVariables false

theorem modE (a k : Int) (hk : 0 < k) : ∃ x, a % k = x ∧ 0 ≤ x ∧ x < k := ⟨_, rfl, Int.emod_nonneg _ (by omega), Int.emod_lt_of_pos _ hk⟩
set_option maxHeartbeats 4000000 in
set_option maxRecDepth 100000 in
theorem fit_any (A : Option Addr) (n cap : Nat) (zs : List Int) (w : World) (h : RI w A n zs) : Calls Try.prog 44 #[.slice A n cap] w fun e w' => ∃ c, Fits c ∧ e = .returned (.agg #[.int .i64 c.n, .int .i64 c.f, .int .i64 c.m, .int .i64 c.q, .int .i64 c.fresh, .int .i64 c.grace, .int .i64 c.window, .int .i64 c.t0, .int .i64 c.t1, .int .i64 c.t2, .int .i64 c.t3, .int .i64 c.tol, .int .i64 c.lo, .int .i64 c.hi, .int .i64 c.cup, .int .i64 c.cdn, .int .i64 c.pup, .int .i64 c.tup, .int .i64 c.pdn, .int .i64 c.tdn, .int .i64 c.per, .int .i64 c.far, .int .i64 c.str, .int .i64 c.pro, .int .i64 c.sec, .int .u64 c.seed]) ∧ Gr w w' := by
  have hb := h.2.1
  have H := Lib.hid h; clear h
  go_enter Try.func44, Try.ntmps44
  go_upto_region 1 with (fail)
  have q0 : (w.alloc (.cells zero36 36)).heap[w.heap.size]? = some (.cells zero36 36) := heap_new rfl
  have g0 : Gr w (w.alloc (.cells zero36 36)) := (Gr.refl w).alloc _
  have s0 : w.heap.size < (w.alloc (.cells zero36 36)).heap.size := by simp
  have r0 : w.heap.size ≤ w.heap.size := Nat.le_refl _
  generalize w.alloc (.cells zero36 36) = w0 at *
  generalize hr : w.heap.size = r at q0 s0 ⊢
  refine wp_region_lit ?_
  refine wpList_enter 37 #[] _ rfl (by kernel_rfl) (r_default_any w0) fun w1 hg => ?_
  refine wpList_val (.pointer (some ⟨w1.heap.size, 0, none⟩)) (w1.alloc (.cells zero36 36)) rfl (xalloc36 ..) ?_
  refine wpList_skip' (w1.alloc (.cells #[.int .i64 dflt.n, .int .i64 dflt.f, .int .i64 dflt.m, .int .i64 dflt.q, .int .i64 dflt.fresh, .int .i64 dflt.grace, .int .i64 dflt.window, .int .i64 dflt.t0, .int .i64 dflt.t1, .int .i64 dflt.t2, .int .i64 dflt.t3, .int .i64 dflt.tol, .int .i64 dflt.lo, .int .i64 dflt.hi, .int .i64 dflt.cup, .int .i64 dflt.cdn, .int .i64 dflt.pup, .int .i64 dflt.tup, .int .i64 dflt.pdn, .int .i64 dflt.tdn, .int .i64 dflt.per, .int .i64 dflt.far, .int .i64 dflt.str, .int .i64 dflt.pro, .int .i64 dflt.sec, .int .u64 dflt.seed] 36)) rfl (xstore36_at rfl (by kernel_rfl) (by kernel_rfl) rfl rfl (by kernel_rfl)) ?_
  have g1 := g0.trans (hg.alloc (.cells #[.int .i64 dflt.n, .int .i64 dflt.f, .int .i64 dflt.m, .int .i64 dflt.q, .int .i64 dflt.fresh, .int .i64 dflt.grace, .int .i64 dflt.window, .int .i64 dflt.t0, .int .i64 dflt.t1, .int .i64 dflt.t2, .int .i64 dflt.t3, .int .i64 dflt.tol, .int .i64 dflt.lo, .int .i64 dflt.hi, .int .i64 dflt.cup, .int .i64 dflt.cdn, .int .i64 dflt.pup, .int .i64 dflt.tup, .int .i64 dflt.pdn, .int .i64 dflt.tdn, .int .i64 dflt.per, .int .i64 dflt.far, .int .i64 dflt.str, .int .i64 dflt.pro, .int .i64 dflt.sec, .int .u64 dflt.seed] 36))
  have q1 := ((hg.alloc (.cells #[.int .i64 dflt.n, .int .i64 dflt.f, .int .i64 dflt.m, .int .i64 dflt.q, .int .i64 dflt.fresh, .int .i64 dflt.grace, .int .i64 dflt.window, .int .i64 dflt.t0, .int .i64 dflt.t1, .int .i64 dflt.t2, .int .i64 dflt.t3, .int .i64 dflt.tol, .int .i64 dflt.lo, .int .i64 dflt.hi, .int .i64 dflt.cup, .int .i64 dflt.cdn, .int .i64 dflt.pup, .int .i64 dflt.tup, .int .i64 dflt.pdn, .int .i64 dflt.tdn, .int .i64 dflt.per, .int .i64 dflt.far, .int .i64 dflt.str, .int .i64 dflt.pro, .int .i64 dflt.sec, .int .u64 dflt.seed] 36))).block q0
  have b1 : (w1.alloc (.cells #[.int .i64 dflt.n, .int .i64 dflt.f, .int .i64 dflt.m, .int .i64 dflt.q, .int .i64 dflt.fresh, .int .i64 dflt.grace, .int .i64 dflt.window, .int .i64 dflt.t0, .int .i64 dflt.t1, .int .i64 dflt.t2, .int .i64 dflt.t3, .int .i64 dflt.tol, .int .i64 dflt.lo, .int .i64 dflt.hi, .int .i64 dflt.cup, .int .i64 dflt.cdn, .int .i64 dflt.pup, .int .i64 dflt.tup, .int .i64 dflt.pdn, .int .i64 dflt.tdn, .int .i64 dflt.per, .int .i64 dflt.far, .int .i64 dflt.str, .int .i64 dflt.pro, .int .i64 dflt.sec, .int .u64 dflt.seed] 36)).heap[w1.heap.size]? = some (.cells #[.int .i64 dflt.n, .int .i64 dflt.f, .int .i64 dflt.m, .int .i64 dflt.q, .int .i64 dflt.fresh, .int .i64 dflt.grace, .int .i64 dflt.window, .int .i64 dflt.t0, .int .i64 dflt.t1, .int .i64 dflt.t2, .int .i64 dflt.t3, .int .i64 dflt.tol, .int .i64 dflt.lo, .int .i64 dflt.hi, .int .i64 dflt.cup, .int .i64 dflt.cdn, .int .i64 dflt.pup, .int .i64 dflt.tup, .int .i64 dflt.pdn, .int .i64 dflt.tdn, .int .i64 dflt.per, .int .i64 dflt.far, .int .i64 dflt.str, .int .i64 dflt.pro, .int .i64 dflt.sec, .int .u64 dflt.seed] 36) := heap_new rfl
  have s1 : w1.heap.size < (w1.alloc (.cells #[.int .i64 dflt.n, .int .i64 dflt.f, .int .i64 dflt.m, .int .i64 dflt.q, .int .i64 dflt.fresh, .int .i64 dflt.grace, .int .i64 dflt.window, .int .i64 dflt.t0, .int .i64 dflt.t1, .int .i64 dflt.t2, .int .i64 dflt.t3, .int .i64 dflt.tol, .int .i64 dflt.lo, .int .i64 dflt.hi, .int .i64 dflt.cup, .int .i64 dflt.cdn, .int .i64 dflt.pup, .int .i64 dflt.tup, .int .i64 dflt.pdn, .int .i64 dflt.tdn, .int .i64 dflt.per, .int .i64 dflt.far, .int .i64 dflt.str, .int .i64 dflt.pro, .int .i64 dflt.sec, .int .u64 dflt.seed] 36)).heap.size := by simp
  have hs := hg.size
  generalize w1.alloc (.cells #[.int .i64 dflt.n, .int .i64 dflt.f, .int .i64 dflt.m, .int .i64 dflt.q, .int .i64 dflt.fresh, .int .i64 dflt.grace, .int .i64 dflt.window, .int .i64 dflt.t0, .int .i64 dflt.t1, .int .i64 dflt.t2, .int .i64 dflt.t3, .int .i64 dflt.tol, .int .i64 dflt.lo, .int .i64 dflt.hi, .int .i64 dflt.cup, .int .i64 dflt.cdn, .int .i64 dflt.pup, .int .i64 dflt.tup, .int .i64 dflt.pdn, .int .i64 dflt.tdn, .int .i64 dflt.per, .int .i64 dflt.far, .int .i64 dflt.str, .int .i64 dflt.pro, .int .i64 dflt.sec, .int .u64 dflt.seed] 36) = w2 at *
  generalize hb' : w1.heap.size = b at *
  clear hg
  go_upto_region 2 with (fail)
  refine wp_region_lit ?_
  refine wpList_val (.pointer (some ⟨w2.heap.size, 0, none⟩)) (w2.alloc (.cells (arrN fun _ => 0) 105)) rfl (by kernel_rfl) ?_
  have F : Fi w (w2.alloc (.cells (arrN fun _ => 0) 105)) r b w2.heap.size dflt (fun _ => 0) :=
    ⟨by omega, by have := g0.size; omega, g1.size, by omega, by omega, by omega, g1.alloc _, heap_old q1, heap_old b1, heap_new rfl⟩
  generalize w2.alloc (.cells (arrN fun _ => 0) 105) = w3 at *
  generalize w2.heap.size = d at *
  clear q0 g0 s0 g1 q1 b1 s1 hs r0 hb' hr
  go_upto_block 0 with (fail)
  go_cut [] (fun wc => ∃ ns : Nat → Int, (∀ j, 0 ≤ ns j ∧ ns j < 100000) ∧ Fi w wc r b d dflt ns)
  case first =>
    go_wp2_with fail
    go_loopw [5] (fun i wr => ∃ k : Nat, k ≤ n ∧ k ≤ 20 ∧ i = .int .i64 k ∧ ∃ ns : Nat → Int, (∀ j, 0 ≤ ns j ∧ ns j < 100000) ∧ Fi w wr r b d dflt ns) (fun i _ => 20 - (intOf i).toNat)
    case atStart => exact ⟨0, by omega, by omega, rfl, _, fun _ => by omega, F⟩
    case round =>
      obtain ⟨k, hk, hk2, rfl, ns, hn, F'⟩ := hrel
      clear F
      by_cases h1 : k < n
      · by_cases h2 : k < 20
        · obtain ⟨ad, rfl, hc⟩ := H.out.at_ h1
          replace hc := F'.gr.cell_some hc
          have hz := F'.nfroz k
          have hm : wr.cell? ⟨d, k, none⟩ = some (.int .i64 (ns k)) := (F'.num k).trans (nAt_lt ns h2)
          generalize zs.getD k 0 = y at hc
          have z0 := u64_nonneg y
          obtain ⟨x, hx, x0, x1⟩ := u64_mod y 100000 (by omega)
          go_wp2
          go_roundw
          case rel => exact ⟨k + 1, by omega, by omega, by first | rfl | go_num, _, fun j => (by show 0 ≤ (if j = k then x else ns j) ∧ (if j = k then x else ns j) < 100000; have := hn j; split <;> omega), F'.setN h2 x⟩
          case measure => simp [intOf]; omega
        · go_wp2
          go_meet
          case rel => exact ⟨ns, hn, F'⟩
      · go_wp2
        go_meet
        case rel => exact ⟨ns, hn, F'⟩
  case rest =>
    clear F
    obtain ⟨ns, hn, F'⟩ := hcut
    by_cases h2 : n = 0
    · subst h2
      go_upto_region 8 with (fail)
      refine wp_region_lit ?_
      refine wpList_val (.agg #[.int .i64 dflt.n, .int .i64 dflt.f, .int .i64 dflt.m, .int .i64 dflt.q, .int .i64 dflt.fresh, .int .i64 dflt.grace, .int .i64 dflt.window, .int .i64 dflt.t0, .int .i64 dflt.t1, .int .i64 dflt.t2, .int .i64 dflt.t3, .int .i64 dflt.tol, .int .i64 dflt.lo, .int .i64 dflt.hi, .int .i64 dflt.cup, .int .i64 dflt.cdn, .int .i64 dflt.pup, .int .i64 dflt.tup, .int .i64 dflt.pdn, .int .i64 dflt.tdn, .int .i64 dflt.per, .int .i64 dflt.far, .int .i64 dflt.str, .int .i64 dflt.pro, .int .i64 dflt.sec, .int .u64 dflt.seed]) wc rfl (xload36_of rfl F'.conf) ?_
      refine wpList_skip' (wc.setRow r #[.int .i64 dflt.n, .int .i64 dflt.f, .int .i64 dflt.m, .int .i64 dflt.q, .int .i64 dflt.fresh, .int .i64 dflt.grace, .int .i64 dflt.window, .int .i64 dflt.t0, .int .i64 dflt.t1, .int .i64 dflt.t2, .int .i64 dflt.t3, .int .i64 dflt.tol, .int .i64 dflt.lo, .int .i64 dflt.hi, .int .i64 dflt.cup, .int .i64 dflt.cdn, .int .i64 dflt.pup, .int .i64 dflt.tup, .int .i64 dflt.pdn, .int .i64 dflt.tdn, .int .i64 dflt.per, .int .i64 dflt.far, .int .i64 dflt.str, .int .i64 dflt.pro, .int .i64 dflt.sec, .int .u64 dflt.seed]) rfl (xstore36_row rfl (by kernel_rfl) (by kernel_rfl) F'.boxr rfl rfl (by kernel_rfl)) ?_
      obtain ⟨gE, bE⟩ := F'.done
      generalize wc.setRow r _ = w5 at *
      go_wp2
      exact bodyPost_ret (results36 Try.results44 _ _ _ _ (0, 0) rfl bE rfl) rfl ⟨dflt, fits_dflt, rfl, gE⟩
    · replace F' : Fi w wc r b d ⟨4, 1, 1, 3, 2, 2, 32, 1000, 0, 0, 0, 100, 1, 100, 0, 3, 4, 100, 4, 50, 2, 100, 3, 4, 256, 1⟩ ns := F'
      have HN := Lib.hid hn
      clear hn
      have h0 : 0 < n := by omega
      clear h2
      have z0 := (HN.out 0).1
      obtain ⟨f, hf, fa, fb⟩ := modE (ns 0) 3 (by omega)
      have hc := F'.cell
      have hz := F'.froz
      have hm := F'.num
      go_upto_region 10 with (fail)
      replace F' := (F'.set 1 (.int .i64 (f)) ⟨4, f, 1, 3, 2, 2, 32, 1000, 0, 0, 0, 100, 1, 100, 0, 3, 4, 100, 4, 50, 2, 100, 3, 4, 256, 1⟩ rfl)
      clear hc hz hm
      generalize World.setCell _ _ _ = w4 at *
      as_aux_lemma =>
        clear hf z0
        have z1 := (HN.out 1).1
        obtain ⟨x, hx, xa, xb⟩ := modE (ns 1) 4 (by omega)
        have hc := F'.cell
        have hz := F'.froz
        have hm := F'.num
        go_upto_region 11 with (fail)
        replace F' := (F'.set 0 (.int .i64 (3 * f + 1 + x)) ⟨3 * f + 1 + x, f, 1, 3, 2, 2, 32, 1000, 0, 0, 0, 100, 1, 100, 0, 3, 4, 100, 4, 50, 2, 100, 3, 4, 256, 1⟩ rfl)
        clear hc hz hm
        generalize World.setCell _ _ _ = w5 at *
        as_aux_lemma =>
          obtain ⟨N, hN⟩ : ∃ N, 3 * f + 1 + x = N := ⟨_, rfl⟩
          rw [hN] at F'
          have N0 : 3 * f + 1 ≤ N := by omega
          have N1 : N ≤ 3 * f + 4 := by omega
          clear hN xa xb hx z1
          have z2 := (HN.out 2).1
          obtain ⟨y, hy, ya, yb⟩ := modE (ns 2) 2 (by omega)
          have hc := F'.cell
          have hz := F'.froz
          have hm := F'.num
          go_upto_region 12 with (fail)
          replace F' := (F'.set 2 (.int .i64 (1 + y)) ⟨N, f, 1 + y, 3, 2, 2, 32, 1000, 0, 0, 0, 100, 1, 100, 0, 3, 4, 100, 4, 50, 2, 100, 3, 4, 256, 1⟩ rfl)
          clear hc hz hm
          generalize World.setCell _ _ _ = w6 at *
          as_aux_lemma =>
            clear hy z2
            have z3 := (HN.out 3).1
            obtain ⟨t, ht, ta, tb⟩ := modE (ns 3) (N - 2 * f) (by omega)
            have hc := F'.cell
            have hz := F'.froz
            have hm := F'.num
            go_region
            replace F' := (F'.set 3 (.int .i64 (2 * f + 1 + t)) ⟨N, f, 1 + y, 2 * f + 1 + t, 2, 2, 32, 1000, 0, 0, 0, 100, 1, 100, 0, 3, 4, 100, 4, 50, 2, 100, 3, 4, 256, 1⟩ rfl).on (Gr.refl _).drew
            clear hc hz hm
            generalize World.drew _ = w7 at *
            as_aux_lemma =>
              clear ht z3
              have BN := Lib.hid (And.intro fa (And.intro fb (And.intro N0 (And.intro N1 (And.intro ta tb))))); clear fa fb N0 N1 ta tb
              have z4 := (HN.out 4).1
              have z5 := (HN.out 5).1
              have z6 := (HN.out 6).1
              obtain ⟨a4, ha4, a4a, a4b⟩ := modE (ns 4) 3 (by omega)
              obtain ⟨a5, ha5, a5a, a5b⟩ := modE (ns 5) 3 (by omega)
              obtain ⟨a6, ha6, a6a, a6b⟩ := modE (ns 6) 64 (by omega)
              go_upto_region 13 with (fail)
              have hc := F'.cell
              have hz := F'.froz
              have hm := F'.num
              go_region
              replace F' := (((F'.set 4 (.int .i64 (1 + a4)) ⟨N, f, 1 + y, 2 * f + 1 + t, 1 + a4, 2, 32, 1000, 0, 0, 0, 100, 1, 100, 0, 3, 4, 100, 4, 50, 2, 100, 3, 4, 256, 1⟩ rfl).set 5 (.int .i64 (1 + a5)) ⟨N, f, 1 + y, 2 * f + 1 + t, 1 + a4, 1 + a5, 32, 1000, 0, 0, 0, 100, 1, 100, 0, 3, 4, 100, 4, 50, 2, 100, 3, 4, 256, 1⟩ rfl).set 6 (.int .i64 (1 + a6)) ⟨N, f, 1 + y, 2 * f + 1 + t, 1 + a4, 1 + a5, 1 + a6, 1000, 0, 0, 0, 100, 1, 100, 0, 3, 4, 100, 4, 50, 2, 100, 3, 4, 256, 1⟩ rfl).on (Gr.refl _).drew
              clear hc hz hm
              generalize World.drew _ = w8 at *
              as_aux_lemma =>
                have Ba4 := Lib.hid (And.intro a4a a4b); clear a4a a4b ha4
                have Ba5 := Lib.hid (And.intro a5a a5b); clear a5a a5b ha5
                have Ba6 := Lib.hid (And.intro a6a a6b); clear a6a a6b ha6
                clear z4 z5 z6
                have hc := F'.cell
                have hz := F'.froz
                have hm := F'.num
                go_upto_block 2 with (fail)
                replace F' := F'.set 8 (.int .i64 (0)) ⟨N, f, 1 + y, 2 * f + 1 + t, 1 + a4, 1 + a5, 1 + a6, 1000, 0, 0, 0, 100, 1, 100, 0, 3, 4, 100, 4, 50, 2, 100, 3, 4, 256, 1⟩ rfl
                clear hc hz hm
                generalize World.setCell _ _ _ = w9 at *
                as_aux_lemma =>
                  obtain ⟨M, hM⟩ : ∃ M, 1 + y = M := ⟨_, rfl⟩
                  rw [hM] at F'
                  have M0 : 1 ≤ M := by omega
                  have M1 : M ≤ 2 := by omega
                  clear hM ya yb
                  have z7 := (HN.out 7).1
                  have z8 := (HN.out 8).1
                  obtain ⟨a7, ha7, a7a, a7b⟩ := modE (ns 7) 2000 (by omega)
                  obtain ⟨a8, ha8, a8a, a8b⟩ := modE (ns 8) 2000 (by omega)
                  go_cut [] (fun wc => ∃ T1 : Int, ((M = 1 ∧ T1 = 0) ∨ (M = 2 ∧ 1 ≤ T1 ∧ T1 ≤ 2000)) ∧ Fi w wc r b d ⟨N, f, M, 2 * f + 1 + t, 1 + a4, 1 + a5, 1 + a6, 1 + a7, T1, 0, 0, 100, 1, 100, 0, 3, 4, 100, 4, 50, 2, 100, 3, 4, 256, 1⟩ ns)
                  case first =>
                    go_wp2_with fail
                    go_loopw [6] (fun i wr => ∃ k : Nat, (k : Int) ≤ M ∧ i = .int .i64 k ∧ Fi w wr r b d ⟨N, f, M, 2 * f + 1 + t, 1 + a4, 1 + a5, 1 + a6, (if 0 < k then 1 + a7 else 1000), (if 1 < k then 1 + a8 else 0), 0, 0, 100, 1, 100, 0, 3, 4, 100, 4, 50, 2, 100, 3, 4, 256, 1⟩ ns) (fun i _ => 3 - (intOf i).toNat)
                    case atStart => exact ⟨0, by omega, rfl, F'⟩
                    case round =>
                      obtain ⟨k, hk, rfl, F2⟩ := hrel
                      clear F'
                      have F' := F2; clear F2
                      rcases (show k = 0 ∨ (k = 1 ∧ M = 2) ∨ (k = 1 ∧ M = 1) ∨ (k = 2 ∧ M = 2) by omega) with e | ⟨e, e2⟩ | ⟨e, e2⟩ | ⟨e, e2⟩ <;> subst e
                      · replace F' : Fi w wr r b d ⟨N, f, M, 2 * f + 1 + t, 1 + a4, 1 + a5, 1 + a6, 1000, 0, 0, 0, 100, 1, 100, 0, 3, 4, 100, 4, 50, 2, 100, 3, 4, 256, 1⟩ ns := F'
                        have hc := F'.cell
                        have hz := F'.froz
                        have hm := F'.num
                        go_wp2
                        replace F' := F'.set 7 (.int .i64 (1 + a7)) ⟨N, f, M, 2 * f + 1 + t, 1 + a4, 1 + a5, 1 + a6, 1 + a7, 0, 0, 0, 100, 1, 100, 0, 3, 4, 100, 4, 50, 2, 100, 3, 4, 256, 1⟩ rfl
                        clear hc hz hm
                        generalize World.setCell _ _ _ = w10 at *
                        go_roundw
                        case rel => exact ⟨1, by omega, by first | rfl | go_num, F'⟩
                        case measure => simp [intOf]
                      · replace F' : Fi w wr r b d ⟨N, f, M, 2 * f + 1 + t, 1 + a4, 1 + a5, 1 + a6, 1 + a7, 0, 0, 0, 100, 1, 100, 0, 3, 4, 100, 4, 50, 2, 100, 3, 4, 256, 1⟩ ns := F'
                        have hc := F'.cell
                        have hz := F'.froz
                        have hm := F'.num
                        go_wp2
                        replace F' := F'.set 8 (.int .i64 (1 + a8)) ⟨N, f, M, 2 * f + 1 + t, 1 + a4, 1 + a5, 1 + a6, 1 + a7, 1 + a8, 0, 0, 100, 1, 100, 0, 3, 4, 100, 4, 50, 2, 100, 3, 4, 256, 1⟩ rfl
                        clear hc hz hm
                        generalize World.setCell _ _ _ = w11 at *
                        go_roundw
                        case rel => exact ⟨2, by omega, by first | rfl | go_num, F'⟩
                        case measure => simp [intOf]
                      · replace F' : Fi w wr r b d ⟨N, f, M, 2 * f + 1 + t, 1 + a4, 1 + a5, 1 + a6, 1 + a7, 0, 0, 0, 100, 1, 100, 0, 3, 4, 100, 4, 50, 2, 100, 3, 4, 256, 1⟩ ns := F'
                        have hc := F'.cell
                        have hz := F'.froz
                        have hm := F'.num
                        go_wp2
                        go_meet
                        case rel => exact ⟨0, Or.inl ⟨by omega, rfl⟩, F'⟩
                      · replace F' : Fi w wr r b d ⟨N, f, M, 2 * f + 1 + t, 1 + a4, 1 + a5, 1 + a6, 1 + a7, 1 + a8, 0, 0, 100, 1, 100, 0, 3, 4, 100, 4, 50, 2, 100, 3, 4, 256, 1⟩ ns := F'
                        have hc := F'.cell
                        have hz := F'.froz
                        have hm := F'.num
                        go_wp2
                        go_meet
                        case rel => exact ⟨1 + a8, Or.inr ⟨by omega, by omega, by omega⟩, F'⟩
                  case rest =>
                    clear F'
                    obtain ⟨T1, hT, F'⟩ := hcut
                    have BT := Lib.hid hT; clear hT
                    have Ba7 := Lib.hid (And.intro a7a a7b); clear a7a a7b ha7 a8a a8b ha8 z7 z8
                    have z9 := (HN.out 9).1
                    obtain ⟨a9, ha9, a9a, a9b⟩ := modE (ns 9) 300 (by omega)
                    have hc := F'.cell
                    have hz := F'.froz
                    have hm := F'.num
                    go_upto_region 20 with (fail)
                    replace F' := (F'.set 11 (.int .i64 (a9)) ⟨N, f, M, 2 * f + 1 + t, 1 + a4, 1 + a5, 1 + a6, 1 + a7, T1, 0, 0, a9, 1, 100, 0, 3, 4, 100, 4, 50, 2, 100, 3, 4, 256, 1⟩ rfl)
                    clear hc hz hm
                    generalize World.setCell _ _ _ = w12 at *
                    as_aux_lemma =>
                      have Ba9 := Lib.hid (And.intro a9a a9b); clear a9a a9b ha9
                      clear z9
                      have z10 := (HN.out 10).1
                      obtain ⟨a10, ha10, a10a, a10b⟩ := modE (ns 10) 5 (by omega)
                      have hc := F'.cell
                      have hz := F'.froz
                      have hm := F'.num
                      go_upto_region 21 with (fail)
                      replace F' := (F'.set 12 (.int .i64 (1 + a10)) ⟨N, f, M, 2 * f + 1 + t, 1 + a4, 1 + a5, 1 + a6, 1 + a7, T1, 0, 0, a9, 1 + a10, 100, 0, 3, 4, 100, 4, 50, 2, 100, 3, 4, 256, 1⟩ rfl)
                      clear hc hz hm
                      generalize World.setCell _ _ _ = w13 at *
                      as_aux_lemma =>
                        obtain ⟨e10, he10⟩ : ∃ q, (ns 10).tdiv 5 = q := ⟨_, rfl⟩
                        have qe10 : 0 ≤ e10 ∧ e10 ≤ 33334 := by have := (HN.out 10).2; rw [Int.tdiv_eq_ediv_of_nonneg (by omega)] at he10; omega
                        have qe100 := qe10.1; have qe101 := qe10.2; clear qe10
                        obtain ⟨b10, hb10, b10a, b10b⟩ := modE e10 60 (by omega)
                        have hc := F'.cell
                        have hz := F'.froz
                        have hm := F'.num
                        go_upto_region 22 with (fail)
                        replace F' := (F'.set 13 (.int .i64 (1 + a10 + b10)) ⟨N, f, M, 2 * f + 1 + t, 1 + a4, 1 + a5, 1 + a6, 1 + a7, T1, 0, 0, a9, 1 + a10, 1 + a10 + b10, 0, 3, 4, 100, 4, 50, 2, 100, 3, 4, 256, 1⟩ rfl)
                        clear hc hz hm
                        generalize World.setCell _ _ _ = w14 at *
                        as_aux_lemma =>
                          have Ba10 := Lib.hid (And.intro a10a a10b); clear a10a a10b ha10
                          have Bb10 := Lib.hid (And.intro b10a b10b); clear b10a b10b hb10
                          clear he10 qe100 qe101
                          clear z10
                          have z11 := (HN.out 11).1
                          have z12 := (HN.out 12).1
                          obtain ⟨a11, ha11, a11a, a11b⟩ := modE (ns 11) 4 (by omega)
                          obtain ⟨a12, ha12, a12a, a12b⟩ := modE (ns 12) 5 (by omega)
                          have hc := F'.cell
                          have hz := F'.froz
                          have hm := F'.num
                          go_region
                          replace F' := ((F'.set 14 (.int .i64 (a11)) ⟨N, f, M, 2 * f + 1 + t, 1 + a4, 1 + a5, 1 + a6, 1 + a7, T1, 0, 0, a9, 1 + a10, 1 + a10 + b10, a11, 3, 4, 100, 4, 50, 2, 100, 3, 4, 256, 1⟩ rfl).set 15 (.int .i64 (a12)) ⟨N, f, M, 2 * f + 1 + t, 1 + a4, 1 + a5, 1 + a6, 1 + a7, T1, 0, 0, a9, 1 + a10, 1 + a10 + b10, a11, a12, 4, 100, 4, 50, 2, 100, 3, 4, 256, 1⟩ rfl).on (Gr.refl _).drew
                          clear hc hz hm
                          generalize World.drew _ = w15 at *
                          as_aux_lemma =>
                            have Ba11 := Lib.hid (And.intro a11a a11b); clear a11a a11b ha11
                            have Ba12 := Lib.hid (And.intro a12a a12b); clear a12a a12b ha12
                            clear z11 z12
                            have z13 := (HN.out 13).1
                            obtain ⟨e13, he13⟩ : ∃ q, (ns 13).tdiv 5 = q := ⟨_, rfl⟩
                            have qe13 : 0 ≤ e13 ∧ e13 ≤ 33334 := by have := (HN.out 13).2; rw [Int.tdiv_eq_ediv_of_nonneg (by omega)] at he13; omega
                            have qe130 := qe13.1; have qe131 := qe13.2; clear qe13
                            obtain ⟨a13, ha13, a13a, a13b⟩ := modE (ns 13) 5 (by omega)
                            obtain ⟨b13, hb13, b13a, b13b⟩ := modE e13 150 (by omega)
                            go_upto_region 23 with (fail)
                            have hc := F'.cell
                            have hz := F'.froz
                            have hm := F'.num
                            go_region
                            replace F' := ((F'.set 16 (.int .i64 (1 + a13)) ⟨N, f, M, 2 * f + 1 + t, 1 + a4, 1 + a5, 1 + a6, 1 + a7, T1, 0, 0, a9, 1 + a10, 1 + a10 + b10, a11, a12, 1 + a13, 100, 4, 50, 2, 100, 3, 4, 256, 1⟩ rfl).set 17 (.int .i64 (1 + b13)) ⟨N, f, M, 2 * f + 1 + t, 1 + a4, 1 + a5, 1 + a6, 1 + a7, T1, 0, 0, a9, 1 + a10, 1 + a10 + b10, a11, a12, 1 + a13, 1 + b13, 4, 50, 2, 100, 3, 4, 256, 1⟩ rfl).on (Gr.refl _).drew
                            clear hc hz hm
                            generalize World.drew _ = w16 at *
                            as_aux_lemma =>
                              have Ba13 := Lib.hid (And.intro a13a a13b); clear a13a a13b ha13
                              have Bb13 := Lib.hid (And.intro b13a b13b); clear b13a b13b hb13
                              clear he13 qe130 qe131
                              clear z13
                              have z14 := (HN.out 14).1
                              obtain ⟨e14, he14⟩ : ∃ q, (ns 14).tdiv 5 = q := ⟨_, rfl⟩
                              have qe14 : 0 ≤ e14 ∧ e14 ≤ 33334 := by have := (HN.out 14).2; rw [Int.tdiv_eq_ediv_of_nonneg (by omega)] at he14; omega
                              have qe140 := qe14.1; have qe141 := qe14.2; clear qe14
                              obtain ⟨a14, ha14, a14a, a14b⟩ := modE (ns 14) 5 (by omega)
                              obtain ⟨b14, hb14, b14a, b14b⟩ := modE e14 100 (by omega)
                              go_upto_region 24 with (fail)
                              have hc := F'.cell
                              have hz := F'.froz
                              have hm := F'.num
                              go_region
                              replace F' := ((F'.set 18 (.int .i64 (1 + a14)) ⟨N, f, M, 2 * f + 1 + t, 1 + a4, 1 + a5, 1 + a6, 1 + a7, T1, 0, 0, a9, 1 + a10, 1 + a10 + b10, a11, a12, 1 + a13, 1 + b13, 1 + a14, 50, 2, 100, 3, 4, 256, 1⟩ rfl).set 19 (.int .i64 (1 + b14)) ⟨N, f, M, 2 * f + 1 + t, 1 + a4, 1 + a5, 1 + a6, 1 + a7, T1, 0, 0, a9, 1 + a10, 1 + a10 + b10, a11, a12, 1 + a13, 1 + b13, 1 + a14, 1 + b14, 2, 100, 3, 4, 256, 1⟩ rfl).on (Gr.refl _).drew
                              clear hc hz hm
                              generalize World.drew _ = w17 at *
                              as_aux_lemma =>
                                have Ba14 := Lib.hid (And.intro a14a a14b); clear a14a a14b ha14
                                have Bb14 := Lib.hid (And.intro b14a b14b); clear b14a b14b hb14
                                clear he14 qe140 qe141
                                clear z14
                                have z15 := (HN.out 15).1
                                obtain ⟨a15, ha15, a15a, a15b⟩ := modE (ns 15) 4 (by omega)
                                have hc := F'.cell
                                have hz := F'.froz
                                have hm := F'.num
                                go_upto_region 26 with (fail)
                                replace F' := (F'.set 20 (.int .i64 (1 + a15)) ⟨N, f, M, 2 * f + 1 + t, 1 + a4, 1 + a5, 1 + a6, 1 + a7, T1, 0, 0, a9, 1 + a10, 1 + a10 + b10, a11, a12, 1 + a13, 1 + b13, 1 + a14, 1 + b14, 1 + a15, 100, 3, 4, 256, 1⟩ rfl)
                                clear hc hz hm
                                generalize World.setCell _ _ _ = w18 at *
                                as_aux_lemma =>
                                  have Ba15 := Lib.hid (And.intro a15a a15b); clear a15a a15b ha15
                                  clear z15
                                  have z16 := (HN.out 16).1
                                  obtain ⟨a16, ha16, a16a, a16b⟩ := modE (ns 16) 500 (by omega)
                                  have hc := F'.cell
                                  have hz := F'.froz
                                  have hm := F'.num
                                  go_upto_region 27 with (fail)
                                  replace F' := (F'.set 21 (.int .i64 (a16)) ⟨N, f, M, 2 * f + 1 + t, 1 + a4, 1 + a5, 1 + a6, 1 + a7, T1, 0, 0, a9, 1 + a10, 1 + a10 + b10, a11, a12, 1 + a13, 1 + b13, 1 + a14, 1 + b14, 1 + a15, a16, 3, 4, 256, 1⟩ rfl)
                                  clear hc hz hm
                                  generalize World.setCell _ _ _ = w19 at *
                                  as_aux_lemma =>
                                    have Ba16 := Lib.hid (And.intro a16a a16b); clear a16a a16b ha16
                                    clear z16
                                    have z17 := (HN.out 17).1
                                    obtain ⟨e17, he17⟩ : ∃ q, (ns 17).tdiv 3 = q := ⟨_, rfl⟩
                                    have qe17 : 0 ≤ e17 ∧ e17 ≤ 33334 := by have := (HN.out 17).2; rw [Int.tdiv_eq_ediv_of_nonneg (by omega)] at he17; omega
                                    have qe170 := qe17.1; have qe171 := qe17.2; clear qe17
                                    obtain ⟨a17, ha17, a17a, a17b⟩ := modE (ns 17) 3 (by omega)
                                    obtain ⟨b17, hb17, b17a, b17b⟩ := modE e17 4 (by omega)
                                    have hc := F'.cell
                                    have hz := F'.froz
                                    have hm := F'.num
                                    go_region
                                    replace F' := ((F'.set 22 (.int .i64 (1 + a17)) ⟨N, f, M, 2 * f + 1 + t, 1 + a4, 1 + a5, 1 + a6, 1 + a7, T1, 0, 0, a9, 1 + a10, 1 + a10 + b10, a11, a12, 1 + a13, 1 + b13, 1 + a14, 1 + b14, 1 + a15, a16, 1 + a17, 4, 256, 1⟩ rfl).set 23 (.int .i64 (1 + b17)) ⟨N, f, M, 2 * f + 1 + t, 1 + a4, 1 + a5, 1 + a6, 1 + a7, T1, 0, 0, a9, 1 + a10, 1 + a10 + b10, a11, a12, 1 + a13, 1 + b13, 1 + a14, 1 + b14, 1 + a15, a16, 1 + a17, 1 + b17, 256, 1⟩ rfl).on (Gr.refl _).drew
                                    clear hc hz hm
                                    generalize World.drew _ = w20 at *
                                    as_aux_lemma =>
                                      have Ba17 := Lib.hid (And.intro a17a a17b); clear a17a a17b ha17
                                      have Bb17 := Lib.hid (And.intro b17a b17b); clear b17a b17b hb17
                                      clear he17 qe170 qe171
                                      clear z17
                                      have z18 := (HN.out 18).1
                                      obtain ⟨a18, ha18, a18a, a18b⟩ := modE (ns 18) 300 (by omega)
                                      have hc := F'.cell
                                      have hz := F'.froz
                                      have hm := F'.num
                                      go_upto_region 29 with (fail)
                                      replace F' := (F'.set 24 (.int .i64 (64 + a18)) ⟨N, f, M, 2 * f + 1 + t, 1 + a4, 1 + a5, 1 + a6, 1 + a7, T1, 0, 0, a9, 1 + a10, 1 + a10 + b10, a11, a12, 1 + a13, 1 + b13, 1 + a14, 1 + b14, 1 + a15, a16, 1 + a17, 1 + b17, 64 + a18, 1⟩ rfl)
                                      clear hc hz hm
                                      generalize World.setCell _ _ _ = w21 at *
                                      as_aux_lemma =>
                                        have Ba18 := Lib.hid (And.intro a18a a18b); clear a18a a18b ha18
                                        clear z18
                                        have z19 := HN.out 19
                                        obtain ⟨sd, hsd⟩ : ∃ sd, ns 19 = sd := ⟨_, rfl⟩
                                        rw [hsd] at z19
                                        have z20 := z19.1
                                        have z21 := z19.2
                                        clear z19
                                        have hc := F'.cell
                                        have hz := F'.froz
                                        have hm := F'.num
                                        go_upto_region 30 with (fail)
                                        replace F' := (F'.set 25 (.int .u64 (sd)) ⟨N, f, M, 2 * f + 1 + t, 1 + a4, 1 + a5, 1 + a6, 1 + a7, T1, 0, 0, a9, 1 + a10, 1 + a10 + b10, a11, a12, 1 + a13, 1 + b13, 1 + a14, 1 + b14, 1 + a15, a16, 1 + a17, 1 + b17, 64 + a18, sd⟩ rfl)
                                        clear hc hz hm
                                        generalize World.setCell _ _ _ = w22 at *
                                        as_aux_lemma =>
                                          refine wp_region_lit ?_
                                          refine wpList_val (.agg #[.int .i64 (⟨N, f, M, 2 * f + 1 + t, 1 + a4, 1 + a5, 1 + a6, 1 + a7, T1, 0, 0, a9, 1 + a10, 1 + a10 + b10, a11, a12, 1 + a13, 1 + b13, 1 + a14, 1 + b14, 1 + a15, a16, 1 + a17, 1 + b17, 64 + a18, sd⟩ : CF).n, .int .i64 (⟨N, f, M, 2 * f + 1 + t, 1 + a4, 1 + a5, 1 + a6, 1 + a7, T1, 0, 0, a9, 1 + a10, 1 + a10 + b10, a11, a12, 1 + a13, 1 + b13, 1 + a14, 1 + b14, 1 + a15, a16, 1 + a17, 1 + b17, 64 + a18, sd⟩ : CF).f, .int .i64 (⟨N, f, M, 2 * f + 1 + t, 1 + a4, 1 + a5, 1 + a6, 1 + a7, T1, 0, 0, a9, 1 + a10, 1 + a10 + b10, a11, a12, 1 + a13, 1 + b13, 1 + a14, 1 + b14, 1 + a15, a16, 1 + a17, 1 + b17, 64 + a18, sd⟩ : CF).m, .int .i64 (⟨N, f, M, 2 * f + 1 + t, 1 + a4, 1 + a5, 1 + a6, 1 + a7, T1, 0, 0, a9, 1 + a10, 1 + a10 + b10, a11, a12, 1 + a13, 1 + b13, 1 + a14, 1 + b14, 1 + a15, a16, 1 + a17, 1 + b17, 64 + a18, sd⟩ : CF).q, .int .i64 (⟨N, f, M, 2 * f + 1 + t, 1 + a4, 1 + a5, 1 + a6, 1 + a7, T1, 0, 0, a9, 1 + a10, 1 + a10 + b10, a11, a12, 1 + a13, 1 + b13, 1 + a14, 1 + b14, 1 + a15, a16, 1 + a17, 1 + b17, 64 + a18, sd⟩ : CF).fresh, .int .i64 (⟨N, f, M, 2 * f + 1 + t, 1 + a4, 1 + a5, 1 + a6, 1 + a7, T1, 0, 0, a9, 1 + a10, 1 + a10 + b10, a11, a12, 1 + a13, 1 + b13, 1 + a14, 1 + b14, 1 + a15, a16, 1 + a17, 1 + b17, 64 + a18, sd⟩ : CF).grace, .int .i64 (⟨N, f, M, 2 * f + 1 + t, 1 + a4, 1 + a5, 1 + a6, 1 + a7, T1, 0, 0, a9, 1 + a10, 1 + a10 + b10, a11, a12, 1 + a13, 1 + b13, 1 + a14, 1 + b14, 1 + a15, a16, 1 + a17, 1 + b17, 64 + a18, sd⟩ : CF).window, .int .i64 (⟨N, f, M, 2 * f + 1 + t, 1 + a4, 1 + a5, 1 + a6, 1 + a7, T1, 0, 0, a9, 1 + a10, 1 + a10 + b10, a11, a12, 1 + a13, 1 + b13, 1 + a14, 1 + b14, 1 + a15, a16, 1 + a17, 1 + b17, 64 + a18, sd⟩ : CF).t0, .int .i64 (⟨N, f, M, 2 * f + 1 + t, 1 + a4, 1 + a5, 1 + a6, 1 + a7, T1, 0, 0, a9, 1 + a10, 1 + a10 + b10, a11, a12, 1 + a13, 1 + b13, 1 + a14, 1 + b14, 1 + a15, a16, 1 + a17, 1 + b17, 64 + a18, sd⟩ : CF).t1, .int .i64 (⟨N, f, M, 2 * f + 1 + t, 1 + a4, 1 + a5, 1 + a6, 1 + a7, T1, 0, 0, a9, 1 + a10, 1 + a10 + b10, a11, a12, 1 + a13, 1 + b13, 1 + a14, 1 + b14, 1 + a15, a16, 1 + a17, 1 + b17, 64 + a18, sd⟩ : CF).t2, .int .i64 (⟨N, f, M, 2 * f + 1 + t, 1 + a4, 1 + a5, 1 + a6, 1 + a7, T1, 0, 0, a9, 1 + a10, 1 + a10 + b10, a11, a12, 1 + a13, 1 + b13, 1 + a14, 1 + b14, 1 + a15, a16, 1 + a17, 1 + b17, 64 + a18, sd⟩ : CF).t3, .int .i64 (⟨N, f, M, 2 * f + 1 + t, 1 + a4, 1 + a5, 1 + a6, 1 + a7, T1, 0, 0, a9, 1 + a10, 1 + a10 + b10, a11, a12, 1 + a13, 1 + b13, 1 + a14, 1 + b14, 1 + a15, a16, 1 + a17, 1 + b17, 64 + a18, sd⟩ : CF).tol, .int .i64 (⟨N, f, M, 2 * f + 1 + t, 1 + a4, 1 + a5, 1 + a6, 1 + a7, T1, 0, 0, a9, 1 + a10, 1 + a10 + b10, a11, a12, 1 + a13, 1 + b13, 1 + a14, 1 + b14, 1 + a15, a16, 1 + a17, 1 + b17, 64 + a18, sd⟩ : CF).lo, .int .i64 (⟨N, f, M, 2 * f + 1 + t, 1 + a4, 1 + a5, 1 + a6, 1 + a7, T1, 0, 0, a9, 1 + a10, 1 + a10 + b10, a11, a12, 1 + a13, 1 + b13, 1 + a14, 1 + b14, 1 + a15, a16, 1 + a17, 1 + b17, 64 + a18, sd⟩ : CF).hi, .int .i64 (⟨N, f, M, 2 * f + 1 + t, 1 + a4, 1 + a5, 1 + a6, 1 + a7, T1, 0, 0, a9, 1 + a10, 1 + a10 + b10, a11, a12, 1 + a13, 1 + b13, 1 + a14, 1 + b14, 1 + a15, a16, 1 + a17, 1 + b17, 64 + a18, sd⟩ : CF).cup, .int .i64 (⟨N, f, M, 2 * f + 1 + t, 1 + a4, 1 + a5, 1 + a6, 1 + a7, T1, 0, 0, a9, 1 + a10, 1 + a10 + b10, a11, a12, 1 + a13, 1 + b13, 1 + a14, 1 + b14, 1 + a15, a16, 1 + a17, 1 + b17, 64 + a18, sd⟩ : CF).cdn, .int .i64 (⟨N, f, M, 2 * f + 1 + t, 1 + a4, 1 + a5, 1 + a6, 1 + a7, T1, 0, 0, a9, 1 + a10, 1 + a10 + b10, a11, a12, 1 + a13, 1 + b13, 1 + a14, 1 + b14, 1 + a15, a16, 1 + a17, 1 + b17, 64 + a18, sd⟩ : CF).pup, .int .i64 (⟨N, f, M, 2 * f + 1 + t, 1 + a4, 1 + a5, 1 + a6, 1 + a7, T1, 0, 0, a9, 1 + a10, 1 + a10 + b10, a11, a12, 1 + a13, 1 + b13, 1 + a14, 1 + b14, 1 + a15, a16, 1 + a17, 1 + b17, 64 + a18, sd⟩ : CF).tup, .int .i64 (⟨N, f, M, 2 * f + 1 + t, 1 + a4, 1 + a5, 1 + a6, 1 + a7, T1, 0, 0, a9, 1 + a10, 1 + a10 + b10, a11, a12, 1 + a13, 1 + b13, 1 + a14, 1 + b14, 1 + a15, a16, 1 + a17, 1 + b17, 64 + a18, sd⟩ : CF).pdn, .int .i64 (⟨N, f, M, 2 * f + 1 + t, 1 + a4, 1 + a5, 1 + a6, 1 + a7, T1, 0, 0, a9, 1 + a10, 1 + a10 + b10, a11, a12, 1 + a13, 1 + b13, 1 + a14, 1 + b14, 1 + a15, a16, 1 + a17, 1 + b17, 64 + a18, sd⟩ : CF).tdn, .int .i64 (⟨N, f, M, 2 * f + 1 + t, 1 + a4, 1 + a5, 1 + a6, 1 + a7, T1, 0, 0, a9, 1 + a10, 1 + a10 + b10, a11, a12, 1 + a13, 1 + b13, 1 + a14, 1 + b14, 1 + a15, a16, 1 + a17, 1 + b17, 64 + a18, sd⟩ : CF).per, .int .i64 (⟨N, f, M, 2 * f + 1 + t, 1 + a4, 1 + a5, 1 + a6, 1 + a7, T1, 0, 0, a9, 1 + a10, 1 + a10 + b10, a11, a12, 1 + a13, 1 + b13, 1 + a14, 1 + b14, 1 + a15, a16, 1 + a17, 1 + b17, 64 + a18, sd⟩ : CF).far, .int .i64 (⟨N, f, M, 2 * f + 1 + t, 1 + a4, 1 + a5, 1 + a6, 1 + a7, T1, 0, 0, a9, 1 + a10, 1 + a10 + b10, a11, a12, 1 + a13, 1 + b13, 1 + a14, 1 + b14, 1 + a15, a16, 1 + a17, 1 + b17, 64 + a18, sd⟩ : CF).str, .int .i64 (⟨N, f, M, 2 * f + 1 + t, 1 + a4, 1 + a5, 1 + a6, 1 + a7, T1, 0, 0, a9, 1 + a10, 1 + a10 + b10, a11, a12, 1 + a13, 1 + b13, 1 + a14, 1 + b14, 1 + a15, a16, 1 + a17, 1 + b17, 64 + a18, sd⟩ : CF).pro, .int .i64 (⟨N, f, M, 2 * f + 1 + t, 1 + a4, 1 + a5, 1 + a6, 1 + a7, T1, 0, 0, a9, 1 + a10, 1 + a10 + b10, a11, a12, 1 + a13, 1 + b13, 1 + a14, 1 + b14, 1 + a15, a16, 1 + a17, 1 + b17, 64 + a18, sd⟩ : CF).sec, .int .u64 (⟨N, f, M, 2 * f + 1 + t, 1 + a4, 1 + a5, 1 + a6, 1 + a7, T1, 0, 0, a9, 1 + a10, 1 + a10 + b10, a11, a12, 1 + a13, 1 + b13, 1 + a14, 1 + b14, 1 + a15, a16, 1 + a17, 1 + b17, 64 + a18, sd⟩ : CF).seed]) _ rfl (xload36_of rfl F'.conf) ?_
                                          refine wpList_skip' (World.setRow _ r #[.int .i64 (⟨N, f, M, 2 * f + 1 + t, 1 + a4, 1 + a5, 1 + a6, 1 + a7, T1, 0, 0, a9, 1 + a10, 1 + a10 + b10, a11, a12, 1 + a13, 1 + b13, 1 + a14, 1 + b14, 1 + a15, a16, 1 + a17, 1 + b17, 64 + a18, sd⟩ : CF).n, .int .i64 (⟨N, f, M, 2 * f + 1 + t, 1 + a4, 1 + a5, 1 + a6, 1 + a7, T1, 0, 0, a9, 1 + a10, 1 + a10 + b10, a11, a12, 1 + a13, 1 + b13, 1 + a14, 1 + b14, 1 + a15, a16, 1 + a17, 1 + b17, 64 + a18, sd⟩ : CF).f, .int .i64 (⟨N, f, M, 2 * f + 1 + t, 1 + a4, 1 + a5, 1 + a6, 1 + a7, T1, 0, 0, a9, 1 + a10, 1 + a10 + b10, a11, a12, 1 + a13, 1 + b13, 1 + a14, 1 + b14, 1 + a15, a16, 1 + a17, 1 + b17, 64 + a18, sd⟩ : CF).m, .int .i64 (⟨N, f, M, 2 * f + 1 + t, 1 + a4, 1 + a5, 1 + a6, 1 + a7, T1, 0, 0, a9, 1 + a10, 1 + a10 + b10, a11, a12, 1 + a13, 1 + b13, 1 + a14, 1 + b14, 1 + a15, a16, 1 + a17, 1 + b17, 64 + a18, sd⟩ : CF).q, .int .i64 (⟨N, f, M, 2 * f + 1 + t, 1 + a4, 1 + a5, 1 + a6, 1 + a7, T1, 0, 0, a9, 1 + a10, 1 + a10 + b10, a11, a12, 1 + a13, 1 + b13, 1 + a14, 1 + b14, 1 + a15, a16, 1 + a17, 1 + b17, 64 + a18, sd⟩ : CF).fresh, .int .i64 (⟨N, f, M, 2 * f + 1 + t, 1 + a4, 1 + a5, 1 + a6, 1 + a7, T1, 0, 0, a9, 1 + a10, 1 + a10 + b10, a11, a12, 1 + a13, 1 + b13, 1 + a14, 1 + b14, 1 + a15, a16, 1 + a17, 1 + b17, 64 + a18, sd⟩ : CF).grace, .int .i64 (⟨N, f, M, 2 * f + 1 + t, 1 + a4, 1 + a5, 1 + a6, 1 + a7, T1, 0, 0, a9, 1 + a10, 1 + a10 + b10, a11, a12, 1 + a13, 1 + b13, 1 + a14, 1 + b14, 1 + a15, a16, 1 + a17, 1 + b17, 64 + a18, sd⟩ : CF).window, .int .i64 (⟨N, f, M, 2 * f + 1 + t, 1 + a4, 1 + a5, 1 + a6, 1 + a7, T1, 0, 0, a9, 1 + a10, 1 + a10 + b10, a11, a12, 1 + a13, 1 + b13, 1 + a14, 1 + b14, 1 + a15, a16, 1 + a17, 1 + b17, 64 + a18, sd⟩ : CF).t0, .int .i64 (⟨N, f, M, 2 * f + 1 + t, 1 + a4, 1 + a5, 1 + a6, 1 + a7, T1, 0, 0, a9, 1 + a10, 1 + a10 + b10, a11, a12, 1 + a13, 1 + b13, 1 + a14, 1 + b14, 1 + a15, a16, 1 + a17, 1 + b17, 64 + a18, sd⟩ : CF).t1, .int .i64 (⟨N, f, M, 2 * f + 1 + t, 1 + a4, 1 + a5, 1 + a6, 1 + a7, T1, 0, 0, a9, 1 + a10, 1 + a10 + b10, a11, a12, 1 + a13, 1 + b13, 1 + a14, 1 + b14, 1 + a15, a16, 1 + a17, 1 + b17, 64 + a18, sd⟩ : CF).t2, .int .i64 (⟨N, f, M, 2 * f + 1 + t, 1 + a4, 1 + a5, 1 + a6, 1 + a7, T1, 0, 0, a9, 1 + a10, 1 + a10 + b10, a11, a12, 1 + a13, 1 + b13, 1 + a14, 1 + b14, 1 + a15, a16, 1 + a17, 1 + b17, 64 + a18, sd⟩ : CF).t3, .int .i64 (⟨N, f, M, 2 * f + 1 + t, 1 + a4, 1 + a5, 1 + a6, 1 + a7, T1, 0, 0, a9, 1 + a10, 1 + a10 + b10, a11, a12, 1 + a13, 1 + b13, 1 + a14, 1 + b14, 1 + a15, a16, 1 + a17, 1 + b17, 64 + a18, sd⟩ : CF).tol, .int .i64 (⟨N, f, M, 2 * f + 1 + t, 1 + a4, 1 + a5, 1 + a6, 1 + a7, T1, 0, 0, a9, 1 + a10, 1 + a10 + b10, a11, a12, 1 + a13, 1 + b13, 1 + a14, 1 + b14, 1 + a15, a16, 1 + a17, 1 + b17, 64 + a18, sd⟩ : CF).lo, .int .i64 (⟨N, f, M, 2 * f + 1 + t, 1 + a4, 1 + a5, 1 + a6, 1 + a7, T1, 0, 0, a9, 1 + a10, 1 + a10 + b10, a11, a12, 1 + a13, 1 + b13, 1 + a14, 1 + b14, 1 + a15, a16, 1 + a17, 1 + b17, 64 + a18, sd⟩ : CF).hi, .int .i64 (⟨N, f, M, 2 * f + 1 + t, 1 + a4, 1 + a5, 1 + a6, 1 + a7, T1, 0, 0, a9, 1 + a10, 1 + a10 + b10, a11, a12, 1 + a13, 1 + b13, 1 + a14, 1 + b14, 1 + a15, a16, 1 + a17, 1 + b17, 64 + a18, sd⟩ : CF).cup, .int .i64 (⟨N, f, M, 2 * f + 1 + t, 1 + a4, 1 + a5, 1 + a6, 1 + a7, T1, 0, 0, a9, 1 + a10, 1 + a10 + b10, a11, a12, 1 + a13, 1 + b13, 1 + a14, 1 + b14, 1 + a15, a16, 1 + a17, 1 + b17, 64 + a18, sd⟩ : CF).cdn, .int .i64 (⟨N, f, M, 2 * f + 1 + t, 1 + a4, 1 + a5, 1 + a6, 1 + a7, T1, 0, 0, a9, 1 + a10, 1 + a10 + b10, a11, a12, 1 + a13, 1 + b13, 1 + a14, 1 + b14, 1 + a15, a16, 1 + a17, 1 + b17, 64 + a18, sd⟩ : CF).pup, .int .i64 (⟨N, f, M, 2 * f + 1 + t, 1 + a4, 1 + a5, 1 + a6, 1 + a7, T1, 0, 0, a9, 1 + a10, 1 + a10 + b10, a11, a12, 1 + a13, 1 + b13, 1 + a14, 1 + b14, 1 + a15, a16, 1 + a17, 1 + b17, 64 + a18, sd⟩ : CF).tup, .int .i64 (⟨N, f, M, 2 * f + 1 + t, 1 + a4, 1 + a5, 1 + a6, 1 + a7, T1, 0, 0, a9, 1 + a10, 1 + a10 + b10, a11, a12, 1 + a13, 1 + b13, 1 + a14, 1 + b14, 1 + a15, a16, 1 + a17, 1 + b17, 64 + a18, sd⟩ : CF).pdn, .int .i64 (⟨N, f, M, 2 * f + 1 + t, 1 + a4, 1 + a5, 1 + a6, 1 + a7, T1, 0, 0, a9, 1 + a10, 1 + a10 + b10, a11, a12, 1 + a13, 1 + b13, 1 + a14, 1 + b14, 1 + a15, a16, 1 + a17, 1 + b17, 64 + a18, sd⟩ : CF).tdn, .int .i64 (⟨N, f, M, 2 * f + 1 + t, 1 + a4, 1 + a5, 1 + a6, 1 + a7, T1, 0, 0, a9, 1 + a10, 1 + a10 + b10, a11, a12, 1 + a13, 1 + b13, 1 + a14, 1 + b14, 1 + a15, a16, 1 + a17, 1 + b17, 64 + a18, sd⟩ : CF).per, .int .i64 (⟨N, f, M, 2 * f + 1 + t, 1 + a4, 1 + a5, 1 + a6, 1 + a7, T1, 0, 0, a9, 1 + a10, 1 + a10 + b10, a11, a12, 1 + a13, 1 + b13, 1 + a14, 1 + b14, 1 + a15, a16, 1 + a17, 1 + b17, 64 + a18, sd⟩ : CF).far, .int .i64 (⟨N, f, M, 2 * f + 1 + t, 1 + a4, 1 + a5, 1 + a6, 1 + a7, T1, 0, 0, a9, 1 + a10, 1 + a10 + b10, a11, a12, 1 + a13, 1 + b13, 1 + a14, 1 + b14, 1 + a15, a16, 1 + a17, 1 + b17, 64 + a18, sd⟩ : CF).str, .int .i64 (⟨N, f, M, 2 * f + 1 + t, 1 + a4, 1 + a5, 1 + a6, 1 + a7, T1, 0, 0, a9, 1 + a10, 1 + a10 + b10, a11, a12, 1 + a13, 1 + b13, 1 + a14, 1 + b14, 1 + a15, a16, 1 + a17, 1 + b17, 64 + a18, sd⟩ : CF).pro, .int .i64 (⟨N, f, M, 2 * f + 1 + t, 1 + a4, 1 + a5, 1 + a6, 1 + a7, T1, 0, 0, a9, 1 + a10, 1 + a10 + b10, a11, a12, 1 + a13, 1 + b13, 1 + a14, 1 + b14, 1 + a15, a16, 1 + a17, 1 + b17, 64 + a18, sd⟩ : CF).sec, .int .u64 (⟨N, f, M, 2 * f + 1 + t, 1 + a4, 1 + a5, 1 + a6, 1 + a7, T1, 0, 0, a9, 1 + a10, 1 + a10 + b10, a11, a12, 1 + a13, 1 + b13, 1 + a14, 1 + b14, 1 + a15, a16, 1 + a17, 1 + b17, 64 + a18, sd⟩ : CF).seed]) rfl (xstore36_row rfl (by kernel_rfl) (by kernel_rfl) F'.boxr rfl rfl (by kernel_rfl)) ?_
                                          obtain ⟨gE, bE⟩ := F'.done
                                          generalize World.setRow _ r _ = w50 at *
                                          go_wp2
                                          have := Ba7.out
                                          have := Ba9.out
                                          have := Ba10.out
                                          have := Bb10.out
                                          have := Ba11.out
                                          have := Ba12.out
                                          have := Ba13.out
                                          have := Bb13.out
                                          have := Ba14.out
                                          have := Bb14.out
                                          have := Ba15.out
                                          have := Ba16.out
                                          have := Ba17.out
                                          have := Bb17.out
                                          have := Ba18.out
                                          have := Ba4.out
                                          have := Ba5.out
                                          have := Ba6.out
                                          have := BN.out
                                          have := BT.out
                                          exact bodyPost_ret (results36 Try.results44 _ _ _ _ (0, 0) rfl bE rfl) rfl ⟨⟨N, f, M, 2 * f + 1 + t, 1 + a4, 1 + a5, 1 + a6, 1 + a7, T1, 0, 0, a9, 1 + a10, 1 + a10 + b10, a11, a12, 1 + a13, 1 + b13, 1 + a14, 1 + b14, 1 + a15, a16, 1 + a17, 1 + b17, 64 + a18, sd⟩, by constructor <;> simp only [] <;> omega, rfl, gE⟩
end Go.Proofs.Ytjobicffdcnnlaa
