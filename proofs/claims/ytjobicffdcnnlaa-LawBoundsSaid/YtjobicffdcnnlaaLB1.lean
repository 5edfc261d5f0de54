import Derived.Test.YtjobicffdcnnlaaLW8
import Derived.Test.YtjobicffdcnnlaaT1
import Derived.Deep.CutBlock
import Derived.Deep.DeepCutAuto
/- LawBounds. -/
namespace Go.Proofs.Ytjobicffdcnnlaa
open Go.RowKit
set_option linter.unusedSimpArgs false
set_option linter.unusedVariables false
set_option maxRecDepth 100000

set_option maxHeartbeats 4000000 in
theorem lawBounds_any (A0 : Option Addr) (n0 cap0 : Nat) (z0 : List Int) (a1 : Int) (A2 : Option Addr) (n2 cap2 : Nat) (z2 : List Int) (w : World) (h0 : RI w A0 n0 z0) (h2 : RI w A2 n2 z2) :
    Calls Try.prog 20 #[.slice A0 n0 cap0, .int .i64 a1, .slice A2 n2 cap2] w fun e w' => e = .returned (.bool true) ∧ Gr w w' := by
  have hf := fit_new A0 n0 cap0 z0 w h0
  have HF := Lib.hid hf
  have b2 := h2.2.1
  have H2 := Lib.hid h2
  clear hf h0 h2
  have u1 := u64_nonneg a1
  go_enter Try.func20, Try.ntmps20
  go_upto_region 1 with (fail)
  refine wp_region_lit ?_
  refine wpList_val (.slice A0 n0 cap0) w rfl (by kernel_rfl) ?_
  refine wpList_new 44 #[.slice A0 n0 cap0] rfl (by kernel_rfl) HF.out fun v w1 hv => ?_
  obtain ⟨c, hc, rfl, hg⟩ := hv
  refine wpList_val (.pointer (some ⟨w1.heap.size, 0, none⟩)) (w1.alloc (.cells zero36 36)) rfl (xalloc36 ..) ?_
  refine wpList_skip' (w1.alloc (.cells #[.int .i64 c.n, .int .i64 c.f, .int .i64 c.m, .int .i64 c.q, .int .i64 c.fresh, .int .i64 c.grace, .int .i64 c.window, .int .i64 c.t0, .int .i64 c.t1, .int .i64 c.t2, .int .i64 c.t3, .int .i64 c.tol, .int .i64 c.lo, .int .i64 c.hi, .int .i64 c.cup, .int .i64 c.cdn, .int .i64 c.pup, .int .i64 c.tup, .int .i64 c.pdn, .int .i64 c.tdn, .int .i64 c.per, .int .i64 c.far, .int .i64 c.str, .int .i64 c.pro, .int .i64 c.sec, .int .u64 c.seed] 36)) rfl (xstore36_at rfl (by kernel_rfl) (by kernel_rfl) rfl rfl (by kernel_rfl)) ?_
  have A := start_at hg c
  generalize w1.alloc (.cells #[.int .i64 c.n, .int .i64 c.f, .int .i64 c.m, .int .i64 c.q, .int .i64 c.fresh, .int .i64 c.grace, .int .i64 c.window, .int .i64 c.t0, .int .i64 c.t1, .int .i64 c.t2, .int .i64 c.t3, .int .i64 c.tol, .int .i64 c.lo, .int .i64 c.hi, .int .i64 c.cup, .int .i64 c.cdn, .int .i64 c.pup, .int .i64 c.tup, .int .i64 c.pdn, .int .i64 c.tdn, .int .i64 c.per, .int .i64 c.far, .int .i64 c.str, .int .i64 c.pro, .int .i64 c.sec, .int .u64 c.seed] 36) = w2 at *
  generalize w1.heap.size = b at *
  have l0 := hc.lo0
  have l2 := hc.hi0
  have l3 := hc.hi1
  clear hg HF
  as_aux_lemma =>
    obtain ⟨x, hx, x0, x1⟩ := u64_mod a1 (c.hi - c.lo + 1) (by omega)
    obtain ⟨f, hf⟩ : ∃ f, c.lo + x = f := ⟨_, rfl⟩
    have f0 : c.lo ≤ f := by omega
    have f1 : f ≤ c.hi := by omega
    go_upto_region 2 with (fail)
    simp only [Act.put, List.setIfInBounds_toArray, List.set_cons_succ, List.set_cons_zero]
    refine wp_region_quiet_gw (by kernel_rfl) (by kernel_rfl) ?_
    have hcg := A.cellG
    repeat (go_big_quiet_step (fail))
    refine wpQuiet_nil fun s => ?_
    replace A := A.on s.gr
    generalize s.val = w4 at *
    clear hcg hx u1 x0 x1 hf
    as_aux_lemma =>
      have hk := A.conf
      go_wp2_with fail
      refine (law_new_ok c hc f f0 f1 _).mono ?_
      rintro e w5 ⟨bl, F, rfl, H, hF, g2⟩
      have X : LG w4 w5 F bl c (Ls.one f) := ⟨H, g2, hF⟩
      have ok := Ls.Ok.one hc (n := f) ⟨f0, f1⟩
      generalize Ls.one f = s at *
      clear H hF g2 hk f0 f1
      go_upto_block 0 with (fail)
      go_cut [] (fun wc => Gr w wc)
      case first =>
        go_wp2_with fail
        go_loopw [10] (fun i wr => ∃ (kk : Nat) (F : List Nat) (s : Ls), kk ≤ n2 ∧ kk ≤ 30 ∧ i = .int .i64 kk ∧ LG w4 wr F bl c s ∧ s.Ok c) (fun i _ => 30 - (intOf i).toNat)
        case atStart => exact ⟨0, F, s, by omega, by omega, rfl, X, ok⟩
        case round =>
          clear X ok F s
          obtain ⟨kk, F, s, hk1, hk2, rfl, X, ok⟩ := hrel
          by_cases q1 : kk < n2
          · by_cases q2 : kk < 30
            · as_aux_lemma =>
              obtain ⟨ad, rfl, hcell⟩ := H2.out.at_ q1
              replace hcell := (A.gr.trans X.G).cell_some hcell
              generalize z2.getD kk 0 = y at hcell
              have y0 := u64_nonneg y
              obtain ⟨v, hv, v0, v1⟩ := u64_mod y 9000 (by omega)
              obtain ⟨u, hu, u0, u1⟩ := u64_mod y 7000 (by omega)
              obtain ⟨n, hn⟩ : ∃ n, s.n = n := ⟨_, rfl⟩
              have ok0 := ok.n0
              have ok1 := ok.n1
              rw [hn] at ok0 ok1
              go_upto_region 10 with ((go_at_call 60; refine (X.count n hn).mono ?_; rintro e w6 ⟨rfl, rfl⟩))
              have A' := A.on X.G
              have hcg := A'.cellG
              have hcl : ∀ s : Gw wr, s.val.cell? (ad.add kk) = some (.int .i64 y) := fun s => s.gr.cell_some hcell
              obtain ⟨m, hm⟩ : ∃ m : Nat, c.m = (m : Int) := ⟨c.m.toNat, by have := hc.m0; omega⟩
              have m0 := hc.m0
              have m1 := hc.m1
              rw [hm] at m0 m1
              refine wp_region_grp (fun w' => ∃ s : Gw wr, w' = s.val) [([0, 1, 2, 3, 4, 5, 6, 7, 8, 9, 10, 11, 12, 13, 15, 16], [14]), ([17, 18], [])] (by kernel_rfl) (by as_aux_lemma => kernel_rfl) (by as_aux_lemma => kernel_rfl) (by kernel_rfl) (fun d v c a w h => by cases d <;> exact h) (Gr.fresh wr).in_ ?_
              simp only [wpGrp, wpSeqC, List.filterMap_cons, List.filterMap_nil, List.getElem?_toArray, List.getElem?_cons_succ, List.getElem?_cons_zero]
              show wpQuiet _ _ _ _ [_, _, _, _, _, _, _, _, _, _, _, _, _, _, _, _] _
              repeat (go_big_quiet_step (fail))
              refine wpQuiet_nil ?_
              have gf := Gr.fresh wr
              generalize hw6 : ({ wr with drawn := wr.drawn + 1 } : World) = w6 at *
              refine wpOp_made 65 (.slice (some ⟨w6.heap.size, 0, none⟩) 2 2) (w6.alloc (.cells #[.int .i64 v, .int .i64 u] 2)) rfl rfl rfl (by kernel_rfl) (gf.alloc _) ?_
              simp only [Act.put, List.setIfInBounds_toArray, List.set_cons_succ, List.set_cons_zero]
              show wpQuiet _ _ _ _ [_, _] _
              repeat (go_big_quiet_step (fail))
              refine wpQuiet_nil ?_
              clear hcg hcl hv hu y0 hcell A'
              obtain ⟨g, hg⟩ : ∃ g, w6.heap.size = g := ⟨_, rfl⟩
              have box : (w6.alloc (.cells #[.int .i64 v, .int .i64 u] 2)).heap[g]? = some (.cells #[.int .i64 v, .int .i64 u] 2) := heap_new hg.symm
              obtain ⟨xs, hxs⟩ : ∃ xs, [v, u].take m = xs := ⟨_, rfl⟩
              have hxl : xs.length = m := by rw [← hxs]; simp; omega
              have hxb : ∀ x ∈ xs, 0 ≤ x ∧ x ≤ 1099511627776 := fun x hx => by
                rw [← hxs] at hx
                have := List.mem_of_mem_take hx
                simp at this
                omega
              have R : RI (w6.alloc (.cells #[.int .i64 v, .int .i64 u] 2)) (some ⟨g, 0, none⟩) m xs := by
                refine ⟨hxl, by omega, fun _ => ⟨_, rfl, fun j hj => ?_⟩⟩
                rw [Addr.add_lit, Nat.zero_add, ← hxs]
                have e : ([v, u].take m).getD j 0 = [v, u].getD j 0 := by simp [List.getD_eq_getElem?_getD, hj]
                rw [e]
                rcases (show j = 0 ∨ j = 1 by omega) with rfl | rfl <;> exact cell_in box rfl
              rw [hg]
              replace X := X.on (gf.alloc (.cells #[.int .i64 v, .int .i64 u] 2))
              have hmost := most_wl hc (n := n) (by omega) (by omega) (xs := xs) (by omega) hxb
              rw [show c.m.toNat = m by omega] at hmost
              clear hw6 gf box hxs hxb v0 v1 u0 u1 hg
              generalize w6.alloc _ = w7 at *
              as_aux_lemma =>
                go_upto_block 2 with (fail)
                go_cut [13] (fun s13 wc => s13 = .int .i64 (wlS n c.tol xs (tgt c) m) ∧ Gr w7 wc)
                case first =>
                  go_wp2_with fail
                  go_loopw [13, 14] (fun t i wr => ∃ k : Nat, k ≤ m ∧ i = .int .i64 k ∧ t = .int .i64 (wlS n c.tol xs (tgt c) k) ∧ Gr w7 wr) (fun _ i _ => m - (intOf i).toNat)
                  case atStart => exact ⟨0, by omega, rfl, rfl, Gr.refl _⟩
                  case round =>
                    obtain ⟨k, hk, rfl, rfl, GG⟩ := hrel
                    have A' := (A.on X.G).on GG
                    have hcg' := A'.cell
                    by_cases q : k < m
                    · as_aux_lemma =>
                      have hct : ∀ s : Gw wr, s.val.cell? ⟨b, 7 + k, none⟩ = some (.int .i64 ((tgt c).getD k 0)) := fun s => (A'.cellG s _).trans (cellAt_tgt hc (by omega))
                      have hcx : ∀ s : Gw wr, s.val.cell? ⟨g, k, none⟩ = some (.int .i64 (xs.getD k 0)) := fun s => by
                        obtain ⟨ad', e', hh⟩ := (R.gr (GG.trans s.gr)).at_ q
                        cases e'
                        rw [Addr.add_lit, Nat.zero_add] at hh
                        exact hh
                      have hnx : wlS n c.tol xs (tgt c) (k + 1) = max (wlS n c.tol xs (tgt c) k) (wantV n (xs.getD k 0) ((tgt c).getD k 0) c.tol) := rfl
                      have hwant := want_any n (xs.getD k 0) ((tgt c).getD k 0) c.tol
                      have HN := Lib.hid hnx
                      clear hnx
                      generalize wantV n (xs.getD k 0) ((tgt c).getD k 0) c.tol = W1 at *
                      generalize wlS n c.tol xs (tgt c) k = W0 at *
                      generalize xs.getD k 0 = x1 at *
                      generalize (tgt c).getD k 0 = t1 at *
                      go_upto_region 15 with (fail)
                      clear hcg'
                      have hcg := A'.cellG
                      refine wp_region_quiet_gw (by kernel_rfl) (by kernel_rfl) ?_
                      repeat (go_big_quiet_step (first | (go_at_call 34; exact q_gr ((hwant _).mono fun _ _ ⟨r1, r2⟩ => ⟨r1, r2 ▸ Gr.refl _⟩))))
                      refine wpQuiet_nil fun s => ?_
                      replace GG := GG.trans s.gr
                      clear hct hcx hcg hwant A'
                      go_wp2
                      go_roundw
                      case rel => exact ⟨k + 1, by omega, by first | rfl | go_num, by rw [HN.out], GG⟩
                      case measure => simp [intOf]; omega
                    · go_wp2
                      go_meet
                      case rel => exact ⟨by rw [show k = m by omega], GG⟩
                case rest =>
                  obtain ⟨rfl, GG⟩ := hcut
                  replace X := X.on GG
                  replace R := R.gr GG
                  clear GG
                  generalize wlS n c.tol xs (tgt c) m = M at *
                  obtain ⟨N, hN⟩ : ∃ N, s.to c M = N := ⟨_, rfl⟩
                  have N0 := s.to_in hc.rts M
                  rw [hN] at N0
                  have N1 := N0.2
                  replace N0 := N0.1
                  have okn := ok.next hc M
                  have hnx := X.nextOk hc ok (some ⟨g, 0, none⟩) m 2 xs R M (by rw [hn]; exact hmost) N hN
                  have hcn : (s.next c M).n = N := hN
                  clear X R hmost ok ok0 ok1 hn hN
                  generalize s.next c M = s' at *
                  as_aux_lemma =>
                    go_wp2_with fail
                    refine hnx.mono ?_
                    rintro e w9 ⟨rfl, F', X⟩
                    clear hnx
                    have hcg := (A.on X.G).cell
                    go_wp2_with fail
                    refine (X.count N hcn).mono ?_
                    rintro e w10 ⟨rfl, rfl⟩
                    clear hcg
                    go_wp2
                    rw [← hm]
                    go_roundw
                    case rel => exact ⟨kk + 1, F', s', by omega, by omega, by first | rfl | go_num, X, okn⟩
                    case measure => simp [intOf]; omega
            · go_wp2
              go_meet
              case rel => exact A.gr.trans X.G
          · go_wp2
            go_meet
            case rel => exact A.gr.trans X.G
      case rest =>
        clear X
        go_wp2_with fail
        refine (told16_any _).mono ?_
        rintro e w8 ⟨rfl, hg⟩
        have GG := hcut.trans hg
        clear hg hcut
        go_wp2
        go_ret
        exact ⟨rfl, GG⟩
theorem lawBounds_walk (A0 : Option Addr) (n0 cap0 : Nat) (z0 : List Int) (a1 : Int) (A2 : Option Addr) (n2 cap2 : Nat) (z2 : List Int) (W : World) (h0 : RI W A0 n0 z0) (_ : ∀ x ∈ z0, (Lit.int .i64 x).wf = true) (_ : (Lit.int .i64 a1).wf = true) (h2 : RI W A2 n2 z2) (_ : ∀ x ∈ z2, (Lit.int .i64 x).wf = true) :
    Calls Try.prog 20 #[.slice A0 n0 cap0, .int .i64 a1, .slice A2 n2 cap2] W fun e w' => e = .returned (.bool true) ∧ Below W.heap.size W w' := (lawBounds_any A0 n0 cap0 z0 a1 A2 n2 cap2 z2 W h0 h2).mono fun _ _ h => ⟨h.1, h.2.out⟩
end Go.Proofs.Ytjobicffdcnnlaa
