import Derived.Test.YtjobicffdcnnlaaDC6
/- LawPlays. -/
namespace Go.Proofs.Ytjobicffdcnnlaa
open Go.RowKit
set_option linter.unusedSimpArgs false
set_option linter.unusedVariables false
set_option maxRecDepth 100000

set_option maxHeartbeats 4000000 in
theorem lawPlays_any (A0 : Option Addr) (n0 cap0 : Nat) (z0 : List Int) (a1 : Int) (A2 : Option Addr) (n2 cap2 : Nat) (z2 : List Int) (A3 : Option Addr) (n3 cap3 : Nat) (z3 : List Bool) (w : World) (h0 : RI w A0 n0 z0) (h2 : RI w A2 n2 z2) (h3 : RB w A3 n3 z3) :
    Calls Try.prog 24 #[.slice A0 n0 cap0, .int .i64 a1, .slice A2 n2 cap2, .slice A3 n3 cap3] w fun e w' => e = .returned (.bool true) ∧ Gr w w' := by
  have hf := fit_new A0 n0 cap0 z0 w h0
  have HF := Lib.hid hf
  have b2 := h2.2.1
  have b3 := h3.2.1
  have H2 := Lib.hid h2
  have H3 := Lib.hid h3
  clear hf h0 h2 h3
  have u1 := u64_nonneg a1
  go_enter Try.func24, Try.ntmps24
  go_upto_region 1 with (fail)
  refine wp_region_lit ?_
  refine wpList_val (.slice A0 n0 cap0) w rfl (by kernel_rfl) ?_
  refine wpList_new 44 #[.slice A0 n0 cap0] rfl (by kernel_rfl) HF.out fun v w1 hv => ?_
  obtain ⟨c, hc, rfl, hg⟩ := hv
  refine wpList_val (.pointer (some ⟨w1.heap.size, 0, none⟩)) (w1.alloc (.cells zero36 36)) rfl (xalloc36 ..) ?_
  refine wpList_skip' (w1.alloc (.cells #[.int .i64 c.n, .int .i64 c.f, .int .i64 c.m, .int .i64 c.q, .int .i64 c.fresh, .int .i64 c.grace, .int .i64 c.window, .int .i64 c.t0, .int .i64 c.t1, .int .i64 c.t2, .int .i64 c.t3, .int .i64 c.tol, .int .i64 c.lo, .int .i64 c.hi, .int .i64 c.cup, .int .i64 c.cdn, .int .i64 c.pup, .int .i64 c.tup, .int .i64 c.pdn, .int .i64 c.tdn, .int .i64 c.per, .int .i64 c.far, .int .i64 c.str, .int .i64 c.pro, .int .i64 c.sec, .int .u64 c.seed] 36)) rfl (xstore36_at rfl (by kernel_rfl) (by kernel_rfl) rfl rfl (by kernel_rfl)) ?_
  have A := start_at hg c
  generalize w1.alloc (.cells #[.int .i64 c.n, .int .i64 c.f, .int .i64 c.m, .int .i64 c.q, .int .i64 c.fresh, .int .i64 c.grace, .int .i64 c.window, .int .i64 c.t0, .int .i64 c.t1, .int .i64 c.t2, .int .i64 c.t3, .int .i64 c.tol, .int .i64 c.lo, .int .i64 c.hi, .int .i64 c.cup, .int .i64 c.cdn, .int .i64 c.pup, .int .i64 c.tup, .int .i64 c.pdn, .int .i64 c.tdn, .int .i64 c.per, .int .i64 c.far, .int .i64 c.str, .int .i64 c.pro, .int .i64 c.sec, .int .u64 c.seed] 36) = w2 at *
  generalize w1.heap.size = b at *
  have l0 := hc.lo0
  have l2 := hc.hi0
  have l3 := hc.hi1
  clear hg HF
  as_aux_lemma =>
    obtain ⟨x, hx, x0, x1⟩ := u64_mod a1 (c.hi - c.lo + 1) (by omega)
    obtain ⟨f, hf⟩ : ∃ f, c.lo + x = f := ⟨_, rfl⟩
    have f0 : c.lo ≤ f := by omega
    have f1 : f ≤ c.hi := by omega
    go_upto_region 2 with (fail)
    simp only [Act.put, List.setIfInBounds_toArray, List.set_cons_succ, List.set_cons_zero]
    refine wp_region_quiet_gw (by kernel_rfl) (by kernel_rfl) ?_
    have hcg := A.cellG
    repeat (go_big_quiet_step (fail))
    refine wpQuiet_nil fun s => ?_
    replace A := A.on s.gr
    generalize s.val = w4 at *
    clear hcg hx u1 x0 x1 hf
    as_aux_lemma =>
      have hks : ∀ s : Gw w4, conf36? s.val ⟨b, 0, none⟩ = some #[.int .i64 c.n, .int .i64 c.f, .int .i64 c.m, .int .i64 c.q, .int .i64 c.fresh, .int .i64 c.grace, .int .i64 c.window, .int .i64 c.t0, .int .i64 c.t1, .int .i64 c.t2, .int .i64 c.t3, .int .i64 c.tol, .int .i64 c.lo, .int .i64 c.hi, .int .i64 c.cup, .int .i64 c.cdn, .int .i64 c.pup, .int .i64 c.tup, .int .i64 c.pdn, .int .i64 c.tdn, .int .i64 c.per, .int .i64 c.far, .int .i64 c.str, .int .i64 c.pro, .int .i64 c.sec, .int .u64 c.seed] := fun s => A.confG s
      go_upto_region 3 with (fail)
      refine wp_region_grp (fun w' => ∃ s : Gw w4, w' = s.val) [([0, 1, 3, 4], [2, 5]), ([6, 7], [])] (by kernel_rfl) (by as_aux_lemma => kernel_rfl) (by as_aux_lemma => kernel_rfl) (by kernel_rfl) (fun d v c a w h => by cases d <;> exact h) (Gr.fresh w4).in_ ?_
      simp only [wpGrp, wpSeqC, List.filterMap_cons, List.filterMap_nil, List.getElem?_toArray, List.getElem?_cons_succ, List.getElem?_cons_zero]
      show wpQuiet _ _ _ _ [_, _, _, _] _
      repeat (go_big_quiet_step (fail))
      refine wpQuiet_nil ?_
      refine wpOp_new (R := fun v w' => ∃ bl F, v = .pointer (some ⟨bl, 0, none⟩) ∧ Lw w' F bl c (Ls.one f) ∧ ∀ x ∈ F, w4.heap.size ≤ x) 40 59 #[.agg #[.int .i64 c.n, .int .i64 c.f, .int .i64 c.m, .int .i64 c.q, .int .i64 c.fresh, .int .i64 c.grace, .int .i64 c.window, .int .i64 c.t0, .int .i64 c.t1, .int .i64 c.t2, .int .i64 c.t3, .int .i64 c.tol, .int .i64 c.lo, .int .i64 c.hi, .int .i64 c.cup, .int .i64 c.cdn, .int .i64 c.pup, .int .i64 c.tup, .int .i64 c.pdn, .int .i64 c.tdn, .int .i64 c.per, .int .i64 c.far, .int .i64 c.str, .int .i64 c.pro, .int .i64 c.sec, .int .u64 c.seed], .int .i64 f] rfl rfl rfl (by kernel_rfl) (Gr.fresh w4) ((law_new_ok c hc f f0 f1 _).mono fun e w' ⟨bl, F, r1, r2, r3, r4⟩ => ⟨_, r1, ⟨bl, F, rfl, r2, r3⟩, r4⟩) fun v5 w5 hv5 G5 _ => ?_
      obtain ⟨bl, F, rfl, HL, hF⟩ := hv5
      simp only [Act.put, List.setIfInBounds_toArray, List.set_cons_succ, List.set_cons_zero]
      refine wpOp_new (R := fun v w' => ∃ dl H, v = .pointer (some ⟨dl, 0, none⟩) ∧ Dw w' H dl c (Ls.one f) ∧ ∀ x ∈ H, w5.heap.size ≤ x) 43 64 #[.agg #[.int .i64 c.n, .int .i64 c.f, .int .i64 c.m, .int .i64 c.q, .int .i64 c.fresh, .int .i64 c.grace, .int .i64 c.window, .int .i64 c.t0, .int .i64 c.t1, .int .i64 c.t2, .int .i64 c.t3, .int .i64 c.tol, .int .i64 c.lo, .int .i64 c.hi, .int .i64 c.cup, .int .i64 c.cdn, .int .i64 c.pup, .int .i64 c.tup, .int .i64 c.pdn, .int .i64 c.tdn, .int .i64 c.per, .int .i64 c.far, .int .i64 c.str, .int .i64 c.pro, .int .i64 c.sec, .int .u64 c.seed], .int .i64 f] rfl rfl rfl (by kernel_rfl) G5 ((daw_new_ok c hc f f0 f1 _).mono fun e w' ⟨bl, F, r1, r2, r3, r4⟩ => ⟨_, r1, ⟨bl, F, rfl, r2, r3⟩, r4⟩) fun v6 w6 hv6 G6 G56 => ?_
      obtain ⟨dl, H, rfl, HM, hH⟩ := hv6
      have X : LD w4 w6 c F bl (Ls.one f) H dl (Ls.one f) := ⟨HL.on G56, HM, G6, hF, fun y hy => Nat.le_trans G5.size (hH y hy), fun y hy k => by have := HL.lt y hy; have := hH y k; omega⟩
      have ok := Ls.Ok.one hc (n := f) ⟨f0, f1⟩
      simp only [Act.put, List.setIfInBounds_toArray, List.set_cons_succ, List.set_cons_zero]
      show wpQuiet _ _ _ _ [_, _] _
      repeat (go_big_quiet_step (fail))
      refine wpQuiet_nil ?_
      generalize Ls.one f = s at *
      obtain ⟨m, hm⟩ : ∃ m : Nat, c.m = (m : Int) := ⟨c.m.toNat, by have := hc.m0; omega⟩
      have m0 := hc.m0
      have m1 := hc.m1
      rw [hm] at m0 m1
      rw [hm]
      clear HL HM hF hH hks G5 G6 G56 f0 f1
      as_aux_lemma =>
        by_cases big : 80 < n2
        · have GG := A.gr.trans X.G
          clear X A ok
          go_wp2_with fail
          refine (told16_any _).mono ?_
          rintro e w7 ⟨rfl, hg⟩
          replace GG := GG.trans hg
          clear hg
          go_wp2
          go_ret
          exact ⟨rfl, GG⟩
        · go_upto_block 0 with (fail)
          go_cut [] (fun wc => Gr w wc)
          case first =>
            go_wp2_with fail
            go_loopw [13] (fun i wr => ∃ (kk : Nat) (F H : List Nat) (s : Ls), kk ≤ n2 ∧ i = .int .i64 kk ∧ LD w4 wr c F bl s H dl s ∧ s.Ok c) (fun i _ => n2 - (intOf i).toNat)
            case atStart => exact ⟨0, F, H, s, by omega, rfl, X, ok⟩
            case round =>
              clear X ok F H s
              obtain ⟨kk, F, H, s, hk1, rfl, X, ok⟩ := hrel
              by_cases q1 : kk < n2
              · as_aux_lemma =>
                obtain ⟨ad, rfl, hcell⟩ := H2.out.at_ q1
                replace hcell := (A.gr.trans X.G).cell_some hcell
                generalize z2.getD kk 0 = y at hcell
                obtain ⟨j, hj⟩ : ∃ j, (kk + 1) % n2 = j := ⟨_, rfl⟩
                have hjn : j < n2 := by rw [← hj]; exact Nat.mod_lt _ (by omega)
                have hjz : ((kk : Int) + 1) % (n2 : Int) = (j : Int) := by rw [← hj]; simp
                obtain ⟨ad', e', hcell2⟩ := H2.out.at_ hjn
                cases e'
                replace hcell2 := (A.gr.trans X.G).cell_some hcell2
                generalize z2.getD j 0 = y2 at hcell2
                go_upto_region 9 with (fail)
                have A' := A.on X.G
                have hcg := A'.cellG
                have hcl : ∀ s : Gw wr, s.val.cell? (ad.add kk) = some (.int .i64 y) := fun s => s.gr.cell_some hcell
                have hcl2 : ∀ s : Gw wr, s.val.cell? (ad.add j) = some (.int .i64 y2) := fun s => s.gr.cell_some hcell2
                refine wp_region_grp (fun w' => ∃ s : Gw wr, w' = s.val) [([0, 1, 2, 3, 4, 5, 6, 7, 8, 9, 10, 11, 13, 14], [12]), ([15, 16], [])] (by kernel_rfl) (by as_aux_lemma => kernel_rfl) (by as_aux_lemma => kernel_rfl) (by kernel_rfl) (fun d v c a w h => by cases d <;> exact h) (Gr.fresh wr).in_ ?_
                simp only [wpGrp, wpSeqC, List.filterMap_cons, List.filterMap_nil, List.getElem?_toArray, List.getElem?_cons_succ, List.getElem?_cons_zero]
                show wpQuiet _ _ _ _ [_, _, _, _, _, _, _, _, _, _, _, _, _, _] _
                repeat (go_big_quiet_step (fail))
                refine wpQuiet_nil ?_
                have gf := Gr.fresh wr
                generalize hw6 : ({ wr with drawn := wr.drawn + 1 } : World) = w6 at *
                refine wpOp_made 78 (.slice (some ⟨w6.heap.size, 0, none⟩) 2 2) (w6.alloc (.cells #[.int .i64 y, .int .i64 y2] 2)) rfl rfl rfl (by kernel_rfl) (gf.alloc _) ?_
                simp only [Act.put, List.setIfInBounds_toArray, List.set_cons_succ, List.set_cons_zero]
                show wpQuiet _ _ _ _ [_, _] _
                repeat (go_big_quiet_step (fail))
                refine wpQuiet_nil ?_
                clear hcg hcl hcl2 hcell hcell2 A' hjz hjn hj
                replace X := X.on gf
                obtain ⟨g, hg⟩ : ∃ g, w6.heap.size = g := ⟨_, rfl⟩
                have box : (w6.alloc (.cells #[.int .i64 y, .int .i64 y2] 2)).heap[g]? = some (.cells #[.int .i64 y, .int .i64 y2] 2) := heap_new hg.symm
                have G67 : Gr w6 (w6.alloc (.cells #[.int .i64 y, .int .i64 y2] 2)) := (Gr.refl w6).alloc _
                rw [hg]
                clear hw6 gf
                generalize w6.alloc _ = w7 at *
                as_aux_lemma =>
                  go_upto_if 84 with (fail)
                  go_cut [] (fun wc => ∃ y y2 : Int, wc.heap[g]? = some (.cells #[.int .i64 y, .int .i64 y2] 2) ∧ Gr w6 wc)
                  case first =>
                    by_cases h3 : 0 < (kk : Int) % 3
                    · go_wp2_with fail
                      go_loopw [15] (fun i wr => ∃ (k : Nat) (y y2 : Int), k ≤ m ∧ i = .int .i64 k ∧ wr.heap[g]? = some (.cells #[.int .i64 y, .int .i64 y2] 2) ∧ Gr w6 wr) (fun i _ => m - (intOf i).toNat)
                      case atStart => exact ⟨0, y, y2, by omega, rfl, box, G67⟩
                      case round =>
                        clear box G67 h3
                        obtain ⟨k, y, y2, hk, rfl, bx, GG⟩ := hrel
                        by_cases q : k < m
                        · rcases (show k = 0 ∨ k = 1 by omega) with rfl | rfl
                          · have hcx : wr.cell? ⟨g, 0, none⟩ = some (.int .i64 y) := cell_in bx rfl
                            have hzx : wr.frozen? ⟨g, 0, none⟩ = false := frozen_in bx
                            have v0 := u64_nonneg y
                            obtain ⟨v, hv, v1, v2⟩ := u64_mod y 4000 (by omega)
                            have bn : (wr.setCell ⟨g, 0, none⟩ (.int .i64 v)).heap[g]? = some (.cells #[.int .i64 v, .int .i64 y2] 2) := set_block bx
                            have GN : Gr w6 (wr.setCell ⟨g, 0, none⟩ (.int .i64 v)) := ⟨GG.out.setCell (show w6.heap.size ≤ g by omega) _⟩
                            clear bx GG
                            go_wp2
                            go_roundw
                            case rel => exact ⟨1, _, _, by omega, by first | rfl | go_num, bn, GN⟩
                            case measure => simp [intOf]; omega
                          · have hcx : wr.cell? ⟨g, 1, none⟩ = some (.int .i64 y2) := cell_in bx rfl
                            have hzx : wr.frozen? ⟨g, 1, none⟩ = false := frozen_in bx
                            have v0 := u64_nonneg y2
                            obtain ⟨v, hv, v1, v2⟩ := u64_mod y2 4000 (by omega)
                            have bn : (wr.setCell ⟨g, 1, none⟩ (.int .i64 v)).heap[g]? = some (.cells #[.int .i64 y, .int .i64 v] 2) := set_block bx
                            have GN : Gr w6 (wr.setCell ⟨g, 1, none⟩ (.int .i64 v)) := ⟨GG.out.setCell (show w6.heap.size ≤ g by omega) _⟩
                            clear bx GG
                            go_wp2
                            go_roundw
                            case rel => exact ⟨2, _, _, by omega, by first | rfl | go_num, bn, GN⟩
                            case measure => simp [intOf]; omega
                        · go_wp2
                          go_meet
                          case rel => exact ⟨y, y2, bx, GG⟩
                    · go_wp2
                      go_meet
                      case rel => exact ⟨y, y2, box, G67⟩
                  case rest =>
                    clear box G67
                    obtain ⟨y, y2, box, G67⟩ := hcut
                    obtain ⟨xs, hxs⟩ : ∃ xs, [y, y2].take m = xs := ⟨_, rfl⟩
                    have R : RI wc (some ⟨g, 0, none⟩) m xs := by
                      refine ⟨by rw [← hxs]; simp; omega, by omega, fun _ => ⟨_, rfl, fun j hj => ?_⟩⟩
                      rw [Addr.add_lit, Nat.zero_add, ← hxs]
                      have e : ([y, y2].take m).getD j 0 = [y, y2].getD j 0 := by simp [List.getD_eq_getElem?_getD, hj]
                      rw [e]
                      rcases (show j = 0 ∨ j = 1 by omega) with rfl | rfl <;> exact cell_in box rfl
                    have hgX : g ∉ F := fun e => by have := X.L.lt g e; omega
                    replace X := X.on G67
                    clear box G67 hxs
                    skip
                    as_aux_lemma =>
                      obtain ⟨HV, hHV⟩ : ∃ x, (decide (kk < n3) && z3.getD kk false) = x := ⟨_, rfl⟩
                      go_upto_region 15 with (fail)
                      go_cut [110] (fun s110 wx => s110 = .bool HV ∧ wc = wx)
                      case first =>
                        by_cases q3 : kk < n3
                        · obtain ⟨ad3, rfl, hcell3⟩ := H3.out.at_ q3
                          replace hcell3 := (A.gr.trans X.G).cell_some hcell3
                          rw [show z3.getD kk false = HV by rw [← hHV]; simp [q3]] at hcell3
                          clear X R
                          go_wp2
                          go_meet
                          case rel => exact ⟨rfl, rfl⟩
                        · have : HV = false := by rw [← hHV]; simp [q3]
                          subst this
                          clear X R
                          go_wp2
                          go_meet
                          case rel => exact ⟨rfl, rfl⟩
                      case rest =>
                        obtain ⟨rfl, rfl⟩ := hcut
                        clear hHV
                        go_upto_if 110 with (fail)
                        go_cut [] (fun wx => ∃ (F H : List Nat) (s : Ls), LD w4 wx c F bl s H dl s ∧ s.Ok c)
                        case first =>
                          obtain ⟨n, hn⟩ : ∃ n, s.n = n := ⟨_, rfl⟩
                          cases HV with
                          | true =>
                            have okh := ok.hold hc
                            have hA : Calls Try.prog 63 #[.pointer (some ⟨bl, 0, none⟩)] wc fun r w' => r = .returned (.int .i64 n) ∧ ∃ F', LD w4 w' c F' bl (s.hold c) H dl s := hn ▸ (X.L.hold hc ok).mono fun r w' ⟨F', r1, r2, r3, r4⟩ => ⟨r1, F', X.left r2 r3 r4⟩
                            have hB : ∀ w' F', LD w4 w' c F' bl (s.hold c) H dl s → Calls Try.prog 65 #[.pointer (some ⟨dl, 0, none⟩)] w' fun r w'' => r = .returned (.int .i64 n) ∧ ∃ H', LD w4 w'' c F' bl (s.hold c) H' dl (s.hold c) := fun w' F' Y =>
                              (Y.D.hold hc ok n hn).mono fun r w'' ⟨r1, H', r2, r3, r4⟩ => ⟨r1, H', Y.right r2 r3 r4⟩
                            clear X R
                            generalize s.hold c = s' at *
                            as_aux_lemma =>
                              go_wp2_with fail
                              refine hA.mono ?_
                              rintro e w9 ⟨rfl, F', X⟩
                              have hB' := hB w9 F' X
                              clear hA hB X
                              go_wp2_with fail
                              refine hB'.mono ?_
                              rintro e w10 ⟨rfl, H', X⟩
                              clear hB'
                              go_wp2
                              go_meet
                              case rel => exact ⟨F', H', s', X, okh⟩
                          | false =>
                            cases hm0 : mostV s.n c.tol xs (tgt c) with
                            | none =>
                              have hA : Calls Try.prog 61 #[.pointer (some ⟨bl, 0, none⟩), .slice (some ⟨g, 0, none⟩) m 2] wc fun r w' => r = .returned (.tuple #[.int .i64 0, .int .i64 0, .int .i64 1]) ∧ Gr wc w' := X.L.nextNo hc _ m 2 xs R hm0
                              have hB : ∀ w', Gr wc w' → Calls Try.prog 66 #[.pointer (some ⟨dl, 0, none⟩), .slice (some ⟨g, 0, none⟩) m 2] w' fun r w'' => r = .returned (.tuple #[.int .i64 0, .int .i64 0, .int .i64 1]) ∧ Gr w' w'' := fun w' r => (X.D.on r).nextNo hc _ m 2 xs (R.gr r) hm0
                              as_aux_lemma =>
                                clear hm0
                                go_wp2_with fail
                                refine hA.mono ?_
                                rintro e w9 ⟨rfl, g9⟩
                                have hB' := hB w9 g9
                                replace X := X.on g9
                                clear hA hB
                                go_wp2_with fail
                                refine hB'.mono ?_
                                rintro e w10 ⟨rfl, g10⟩
                                replace X := X.on g10
                                clear hB' R g9 g10
                                go_wp2
                                go_meet
                                case rel => exact ⟨F, H, s, X, ok⟩
                            | some M =>
                              have okn := ok.next hc M
                              obtain ⟨N, hN⟩ : ∃ N, s.to c M = N := ⟨_, rfl⟩
                              have hA : Calls Try.prog 61 #[.pointer (some ⟨bl, 0, none⟩), .slice (some ⟨g, 0, none⟩) m 2] wc fun r w' => r = .returned (.tuple #[.int .i64 N, .int .i64 M, .int .i64 0]) ∧ RI w' (some ⟨g, 0, none⟩) m xs ∧ ∃ F', LD w4 w' c F' bl (s.next c M) H dl s := hN ▸ (X.L.nextOk hc ok _ m 2 xs R M hm0).mono fun r w' ⟨F', r1, r2, r3, r4⟩ => ⟨r1, R.tw r3 (fun ad e => by cases e; exact hgX), F', X.left r2 r3 r4⟩
                              have hB : ∀ w' F', RI w' (some ⟨g, 0, none⟩) m xs → LD w4 w' c F' bl (s.next c M) H dl s → Calls Try.prog 66 #[.pointer (some ⟨dl, 0, none⟩), .slice (some ⟨g, 0, none⟩) m 2] w' fun r w'' => r = .returned (.tuple #[.int .i64 N, .int .i64 M, .int .i64 0]) ∧ ∃ H', LD w4 w'' c F' bl (s.next c M) H' dl (s.next c M) := fun w' F' R' Y =>
                                (Y.D.nextOk hc ok _ m 2 xs R' M hm0 N hN).mono fun r w'' ⟨r1, H', r2, r3, r4⟩ => ⟨r1, H', Y.right r2 r3 r4⟩
                              clear X R hm0 hN hn
                              generalize s.next c M = s' at *
                              as_aux_lemma =>
                                go_wp2_with fail
                                refine hA.mono ?_
                                rintro e w9 ⟨rfl, R9, F', X⟩
                                have hB' := hB w9 F' R9 X
                                clear hA hB X R9
                                go_wp2_with fail
                                refine hB'.mono ?_
                                rintro e w10 ⟨rfl, H', X⟩
                                clear hB'
                                go_wp2
                                go_meet
                                case rel => exact ⟨F', H', s', X, okn⟩
                        case rest =>
                          clear X R ok hgX F H s
                          obtain ⟨F, H, s, X, ok⟩ := hcut
                          rename World => wz
                          obtain ⟨q, gq, v, kq, p, gp, cap, kp, e, hF, XL⟩ := X.L
                          obtain ⟨dq, dgq, dv, dp, dgp, o, dcap, hH, XD⟩ := X.D
                          obtain ⟨n, hn⟩ : ∃ n, s.n = n := ⟨_, rfl⟩
                          obtain ⟨KA, kn, kc, rfl, hKR⟩ := XD.Q.ri (by have := ok.len; omega)
                          have hPl : s.P.length ≤ 1000 := by have := ok.P.len; have := hc.per1; omega
                          have hPp := ok.P.pos
                          have hLl := ok.len
                          rw [hn] at XL XD
                          have hXR : ∀ w', Gr wz w' → RI w' (some ⟨dgp, o, none⟩) s.P.length s.P := fun w' r => ⟨rfl, by omega, fun _ => ⟨_, rfl, fun j hj => by rw [Addr.add_lit]; exact (XD.R.on r).row j hj⟩⟩
                          obtain ⟨PN, hPN⟩ : ∃ PN, s.P.length = PN := ⟨_, rfl⟩
                          have hdb : ∀ s : Gw wz, ∀ off, s.val.cell? ⟨dl, off, none⟩ = dawAt c n dq dp off := fun s => (XD.B.on s.gr).cell
                          have hrk : ∀ s : Gw wz, ∀ off, s.val.cell? ⟨dq, off, none⟩ = rkAt c.cup c.cdn (.slice KA kn kc) off := fun s => (XD.Q.on s.gr).cell
                          have hrx : ∀ t : Gw wz, ∀ off, t.val.cell? ⟨dp, off, none⟩ = rolAt c (.slice (some ⟨dgp, o, none⟩) PN dcap) off := fun t => hPN ▸ (XD.R.on t.gr).cell
                          have hXR2 := Lib.hid hXR
                          clear hXR
                          go_upto_region 22 with (fail)
                          refine wp_region_grp (fun w' => ∃ s : Gw wz, w' = s.val) [([0, 2, 3, 4, 5], [1]), ([6, 7, 8], [9]), ([10, 11, 12, 13], [14]), ([15, 16, 17, 18, 21, 22, 23, 24, 25, 26, 27], [19, 20, 28]), ([29, 30, 31, 32, 35, 36, 37, 38, 39, 40, 41], [33, 34, 42]), ([43, 44], [])] (by kernel_rfl) (by as_aux_lemma => kernel_rfl) (by as_aux_lemma => kernel_rfl) (by kernel_rfl) (fun d v c a w h => by cases d <;> exact h) (Gr.fresh wz).in_ ?_
                          simp only [wpGrp, wpSeqC, List.filterMap_cons, List.filterMap_nil, List.getElem?_toArray, List.getElem?_cons_succ, List.getElem?_cons_zero]
                          show wpQuiet _ _ _ _ [_, _, _, _, _] _
                          repeat (go_big_quiet_step (fail))
                          refine wpQuiet_nil ?_
                          refine wpOp_gr 144 60 #[.pointer (some ⟨bl, 0, none⟩)] (.int .i64 n) rfl rfl rfl (by kernel_rfl) (Gr.fresh wz) ((count_any (XL.B.on (Gr.fresh wz))).mono fun _ _ ⟨r1, r2⟩ => ⟨r1, r2 ▸ Gr.refl _⟩) fun y1 g1 _ => ?_
                          simp only [Act.put, List.setIfInBounds_toArray, List.set_cons_succ, List.set_cons_zero]
                          show wpQuiet _ _ _ _ [_, _, _] _
                          repeat (go_big_quiet_step (fail))
                          refine wpQuiet_nil ?_
                          refine wpOp_gr 152 67 #[.pointer (some ⟨bl, 0, none⟩)] (.pointer (some ⟨q, 0, none⟩)) rfl rfl rfl (by kernel_rfl) g1 (lawCalm_any (XL.B.on g1)) fun y2 g2 _ => ?_
                          simp only [Act.put, List.setIfInBounds_toArray, List.set_cons_succ, List.set_cons_zero]
                          show wpQuiet _ _ _ _ [_, _, _, _] _
                          repeat (go_big_quiet_step (fail))
                          refine wpQuiet_nil ?_
                          refine wpOp_gr 157 68 #[.pointer (some ⟨bl, 0, none⟩)] (.pointer (some ⟨p, 0, none⟩)) rfl rfl rfl (by kernel_rfl) g2 (lawPolicy_any (XL.B.on g2)) fun y3 g3 _ => ?_
                          simp only [Act.put, List.setIfInBounds_toArray, List.set_cons_succ, List.set_cons_zero]
                          show wpQuiet _ _ _ _ [_, _, _, _, _, _, _, _, _, _, _] _
                          repeat (go_big_quiet_step (fail))
                          refine wpQuiet_nil ?_
                          refine wpOp_gr 162 67 #[.pointer (some ⟨bl, 0, none⟩)] (.pointer (some ⟨q, 0, none⟩)) rfl rfl rfl (by kernel_rfl) g3 (lawCalm_any (XL.B.on g3)) fun y4 g4 _ => ?_
                          simp only [Act.put, List.setIfInBounds_toArray, List.set_cons_succ, List.set_cons_zero]
                          refine wpOp_new (R := fun v' w' => ∃ A n c, v' = .slice A n c ∧ RI w' A n s.L) 163 69 #[.pointer (some ⟨q, 0, none⟩)] rfl rfl rfl (by kernel_rfl) g4 ((cal_all (XL.Q.on g4) (by omega)).mono fun _ _ ⟨A, n, c, r1, r2, r3⟩ => ⟨_, r1, ⟨A, n, c, rfl, r2⟩, r3⟩) fun v5 y5 hv5 g5 _ => ?_
                          obtain ⟨A5, n5, c5, rfl, R5⟩ := hv5
                          simp only [Act.put, List.setIfInBounds_toArray, List.set_cons_succ, List.set_cons_zero]
                          refine wpOp_gr 171 58 #[.slice A5 n5 c5, .slice KA kn kc] (.bool true) rfl rfl rfl (by kernel_rfl) g5 (sameInts_any _ _ _ _ _ _ _ _ y5 R5 (hKR _ g5) rfl) fun y6 g6 _ => ?_
                          simp only [Act.put, List.setIfInBounds_toArray, List.set_cons_succ, List.set_cons_zero]
                          show wpQuiet _ _ _ _ [_, _, _, _, _, _, _, _, _, _, _] _
                          repeat (go_big_quiet_step (fail))
                          refine wpQuiet_nil ?_
                          refine wpOp_gr 176 68 #[.pointer (some ⟨bl, 0, none⟩)] (.pointer (some ⟨p, 0, none⟩)) rfl rfl rfl (by kernel_rfl) g6 (lawPolicy_any (XL.B.on g6)) fun y7 g7 _ => ?_
                          simp only [Act.put, List.setIfInBounds_toArray, List.set_cons_succ, List.set_cons_zero]
                          refine wpOp_new (R := fun v' w' => ∃ g' c', v' = .slice (some ⟨g', 0, none⟩) PN c' ∧ RI w' (some ⟨g', 0, none⟩) PN s.P) 177 48 #[.pointer (some ⟨p, 0, none⟩)] rfl rfl rfl (by kernel_rfl) g7 ((all_any (XL.R.on g7) hPp hPl).mono fun _ _ ⟨g', c', r1, r2, _, r4⟩ => ⟨_, r1, ⟨g', c', by rw [hPN], by rw [← hPN]; exact own_RI r2 rfl hPl⟩, r4⟩) fun v8 y8 hv8 g8 _ => ?_
                          obtain ⟨A8, c8, rfl, R8⟩ := hv8
                          simp only [Act.put, List.setIfInBounds_toArray, List.set_cons_succ, List.set_cons_zero]
                          refine wpOp_gr 185 58 #[.slice (some ⟨A8, 0, none⟩) PN c8, .slice (some ⟨dgp, o, none⟩) PN dcap] (.bool true) rfl rfl rfl (by kernel_rfl) g8 (sameInts_any _ _ _ _ _ _ _ _ y8 R8 (hPN ▸ hXR2.out _ g8) rfl) fun y9 g9 _ => ?_
                          simp only [Act.put, List.setIfInBounds_toArray, List.set_cons_succ, List.set_cons_zero]
                          show wpQuiet _ _ _ _ [_, _] _
                          repeat (go_big_quiet_step (fail))
                          refine wpQuiet_nil ?_
                          replace X := X.on g9
                          clear hdb hrk hrx hKR hXR2 XL XD R5 R8 g1 g2 g3 g4 g5 g6 g7 g8 hPN hPl hPp hLl hn hF hH
                          go_wp2
                          go_roundw
                          case rel => exact ⟨kk + 1, F, H, s, by omega, by first | rfl | go_num, X, ok⟩
                          case measure => simp [intOf]; omega
              · go_wp2
                go_meet
                case rel => exact A.gr.trans X.G
          case rest =>
            clear X A
            go_wp2_with fail
            refine (told16_any _).mono ?_
            rintro e w8 ⟨rfl, hg⟩
            have GG := hcut.trans hg
            clear hg hcut
            go_wp2
            go_ret
            exact ⟨rfl, GG⟩
theorem lawPlays_walk (A0 : Option Addr) (n0 cap0 : Nat) (z0 : List Int) (a1 : Int) (A2 : Option Addr) (n2 cap2 : Nat) (z2 : List Int) (A3 : Option Addr) (n3 cap3 : Nat) (z3 : List Bool) (W : World) (h0 : RI W A0 n0 z0) (_ : ∀ x ∈ z0, (Lit.int .i64 x).wf = true) (_ : (Lit.int .i64 a1).wf = true) (h2 : RI W A2 n2 z2) (_ : ∀ x ∈ z2, (Lit.int .i64 x).wf = true) (h3 : RB W A3 n3 z3) :
    Calls Try.prog 24 #[.slice A0 n0 cap0, .int .i64 a1, .slice A2 n2 cap2, .slice A3 n3 cap3] W fun e w' => e = .returned (.bool true) ∧ Below W.heap.size W w' := (lawPlays_any A0 n0 cap0 z0 a1 A2 n2 cap2 z2 A3 n3 cap3 z3 W h0 h2 h3).mono fun _ _ h => ⟨h.1, h.2.out⟩
end Go.Proofs.Ytjobicffdcnnlaa
