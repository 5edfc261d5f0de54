import Derived.Test.YtjobicffdcnnlaaT8
/- PolicyPlays: the law's walk (begun). -/
namespace Go.Proofs.Ytjobicffdcnnlaa
open Go.RowKit
set_option linter.unusedSimpArgs false
set_option linter.unusedVariables false
set_option maxRecDepth 100000

set_option maxHeartbeats 4000000 in
theorem policyPlays_any (A0 : Option Addr) (n0 cap0 : Nat) (z0 : List Int) (a1 : Int) (A2 : Option Addr) (n2 cap2 : Nat) (z2 : List Int) (a3 : Int) (A4 : Option Addr) (n4 cap4 : Nat) (z4 : List Int) (w : World) (h0 : RI w A0 n0 z0) (h2 : RI w A2 n2 z2) (h4 : RI w A4 n4 z4) :
    Calls Try.prog 15 #[.slice A0 n0 cap0, .int .i64 a1, .slice A2 n2 cap2, .int .i64 a3, .slice A4 n4 cap4] w fun e w' => e = .returned (.bool true) ∧ Gr w w' := by
  have hf := fit_new A0 n0 cap0 z0 w h0
  have HF := Lib.hid hf
  have b2 := h2.2.1
  have b4 := h4.2.1
  have H2 := Lib.hid h2
  have H4 := Lib.hid h4
  clear hf h0 h2 h4
  have u1 := u64_nonneg a1
  go_enter Try.func15, Try.ntmps15
  go_upto_region 1 with (fail)
  refine wp_region_lit ?_
  refine wpList_val (.slice A0 n0 cap0) w rfl (by kernel_rfl) ?_
  refine wpList_new 44 #[.slice A0 n0 cap0] rfl (by kernel_rfl) HF.out fun v w1 hv => ?_
  obtain ⟨c, hc, rfl, hg⟩ := hv
  refine wpList_val (.pointer (some ⟨w1.heap.size, 0, none⟩)) (w1.alloc (.cells zero36 36)) rfl (xalloc36 ..) ?_
  refine wpList_skip' (w1.alloc (.cells #[.int .i64 c.n, .int .i64 c.f, .int .i64 c.m, .int .i64 c.q, .int .i64 c.fresh, .int .i64 c.grace, .int .i64 c.window, .int .i64 c.t0, .int .i64 c.t1, .int .i64 c.t2, .int .i64 c.t3, .int .i64 c.tol, .int .i64 c.lo, .int .i64 c.hi, .int .i64 c.cup, .int .i64 c.cdn, .int .i64 c.pup, .int .i64 c.tup, .int .i64 c.pdn, .int .i64 c.tdn, .int .i64 c.per, .int .i64 c.far, .int .i64 c.str, .int .i64 c.pro, .int .i64 c.sec, .int .u64 c.seed] 36)) rfl (xstore36_at rfl (by kernel_rfl) (by kernel_rfl) rfl rfl (by kernel_rfl)) ?_
  have A := start_at hg c
  have hbs : w1.heap.size < (w1.alloc (.cells #[.int .i64 c.n, .int .i64 c.f, .int .i64 c.m, .int .i64 c.q, .int .i64 c.fresh, .int .i64 c.grace, .int .i64 c.window, .int .i64 c.t0, .int .i64 c.t1, .int .i64 c.t2, .int .i64 c.t3, .int .i64 c.tol, .int .i64 c.lo, .int .i64 c.hi, .int .i64 c.cup, .int .i64 c.cdn, .int .i64 c.pup, .int .i64 c.tup, .int .i64 c.pdn, .int .i64 c.tdn, .int .i64 c.per, .int .i64 c.far, .int .i64 c.str, .int .i64 c.pro, .int .i64 c.sec, .int .u64 c.seed] 36)).heap.size := by simp
  generalize w1.alloc (.cells #[.int .i64 c.n, .int .i64 c.f, .int .i64 c.m, .int .i64 c.q, .int .i64 c.fresh, .int .i64 c.grace, .int .i64 c.window, .int .i64 c.t0, .int .i64 c.t1, .int .i64 c.t2, .int .i64 c.t3, .int .i64 c.tol, .int .i64 c.lo, .int .i64 c.hi, .int .i64 c.cup, .int .i64 c.cdn, .int .i64 c.pup, .int .i64 c.tup, .int .i64 c.pdn, .int .i64 c.tdn, .int .i64 c.per, .int .i64 c.far, .int .i64 c.str, .int .i64 c.pro, .int .i64 c.sec, .int .u64 c.seed] 36) = w2 at *
  generalize w1.heap.size = b at *
  have hr := hc.rates
  have l0 := hc.lo0
  have l1 := hc.lo1
  have l2 := hc.hi0
  have l3 := hc.hi1
  clear hg HF
  as_aux_lemma =>
    obtain ⟨x, hx, x0, x1⟩ := u64_mod a1 (c.hi - c.lo + 1) (by omega)
    obtain ⟨f, hf⟩ : ∃ f, c.lo + x = f := ⟨_, rfl⟩
    have f0 : c.lo ≤ f := by omega
    have f1 : f ≤ c.hi := by omega
    go_upto_region 2 with (fail)
    simp only [Act.put, List.setIfInBounds_toArray, List.set_cons_succ, List.set_cons_zero]
    refine wp_region_quiet_gw (by kernel_rfl) (by kernel_rfl) ?_
    have hcg := A.cellG
    repeat (go_big_quiet_step (fail))
    refine wpQuiet_nil fun s => ?_
    replace A := A.on s.gr
    have hbs2 := s.gr.size
    generalize s.val = w4 at *
    clear hcg hx u1 x0 x1 hf
    as_aux_lemma =>
      have hnb : newB c f = true := by unfold newB; simp [hr, f0, f1]
      have hks : ∀ s : Gw w4, conf36? s.val ⟨b, 0, none⟩ = some #[.int .i64 c.n, .int .i64 c.f, .int .i64 c.m, .int .i64 c.q, .int .i64 c.fresh, .int .i64 c.grace, .int .i64 c.window, .int .i64 c.t0, .int .i64 c.t1, .int .i64 c.t2, .int .i64 c.t3, .int .i64 c.tol, .int .i64 c.lo, .int .i64 c.hi, .int .i64 c.cup, .int .i64 c.cdn, .int .i64 c.pup, .int .i64 c.tup, .int .i64 c.pdn, .int .i64 c.tdn, .int .i64 c.per, .int .i64 c.far, .int .i64 c.str, .int .i64 c.pro, .int .i64 c.sec, .int .u64 c.seed] := fun s => A.confG s
      go_upto_region 3 with (fail)
      refine wp_region_grp (fun w' => ∃ s : Gw w4, w' = s.val) [([0, 1, 3, 4], [2, 5]), ([6, 7], [])] (by kernel_rfl) (by as_aux_lemma => kernel_rfl) (by as_aux_lemma => kernel_rfl) (by kernel_rfl) (fun d v c a w h => by cases d <;> exact h) (Gr.fresh w4).in_ ?_
      simp only [wpGrp, wpSeqC, List.filterMap_cons, List.filterMap_nil, List.getElem?_toArray, List.getElem?_cons_succ, List.getElem?_cons_zero]
      show wpQuiet _ _ _ _ [_, _, _, _] _
      repeat (go_big_quiet_step (fail))
      refine wpQuiet_nil ?_
      refine wpOp_new (R := fun v w' => ∃ p g, v = .pointer (some ⟨p, 0, none⟩) ∧ Pol w' p g 1 c [f] 0 ∧ w4.heap.size ≤ p ∧ w4.heap.size ≤ g) 40 45 #[.agg #[.int .i64 c.n, .int .i64 c.f, .int .i64 c.m, .int .i64 c.q, .int .i64 c.fresh, .int .i64 c.grace, .int .i64 c.window, .int .i64 c.t0, .int .i64 c.t1, .int .i64 c.t2, .int .i64 c.t3, .int .i64 c.tol, .int .i64 c.lo, .int .i64 c.hi, .int .i64 c.cup, .int .i64 c.cdn, .int .i64 c.pup, .int .i64 c.tup, .int .i64 c.pdn, .int .i64 c.tdn, .int .i64 c.per, .int .i64 c.far, .int .i64 c.str, .int .i64 c.pro, .int .i64 c.sec, .int .u64 c.seed], .int .i64 f] rfl rfl rfl (by kernel_rfl) (Gr.fresh w4) ((new_ok c f hnb _).mono fun e w' ⟨p, g, r1, r2, r3, r4, r5⟩ => ⟨_, r1, ⟨p, g, rfl, r2, r3, r4⟩, r5⟩) fun v5 w5 hv5 G5 _ => ?_
      obtain ⟨p, g, rfl, HP, hp, hg5⟩ := hv5
      refine wpOp_new (R := fun v w' => ∃ q h, v = .pointer (some ⟨q, 0, none⟩) ∧ Rol w' q h 1 c [f] ∧ w5.heap.size ≤ q ∧ w5.heap.size ≤ h) 43 52 #[.agg #[.int .i64 c.n, .int .i64 c.f, .int .i64 c.m, .int .i64 c.q, .int .i64 c.fresh, .int .i64 c.grace, .int .i64 c.window, .int .i64 c.t0, .int .i64 c.t1, .int .i64 c.t2, .int .i64 c.t3, .int .i64 c.tol, .int .i64 c.lo, .int .i64 c.hi, .int .i64 c.cup, .int .i64 c.cdn, .int .i64 c.pup, .int .i64 c.tup, .int .i64 c.pdn, .int .i64 c.tdn, .int .i64 c.per, .int .i64 c.far, .int .i64 c.str, .int .i64 c.pro, .int .i64 c.sec, .int .u64 c.seed], .int .i64 f] rfl rfl rfl (by kernel_rfl) G5 ((r_new_ok c f hnb _).mono fun e w' ⟨p, g, r1, r2, r3, r4, r5⟩ => ⟨_, r1, ⟨p, g, rfl, r2, r3, r4⟩, r5⟩) fun v6 w6 hv6 G6 G56 => ?_
      obtain ⟨q, h, rfl, HQ, hq, hg6⟩ := hv6
      have hw4 := A.gr.size
      have hp5 := HP.lt
      have hg55 := HP.glt
      have X : PX w w6 c p g 1 [f] 0 q h 0 1 [f] := ⟨HP.on G56, RX.of HQ, A.gr.trans G6, by omega, by omega, by omega, by omega, by omega, by omega, by omega, by omega⟩
      replace A := A.on G6
      clear HP HQ hks
      simp only [Act.put, List.setIfInBounds_toArray, List.set_cons_succ, List.set_cons_zero]
      show wpQuiet _ _ _ _ [_, _] _
      repeat (go_big_quiet_step (fail))
      refine wpQuiet_nil ?_
      clear hp hg5 hq hg6 hp5 hg55 hw4 G5 G6 G56 hbs hbs2 hnb
      as_aux_lemma =>
        have G := X.G
        by_cases big : 40 < n2 ∨ 8 < n4
        · rcases (show 40 < n2 ∨ (¬ 40 < n2 ∧ 8 < n4) by omega) with e1 | ⟨e1, e2⟩
          all_goals
            clear X A big
            go_wp2_with fail
            refine (told15_any _).mono ?_
            rintro e w7 ⟨rfl, hg⟩
            have GG := G.trans hg
            clear hg G
            go_wp2
            go_ret
            exact ⟨rfl, GG⟩
        · have e1 : ¬ 40 < n2 := by omega
          have e2 : ¬ 8 < n4 := by omega
          have hk := A.conf
          have hb1 := bounds_any c a3
          have hb2 := r_bounds_any c a3
          generalize loB c a3 = lo at *
          generalize hiB c a3 = hi at *
          clear G
          go_wp2_with fail
          refine (hb1 _).mono ?_
          rintro e w7 ⟨rfl, hg⟩
          replace A := A.on hg
          replace X := X.on hg
          clear hg hk
          have hk := A.conf
          go_wp2_with fail
          refine (hb2 _).mono ?_
          rintro e w8 ⟨rfl, hg⟩
          replace X := X.on hg
          clear hg hk hb1 hb2 A
          have hS1 := X.setL hc.rts _ n4 cap4 z4 (H4.out.gr X.G)
          have K1 := (Kept.one hc.rts ⟨f0, f1⟩).setU z4
          generalize hl : setU c [f] z4 = l at *
          generalize hcd : codeB (setB c z4) = cd at *
          go_wp2_with fail
          refine hS1.mono ?_
          rintro e w9 ⟨g9, cp9, k9, rfl, X9⟩
          have hS2 := X9.setR hc.rts _ n4 cap4 z4 (H4.out.gr X9.G)
          rw [hcd, hl] at hS2
          clear hcd hl hS1
          as_aux_lemma =>
            go_wp2_with fail
            refine hS2.mono ?_
            rintro e w10 ⟨h10, o10, cq10, rfl, X⟩
            clear hS2 X9
            go_upto_block 0 with (fail)
            go_cut [] (fun wc => Gr w wc)
            case first =>
              go_wp2_with fail
              go_loopw [19] (fun i wr => ∃ (kk : Nat) (g cp : Nat) (k : Int) (h o cq : Nat) (l : List Int), kk ≤ n2 ∧ i = .int .i64 kk ∧ PX w wr c p g cp l k q h o cq l ∧ Kept c l) (fun i _ => n2 - (intOf i).toNat)
              case atStart => exact ⟨0, _, _, _, _, _, _, l, by omega, rfl, X, K1⟩
              case round =>
                clear X K1
                obtain ⟨kk, g, cp, k, h, o, cq, l, hk, rfl, X, K⟩ := hrel
                by_cases q1 : kk < n2
                · as_aux_lemma =>
                  obtain ⟨ad, rfl, hcell⟩ := H2.out.at_ q1
                  replace hcell := X.G.cell_some hcell
                  generalize z2.getD kk 0 = y at hcell
                  have y0 := u64_nonneg y
                  obtain ⟨yv, hyv, yv0, yv1⟩ := u64_mod y 120 (by omega)
                  go_upto_if 106 with (fail)
                  go_cut [20] (fun s20 wc => ∃ v : Int, s20 = .int .i64 v ∧ wc = wr)
                  case first =>
                    go_wp2
                    all_goals
                      go_meet
                      case rel => exact ⟨_, rfl, rfl⟩
                  case rest =>
                    clear hyv yv0 yv1 y0 hcell
                    clear yv y
                    obtain ⟨v, rfl, rfl⟩ := hcut
                    obtain ⟨lm, hlm⟩ : ∃ x, limP c (headP l) v = x := ⟨_, rfl⟩
                    have hx := x_limit_any X.X K.pos v lm hlm
                    go_upto_region 16 with (fail)
                    go_wp2_with fail
                    refine hx.mono ?_
                    rintro e w11 ⟨rfl, hg⟩
                    replace X := X.on hg
                    clear hx hg
                    go_upto_if 116 with (fail)
                    go_cut [21] (fun s21 wc => ∃ n' : Int, s21 = .int .i64 n' ∧ wc = w11)
                    case first =>
                      go_wp2
                      all_goals
                        go_meet
                        case rel => exact ⟨_, rfl, rfl⟩
                    case rest =>
                      obtain ⟨n', rfl, rfl⟩ := hcut
                      as_aux_lemma =>
                        rename World => wz
                        have Kp := K.putU hc.rts n'
                        obtain ⟨cd, hcd⟩ : ∃ x, codeB (putB c n') = x := ⟨_, rfl⟩
                        obtain ⟨L, hL⟩ : ∃ x, putU c l n' = x := ⟨_, rfl⟩
                        rw [hL] at Kp
                        go_upto_region 19 with (fail)
                        replace X := X.on (Gr.fresh wz)
                        refine wp_region_two [([0, 1, 3, 4], [2, 5]), ([6, 7, 8, 9, 11, 12], [10, 13]), ([14, 15, 16], [])] [([17, 19, 20, 21, 22, 23, 24], [18]), ([25, 26, 27, 28, 30, 31, 32, 33], [29, 34]), ([35, 36], [])] (by kernel_rfl) (by as_aux_lemma => kernel_rfl) (by as_aux_lemma => kernel_rfl) (by as_aux_lemma => kernel_rfl) (by kernel_rfl) (fun d v c a w h => by cases d <;> exact h) ?_
                        simp only [wpGrpK, wpGrp, wpSeqC, List.filterMap_cons, List.filterMap_nil, List.getElem?_toArray, List.getElem?_cons_succ, List.getElem?_cons_zero]
                        show wpQuiet _ _ _ _ [_, _, _, _] _
                        repeat (go_big_quiet_step (fail))
                        refine wpQuiet_nil ?_
                        refine wpOp_to (R := fun v' w' => v' = .int .i64 lm ∧ ∃ k', PX w w' c p g cp l k' q h o cq l) 120 49 #[.pointer (some ⟨p, 0, none⟩), .int .i64 v] rfl rfl rfl (by kernel_rfl) ((X.limL K v lm hlm).mono fun e w' ⟨k', r1, r2⟩ => ⟨_, r1, rfl, k', r2⟩) fun v5 w5 hv5 => ⟨trivial, ?_⟩
                        obtain ⟨rfl, k5, X5⟩ := hv5
                        simp only [Act.put, List.setIfInBounds_toArray, List.set_cons_succ, List.set_cons_zero]
                        refine wpOp_to (R := fun v' w' => v' = .int .i64 lm ∧ Gr w5 w') 123 56 #[.pointer (some ⟨q, 0, none⟩), .int .i64 v] rfl rfl rfl (by kernel_rfl) ((x_limit_any X5.X K.pos v lm hlm).mono fun e w' ⟨r1, r2⟩ => ⟨_, r1, rfl, r2⟩) fun v6 w6 hv6 => ⟨trivial, ?_⟩
                        obtain ⟨rfl, g6⟩ := hv6
                        have X6 := X5.on g6
                        simp only [Act.put, List.setIfInBounds_toArray, List.set_cons_succ, List.set_cons_zero]
                        show wpQuiet _ _ _ _ [_, _, _, _, _, _] _
                        repeat (go_big_quiet_step (fail))
                        refine wpQuiet_nil ?_
                        refine wpOp_to (R := fun v' w' => v' = .int .i64 cd ∧ ∃ g' cp' k', PX w w' c p g' cp' L k' q h o cq l) 128 46 #[.pointer (some ⟨p, 0, none⟩), .int .i64 n'] rfl rfl rfl (by kernel_rfl) ((X6.putL hc.rts K n').mono fun e w' ⟨g', cp', k', r1, r2⟩ => ⟨_, r1, by rw [hcd], g', cp', k', hL ▸ r2⟩) fun v7 w7 hv7 => ⟨trivial, ?_⟩
                        obtain ⟨rfl, g7, cp7, k7, X7⟩ := hv7
                        simp only [Act.put, List.setIfInBounds_toArray, List.set_cons_succ, List.set_cons_zero]
                        refine wpOp_to (R := fun v' w' => v' = .int .i64 cd ∧ ∃ h' o' cq', PX w w' c p g7 cp7 L k7 q h' o' cq' L) 131 57 #[.pointer (some ⟨q, 0, none⟩), .int .i64 n'] rfl rfl rfl (by kernel_rfl) ((X7.putR hc.rts K n').mono fun e w' ⟨h', o', cq', r1, r2⟩ => ⟨_, r1, by rw [hcd], h', o', cq', by rw [hL] at r2; exact r2⟩) fun v8 w8 hv8 => ⟨trivial, ?_⟩
                        obtain ⟨rfl, h8, o8, cq8, X8⟩ := hv8
                        simp only [Act.put, List.setIfInBounds_toArray, List.set_cons_succ, List.set_cons_zero]
                        show wpQuiet _ _ _ _ [_, _, _] _
                        repeat (go_big_quiet_step (fail))
                        refine wpQuiet_nil ?_
                        refine ⟨fun w' => ∃ s : Gw w8, w' = s.val, (Gr.refl w8).in_, ?_⟩
                        simp only [wpGrpK, wpGrp, wpSeqC, List.filterMap_cons, List.filterMap_nil, List.getElem?_toArray, List.getElem?_cons_succ, List.getElem?_cons_zero]
                        obtain ⟨hd, hhd⟩ : ∃ x, headP L = x := ⟨_, rfl⟩
                        obtain ⟨N, hN⟩ : ∃ x, L.length = x := ⟨_, rfl⟩
                        have hpos : 0 < N := by have := Kp.pos; omega
                        have hN1 : N ≤ 1000 := by have := Kp.len; have := hc.per1; omega
                        have hrx : ∀ s : Gw w8, ∀ off, s.val.cell? ⟨q, off, none⟩ = rolAt c (.slice (some ⟨h8, o8, none⟩) N cq8) off := fun s => hN ▸ (X8.X.on s.gr).cell
                        have hrow : ∀ s : Gw w8, s.val.cell? ⟨h8, o8, none⟩ = some (.int .i64 hd) := fun s => by
                          have := (X8.X.on s.gr).row 0 (by omega)
                          rw [Nat.add_zero] at this
                          rw [this, ← hhd, headP_getD]
                        show wpQuiet _ _ _ _ [_, _, _, _, _, _, _] _
                        repeat (go_big_quiet_step (fail))
                        refine wpQuiet_nil ?_
                        refine wpOp_gr 136 50 #[.pointer (some ⟨p, 0, none⟩)] (.int .i64 hd) rfl rfl rfl (by kernel_rfl) (Gr.refl w8) ((base_v X8.P Kp.pos hd hhd).mono fun _ _ ⟨r1, r2⟩ => ⟨r1, r2 ▸ Gr.refl _⟩) fun w9 G9 _ => ?_
                        simp only [Act.put, List.setIfInBounds_toArray, List.set_cons_succ, List.set_cons_zero]
                        show wpQuiet _ _ _ _ [_, _, _, _, _, _, _, _] _
                        repeat (go_big_quiet_step (fail))
                        refine wpQuiet_nil ?_
                        refine wpOp_new (R := fun v' w' => ∃ g' c', v' = .slice (some ⟨g', 0, none⟩) N c' ∧ RI w' (some ⟨g', 0, none⟩) N L) 147 48 #[.pointer (some ⟨p, 0, none⟩)] rfl rfl rfl (by kernel_rfl) G9 ((all_any (X8.P.on G9) Kp.pos (by omega)).mono fun _ _ ⟨g', c', r1, r2, _, r4⟩ => ⟨_, r1, ⟨g', c', by rw [hN], by rw [← hN]; exact own_RI r2 rfl (by omega)⟩, r4⟩) fun v10 w10 hv10 G10 _ => ?_
                        obtain ⟨g10, c10, rfl, hR10⟩ := hv10
                        simp only [Act.put, List.setIfInBounds_toArray, List.set_cons_succ, List.set_cons_zero]
                        refine wpOp_gr 152 58 #[.slice (some ⟨g10, 0, none⟩) N c10, .slice (some ⟨h8, o8, none⟩) N cq8] (.bool true) rfl rfl rfl (by kernel_rfl) G10 (sameInts_any _ _ N N c10 cq8 L L w10 hR10 ⟨hN, by omega, fun _ => ⟨_, rfl, fun j hj => by rw [Addr.add_lit]; exact (X8.X.on G10).row j (by omega)⟩⟩ rfl) fun w11 G11 _ => ?_
                        simp only [Act.put, List.setIfInBounds_toArray, List.set_cons_succ, List.set_cons_zero]
                        show wpQuiet _ _ _ _ [_, _] _
                        repeat (go_big_quiet_step (fail))
                        refine wpQuiet_nil ?_
                        have XF := X8.on G11
                        clear hrx hrow X X5 X6 X7 X8 hR10
                        go_wp2
                        go_roundw
                        case rel => exact ⟨kk + 1, _, _, _, _, _, _, L, by omega, by first | rfl | go_num, XF, Kp⟩
                        case measure => simp [intOf]; omega
                · go_wp2
                  go_meet
                  case rel => exact X.G
            case rest =>
              clear X
              go_wp2_with fail
              refine (told15_any _).mono ?_
              rintro e w12 ⟨rfl, hg⟩
              have GG := hcut.trans hg
              clear hg hcut
              go_wp2
              go_ret
              exact ⟨rfl, GG⟩
end Go.Proofs.Ytjobicffdcnnlaa
