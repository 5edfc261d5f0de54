import Derived.Test.YtjobicffdcnnlaaLW9
/- LawRises. -/
namespace Go.Proofs.Ytjobicffdcnnlaa
open Go.RowKit
set_option linter.unusedSimpArgs false
set_option linter.unusedVariables false
set_option maxRecDepth 100000

set_option maxHeartbeats 4000000 in
theorem lawRises_any (A0 : Option Addr) (n0 cap0 : Nat) (z0 : List Int) (a1 a2 : Int) (A3 : Option Addr) (n3 cap3 : Nat) (z3 : List Int) (A4 : Option Addr) (n4 cap4 : Nat) (z4 : List Int) (A5 : Option Addr) (n5 cap5 : Nat) (z5 : List Bool) (w : World) (h0 : RI w A0 n0 z0) (h3 : RI w A3 n3 z3) (h4 : RI w A4 n4 z4) (h5 : RB w A5 n5 z5) :
    Calls Try.prog 21 #[.slice A0 n0 cap0, .int .i64 a1, .int .i64 a2, .slice A3 n3 cap3, .slice A4 n4 cap4, .slice A5 n5 cap5] w fun e w' => e = .returned (.bool true) ∧ Gr w w' := by
  have hf := fit_new A0 n0 cap0 z0 w h0
  have HF := Lib.hid hf
  have b3 := h3.2.1
  have b4 := h4.2.1
  have b5 := h5.2.1
  have H3 := Lib.hid h3
  have H4 := Lib.hid h4
  have H5 := Lib.hid h5
  clear hf h0 h3 h4 h5
  have u1 := u64_nonneg a1
  have u2 := u64_nonneg a2
  go_enter Try.func21, Try.ntmps21
  go_upto_region 1 with (fail)
  refine wp_region_lit ?_
  refine wpList_val (.slice A0 n0 cap0) w rfl (by kernel_rfl) ?_
  refine wpList_new 44 #[.slice A0 n0 cap0] rfl (by kernel_rfl) HF.out fun v w1 hv => ?_
  obtain ⟨c, hc, rfl, hg⟩ := hv
  refine wpList_val (.pointer (some ⟨w1.heap.size, 0, none⟩)) (w1.alloc (.cells zero36 36)) rfl (xalloc36 ..) ?_
  refine wpList_skip' (w1.alloc (.cells #[.int .i64 c.n, .int .i64 c.f, .int .i64 c.m, .int .i64 c.q, .int .i64 c.fresh, .int .i64 c.grace, .int .i64 c.window, .int .i64 c.t0, .int .i64 c.t1, .int .i64 c.t2, .int .i64 c.t3, .int .i64 c.tol, .int .i64 c.lo, .int .i64 c.hi, .int .i64 c.cup, .int .i64 c.cdn, .int .i64 c.pup, .int .i64 c.tup, .int .i64 c.pdn, .int .i64 c.tdn, .int .i64 c.per, .int .i64 c.far, .int .i64 c.str, .int .i64 c.pro, .int .i64 c.sec, .int .u64 c.seed] 36)) rfl (xstore36_at rfl (by kernel_rfl) (by kernel_rfl) rfl rfl (by kernel_rfl)) ?_
  have A := start_at hg c
  generalize w1.alloc (.cells #[.int .i64 c.n, .int .i64 c.f, .int .i64 c.m, .int .i64 c.q, .int .i64 c.fresh, .int .i64 c.grace, .int .i64 c.window, .int .i64 c.t0, .int .i64 c.t1, .int .i64 c.t2, .int .i64 c.t3, .int .i64 c.tol, .int .i64 c.lo, .int .i64 c.hi, .int .i64 c.cup, .int .i64 c.cdn, .int .i64 c.pup, .int .i64 c.tup, .int .i64 c.pdn, .int .i64 c.tdn, .int .i64 c.per, .int .i64 c.far, .int .i64 c.str, .int .i64 c.pro, .int .i64 c.sec, .int .u64 c.seed] 36) = w2 at *
  generalize w1.heap.size = b at *
  have l0 := hc.lo0
  have l2 := hc.hi0
  have l3 := hc.hi1
  clear hg HF
  as_aux_lemma =>
    obtain ⟨x, hx, x0, x1⟩ := u64_mod a1 (c.hi - c.lo + 1) (by omega)
    obtain ⟨y, hy, y0, y1⟩ := u64_mod a2 (c.hi - c.lo + 1) (by omega)
    go_upto_region 2 with (fail)
    simp only [Act.put, List.setIfInBounds_toArray, List.set_cons_succ, List.set_cons_zero]
    refine wp_region_quiet_gw (by kernel_rfl) (by kernel_rfl) ?_
    have hcg := A.cellG
    repeat (go_big_quiet_step (fail))
    refine wpQuiet_nil fun s => ?_
    replace A := A.on s.gr
    generalize s.val = w4 at *
    clear hcg hx hy u1 u2
    as_aux_lemma =>
      go_upto_if 62 with (fail)
      go_cut [14, 15] (fun s14 s15 wc => ∃ p q : Int, s14 = .int .i64 p ∧ s15 = .int .i64 q ∧ c.lo ≤ p ∧ p ≤ q ∧ q ≤ c.hi ∧ w4 = wc)
      case first =>
        by_cases hxy : y < x
        · go_wp2
          go_meet
          case rel => exact ⟨c.lo + y, c.lo + x, rfl, rfl, by omega, by omega, by omega, rfl⟩
        · go_wp2
          go_meet
          case rel => exact ⟨c.lo + x, c.lo + y, rfl, rfl, by omega, by omega, by omega, rfl⟩
      case rest =>
        obtain ⟨p, q, rfl, rfl, p0, pq, q1, rfl⟩ := hcut
        have hks : ∀ s : Gw w4, conf36? s.val ⟨b, 0, none⟩ = some #[.int .i64 c.n, .int .i64 c.f, .int .i64 c.m, .int .i64 c.q, .int .i64 c.fresh, .int .i64 c.grace, .int .i64 c.window, .int .i64 c.t0, .int .i64 c.t1, .int .i64 c.t2, .int .i64 c.t3, .int .i64 c.tol, .int .i64 c.lo, .int .i64 c.hi, .int .i64 c.cup, .int .i64 c.cdn, .int .i64 c.pup, .int .i64 c.tup, .int .i64 c.pdn, .int .i64 c.tdn, .int .i64 c.per, .int .i64 c.far, .int .i64 c.str, .int .i64 c.pro, .int .i64 c.sec, .int .u64 c.seed] := fun s => A.confG s
        go_upto_region 5 with (fail)
        refine wp_region_grp (fun w' => ∃ s : Gw w4, w' = s.val) [([0, 1, 3, 4], [2, 5]), ([6, 7], [])] (by kernel_rfl) (by as_aux_lemma => kernel_rfl) (by as_aux_lemma => kernel_rfl) (by kernel_rfl) (fun d v c a w h => by cases d <;> exact h) (Gr.fresh w4).in_ ?_
        simp only [wpGrp, wpSeqC, List.filterMap_cons, List.filterMap_nil, List.getElem?_toArray, List.getElem?_cons_succ, List.getElem?_cons_zero]
        show wpQuiet _ _ _ _ [_, _, _, _] _
        repeat (go_big_quiet_step (fail))
        refine wpQuiet_nil ?_
        refine wpOp_new (R := fun v w' => ∃ bl F, v = .pointer (some ⟨bl, 0, none⟩) ∧ Lw w' F bl c (Ls.one p) ∧ ∀ x ∈ F, w4.heap.size ≤ x) 67 59 #[.agg #[.int .i64 c.n, .int .i64 c.f, .int .i64 c.m, .int .i64 c.q, .int .i64 c.fresh, .int .i64 c.grace, .int .i64 c.window, .int .i64 c.t0, .int .i64 c.t1, .int .i64 c.t2, .int .i64 c.t3, .int .i64 c.tol, .int .i64 c.lo, .int .i64 c.hi, .int .i64 c.cup, .int .i64 c.cdn, .int .i64 c.pup, .int .i64 c.tup, .int .i64 c.pdn, .int .i64 c.tdn, .int .i64 c.per, .int .i64 c.far, .int .i64 c.str, .int .i64 c.pro, .int .i64 c.sec, .int .u64 c.seed], .int .i64 p] rfl rfl rfl (by kernel_rfl) (Gr.fresh w4) ((law_new_ok c hc p p0 (by omega) _).mono fun e w' ⟨bl, F, r1, r2, r3, r4⟩ => ⟨_, r1, ⟨bl, F, rfl, r2, r3⟩, r4⟩) fun v5 w5 hv5 G5 _ => ?_
        obtain ⟨bl, F, rfl, HL, hF⟩ := hv5
        simp only [Act.put, List.setIfInBounds_toArray, List.set_cons_succ, List.set_cons_zero]
        refine wpOp_new (R := fun v w' => ∃ dl H, v = .pointer (some ⟨dl, 0, none⟩) ∧ Lw w' H dl c (Ls.one q) ∧ ∀ x ∈ H, w5.heap.size ≤ x) 70 59 #[.agg #[.int .i64 c.n, .int .i64 c.f, .int .i64 c.m, .int .i64 c.q, .int .i64 c.fresh, .int .i64 c.grace, .int .i64 c.window, .int .i64 c.t0, .int .i64 c.t1, .int .i64 c.t2, .int .i64 c.t3, .int .i64 c.tol, .int .i64 c.lo, .int .i64 c.hi, .int .i64 c.cup, .int .i64 c.cdn, .int .i64 c.pup, .int .i64 c.tup, .int .i64 c.pdn, .int .i64 c.tdn, .int .i64 c.per, .int .i64 c.far, .int .i64 c.str, .int .i64 c.pro, .int .i64 c.sec, .int .u64 c.seed], .int .i64 q] rfl rfl rfl (by kernel_rfl) G5 ((law_new_ok c hc q (by omega) q1 _).mono fun e w' ⟨bl, F, r1, r2, r3, r4⟩ => ⟨_, r1, ⟨bl, F, rfl, r2, r3⟩, r4⟩) fun v6 w6 hv6 G6 G56 => ?_
        obtain ⟨dl, H, rfl, HM, hH⟩ := hv6
        have X : LG2 w4 w6 c F bl (Ls.one p) H dl (Ls.one q) := ⟨HL.on G56, HM, G6, hF, fun y hy => Nat.le_trans G5.size (hH y hy), fun y hy k => by have := HL.lt y hy; have := hH y k; omega⟩
        have oks := Ls.Ok.one hc (n := p) ⟨p0, by omega⟩
        have okt := Ls.Ok.one hc (n := q) ⟨by omega, q1⟩
        have le := Ls.Le.one pq
        simp only [Act.put, List.setIfInBounds_toArray, List.set_cons_succ, List.set_cons_zero]
        show wpQuiet _ _ _ _ [_, _] _
        repeat (go_big_quiet_step (fail))
        refine wpQuiet_nil ?_
        generalize Ls.one p = s at *
        generalize Ls.one q = t at *
        obtain ⟨m, hm⟩ : ∃ m : Nat, c.m = (m : Int) := ⟨c.m.toNat, by have := hc.m0; omega⟩
        have m0 := hc.m0
        have m1 := hc.m1
        rw [hm] at m0 m1
        rw [hm]
        clear HL HM hF hH hks G5 G6 G56 p0 pq q1
        as_aux_lemma =>
          go_upto_block 0 with (fail)
          go_cut [] (fun wc => Gr w wc)
          case first =>
            go_wp2_with fail
            go_loopw [18] (fun i wr => ∃ (kk : Nat) (F H : List Nat) (s t : Ls), kk ≤ n3 ∧ kk ≤ 40 ∧ i = .int .i64 kk ∧ LG2 w4 wr c F bl s H dl t ∧ s.Ok c ∧ t.Ok c ∧ s.Le t) (fun i _ => 40 - (intOf i).toNat)
            case atStart => exact ⟨0, F, H, s, t, by omega, by omega, rfl, X, oks, okt, le⟩
            case round =>
              clear X oks okt le F H s t
              obtain ⟨kk, F, H, s, t, hk1, hk2, rfl, X, oks, okt, le⟩ := hrel
              by_cases q1 : kk < n3
              · by_cases q2 : kk < 40
                · as_aux_lemma =>
                  obtain ⟨HV, hHV⟩ : ∃ x, (decide (kk < n5) && z5.getD kk false) = x := ⟨_, rfl⟩
                  go_upto_region 11 with (fail)
                  go_cut [96] (fun s96 wc => s96 = .bool HV ∧ wr = wc)
                  case first =>
                    by_cases q3 : kk < n5
                    · obtain ⟨ad5, rfl, hcell5⟩ := H5.out.at_ q3
                      replace hcell5 := (A.gr.trans X.G).cell_some hcell5
                      rw [show z5.getD kk false = HV by rw [← hHV]; simp [q3]] at hcell5
                      clear X
                      go_wp2
                      go_meet
                      case rel => exact ⟨rfl, rfl⟩
                    · have : HV = false := by rw [← hHV]; simp [q3]
                      subst this
                      clear X
                      go_wp2
                      go_meet
                      case rel => exact ⟨rfl, rfl⟩
                  case rest =>
                    obtain ⟨rfl, rfl⟩ := hcut
                    clear hHV H5 b5
                    cases HV with
                    | true =>
                      have okh := oks.hold hc
                      have okk := okt.hold hc
                      have leh := le.hold c
                      obtain ⟨n, hn⟩ : ∃ n, s.n = n := ⟨_, rfl⟩
                      obtain ⟨n', hn'⟩ : ∃ n', t.n = n' := ⟨_, rfl⟩
                      have hle := le.n
                      rw [hn, hn'] at hle
                      have hh := X.holdL hc oks n hn
                      have hr := fun (w' : World) (F' : List Nat) (Y : LG2 w4 w' c F' bl (s.hold c) H dl t) => Y.holdR hc okt n' hn'
                      clear X
                      generalize s.hold c = s' at *
                      generalize t.hold c = t' at *
                      as_aux_lemma =>
                        go_wp2_with fail
                        refine hh.mono ?_
                        rintro e w9 ⟨rfl, F', X⟩
                        have hr' := hr w9 F' X
                        clear hh hr X
                        go_wp2_with fail
                        refine hr'.mono ?_
                        rintro e w10 ⟨rfl, H', X⟩
                        clear hr'
                        go_wp2
                        go_roundw
                        case rel => exact ⟨kk + 1, F', H', s', t', by omega, by omega, by first | rfl | go_num, X, okh, okk, leh⟩
                        case measure => simp [intOf]; omega
                    | false =>
                      obtain ⟨ad, rfl, _⟩ := H3.out.at_ q1
                      have hmt := tgt_length hc
                      rw [show c.m.toNat = m by omega] at hmt
                      have hn3 : 0 < n3 := by omega
                      go_upto_block 2 with (fail)
                      generalize hw0 : wr = wq at *
                      clear hw0
                      go_cut [19, 20] (fun v u wc => ∃ xs ys : List Int, xs.length = m ∧ Two wq wc xs ys v u ∧ LeL xs ys ∧ (∀ x ∈ xs, 0 ≤ x ∧ x ≤ 1099511627776) ∧ ∀ x ∈ ys, 0 ≤ x ∧ x ≤ 1099511627776)
                      case first =>
                        go_wp2_with fail
                        go_loopw [19, 20, 21] (fun v u i wr => ∃ (k : Nat) (xs ys : List Int), k ≤ m ∧ i = .int .i64 k ∧ xs.length = k ∧ Two wq wr xs ys v u ∧ LeL xs ys ∧ (∀ x ∈ xs, 0 ≤ x ∧ x ≤ 1099511627776) ∧ ∀ x ∈ ys, 0 ≤ x ∧ x ≤ 1099511627776) (fun _ _ i _ => m - (intOf i).toNat)
                        case atStart => exact ⟨0, [], [], by omega, rfl, rfl, ⟨World.ownsRow_nil _ _ _ _, World.ownsRow_nil _ _ _ _, (fun g h => by cases h), Gr.refl _⟩, LeL.refl _, (fun x hx => by cases hx), fun x hx => by cases hx⟩
                        case round =>
                          obtain ⟨k, xs, ys, hk, rfl, hxl, Y, hle, hx, hy⟩ := hrel
                          have A' := (A.on X.G).on Y.G
                          have hcg' := A'.cell
                          by_cases q : k < m
                          · obtain ⟨j, hj⟩ : ∃ j, (kk + k) % n3 = j := ⟨_, rfl⟩
                            have hjn : j < n3 := by rw [← hj]; exact Nat.mod_lt _ hn3
                            have hjz : ((kk : Int) + (k : Int)) % (n3 : Int) = (j : Int) := by rw [← hj]; simp
                            obtain ⟨ad', e', hc3⟩ := H3.out.at_ hjn
                            cases e'
                            replace hc3 := ((A.gr.trans X.G).trans Y.G).cell_some hc3
                            generalize z3.getD j 0 = y at hc3
                            have y0 := u64_nonneg y
                            obtain ⟨sv, hsv, sv0, sv1⟩ := u64_mod y 4000 (by omega)
                            as_aux_lemma =>
                              go_upto_if 125 with (fail)
                              go_cut [23] (fun s23 wc => ∃ d : Int, s23 = .int .i64 d ∧ 0 ≤ d ∧ d < 2000 ∧ wr = wc)
                              case first =>
                                by_cases q3 : kk + k < n4
                                · obtain ⟨ad4, rfl, hc4⟩ := H4.out.at_ q3
                                  replace hc4 := ((A.gr.trans X.G).trans Y.G).cell_some hc4
                                  generalize z4.getD (kk + k) 0 = y4 at hc4
                                  have y40 := u64_nonneg y4
                                  obtain ⟨d, hd, d0, d1⟩ := u64_mod y4 2000 (by omega)
                                  clear hcg'
                                  go_wp2
                                  go_meet
                                  case rel => exact ⟨d, rfl, d0, d1, rfl⟩
                                · clear hcg'
                                  go_wp2
                                  go_meet
                                  case rel => exact ⟨0, rfl, by omega, by omega, rfl⟩
                              case rest =>
                                obtain ⟨d, rfl, d0, d1, rfl⟩ := hcut
                                clear hcg' hc3 hsv y0 hjz hjn hj A' H4 b4 hn3
                                have hxs : ∀ z ∈ xs ++ [sv], 0 ≤ z ∧ z ≤ 1099511627776 := fun z hz => by
                                  rcases List.mem_append.1 hz with h | h
                                  · exact hx z h
                                  · simp at h; omega
                                have hys : ∀ z ∈ ys ++ [sv + d], 0 ≤ z ∧ z ≤ 1099511627776 := fun z hz => by
                                  rcases List.mem_append.1 hz with h | h
                                  · exact hy z h
                                  · simp at h; omega
                                have hl2 := hle.snoc (m := sv) (n := sv + d) (by omega)
                                have hyl : ys.length = k := by rw [← hle.1]; exact hxl
                                clear hx hy hle
                                as_aux_lemma =>
                                  have Y1 := Y.on ((Gr.refl wr).alloc (.cells #[.int .i64 sv] 2))
                                  have R1 : RI (wr.alloc (.cells #[.int .i64 sv] 2)) (some ⟨wr.heap.size, 0, none⟩) 1 [sv] := RI.new1 (heap_new rfl)
                                  go_wp2_with (at_builtin; go_loud (refine list_app22 (l := xs) (ys := [sv]) rfl 138 rfl (.tmp 135) (.tmp 137) rfl rfl ⟨wr.heap.size, 0, none⟩ 1 1 rfl R1 (Nat.le_refl _) Y1.V (by omega) Y1.G.size (k + 1) (by omega) ?_))
                                  intro g1 c1 w8 hown hgrow hat hlt
                                  have T8 := Y1.T.kept hgrow Y1.ap
                                  have G8 := own_gr Y1.G Y1.V hgrow
                                  have vT := Y1.far hat (by simp)
                                  clear hgrow hat Y1 R1 Y
                                  have R2 : RI (w8.alloc (.cells #[.int .i64 (sv + d)] 2)) (some ⟨w8.heap.size, 0, none⟩) 1 [sv + d] := RI.new1 (heap_new rfl)
                                  have T9 := T8.alloc (.cells #[.int .i64 (sv + d)] 2)
                                  have V9 := hown.alloc (.cells #[.int .i64 (sv + d)] 2)
                                  have G9 := G8.alloc (.cells #[.int .i64 (sv + d)] 2)
                                  go_wp2_with (at_builtin; go_loud (refine list_app22 (l := ys) (ys := [sv + d]) rfl 144 rfl (.tmp 139) (.tmp 143) rfl rfl ⟨w8.heap.size, 0, none⟩ 1 1 rfl R2 (Nat.le_refl _) T9 (by omega) G9.size (k + 1) (by omega) ?_))
                                  intro g2 c2 w10 hown2 hgrow hat hlt2
                                  have dF : g1 ≠ g2 := fun e => hat.elim (fun h => vT (e ▸ h)) (fun h => by simp at h; omega)
                                  have V10 := V9.kept hgrow (Or.inr (fun e => vT e.symm))
                                  have G10 := own_gr G9 T9 hgrow
                                  have YF : Two wq w10 (xs ++ [sv]) (ys ++ [sv + d]) (.slice (some ⟨g1, 0, none⟩) (k + 1) c1) (.slice (some ⟨g2, 0, none⟩) (k + 1) c2) := ⟨V10, hown2, (fun g h1 h2 => by cases h1; cases h2; exact dF rfl), G10⟩
                                  clear hgrow hat T8 T9 V9 V10 G8 G9 G10 hown hown2 R2 vT hlt hlt2
                                  go_wp2
                                  go_roundw
                                  case rel => exact ⟨k + 1, xs ++ [sv], ys ++ [sv + d], by omega, by first | rfl | go_num, by simp [hxl], YF, hl2, hxs, hys⟩
                                  case measure => simp [intOf]; omega
                          · go_wp2
                            go_meet
                            case rel => exact ⟨xs, ys, by omega, Y, hle, hx, hy⟩
                      case rest =>
                        obtain ⟨xs, ys, hxl, Y, hle, hx, hy⟩ := hcut
                        have hyl : ys.length = m := by rw [← hle.1]; exact hxl
                        obtain ⟨A6, n6, c6, rfl, R6⟩ := own_RI2 Y.V (by omega)
                        obtain ⟨A7, n7, c7, rfl, R7⟩ := own_RI2 Y.T (by omega)
                        have e6 : m = n6 := by rw [← R6.1]; exact hxl.symm
                        have e7 : m = n7 := by rw [← R7.1]; exact hyl.symm
                        subst e6
                        subst e7
                        have hA7 : ∀ ad, A7 = some ad → wq.heap.size ≤ ad.block := fun ad e => by
                          subst e
                          rcases Y.T.2 with ⟨h1, _⟩ | ⟨g, cap, cur, h1, h2, _⟩
                          · cases h1
                          · cases h1; exact h2
                        have hF7 : ∀ ad, A7 = some ad → ad.block ∉ F := fun ad e k => by have := hA7 ad e; have := X.L.lt _ k; omega
                        have os0 := oks.n0; have os1 := oks.n1; have ot0 := okt.n0; have ot1 := okt.n1
                        obtain ⟨M, N, hM, hN, hMN⟩ := mostV_mono (n := s.n) (m := t.n) (tol := c.tol) (by omega) le.n (by omega) (vs := xs) (ws := ys) (ts := tgt c) (by omega) (by omega) (may_zip hc hx) (may_zip hc hy) hle
                        replace X := X.on Y.G
                        have okn := oks.next hc M
                        have okk := okt.next hc N
                        have len := le.next hc oks okt hMN
                        obtain ⟨P, hP⟩ : ∃ P, s.to c M = P := ⟨_, rfl⟩
                        obtain ⟨Q, hQ⟩ : ∃ Q, t.to c N = Q := ⟨_, rfl⟩
                        have hPQ : P ≤ Q := by rw [← hP, ← hQ]; exact len.n
                        have hna := X.nextL hc oks A6 m c6 xs R6 M hM P hP
                        have hnb := fun (w' : World) (F' : List Nat) (Z : LG2 w4 w' c F' bl (s.next c M) H dl t) (R' : RI w' A7 m ys) => Z.nextR hc okt A7 m c7 ys R' N hN Q hQ
                        generalize s.next c M = s' at *
                        generalize t.next c N = t' at *
                        clear X hM hN hP hQ Y hle hx hy hA7 R6 hmt
                        as_aux_lemma =>
                          go_wp2_with fail
                          refine hna.mono ?_
                          rintro e w9 ⟨rfl, T, F', X⟩
                          have hb := hnb w9 F' X (R7.tw T hF7)
                          clear hna hnb T X R7 hF7
                          go_wp2_with fail
                          refine hb.mono ?_
                          rintro e w10 ⟨rfl, H', X⟩
                          clear hb
                          go_wp2
                          go_roundw
                          case rel => exact ⟨kk + 1, F', H', s', t', by omega, by omega, by first | rfl | go_num, X, okn, okk, len⟩
                          case measure => simp [intOf]; omega
                · go_wp2
                  go_meet
                  case rel => exact A.gr.trans X.G
              · go_wp2
                go_meet
                case rel => exact A.gr.trans X.G
          case rest =>
            clear X A
            go_wp2_with fail
            refine (told16_any _).mono ?_
            rintro e w8 ⟨rfl, hg⟩
            have GG := hcut.trans hg
            clear hg hcut
            go_wp2
            go_ret
            exact ⟨rfl, GG⟩
theorem lawRises_walk (A0 : Option Addr) (n0 cap0 : Nat) (z0 : List Int) (a1 a2 : Int) (A3 : Option Addr) (n3 cap3 : Nat) (z3 : List Int) (A4 : Option Addr) (n4 cap4 : Nat) (z4 : List Int) (A5 : Option Addr) (n5 cap5 : Nat) (z5 : List Bool) (W : World) (h0 : RI W A0 n0 z0) (_ : ∀ x ∈ z0, (Lit.int .i64 x).wf = true) (_ : (Lit.int .i64 a1).wf = true) (_ : (Lit.int .i64 a2).wf = true) (h3 : RI W A3 n3 z3) (_ : ∀ x ∈ z3, (Lit.int .i64 x).wf = true) (h4 : RI W A4 n4 z4) (_ : ∀ x ∈ z4, (Lit.int .i64 x).wf = true) (h5 : RB W A5 n5 z5) :
    Calls Try.prog 21 #[.slice A0 n0 cap0, .int .i64 a1, .int .i64 a2, .slice A3 n3 cap3, .slice A4 n4 cap4, .slice A5 n5 cap5] W fun e w' => e = .returned (.bool true) ∧ Below W.heap.size W w' := (lawRises_any A0 n0 cap0 z0 a1 a2 A3 n3 cap3 z3 A4 n4 cap4 z4 A5 n5 cap5 z5 W h0 h3 h4 h5).mono fun _ _ h => ⟨h.1, h.2.out⟩
end Go.Proofs.Ytjobicffdcnnlaa
