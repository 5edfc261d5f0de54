import Derived.Test.YtjobicffdcnnlaaLW9
import Derived.Test.YtjobicffdcnnlaaQ7
/- LawStill. -/
namespace Go.Proofs.Ytjobicffdcnnlaa
open Go.RowKit
set_option linter.unusedSimpArgs false
set_option linter.unusedVariables false
set_option maxRecDepth 100000

theorem mostV_len {n tol : Int} {vs ts : List Int} (h : vs.length ≠ ts.length) : mostV n tol vs ts = none := by
  unfold mostV
  rw [if_pos (by omega)]
theorem mostV_bad {n tol x t : Int} {vs ts : List Int} (h : mayB x t tol = false) : mostV n tol (x :: vs) (t :: ts) = none := by
  unfold mostV
  split
  · rfl
  · simp only [List.zip_cons_cons]
    unfold mostL
    rw [if_neg (by simp [h])]
theorem tgt_cons {c : CF} (f : Fits c) : ∃ ts, tgt c = c.t0 :: ts := by
  have := f.m0; have := f.m1
  unfold tgt
  rcases (show c.m.toNat = 1 ∨ c.m.toNat = 2 by omega) with e | e <;> rw [e] <;> exact ⟨_, rfl⟩

set_option maxHeartbeats 2000000 in
theorem lawStill_any (A0 : Option Addr) (n0 cap0 : Nat) (z0 : List Int) (A1 : Option Addr) (n1 cap1 : Nat) (z1 : List Int) (A2 : Option Addr) (n2 cap2 : Nat) (z2 : List Int) (w : World) (h0 : RI w A0 n0 z0) (h1 : RI w A1 n1 z1) (h2 : RI w A2 n2 z2) :
    Calls Try.prog 23 #[.slice A0 n0 cap0, .slice A1 n1 cap1, .slice A2 n2 cap2] w fun e w' => e = .returned (.bool true) ∧ Gr w w' := by
  have hf := fit_new A0 n0 cap0 z0 w h0
  have HF := Lib.hid hf
  have b1 := h1.2.1
  have b2 := h2.2.1
  have H1 := Lib.hid h1
  have H2 := Lib.hid h2
  clear hf h0 h1 h2
  go_enter Try.func23, Try.ntmps23
  go_upto_region 1 with (fail)
  refine wp_region_lit ?_
  refine wpList_val (.slice A0 n0 cap0) w rfl (by kernel_rfl) ?_
  refine wpList_new 44 #[.slice A0 n0 cap0] rfl (by kernel_rfl) HF.out fun v w1 hv => ?_
  obtain ⟨c, hc, rfl, hg⟩ := hv
  refine wpList_val (.pointer (some ⟨w1.heap.size, 0, none⟩)) (w1.alloc (.cells zero36 36)) rfl (xalloc36 ..) ?_
  refine wpList_skip' (w1.alloc (.cells #[.int .i64 c.n, .int .i64 c.f, .int .i64 c.m, .int .i64 c.q, .int .i64 c.fresh, .int .i64 c.grace, .int .i64 c.window, .int .i64 c.t0, .int .i64 c.t1, .int .i64 c.t2, .int .i64 c.t3, .int .i64 c.tol, .int .i64 c.lo, .int .i64 c.hi, .int .i64 c.cup, .int .i64 c.cdn, .int .i64 c.pup, .int .i64 c.tup, .int .i64 c.pdn, .int .i64 c.tdn, .int .i64 c.per, .int .i64 c.far, .int .i64 c.str, .int .i64 c.pro, .int .i64 c.sec, .int .u64 c.seed] 36)) rfl (xstore36_at rfl (by kernel_rfl) (by kernel_rfl) rfl rfl (by kernel_rfl)) ?_
  have A := start_at hg c
  generalize w1.alloc (.cells #[.int .i64 c.n, .int .i64 c.f, .int .i64 c.m, .int .i64 c.q, .int .i64 c.fresh, .int .i64 c.grace, .int .i64 c.window, .int .i64 c.t0, .int .i64 c.t1, .int .i64 c.t2, .int .i64 c.t3, .int .i64 c.tol, .int .i64 c.lo, .int .i64 c.hi, .int .i64 c.cup, .int .i64 c.cdn, .int .i64 c.pup, .int .i64 c.tup, .int .i64 c.pdn, .int .i64 c.tdn, .int .i64 c.per, .int .i64 c.far, .int .i64 c.str, .int .i64 c.pro, .int .i64 c.sec, .int .u64 c.seed] 36) = w4 at *
  generalize w1.heap.size = b at *
  have l0 := hc.lo0
  have l2 := hc.hi0
  have l3 := hc.hi1
  clear hg HF
  as_aux_lemma =>
    have hks : ∀ s : Gw w4, conf36? s.val ⟨b, 0, none⟩ = some #[.int .i64 c.n, .int .i64 c.f, .int .i64 c.m, .int .i64 c.q, .int .i64 c.fresh, .int .i64 c.grace, .int .i64 c.window, .int .i64 c.t0, .int .i64 c.t1, .int .i64 c.t2, .int .i64 c.t3, .int .i64 c.tol, .int .i64 c.lo, .int .i64 c.hi, .int .i64 c.cup, .int .i64 c.cdn, .int .i64 c.pup, .int .i64 c.tup, .int .i64 c.pdn, .int .i64 c.tdn, .int .i64 c.per, .int .i64 c.far, .int .i64 c.str, .int .i64 c.pro, .int .i64 c.sec, .int .u64 c.seed] := fun s => A.confG s
    have hcs : ∀ s : Gw w4, ∀ off, s.val.cell? ⟨b, off, none⟩ = cellAt c off := fun s => A.cellG s
    go_upto_region 2 with (fail)
    refine wp_region_grp (fun w' => ∃ s : Gw w4, w' = s.val) [([0, 1, 2, 4, 5, 6], [3, 7]), ([8, 9], [])] (by kernel_rfl) (by as_aux_lemma => kernel_rfl) (by as_aux_lemma => kernel_rfl) (by kernel_rfl) (fun d v c a w h => by cases d <;> exact h) (Gr.fresh w4).in_ ?_
    simp only [wpGrp, wpSeqC, List.filterMap_cons, List.filterMap_nil, List.getElem?_toArray, List.getElem?_cons_succ, List.getElem?_cons_zero]
    simp only [Act.put, List.setIfInBounds_toArray, List.set_cons_succ, List.set_cons_zero]
    show wpQuiet _ _ _ _ [_, _, _, _, _, _] _
    repeat (go_big_quiet_step (fail))
    refine wpQuiet_nil ?_
    refine wpOp_new (R := fun v w' => ∃ bl F, v = .pointer (some ⟨bl, 0, none⟩) ∧ Lw w' F bl c (Ls.one c.lo) ∧ ∀ x ∈ F, w4.heap.size ≤ x) 27 59 #[.agg #[.int .i64 c.n, .int .i64 c.f, .int .i64 c.m, .int .i64 c.q, .int .i64 c.fresh, .int .i64 c.grace, .int .i64 c.window, .int .i64 c.t0, .int .i64 c.t1, .int .i64 c.t2, .int .i64 c.t3, .int .i64 c.tol, .int .i64 c.lo, .int .i64 c.hi, .int .i64 c.cup, .int .i64 c.cdn, .int .i64 c.pup, .int .i64 c.tup, .int .i64 c.pdn, .int .i64 c.tdn, .int .i64 c.per, .int .i64 c.far, .int .i64 c.str, .int .i64 c.pro, .int .i64 c.sec, .int .u64 c.seed], .int .i64 c.lo] rfl rfl rfl (by kernel_rfl) (Gr.fresh w4) ((law_new_ok c hc c.lo (Int.le_refl _) l2 _).mono fun e w' ⟨bl, F, r1, r2, r3, r4⟩ => ⟨_, r1, ⟨bl, F, rfl, r2, r3⟩, r4⟩) fun v5 w5 hv5 G5 _ => ?_
    obtain ⟨bl, F, rfl, HL, hF⟩ := hv5
    simp only [Act.put, List.setIfInBounds_toArray, List.set_cons_succ, List.set_cons_zero]
    refine wpOp_new (R := fun v w' => ∃ dl H, v = .pointer (some ⟨dl, 0, none⟩) ∧ Lw w' H dl c (Ls.one c.lo) ∧ ∀ x ∈ H, w5.heap.size ≤ x) 31 59 #[.agg #[.int .i64 c.n, .int .i64 c.f, .int .i64 c.m, .int .i64 c.q, .int .i64 c.fresh, .int .i64 c.grace, .int .i64 c.window, .int .i64 c.t0, .int .i64 c.t1, .int .i64 c.t2, .int .i64 c.t3, .int .i64 c.tol, .int .i64 c.lo, .int .i64 c.hi, .int .i64 c.cup, .int .i64 c.cdn, .int .i64 c.pup, .int .i64 c.tup, .int .i64 c.pdn, .int .i64 c.tdn, .int .i64 c.per, .int .i64 c.far, .int .i64 c.str, .int .i64 c.pro, .int .i64 c.sec, .int .u64 c.seed], .int .i64 c.lo] rfl rfl rfl (by kernel_rfl) G5 ((law_new_ok c hc c.lo (Int.le_refl _) l2 _).mono fun e w' ⟨bl, F, r1, r2, r3, r4⟩ => ⟨_, r1, ⟨bl, F, rfl, r2, r3⟩, r4⟩) fun v6 w6 hv6 G6 G56 => ?_
    obtain ⟨dl, H, rfl, HM, hH⟩ := hv6
    have X : LG2 w4 w6 c F bl (Ls.one c.lo) H dl (Ls.one c.lo) := ⟨HL.on G56, HM, G6, hF, fun y hy => Nat.le_trans G5.size (hH y hy), fun y hy k => by have := HL.lt y hy; have := hH y k; omega⟩
    have ok := Ls.Ok.one hc (n := c.lo) ⟨Int.le_refl _, l2⟩
    simp only [Act.put, List.setIfInBounds_toArray, List.set_cons_succ, List.set_cons_zero]
    show wpQuiet _ _ _ _ [_, _] _
    repeat (go_big_quiet_step (fail))
    refine wpQuiet_nil ?_
    generalize Ls.one c.lo = s at *
    clear HL HM hF hH hks hcs G5 G6 G56
    as_aux_lemma =>
      go_upto_block 0 with (fail)
      go_cut [] (fun wc => At w wc b c)
      case first =>
        go_wp2_with fail
        go_loopw [10] (fun i wr => ∃ (kk : Nat) (F H : List Nat) (s : Ls), kk ≤ n1 ∧ kk ≤ 20 ∧ i = .int .i64 kk ∧ LG2 w4 wr c F bl s H dl s ∧ s.Ok c) (fun i _ => 20 - (intOf i).toNat)
        case atStart => exact ⟨0, F, H, s, by omega, by omega, rfl, X, ok⟩
        case round =>
          clear X ok F H s
          obtain ⟨kk, F, H, s, hk1, hk2, rfl, X, ok⟩ := hrel
          by_cases q1 : kk < n1
          · by_cases q2 : kk < 20
            · as_aux_lemma =>
              obtain ⟨ad, rfl, hcell⟩ := H1.out.at_ q1
              replace hcell := (A.gr.trans X.G).cell_some hcell
              generalize z1.getD kk 0 = y at hcell
              have y0 := u64_nonneg y
              obtain ⟨v, hv, v0, v1⟩ := u64_mod y 4000 (by omega)
              obtain ⟨u, hu, u0, u1⟩ := u64_mod y 3000 (by omega)
              obtain ⟨n, hn⟩ : ∃ n, s.n = n := ⟨_, rfl⟩
              have ok0 := ok.n0
              have ok1 := ok.n1
              rw [hn] at ok0 ok1
              go_upto_region 8 with (fail)
              have A' := A.on X.G
              have hcg := A'.cellG
              have hcl : ∀ s : Gw wr, s.val.cell? (ad.add kk) = some (.int .i64 y) := fun s => s.gr.cell_some hcell
              obtain ⟨m, hm⟩ : ∃ m : Nat, c.m = (m : Int) := ⟨c.m.toNat, by have := hc.m0; omega⟩
              have m0 := hc.m0
              have m1 := hc.m1
              rw [hm] at m0 m1
              refine wp_region_grp (fun w' => ∃ s : Gw wr, w' = s.val) [([0, 1, 2, 3, 4, 5, 6, 7, 8, 9, 10, 11, 12, 13, 15, 16], [14]), ([17, 18], [])] (by kernel_rfl) (by as_aux_lemma => kernel_rfl) (by as_aux_lemma => kernel_rfl) (by kernel_rfl) (fun d v c a w h => by cases d <;> exact h) (Gr.fresh wr).in_ ?_
              simp only [wpGrp, wpSeqC, List.filterMap_cons, List.filterMap_nil, List.getElem?_toArray, List.getElem?_cons_succ, List.getElem?_cons_zero]
              show wpQuiet _ _ _ _ [_, _, _, _, _, _, _, _, _, _, _, _, _, _, _, _] _
              repeat (go_big_quiet_step (fail))
              refine wpQuiet_nil ?_
              have gf := Gr.fresh wr
              generalize hw6 : ({ wr with drawn := wr.drawn + 1 } : World) = w6 at *
              refine wpOp_made 62 (.slice (some ⟨w6.heap.size, 0, none⟩) 2 2) (w6.alloc (.cells #[.int .i64 v, .int .i64 u] 2)) rfl rfl rfl (by kernel_rfl) (gf.alloc _) ?_
              simp only [Act.put, List.setIfInBounds_toArray, List.set_cons_succ, List.set_cons_zero]
              show wpQuiet _ _ _ _ [_, _] _
              repeat (go_big_quiet_step (fail))
              refine wpQuiet_nil ?_
              clear hcg hcl hv hu y0 hcell A'
              obtain ⟨g, hg⟩ : ∃ g, w6.heap.size = g := ⟨_, rfl⟩
              have box : (w6.alloc (.cells #[.int .i64 v, .int .i64 u] 2)).heap[g]? = some (.cells #[.int .i64 v, .int .i64 u] 2) := heap_new hg.symm
              obtain ⟨xs, hxs⟩ : ∃ xs, [v, u].take m = xs := ⟨_, rfl⟩
              have hxl : xs.length = m := by rw [← hxs]; simp; omega
              have hxb : ∀ x ∈ xs, 0 ≤ x ∧ x ≤ 1099511627776 := fun x hx => by
                rw [← hxs] at hx
                have := List.mem_of_mem_take hx
                simp at this
                omega
              have R : RI (w6.alloc (.cells #[.int .i64 v, .int .i64 u] 2)) (some ⟨g, 0, none⟩) m xs := by
                refine ⟨hxl, by omega, fun _ => ⟨_, rfl, fun j hj => ?_⟩⟩
                rw [Addr.add_lit, Nat.zero_add, ← hxs]
                have e : ([v, u].take m).getD j 0 = [v, u].getD j 0 := by simp [List.getD_eq_getElem?_getD, hj]
                rw [e]
                rcases (show j = 0 ∨ j = 1 by omega) with rfl | rfl <;> exact cell_in box rfl
              have hgX : g ∉ F := fun e => by have := X.L.lt g e; rw [← hw6] at hg; simp at hg; omega
              rw [hg]
              replace X := X.on (gf.alloc (.cells #[.int .i64 v, .int .i64 u] 2))
              have hmost := most_wl hc (n := n) (by omega) (by omega) (xs := xs) (by omega) hxb
              rw [show c.m.toNat = m by omega] at hmost
              clear hw6 gf box hxs hxb v0 v1 u0 u1 hg
              generalize w6.alloc _ = w7 at *
              generalize wlS n c.tol xs (tgt c) m = M at *
              as_aux_lemma =>
                go_upto_if 69 with (fail)
                go_cut [] (fun wc => LG2 w4 wc c F bl s H dl s ∧ RI wc (some ⟨g, 0, none⟩) m xs)
                case first =>
                  by_cases q3 : kk < n2
                  · obtain ⟨ad2, rfl, hcell2⟩ := H2.out.at_ q3
                    replace hcell2 := (A.gr.trans X.G).cell_some hcell2
                    generalize z2.getD kk 0 = r at hcell2
                    have O0 : (w7.alloc (.cells #[] 2)).ownsRow w7.heap.size 2 1 (.slice (some ⟨w7.heap.size, 0, none⟩) 0 0) ([] : List Int).length (([] : List Int).map (.int .i64)) := World.ownsRow_made w7 #[] 0 (Nat.le_refl _) (Nat.zero_le _) rfl
                    go_wp2_with (at_builtin; refine list_app22 (l := []) (ys := xs) rfl 72 rfl (.tmp 70) (.tmp 71) rfl rfl ⟨g, 0, none⟩ m 2 rfl (R.gr ((Gr.refl w7).alloc _)) (by omega) O0 (by simp; omega) (by simp) m (by simp) ?_)
                    intro g1 c1 w8 hown hgrow hat hlt
                    have G8 : Gr w7 w8 := own_gr ((Gr.refl w7).alloc _) O0 hgrow
                    simp only [List.nil_append] at hown
                    obtain ⟨x, xr, rfl⟩ : ∃ x xr, xs = x :: xr := by
                      cases xs with
                      | nil => simp at hxl; omega
                      | cons x xr => exact ⟨x, xr, rfl⟩
                    have hxl' : xr.length + 1 = m := by simpa using hxl
                    have hc1 : w8.cell? ⟨g1, 0, none⟩ = some (.int .i64 x) := by
                      rw [hxl] at hown
                      rw [hown.cellAt 0 (by omega)]
                      simp
                    have hz1 : w8.frozen? ⟨g1, 0, none⟩ = false := by
                      rw [hxl] at hown
                      exact hown.frozenAt 0
                    have hown9 : (w8.setCell ⟨g1, 0, none⟩ (.int .i64 r)).ownsRow w7.heap.size 2 1 (.slice (some ⟨g1, 0, none⟩) m c1) (r :: xr).length ((r :: xr).map (.int .i64)) := by
                      rw [hxl] at hown
                      have := (hown.stored 0 (.int .i64 r)).1
                      simpa [hxl'] using this
                    have G9 : Gr w7 (w8.setCell ⟨g1, 0, none⟩ (.int .i64 r)) := by
                      have hb := (hown.lt g1 rfl).1
                      exact ⟨G8.out.setCell hb _⟩
                    have hcl8 : w8.cell? (ad2.add kk) = some (.int .i64 r) := G8.cell_some hcell2
                    clear hown hgrow hat O0
                    as_aux_lemma =>
                      go_upto_region 12 with (fail)
                      clear hc1 hz1 hcl8
                      have hcl9 := G9.cell_some hcell2
                      generalize World.setCell _ _ _ = w9 at *
                      clear hlt G8 hcell2
                      obtain ⟨ts, hts⟩ := tgt_cons hc
                      have htl := tgt_length hc
                      by_cases r0 : 0 ≤ r
                      · by_cases r1 : r ≤ 1099511627776
                        · have R5 : RI (w9.alloc (.cells #[.int .i64 5] 2)) (some ⟨w9.heap.size, 0, none⟩) 1 [5] := RI.new1 (heap_new rfl)
                          have hown10 := hown9.alloc (.cells #[.int .i64 5] 2)
                          have G10 := G9.alloc (.cells #[.int .i64 5] 2)
                          go_wp2_with (at_builtin; refine list_app22 (l := r :: xr) (ys := [5]) rfl 93 rfl (.tmp 91) (.tmp 92) rfl rfl ⟨w9.heap.size, 0, none⟩ 1 1 rfl R5 (by omega) hown10 (by simp; omega) G10.size (m + 1) (by simp; omega) ?_)
                          intro g2 c2 w10 hown hgrow hat hlt
                          have G11 : Gr w7 w10 := own_gr G10 hown10 hgrow
                          clear hown10 G10 R5 hgrow hat hlt hown9 hcl9
                          have R11 : RI w10 (some ⟨g2, 0, none⟩) (m + 1) (r :: xr ++ [5]) := own_RIs hown (by simp; omega) (by omega)
                          have X10 := X.on G11
                          have hno := X10.L.nextNo hc (some ⟨g2, 0, none⟩) (m + 1) c2 (r :: xr ++ [5]) R11 (mostV_len (by simp; omega))
                          go_wp2_with fail
                          refine hno.mono ?_
                          rintro e w12 ⟨rfl, hg⟩
                          have X12 := X10.on hg
                          have R12 := (R.gr G11).gr hg
                          clear hno hg X10 X R
                          go_wp2
                          rw [← hm]
                          go_meet
                          case rel => exact ⟨X12, R12⟩
                        · have R9 : RI w9 (some ⟨g1, 0, none⟩) m (r :: xr) := own_RIs hown9 (by simp; omega) (by omega)
                          have X10 := X.on G9
                          have hno := X10.L.nextNo hc (some ⟨g1, 0, none⟩) m c1 (r :: xr) R9 (by rw [hts]; exact mostV_bad (by unfold mayB; simp; omega))
                          go_wp2_with fail
                          refine hno.mono ?_
                          rintro e w12 ⟨rfl, hg⟩
                          have X12 := X10.on hg
                          have R12 := (R.gr G9).gr hg
                          clear hno hg X10 X R
                          go_wp2
                          rw [← hm]
                          go_meet
                          case rel => exact ⟨X12, R12⟩
                      · have R9 : RI w9 (some ⟨g1, 0, none⟩) m (r :: xr) := own_RIs hown9 (by simp; omega) (by omega)
                        have X10 := X.on G9
                        have hno := X10.L.nextNo hc (some ⟨g1, 0, none⟩) m c1 (r :: xr) R9 (by rw [hts]; exact mostV_bad (by unfold mayB; simp; omega))
                        go_wp2_with fail
                        refine hno.mono ?_
                        rintro e w12 ⟨rfl, hg⟩
                        have X12 := X10.on hg
                        have R12 := (R.gr G9).gr hg
                        clear hno hg X10 X R
                        go_wp2
                        rw [← hm]
                        go_meet
                        case rel => exact ⟨X12, R12⟩
                  · go_wp2
                    go_meet
                    case rel => exact ⟨X, R⟩
                case rest =>
                  clear X R
                  obtain ⟨X, R⟩ := hcut
                  obtain ⟨N, hN⟩ : ∃ N, s.to c M = N := ⟨_, rfl⟩
                  have okn := ok.next hc M
                  have hcn : (s.next c M).n = N := hN
                  have hna := X.nextL hc ok (some ⟨g, 0, none⟩) m 2 xs R M (by rw [hn]; exact hmost) N hN
                  have hnb := fun (w' : World) (F' : List Nat) (Y : LG2 w4 w' c F' bl (s.next c M) H dl s) (R' : RI w' (some ⟨g, 0, none⟩) m xs) => Y.nextR hc ok (some ⟨g, 0, none⟩) m 2 xs R' M (by rw [hn]; exact hmost) N hN
                  generalize s.next c M = s' at *
                  clear X hmost hn hN
                  as_aux_lemma =>
                    go_wp2_with fail
                    refine hna.mono ?_
                    rintro e w9 ⟨rfl, T, F', X⟩
                    have hb := hnb w9 F' X (R.tw T (fun ad e => by cases e; exact hgX))
                    clear hna hnb T X R
                    go_wp2_with fail
                    refine hb.mono ?_
                    rintro e w10 ⟨rfl, H', X⟩
                    clear hb
                    have hca : Calls Try.prog 60 #[.pointer (some ⟨bl, 0, none⟩)] w10 fun r w' => r = .returned (.int .i64 N) ∧ w10 = w' := hcn ▸ X.L.count
                    have hcb : Calls Try.prog 60 #[.pointer (some ⟨dl, 0, none⟩)] w10 fun r w' => r = .returned (.int .i64 N) ∧ w10 = w' := hcn ▸ X.M.count
                    go_wp2_with fail
                    refine hca.mono ?_
                    rintro e w11 ⟨rfl, rfl⟩
                    go_wp2_with fail
                    refine hcb.mono ?_
                    rintro e w12 ⟨rfl, rfl⟩
                    clear hca hcb
                    go_wp2
                    rw [← hm]
                    go_roundw
                    case rel => exact ⟨kk + 1, F', H', s', by omega, by omega, by first | rfl | go_num, X, okn⟩
                    case measure => simp [intOf]; omega
            · go_wp2
              go_meet
              case rel => exact A.on X.G
          · go_wp2
            go_meet
            case rel => exact A.on X.G
      case rest =>
        clear X A
        go_wp2_with fail
        refine (told16_any _).mono ?_
        rintro e w8 ⟨rfl, hg⟩
        have A := hcut.on hg
        clear hg hcut
        have hk := A.conf
        have hmay := may_true c hc.may
        go_wp2_with fail
        refine (hmay _).mono ?_
        rintro e w9 ⟨rfl, hg⟩
        have GG := A.gr.trans hg
        clear hg A hk hmay
        go_wp2
        go_ret
        exact ⟨rfl, GG⟩
theorem lawStill_walk (A0 : Option Addr) (n0 cap0 : Nat) (z0 : List Int) (A1 : Option Addr) (n1 cap1 : Nat) (z1 : List Int) (A2 : Option Addr) (n2 cap2 : Nat) (z2 : List Int) (W : World) (h0 : RI W A0 n0 z0) (_ : ∀ x ∈ z0, (Lit.int .i64 x).wf = true) (h1 : RI W A1 n1 z1) (_ : ∀ x ∈ z1, (Lit.int .i64 x).wf = true) (h2 : RI W A2 n2 z2) (_ : ∀ x ∈ z2, (Lit.int .i64 x).wf = true) :
    Calls Try.prog 23 #[.slice A0 n0 cap0, .slice A1 n1 cap1, .slice A2 n2 cap2] W fun e w' => e = .returned (.bool true) ∧ Below W.heap.size W w' := (lawStill_any A0 n0 cap0 z0 A1 n1 cap1 z1 A2 n2 cap2 z2 W h0 h1 h2).mono fun _ _ h => ⟨h.1, h.2.out⟩
end Go.Proofs.Ytjobicffdcnnlaa
