import Derived.Test.YtjobicffdcnnlaaLW9
/- LawBand. -/
namespace Go.Proofs.Ytjobicffdcnnlaa
open Go.RowKit
set_option linter.unusedSimpArgs false
set_option linter.unusedVariables false
set_option maxRecDepth 100000

theorem zip_all {xs ts : List Int} {Q : Int → Int → Prop} (hl : xs.length = ts.length) (h : ∀ j, j < xs.length → Q (xs.getD j 0) (ts.getD j 0)) : ∀ p ∈ xs.zip ts, Q p.1 p.2 := by
  intro p hp
  obtain ⟨j, hj, rfl⟩ := List.mem_iff_getElem.1 hp
  have hj' : j < xs.length := by simp at hj; omega
  have := h j hj'
  rw [List.getD_eq_getElem?_getD, List.getD_eq_getElem?_getD, List.getElem?_eq_getElem hj', List.getElem?_eq_getElem (show j < ts.length by omega)] at this
  simpa using this
/-- The band of a target. -/
theorem band_in {t tol n : Int} (t0 : 1 ≤ t) (t1 : t ≤ 2000) (l0 : 0 ≤ tol) (l1 : tol ≤ 299) : 0 ≤ t * (1000 - tol) ∧ t * (1000 - tol) ≤ 2000000 ∧ 0 ≤ t * (1000 + tol) ∧ t * (1000 + tol) ≤ 2600000 ∧
    0 ≤ (t * (1000 - tol) + 999) / 1000 ∧ (t * (1000 - tol) + 999) / 1000 ≤ t * (1000 + tol) / 1000 ∧ t * (1000 + tol) / 1000 ≤ 2600 ∧
    ∀ x, (t * (1000 - tol) + 999) / 1000 ≤ x → x ≤ t * (1000 + tol) / 1000 → mayB x t tol = true ∧ ∀ n, 0 ≤ n → n ≤ 10000 → wantV n x t tol = n := by
  have e1 : t * (1000 - tol) = t * 1000 - t * tol := Int.mul_sub _ _ _
  have e2 : t * (1000 + tol) = t * 1000 + t * tol := Int.mul_add _ _ _
  have e3 : 0 ≤ t * tol := Int.mul_nonneg (by omega) l0
  have e4 : t * tol ≤ t * 299 := Int.mul_le_mul_of_nonneg_left l1 (by omega)
  rw [e1, e2]
  refine ⟨by omega, by omega, by omega, by omega, by omega, by omega, by omega, fun x h0 h1 => ?_⟩
  have hm : mayB x t tol = true := mayB_of (by omega)
  refine ⟨hm, fun n n0 n1 => ?_⟩
  have hin := (inB_eq hm).2 (by rw [e1, e2]; omega)
  rw [wantV_eq n0 n1 hm, if_pos hin]
/-- Within their bands nothing but what is there is wanted. -/
def InBand (c : CF) (x t : Int) : Prop := (t * (1000 - c.tol) + 999) / 1000 ≤ x ∧ x ≤ t * (1000 + c.tol) / 1000
theorem most_band {c : CF} (f : Fits c) {n : Int} (n0 : 0 ≤ n) (n1 : n ≤ 10000) {xs : List Int} (hl : xs.length = c.m.toNat) (h : ∀ j, j < xs.length → InBand c (xs.getD j 0) ((tgt c).getD j 0)) : mostV n c.tol xs (tgt c) = some n := by
  have hl2 := tgt_length f
  have hm0 := f.m0
  have hz := zip_all (Q := fun x t => t ∈ tgt c ∧ InBand c x t) (xs := xs) (ts := tgt c) (by omega) (fun j hj => ⟨by rw [List.getD_eq_getElem?_getD, List.getElem?_eq_getElem (show j < (tgt c).length by omega)]; exact List.getElem_mem _, h j hj⟩)
  unfold mostV
  rw [if_neg (by omega), mostL_same _ _ (fun p hp => ?_) n0, if_neg ?_]
  · intro e
    have : (xs.zip (tgt c)).length = 0 := by rw [e]; rfl
    rw [List.length_zip] at this
    omega
  · obtain ⟨hm, h0, h1⟩ := hz p hp
    have ht := tgt_in f _ hm
    obtain ⟨_, _, _, _, _, _, _, k⟩ := band_in (n := n) ht.1 ht.2 f.tol0 f.tol1
    exact ⟨(k _ h0 h1).1, (k _ h0 h1).2 n n0 n1⟩

set_option maxHeartbeats 4000000 in
theorem lawBand_any (A0 : Option Addr) (n0 cap0 : Nat) (z0 : List Int) (a1 : Int) (A2 : Option Addr) (n2 cap2 : Nat) (z2 : List Int) (A3 : Option Addr) (n3 cap3 : Nat) (z3 : List Bool) (w : World) (h0 : RI w A0 n0 z0) (h2 : RI w A2 n2 z2) (h3 : RB w A3 n3 z3) :
    Calls Try.prog 22 #[.slice A0 n0 cap0, .int .i64 a1, .slice A2 n2 cap2, .slice A3 n3 cap3] w fun e w' => e = .returned (.bool true) ∧ Gr w w' := by
  have hf := fit_new A0 n0 cap0 z0 w h0
  have HF := Lib.hid hf
  have b2 := h2.2.1
  have b3 := h3.2.1
  have H2 := Lib.hid h2
  have H3 := Lib.hid h3
  clear hf h0 h2 h3
  have u1 := u64_nonneg a1
  go_enter Try.func22, Try.ntmps22
  go_upto_region 1 with (fail)
  refine wp_region_lit ?_
  refine wpList_val (.slice A0 n0 cap0) w rfl (by kernel_rfl) ?_
  refine wpList_new 44 #[.slice A0 n0 cap0] rfl (by kernel_rfl) HF.out fun v w1 hv => ?_
  obtain ⟨c, hc, rfl, hg⟩ := hv
  refine wpList_val (.pointer (some ⟨w1.heap.size, 0, none⟩)) (w1.alloc (.cells zero36 36)) rfl (xalloc36 ..) ?_
  refine wpList_skip' (w1.alloc (.cells #[.int .i64 c.n, .int .i64 c.f, .int .i64 c.m, .int .i64 c.q, .int .i64 c.fresh, .int .i64 c.grace, .int .i64 c.window, .int .i64 c.t0, .int .i64 c.t1, .int .i64 c.t2, .int .i64 c.t3, .int .i64 c.tol, .int .i64 c.lo, .int .i64 c.hi, .int .i64 c.cup, .int .i64 c.cdn, .int .i64 c.pup, .int .i64 c.tup, .int .i64 c.pdn, .int .i64 c.tdn, .int .i64 c.per, .int .i64 c.far, .int .i64 c.str, .int .i64 c.pro, .int .i64 c.sec, .int .u64 c.seed] 36)) rfl (xstore36_at rfl (by kernel_rfl) (by kernel_rfl) rfl rfl (by kernel_rfl)) ?_
  have A := start_at hg c
  generalize w1.alloc (.cells #[.int .i64 c.n, .int .i64 c.f, .int .i64 c.m, .int .i64 c.q, .int .i64 c.fresh, .int .i64 c.grace, .int .i64 c.window, .int .i64 c.t0, .int .i64 c.t1, .int .i64 c.t2, .int .i64 c.t3, .int .i64 c.tol, .int .i64 c.lo, .int .i64 c.hi, .int .i64 c.cup, .int .i64 c.cdn, .int .i64 c.pup, .int .i64 c.tup, .int .i64 c.pdn, .int .i64 c.tdn, .int .i64 c.per, .int .i64 c.far, .int .i64 c.str, .int .i64 c.pro, .int .i64 c.sec, .int .u64 c.seed] 36) = w2 at *
  generalize w1.heap.size = b at *
  have l0 := hc.lo0
  have l2 := hc.hi0
  have l3 := hc.hi1
  clear hg HF
  as_aux_lemma =>
    obtain ⟨x, hx, x0, x1⟩ := u64_mod a1 (c.hi - c.lo + 1) (by omega)
    obtain ⟨f, hf⟩ : ∃ f, c.lo + x = f := ⟨_, rfl⟩
    have f0 : c.lo ≤ f := by omega
    have f1 : f ≤ c.hi := by omega
    go_upto_region 2 with (fail)
    simp only [Act.put, List.setIfInBounds_toArray, List.set_cons_succ, List.set_cons_zero]
    refine wp_region_quiet_gw (by kernel_rfl) (by kernel_rfl) ?_
    have hcg := A.cellG
    repeat (go_big_quiet_step (fail))
    refine wpQuiet_nil fun s => ?_
    replace A := A.on s.gr
    generalize s.val = w4 at *
    clear hcg hx u1 x0 x1 hf
    as_aux_lemma =>
      have hk := A.conf
      go_wp2_with fail
      refine (law_new_ok c hc f f0 f1 _).mono ?_
      rintro e w5 ⟨bl, F, rfl, H, hF, g2⟩
      have X : LG w4 w5 F bl c (Ls.one f) := ⟨H, g2, hF⟩
      have ok := Ls.Ok.one hc (n := f) ⟨f0, f1⟩
      have sm := Ls.Same.one f
      generalize Ls.one f = s at *
      clear H hF g2 hk
      obtain ⟨m, hm⟩ : ∃ m : Nat, c.m = (m : Int) := ⟨c.m.toNat, by have := hc.m0; omega⟩
      have m0 := hc.m0
      have m1 := hc.m1
      rw [hm] at m0 m1
      rw [hm]
      go_upto_block 0 with (fail)
      go_cut [] (fun wc => ∃ F s, LG w4 wc F bl c s ∧ s.n = f)
      case first =>
        go_wp2_with fail
        go_loopw [12] (fun i wr => ∃ (kk : Nat) (F : List Nat) (s : Ls), kk ≤ n2 ∧ kk ≤ 30 ∧ i = .int .i64 kk ∧ LG w4 wr F bl c s ∧ s.Ok c ∧ s.Same f) (fun i _ => 30 - (intOf i).toNat)
        case atStart => exact ⟨0, F, s, by omega, by omega, rfl, X, ok, sm⟩
        case round =>
          clear X ok F sm s
          obtain ⟨kk, F, s, hk1, hk2, rfl, X, ok, sm⟩ := hrel
          by_cases q1 : kk < n2
          · by_cases q2 : kk < 30
            · as_aux_lemma =>
              obtain ⟨ad, rfl, hcell⟩ := H2.out.at_ q1
              replace hcell := (A.gr.trans X.G).cell_some hcell
              generalize z2.getD kk 0 = y at hcell
              have hh := X.hold hc ok f sm.n
              have okh := ok.hold hc
              have smh := sm.hold c
              generalize s.hold c = sh at *
              obtain ⟨HV, hHV⟩ : ∃ x, (decide (kk < n3) && z3.getD kk false) = x := ⟨_, rfl⟩
              go_upto_region 9 with (fail)
              go_cut [61] (fun s61 wc => s61 = .bool HV ∧ wr = wc)
              case first =>
                by_cases q3 : kk < n3
                · obtain ⟨ad3, rfl, hcell3⟩ := H3.out.at_ q3
                  replace hcell3 := (A.gr.trans X.G).cell_some hcell3
                  rw [show z3.getD kk false = HV by rw [← hHV]; simp [q3]] at hcell3
                  clear hh hcell X
                  go_wp2
                  go_meet
                  case rel => exact ⟨rfl, rfl⟩
                · have : HV = false := by rw [← hHV]; simp [q3]
                  subst this
                  clear hh hcell X
                  go_wp2
                  go_meet
                  case rel => exact ⟨rfl, rfl⟩
              case rest =>
                obtain ⟨rfl, rfl⟩ := hcut
                clear hHV H3 b3
                cases HV with
                | true =>
                  clear X hcell
                  as_aux_lemma =>
                    go_wp2_with fail
                    refine hh.mono ?_
                    rintro e w9 ⟨rfl, F', X⟩
                    clear hh
                    go_wp2
                    go_roundw
                    case rel => exact ⟨kk + 1, F', sh, by omega, by omega, by first | rfl | go_num, X, okh, smh⟩
                    case measure => simp [intOf]; omega
                | false =>
                  clear hh okh smh
                  go_upto_block 2 with (fail)
                  have hmt := tgt_length hc
                  rw [show c.m.toNat = m by omega] at hmt
                  have y0 := u64_nonneg y
                  generalize hw0 : wr = wq at *
                  clear hw0
                  go_cut [13] (fun s13 wc => ∃ xs : List Int, xs.length = m ∧ wc.ownsRow wq.heap.size 2 1 s13 xs.length (xs.map (.int .i64)) ∧ Gr wq wc ∧ ∀ j, j < xs.length → InBand c (xs.getD j 0) ((tgt c).getD j 0))
                  case first =>
                    go_wp2_with fail
                    go_loopw [13, 14] (fun v i wr => ∃ (k : Nat) (xs : List Int), k ≤ m ∧ i = .int .i64 k ∧ xs.length = k ∧ wr.ownsRow wq.heap.size 2 1 v xs.length (xs.map (.int .i64)) ∧ Gr wq wr ∧ ∀ j, j < xs.length → InBand c (xs.getD j 0) ((tgt c).getD j 0)) (fun _ i _ => m - (intOf i).toNat)
                    case atStart => exact ⟨0, [], by omega, rfl, rfl, World.ownsRow_nil _ _ _ _, Gr.refl _, fun j hj => by simp at hj⟩
                    case round =>
                      obtain ⟨k, xs, hk, rfl, hxl, hown, GG, hin⟩ := hrel
                      have A' := (A.on X.G).on GG
                      have hcg' := A'.cell
                      by_cases q : k < m
                      · have htk := tgt_in hc ((tgt c).getD k 0) (by rw [List.getD_eq_getElem?_getD, List.getElem?_eq_getElem (show k < (tgt c).length by omega)]; exact List.getElem_mem _)
                        have hct : cellAt c (7 + k) = some (.int .i64 ((tgt c).getD k 0)) := cellAt_tgt hc (by omega)
                        have hcy : wr.cell? (ad.add kk) = some (.int .i64 y) := GG.cell_some hcell
                        obtain ⟨t, ht⟩ : ∃ t, (tgt c).getD k 0 = t := ⟨_, rfl⟩
                        rw [ht] at htk hct
                        obtain ⟨m2, m3, m4, m5, m6, m7, m8, _⟩ := band_in (n := f) htk.1 htk.2 hc.tol0 hc.tol1
                        have ht0 := htk.1
                        have ht1 := htk.2
                        have hl0 := hc.tol0
                        have hl1 := hc.tol1
                        obtain ⟨lo, hlo⟩ : ∃ lo, (t * (1000 - c.tol) + 999) / 1000 = lo := ⟨_, rfl⟩
                        obtain ⟨hi, hhi⟩ : ∃ hi, t * (1000 + c.tol) / 1000 = hi := ⟨_, rfl⟩
                        rw [hlo] at m6 m7
                        rw [hhi] at m7 m8
                        obtain ⟨v, hv, v0, v1⟩ := u64_mod y (hi - lo + 1) (by omega)
                        as_aux_lemma =>
                          go_upto_region 17 with (fail)
                          clear hcg'
                          have hcg := A'.cellG
                          refine wp_region_quiet_gw (by kernel_rfl) (by kernel_rfl) ?_
                          repeat (go_big_quiet_step (fail))
                          refine wpQuiet_nil fun s => ?_
                          have GG' := GG.trans s.gr
                          have hown' := hown.kept s.gr.grown (none_or _)
                          replace hcy := s.gr.cell_some hcy
                          generalize s.val = wt at *
                          rw [hlo, hhi]
                          have hnew : ∀ j, j < (xs ++ [(lo + v)]).length → InBand c ((xs ++ [(lo + v)]).getD j 0) ((tgt c).getD j 0) := fun j hj => by
                            rw [getD_snoc]
                            by_cases e : j < xs.length
                            · rw [if_pos e]; exact hin j e
                            · have e2 : j = xs.length := by simp at hj; omega
                              rw [if_neg e, if_pos e2, e2, hxl, ht]
                              unfold InBand
                              rw [hlo, hhi]
                              omega
                          clear hcg hct m2 m3 m4 m5 hlo hhi A' GG hown hin
                          as_aux_lemma =>
                            have R1 : RI (wt.alloc (.cells #[.int .i64 (lo + v)] 2)) (some ⟨wt.heap.size, 0, none⟩) 1 [(lo + v)] := RI.new1 (heap_new rfl)
                            have q1 : xs.length + 1 ≤ 2000 := by omega
                            have q2 : xs.length + 1 = k + 1 := by omega
                            have q3 := hown'.alloc (.cells #[.int .i64 (lo + v)] 2)
                            have q4 := (GG'.alloc (.cells #[.int .i64 (lo + v)] 2)).size
                            go_wp2_with (at_builtin; refine list_app22 (l := xs) (ys := [(lo + v)]) rfl 105 rfl (.tmp 89) (.tmp 104) rfl rfl ⟨wt.heap.size, 0, none⟩ 1 1 rfl R1 (Nat.le_refl _) q3 q1 q4 (k + 1) q2 ?_)
                            intro g1 c1 w8 hown2 hgrow hat hlt
                            have G8 := own_gr (GG'.alloc (.cells #[.int .i64 (lo + v)] 2)) (hown'.alloc (.cells #[.int .i64 (lo + v)] 2)) hgrow
                            clear hgrow hat hlt hown' GG' R1
                            go_wp2
                            go_roundw
                            case rel => exact ⟨k + 1, xs ++ [(lo + v)], by omega, by first | rfl | go_num, by simp [hxl], hown2, G8, hnew⟩
                            case measure => simp [intOf]; omega
                      · go_wp2
                        go_meet
                        case rel => exact ⟨xs, by omega, hown, GG, hin⟩
                  case rest =>
                    obtain ⟨xs, hxl, hown, GG, hin⟩ := hcut
                    have fb : 0 ≤ f ∧ f ≤ 10000 := by omega
                    have hmost := most_band hc fb.1 fb.2 (xs := xs) (by omega) hin
                    obtain ⟨A5, n5, c5, rfl, R⟩ := own_RI2 hown (by omega)
                    have hn5 : n5 = m := by rw [← R.1]; exact hxl
                    subst hn5
                    replace X := X.on GG
                    have okn := ok.next hc f
                    have smn := sm.next hc ok
                    have hnx := X.nextOk hc ok A5 n5 c5 xs R f (by rw [sm.n]; exact hmost) f smn.n
                    clear X R hmost hown GG hin hcell y0 hmt
                    generalize s.next c f = s' at *
                    as_aux_lemma =>
                      go_wp2_with fail
                      refine hnx.mono ?_
                      rintro e w9 ⟨rfl, F', X⟩
                      clear hnx
                      go_wp2
                      go_roundw
                      case rel => exact ⟨kk + 1, F', s', by omega, by omega, by first | rfl | go_num, X, okn, smn⟩
                      case measure => simp [intOf]; omega
            · go_wp2
              go_meet
              case rel => exact ⟨F, s, X, sm.n⟩
          · go_wp2
            go_meet
            case rel => exact ⟨F, s, X, sm.n⟩
      case rest =>
        clear X sm ok F s
        obtain ⟨F, s, X, hn⟩ := hcut
        go_wp2_with fail
        refine (told16_any _).mono ?_
        rintro e w8 ⟨rfl, hg⟩
        replace X := X.on hg
        clear hg
        have GG := A.gr.trans X.G
        have hct := X.count f hn
        clear X
        go_wp2_with fail
        refine hct.mono ?_
        rintro e w9 ⟨rfl, rfl⟩
        clear hct
        go_wp2
        go_ret
        exact ⟨rfl, GG⟩
theorem lawBand_walk (A0 : Option Addr) (n0 cap0 : Nat) (z0 : List Int) (a1 : Int) (A2 : Option Addr) (n2 cap2 : Nat) (z2 : List Int) (A3 : Option Addr) (n3 cap3 : Nat) (z3 : List Bool) (W : World) (h0 : RI W A0 n0 z0) (_ : ∀ x ∈ z0, (Lit.int .i64 x).wf = true) (_ : (Lit.int .i64 a1).wf = true) (h2 : RI W A2 n2 z2) (_ : ∀ x ∈ z2, (Lit.int .i64 x).wf = true) (h3 : RB W A3 n3 z3) :
    Calls Try.prog 22 #[.slice A0 n0 cap0, .int .i64 a1, .slice A2 n2 cap2, .slice A3 n3 cap3] W fun e w' => e = .returned (.bool true) ∧ Below W.heap.size W w' := (lawBand_any A0 n0 cap0 z0 a1 A2 n2 cap2 z2 A3 n3 cap3 z3 W h0 h2 h3).mono fun _ _ h => ⟨h.1, h.2.out⟩
end Go.Proofs.Ytjobicffdcnnlaa
