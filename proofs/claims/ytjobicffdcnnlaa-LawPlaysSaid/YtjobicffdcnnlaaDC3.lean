import Derived.Test.YtjobicffdcnnlaaDC2
/- The document's calm: Next, walked. -/
namespace Go.Proofs.Ytjobicffdcnnlaa
open Go.RowKit
set_option linter.unusedSimpArgs false
set_option linter.unusedVariables false
set_option maxRecDepth 100000

set_option maxHeartbeats 4000000 in
theorem rc_next_any {w : World} {p g : Nat} {v : Value} {up dn : Int} {l : List Int} (h : RK w p g v up dn l) (u0 : 0 ≤ up) (u1 : up ≤ 60) (d0 : 0 ≤ dn) (d1 : dn ≤ 60) (hl : l.length ≤ 900) (c x : Int) :
    Calls Try.prog 95 #[.pointer (some ⟨p, 0, none⟩), .int .i64 c, .int .i64 x] w fun e w' => ∃ g' v', e = .returned (.int .i64 (calV up dn (calL up dn l x) c)) ∧ RK w' p g' v' up dn (calL up dn l x) ∧ Tc p p w w' ∧ w.heap.size ≤ g' := by
  obtain ⟨U, rfl⟩ : ∃ U : Nat, up = (U : Int) := ⟨up.toNat, by omega⟩
  obtain ⟨D, rfl⟩ : ∃ D : Nat, dn = (D : Int) := ⟨dn.toNat, by omega⟩
  obtain ⟨M, hM⟩ : ∃ M : Nat, max (U : Int) D = (M : Int) := ⟨max U D, by omega⟩
  obtain ⟨y, hy⟩ : ∃ y, clampM x = y := ⟨_, rfl⟩
  obtain ⟨L, hL⟩ : ∃ L, calL (U : Int) D l x = L := ⟨_, rfl⟩
  have hL0 : L = lastN (M + 1) (l ++ [y]) := by rw [← hL, ← hy]; unfold calL; rw [hM]; rfl
  have hV : calV (U : Int) D L c = min (maxZ (lastN (D + 1) L)) (max (clampM c) (minZ (lastN (U + 1) L))) := rfl
  have HV := Lib.hid hV
  rw [hL]
  obtain ⟨N, hN⟩ : ∃ N, l.length = N := ⟨_, rfl⟩
  have hlt := h.lt
  have hpw := h.lt
  clear hL hV
  go_enter Try.func95, Try.ntmps95
  go_upto_region 1 with (fail)
  refine wp_region_lit ?_
  refine wpList_val (.pointer (some ⟨p, 0, none⟩)) w rfl (by kernel_rfl) ?_
  refine wpList_val (.slice (some ⟨w.heap.size, 0, none⟩) 0 0) (w.alloc (.cells #[] 3)) rfl (by kernel_rfl) ?_
  have gr1 : Gr w (w.alloc (.cells #[] 3)) := (Gr.refl w).alloc _
  have own0 : (w.alloc (.cells #[] 3)).ownsRow w.heap.size 3 1 (.slice (some ⟨w.heap.size, 0, none⟩) 0 0) 0 [] := World.ownsRow_made w #[] 0 (Nat.le_refl _) (Nat.zero_le _) rfl
  obtain ⟨s0, hs0⟩ : ∃ s0, w.heap.size = s0 := ⟨_, rfl⟩
  have hsz1 : (w.alloc (.cells #[] 3)).heap.size = s0 + 1 := by simp [hs0]
  rw [hs0] at own0 ⊢
  generalize w.alloc (.cells #[] 3) = w1 at *
  refine wpList_val (.pointer (some ⟨p, 0, none⟩)) w1 rfl (by kernel_rfl) ?_
  refine wpList_val (.pointer (some ⟨p, 0, none⟩)) w1 rfl (by kernel_rfl) ?_
  refine wpList_val (.pointer (some ⟨p, 2, none⟩)) w1 rfl (by kernel_rfl) ?_
  refine wpList_val v w1 rfl (run_load45 rfl (by kernel_rfl) (((h.on gr1).cell 2).trans (rkAt_2 _ _ _))) ?_
  refine list_copy45 rfl 19 rfl (.tmp 14) (.tmp 18) rfl (by kernel_rfl) (by kernel_rfl) ((h.on gr1).rd (by omega)) own0 (by omega) fun g6 c6 w6 hown hgrow hat hlt6 => ?_
  have G6 : Gr w w6 := ⟨gr1.out.grown hgrow gr1.size (fun k hk => by have := (Option.some.inj hk); omega)⟩
  have hg6 : s0 ≤ g6 := hat.elim (fun e => by omega) (fun e => by omega)
  clear hgrow hat own0 gr1 hsz1
  refine wpList_val (.int .i64 x) w6 rfl (by kernel_rfl) ?_
  refine wpList_new (R := fun r w' => r = .int .i64 y ∧ w6 = w') 106 #[.int .i64 x] rfl (by kernel_rfl) ((million_any x w6).mono fun e w' ⟨r1, r2⟩ => ⟨_, r1, by rw [hy], r2⟩) fun r w7 hr => ?_
  obtain ⟨rfl, rfl⟩ := hr
  refine wpList_val (.slice (some ⟨w6.heap.size, 0, none⟩) 1 1) (w6.alloc (.cells #[.int .i64 y] 3)) rfl (by kernel_rfl) ?_
  have R1 : RI (w6.alloc (.cells #[.int .i64 y] 3)) (some ⟨w6.heap.size, 0, none⟩) 1 [y] := RI.new1 (heap_new rfl)
  have G7 := G6.alloc (.cells #[.int .i64 y] 3)
  have O7 := hown.alloc (.cells #[.int .i64 y] 3)
  refine list_app45 (l := l) (ys := [y]) rfl 23 rfl (.tmp 19) (.tmp 22) rfl (by kernel_rfl) ⟨w6.heap.size, 0, none⟩ 1 1 (by kernel_rfl) R1 (Nat.le_refl _) O7 (by omega) (by have := G7.size; omega) (N + 1) (by omega) fun g8 c8 w8 hown8 hgrow hat hlt8 => ?_
  have G8 : Gr w w8 := ⟨G7.out.grown hgrow G7.size (fun k hk => by have e : g6 = k := Option.some.inj hk; omega)⟩
  have hg8 : s0 ≤ g8 := hat.elim (fun e => by have e : g6 = g8 := Option.some.inj e; omega) (fun e => by have := G7.size; omega)
  clear hgrow hat O7 G7 R1 hown G6 hg6 hlt6
  refine wpList_val (.pointer (some ⟨p, 0, none⟩)) w8 rfl (by kernel_rfl) ?_
  refine wpList_new (R := fun r w' => r = .int .i64 ((M : Int) + 1) ∧ Gr w8 w') 107 #[.pointer (some ⟨p, 0, none⟩)] rfl (by kernel_rfl) ((r_cmost_any (h.on G8) u0 u1 d0 d1).mono fun e w' ⟨r1, r2⟩ => ⟨_, r1, by rw [hM], r2⟩) fun r w9 hr => ?_
  obtain ⟨rfl, G89⟩ := hr
  have G9 := G8.trans G89
  have hlen : (l ++ [y]).length = N + 1 := by simp [hN]
  rw [hlen] at hown8
  have hown9 := own_re (hown8.kept G89.grown (none_or _))
  obtain ⟨cur, q1, q2, q3, _⟩ := own_block hown9
  obtain ⟨O, hO⟩ : ∃ O, N + 1 - (M + 1) = O := ⟨_, rfl⟩
  obtain ⟨R, hR⟩ : ∃ R, N + 1 - O = R := ⟨_, rfl⟩
  obtain ⟨C, hC⟩ : ∃ C, c8 - O = C := ⟨_, rfl⟩
  refine wpList_new (R := fun r w' => r = .slice (some ⟨g8, O, none⟩) R C ∧ w9 = w') 91 #[.slice (some ⟨g8, 0, none⟩) (N + 1) c8, .int .i64 ((M : Int) + 1)] rfl (by kernel_rfl) ((last_any g8 (N + 1) c8 (M + 1) w9 (by omega) (by omega) (by omega) (by omega) q2 q3).mono fun e w' ⟨r1, r2⟩ => ⟨_, r1, by rw [hO, hR, hC], r2⟩) fun r w10 hr => ?_
  obtain ⟨rfl, rfl⟩ := hr
  refine wpList_val (.pointer (some ⟨p, 0, none⟩)) w9 rfl (by kernel_rfl) ?_
  refine wpList_val (.pointer (some ⟨p, 2, none⟩)) w9 rfl (by kernel_rfl) ?_
  refine wpList_skip' (w9.setCell ⟨p, 2, none⟩ (.slice (some ⟨g8, O, none⟩) R C)) rfl (run_store45 rfl (by kernel_rfl) (by kernel_rfl) (((h.on G9).cell 2).trans (rkAt_2 _ _ _)) ((h.on G9).froz 2)) ?_
  have hLl : L.length = R := by rw [hL0]; unfold lastN; rw [List.length_drop, hlen, hO, hR]
  have hpg : p ≠ g8 := by omega
  have hcel : ∀ j, j < R → (w9.setCell ⟨p, 2, none⟩ (.slice (some ⟨g8, O, none⟩) R C)).cell? ⟨g8, O + j, none⟩ = some (.int .i64 (L.getD j 0)) := fun j hj => by
    refine (World.cell?_setCell_other _ ⟨p, 2, none⟩ ⟨g8, O + j, none⟩ _ (by intro e; simp at e <;> omega)).trans ?_
    rw [own_cell hown9 (by omega), hL0]
    unfold lastN
    rw [hlen, hO]
    simp [List.getD_eq_getElem?_getD]
  have H10 : RK (w9.setCell ⟨p, 2, none⟩ (.slice (some ⟨g8, O, none⟩) R C)) p g8 (.slice (some ⟨g8, O, none⟩) R C) U D L := by
    refine ⟨set_block (h.on G9).box, .inr ⟨O, C, by rw [hLl], by omega, by unfold maxLen at *; omega, fun j hj => hcel j (by omega), ?_, hpg⟩⟩
    simp [World.setCell]; exact own_lt hown9
  have T10 : Tc p p w (w9.setCell ⟨p, 2, none⟩ (.slice (some ⟨g8, O, none⟩) R C)) := (Tc.of_gr G9).trans (Tc.cellp p p 2 _ _)
  have hCm : R ≤ C ∧ C ≤ maxLen := by unfold maxLen at *; omega
  have hR1 : 1 ≤ R := by omega
  have hRm : R ≤ 1000 := by omega
  clear h G8 G89 G9 hown8 hown9 q1 q2 q3 hL0 hlen hlt8 hlt hN
  generalize World.setCell _ _ _ = wa at *
  as_aux_lemma =>
    go_upto_region 2 with (fail)
    simp only [Act.put, List.setIfInBounds_toArray, List.set_cons_succ, List.set_cons_zero]
    have hcs : ∀ s : Gw wa, ∀ off, s.val.cell? ⟨p, off, none⟩ = rkAt (U : Int) D (.slice (some ⟨g8, O, none⟩) R C) off := fun s => (H10.on s.gr).cell
    obtain ⟨ou, hou⟩ : ∃ ou, O + (R - (U + 1)) = ou := ⟨_, rfl⟩
    obtain ⟨nu, hnu⟩ : ∃ nu, R - (R - (U + 1)) = nu := ⟨_, rfl⟩
    obtain ⟨cu, hcu⟩ : ∃ cu, C - (R - (U + 1)) = cu := ⟨_, rfl⟩
    obtain ⟨od, hod⟩ : ∃ od, O + (R - (D + 1)) = od := ⟨_, rfl⟩
    obtain ⟨nd, hnd⟩ : ∃ nd, R - (R - (D + 1)) = nd := ⟨_, rfl⟩
    obtain ⟨cd, hcd⟩ : ∃ cd, C - (R - (D + 1)) = cd := ⟨_, rfl⟩
    have hla : ∀ (P : Nat) (w' : World), P ≤ 60 → Calls Try.prog 91 #[.slice (some ⟨g8, O, none⟩) R C, .int .i64 ((P : Int) + 1)] w' fun e w'' => e = .returned (.slice (some ⟨g8, O + (R - (P + 1)), none⟩) (R - (R - (P + 1))) (C - (R - (P + 1)))) ∧ Gr w' w'' := fun P w' hP =>
      (last_off g8 O R C (P + 1) w' (by omega) (by omega) (by omega) (by omega) hCm.1 hCm.2).mono fun _ _ ⟨r1, r2⟩ => ⟨r1, r2 ▸ Gr.refl _⟩
    have HLA := Lib.hid hla
    clear hla
    have hU6 : U ≤ 60 := by omega
    have hD6 : D ≤ 60 := by omega
    refine wp_region_quiet_gw (by kernel_rfl) (by kernel_rfl) ?_
    repeat (go_big_quiet_step ((go_at_call 91; exact q_gr (HLA.out _ _ (by assumption)))))
    refine wpQuiet_nil fun s => ?_
    replace H10 := H10.on s.gr
    replace T10 := T10.trans (Tc.of_gr s.gr)
    have hcel2 : ∀ j, j < R → s.val.cell? ⟨g8, O + j, none⟩ = some (.int .i64 (L.getD j 0)) := fun j hj => s.gr.cell_some (hcel j hj)
    generalize s.val = wb at *
    rw [hou, hnu, hcu, hod, hnd, hcd]
    clear hcs HLA hcel s
    obtain ⟨uL, huL⟩ : ∃ uL, lastN (U + 1) L = uL := ⟨_, rfl⟩
    obtain ⟨dL, hdL⟩ : ∃ dL, lastN (D + 1) L = dL := ⟨_, rfl⟩
    have hul : uL.length = nu := by rw [← huL]; unfold lastN; rw [List.length_drop, hLl]; exact hnu
    have hdl : dL.length = nd := by rw [← hdL]; unfold lastN; rw [List.length_drop, hLl]; exact hnd
    have RU : ∀ w', Gr wb w' → RI w' (some ⟨g8, ou, none⟩) nu uL := fun w' r => ⟨hul, by omega, fun _ => ⟨_, rfl, fun j hj => by
      rw [Addr.add_lit, ← hou, Nat.add_assoc, r.cell_some (hcel2 _ (by omega)), ← huL]
      unfold lastN
      rw [hLl]
      simp [List.getD_eq_getElem?_getD]⟩⟩
    have RD : ∀ w', Gr wb w' → RI w' (some ⟨g8, od, none⟩) nd dL := fun w' r => ⟨hdl, by omega, fun _ => ⟨_, rfl, fun j hj => by
      rw [Addr.add_lit, ← hod, Nat.add_assoc, r.cell_some (hcel2 _ (by omega)), ← hdL]
      unfold lastN
      rw [hLl]
      simp [List.getD_eq_getElem?_getD]⟩⟩
    have hnu1 : 1 ≤ nu := by omega
    have hnd1 : 1 ≤ nd := by omega
    have hnu2 : nu ≤ 1000 := by omega
    have hnd2 : nd ≤ 1000 := by omega
    have HF := HV.out
    rw [huL, hdL] at HF
    have HF2 := Lib.hid HF
    clear HF HV hcel2 hou hnu hcu hod hnd hcd huL hdL hCm
    as_aux_lemma =>
      go_upto_region 3 with (fail)
      have hu0 : ∀ s : Gw wb, s.val.cell? ⟨g8, ou, none⟩ = some (.int .i64 (minT uL 0)) := fun s => by
        obtain ⟨ad, e, hh⟩ := (RU _ s.gr).at_ (k := 0) (by omega)
        cases e
        rw [Addr.add_lit, Nat.add_zero] at hh
        rw [minT_zero]; exact hh
      have hd0 : ∀ s : Gw wb, s.val.cell? ⟨g8, od, none⟩ = some (.int .i64 (maxT dL 0)) := fun s => by
        obtain ⟨ad, e, hh⟩ := (RD _ s.gr).at_ (k := 0) (by omega)
        cases e
        rw [Addr.add_lit, Nat.add_zero] at hh
        rw [maxT_zero]; exact hh
      refine wp_region_quiet_gw (by kernel_rfl) (by kernel_rfl) ?_
      repeat (go_big_quiet_step (fail))
      refine wpQuiet_nil fun s => ?_
      replace H10 := H10.on s.gr
      replace T10 := T10.trans (Tc.of_gr s.gr)
      have RU' := RU _ s.gr
      have RD' := RD _ s.gr
      generalize s.val = wc' at *
      clear hu0 hd0 RU RD s
      as_aux_lemma =>
        go_upto_block 0 with (fail)
        go_cut [9] (fun s9 wx => s9 = .int .i64 (minT uL nu) ∧ wc' = wx)
        case first =>
          clear H10 T10 RD'
          go_wp2_with fail
          go_loop [9, 11] (fun t i => ∃ k : Nat, k ≤ nu ∧ i = .int .i64 k ∧ t = .int .i64 (minT uL k)) (fun _ i => nu - (intOf i).toNat)
          case atStart => exact ⟨0, by omega, rfl, rfl⟩
          case round =>
            obtain ⟨k, hk, rfl, rfl⟩ := hrel
            by_cases q : k < nu
            · obtain ⟨ad', e', hcx⟩ := RU'.at_ q
              cases e'
              rw [Addr.add_lit] at hcx
              have hs := Lib.hid (minT_step0 uL (k := k) (by omega))
              generalize uL.getD k 0 = x1 at hcx hs
              generalize minT uL k = m1 at *
              go_wp2
              all_goals
                go_round
                case rel => exact ⟨k + 1, by omega, by first | rfl | go_num, by rw [hs.out]; try (congr 1; omega)⟩
                case measure => simp [intOf]; omega
            · go_wp2
              go_meet
              case rel => exact ⟨by rw [show k = nu by omega], rfl⟩
        case rest =>
          obtain ⟨rfl, rfl⟩ := hcut
          as_aux_lemma =>
            go_upto_block 2 with (fail)
            go_cut [10] (fun s10 wx => s10 = .int .i64 (maxT dL nd) ∧ wc' = wx)
            case first =>
              clear H10 T10 RU'
              go_wp2_with fail
              go_loop [10, 12] (fun t i => ∃ k : Nat, k ≤ nd ∧ i = .int .i64 k ∧ t = .int .i64 (maxT dL k)) (fun _ i => nd - (intOf i).toNat)
              case atStart => exact ⟨0, by omega, rfl, rfl⟩
              case round =>
                obtain ⟨k, hk, rfl, rfl⟩ := hrel
                by_cases q : k < nd
                · obtain ⟨ad', e', hcx⟩ := RD'.at_ q
                  cases e'
                  rw [Addr.add_lit] at hcx
                  have hs := Lib.hid (maxT_step0 dL (k := k) (by omega))
                  generalize dL.getD k 0 = x1 at hcx hs
                  generalize maxT dL k = m1 at *
                  go_wp2
                  all_goals
                    go_round
                    case rel => exact ⟨k + 1, by omega, by first | rfl | go_num, by rw [hs.out]; try (congr 1; omega)⟩
                    case measure => simp [intOf]; omega
                · go_wp2
                  go_meet
                  case rel => exact ⟨by rw [show k = nd by omega], rfl⟩
            case rest =>
              obtain ⟨rfl, rfl⟩ := hcut
              have hF := HF2.out
              unfold maxZ minZ at hF
              rw [hul, hdl] at hF
              have HF3 := Lib.hid hF
              have hmil := million_any c
              clear hF HF2
              generalize minT uL nu = mn at *
              generalize maxT dL nd = mx at *
              generalize clampM c = cc at *
              have hfin : s0 ≤ g8 := hg8
              clear RU' RD'
              as_aux_lemma =>
                go_wp2_with fail
                refine (hmil _).mono ?_
                rintro e wd ⟨rfl, rfl⟩
                go_wp2
                all_goals
                  go_ret
                  exact ⟨g8, _, ret_int (by rw [HF3.out]), H10, T10, by omega⟩
end Go.Proofs.Ytjobicffdcnnlaa
