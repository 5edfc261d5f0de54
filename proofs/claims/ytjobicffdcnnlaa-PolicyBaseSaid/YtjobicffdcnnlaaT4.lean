import Derived.Test.YtjobicffdcnnlaaT3
import Derived.Deep.AppendLies
/- PolicyBase. -/
namespace Go.Proofs.Ytjobicffdcnnlaa
open Go.RowKit
set_option linter.unusedSimpArgs false
set_option linter.unusedVariables false
set_option maxRecDepth 100000

/-- The policy, the configuration's block, the row of all. -/
structure PB (W w : World) (c : CF) (p g cp : Nat) (l : List Int) (k : Int) (b ga ca : Nat) (al : List Int) : Prop where
  P : Pol w p g cp c l k
  A : At W w b c
  O : w.ownsRow ga 3 1 (.slice (some ⟨ga, 0, none⟩) al.length ca) al.length (al.map (.int .i64))
  np : W.heap.size ≤ p
  ng : W.heap.size ≤ g
  na : W.heap.size ≤ ga
  bp : b ≠ p
  bg : b ≠ g
  pa : p ≠ ga
  ga_ : g ≠ ga
theorem PB.ba {W w : World} {c : CF} {p g cp : Nat} {l : List Int} {k : Int} {b ga ca : Nat} {al : List Int} (x : PB W w c p g cp l k b ga ca al) : b ≠ ga := by
  rintro rfl
  obtain ⟨cur, h1, _⟩ := own_block x.O
  have := x.A.box
  rw [h1] at this
  cases this
theorem PB.on {W w w' : World} {c : CF} {p g cp : Nat} {l : List Int} {k : Int} {b ga ca : Nat} {al : List Int} (x : PB W w c p g cp l k b ga ca al) (r : Gr w w') : PB W w' c p g cp l k b ga ca al :=
  ⟨x.P.on r, x.A.on r, own_of_block x.O (r.out.block ga (own_lt x.O)), x.np, x.ng, x.na, x.bp, x.bg, x.pa, x.ga_⟩
theorem PB.put {W w w' : World} {c : CF} {p g cp : Nat} {l : List Int} {k : Int} {b ga ca : Nat} {al : List Int} (x : PB W w c p g cp l k b ga ca al) {g' cp' : Nat} {l' : List Int} {k' : Int}
    (H : Pol w' p g' cp' c l' k') (T : Tc p g w w') (hg : w.heap.size ≤ g') : PB W w' c p g' cp' l' k' b ga ca al := by
  have h1 := x.A.gr.size
  have h2 := (Array.getElem?_eq_some_iff.1 x.A.box).1
  have h3 := own_lt x.O
  exact ⟨H, T.at_ x.A x.np x.ng x.bp x.bg, own_of_block x.O (T.block ga h3 x.pa.symm x.ga_.symm), x.np, by omega, x.na, x.bp, by omega, x.pa, by omega⟩
theorem PB.app {W w w' : World} {c : CF} {p g cp : Nat} {l : List Int} {k : Int} {b ga ca : Nat} {al : List Int} (x : PB W w c p g cp l k b ga ca al) {ga' ca' : Nat} {al' : List Int}
    (O : w'.ownsRow ga' 3 1 (.slice (some ⟨ga', 0, none⟩) al'.length ca') al'.length (al'.map (.int .i64))) (T : w.grownBy w' (some ga)) (hg : ga' = ga ∨ w.heap.size ≤ ga') : PB W w' c p g cp l k b ga' ca' al' := by
  have t : Tc ga ga w w' := Tc.grown T
  have h1 := x.A.gr.size
  have h2 := (Array.getElem?_eq_some_iff.1 x.A.box).1
  have h4 := x.P.lt
  have h5 := x.P.glt
  have := x.na; have := x.pa; have := x.ga_
  exact ⟨x.P.other t x.pa x.pa x.ga_ x.ga_, t.at_ x.A x.na x.na x.ba x.ba, O, x.np, x.ng, by omega, x.bp, x.bg, by omega, by omega⟩

set_option maxHeartbeats 4000000 in
theorem policyBase_any (A0 : Option Addr) (n0 cap0 : Nat) (z0 : List Int) (A1 : Option Addr) (n1 cap1 : Nat) (z1 : List Int) (w : World) (h0 : RI w A0 n0 z0) (h1 : RI w A1 n1 z1) :
    Calls Try.prog 18 #[.slice A0 n0 cap0, .slice A1 n1 cap1] w fun e w' => e = .returned (.bool true) ∧ Gr w w' := by
  have hf := fit_new A0 n0 cap0 z0 w h0
  have HF := Lib.hid hf
  have b1 := h1.2.1
  have H1 := Lib.hid h1
  clear hf h0 h1
  go_enter Try.func18, Try.ntmps18
  go_upto_region 1 with (fail)
  refine wp_region_lit ?_
  refine wpList_val (.slice A0 n0 cap0) w rfl (by kernel_rfl) ?_
  refine wpList_new 44 #[.slice A0 n0 cap0] rfl (by kernel_rfl) HF.out fun v w1 hv => ?_
  obtain ⟨c, hc, rfl, hg⟩ := hv
  refine wpList_val (.pointer (some ⟨w1.heap.size, 0, none⟩)) (w1.alloc (.cells zero36 36)) rfl (xalloc36 ..) ?_
  refine wpList_skip' (w1.alloc (.cells #[.int .i64 c.n, .int .i64 c.f, .int .i64 c.m, .int .i64 c.q, .int .i64 c.fresh, .int .i64 c.grace, .int .i64 c.window, .int .i64 c.t0, .int .i64 c.t1, .int .i64 c.t2, .int .i64 c.t3, .int .i64 c.tol, .int .i64 c.lo, .int .i64 c.hi, .int .i64 c.cup, .int .i64 c.cdn, .int .i64 c.pup, .int .i64 c.tup, .int .i64 c.pdn, .int .i64 c.tdn, .int .i64 c.per, .int .i64 c.far, .int .i64 c.str, .int .i64 c.pro, .int .i64 c.sec, .int .u64 c.seed] 36)) rfl (xstore36_at rfl (by kernel_rfl) (by kernel_rfl) rfl rfl (by kernel_rfl)) ?_
  have A := start_at hg c
  have hbs : w1.heap.size < (w1.alloc (.cells #[.int .i64 c.n, .int .i64 c.f, .int .i64 c.m, .int .i64 c.q, .int .i64 c.fresh, .int .i64 c.grace, .int .i64 c.window, .int .i64 c.t0, .int .i64 c.t1, .int .i64 c.t2, .int .i64 c.t3, .int .i64 c.tol, .int .i64 c.lo, .int .i64 c.hi, .int .i64 c.cup, .int .i64 c.cdn, .int .i64 c.pup, .int .i64 c.tup, .int .i64 c.pdn, .int .i64 c.tdn, .int .i64 c.per, .int .i64 c.far, .int .i64 c.str, .int .i64 c.pro, .int .i64 c.sec, .int .u64 c.seed] 36)).heap.size := by simp
  generalize w1.alloc (.cells #[.int .i64 c.n, .int .i64 c.f, .int .i64 c.m, .int .i64 c.q, .int .i64 c.fresh, .int .i64 c.grace, .int .i64 c.window, .int .i64 c.t0, .int .i64 c.t1, .int .i64 c.t2, .int .i64 c.t3, .int .i64 c.tol, .int .i64 c.lo, .int .i64 c.hi, .int .i64 c.cup, .int .i64 c.cdn, .int .i64 c.pup, .int .i64 c.tup, .int .i64 c.pdn, .int .i64 c.tdn, .int .i64 c.per, .int .i64 c.far, .int .i64 c.str, .int .i64 c.pro, .int .i64 c.sec, .int .u64 c.seed] 36) = w4 at *
  generalize w1.heap.size = b at *
  have hr := hc.rates
  have l0 := hc.lo0
  have l1 := hc.lo1
  have l2 := hc.hi0
  have l3 := hc.hi1
  have p0 := hc.per0
  have p1 := hc.per1
  clear hg HF
  as_aux_lemma =>
    have e1 : newB c c.lo = true := by unfold newB; simp [hr, l2]
    have hk := A.conf
    have hcc := A.cell
    go_wp2_with fail
    refine (new_ok c c.lo e1 _).mono ?_
    rintro e w5 ⟨p, g, rfl, H, hp, hg5, hg⟩
    replace A := A.on hg
    have hw4 := A.new
    have hw5 := A.gr.size
    have hpl := H.lt
    have hgl := H.glt
    clear hg hk hcc
    have hcc := A.cell
    have X : PB w (w5.alloc (.cells #[.int .i64 c.lo] 3)) c p g 1 [c.lo] 0 b w5.heap.size 1 [c.lo] :=
      ⟨H.on ((Gr.refl w5).alloc _), A.on ((Gr.refl w5).alloc _), ⟨rfl, .inr ⟨w5.heap.size, 1, _, rfl, Nat.le_refl _, heap_new rfl, by simp, by unfold maxLen; omega, rfl, rfl⟩⟩, by omega, by omega, by omega, by omega, by omega, by omega, by omega⟩
    go_upto_block 0 with (fail)
    generalize w5.alloc (.cells #[.int .i64 c.lo] 3) = w6 at *
    generalize w5.heap.size = ga at *
    clear hcc A H hp hg5 hw4 hw5 hpl hgl hbs e1
    as_aux_lemma =>
      go_cut [] (fun wc => Gr w wc)
      case first =>
        go_wp2_with fail
        go_loopw [7, 8] (fun t7 i wr => ∃ (kk : Nat) (g cp : Nat) (k : Int) (ga ca : Nat) (al : List Int), kk ≤ n1 ∧ kk ≤ 20 ∧ i = .int .i64 kk ∧ al.length = kk + 1 ∧ t7 = .slice (some ⟨ga, 0, none⟩) al.length ca ∧ PB w wr c p g cp (lastP c al) k b ga ca al ∧ Kept c (lastP c al)) (fun _ i _ => 20 - (intOf i).toNat)
        case atStart => exact ⟨0, g, 1, 0, ga, 1, [c.lo], by omega, by omega, rfl, rfl, rfl, by rw [lastP_one hc.rts]; exact X, by rw [lastP_one hc.rts]; exact Kept.one hc.rts ⟨by omega, l2⟩⟩
        case round =>
          clear X
          obtain ⟨kk, g, cp, k, ga, ca, al, hk1, hk2, rfl, hal, rfl, X, Ks⟩ := hrel
          by_cases q1 : kk < n1
          · by_cases q2 : kk < 20
            · as_aux_lemma =>
              obtain ⟨ad, rfl, hcell⟩ := H1.out.at_ q1
              generalize z1.getD kk 0 = y at hcell
              have y0 := u64_nonneg y
              obtain ⟨x, hx, x0, x1⟩ := u64_mod y (c.hi - c.lo + 1) (by omega)
              obtain ⟨f, hf⟩ : ∃ f, c.lo + x = f := ⟨_, rfl⟩
              have f0 : c.lo ≤ f := by omega
              have f1 : f ≤ c.hi := by omega
              go_upto_region 9 with (fail)
              have hcl : ∀ s : Gw wr, s.val.cell? (ad.add kk) = some (.int .i64 y) := fun s => (X.A.gr.trans s.gr).cell_some hcell
              have hcs : ∀ s : Gw wr, ∀ off, s.val.cell? ⟨b, off, none⟩ = cellAt c off := fun s => X.A.cellG s
              refine wp_region_quiet_gw (by kernel_rfl) (by kernel_rfl) ?_
              repeat (go_big_quiet_step (fail))
              refine wpQuiet_nil fun s => ?_
              replace X := X.on s.gr
              generalize s.val = w8 at *
              clear hcl hcs hcell hx y0 x0 x1 hf
              as_aux_lemma =>
                have pm : putB c f = true := by unfold putB; simp [f0, f1]
                have hs1 : (lastP c al).length ≤ 1000 := by have := Ks.len; omega
                go_wp2_with fail
                refine (put_v X.P Ks.pos hs1 hc.rts f pm _ (lastP_put hc.rts al f)).mono ?_
                rintro e w9 ⟨g', cp', rfl, HP1, T, hg'⟩
                replace X := X.put HP1 T hg'
                have Kp := Ks.put hc.rts ⟨f0, f1⟩
                rw [lastP_put hc.rts al f] at Kp
                clear HP1 T hg'
                obtain ⟨i0, hi, hz0, hz1, hz2⟩ := info_parts info3
                have hw := X.O.alloc (.cells #[.int .i64 f] 3)
                have hgl := own_lt X.O
                rw [hal] at hw
                go_wp2_with (at_builtin; refine wpList_append_lies _ rfl _ _ 45 rfl ga 3 i0 (.int .i64 0) 1 8 Try.underlying45 hi hz0 hz1 hz2 rfl (by decide) _ _ _ rfl hw ⟨w9.heap.size, 0, none⟩ 1 1 [.int .i64 f] rfl ?qc1 ?qc2 ?qc3 (by omega) ?qc4 ?qc5 ?qc6 _ rfl ?_)
                case qc1 => simp
                case qc2 =>
                  intro j u hj
                  have hj0 : j = 0 := by
                    have := (List.getElem?_eq_some_iff.1 hj).1
                    simp at this; exact this
                  subst hj0
                  rw [Addr.add_lit]
                  rw [← hj]
                  exact cell_in (heap_new rfl) rfl
                case qc3 => intro u hu; simp at hu; subst hu; rfl
                case qc4 => unfold maxLen; omega
                case qc5 => omega
                case qc6 => simp; omega
                intro ga' ca' w10 hown hgrow hat hlt
                have eL : (al ++ [f]).length = kk + 1 + 1 := by simp [hal]
                have hown' : w10.ownsRow ga' 3 1 (.slice (some ⟨ga', 0, none⟩) (al ++ [f]).length ca') (al ++ [f]).length ((al ++ [f]).map (.int .i64)) := by rw [eL]; exact own_re (by simpa using hown)
                replace X := (X.on ((Gr.refl w9).alloc (.cells #[.int .i64 f] 3))).app hown' hgrow (hat.elim (fun e => Or.inl (Option.some.inj e).symm) (fun e => Or.inr (by rw [e]; simp)))
                clear hown hown' hgrow hat hlt hw hgl
                obtain ⟨N, hN⟩ : ∃ N, kk + 1 + 1 = N := ⟨_, rfl⟩
                rw [hN]
                rw [hN] at eL
                as_aux_lemma =>
                  obtain ⟨P, hP⟩ : ∃ P : Nat, c.per = (P : Int) := ⟨c.per.toNat, by omega⟩
                  have hPn : c.per.toNat = P := by omega
                  have p2 : 1 ≤ P := by omega
                  have p3 : P ≤ 4 := by omega
                  obtain ⟨hd, hhd⟩ : ∃ x, headP (lastP c (al ++ [f])) = x := ⟨_, rfl⟩
                  obtain ⟨L, hL⟩ : ∃ x, (lastP c (al ++ [f])).length = x := ⟨_, rfl⟩
                  have hLm : min (N : Int) (P : Int) = (L : Int) := by rw [← hL, lastP_length, eL, hPn]; omega
                  have hL1 : L ≤ 1000 := by omega
                  have hix : ∀ s : Gw w10, s.val.cell? ⟨ga', (max ((N : Int) - (P : Int)) 0).toNat, none⟩ = some (.int .i64 hd) := fun s => by
                    have e : (max ((N : Int) - (P : Int)) 0).toNat = N - P := by omega
                    rw [e, own_cell (X.on s.gr).O (j := N - P) (by omega), ← hhd, lastP_head, eL, hPn]
                  have hcs : ∀ s : Gw w10, ∀ off, s.val.cell? ⟨b, off, none⟩ = cellAt c off := fun s => X.A.cellG s
                  have HB := Lib.hid (fun (w' : World) (G : Gr w10 w') => base_v (X.on G).P Kp.pos hd hhd)
                  have HA := Lib.hid (fun (w' : World) (G : Gr w10 w') => all_any (X.on G).P Kp.pos (by rw [hL]; exact hL1))
                  rw [hL] at HA
                  clear hhd hL
                  go_upto_region 13 with (fail)
                  refine wp_region_grp (fun w' => ∃ s : Gw w10, w' = s.val) [([0, 2, 3, 4, 5, 6, 7, 8, 9, 10], [1]), ([11, 12, 13, 16, 17, 18, 19, 20], [14]), ([15, 21, 22], [])] (by kernel_rfl) (by as_aux_lemma => kernel_rfl) (by as_aux_lemma => kernel_rfl) (by kernel_rfl) (fun d v c a w h => by cases d <;> exact h) (Gr.fresh w10).in_ ?_
                  simp only [wpGrp, wpSeqC, List.filterMap_cons, List.filterMap_nil, List.getElem?_toArray, List.getElem?_cons_succ, List.getElem?_cons_zero]
                  show wpQuiet _ _ _ _ [_, _, _, _, _, _, _, _, _, _] _
                  repeat (go_big_quiet_step (fail))
                  refine wpQuiet_nil ?_
                  refine wpOp_gr 57 50 #[.pointer (some ⟨p, 0, none⟩)] (.int .i64 hd) rfl rfl rfl (by kernel_rfl) (Gr.fresh w10) ((HB.out _ (Gr.fresh w10)).mono fun _ _ ⟨r1, r2⟩ => ⟨r1, r2 ▸ Gr.refl _⟩) fun w11 G11 _ => ?_
                  simp only [Act.put, List.setIfInBounds_toArray, List.set_cons_succ, List.set_cons_zero]
                  show wpQuiet _ _ _ _ [_, _, _, _, _, _, _, _] _
                  repeat (go_big_quiet_step (fail))
                  refine wpQuiet_nil ?_
                  refine wpOp_new (R := fun v w' => ∃ g8 cap8, v = .slice (some ⟨g8, 0, none⟩) L cap8) 70 48 #[.pointer (some ⟨p, 0, none⟩)] rfl rfl rfl (by kernel_rfl) G11 ((HA.out _ G11).mono fun _ _ ⟨g8, cap8, r1, _, _, r2⟩ => ⟨_, r1, ⟨g8, cap8, rfl⟩, r2⟩) fun v12 w12 hv12 G12 _ => ?_
                  obtain ⟨g8, cap8, rfl⟩ := hv12
                  simp only [Act.put, List.setIfInBounds_toArray, List.set_cons_succ, List.set_cons_zero]
                  show wpQuiet _ _ _ _ [_, _, _] _
                  repeat (go_big_quiet_step (fail))
                  refine wpQuiet_nil ?_
                  replace X := X.on G12
                  clear hix hcs HB HA G11 G12
                  go_wp2
                  go_roundw
                  case rel => exact ⟨kk + 1, _, _, _, ga', ca', al ++ [f], by omega, by omega, by first | rfl | go_num, by simp [hal], by rw [eL], X, Kp⟩
                  case measure => simp [intOf]; omega
            · go_wp2
              go_meet
              case rel => exact X.A.gr
          · go_wp2
            go_meet
            case rel => exact X.A.gr
      case rest =>
        clear X
        go_wp2_with fail
        refine (told15_any _).mono ?_
        rintro e w8 ⟨rfl, hg⟩
        have GG := hcut.trans hg
        clear hg hcut
        go_wp2
        go_ret
        exact ⟨rfl, GG⟩
theorem policyBase_walk (A0 : Option Addr) (n0 cap0 : Nat) (z0 : List Int) (A1 : Option Addr) (n1 cap1 : Nat) (z1 : List Int) (W : World) (h0 : RI W A0 n0 z0) (_ : ∀ x ∈ z0, (Lit.int .i64 x).wf = true) (h1 : RI W A1 n1 z1) (_ : ∀ x ∈ z1, (Lit.int .i64 x).wf = true) :
    Calls Try.prog 18 #[.slice A0 n0 cap0, .slice A1 n1 cap1] W fun e w' => e = .returned (.bool true) ∧ Below W.heap.size W w' := (policyBase_any A0 n0 cap0 z0 A1 n1 cap1 z1 W h0 h1).mono fun _ _ h => ⟨h.1, h.2.out⟩
end Go.Proofs.Ytjobicffdcnnlaa
