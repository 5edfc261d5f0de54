import Derived.Test.YtjobicffdcnnlaaT1
import Derived.Test.YtjobicffdcnnlaaQ7
import Derived.Deep.CutBlock
import Derived.Deep.DeepCutAuto
/- PolicyRises. -/
namespace Go.Proofs.Ytjobicffdcnnlaa
open Go.RowKit
set_option linter.unusedSimpArgs false
set_option linter.unusedVariables false
set_option maxRecDepth 100000

/-- Two policies of one configuration, apart. -/
structure P2 (W w : World) (c : CF) (p g cp : Nat) (l : List Int) (k : Int) (q h cq : Nat) (m : List Int) (j : Int) : Prop where
  P : Pol w p g cp c l k
  R : Pol w q h cq c m j
  G : Gr W w
  np : W.heap.size ≤ p
  ng : W.heap.size ≤ g
  nq : W.heap.size ≤ q
  nh : W.heap.size ≤ h
  pq : p ≠ q
  ph : p ≠ h
  gq : g ≠ q
  gh : g ≠ h
theorem P2.symm {W w : World} {c : CF} {p g cp : Nat} {l : List Int} {k : Int} {q h cq : Nat} {m : List Int} {j : Int} (x : P2 W w c p g cp l k q h cq m j) : P2 W w c q h cq m j p g cp l k :=
  ⟨x.R, x.P, x.G, x.nq, x.nh, x.np, x.ng, x.pq.symm, x.gq.symm, x.ph.symm, x.gh.symm⟩
theorem P2.left {W w w' : World} {c : CF} {p g cp : Nat} {l : List Int} {k : Int} {q h cq : Nat} {m : List Int} {j : Int} (x : P2 W w c p g cp l k q h cq m j) {g' cp' : Nat} {l' : List Int} {k' : Int}
    (H : Pol w' p g' cp' c l' k') (T : Tc p g w w') (hg : g' = g ∨ w.heap.size ≤ g') : P2 W w' c p g' cp' l' k' q h cq m j := by
  have h1 := x.R.lt
  have h2 := x.R.glt
  have h3 := x.G.size
  have := x.ng; have := x.gq; have := x.gh
  exact ⟨H, x.R.other T x.pq.symm x.gq.symm x.ph.symm x.gh.symm, T.gr x.G x.np x.ng, x.np, by omega, x.nq, x.nh, x.pq, x.ph, by omega, by omega⟩
theorem P2.on {W w w' : World} {c : CF} {p g cp : Nat} {l : List Int} {k : Int} {q h cq : Nat} {m : List Int} {j : Int} (x : P2 W w c p g cp l k q h cq m j) (r : Gr w w') : P2 W w' c p g cp l k q h cq m j :=
  ⟨x.P.on r, x.R.on r, x.G.trans r, x.np, x.ng, x.nq, x.nh, x.pq, x.ph, x.gq, x.gh⟩

set_option maxHeartbeats 4000000 in
theorem policyRises_any (A0 : Option Addr) (n0 cap0 : Nat) (z0 : List Int) (a1 a2 : Int) (A3 : Option Addr) (n3 cap3 : Nat) (z3 : List Int) (A4 : Option Addr) (n4 cap4 : Nat) (z4 : List Int) (w : World) (h0 : RI w A0 n0 z0) (h3 : RI w A3 n3 z3) (h4 : RI w A4 n4 z4) :
    Calls Try.prog 17 #[.slice A0 n0 cap0, .int .i64 a1, .int .i64 a2, .slice A3 n3 cap3, .slice A4 n4 cap4] w fun e w' => e = .returned (.bool true) ∧ Gr w w' := by
  have hf := fit_new A0 n0 cap0 z0 w h0
  have HF := Lib.hid hf
  have b3 := h3.2.1
  have b4 := h4.2.1
  have H3 := Lib.hid h3
  have H4 := Lib.hid h4
  clear hf h0 h3 h4
  have u1 := u64_nonneg a1
  have u2 := u64_nonneg a2
  go_enter Try.func17, Try.ntmps17
  go_upto_region 1 with (fail)
  refine wp_region_lit ?_
  refine wpList_val (.slice A0 n0 cap0) w rfl (by kernel_rfl) ?_
  refine wpList_new 44 #[.slice A0 n0 cap0] rfl (by kernel_rfl) HF.out fun v w1 hv => ?_
  obtain ⟨c, hc, rfl, hg⟩ := hv
  refine wpList_val (.pointer (some ⟨w1.heap.size, 0, none⟩)) (w1.alloc (.cells zero36 36)) rfl (xalloc36 ..) ?_
  refine wpList_skip' (w1.alloc (.cells #[.int .i64 c.n, .int .i64 c.f, .int .i64 c.m, .int .i64 c.q, .int .i64 c.fresh, .int .i64 c.grace, .int .i64 c.window, .int .i64 c.t0, .int .i64 c.t1, .int .i64 c.t2, .int .i64 c.t3, .int .i64 c.tol, .int .i64 c.lo, .int .i64 c.hi, .int .i64 c.cup, .int .i64 c.cdn, .int .i64 c.pup, .int .i64 c.tup, .int .i64 c.pdn, .int .i64 c.tdn, .int .i64 c.per, .int .i64 c.far, .int .i64 c.str, .int .i64 c.pro, .int .i64 c.sec, .int .u64 c.seed] 36)) rfl (xstore36_at rfl (by kernel_rfl) (by kernel_rfl) rfl rfl (by kernel_rfl)) ?_
  have A := start_at hg c
  have hbs : w1.heap.size < (w1.alloc (.cells #[.int .i64 c.n, .int .i64 c.f, .int .i64 c.m, .int .i64 c.q, .int .i64 c.fresh, .int .i64 c.grace, .int .i64 c.window, .int .i64 c.t0, .int .i64 c.t1, .int .i64 c.t2, .int .i64 c.t3, .int .i64 c.tol, .int .i64 c.lo, .int .i64 c.hi, .int .i64 c.cup, .int .i64 c.cdn, .int .i64 c.pup, .int .i64 c.tup, .int .i64 c.pdn, .int .i64 c.tdn, .int .i64 c.per, .int .i64 c.far, .int .i64 c.str, .int .i64 c.pro, .int .i64 c.sec, .int .u64 c.seed] 36)).heap.size := by simp
  generalize w1.alloc (.cells #[.int .i64 c.n, .int .i64 c.f, .int .i64 c.m, .int .i64 c.q, .int .i64 c.fresh, .int .i64 c.grace, .int .i64 c.window, .int .i64 c.t0, .int .i64 c.t1, .int .i64 c.t2, .int .i64 c.t3, .int .i64 c.tol, .int .i64 c.lo, .int .i64 c.hi, .int .i64 c.cup, .int .i64 c.cdn, .int .i64 c.pup, .int .i64 c.tup, .int .i64 c.pdn, .int .i64 c.tdn, .int .i64 c.per, .int .i64 c.far, .int .i64 c.str, .int .i64 c.pro, .int .i64 c.sec, .int .u64 c.seed] 36) = w2 at *
  generalize w1.heap.size = b at *
  have hr := hc.rates
  have l0 := hc.lo0
  have l2 := hc.hi0
  have l3 := hc.hi1
  clear hg HF
  as_aux_lemma =>
    obtain ⟨x, hx, x0, x1⟩ := u64_mod a1 10001 (by omega)
    obtain ⟨y, hy, y0, y1⟩ := u64_mod a2 10001 (by omega)
    go_upto_if 37 with (fail)
    go_cut [12, 13] (fun s12 s13 wc => ∃ x y : Int, s12 = .int .i64 x ∧ s13 = .int .i64 y ∧ 0 ≤ x ∧ x ≤ y ∧ y ≤ 10000 ∧ wc = w2)
    case first =>
      by_cases hxy : y < x
      · go_wp2
        go_meet
        case rel => exact ⟨y, x, rfl, rfl, by omega, by omega, by omega, rfl⟩
      · go_wp2
        go_meet
        case rel => exact ⟨x, y, rfl, rfl, by omega, by omega, by omega, rfl⟩
    case rest =>
      clear hx hy x0 x1 y0 y1 u1 u2
      clear x y
      obtain ⟨x, y, rfl, rfl, x0, xy, y1, rfl⟩ := hcut
      as_aux_lemma =>
        have hk := A.conf
        obtain ⟨m1, m2, m3, m4⟩ := bounds_mono hr x0 xy y1
        have hb1 := bounds_any c x
        have hb2 := bounds_any c y
        generalize loB c x = lx at *
        generalize hiB c x = hx at *
        generalize loB c y = ly at *
        generalize hiB c y = hy at *
        go_wp2_with fail
        refine (hb1 _).mono ?_
        rintro e w3 ⟨rfl, hg⟩
        replace A := A.on hg
        have s3 := hg.size
        clear hg hk
        have hk := A.conf
        go_wp2_with fail
        refine (hb2 _).mono ?_
        rintro e w4 ⟨rfl, hg⟩
        replace A := A.on hg
        have s4 := hg.size
        clear hg hk hb1 hb2
        go_upto_region 9 with (fail)
        have e1 : newB c c.lo = true := by unfold newB; simp [hr, l2]
        have e2 : newB c c.hi = true := by unfold newB; simp [hr, l2]
        have hks : ∀ s : Gw w4, conf36? s.val ⟨b, 0, none⟩ = some #[.int .i64 c.n, .int .i64 c.f, .int .i64 c.m, .int .i64 c.q, .int .i64 c.fresh, .int .i64 c.grace, .int .i64 c.window, .int .i64 c.t0, .int .i64 c.t1, .int .i64 c.t2, .int .i64 c.t3, .int .i64 c.tol, .int .i64 c.lo, .int .i64 c.hi, .int .i64 c.cup, .int .i64 c.cdn, .int .i64 c.pup, .int .i64 c.tup, .int .i64 c.pdn, .int .i64 c.tdn, .int .i64 c.per, .int .i64 c.far, .int .i64 c.str, .int .i64 c.pro, .int .i64 c.sec, .int .u64 c.seed] := fun s => A.confG s
        have hcs : ∀ s : Gw w4, ∀ off, s.val.cell? ⟨b, off, none⟩ = cellAt c off := fun s => A.cellG s
        clear m1 m2 m3 m4
        refine wp_region_grp (fun w' => ∃ s : Gw w4, w' = s.val) [([0, 1, 2, 4, 5, 6], [3, 7]), ([8, 9], [])] (by kernel_rfl) (by as_aux_lemma => kernel_rfl) (by as_aux_lemma => kernel_rfl) (by kernel_rfl) (fun d v c a w h => by cases d <;> exact h) (Gr.fresh w4).in_ ?_
        simp only [wpGrp, wpSeqC, List.filterMap_cons, List.filterMap_nil, List.getElem?_toArray, List.getElem?_cons_succ, List.getElem?_cons_zero]
        show wpQuiet _ _ _ _ [_, _, _, _, _, _] _
        repeat (go_big_quiet_step (fail))
        refine wpQuiet_nil ?_
        refine wpOp_new (R := fun v w' => ∃ p g, v = .pointer (some ⟨p, 0, none⟩) ∧ Pol w' p g 1 c [c.lo] 0 ∧ w4.heap.size ≤ p ∧ w4.heap.size ≤ g) 73 45 #[.agg #[.int .i64 c.n, .int .i64 c.f, .int .i64 c.m, .int .i64 c.q, .int .i64 c.fresh, .int .i64 c.grace, .int .i64 c.window, .int .i64 c.t0, .int .i64 c.t1, .int .i64 c.t2, .int .i64 c.t3, .int .i64 c.tol, .int .i64 c.lo, .int .i64 c.hi, .int .i64 c.cup, .int .i64 c.cdn, .int .i64 c.pup, .int .i64 c.tup, .int .i64 c.pdn, .int .i64 c.tdn, .int .i64 c.per, .int .i64 c.far, .int .i64 c.str, .int .i64 c.pro, .int .i64 c.sec, .int .u64 c.seed], .int .i64 c.lo] rfl rfl rfl (by kernel_rfl) (Gr.fresh w4) ((new_ok c c.lo e1 _).mono fun e w' ⟨p, g, r1, r2, r3, r4, r5⟩ => ⟨_, r1, ⟨p, g, rfl, r2, r3, r4⟩, r5⟩) fun v5 w5 hv5 G5 _ => ?_
        obtain ⟨p, g, rfl, HP, hp, hg5⟩ := hv5
        refine wpOp_new (R := fun v w' => ∃ p g, v = .pointer (some ⟨p, 0, none⟩) ∧ Pol w' p g 1 c [c.hi] 0 ∧ w5.heap.size ≤ p ∧ w5.heap.size ≤ g) 77 45 #[.agg #[.int .i64 c.n, .int .i64 c.f, .int .i64 c.m, .int .i64 c.q, .int .i64 c.fresh, .int .i64 c.grace, .int .i64 c.window, .int .i64 c.t0, .int .i64 c.t1, .int .i64 c.t2, .int .i64 c.t3, .int .i64 c.tol, .int .i64 c.lo, .int .i64 c.hi, .int .i64 c.cup, .int .i64 c.cdn, .int .i64 c.pup, .int .i64 c.tup, .int .i64 c.pdn, .int .i64 c.tdn, .int .i64 c.per, .int .i64 c.far, .int .i64 c.str, .int .i64 c.pro, .int .i64 c.sec, .int .u64 c.seed], .int .i64 c.hi] rfl rfl rfl (by kernel_rfl) G5 ((new_ok c c.hi e2 _).mono fun e w' ⟨p, g, r1, r2, r3, r4, r5⟩ => ⟨_, r1, ⟨p, g, rfl, r2, r3, r4⟩, r5⟩) fun v6 w6 hv6 G6 G56 => ?_
        obtain ⟨q, h, rfl, HQ, hq, hg6⟩ := hv6
        have hw4 := A.gr.size
        have hp5 := HP.lt
        have hg55 := HP.glt
        have X : P2 w w6 c p g 1 [c.lo] 0 q h 1 [c.hi] 0 := ⟨HP.on G56, HQ, A.gr.trans G6, by omega, by omega, by omega, by omega, by omega, by omega, by omega, by omega⟩
        clear HP HQ hks hcs
        simp only [Act.put, List.setIfInBounds_toArray, List.set_cons_succ, List.set_cons_zero]
        show wpQuiet _ _ _ _ [_, _] _
        repeat (go_big_quiet_step (fail))
        refine wpQuiet_nil ?_
        clear hp hg5 hq hg6 hp5 hg55 s3 s4 hw4 A
        as_aux_lemma =>
          go_upto_block 0 with (fail)
          go_cut [] (fun wc => Gr w wc)
          case first =>
            go_wp2_with fail
            go_loopw [20] (fun i wr => ∃ (kk : Nat) (g cp : Nat) (k : Int) (h cq : Nat) (j : Int) (s t : List Int), kk ≤ n3 ∧ kk ≤ 20 ∧ i = .int .i64 kk ∧ P2 w wr c p g cp s k q h cq t j ∧ LeL s t ∧ Kept c s ∧ Kept c t) (fun i _ => 20 - (intOf i).toNat)
            case atStart => exact ⟨0, g, 1, 0, h, 1, 0, [c.lo], [c.hi], by omega, by omega, rfl, X, LeL.one l2, Kept.one hc.rts ⟨by omega, l2⟩, Kept.one hc.rts ⟨l2, by omega⟩⟩
            case round =>
              clear X g h
              obtain ⟨kk, g, cp, k, h, cq, j, s, t, hk1, hk2, rfl, X, hL, Ks, Kt⟩ := hrel
              by_cases q1 : kk < n3
              · by_cases q2 : kk < 20
                · as_aux_lemma =>
                  obtain ⟨ad, rfl, hcell⟩ := H3.out.at_ q1
                  replace hcell := X.G.cell_some hcell
                  generalize z3.getD kk 0 = y at hcell
                  have y0 := u64_nonneg y
                  obtain ⟨v, hv, v0, v1⟩ := u64_mod y 100 (by omega)
                  go_upto_if 104 with (fail)
                  go_cut [22] (fun s22 wc => ∃ d : Int, s22 = .int .i64 d ∧ 0 ≤ d ∧ d < 50 ∧ wc = wr)
                  case first =>
                    by_cases q3 : kk < n4
                    · obtain ⟨ad4, rfl, hcell4⟩ := H4.out.at_ q3
                      replace hcell4 := X.G.cell_some hcell4
                      generalize z4.getD kk 0 = y4 at hcell4
                      have y40 := u64_nonneg y4
                      obtain ⟨d, hd, d0, d1⟩ := u64_mod y4 50 (by omega)
                      go_wp2
                      go_meet
                      case rel => exact ⟨d, rfl, d0, d1, rfl⟩
                    · go_wp2
                      go_meet
                      case rel => exact ⟨0, rfl, by omega, by omega, rfl⟩
                  case rest =>
                    clear hcell hv y0
                    clear y
                    obtain ⟨d, rfl, d0, d1, rfl⟩ := hcut
                    have hs1 : s.length ≤ 1000 := by have := Ks.len; have := hc.per1; omega
                    have ht1 : t.length ≤ 1000 := by have := Kt.len; have := hc.per1; omega
                    obtain ⟨m, hm⟩ : ∃ m, limP c (headP s) v = m := ⟨_, rfl⟩
                    obtain ⟨n, hn⟩ : ∃ n, limP c (headP t) (v + d) = n := ⟨_, rfl⟩
                    have hmn : m ≤ n := by rw [← hm, ← hn]; exact limP_mono hr (by have := Ks.head; omega) hL.head (by have := Kt.head; omega) (by omega)
                    have im := limP_in hc.rts (headP s) v
                    have iN := limP_in hc.rts (headP t) (v + d)
                    rw [hm] at im
                    rw [hn] at iN
                    have pm : putB c m = true := by unfold putB; simp [im]
                    have pn : putB c n = true := by unfold putB; simp [iN]
                    have HM := Lib.hid hm; clear hm
                    have HN := Lib.hid hn; clear hn
                    as_aux_lemma =>
                      go_wp2_with fail
                      refine (limit_v X.P Ks.pos v m HM.out).mono ?_
                      rintro e w7 ⟨k1, rfl, HP1, T⟩
                      replace X := X.left HP1 T (Or.inl rfl)
                      clear HP1 T
                      go_wp2_with fail
                      refine (limit_v X.R Kt.pos (v + d) n HN.out).mono ?_
                      rintro e w8 ⟨j1, rfl, HP1, T⟩
                      replace X := (X.symm.left HP1 T (Or.inl rfl)).symm
                      clear HP1 T
                      go_wp2_with fail
                      refine (put_v X.P Ks.pos hs1 hc.rts m pm _ rfl).mono ?_
                      rintro e w9 ⟨g', cp', rfl, HP1, T, hg'⟩
                      replace X := X.left HP1 T (Or.inr hg')
                      clear HP1 T
                      go_wp2_with fail
                      refine (put_v X.R Kt.pos ht1 hc.rts n pn _ rfl).mono ?_
                      rintro e w10 ⟨h', cq', rfl, HP1, T, hh'⟩
                      replace X := (X.symm.left HP1 T (Or.inr hh')).symm
                      clear HP1 T
                      go_wp2
                      go_roundw
                      case rel => exact ⟨kk + 1, _, _, _, _, _, _, _, _, by omega, by omega, by first | rfl | go_num, X, hL.put hmn, Ks.put hc.rts im, Kt.put hc.rts iN⟩
                      case measure => simp [intOf]; omega
                · go_wp2
                  go_meet
                  case rel => exact X.G
              · go_wp2
                go_meet
                case rel => exact X.G
          case rest =>
            clear X
            go_wp2_with fail
            refine (told15_any _).mono ?_
            rintro e w8 ⟨rfl, hg⟩
            have GG := hcut.trans hg
            clear hg hcut
            go_wp2
            go_ret
            exact ⟨rfl, GG⟩
theorem policyRises_walk (A0 : Option Addr) (n0 cap0 : Nat) (z0 : List Int) (a1 a2 : Int) (A3 : Option Addr) (n3 cap3 : Nat) (z3 : List Int) (A4 : Option Addr) (n4 cap4 : Nat) (z4 : List Int) (W : World) (h0 : RI W A0 n0 z0) (_ : ∀ x ∈ z0, (Lit.int .i64 x).wf = true) (_ : (Lit.int .i64 a1).wf = true) (_ : (Lit.int .i64 a2).wf = true) (h3 : RI W A3 n3 z3) (_ : ∀ x ∈ z3, (Lit.int .i64 x).wf = true) (h4 : RI W A4 n4 z4) (_ : ∀ x ∈ z4, (Lit.int .i64 x).wf = true) :
    Calls Try.prog 17 #[.slice A0 n0 cap0, .int .i64 a1, .int .i64 a2, .slice A3 n3 cap3, .slice A4 n4 cap4] W fun e w' => e = .returned (.bool true) ∧ Below W.heap.size W w' := (policyRises_any A0 n0 cap0 z0 a1 a2 A3 n3 cap3 z3 A4 n4 cap4 z4 W h0 h3 h4).mono fun _ _ h => ⟨h.1, h.2.out⟩
end Go.Proofs.Ytjobicffdcnnlaa
/- PolicySets. -/
namespace Go.Proofs.Ytjobicffdcnnlaa
open Go.RowKit
set_option linter.unusedSimpArgs false
set_option linter.unusedVariables false
set_option maxRecDepth 100000

theorem wpOp_to {P : Program} {ops : Array Oper} {Q : Exit → Act → World → Prop} {i : Nat} {o : Oper} {a : Act} {w : World} {K : Act → World → Prop} {R : Value → World → Prop} (t : Nat) (f : FuncId) (args : Array Value) (hi : ops[i]? = some o) (hd : o.dst = some t) (hw : Region.wanted o (yielded ops a.tmps) = true)
    (h : (execOp a.eval o).run P w = .ok (.enter f args) w) (hc : Calls P f args w fun e w' => ∃ v, e = .returned v ∧ R v w') (k : ∀ v w', R v w' → K (a.put (some t) v) w') : wpOp P ops Q i K a w :=
  wpOp_enter (R := R) f args hi hw h hc fun v w' r => by rw [hd]; exact k v w' r
theorem own_RI {w : World} {g cap n : Nat} {l : List Int} (h : w.ownsRow g 3 1 (.slice (some ⟨g, 0, none⟩) n cap) n (l.map (.int .i64))) (hn : l.length = n) (hm : n ≤ 1000) : RI w (some ⟨g, 0, none⟩) n l :=
  ⟨hn, by omega, fun _ => ⟨_, rfl, fun j hj => by rw [Addr.add_lit, Nat.zero_add]; exact own_cell h (by omega)⟩⟩

set_option maxHeartbeats 4000000 in
theorem policySets_any (A0 : Option Addr) (n0 cap0 : Nat) (z0 : List Int) (A1 : Option Addr) (n1 cap1 : Nat) (z1 : List Int) (A2 : Option Addr) (n2 cap2 : Nat) (z2 : List Int) (w : World) (h0 : RI w A0 n0 z0) (h1 : RI w A1 n1 z1) (h2 : RI w A2 n2 z2) :
    Calls Try.prog 14 #[.slice A0 n0 cap0, .slice A1 n1 cap1, .slice A2 n2 cap2] w fun e w' => e = .returned (.bool true) ∧ Gr w w' := by
  have hf := fit_new A0 n0 cap0 z0 w h0
  have HF := Lib.hid hf
  have b1 := h1.2.1
  have b2 := h2.2.1
  have H1 := Lib.hid h1
  have H2 := Lib.hid h2
  clear hf h0 h1 h2
  go_enter Try.func14, Try.ntmps14
  go_upto_region 1 with (fail)
  refine wp_region_lit ?_
  refine wpList_val (.slice A0 n0 cap0) w rfl (by kernel_rfl) ?_
  refine wpList_new 44 #[.slice A0 n0 cap0] rfl (by kernel_rfl) HF.out fun v w1 hv => ?_
  obtain ⟨c, hc, rfl, hg⟩ := hv
  refine wpList_val (.pointer (some ⟨w1.heap.size, 0, none⟩)) (w1.alloc (.cells zero36 36)) rfl (xalloc36 ..) ?_
  refine wpList_skip' (w1.alloc (.cells #[.int .i64 c.n, .int .i64 c.f, .int .i64 c.m, .int .i64 c.q, .int .i64 c.fresh, .int .i64 c.grace, .int .i64 c.window, .int .i64 c.t0, .int .i64 c.t1, .int .i64 c.t2, .int .i64 c.t3, .int .i64 c.tol, .int .i64 c.lo, .int .i64 c.hi, .int .i64 c.cup, .int .i64 c.cdn, .int .i64 c.pup, .int .i64 c.tup, .int .i64 c.pdn, .int .i64 c.tdn, .int .i64 c.per, .int .i64 c.far, .int .i64 c.str, .int .i64 c.pro, .int .i64 c.sec, .int .u64 c.seed] 36)) rfl (xstore36_at rfl (by kernel_rfl) (by kernel_rfl) rfl rfl (by kernel_rfl)) ?_
  have A := start_at hg c
  have hbs : w1.heap.size < (w1.alloc (.cells #[.int .i64 c.n, .int .i64 c.f, .int .i64 c.m, .int .i64 c.q, .int .i64 c.fresh, .int .i64 c.grace, .int .i64 c.window, .int .i64 c.t0, .int .i64 c.t1, .int .i64 c.t2, .int .i64 c.t3, .int .i64 c.tol, .int .i64 c.lo, .int .i64 c.hi, .int .i64 c.cup, .int .i64 c.cdn, .int .i64 c.pup, .int .i64 c.tup, .int .i64 c.pdn, .int .i64 c.tdn, .int .i64 c.per, .int .i64 c.far, .int .i64 c.str, .int .i64 c.pro, .int .i64 c.sec, .int .u64 c.seed] 36)).heap.size := by simp
  generalize w1.alloc (.cells #[.int .i64 c.n, .int .i64 c.f, .int .i64 c.m, .int .i64 c.q, .int .i64 c.fresh, .int .i64 c.grace, .int .i64 c.window, .int .i64 c.t0, .int .i64 c.t1, .int .i64 c.t2, .int .i64 c.t3, .int .i64 c.tol, .int .i64 c.lo, .int .i64 c.hi, .int .i64 c.cup, .int .i64 c.cdn, .int .i64 c.pup, .int .i64 c.tup, .int .i64 c.pdn, .int .i64 c.tdn, .int .i64 c.per, .int .i64 c.far, .int .i64 c.str, .int .i64 c.pro, .int .i64 c.sec, .int .u64 c.seed] 36) = w4 at *
  generalize w1.heap.size = b at *
  have hr := hc.rates
  have l0 := hc.lo0
  have l1 := hc.lo1
  have l2 := hc.hi0
  have l3 := hc.hi1
  clear hg HF
  as_aux_lemma =>
    go_upto_region 2 with (fail)
    simp only [Act.put, List.setIfInBounds_toArray, List.set_cons_succ, List.set_cons_zero]
    have e1 : newB c c.lo = true := by unfold newB; simp [hr, l2]
    have e2 : newB c c.hi = true := by unfold newB; simp [hr, l2]
    have hks : ∀ s : Gw w4, conf36? s.val ⟨b, 0, none⟩ = some #[.int .i64 c.n, .int .i64 c.f, .int .i64 c.m, .int .i64 c.q, .int .i64 c.fresh, .int .i64 c.grace, .int .i64 c.window, .int .i64 c.t0, .int .i64 c.t1, .int .i64 c.t2, .int .i64 c.t3, .int .i64 c.tol, .int .i64 c.lo, .int .i64 c.hi, .int .i64 c.cup, .int .i64 c.cdn, .int .i64 c.pup, .int .i64 c.tup, .int .i64 c.pdn, .int .i64 c.tdn, .int .i64 c.per, .int .i64 c.far, .int .i64 c.str, .int .i64 c.pro, .int .i64 c.sec, .int .u64 c.seed] := fun s => A.confG s
    have hcs : ∀ s : Gw w4, ∀ off, s.val.cell? ⟨b, off, none⟩ = cellAt c off := fun s => A.cellG s
    refine wp_region_grp (fun w' => ∃ s : Gw w4, w' = s.val) [([0, 1, 2, 4, 5, 6], [3, 7]), ([8, 9], [])] (by kernel_rfl) (by as_aux_lemma => kernel_rfl) (by as_aux_lemma => kernel_rfl) (by kernel_rfl) (fun d v c a w h => by cases d <;> exact h) (Gr.fresh w4).in_ ?_
    simp only [wpGrp, wpSeqC, List.filterMap_cons, List.filterMap_nil, List.getElem?_toArray, List.getElem?_cons_succ, List.getElem?_cons_zero]
    show wpQuiet _ _ _ _ [_, _, _, _, _, _] _
    repeat (go_big_quiet_step (fail))
    refine wpQuiet_nil ?_
    refine wpOp_new (R := fun v w' => ∃ p g, v = .pointer (some ⟨p, 0, none⟩) ∧ Pol w' p g 1 c [c.lo] 0 ∧ w4.heap.size ≤ p ∧ w4.heap.size ≤ g) 19 45 #[.agg #[.int .i64 c.n, .int .i64 c.f, .int .i64 c.m, .int .i64 c.q, .int .i64 c.fresh, .int .i64 c.grace, .int .i64 c.window, .int .i64 c.t0, .int .i64 c.t1, .int .i64 c.t2, .int .i64 c.t3, .int .i64 c.tol, .int .i64 c.lo, .int .i64 c.hi, .int .i64 c.cup, .int .i64 c.cdn, .int .i64 c.pup, .int .i64 c.tup, .int .i64 c.pdn, .int .i64 c.tdn, .int .i64 c.per, .int .i64 c.far, .int .i64 c.str, .int .i64 c.pro, .int .i64 c.sec, .int .u64 c.seed], .int .i64 c.lo] rfl rfl rfl (by kernel_rfl) (Gr.fresh w4) ((new_ok c c.lo e1 _).mono fun e w' ⟨p, g, r1, r2, r3, r4, r5⟩ => ⟨_, r1, ⟨p, g, rfl, r2, r3, r4⟩, r5⟩) fun v5 w5 hv5 G5 _ => ?_
    obtain ⟨p, g, rfl, HP, hp, hg5⟩ := hv5
    refine wpOp_new (R := fun v w' => ∃ p g, v = .pointer (some ⟨p, 0, none⟩) ∧ Pol w' p g 1 c [c.hi] 0 ∧ w5.heap.size ≤ p ∧ w5.heap.size ≤ g) 23 45 #[.agg #[.int .i64 c.n, .int .i64 c.f, .int .i64 c.m, .int .i64 c.q, .int .i64 c.fresh, .int .i64 c.grace, .int .i64 c.window, .int .i64 c.t0, .int .i64 c.t1, .int .i64 c.t2, .int .i64 c.t3, .int .i64 c.tol, .int .i64 c.lo, .int .i64 c.hi, .int .i64 c.cup, .int .i64 c.cdn, .int .i64 c.pup, .int .i64 c.tup, .int .i64 c.pdn, .int .i64 c.tdn, .int .i64 c.per, .int .i64 c.far, .int .i64 c.str, .int .i64 c.pro, .int .i64 c.sec, .int .u64 c.seed], .int .i64 c.hi] rfl rfl rfl (by kernel_rfl) G5 ((new_ok c c.hi e2 _).mono fun e w' ⟨p, g, r1, r2, r3, r4, r5⟩ => ⟨_, r1, ⟨p, g, rfl, r2, r3, r4⟩, r5⟩) fun v6 w6 hv6 G6 G56 => ?_
    obtain ⟨q, h, rfl, HQ, hq, hg6⟩ := hv6
    have hw4 := A.gr.size
    have hp5 := HP.lt
    have hg55 := HP.glt
    have hbp : b ≠ p := by omega
    have hbg : b ≠ g := by omega
    have X : P2 w w6 c p g 1 [c.lo] 0 q h 1 [c.hi] 0 := ⟨HP.on G56, HQ, A.gr.trans G6, by omega, by omega, by omega, by omega, by omega, by omega, by omega, by omega⟩
    replace A := A.on G6
    clear HP HQ hks hcs
    simp only [Act.put, List.setIfInBounds_toArray, List.set_cons_succ, List.set_cons_zero]
    show wpQuiet _ _ _ _ [_, _] _
    repeat (go_big_quiet_step (fail))
    refine wpQuiet_nil ?_
    clear hp hg5 hq hg6 hp5 hg55 hw4 G5 G6 G56 hbs e1 e2
    as_aux_lemma =>
      go_upto_block 0 with (fail)
      go_cut [] (fun wc => ∃ (g cp : Nat) (k : Int) (l : List Int), P2 w wc c p g cp l k q h 1 [c.hi] 0 ∧ Kept c l)
      case first =>
        go_wp2_with fail
        go_loopw [10] (fun i wr => ∃ (kk : Nat) (g cp : Nat) (k : Int) (l : List Int), kk ≤ n1 ∧ kk ≤ 15 ∧ i = .int .i64 kk ∧ P2 w wr c p g cp l k q h 1 [c.hi] 0 ∧ Kept c l ∧ At w wr b c ∧ b ≠ g) (fun i _ => 15 - (intOf i).toNat)
        case atStart => exact ⟨0, g, 1, 0, [c.lo], by omega, by omega, rfl, X, Kept.one hc.rts ⟨by omega, l2⟩, A, hbg⟩
        case round =>
          clear X A hbg g
          obtain ⟨kk, g, cp, k, l, hk1, hk2, rfl, X, Ks, A, hbg⟩ := hrel
          by_cases q1 : kk < n1
          · by_cases q2 : kk < 15
            · as_aux_lemma =>
              obtain ⟨ad, rfl, hcell⟩ := H1.out.at_ q1
              generalize z1.getD kk 0 = y at hcell
              have y0 := u64_nonneg y
              obtain ⟨x, hx, x0, x1⟩ := u64_mod y (c.hi - c.lo + 1) (by omega)
              obtain ⟨f, hf⟩ : ∃ f, c.lo + x = f := ⟨_, rfl⟩
              have f0 : c.lo ≤ f := by omega
              have f1 : f ≤ c.hi := by omega
              go_upto_region 8 with (fail)
              have hcl : ∀ s : Gw wr, s.val.cell? (ad.add kk) = some (.int .i64 y) := fun s => (X.G.trans s.gr).cell_some hcell
              have hcs : ∀ s : Gw wr, ∀ off, s.val.cell? ⟨b, off, none⟩ = cellAt c off := fun s => A.cellG s
              refine wp_region_quiet_tail (C := fun w' => ∃ s : Gw wr, w' = s.val) 18 (by kernel_rfl) (by as_aux_lemma => kernel_rfl) (by decide) (by as_aux_lemma => kernel_rfl) (by as_aux_lemma => kernel_rfl) (by as_aux_lemma => kernel_rfl) (by as_aux_lemma => kernel_rfl) (Gr.fresh wr).in_ ?_
              simp only [List.append_eq, List.cons_append, List.nil_append, List.take_succ_cons, List.take_zero, List.drop_succ_cons, List.drop_zero]
              repeat (go_big_quiet_step (fail))
              refine wpQuiet_nil ?_
              rintro _ ⟨s, rfl⟩
              replace X := X.on s.gr
              replace A := A.on s.gr
              generalize s.val = w8 at *
              clear hcl hcs hcell hx y0 x0 x1 hf
              as_aux_lemma =>
                have pm : putB c f = true := by unfold putB; simp [f0, f1]
                have hs1 : l.length ≤ 1000 := by have := Ks.len; have := hc.per1; omega
                go_wp2_with fail
                refine (put_v X.P Ks.pos hs1 hc.rts f pm _ rfl).mono ?_
                rintro e w9 ⟨g', cp', rfl, HP1, T, hg'⟩
                have hbl := (Array.getElem?_eq_some_iff.1 A.box).1
                replace A := T.at_ A X.np X.ng hbp hbg
                replace X := X.left HP1 T (Or.inr hg')
                have hbg' : b ≠ g' := by omega
                clear HP1 T
                go_wp2
                go_roundw
                case rel => exact ⟨kk + 1, _, _, _, _, by omega, by omega, by first | rfl | go_num, X, Ks.put hc.rts ⟨f0, f1⟩, A, hbg'⟩
                case measure => simp [intOf]; omega
            · go_wp2
              go_meet
              case rel => exact ⟨_, _, _, _, X, Ks⟩
          · go_wp2
            go_meet
            case rel => exact ⟨_, _, _, _, X, Ks⟩
      case rest =>
        clear X A hbg g
        obtain ⟨g, cp, k, l, X, Ks⟩ := hcut
        as_aux_lemma =>
          have hs1 : l.length ≤ 1000 := by have := Ks.len; have := hc.per1; omega
          go_wp2_with fail
          refine (all_any X.P Ks.pos hs1).mono ?_
          rintro e w8 ⟨g8, cap8, rfl, ho, hg8, hg⟩
          replace X := X.on hg
          have hR := own_RI ho rfl hs1
          clear ho hg
          go_wp2_with fail
          refine (set_ok X.R hc.rts _ _ _ l hR Ks.setB).mono ?_
          rintro e w9 ⟨h', cq', rfl, HP1, T, hh'⟩
          replace X := (X.symm.left HP1 T (Or.inr hh')).symm
          clear HP1 T hR hg8
          go_upto_block 2 with (fail)
          go_cut [] (fun wc => Gr w wc)
          case first =>
            go_wp2_with fail
            go_loopw [11] (fun i wr => ∃ (kk : Nat) (g cp : Nat) (k : Int) (h cq : Nat) (j : Int) (s : List Int), kk ≤ n2 ∧ kk ≤ 10 ∧ i = .int .i64 kk ∧ P2 w wr c p g cp s k q h cq s j ∧ Kept c s) (fun i _ => 10 - (intOf i).toNat)
            case atStart => exact ⟨0, _, _, _, _, _, _, _, by omega, by omega, rfl, X, Ks⟩
            case round =>
              clear X Ks hs1 hbp
              obtain ⟨kk, g, cp, k, h, cq, j, s, hk1, hk2, rfl, X, Ks⟩ := hrel
              by_cases q1 : kk < n2
              · by_cases q2 : kk < 10
                · as_aux_lemma =>
                  obtain ⟨ad, rfl, hcell⟩ := H2.out.at_ q1
                  generalize z2.getD kk 0 = y at hcell
                  obtain ⟨m, hm⟩ : ∃ m, limP c (headP s) y = m := ⟨_, rfl⟩
                  have im := limP_in hc.rts (headP s) y
                  rw [hm] at im
                  have hl1 := fun (w' : World) (g cp : Nat) (k : Int) (p : Nat) (H : Pol w' p g cp c s k) => limit_v H Ks.pos y m hm
                  have HL := Lib.hid hl1
                  clear hl1 hm
                  go_upto_region 14 with (fail)
                  have hcl : ∀ s : Gw w, s.val.cell? (ad.add kk) = some (.int .i64 y) := fun s => s.gr.cell_some hcell
                  replace X := X.on (Gr.fresh wr)
                  refine wp_region_grp (fun w' => ∃ s : Gw w, w' = s.val) [([0, 1, 2, 3, 4, 6, 7, 8, 9, 10], [5, 11]), ([12, 13], [])] (by kernel_rfl) (by as_aux_lemma => kernel_rfl) (by as_aux_lemma => kernel_rfl) (by kernel_rfl) (fun d v c a w h => by cases d <;> exact h) X.G.in_ ?_
                  simp only [wpGrp, wpSeqC, List.filterMap_cons, List.filterMap_nil, List.getElem?_toArray, List.getElem?_cons_succ, List.getElem?_cons_zero]
                  show wpQuiet _ _ _ _ [_, _, _, _, _, _, _, _, _, _] _
                  repeat (go_big_quiet_step (fail))
                  refine wpQuiet_nil ?_
                  refine wpOp_to (R := fun v w' => v = .int .i64 m ∧ ∃ k', P2 w w' c p g cp s k' q h cq s j) 79 49 #[.pointer (some ⟨p, 0, none⟩), .int .i64 y] rfl rfl rfl (by kernel_rfl) ((HL.out _ _ _ _ _ X.P).mono fun e w' ⟨k', r1, r2, r3⟩ => ⟨_, r1, rfl, k', X.left r2 r3 (Or.inl rfl)⟩) fun v5 w5 hv5 => ?_
                  obtain ⟨rfl, k', X5⟩ := hv5
                  refine ⟨X5.G.in_, ?_⟩
                  refine wpOp_to (R := fun v w' => v = .int .i64 m ∧ ∃ j', P2 w w' c p g cp s k' q h cq s j') 85 49 #[.pointer (some ⟨q, 0, none⟩), .int .i64 y] rfl rfl rfl (by kernel_rfl) ((HL.out _ _ _ _ _ X5.R).mono fun e w' ⟨j', r1, r2, r3⟩ => ⟨_, r1, rfl, j', (X5.symm.left r2 r3 (Or.inl rfl)).symm⟩) fun v6 w6 hv6 => ?_
                  obtain ⟨rfl, j', X6⟩ := hv6
                  refine ⟨X6.G.in_, ?_⟩
                  simp only [Act.put, List.setIfInBounds_toArray, List.set_cons_succ, List.set_cons_zero]
                  show wpQuiet _ _ _ _ [_, _] _
                  repeat (go_big_quiet_step (fail))
                  refine wpQuiet_nil ?_
                  clear X X5 hcl hcell HL
                  as_aux_lemma =>
                    have pm : putB c m = true := by unfold putB; simp [im]
                    have hs1 : s.length ≤ 1000 := by have := Ks.len; have := hc.per1; omega
                    have Kp := Ks.put hc.rts im
                    go_wp2_with fail
                    refine (put_v X6.P Ks.pos hs1 hc.rts m pm _ rfl).mono ?_
                    rintro e w9 ⟨g', cp', rfl, HP1, T, hg'⟩
                    replace X6 := X6.left HP1 T (Or.inr hg')
                    clear HP1 T
                    go_wp2_with fail
                    refine (put_v X6.R Ks.pos hs1 hc.rts m pm _ rfl).mono ?_
                    rintro e w10 ⟨h', cq', rfl, HP1, T, hh'⟩
                    replace X6 := (X6.symm.left HP1 T (Or.inr hh')).symm
                    clear HP1 T
                    go_wp2_with fail
                    refine (base_v X6.P Kp.pos _ rfl).mono ?_
                    rintro e w11 ⟨rfl, rfl⟩
                    go_wp2_with fail
                    refine (base_v X6.R Kp.pos _ rfl).mono ?_
                    rintro e w12 ⟨rfl, rfl⟩
                    go_wp2
                    go_roundw
                    case rel => exact ⟨kk + 1, _, _, _, _, _, _, _, by omega, by omega, by first | rfl | go_num, X6, Kp⟩
                    case measure => simp [intOf]; omega
                · go_wp2
                  go_meet
                  case rel => exact X.G
              · go_wp2
                go_meet
                case rel => exact X.G
          case rest =>
            clear X
            go_wp2_with fail
            refine (told15_any _).mono ?_
            rintro e w8 ⟨rfl, hg⟩
            have GG := hcut.trans hg
            clear hg hcut
            go_wp2
            go_ret
            exact ⟨rfl, GG⟩
theorem policySets_walk (A0 : Option Addr) (n0 cap0 : Nat) (z0 : List Int) (A1 : Option Addr) (n1 cap1 : Nat) (z1 : List Int) (A2 : Option Addr) (n2 cap2 : Nat) (z2 : List Int) (W : World) (h0 : RI W A0 n0 z0) (_ : ∀ x ∈ z0, (Lit.int .i64 x).wf = true) (h1 : RI W A1 n1 z1) (_ : ∀ x ∈ z1, (Lit.int .i64 x).wf = true) (h2 : RI W A2 n2 z2) (_ : ∀ x ∈ z2, (Lit.int .i64 x).wf = true) :
    Calls Try.prog 14 #[.slice A0 n0 cap0, .slice A1 n1 cap1, .slice A2 n2 cap2] W fun e w' => e = .returned (.bool true) ∧ Below W.heap.size W w' := (policySets_any A0 n0 cap0 z0 A1 n1 cap1 z1 A2 n2 cap2 z2 W h0 h1 h2).mono fun _ _ h => ⟨h.1, h.2.out⟩
end Go.Proofs.Ytjobicffdcnnlaa
