import Derived.Test.YtjobicffdcnnlaaDC4
/- The document's law: Next. -/
namespace Go.Proofs.Ytjobicffdcnnlaa
open Go.RowKit
set_option linter.unusedSimpArgs false
set_option linter.unusedVariables false
set_option maxRecDepth 100000

theorem daw_most {w : World} {b q p : Nat} {c : CF} {n : Int} (B : Db w b c n q p) (hc : Fits c) (A : Option Addr) (k cp m : Nat) (hm : c.m.toNat = m) (xs : List Int) (h : RI w A k xs) (M : Option Int) (e : mostV n c.tol xs (tgt c) = M) :
    ∀ w', Gr w w' → Calls Try.prog 31 #[.int .i64 n, .slice A k cp, .slice (some ⟨b, 7, none⟩) m 4, .int .i64 c.tol] w' fun r w'' => r = .returned (.tuple #[.int .i64 (M.getD 0), .bool M.isSome]) ∧ Gr w' w'' := by
  intro w' r
  subst e
  have hm0 := hc.m0
  have ht := (B.on r).tgt hc
  rw [hm] at ht
  exact (r_most_any n c.tol A (some ⟨b, 7, none⟩) cp 4 k m xs (tgt c) w' (h.gr r) ht).mono fun _ _ ⟨r1, r2⟩ => ⟨r1, ⟨r2.below⟩⟩

set_option maxHeartbeats 4000000 in
theorem dawNext_no {w : World} {b q gq : Nat} {v : Value} {p gp o cap : Nat} {c : CF} {n : Int} {L P : List Int} (x : Dx w b q gq v p gp o cap c n L P)
    (hc : Fits c) (A : Option Addr) (k cp : Nat) (xs : List Int) (h : RI w A k xs) (hm : mostV n c.tol xs (tgt c) = none) : Calls Try.prog 66 #[.pointer (some ⟨b, 0, none⟩), .slice A k cp] w fun r w' => r = .returned (.tuple #[.int .i64 0, .int .i64 0, .int .i64 1]) ∧ Gr w w' := by
  have m0 := hc.m0
  have m1 := hc.m1
  obtain ⟨m, em⟩ : ∃ m : Nat, c.m = (m : Int) := ⟨c.m.toNat, by omega⟩
  have B := x.B
  have HM := Lib.hid (show ∀ w', Gr w w' → Calls Try.prog 31 #[.int .i64 n, .slice A k cp, .slice (some ⟨b, 7, none⟩) m 4, .int .i64 c.tol] w' fun r w'' => r = .returned (.tuple #[.int .i64 0, .bool false]) ∧ Gr w' w'' from daw_most B hc A k cp m (by omega) xs h none hm)
  clear hm x h
  rw [em] at m0 m1
  go_enter Try.func66, Try.ntmps66
  go_upto_region 1 with (fail)
  have hcs : ∀ s : Gw w, ∀ off, s.val.cell? ⟨b, off, none⟩ = dawAt c n q p off := fun s => (B.on s.gr).cell
  have hsl := slice34 ⟨b, 7, none⟩ m (by omega)
  refine wp_region_quiet_gw (by kernel_rfl) (by kernel_rfl) ?_
  repeat (go_big_quiet_step ((go_at_call 31; exact q_gr (HM.out _ (Gw.gr _)))))
  refine wpQuiet_nil fun s => ?_
  have G := s.gr
  clear hcs HM
  go_wp2
  go_ret3
  exact ⟨rfl, G⟩

set_option maxHeartbeats 4000000 in
theorem dawNext_x {w : World} {b q gq : Nat} {v : Value} {p gp o cap : Nat} {c : CF} {n : Int} {L P : List Int} (x : Dx w b q gq v p gp o cap c n L P)
    (hc : Fits c) (hL : L.length ≤ 100) (K : Kept c P) (A : Option Addr) (k cp : Nat) (xs : List Int) (h : RI w A k xs) (M : Int) (hm : mostV n c.tol xs (tgt c) = some M) (N : Int) (hN : (Ls.mk n L P).to c M = N) :
    Calls Try.prog 66 #[.pointer (some ⟨b, 0, none⟩), .slice A k cp] w fun r w' =>
      ∃ gq' v' gp' o' cap', r = .returned (.tuple #[.int .i64 N, .int .i64 M, .int .i64 0]) ∧ Dx w' b q gq' v' p gp' o' cap' c N (calL c.cup c.cdn L M) (putP c P N) ∧ Tw [b, q, gq, p, gp] w w' ∧ Near [b, q, gq, p, gp] [b, q, gq', p, gp'] w := by
  have m0 := hc.m0
  have m1 := hc.m1
  obtain ⟨m, em⟩ : ∃ m : Nat, c.m = (m : Int) := ⟨c.m.toNat, by omega⟩
  have B := x.B
  have HM := Lib.hid (show ∀ w', Gr w w' → Calls Try.prog 31 #[.int .i64 n, .slice A k cp, .slice (some ⟨b, 7, none⟩) m 4, .int .i64 c.tol] w' fun r w'' => r = .returned (.tuple #[.int .i64 M, .bool true]) ∧ Gr w' w'' from daw_most B hc A k cp m (by omega) xs h (some M) hm)
  have hto : limP c (headP P) (calV c.cup c.cdn (calL c.cup c.cdn L M) n) = N := hN
  have hr := limP_in hc.rts (headP P) (calV c.cup c.cdn (calL c.cup c.cdn L M) n)
  rw [hto] at hr
  have hput : putB c N = true := by unfold putB; simp [hr]
  have HT := Lib.hid hto
  have hPl : P.length ≤ 1000 := by have := K.len; have := hc.per1; omega
  have u0 := hc.cup0; have u1 := hc.cup1; have d0 := hc.cdn0; have d1 := hc.cdn1
  clear hm h hto hr hN
  rw [em] at m0 m1
  go_enter Try.func66, Try.ntmps66
  go_upto_region 1 with (fail)
  have hcs : ∀ s : Gw w, ∀ off, s.val.cell? ⟨b, off, none⟩ = dawAt c n q p off := fun s => (B.on s.gr).cell
  have hsl := slice34 ⟨b, 7, none⟩ m (by omega)
  refine wp_region_quiet_gw (by kernel_rfl) (by kernel_rfl) ?_
  repeat (go_big_quiet_step ((go_at_call 31; exact q_gr (HM.out _ (Gw.gr _)))))
  refine wpQuiet_nil fun s => ?_
  have X := x.on s.gr
  have T : Tw [b, q, gq, p, gp] w s.val := Tw.of_gr s.gr
  generalize s.val = w2 at *
  clear hcs hsl HM B x s
  as_aux_lemma =>
    go_upto_region 4 with (fail)
    replace X := X.on (Gr.fresh w2)
    replace T := T.trans (Tw.of_gr (Gr.fresh w2)) (Near.refl _ _)
    refine wp_region_grpT (fun w' => ∃ s : Gk { w2 with drawn := w2.drawn + 1 } b, w' = s.val) [18] [([0, 1, 2, 3, 4, 5, 6, 7, 8, 9, 10, 11, 12, 13], [14, 15, 16, 17, 18])] (by kernel_rfl) (by as_aux_lemma => kernel_rfl) (by as_aux_lemma => kernel_rfl) (by as_aux_lemma => kernel_rfl) (by kernel_rfl) (fun d v c a w h => by cases d <;> exact h) ?_
    simp only [wpGrpT, wpSeqT, List.filterMap_cons, List.filterMap_nil, List.getElem?_toArray, List.getElem?_cons_succ, List.getElem?_cons_zero]
    refine ⟨Or.inr (X.B.in_ X.B), ?_⟩
    generalize ({ w2 with drawn := w2.drawn + 1 } : World) = w3 at *
    have hB := X.B
    have hcs : ∀ s : Gk w3 b, ∀ off, s.val.cell? ⟨b, off, none⟩ = dawAt c n q p off := fun s => (hB.at_ s).cell
    show wpQuiet _ _ _ _ [_, _, _, _, _, _, _, _, _, _, _, _, _, _] _
    repeat (go_big_quiet_step (fail))
    refine wpQuiet_nil ?_
    clear hcs
    refine wpOp_to (R := fun r5 w' => r5 = .int .i64 (calV c.cup c.cdn (calL c.cup c.cdn L M) n) ∧ ∃ gq' v'', Dx w' b q gq' v'' p gp o cap c n (calL c.cup c.cdn L M) P ∧ Tw [b, q, gq, p, gp] w w' ∧ w.heap.size ≤ gq') 49 95 #[.pointer (some ⟨q, 0, none⟩), .int .i64 n, .int .i64 M] rfl rfl rfl (by kernel_rfl) ((rc_next_any X.Q u0 (by omega) d0 (by omega) (by omega) n M).mono fun r w' ⟨g', v', r1, r2, r3, r4⟩ => ⟨_, r1, rfl, g', v', X.cal r2 r3 r4, T.trans (Tw.of_tc (F := [b, q, gq, p, gp]) r3 (by simp) (by simp)) (Near.refl _ _), Nat.le_trans T.size r4⟩) fun v4 w4 hv4 => ?_
    obtain ⟨rfl, gq', v', X4, T4, hq4⟩ := hv4
    refine ⟨fun _ => hB.in_ X4.B, ?_⟩
    clear X T
    simp only [Act.put, List.setIfInBounds_toArray, List.set_cons_succ, List.set_cons_zero]
    refine wpOp_to (R := fun r5 w' => r5 = .int .i64 N ∧ Dx w' b q gq' v' p gp o cap c n (calL c.cup c.cdn L M) P ∧ Tw [b, q, gq, p, gp] w w') 50 56 #[.pointer (some ⟨p, 0, none⟩), .int .i64 (calV c.cup c.cdn (calL c.cup c.cdn L M) n)] rfl rfl rfl (by kernel_rfl) ((x_limit_any X4.R K.pos _ N HT.out).mono fun r w' ⟨r1, r2⟩ => ⟨_, r1, rfl, X4.on r2, T4.trans (Tw.of_gr (F := [b, q, gq, p, gp]) r2) (Near.refl _ _)⟩) fun v5 w5 hv5 => ?_
    obtain ⟨rfl, X5, T5⟩ := hv5
    refine ⟨fun _ => hB.in_ X5.B, ?_⟩
    clear X4 T4
    simp only [Act.put, List.setIfInBounds_toArray, List.set_cons_succ, List.set_cons_zero]
    refine wpOp_valT 51 (.pointer (some ⟨b, 0, none⟩)) w5 rfl rfl rfl (by kernel_rfl) ⟨fun _ => hB.in_ X5.B, ?_⟩
    simp only [Act.put, List.setIfInBounds_toArray, List.set_cons_succ, List.set_cons_zero]
    refine wpOp_valT 52 (.pointer (some ⟨b, 28, none⟩)) w5 rfl rfl rfl (by kernel_rfl) ⟨fun _ => hB.in_ X5.B, ?_⟩
    simp only [Act.put, List.setIfInBounds_toArray, List.set_cons_succ, List.set_cons_zero]
    refine wpOp_skipT _ rfl rfl rfl (run_store3 rfl rfl rfl ((X5.B.cell 28).trans (dawAt_28 _ _ _ _)) (X5.B.froz 28)) ⟨fun h' => absurd h' (by decide), ?_⟩
    have X6 := X5.setN N
    have T6 := T5.trans (Tw.of_tc (F := [b, q, gq, p, gp]) (Tc.one (w := w5) b 28 (.int .i64 N)) (by simp) (by simp)) (Near.refl _ _)
    clear X5 T5 HT hB
    generalize World.setCell _ _ _ = w6 at *
    as_aux_lemma =>
      go_upto_region 5 with (fail)
      have hcs : ∀ s : Gw w6, ∀ off, s.val.cell? ⟨b, off, none⟩ = dawAt c N q p off := fun s => (X6.B.on s.gr).cell
      refine wp_region_quiet_tail (C := fun w' => ∃ s : Gw w6, w' = s.val) 8 (by kernel_rfl) (by as_aux_lemma => kernel_rfl) (by decide) (by as_aux_lemma => kernel_rfl) (by as_aux_lemma => kernel_rfl) (by as_aux_lemma => kernel_rfl) (by as_aux_lemma => kernel_rfl) (Gr.fresh w6).in_ ?_
      simp only [List.take_succ_cons, List.take_zero, List.drop_succ_cons, List.drop_zero]
      repeat (go_big_quiet_step (fail))
      refine wpQuiet_nil ?_
      rintro _ ⟨s, rfl⟩
      replace X6 := X6.on s.gr
      replace T6 := T6.trans (Tw.of_gr s.gr) (Near.refl _ _)
      clear hcs
      generalize s.val = w7 at *
      go_wp2_with fail
      refine (x_put_ok X6.R K.pos hPl hc.rts N hput).mono ?_
      rintro e1 w8 ⟨gp', o', cap', rfl, H, T3, hg⟩
      have X8 := X6.pol H T3 hg
      have hs2 := T6.size
      have T8 := T6.trans (Tw.of_tc (F := [b, q, gq, p, gp]) T3 (by simp) (by simp)) (Near.refl _ _)
      have hc8 := X8.B.cell
      clear X6 H T3 T6
      go_wp2
      go_ret3
      refine ⟨_, _, gp', o', cap', rfl, X8, T8, fun y hy => ?_⟩
      simp at hy ⊢
      omega
theorem Dw.hold {w : World} {F : List Nat} {b : Nat} {c : CF} {s : Ls} (h : Dw w F b c s) (hc : Fits c) (ok : s.Ok c) (n : Int) (hn : s.n = n) : Calls Try.prog 65 #[.pointer (some ⟨b, 0, none⟩)] w fun r w' =>
    r = .returned (.int .i64 n) ∧ ∃ F', Dw w' F' b c (s.hold c) ∧ Tw F w w' ∧ Near F F' w := by
  subst hn
  obtain ⟨q, gq, v, p, gp, o, cap, rfl, x⟩ := h
  exact (dawHold_x x hc ok.n0 ok.n1 ok.P).mono fun r w' ⟨gp', o', cap', r1, r2, r3, r4⟩ => ⟨r1, _, ⟨q, gq, v, p, gp', o', cap', rfl, r2⟩, r3, r4⟩
theorem Dw.nextOk {w : World} {F : List Nat} {b : Nat} {c : CF} {s : Ls} (h : Dw w F b c s) (hc : Fits c) (ok : s.Ok c) (A : Option Addr) (k cp : Nat) (xs : List Int) (hr : RI w A k xs) (M : Int) (hm : mostV s.n c.tol xs (tgt c) = some M) (N : Int) (hN : s.to c M = N) :
    Calls Try.prog 66 #[.pointer (some ⟨b, 0, none⟩), .slice A k cp] w fun r w' => r = .returned (.tuple #[.int .i64 N, .int .i64 M, .int .i64 0]) ∧ ∃ F', Dw w' F' b c (s.next c M) ∧ Tw F w w' ∧ Near F F' w := by
  subst hN
  obtain ⟨q, gq, v, p, gp, o, cap, rfl, x⟩ := h
  exact (dawNext_x x hc ok.len ok.P A k cp xs hr M hm (s.to c M) rfl).mono fun r w' ⟨gq', v', gp', o', cap', r1, r2, r3, r4⟩ => ⟨r1, _, ⟨q, gq', v', p, gp', o', cap', rfl, r2⟩, r3, r4⟩
theorem Dw.nextNo {w : World} {F : List Nat} {b : Nat} {c : CF} {s : Ls} (h : Dw w F b c s) (hc : Fits c) (A : Option Addr) (k cp : Nat) (xs : List Int) (hr : RI w A k xs) (hm : mostV s.n c.tol xs (tgt c) = none) :
    Calls Try.prog 66 #[.pointer (some ⟨b, 0, none⟩), .slice A k cp] w fun r w' => r = .returned (.tuple #[.int .i64 0, .int .i64 0, .int .i64 1]) ∧ Gr w w' := by
  obtain ⟨q, gq, v, p, gp, o, cap, rfl, x⟩ := h
  exact dawNext_no x hc A k cp xs hr hm

/-- The program's law and the document's, apart. -/
structure LD (W w : World) (c : CF) (F : List Nat) (b : Nat) (s : Ls) (H : List Nat) (d : Nat) (t : Ls) : Prop where mk ::
  L : Lw w F b c s
  D : Dw w H d c t
  G : Gr W w
  newL : ∀ x ∈ F, W.heap.size ≤ x
  newD : ∀ x ∈ H, W.heap.size ≤ x
  df : ∀ x ∈ F, x ∉ H
section
variable {W w w' : World} {c : CF} {F F' H H' : List Nat} {b d : Nat} {s s' t t' : Ls}
theorem LD.on (x : LD W w c F b s H d t) (r : Gr w w') : LD W w' c F b s H d t := ⟨x.L.on r, x.D.on r, x.G.trans r, x.newL, x.newD, x.df⟩
theorem LD.left (x : LD W w c F b s H d t) (L : Lw w' F' b c s') (T : Tw F w w') (N : Near F F' w) : LD W w' c F' b s' H d t :=
  ⟨L, x.D.other T (fun y h k => x.df y k h), T.gr x.G x.newL, fun y hy => (N y hy).elim (x.newL y) (fun h => Nat.le_trans x.G.size h), x.newD,
    fun y hy k => (N y hy).elim (fun h => x.df y h k) (fun h => by have := x.D.lt y k; omega)⟩
theorem LD.right (x : LD W w c F b s H d t) (D : Dw w' H' d c t') (T : Tw H w w') (N : Near H H' w) : LD W w' c F b s H' d t' :=
  ⟨x.L.other T x.df, D, T.gr x.G x.newD, x.newL, fun y hy => (N y hy).elim (x.newD y) (fun h => Nat.le_trans x.G.size h),
    fun y hy k => (N y k).elim (fun h => x.df y hy h) (fun h => by have := x.L.lt y hy; omega)⟩
end
end Go.Proofs.Ytjobicffdcnnlaa
