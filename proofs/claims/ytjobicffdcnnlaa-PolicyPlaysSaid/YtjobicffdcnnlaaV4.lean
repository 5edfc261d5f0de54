import Derived.Test.YtjobicffdcnnlaaV3
/- The document's policy: Put. -/
namespace Go.Proofs.Ytjobicffdcnnlaa
open Go.RowKit
set_option linter.unusedSimpArgs false
set_option linter.unusedVariables false
set_option maxRecDepth 100000

theorem wp_region_readsT {P : Program} {Q : Exit → Act → World → Prop} {id : Nat} {a : Act} {w : World} {l : List Oper} (C : World → Prop) (T R : List Nat) (fuel : Nat) (hm : P.follows .mixedOrders = true) (hsel : Region.noSelect l.toArray = true)
    (hB : schR .any l.toArray R (Array.replicate l.toArray.size false) = true) (ht : tailB .any l.toArray T R = true) (hn : fuel + R.length = l.toArray.size)
    (hQ : ∀ d v c a w, Q (.panic c) (Act.put a d v) w → Q (.panic c) a w) (hC : C { w with drawn := w.drawn + 1 })
    (h : wpQuiet P l.toArray C (fun a' => wpAnyT P .any l.toArray Q C (inT T) fuel (setAll R (Array.replicate l.toArray.size false)) a' { w with drawn := w.drawn + 1 }) (R.filterMap fun i => l.toArray[i]?) a) : (Code.region id l.toArray true).wp P Q a w := by
  refine wp_region_any hm ?_
  have := wpAny_of_T _ _ _ _ (reads_soundT (md := .any) (T := T) hsel hQ hC R _ a hB ht h (fun a' h' => h'))
  rwa [hn] at this
theorem run_store45 {a : Act} {x y : Operand} {o : Oper} {w : World} {p off : Nat} {A : Option Addr} {n c : Nat} {u : Value} (ho : o.op = .store 45 x y) (hp : a.eval x = .pointer (some ⟨p, off, none⟩)) (hv : a.eval y = .slice A n c)
    (hc : w.cell? ⟨p, off, none⟩ = some u) (hz : w.frozen? ⟨p, off, none⟩ = false) : (execOp a.eval o).run Try.prog w = .ok .skip (w.setCell ⟨p, off, none⟩ (.slice A n c)) := by
  unfold execOp
  rw [ho]
  show (do Instr.storeAt 45 (a.eval x) (a.eval y); pure Next.skip : Sem Next).run Try.prog w = _
  rw [hp, hv]
  simp [Instr.storeAt, go_sem, hc, hz]
theorem cell_one {w : World} {s : Nat} {n : Int} (h : w.cell? ⟨s, 0, none⟩ = some (.int .i64 n)) : ∀ j, j < [n].length → w.cell? ⟨s, 0 + j, none⟩ = some (.int .i64 ([n].getD j 0)) := fun j hj => by
  obtain rfl : j = 0 := by simpa using hj
  exact h
theorem wpOp_skipT {P : Program} {ops : Array Oper} {Q : Exit → Act → World → Prop} {i : Nat} {o : Oper} {a : Act} {w : World} {K : Act → World → Prop} (w1 : World) (hi : ops[i]? = some o) (hd : o.dst = none) (hw : Region.wanted o (yielded ops a.tmps) = true)
    (h : (execOp a.eval o).run P w = .ok .skip w1) (k : K a w1) : wpOp P ops Q i K a w :=
  wpOp_skip w1 hi hw h (by rw [hd]; exact k)
theorem wpOp_madeT {P : Program} {ops : Array Oper} {Q : Exit → Act → World → Prop} {W w : World} {i : Nat} {o : Oper} {a : Act} {K : Act → World → Prop} {tl : Nat → Bool} (t : Nat) (v : Value) (w1 : World) (hi : ops[i]? = some o) (hd : o.dst = some t) (hw : Region.wanted o (yielded ops a.tmps) = true)
    (h : (execOp a.eval o).run P w = .ok (.value v) w1) (hG : Gr W w1) (k : K (a.put (some t) v) w1) : wpOp P ops Q i (fun a' w' => (tl i = false → ∃ s : Gw W, w' = s.val) ∧ K a' w') a w :=
  wpOp_value v w1 hi hw h (by rw [hd]; exact ⟨fun _ => hG.in_, k⟩)

set_option maxHeartbeats 8000000 in
theorem x_put_ok {w : World} {p g o cap : Nat} {c : CF} {l : List Int} (h : RX w p g o cap c l) (hl : 1 ≤ l.length) (hm : l.length ≤ 1000) (r : Rts c) (n : Int) (hn : putB c n = true) :
    Calls Try.prog 57 #[.pointer (some ⟨p, 0, none⟩), .int .i64 n] w fun e w' => ∃ g' o' cap', e = .returned (.int .i64 0) ∧ RX w' p g' o' cap' c (putP c l n) ∧ Tc p p w w' ∧ w.heap.size ≤ g' := by
  have hc := h.cell
  have hb : c.lo ≤ n ∧ n ≤ c.hi := by unfold putB at hn; simpa using hn
  have hb0 := hb.1
  have hb1 := hb.2
  clear hn hb
  have p0 := r.per0
  have p1 := r.per1
  obtain ⟨P, hP⟩ : ∃ P : Nat, c.per = (P : Int) := ⟨c.per.toNat, by omega⟩
  have hPn : c.per.toNat = P := by omega
  rw [hP] at p0 p1
  clear r
  go_enter Try.func57, Try.ntmps57
  go_upto_region 3 with (fail)
  have hcs : ∀ s : Gw w, ∀ off, s.val.cell? ⟨p, off, none⟩ = rolAt c (.slice (some ⟨g, o, none⟩) l.length cap) off := fun s => (h.on s.gr).cell
  clear hc
  refine wp_region_readsT (fun w' => ∃ s : Gw w, w' = s.val) [18] [0, 2, 3, 4, 5, 7, 10, 11, 12, 13, 14] 8 (by kernel_rfl) (by as_aux_lemma => kernel_rfl) (by as_aux_lemma => kernel_rfl) (by as_aux_lemma => kernel_rfl) (by kernel_rfl) (fun d v c a w h => by cases d <;> exact h) (Gr.fresh w).in_ ?_
  simp only [List.filterMap_cons, List.filterMap_nil, List.getElem?_toArray, List.getElem?_cons_succ, List.getElem?_cons_zero]
  show wpQuiet _ _ _ _ [_, _, _, _, _, _, _, _, _, _, _] _
  repeat (go_big_quiet_step (fail))
  refine wpQuiet_nil ?_
  have G := Gr.fresh w
  generalize hw1 : ({ w with drawn := w.drawn + 1 } : World) = x1 at *
  have hx1 : x1.heap.size = w.heap.size := by rw [← hw1]
  clear hw1 hcs
  refine wpAnyT_all (fuel := 7) (rs := [1, 8]) (by kernel_rfl) (by simp) ?_
  intro i hi
  rcases (show i = 1 ∨ i = 8 by simpa using hi) with rfl | rfl
  · as_aux_lemma =>
      refine wpOp_madeT 22 (.slice (some ⟨x1.heap.size, 0, none⟩) 0 0) (x1.alloc (.cells #[] 3)) rfl rfl rfl (by kernel_rfl) (G.alloc _) ?_
      have gr1 : Gr x1 (x1.alloc (.cells #[] 3)) := (Gr.refl _).alloc _
      have O1 : (x1.alloc (.cells #[] 3)).ownsRow x1.heap.size 3 1 (.slice (some ⟨x1.heap.size, 0, none⟩) 0 0) ([] : List Int).length (([] : List Int).map (.int .i64)) := World.ownsRow_made x1 #[] 0 (Nat.le_refl _) (Nat.zero_le _) rfl
      have z1 : x1.heap.size < (x1.alloc (.cells #[] 3)).heap.size := by simp
      replace G := G.trans gr1
      generalize x1.alloc (.cells #[] 3) = x2 at *
      obtain ⟨s1, es1⟩ : ∃ s, s = x1.heap.size := ⟨_, rfl⟩
      rw [← es1] at O1 ⊢
      simp only [Act.put, List.setIfInBounds_toArray, List.set_cons_succ, List.set_cons_zero]
      refine wpAnyT_all (fuel := 6) (rs := [6, 8]) (by kernel_rfl) (by simp) ?_
      intro i hi
      rcases (show i = 6 ∨ i = 8 by simpa using hi) with rfl | rfl
      · as_aux_lemma =>
          refine step_apps (l := []) (ys := l) 27 rfl rfl rfl (.tmp 22) (.tmp 26) rfl rfl g o l.length cap rfl rfl hl (fun j hj => G.cell_some (h.row j hj)) O1 (by simp; omega) (by omega) fun g6 c6 x3 hown hgrow hat hlt => ?_
          have gr6 : Gr w x3 := ⟨G.out.grown hgrow G.size (fun k hk => by have : k = s1 := (Option.some.inj hk).symm; omega)⟩
          have sz6 := hgrow.size
          have f6 : w.heap.size ≤ g6 := hat.elim (fun e => by have : s1 = g6 := Option.some.inj e; omega) (fun e => by omega)
          have n6 : g6 < x2.heap.size + 1 := hat.elim (fun e => by have : s1 = g6 := Option.some.inj e; omega) (fun e => by omega)
          refine ⟨fun _ => gr6.in_, ?_⟩
          replace G := gr6
          have O6 := hown
          clear hown hgrow hat O1
          simp only [Act.put, List.setIfInBounds_toArray, List.set_cons_succ, List.set_cons_zero]
          refine wpAnyT_all (fuel := 5) (rs := [8]) (by kernel_rfl) (by simp) ?_
          intro i hi
          obtain rfl : i = 8 := by simpa using hi
          refine wpOp_madeT 29 (.slice (some ⟨x3.heap.size, 0, none⟩) 1 1) (x3.alloc (.cells #[.int .i64 n] 3)) rfl rfl rfl (by kernel_rfl) (G.alloc _) ?_
          have gr8 : Gr x3 (x3.alloc (.cells #[.int .i64 n] 3)) := (Gr.refl _).alloc _
          have c8 : (x3.alloc (.cells #[.int .i64 n] 3)).cell? ⟨x3.heap.size, 0, none⟩ = some (.int .i64 n) := cell_in (heap_new rfl) rfl
          have z8 : x3.heap.size < (x3.alloc (.cells #[.int .i64 n] 3)).heap.size := by simp
          replace O6 := O6.kept gr8.grown (none_or _)
          replace G := G.trans gr8
          generalize x3.alloc (.cells #[.int .i64 n] 3) = x4 at *
          obtain ⟨s8, es8⟩ : ∃ s, s = x3.heap.size := ⟨_, rfl⟩
          rw [← es8] at c8 ⊢
          simp only [Act.put, List.setIfInBounds_toArray, List.set_cons_succ, List.set_cons_zero]
          refine wpAnyT_all (fuel := 4) (rs := [9]) (by kernel_rfl) (by simp) ?_
          intro i hi
          obtain rfl : i = 9 := by simpa using hi
          refine step_apps (l := [] ++ l) (ys := [n]) 30 rfl rfl rfl (.tmp 27) (.tmp 29) rfl rfl s8 0 1 1 rfl rfl (Nat.le_refl _) (cell_one c8) O6 (by simp; omega) (by omega) fun g9 c9 x5 hown hgrow hat hlt9 => ?_
          have gr9 : Gr w x5 := ⟨G.out.grown hgrow G.size (fun k hk => by have : k = g6 := (Option.some.inj hk).symm; omega)⟩
          have sz9 := hgrow.size
          have f9 : w.heap.size ≤ g9 := hat.elim (fun e => by have : g6 = g9 := Option.some.inj e; omega) (fun e => by have := G.size; omega)
          refine ⟨fun _ => gr9.in_, ?_⟩
          have G9 := gr9
          have O9 := hown
          clear hown hgrow hat O6 c8 G gr9
          simp only [Act.put, List.setIfInBounds_toArray, List.set_cons_succ, List.set_cons_zero]
          simp only [List.nil_append, List.length_nil, Nat.zero_add] at O9 ⊢
          have eN : (l ++ [n]).length = l.length + 1 := by simp
          rw [eN] at O9
          obtain ⟨cur, q1, q2, q3, _⟩ := own_block O9
          have eL : putP c l n = (l ++ [n]).drop (l.length + 1 - P) := by unfold putP; rw [hPn]
          obtain ⟨N, hN⟩ : ∃ N, l.length + 1 = N := ⟨_, rfl⟩
          rw [hN] at O9 q2 eL eN ⊢
          refine wpAnyT_all (fuel := 3) (rs := [15]) (by kernel_rfl) (by simp) ?_
          intro i hi
          obtain rfl : i = 15 := by simpa using hi
          refine wpOp_to (R := fun v w' => v = .slice (some ⟨g9, N - P, none⟩) (N - (N - P)) (c9 - (N - P)) ∧ x5 = w') 36 91 #[.slice (some ⟨g9, 0, none⟩) N c9, .int .i64 (P : Int)] rfl rfl rfl (by kernel_rfl) ((last_any g9 N c9 P x5 (by omega) (by omega) (by omega) (by omega) q2 q3).mono fun e w' ⟨r1, r2⟩ => ⟨_, r1, rfl, r2⟩) fun v w' hv => ⟨fun _ => by rw [← hv.2]; exact G9.in_, ?_⟩
          obtain ⟨rfl, rfl⟩ := hv
          simp only [Act.put, List.setIfInBounds_toArray, List.set_cons_succ, List.set_cons_zero]
          refine wpAnyT_all (fuel := 2) (rs := [16]) (by kernel_rfl) (by simp) ?_
          intro i hi
          obtain rfl : i = 16 := by simpa using hi
          refine wpOp_madeT 37 (.pointer (some ⟨p, 0, none⟩)) x5 rfl rfl rfl (by kernel_rfl) G9 ?_
          simp only [Act.put, List.setIfInBounds_toArray, List.set_cons_succ, List.set_cons_zero]
          refine wpAnyT_all (fuel := 1) (rs := [17]) (by kernel_rfl) (by simp) ?_
          intro i hi
          obtain rfl : i = 17 := by simpa using hi
          refine wpOp_madeT 38 (.pointer (some ⟨p, 26, none⟩)) x5 rfl rfl rfl (by kernel_rfl) G9 ?_
          simp only [Act.put, List.setIfInBounds_toArray, List.set_cons_succ, List.set_cons_zero]
          refine wpAnyT_all (fuel := 0) (rs := [18]) (by kernel_rfl) (by simp) ?_
          intro i hi
          obtain rfl : i = 18 := by simpa using hi
          refine wpOp_skipT _ rfl rfl rfl (run_store45 rfl rfl rfl (((h.on G9).cell 26).trans (rolAt_26 _ _)) ((h.on G9).froz 26)) ⟨fun h' => absurd h' (by decide), ⟨by kernel_rfl, ?_⟩⟩
          have H9 := h.on G9
          have hpl := h.lt
          have hpg : p ≠ g9 := by omega
          have hlen : (putP c l n).length = N - (N - P) := by rw [eL, List.length_drop, eN]
          have HX : RX (World.setCell x5 ⟨p, 26, none⟩ (.slice (some ⟨g9, N - P, none⟩) (N - (N - P)) (c9 - (N - P)))) p g9 (N - P) (c9 - (N - P)) c (putP c l n) := by
            refine ⟨?_, fun j hj => ?_, ?_, hpg⟩
            · rw [hlen]; exact set_block H9.box
            · rw [hlen] at hj
              refine (World.cell?_setCell_other _ ⟨p, 26, none⟩ ⟨g9, N - P + j, none⟩ _ (by intro e; simp at e <;> omega)).trans ?_
              rw [own_cell O9 (by omega), eL]
              simp [List.getD_eq_getElem?_getD]
            · simp [World.setCell]; exact own_lt O9
          have TX : Tc p p w (World.setCell x5 ⟨p, 26, none⟩ (.slice (some ⟨g9, N - P, none⟩) (N - (N - P)) (c9 - (N - P)))) := (Tc.of_gr G9).trans (Tc.cellp p p 26 _ _)
          clear H9 O9 q1 q2 q3 h G9
          go_wp2
          go_ret
          exact ⟨g9, _, _, rfl, HX, TX, f9⟩
      · as_aux_lemma =>
          refine wpOp_madeT 29 (.slice (some ⟨x2.heap.size, 0, none⟩) 1 1) (x2.alloc (.cells #[.int .i64 n] 3)) rfl rfl rfl (by kernel_rfl) (G.alloc _) ?_
          have gr8 : Gr x2 (x2.alloc (.cells #[.int .i64 n] 3)) := (Gr.refl _).alloc _
          have c8 : (x2.alloc (.cells #[.int .i64 n] 3)).cell? ⟨x2.heap.size, 0, none⟩ = some (.int .i64 n) := cell_in (heap_new rfl) rfl
          have z8 : x2.heap.size < (x2.alloc (.cells #[.int .i64 n] 3)).heap.size := by simp
          replace O1 := O1.kept gr8.grown (none_or _)
          replace G := G.trans gr8
          generalize x2.alloc (.cells #[.int .i64 n] 3) = x3 at *
          obtain ⟨s8, es8⟩ : ∃ s, s = x2.heap.size := ⟨_, rfl⟩
          rw [← es8] at c8 ⊢
          simp only [Act.put, List.setIfInBounds_toArray, List.set_cons_succ, List.set_cons_zero]
          refine wpAnyT_all (fuel := 5) (rs := [6]) (by kernel_rfl) (by simp) ?_
          intro i hi
          obtain rfl : i = 6 := by simpa using hi
          refine step_apps (l := []) (ys := l) 27 rfl rfl rfl (.tmp 22) (.tmp 26) rfl rfl g o l.length cap rfl rfl hl (fun j hj => G.cell_some (h.row j hj)) O1 (by simp; omega) (by omega) fun g6 c6 x4 hown hgrow hat hlt => ?_
          have gr6 : Gr w x4 := ⟨G.out.grown hgrow G.size (fun k hk => by have : k = s1 := (Option.some.inj hk).symm; omega)⟩
          replace c8 := hgrow.cell c8 (fun e => by have : s8 = s1 := Option.some.inj e; omega)
          have sz6 := hgrow.size
          have f6 : w.heap.size ≤ g6 := hat.elim (fun e => by have : s1 = g6 := Option.some.inj e; omega) (fun e => by omega)
          have n6 : g6 ≠ s8 := hat.elim (fun e => by have : s1 = g6 := Option.some.inj e; omega) (fun e => by omega)
          refine ⟨fun _ => gr6.in_, ?_⟩
          replace G := gr6
          have O6 := hown
          clear hown hgrow hat O1
          simp only [Act.put, List.setIfInBounds_toArray, List.set_cons_succ, List.set_cons_zero]
          refine wpAnyT_all (fuel := 4) (rs := [9]) (by kernel_rfl) (by simp) ?_
          intro i hi
          obtain rfl : i = 9 := by simpa using hi
          refine step_apps (l := [] ++ l) (ys := [n]) 30 rfl rfl rfl (.tmp 27) (.tmp 29) rfl rfl s8 0 1 1 rfl rfl (Nat.le_refl _) (cell_one c8) O6 (by simp; omega) (by omega) fun g9 c9 x5 hown hgrow hat hlt9 => ?_
          have gr9 : Gr w x5 := ⟨G.out.grown hgrow G.size (fun k hk => by have : k = g6 := (Option.some.inj hk).symm; omega)⟩
          have sz9 := hgrow.size
          have f9 : w.heap.size ≤ g9 := hat.elim (fun e => by have : g6 = g9 := Option.some.inj e; omega) (fun e => by have := G.size; omega)
          refine ⟨fun _ => gr9.in_, ?_⟩
          have G9 := gr9
          have O9 := hown
          clear hown hgrow hat O6 c8 G gr9
          simp only [Act.put, List.setIfInBounds_toArray, List.set_cons_succ, List.set_cons_zero]
          simp only [List.nil_append, List.length_nil, Nat.zero_add] at O9 ⊢
          have eN : (l ++ [n]).length = l.length + 1 := by simp
          rw [eN] at O9
          obtain ⟨cur, q1, q2, q3, _⟩ := own_block O9
          have eL : putP c l n = (l ++ [n]).drop (l.length + 1 - P) := by unfold putP; rw [hPn]
          obtain ⟨N, hN⟩ : ∃ N, l.length + 1 = N := ⟨_, rfl⟩
          rw [hN] at O9 q2 eL eN ⊢
          refine wpAnyT_all (fuel := 3) (rs := [15]) (by kernel_rfl) (by simp) ?_
          intro i hi
          obtain rfl : i = 15 := by simpa using hi
          refine wpOp_to (R := fun v w' => v = .slice (some ⟨g9, N - P, none⟩) (N - (N - P)) (c9 - (N - P)) ∧ x5 = w') 36 91 #[.slice (some ⟨g9, 0, none⟩) N c9, .int .i64 (P : Int)] rfl rfl rfl (by kernel_rfl) ((last_any g9 N c9 P x5 (by omega) (by omega) (by omega) (by omega) q2 q3).mono fun e w' ⟨r1, r2⟩ => ⟨_, r1, rfl, r2⟩) fun v w' hv => ⟨fun _ => by rw [← hv.2]; exact G9.in_, ?_⟩
          obtain ⟨rfl, rfl⟩ := hv
          simp only [Act.put, List.setIfInBounds_toArray, List.set_cons_succ, List.set_cons_zero]
          refine wpAnyT_all (fuel := 2) (rs := [16]) (by kernel_rfl) (by simp) ?_
          intro i hi
          obtain rfl : i = 16 := by simpa using hi
          refine wpOp_madeT 37 (.pointer (some ⟨p, 0, none⟩)) x5 rfl rfl rfl (by kernel_rfl) G9 ?_
          simp only [Act.put, List.setIfInBounds_toArray, List.set_cons_succ, List.set_cons_zero]
          refine wpAnyT_all (fuel := 1) (rs := [17]) (by kernel_rfl) (by simp) ?_
          intro i hi
          obtain rfl : i = 17 := by simpa using hi
          refine wpOp_madeT 38 (.pointer (some ⟨p, 26, none⟩)) x5 rfl rfl rfl (by kernel_rfl) G9 ?_
          simp only [Act.put, List.setIfInBounds_toArray, List.set_cons_succ, List.set_cons_zero]
          refine wpAnyT_all (fuel := 0) (rs := [18]) (by kernel_rfl) (by simp) ?_
          intro i hi
          obtain rfl : i = 18 := by simpa using hi
          refine wpOp_skipT _ rfl rfl rfl (run_store45 rfl rfl rfl (((h.on G9).cell 26).trans (rolAt_26 _ _)) ((h.on G9).froz 26)) ⟨fun h' => absurd h' (by decide), ⟨by kernel_rfl, ?_⟩⟩
          have H9 := h.on G9
          have hpl := h.lt
          have hpg : p ≠ g9 := by omega
          have hlen : (putP c l n).length = N - (N - P) := by rw [eL, List.length_drop, eN]
          have HX : RX (World.setCell x5 ⟨p, 26, none⟩ (.slice (some ⟨g9, N - P, none⟩) (N - (N - P)) (c9 - (N - P)))) p g9 (N - P) (c9 - (N - P)) c (putP c l n) := by
            refine ⟨?_, fun j hj => ?_, ?_, hpg⟩
            · rw [hlen]; exact set_block H9.box
            · rw [hlen] at hj
              refine (World.cell?_setCell_other _ ⟨p, 26, none⟩ ⟨g9, N - P + j, none⟩ _ (by intro e; simp at e <;> omega)).trans ?_
              rw [own_cell O9 (by omega), eL]
              simp [List.getD_eq_getElem?_getD]
            · simp [World.setCell]; exact own_lt O9
          have TX : Tc p p w (World.setCell x5 ⟨p, 26, none⟩ (.slice (some ⟨g9, N - P, none⟩) (N - (N - P)) (c9 - (N - P)))) := (Tc.of_gr G9).trans (Tc.cellp p p 26 _ _)
          clear H9 O9 q1 q2 q3 h G9
          go_wp2
          go_ret
          exact ⟨g9, _, _, rfl, HX, TX, f9⟩
  · as_aux_lemma =>
      refine wpOp_madeT 29 (.slice (some ⟨x1.heap.size, 0, none⟩) 1 1) (x1.alloc (.cells #[.int .i64 n] 3)) rfl rfl rfl (by kernel_rfl) (G.alloc _) ?_
      have gr8 : Gr x1 (x1.alloc (.cells #[.int .i64 n] 3)) := (Gr.refl _).alloc _
      have c8 : (x1.alloc (.cells #[.int .i64 n] 3)).cell? ⟨x1.heap.size, 0, none⟩ = some (.int .i64 n) := cell_in (heap_new rfl) rfl
      have z8 : x1.heap.size < (x1.alloc (.cells #[.int .i64 n] 3)).heap.size := by simp
      replace G := G.trans gr8
      generalize x1.alloc (.cells #[.int .i64 n] 3) = x2 at *
      obtain ⟨s8, es8⟩ : ∃ s, s = x1.heap.size := ⟨_, rfl⟩
      rw [← es8] at c8 ⊢
      simp only [Act.put, List.setIfInBounds_toArray, List.set_cons_succ, List.set_cons_zero]
      refine wpAnyT_all (fuel := 6) (rs := [1]) (by kernel_rfl) (by simp) ?_
      intro i hi
      obtain rfl : i = 1 := by simpa using hi
      refine wpOp_madeT 22 (.slice (some ⟨x2.heap.size, 0, none⟩) 0 0) (x2.alloc (.cells #[] 3)) rfl rfl rfl (by kernel_rfl) (G.alloc _) ?_
      have gr1 : Gr x2 (x2.alloc (.cells #[] 3)) := (Gr.refl _).alloc _
      have O1 : (x2.alloc (.cells #[] 3)).ownsRow x2.heap.size 3 1 (.slice (some ⟨x2.heap.size, 0, none⟩) 0 0) ([] : List Int).length (([] : List Int).map (.int .i64)) := World.ownsRow_made x2 #[] 0 (Nat.le_refl _) (Nat.zero_le _) rfl
      have z1 : x2.heap.size < (x2.alloc (.cells #[] 3)).heap.size := by simp
      replace c8 := gr1.cell_some c8
      replace G := G.trans gr1
      generalize x2.alloc (.cells #[] 3) = x3 at *
      obtain ⟨s1, es1⟩ : ∃ s, s = x2.heap.size := ⟨_, rfl⟩
      rw [← es1] at O1 ⊢
      simp only [Act.put, List.setIfInBounds_toArray, List.set_cons_succ, List.set_cons_zero]
      refine wpAnyT_all (fuel := 5) (rs := [6]) (by kernel_rfl) (by simp) ?_
      intro i hi
      obtain rfl : i = 6 := by simpa using hi
      refine step_apps (l := []) (ys := l) 27 rfl rfl rfl (.tmp 22) (.tmp 26) rfl rfl g o l.length cap rfl rfl hl (fun j hj => G.cell_some (h.row j hj)) O1 (by simp; omega) (by omega) fun g6 c6 x4 hown hgrow hat hlt => ?_
      have gr6 : Gr w x4 := ⟨G.out.grown hgrow G.size (fun k hk => by have : k = s1 := (Option.some.inj hk).symm; omega)⟩
      replace c8 := hgrow.cell c8 (fun e => by have : s8 = s1 := Option.some.inj e; omega)
      have sz6 := hgrow.size
      have f6 : w.heap.size ≤ g6 := hat.elim (fun e => by have : s1 = g6 := Option.some.inj e; omega) (fun e => by omega)
      have n6 : g6 ≠ s8 := hat.elim (fun e => by have : s1 = g6 := Option.some.inj e; omega) (fun e => by omega)
      refine ⟨fun _ => gr6.in_, ?_⟩
      replace G := gr6
      have O6 := hown
      clear hown hgrow hat O1
      simp only [Act.put, List.setIfInBounds_toArray, List.set_cons_succ, List.set_cons_zero]
      refine wpAnyT_all (fuel := 4) (rs := [9]) (by kernel_rfl) (by simp) ?_
      intro i hi
      obtain rfl : i = 9 := by simpa using hi
      refine step_apps (l := [] ++ l) (ys := [n]) 30 rfl rfl rfl (.tmp 27) (.tmp 29) rfl rfl s8 0 1 1 rfl rfl (Nat.le_refl _) (cell_one c8) O6 (by simp; omega) (by omega) fun g9 c9 x5 hown hgrow hat hlt9 => ?_
      have gr9 : Gr w x5 := ⟨G.out.grown hgrow G.size (fun k hk => by have : k = g6 := (Option.some.inj hk).symm; omega)⟩
      have sz9 := hgrow.size
      have f9 : w.heap.size ≤ g9 := hat.elim (fun e => by have : g6 = g9 := Option.some.inj e; omega) (fun e => by have := G.size; omega)
      refine ⟨fun _ => gr9.in_, ?_⟩
      have G9 := gr9
      have O9 := hown
      clear hown hgrow hat O6 c8 G gr9
      simp only [Act.put, List.setIfInBounds_toArray, List.set_cons_succ, List.set_cons_zero]
      simp only [List.nil_append, List.length_nil, Nat.zero_add] at O9 ⊢
      have eN : (l ++ [n]).length = l.length + 1 := by simp
      rw [eN] at O9
      obtain ⟨cur, q1, q2, q3, _⟩ := own_block O9
      have eL : putP c l n = (l ++ [n]).drop (l.length + 1 - P) := by unfold putP; rw [hPn]
      obtain ⟨N, hN⟩ : ∃ N, l.length + 1 = N := ⟨_, rfl⟩
      rw [hN] at O9 q2 eL eN ⊢
      refine wpAnyT_all (fuel := 3) (rs := [15]) (by kernel_rfl) (by simp) ?_
      intro i hi
      obtain rfl : i = 15 := by simpa using hi
      refine wpOp_to (R := fun v w' => v = .slice (some ⟨g9, N - P, none⟩) (N - (N - P)) (c9 - (N - P)) ∧ x5 = w') 36 91 #[.slice (some ⟨g9, 0, none⟩) N c9, .int .i64 (P : Int)] rfl rfl rfl (by kernel_rfl) ((last_any g9 N c9 P x5 (by omega) (by omega) (by omega) (by omega) q2 q3).mono fun e w' ⟨r1, r2⟩ => ⟨_, r1, rfl, r2⟩) fun v w' hv => ⟨fun _ => by rw [← hv.2]; exact G9.in_, ?_⟩
      obtain ⟨rfl, rfl⟩ := hv
      simp only [Act.put, List.setIfInBounds_toArray, List.set_cons_succ, List.set_cons_zero]
      refine wpAnyT_all (fuel := 2) (rs := [16]) (by kernel_rfl) (by simp) ?_
      intro i hi
      obtain rfl : i = 16 := by simpa using hi
      refine wpOp_madeT 37 (.pointer (some ⟨p, 0, none⟩)) x5 rfl rfl rfl (by kernel_rfl) G9 ?_
      simp only [Act.put, List.setIfInBounds_toArray, List.set_cons_succ, List.set_cons_zero]
      refine wpAnyT_all (fuel := 1) (rs := [17]) (by kernel_rfl) (by simp) ?_
      intro i hi
      obtain rfl : i = 17 := by simpa using hi
      refine wpOp_madeT 38 (.pointer (some ⟨p, 26, none⟩)) x5 rfl rfl rfl (by kernel_rfl) G9 ?_
      simp only [Act.put, List.setIfInBounds_toArray, List.set_cons_succ, List.set_cons_zero]
      refine wpAnyT_all (fuel := 0) (rs := [18]) (by kernel_rfl) (by simp) ?_
      intro i hi
      obtain rfl : i = 18 := by simpa using hi
      refine wpOp_skipT _ rfl rfl rfl (run_store45 rfl rfl rfl (((h.on G9).cell 26).trans (rolAt_26 _ _)) ((h.on G9).froz 26)) ⟨fun h' => absurd h' (by decide), ⟨by kernel_rfl, ?_⟩⟩
      have H9 := h.on G9
      have hpl := h.lt
      have hpg : p ≠ g9 := by omega
      have hlen : (putP c l n).length = N - (N - P) := by rw [eL, List.length_drop, eN]
      have HX : RX (World.setCell x5 ⟨p, 26, none⟩ (.slice (some ⟨g9, N - P, none⟩) (N - (N - P)) (c9 - (N - P)))) p g9 (N - P) (c9 - (N - P)) c (putP c l n) := by
        refine ⟨?_, fun j hj => ?_, ?_, hpg⟩
        · rw [hlen]; exact set_block H9.box
        · rw [hlen] at hj
          refine (World.cell?_setCell_other _ ⟨p, 26, none⟩ ⟨g9, N - P + j, none⟩ _ (by intro e; simp at e <;> omega)).trans ?_
          rw [own_cell O9 (by omega), eL]
          simp [List.getD_eq_getElem?_getD]
        · simp [World.setCell]; exact own_lt O9
      have TX : Tc p p w (World.setCell x5 ⟨p, 26, none⟩ (.slice (some ⟨g9, N - P, none⟩) (N - (N - P)) (c9 - (N - P)))) := (Tc.of_gr G9).trans (Tc.cellp p p 26 _ _)
      clear H9 O9 q1 q2 q3 h G9
      go_wp2
      go_ret
      exact ⟨g9, _, _, rfl, HX, TX, f9⟩
end Go.Proofs.Ytjobicffdcnnlaa
