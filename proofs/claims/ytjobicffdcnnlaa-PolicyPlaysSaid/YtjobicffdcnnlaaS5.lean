import Derived.Test.YtjobicffdcnnlaaS4
import Derived.Test.YtjobicffdcnnlaaQ3
/- Put of the program's policy. -/
namespace Go.Proofs.Ytjobicffdcnnlaa
open Go.RowKit Go.Lib
set_option linter.unusedSimpArgs false
set_option linter.unusedVariables false
set_option maxRecDepth 100000

theorem put_no {w : World} {p g cap : Nat} {c : CF} {l : List Int} {k : Int} (h : Pol w p g cap c l k) (n : Int) (hn : putB c n = false) :
    Calls Try.prog 46 #[.pointer (some ⟨p, 0, none⟩), .int .i64 n] w fun e w' => e = .returned (.int .i64 1) ∧ w = w' := by
  have hc := h.cell
  have hb : ¬ (c.lo ≤ n ∧ n ≤ c.hi) := by unfold putB at hn; simpa using hn
  clear h hn
  by_cases h0 : c.lo ≤ n
  all_goals
    go_enter Try.func46, Try.ntmps46
    go_wp2
    go_ret
    exact ⟨rfl, rfl⟩

theorem row_ne {w : World} {p g cap n : Nat} {cs : Array Value} {xs : List Value} (hb : w.heap[p]? = some (.cells cs 112)) (ho : w.ownsRow g 3 1 (.slice (some ⟨g, 0, none⟩) n cap) n xs) : p ≠ g := by
  rintro rfl
  obtain ⟨cur, h1, _⟩ := own_block ho
  rw [hb] at h1
  cases h1

set_option maxHeartbeats 4000000 in
theorem put_ok {w : World} {p g cap : Nat} {c : CF} {l : List Int} {k : Int} (h : Pol w p g cap c l k) (hl : 1 ≤ l.length) (hm : l.length ≤ 1000) (r : Rts c) (n : Int) (hn : putB c n = true) :
    Calls Try.prog 46 #[.pointer (some ⟨p, 0, none⟩), .int .i64 n] w fun e w' => ∃ g' cap', e = .returned (.int .i64 0) ∧ Pol w' p g' cap' c (putP c l n) k ∧ Tc p g w w' ∧ w.heap.size ≤ g' := by
  have hc := h.cell
  have hb : c.lo ≤ n ∧ n ≤ c.hi := by unfold putB at hn; simpa using hn
  have hb0 := hb.1
  have hb1 := hb.2
  clear hn hb
  obtain ⟨i0, hi, hz0, hz1, hz2⟩ := info_parts info3
  have p0 := r.per0
  have p1 := r.per1
  have R := Lib.hid r; clear r
  go_enter Try.func46, Try.ntmps46
  have H := Lib.hid h
  have hw := h.own.alloc (.cells #[.int .i64 n] 3)
  have hgl := h.glt
  clear h
  generalize hN : l.length = N at *
  go_wp2_with (at_builtin; refine wpList_append_own _ rfl _ _ 45 rfl g 3 i0 (.int .i64 0) 1 8 Try.underlying45 hi hz0 hz1 hz2 rfl (by decide) _ _ _ rfl hw ⟨w.heap.size, 0, none⟩ 1 1 [.int .i64 n] rfl ?qc1 ?qc2 ?qc3 ?qc4 ?qc5 ?qc6 ?_)
  case qc1 => simp
  case qc2 =>
    intro j u hj
    have hj0 : j = 0 := by
      have := (List.getElem?_eq_some_iff.1 hj).1
      simp at this; exact this
    subst hj0
    rw [Addr.add_lit]
    rw [← hj]
    exact cell_in (heap_new rfl) rfl
  case qc3 => intro u hu; simp at hu; subst hu; rfl
  case qc4 => unfold maxLen; omega
  case qc5 => omega
  case qc6 => simp; omega
  intro v' w1 hown hgrow hnil
  have hown' : w1.ownsRow g 3 1 v' (N + 1) ((l ++ [n]).map (.int .i64)) := by simpa using hown
  clear hown hnil
  rcases hown'.2 with ⟨_, h0⟩ | ⟨g1, cap1, cur, hv, hg1, hrest⟩
  · omega
  subst hv
  replace hown' := own_re hown'
  have hcap : N + 1 ≤ cap1 := hrest.2.1
  clear hrest
  have hs : (w.alloc (.cells #[.int .i64 n] 3)).heap.size = w.heap.size + 1 := by simp
  have hg : w.grownBy w1 (some g) := ⟨hgrow.os, hgrow.tape, hgrow.output, Nat.le_trans (by simp) hgrow.size, fun j hj hne => (hgrow.block j (by simp; omega) hne).trans (Below.heap_alloc _ _ _ hj)⟩
  clear hgrow hs hw
  have T : Tc p g w w1 := Tc.grown hg
  have hbox : w1.heap[p]? = some (.cells #[.int .i64 c.n, .int .i64 c.f, .int .i64 c.m, .int .i64 c.q, .int .i64 c.fresh, .int .i64 c.grace, .int .i64 c.window, .int .i64 c.t0, .int .i64 c.t1, .int .i64 c.t2, .int .i64 c.t3, .int .i64 c.tol, .int .i64 c.lo, .int .i64 c.hi, .int .i64 c.cup, .int .i64 c.cdn, .int .i64 c.pup, .int .i64 c.tup, .int .i64 c.pdn, .int .i64 c.tdn, .int .i64 c.per, .int .i64 c.far, .int .i64 c.str, .int .i64 c.pro, .int .i64 c.sec, .int .u64 c.seed, .slice (some ⟨g, 0, none⟩) N cap, .int .i64 k] 112) := by
    have := (hg.block p H.out.lt (fun e => H.out.ne (Option.some.inj e))).trans H.out.box
    rwa [hN] at this
  have hsz := hg.size
  clear hg H hg1
  have hpg : p ≠ g1 := row_ne hbox hown'
  have hc : ∀ off, w1.cell? ⟨p, off, none⟩ = polAt c (.slice (some ⟨g, 0, none⟩) N cap) k off := fun off => by simp [World.cell?, hbox, polAt]
  have hz : ∀ off, w1.frozen? ⟨p, off, none⟩ = false := fun off => frozen_in hbox
  go_upto_region 4 with (fail)
  have H3 : Pol (w1.setCell ⟨p, 26, none⟩ (.slice (some ⟨g1, 0, none⟩) (N + 1) cap1)) p g1 cap1 c (l ++ [n]) k := by
    have e : (l ++ [n]).length = N + 1 := by simp [hN]
    have := Pol.setL (l := l) (k := k) (c := c) (g := g) (cap := cap) (w := w1) (p := p) (by rw [hN]; exact hbox) (g' := g1) (cap' := cap1) (l' := l ++ [n]) (by rw [e]; exact hown') hpg
    rwa [e] at this
  replace T := T.trans (Tc.cellp p g 26 w1 (.slice (some ⟨g1, 0, none⟩) (N + 1) cap1))
  clear hc hz hbox hown'
  generalize World.setCell _ _ _ = w3 at *
  obtain ⟨P, hP⟩ : ∃ P : Nat, c.per = (P : Int) := ⟨c.per.toNat, by omega⟩
  have hlen : (l ++ [n]).length = N + 1 := by simp [hN]
  have hc : ∀ s : Gw w3, ∀ off, s.val.cell? ⟨p, off, none⟩ = polAt c (.slice (some ⟨g1, 0, none⟩) (N + 1) cap1) k off := fun s off => hlen ▸ (H3.on s.gr).cell off
  refine wp_region_copy_quiet_tail (C := fun w' => ∃ s : Gw w3, w' = s.val) (v0 := .pointer (some ⟨p, 0, none⟩)) 18 (by kernel_rfl) (by as_aux_lemma => kernel_rfl) (by omega) (by decide) (by as_aux_lemma => kernel_rfl) (by as_aux_lemma => kernel_rfl) (by as_aux_lemma => kernel_rfl) (by as_aux_lemma => kernel_rfl) (by as_aux_lemma => kernel_rfl) (.inl ⟨rfl, fun w => by kernel_rfl⟩) (fun _ _ _ h => h) ⟨⟨_, (Below.refl _ _).drew⟩, rfl⟩ ?_
  simp only [List.append_eq, List.cons_append, List.nil_append, List.take_succ_cons, List.take_zero, List.drop_succ_cons, List.drop_zero]
  simp only [Act.put, List.setIfInBounds_toArray, List.set_cons_succ, List.set_cons_zero]
  rw [hP] at p0 p1
  repeat (go_big_quiet_step (fail))
  refine wpQuiet_nil ?_
  rintro _ ⟨s, rfl⟩
  go_wp2_with fail
  have eD : (max ((N : Int) + 1 - (P : Int)) 0).toNat = N + 1 - P := by omega
  have eP : c.per.toNat = P := by omega
  have eL : putP c l n = (l ++ [n]).drop (N + 1 - P) := by unfold putP; rw [hN, eP]
  rw [eD]
  have H4 := H3.on s.gr
  refine (clone_any g1 (N + 1 - P) _ _ (putP c l n) s.val (by rw [eL]; simp [hN]) (by omega) (by omega) (fun j hj => ?hcell)).mono ?_
  case hcell =>
    have hj' : N + 1 - P + j < (l ++ [n]).length := by rw [eL] at hj; simp at hj; simp; omega
    rw [own_cell H4.own hj', eL]
    simp [List.getD_eq_getElem?_getD]
  rintro e w4 ⟨g2, cap2, rfl, ho, hg2, hgr⟩
  replace H4 := H4.on hgr
  have T4 := (T.trans (Tc.of_gr s.gr)).trans (Tc.of_gr hgr)
  have hc4 : ∀ off, w4.cell? ⟨p, off, none⟩ = polAt c (.slice (some ⟨g1, 0, none⟩) (N + 1) cap1) k off := hlen ▸ H4.cell
  have hz4 := H4.froz
  have hlp : (putP c l n).length = N + 1 - (N + 1 - P) := by rw [eL]; simp [hN]
  have hne : p ≠ g2 := by have := H4.lt; have := H3.lt; have := s.gr.size; omega
  have hsz3 : w.heap.size ≤ g2 := by have := T.size; have := s.gr.size; omega
  clear hc T
  go_wp2
  go_ret
  refine ⟨g2, cap2, rfl, ?_, T4.trans (Tc.cellp p g 26 w4 _), hsz3⟩
  have := Pol.setL (w := w4) H4.box (g' := g2) (cap' := cap2) (l' := putP c l n) (by rw [hlp]; exact ho) hne
  rwa [hlp] at this
end Go.Proofs.Ytjobicffdcnnlaa
