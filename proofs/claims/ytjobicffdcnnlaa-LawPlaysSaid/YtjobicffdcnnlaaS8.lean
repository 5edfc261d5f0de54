import Derived.Test.YtjobicffdcnnlaaS4
import Derived.Test.YtjobicffdcnnlaaQ3
import Derived.Deep.RegionWith
/- Put of the program's policy. -/
namespace Go.Proofs.Ytjobicffdcnnlaa
open Go.RowKit Go.Lib
set_option linter.unusedSimpArgs false
set_option linter.unusedVariables false
set_option maxRecDepth 100000

theorem put_no {w : World} {p g cap : Nat} {c : CF} {l : List Int} {k : Int} (h : Pol w p g cap c l k) (n : Int) (hn : putB c n = false) :
    Calls Try.prog 46 #[.pointer (some ⟨p, 0, none⟩), .int .i64 n] w fun e w' => e = .returned (.int .i64 1) ∧ w = w' := by
  have hc := h.cell
  have hb : ¬ (c.lo ≤ n ∧ n ≤ c.hi) := by unfold putB at hn; simpa using hn
  clear h hn
  by_cases h0 : c.lo ≤ n
  all_goals
    go_enter Try.func46, Try.ntmps46
    go_wp2
    go_ret
    exact ⟨rfl, rfl⟩

theorem row_ne {w : World} {p g cap n : Nat} {cs : Array Value} {xs : List Value} (hb : w.heap[p]? = some (.cells cs 112)) (ho : w.ownsRow g 3 1 (.slice (some ⟨g, 0, none⟩) n cap) n xs) : p ≠ g := by
  rintro rfl
  obtain ⟨cur, h1, _⟩ := own_block ho
  rw [hb] at h1
  cases h1

set_option maxHeartbeats 4000000 in
theorem put_ok {w : World} {p g cap : Nat} {c : CF} {l : List Int} {k : Int} (h : Pol w p g cap c l k) (hl : 1 ≤ l.length) (hm : l.length ≤ 1000) (r : Rts c) (n : Int) (hn : putB c n = true) :
    Calls Try.prog 46 #[.pointer (some ⟨p, 0, none⟩), .int .i64 n] w fun e w' => ∃ g' cap', e = .returned (.int .i64 0) ∧ Pol w' p g' cap' c (putP c l n) k ∧ Tc p g w w' ∧ w.heap.size ≤ g' := by
  have hc := h.cell
  have hb : c.lo ≤ n ∧ n ≤ c.hi := by unfold putB at hn; simpa using hn
  have hb0 := hb.1
  have hb1 := hb.2
  clear hn hb
  obtain ⟨i0, hi, hz0, hz1, hz2⟩ := info_parts info3
  have p0 := r.per0
  have p1 := r.per1
  have R := Lib.hid r; clear r
  go_enter Try.func46, Try.ntmps46
  have H := Lib.hid h
  have hw := h.own.alloc (.cells #[.int .i64 n] 3)
  have hgl := h.glt
  clear h
  generalize hN : l.length = N at *
  go_wp2_with (at_builtin; refine wpList_append_own _ rfl _ _ 45 rfl g 3 i0 (.int .i64 0) 1 8 Try.underlying45 hi hz0 hz1 hz2 rfl (by decide) _ _ _ rfl hw ⟨w.heap.size, 0, none⟩ 1 1 [.int .i64 n] rfl ?qc1 ?qc2 ?qc3 ?qc4 ?qc5 ?qc6 ?_)
  case qc1 => simp
  case qc2 =>
    intro j u hj
    have hj0 : j = 0 := by
      have := (List.getElem?_eq_some_iff.1 hj).1
      simp at this; exact this
    subst hj0
    rw [Addr.add_lit]
    rw [← hj]
    exact cell_in (heap_new rfl) rfl
  case qc3 => intro u hu; simp at hu; subst hu; rfl
  case qc4 => unfold maxLen; omega
  case qc5 => omega
  case qc6 => simp; omega
  intro v' w1 hown hgrow hnil
  have hown' : w1.ownsRow g 3 1 v' (N + 1) ((l ++ [n]).map (.int .i64)) := by simpa using hown
  clear hown hnil
  rcases hown'.2 with ⟨_, h0⟩ | ⟨g1, cap1, cur, hv, hg1, hrest⟩
  · omega
  subst hv
  replace hown' := own_re hown'
  have hcap : N + 1 ≤ cap1 := hrest.2.1
  clear hrest
  have hs : (w.alloc (.cells #[.int .i64 n] 3)).heap.size = w.heap.size + 1 := by simp
  have hg : w.grownBy w1 (some g) := ⟨hgrow.os, hgrow.tape, hgrow.output, Nat.le_trans (by simp) hgrow.size, fun j hj hne => (hgrow.block j (by simp; omega) hne).trans (Below.heap_alloc _ _ _ hj)⟩
  clear hgrow hs hw
  have T : Tc p g w w1 := Tc.grown hg
  have hbox : w1.heap[p]? = some (.cells #[.int .i64 c.n, .int .i64 c.f, .int .i64 c.m, .int .i64 c.q, .int .i64 c.fresh, .int .i64 c.grace, .int .i64 c.window, .int .i64 c.t0, .int .i64 c.t1, .int .i64 c.t2, .int .i64 c.t3, .int .i64 c.tol, .int .i64 c.lo, .int .i64 c.hi, .int .i64 c.cup, .int .i64 c.cdn, .int .i64 c.pup, .int .i64 c.tup, .int .i64 c.pdn, .int .i64 c.tdn, .int .i64 c.per, .int .i64 c.far, .int .i64 c.str, .int .i64 c.pro, .int .i64 c.sec, .int .u64 c.seed, .slice (some ⟨g, 0, none⟩) N cap, .int .i64 k] 112) := by
    have := (hg.block p H.out.lt (fun e => H.out.ne (Option.some.inj e))).trans H.out.box
    rwa [hN] at this
  have hsz := hg.size
  clear hg H hg1
  have hpg : p ≠ g1 := row_ne hbox hown'
  have hc : ∀ off, w1.cell? ⟨p, off, none⟩ = polAt c (.slice (some ⟨g, 0, none⟩) N cap) k off := fun off => by simp [World.cell?, hbox, polAt]
  have hz : ∀ off, w1.frozen? ⟨p, off, none⟩ = false := fun off => frozen_in hbox
  go_upto_region 4 with (fail)
  have H3 : Pol (w1.setCell ⟨p, 26, none⟩ (.slice (some ⟨g1, 0, none⟩) (N + 1) cap1)) p g1 cap1 c (l ++ [n]) k := by
    have e : (l ++ [n]).length = N + 1 := by simp [hN]
    have := Pol.setL (l := l) (k := k) (c := c) (g := g) (cap := cap) (w := w1) (p := p) (by rw [hN]; exact hbox) (g' := g1) (cap' := cap1) (l' := l ++ [n]) (by rw [e]; exact hown') hpg
    rwa [e] at this
  replace T := T.trans (Tc.cellp p g 26 w1 (.slice (some ⟨g1, 0, none⟩) (N + 1) cap1))
  clear hc hz hbox hown'
  generalize World.setCell _ _ _ = w3 at *
  obtain ⟨P, hP⟩ : ∃ P : Nat, c.per = (P : Int) := ⟨c.per.toNat, by omega⟩
  have hlen : (l ++ [n]).length = N + 1 := by simp [hN]
  have hc : ∀ s : Gw w3, ∀ off, s.val.cell? ⟨p, off, none⟩ = polAt c (.slice (some ⟨g1, 0, none⟩) (N + 1) cap1) k off := fun s off => hlen ▸ (H3.on s.gr).cell off
  refine wp_region_copy_quiet_tail (C := fun w' => ∃ s : Gw w3, w' = s.val) (v0 := .pointer (some ⟨p, 0, none⟩)) 18 (by kernel_rfl) (by as_aux_lemma => kernel_rfl) (by omega) (by decide) (by as_aux_lemma => kernel_rfl) (by as_aux_lemma => kernel_rfl) (by as_aux_lemma => kernel_rfl) (by as_aux_lemma => kernel_rfl) (by as_aux_lemma => kernel_rfl) (.inl ⟨rfl, fun w => by kernel_rfl⟩) (fun _ _ _ h => h) ⟨⟨_, (Below.refl _ _).drew⟩, rfl⟩ ?_
  simp only [List.append_eq, List.cons_append, List.nil_append, List.take_succ_cons, List.take_zero, List.drop_succ_cons, List.drop_zero]
  simp only [Act.put, List.setIfInBounds_toArray, List.set_cons_succ, List.set_cons_zero]
  rw [hP] at p0 p1
  repeat (go_big_quiet_step (fail))
  refine wpQuiet_nil ?_
  rintro _ ⟨s, rfl⟩
  go_wp2_with fail
  have eD : (max ((N : Int) + 1 - (P : Int)) 0).toNat = N + 1 - P := by omega
  have eP : c.per.toNat = P := by omega
  have eL : putP c l n = (l ++ [n]).drop (N + 1 - P) := by unfold putP; rw [hN, eP]
  rw [eD]
  have H4 := H3.on s.gr
  refine (clone_any g1 (N + 1 - P) _ _ (putP c l n) s.val (by rw [eL]; simp [hN]) (by omega) (by omega) (fun j hj => ?hcell)).mono ?_
  case hcell =>
    have hj' : N + 1 - P + j < (l ++ [n]).length := by rw [eL] at hj; simp at hj; simp; omega
    rw [own_cell H4.own hj', eL]
    simp [List.getD_eq_getElem?_getD]
  rintro e w4 ⟨g2, cap2, rfl, ho, hg2, hgr⟩
  replace H4 := H4.on hgr
  have T4 := (T.trans (Tc.of_gr s.gr)).trans (Tc.of_gr hgr)
  have hc4 : ∀ off, w4.cell? ⟨p, off, none⟩ = polAt c (.slice (some ⟨g1, 0, none⟩) (N + 1) cap1) k off := hlen ▸ H4.cell
  have hz4 := H4.froz
  have hlp : (putP c l n).length = N + 1 - (N + 1 - P) := by rw [eL]; simp [hN]
  have hne : p ≠ g2 := by have := H4.lt; have := H3.lt; have := s.gr.size; omega
  have hsz3 : w.heap.size ≤ g2 := by have := T.size; have := s.gr.size; omega
  clear hc T
  go_wp2
  go_ret
  refine ⟨g2, cap2, rfl, ?_, T4.trans (Tc.cellp p g 26 w4 _), hsz3⟩
  have := Pol.setL (w := w4) H4.box (g' := g2) (cap' := cap2) (l' := putP c l n) (by rw [hlp]; exact ho) hne
  rwa [hlp] at this
end Go.Proofs.Ytjobicffdcnnlaa
/- Set of the program's policy. -/
namespace Go.Proofs.Ytjobicffdcnnlaa
open Go.RowKit
set_option linter.unusedSimpArgs false
set_option linter.unusedVariables false
set_option maxRecDepth 100000

def badX (c : CF) (x : Int) : Bool := decide (x < c.lo) || decide (c.hi < x)
theorem setB_bad (c : CF) (l : List Int) : (l.all fun x => decide (c.lo ≤ x) && decide (x ≤ c.hi)) = !(l.any (badX c)) := by
  rw [List.not_any_eq_all_not]
  congr 1
  funext x
  unfold badX
  by_cases h1 : x < c.lo <;> by_cases h2 : c.hi < x <;> simp [h1, h2] <;> omega

theorem set1_any {w : World} {p g cap bx : Nat} {c : CF} {l : List Int} {k : Int} (h : Pol w p g cap c l k) (hb : w.cell? ⟨bx, 0, none⟩ = some (.pointer (some ⟨p, 0, none⟩))) (x : Int) :
    Calls Try.prog 88 #[.int .i64 x, .pointer (some ⟨bx, 0, none⟩)] w fun e w' => e = .returned (.bool (badX c x)) ∧ w = w' := by
  have hc := h.cell
  clear h
  unfold badX
  by_cases h0 : x < c.lo
  all_goals
    go_enter Try.func88, Try.ntmps88
    go_wp2
    go_ret
    exact ⟨ret_bool (by first | (simp [h0]; done) | (simp [h0]; omega)), rfl⟩

set_option maxHeartbeats 2000000 in
theorem index_any {w : World} {p g cap bx : Nat} {c : CF} {l : List Int} {k : Int} (h : Pol w p g cap c l k) (hb : w.cell? ⟨bx, 0, none⟩ = some (.pointer (some ⟨p, 0, none⟩))) (A : Option Addr) (n cp : Nat) (zs : List Int) (hr : RI w A n zs) :
    Calls Try.prog 100 #[.slice A n cp, .func (.func 88) #[] #[.pointer (some ⟨bx, 0, none⟩)]] w fun e w' => (∃ i : Int, e = .returned (.int .i64 i) ∧ decide (0 ≤ i) = zs.any (badX c)) ∧ w = w' := by
  have hf := fun x => set1_any h hb x
  have hlen := hr.1
  have hbig := hr.2.1
  have H := Lib.hid hr; clear hr h hb
  have H0 : Hid ((zs.drop 0).any (badX c) = zs.any (badX c)) := Lib.hid (by rw [List.drop_zero])
  generalize zs.any (badX c) = R at *
  go_enter Try.func100, Try.ntmps100
  go_wp2_with fail
  go_loop [8] (fun i => ∃ k : Nat, k ≤ n ∧ i = .int .i64 k ∧ Hid ((zs.drop k).any (badX c) = R)) (fun i => n - (intOf i).toNat)
  case atStart => exact ⟨0, by omega, rfl, H0⟩
  case round =>
    obtain ⟨k, hk, rfl, hR⟩ := hrel
    by_cases h1 : k < n
    · obtain ⟨ad, rfl, hc⟩ := H.out.at_ h1
      have hd : (zs.drop k).any (badX c) = (badX c (zs.getD k 0) || (zs.drop (k + 1)).any (badX c)) := by
        rw [List.drop_eq_getElem_cons (by omega), List.any_cons, List.getD_eq_getElem?_getD, List.getElem?_eq_getElem (show k < zs.length by omega)]
        rfl
      have hR' := hR.out
      rw [hd] at hR'
      clear hR hd
      generalize zs.getD k 0 = x at *
      have hfx := hf x
      cases hx : badX c x with
      | true =>
        rw [hx] at hfx hR'
        have e : R = true := by simpa using hR'.symm
        clear hR' hx hf
        subst e
        go_wp2_with (go_at_call 88; refine hfx.mono ?_; rintro e w' ⟨rfl, rfl⟩)
        go_ret
        exact ⟨⟨_, rfl, by simp⟩, rfl⟩
      | false =>
        rw [hx] at hfx hR'
        have hn : Hid ((zs.drop (k + 1)).any (badX c) = R) := Lib.hid (by simpa using hR')
        clear hR' hx hf
        go_wp2_with (go_at_call 88; refine hfx.mono ?_; rintro e w' ⟨rfl, rfl⟩)
        go_round
        case rel => exact ⟨k + 1, by omega, by first | rfl | go_num, hn⟩
        case measure => simp [intOf]; omega
    · have e : R = false := by rw [← hR.out, List.drop_eq_nil_of_le (by omega)]; rfl
      clear hR
      subst e
      go_wp2
      go_ret
      exact ⟨⟨_, rfl, by simp⟩, rfl⟩
theorem contains_any {w : World} {p g cap bx : Nat} {c : CF} {l : List Int} {k : Int} (h : Pol w p g cap c l k) (hb : w.cell? ⟨bx, 0, none⟩ = some (.pointer (some ⟨p, 0, none⟩))) (A : Option Addr) (n cp : Nat) (zs : List Int) (hr : RI w A n zs) (b : Bool) (e : zs.any (badX c) = b) :
    Calls Try.prog 87 #[.slice A n cp, .func (.func 88) #[] #[.pointer (some ⟨bx, 0, none⟩)]] w fun e w' => e = .returned (.bool b) ∧ w = w' := by
  have K := index_any h hb A n cp zs hr
  rw [e] at K
  have HK := Lib.hid K
  clear K h hb hr e
  go_enter Try.func87, Try.ntmps87
  go_wp2_with fail
  refine HK.out.mono ?_
  rintro e w' ⟨⟨i, rfl, hi⟩, rfl⟩
  clear HK
  cases b
  all_goals
    simp at hi
    go_wp2
    go_ret
    exact ⟨by simp [hi] <;> omega, rfl⟩
end Go.Proofs.Ytjobicffdcnnlaa
/- Set of the program's policy: what is set. -/
namespace Go.Proofs.Ytjobicffdcnnlaa
open Go.RowKit
set_option linter.unusedSimpArgs false
set_option linter.unusedVariables false
set_option maxRecDepth 100000

theorem RI.gr {w w' : World} {A : Option Addr} {n : Nat} {xs : List Int} (h : RI w A n xs) (g : Gr w w') : RI w' A n xs := by
  refine ⟨h.1, h.2.1, fun hp => ?_⟩
  obtain ⟨ad, e, hc⟩ := h.2.2 hp
  exact ⟨ad, e, fun j hj => g.cell_some (hc j hj)⟩
theorem RI.plain {w : World} {A : Option Addr} {n : Nat} {xs : List Int} (h : RI w A n xs) (hp : 0 < n) : ∃ b o, A = some ⟨b, o, none⟩ ∧ ∀ j, j < xs.length → w.cell? ⟨b, o + j, none⟩ = some (.int .i64 (xs.getD j 0)) := by
  obtain ⟨ad, e, hc⟩ := h.2.2 hp
  obtain ⟨b, o, sp⟩ := ad
  have h0 := hc 0 hp
  obtain ⟨_, _, _, _, hs⟩ := World.shape?_of_cell? h0
  have : sp = none := by
    unfold Addr.add at hs
    split at hs <;> simp_all
  subst this
  exact ⟨b, o, e, fun j hj => by rw [← Addr.add_lit]; exact hc j (by rw [← h.1]; exact hj)⟩

set_option maxHeartbeats 2000000 in
theorem set_no {w : World} {p g cap : Nat} {c : CF} {l : List Int} {k : Int} (h : Pol w p g cap c l k) (r : Rts c) (A : Option Addr) (n cp : Nat) (zs : List Int) (hr : RI w A n zs) (hs : setB c zs = false) :
    Calls Try.prog 47 #[.pointer (some ⟨p, 0, none⟩), .slice A n cp] w fun e w' => e = .returned (.int .i64 1) ∧ Gr w w' := by
  have g1 : Gr w (w.alloc (.cells #[.pointer (some ⟨p, 0, none⟩)] 50)) := (Gr.refl w).alloc _
  have bx : (w.alloc (.cells #[.pointer (some ⟨p, 0, none⟩)] 50)).cell? ⟨w.heap.size, 0, none⟩ = some (.pointer (some ⟨p, 0, none⟩)) := cell_in (heap_new rfl) rfl
  have hlen := hr.1
  have hbig := hr.2.1
  have p0 := r.per0
  have p1 := r.per1
  by_cases h1 : n < 1
  · have hc := (h.on g1).cell
    clear hs hr r h
    go_enter Try.func47, Try.ntmps47
    go_upto_region 1 with (fail)
    generalize w.alloc (.cells #[.pointer (some ⟨p, 0, none⟩)] 50) = w1 at *
    go_wp2_with fail
    go_ret
    exact ⟨rfl, g1⟩
  · by_cases h2 : c.per < (n : Int)
    · have hc := (h.on g1).cell
      clear hs hr r h
      go_enter Try.func47, Try.ntmps47
      go_upto_region 1 with (fail)
      generalize w.alloc (.cells #[.pointer (some ⟨p, 0, none⟩)] 50) = w1 at *
      go_wp2_with fail
      go_ret
      exact ⟨rfl, g1⟩
    · have hb : zs.any (badX c) = true := by
        unfold setB at hs
        rw [setB_bad] at hs
        simp [hlen] at hs
        have := hs (by omega) (by omega)
        simpa using this
      have HK := Lib.hid (contains_any (h.on g1) bx A n cp zs (hr.gr g1) true hb)
      have hc := (h.on g1).cell
      clear hs hr r hb h
      go_enter Try.func47, Try.ntmps47
      go_upto_region 1 with (fail)
      generalize w.alloc (.cells #[.pointer (some ⟨p, 0, none⟩)] 50) = w1 at *
      go_wp2_with (go_at_call 87; refine HK.out.mono ?_; rintro e w' ⟨rfl, rfl⟩)
      go_ret
      exact ⟨rfl, g1⟩

set_option maxHeartbeats 4000000 in
theorem set_ok {w : World} {p g cap : Nat} {c : CF} {l : List Int} {k : Int} (h : Pol w p g cap c l k) (r : Rts c) (A : Option Addr) (n cp : Nat) (zs : List Int) (hr : RI w A n zs) (hs : setB c zs = true) :
    Calls Try.prog 47 #[.pointer (some ⟨p, 0, none⟩), .slice A n cp] w fun e w' => ∃ g' cap', e = .returned (.int .i64 0) ∧ Pol w' p g' cap' c zs k ∧ Tc p g w w' ∧ w.heap.size ≤ g' := by
  have g1 : Gr w (w.alloc (.cells #[.pointer (some ⟨p, 0, none⟩)] 50)) := (Gr.refl w).alloc _
  have bx : (w.alloc (.cells #[.pointer (some ⟨p, 0, none⟩)] 50)).cell? ⟨w.heap.size, 0, none⟩ = some (.pointer (some ⟨p, 0, none⟩)) := cell_in (heap_new rfl) rfl
  have hlen := hr.1
  have p0 := r.per0
  have p1 := r.per1
  have hb : zs.any (badX c) = false ∧ 1 ≤ n ∧ (n : Int) ≤ c.per := by
    unfold setB at hs
    rw [setB_bad] at hs
    simp [hlen] at hs
    exact ⟨by simpa using hs.2.2, hs.1, hs.2.1⟩
  obtain ⟨hb, h1, h2⟩ := hb
  obtain ⟨b, o, rfl, hcell⟩ := hr.plain (by omega)
  have HK := Lib.hid (contains_any (h.on g1) bx _ n cp zs (hr.gr g1) false hb)
  have H := h.on g1
  have hc := H.cell
  have HC := Lib.hid hcell
  clear hs hr r hb hcell
  have hlt := h.lt
  clear h
  go_enter Try.func47, Try.ntmps47
  go_upto_region 1 with (fail)
  generalize w.alloc (.cells #[.pointer (some ⟨p, 0, none⟩)] 50) = w1 at *
  generalize hbx : w.heap.size = B at *
  go_upto_region 3 with (go_at_call 87; refine HK.out.mono ?_; rintro e w' ⟨rfl, rfl⟩)
  have HD := H.on ((Gr.refl w1).drew)
  have hcD : ∀ j, j < zs.length → w1.drew.cell? ⟨b, o + j, none⟩ = some (.int .i64 (zs.getD j 0)) := fun j hj => g1.cell_some (HC.out j hj)
  have HCD := Lib.hid hcD
  have hK := clone_any b o n cp zs w1.drew hlen (by omega) (by omega) HCD.out
  have HKK := Lib.hid hK
  clear hcD hK HC
  have hbw : B < w1.heap.size := World.block_lt_of_cell? w1 _ bx
  clear hc
  go_region_with (go_at_call 86; refine HKK.out.mono ?_; rintro e w4 ⟨g2, cap2, rfl, ho, hg2, hgr⟩; have hbx4 : w4.cell? ⟨B, 0, none⟩ = some (.pointer (some ⟨p, 0, none⟩)) := hgr.cell_some bx; have hc4 := (HD.on hgr).cell; have hz4 := (HD.on hgr).froz)
  all_goals
    have H4 := HD.on hgr
    have T4 := ((Tc.of_gr (p := p) (g := g) g1).trans (Tc.of_gr ((Gr.refl w1).drew))).trans (Tc.of_gr hgr)
    have hg3 : w1.heap.size ≤ g2 := hg2
    have hne : p ≠ g2 := by have := H.lt; omega
    have hsz := g1.size
    clear HK HKK HCD HD H hc4 hz4
    go_wp2
    go_ret
    refine ⟨g2, cap2, rfl, ?_, T4.trans (Tc.cellp p g 26 w4 _), by omega⟩
    have := Pol.setL (w := w4) H4.box (g' := g2) (cap' := cap2) (l' := zs) (by rw [hlen]; exact ho) hne
    rwa [hlen] at this
end Go.Proofs.Ytjobicffdcnnlaa
/- What the program's policy tells of a few (told15). -/
namespace Go.Proofs.Ytjobicffdcnnlaa
open Go.RowKit
set_option linter.unusedSimpArgs false
set_option linter.unusedVariables false
set_option maxRecDepth 100000

theorem Tc.gr {p g : Nat} {W w w' : World} (h : Tc p g w w') (G : Gr W w) (hp : W.heap.size ≤ p) (hg : W.heap.size ≤ g) : Gr W w' := ⟨G.out.trans (h.below hp hg G.size)⟩
theorem Tc.at_ {p g b : Nat} {W w w' : World} {c : CF} (h : Tc p g w w') (A : At W w b c) (hp : W.heap.size ≤ p) (hg : W.heap.size ≤ g) (h1 : b ≠ p) (h2 : b ≠ g) : At W w' b c :=
  ⟨A.new, h.gr A.gr hp hg, (h.block b (Array.getElem?_eq_some_iff.1 A.box).1 h1 h2).trans A.box⟩
theorem limit_v {w : World} {p g cap : Nat} {c : CF} {l : List Int} {k : Int} (h : Pol w p g cap c l k) (hl : 1 ≤ l.length) (x v : Int) (e : limP c (headP l) x = v) :
    Calls Try.prog 49 #[.pointer (some ⟨p, 0, none⟩), .int .i64 x] w fun e w' => ∃ k', e = .returned (.int .i64 v) ∧ Pol w' p g cap c l k' ∧ Tc p g w w' := e ▸ limit_any h hl x
theorem put_v {w : World} {p g cap : Nat} {c : CF} {l : List Int} {k : Int} (h : Pol w p g cap c l k) (hl : 1 ≤ l.length) (hm : l.length ≤ 1000) (r : Rts c) (n : Int) (hn : putB c n = true) (l' : List Int) (e : putP c l n = l') :
    Calls Try.prog 46 #[.pointer (some ⟨p, 0, none⟩), .int .i64 n] w fun e w' => ∃ g' cap', e = .returned (.int .i64 0) ∧ Pol w' p g' cap' c l' k ∧ Tc p g w w' ∧ w.heap.size ≤ g' := e ▸ put_ok h hl hm r n hn
theorem bounds_v (c : CF) (b x y : Int) (e1 : loB c b = x) (e2 : hiB c b = y) (w : World) : Calls Try.prog 53 #[.agg #[.int .i64 c.n, .int .i64 c.f, .int .i64 c.m, .int .i64 c.q, .int .i64 c.fresh, .int .i64 c.grace, .int .i64 c.window, .int .i64 c.t0, .int .i64 c.t1, .int .i64 c.t2, .int .i64 c.t3, .int .i64 c.tol, .int .i64 c.lo, .int .i64 c.hi, .int .i64 c.cup, .int .i64 c.cdn, .int .i64 c.pup, .int .i64 c.tup, .int .i64 c.pdn, .int .i64 c.tdn, .int .i64 c.per, .int .i64 c.far, .int .i64 c.str, .int .i64 c.pro, .int .i64 c.sec, .int .u64 c.seed], .int .i64 b] w fun e w' => e = .returned (.tuple #[.int .i64 x, .int .i64 y]) ∧ Gr w w' := e1 ▸ e2 ▸ bounds_any c b w
theorem base_v {w : World} {p g cap : Nat} {c : CF} {l : List Int} {k : Int} (h : Pol w p g cap c l k) (hl : 1 ≤ l.length) (v : Int) (e : headP l = v) :
    Calls Try.prog 50 #[.pointer (some ⟨p, 0, none⟩)] w fun e w' => e = .returned (.int .i64 v) ∧ w = w' := e ▸ base_any h hl
theorem rts_dflt : Rts dflt := by constructor <;> decide
theorem bounds_zero (w : World) : Calls Try.prog 53 #[.agg zero36, .int .i64 4] w fun e w' => e = .returned (.tuple #[.int .i64 0, .int .i64 0]) ∧ Gr w w' := bounds_v zeroC 4 0 0 (by decide) (by decide) w

set_option maxHeartbeats 4000000 in
theorem told15_any (w : World) : Calls Try.prog 51 #[] w fun e w' => e = .returned (.bool true) ∧ Gr w w' := by
  go_enter Try.func51, Try.ntmps51
  go_upto_region 1 with (fail)
  refine wp_region_lit ?_
  refine wpList_enter 38 #[] _ rfl (by kernel_rfl) (default_any w) fun w1 hg => ?_
  refine wpList_val (.pointer (some ⟨w1.heap.size, 0, none⟩)) (w1.alloc (.cells zero36 36)) rfl (xalloc36 ..) ?_
  refine wpList_skip' (w1.alloc (.cells #[.int .i64 dflt.n, .int .i64 dflt.f, .int .i64 dflt.m, .int .i64 dflt.q, .int .i64 dflt.fresh, .int .i64 dflt.grace, .int .i64 dflt.window, .int .i64 dflt.t0, .int .i64 dflt.t1, .int .i64 dflt.t2, .int .i64 dflt.t3, .int .i64 dflt.tol, .int .i64 dflt.lo, .int .i64 dflt.hi, .int .i64 dflt.cup, .int .i64 dflt.cdn, .int .i64 dflt.pup, .int .i64 dflt.tup, .int .i64 dflt.pdn, .int .i64 dflt.tdn, .int .i64 dflt.per, .int .i64 dflt.far, .int .i64 dflt.str, .int .i64 dflt.pro, .int .i64 dflt.sec, .int .u64 dflt.seed] 36)) rfl (xstore36_at rfl (by kernel_rfl) (by kernel_rfl) rfl rfl (by kernel_rfl)) ?_
  have A := start_at hg dflt
  have hbs : w1.heap.size < (w1.alloc (.cells #[.int .i64 dflt.n, .int .i64 dflt.f, .int .i64 dflt.m, .int .i64 dflt.q, .int .i64 dflt.fresh, .int .i64 dflt.grace, .int .i64 dflt.window, .int .i64 dflt.t0, .int .i64 dflt.t1, .int .i64 dflt.t2, .int .i64 dflt.t3, .int .i64 dflt.tol, .int .i64 dflt.lo, .int .i64 dflt.hi, .int .i64 dflt.cup, .int .i64 dflt.cdn, .int .i64 dflt.pup, .int .i64 dflt.tup, .int .i64 dflt.pdn, .int .i64 dflt.tdn, .int .i64 dflt.per, .int .i64 dflt.far, .int .i64 dflt.str, .int .i64 dflt.pro, .int .i64 dflt.sec, .int .u64 dflt.seed] 36)).heap.size := by simp
  generalize w1.alloc (.cells #[.int .i64 dflt.n, .int .i64 dflt.f, .int .i64 dflt.m, .int .i64 dflt.q, .int .i64 dflt.fresh, .int .i64 dflt.grace, .int .i64 dflt.window, .int .i64 dflt.t0, .int .i64 dflt.t1, .int .i64 dflt.t2, .int .i64 dflt.t3, .int .i64 dflt.tol, .int .i64 dflt.lo, .int .i64 dflt.hi, .int .i64 dflt.cup, .int .i64 dflt.cdn, .int .i64 dflt.pup, .int .i64 dflt.tup, .int .i64 dflt.pdn, .int .i64 dflt.tdn, .int .i64 dflt.per, .int .i64 dflt.far, .int .i64 dflt.str, .int .i64 dflt.pro, .int .i64 dflt.sec, .int .u64 dflt.seed] 36) = w2 at *
  generalize w1.heap.size = b at *
  clear hg
  have hk := A.conf
  go_wp2_with fail
  refine (bounds_v dflt 4 0 8 (by decide) (by decide) _).mono ?_
  rintro e w3 ⟨rfl, hg⟩
  have hs3 := hg.size
  replace A := A.on hg
  clear hg hk
  have hk := A.conf
  go_wp2_with fail
  refine (bounds_v dflt 10 5 20 (by decide) (by decide) _).mono ?_
  rintro e w4 ⟨rfl, hg⟩
  have hs4 := hg.size
  replace A := A.on hg
  clear hg hk
  have hk := A.conf
  go_wp2_with fail
  refine (new_ok dflt 4 (by decide) _).mono ?_
  rintro e w5 ⟨p, g, rfl, H, hp, hg5, hg⟩
  replace A := A.on hg
  have hws := A.new
  have hpw : w.heap.size ≤ p := by omega
  have hgw : w.heap.size ≤ g := by omega
  have hbp : b ≠ p := by omega
  have hbg : b ≠ g := by omega
  clear hg hk
  have hk := A.conf
  go_wp2_with fail
  refine (limit_v H (by decide) 50 8 (by decide)).mono ?_
  rintro e w6 ⟨k1, rfl, H1, T⟩
  replace A := T.at_ A hpw hgw hbp hbg
  clear H T hk
  have hk := A.conf
  go_wp2_with fail
  refine (put_v H1 (by decide) (by decide) rts_dflt 8 (by decide) [4, 8] (by decide)).mono ?_
  rintro e w7 ⟨g2, cap2, rfl, H2, T, hg2⟩
  have hs6 := (Array.getElem?_eq_some_iff.1 A.box).1
  have hs6' := A.gr.size
  replace A := T.at_ A hpw hgw hbp hbg
  have hgw2 : w.heap.size ≤ g2 := by omega
  have hbg2 : b ≠ g2 := by omega
  clear H1 T hk
  have hk := A.conf
  go_wp2_with fail
  refine (limit_v H2 (by decide) 50 8 (by decide)).mono ?_
  rintro e w8 ⟨k3, rfl, H3, T⟩
  replace A := T.at_ A hpw hgw2 hbp hbg2
  clear H2 T hk
  have hk := A.conf
  go_wp2_with fail
  refine (put_v H3 (by decide) (by decide) rts_dflt 8 (by decide) [8, 8] (by decide)).mono ?_
  rintro e w9 ⟨g4, cap4, rfl, H4, T, hg4⟩
  have hs8 := (Array.getElem?_eq_some_iff.1 A.box).1
  have hs8' := A.gr.size
  replace A := T.at_ A hpw hgw2 hbp hbg2
  have hgw4 : w.heap.size ≤ g4 := by omega
  have hbg4 : b ≠ g4 := by omega
  clear H3 T hk
  have hk := A.conf
  go_wp2_with fail
  refine (limit_v H4 (by decide) 50 16 (by decide)).mono ?_
  rintro e w10 ⟨k5, rfl, H5, T⟩
  replace A := T.at_ A hpw hgw4 hbp hbg4
  clear H4 T hk
  have hk := A.conf
  have hz := build36z
  go_wp2_with fail
  refine (bounds_zero _).mono ?_
  rintro e w11 ⟨rfl, hg⟩
  replace A := A.on hg
  replace H5 := H5.on hg
  clear hg hk hz
  have hk := A.conf
  go_wp2_with fail
  refine (limit_v H5 (by decide) 0 4 (by decide)).mono ?_
  rintro e w12 ⟨k6, rfl, H6, T⟩
  replace A := T.at_ A hpw hgw4 hbp hbg4
  clear H5 T hk
  have hk := A.conf
  go_wp2_with fail
  refine (base_v H6 (by decide) 8 (by decide)).mono ?_
  rintro e w13 ⟨rfl, rfl⟩
  go_wp2_with fail
  refine (all_any H6 (by decide) (by decide)).mono ?_
  rintro e w14 ⟨g7, cap7, rfl, _, _, hg⟩
  replace A := A.on hg
  replace H6 := H6.on hg
  clear hg hk
  have hk := A.conf
  go_wp2_with fail
  refine (put_no H6 0 (by decide)).mono ?_
  rintro e w15 ⟨rfl, rfl⟩
  go_wp2_with fail
  refine (set_no H6 rts_dflt none 0 0 [] (RI.nil_ _) (by decide)).mono ?_
  rintro e w16 ⟨rfl, hg⟩
  replace A := A.on hg
  replace H6 := H6.on hg
  clear hg hk
  have hk := A.conf
  go_wp2_with fail
  have gA := (Gr.refl w16).alloc (.cells #[.int .i64 9] 3)
  replace A := A.on gA
  replace H6 := H6.on gA
  have hr : RI (w16.alloc (.cells #[.int .i64 9] 3)) (some ⟨w16.heap.size, 0, none⟩) 1 [9] := ⟨rfl, by omega, fun _ => ⟨_, rfl, fun j hj => by
    obtain rfl : j = 0 := by omega
    rw [Addr.add_lit]
    exact cell_in (heap_new rfl) rfl⟩⟩
  refine (set_ok H6 rts_dflt _ 1 1 [9] hr (by decide)).mono ?_
  rintro e w17 ⟨g8, cap8, rfl, H8, T, hg8⟩
  replace A := T.at_ A hpw hgw4 hbp hbg4
  clear hr gA H6 T hk
  have hk := A.conf
  go_wp2_with fail
  refine (new_no dflt 0 (by decide) _).mono ?_
  rintro e w18 ⟨rfl, hg⟩
  replace A := A.on hg
  clear hg hk
  go_wp2_with fail
  refine (limit_none 1 _).mono ?_
  rintro e w19 ⟨rfl, rfl⟩
  go_wp2
  go_ret
  exact ⟨rfl, A.gr⟩
end Go.Proofs.Ytjobicffdcnnlaa
