import Derived.Test.YtjobicffdcnnlaaS6
import Derived.Deep.RegionWith
/- Set of the program's policy: what is set. -/
namespace Go.Proofs.Ytjobicffdcnnlaa
open Go.RowKit
set_option linter.unusedSimpArgs false
set_option linter.unusedVariables false
set_option maxRecDepth 100000

theorem RI.gr {w w' : World} {A : Option Addr} {n : Nat} {xs : List Int} (h : RI w A n xs) (g : Gr w w') : RI w' A n xs := by
  refine ⟨h.1, h.2.1, fun hp => ?_⟩
  obtain ⟨ad, e, hc⟩ := h.2.2 hp
  exact ⟨ad, e, fun j hj => g.cell_some (hc j hj)⟩
theorem RI.plain {w : World} {A : Option Addr} {n : Nat} {xs : List Int} (h : RI w A n xs) (hp : 0 < n) : ∃ b o, A = some ⟨b, o, none⟩ ∧ ∀ j, j < xs.length → w.cell? ⟨b, o + j, none⟩ = some (.int .i64 (xs.getD j 0)) := by
  obtain ⟨ad, e, hc⟩ := h.2.2 hp
  obtain ⟨b, o, sp⟩ := ad
  have h0 := hc 0 hp
  obtain ⟨_, _, _, _, hs⟩ := World.shape?_of_cell? h0
  have : sp = none := by
    unfold Addr.add at hs
    split at hs <;> simp_all
  subst this
  exact ⟨b, o, e, fun j hj => by rw [← Addr.add_lit]; exact hc j (by rw [← h.1]; exact hj)⟩

set_option maxHeartbeats 2000000 in
theorem set_no {w : World} {p g cap : Nat} {c : CF} {l : List Int} {k : Int} (h : Pol w p g cap c l k) (r : Rts c) (A : Option Addr) (n cp : Nat) (zs : List Int) (hr : RI w A n zs) (hs : setB c zs = false) :
    Calls Try.prog 47 #[.pointer (some ⟨p, 0, none⟩), .slice A n cp] w fun e w' => e = .returned (.int .i64 1) ∧ Gr w w' := by
  have g1 : Gr w (w.alloc (.cells #[.pointer (some ⟨p, 0, none⟩)] 50)) := (Gr.refl w).alloc _
  have bx : (w.alloc (.cells #[.pointer (some ⟨p, 0, none⟩)] 50)).cell? ⟨w.heap.size, 0, none⟩ = some (.pointer (some ⟨p, 0, none⟩)) := cell_in (heap_new rfl) rfl
  have hlen := hr.1
  have hbig := hr.2.1
  have p0 := r.per0
  have p1 := r.per1
  by_cases h1 : n < 1
  · have hc := (h.on g1).cell
    clear hs hr r h
    go_enter Try.func47, Try.ntmps47
    go_upto_region 1 with (fail)
    generalize w.alloc (.cells #[.pointer (some ⟨p, 0, none⟩)] 50) = w1 at *
    go_wp2_with fail
    go_ret
    exact ⟨rfl, g1⟩
  · by_cases h2 : c.per < (n : Int)
    · have hc := (h.on g1).cell
      clear hs hr r h
      go_enter Try.func47, Try.ntmps47
      go_upto_region 1 with (fail)
      generalize w.alloc (.cells #[.pointer (some ⟨p, 0, none⟩)] 50) = w1 at *
      go_wp2_with fail
      go_ret
      exact ⟨rfl, g1⟩
    · have hb : zs.any (badX c) = true := by
        unfold setB at hs
        rw [setB_bad] at hs
        simp [hlen] at hs
        have := hs (by omega) (by omega)
        simpa using this
      have HK := Lib.hid (contains_any (h.on g1) bx A n cp zs (hr.gr g1) true hb)
      have hc := (h.on g1).cell
      clear hs hr r hb h
      go_enter Try.func47, Try.ntmps47
      go_upto_region 1 with (fail)
      generalize w.alloc (.cells #[.pointer (some ⟨p, 0, none⟩)] 50) = w1 at *
      go_wp2_with (go_at_call 87; refine HK.out.mono ?_; rintro e w' ⟨rfl, rfl⟩)
      go_ret
      exact ⟨rfl, g1⟩

set_option maxHeartbeats 4000000 in
theorem set_ok {w : World} {p g cap : Nat} {c : CF} {l : List Int} {k : Int} (h : Pol w p g cap c l k) (r : Rts c) (A : Option Addr) (n cp : Nat) (zs : List Int) (hr : RI w A n zs) (hs : setB c zs = true) :
    Calls Try.prog 47 #[.pointer (some ⟨p, 0, none⟩), .slice A n cp] w fun e w' => ∃ g' cap', e = .returned (.int .i64 0) ∧ Pol w' p g' cap' c zs k ∧ Tc p g w w' ∧ w.heap.size ≤ g' := by
  have g1 : Gr w (w.alloc (.cells #[.pointer (some ⟨p, 0, none⟩)] 50)) := (Gr.refl w).alloc _
  have bx : (w.alloc (.cells #[.pointer (some ⟨p, 0, none⟩)] 50)).cell? ⟨w.heap.size, 0, none⟩ = some (.pointer (some ⟨p, 0, none⟩)) := cell_in (heap_new rfl) rfl
  have hlen := hr.1
  have p0 := r.per0
  have p1 := r.per1
  have hb : zs.any (badX c) = false ∧ 1 ≤ n ∧ (n : Int) ≤ c.per := by
    unfold setB at hs
    rw [setB_bad] at hs
    simp [hlen] at hs
    exact ⟨by simpa using hs.2.2, hs.1, hs.2.1⟩
  obtain ⟨hb, h1, h2⟩ := hb
  obtain ⟨b, o, rfl, hcell⟩ := hr.plain (by omega)
  have HK := Lib.hid (contains_any (h.on g1) bx _ n cp zs (hr.gr g1) false hb)
  have H := h.on g1
  have hc := H.cell
  have HC := Lib.hid hcell
  clear hs hr r hb hcell
  have hlt := h.lt
  clear h
  go_enter Try.func47, Try.ntmps47
  go_upto_region 1 with (fail)
  generalize w.alloc (.cells #[.pointer (some ⟨p, 0, none⟩)] 50) = w1 at *
  generalize hbx : w.heap.size = B at *
  go_upto_region 3 with (go_at_call 87; refine HK.out.mono ?_; rintro e w' ⟨rfl, rfl⟩)
  have HD := H.on ((Gr.refl w1).drew)
  have hcD : ∀ j, j < zs.length → w1.drew.cell? ⟨b, o + j, none⟩ = some (.int .i64 (zs.getD j 0)) := fun j hj => g1.cell_some (HC.out j hj)
  have HCD := Lib.hid hcD
  have hK := clone_any b o n cp zs w1.drew hlen (by omega) (by omega) HCD.out
  have HKK := Lib.hid hK
  clear hcD hK HC
  have hbw : B < w1.heap.size := World.block_lt_of_cell? w1 _ bx
  clear hc
  go_region_with (go_at_call 86; refine HKK.out.mono ?_; rintro e w4 ⟨g2, cap2, rfl, ho, hg2, hgr⟩; have hbx4 : w4.cell? ⟨B, 0, none⟩ = some (.pointer (some ⟨p, 0, none⟩)) := hgr.cell_some bx; have hc4 := (HD.on hgr).cell; have hz4 := (HD.on hgr).froz)
  all_goals
    have H4 := HD.on hgr
    have T4 := ((Tc.of_gr (p := p) (g := g) g1).trans (Tc.of_gr ((Gr.refl w1).drew))).trans (Tc.of_gr hgr)
    have hg3 : w1.heap.size ≤ g2 := hg2
    have hne : p ≠ g2 := by have := H.lt; omega
    have hsz := g1.size
    clear HK HKK HCD HD H hc4 hz4
    go_wp2
    go_ret
    refine ⟨g2, cap2, rfl, ?_, T4.trans (Tc.cellp p g 26 w4 _), by omega⟩
    have := Pol.setL (w := w4) H4.box (g' := g2) (cap' := cap2) (l' := zs) (by rw [hlen]; exact ho) hne
    rwa [hlen] at this
end Go.Proofs.Ytjobicffdcnnlaa
