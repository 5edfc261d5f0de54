import Derived.Test.YtjobicffdcnnlaaV4
/- The document's policy: Set. -/
namespace Go.Proofs.Ytjobicffdcnnlaa
open Go.RowKit
set_option linter.unusedSimpArgs false
set_option linter.unusedVariables false
set_option maxRecDepth 100000

set_option maxHeartbeats 4000000 in
theorem x_set_no {w : World} {p g o cap : Nat} {c : CF} {l : List Int} (h : RX w p g o cap c l) (r : Rts c) (A : Option Addr) (n cp : Nat) (zs : List Int) (hr : RI w A n zs) (hs : setB c zs = false) :
    Calls Try.prog 55 #[.pointer (some ⟨p, 0, none⟩), .slice A n cp] w fun e w' => e = .returned (.int .i64 1) ∧ Gr w w' := by
  have hlen := hr.1
  have hbig := hr.2.1
  have p0 := r.per0
  have p1 := r.per1
  have hend : zs.any (badX c) = false → n < 1 ∨ c.per < (n : Int) := fun hb => by
    unfold setB at hs
    rw [setB_bad, hb] at hs
    simp [hlen] at hs
    by_cases h1 : n < 1
    · exact .inl h1
    · right; have := hs (by omega); omega
  have H := Lib.hid hr; clear hr hs r
  have H0 : Hid ((zs.drop 0).any (badX c) = zs.any (badX c)) := Lib.hid (by rw [List.drop_zero])
  have HE := Lib.hid hend; clear hend
  generalize zs.any (badX c) = R at *
  go_enter Try.func55, Try.ntmps55
  go_wp2_with fail
  go_loopw [5] (fun i wr => ∃ k : Nat, k ≤ n ∧ i = .int .i64 k ∧ Hid ((zs.drop k).any (badX c) = R) ∧ Gr w wr) (fun i _ => n - (intOf i).toNat)
  case atStart => exact ⟨0, by omega, rfl, H0, Gr.refl _⟩
  case round =>
    obtain ⟨k, hk, rfl, hR, G⟩ := hrel
    by_cases q : k < n
    · as_aux_lemma =>
      obtain ⟨ad, rfl, hc⟩ := H.out.at_ q
      have hd : (zs.drop k).any (badX c) = (badX c (zs.getD k 0) || (zs.drop (k + 1)).any (badX c)) := by
        rw [List.drop_eq_getElem_cons (by omega), List.any_cons, List.getD_eq_getElem?_getD, List.getElem?_eq_getElem (show k < zs.length by omega)]
        rfl
      have hR' := hR.out
      rw [hd] at hR'
      clear hR hd
      generalize zs.getD k 0 = x at *
      have hcl : ∀ s : Gw wr, s.val.cell? (ad.add k) = some (.int .i64 x) := fun s => (G.trans s.gr).cell_some hc
      have hcs : ∀ s : Gw wr, ∀ off, s.val.cell? ⟨p, off, none⟩ = rolAt c (.slice (some ⟨g, o, none⟩) l.length cap) off := fun s => (h.on (G.trans s.gr)).cell
      by_cases b1 : x < c.lo
      · clear hR'
        go_upto_region 4 with (fail)
        refine wp_region_quiet_gw (by kernel_rfl) (by kernel_rfl) ?_
        repeat (go_big_quiet_step (fail))
        refine wpQuiet_nil fun s => ?_
        have G2 := G.trans s.gr
        clear hcl hcs
        go_wp2
        go_ret
        exact ⟨rfl, G2⟩
      · by_cases b2 : c.hi < x
        · clear hR'
          go_upto_region 4 with (fail)
          refine wp_region_quiet_gw (by kernel_rfl) (by kernel_rfl) ?_
          repeat (go_big_quiet_step (fail))
          refine wpQuiet_nil fun s => ?_
          have G2 := G.trans s.gr
          clear hcl hcs
          go_wp2
          go_ret
          exact ⟨rfl, G2⟩
        · have hn : Hid ((zs.drop (k + 1)).any (badX c) = R) := Lib.hid (by rw [← hR']; unfold badX; simp [b1, b2])
          clear hR'
          go_upto_region 4 with (fail)
          refine wp_region_quiet_gw (by kernel_rfl) (by kernel_rfl) ?_
          repeat (go_big_quiet_step (fail))
          refine wpQuiet_nil fun s => ?_
          have G2 := G.trans s.gr
          clear hcl hcs
          go_wp2
          go_roundw
          case rel => exact ⟨k + 1, by omega, by first | rfl | go_num, hn, G2⟩
          case measure => simp [intOf]; omega
    · have e : R = false := by rw [← hR.out, List.drop_eq_nil_of_le (by omega)]; rfl
      have he := HE.out e
      have hcs := (h.on G).cell
      clear hR
      rcases (show n < 1 ∨ (¬ n < 1 ∧ c.per < (n : Int)) by omega) with e1 | ⟨e1, e2⟩
      all_goals
        go_wp2
        go_ret
        exact ⟨rfl, G⟩
end Go.Proofs.Ytjobicffdcnnlaa
