import Derived.Test.YtjobicffdcnnlaaV5
/- The document's policy: what is set. -/
namespace Go.Proofs.Ytjobicffdcnnlaa
open Go.RowKit
set_option linter.unusedSimpArgs false
set_option linter.unusedVariables false
set_option maxRecDepth 100000

set_option maxHeartbeats 4000000 in
theorem x_set_ok {w : World} {p g o cap : Nat} {c : CF} {l : List Int} (h : RX w p g o cap c l) (r : Rts c) (A : Option Addr) (n cp : Nat) (zs : List Int) (hr : RI w A n zs) (hs : setB c zs = true) :
    Calls Try.prog 55 #[.pointer (some ⟨p, 0, none⟩), .slice A n cp] w fun e w' => ∃ g' cap', e = .returned (.int .i64 0) ∧ RX w' p g' 0 cap' c zs ∧ Tc p p w w' ∧ w.heap.size ≤ g' := by
  have hlen := hr.1
  have hbig := hr.2.1
  have p0 := r.per0
  have p1 := r.per1
  have hb : (∀ x ∈ zs, c.lo ≤ x ∧ x ≤ c.hi) ∧ 1 ≤ n ∧ (n : Int) ≤ c.per := by
    have k := Kept.of_set hs
    exact ⟨k.all, by have := k.pos; omega, by have := k.len; omega⟩
  obtain ⟨hall, h1, h2⟩ := hb
  obtain ⟨b, of, rfl, hcell⟩ := hr.plain (by omega)
  have HA := Lib.hid hall
  have HC := Lib.hid hcell
  have H := Lib.hid hr
  clear hr hs r hall hcell
  go_enter Try.func55, Try.ntmps55
  go_wp2_with fail
  go_loopw [5] (fun i wr => ∃ k : Nat, k ≤ n ∧ i = .int .i64 k ∧ Gr w wr) (fun i _ => n - (intOf i).toNat)
  case atStart => exact ⟨0, by omega, rfl, Gr.refl _⟩
  case round =>
    obtain ⟨k, hk, rfl, G⟩ := hrel
    by_cases q : k < n
    · as_aux_lemma =>
      obtain ⟨ad, e, hc⟩ := H.out.at_ q
      obtain rfl := Option.some.inj e
      have hx := HA.out (zs.getD k 0) (by rw [List.getD_eq_getElem?_getD, List.getElem?_eq_getElem (show k < zs.length by omega)]; exact List.getElem_mem _)
      generalize zs.getD k 0 = x at *
      have x0 : ¬ x < c.lo := by have := hx.1; omega
      have x1 : ¬ c.hi < x := by have := hx.2; omega
      have hcl : ∀ s : Gw wr, s.val.cell? ((⟨b, of, none⟩ : Addr).add k) = some (.int .i64 x) := fun s => (G.trans s.gr).cell_some hc
      have hcs : ∀ s : Gw wr, ∀ off, s.val.cell? ⟨p, off, none⟩ = rolAt c (.slice (some ⟨g, o, none⟩) l.length cap) off := fun s => (h.on (G.trans s.gr)).cell
      clear hx hc HC H HA
      generalize (⟨b, of, none⟩ : Addr) = ad at *
      go_upto_region 4 with (fail)
      refine wp_region_quiet_gw (by kernel_rfl) (by kernel_rfl) ?_
      repeat (go_big_quiet_step (fail))
      refine wpQuiet_nil fun s => ?_
      have G2 := G.trans s.gr
      clear hcl hcs
      go_wp2
      go_roundw
      case rel => exact ⟨k + 1, by omega, by first | rfl | go_num, G2⟩
      case measure => simp [intOf]; omega
    · as_aux_lemma =>
      have hX := h.on G
      have hcs := hX.cell
      have hz := hX.froz
      have hcw : ∀ j, j < zs.length → wr.cell? ⟨b, of + j, none⟩ = some (.int .i64 (zs.getD j 0)) := fun j hj => G.cell_some (HC.out j hj)
      have HW := Lib.hid hcw
      clear hcw HC HA H
      obtain ⟨i0, hi, hz0, hz1, hz2⟩ := info_parts info3
      have hpl := hX.lt
      have hGs := G.size
      go_wp2_with (at_builtin; refine wpList_append_lies _ rfl _ _ 45 rfl wr.heap.size 3 i0 (.int .i64 0) 1 8 Try.underlying45 hi hz0 hz1 hz2 rfl (by decide) _ _ _ rfl (World.ownsRow_made wr #[] 0 (Nat.le_refl _) (Nat.zero_le _) rfl) ⟨b, of, none⟩ n cp (zs.map (.int .i64)) rfl ?qc1 ?qc2 ?qc3 (by omega) ?qc4 ?qc5 ?qc6 _ rfl ?_)
      case qc1 => simp [hlen]
      case qc2 =>
        intro j u hj
        have hjl : j < zs.length := by
          have := (List.getElem?_eq_some_iff.1 hj).1
          simpa using this
        rw [Addr.add_lit, Lib.cell?_alloc_some _ (HW.out j hjl), ← hj]
        simp [List.getD_eq_getElem?_getD, List.getElem?_eq_getElem hjl]
      case qc3 => intro u hu; obtain ⟨y, _, rfl⟩ := List.mem_map.1 hu; rfl
      case qc4 => unfold maxLen; omega
      case qc5 => omega
      case qc6 => simp
      intro g1 c1 w2 hown hgrow hat hlt
      have G2 : Gr wr w2 := ⟨((Below.refl _ wr).alloc (Nat.le_refl _) _).grown hgrow (by simp) (by intro k hk; simp [Value.ownBlock] at hk; omega)⟩
      have ho1 : w2.ownsRow g1 3 1 (.slice (some ⟨g1, 0, none⟩) n c1) n (zs.map (.int .i64)) := by
        have := own_re hown
        simpa using this
      have hge : wr.heap.size ≤ g1 := by
        rcases hat with e | e
        · simp [Value.ownBlock] at e; omega
        · rw [e]; simp
      clear hown hgrow hat
      have X2 := hX.on G2
      have hc2 := X2.cell
      have hz2' := X2.froz
      have hpg : p ≠ g1 := by omega
      clear hcs hz
      go_wp2
      go_ret
      refine ⟨g1, c1, rfl, ⟨?_, fun j hj => ?_, ?_, hpg⟩, (Tc.of_gr (G.trans G2)).trans (Tc.cellp p p 26 _ _), by omega⟩
      · rw [hlen]; exact set_block X2.box
      · rw [Nat.zero_add]
        refine (World.cell?_setCell_other _ ⟨p, 26, none⟩ ⟨g1, j, none⟩ _ (by intro e; simp at e <;> omega)).trans ?_
        exact own_cell ho1 hj
      · simp [World.setCell]; exact hlt
end Go.Proofs.Ytjobicffdcnnlaa
