import Derived.Test.YtjobicffdcnnlaaDC5
/- The program's law: what calm and policy hold, told. -/
namespace Go.Proofs.Ytjobicffdcnnlaa
open Go.RowKit
set_option linter.unusedSimpArgs false
set_option linter.unusedVariables false
set_option maxRecDepth 100000

theorem clone_nil (w : World) : Calls Try.prog 86 #[.slice none 0 0] w fun e w' => e = .returned (.slice none 0 0) ∧ w = w' := by
  have q45 : ∀ (w : World) (a : Option Addr) (n c n' c' : Nat), (binOp .eql 45 (.slice a n c) (.slice none n' c')).run Try.prog w = .ok (.bool a.isNone) w := fun w a n c n' c' => Lib.run_eql_slice_nil w _ _ a n c n' c' Try.underlying45
  go_enter Try.func86, Try.ntmps86
  go_wp2
  go_ret
  exact ⟨rfl, rfl⟩
theorem clone_zero (A : Addr) (c : Nat) (w : World) : Calls Try.prog 86 #[.slice (some A) 0 c] w fun e w' => ∃ g cap, e = .returned (.slice (some ⟨g, 0, none⟩) 0 cap) ∧ Gr w w' := by
  have q45 : ∀ (w : World) (a : Option Addr) (n c n' c' : Nat), (binOp .eql 45 (.slice a n c) (.slice none n' c')).run Try.prog w = .ok (.bool a.isNone) w := fun w a n c n' c' => Lib.run_eql_slice_nil w _ _ a n c n' c' Try.underlying45
  go_enter Try.func86, Try.ntmps86
  go_upto_region 3 with (fail)
  refine wp_region_lit ?_
  refine wpList_val (.slice (some ⟨w.heap.size, 0, none⟩) 0 0) (w.alloc (.cells #[] 3)) rfl (by kernel_rfl) ?_
  refine wpList_val (.slice (some A) 0 c) (w.alloc (.cells #[] 3)) rfl (by kernel_rfl) ?_
  refine wpList_val (.slice (some ⟨w.heap.size, 0, none⟩) 0 0) (w.alloc (.cells #[] 3)) rfl (by kernel_rfl) ?_
  go_wp2
  go_ret
  exact ⟨_, _, rfl, (Gr.refl w).alloc _⟩
/-- What is kept, whatever it is. -/
theorem cal_all {w : World} {p g : Nat} {v : Value} {up dn : Int} {l : List Int} {k : Int} (h : Cal w p g v up dn l k) (hl : l.length ≤ 1000) :
    Calls Try.prog 69 #[.pointer (some ⟨p, 0, none⟩)] w fun e w' => ∃ A n c, e = .returned (.slice A n c) ∧ RI w' A n l ∧ Gr w w' := by
  have hc := h.cell
  have K : Calls Try.prog 86 #[v] w fun e w' => ∃ A n c, e = .returned (.slice A n c) ∧ RI w' A n l ∧ Gr w w' := by
    rcases h.row with ⟨rfl, rfl, _⟩ | ⟨cap, rfl, o, _⟩
    · exact (clone_nil w).mono fun e w' ⟨r1, r2⟩ => ⟨none, 0, 0, r1, RI.nil_ _, r2 ▸ Gr.refl _⟩
    · by_cases h0 : l.length = 0
      · obtain rfl := List.eq_nil_of_length_eq_zero h0
        exact (clone_zero _ _ w).mono fun e w' ⟨g', cap', r1, r2⟩ => ⟨_, _, _, r1, ⟨rfl, by omega, fun h => absurd h (by omega)⟩, r2⟩
      · exact (clone_any g 0 l.length cap l w rfl (by omega) (by omega) (fun j hj => by rw [Nat.zero_add]; exact own_cell o hj)).mono fun e w' ⟨g', cap', r1, r2, _, r3⟩ => ⟨_, _, _, r1, own_RI r2 rfl (by omega), r3⟩
  have HK := Lib.hid K
  clear K h
  go_enter Try.func69, Try.ntmps69
  go_wp2_with fail
  refine HK.out.mono ?_
  rintro e w1 ⟨A, n, c, rfl, h2, h3⟩
  go_wp2
  go_ret
  exact ⟨A, n, c, rfl, h2, h3⟩
theorem lawCalm_any {w : World} {b : Nat} {c : CF} {n : Int} {q p : Nat} {e : Int} (h : Lb w b c n q p e) : Calls Try.prog 67 #[.pointer (some ⟨b, 0, none⟩)] w fun x w' => x = .returned (.pointer (some ⟨q, 0, none⟩)) ∧ Gr w w' := by
  have hc := h.cell
  clear h
  go_enter Try.func67, Try.ntmps67
  go_wp2
  go_ret
  exact ⟨rfl, Gr.refl _⟩
theorem lawPolicy_any {w : World} {b : Nat} {c : CF} {n : Int} {q p : Nat} {e : Int} (h : Lb w b c n q p e) : Calls Try.prog 68 #[.pointer (some ⟨b, 0, none⟩)] w fun x w' => x = .returned (.pointer (some ⟨p, 0, none⟩)) ∧ Gr w w' := by
  have hc := h.cell
  clear h
  go_enter Try.func68, Try.ntmps68
  go_wp2
  go_ret
  exact ⟨rfl, Gr.refl _⟩
theorem RK.ri {w : World} {p g : Nat} {v : Value} {up dn : Int} {l : List Int} (h : RK w p g v up dn l) (hl : l.length ≤ 1000) : ∃ A n c, v = .slice A n c ∧ ∀ w', Gr w w' → RI w' A n l := by
  rcases h.rd hl with ⟨rfl, rfl⟩ | ⟨A, c, rfl, hr, _⟩
  · exact ⟨none, 0, 0, rfl, fun _ _ => RI.nil_ _⟩
  · exact ⟨some A, l.length, c, rfl, fun w' r => hr.gr r⟩
end Go.Proofs.Ytjobicffdcnnlaa
