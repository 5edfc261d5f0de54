import Derived.Test.YtjobicffdcnnlaaLW9
/- The document's calm: its state, New, most, last, million. -/
namespace Go.Proofs.Ytjobicffdcnnlaa
open Go.RowKit
set_option linter.unusedSimpArgs false
set_option linter.unusedVariables false
set_option maxRecDepth 100000

def rkAt (up dn : Int) (v : Value) (i : Nat) : Option Value := (#[.int .i64 up, .int .i64 dn, v] : Array Value)[i]?
@[go_sem] theorem rkAt_0 (up dn : Int) (v : Value) : rkAt up dn v 0 = some (.int .i64 up) := rfl
@[go_sem] theorem rkAt_1 (up dn : Int) (v : Value) : rkAt up dn v 1 = some (.int .i64 dn) := rfl
@[go_sem] theorem rkAt_2 (up dn : Int) (v : Value) : rkAt up dn v 2 = some v := rfl
/-- A calm of the document's: its block p, its row in g from an offset on. -/
structure RK (w : World) (p g : Nat) (v : Value) (up dn : Int) (l : List Int) : Prop where mk ::
  box : w.heap[p]? = some (.cells #[.int .i64 up, .int .i64 dn, v] 86)
  row : (v = .slice none 0 0 ∧ l = [] ∧ g = p) ∨ ∃ o cap, v = .slice (some ⟨g, o, none⟩) l.length cap ∧ (1 ≤ l.length ∧ l.length ≤ cap) ∧ cap ≤ maxLen ∧ (∀ j, j < l.length → w.cell? ⟨g, o + j, none⟩ = some (.int .i64 (l.getD j 0))) ∧ g < w.heap.size ∧ p ≠ g
theorem RK.lt {w : World} {p g : Nat} {v : Value} {up dn : Int} {l : List Int} (h : RK w p g v up dn l) : p < w.heap.size := (Array.getElem?_eq_some_iff.1 h.box).1
theorem RK.glt {w : World} {p g : Nat} {v : Value} {up dn : Int} {l : List Int} (h : RK w p g v up dn l) : g < w.heap.size := by
  rcases h.row with ⟨_, _, e⟩ | ⟨_, _, _, _, _, _, k, _⟩
  · rw [e]; exact h.lt
  · exact k
theorem RK.cell {w : World} {p g : Nat} {v : Value} {up dn : Int} {l : List Int} (h : RK w p g v up dn l) (off : Nat) : w.cell? ⟨p, off, none⟩ = rkAt up dn v off := by
  simp [World.cell?, h.box, rkAt]
theorem RK.froz {w : World} {p g : Nat} {v : Value} {up dn : Int} {l : List Int} (h : RK w p g v up dn l) (off : Nat) : w.frozen? ⟨p, off, none⟩ = false := frozen_in h.box
theorem RK.tw {w w' : World} {p g : Nat} {v : Value} {up dn : Int} {l : List Int} {F : List Nat} (h : RK w p g v up dn l) (t : Tw F w w') (h1 : p ∉ F) (h2 : g ∉ F) : RK w' p g v up dn l :=
  ⟨(t.block p h.lt h1).trans h.box, h.row.imp id fun ⟨o, cap, e, c1, c2, r, k, n⟩ => ⟨o, cap, e, c1, c2, (fun j hj => (World.cell?_of_block (a := ⟨g, o + j, none⟩) (t.block g k h2)).trans (r j hj)), Nat.lt_of_lt_of_le k t.size, n⟩⟩
theorem RK.on {w w' : World} {p g : Nat} {v : Value} {up dn : Int} {l : List Int} (h : RK w p g v up dn l) (r : Gr w w') : RK w' p g v up dn l := h.tw (F := []) (Tw.of_gr r) (by simp) (by simp)

theorem million_any (x : Int) (w : World) : Calls Try.prog 106 #[.int .i64 x] w fun e w' => e = .returned (.int .i64 (clampM x)) ∧ w = w' := by
  go_enter Try.func106, Try.ntmps106
  go_wp2
  all_goals
    go_ret
    exact ⟨ret_int (by unfold clampM; omega), rfl⟩
theorem r_cmost_any {w : World} {p g : Nat} {v : Value} {up dn : Int} {l : List Int} (h : RK w p g v up dn l) (u0 : 0 ≤ up) (u1 : up ≤ 60) (d0 : 0 ≤ dn) (d1 : dn ≤ 60) :
    Calls Try.prog 107 #[.pointer (some ⟨p, 0, none⟩)] w fun e w' => e = .returned (.int .i64 (max up dn + 1)) ∧ Gr w w' := by
  go_enter Try.func107, Try.ntmps107
  go_upto_region 1 with (fail)
  refine wp_region_quiet_gw (by kernel_rfl) (by kernel_rfl) ?_
  have hc := fun s : Gw w => (h.on s.gr).cell
  repeat (go_big_quiet_step (fail))
  refine wpQuiet_nil fun s => ?_
  have G := s.gr
  clear hc h
  go_wp2
  all_goals
    go_ret
    exact ⟨ret_int (by omega), G⟩
theorem last_off (g o n cap : Nat) (P : Nat) (w : World) (hn : 1 ≤ n) (hn2 : n ≤ 2000) (hP : 1 ≤ P) (hP2 : P ≤ 2000) (hc : n ≤ cap) (hcm : cap ≤ maxLen) :
    Calls Try.prog 91 #[.slice (some ⟨g, o, none⟩) n cap, .int .i64 (P : Int)] w fun e w' => e = .returned (.slice (some ⟨g, o + (n - P), none⟩) (n - (n - P)) (cap - (n - P))) ∧ w = w' := by
  have eD : (max ((n : Int) - (P : Int)) 0).toNat = n - P := by omega
  unfold maxLen at hcm
  go_enter Try.func91, Try.ntmps91
  go_wp2
  all_goals
    go_ret
    refine ⟨?_, rfl⟩
    try rw [eD]
    try rfl
theorem rc_new_any (up dn : Int) (u0 : 0 ≤ up) (u1 : up ≤ 60) (d0 : 0 ≤ dn) (d1 : dn ≤ 60) (w : World) : Calls Try.prog 94 #[.int .i64 up, .int .i64 dn] w fun e w' =>
    ∃ p, e = .returned (.pointer (some ⟨p, 0, none⟩)) ∧ RK w' p p (.slice none 0 0) up dn [] ∧ w.heap.size ≤ p ∧ Gr w w' := by
  go_enter Try.func94, Try.ntmps94
  go_upto_region 3 with (fail)
  refine wp_region_lit ?_
  refine wpList_val (.int .i64 up) w rfl (by kernel_rfl) ?_
  refine wpList_val (.int .i64 dn) w rfl (by kernel_rfl) ?_
  refine wpList_val (.agg #[.int .i64 up, .int .i64 dn, .slice none 0 0]) w rfl (by kernel_rfl) ?_
  refine wpList_val (.pointer (some ⟨w.heap.size, 0, none⟩)) (w.alloc (.cells #[.int .i64 up, .int .i64 dn, .slice none 0 0] 86)) rfl (by kernel_rfl) ?_
  go_wp2
  go_ret
  exact ⟨_, rfl, ⟨heap_new rfl, .inl ⟨rfl, rfl, rfl⟩⟩, Nat.le_refl _, (Gr.refl w).alloc _⟩
/-- The least, the greatest, from the very first on. -/
theorem minT_step0 (zs : List Int) {k : Nat} (h : k < zs.length) : minT zs (k + 1) = min (minT zs k) (zs.getD k 0) := by
  by_cases h1 : 1 ≤ k
  · exact minT_step zs h1 h
  · obtain rfl : k = 0 := by omega
    rw [minT_one]
    have : minT zs 0 = zs.getD 0 0 := by unfold minT; simp
    rw [this]; omega
theorem maxT_step0 (zs : List Int) {k : Nat} (h : k < zs.length) : maxT zs (k + 1) = max (maxT zs k) (zs.getD k 0) := by
  by_cases h1 : 1 ≤ k
  · exact maxT_step zs h1 h
  · obtain rfl : k = 0 := by omega
    rw [maxT_one]
    have : maxT zs 0 = zs.getD 0 0 := by unfold maxT; simp
    rw [this]; omega
theorem minT_zero (zs : List Int) : minT zs 0 = zs.getD 0 0 := by unfold minT; simp
theorem maxT_zero (zs : List Int) : maxT zs 0 = zs.getD 0 0 := by unfold maxT; simp
end Go.Proofs.Ytjobicffdcnnlaa
