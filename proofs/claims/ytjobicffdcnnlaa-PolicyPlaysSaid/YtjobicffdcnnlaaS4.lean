import Derived.Test.YtjobicffdcnnlaaS2
import Derived.Test.YtjobicffdcnnlaaS3
/- Base, All, Limit of the program's policy. -/
namespace Go.Proofs.Ytjobicffdcnnlaa
open Go.RowKit Go.Lib
set_option linter.unusedSimpArgs false
set_option linter.unusedVariables false
set_option maxRecDepth 100000

theorem find101 : Extern.find Try.f101 = some (Extern.Atomic.update (Op.intArith .add) .i64 true) := by rfl
theorem call101 {w : World} {p off : Nat} {k y : Int} (hc : w.cell? ⟨p, off, none⟩ = some (.int .i64 k)) (hz : w.frozen? ⟨p, off, none⟩ = false) :
    (callFunc 101 #[.pointer (some ⟨p, off, none⟩), .int .i64 y]).run Try.prog w = .ok (.value (.int .i64 (wrap64 (k + y)))) (w.setCell ⟨p, off, none⟩ (.int .i64 (wrap64 (k + y)))) :=
  run_call_add (P := Try.prog) (f := 101) (fn := Try.f101) Try.func101 (by rfl) (by rfl) (by rfl) .i64 find101 hc hz (by simp [go_sem, Op.intArith, IntKind.wrap_i64, wrap64])
theorem add_any (p off : Nat) (k y : Int) (w : World) (hc : w.cell? ⟨p, off, none⟩ = some (.int .i64 k)) (hz : w.frozen? ⟨p, off, none⟩ = false) :
    Calls Try.prog 89 #[.pointer (some ⟨p, off, none⟩), .int .i64 y] w fun e w' => e = .returned (.int .i64 (wrap64 (k + y))) ∧ w' = w.setCell ⟨p, off, none⟩ (.int .i64 (wrap64 (k + y))) := by
  have hadd := call101 (y := y) hc hz
  go_enter Try.func89, Try.ntmps89
  go_wp2
  go_ret
  exact ⟨rfl, rfl⟩

theorem base_any {w : World} {p g cap : Nat} {c : CF} {l : List Int} {k : Int} (h : Pol w p g cap c l k) (hl : 1 ≤ l.length) :
    Calls Try.prog 50 #[.pointer (some ⟨p, 0, none⟩)] w fun e w' => e = .returned (.int .i64 (headP l)) ∧ w = w' := by
  have hc := h.cell
  have hh := own_cell h.own (j := 0) (by omega)
  rw [headP_getD]
  generalize l.getD 0 0 = x at *
  have hpos : 0 < l.length := hl
  generalize l.length = n at *
  clear h
  go_enter Try.func50, Try.ntmps50
  go_wp2
  go_ret
  exact ⟨rfl, rfl⟩
theorem base_none (w : World) : Calls Try.prog 50 #[.pointer none] w fun e w' => e = .returned (.int .i64 0) ∧ w = w' := by
  go_enter Try.func50, Try.ntmps50
  go_wp2
  go_ret
  exact ⟨rfl, rfl⟩
theorem all_any {w : World} {p g cap : Nat} {c : CF} {l : List Int} {k : Int} (h : Pol w p g cap c l k) (hl : 1 ≤ l.length) (hm : l.length ≤ 1000) :
    Calls Try.prog 48 #[.pointer (some ⟨p, 0, none⟩)] w fun e w' => ∃ g' cap', e = .returned (.slice (some ⟨g', 0, none⟩) l.length cap') ∧ w'.ownsRow g' 3 1 (.slice (some ⟨g', 0, none⟩) l.length cap') l.length (l.map (Value.int .i64)) ∧ w.heap.size ≤ g' ∧ Gr w w' := by
  have hc := h.cell
  have K := fun w' (e : w = w') => clone_any g 0 l.length cap l w' rfl (by omega) (by omega) (fun j hj => by rw [← e, Nat.zero_add]; exact own_cell h.own hj)
  have HK := Lib.hid K; clear K h
  generalize hn : l.length = n at *
  go_enter Try.func48, Try.ntmps48
  go_wp2_with fail
  refine (HK.out _ rfl).mono ?_
  rintro e w1 ⟨g', cap', rfl, h1, h2, h3⟩
  go_wp2
  go_ret
  exact ⟨g', cap', rfl, h1, h2, h3⟩
theorem base_gr {w : World} {p g cap : Nat} {c : CF} {l : List Int} {k : Int} (h : Pol w p g cap c l k) (hl : 1 ≤ l.length) :
    Calls Try.prog 50 #[.pointer (some ⟨p, 0, none⟩)] w fun e w' => e = .returned (.int .i64 (headP l)) ∧ Gr w w' := (base_any h hl).mono fun _ _ ⟨a, b⟩ => ⟨a, b ▸ Gr.refl _⟩
set_option maxHeartbeats 2000000 in
theorem limit_any {w : World} {p g cap : Nat} {c : CF} {l : List Int} {k : Int} (h : Pol w p g cap c l k) (hl : 1 ≤ l.length) (x : Int) :
    Calls Try.prog 49 #[.pointer (some ⟨p, 0, none⟩), .int .i64 x] w fun e w' => ∃ k', e = .returned (.int .i64 (limP c (headP l) x)) ∧ Pol w' p g cap c l k' ∧ Tc p g w w' := by
  have hc : w.cell? ⟨p, 27, none⟩ = some (.int .i64 k) := h.cell 27
  have hz := h.froz 27
  have H := h.setK (wrap64 (k + 1))
  have T := Tc.cellp p g 27 w (.int .i64 (wrap64 (k + 1)))
  clear h
  have el : limP c (headP l) x = min (max (min (max x (loB c (headP l))) (hiB c (headP l))) c.lo) c.hi := rfl
  have EL := Lib.hid el; clear el
  generalize limP c (headP l) x = r at *
  have hbd := bounds_any c (headP l)
  generalize loB c (headP l) = L at *
  generalize hiB c (headP l) = U at *
  go_enter Try.func49, Try.ntmps49
  go_upto_region 4 with ((go_at_call 89; refine (add_any p 27 k 1 _ hc hz).mono ?_; rintro e w1 ⟨rfl, rfl⟩))
  clear hc hz
  generalize World.setCell _ _ _ = w1 at *
  refine wp_region_quiet_gw (by kernel_rfl) (by kernel_rfl) ?_
  have hk := fun s : Gw w1 => (H.on s.gr).conf
  have hb := fun s : Gw w1 => base_gr (H.on s.gr) hl
  repeat (go_big_quiet_step (first | (go_at_call 50; exact q_gr (hb _)) | (go_at_call 53; exact q_gr (hbd _))))
  refine wpQuiet_nil fun s => ?_
  clear hk hb hbd
  replace H := H.on s.gr
  replace T := T.trans (Tc.of_gr s.gr)
  generalize s.val = w2 at *
  go_upto_region 5 with (fail)
  refine wp_region_quiet_gw (by kernel_rfl) (by kernel_rfl) ?_
  have hc := fun s : Gw w2 => (H.on s.gr).cell
  repeat (go_big_quiet_step (fail))
  refine wpQuiet_nil fun s => ?_
  replace H := H.on s.gr
  replace T := T.trans (Tc.of_gr s.gr)
  clear hc
  go_wp2
  all_goals
    go_ret
    refine ⟨_, ret_int ?_, H, T⟩
    rw [EL.out]
theorem limit_none (x : Int) (w : World) : Calls Try.prog 49 #[.pointer none, .int .i64 x] w fun e w' => e = .returned (.int .i64 0) ∧ w = w' := by
  go_enter Try.func49, Try.ntmps49
  go_wp2
  go_ret
  exact ⟨rfl, rfl⟩
end Go.Proofs.Ytjobicffdcnnlaa
