import Derived.Test.YtjobicffdcnnlaaS7
import Derived.Test.YtjobicffdcnnlaaQ5
/- The document's policy: Limit, SameInts. -/
namespace Go.Proofs.Ytjobicffdcnnlaa
open Go.RowKit
set_option linter.unusedSimpArgs false
set_option linter.unusedVariables false
set_option maxRecDepth 100000

set_option maxHeartbeats 2000000 in
theorem r_limit_any {w : World} {p g cap : Nat} {c : CF} {l : List Int} (h : Rol w p g cap c l) (hl : 1 ≤ l.length) (x v : Int) (e : limP c (headP l) x = v) :
    Calls Try.prog 56 #[.pointer (some ⟨p, 0, none⟩), .int .i64 x] w fun e w' => e = .returned (.int .i64 v) ∧ Gr w w' := by
  have hh : ∀ w', Gr w w' → w'.cell? ⟨g, 0, none⟩ = some (.int .i64 (headP l)) := fun w' r => by rw [own_cell (h.on r).own (j := 0) (by omega), headP_getD]
  have el : limP c (headP l) x = min (max (min (max x (loB c (headP l))) (hiB c (headP l))) c.lo) c.hi := rfl
  rw [e] at el
  have EL := Lib.hid el; clear el e
  have hbd := r_bounds_any c (headP l)
  generalize loB c (headP l) = L at *
  generalize hiB c (headP l) = U at *
  generalize headP l = hd at *
  have hpos : 0 < l.length := hl
  go_enter Try.func56, Try.ntmps56
  go_upto_region 1 with (fail)
  refine wp_region_quiet_gw (by kernel_rfl) (by kernel_rfl) ?_
  have hk := fun s : Gw w => (h.on s.gr).conf
  have hc := fun s : Gw w => (h.on s.gr).cell
  have hb := fun s : Gw w => hh s.val s.gr
  repeat (go_big_quiet_step (first | (go_at_call 54; exact q_gr (hbd _))))
  refine wpQuiet_nil fun s => ?_
  clear hk hb hbd hc hh
  have G := s.gr
  replace h := h.on G
  generalize s.val = w2 at *
  go_upto_region 2 with (fail)
  refine wp_region_quiet_gw (by kernel_rfl) (by kernel_rfl) ?_
  have hc := fun s : Gw w2 => (h.on s.gr).cell
  repeat (go_big_quiet_step (fail))
  refine wpQuiet_nil fun s => ?_
  replace G := G.trans s.gr
  clear hc h
  go_wp2
  all_goals
    go_ret
    refine ⟨ret_int ?_, G⟩
    rw [EL.out]

set_option maxHeartbeats 1000000 in
theorem sameInts_any (A B : Option Addr) (n m c d : Nat) (xs ys : List Int) (w : World) (hx : RI w A n xs) (hy : RI w B m ys) (e : xs = ys) :
    Calls Try.prog 58 #[.slice A n c, .slice B m d] w fun e w' => e = .returned (.bool true) ∧ Gr w w' := by
  subst e
  have e1 := hx.1
  have e2 := hy.1
  obtain rfl : n = m := by omega
  have hbig := hx.2.1
  have HX := Lib.hid hx
  have HY := Lib.hid hy
  clear hx hy
  go_enter Try.func58, Try.ntmps58
  go_wp2_with fail
  go_loopw [5] (fun i wr => ∃ k : Nat, k ≤ n ∧ i = .int .i64 k ∧ Gr w wr) (fun i _ => n - (intOf i).toNat)
  case atStart => exact ⟨0, by omega, rfl, Gr.refl _⟩
  case round =>
    obtain ⟨k, hk, rfl, G⟩ := hrel
    by_cases q : k < n
    · obtain ⟨a1, rfl, h1⟩ := HX.out.at_ q
      obtain ⟨a2, rfl, h2⟩ := HY.out.at_ q
      generalize xs.getD k 0 = y at *
      have h1' : ∀ s : Gw wr, s.val.cell? (a1.add k) = some (.int .i64 y) := fun s => (G.trans s.gr).cell_some h1
      have h2' : ∀ s : Gw wr, s.val.cell? (a2.add k) = some (.int .i64 y) := fun s => (G.trans s.gr).cell_some h2
      clear h1 h2
      go_upto_region 6 with (fail)
      refine wp_region_quiet_gw (by kernel_rfl) (by kernel_rfl) ?_
      repeat (go_big_quiet_step (fail))
      refine wpQuiet_nil fun s => ?_
      replace G := G.trans s.gr
      clear h1' h2'
      go_wp2
      go_roundw
      case rel => exact ⟨k + 1, by omega, by first | rfl | go_num, G⟩
      case measure => simp [intOf]; omega
    · go_wp2
      go_ret
      exact ⟨rfl, G⟩
end Go.Proofs.Ytjobicffdcnnlaa
