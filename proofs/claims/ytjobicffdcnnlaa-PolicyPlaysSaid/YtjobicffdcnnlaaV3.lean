import Derived.Test.YtjobicffdcnnlaaV2
import Derived.Test.YtjobicffdcnnlaaU2
import Derived.Test.YtjobicffdcnnlaaQ6
/- The document's policy: its slice may begin within its row; Put. -/
namespace Go.Proofs.Ytjobicffdcnnlaa
open Go.RowKit
set_option linter.unusedSimpArgs false
set_option linter.unusedVariables false
set_option maxRecDepth 100000

/-- A policy of the document's: its block p, its counts in row g from off on. -/
structure RX (w : World) (p g off cap : Nat) (c : CF) (l : List Int) : Prop where
  box : w.heap[p]? = some (.cells #[.int .i64 c.n, .int .i64 c.f, .int .i64 c.m, .int .i64 c.q, .int .i64 c.fresh, .int .i64 c.grace, .int .i64 c.window, .int .i64 c.t0, .int .i64 c.t1, .int .i64 c.t2, .int .i64 c.t3, .int .i64 c.tol, .int .i64 c.lo, .int .i64 c.hi, .int .i64 c.cup, .int .i64 c.cdn, .int .i64 c.pup, .int .i64 c.tup, .int .i64 c.pdn, .int .i64 c.tdn, .int .i64 c.per, .int .i64 c.far, .int .i64 c.str, .int .i64 c.pro, .int .i64 c.sec, .int .u64 c.seed, .slice (some ⟨g, off, none⟩) l.length cap] 62)
  row : ∀ j, j < l.length → w.cell? ⟨g, off + j, none⟩ = some (.int .i64 (l.getD j 0))
  glt : g < w.heap.size
  ne : p ≠ g
theorem RX.of {w : World} {p g cap : Nat} {c : CF} {l : List Int} (h : Rol w p g cap c l) : RX w p g 0 cap c l :=
  ⟨h.box, fun j hj => by rw [Nat.zero_add]; exact own_cell h.own hj, h.glt, h.ne⟩
theorem RX.lt {w : World} {p g off cap : Nat} {c : CF} {l : List Int} (h : RX w p g off cap c l) : p < w.heap.size := (Array.getElem?_eq_some_iff.1 h.box).1
theorem RX.cell {w : World} {p g o cap : Nat} {c : CF} {l : List Int} (h : RX w p g o cap c l) (off : Nat) : w.cell? ⟨p, off, none⟩ = rolAt c (.slice (some ⟨g, o, none⟩) l.length cap) off := by
  simp [World.cell?, h.box, rolAt]
theorem RX.froz {w : World} {p g o cap : Nat} {c : CF} {l : List Int} (h : RX w p g o cap c l) (off : Nat) : w.frozen? ⟨p, off, none⟩ = false := frozen_in h.box
theorem RX.conf {w : World} {p g o cap : Nat} {c : CF} {l : List Int} (h : RX w p g o cap c l) : confIn? w ⟨p, 0, none⟩ = some #[.int .i64 c.n, .int .i64 c.f, .int .i64 c.m, .int .i64 c.q, .int .i64 c.fresh, .int .i64 c.grace, .int .i64 c.window, .int .i64 c.t0, .int .i64 c.t1, .int .i64 c.t2, .int .i64 c.t3, .int .i64 c.tol, .int .i64 c.lo, .int .i64 c.hi, .int .i64 c.cup, .int .i64 c.cdn, .int .i64 c.pup, .int .i64 c.tup, .int .i64 c.pdn, .int .i64 c.tdn, .int .i64 c.per, .int .i64 c.far, .int .i64 c.str, .int .i64 c.pro, .int .i64 c.sec, .int .u64 c.seed] := by
  unfold confIn?
  rw [h.box]
  show (if _ then _ else _) = _
  rw [if_pos ⟨rfl, rfl, Or.inr rfl, by show 26 ≤ 27; omega⟩]
  kernel_rfl
theorem RX.on {w w' : World} {p g o cap : Nat} {c : CF} {l : List Int} (h : RX w p g o cap c l) (r : Gr w w') : RX w' p g o cap c l :=
  ⟨r.block h.box, fun j hj => r.cell_some (h.row j hj), Nat.lt_of_lt_of_le h.glt r.size, h.ne⟩
theorem RX.other {w w' : World} {p g o cap : Nat} {c : CF} {l : List Int} {q r : Nat} (h : RX w p g o cap c l) (t : Tc q r w w') (h1 : p ≠ q) (h2 : p ≠ r) (h3 : g ≠ q) (h4 : g ≠ r) : RX w' p g o cap c l :=
  ⟨(t.block p h.lt h1 h2).trans h.box, fun j hj => (World.cell?_of_block (a := ⟨g, o + j, none⟩) (t.block g h.glt h3 h4)).trans (h.row j hj), Nat.lt_of_lt_of_le h.glt t.size, h.ne⟩

set_option maxHeartbeats 2000000 in
theorem x_limit_any {w : World} {p g o cap : Nat} {c : CF} {l : List Int} (h : RX w p g o cap c l) (hl : 1 ≤ l.length) (x v : Int) (e : limP c (headP l) x = v) :
    Calls Try.prog 56 #[.pointer (some ⟨p, 0, none⟩), .int .i64 x] w fun e w' => e = .returned (.int .i64 v) ∧ Gr w w' := by
  have hh : ∀ w', Gr w w' → w'.cell? ⟨g, o, none⟩ = some (.int .i64 (headP l)) := fun w' r => by
    have := (h.on r).row 0 (by omega)
    rw [Nat.add_zero] at this
    rw [this, headP_getD]
  have el : limP c (headP l) x = min (max (min (max x (loB c (headP l))) (hiB c (headP l))) c.lo) c.hi := rfl
  rw [e] at el
  have EL := Lib.hid el; clear el e
  have hbd := r_bounds_any c (headP l)
  generalize loB c (headP l) = L at *
  generalize hiB c (headP l) = U at *
  generalize headP l = hd at *
  have hpos : 0 < l.length := hl
  go_enter Try.func56, Try.ntmps56
  go_upto_region 1 with (fail)
  refine wp_region_quiet_gw (by kernel_rfl) (by kernel_rfl) ?_
  have hk := fun s : Gw w => (h.on s.gr).conf
  have hc := fun s : Gw w => (h.on s.gr).cell
  have hb := fun s : Gw w => hh s.val s.gr
  repeat (go_big_quiet_step (first | (go_at_call 54; exact q_gr (hbd _))))
  refine wpQuiet_nil fun s => ?_
  clear hk hb hbd hc hh
  have G := s.gr
  replace h := h.on G
  generalize s.val = w2 at *
  go_upto_region 2 with (fail)
  refine wp_region_quiet_gw (by kernel_rfl) (by kernel_rfl) ?_
  have hc := fun s : Gw w2 => (h.on s.gr).cell
  repeat (go_big_quiet_step (fail))
  refine wpQuiet_nil fun s => ?_
  replace G := G.trans s.gr
  clear hc h
  go_wp2
  all_goals
    go_ret
    refine ⟨ret_int ?_, G⟩
    rw [EL.out]
theorem x_put_no {w : World} {p g o cap : Nat} {c : CF} {l : List Int} (h : RX w p g o cap c l) (n : Int) (hn : putB c n = false) :
    Calls Try.prog 57 #[.pointer (some ⟨p, 0, none⟩), .int .i64 n] w fun e w' => e = .returned (.int .i64 1) ∧ w = w' := by
  have hc := h.cell
  have hb : ¬ (c.lo ≤ n ∧ n ≤ c.hi) := by unfold putB at hn; simpa using hn
  clear h hn
  by_cases h0 : c.lo ≤ n
  all_goals
    go_enter Try.func57, Try.ntmps57
    go_wp2
    go_ret
    exact ⟨rfl, rfl⟩
/-- Some numbers more on a row. -/
theorem step_apps {ops : Array Oper} {Q : Exit → Act → World → Prop} {i : Nat} {o : Oper} {a : Act} {w : World} {K : Act → World → Prop} {l ys : List Int} {v : Value} {B : Nat} (t : Nat) (hi : ops[i]? = some o) (hd : o.dst = some t) (hw : Region.wanted o (yielded ops a.tmps) = true)
    (s x : Operand) (ho : o.op = .call { callee := .builtin .append, args := #[s, x], argTypes := #[45, 45] }) (hs : a.eval s = v) (sb so m c : Nat) (hx : a.eval x = .slice (some ⟨sb, so, none⟩) m c) (hm : ys.length = m) (hm1 : 1 ≤ m) (hc : ∀ j, j < ys.length → w.cell? ⟨sb, so + j, none⟩ = some (.int .i64 (ys.getD j 0)))
    (hown : w.ownsRow B 3 1 v l.length (l.map (.int .i64))) (hl : l.length + m ≤ 2000) (hB : B ≤ w.heap.size)
    (k : ∀ g cap w', w'.ownsRow g 3 1 (.slice (some ⟨g, 0, none⟩) (l.length + m) cap) (l ++ ys).length ((l ++ ys).map (.int .i64)) → w.grownBy w' v.ownBlock → (v.ownBlock = some g ∨ g = w.heap.size) → g < w'.heap.size →
      K (a.put (some t) (.slice (some ⟨g, 0, none⟩) (l.length + m) cap)) w') : wpOp Try.prog ops Q i K a w := by
  obtain ⟨i0, hi0, hz0, hz1, hz2⟩ := info_parts info3
  refine wpOp_wp hi hw (wp_append_lies w s x 45 ho B 3 i0 (.int .i64 0) 1 8 Try.underlying45 hi0 hz0 hz1 hz2 rfl (by decide) v l.length (l.map (.int .i64)) hs hown ⟨sb, so, none⟩ m c (ys.map (.int .i64)) hx (by simp [hm]) (fun j u hj => ?_) (fun u hu => ?_) (by omega) (by unfold maxLen; omega) (by omega) hB _ rfl fun g cap w' h1 h2 h3 h4 => ?_)
  · have hjl : j < ys.length := by
      have := (List.getElem?_eq_some_iff.1 hj).1
      simpa using this
    rw [Addr.add_lit, hc j hjl, ← hj]
    simp [List.getD_eq_getElem?_getD, List.getElem?_eq_getElem hjl]
  · obtain ⟨y, _, rfl⟩ := List.mem_map.1 hu
    rfl
  · rw [hd]
    refine k g cap w' ?_ h2 h3 h4
    have e : (l ++ ys).length = l.length + m := by simp [hm]
    rw [e]
    exact own_re (by simpa using h1)
theorem wpAnyT_all {P : Program} {ops : Array Oper} {md : Region.Mode} {C : World → Prop} {Q : Exit → Act → World → Prop} {tl : Nat → Bool} {rs : List Nat} {fuel : Nat} {listed : Array Bool} {a : Act} {w : World} (hr : Region.ready md ops listed = rs) (hne : rs ≠ [])
    (h : ∀ i ∈ rs, wpOp P ops Q i (fun a' w' => (tl i = false → C w') ∧ wpAnyT P md ops Q C tl fuel (listed.setIfInBounds i true) a' w') a w) : wpAnyT P md ops Q C tl (fuel + 1) listed a w :=
  ⟨fun h0 => absurd (hr ▸ h0) hne, hr ▸ h⟩
end Go.Proofs.Ytjobicffdcnnlaa
