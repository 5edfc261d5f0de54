import Derived.Test.YtjobicffdcnnlaaS8
import Derived.Test.YtjobicffdcnnlaaQ7
import Derived.Deep.AppendLies
import Derived.Test.YtjobicffdcnnlaaU2
/- The document's policy: Limit, SameInts. -/
namespace Go.Proofs.Ytjobicffdcnnlaa
open Go.RowKit
set_option linter.unusedSimpArgs false
set_option linter.unusedVariables false
set_option maxRecDepth 100000

set_option maxHeartbeats 2000000 in
theorem r_limit_any {w : World} {p g cap : Nat} {c : CF} {l : List Int} (h : Rol w p g cap c l) (hl : 1 ≤ l.length) (x v : Int) (e : limP c (headP l) x = v) :
    Calls Try.prog 56 #[.pointer (some ⟨p, 0, none⟩), .int .i64 x] w fun e w' => e = .returned (.int .i64 v) ∧ Gr w w' := by
  have hh : ∀ w', Gr w w' → w'.cell? ⟨g, 0, none⟩ = some (.int .i64 (headP l)) := fun w' r => by rw [own_cell (h.on r).own (j := 0) (by omega), headP_getD]
  have el : limP c (headP l) x = min (max (min (max x (loB c (headP l))) (hiB c (headP l))) c.lo) c.hi := rfl
  rw [e] at el
  have EL := Lib.hid el; clear el e
  have hbd := r_bounds_any c (headP l)
  generalize loB c (headP l) = L at *
  generalize hiB c (headP l) = U at *
  generalize headP l = hd at *
  have hpos : 0 < l.length := hl
  go_enter Try.func56, Try.ntmps56
  go_upto_region 1 with (fail)
  refine wp_region_quiet_gw (by kernel_rfl) (by kernel_rfl) ?_
  have hk := fun s : Gw w => (h.on s.gr).conf
  have hc := fun s : Gw w => (h.on s.gr).cell
  have hb := fun s : Gw w => hh s.val s.gr
  repeat (go_big_quiet_step (first | (go_at_call 54; exact q_gr (hbd _))))
  refine wpQuiet_nil fun s => ?_
  clear hk hb hbd hc hh
  have G := s.gr
  replace h := h.on G
  generalize s.val = w2 at *
  go_upto_region 2 with (fail)
  refine wp_region_quiet_gw (by kernel_rfl) (by kernel_rfl) ?_
  have hc := fun s : Gw w2 => (h.on s.gr).cell
  repeat (go_big_quiet_step (fail))
  refine wpQuiet_nil fun s => ?_
  replace G := G.trans s.gr
  clear hc h
  go_wp2
  all_goals
    go_ret
    refine ⟨ret_int ?_, G⟩
    rw [EL.out]

set_option maxHeartbeats 1000000 in
theorem sameInts_any (A B : Option Addr) (n m c d : Nat) (xs ys : List Int) (w : World) (hx : RI w A n xs) (hy : RI w B m ys) (e : xs = ys) :
    Calls Try.prog 58 #[.slice A n c, .slice B m d] w fun e w' => e = .returned (.bool true) ∧ Gr w w' := by
  subst e
  have e1 := hx.1
  have e2 := hy.1
  obtain rfl : n = m := by omega
  have hbig := hx.2.1
  have HX := Lib.hid hx
  have HY := Lib.hid hy
  clear hx hy
  go_enter Try.func58, Try.ntmps58
  go_wp2_with fail
  go_loopw [5] (fun i wr => ∃ k : Nat, k ≤ n ∧ i = .int .i64 k ∧ Gr w wr) (fun i _ => n - (intOf i).toNat)
  case atStart => exact ⟨0, by omega, rfl, Gr.refl _⟩
  case round =>
    obtain ⟨k, hk, rfl, G⟩ := hrel
    by_cases q : k < n
    · obtain ⟨a1, rfl, h1⟩ := HX.out.at_ q
      obtain ⟨a2, rfl, h2⟩ := HY.out.at_ q
      generalize xs.getD k 0 = y at *
      have h1' : ∀ s : Gw wr, s.val.cell? (a1.add k) = some (.int .i64 y) := fun s => (G.trans s.gr).cell_some h1
      have h2' : ∀ s : Gw wr, s.val.cell? (a2.add k) = some (.int .i64 y) := fun s => (G.trans s.gr).cell_some h2
      clear h1 h2
      go_upto_region 6 with (fail)
      refine wp_region_quiet_gw (by kernel_rfl) (by kernel_rfl) ?_
      repeat (go_big_quiet_step (fail))
      refine wpQuiet_nil fun s => ?_
      replace G := G.trans s.gr
      clear h1' h2'
      go_wp2
      go_roundw
      case rel => exact ⟨k + 1, by omega, by first | rfl | go_num, G⟩
      case measure => simp [intOf]; omega
    · go_wp2
      go_ret
      exact ⟨rfl, G⟩
end Go.Proofs.Ytjobicffdcnnlaa
/- The document's policy: last, Put. -/
namespace Go.Proofs.Ytjobicffdcnnlaa
open Go.RowKit
set_option linter.unusedSimpArgs false
set_option linter.unusedVariables false
set_option maxRecDepth 100000

/-- The last of a row's counts: the same row, from further on. -/
theorem last_any (g n cap : Nat) (P : Nat) (w : World) (hn : 1 ≤ n) (hn2 : n ≤ 2000) (hP : 1 ≤ P) (hP2 : P ≤ 2000) (hc : n ≤ cap) (hcm : cap ≤ maxLen) :
    Calls Try.prog 91 #[.slice (some ⟨g, 0, none⟩) n cap, .int .i64 (P : Int)] w fun e w' => e = .returned (.slice (some ⟨g, n - P, none⟩) (n - (n - P)) (cap - (n - P))) ∧ w = w' := by
  have eD : (max ((n : Int) - (P : Int)) 0).toNat = n - P := by omega
  unfold maxLen at hcm
  go_enter Try.func91, Try.ntmps91
  go_wp2
  all_goals
    go_ret
    refine ⟨?_, rfl⟩
    try rw [eD]
    try rfl
end Go.Proofs.Ytjobicffdcnnlaa
/- The document's policy: its slice may begin within its row; Put. -/
namespace Go.Proofs.Ytjobicffdcnnlaa
open Go.RowKit
set_option linter.unusedSimpArgs false
set_option linter.unusedVariables false
set_option maxRecDepth 100000

/-- A policy of the document's: its block p, its counts in row g from off on. -/
structure RX (w : World) (p g off cap : Nat) (c : CF) (l : List Int) : Prop where
  box : w.heap[p]? = some (.cells #[.int .i64 c.n, .int .i64 c.f, .int .i64 c.m, .int .i64 c.q, .int .i64 c.fresh, .int .i64 c.grace, .int .i64 c.window, .int .i64 c.t0, .int .i64 c.t1, .int .i64 c.t2, .int .i64 c.t3, .int .i64 c.tol, .int .i64 c.lo, .int .i64 c.hi, .int .i64 c.cup, .int .i64 c.cdn, .int .i64 c.pup, .int .i64 c.tup, .int .i64 c.pdn, .int .i64 c.tdn, .int .i64 c.per, .int .i64 c.far, .int .i64 c.str, .int .i64 c.pro, .int .i64 c.sec, .int .u64 c.seed, .slice (some ⟨g, off, none⟩) l.length cap] 62)
  row : ∀ j, j < l.length → w.cell? ⟨g, off + j, none⟩ = some (.int .i64 (l.getD j 0))
  glt : g < w.heap.size
  ne : p ≠ g
theorem RX.of {w : World} {p g cap : Nat} {c : CF} {l : List Int} (h : Rol w p g cap c l) : RX w p g 0 cap c l :=
  ⟨h.box, fun j hj => by rw [Nat.zero_add]; exact own_cell h.own hj, h.glt, h.ne⟩
theorem RX.lt {w : World} {p g off cap : Nat} {c : CF} {l : List Int} (h : RX w p g off cap c l) : p < w.heap.size := (Array.getElem?_eq_some_iff.1 h.box).1
theorem RX.cell {w : World} {p g o cap : Nat} {c : CF} {l : List Int} (h : RX w p g o cap c l) (off : Nat) : w.cell? ⟨p, off, none⟩ = rolAt c (.slice (some ⟨g, o, none⟩) l.length cap) off := by
  simp [World.cell?, h.box, rolAt]
theorem RX.froz {w : World} {p g o cap : Nat} {c : CF} {l : List Int} (h : RX w p g o cap c l) (off : Nat) : w.frozen? ⟨p, off, none⟩ = false := frozen_in h.box
theorem RX.conf {w : World} {p g o cap : Nat} {c : CF} {l : List Int} (h : RX w p g o cap c l) : confIn? w ⟨p, 0, none⟩ = some #[.int .i64 c.n, .int .i64 c.f, .int .i64 c.m, .int .i64 c.q, .int .i64 c.fresh, .int .i64 c.grace, .int .i64 c.window, .int .i64 c.t0, .int .i64 c.t1, .int .i64 c.t2, .int .i64 c.t3, .int .i64 c.tol, .int .i64 c.lo, .int .i64 c.hi, .int .i64 c.cup, .int .i64 c.cdn, .int .i64 c.pup, .int .i64 c.tup, .int .i64 c.pdn, .int .i64 c.tdn, .int .i64 c.per, .int .i64 c.far, .int .i64 c.str, .int .i64 c.pro, .int .i64 c.sec, .int .u64 c.seed] := by
  unfold confIn?
  rw [h.box]
  show (if _ then _ else _) = _
  rw [if_pos ⟨rfl, rfl, Or.inr rfl, by show 26 ≤ 27; omega⟩]
  kernel_rfl
theorem RX.on {w w' : World} {p g o cap : Nat} {c : CF} {l : List Int} (h : RX w p g o cap c l) (r : Gr w w') : RX w' p g o cap c l :=
  ⟨r.block h.box, fun j hj => r.cell_some (h.row j hj), Nat.lt_of_lt_of_le h.glt r.size, h.ne⟩
theorem RX.other {w w' : World} {p g o cap : Nat} {c : CF} {l : List Int} {q r : Nat} (h : RX w p g o cap c l) (t : Tc q r w w') (h1 : p ≠ q) (h2 : p ≠ r) (h3 : g ≠ q) (h4 : g ≠ r) : RX w' p g o cap c l :=
  ⟨(t.block p h.lt h1 h2).trans h.box, fun j hj => (World.cell?_of_block (a := ⟨g, o + j, none⟩) (t.block g h.glt h3 h4)).trans (h.row j hj), Nat.lt_of_lt_of_le h.glt t.size, h.ne⟩

set_option maxHeartbeats 2000000 in
theorem x_limit_any {w : World} {p g o cap : Nat} {c : CF} {l : List Int} (h : RX w p g o cap c l) (hl : 1 ≤ l.length) (x v : Int) (e : limP c (headP l) x = v) :
    Calls Try.prog 56 #[.pointer (some ⟨p, 0, none⟩), .int .i64 x] w fun e w' => e = .returned (.int .i64 v) ∧ Gr w w' := by
  have hh : ∀ w', Gr w w' → w'.cell? ⟨g, o, none⟩ = some (.int .i64 (headP l)) := fun w' r => by
    have := (h.on r).row 0 (by omega)
    rw [Nat.add_zero] at this
    rw [this, headP_getD]
  have el : limP c (headP l) x = min (max (min (max x (loB c (headP l))) (hiB c (headP l))) c.lo) c.hi := rfl
  rw [e] at el
  have EL := Lib.hid el; clear el e
  have hbd := r_bounds_any c (headP l)
  generalize loB c (headP l) = L at *
  generalize hiB c (headP l) = U at *
  generalize headP l = hd at *
  have hpos : 0 < l.length := hl
  go_enter Try.func56, Try.ntmps56
  go_upto_region 1 with (fail)
  refine wp_region_quiet_gw (by kernel_rfl) (by kernel_rfl) ?_
  have hk := fun s : Gw w => (h.on s.gr).conf
  have hc := fun s : Gw w => (h.on s.gr).cell
  have hb := fun s : Gw w => hh s.val s.gr
  repeat (go_big_quiet_step (first | (go_at_call 54; exact q_gr (hbd _))))
  refine wpQuiet_nil fun s => ?_
  clear hk hb hbd hc hh
  have G := s.gr
  replace h := h.on G
  generalize s.val = w2 at *
  go_upto_region 2 with (fail)
  refine wp_region_quiet_gw (by kernel_rfl) (by kernel_rfl) ?_
  have hc := fun s : Gw w2 => (h.on s.gr).cell
  repeat (go_big_quiet_step (fail))
  refine wpQuiet_nil fun s => ?_
  replace G := G.trans s.gr
  clear hc h
  go_wp2
  all_goals
    go_ret
    refine ⟨ret_int ?_, G⟩
    rw [EL.out]
theorem x_put_no {w : World} {p g o cap : Nat} {c : CF} {l : List Int} (h : RX w p g o cap c l) (n : Int) (hn : putB c n = false) :
    Calls Try.prog 57 #[.pointer (some ⟨p, 0, none⟩), .int .i64 n] w fun e w' => e = .returned (.int .i64 1) ∧ w = w' := by
  have hc := h.cell
  have hb : ¬ (c.lo ≤ n ∧ n ≤ c.hi) := by unfold putB at hn; simpa using hn
  clear h hn
  by_cases h0 : c.lo ≤ n
  all_goals
    go_enter Try.func57, Try.ntmps57
    go_wp2
    go_ret
    exact ⟨rfl, rfl⟩
/-- Some numbers more on a row. -/
theorem step_apps {ops : Array Oper} {Q : Exit → Act → World → Prop} {i : Nat} {o : Oper} {a : Act} {w : World} {K : Act → World → Prop} {l ys : List Int} {v : Value} {B : Nat} (t : Nat) (hi : ops[i]? = some o) (hd : o.dst = some t) (hw : Region.wanted o (yielded ops a.tmps) = true)
    (s x : Operand) (ho : o.op = .call { callee := .builtin .append, args := #[s, x], argTypes := #[45, 45] }) (hs : a.eval s = v) (sb so m c : Nat) (hx : a.eval x = .slice (some ⟨sb, so, none⟩) m c) (hm : ys.length = m) (hm1 : 1 ≤ m) (hc : ∀ j, j < ys.length → w.cell? ⟨sb, so + j, none⟩ = some (.int .i64 (ys.getD j 0)))
    (hown : w.ownsRow B 3 1 v l.length (l.map (.int .i64))) (hl : l.length + m ≤ 2000) (hB : B ≤ w.heap.size)
    (k : ∀ g cap w', w'.ownsRow g 3 1 (.slice (some ⟨g, 0, none⟩) (l.length + m) cap) (l ++ ys).length ((l ++ ys).map (.int .i64)) → w.grownBy w' v.ownBlock → (v.ownBlock = some g ∨ g = w.heap.size) → g < w'.heap.size →
      K (a.put (some t) (.slice (some ⟨g, 0, none⟩) (l.length + m) cap)) w') : wpOp Try.prog ops Q i K a w := by
  obtain ⟨i0, hi0, hz0, hz1, hz2⟩ := info_parts info3
  refine wpOp_wp hi hw (wp_append_lies w s x 45 ho B 3 i0 (.int .i64 0) 1 8 Try.underlying45 hi0 hz0 hz1 hz2 rfl (by decide) v l.length (l.map (.int .i64)) hs hown ⟨sb, so, none⟩ m c (ys.map (.int .i64)) hx (by simp [hm]) (fun j u hj => ?_) (fun u hu => ?_) (by omega) (by unfold maxLen; omega) (by omega) hB _ rfl fun g cap w' h1 h2 h3 h4 => ?_)
  · have hjl : j < ys.length := by
      have := (List.getElem?_eq_some_iff.1 hj).1
      simpa using this
    rw [Addr.add_lit, hc j hjl, ← hj]
    simp [List.getD_eq_getElem?_getD, List.getElem?_eq_getElem hjl]
  · obtain ⟨y, _, rfl⟩ := List.mem_map.1 hu
    rfl
  · rw [hd]
    refine k g cap w' ?_ h2 h3 h4
    have e : (l ++ ys).length = l.length + m := by simp [hm]
    rw [e]
    exact own_re (by simpa using h1)
theorem wpAnyT_all {P : Program} {ops : Array Oper} {md : Region.Mode} {C : World → Prop} {Q : Exit → Act → World → Prop} {tl : Nat → Bool} {rs : List Nat} {fuel : Nat} {listed : Array Bool} {a : Act} {w : World} (hr : Region.ready md ops listed = rs) (hne : rs ≠ [])
    (h : ∀ i ∈ rs, wpOp P ops Q i (fun a' w' => (tl i = false → C w') ∧ wpAnyT P md ops Q C tl fuel (listed.setIfInBounds i true) a' w') a w) : wpAnyT P md ops Q C tl (fuel + 1) listed a w :=
  ⟨fun h0 => absurd (hr ▸ h0) hne, hr ▸ h⟩
end Go.Proofs.Ytjobicffdcnnlaa
/- The document's policy: Put. -/
namespace Go.Proofs.Ytjobicffdcnnlaa
open Go.RowKit
set_option linter.unusedSimpArgs false
set_option linter.unusedVariables false
set_option maxRecDepth 100000

theorem wp_region_readsT {P : Program} {Q : Exit → Act → World → Prop} {id : Nat} {a : Act} {w : World} {l : List Oper} (C : World → Prop) (T R : List Nat) (fuel : Nat) (hm : P.follows .mixedOrders = true) (hsel : Region.noSelect l.toArray = true)
    (hB : schR .any l.toArray R (Array.replicate l.toArray.size false) = true) (ht : tailB .any l.toArray T R = true) (hn : fuel + R.length = l.toArray.size)
    (hQ : ∀ d v c a w, Q (.panic c) (Act.put a d v) w → Q (.panic c) a w) (hC : C { w with drawn := w.drawn + 1 })
    (h : wpQuiet P l.toArray C (fun a' => wpAnyT P .any l.toArray Q C (inT T) fuel (setAll R (Array.replicate l.toArray.size false)) a' { w with drawn := w.drawn + 1 }) (R.filterMap fun i => l.toArray[i]?) a) : (Code.region id l.toArray true).wp P Q a w := by
  refine wp_region_any hm ?_
  have := wpAny_of_T _ _ _ _ (reads_soundT (md := .any) (T := T) hsel hQ hC R _ a hB ht h (fun a' h' => h'))
  rwa [hn] at this
theorem run_store45 {a : Act} {x y : Operand} {o : Oper} {w : World} {p off : Nat} {A : Option Addr} {n c : Nat} {u : Value} (ho : o.op = .store 45 x y) (hp : a.eval x = .pointer (some ⟨p, off, none⟩)) (hv : a.eval y = .slice A n c)
    (hc : w.cell? ⟨p, off, none⟩ = some u) (hz : w.frozen? ⟨p, off, none⟩ = false) : (execOp a.eval o).run Try.prog w = .ok .skip (w.setCell ⟨p, off, none⟩ (.slice A n c)) := by
  unfold execOp
  rw [ho]
  show (do Instr.storeAt 45 (a.eval x) (a.eval y); pure Next.skip : Sem Next).run Try.prog w = _
  rw [hp, hv]
  simp [Instr.storeAt, go_sem, hc, hz]
theorem cell_one {w : World} {s : Nat} {n : Int} (h : w.cell? ⟨s, 0, none⟩ = some (.int .i64 n)) : ∀ j, j < [n].length → w.cell? ⟨s, 0 + j, none⟩ = some (.int .i64 ([n].getD j 0)) := fun j hj => by
  obtain rfl : j = 0 := by simpa using hj
  exact h
theorem wpOp_skipT {P : Program} {ops : Array Oper} {Q : Exit → Act → World → Prop} {i : Nat} {o : Oper} {a : Act} {w : World} {K : Act → World → Prop} (w1 : World) (hi : ops[i]? = some o) (hd : o.dst = none) (hw : Region.wanted o (yielded ops a.tmps) = true)
    (h : (execOp a.eval o).run P w = .ok .skip w1) (k : K a w1) : wpOp P ops Q i K a w :=
  wpOp_skip w1 hi hw h (by rw [hd]; exact k)
theorem wpOp_madeT {P : Program} {ops : Array Oper} {Q : Exit → Act → World → Prop} {W w : World} {i : Nat} {o : Oper} {a : Act} {K : Act → World → Prop} {tl : Nat → Bool} (t : Nat) (v : Value) (w1 : World) (hi : ops[i]? = some o) (hd : o.dst = some t) (hw : Region.wanted o (yielded ops a.tmps) = true)
    (h : (execOp a.eval o).run P w = .ok (.value v) w1) (hG : Gr W w1) (k : K (a.put (some t) v) w1) : wpOp P ops Q i (fun a' w' => (tl i = false → ∃ s : Gw W, w' = s.val) ∧ K a' w') a w :=
  wpOp_value v w1 hi hw h (by rw [hd]; exact ⟨fun _ => hG.in_, k⟩)

set_option maxHeartbeats 8000000 in
theorem x_put_ok {w : World} {p g o cap : Nat} {c : CF} {l : List Int} (h : RX w p g o cap c l) (hl : 1 ≤ l.length) (hm : l.length ≤ 1000) (r : Rts c) (n : Int) (hn : putB c n = true) :
    Calls Try.prog 57 #[.pointer (some ⟨p, 0, none⟩), .int .i64 n] w fun e w' => ∃ g' o' cap', e = .returned (.int .i64 0) ∧ RX w' p g' o' cap' c (putP c l n) ∧ Tc p p w w' ∧ w.heap.size ≤ g' := by
  have hc := h.cell
  have hb : c.lo ≤ n ∧ n ≤ c.hi := by unfold putB at hn; simpa using hn
  have hb0 := hb.1
  have hb1 := hb.2
  clear hn hb
  have p0 := r.per0
  have p1 := r.per1
  obtain ⟨P, hP⟩ : ∃ P : Nat, c.per = (P : Int) := ⟨c.per.toNat, by omega⟩
  have hPn : c.per.toNat = P := by omega
  rw [hP] at p0 p1
  clear r
  go_enter Try.func57, Try.ntmps57
  go_upto_region 3 with (fail)
  have hcs : ∀ s : Gw w, ∀ off, s.val.cell? ⟨p, off, none⟩ = rolAt c (.slice (some ⟨g, o, none⟩) l.length cap) off := fun s => (h.on s.gr).cell
  clear hc
  refine wp_region_readsT (fun w' => ∃ s : Gw w, w' = s.val) [18] [0, 2, 3, 4, 5, 7, 10, 11, 12, 13, 14] 8 (by kernel_rfl) (by as_aux_lemma => kernel_rfl) (by as_aux_lemma => kernel_rfl) (by as_aux_lemma => kernel_rfl) (by kernel_rfl) (fun d v c a w h => by cases d <;> exact h) (Gr.fresh w).in_ ?_
  simp only [List.filterMap_cons, List.filterMap_nil, List.getElem?_toArray, List.getElem?_cons_succ, List.getElem?_cons_zero]
  show wpQuiet _ _ _ _ [_, _, _, _, _, _, _, _, _, _, _] _
  repeat (go_big_quiet_step (fail))
  refine wpQuiet_nil ?_
  have G := Gr.fresh w
  generalize hw1 : ({ w with drawn := w.drawn + 1 } : World) = x1 at *
  have hx1 : x1.heap.size = w.heap.size := by rw [← hw1]
  clear hw1 hcs
  refine wpAnyT_all (fuel := 7) (rs := [1, 8]) (by kernel_rfl) (by simp) ?_
  intro i hi
  rcases (show i = 1 ∨ i = 8 by simpa using hi) with rfl | rfl
  · as_aux_lemma =>
      refine wpOp_madeT 22 (.slice (some ⟨x1.heap.size, 0, none⟩) 0 0) (x1.alloc (.cells #[] 3)) rfl rfl rfl (by kernel_rfl) (G.alloc _) ?_
      have gr1 : Gr x1 (x1.alloc (.cells #[] 3)) := (Gr.refl _).alloc _
      have O1 : (x1.alloc (.cells #[] 3)).ownsRow x1.heap.size 3 1 (.slice (some ⟨x1.heap.size, 0, none⟩) 0 0) ([] : List Int).length (([] : List Int).map (.int .i64)) := World.ownsRow_made x1 #[] 0 (Nat.le_refl _) (Nat.zero_le _) rfl
      have z1 : x1.heap.size < (x1.alloc (.cells #[] 3)).heap.size := by simp
      replace G := G.trans gr1
      generalize x1.alloc (.cells #[] 3) = x2 at *
      obtain ⟨s1, es1⟩ : ∃ s, s = x1.heap.size := ⟨_, rfl⟩
      rw [← es1] at O1 ⊢
      simp only [Act.put, List.setIfInBounds_toArray, List.set_cons_succ, List.set_cons_zero]
      refine wpAnyT_all (fuel := 6) (rs := [6, 8]) (by kernel_rfl) (by simp) ?_
      intro i hi
      rcases (show i = 6 ∨ i = 8 by simpa using hi) with rfl | rfl
      · as_aux_lemma =>
          refine step_apps (l := []) (ys := l) 27 rfl rfl rfl (.tmp 22) (.tmp 26) rfl rfl g o l.length cap rfl rfl hl (fun j hj => G.cell_some (h.row j hj)) O1 (by simp; omega) (by omega) fun g6 c6 x3 hown hgrow hat hlt => ?_
          have gr6 : Gr w x3 := ⟨G.out.grown hgrow G.size (fun k hk => by have : k = s1 := (Option.some.inj hk).symm; omega)⟩
          have sz6 := hgrow.size
          have f6 : w.heap.size ≤ g6 := hat.elim (fun e => by have : s1 = g6 := Option.some.inj e; omega) (fun e => by omega)
          have n6 : g6 < x2.heap.size + 1 := hat.elim (fun e => by have : s1 = g6 := Option.some.inj e; omega) (fun e => by omega)
          refine ⟨fun _ => gr6.in_, ?_⟩
          replace G := gr6
          have O6 := hown
          clear hown hgrow hat O1
          simp only [Act.put, List.setIfInBounds_toArray, List.set_cons_succ, List.set_cons_zero]
          refine wpAnyT_all (fuel := 5) (rs := [8]) (by kernel_rfl) (by simp) ?_
          intro i hi
          obtain rfl : i = 8 := by simpa using hi
          refine wpOp_madeT 29 (.slice (some ⟨x3.heap.size, 0, none⟩) 1 1) (x3.alloc (.cells #[.int .i64 n] 3)) rfl rfl rfl (by kernel_rfl) (G.alloc _) ?_
          have gr8 : Gr x3 (x3.alloc (.cells #[.int .i64 n] 3)) := (Gr.refl _).alloc _
          have c8 : (x3.alloc (.cells #[.int .i64 n] 3)).cell? ⟨x3.heap.size, 0, none⟩ = some (.int .i64 n) := cell_in (heap_new rfl) rfl
          have z8 : x3.heap.size < (x3.alloc (.cells #[.int .i64 n] 3)).heap.size := by simp
          replace O6 := O6.kept gr8.grown (none_or _)
          replace G := G.trans gr8
          generalize x3.alloc (.cells #[.int .i64 n] 3) = x4 at *
          obtain ⟨s8, es8⟩ : ∃ s, s = x3.heap.size := ⟨_, rfl⟩
          rw [← es8] at c8 ⊢
          simp only [Act.put, List.setIfInBounds_toArray, List.set_cons_succ, List.set_cons_zero]
          refine wpAnyT_all (fuel := 4) (rs := [9]) (by kernel_rfl) (by simp) ?_
          intro i hi
          obtain rfl : i = 9 := by simpa using hi
          refine step_apps (l := [] ++ l) (ys := [n]) 30 rfl rfl rfl (.tmp 27) (.tmp 29) rfl rfl s8 0 1 1 rfl rfl (Nat.le_refl _) (cell_one c8) O6 (by simp; omega) (by omega) fun g9 c9 x5 hown hgrow hat hlt9 => ?_
          have gr9 : Gr w x5 := ⟨G.out.grown hgrow G.size (fun k hk => by have : k = g6 := (Option.some.inj hk).symm; omega)⟩
          have sz9 := hgrow.size
          have f9 : w.heap.size ≤ g9 := hat.elim (fun e => by have : g6 = g9 := Option.some.inj e; omega) (fun e => by have := G.size; omega)
          refine ⟨fun _ => gr9.in_, ?_⟩
          have G9 := gr9
          have O9 := hown
          clear hown hgrow hat O6 c8 G gr9
          simp only [Act.put, List.setIfInBounds_toArray, List.set_cons_succ, List.set_cons_zero]
          simp only [List.nil_append, List.length_nil, Nat.zero_add] at O9 ⊢
          have eN : (l ++ [n]).length = l.length + 1 := by simp
          rw [eN] at O9
          obtain ⟨cur, q1, q2, q3, _⟩ := own_block O9
          have eL : putP c l n = (l ++ [n]).drop (l.length + 1 - P) := by unfold putP; rw [hPn]
          obtain ⟨N, hN⟩ : ∃ N, l.length + 1 = N := ⟨_, rfl⟩
          rw [hN] at O9 q2 eL eN ⊢
          refine wpAnyT_all (fuel := 3) (rs := [15]) (by kernel_rfl) (by simp) ?_
          intro i hi
          obtain rfl : i = 15 := by simpa using hi
          refine wpOp_to (R := fun v w' => v = .slice (some ⟨g9, N - P, none⟩) (N - (N - P)) (c9 - (N - P)) ∧ x5 = w') 36 91 #[.slice (some ⟨g9, 0, none⟩) N c9, .int .i64 (P : Int)] rfl rfl rfl (by kernel_rfl) ((last_any g9 N c9 P x5 (by omega) (by omega) (by omega) (by omega) q2 q3).mono fun e w' ⟨r1, r2⟩ => ⟨_, r1, rfl, r2⟩) fun v w' hv => ⟨fun _ => by rw [← hv.2]; exact G9.in_, ?_⟩
          obtain ⟨rfl, rfl⟩ := hv
          simp only [Act.put, List.setIfInBounds_toArray, List.set_cons_succ, List.set_cons_zero]
          refine wpAnyT_all (fuel := 2) (rs := [16]) (by kernel_rfl) (by simp) ?_
          intro i hi
          obtain rfl : i = 16 := by simpa using hi
          refine wpOp_madeT 37 (.pointer (some ⟨p, 0, none⟩)) x5 rfl rfl rfl (by kernel_rfl) G9 ?_
          simp only [Act.put, List.setIfInBounds_toArray, List.set_cons_succ, List.set_cons_zero]
          refine wpAnyT_all (fuel := 1) (rs := [17]) (by kernel_rfl) (by simp) ?_
          intro i hi
          obtain rfl : i = 17 := by simpa using hi
          refine wpOp_madeT 38 (.pointer (some ⟨p, 26, none⟩)) x5 rfl rfl rfl (by kernel_rfl) G9 ?_
          simp only [Act.put, List.setIfInBounds_toArray, List.set_cons_succ, List.set_cons_zero]
          refine wpAnyT_all (fuel := 0) (rs := [18]) (by kernel_rfl) (by simp) ?_
          intro i hi
          obtain rfl : i = 18 := by simpa using hi
          refine wpOp_skipT _ rfl rfl rfl (run_store45 rfl rfl rfl (((h.on G9).cell 26).trans (rolAt_26 _ _)) ((h.on G9).froz 26)) ⟨fun h' => absurd h' (by decide), ⟨by kernel_rfl, ?_⟩⟩
          have H9 := h.on G9
          have hpl := h.lt
          have hpg : p ≠ g9 := by omega
          have hlen : (putP c l n).length = N - (N - P) := by rw [eL, List.length_drop, eN]
          have HX : RX (World.setCell x5 ⟨p, 26, none⟩ (.slice (some ⟨g9, N - P, none⟩) (N - (N - P)) (c9 - (N - P)))) p g9 (N - P) (c9 - (N - P)) c (putP c l n) := by
            refine ⟨?_, fun j hj => ?_, ?_, hpg⟩
            · rw [hlen]; exact set_block H9.box
            · rw [hlen] at hj
              refine (World.cell?_setCell_other _ ⟨p, 26, none⟩ ⟨g9, N - P + j, none⟩ _ (by intro e; simp at e <;> omega)).trans ?_
              rw [own_cell O9 (by omega), eL]
              simp [List.getD_eq_getElem?_getD]
            · simp [World.setCell]; exact own_lt O9
          have TX : Tc p p w (World.setCell x5 ⟨p, 26, none⟩ (.slice (some ⟨g9, N - P, none⟩) (N - (N - P)) (c9 - (N - P)))) := (Tc.of_gr G9).trans (Tc.cellp p p 26 _ _)
          clear H9 O9 q1 q2 q3 h G9
          go_wp2
          go_ret
          exact ⟨g9, _, _, rfl, HX, TX, f9⟩
      · as_aux_lemma =>
          refine wpOp_madeT 29 (.slice (some ⟨x2.heap.size, 0, none⟩) 1 1) (x2.alloc (.cells #[.int .i64 n] 3)) rfl rfl rfl (by kernel_rfl) (G.alloc _) ?_
          have gr8 : Gr x2 (x2.alloc (.cells #[.int .i64 n] 3)) := (Gr.refl _).alloc _
          have c8 : (x2.alloc (.cells #[.int .i64 n] 3)).cell? ⟨x2.heap.size, 0, none⟩ = some (.int .i64 n) := cell_in (heap_new rfl) rfl
          have z8 : x2.heap.size < (x2.alloc (.cells #[.int .i64 n] 3)).heap.size := by simp
          replace O1 := O1.kept gr8.grown (none_or _)
          replace G := G.trans gr8
          generalize x2.alloc (.cells #[.int .i64 n] 3) = x3 at *
          obtain ⟨s8, es8⟩ : ∃ s, s = x2.heap.size := ⟨_, rfl⟩
          rw [← es8] at c8 ⊢
          simp only [Act.put, List.setIfInBounds_toArray, List.set_cons_succ, List.set_cons_zero]
          refine wpAnyT_all (fuel := 5) (rs := [6]) (by kernel_rfl) (by simp) ?_
          intro i hi
          obtain rfl : i = 6 := by simpa using hi
          refine step_apps (l := []) (ys := l) 27 rfl rfl rfl (.tmp 22) (.tmp 26) rfl rfl g o l.length cap rfl rfl hl (fun j hj => G.cell_some (h.row j hj)) O1 (by simp; omega) (by omega) fun g6 c6 x4 hown hgrow hat hlt => ?_
          have gr6 : Gr w x4 := ⟨G.out.grown hgrow G.size (fun k hk => by have : k = s1 := (Option.some.inj hk).symm; omega)⟩
          replace c8 := hgrow.cell c8 (fun e => by have : s8 = s1 := Option.some.inj e; omega)
          have sz6 := hgrow.size
          have f6 : w.heap.size ≤ g6 := hat.elim (fun e => by have : s1 = g6 := Option.some.inj e; omega) (fun e => by omega)
          have n6 : g6 ≠ s8 := hat.elim (fun e => by have : s1 = g6 := Option.some.inj e; omega) (fun e => by omega)
          refine ⟨fun _ => gr6.in_, ?_⟩
          replace G := gr6
          have O6 := hown
          clear hown hgrow hat O1
          simp only [Act.put, List.setIfInBounds_toArray, List.set_cons_succ, List.set_cons_zero]
          refine wpAnyT_all (fuel := 4) (rs := [9]) (by kernel_rfl) (by simp) ?_
          intro i hi
          obtain rfl : i = 9 := by simpa using hi
          refine step_apps (l := [] ++ l) (ys := [n]) 30 rfl rfl rfl (.tmp 27) (.tmp 29) rfl rfl s8 0 1 1 rfl rfl (Nat.le_refl _) (cell_one c8) O6 (by simp; omega) (by omega) fun g9 c9 x5 hown hgrow hat hlt9 => ?_
          have gr9 : Gr w x5 := ⟨G.out.grown hgrow G.size (fun k hk => by have : k = g6 := (Option.some.inj hk).symm; omega)⟩
          have sz9 := hgrow.size
          have f9 : w.heap.size ≤ g9 := hat.elim (fun e => by have : g6 = g9 := Option.some.inj e; omega) (fun e => by have := G.size; omega)
          refine ⟨fun _ => gr9.in_, ?_⟩
          have G9 := gr9
          have O9 := hown
          clear hown hgrow hat O6 c8 G gr9
          simp only [Act.put, List.setIfInBounds_toArray, List.set_cons_succ, List.set_cons_zero]
          simp only [List.nil_append, List.length_nil, Nat.zero_add] at O9 ⊢
          have eN : (l ++ [n]).length = l.length + 1 := by simp
          rw [eN] at O9
          obtain ⟨cur, q1, q2, q3, _⟩ := own_block O9
          have eL : putP c l n = (l ++ [n]).drop (l.length + 1 - P) := by unfold putP; rw [hPn]
          obtain ⟨N, hN⟩ : ∃ N, l.length + 1 = N := ⟨_, rfl⟩
          rw [hN] at O9 q2 eL eN ⊢
          refine wpAnyT_all (fuel := 3) (rs := [15]) (by kernel_rfl) (by simp) ?_
          intro i hi
          obtain rfl : i = 15 := by simpa using hi
          refine wpOp_to (R := fun v w' => v = .slice (some ⟨g9, N - P, none⟩) (N - (N - P)) (c9 - (N - P)) ∧ x5 = w') 36 91 #[.slice (some ⟨g9, 0, none⟩) N c9, .int .i64 (P : Int)] rfl rfl rfl (by kernel_rfl) ((last_any g9 N c9 P x5 (by omega) (by omega) (by omega) (by omega) q2 q3).mono fun e w' ⟨r1, r2⟩ => ⟨_, r1, rfl, r2⟩) fun v w' hv => ⟨fun _ => by rw [← hv.2]; exact G9.in_, ?_⟩
          obtain ⟨rfl, rfl⟩ := hv
          simp only [Act.put, List.setIfInBounds_toArray, List.set_cons_succ, List.set_cons_zero]
          refine wpAnyT_all (fuel := 2) (rs := [16]) (by kernel_rfl) (by simp) ?_
          intro i hi
          obtain rfl : i = 16 := by simpa using hi
          refine wpOp_madeT 37 (.pointer (some ⟨p, 0, none⟩)) x5 rfl rfl rfl (by kernel_rfl) G9 ?_
          simp only [Act.put, List.setIfInBounds_toArray, List.set_cons_succ, List.set_cons_zero]
          refine wpAnyT_all (fuel := 1) (rs := [17]) (by kernel_rfl) (by simp) ?_
          intro i hi
          obtain rfl : i = 17 := by simpa using hi
          refine wpOp_madeT 38 (.pointer (some ⟨p, 26, none⟩)) x5 rfl rfl rfl (by kernel_rfl) G9 ?_
          simp only [Act.put, List.setIfInBounds_toArray, List.set_cons_succ, List.set_cons_zero]
          refine wpAnyT_all (fuel := 0) (rs := [18]) (by kernel_rfl) (by simp) ?_
          intro i hi
          obtain rfl : i = 18 := by simpa using hi
          refine wpOp_skipT _ rfl rfl rfl (run_store45 rfl rfl rfl (((h.on G9).cell 26).trans (rolAt_26 _ _)) ((h.on G9).froz 26)) ⟨fun h' => absurd h' (by decide), ⟨by kernel_rfl, ?_⟩⟩
          have H9 := h.on G9
          have hpl := h.lt
          have hpg : p ≠ g9 := by omega
          have hlen : (putP c l n).length = N - (N - P) := by rw [eL, List.length_drop, eN]
          have HX : RX (World.setCell x5 ⟨p, 26, none⟩ (.slice (some ⟨g9, N - P, none⟩) (N - (N - P)) (c9 - (N - P)))) p g9 (N - P) (c9 - (N - P)) c (putP c l n) := by
            refine ⟨?_, fun j hj => ?_, ?_, hpg⟩
            · rw [hlen]; exact set_block H9.box
            · rw [hlen] at hj
              refine (World.cell?_setCell_other _ ⟨p, 26, none⟩ ⟨g9, N - P + j, none⟩ _ (by intro e; simp at e <;> omega)).trans ?_
              rw [own_cell O9 (by omega), eL]
              simp [List.getD_eq_getElem?_getD]
            · simp [World.setCell]; exact own_lt O9
          have TX : Tc p p w (World.setCell x5 ⟨p, 26, none⟩ (.slice (some ⟨g9, N - P, none⟩) (N - (N - P)) (c9 - (N - P)))) := (Tc.of_gr G9).trans (Tc.cellp p p 26 _ _)
          clear H9 O9 q1 q2 q3 h G9
          go_wp2
          go_ret
          exact ⟨g9, _, _, rfl, HX, TX, f9⟩
  · as_aux_lemma =>
      refine wpOp_madeT 29 (.slice (some ⟨x1.heap.size, 0, none⟩) 1 1) (x1.alloc (.cells #[.int .i64 n] 3)) rfl rfl rfl (by kernel_rfl) (G.alloc _) ?_
      have gr8 : Gr x1 (x1.alloc (.cells #[.int .i64 n] 3)) := (Gr.refl _).alloc _
      have c8 : (x1.alloc (.cells #[.int .i64 n] 3)).cell? ⟨x1.heap.size, 0, none⟩ = some (.int .i64 n) := cell_in (heap_new rfl) rfl
      have z8 : x1.heap.size < (x1.alloc (.cells #[.int .i64 n] 3)).heap.size := by simp
      replace G := G.trans gr8
      generalize x1.alloc (.cells #[.int .i64 n] 3) = x2 at *
      obtain ⟨s8, es8⟩ : ∃ s, s = x1.heap.size := ⟨_, rfl⟩
      rw [← es8] at c8 ⊢
      simp only [Act.put, List.setIfInBounds_toArray, List.set_cons_succ, List.set_cons_zero]
      refine wpAnyT_all (fuel := 6) (rs := [1]) (by kernel_rfl) (by simp) ?_
      intro i hi
      obtain rfl : i = 1 := by simpa using hi
      refine wpOp_madeT 22 (.slice (some ⟨x2.heap.size, 0, none⟩) 0 0) (x2.alloc (.cells #[] 3)) rfl rfl rfl (by kernel_rfl) (G.alloc _) ?_
      have gr1 : Gr x2 (x2.alloc (.cells #[] 3)) := (Gr.refl _).alloc _
      have O1 : (x2.alloc (.cells #[] 3)).ownsRow x2.heap.size 3 1 (.slice (some ⟨x2.heap.size, 0, none⟩) 0 0) ([] : List Int).length (([] : List Int).map (.int .i64)) := World.ownsRow_made x2 #[] 0 (Nat.le_refl _) (Nat.zero_le _) rfl
      have z1 : x2.heap.size < (x2.alloc (.cells #[] 3)).heap.size := by simp
      replace c8 := gr1.cell_some c8
      replace G := G.trans gr1
      generalize x2.alloc (.cells #[] 3) = x3 at *
      obtain ⟨s1, es1⟩ : ∃ s, s = x2.heap.size := ⟨_, rfl⟩
      rw [← es1] at O1 ⊢
      simp only [Act.put, List.setIfInBounds_toArray, List.set_cons_succ, List.set_cons_zero]
      refine wpAnyT_all (fuel := 5) (rs := [6]) (by kernel_rfl) (by simp) ?_
      intro i hi
      obtain rfl : i = 6 := by simpa using hi
      refine step_apps (l := []) (ys := l) 27 rfl rfl rfl (.tmp 22) (.tmp 26) rfl rfl g o l.length cap rfl rfl hl (fun j hj => G.cell_some (h.row j hj)) O1 (by simp; omega) (by omega) fun g6 c6 x4 hown hgrow hat hlt => ?_
      have gr6 : Gr w x4 := ⟨G.out.grown hgrow G.size (fun k hk => by have : k = s1 := (Option.some.inj hk).symm; omega)⟩
      replace c8 := hgrow.cell c8 (fun e => by have : s8 = s1 := Option.some.inj e; omega)
      have sz6 := hgrow.size
      have f6 : w.heap.size ≤ g6 := hat.elim (fun e => by have : s1 = g6 := Option.some.inj e; omega) (fun e => by omega)
      have n6 : g6 ≠ s8 := hat.elim (fun e => by have : s1 = g6 := Option.some.inj e; omega) (fun e => by omega)
      refine ⟨fun _ => gr6.in_, ?_⟩
      replace G := gr6
      have O6 := hown
      clear hown hgrow hat O1
      simp only [Act.put, List.setIfInBounds_toArray, List.set_cons_succ, List.set_cons_zero]
      refine wpAnyT_all (fuel := 4) (rs := [9]) (by kernel_rfl) (by simp) ?_
      intro i hi
      obtain rfl : i = 9 := by simpa using hi
      refine step_apps (l := [] ++ l) (ys := [n]) 30 rfl rfl rfl (.tmp 27) (.tmp 29) rfl rfl s8 0 1 1 rfl rfl (Nat.le_refl _) (cell_one c8) O6 (by simp; omega) (by omega) fun g9 c9 x5 hown hgrow hat hlt9 => ?_
      have gr9 : Gr w x5 := ⟨G.out.grown hgrow G.size (fun k hk => by have : k = g6 := (Option.some.inj hk).symm; omega)⟩
      have sz9 := hgrow.size
      have f9 : w.heap.size ≤ g9 := hat.elim (fun e => by have : g6 = g9 := Option.some.inj e; omega) (fun e => by have := G.size; omega)
      refine ⟨fun _ => gr9.in_, ?_⟩
      have G9 := gr9
      have O9 := hown
      clear hown hgrow hat O6 c8 G gr9
      simp only [Act.put, List.setIfInBounds_toArray, List.set_cons_succ, List.set_cons_zero]
      simp only [List.nil_append, List.length_nil, Nat.zero_add] at O9 ⊢
      have eN : (l ++ [n]).length = l.length + 1 := by simp
      rw [eN] at O9
      obtain ⟨cur, q1, q2, q3, _⟩ := own_block O9
      have eL : putP c l n = (l ++ [n]).drop (l.length + 1 - P) := by unfold putP; rw [hPn]
      obtain ⟨N, hN⟩ : ∃ N, l.length + 1 = N := ⟨_, rfl⟩
      rw [hN] at O9 q2 eL eN ⊢
      refine wpAnyT_all (fuel := 3) (rs := [15]) (by kernel_rfl) (by simp) ?_
      intro i hi
      obtain rfl : i = 15 := by simpa using hi
      refine wpOp_to (R := fun v w' => v = .slice (some ⟨g9, N - P, none⟩) (N - (N - P)) (c9 - (N - P)) ∧ x5 = w') 36 91 #[.slice (some ⟨g9, 0, none⟩) N c9, .int .i64 (P : Int)] rfl rfl rfl (by kernel_rfl) ((last_any g9 N c9 P x5 (by omega) (by omega) (by omega) (by omega) q2 q3).mono fun e w' ⟨r1, r2⟩ => ⟨_, r1, rfl, r2⟩) fun v w' hv => ⟨fun _ => by rw [← hv.2]; exact G9.in_, ?_⟩
      obtain ⟨rfl, rfl⟩ := hv
      simp only [Act.put, List.setIfInBounds_toArray, List.set_cons_succ, List.set_cons_zero]
      refine wpAnyT_all (fuel := 2) (rs := [16]) (by kernel_rfl) (by simp) ?_
      intro i hi
      obtain rfl : i = 16 := by simpa using hi
      refine wpOp_madeT 37 (.pointer (some ⟨p, 0, none⟩)) x5 rfl rfl rfl (by kernel_rfl) G9 ?_
      simp only [Act.put, List.setIfInBounds_toArray, List.set_cons_succ, List.set_cons_zero]
      refine wpAnyT_all (fuel := 1) (rs := [17]) (by kernel_rfl) (by simp) ?_
      intro i hi
      obtain rfl : i = 17 := by simpa using hi
      refine wpOp_madeT 38 (.pointer (some ⟨p, 26, none⟩)) x5 rfl rfl rfl (by kernel_rfl) G9 ?_
      simp only [Act.put, List.setIfInBounds_toArray, List.set_cons_succ, List.set_cons_zero]
      refine wpAnyT_all (fuel := 0) (rs := [18]) (by kernel_rfl) (by simp) ?_
      intro i hi
      obtain rfl : i = 18 := by simpa using hi
      refine wpOp_skipT _ rfl rfl rfl (run_store45 rfl rfl rfl (((h.on G9).cell 26).trans (rolAt_26 _ _)) ((h.on G9).froz 26)) ⟨fun h' => absurd h' (by decide), ⟨by kernel_rfl, ?_⟩⟩
      have H9 := h.on G9
      have hpl := h.lt
      have hpg : p ≠ g9 := by omega
      have hlen : (putP c l n).length = N - (N - P) := by rw [eL, List.length_drop, eN]
      have HX : RX (World.setCell x5 ⟨p, 26, none⟩ (.slice (some ⟨g9, N - P, none⟩) (N - (N - P)) (c9 - (N - P)))) p g9 (N - P) (c9 - (N - P)) c (putP c l n) := by
        refine ⟨?_, fun j hj => ?_, ?_, hpg⟩
        · rw [hlen]; exact set_block H9.box
        · rw [hlen] at hj
          refine (World.cell?_setCell_other _ ⟨p, 26, none⟩ ⟨g9, N - P + j, none⟩ _ (by intro e; simp at e <;> omega)).trans ?_
          rw [own_cell O9 (by omega), eL]
          simp [List.getD_eq_getElem?_getD]
        · simp [World.setCell]; exact own_lt O9
      have TX : Tc p p w (World.setCell x5 ⟨p, 26, none⟩ (.slice (some ⟨g9, N - P, none⟩) (N - (N - P)) (c9 - (N - P)))) := (Tc.of_gr G9).trans (Tc.cellp p p 26 _ _)
      clear H9 O9 q1 q2 q3 h G9
      go_wp2
      go_ret
      exact ⟨g9, _, _, rfl, HX, TX, f9⟩
end Go.Proofs.Ytjobicffdcnnlaa
