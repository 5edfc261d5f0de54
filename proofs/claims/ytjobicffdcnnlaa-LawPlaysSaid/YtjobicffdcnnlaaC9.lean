import Derived.Test.YtjobicffdcnnlaaC5
import Derived.Deep.WholeRow
import Derived.Laws.Rows
namespace Go.Proofs.Ytjobicffdcnnlaa
open Go.RowKit
set_option linter.unusedSimpArgs false
set_option linter.unusedVariables false

def dflt : CF := { n := 4, f := 1, m := 1, q := 3, fresh := 2, grace := 2, window := 32, t0 := 1000, t1 := 0, t2 := 0, t3 := 0, tol := 100, lo := 1, hi := 100, cup := 0, cdn := 3, pup := 4, tup := 100, pdn := 4, tdn := 50, per := 2, far := 100, str := 3, pro := 4, sec := 256, seed := 1 }

theorem wpList_val {P : Program} {ops : Array Oper} {Q : Exit → Act → World → Prop} {rest : List Oper} {o : Oper} {a : Act} {w : World} (v : Value) (w1 : World) (hg : o.guard = none)
    (h : (execOp a.eval o).run P w = .ok (.value v) w1) (k : wpList P ops Q rest (a.put o.dst v) w1) : wpList P ops Q (o :: rest) a w :=
  wpList_plain hg fun K hK => by unfold Oper.wp; rw [h]; exact hK _ _ k
theorem wpList_skip' {P : Program} {ops : Array Oper} {Q : Exit → Act → World → Prop} {rest : List Oper} {o : Oper} {a : Act} {w : World} (w1 : World) (hg : o.guard = none)
    (h : (execOp a.eval o).run P w = .ok .skip w1) (k : wpList P ops Q rest (a.put o.dst undef) w1) : wpList P ops Q (o :: rest) a w :=
  wpList_plain hg fun K hK => by unfold Oper.wp; rw [h]; exact hK _ _ k

def zero36 : Array Value := #[.int .i64 0, .int .i64 0, .int .i64 0, .int .i64 0, .int .i64 0, .int .i64 0, .int .i64 0, .int .i64 0, .int .i64 0, .int .i64 0, .int .i64 0, .int .i64 0, .int .i64 0, .int .i64 0, .int .i64 0, .int .i64 0, .int .i64 0, .int .i64 0, .int .i64 0, .int .i64 0, .int .i64 0, .int .i64 0, .int .i64 0, .int .i64 0, .int .i64 0, .int .u64 0]
/-- A new configuration is zero. -/
@[go_sem ↓] theorem xalloc36 (a : Act) (dst : Option Tmp) (ty : TypeId) (pos : String) (after : Array Edge) (guard : Option (Nat × Bool)) (w : World) :
    (execOp a.eval { dst, op := .alloc 36, type := ty, pos, after, guard }).run Try.prog w = .ok (.value (.pointer (some ⟨w.heap.size, 0, none⟩))) (w.alloc (.cells zero36 36)) := by kernel_rfl
theorem info36 : (Try.prog.info? 36).map (·.size) = some 26 := by kernel_rfl
/-- Whole numbers alone. -/
def allInt : List Value → Bool
  | [] => true
  | .int _ _ :: r => allInt r
  | _ => false
@[go_sem] theorem allInt_nil : allInt [] = true := rfl
@[go_sem] theorem allInt_cons (k : IntKind) (n : Int) (r : List Value) : allInt (.int k n :: r) = allInt r := rfl
theorem allInt_one : ∀ l : List Value, allInt l = true → (l.all (·.oneCell')) = true
  | [], _ => rfl
  | .int k n :: r, h => by
    rw [List.all_cons, allInt_one r h]
    rfl
/-- A whole configuration is stored into a block just made. -/
@[go_sem ↓] theorem xstore36_new (a : Act) (x y : Operand) (dst : Option Tmp) (ty : TypeId) (pos : String) (after : Array Edge) (guard : Option (Nat × Bool)) (w : World) (c : Array Value)
    (hp : a.eval x = .pointer (some ⟨w.heap.size, 0, none⟩)) (hs : c.size = 26) (h1 : (a.eval y).cells.size = 26) (h2' : allInt (a.eval y).cells.toList = true) :
    (execOp a.eval { dst, op := .store 36 x y, type := ty, pos, after, guard }).run Try.prog (w.alloc (.cells c 36)) = .ok .skip (w.alloc (.cells (a.eval y).cells 36)) := by
  have h2 : (a.eval y).cells.all (·.oneCell') = true := by rw [← Array.all_toList]; exact allInt_one _ h2'
  have hv : a.eval y = .agg (a.eval y).cells := by
    cases hq : a.eval y with
    | agg c' => rfl
    | _ => rw [hq] at h1; simp [Value.cells] at h1
  generalize (a.eval y).cells = c' at *
  show (do Instr.storeAt 36 (a.eval x) (a.eval y); pure Next.skip : Sem Next).run Try.prog (w.alloc (.cells c 36)) = _
  rw [hp, hv]
  have := run_storeAt_new (P := Try.prog) w 36 c c' (by rw [h1]; exact info36) (by rw [hs, h1]) h2
  simp [this]
theorem xstore36_at {a : Act} {x y : Operand} {o : Oper} {w : World} {c c' : Array Value} (ho : o.op = .store 36 x y)
    (hp : a.eval x = .pointer (some ⟨w.heap.size, 0, none⟩)) (hv : a.eval y = .agg c') (hs : c.size = 26) (h1 : c'.size = 26) (h2 : c'.all (·.oneCell') = true) :
    (execOp a.eval o).run Try.prog (w.alloc (.cells c 36)) = .ok .skip (w.alloc (.cells c' 36)) := by
  unfold execOp
  rw [ho]
  show (do Instr.storeAt 36 (a.eval x) (a.eval y); pure Next.skip : Sem Next).run Try.prog (w.alloc (.cells c 36)) = _
  rw [hp, hv]
  have := run_storeAt_new (P := Try.prog) w 36 c c' (by rw [h1]; exact info36) (by rw [hs, h1]) h2
  simp [this]
@[go_sem] theorem zero36_size : zero36.size = 26 := rfl
@[go_sem] theorem cells_agg (cs : Array Value) : (Value.agg cs).cells = cs := rfl
theorem results36 {fn : Func} {p : Tmp} (h : fn.results = #[.cell p 36]) (tmps : Array Value) (w : World) (b : Nat) (cs : Array Value) (fr : Nat × Nat)
    (hp : tmps.getD p undef = .pointer (some ⟨b, 0, none⟩)) (hb : w.heap[b]? = some (.cells cs 36 fr)) (hs : cs.size = 26) : (results fn tmps).run Try.prog w = .ok (.agg cs) w :=
  results_cell_row h tmps w b 36 cs fr _ hp hb Try.underlying36 rfl (by rw [hs]; exact info36)

set_option maxRecDepth 100000 in
theorem default_any (w : World) : Calls Try.prog 38 #[] w fun e w' => e = .returned (.agg #[.int .i64 dflt.n, .int .i64 dflt.f, .int .i64 dflt.m, .int .i64 dflt.q, .int .i64 dflt.fresh, .int .i64 dflt.grace, .int .i64 dflt.window, .int .i64 dflt.t0, .int .i64 dflt.t1, .int .i64 dflt.t2, .int .i64 dflt.t3, .int .i64 dflt.tol, .int .i64 dflt.lo, .int .i64 dflt.hi, .int .i64 dflt.cup, .int .i64 dflt.cdn, .int .i64 dflt.pup, .int .i64 dflt.tup, .int .i64 dflt.pdn, .int .i64 dflt.tdn, .int .i64 dflt.per, .int .i64 dflt.far, .int .i64 dflt.str, .int .i64 dflt.pro, .int .i64 dflt.sec, .int .u64 dflt.seed]) ∧ Gr w w' := by
  go_enter Try.func38, Try.ntmps38
  go_upto_region 1 with (fail)
  refine wp_region_lit ?_
  refine wpList_val (.agg #[.int .i64 1000, .int .i64 0, .int .i64 0, .int .i64 0]) (w.alloc (.cells zero36 36)) rfl (by kernel_rfl) ?_
  refine wpList_val (.agg #[.int .i64 dflt.n, .int .i64 dflt.f, .int .i64 dflt.m, .int .i64 dflt.q, .int .i64 dflt.fresh, .int .i64 dflt.grace, .int .i64 dflt.window, .int .i64 dflt.t0, .int .i64 dflt.t1, .int .i64 dflt.t2, .int .i64 dflt.t3, .int .i64 dflt.tol, .int .i64 dflt.lo, .int .i64 dflt.hi, .int .i64 dflt.cup, .int .i64 dflt.cdn, .int .i64 dflt.pup, .int .i64 dflt.tup, .int .i64 dflt.pdn, .int .i64 dflt.tdn, .int .i64 dflt.per, .int .i64 dflt.far, .int .i64 dflt.str, .int .i64 dflt.pro, .int .i64 dflt.sec, .int .u64 dflt.seed]) (w.alloc (.cells zero36 36)) rfl (by kernel_rfl) ?_
  refine wpList_skip' (w.alloc (.cells #[.int .i64 dflt.n, .int .i64 dflt.f, .int .i64 dflt.m, .int .i64 dflt.q, .int .i64 dflt.fresh, .int .i64 dflt.grace, .int .i64 dflt.window, .int .i64 dflt.t0, .int .i64 dflt.t1, .int .i64 dflt.t2, .int .i64 dflt.t3, .int .i64 dflt.tol, .int .i64 dflt.lo, .int .i64 dflt.hi, .int .i64 dflt.cup, .int .i64 dflt.cdn, .int .i64 dflt.pup, .int .i64 dflt.tup, .int .i64 dflt.pdn, .int .i64 dflt.tdn, .int .i64 dflt.per, .int .i64 dflt.far, .int .i64 dflt.str, .int .i64 dflt.pro, .int .i64 dflt.sec, .int .u64 dflt.seed] 36)) rfl (xstore36_at rfl (by kernel_rfl) (by kernel_rfl) rfl rfl (by kernel_rfl)) ?_
  go_wp2
  exact bodyPost_ret (results36 Try.results38 _ _ _ _ (0, 0) rfl (heap_new rfl) rfl) rfl ⟨rfl, (Gr.refl w).alloc _⟩
set_option maxRecDepth 100000 in
theorem r_default_any (w : World) : Calls Try.prog 37 #[] w fun e w' => e = .returned (.agg #[.int .i64 dflt.n, .int .i64 dflt.f, .int .i64 dflt.m, .int .i64 dflt.q, .int .i64 dflt.fresh, .int .i64 dflt.grace, .int .i64 dflt.window, .int .i64 dflt.t0, .int .i64 dflt.t1, .int .i64 dflt.t2, .int .i64 dflt.t3, .int .i64 dflt.tol, .int .i64 dflt.lo, .int .i64 dflt.hi, .int .i64 dflt.cup, .int .i64 dflt.cdn, .int .i64 dflt.pup, .int .i64 dflt.tup, .int .i64 dflt.pdn, .int .i64 dflt.tdn, .int .i64 dflt.per, .int .i64 dflt.far, .int .i64 dflt.str, .int .i64 dflt.pro, .int .i64 dflt.sec, .int .u64 dflt.seed]) ∧ Gr w w' := by
  go_enter Try.func37, Try.ntmps37
  go_upto_region 1 with (fail)
  refine wp_region_lit ?_
  refine wpList_val (.agg #[.int .i64 1000, .int .i64 0, .int .i64 0, .int .i64 0]) (w.alloc (.cells zero36 36)) rfl (by kernel_rfl) ?_
  refine wpList_val (.agg #[.int .i64 dflt.n, .int .i64 dflt.f, .int .i64 dflt.m, .int .i64 dflt.q, .int .i64 dflt.fresh, .int .i64 dflt.grace, .int .i64 dflt.window, .int .i64 dflt.t0, .int .i64 dflt.t1, .int .i64 dflt.t2, .int .i64 dflt.t3, .int .i64 dflt.tol, .int .i64 dflt.lo, .int .i64 dflt.hi, .int .i64 dflt.cup, .int .i64 dflt.cdn, .int .i64 dflt.pup, .int .i64 dflt.tup, .int .i64 dflt.pdn, .int .i64 dflt.tdn, .int .i64 dflt.per, .int .i64 dflt.far, .int .i64 dflt.str, .int .i64 dflt.pro, .int .i64 dflt.sec, .int .u64 dflt.seed]) (w.alloc (.cells zero36 36)) rfl (by kernel_rfl) ?_
  refine wpList_skip' (w.alloc (.cells #[.int .i64 dflt.n, .int .i64 dflt.f, .int .i64 dflt.m, .int .i64 dflt.q, .int .i64 dflt.fresh, .int .i64 dflt.grace, .int .i64 dflt.window, .int .i64 dflt.t0, .int .i64 dflt.t1, .int .i64 dflt.t2, .int .i64 dflt.t3, .int .i64 dflt.tol, .int .i64 dflt.lo, .int .i64 dflt.hi, .int .i64 dflt.cup, .int .i64 dflt.cdn, .int .i64 dflt.pup, .int .i64 dflt.tup, .int .i64 dflt.pdn, .int .i64 dflt.tdn, .int .i64 dflt.per, .int .i64 dflt.far, .int .i64 dflt.str, .int .i64 dflt.pro, .int .i64 dflt.sec, .int .u64 dflt.seed] 36)) rfl (xstore36_at rfl (by kernel_rfl) (by kernel_rfl) rfl rfl (by kernel_rfl)) ?_
  go_wp2
  exact bodyPost_ret (results36 Try.results37 _ _ _ _ (0, 0) rfl (heap_new rfl) rfl) rfl ⟨rfl, (Gr.refl w).alloc _⟩
theorem in_any1 (a lo hi : Int) (w : World) : Calls Try.prog 83 #[.int .i64 a, .int .i64 lo, .int .i64 hi] w fun e w' => e = .returned (.bool (decide (lo ≤ a) && decide (a ≤ hi))) ∧ w = w' := by
  by_cases h : lo ≤ a
  · go_enter Try.func83, Try.ntmps83
    go_wp2
    go_ret
    exact ⟨ret_bool (by simp [h]), rfl⟩
  · go_enter Try.func83, Try.ntmps83
    go_wp2
    go_ret
    exact ⟨ret_bool (by simp; omega), rfl⟩
end Go.Proofs.Ytjobicffdcnnlaa
namespace Go.Proofs.Ytjobicffdcnnlaa
open Go.RowKit
set_option linter.unusedSimpArgs false
set_option linter.unusedVariables false

set_option maxHeartbeats 1000000 in
theorem r_targets_core (c : CF) (b : Bool) (hb : targetsB c = b) (w : World) : Calls Try.prog 84 #[.agg #[.int .i64 c.n, .int .i64 c.f, .int .i64 c.m, .int .i64 c.q, .int .i64 c.fresh, .int .i64 c.grace, .int .i64 c.window, .int .i64 c.t0, .int .i64 c.t1, .int .i64 c.t2, .int .i64 c.t3, .int .i64 c.tol, .int .i64 c.lo, .int .i64 c.hi, .int .i64 c.cup, .int .i64 c.cdn, .int .i64 c.pup, .int .i64 c.tup, .int .i64 c.pdn, .int .i64 c.tdn, .int .i64 c.per, .int .i64 c.far, .int .i64 c.str, .int .i64 c.pro, .int .i64 c.sec, .int .u64 c.seed]] w fun e w' => e = .returned (.bool b) ∧ w.alloc (.cells #[.int .i64 c.n, .int .i64 c.f, .int .i64 c.m, .int .i64 c.q, .int .i64 c.fresh, .int .i64 c.grace, .int .i64 c.window, .int .i64 c.t0, .int .i64 c.t1, .int .i64 c.t2, .int .i64 c.t3, .int .i64 c.tol, .int .i64 c.lo, .int .i64 c.hi, .int .i64 c.cup, .int .i64 c.cdn, .int .i64 c.pup, .int .i64 c.tup, .int .i64 c.pdn, .int .i64 c.tdn, .int .i64 c.per, .int .i64 c.far, .int .i64 c.str, .int .i64 c.pro, .int .i64 c.sec, .int .u64 c.seed] 36) = w' := by
  have H0 := Lib.hid hb; clear hb
  go_enter Try.func84, Try.ntmps84
  go_wp2
  go_loop [3] (fun i => ∃ k : Nat, k ≤ 4 ∧ i = .int .i64 k ∧ Hid (restT c k = b)) (fun i => 4 - (intOf i).toNat)
  case atStart => exact ⟨0, by omega, rfl, H0⟩
  case round =>
    obtain ⟨k, hk, rfl, hr⟩ := hrel
    rcases (show k = 0 ∨ k = 1 ∨ k = 2 ∨ k = 3 ∨ k = 4 by omega) with h | h | h | h | h <;> subst h
    · by_cases hm : (0 : Int) < c.m
      · have ho := okT_in (x := c.t0) hm
        by_cases hx : 1 ≤ c.t0
        · by_cases hy : c.t0 ≤ 1099511627776
          · have hn : Hid (restT c 1 = b) := by have h := hr.out; simpa only [restT, targetsB, ho, hx, hy, decide_true, Bool.true_and, Bool.and_true, Hid] using h
            clear hr ho
            go_wp2
            go_round
            case rel => exact ⟨1, by omega, by first | rfl | go_num, hn⟩
            case measure => simp [intOf]
          · have hf : b = false := by have h := hr.out; simp only [restT, targetsB, ho, hx, hy, decide_true, decide_false, Bool.and_false, Bool.false_and] at h; exact h.symm
            clear hr ho
            subst hf
            go_wp2
            go_ret
            exact ⟨rfl, rfl⟩
        · have hf : b = false := by have h := hr.out; simp only [restT, targetsB, ho, hx, decide_false, Bool.false_and] at h; exact h.symm
          clear hr ho
          subst hf
          go_wp2
          go_ret
          exact ⟨rfl, rfl⟩
      · have ho := okT_out (x := c.t0) hm
        by_cases hx : c.t0 = 0
        · have ho' : okT c 0 c.t0 = true := by rw [ho, hx]; rfl
          have hn : Hid (restT c 1 = b) := by have h := hr.out; simp only [restT, targetsB, ho', Bool.true_and] at h; exact h
          have hz : (c.t0 != 0) = false := by simp [hx]
          clear hr ho ho' hx
          go_wp2
          go_round
          case rel => exact ⟨1, by omega, by first | rfl | go_num, hn⟩
          case measure => simp [intOf]
        · have hz : (c.t0 != 0) = true := by simp [hx]
          have hf : b = false := by have h := hr.out; simp only [restT, targetsB, ho, beq_eq_false_iff_ne.2 hx, Bool.false_and] at h; exact h.symm
          clear hr ho hx
          subst hf
          go_wp2
          go_ret
          exact ⟨rfl, rfl⟩
    · by_cases hm : (1 : Int) < c.m
      · have ho := okT_in (x := c.t1) hm
        by_cases hx : 1 ≤ c.t1
        · by_cases hy : c.t1 ≤ 1099511627776
          · have hn : Hid (restT c 2 = b) := by have h := hr.out; simpa only [restT, targetsB, ho, hx, hy, decide_true, Bool.true_and, Bool.and_true, Hid] using h
            clear hr ho
            go_wp2
            go_round
            case rel => exact ⟨2, by omega, by first | rfl | go_num, hn⟩
            case measure => simp [intOf]
          · have hf : b = false := by have h := hr.out; simp only [restT, targetsB, ho, hx, hy, decide_true, decide_false, Bool.and_false, Bool.false_and] at h; exact h.symm
            clear hr ho
            subst hf
            go_wp2
            go_ret
            exact ⟨rfl, rfl⟩
        · have hf : b = false := by have h := hr.out; simp only [restT, targetsB, ho, hx, decide_false, Bool.false_and] at h; exact h.symm
          clear hr ho
          subst hf
          go_wp2
          go_ret
          exact ⟨rfl, rfl⟩
      · have ho := okT_out (x := c.t1) hm
        by_cases hx : c.t1 = 0
        · have ho' : okT c 1 c.t1 = true := by rw [ho, hx]; rfl
          have hn : Hid (restT c 2 = b) := by have h := hr.out; simp only [restT, targetsB, ho', Bool.true_and] at h; exact h
          have hz : (c.t1 != 0) = false := by simp [hx]
          clear hr ho ho' hx
          go_wp2
          go_round
          case rel => exact ⟨2, by omega, by first | rfl | go_num, hn⟩
          case measure => simp [intOf]
        · have hz : (c.t1 != 0) = true := by simp [hx]
          have hf : b = false := by have h := hr.out; simp only [restT, targetsB, ho, beq_eq_false_iff_ne.2 hx, Bool.false_and] at h; exact h.symm
          clear hr ho hx
          subst hf
          go_wp2
          go_ret
          exact ⟨rfl, rfl⟩
    · by_cases hm : (2 : Int) < c.m
      · have ho := okT_in (x := c.t2) hm
        by_cases hx : 1 ≤ c.t2
        · by_cases hy : c.t2 ≤ 1099511627776
          · have hn : Hid (restT c 3 = b) := by have h := hr.out; simpa only [restT, targetsB, ho, hx, hy, decide_true, Bool.true_and, Bool.and_true, Hid] using h
            clear hr ho
            go_wp2
            go_round
            case rel => exact ⟨3, by omega, by first | rfl | go_num, hn⟩
            case measure => simp [intOf]
          · have hf : b = false := by have h := hr.out; simp only [restT, targetsB, ho, hx, hy, decide_true, decide_false, Bool.and_false, Bool.false_and] at h; exact h.symm
            clear hr ho
            subst hf
            go_wp2
            go_ret
            exact ⟨rfl, rfl⟩
        · have hf : b = false := by have h := hr.out; simp only [restT, targetsB, ho, hx, decide_false, Bool.false_and] at h; exact h.symm
          clear hr ho
          subst hf
          go_wp2
          go_ret
          exact ⟨rfl, rfl⟩
      · have ho := okT_out (x := c.t2) hm
        by_cases hx : c.t2 = 0
        · have ho' : okT c 2 c.t2 = true := by rw [ho, hx]; rfl
          have hn : Hid (restT c 3 = b) := by have h := hr.out; simp only [restT, targetsB, ho', Bool.true_and] at h; exact h
          have hz : (c.t2 != 0) = false := by simp [hx]
          clear hr ho ho' hx
          go_wp2
          go_round
          case rel => exact ⟨3, by omega, by first | rfl | go_num, hn⟩
          case measure => simp [intOf]
        · have hz : (c.t2 != 0) = true := by simp [hx]
          have hf : b = false := by have h := hr.out; simp only [restT, targetsB, ho, beq_eq_false_iff_ne.2 hx, Bool.false_and] at h; exact h.symm
          clear hr ho hx
          subst hf
          go_wp2
          go_ret
          exact ⟨rfl, rfl⟩
    · by_cases hm : (3 : Int) < c.m
      · have ho := okT_in (x := c.t3) hm
        by_cases hx : 1 ≤ c.t3
        · by_cases hy : c.t3 ≤ 1099511627776
          · have hn : Hid (restT c 4 = b) := by have h := hr.out; simpa only [restT, targetsB, ho, hx, hy, decide_true, Bool.true_and, Bool.and_true, Hid] using h
            clear hr ho
            go_wp2
            go_round
            case rel => exact ⟨4, by omega, by first | rfl | go_num, hn⟩
            case measure => simp [intOf]
          · have hf : b = false := by have h := hr.out; simp only [restT, targetsB, ho, hx, hy, decide_true, decide_false, Bool.and_false, Bool.false_and] at h; exact h.symm
            clear hr ho
            subst hf
            go_wp2
            go_ret
            exact ⟨rfl, rfl⟩
        · have hf : b = false := by have h := hr.out; simp only [restT, targetsB, ho, hx, decide_false, Bool.false_and] at h; exact h.symm
          clear hr ho
          subst hf
          go_wp2
          go_ret
          exact ⟨rfl, rfl⟩
      · have ho := okT_out (x := c.t3) hm
        by_cases hx : c.t3 = 0
        · have ho' : okT c 3 c.t3 = true := by rw [ho, hx]; rfl
          have hn : Hid (restT c 4 = b) := by have h := hr.out; simp only [restT, targetsB, ho', Bool.true_and] at h; exact h
          have hz : (c.t3 != 0) = false := by simp [hx]
          clear hr ho ho' hx
          go_wp2
          go_round
          case rel => exact ⟨4, by omega, by first | rfl | go_num, hn⟩
          case measure => simp [intOf]
        · have hz : (c.t3 != 0) = true := by simp [hx]
          have hf : b = false := by have h := hr.out; simp only [restT, targetsB, ho, beq_eq_false_iff_ne.2 hx, Bool.false_and] at h; exact h.symm
          clear hr ho hx
          subst hf
          go_wp2
          go_ret
          exact ⟨rfl, rfl⟩
    · have hf : b = true := hr.out.symm
      clear hr
      subst hf
      go_wp2
      go_ret
      exact ⟨rfl, rfl⟩
theorem r_targets_any (c : CF) (w : World) : Calls Try.prog 84 #[.agg #[.int .i64 c.n, .int .i64 c.f, .int .i64 c.m, .int .i64 c.q, .int .i64 c.fresh, .int .i64 c.grace, .int .i64 c.window, .int .i64 c.t0, .int .i64 c.t1, .int .i64 c.t2, .int .i64 c.t3, .int .i64 c.tol, .int .i64 c.lo, .int .i64 c.hi, .int .i64 c.cup, .int .i64 c.cdn, .int .i64 c.pup, .int .i64 c.tup, .int .i64 c.pdn, .int .i64 c.tdn, .int .i64 c.per, .int .i64 c.far, .int .i64 c.str, .int .i64 c.pro, .int .i64 c.sec, .int .u64 c.seed]] w fun e w' => e = .returned (.bool (targetsB c)) ∧ w.alloc (.cells #[.int .i64 c.n, .int .i64 c.f, .int .i64 c.m, .int .i64 c.q, .int .i64 c.fresh, .int .i64 c.grace, .int .i64 c.window, .int .i64 c.t0, .int .i64 c.t1, .int .i64 c.t2, .int .i64 c.t3, .int .i64 c.tol, .int .i64 c.lo, .int .i64 c.hi, .int .i64 c.cup, .int .i64 c.cdn, .int .i64 c.pup, .int .i64 c.tup, .int .i64 c.pdn, .int .i64 c.tdn, .int .i64 c.per, .int .i64 c.far, .int .i64 c.str, .int .i64 c.pro, .int .i64 c.sec, .int .u64 c.seed] 36) = w' := r_targets_core c _ rfl w

def inR (a lo hi : Int) : Bool := decide (lo ≤ a) && decide (a ≤ hi)
theorem in_true (a lo hi : Int) (h : inR a lo hi = true) (w : World) : Calls Try.prog 83 #[.int .i64 a, .int .i64 lo, .int .i64 hi] w fun e w' => e = .returned (.bool true) ∧ w = w' := by rw [← h]; exact in_any1 a lo hi w
theorem in_false (a lo hi : Int) (h : inR a lo hi = false) (w : World) : Calls Try.prog 83 #[.int .i64 a, .int .i64 lo, .int .i64 hi] w fun e w' => e = .returned (.bool false) ∧ w = w' := by rw [← h]; exact in_any1 a lo hi w
def mayRatesR (c : CF) : Bool := inR c.lo 1 10000 && (inR c.hi c.lo 10000 && (inR c.pup 1 1000 && (inR c.tup 1 1000 && (inR c.pdn 1 1000 && (inR c.tdn 1 100 && inR c.per 1 60)))))

set_option maxHeartbeats 2000000 in
theorem mayRates_any (c : CF) (w : World) : Calls Try.prog 90 #[.agg #[.int .i64 c.n, .int .i64 c.f, .int .i64 c.m, .int .i64 c.q, .int .i64 c.fresh, .int .i64 c.grace, .int .i64 c.window, .int .i64 c.t0, .int .i64 c.t1, .int .i64 c.t2, .int .i64 c.t3, .int .i64 c.tol, .int .i64 c.lo, .int .i64 c.hi, .int .i64 c.cup, .int .i64 c.cdn, .int .i64 c.pup, .int .i64 c.tup, .int .i64 c.pdn, .int .i64 c.tdn, .int .i64 c.per, .int .i64 c.far, .int .i64 c.str, .int .i64 c.pro, .int .i64 c.sec, .int .u64 c.seed]] w fun e w' => e = .returned (.bool (mayRatesR c)) ∧ Gr w w' := by
  have hi := in_any1
  cases h0 : inR c.lo 1 10000 with
  | false =>
    have hr : mayRatesR c = false := by unfold mayRatesR; simp [h0]
    rw [hr]; clear hr hi
    have g0 := in_false c.lo 1 10000 h0
    clear h0
    go_enter Try.func90, Try.ntmps90
    go_wp2_with fail
    refine (g0 _).mono ?_; rintro e w' ⟨rfl, rfl⟩
    go_wp2
    go_ret
    exact ⟨rfl, (Gr.refl w).alloc _⟩
  | true =>
    cases h1 : inR c.hi c.lo 10000 with
    | false =>
      have hr : mayRatesR c = false := by unfold mayRatesR; simp [h0, h1]
      rw [hr]; clear hr hi
      have g0 := in_true c.lo 1 10000 h0
      have g1 := in_false c.hi c.lo 10000 h1
      clear h0 h1
      go_enter Try.func90, Try.ntmps90
      go_wp2_with fail
      refine (g0 _).mono ?_; rintro e w' ⟨rfl, rfl⟩
      go_wp2_with fail
      refine (g1 _).mono ?_; rintro e w' ⟨rfl, rfl⟩
      go_wp2
      go_ret
      exact ⟨rfl, (Gr.refl w).alloc _⟩
    | true =>
      cases h2 : inR c.pup 1 1000 with
      | false =>
        have hr : mayRatesR c = false := by unfold mayRatesR; simp [h0, h1, h2]
        rw [hr]; clear hr hi
        have g0 := in_true c.lo 1 10000 h0
        have g1 := in_true c.hi c.lo 10000 h1
        have g2 := in_false c.pup 1 1000 h2
        clear h0 h1 h2
        go_enter Try.func90, Try.ntmps90
        go_wp2_with fail
        refine (g0 _).mono ?_; rintro e w' ⟨rfl, rfl⟩
        go_wp2_with fail
        refine (g1 _).mono ?_; rintro e w' ⟨rfl, rfl⟩
        go_wp2_with fail
        refine (g2 _).mono ?_; rintro e w' ⟨rfl, rfl⟩
        go_wp2
        go_ret
        exact ⟨rfl, (Gr.refl w).alloc _⟩
      | true =>
        cases h3 : inR c.tup 1 1000 with
        | false =>
          have hr : mayRatesR c = false := by unfold mayRatesR; simp [h0, h1, h2, h3]
          rw [hr]; clear hr hi
          have g0 := in_true c.lo 1 10000 h0
          have g1 := in_true c.hi c.lo 10000 h1
          have g2 := in_true c.pup 1 1000 h2
          have g3 := in_false c.tup 1 1000 h3
          clear h0 h1 h2 h3
          go_enter Try.func90, Try.ntmps90
          go_wp2_with fail
          refine (g0 _).mono ?_; rintro e w' ⟨rfl, rfl⟩
          go_wp2_with fail
          refine (g1 _).mono ?_; rintro e w' ⟨rfl, rfl⟩
          go_wp2_with fail
          refine (g2 _).mono ?_; rintro e w' ⟨rfl, rfl⟩
          go_wp2_with fail
          refine (g3 _).mono ?_; rintro e w' ⟨rfl, rfl⟩
          go_wp2
          go_ret
          exact ⟨rfl, (Gr.refl w).alloc _⟩
        | true =>
          cases h4 : inR c.pdn 1 1000 with
          | false =>
            have hr : mayRatesR c = false := by unfold mayRatesR; simp [h0, h1, h2, h3, h4]
            rw [hr]; clear hr hi
            have g0 := in_true c.lo 1 10000 h0
            have g1 := in_true c.hi c.lo 10000 h1
            have g2 := in_true c.pup 1 1000 h2
            have g3 := in_true c.tup 1 1000 h3
            have g4 := in_false c.pdn 1 1000 h4
            clear h0 h1 h2 h3 h4
            go_enter Try.func90, Try.ntmps90
            go_wp2_with fail
            refine (g0 _).mono ?_; rintro e w' ⟨rfl, rfl⟩
            go_wp2_with fail
            refine (g1 _).mono ?_; rintro e w' ⟨rfl, rfl⟩
            go_wp2_with fail
            refine (g2 _).mono ?_; rintro e w' ⟨rfl, rfl⟩
            go_wp2_with fail
            refine (g3 _).mono ?_; rintro e w' ⟨rfl, rfl⟩
            go_wp2_with fail
            refine (g4 _).mono ?_; rintro e w' ⟨rfl, rfl⟩
            go_wp2
            go_ret
            exact ⟨rfl, (Gr.refl w).alloc _⟩
          | true =>
            cases h5 : inR c.tdn 1 100 with
            | false =>
              have hr : mayRatesR c = false := by unfold mayRatesR; simp [h0, h1, h2, h3, h4, h5]
              rw [hr]; clear hr hi
              have g0 := in_true c.lo 1 10000 h0
              have g1 := in_true c.hi c.lo 10000 h1
              have g2 := in_true c.pup 1 1000 h2
              have g3 := in_true c.tup 1 1000 h3
              have g4 := in_true c.pdn 1 1000 h4
              have g5 := in_false c.tdn 1 100 h5
              clear h0 h1 h2 h3 h4 h5
              go_enter Try.func90, Try.ntmps90
              go_wp2_with fail
              refine (g0 _).mono ?_; rintro e w' ⟨rfl, rfl⟩
              go_wp2_with fail
              refine (g1 _).mono ?_; rintro e w' ⟨rfl, rfl⟩
              go_wp2_with fail
              refine (g2 _).mono ?_; rintro e w' ⟨rfl, rfl⟩
              go_wp2_with fail
              refine (g3 _).mono ?_; rintro e w' ⟨rfl, rfl⟩
              go_wp2_with fail
              refine (g4 _).mono ?_; rintro e w' ⟨rfl, rfl⟩
              go_wp2_with fail
              refine (g5 _).mono ?_; rintro e w' ⟨rfl, rfl⟩
              go_wp2
              go_ret
              exact ⟨rfl, (Gr.refl w).alloc _⟩
            | true =>
              cases h6 : inR c.per 1 60 with
              | false =>
                have hr : mayRatesR c = false := by unfold mayRatesR; simp [h0, h1, h2, h3, h4, h5, h6]
                rw [hr]; clear hr hi
                have g0 := in_true c.lo 1 10000 h0
                have g1 := in_true c.hi c.lo 10000 h1
                have g2 := in_true c.pup 1 1000 h2
                have g3 := in_true c.tup 1 1000 h3
                have g4 := in_true c.pdn 1 1000 h4
                have g5 := in_true c.tdn 1 100 h5
                have g6 := in_false c.per 1 60 h6
                clear h0 h1 h2 h3 h4 h5 h6
                go_enter Try.func90, Try.ntmps90
                go_wp2_with fail
                refine (g0 _).mono ?_; rintro e w' ⟨rfl, rfl⟩
                go_wp2_with fail
                refine (g1 _).mono ?_; rintro e w' ⟨rfl, rfl⟩
                go_wp2_with fail
                refine (g2 _).mono ?_; rintro e w' ⟨rfl, rfl⟩
                go_wp2_with fail
                refine (g3 _).mono ?_; rintro e w' ⟨rfl, rfl⟩
                go_wp2_with fail
                refine (g4 _).mono ?_; rintro e w' ⟨rfl, rfl⟩
                go_wp2_with fail
                refine (g5 _).mono ?_; rintro e w' ⟨rfl, rfl⟩
                go_wp2_with fail
                refine (g6 _).mono ?_; rintro e w' ⟨rfl, rfl⟩
                go_wp2
                go_ret
                exact ⟨rfl, (Gr.refl w).alloc _⟩
              | true =>
                have hr : mayRatesR c = true := by unfold mayRatesR; simp [h0, h1, h2, h3, h4, h5, h6]
                rw [hr]; clear hr hi
                have g0 := in_true c.lo 1 10000 h0
                have g1 := in_true c.hi c.lo 10000 h1
                have g2 := in_true c.pup 1 1000 h2
                have g3 := in_true c.tup 1 1000 h3
                have g4 := in_true c.pdn 1 1000 h4
                have g5 := in_true c.tdn 1 100 h5
                have g6 := in_true c.per 1 60 h6
                clear h0 h1 h2 h3 h4 h5 h6
                go_enter Try.func90, Try.ntmps90
                go_wp2_with fail
                refine (g0 _).mono ?_; rintro e w' ⟨rfl, rfl⟩
                go_wp2_with fail
                refine (g1 _).mono ?_; rintro e w' ⟨rfl, rfl⟩
                go_wp2_with fail
                refine (g2 _).mono ?_; rintro e w' ⟨rfl, rfl⟩
                go_wp2_with fail
                refine (g3 _).mono ?_; rintro e w' ⟨rfl, rfl⟩
                go_wp2_with fail
                refine (g4 _).mono ?_; rintro e w' ⟨rfl, rfl⟩
                go_wp2_with fail
                refine (g5 _).mono ?_; rintro e w' ⟨rfl, rfl⟩
                go_wp2_with fail
                refine (g6 _).mono ?_; rintro e w' ⟨rfl, rfl⟩
                go_wp2
                go_ret
                exact ⟨rfl, (Gr.refl w).alloc _⟩
end Go.Proofs.Ytjobicffdcnnlaa
namespace Go.Proofs.Ytjobicffdcnnlaa
open Go.RowKit
set_option linter.unusedSimpArgs false
set_option linter.unusedVariables false

theorem ret_str {a b : ByteArray} (h : a = b) : Ending.returned (.string a) = Ending.returned (.string b) := by rw [h]
def okF (c : CF) : Bool := decide (0 ≤ c.f) && (decide (c.f ≤ 5) && decide (3 * c.f + 1 ≤ c.n))
def wrongR (c : CF) : ByteArray :=
  if (inR c.n 1 16) = false then ⟨#[110]⟩ else
  if (okF c) = false then ⟨#[102]⟩ else
  if (inR c.m 1 4) = false then ⟨#[109]⟩ else
  if (inR c.q (2 * c.f + 1) c.n) = false then ⟨#[113, 117, 111, 114, 117, 109]⟩ else
  if (inR c.fresh 1 8) = false then ⟨#[102, 114, 101, 115, 104]⟩ else
  if (inR c.grace 1 100) = false then ⟨#[103, 114, 97, 99, 101]⟩ else
  if (inR c.window 1 64) = false then ⟨#[119, 105, 110, 100, 111, 119]⟩ else
  if (targetsB c) = false then ⟨#[116, 97, 114, 103, 101, 116]⟩ else
  if (inR c.tol 0 1000) = false then ⟨#[116, 111, 108]⟩ else
  if (inR c.lo 1 10000) = false then ⟨#[109, 105, 110]⟩ else
  if (inR c.hi c.lo 10000) = false then ⟨#[109, 97, 120]⟩ else
  if (inR c.cup 0 60) = false then ⟨#[99, 97, 108, 109, 117, 112]⟩ else
  if (inR c.cdn 0 60) = false then ⟨#[99, 97, 108, 109, 100, 111, 119, 110]⟩ else
  if (inR c.pup 1 1000) = false then ⟨#[112, 111, 100, 115, 117, 112]⟩ else
  if (inR c.tup 1 1000) = false then ⟨#[112, 99, 116, 117, 112]⟩ else
  if (inR c.pdn 1 1000) = false then ⟨#[112, 111, 100, 115, 100, 111, 119, 110]⟩ else
  if (inR c.tdn 1 100) = false then ⟨#[112, 99, 116, 100, 111, 119, 110]⟩ else
  if (inR c.per 1 60) = false then ⟨#[112, 101, 114, 105, 111, 100]⟩ else
  if (inR c.far 0 1099511627776) = false then ⟨#[102, 97, 114]⟩ else
  if (inR c.str 1 100) = false then ⟨#[115, 116, 114, 105, 107, 101, 115]⟩ else
  if (inR c.pro 1 100) = false then ⟨#[112, 114, 111, 98, 101]⟩ else
  if (inR c.sec 64 4096) = false then ⟨#[115, 101, 99, 116, 111, 114, 115]⟩ else
  ⟨#[]⟩

set_option maxHeartbeats 4000000 in
set_option maxRecDepth 100000 in
theorem r_wrong_any (c : CF) (w : World) : Calls Try.prog 42 #[.agg #[.int .i64 c.n, .int .i64 c.f, .int .i64 c.m, .int .i64 c.q, .int .i64 c.fresh, .int .i64 c.grace, .int .i64 c.window, .int .i64 c.t0, .int .i64 c.t1, .int .i64 c.t2, .int .i64 c.t3, .int .i64 c.tol, .int .i64 c.lo, .int .i64 c.hi, .int .i64 c.cup, .int .i64 c.cdn, .int .i64 c.pup, .int .i64 c.tup, .int .i64 c.pdn, .int .i64 c.tdn, .int .i64 c.per, .int .i64 c.far, .int .i64 c.str, .int .i64 c.pro, .int .i64 c.sec, .int .u64 c.seed]] w fun e w' => e = .returned (.string (wrongR c)) ∧ Gr w w' := by
  obtain ⟨r, hr⟩ : ∃ r, wrongR c = r := ⟨_, rfl⟩
  rw [hr]
  have HR := Lib.hid hr; clear hr
  go_enter Try.func42, Try.ntmps42
  go_wp2_with fail
  cases h0 : inR c.n 1 16 with
  | false =>
    refine (in_false c.n 1 16 h0 _).mono ?_; rintro e w' ⟨rfl, rfl⟩
    have H0 := Lib.hid h0; clear h0
    go_wp2
    go_ret
    first | exact ⟨ret_str (by rw [← HR.out]; unfold wrongR; simp [H0.out]), (Gr.refl w).alloc _⟩ | exact ⟨ret_str (by rw [← HR.out]; unfold wrongR; simp [H0.out]), ((Gr.refl w).alloc _).alloc _⟩
  | true =>
    refine (in_true c.n 1 16 h0 _).mono ?_; rintro e w' ⟨rfl, rfl⟩
    have H0 := Lib.hid h0; clear h0
    have n1 : 1 ≤ c.n := by have h := H0.out; unfold inR at h; simp at h; omega
    have n2 : c.n ≤ 16 := by have h := H0.out; unfold inR at h; simp at h; omega
    cases h1 : okF c with
    | false =>
      have H1 := Lib.hid h1; clear h1
      have hq : c.f < 0 ∨ 0 ≤ c.f ∧ 5 < c.f ∨ 0 ≤ c.f ∧ c.f ≤ 5 ∧ c.n < 3 * c.f + 1 := by have h := H1.out; unfold okF at h; simp at h; omega
      rcases hq with q1 | ⟨q1, q2⟩ | ⟨q1, q2, q3⟩
      · go_wp2
        go_ret
        first | exact ⟨ret_str (by rw [← HR.out]; unfold wrongR; simp [H0.out, H1.out]), (Gr.refl w).alloc _⟩ | exact ⟨ret_str (by rw [← HR.out]; unfold wrongR; simp [H0.out, H1.out]), ((Gr.refl w).alloc _).alloc _⟩
      · go_wp2
        go_ret
        first | exact ⟨ret_str (by rw [← HR.out]; unfold wrongR; simp [H0.out, H1.out]), (Gr.refl w).alloc _⟩ | exact ⟨ret_str (by rw [← HR.out]; unfold wrongR; simp [H0.out, H1.out]), ((Gr.refl w).alloc _).alloc _⟩
      · go_wp2
        go_ret
        first | exact ⟨ret_str (by rw [← HR.out]; unfold wrongR; simp [H0.out, H1.out]), (Gr.refl w).alloc _⟩ | exact ⟨ret_str (by rw [← HR.out]; unfold wrongR; simp [H0.out, H1.out]), ((Gr.refl w).alloc _).alloc _⟩
    | true =>
      have H1 := Lib.hid h1; clear h1
      have f1 : 0 ≤ c.f := by have h := H1.out; unfold okF at h; simp at h; omega
      have f2 : c.f ≤ 5 := by have h := H1.out; unfold okF at h; simp at h; omega
      have f3 : 3 * c.f + 1 ≤ c.n := by have h := H1.out; unfold okF at h; simp at h; omega
      go_wp2_with fail
      cases h2 : inR c.m 1 4 with
      | false =>
        refine (in_false c.m 1 4 h2 _).mono ?_; rintro e w' ⟨rfl, rfl⟩
        have H2 := Lib.hid h2; clear h2
        go_wp2
        go_ret
        first | exact ⟨ret_str (by rw [← HR.out]; unfold wrongR; simp [H0.out, H1.out, H2.out]), (Gr.refl w).alloc _⟩ | exact ⟨ret_str (by rw [← HR.out]; unfold wrongR; simp [H0.out, H1.out, H2.out]), ((Gr.refl w).alloc _).alloc _⟩
      | true =>
        refine (in_true c.m 1 4 h2 _).mono ?_; rintro e w' ⟨rfl, rfl⟩
        have H2 := Lib.hid h2; clear h2
        go_wp2_with fail
        cases h3 : inR c.q (2 * c.f + 1) c.n with
        | false =>
          refine (in_false c.q (2 * c.f + 1) c.n h3 _).mono ?_; rintro e w' ⟨rfl, rfl⟩
          have H3 := Lib.hid h3; clear h3
          go_wp2
          go_ret
          first | exact ⟨ret_str (by rw [← HR.out]; unfold wrongR; simp [H0.out, H1.out, H2.out, H3.out]), (Gr.refl w).alloc _⟩ | exact ⟨ret_str (by rw [← HR.out]; unfold wrongR; simp [H0.out, H1.out, H2.out, H3.out]), ((Gr.refl w).alloc _).alloc _⟩
        | true =>
          refine (in_true c.q (2 * c.f + 1) c.n h3 _).mono ?_; rintro e w' ⟨rfl, rfl⟩
          have H3 := Lib.hid h3; clear h3
          go_wp2_with fail
          cases h4 : inR c.fresh 1 8 with
          | false =>
            refine (in_false c.fresh 1 8 h4 _).mono ?_; rintro e w' ⟨rfl, rfl⟩
            have H4 := Lib.hid h4; clear h4
            go_wp2
            go_ret
            first | exact ⟨ret_str (by rw [← HR.out]; unfold wrongR; simp [H0.out, H1.out, H2.out, H3.out, H4.out]), (Gr.refl w).alloc _⟩ | exact ⟨ret_str (by rw [← HR.out]; unfold wrongR; simp [H0.out, H1.out, H2.out, H3.out, H4.out]), ((Gr.refl w).alloc _).alloc _⟩
          | true =>
            refine (in_true c.fresh 1 8 h4 _).mono ?_; rintro e w' ⟨rfl, rfl⟩
            have H4 := Lib.hid h4; clear h4
            go_wp2_with fail
            cases h5 : inR c.grace 1 100 with
            | false =>
              refine (in_false c.grace 1 100 h5 _).mono ?_; rintro e w' ⟨rfl, rfl⟩
              have H5 := Lib.hid h5; clear h5
              go_wp2
              go_ret
              first | exact ⟨ret_str (by rw [← HR.out]; unfold wrongR; simp [H0.out, H1.out, H2.out, H3.out, H4.out, H5.out]), (Gr.refl w).alloc _⟩ | exact ⟨ret_str (by rw [← HR.out]; unfold wrongR; simp [H0.out, H1.out, H2.out, H3.out, H4.out, H5.out]), ((Gr.refl w).alloc _).alloc _⟩
            | true =>
              refine (in_true c.grace 1 100 h5 _).mono ?_; rintro e w' ⟨rfl, rfl⟩
              have H5 := Lib.hid h5; clear h5
              go_wp2_with fail
              cases h6 : inR c.window 1 64 with
              | false =>
                refine (in_false c.window 1 64 h6 _).mono ?_; rintro e w' ⟨rfl, rfl⟩
                have H6 := Lib.hid h6; clear h6
                go_wp2
                go_ret
                first | exact ⟨ret_str (by rw [← HR.out]; unfold wrongR; simp [H0.out, H1.out, H2.out, H3.out, H4.out, H5.out, H6.out]), (Gr.refl w).alloc _⟩ | exact ⟨ret_str (by rw [← HR.out]; unfold wrongR; simp [H0.out, H1.out, H2.out, H3.out, H4.out, H5.out, H6.out]), ((Gr.refl w).alloc _).alloc _⟩
              | true =>
                refine (in_true c.window 1 64 h6 _).mono ?_; rintro e w' ⟨rfl, rfl⟩
                have H6 := Lib.hid h6; clear h6
                go_wp2_with fail
                cases h7 : targetsB c with
                | false =>
                  refine (r_targets_core c _ h7 _).mono ?_; rintro e w' ⟨rfl, rfl⟩
                  have H7 := Lib.hid h7; clear h7
                  go_wp2
                  go_ret
                  first | exact ⟨ret_str (by rw [← HR.out]; unfold wrongR; simp [H0.out, H1.out, H2.out, H3.out, H4.out, H5.out, H6.out, H7.out]), (Gr.refl w).alloc _⟩ | exact ⟨ret_str (by rw [← HR.out]; unfold wrongR; simp [H0.out, H1.out, H2.out, H3.out, H4.out, H5.out, H6.out, H7.out]), ((Gr.refl w).alloc _).alloc _⟩
                | true =>
                  refine (r_targets_core c _ h7 _).mono ?_; rintro e w' ⟨rfl, rfl⟩
                  have H7 := Lib.hid h7; clear h7
                  go_wp2_with fail
                  cases h8 : inR c.tol 0 1000 with
                  | false =>
                    refine (in_false c.tol 0 1000 h8 _).mono ?_; rintro e w' ⟨rfl, rfl⟩
                    have H8 := Lib.hid h8; clear h8
                    go_wp2
                    go_ret
                    first | exact ⟨ret_str (by rw [← HR.out]; unfold wrongR; simp [H0.out, H1.out, H2.out, H3.out, H4.out, H5.out, H6.out, H7.out, H8.out]), (Gr.refl w).alloc _⟩ | exact ⟨ret_str (by rw [← HR.out]; unfold wrongR; simp [H0.out, H1.out, H2.out, H3.out, H4.out, H5.out, H6.out, H7.out, H8.out]), ((Gr.refl w).alloc _).alloc _⟩
                  | true =>
                    refine (in_true c.tol 0 1000 h8 _).mono ?_; rintro e w' ⟨rfl, rfl⟩
                    have H8 := Lib.hid h8; clear h8
                    go_wp2_with fail
                    cases h9 : inR c.lo 1 10000 with
                    | false =>
                      refine (in_false c.lo 1 10000 h9 _).mono ?_; rintro e w' ⟨rfl, rfl⟩
                      have H9 := Lib.hid h9; clear h9
                      go_wp2
                      go_ret
                      first | exact ⟨ret_str (by rw [← HR.out]; unfold wrongR; simp [H0.out, H1.out, H2.out, H3.out, H4.out, H5.out, H6.out, H7.out, H8.out, H9.out]), (Gr.refl w).alloc _⟩ | exact ⟨ret_str (by rw [← HR.out]; unfold wrongR; simp [H0.out, H1.out, H2.out, H3.out, H4.out, H5.out, H6.out, H7.out, H8.out, H9.out]), ((Gr.refl w).alloc _).alloc _⟩
                    | true =>
                      refine (in_true c.lo 1 10000 h9 _).mono ?_; rintro e w' ⟨rfl, rfl⟩
                      have H9 := Lib.hid h9; clear h9
                      go_wp2_with fail
                      cases h10 : inR c.hi c.lo 10000 with
                      | false =>
                        refine (in_false c.hi c.lo 10000 h10 _).mono ?_; rintro e w' ⟨rfl, rfl⟩
                        have H10 := Lib.hid h10; clear h10
                        go_wp2
                        go_ret
                        first | exact ⟨ret_str (by rw [← HR.out]; unfold wrongR; simp [H0.out, H1.out, H2.out, H3.out, H4.out, H5.out, H6.out, H7.out, H8.out, H9.out, H10.out]), (Gr.refl w).alloc _⟩ | exact ⟨ret_str (by rw [← HR.out]; unfold wrongR; simp [H0.out, H1.out, H2.out, H3.out, H4.out, H5.out, H6.out, H7.out, H8.out, H9.out, H10.out]), ((Gr.refl w).alloc _).alloc _⟩
                      | true =>
                        refine (in_true c.hi c.lo 10000 h10 _).mono ?_; rintro e w' ⟨rfl, rfl⟩
                        have H10 := Lib.hid h10; clear h10
                        go_wp2_with fail
                        cases h11 : inR c.cup 0 60 with
                        | false =>
                          refine (in_false c.cup 0 60 h11 _).mono ?_; rintro e w' ⟨rfl, rfl⟩
                          have H11 := Lib.hid h11; clear h11
                          go_wp2
                          go_ret
                          first | exact ⟨ret_str (by rw [← HR.out]; unfold wrongR; simp [H0.out, H1.out, H2.out, H3.out, H4.out, H5.out, H6.out, H7.out, H8.out, H9.out, H10.out, H11.out]), (Gr.refl w).alloc _⟩ | exact ⟨ret_str (by rw [← HR.out]; unfold wrongR; simp [H0.out, H1.out, H2.out, H3.out, H4.out, H5.out, H6.out, H7.out, H8.out, H9.out, H10.out, H11.out]), ((Gr.refl w).alloc _).alloc _⟩
                        | true =>
                          refine (in_true c.cup 0 60 h11 _).mono ?_; rintro e w' ⟨rfl, rfl⟩
                          have H11 := Lib.hid h11; clear h11
                          go_wp2_with fail
                          cases h12 : inR c.cdn 0 60 with
                          | false =>
                            refine (in_false c.cdn 0 60 h12 _).mono ?_; rintro e w' ⟨rfl, rfl⟩
                            have H12 := Lib.hid h12; clear h12
                            go_wp2
                            go_ret
                            first | exact ⟨ret_str (by rw [← HR.out]; unfold wrongR; simp [H0.out, H1.out, H2.out, H3.out, H4.out, H5.out, H6.out, H7.out, H8.out, H9.out, H10.out, H11.out, H12.out]), (Gr.refl w).alloc _⟩ | exact ⟨ret_str (by rw [← HR.out]; unfold wrongR; simp [H0.out, H1.out, H2.out, H3.out, H4.out, H5.out, H6.out, H7.out, H8.out, H9.out, H10.out, H11.out, H12.out]), ((Gr.refl w).alloc _).alloc _⟩
                          | true =>
                            refine (in_true c.cdn 0 60 h12 _).mono ?_; rintro e w' ⟨rfl, rfl⟩
                            have H12 := Lib.hid h12; clear h12
                            go_wp2_with fail
                            cases h13 : inR c.pup 1 1000 with
                            | false =>
                              refine (in_false c.pup 1 1000 h13 _).mono ?_; rintro e w' ⟨rfl, rfl⟩
                              have H13 := Lib.hid h13; clear h13
                              go_wp2
                              go_ret
                              first | exact ⟨ret_str (by rw [← HR.out]; unfold wrongR; simp [H0.out, H1.out, H2.out, H3.out, H4.out, H5.out, H6.out, H7.out, H8.out, H9.out, H10.out, H11.out, H12.out, H13.out]), (Gr.refl w).alloc _⟩ | exact ⟨ret_str (by rw [← HR.out]; unfold wrongR; simp [H0.out, H1.out, H2.out, H3.out, H4.out, H5.out, H6.out, H7.out, H8.out, H9.out, H10.out, H11.out, H12.out, H13.out]), ((Gr.refl w).alloc _).alloc _⟩
                            | true =>
                              refine (in_true c.pup 1 1000 h13 _).mono ?_; rintro e w' ⟨rfl, rfl⟩
                              have H13 := Lib.hid h13; clear h13
                              go_wp2_with fail
                              cases h14 : inR c.tup 1 1000 with
                              | false =>
                                refine (in_false c.tup 1 1000 h14 _).mono ?_; rintro e w' ⟨rfl, rfl⟩
                                have H14 := Lib.hid h14; clear h14
                                go_wp2
                                go_ret
                                first | exact ⟨ret_str (by rw [← HR.out]; unfold wrongR; simp [H0.out, H1.out, H2.out, H3.out, H4.out, H5.out, H6.out, H7.out, H8.out, H9.out, H10.out, H11.out, H12.out, H13.out, H14.out]), (Gr.refl w).alloc _⟩ | exact ⟨ret_str (by rw [← HR.out]; unfold wrongR; simp [H0.out, H1.out, H2.out, H3.out, H4.out, H5.out, H6.out, H7.out, H8.out, H9.out, H10.out, H11.out, H12.out, H13.out, H14.out]), ((Gr.refl w).alloc _).alloc _⟩
                              | true =>
                                refine (in_true c.tup 1 1000 h14 _).mono ?_; rintro e w' ⟨rfl, rfl⟩
                                have H14 := Lib.hid h14; clear h14
                                go_wp2_with fail
                                cases h15 : inR c.pdn 1 1000 with
                                | false =>
                                  refine (in_false c.pdn 1 1000 h15 _).mono ?_; rintro e w' ⟨rfl, rfl⟩
                                  have H15 := Lib.hid h15; clear h15
                                  go_wp2
                                  go_ret
                                  first | exact ⟨ret_str (by rw [← HR.out]; unfold wrongR; simp [H0.out, H1.out, H2.out, H3.out, H4.out, H5.out, H6.out, H7.out, H8.out, H9.out, H10.out, H11.out, H12.out, H13.out, H14.out, H15.out]), (Gr.refl w).alloc _⟩ | exact ⟨ret_str (by rw [← HR.out]; unfold wrongR; simp [H0.out, H1.out, H2.out, H3.out, H4.out, H5.out, H6.out, H7.out, H8.out, H9.out, H10.out, H11.out, H12.out, H13.out, H14.out, H15.out]), ((Gr.refl w).alloc _).alloc _⟩
                                | true =>
                                  refine (in_true c.pdn 1 1000 h15 _).mono ?_; rintro e w' ⟨rfl, rfl⟩
                                  have H15 := Lib.hid h15; clear h15
                                  go_wp2_with fail
                                  cases h16 : inR c.tdn 1 100 with
                                  | false =>
                                    refine (in_false c.tdn 1 100 h16 _).mono ?_; rintro e w' ⟨rfl, rfl⟩
                                    have H16 := Lib.hid h16; clear h16
                                    go_wp2
                                    go_ret
                                    first | exact ⟨ret_str (by rw [← HR.out]; unfold wrongR; simp [H0.out, H1.out, H2.out, H3.out, H4.out, H5.out, H6.out, H7.out, H8.out, H9.out, H10.out, H11.out, H12.out, H13.out, H14.out, H15.out, H16.out]), (Gr.refl w).alloc _⟩ | exact ⟨ret_str (by rw [← HR.out]; unfold wrongR; simp [H0.out, H1.out, H2.out, H3.out, H4.out, H5.out, H6.out, H7.out, H8.out, H9.out, H10.out, H11.out, H12.out, H13.out, H14.out, H15.out, H16.out]), ((Gr.refl w).alloc _).alloc _⟩
                                  | true =>
                                    refine (in_true c.tdn 1 100 h16 _).mono ?_; rintro e w' ⟨rfl, rfl⟩
                                    have H16 := Lib.hid h16; clear h16
                                    go_wp2_with fail
                                    cases h17 : inR c.per 1 60 with
                                    | false =>
                                      refine (in_false c.per 1 60 h17 _).mono ?_; rintro e w' ⟨rfl, rfl⟩
                                      have H17 := Lib.hid h17; clear h17
                                      go_wp2
                                      go_ret
                                      first | exact ⟨ret_str (by rw [← HR.out]; unfold wrongR; simp [H0.out, H1.out, H2.out, H3.out, H4.out, H5.out, H6.out, H7.out, H8.out, H9.out, H10.out, H11.out, H12.out, H13.out, H14.out, H15.out, H16.out, H17.out]), (Gr.refl w).alloc _⟩ | exact ⟨ret_str (by rw [← HR.out]; unfold wrongR; simp [H0.out, H1.out, H2.out, H3.out, H4.out, H5.out, H6.out, H7.out, H8.out, H9.out, H10.out, H11.out, H12.out, H13.out, H14.out, H15.out, H16.out, H17.out]), ((Gr.refl w).alloc _).alloc _⟩
                                    | true =>
                                      refine (in_true c.per 1 60 h17 _).mono ?_; rintro e w' ⟨rfl, rfl⟩
                                      have H17 := Lib.hid h17; clear h17
                                      cases h18 : inR c.far 0 1099511627776 with
                                      | false =>
                                        have H18 := Lib.hid h18; clear h18
                                        have hq : c.far < 0 ∨ 0 ≤ c.far ∧ 1099511627776 < c.far := by have h := H18.out; unfold inR at h; simp at h; omega
                                        rcases hq with q1 | ⟨q1, q2⟩
                                        · go_wp2
                                          go_ret
                                          first | exact ⟨ret_str (by rw [← HR.out]; unfold wrongR; simp [H0.out, H1.out, H2.out, H3.out, H4.out, H5.out, H6.out, H7.out, H8.out, H9.out, H10.out, H11.out, H12.out, H13.out, H14.out, H15.out, H16.out, H17.out, H18.out]), (Gr.refl w).alloc _⟩ | exact ⟨ret_str (by rw [← HR.out]; unfold wrongR; simp [H0.out, H1.out, H2.out, H3.out, H4.out, H5.out, H6.out, H7.out, H8.out, H9.out, H10.out, H11.out, H12.out, H13.out, H14.out, H15.out, H16.out, H17.out, H18.out]), ((Gr.refl w).alloc _).alloc _⟩
                                        · go_wp2
                                          go_ret
                                          first | exact ⟨ret_str (by rw [← HR.out]; unfold wrongR; simp [H0.out, H1.out, H2.out, H3.out, H4.out, H5.out, H6.out, H7.out, H8.out, H9.out, H10.out, H11.out, H12.out, H13.out, H14.out, H15.out, H16.out, H17.out, H18.out]), (Gr.refl w).alloc _⟩ | exact ⟨ret_str (by rw [← HR.out]; unfold wrongR; simp [H0.out, H1.out, H2.out, H3.out, H4.out, H5.out, H6.out, H7.out, H8.out, H9.out, H10.out, H11.out, H12.out, H13.out, H14.out, H15.out, H16.out, H17.out, H18.out]), ((Gr.refl w).alloc _).alloc _⟩
                                      | true =>
                                        have H18 := Lib.hid h18; clear h18
                                        have r1 : 0 ≤ c.far := by have h := H18.out; unfold inR at h; simp at h; omega
                                        have r2 : c.far ≤ 1099511627776 := by have h := H18.out; unfold inR at h; simp at h; omega
                                        go_wp2_with fail
                                        cases h19 : inR c.str 1 100 with
                                        | false =>
                                          refine (in_false c.str 1 100 h19 _).mono ?_; rintro e w' ⟨rfl, rfl⟩
                                          have H19 := Lib.hid h19; clear h19
                                          go_wp2
                                          go_ret
                                          first | exact ⟨ret_str (by rw [← HR.out]; unfold wrongR; simp [H0.out, H1.out, H2.out, H3.out, H4.out, H5.out, H6.out, H7.out, H8.out, H9.out, H10.out, H11.out, H12.out, H13.out, H14.out, H15.out, H16.out, H17.out, H18.out, H19.out]), (Gr.refl w).alloc _⟩ | exact ⟨ret_str (by rw [← HR.out]; unfold wrongR; simp [H0.out, H1.out, H2.out, H3.out, H4.out, H5.out, H6.out, H7.out, H8.out, H9.out, H10.out, H11.out, H12.out, H13.out, H14.out, H15.out, H16.out, H17.out, H18.out, H19.out]), ((Gr.refl w).alloc _).alloc _⟩
                                        | true =>
                                          refine (in_true c.str 1 100 h19 _).mono ?_; rintro e w' ⟨rfl, rfl⟩
                                          have H19 := Lib.hid h19; clear h19
                                          go_wp2_with fail
                                          cases h20 : inR c.pro 1 100 with
                                          | false =>
                                            refine (in_false c.pro 1 100 h20 _).mono ?_; rintro e w' ⟨rfl, rfl⟩
                                            have H20 := Lib.hid h20; clear h20
                                            go_wp2
                                            go_ret
                                            first | exact ⟨ret_str (by rw [← HR.out]; unfold wrongR; simp [H0.out, H1.out, H2.out, H3.out, H4.out, H5.out, H6.out, H7.out, H8.out, H9.out, H10.out, H11.out, H12.out, H13.out, H14.out, H15.out, H16.out, H17.out, H18.out, H19.out, H20.out]), (Gr.refl w).alloc _⟩ | exact ⟨ret_str (by rw [← HR.out]; unfold wrongR; simp [H0.out, H1.out, H2.out, H3.out, H4.out, H5.out, H6.out, H7.out, H8.out, H9.out, H10.out, H11.out, H12.out, H13.out, H14.out, H15.out, H16.out, H17.out, H18.out, H19.out, H20.out]), ((Gr.refl w).alloc _).alloc _⟩
                                          | true =>
                                            refine (in_true c.pro 1 100 h20 _).mono ?_; rintro e w' ⟨rfl, rfl⟩
                                            have H20 := Lib.hid h20; clear h20
                                            go_wp2_with fail
                                            cases h21 : inR c.sec 64 4096 with
                                            | false =>
                                              refine (in_false c.sec 64 4096 h21 _).mono ?_; rintro e w' ⟨rfl, rfl⟩
                                              have H21 := Lib.hid h21; clear h21
                                              go_wp2
                                              go_ret
                                              first | exact ⟨ret_str (by rw [← HR.out]; unfold wrongR; simp [H0.out, H1.out, H2.out, H3.out, H4.out, H5.out, H6.out, H7.out, H8.out, H9.out, H10.out, H11.out, H12.out, H13.out, H14.out, H15.out, H16.out, H17.out, H18.out, H19.out, H20.out, H21.out]), (Gr.refl w).alloc _⟩ | exact ⟨ret_str (by rw [← HR.out]; unfold wrongR; simp [H0.out, H1.out, H2.out, H3.out, H4.out, H5.out, H6.out, H7.out, H8.out, H9.out, H10.out, H11.out, H12.out, H13.out, H14.out, H15.out, H16.out, H17.out, H18.out, H19.out, H20.out, H21.out]), ((Gr.refl w).alloc _).alloc _⟩
                                            | true =>
                                              refine (in_true c.sec 64 4096 h21 _).mono ?_; rintro e w' ⟨rfl, rfl⟩
                                              have H21 := Lib.hid h21; clear h21
                                              go_wp2
                                              go_ret
                                              first | exact ⟨ret_str (by rw [← HR.out]; unfold wrongR; simp [H0.out, H1.out, H2.out, H3.out, H4.out, H5.out, H6.out, H7.out, H8.out, H9.out, H10.out, H11.out, H12.out, H13.out, H14.out, H15.out, H16.out, H17.out, H18.out, H19.out, H20.out, H21.out]), (Gr.refl w).alloc _⟩ | exact ⟨ret_str (by rw [← HR.out]; unfold wrongR; simp [H0.out, H1.out, H2.out, H3.out, H4.out, H5.out, H6.out, H7.out, H8.out, H9.out, H10.out, H11.out, H12.out, H13.out, H14.out, H15.out, H16.out, H17.out, H18.out, H19.out, H20.out, H21.out]), ((Gr.refl w).alloc _).alloc _⟩
end Go.Proofs.Ytjobicffdcnnlaa
/- The plain law of conf: the program's parts say what the document says. -/
namespace Go.Proofs.Ytjobicffdcnnlaa
open Go Go.RowKit

theorem bad_in (nm : ByteArray) (a lo hi : Int) : badP ⟨nm, a, lo, hi⟩ = !inR a lo hi := by
  unfold badP inR
  by_cases h1 : lo ≤ a <;> by_cases h2 : a ≤ hi <;> simp [h1, h2] <;> omega
theorem wrap64_id {x : Int} (h1 : -9223372036854775808 ≤ x) (h2 : x ≤ 9223372036854775807) : wrap64 x = x := by unfold wrap64; omega
theorem bad_f {c : CF} (nm : ByteArray) (h : inR c.n 1 16 = true) : badP ⟨nm, c.f, 0, fHi c.n⟩ = !okF c := by
  have hn : 1 ≤ c.n ∧ c.n ≤ 16 := by unfold inR at h; simp at h; exact h
  have e : fHi c.n = (c.n - 1) / 3 := by
    unfold fHi
    rw [wrap64_id (x := c.n - 1) (by omega) (by omega), Int.tdiv_eq_ediv_of_nonneg (by omega), wrap64_id (by omega) (by omega)]
  rw [bad_in, e]
  unfold inR okF
  by_cases h1 : 0 ≤ c.f <;> by_cases h2 : c.f ≤ (c.n - 1) / 3 <;> by_cases h3 : c.f ≤ 5 <;> by_cases h4 : 3 * c.f + 1 ≤ c.n <;> simp [h1, h2, h3, h4] <;> omega
theorem bad_q {c : CF} (nm : ByteArray) (h : okF c = true) : badP ⟨nm, c.q, 2 * clampF c.f + 1, c.n⟩ = !inR c.q (2 * c.f + 1) c.n := by
  have hf : 0 ≤ c.f ∧ c.f ≤ 5 := by unfold okF at h; simp at h; exact ⟨h.1, h.2.1⟩
  have e : clampF c.f = c.f := by unfold clampF; omega
  rw [bad_in, e]
theorem bad_t (c : CF) (nm : ByteArray) : badP ⟨nm, targetsV c, 1, 1⟩ = !targetsB c := by
  unfold badP targetsV b01
  cases targetsB c <;> rfl

theorem wrong_cons (p : Part) (r : List Part) : wrongL (p :: r) = if badP p = true then p.name else wrongL r := rfl
theorem wrong_eq (c : CF) : wrongV c = wrongR c := by
  unfold wrongV wrongR partsL
  rw [wrong_cons, bad_in]
  cases h0 : inR c.n 1 16 with
  | false => rfl
  | true =>
    rw [wrong_cons, bad_f _ h0]
    cases h1 : okF c with
    | false => rfl
    | true =>
      rw [wrong_cons, bad_in, wrong_cons, bad_q _ h1, wrong_cons, bad_in, wrong_cons, bad_in, wrong_cons, bad_in, wrong_cons, bad_t, wrong_cons, bad_in, wrong_cons, bad_in, wrong_cons, bad_in, wrong_cons, bad_in, wrong_cons, bad_in,
        wrong_cons, bad_in, wrong_cons, bad_in, wrong_cons, bad_in, wrong_cons, bad_in, wrong_cons, bad_in, wrong_cons, bad_in, wrong_cons, bad_in, wrong_cons, bad_in, wrong_cons, bad_in]
      simp only [Bool.not_eq_true', Bool.true_eq_false, if_false]
      rfl

theorem rates_eq (c : CF) : ratesC c = mayRatesR c := by
  unfold ratesC
  rw [ratesFrom_skip (by decide), ratesFrom_skip (by decide), ratesFrom_skip (by decide), ratesFrom_skip (by decide), ratesFrom_skip (by decide), ratesFrom_skip (by decide), ratesFrom_skip (by decide), ratesFrom_skip (by decide), ratesFrom_skip (by decide),
    ratesFrom_step (p := ⟨⟨#[109, 105, 110]⟩, c.lo, 1, 10000⟩) (by decide) rfl, ratesFrom_step (p := ⟨⟨#[109, 97, 120]⟩, c.hi, c.lo, 10000⟩) (by decide) rfl, ratesFrom_skip (by decide), ratesFrom_skip (by decide),
    ratesFrom_step (p := ⟨⟨#[112, 111, 100, 115, 117, 112]⟩, c.pup, 1, 1000⟩) (by decide) rfl, ratesFrom_step (p := ⟨⟨#[112, 99, 116, 117, 112]⟩, c.tup, 1, 1000⟩) (by decide) rfl, ratesFrom_step (p := ⟨⟨#[112, 111, 100, 115, 100, 111, 119, 110]⟩, c.pdn, 1, 1000⟩) (by decide) rfl, ratesFrom_step (p := ⟨⟨#[112, 99, 116, 100, 111, 119, 110]⟩, c.tdn, 1, 100⟩) (by decide) rfl, ratesFrom_step (p := ⟨⟨#[112, 101, 114, 105, 111, 100]⟩, c.per, 1, 60⟩) (by decide) rfl,
    ratesFrom_skip (by decide), ratesFrom_skip (by decide), ratesFrom_skip (by decide), ratesFrom_skip (by decide)]
  simp only [bad_in, Bool.not_not, ratesFrom, Bool.and_true]
  rfl
end Go.Proofs.Ytjobicffdcnnlaa
namespace Go.Proofs.Ytjobicffdcnnlaa
open Go.RowKit
set_option linter.unusedSimpArgs false
set_option linter.unusedVariables false

theorem wrongR_may (c : CF) : (mayC c = true → wrongR c = ⟨#[]⟩) ∧ (mayC c = false → (wrongR c).data.toList ≠ []) := by
  rw [← wrong_eq]
  exact wrongL_may (partsL c) (names_ne c)

theorem mayConf_any (c : CF) (w : World) : Calls Try.prog 36 #[.agg #[.int .i64 c.n, .int .i64 c.f, .int .i64 c.m, .int .i64 c.q, .int .i64 c.fresh, .int .i64 c.grace, .int .i64 c.window, .int .i64 c.t0, .int .i64 c.t1, .int .i64 c.t2, .int .i64 c.t3, .int .i64 c.tol, .int .i64 c.lo, .int .i64 c.hi, .int .i64 c.cup, .int .i64 c.cdn, .int .i64 c.pup, .int .i64 c.tup, .int .i64 c.pdn, .int .i64 c.tdn, .int .i64 c.per, .int .i64 c.far, .int .i64 c.str, .int .i64 c.pro, .int .i64 c.sec, .int .u64 c.seed]] w fun e w' => e = .returned (.bool (mayC c)) ∧ Gr w w' := by
  have hw := fun w => r_wrong_any c w
  obtain ⟨h1, h2⟩ := wrongR_may c
  cases hm : mayC c with
  | true =>
    have hr := h1 hm
    rw [hr] at hw
    clear h1 h2 hm hr
    have HW := Lib.hid hw; clear hw
    go_enter Try.func36, Try.ntmps36
    go_wp2_with fail
    refine (HW.out _).mono ?_
    rintro e w1 ⟨rfl, hg⟩
    have hgr : Gr w w1 := ((Gr.refl w).alloc _).trans hg
    clear hg
    go_wp2
    go_ret
    exact ⟨rfl, hgr⟩
  | false =>
    have hr := h2 hm
    generalize wrongR c = r at *
    clear h1 h2 hm
    have hn1 : r.toList.isEmpty = false := by
      rw [ByteArray.toList_eq]; simpa using hr
    have HW := Lib.hid hw; clear hw
    go_enter Try.func36, Try.ntmps36
    go_wp2_with fail
    refine (HW.out _).mono ?_
    rintro e w1 ⟨rfl, hg⟩
    have hgr : Gr w w1 := ((Gr.refl w).alloc _).trans hg
    clear hg HW
    go_wp2
    go_ret
    exact ⟨rfl, hgr⟩

/-- A quiet call in the class of the worlds that have grown. -/
theorem q_gr {P : Program} {f : FuncId} {args : Array Value} {W : World} {v : Value} {s : Gw W} (h : Calls P f args s.val fun e w' => e = .returned v ∧ Gr s.val w') :
    Calls P f args s.val fun e w'' => e = .returned v ∧ ∃ s' : Gw W, w'' = s'.val :=
  h.mono fun _ w' ⟨he, hg⟩ => ⟨he, ⟨w', s.ok.trans (hg.out.mono s.ok.size)⟩, rfl⟩
theorem Gw.gr {w : World} (s : Gw w) : Gr w s.val := ⟨s.ok⟩
theorem Gw.conf {W : World} (s : Gw W) {b : Nat} {cs : Array Value} {fr : Nat × Nat} (h : W.heap[b]? = some (.cells cs 36 fr)) (hs : cs.size = 26) : conf36? s.val ⟨b, 0, none⟩ = some cs := conf36_of (s.gr.block h) hs

theorem wpList_enter {P : Program} {ops : Array Oper} {Q : Exit → Act → World → Prop} {rest : List Oper} {o : Oper} {a : Act} {w : World} {R : World → Prop} (f : FuncId) (args : Array Value) (v : Value) (hg : o.guard = none)
    (h : (execOp a.eval o).run P w = .ok (.enter f args) w) (hc : Calls P f args w fun e w' => e = .returned v ∧ R w') (k : ∀ w', R w' → wpList P ops Q rest (a.put o.dst v) w') : wpList P ops Q (o :: rest) a w :=
  wpList_plain hg fun K hK => by
    unfold Oper.wp
    rw [h, Oper.upon_enter]
    exact hc.mono fun e w' ⟨he, hr⟩ => by subst he; exact hK _ _ (k w' hr)

theorem xload36_of {a : Act} {x : Operand} {w : World} {p : Addr} {cs : Array Value} {t' : TypeId} {ps : String} {af : Array Edge} {g : Option (Nat × Bool)} {dst : Option Tmp} (hp : a.eval x = .pointer (some p)) (hc : conf36? w p = some cs) :
    (execOp a.eval { dst, op := .load 36 x, type := t', pos := ps, after := af, guard := g }).run Try.prog w = .ok (.value (.agg cs)) w := by
  rw [xload36 a x dst t' ps af g w (by rw [hp]; rfl) (by rw [hp]; show (conf36? w p).isSome = true; rw [hc]; rfl), hp]
  show Result.ok (Next.value (.agg ((conf36? w p).getD #[]))) w = _
  rw [hc]; rfl

theorem set_block {w : World} {b off : Nat} {cs : Array Value} {t : TypeId} {fr : Nat × Nat} {v : Value} (h : w.heap[b]? = some (.cells cs t fr)) : (w.setCell ⟨b, off, none⟩ v).heap[b]? = some (.cells (cs.setIfInBounds off v) t fr) := by
  simp [World.setCell, Array.getElem?_modify, h]
theorem cell_in {w : World} {b off : Nat} {cs : Array Value} {t : TypeId} {fr : Nat × Nat} {v : Value} (h : w.heap[b]? = some (.cells cs t fr)) (hv : cs[off]? = some v) : w.cell? ⟨b, off, none⟩ = some v := by
  simp [World.cell?, h, hv]
theorem frozen_in {w : World} {b off : Nat} {cs : Array Value} {t : TypeId} (h : w.heap[b]? = some (.cells cs t)) : w.frozen? ⟨b, off, none⟩ = false := by
  simp [World.frozen?, h]
theorem wp_region_quiet_gw {P : Program} {id : Nat} {Q : Exit → Act → World → Prop} {a : Act} {w : World} {l : List Oper} (hm : P.follows .mixedOrders = true) (hB : Region.lexB .any l.toArray = true)
    (h : wpQuiet P l.toArray (fun w' => ∃ s : Gw w, w' = s.val) (fun a' => ∀ s : Gw w, Q .normal a' s.val) l a) : (Code.region id l.toArray true).wp P Q a w :=
  wp_region_quiet (C := fun w' => ∃ s : Gw w, w' = s.val) hm hB ⟨⟨_, (Below.refl _ _).drew⟩, rfl⟩ (by
    have : (fun a' => ∀ w', (∃ s : Gw w, w' = s.val) → Q .normal a' w') = (fun a' => ∀ s : Gw w, Q .normal a' s.val) := by
      funext a'; apply propext; exact ⟨fun h s => h _ ⟨s, rfl⟩, fun h w' ⟨s, e⟩ => e ▸ h s⟩
    rw [this]; exact h)
def tolS (t : CF) : CF := { t with tol := 1001 }
@[go_sem ↓] theorem xeql36 (a : Act) (x y : Operand) (dst : Option Tmp) (ty : TypeId) (pos : String) (after : Array Edge) (guard : Option (Nat × Bool)) (w : World) (hx : a.eval x = .agg #[.int .i64 dflt.n, .int .i64 dflt.f, .int .i64 dflt.m, .int .i64 dflt.q, .int .i64 dflt.fresh, .int .i64 dflt.grace, .int .i64 dflt.window, .int .i64 dflt.t0, .int .i64 dflt.t1, .int .i64 dflt.t2, .int .i64 dflt.t3, .int .i64 dflt.tol, .int .i64 dflt.lo, .int .i64 dflt.hi, .int .i64 dflt.cup, .int .i64 dflt.cdn, .int .i64 dflt.pup, .int .i64 dflt.tup, .int .i64 dflt.pdn, .int .i64 dflt.tdn, .int .i64 dflt.per, .int .i64 dflt.far, .int .i64 dflt.str, .int .i64 dflt.pro, .int .i64 dflt.sec, .int .u64 dflt.seed]) (hy : a.eval y = .agg #[.int .i64 dflt.n, .int .i64 dflt.f, .int .i64 dflt.m, .int .i64 dflt.q, .int .i64 dflt.fresh, .int .i64 dflt.grace, .int .i64 dflt.window, .int .i64 dflt.t0, .int .i64 dflt.t1, .int .i64 dflt.t2, .int .i64 dflt.t3, .int .i64 dflt.tol, .int .i64 dflt.lo, .int .i64 dflt.hi, .int .i64 dflt.cup, .int .i64 dflt.cdn, .int .i64 dflt.pup, .int .i64 dflt.tup, .int .i64 dflt.pdn, .int .i64 dflt.tdn, .int .i64 dflt.per, .int .i64 dflt.far, .int .i64 dflt.str, .int .i64 dflt.pro, .int .i64 dflt.sec, .int .u64 dflt.seed]) :
    (execOp a.eval { dst, op := .binOp .eql 36 x y 36, type := ty, pos, after, guard }).run Try.prog w = .ok (.value (.bool true)) w := by
  show (do let v ← (do eqGuard .eql 36 x y (a.eval x) (a.eval y); Go.binOp .eql 36 (a.eval x) (a.eval y)); pure (Next.value v) : Sem Next).run Try.prog w = _
  rw [hx, hy]
  kernel_rfl
def zeroC : CF := ⟨0,0,0,0,0,0,0,0,0,0,0,0,0,0,0,0,0,0,0,0,0,0,0,0,0,0⟩
theorem build36z (w : World) : (Instr.build 36 #[]).run Try.prog w = .ok (.agg zero36) w := by kernel_rfl
theorem may_dflt : mayC dflt = true := by decide +kernel
theorem wrong_zero : wrongV zeroC = ⟨#[110]⟩ := by decide +kernel
theorem wrong_tol : wrongV (tolS dflt) = ⟨#[116, 111, 108]⟩ := by decide +kernel
theorem honest_dflt : wrap64 (dflt.n - dflt.f) = 3 := by decide +kernel
theorem may_tol : mayC (tolS dflt) = false := by decide +kernel

set_option maxHeartbeats 2000000 in
set_option maxRecDepth 100000 in
theorem told3_any (w : World) : Calls Try.prog 39 #[] w fun e w' => e = .returned (.bool true) ∧ Gr w w' := by
  go_enter Try.func39, Try.ntmps39
  go_upto_region 1 with (fail)
  refine wp_region_lit ?_
  refine wpList_enter 38 #[] _ rfl (by kernel_rfl) (default_any w) fun w1 hg => ?_
  refine wpList_val (.pointer (some ⟨w1.heap.size, 0, none⟩)) (w1.alloc (.cells zero36 36)) rfl (xalloc36 ..) ?_
  refine wpList_skip' (w1.alloc (.cells #[.int .i64 dflt.n, .int .i64 dflt.f, .int .i64 dflt.m, .int .i64 dflt.q, .int .i64 dflt.fresh, .int .i64 dflt.grace, .int .i64 dflt.window, .int .i64 dflt.t0, .int .i64 dflt.t1, .int .i64 dflt.t2, .int .i64 dflt.t3, .int .i64 dflt.tol, .int .i64 dflt.lo, .int .i64 dflt.hi, .int .i64 dflt.cup, .int .i64 dflt.cdn, .int .i64 dflt.pup, .int .i64 dflt.tup, .int .i64 dflt.pdn, .int .i64 dflt.tdn, .int .i64 dflt.per, .int .i64 dflt.far, .int .i64 dflt.str, .int .i64 dflt.pro, .int .i64 dflt.sec, .int .u64 dflt.seed] 36)) rfl (xstore36_at rfl (by kernel_rfl) (by kernel_rfl) rfl rfl (by kernel_rfl)) ?_
  generalize h2 : w1.alloc (.cells #[.int .i64 dflt.n, .int .i64 dflt.f, .int .i64 dflt.m, .int .i64 dflt.q, .int .i64 dflt.fresh, .int .i64 dflt.grace, .int .i64 dflt.window, .int .i64 dflt.t0, .int .i64 dflt.t1, .int .i64 dflt.t2, .int .i64 dflt.t3, .int .i64 dflt.tol, .int .i64 dflt.lo, .int .i64 dflt.hi, .int .i64 dflt.cup, .int .i64 dflt.cdn, .int .i64 dflt.pup, .int .i64 dflt.tup, .int .i64 dflt.pdn, .int .i64 dflt.tdn, .int .i64 dflt.per, .int .i64 dflt.far, .int .i64 dflt.str, .int .i64 dflt.pro, .int .i64 dflt.sec, .int .u64 dflt.seed] 36) = w2
  have g2 : Gr w w2 := by rw [← h2]; exact hg.alloc _
  have b2 : w2.heap[w1.heap.size]? = some (.cells #[.int .i64 dflt.n, .int .i64 dflt.f, .int .i64 dflt.m, .int .i64 dflt.q, .int .i64 dflt.fresh, .int .i64 dflt.grace, .int .i64 dflt.window, .int .i64 dflt.t0, .int .i64 dflt.t1, .int .i64 dflt.t2, .int .i64 dflt.t3, .int .i64 dflt.tol, .int .i64 dflt.lo, .int .i64 dflt.hi, .int .i64 dflt.cup, .int .i64 dflt.cdn, .int .i64 dflt.pup, .int .i64 dflt.tup, .int .i64 dflt.pdn, .int .i64 dflt.tdn, .int .i64 dflt.per, .int .i64 dflt.far, .int .i64 dflt.str, .int .i64 dflt.pro, .int .i64 dflt.sec, .int .u64 dflt.seed] 36) := by rw [← h2]; exact heap_new rfl
  generalize w1.heap.size = b at *
  clear h2 hg
  go_upto_region 2 with (fail)
  refine wp_region_lit ?_
  refine wpList_val (.agg #[.int .i64 dflt.n, .int .i64 dflt.f, .int .i64 dflt.m, .int .i64 dflt.q, .int .i64 dflt.fresh, .int .i64 dflt.grace, .int .i64 dflt.window, .int .i64 dflt.t0, .int .i64 dflt.t1, .int .i64 dflt.t2, .int .i64 dflt.t3, .int .i64 dflt.tol, .int .i64 dflt.lo, .int .i64 dflt.hi, .int .i64 dflt.cup, .int .i64 dflt.cdn, .int .i64 dflt.pup, .int .i64 dflt.tup, .int .i64 dflt.pdn, .int .i64 dflt.tdn, .int .i64 dflt.per, .int .i64 dflt.far, .int .i64 dflt.str, .int .i64 dflt.pro, .int .i64 dflt.sec, .int .u64 dflt.seed]) w2 rfl (xload36_of rfl (conf36_of b2 rfl)) ?_
  refine wpList_val (.pointer (some ⟨w2.heap.size, 0, none⟩)) (w2.alloc (.cells zero36 36)) rfl (xalloc36 ..) ?_
  refine wpList_skip' (w2.alloc (.cells #[.int .i64 dflt.n, .int .i64 dflt.f, .int .i64 dflt.m, .int .i64 dflt.q, .int .i64 dflt.fresh, .int .i64 dflt.grace, .int .i64 dflt.window, .int .i64 dflt.t0, .int .i64 dflt.t1, .int .i64 dflt.t2, .int .i64 dflt.t3, .int .i64 dflt.tol, .int .i64 dflt.lo, .int .i64 dflt.hi, .int .i64 dflt.cup, .int .i64 dflt.cdn, .int .i64 dflt.pup, .int .i64 dflt.tup, .int .i64 dflt.pdn, .int .i64 dflt.tdn, .int .i64 dflt.per, .int .i64 dflt.far, .int .i64 dflt.str, .int .i64 dflt.pro, .int .i64 dflt.sec, .int .u64 dflt.seed] 36)) rfl (xstore36_at rfl (by kernel_rfl) (by kernel_rfl) rfl rfl (by kernel_rfl)) ?_
  have b3 := (Gr.refl w2).alloc (.cells #[.int .i64 dflt.n, .int .i64 dflt.f, .int .i64 dflt.m, .int .i64 dflt.q, .int .i64 dflt.fresh, .int .i64 dflt.grace, .int .i64 dflt.window, .int .i64 dflt.t0, .int .i64 dflt.t1, .int .i64 dflt.t2, .int .i64 dflt.t3, .int .i64 dflt.tol, .int .i64 dflt.lo, .int .i64 dflt.hi, .int .i64 dflt.cup, .int .i64 dflt.cdn, .int .i64 dflt.pup, .int .i64 dflt.tup, .int .i64 dflt.pdn, .int .i64 dflt.tdn, .int .i64 dflt.per, .int .i64 dflt.far, .int .i64 dflt.str, .int .i64 dflt.pro, .int .i64 dflt.sec, .int .u64 dflt.seed] 36)
  have b3 := b3.block b2
  have hne : w2.heap.size ≠ b := fun h => by have := (Array.getElem?_eq_some_iff.1 b2).1; omega
  have bd : (w2.alloc (.cells #[.int .i64 dflt.n, .int .i64 dflt.f, .int .i64 dflt.m, .int .i64 dflt.q, .int .i64 dflt.fresh, .int .i64 dflt.grace, .int .i64 dflt.window, .int .i64 dflt.t0, .int .i64 dflt.t1, .int .i64 dflt.t2, .int .i64 dflt.t3, .int .i64 dflt.tol, .int .i64 dflt.lo, .int .i64 dflt.hi, .int .i64 dflt.cup, .int .i64 dflt.cdn, .int .i64 dflt.pup, .int .i64 dflt.tup, .int .i64 dflt.pdn, .int .i64 dflt.tdn, .int .i64 dflt.per, .int .i64 dflt.far, .int .i64 dflt.str, .int .i64 dflt.pro, .int .i64 dflt.sec, .int .u64 dflt.seed] 36)).heap[w2.heap.size]? = some (.cells #[.int .i64 dflt.n, .int .i64 dflt.f, .int .i64 dflt.m, .int .i64 dflt.q, .int .i64 dflt.fresh, .int .i64 dflt.grace, .int .i64 dflt.window, .int .i64 dflt.t0, .int .i64 dflt.t1, .int .i64 dflt.t2, .int .i64 dflt.t3, .int .i64 dflt.tol, .int .i64 dflt.lo, .int .i64 dflt.hi, .int .i64 dflt.cup, .int .i64 dflt.cdn, .int .i64 dflt.pup, .int .i64 dflt.tup, .int .i64 dflt.pdn, .int .i64 dflt.tdn, .int .i64 dflt.per, .int .i64 dflt.far, .int .i64 dflt.str, .int .i64 dflt.pro, .int .i64 dflt.sec, .int .u64 dflt.seed] 36) := heap_new rfl
  generalize hd : w2.heap.size = d at *
  generalize h3 : w2.alloc (.cells #[.int .i64 dflt.n, .int .i64 dflt.f, .int .i64 dflt.m, .int .i64 dflt.q, .int .i64 dflt.fresh, .int .i64 dflt.grace, .int .i64 dflt.window, .int .i64 dflt.t0, .int .i64 dflt.t1, .int .i64 dflt.t2, .int .i64 dflt.t3, .int .i64 dflt.tol, .int .i64 dflt.lo, .int .i64 dflt.hi, .int .i64 dflt.cup, .int .i64 dflt.cdn, .int .i64 dflt.pup, .int .i64 dflt.tup, .int .i64 dflt.pdn, .int .i64 dflt.tdn, .int .i64 dflt.per, .int .i64 dflt.far, .int .i64 dflt.str, .int .i64 dflt.pro, .int .i64 dflt.sec, .int .u64 dflt.seed] 36) = w3 at *
  have g3 : Gr w w3 := by rw [← h3]; exact g2.alloc _
  have hdw : w.heap.size ≤ d := by rw [← hd]; exact g2.size
  clear h3 hd g2 b2
  have hc : w3.cell? ⟨d, 11, none⟩ = some (.int .i64 100) := cell_in bd rfl
  have hz : w3.frozen? ⟨d, 11, none⟩ = false := frozen_in bd
  go_upto_region 4 with (fail)
  clear hc hz
  have B3 := (Below.heap_setCell w3 ⟨d, 11, none⟩ (.int .i64 1001) b (Ne.symm hne)).trans b3
  have D3 := set_block (off := 11) (v := .int .i64 1001) bd
  have G4 : Gr w (w3.setCell ⟨d, 11, none⟩ (.int .i64 1001)) := ⟨g3.out.setCell hdw _⟩
  generalize w3.setCell ⟨d, 11, none⟩ (.int .i64 1001) = w4 at *
  clear b3 bd g3
  have D4 : w4.heap[d]? = some (.cells #[.int .i64 (tolS dflt).n, .int .i64 (tolS dflt).f, .int .i64 (tolS dflt).m, .int .i64 (tolS dflt).q, .int .i64 (tolS dflt).fresh, .int .i64 (tolS dflt).grace, .int .i64 (tolS dflt).window, .int .i64 (tolS dflt).t0, .int .i64 (tolS dflt).t1, .int .i64 (tolS dflt).t2, .int .i64 (tolS dflt).t3, .int .i64 (tolS dflt).tol, .int .i64 (tolS dflt).lo, .int .i64 (tolS dflt).hi, .int .i64 (tolS dflt).cup, .int .i64 (tolS dflt).cdn, .int .i64 (tolS dflt).pup, .int .i64 (tolS dflt).tup, .int .i64 (tolS dflt).pdn, .int .i64 (tolS dflt).tdn, .int .i64 (tolS dflt).per, .int .i64 (tolS dflt).far, .int .i64 (tolS dflt).str, .int .i64 (tolS dflt).pro, .int .i64 (tolS dflt).sec, .int .u64 (tolS dflt).seed] 36) := D3
  clear D3
  refine wp_region_quiet_gw (by kernel_rfl) (by kernel_rfl) ?_
  have c1 := fun s : Gw w4 => s.conf B3 rfl
  have c2 := fun s : Gw w4 => s.conf D4 rfl
  have hz := build36z
  go_big_quiet_step (fail)
  go_big_quiet_step (exact may_dflt ▸ q_gr (may_any_C dflt _))
  go_big_quiet_step (fail)
  go_big_quiet_step (fail)
  go_big_quiet_step (exact wrong_zero ▸ q_gr (wrong_any zeroC _))
  go_big_quiet_step (fail)
  go_big_quiet_step (fail)
  go_big_quiet_step (fail)
  go_big_quiet_step (fail)
  go_big_quiet_step (exact wrong_tol ▸ q_gr (wrong_any (tolS dflt) _))
  go_big_quiet_step (fail)
  go_big_quiet_step (fail)
  go_big_quiet_step (fail)
  go_big_quiet_step (fail)
  go_big_quiet_step (exact may_tol ▸ q_gr (may_any_C (tolS dflt) _))
  go_big_quiet_step (fail)
  go_big_quiet_step (fail)
  go_big_quiet_step (fail)
  go_big_quiet_step (fail)
  go_big_quiet_step (exact honest_dflt ▸ q_gr (honest_any dflt _))
  go_big_quiet_step (fail)
  go_big_quiet_step (fail)
  go_big_quiet_step (fail)
  go_big_quiet_step (fail)
  go_big_quiet_step (exact q_gr (r_default_any _))
  go_big_quiet_step (fail)
  go_big_quiet_step (fail)
  go_big_quiet_step (fail)
  refine wpQuiet_nil fun s => ?_
  go_wp2
  go_ret
  exact ⟨rfl, G4.trans s.gr⟩
end Go.Proofs.Ytjobicffdcnnlaa
