import Derived.Test.YtjobicffdcnnlaaC5
import Derived.Deep.WholeRow
import Derived.Laws.Rows
namespace Go.Proofs.Ytjobicffdcnnlaa
open Go.RowKit
set_option linter.unusedSimpArgs false
set_option linter.unusedVariables false

def dflt : CF := { n := 4, f := 1, m := 1, q := 3, fresh := 2, grace := 2, window := 32, t0 := 1000, t1 := 0, t2 := 0, t3 := 0, tol := 100, lo := 1, hi := 100, cup := 0, cdn := 3, pup := 4, tup := 100, pdn := 4, tdn := 50, per := 2, far := 100, str := 3, pro := 4, sec := 256, seed := 1 }

theorem wpList_val {P : Program} {ops : Array Oper} {Q : Exit → Act → World → Prop} {rest : List Oper} {o : Oper} {a : Act} {w : World} (v : Value) (w1 : World) (hg : o.guard = none)
    (h : (execOp a.eval o).run P w = .ok (.value v) w1) (k : wpList P ops Q rest (a.put o.dst v) w1) : wpList P ops Q (o :: rest) a w :=
  wpList_plain hg fun K hK => by unfold Oper.wp; rw [h]; exact hK _ _ k
theorem wpList_skip' {P : Program} {ops : Array Oper} {Q : Exit → Act → World → Prop} {rest : List Oper} {o : Oper} {a : Act} {w : World} (w1 : World) (hg : o.guard = none)
    (h : (execOp a.eval o).run P w = .ok .skip w1) (k : wpList P ops Q rest (a.put o.dst undef) w1) : wpList P ops Q (o :: rest) a w :=
  wpList_plain hg fun K hK => by unfold Oper.wp; rw [h]; exact hK _ _ k

def zero36 : Array Value := #[.int .i64 0, .int .i64 0, .int .i64 0, .int .i64 0, .int .i64 0, .int .i64 0, .int .i64 0, .int .i64 0, .int .i64 0, .int .i64 0, .int .i64 0, .int .i64 0, .int .i64 0, .int .i64 0, .int .i64 0, .int .i64 0, .int .i64 0, .int .i64 0, .int .i64 0, .int .i64 0, .int .i64 0, .int .i64 0, .int .i64 0, .int .i64 0, .int .i64 0, .int .u64 0]
/-- A new configuration is zero. -/
@[go_sem ↓] theorem xalloc36 (a : Act) (dst : Option Tmp) (ty : TypeId) (pos : String) (after : Array Edge) (guard : Option (Nat × Bool)) (w : World) :
    (execOp a.eval { dst, op := .alloc 36, type := ty, pos, after, guard }).run Try.prog w = .ok (.value (.pointer (some ⟨w.heap.size, 0, none⟩))) (w.alloc (.cells zero36 36)) := by kernel_rfl
theorem info36 : (Try.prog.info? 36).map (·.size) = some 26 := by kernel_rfl
/-- Whole numbers alone. -/
def allInt : List Value → Bool
  | [] => true
  | .int _ _ :: r => allInt r
  | _ => false
@[go_sem] theorem allInt_nil : allInt [] = true := rfl
@[go_sem] theorem allInt_cons (k : IntKind) (n : Int) (r : List Value) : allInt (.int k n :: r) = allInt r := rfl
theorem allInt_one : ∀ l : List Value, allInt l = true → (l.all (·.oneCell')) = true
  | [], _ => rfl
  | .int k n :: r, h => by
    rw [List.all_cons, allInt_one r h]
    rfl
/-- A whole configuration is stored into a block just made. -/
@[go_sem ↓] theorem xstore36_new (a : Act) (x y : Operand) (dst : Option Tmp) (ty : TypeId) (pos : String) (after : Array Edge) (guard : Option (Nat × Bool)) (w : World) (c : Array Value)
    (hp : a.eval x = .pointer (some ⟨w.heap.size, 0, none⟩)) (hs : c.size = 26) (h1 : (a.eval y).cells.size = 26) (h2' : allInt (a.eval y).cells.toList = true) :
    (execOp a.eval { dst, op := .store 36 x y, type := ty, pos, after, guard }).run Try.prog (w.alloc (.cells c 36)) = .ok .skip (w.alloc (.cells (a.eval y).cells 36)) := by
  have h2 : (a.eval y).cells.all (·.oneCell') = true := by rw [← Array.all_toList]; exact allInt_one _ h2'
  have hv : a.eval y = .agg (a.eval y).cells := by
    cases hq : a.eval y with
    | agg c' => rfl
    | _ => rw [hq] at h1; simp [Value.cells] at h1
  generalize (a.eval y).cells = c' at *
  show (do Instr.storeAt 36 (a.eval x) (a.eval y); pure Next.skip : Sem Next).run Try.prog (w.alloc (.cells c 36)) = _
  rw [hp, hv]
  have := run_storeAt_new (P := Try.prog) w 36 c c' (by rw [h1]; exact info36) (by rw [hs, h1]) h2
  simp [this]
theorem xstore36_at {a : Act} {x y : Operand} {o : Oper} {w : World} {c c' : Array Value} (ho : o.op = .store 36 x y)
    (hp : a.eval x = .pointer (some ⟨w.heap.size, 0, none⟩)) (hv : a.eval y = .agg c') (hs : c.size = 26) (h1 : c'.size = 26) (h2 : c'.all (·.oneCell') = true) :
    (execOp a.eval o).run Try.prog (w.alloc (.cells c 36)) = .ok .skip (w.alloc (.cells c' 36)) := by
  unfold execOp
  rw [ho]
  show (do Instr.storeAt 36 (a.eval x) (a.eval y); pure Next.skip : Sem Next).run Try.prog (w.alloc (.cells c 36)) = _
  rw [hp, hv]
  have := run_storeAt_new (P := Try.prog) w 36 c c' (by rw [h1]; exact info36) (by rw [hs, h1]) h2
  simp [this]
@[go_sem] theorem zero36_size : zero36.size = 26 := rfl
@[go_sem] theorem cells_agg (cs : Array Value) : (Value.agg cs).cells = cs := rfl
theorem results36 {fn : Func} {p : Tmp} (h : fn.results = #[.cell p 36]) (tmps : Array Value) (w : World) (b : Nat) (cs : Array Value) (fr : Nat × Nat)
    (hp : tmps.getD p undef = .pointer (some ⟨b, 0, none⟩)) (hb : w.heap[b]? = some (.cells cs 36 fr)) (hs : cs.size = 26) : (results fn tmps).run Try.prog w = .ok (.agg cs) w :=
  results_cell_row h tmps w b 36 cs fr _ hp hb Try.underlying36 rfl (by rw [hs]; exact info36)

set_option maxRecDepth 100000 in
theorem default_any (w : World) : Calls Try.prog 38 #[] w fun e w' => e = .returned (.agg #[.int .i64 dflt.n, .int .i64 dflt.f, .int .i64 dflt.m, .int .i64 dflt.q, .int .i64 dflt.fresh, .int .i64 dflt.grace, .int .i64 dflt.window, .int .i64 dflt.t0, .int .i64 dflt.t1, .int .i64 dflt.t2, .int .i64 dflt.t3, .int .i64 dflt.tol, .int .i64 dflt.lo, .int .i64 dflt.hi, .int .i64 dflt.cup, .int .i64 dflt.cdn, .int .i64 dflt.pup, .int .i64 dflt.tup, .int .i64 dflt.pdn, .int .i64 dflt.tdn, .int .i64 dflt.per, .int .i64 dflt.far, .int .i64 dflt.str, .int .i64 dflt.pro, .int .i64 dflt.sec, .int .u64 dflt.seed]) ∧ Gr w w' := by
  go_enter Try.func38, Try.ntmps38
  go_upto_region 1 with (fail)
  refine wp_region_lit ?_
  refine wpList_val (.agg #[.int .i64 1000, .int .i64 0, .int .i64 0, .int .i64 0]) (w.alloc (.cells zero36 36)) rfl (by kernel_rfl) ?_
  refine wpList_val (.agg #[.int .i64 dflt.n, .int .i64 dflt.f, .int .i64 dflt.m, .int .i64 dflt.q, .int .i64 dflt.fresh, .int .i64 dflt.grace, .int .i64 dflt.window, .int .i64 dflt.t0, .int .i64 dflt.t1, .int .i64 dflt.t2, .int .i64 dflt.t3, .int .i64 dflt.tol, .int .i64 dflt.lo, .int .i64 dflt.hi, .int .i64 dflt.cup, .int .i64 dflt.cdn, .int .i64 dflt.pup, .int .i64 dflt.tup, .int .i64 dflt.pdn, .int .i64 dflt.tdn, .int .i64 dflt.per, .int .i64 dflt.far, .int .i64 dflt.str, .int .i64 dflt.pro, .int .i64 dflt.sec, .int .u64 dflt.seed]) (w.alloc (.cells zero36 36)) rfl (by kernel_rfl) ?_
  refine wpList_skip' (w.alloc (.cells #[.int .i64 dflt.n, .int .i64 dflt.f, .int .i64 dflt.m, .int .i64 dflt.q, .int .i64 dflt.fresh, .int .i64 dflt.grace, .int .i64 dflt.window, .int .i64 dflt.t0, .int .i64 dflt.t1, .int .i64 dflt.t2, .int .i64 dflt.t3, .int .i64 dflt.tol, .int .i64 dflt.lo, .int .i64 dflt.hi, .int .i64 dflt.cup, .int .i64 dflt.cdn, .int .i64 dflt.pup, .int .i64 dflt.tup, .int .i64 dflt.pdn, .int .i64 dflt.tdn, .int .i64 dflt.per, .int .i64 dflt.far, .int .i64 dflt.str, .int .i64 dflt.pro, .int .i64 dflt.sec, .int .u64 dflt.seed] 36)) rfl (xstore36_at rfl (by kernel_rfl) (by kernel_rfl) rfl rfl (by kernel_rfl)) ?_
  go_wp2
  exact bodyPost_ret (results36 Try.results38 _ _ _ _ (0, 0) rfl (heap_new rfl) rfl) rfl ⟨rfl, (Gr.refl w).alloc _⟩
set_option maxRecDepth 100000 in
theorem r_default_any (w : World) : Calls Try.prog 37 #[] w fun e w' => e = .returned (.agg #[.int .i64 dflt.n, .int .i64 dflt.f, .int .i64 dflt.m, .int .i64 dflt.q, .int .i64 dflt.fresh, .int .i64 dflt.grace, .int .i64 dflt.window, .int .i64 dflt.t0, .int .i64 dflt.t1, .int .i64 dflt.t2, .int .i64 dflt.t3, .int .i64 dflt.tol, .int .i64 dflt.lo, .int .i64 dflt.hi, .int .i64 dflt.cup, .int .i64 dflt.cdn, .int .i64 dflt.pup, .int .i64 dflt.tup, .int .i64 dflt.pdn, .int .i64 dflt.tdn, .int .i64 dflt.per, .int .i64 dflt.far, .int .i64 dflt.str, .int .i64 dflt.pro, .int .i64 dflt.sec, .int .u64 dflt.seed]) ∧ Gr w w' := by
  go_enter Try.func37, Try.ntmps37
  go_upto_region 1 with (fail)
  refine wp_region_lit ?_
  refine wpList_val (.agg #[.int .i64 1000, .int .i64 0, .int .i64 0, .int .i64 0]) (w.alloc (.cells zero36 36)) rfl (by kernel_rfl) ?_
  refine wpList_val (.agg #[.int .i64 dflt.n, .int .i64 dflt.f, .int .i64 dflt.m, .int .i64 dflt.q, .int .i64 dflt.fresh, .int .i64 dflt.grace, .int .i64 dflt.window, .int .i64 dflt.t0, .int .i64 dflt.t1, .int .i64 dflt.t2, .int .i64 dflt.t3, .int .i64 dflt.tol, .int .i64 dflt.lo, .int .i64 dflt.hi, .int .i64 dflt.cup, .int .i64 dflt.cdn, .int .i64 dflt.pup, .int .i64 dflt.tup, .int .i64 dflt.pdn, .int .i64 dflt.tdn, .int .i64 dflt.per, .int .i64 dflt.far, .int .i64 dflt.str, .int .i64 dflt.pro, .int .i64 dflt.sec, .int .u64 dflt.seed]) (w.alloc (.cells zero36 36)) rfl (by kernel_rfl) ?_
  refine wpList_skip' (w.alloc (.cells #[.int .i64 dflt.n, .int .i64 dflt.f, .int .i64 dflt.m, .int .i64 dflt.q, .int .i64 dflt.fresh, .int .i64 dflt.grace, .int .i64 dflt.window, .int .i64 dflt.t0, .int .i64 dflt.t1, .int .i64 dflt.t2, .int .i64 dflt.t3, .int .i64 dflt.tol, .int .i64 dflt.lo, .int .i64 dflt.hi, .int .i64 dflt.cup, .int .i64 dflt.cdn, .int .i64 dflt.pup, .int .i64 dflt.tup, .int .i64 dflt.pdn, .int .i64 dflt.tdn, .int .i64 dflt.per, .int .i64 dflt.far, .int .i64 dflt.str, .int .i64 dflt.pro, .int .i64 dflt.sec, .int .u64 dflt.seed] 36)) rfl (xstore36_at rfl (by kernel_rfl) (by kernel_rfl) rfl rfl (by kernel_rfl)) ?_
  go_wp2
  exact bodyPost_ret (results36 Try.results37 _ _ _ _ (0, 0) rfl (heap_new rfl) rfl) rfl ⟨rfl, (Gr.refl w).alloc _⟩
theorem in_any1 (a lo hi : Int) (w : World) : Calls Try.prog 83 #[.int .i64 a, .int .i64 lo, .int .i64 hi] w fun e w' => e = .returned (.bool (decide (lo ≤ a) && decide (a ≤ hi))) ∧ w = w' := by
  by_cases h : lo ≤ a
  · go_enter Try.func83, Try.ntmps83
    go_wp2
    go_ret
    exact ⟨ret_bool (by simp [h]), rfl⟩
  · go_enter Try.func83, Try.ntmps83
    go_wp2
    go_ret
    exact ⟨ret_bool (by simp; omega), rfl⟩
end Go.Proofs.Ytjobicffdcnnlaa
