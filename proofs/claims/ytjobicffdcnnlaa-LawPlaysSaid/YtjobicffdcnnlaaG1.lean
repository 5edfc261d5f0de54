import Derived.Test.YtjobicffdcnnlaaP5
import Derived.BigRegion
import Derived.Laws.Tables
/- Made configurations: what Fit's walk stands on. -/
namespace Go.Proofs.Ytjobicffdcnnlaa
open Go.RowKit
set_option linter.unusedSimpArgs false
set_option linter.unusedVariables false

/-- Twenty numbers. -/
def arrN (ns : Nat → Int) : Array Value := ((List.range 20).map fun j => Value.int .i64 (ns j)).toArray
def nAt (ns : Nat → Int) (j : Nat) : Option Value := (arrN ns)[j]?
theorem nAt_lt (ns : Nat → Int) {j : Nat} (h : j < 20) : nAt ns j = some (.int .i64 (ns j)) := by
  simp [nAt, arrN, h]
@[go_sem] theorem nAt_0 (ns : Nat → Int) : nAt ns 0 = some (.int .i64 (ns 0)) := rfl
@[go_sem] theorem nAt_1 (ns : Nat → Int) : nAt ns 1 = some (.int .i64 (ns 1)) := rfl
@[go_sem] theorem nAt_2 (ns : Nat → Int) : nAt ns 2 = some (.int .i64 (ns 2)) := rfl
@[go_sem] theorem nAt_3 (ns : Nat → Int) : nAt ns 3 = some (.int .i64 (ns 3)) := rfl
@[go_sem] theorem nAt_4 (ns : Nat → Int) : nAt ns 4 = some (.int .i64 (ns 4)) := rfl
@[go_sem] theorem nAt_5 (ns : Nat → Int) : nAt ns 5 = some (.int .i64 (ns 5)) := rfl
@[go_sem] theorem nAt_6 (ns : Nat → Int) : nAt ns 6 = some (.int .i64 (ns 6)) := rfl
@[go_sem] theorem nAt_7 (ns : Nat → Int) : nAt ns 7 = some (.int .i64 (ns 7)) := rfl
@[go_sem] theorem nAt_8 (ns : Nat → Int) : nAt ns 8 = some (.int .i64 (ns 8)) := rfl
@[go_sem] theorem nAt_9 (ns : Nat → Int) : nAt ns 9 = some (.int .i64 (ns 9)) := rfl
@[go_sem] theorem nAt_10 (ns : Nat → Int) : nAt ns 10 = some (.int .i64 (ns 10)) := rfl
@[go_sem] theorem nAt_11 (ns : Nat → Int) : nAt ns 11 = some (.int .i64 (ns 11)) := rfl
@[go_sem] theorem nAt_12 (ns : Nat → Int) : nAt ns 12 = some (.int .i64 (ns 12)) := rfl
@[go_sem] theorem nAt_13 (ns : Nat → Int) : nAt ns 13 = some (.int .i64 (ns 13)) := rfl
@[go_sem] theorem nAt_14 (ns : Nat → Int) : nAt ns 14 = some (.int .i64 (ns 14)) := rfl
@[go_sem] theorem nAt_15 (ns : Nat → Int) : nAt ns 15 = some (.int .i64 (ns 15)) := rfl
@[go_sem] theorem nAt_16 (ns : Nat → Int) : nAt ns 16 = some (.int .i64 (ns 16)) := rfl
@[go_sem] theorem nAt_17 (ns : Nat → Int) : nAt ns 17 = some (.int .i64 (ns 17)) := rfl
@[go_sem] theorem nAt_18 (ns : Nat → Int) : nAt ns 18 = some (.int .i64 (ns 18)) := rfl
@[go_sem] theorem nAt_19 (ns : Nat → Int) : nAt ns 19 = some (.int .i64 (ns 19)) := rfl
theorem arrN_set (ns : Nat → Int) {k : Nat} (hk : k < 20) (x : Int) : (arrN ns).setIfInBounds k (.int .i64 x) = arrN (fun i => if i = k then x else ns i) := by
  apply Array.ext
  · simp [arrN]
  · intro i h1 h2
    by_cases h : i = k
    · subst h; simp [arrN]
    · rw [Array.getElem_setIfInBounds_ne (by simpa [arrN] using h2) (Ne.symm h)]
      simp [arrN, h]

/-- The result's block, the configuration's, the numbers'. -/
structure Fi (W w : World) (r b d : Nat) (c : CF) (ns : Nat → Int) : Prop where
  newr : W.heap.size ≤ r
  newb : W.heap.size ≤ b
  newd : W.heap.size ≤ d
  rb : r ≠ b
  rd : r ≠ d
  bd : b ≠ d
  gr : Gr W w
  boxr : w.heap[r]? = some (.cells zero36 36)
  boxb : w.heap[b]? = some (.cells #[.int .i64 c.n, .int .i64 c.f, .int .i64 c.m, .int .i64 c.q, .int .i64 c.fresh, .int .i64 c.grace, .int .i64 c.window, .int .i64 c.t0, .int .i64 c.t1, .int .i64 c.t2, .int .i64 c.t3, .int .i64 c.tol, .int .i64 c.lo, .int .i64 c.hi, .int .i64 c.cup, .int .i64 c.cdn, .int .i64 c.pup, .int .i64 c.tup, .int .i64 c.pdn, .int .i64 c.tdn, .int .i64 c.per, .int .i64 c.far, .int .i64 c.str, .int .i64 c.pro, .int .i64 c.sec, .int .u64 c.seed] 36)
  boxd : w.heap[d]? = some (.cells (arrN ns) 105)
theorem Fi.cell {W w : World} {r b d : Nat} {c : CF} {ns : Nat → Int} (h : Fi W w r b d c ns) (off : Nat) : w.cell? ⟨b, off, none⟩ = cellAt c off := by
  simp [World.cell?, h.boxb, cellAt]
theorem Fi.froz {W w : World} {r b d : Nat} {c : CF} {ns : Nat → Int} (h : Fi W w r b d c ns) (off : Nat) : w.frozen? ⟨b, off, none⟩ = false := frozen_in h.boxb
theorem Fi.num {W w : World} {r b d : Nat} {c : CF} {ns : Nat → Int} (h : Fi W w r b d c ns) (off : Nat) : w.cell? ⟨d, off, none⟩ = nAt ns off := by
  simp [World.cell?, h.boxd, nAt]
theorem Fi.nfroz {W w : World} {r b d : Nat} {c : CF} {ns : Nat → Int} (h : Fi W w r b d c ns) (off : Nat) : w.frozen? ⟨d, off, none⟩ = false := frozen_in h.boxd
theorem Fi.conf {W w : World} {r b d : Nat} {c : CF} {ns : Nat → Int} (h : Fi W w r b d c ns) : conf36? w ⟨b, 0, none⟩ = some #[.int .i64 c.n, .int .i64 c.f, .int .i64 c.m, .int .i64 c.q, .int .i64 c.fresh, .int .i64 c.grace, .int .i64 c.window, .int .i64 c.t0, .int .i64 c.t1, .int .i64 c.t2, .int .i64 c.t3, .int .i64 c.tol, .int .i64 c.lo, .int .i64 c.hi, .int .i64 c.cup, .int .i64 c.cdn, .int .i64 c.pup, .int .i64 c.tup, .int .i64 c.pdn, .int .i64 c.tdn, .int .i64 c.per, .int .i64 c.far, .int .i64 c.str, .int .i64 c.pro, .int .i64 c.sec, .int .u64 c.seed] := conf36_of h.boxb rfl
theorem Fi.set {W w : World} {r b d : Nat} {c : CF} {ns : Nat → Int} (h : Fi W w r b d c ns) (off : Nat) (v : Value) (c' : CF) (e : (#[.int .i64 c.n, .int .i64 c.f, .int .i64 c.m, .int .i64 c.q, .int .i64 c.fresh, .int .i64 c.grace, .int .i64 c.window, .int .i64 c.t0, .int .i64 c.t1, .int .i64 c.t2, .int .i64 c.t3, .int .i64 c.tol, .int .i64 c.lo, .int .i64 c.hi, .int .i64 c.cup, .int .i64 c.cdn, .int .i64 c.pup, .int .i64 c.tup, .int .i64 c.pdn, .int .i64 c.tdn, .int .i64 c.per, .int .i64 c.far, .int .i64 c.str, .int .i64 c.pro, .int .i64 c.sec, .int .u64 c.seed] : Array Value).setIfInBounds off v = #[.int .i64 c'.n, .int .i64 c'.f, .int .i64 c'.m, .int .i64 c'.q, .int .i64 c'.fresh, .int .i64 c'.grace, .int .i64 c'.window, .int .i64 c'.t0, .int .i64 c'.t1, .int .i64 c'.t2, .int .i64 c'.t3, .int .i64 c'.tol, .int .i64 c'.lo, .int .i64 c'.hi, .int .i64 c'.cup, .int .i64 c'.cdn, .int .i64 c'.pup, .int .i64 c'.tup, .int .i64 c'.pdn, .int .i64 c'.tdn, .int .i64 c'.per, .int .i64 c'.far, .int .i64 c'.str, .int .i64 c'.pro, .int .i64 c'.sec, .int .u64 c'.seed]) : Fi W (w.setCell ⟨b, off, none⟩ v) r b d c' ns :=
  ⟨h.newr, h.newb, h.newd, h.rb, h.rd, h.bd, ⟨h.gr.out.setCell h.newb v⟩, (Below.heap_setCell w _ v r h.rb).trans h.boxr, e ▸ set_block h.boxb, (Below.heap_setCell w _ v d (Ne.symm h.bd)).trans h.boxd⟩
theorem Fi.setN {W w : World} {r b d : Nat} {c : CF} {ns : Nat → Int} (h : Fi W w r b d c ns) {k : Nat} (hk : k < 20) (x : Int) : Fi W (w.setCell ⟨d, k, none⟩ (.int .i64 x)) r b d c (fun i => if i = k then x else ns i) :=
  ⟨h.newr, h.newb, h.newd, h.rb, h.rd, h.bd, ⟨h.gr.out.setCell h.newd _⟩, (Below.heap_setCell w _ _ r h.rd).trans h.boxr, (Below.heap_setCell w _ _ b h.bd).trans h.boxb, arrN_set ns hk x ▸ set_block h.boxd⟩
theorem Fi.on {W w w' : World} {r b d : Nat} {c : CF} {ns : Nat → Int} (h : Fi W w r b d c ns) (g : Gr w w') : Fi W w' r b d c ns :=
  ⟨h.newr, h.newb, h.newd, h.rb, h.rd, h.bd, h.gr.trans g, g.block h.boxr, g.block h.boxb, g.block h.boxd⟩

/-- A whole configuration goes into a block that is there. -/
theorem xstore36_row {a : Act} {x y : Operand} {o : Oper} {w : World} {b : Nat} {c c' : Array Value} (ho : o.op = .store 36 x y)
    (hp : a.eval x = .pointer (some ⟨b, 0, none⟩)) (hv : a.eval y = .agg c') (hb : w.heap[b]? = some (.cells c 36)) (hs : c.size = 26) (h1 : c'.size = 26) (h2 : c'.all (·.oneCell') = true) :
    (execOp a.eval o).run Try.prog w = .ok .skip (w.setRow b c') := by
  unfold execOp
  rw [ho]
  show (do Instr.storeAt 36 (a.eval x) (a.eval y); pure Next.skip : Sem Next).run Try.prog w = _
  rw [hp, hv]
  have := run_storeVar_row (P := Try.prog) w b 36 36 c c' hb (by rw [h1]; exact info36) (by rw [hs, h1]) h2
  simp [Instr.storeAt, Instr.sureAddr, this]
theorem Fi.done {W w : World} {r b d : Nat} {c : CF} {ns : Nat → Int} (h : Fi W w r b d c ns) : Gr W (w.setRow r #[.int .i64 c.n, .int .i64 c.f, .int .i64 c.m, .int .i64 c.q, .int .i64 c.fresh, .int .i64 c.grace, .int .i64 c.window, .int .i64 c.t0, .int .i64 c.t1, .int .i64 c.t2, .int .i64 c.t3, .int .i64 c.tol, .int .i64 c.lo, .int .i64 c.hi, .int .i64 c.cup, .int .i64 c.cdn, .int .i64 c.pup, .int .i64 c.tup, .int .i64 c.pdn, .int .i64 c.tdn, .int .i64 c.per, .int .i64 c.far, .int .i64 c.str, .int .i64 c.pro, .int .i64 c.sec, .int .u64 c.seed]) ∧ (w.setRow r #[.int .i64 c.n, .int .i64 c.f, .int .i64 c.m, .int .i64 c.q, .int .i64 c.fresh, .int .i64 c.grace, .int .i64 c.window, .int .i64 c.t0, .int .i64 c.t1, .int .i64 c.t2, .int .i64 c.t3, .int .i64 c.tol, .int .i64 c.lo, .int .i64 c.hi, .int .i64 c.cup, .int .i64 c.cdn, .int .i64 c.pup, .int .i64 c.tup, .int .i64 c.pdn, .int .i64 c.tdn, .int .i64 c.per, .int .i64 c.far, .int .i64 c.str, .int .i64 c.pro, .int .i64 c.sec, .int .u64 c.seed]).heap[r]? = some (.cells #[.int .i64 c.n, .int .i64 c.f, .int .i64 c.m, .int .i64 c.q, .int .i64 c.fresh, .int .i64 c.grace, .int .i64 c.window, .int .i64 c.t0, .int .i64 c.t1, .int .i64 c.t2, .int .i64 c.t3, .int .i64 c.tol, .int .i64 c.lo, .int .i64 c.hi, .int .i64 c.cup, .int .i64 c.cdn, .int .i64 c.pup, .int .i64 c.tup, .int .i64 c.pdn, .int .i64 c.tdn, .int .i64 c.per, .int .i64 c.far, .int .i64 c.str, .int .i64 c.pro, .int .i64 c.sec, .int .u64 c.seed] 36) := by
  refine ⟨⟨h.gr.out.trans ⟨rfl, rfl, rfl, by simp, fun k hk => ?_⟩⟩, setRow_heap w r zero36 _ 36 (0, 0) h.boxr⟩
  have := h.newr
  exact setRow_other w r k _ (by omega)
end Go.Proofs.Ytjobicffdcnnlaa
