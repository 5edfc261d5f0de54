import Derived.Test.YtjobicffdcnnlaaP2
namespace Go.Proofs.Ytjobicffdcnnlaa
open Go.RowKit
set_option linter.unusedSimpArgs false
set_option linter.unusedVariables false

theorem wrongR_may (c : CF) : (mayC c = true → wrongR c = ⟨#[]⟩) ∧ (mayC c = false → (wrongR c).data.toList ≠ []) := by
  rw [← wrong_eq]
  exact wrongL_may (partsL c) (names_ne c)

theorem mayConf_any (c : CF) (w : World) : Calls Try.prog 36 #[.agg #[.int .i64 c.n, .int .i64 c.f, .int .i64 c.m, .int .i64 c.q, .int .i64 c.fresh, .int .i64 c.grace, .int .i64 c.window, .int .i64 c.t0, .int .i64 c.t1, .int .i64 c.t2, .int .i64 c.t3, .int .i64 c.tol, .int .i64 c.lo, .int .i64 c.hi, .int .i64 c.cup, .int .i64 c.cdn, .int .i64 c.pup, .int .i64 c.tup, .int .i64 c.pdn, .int .i64 c.tdn, .int .i64 c.per, .int .i64 c.far, .int .i64 c.str, .int .i64 c.pro, .int .i64 c.sec, .int .u64 c.seed]] w fun e w' => e = .returned (.bool (mayC c)) ∧ Gr w w' := by
  have hw := fun w => r_wrong_any c w
  obtain ⟨h1, h2⟩ := wrongR_may c
  cases hm : mayC c with
  | true =>
    have hr := h1 hm
    rw [hr] at hw
    clear h1 h2 hm hr
    have HW := Lib.hid hw; clear hw
    go_enter Try.func36, Try.ntmps36
    go_wp2_with fail
    refine (HW.out _).mono ?_
    rintro e w1 ⟨rfl, hg⟩
    have hgr : Gr w w1 := ((Gr.refl w).alloc _).trans hg
    clear hg
    go_wp2
    go_ret
    exact ⟨rfl, hgr⟩
  | false =>
    have hr := h2 hm
    generalize wrongR c = r at *
    clear h1 h2 hm
    have hn1 : r.toList.isEmpty = false := by
      rw [ByteArray.toList_eq]; simpa using hr
    have HW := Lib.hid hw; clear hw
    go_enter Try.func36, Try.ntmps36
    go_wp2_with fail
    refine (HW.out _).mono ?_
    rintro e w1 ⟨rfl, hg⟩
    have hgr : Gr w w1 := ((Gr.refl w).alloc _).trans hg
    clear hg HW
    go_wp2
    go_ret
    exact ⟨rfl, hgr⟩

/-- A quiet call in the class of the worlds that have grown. -/
theorem q_gr {P : Program} {f : FuncId} {args : Array Value} {W : World} {v : Value} {s : Gw W} (h : Calls P f args s.val fun e w' => e = .returned v ∧ Gr s.val w') :
    Calls P f args s.val fun e w'' => e = .returned v ∧ ∃ s' : Gw W, w'' = s'.val :=
  h.mono fun _ w' ⟨he, hg⟩ => ⟨he, ⟨w', s.ok.trans (hg.out.mono s.ok.size)⟩, rfl⟩
theorem Gw.gr {w : World} (s : Gw w) : Gr w s.val := ⟨s.ok⟩
theorem Gw.conf {W : World} (s : Gw W) {b : Nat} {cs : Array Value} {fr : Nat × Nat} (h : W.heap[b]? = some (.cells cs 36 fr)) (hs : cs.size = 26) : conf36? s.val ⟨b, 0, none⟩ = some cs := conf36_of (s.gr.block h) hs

theorem wpList_enter {P : Program} {ops : Array Oper} {Q : Exit → Act → World → Prop} {rest : List Oper} {o : Oper} {a : Act} {w : World} {R : World → Prop} (f : FuncId) (args : Array Value) (v : Value) (hg : o.guard = none)
    (h : (execOp a.eval o).run P w = .ok (.enter f args) w) (hc : Calls P f args w fun e w' => e = .returned v ∧ R w') (k : ∀ w', R w' → wpList P ops Q rest (a.put o.dst v) w') : wpList P ops Q (o :: rest) a w :=
  wpList_plain hg fun K hK => by
    unfold Oper.wp
    rw [h, Oper.upon_enter]
    exact hc.mono fun e w' ⟨he, hr⟩ => by subst he; exact hK _ _ (k w' hr)

theorem xload36_of {a : Act} {x : Operand} {w : World} {p : Addr} {cs : Array Value} {t' : TypeId} {ps : String} {af : Array Edge} {g : Option (Nat × Bool)} {dst : Option Tmp} (hp : a.eval x = .pointer (some p)) (hc : conf36? w p = some cs) :
    (execOp a.eval { dst, op := .load 36 x, type := t', pos := ps, after := af, guard := g }).run Try.prog w = .ok (.value (.agg cs)) w := by
  rw [xload36 a x dst t' ps af g w (by rw [hp]; rfl) (by rw [hp]; show (conf36? w p).isSome = true; rw [hc]; rfl), hp]
  show Result.ok (Next.value (.agg ((conf36? w p).getD #[]))) w = _
  rw [hc]; rfl

theorem set_block {w : World} {b off : Nat} {cs : Array Value} {t : TypeId} {fr : Nat × Nat} {v : Value} (h : w.heap[b]? = some (.cells cs t fr)) : (w.setCell ⟨b, off, none⟩ v).heap[b]? = some (.cells (cs.setIfInBounds off v) t fr) := by
  simp [World.setCell, Array.getElem?_modify, h]
theorem cell_in {w : World} {b off : Nat} {cs : Array Value} {t : TypeId} {fr : Nat × Nat} {v : Value} (h : w.heap[b]? = some (.cells cs t fr)) (hv : cs[off]? = some v) : w.cell? ⟨b, off, none⟩ = some v := by
  simp [World.cell?, h, hv]
theorem frozen_in {w : World} {b off : Nat} {cs : Array Value} {t : TypeId} (h : w.heap[b]? = some (.cells cs t)) : w.frozen? ⟨b, off, none⟩ = false := by
  simp [World.frozen?, h]
theorem wp_region_quiet_gw {P : Program} {id : Nat} {Q : Exit → Act → World → Prop} {a : Act} {w : World} {l : List Oper} (hm : P.follows .mixedOrders = true) (hB : Region.lexB .any l.toArray = true)
    (h : wpQuiet P l.toArray (fun w' => ∃ s : Gw w, w' = s.val) (fun a' => ∀ s : Gw w, Q .normal a' s.val) l a) : (Code.region id l.toArray true).wp P Q a w :=
  wp_region_quiet (C := fun w' => ∃ s : Gw w, w' = s.val) hm hB ⟨⟨_, (Below.refl _ _).drew⟩, rfl⟩ (by
    have : (fun a' => ∀ w', (∃ s : Gw w, w' = s.val) → Q .normal a' w') = (fun a' => ∀ s : Gw w, Q .normal a' s.val) := by
      funext a'; apply propext; exact ⟨fun h s => h _ ⟨s, rfl⟩, fun h w' ⟨s, e⟩ => e ▸ h s⟩
    rw [this]; exact h)
def tolS (t : CF) : CF := { t with tol := 1001 }
@[go_sem ↓] theorem xeql36 (a : Act) (x y : Operand) (dst : Option Tmp) (ty : TypeId) (pos : String) (after : Array Edge) (guard : Option (Nat × Bool)) (w : World) (hx : a.eval x = .agg #[.int .i64 dflt.n, .int .i64 dflt.f, .int .i64 dflt.m, .int .i64 dflt.q, .int .i64 dflt.fresh, .int .i64 dflt.grace, .int .i64 dflt.window, .int .i64 dflt.t0, .int .i64 dflt.t1, .int .i64 dflt.t2, .int .i64 dflt.t3, .int .i64 dflt.tol, .int .i64 dflt.lo, .int .i64 dflt.hi, .int .i64 dflt.cup, .int .i64 dflt.cdn, .int .i64 dflt.pup, .int .i64 dflt.tup, .int .i64 dflt.pdn, .int .i64 dflt.tdn, .int .i64 dflt.per, .int .i64 dflt.far, .int .i64 dflt.str, .int .i64 dflt.pro, .int .i64 dflt.sec, .int .u64 dflt.seed]) (hy : a.eval y = .agg #[.int .i64 dflt.n, .int .i64 dflt.f, .int .i64 dflt.m, .int .i64 dflt.q, .int .i64 dflt.fresh, .int .i64 dflt.grace, .int .i64 dflt.window, .int .i64 dflt.t0, .int .i64 dflt.t1, .int .i64 dflt.t2, .int .i64 dflt.t3, .int .i64 dflt.tol, .int .i64 dflt.lo, .int .i64 dflt.hi, .int .i64 dflt.cup, .int .i64 dflt.cdn, .int .i64 dflt.pup, .int .i64 dflt.tup, .int .i64 dflt.pdn, .int .i64 dflt.tdn, .int .i64 dflt.per, .int .i64 dflt.far, .int .i64 dflt.str, .int .i64 dflt.pro, .int .i64 dflt.sec, .int .u64 dflt.seed]) :
    (execOp a.eval { dst, op := .binOp .eql 36 x y 36, type := ty, pos, after, guard }).run Try.prog w = .ok (.value (.bool true)) w := by
  show (do let v ← (do eqGuard .eql 36 x y (a.eval x) (a.eval y); Go.binOp .eql 36 (a.eval x) (a.eval y)); pure (Next.value v) : Sem Next).run Try.prog w = _
  rw [hx, hy]
  kernel_rfl
def zeroC : CF := ⟨0,0,0,0,0,0,0,0,0,0,0,0,0,0,0,0,0,0,0,0,0,0,0,0,0,0⟩
theorem build36z (w : World) : (Instr.build 36 #[]).run Try.prog w = .ok (.agg zero36) w := by kernel_rfl
theorem may_dflt : mayC dflt = true := by decide +kernel
theorem wrong_zero : wrongV zeroC = ⟨#[110]⟩ := by decide +kernel
theorem wrong_tol : wrongV (tolS dflt) = ⟨#[116, 111, 108]⟩ := by decide +kernel
theorem honest_dflt : wrap64 (dflt.n - dflt.f) = 3 := by decide +kernel
theorem may_tol : mayC (tolS dflt) = false := by decide +kernel

set_option maxHeartbeats 2000000 in
set_option maxRecDepth 100000 in
theorem told3_any (w : World) : Calls Try.prog 39 #[] w fun e w' => e = .returned (.bool true) ∧ Gr w w' := by
  go_enter Try.func39, Try.ntmps39
  go_upto_region 1 with (fail)
  refine wp_region_lit ?_
  refine wpList_enter 38 #[] _ rfl (by kernel_rfl) (default_any w) fun w1 hg => ?_
  refine wpList_val (.pointer (some ⟨w1.heap.size, 0, none⟩)) (w1.alloc (.cells zero36 36)) rfl (xalloc36 ..) ?_
  refine wpList_skip' (w1.alloc (.cells #[.int .i64 dflt.n, .int .i64 dflt.f, .int .i64 dflt.m, .int .i64 dflt.q, .int .i64 dflt.fresh, .int .i64 dflt.grace, .int .i64 dflt.window, .int .i64 dflt.t0, .int .i64 dflt.t1, .int .i64 dflt.t2, .int .i64 dflt.t3, .int .i64 dflt.tol, .int .i64 dflt.lo, .int .i64 dflt.hi, .int .i64 dflt.cup, .int .i64 dflt.cdn, .int .i64 dflt.pup, .int .i64 dflt.tup, .int .i64 dflt.pdn, .int .i64 dflt.tdn, .int .i64 dflt.per, .int .i64 dflt.far, .int .i64 dflt.str, .int .i64 dflt.pro, .int .i64 dflt.sec, .int .u64 dflt.seed] 36)) rfl (xstore36_at rfl (by kernel_rfl) (by kernel_rfl) rfl rfl (by kernel_rfl)) ?_
  generalize h2 : w1.alloc (.cells #[.int .i64 dflt.n, .int .i64 dflt.f, .int .i64 dflt.m, .int .i64 dflt.q, .int .i64 dflt.fresh, .int .i64 dflt.grace, .int .i64 dflt.window, .int .i64 dflt.t0, .int .i64 dflt.t1, .int .i64 dflt.t2, .int .i64 dflt.t3, .int .i64 dflt.tol, .int .i64 dflt.lo, .int .i64 dflt.hi, .int .i64 dflt.cup, .int .i64 dflt.cdn, .int .i64 dflt.pup, .int .i64 dflt.tup, .int .i64 dflt.pdn, .int .i64 dflt.tdn, .int .i64 dflt.per, .int .i64 dflt.far, .int .i64 dflt.str, .int .i64 dflt.pro, .int .i64 dflt.sec, .int .u64 dflt.seed] 36) = w2
  have g2 : Gr w w2 := by rw [← h2]; exact hg.alloc _
  have b2 : w2.heap[w1.heap.size]? = some (.cells #[.int .i64 dflt.n, .int .i64 dflt.f, .int .i64 dflt.m, .int .i64 dflt.q, .int .i64 dflt.fresh, .int .i64 dflt.grace, .int .i64 dflt.window, .int .i64 dflt.t0, .int .i64 dflt.t1, .int .i64 dflt.t2, .int .i64 dflt.t3, .int .i64 dflt.tol, .int .i64 dflt.lo, .int .i64 dflt.hi, .int .i64 dflt.cup, .int .i64 dflt.cdn, .int .i64 dflt.pup, .int .i64 dflt.tup, .int .i64 dflt.pdn, .int .i64 dflt.tdn, .int .i64 dflt.per, .int .i64 dflt.far, .int .i64 dflt.str, .int .i64 dflt.pro, .int .i64 dflt.sec, .int .u64 dflt.seed] 36) := by rw [← h2]; exact heap_new rfl
  generalize w1.heap.size = b at *
  clear h2 hg
  go_upto_region 2 with (fail)
  refine wp_region_lit ?_
  refine wpList_val (.agg #[.int .i64 dflt.n, .int .i64 dflt.f, .int .i64 dflt.m, .int .i64 dflt.q, .int .i64 dflt.fresh, .int .i64 dflt.grace, .int .i64 dflt.window, .int .i64 dflt.t0, .int .i64 dflt.t1, .int .i64 dflt.t2, .int .i64 dflt.t3, .int .i64 dflt.tol, .int .i64 dflt.lo, .int .i64 dflt.hi, .int .i64 dflt.cup, .int .i64 dflt.cdn, .int .i64 dflt.pup, .int .i64 dflt.tup, .int .i64 dflt.pdn, .int .i64 dflt.tdn, .int .i64 dflt.per, .int .i64 dflt.far, .int .i64 dflt.str, .int .i64 dflt.pro, .int .i64 dflt.sec, .int .u64 dflt.seed]) w2 rfl (xload36_of rfl (conf36_of b2 rfl)) ?_
  refine wpList_val (.pointer (some ⟨w2.heap.size, 0, none⟩)) (w2.alloc (.cells zero36 36)) rfl (xalloc36 ..) ?_
  refine wpList_skip' (w2.alloc (.cells #[.int .i64 dflt.n, .int .i64 dflt.f, .int .i64 dflt.m, .int .i64 dflt.q, .int .i64 dflt.fresh, .int .i64 dflt.grace, .int .i64 dflt.window, .int .i64 dflt.t0, .int .i64 dflt.t1, .int .i64 dflt.t2, .int .i64 dflt.t3, .int .i64 dflt.tol, .int .i64 dflt.lo, .int .i64 dflt.hi, .int .i64 dflt.cup, .int .i64 dflt.cdn, .int .i64 dflt.pup, .int .i64 dflt.tup, .int .i64 dflt.pdn, .int .i64 dflt.tdn, .int .i64 dflt.per, .int .i64 dflt.far, .int .i64 dflt.str, .int .i64 dflt.pro, .int .i64 dflt.sec, .int .u64 dflt.seed] 36)) rfl (xstore36_at rfl (by kernel_rfl) (by kernel_rfl) rfl rfl (by kernel_rfl)) ?_
  have b3 := (Gr.refl w2).alloc (.cells #[.int .i64 dflt.n, .int .i64 dflt.f, .int .i64 dflt.m, .int .i64 dflt.q, .int .i64 dflt.fresh, .int .i64 dflt.grace, .int .i64 dflt.window, .int .i64 dflt.t0, .int .i64 dflt.t1, .int .i64 dflt.t2, .int .i64 dflt.t3, .int .i64 dflt.tol, .int .i64 dflt.lo, .int .i64 dflt.hi, .int .i64 dflt.cup, .int .i64 dflt.cdn, .int .i64 dflt.pup, .int .i64 dflt.tup, .int .i64 dflt.pdn, .int .i64 dflt.tdn, .int .i64 dflt.per, .int .i64 dflt.far, .int .i64 dflt.str, .int .i64 dflt.pro, .int .i64 dflt.sec, .int .u64 dflt.seed] 36)
  have b3 := b3.block b2
  have hne : w2.heap.size ≠ b := fun h => by have := (Array.getElem?_eq_some_iff.1 b2).1; omega
  have bd : (w2.alloc (.cells #[.int .i64 dflt.n, .int .i64 dflt.f, .int .i64 dflt.m, .int .i64 dflt.q, .int .i64 dflt.fresh, .int .i64 dflt.grace, .int .i64 dflt.window, .int .i64 dflt.t0, .int .i64 dflt.t1, .int .i64 dflt.t2, .int .i64 dflt.t3, .int .i64 dflt.tol, .int .i64 dflt.lo, .int .i64 dflt.hi, .int .i64 dflt.cup, .int .i64 dflt.cdn, .int .i64 dflt.pup, .int .i64 dflt.tup, .int .i64 dflt.pdn, .int .i64 dflt.tdn, .int .i64 dflt.per, .int .i64 dflt.far, .int .i64 dflt.str, .int .i64 dflt.pro, .int .i64 dflt.sec, .int .u64 dflt.seed] 36)).heap[w2.heap.size]? = some (.cells #[.int .i64 dflt.n, .int .i64 dflt.f, .int .i64 dflt.m, .int .i64 dflt.q, .int .i64 dflt.fresh, .int .i64 dflt.grace, .int .i64 dflt.window, .int .i64 dflt.t0, .int .i64 dflt.t1, .int .i64 dflt.t2, .int .i64 dflt.t3, .int .i64 dflt.tol, .int .i64 dflt.lo, .int .i64 dflt.hi, .int .i64 dflt.cup, .int .i64 dflt.cdn, .int .i64 dflt.pup, .int .i64 dflt.tup, .int .i64 dflt.pdn, .int .i64 dflt.tdn, .int .i64 dflt.per, .int .i64 dflt.far, .int .i64 dflt.str, .int .i64 dflt.pro, .int .i64 dflt.sec, .int .u64 dflt.seed] 36) := heap_new rfl
  generalize hd : w2.heap.size = d at *
  generalize h3 : w2.alloc (.cells #[.int .i64 dflt.n, .int .i64 dflt.f, .int .i64 dflt.m, .int .i64 dflt.q, .int .i64 dflt.fresh, .int .i64 dflt.grace, .int .i64 dflt.window, .int .i64 dflt.t0, .int .i64 dflt.t1, .int .i64 dflt.t2, .int .i64 dflt.t3, .int .i64 dflt.tol, .int .i64 dflt.lo, .int .i64 dflt.hi, .int .i64 dflt.cup, .int .i64 dflt.cdn, .int .i64 dflt.pup, .int .i64 dflt.tup, .int .i64 dflt.pdn, .int .i64 dflt.tdn, .int .i64 dflt.per, .int .i64 dflt.far, .int .i64 dflt.str, .int .i64 dflt.pro, .int .i64 dflt.sec, .int .u64 dflt.seed] 36) = w3 at *
  have g3 : Gr w w3 := by rw [← h3]; exact g2.alloc _
  have hdw : w.heap.size ≤ d := by rw [← hd]; exact g2.size
  clear h3 hd g2 b2
  have hc : w3.cell? ⟨d, 11, none⟩ = some (.int .i64 100) := cell_in bd rfl
  have hz : w3.frozen? ⟨d, 11, none⟩ = false := frozen_in bd
  go_upto_region 4 with (fail)
  clear hc hz
  have B3 := (Below.heap_setCell w3 ⟨d, 11, none⟩ (.int .i64 1001) b (Ne.symm hne)).trans b3
  have D3 := set_block (off := 11) (v := .int .i64 1001) bd
  have G4 : Gr w (w3.setCell ⟨d, 11, none⟩ (.int .i64 1001)) := ⟨g3.out.setCell hdw _⟩
  generalize w3.setCell ⟨d, 11, none⟩ (.int .i64 1001) = w4 at *
  clear b3 bd g3
  have D4 : w4.heap[d]? = some (.cells #[.int .i64 (tolS dflt).n, .int .i64 (tolS dflt).f, .int .i64 (tolS dflt).m, .int .i64 (tolS dflt).q, .int .i64 (tolS dflt).fresh, .int .i64 (tolS dflt).grace, .int .i64 (tolS dflt).window, .int .i64 (tolS dflt).t0, .int .i64 (tolS dflt).t1, .int .i64 (tolS dflt).t2, .int .i64 (tolS dflt).t3, .int .i64 (tolS dflt).tol, .int .i64 (tolS dflt).lo, .int .i64 (tolS dflt).hi, .int .i64 (tolS dflt).cup, .int .i64 (tolS dflt).cdn, .int .i64 (tolS dflt).pup, .int .i64 (tolS dflt).tup, .int .i64 (tolS dflt).pdn, .int .i64 (tolS dflt).tdn, .int .i64 (tolS dflt).per, .int .i64 (tolS dflt).far, .int .i64 (tolS dflt).str, .int .i64 (tolS dflt).pro, .int .i64 (tolS dflt).sec, .int .u64 (tolS dflt).seed] 36) := D3
  clear D3
  refine wp_region_quiet_gw (by kernel_rfl) (by kernel_rfl) ?_
  have c1 := fun s : Gw w4 => s.conf B3 rfl
  have c2 := fun s : Gw w4 => s.conf D4 rfl
  have hz := build36z
  go_big_quiet_step (fail)
  go_big_quiet_step (exact may_dflt ▸ q_gr (may_any_C dflt _))
  go_big_quiet_step (fail)
  go_big_quiet_step (fail)
  go_big_quiet_step (exact wrong_zero ▸ q_gr (wrong_any zeroC _))
  go_big_quiet_step (fail)
  go_big_quiet_step (fail)
  go_big_quiet_step (fail)
  go_big_quiet_step (fail)
  go_big_quiet_step (exact wrong_tol ▸ q_gr (wrong_any (tolS dflt) _))
  go_big_quiet_step (fail)
  go_big_quiet_step (fail)
  go_big_quiet_step (fail)
  go_big_quiet_step (fail)
  go_big_quiet_step (exact may_tol ▸ q_gr (may_any_C (tolS dflt) _))
  go_big_quiet_step (fail)
  go_big_quiet_step (fail)
  go_big_quiet_step (fail)
  go_big_quiet_step (fail)
  go_big_quiet_step (exact honest_dflt ▸ q_gr (honest_any dflt _))
  go_big_quiet_step (fail)
  go_big_quiet_step (fail)
  go_big_quiet_step (fail)
  go_big_quiet_step (fail)
  go_big_quiet_step (exact q_gr (r_default_any _))
  go_big_quiet_step (fail)
  go_big_quiet_step (fail)
  go_big_quiet_step (fail)
  refine wpQuiet_nil fun s => ?_
  go_wp2
  go_ret
  exact ⟨rfl, G4.trans s.gr⟩
end Go.Proofs.Ytjobicffdcnnlaa
