import Derived.Test.YtjobicffdcnnlaaP5
import Derived.OwnWalk
import Derived.Lib.SliceRun
import Derived.Laws.LoneSync
import Derived.Laws.Tables
/- The policy's block, its row of counts, and what may turn. -/
namespace Go.Proofs.Ytjobicffdcnnlaa
open Go.RowKit
set_option linter.unusedSimpArgs false
set_option linter.unusedVariables false
set_option maxRecDepth 100000

def polAt (c : CF) (v : Value) (k : Int) (i : Nat) : Option Value := (#[.int .i64 c.n, .int .i64 c.f, .int .i64 c.m, .int .i64 c.q, .int .i64 c.fresh, .int .i64 c.grace, .int .i64 c.window, .int .i64 c.t0, .int .i64 c.t1, .int .i64 c.t2, .int .i64 c.t3, .int .i64 c.tol, .int .i64 c.lo, .int .i64 c.hi, .int .i64 c.cup, .int .i64 c.cdn, .int .i64 c.pup, .int .i64 c.tup, .int .i64 c.pdn, .int .i64 c.tdn, .int .i64 c.per, .int .i64 c.far, .int .i64 c.str, .int .i64 c.pro, .int .i64 c.sec, .int .u64 c.seed, v, .int .i64 k] : Array Value)[i]?
@[go_sem] theorem polAt_12 (c : CF) (v : Value) (k : Int) : polAt c v k 12 = some (.int .i64 c.lo) := rfl
@[go_sem] theorem polAt_13 (c : CF) (v : Value) (k : Int) : polAt c v k 13 = some (.int .i64 c.hi) := rfl
@[go_sem] theorem polAt_20 (c : CF) (v : Value) (k : Int) : polAt c v k 20 = some (.int .i64 c.per) := rfl
@[go_sem] theorem polAt_26 (c : CF) (v : Value) (k : Int) : polAt c v k 26 = some v := rfl
@[go_sem] theorem polAt_27 (c : CF) (v : Value) (k : Int) : polAt c v k 27 = some (.int .i64 k) := rfl
/-- A policy of the program: its block p, its row g. -/
structure Pol (w : World) (p g cap : Nat) (c : CF) (l : List Int) (k : Int) : Prop where
  box : w.heap[p]? = some (.cells #[.int .i64 c.n, .int .i64 c.f, .int .i64 c.m, .int .i64 c.q, .int .i64 c.fresh, .int .i64 c.grace, .int .i64 c.window, .int .i64 c.t0, .int .i64 c.t1, .int .i64 c.t2, .int .i64 c.t3, .int .i64 c.tol, .int .i64 c.lo, .int .i64 c.hi, .int .i64 c.cup, .int .i64 c.cdn, .int .i64 c.pup, .int .i64 c.tup, .int .i64 c.pdn, .int .i64 c.tdn, .int .i64 c.per, .int .i64 c.far, .int .i64 c.str, .int .i64 c.pro, .int .i64 c.sec, .int .u64 c.seed, .slice (some ⟨g, 0, none⟩) l.length cap, .int .i64 k] 112)
  own : w.ownsRow g 3 1 (.slice (some ⟨g, 0, none⟩) l.length cap) l.length (l.map (.int .i64))
  ne : p ≠ g
def rolAt (c : CF) (v : Value) (i : Nat) : Option Value := (#[.int .i64 c.n, .int .i64 c.f, .int .i64 c.m, .int .i64 c.q, .int .i64 c.fresh, .int .i64 c.grace, .int .i64 c.window, .int .i64 c.t0, .int .i64 c.t1, .int .i64 c.t2, .int .i64 c.t3, .int .i64 c.tol, .int .i64 c.lo, .int .i64 c.hi, .int .i64 c.cup, .int .i64 c.cdn, .int .i64 c.pup, .int .i64 c.tup, .int .i64 c.pdn, .int .i64 c.tdn, .int .i64 c.per, .int .i64 c.far, .int .i64 c.str, .int .i64 c.pro, .int .i64 c.sec, .int .u64 c.seed, v] : Array Value)[i]?
@[go_sem] theorem rolAt_12 (c : CF) (v : Value) : rolAt c v 12 = some (.int .i64 c.lo) := rfl
@[go_sem] theorem rolAt_13 (c : CF) (v : Value) : rolAt c v 13 = some (.int .i64 c.hi) := rfl
@[go_sem] theorem rolAt_20 (c : CF) (v : Value) : rolAt c v 20 = some (.int .i64 c.per) := rfl
@[go_sem] theorem rolAt_26 (c : CF) (v : Value) : rolAt c v 26 = some v := rfl

/-- Of what was there only the blocks p and g have turned. -/
structure Tc (p g : Nat) (w w' : World) : Prop where
  os : w'.os = w.os
  tape : w'.tape = w.tape
  output : w'.output = w.output
  size : w.heap.size ≤ w'.heap.size
  block : ∀ k, k < w.heap.size → k ≠ p → k ≠ g → w'.heap[k]? = w.heap[k]?
theorem Tc.refl (p g : Nat) (w : World) : Tc p g w w := ⟨rfl, rfl, rfl, Nat.le_refl _, fun _ _ _ _ => rfl⟩
theorem Tc.trans {p g : Nat} {a b c : World} (h : Tc p g a b) (k : Tc p g b c) : Tc p g a c :=
  ⟨k.os.trans h.os, k.tape.trans h.tape, k.output.trans h.output, Nat.le_trans h.size k.size, fun i hi h1 h2 => (k.block i (Nat.lt_of_lt_of_le hi h.size) h1 h2).trans (h.block i hi h1 h2)⟩
theorem Tc.of_gr {p g : Nat} {w w' : World} (h : Gr w w') : Tc p g w w' := ⟨h.out.os, h.out.tape, h.out.output, h.out.size, fun k hk _ _ => h.out.block k hk⟩
theorem Tc.cellp (p g off : Nat) (w : World) (v : Value) : Tc p g w (w.setCell ⟨p, off, none⟩ v) :=
  ⟨rfl, rfl, rfl, by simp [World.setCell], fun k _ h1 _ => Below.heap_setCell w _ v k h1⟩
theorem Tc.grown {p g : Nat} {w w' : World} (h : w.grownBy w' (some g)) : Tc p g w w' := ⟨h.os, h.tape, h.output, h.size, fun k hk _ h2 => h.block k hk (by simpa using h2)⟩
theorem Tc.below {p g B : Nat} {w w' : World} (h : Tc p g w w') (hp : B ≤ p) (hg : B ≤ g) (hB : B ≤ w.heap.size) : Below B w w' :=
  ⟨h.os, h.tape, h.output, h.size, fun k hk => h.block k (by omega) (by omega) (by omega)⟩
/-- A row that is another's turns not. -/
theorem own_block {w : World} {g cap n : Nat} {xs : List Value} (h : w.ownsRow g 3 1 (.slice (some ⟨g, 0, none⟩) n cap) n xs) : ∃ cur, w.heap[g]? = some (.cells cur 3 (0, 0)) ∧ n ≤ cap ∧ cap ≤ maxLen ∧ cur.size = cap ∧ cur.toList.take n = xs := by
  rcases h.2 with ⟨h1, _⟩ | ⟨g', cap', cur, h1, _, h2, h3, h4, h5, h6⟩
  · cases h1
  · cases h1
    exact ⟨cur, h2, h3, h4, by simpa using h5, by simpa using h6⟩
theorem own_of_block {w w' : World} {g cap n : Nat} {xs : List Value} (h : w.ownsRow g 3 1 (.slice (some ⟨g, 0, none⟩) n cap) n xs) (e : w'.heap[g]? = w.heap[g]?) : w'.ownsRow g 3 1 (.slice (some ⟨g, 0, none⟩) n cap) n xs := by
  obtain ⟨cur, h1, h2, h3, h4, h5⟩ := own_block h
  exact ⟨h.1, .inr ⟨g, cap, cur, rfl, Nat.le_refl _, e.trans h1, h2, h3, by simpa using h4, by simpa using h5⟩⟩
theorem own_lt {w : World} {g cap n : Nat} {xs : List Value} (h : w.ownsRow g 3 1 (.slice (some ⟨g, 0, none⟩) n cap) n xs) : g < w.heap.size := by
  obtain ⟨cur, h1, _⟩ := own_block h
  exact (Array.getElem?_eq_some_iff.1 h1).1
theorem own_re {w : World} {base g cap n : Nat} {xs : List Value} (h : w.ownsRow base 3 1 (.slice (some ⟨g, 0, none⟩) n cap) n xs) : w.ownsRow g 3 1 (.slice (some ⟨g, 0, none⟩) n cap) n xs := by
  rcases h.2 with ⟨h1, _⟩ | ⟨g', cap', cur, h1, _, h2, h3, h4, h5, h6⟩
  · cases h1
  · cases h1
    exact ⟨h.1, .inr ⟨g, cap, cur, rfl, Nat.le_refl _, h2, h3, h4, h5, h6⟩⟩
theorem own_cell {w : World} {g cap n : Nat} {l : List Int} (h : w.ownsRow g 3 1 (.slice (some ⟨g, 0, none⟩) n cap) n (l.map (.int .i64))) {j : Nat} (hj : j < l.length) : w.cell? ⟨g, j, none⟩ = some (.int .i64 (l.getD j 0)) := by
  obtain ⟨cur, h1, h2, h3, h4, h5⟩ := own_block h
  have hn : l.length = n := by have := h.1; simpa using this
  have e : (cur.toList.take n)[j]? = some (.int .i64 (l.getD j 0)) := by rw [h5]; simp [List.getD, hj]
  rw [List.getElem?_take_of_lt (by omega)] at e
  simp [World.cell?, h1]
  simpa using e

theorem Pol.lt {w : World} {p g cap : Nat} {c : CF} {l : List Int} {k : Int} (h : Pol w p g cap c l k) : p < w.heap.size := (Array.getElem?_eq_some_iff.1 h.box).1
theorem Pol.glt {w : World} {p g cap : Nat} {c : CF} {l : List Int} {k : Int} (h : Pol w p g cap c l k) : g < w.heap.size := own_lt h.own
theorem Pol.cell {w : World} {p g cap : Nat} {c : CF} {l : List Int} {k : Int} (h : Pol w p g cap c l k) (off : Nat) : w.cell? ⟨p, off, none⟩ = polAt c (.slice (some ⟨g, 0, none⟩) l.length cap) k off := by
  simp [World.cell?, h.box, polAt]
theorem Pol.froz {w : World} {p g cap : Nat} {c : CF} {l : List Int} {k : Int} (h : Pol w p g cap c l k) (off : Nat) : w.frozen? ⟨p, off, none⟩ = false := frozen_in h.box
theorem Pol.on {w w' : World} {p g cap : Nat} {c : CF} {l : List Int} {k : Int} (h : Pol w p g cap c l k) (r : Gr w w') : Pol w' p g cap c l k :=
  ⟨r.block h.box, own_of_block h.own (r.out.block g h.glt), h.ne⟩
/-- Another's turn leaves it. -/
theorem Pol.other {w w' : World} {p g cap : Nat} {c : CF} {l : List Int} {k : Int} {q r : Nat} (h : Pol w p g cap c l k) (t : Tc q r w w') (h1 : p ≠ q) (h2 : p ≠ r) (h3 : g ≠ q) (h4 : g ≠ r) : Pol w' p g cap c l k :=
  ⟨(t.block p h.lt h1 h2).trans h.box, own_of_block h.own (t.block g h.glt h3 h4), h.ne⟩
theorem Pol.setK {w : World} {p g cap : Nat} {c : CF} {l : List Int} {k : Int} (h : Pol w p g cap c l k) (k' : Int) : Pol (w.setCell ⟨p, 27, none⟩ (.int .i64 k')) p g cap c l k' :=
  ⟨set_block h.box, own_of_block h.own (Below.heap_setCell w _ _ g (Ne.symm h.ne)), h.ne⟩
/-- The row is another's now. -/
theorem Pol.setL {w : World} {p g cap : Nat} {c : CF} {l : List Int} {k : Int} (hb : w.heap[p]? = some (.cells #[.int .i64 c.n, .int .i64 c.f, .int .i64 c.m, .int .i64 c.q, .int .i64 c.fresh, .int .i64 c.grace, .int .i64 c.window, .int .i64 c.t0, .int .i64 c.t1, .int .i64 c.t2, .int .i64 c.t3, .int .i64 c.tol, .int .i64 c.lo, .int .i64 c.hi, .int .i64 c.cup, .int .i64 c.cdn, .int .i64 c.pup, .int .i64 c.tup, .int .i64 c.pdn, .int .i64 c.tdn, .int .i64 c.per, .int .i64 c.far, .int .i64 c.str, .int .i64 c.pro, .int .i64 c.sec, .int .u64 c.seed, .slice (some ⟨g, 0, none⟩) l.length cap, .int .i64 k] 112)) {g' cap' : Nat} {l' : List Int}
    (ho : w.ownsRow g' 3 1 (.slice (some ⟨g', 0, none⟩) l'.length cap') l'.length (l'.map (.int .i64))) (hne : p ≠ g') : Pol (w.setCell ⟨p, 26, none⟩ (.slice (some ⟨g', 0, none⟩) l'.length cap')) p g' cap' c l' k :=
  ⟨set_block hb, own_of_block ho (Below.heap_setCell w _ _ g' (Ne.symm hne)), hne⟩

/-- A policy of the document's: its block p, its row g. -/
structure Rol (w : World) (p g cap : Nat) (c : CF) (l : List Int) : Prop where
  box : w.heap[p]? = some (.cells #[.int .i64 c.n, .int .i64 c.f, .int .i64 c.m, .int .i64 c.q, .int .i64 c.fresh, .int .i64 c.grace, .int .i64 c.window, .int .i64 c.t0, .int .i64 c.t1, .int .i64 c.t2, .int .i64 c.t3, .int .i64 c.tol, .int .i64 c.lo, .int .i64 c.hi, .int .i64 c.cup, .int .i64 c.cdn, .int .i64 c.pup, .int .i64 c.tup, .int .i64 c.pdn, .int .i64 c.tdn, .int .i64 c.per, .int .i64 c.far, .int .i64 c.str, .int .i64 c.pro, .int .i64 c.sec, .int .u64 c.seed, .slice (some ⟨g, 0, none⟩) l.length cap] 62)
  own : w.ownsRow g 3 1 (.slice (some ⟨g, 0, none⟩) l.length cap) l.length (l.map (.int .i64))
  ne : p ≠ g
theorem Rol.lt {w : World} {p g cap : Nat} {c : CF} {l : List Int} (h : Rol w p g cap c l) : p < w.heap.size := (Array.getElem?_eq_some_iff.1 h.box).1
theorem Rol.glt {w : World} {p g cap : Nat} {c : CF} {l : List Int} (h : Rol w p g cap c l) : g < w.heap.size := own_lt h.own
theorem Rol.cell {w : World} {p g cap : Nat} {c : CF} {l : List Int} (h : Rol w p g cap c l) (off : Nat) : w.cell? ⟨p, off, none⟩ = rolAt c (.slice (some ⟨g, 0, none⟩) l.length cap) off := by
  simp [World.cell?, h.box, rolAt]
theorem Rol.froz {w : World} {p g cap : Nat} {c : CF} {l : List Int} (h : Rol w p g cap c l) (off : Nat) : w.frozen? ⟨p, off, none⟩ = false := frozen_in h.box
theorem Rol.on {w w' : World} {p g cap : Nat} {c : CF} {l : List Int} (h : Rol w p g cap c l) (r : Gr w w') : Rol w' p g cap c l :=
  ⟨r.block h.box, own_of_block h.own (r.out.block g h.glt), h.ne⟩
theorem Rol.other {w w' : World} {p g cap : Nat} {c : CF} {l : List Int} {q r : Nat} (h : Rol w p g cap c l) (t : Tc q r w w') (h1 : p ≠ q) (h2 : p ≠ r) (h3 : g ≠ q) (h4 : g ≠ r) : Rol w' p g cap c l :=
  ⟨(t.block p h.lt h1 h2).trans h.box, own_of_block h.own (t.block g h.glt h3 h4), h.ne⟩
theorem Rol.setL {w : World} {p g cap : Nat} {c : CF} {l : List Int} (hb : w.heap[p]? = some (.cells #[.int .i64 c.n, .int .i64 c.f, .int .i64 c.m, .int .i64 c.q, .int .i64 c.fresh, .int .i64 c.grace, .int .i64 c.window, .int .i64 c.t0, .int .i64 c.t1, .int .i64 c.t2, .int .i64 c.t3, .int .i64 c.tol, .int .i64 c.lo, .int .i64 c.hi, .int .i64 c.cup, .int .i64 c.cdn, .int .i64 c.pup, .int .i64 c.tup, .int .i64 c.pdn, .int .i64 c.tdn, .int .i64 c.per, .int .i64 c.far, .int .i64 c.str, .int .i64 c.pro, .int .i64 c.sec, .int .u64 c.seed, .slice (some ⟨g, 0, none⟩) l.length cap] 62)) {g' cap' : Nat} {l' : List Int}
    (ho : w.ownsRow g' 3 1 (.slice (some ⟨g', 0, none⟩) l'.length cap') l'.length (l'.map (.int .i64))) (hne : p ≠ g') : Rol (w.setCell ⟨p, 26, none⟩ (.slice (some ⟨g', 0, none⟩) l'.length cap')) p g' cap' c l' :=
  ⟨set_block hb, own_of_block ho (Below.heap_setCell w _ _ g' (Ne.symm hne)), hne⟩

/-- The configuration at the head of a policy's block. -/
def confIn? (w : World) (p : Addr) : Option (Array Value) :=
  match w.heap[p.block]? with
  | some (.cells cs t _) => if p.off = 0 ∧ p.spot = none ∧ (t = 112 ∨ t = 62) ∧ 26 ≤ cs.size then some (cs.extract 0 26) else none
  | _ => none
theorem Pol.conf {w : World} {p g cap : Nat} {c : CF} {l : List Int} {k : Int} (h : Pol w p g cap c l k) : confIn? w ⟨p, 0, none⟩ = some #[.int .i64 c.n, .int .i64 c.f, .int .i64 c.m, .int .i64 c.q, .int .i64 c.fresh, .int .i64 c.grace, .int .i64 c.window, .int .i64 c.t0, .int .i64 c.t1, .int .i64 c.t2, .int .i64 c.t3, .int .i64 c.tol, .int .i64 c.lo, .int .i64 c.hi, .int .i64 c.cup, .int .i64 c.cdn, .int .i64 c.pup, .int .i64 c.tup, .int .i64 c.pdn, .int .i64 c.tdn, .int .i64 c.per, .int .i64 c.far, .int .i64 c.str, .int .i64 c.pro, .int .i64 c.sec, .int .u64 c.seed] := by
  unfold confIn?
  rw [h.box]
  show (if _ then _ else _) = _
  rw [if_pos ⟨rfl, rfl, Or.inl rfl, by show 26 ≤ 28; omega⟩]
  kernel_rfl
theorem Rol.conf {w : World} {p g cap : Nat} {c : CF} {l : List Int} (h : Rol w p g cap c l) : confIn? w ⟨p, 0, none⟩ = some #[.int .i64 c.n, .int .i64 c.f, .int .i64 c.m, .int .i64 c.q, .int .i64 c.fresh, .int .i64 c.grace, .int .i64 c.window, .int .i64 c.t0, .int .i64 c.t1, .int .i64 c.t2, .int .i64 c.t3, .int .i64 c.tol, .int .i64 c.lo, .int .i64 c.hi, .int .i64 c.cup, .int .i64 c.cdn, .int .i64 c.pup, .int .i64 c.tup, .int .i64 c.pdn, .int .i64 c.tdn, .int .i64 c.per, .int .i64 c.far, .int .i64 c.str, .int .i64 c.pro, .int .i64 c.sec, .int .u64 c.seed] := by
  unfold confIn?
  rw [h.box]
  show (if _ then _ else _) = _
  rw [if_pos ⟨rfl, rfl, Or.inr rfl, by show 26 ≤ 27; omega⟩]
  kernel_rfl
theorem confIn_cells {w : World} {p : Addr} {cs : Array Value} (h : confIn? w p = some cs) : p.off = 0 ∧ p.spot = none ∧ cs.size = 26 ∧ ∀ j v, cs[j]? = some v → w.cell? ⟨p.block, j, none⟩ = some v := by
  unfold confIn? at h
  split at h
  · rename_i cs' t fr hb
    split at h
    · rename_i hc
      obtain ⟨h1, h2, h3, h4⟩ := hc
      cases h
      refine ⟨h1, h2, by simp; omega, fun j v hv => ?_⟩
      have hj : j < (cs'.extract 0 26).size := (Array.getElem?_eq_some_iff.1 hv).1
      simp at hj
      simp [World.cell?, hb]
      rw [Array.getElem?_extract] at hv
      simpa [hj] using hv
    · cases h
  · cases h
/-- A whole configuration is read off a policy's block in one step. -/
@[go_sem ↓] theorem xload36p (a : Act) (x : Operand) (dst : Option Tmp) (ty : TypeId) (pos : String) (after : Array Edge) (guard : Option (Nat × Bool)) (w : World) (hp : isPtr (a.eval x) = true) (hc : (confIn? w (addrOf (a.eval x))).isSome = true) :
    (execOp a.eval { dst, op := .load 36 x, type := ty, pos, after, guard }).run Try.prog w = .ok (.value (.agg ((confIn? w (addrOf (a.eval x))).getD #[]))) w := by
  obtain ⟨cs, hcs⟩ := Option.isSome_iff_exists.1 hc
  cases hv : a.eval x with
  | pointer q =>
    cases q with
    | none => rw [hv] at hp; cases hp
    | some p =>
      rw [hv, addrOf_ptr] at hcs
      rw [addrOf_ptr, hcs]
      obtain ⟨h1, h2, h3, h4⟩ := confIn_cells hcs
      obtain ⟨pb, po, ps⟩ := p
      simp only at h1 h2 h4
      subst h1; subst h2
      show (do let y ← Instr.loadAt 36 (a.eval x); pure (Next.value y) : Sem Next).run Try.prog w = _
      obtain ⟨cl⟩ := cs
      rw [hv, run_val (load36 ⟨pb, 0, none⟩ cl w (by simpa using h3) (fun j u hj => by
        rw [show (⟨pb, 0, none⟩ : Addr).add j = ⟨pb, j, none⟩ from by unfold Addr.add; split <;> simp_all]
        exact h4 j u (by simpa using hj)))]
      rfl
  | _ => rw [hv] at hp; cases hp
end Go.Proofs.Ytjobicffdcnnlaa
