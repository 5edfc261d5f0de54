import Derived.Test.YtjobicffdcnnlaaR3
import Derived.StillTail
import Derived.Deep.Quiet
namespace Go.Proofs.Ytjobicffdcnnlaa
open Go.RowKit
set_option linter.unusedSimpArgs false
set_option linter.unusedVariables false

/-- A configuration: its numbers. -/
structure CF where
  (n f m q fresh grace window t0 t1 t2 t3 tol lo hi cup cdn pup tup pdn tdn per far str pro sec seed : Int)

/-- What the walk's simp doesn't look into. -/
structure Part where
  name : ByteArray
  (is lo hi : Int)

def okT (c : CF) (k : Int) (x : Int) : Bool := !((decide (k < c.m) && (decide (x < 1) || decide (1099511627776 < x))) || (!decide (k < c.m) && !(x == 0)))
def targetsB (c : CF) : Bool := okT c 0 c.t0 && (okT c 1 c.t1 && (okT c 2 c.t2 && okT c 3 c.t3))
def restT (c : CF) : Nat → Bool
  | 0 => targetsB c
  | 1 => okT c 1 c.t1 && (okT c 2 c.t2 && okT c 3 c.t3)
  | 2 => okT c 2 c.t2 && okT c 3 c.t3
  | 3 => okT c 3 c.t3
  | _ => true
theorem okT_in {c : CF} {k x : Int} (h : k < c.m) : okT c k x = (decide (1 ≤ x) && decide (x ≤ 1099511627776)) := by
  unfold okT
  by_cases a : x < 1 <;> by_cases b : 1099511627776 < x <;> simp [h, a, b] <;> omega
theorem okT_out {c : CF} {k x : Int} (h : ¬ k < c.m) : okT c k x = (x == 0) := by
  unfold okT
  simp [h]
def b01 (b : Bool) : Int := if b = true then 1 else 0
def targetsV (c : CF) : Int := b01 (targetsB c)

theorem same_any (x : Int) (w : World) : Calls Try.prog 98 #[.int .i64 x] w fun e w' => e = .returned (.int .i64 x) ∧ w = w' := by
  go_enter Try.func98, Try.ntmps98
  go_wp2
  go_ret
  exact ⟨rfl, rfl⟩

/-- The world has grown: what was there is as it was. -/
structure Gr (w w' : World) : Prop where mk :: (out : Below w.heap.size w w')
theorem Gr.refl (w : World) : Gr w w := ⟨Below.refl _ _⟩
theorem Gr.trans {a b c : World} (h : Gr a b) (k : Gr b c) : Gr a c := ⟨h.out.trans (k.out.mono h.out.size)⟩
theorem Gr.alloc {a b : World} (h : Gr a b) (o : Obj) : Gr a (b.alloc o) := ⟨h.out.alloc h.out.size o⟩
theorem Gr.drew {a b : World} (h : Gr a b) : Gr a b.drew := ⟨h.out.drew⟩
theorem Gr.drewN {a b : World} (h : Gr a b) (n : Nat) : Gr a (b.drewN n) := ⟨h.out.trans ⟨rfl, rfl, rfl, Nat.le_refl _, fun _ _ => rfl⟩⟩
theorem Gr.cell {w w' : World} (h : Gr w w') {p : Addr} (hp : p.block < w.heap.size) : w'.cell? p = w.cell? p := h.out.cell hp
theorem Gr.cell_some {w w' : World} (h : Gr w w') {p : Addr} {v : Value} (hp : w.cell? p = some v) : w'.cell? p = some v := (h.cell (World.block_lt_of_cell? w p hp)).trans hp
theorem Gr.block {w w' : World} (h : Gr w w') {b : Nat} {o : Obj} (hb : w.heap[b]? = some o) : w'.heap[b]? = some o := (h.out.block b (Array.getElem?_eq_some_iff.1 hb).1).trans hb
theorem Gr.size {w w' : World} (h : Gr w w') : w.heap.size ≤ w'.heap.size := h.out.size

set_option maxHeartbeats 1000000 in
theorem targets_core (c : CF) (b : Bool) (hb : targetsB c = b) (w : World) : Calls Try.prog 99 #[.agg #[.int .i64 c.n, .int .i64 c.f, .int .i64 c.m, .int .i64 c.q, .int .i64 c.fresh, .int .i64 c.grace, .int .i64 c.window, .int .i64 c.t0, .int .i64 c.t1, .int .i64 c.t2, .int .i64 c.t3, .int .i64 c.tol, .int .i64 c.lo, .int .i64 c.hi, .int .i64 c.cup, .int .i64 c.cdn, .int .i64 c.pup, .int .i64 c.tup, .int .i64 c.pdn, .int .i64 c.tdn, .int .i64 c.per, .int .i64 c.far, .int .i64 c.str, .int .i64 c.pro, .int .i64 c.sec, .int .u64 c.seed]] w fun e w' => e = .returned (.int .i64 (b01 b)) ∧ w.alloc (.cells #[.int .i64 c.n, .int .i64 c.f, .int .i64 c.m, .int .i64 c.q, .int .i64 c.fresh, .int .i64 c.grace, .int .i64 c.window, .int .i64 c.t0, .int .i64 c.t1, .int .i64 c.t2, .int .i64 c.t3, .int .i64 c.tol, .int .i64 c.lo, .int .i64 c.hi, .int .i64 c.cup, .int .i64 c.cdn, .int .i64 c.pup, .int .i64 c.tup, .int .i64 c.pdn, .int .i64 c.tdn, .int .i64 c.per, .int .i64 c.far, .int .i64 c.str, .int .i64 c.pro, .int .i64 c.sec, .int .u64 c.seed] 36) = w' := by
  have i0 : ∀ w, (Instr.index 34 (.agg #[.int .i64 c.t0, .int .i64 c.t1, .int .i64 c.t2, .int .i64 c.t3]) (.int .i64 0)).run Try.prog w = .ok (.int .i64 c.t0) w := fun _ => by kernel_rfl
  have i1 : ∀ w, (Instr.index 34 (.agg #[.int .i64 c.t0, .int .i64 c.t1, .int .i64 c.t2, .int .i64 c.t3]) (.int .i64 1)).run Try.prog w = .ok (.int .i64 c.t1) w := fun _ => by kernel_rfl
  have i2 : ∀ w, (Instr.index 34 (.agg #[.int .i64 c.t0, .int .i64 c.t1, .int .i64 c.t2, .int .i64 c.t3]) (.int .i64 2)).run Try.prog w = .ok (.int .i64 c.t2) w := fun _ => by kernel_rfl
  have i3 : ∀ w, (Instr.index 34 (.agg #[.int .i64 c.t0, .int .i64 c.t1, .int .i64 c.t2, .int .i64 c.t3]) (.int .i64 3)).run Try.prog w = .ok (.int .i64 c.t3) w := fun _ => by kernel_rfl
  have H0 := Lib.hid hb; clear hb
  go_enter Try.func99, Try.ntmps99
  go_wp2
  go_loop [7] (fun i => ∃ k : Nat, k ≤ 4 ∧ i = .int .i64 k ∧ Hid (restT c k = b)) (fun i => 4 - (intOf i).toNat)
  case atStart => exact ⟨0, by omega, rfl, H0⟩
  case round =>
    obtain ⟨k, hk, rfl, hr⟩ := hrel
    rcases (show k = 0 ∨ k = 1 ∨ k = 2 ∨ k = 3 ∨ k = 4 by omega) with h | h | h | h | h <;> subst h
    · by_cases hm : (0 : Int) < c.m
      · have ho := okT_in (x := c.t0) hm
        by_cases hx : 1 ≤ c.t0
        · by_cases hy : c.t0 ≤ 1099511627776
          · have hn : Hid (restT c 1 = b) := by have h := hr.out; simpa only [restT, targetsB, ho, hx, hy, decide_true, Bool.true_and, Bool.and_true, Hid] using h
            clear hr ho
            go_wp2
            go_round
            case rel => exact ⟨1, by omega, by first | rfl | go_num, hn⟩
            case measure => simp [intOf]
          · have hf : b = false := by have h := hr.out; simp only [restT, targetsB, ho, hx, hy, decide_true, decide_false, Bool.and_false, Bool.false_and] at h; exact h.symm
            clear hr ho
            subst hf
            go_wp2
            go_ret
            exact ⟨rfl, rfl⟩
        · have hf : b = false := by have h := hr.out; simp only [restT, targetsB, ho, hx, decide_false, Bool.false_and] at h; exact h.symm
          clear hr ho
          subst hf
          go_wp2
          go_ret
          exact ⟨rfl, rfl⟩
      · have ho := okT_out (x := c.t0) hm
        by_cases hx : c.t0 = 0
        · have ho' : okT c 0 c.t0 = true := by rw [ho, hx]; rfl
          have hn : Hid (restT c 1 = b) := by have h := hr.out; simp only [restT, targetsB, ho', Bool.true_and] at h; exact h
          have hz : (c.t0 != 0) = false := by simp [hx]
          clear hr ho ho' hx
          go_wp2
          go_round
          case rel => exact ⟨1, by omega, by first | rfl | go_num, hn⟩
          case measure => simp [intOf]
        · have hz : (c.t0 != 0) = true := by simp [hx]
          have hf : b = false := by have h := hr.out; simp only [restT, targetsB, ho, beq_eq_false_iff_ne.2 hx, Bool.false_and] at h; exact h.symm
          clear hr ho hx
          subst hf
          go_wp2
          go_ret
          exact ⟨rfl, rfl⟩
    · by_cases hm : (1 : Int) < c.m
      · have ho := okT_in (x := c.t1) hm
        by_cases hx : 1 ≤ c.t1
        · by_cases hy : c.t1 ≤ 1099511627776
          · have hn : Hid (restT c 2 = b) := by have h := hr.out; simpa only [restT, targetsB, ho, hx, hy, decide_true, Bool.true_and, Bool.and_true, Hid] using h
            clear hr ho
            go_wp2
            go_round
            case rel => exact ⟨2, by omega, by first | rfl | go_num, hn⟩
            case measure => simp [intOf]
          · have hf : b = false := by have h := hr.out; simp only [restT, targetsB, ho, hx, hy, decide_true, decide_false, Bool.and_false, Bool.false_and] at h; exact h.symm
            clear hr ho
            subst hf
            go_wp2
            go_ret
            exact ⟨rfl, rfl⟩
        · have hf : b = false := by have h := hr.out; simp only [restT, targetsB, ho, hx, decide_false, Bool.false_and] at h; exact h.symm
          clear hr ho
          subst hf
          go_wp2
          go_ret
          exact ⟨rfl, rfl⟩
      · have ho := okT_out (x := c.t1) hm
        by_cases hx : c.t1 = 0
        · have ho' : okT c 1 c.t1 = true := by rw [ho, hx]; rfl
          have hn : Hid (restT c 2 = b) := by have h := hr.out; simp only [restT, targetsB, ho', Bool.true_and] at h; exact h
          have hz : (c.t1 != 0) = false := by simp [hx]
          clear hr ho ho' hx
          go_wp2
          go_round
          case rel => exact ⟨2, by omega, by first | rfl | go_num, hn⟩
          case measure => simp [intOf]
        · have hz : (c.t1 != 0) = true := by simp [hx]
          have hf : b = false := by have h := hr.out; simp only [restT, targetsB, ho, beq_eq_false_iff_ne.2 hx, Bool.false_and] at h; exact h.symm
          clear hr ho hx
          subst hf
          go_wp2
          go_ret
          exact ⟨rfl, rfl⟩
    · by_cases hm : (2 : Int) < c.m
      · have ho := okT_in (x := c.t2) hm
        by_cases hx : 1 ≤ c.t2
        · by_cases hy : c.t2 ≤ 1099511627776
          · have hn : Hid (restT c 3 = b) := by have h := hr.out; simpa only [restT, targetsB, ho, hx, hy, decide_true, Bool.true_and, Bool.and_true, Hid] using h
            clear hr ho
            go_wp2
            go_round
            case rel => exact ⟨3, by omega, by first | rfl | go_num, hn⟩
            case measure => simp [intOf]
          · have hf : b = false := by have h := hr.out; simp only [restT, targetsB, ho, hx, hy, decide_true, decide_false, Bool.and_false, Bool.false_and] at h; exact h.symm
            clear hr ho
            subst hf
            go_wp2
            go_ret
            exact ⟨rfl, rfl⟩
        · have hf : b = false := by have h := hr.out; simp only [restT, targetsB, ho, hx, decide_false, Bool.false_and] at h; exact h.symm
          clear hr ho
          subst hf
          go_wp2
          go_ret
          exact ⟨rfl, rfl⟩
      · have ho := okT_out (x := c.t2) hm
        by_cases hx : c.t2 = 0
        · have ho' : okT c 2 c.t2 = true := by rw [ho, hx]; rfl
          have hn : Hid (restT c 3 = b) := by have h := hr.out; simp only [restT, targetsB, ho', Bool.true_and] at h; exact h
          have hz : (c.t2 != 0) = false := by simp [hx]
          clear hr ho ho' hx
          go_wp2
          go_round
          case rel => exact ⟨3, by omega, by first | rfl | go_num, hn⟩
          case measure => simp [intOf]
        · have hz : (c.t2 != 0) = true := by simp [hx]
          have hf : b = false := by have h := hr.out; simp only [restT, targetsB, ho, beq_eq_false_iff_ne.2 hx, Bool.false_and] at h; exact h.symm
          clear hr ho hx
          subst hf
          go_wp2
          go_ret
          exact ⟨rfl, rfl⟩
    · by_cases hm : (3 : Int) < c.m
      · have ho := okT_in (x := c.t3) hm
        by_cases hx : 1 ≤ c.t3
        · by_cases hy : c.t3 ≤ 1099511627776
          · have hn : Hid (restT c 4 = b) := by have h := hr.out; simpa only [restT, targetsB, ho, hx, hy, decide_true, Bool.true_and, Bool.and_true, Hid] using h
            clear hr ho
            go_wp2
            go_round
            case rel => exact ⟨4, by omega, by first | rfl | go_num, hn⟩
            case measure => simp [intOf]
          · have hf : b = false := by have h := hr.out; simp only [restT, targetsB, ho, hx, hy, decide_true, decide_false, Bool.and_false, Bool.false_and] at h; exact h.symm
            clear hr ho
            subst hf
            go_wp2
            go_ret
            exact ⟨rfl, rfl⟩
        · have hf : b = false := by have h := hr.out; simp only [restT, targetsB, ho, hx, decide_false, Bool.false_and] at h; exact h.symm
          clear hr ho
          subst hf
          go_wp2
          go_ret
          exact ⟨rfl, rfl⟩
      · have ho := okT_out (x := c.t3) hm
        by_cases hx : c.t3 = 0
        · have ho' : okT c 3 c.t3 = true := by rw [ho, hx]; rfl
          have hn : Hid (restT c 4 = b) := by have h := hr.out; simp only [restT, targetsB, ho', Bool.true_and] at h; exact h
          have hz : (c.t3 != 0) = false := by simp [hx]
          clear hr ho ho' hx
          go_wp2
          go_round
          case rel => exact ⟨4, by omega, by first | rfl | go_num, hn⟩
          case measure => simp [intOf]
        · have hz : (c.t3 != 0) = true := by simp [hx]
          have hf : b = false := by have h := hr.out; simp only [restT, targetsB, ho, beq_eq_false_iff_ne.2 hx, Bool.false_and] at h; exact h.symm
          clear hr ho hx
          subst hf
          go_wp2
          go_ret
          exact ⟨rfl, rfl⟩
    · have hf : b = true := hr.out.symm
      clear hr
      subst hf
      go_wp2
      go_ret
      exact ⟨rfl, rfl⟩
theorem targets_any (c : CF) (w : World) : Calls Try.prog 99 #[.agg #[.int .i64 c.n, .int .i64 c.f, .int .i64 c.m, .int .i64 c.q, .int .i64 c.fresh, .int .i64 c.grace, .int .i64 c.window, .int .i64 c.t0, .int .i64 c.t1, .int .i64 c.t2, .int .i64 c.t3, .int .i64 c.tol, .int .i64 c.lo, .int .i64 c.hi, .int .i64 c.cup, .int .i64 c.cdn, .int .i64 c.pup, .int .i64 c.tup, .int .i64 c.pdn, .int .i64 c.tdn, .int .i64 c.per, .int .i64 c.far, .int .i64 c.str, .int .i64 c.pro, .int .i64 c.sec, .int .u64 c.seed]] w fun e w' => e = .returned (.int .i64 (targetsV c)) ∧ w.alloc (.cells #[.int .i64 c.n, .int .i64 c.f, .int .i64 c.m, .int .i64 c.q, .int .i64 c.fresh, .int .i64 c.grace, .int .i64 c.window, .int .i64 c.t0, .int .i64 c.t1, .int .i64 c.t2, .int .i64 c.t3, .int .i64 c.tol, .int .i64 c.lo, .int .i64 c.hi, .int .i64 c.cup, .int .i64 c.cdn, .int .i64 c.pup, .int .i64 c.tup, .int .i64 c.pdn, .int .i64 c.tdn, .int .i64 c.per, .int .i64 c.far, .int .i64 c.str, .int .i64 c.pro, .int .i64 c.sec, .int .u64 c.seed] 36) = w' := targets_core c _ rfl w
end Go.Proofs.Ytjobicffdcnnlaa
