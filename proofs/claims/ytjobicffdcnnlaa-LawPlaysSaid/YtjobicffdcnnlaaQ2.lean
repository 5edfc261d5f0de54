import Derived.Test.YtjobicffdcnnlaaQ1
import Derived.Test.YtjobicffdcnnlaaZ1
import Derived.Test.YtjobicffdcnnlaaR3
import Derived.BigQuiet
/- A head of quiet operations reckoned by a function, not walked. -/
namespace Go.Proofs.Ytjobicffdcnnlaa
open Go Go.RowKit

def off36 : Nat → Option Nat := fun i => [0, 1, 2, 3, 4, 5, 6, 7, 11, 12, 13, 14, 15, 16, 17, 18, 19, 20, 21, 22, 23, 24, 25][i]?

def build104Q : List (Nat × Value) → Option Value
  | [(0, .string s), (1, .int .i64 x), (2, .int .i64 y), (3, .int .i64 z)] => some (.agg #[.string s, .int .i64 x, .int .i64 y, .int .i64 z])
  | _ => none
def binQ : BinOp → Value → Value → Option Value
  | .sub, .int .i64 x, .int .i64 y => some (.int .i64 (IntKind.i64.wrap (x - y)))
  | .add, .int .i64 x, .int .i64 y => some (.int .i64 (IntKind.i64.wrap (x + y)))
  | .mul, .int .i64 x, .int .i64 y => some (.int .i64 (IntKind.i64.wrap (x * y)))
  | .quo, .int .i64 x, .int .i64 y => if y = 0 then none else some (.int .i64 (IntKind.i64.wrap (x.tdiv y)))
  | _, _, _ => none

theorem fa36 (a : Addr) (w : World) : ∀ (i n : Nat), off36 i = some n → (Instr.fieldAt 36 (.pointer (some a)) i).run Try.prog w = .ok (.pointer (some (a.add n))) w
  | 0, _, h => by cases h; exact fa36_0 a w
  | 1, _, h => by cases h; exact fa36_1 a w
  | 2, _, h => by cases h; exact fa36_2 a w
  | 3, _, h => by cases h; exact fa36_3 a w
  | 4, _, h => by cases h; exact fa36_4 a w
  | 5, _, h => by cases h; exact fa36_5 a w
  | 6, _, h => by cases h; exact fa36_6 a w
  | 7, _, h => by cases h; exact fa36_7 a w
  | 8, _, h => by cases h; exact fa36_8 a w
  | 9, _, h => by cases h; exact fa36_9 a w
  | 10, _, h => by cases h; exact fa36_10 a w
  | 11, _, h => by cases h; exact fa36_11 a w
  | 12, _, h => by cases h; exact fa36_12 a w
  | 13, _, h => by cases h; exact fa36_13 a w
  | 14, _, h => by cases h; exact fa36_14 a w
  | 15, _, h => by cases h; exact fa36_15 a w
  | 16, _, h => by cases h; exact fa36_16 a w
  | 17, _, h => by cases h; exact fa36_17 a w
  | 18, _, h => by cases h; exact fa36_18 a w
  | 19, _, h => by cases h; exact fa36_19 a w
  | 20, _, h => by cases h; exact fa36_20 a w
  | 21, _, h => by cases h; exact fa36_21 a w
  | 22, _, h => by cases h; exact fa36_22 a w
  | i + 23, _, h => by simp [off36] at h

theorem run_val {P : Program} {m : Sem Value} {w : World} {v : Value} (h : m.run P w = .ok v w) : (do let x ← m; pure (Next.value x) : Sem Next).run P w = .ok (.value v) w := by
  simp [h]

/-- What an operation of a head comes to: its value, and the block it reads of. -/
def stepQ (B : Nat) (rd : TypeId → Nat → Option Value) (cf : FuncId → List Value → Option (Value × List (Value × Value))) (a : Act) (o : Oper) : Option (Value × List (Value × Value)) :=
  match o.guard with
  | some _ => none
  | none => match o.op with
    | .move x => some (a.eval x, [])
    | .assign x => some (a.eval x, [])
    | .fieldAddr t x i => if t = 36 then (match a.eval x with
      | .pointer (some p) => (off36 i).map fun n => (.pointer (some (p.add n)), [])
      | _ => none) else none
    | .load t x => match a.eval x with
      | .pointer (some ⟨b, off, none⟩) => (rd t off).map fun v => (v, [(.int .u64 b, .int .u64 B)])
      | _ => none
    | .call { callee := .value x, args, .. } => match a.eval x with
      | .func (.func f) ⟨[]⟩ ⟨[]⟩ => cf f (args.map a.eval).toList
      | _ => none
    | .build t ps => if t = 104 then (build104Q (ps.map fun (i, x) => (i, a.eval x)).toList).map fun v => (v, []) else none
    | .binOp op _ x y _ => (binQ op (a.eval x) (a.eval y)).map fun v => (v, [])
    | _ => none

set_option maxRecDepth 100000 in
theorem stepQ_sound {C : World → Prop} {rd : TypeId → Nat → Option Value} {cf : FuncId → List Value → Option (Value × List (Value × Value))} {B : Nat}
    (hrd : ∀ t off v, rd t off = some v → ∀ w, C w → (Instr.loadAt t (.pointer (some ⟨B, off, none⟩))).run Try.prog w = .ok v w)
    (hcf : ∀ f args v ob, cf f args = some (v, ob) → (∀ p ∈ ob, p.1 = p.2) → (∀ w, (callFunc f args.toArray).run Try.prog w = .ok (.enter f args.toArray) w) ∧ ∀ w, C w → Calls Try.prog f args.toArray w fun e w' => e = .returned v ∧ C w')
    {a : Act} {o : Oper} {v : Value} {bs : List (Value × Value)} (h : stepQ B rd cf a o = some (v, bs)) (hb : ∀ p ∈ bs, p.1 = p.2) : o.guard = none ∧ ∀ w, C w → o.quietAt Try.prog a C w v := by
  obtain ⟨dst, op, ty, pos, after, guard⟩ := o
  unfold stepQ at h
  cases guard with
  | some g => simp at h
  | none =>
    refine ⟨rfl, fun w hw => ?_⟩
    unfold Oper.quietAt
    cases op
    case move x => simp at h; rw [BigFrame.run_move x rfl]; exact ⟨rfl, h.1⟩
    case assign x => simp at h; rw [BigFrame.run_assign x rfl]; exact ⟨rfl, h.1⟩
    case fieldAddr t x i =>
      replace h : (if t = 36 then (match a.eval x with | .pointer (some p) => (off36 i).map fun n => (Value.pointer (some (p.add n)), ([] : List (Value × Value))) | _ => none) else none) = some (v, bs) := h
      by_cases ht : t = 36
      · rw [if_pos ht] at h
        show Oper.quietUpon Try.prog C w _ ((do let y ← Instr.fieldAt t (a.eval x) i; pure (Next.value y) : Sem Next).run Try.prog w)
        rw [ht]
        generalize a.eval x = vx at *
        split at h
        · rename_i p
          obtain ⟨n, hn, h⟩ := Option.map_eq_some_iff.1 h
          cases h
          rw [run_val (fa36 p w i n hn)]
          exact ⟨rfl, rfl⟩
        · cases h
      · rw [if_neg ht] at h; cases h
    case load t x =>
      simp only at h
      split at h
      · rename_i b off hx
        obtain ⟨u, hu, h⟩ := Option.map_eq_some_iff.1 h
        cases h
        have := hb _ (List.mem_singleton.2 rfl)
        have hbB : b = B := by simp at this; omega
        subst hbB
        show Oper.quietUpon Try.prog C w _ ((do let y ← Instr.loadAt t (a.eval x); pure (Next.value y) : Sem Next).run Try.prog w)
        rw [hx, run_val (hrd t off _ hu w hw)]
        exact ⟨rfl, rfl⟩
      · cases h
    case call c =>
      obtain ⟨callee, args, ats⟩ := c
      cases callee
      case value x =>
        simp only at h
        split at h
        · rename_i f hx
          obtain ⟨h1, h2⟩ := hcf f _ _ _ h hb
          have e : (execOp a.eval { dst, op := .call { callee := .value x, args, argTypes := ats }, type := ty, pos, after, guard := none }) = callFunc f (args.map a.eval) := by
            show (do let d ← resolve a.eval { callee := .value x, args, argTypes := ats } ty; invoke d.target d.args) = _
            unfold resolve
            simp only [hx]
            simp [invoke, Deferred.ofValue]
          rw [e]
          have h1' := h1 w
          have h2' := h2 w hw
          rw [Array.toArray_toList] at h1' h2'
          rw [h1']
          exact ⟨rfl, h2'⟩
        · cases h
      all_goals (simp at h)
    case build t ps =>
      replace h : (if t = 104 then (build104Q (ps.map fun (i, x) => (i, a.eval x)).toList).map fun v => (v, ([] : List (Value × Value))) else none) = some (v, bs) := h
      by_cases ht : t = 104
      · rw [if_pos ht] at h
        obtain ⟨u, hu, h⟩ := Option.map_eq_some_iff.1 h
        cases h
        show Oper.quietUpon Try.prog C w _ ((do let y ← Instr.build t (ps.map fun (i, x) => (i, a.eval x)); pure (Next.value y) : Sem Next).run Try.prog w)
        rw [ht]
        generalize ps.map (fun (i, x) => (i, a.eval x)) = q at *
        obtain ⟨q⟩ := q
        unfold build104Q at hu
        split at hu
        · rename_i s x y z hq
          cases hu
          simp only at hq
          subst hq
          rw [run_val (build104 w s x y z)]
          exact ⟨rfl, rfl⟩
        · cases hu
      · rw [if_neg ht] at h; cases h
    case binOp op t x y yt =>
      simp only at h
      obtain ⟨u, hu, h⟩ := Option.map_eq_some_iff.1 h
      cases h
      show Oper.quietUpon Try.prog C w _ ((do let y ← (do eqGuard op t x y (a.eval x) (a.eval y); binOp op t (a.eval x) (a.eval y)); pure (Next.value y) : Sem Next).run Try.prog w)
      generalize a.eval x = vx at *
      generalize a.eval y = vy at *
      unfold binQ at hu
      split at hu
      · cases hu
        rw [run_val (v := .int .i64 _) (by simp [go_sem, eqGuard]; rfl)]
        exact ⟨rfl, rfl⟩
      · cases hu
        rw [run_val (v := .int .i64 _) (by simp [go_sem, eqGuard]; rfl)]
        exact ⟨rfl, rfl⟩
      · cases hu
        rw [run_val (v := .int .i64 _) (by simp [go_sem, eqGuard]; rfl)]
        exact ⟨rfl, rfl⟩
      · rename_i p q
        by_cases hy : q = 0
        · rw [if_pos hy] at hu; cases hu
        · rw [if_neg hy] at hu
          cases hu
          rw [run_val (v := .int .i64 _) (by simp [go_sem, eqGuard, Op.intDiv, hy]; rfl)]
          exact ⟨rfl, rfl⟩
      · cases hu
    all_goals (simp at h)

def runQ (B : Nat) (rd : TypeId → Nat → Option Value) (cf : FuncId → List Value → Option (Value × List (Value × Value))) : List Oper → Act → Option (Act × List (Value × Value))
  | [], a => some (a, [])
  | o :: r, a => match stepQ B rd cf a o with
    | some (v, bs) => match runQ B rd cf r (a.put o.dst v) with
      | some (a', bs') => some (a', bs ++ bs')
      | none => none
    | none => none

theorem runQ_sound {ops : Array Oper} {C : World → Prop} {rd : TypeId → Nat → Option Value} {cf : FuncId → List Value → Option (Value × List (Value × Value))} {B : Nat}
    (hrd : ∀ t off v, rd t off = some v → ∀ w, C w → (Instr.loadAt t (.pointer (some ⟨B, off, none⟩))).run Try.prog w = .ok v w)
    (hcf : ∀ f args v ob, cf f args = some (v, ob) → (∀ p ∈ ob, p.1 = p.2) → (∀ w, (callFunc f args.toArray).run Try.prog w = .ok (.enter f args.toArray) w) ∧ ∀ w, C w → Calls Try.prog f args.toArray w fun e w' => e = .returned v ∧ C w')
    {Q : Act → Prop} : ∀ (l : List Oper) (a a' : Act) (bs : List (Value × Value)), runQ B rd cf l a = some (a', bs) → (∀ p ∈ bs, p.1 = p.2) → Q a' → wpQuiet Try.prog ops C Q l a
  | [], a, a', bs, h, _, hq => by
    simp only [runQ, Option.some.injEq, Prod.mk.injEq] at h
    obtain ⟨rfl, _⟩ := h
    exact hq
  | o :: r, a, a', bs, h, hb, hq => by
    unfold runQ at h
    split at h
    · rename_i v bs1 hs
      split at h
      · rename_i a1 bs2 hr
        cases h
        obtain ⟨hg, h1⟩ := stepQ_sound hrd hcf hs (fun b hm => hb b (by simp [hm]))
        have ih := runQ_sound (ops := ops) (Q := Q) hrd hcf r _ _ _ hr (fun b hm => hb b (by simp [hm])) hq
        unfold wpQuiet
        rw [if_pos (by simp [Region.wanted, hg])]
        exact ⟨v, h1, ih⟩
      · cases h
    · cases h

theorem load3 (p : Addr) (v : Value) (w : World) (h : w.cell? p = some v) : (Instr.loadAt 3 (.pointer (some p))).run Try.prog w = .ok v w := by
  simp [Instr.loadAt, go_sem, h]
theorem load2 (p : Addr) (v : Value) (w : World) (h : w.cell? p = some v) : (Instr.loadAt 2 (.pointer (some p))).run Try.prog w = .ok v w := by
  simp [Instr.loadAt, go_sem, h]
theorem agg36 (w : World) : (isAgg 36).run Try.prog w = .ok true w := by kernel_rfl
theorem size36 (w : World) : (sizeOf 36).run Try.prog w = .ok 26 w := by kernel_rfl
theorem load36 (p : Addr) (cs : List Value) (w : World) (hl : cs.length = 26) (h : ∀ j v, cs[j]? = some v → w.cell? (p.add j) = some v) : (Instr.loadAt 36 (.pointer (some p))).run Try.prog w = .ok (.agg cs.toArray) w := by
  have hc := run_loadCells_list (P := Try.prog) w p cs h
  rw [hl] at hc
  simp [Instr.loadAt, Instr.sureAddr, loadVar, hc]
theorem load36_block (w : World) (b : Nat) (cs : Array Value) (fr : Nat × Nat) (hs : cs.size = 26) (h : w.heap[b]? = some (.cells cs 36 fr)) : (Instr.loadAt 36 (.pointer (some ⟨b, 0, none⟩))).run Try.prog w = .ok (.agg cs) w := by
  obtain ⟨cs⟩ := cs
  refine load36 ⟨b, 0, none⟩ cs w (by simpa using hs) (fun j u hj => ?_)
  rw [show (⟨b, 0, none⟩ : Addr).add j = ⟨b, j, none⟩ from by unfold Addr.add; split <;> simp_all]
  unfold World.cell?
  rw [h]
  simpa using hj
/-- The address in a pointer. -/
def addrOf : Value → Addr
  | .pointer (some p) => p
  | _ => ⟨0, 0, none⟩
def isPtr : Value → Bool
  | .pointer (some _) => true
  | _ => false
@[go_sem] theorem addrOf_ptr (p : Addr) : addrOf (.pointer (some p)) = p := rfl
@[go_sem] theorem isPtr_ptr (p : Addr) : isPtr (.pointer (some p)) = true := rfl
/-- The configuration that a block holds. -/
def conf36? (w : World) (p : Addr) : Option (Array Value) :=
  match w.heap[p.block]? with
  | some (.cells cs t _) => if p.off = 0 ∧ p.spot = none ∧ t = 36 ∧ cs.size = 26 then some cs else none
  | _ => none
theorem conf36_block {w : World} {p : Addr} {cs : Array Value} (h : conf36? w p = some cs) : ∃ b fr, p = ⟨b, 0, none⟩ ∧ w.heap[b]? = some (.cells cs 36 fr) ∧ cs.size = 26 := by
  unfold conf36? at h
  split at h
  · rename_i cs' t fr hb
    split at h
    · rename_i hc
      cases h
      obtain ⟨h1, h2, h3, h4⟩ := hc
      obtain ⟨b, o, sp⟩ := p
      simp only at h1 h2 hb
      subst h1; subst h2; subst h3
      exact ⟨b, fr, rfl, hb, h4⟩
    · cases h
  · cases h
theorem conf36_of {w : World} {b : Nat} {cs : Array Value} {fr : Nat × Nat} (h : w.heap[b]? = some (.cells cs 36 fr)) (hs : cs.size = 26) : conf36? w ⟨b, 0, none⟩ = some cs := by
  unfold conf36?
  rw [h]
  simp [hs]
@[go_sem] theorem conf36_box (w : World) (cs : Array Value) (hs : cs.size = 26) : conf36? (w.alloc (.cells cs 36)) ⟨w.heap.size, 0, none⟩ = some cs := conf36_of (heap_new rfl) hs
theorem conf36_congr {w w' : World} {p : Addr} (h : w'.heap[p.block]? = w.heap[p.block]?) : conf36? w' p = conf36? w p := by unfold conf36?; rw [h]
@[go_sem] theorem conf36_alloc (w : World) (o : Obj) (p : Addr) (h : p.block < w.heap.size) : conf36? (w.alloc o) p = conf36? w p := conf36_congr (Below.heap_alloc _ _ _ h)
@[go_sem] theorem conf36_drew (w : World) (p : Addr) : conf36? w.drew p = conf36? w p := rfl
@[go_sem] theorem conf36_drewN (w : World) (n : Nat) (p : Addr) : conf36? (w.drewN n) p = conf36? w p := rfl
@[go_sem] theorem conf36_set (w : World) (q p : Addr) (v : Value) (h : p.block ≠ q.block) : conf36? (w.setCell q v) p = conf36? w p := conf36_congr (Below.heap_setCell _ _ _ _ h)
/-- A whole configuration is read in one step. -/
@[go_sem ↓] theorem xload36 (a : Act) (x : Operand) (dst : Option Tmp) (ty : TypeId) (pos : String) (after : Array Edge) (guard : Option (Nat × Bool)) (w : World) (hp : isPtr (a.eval x) = true) (hc : (conf36? w (addrOf (a.eval x))).isSome = true) :
    (execOp a.eval { dst, op := .load 36 x, type := ty, pos, after, guard }).run Try.prog w = .ok (.value (.agg ((conf36? w (addrOf (a.eval x))).getD #[]))) w := by
  obtain ⟨cs, hcs⟩ := Option.isSome_iff_exists.1 hc
  cases hv : a.eval x with
  | pointer q =>
    cases q with
    | none => rw [hv] at hp; cases hp
    | some p =>
      rw [hv, addrOf_ptr] at hcs
      rw [addrOf_ptr, hcs]
      obtain ⟨b, fr, rfl, hb, hs⟩ := conf36_block hcs
      show (do let y ← Instr.loadAt 36 (a.eval x); pure (Next.value y) : Sem Next).run Try.prog w = _
      rw [hv, run_val (load36_block w b cs fr hs hb)]
      rfl
  | _ => rw [hv] at hp; cases hp
end Go.Proofs.Ytjobicffdcnnlaa
