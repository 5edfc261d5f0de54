import Derived.Test.YtjobicffdcnnlaaC1
import Derived.Test.YtjobicffdcnnlaaQ1
import Derived.Test.YtjobicffdcnnlaaQ2
import Derived.Deep.DeepCutAuto
import Derived.Deep.Cut
namespace Go.Proofs.Ytjobicffdcnnlaa
open Go.RowKit
set_option linter.unusedSimpArgs false
set_option linter.unusedVariables false

theorem cell_box (w : World) (cs : List Value) (t : TypeId) (i : Nat) (v : Value) (h : cs[i]? = some v) : (w.alloc (.cells cs.toArray t)).cell? ⟨w.heap.size, i, none⟩ = some v := by
  unfold World.cell?
  rw [heap_new rfl]
  simpa using h
def clampF (x : Int) : Int := min (max x 0) 16
theorem clampF_range (x : Int) : 0 ≤ clampF x ∧ clampF x ≤ 16 := by unfold clampF; omega
theorem same_as (x y : Int) (h : x = y) (w : World) : Calls Try.prog 98 #[.int .i64 x] w fun e w' => e = .returned (.int .i64 y) ∧ w = w' := by
  subst h
  exact same_any x w
def fHi (n : Int) : Int := wrap64 ((wrap64 (n - 1)).tdiv 3)
def partsL (c : CF) : List Part :=
  [⟨⟨#[110]⟩, c.n, 1, 16⟩, ⟨⟨#[102]⟩, c.f, 0, fHi c.n⟩, ⟨⟨#[109]⟩, c.m, 1, 4⟩, ⟨⟨#[113, 117, 111, 114, 117, 109]⟩, c.q, 2 * clampF c.f + 1, c.n⟩, ⟨⟨#[102, 114, 101, 115, 104]⟩, c.fresh, 1, 8⟩, ⟨⟨#[103, 114, 97, 99, 101]⟩, c.grace, 1, 100⟩, ⟨⟨#[119, 105, 110, 100, 111, 119]⟩, c.window, 1, 64⟩, ⟨⟨#[116, 97, 114, 103, 101, 116]⟩, targetsV c, 1, 1⟩,
   ⟨⟨#[116, 111, 108]⟩, c.tol, 0, 1000⟩, ⟨⟨#[109, 105, 110]⟩, c.lo, 1, 10000⟩, ⟨⟨#[109, 97, 120]⟩, c.hi, c.lo, 10000⟩, ⟨⟨#[99, 97, 108, 109, 117, 112]⟩, c.cup, 0, 60⟩, ⟨⟨#[99, 97, 108, 109, 100, 111, 119, 110]⟩, c.cdn, 0, 60⟩, ⟨⟨#[112, 111, 100, 115, 117, 112]⟩, c.pup, 1, 1000⟩, ⟨⟨#[112, 99, 116, 117, 112]⟩, c.tup, 1, 1000⟩, ⟨⟨#[112, 111, 100, 115, 100, 111, 119, 110]⟩, c.pdn, 1, 1000⟩, ⟨⟨#[112, 99, 116, 100, 111, 119, 110]⟩, c.tdn, 1, 100⟩,
   ⟨⟨#[112, 101, 114, 105, 111, 100]⟩, c.per, 1, 60⟩, ⟨⟨#[102, 97, 114]⟩, c.far, 0, 1099511627776⟩, ⟨⟨#[115, 116, 114, 105, 107, 101, 115]⟩, c.str, 1, 100⟩, ⟨⟨#[112, 114, 111, 98, 101]⟩, c.pro, 1, 100⟩, ⟨⟨#[115, 101, 99, 116, 111, 114, 115]⟩, c.sec, 64, 4096⟩]
def partCells (l : List Part) : List Value := l.flatMap fun p => [.string p.name, .int .i64 p.is, .int .i64 p.lo, .int .i64 p.hi]
def PartsPost (c : CF) (w : World) (e : Ending) (w' : World) : Prop :=
  ∃ B, e = .returned (.slice (some ⟨B, 0, none⟩) 22 22) ∧ w.heap.size ≤ B ∧ w'.heap[B]? = some (.cells (partCells (partsL c)).toArray 104 (0, 0)) ∧ Gr w w'

def CF.ls (c : CF) : List Value := [.int .i64 c.n, .int .i64 c.f, .int .i64 c.m, .int .i64 c.q, .int .i64 c.fresh, .int .i64 c.grace, .int .i64 c.window, .int .i64 c.t0, .int .i64 c.t1, .int .i64 c.t2, .int .i64 c.t3, .int .i64 c.tol, .int .i64 c.lo, .int .i64 c.hi, .int .i64 c.cup, .int .i64 c.cdn, .int .i64 c.pup, .int .i64 c.tup, .int .i64 c.pdn, .int .i64 c.tdn, .int .i64 c.per, .int .i64 c.far, .int .i64 c.str, .int .i64 c.pro, .int .i64 c.sec]
def rdC (c : CF) (t : TypeId) (off : Nat) : Option Value :=
  if t = 36 then (if off = 0 then some (.agg #[.int .i64 c.n, .int .i64 c.f, .int .i64 c.m, .int .i64 c.q, .int .i64 c.fresh, .int .i64 c.grace, .int .i64 c.window, .int .i64 c.t0, .int .i64 c.t1, .int .i64 c.t2, .int .i64 c.t3, .int .i64 c.tol, .int .i64 c.lo, .int .i64 c.hi, .int .i64 c.cup, .int .i64 c.cdn, .int .i64 c.pup, .int .i64 c.tup, .int .i64 c.pdn, .int .i64 c.tdn, .int .i64 c.per, .int .i64 c.far, .int .i64 c.str, .int .i64 c.pro, .int .i64 c.sec, .int .u64 c.seed]) else none) else if t = 3 ∨ t = 2 then c.ls[off]? else none
def cfC (c : CF) (f : FuncId) (args : List Value) : Option (Value × List (Value × Value)) :=
  if f = 98 then (match args with | [.int .i64 x] => some (.int .i64 x, []) | _ => none)
  else if f = 99 then (match args with | [x] => some (.int .i64 (targetsV c), [(x, .agg #[.int .i64 c.n, .int .i64 c.f, .int .i64 c.m, .int .i64 c.q, .int .i64 c.fresh, .int .i64 c.grace, .int .i64 c.window, .int .i64 c.t0, .int .i64 c.t1, .int .i64 c.t2, .int .i64 c.t3, .int .i64 c.tol, .int .i64 c.lo, .int .i64 c.hi, .int .i64 c.cup, .int .i64 c.cdn, .int .i64 c.pup, .int .i64 c.tup, .int .i64 c.pdn, .int .i64 c.tdn, .int .i64 c.per, .int .i64 c.far, .int .i64 c.str, .int .i64 c.pro, .int .i64 c.sec, .int .u64 c.seed])]) | _ => none) else none

theorem rdC_sound (c : CF) (W : World) (B : Nat) (hc : ∀ i v, (c.ls ++ [.int .u64 c.seed])[i]? = some v → W.cell? ⟨B, i, none⟩ = some v) :
    ∀ t off v, rdC c t off = some v → ∀ w, (∃ s : Gw W, w = s.val) → (Instr.loadAt t (.pointer (some ⟨B, off, none⟩))).run Try.prog w = .ok v w := by
  rintro t off v h _ ⟨s, rfl⟩
  unfold rdC at h
  by_cases h1 : t = 36
  · rw [if_pos h1] at h
    by_cases h2 : off = 0
    · rw [if_pos h2] at h
      cases h
      rw [h1, h2]
      refine load36 ⟨B, 0, none⟩ (c.ls ++ [.int .u64 c.seed]) s.val rfl (fun j u hj => ?_)
      have := s.cell (hc j u hj)
      rw [show (⟨B, 0, none⟩ : Addr).add j = ⟨B, j, none⟩ from by unfold Addr.add; split <;> simp_all]
      exact this
    · rw [if_neg h2] at h; cases h
  · rw [if_neg h1] at h
    by_cases h2 : t = 3 ∨ t = 2
    · rw [if_pos h2] at h
      have hcell := s.cell (hc off v (by rw [List.getElem?_append_left (List.getElem?_eq_some_iff.1 h).1]; exact h))
      rcases h2 with h2 | h2
      · rw [h2]; exact load3 _ _ _ hcell
      · rw [h2]; exact load2 _ _ _ hcell
    · rw [if_neg h2] at h; cases h

theorem enter98 (x : Value) (w : World) : (callFunc 98 #[x]).run Try.prog w = .ok (.enter 98 #[x]) w := by kernel_rfl
theorem enter99 (x : Value) (w : World) : (callFunc 99 #[x]).run Try.prog w = .ok (.enter 99 #[x]) w := by kernel_rfl

set_option maxRecDepth 100000 in
theorem cfC_sound (c : CF) (W : World) : ∀ f args v ob, cfC c f args = some (v, ob) → (∀ p ∈ ob, p.1 = p.2) → (∀ w, (callFunc f args.toArray).run Try.prog w = .ok (.enter f args.toArray) w) ∧
    ∀ w, (∃ s : Gw W, w = s.val) → Calls Try.prog f args.toArray w fun e w' => e = .returned v ∧ ∃ s : Gw W, w' = s.val := by
  intro f args v ob h hp
  unfold cfC at h
  by_cases h1 : f = 98
  · rw [if_pos h1] at h
    subst h1
    split at h
    · rename_i x
      cases h
      refine ⟨fun w => enter98 _ w, ?_⟩
      rintro _ ⟨s, rfl⟩
      exact (same_any x s.val).mono fun _ _ ⟨he, hw⟩ => ⟨he, s, hw.symm⟩
    · cases h
  · rw [if_neg h1] at h
    by_cases h2 : f = 99
    · rw [if_pos h2] at h
      subst h2
      split at h
      · rename_i x
        cases h
        have hx := hp _ (List.mem_singleton.2 rfl)
        simp only at hx
        rw [hx]
        refine ⟨fun w => enter99 _ w, ?_⟩
        rintro _ ⟨s, rfl⟩
        exact (targets_any c s.val).mono fun _ _ ⟨he, hw⟩ => ⟨he, ⟨_, s.ok.alloc s.ok.size _⟩, hw.symm⟩
      · cases h
    · rw [if_neg h2] at h; cases h

set_option maxHeartbeats 4000000 in
set_option maxRecDepth 100000 in
theorem parts_any (c : CF) (w : World) : Calls Try.prog 82 #[.agg #[.int .i64 c.n, .int .i64 c.f, .int .i64 c.m, .int .i64 c.q, .int .i64 c.fresh, .int .i64 c.grace, .int .i64 c.window, .int .i64 c.t0, .int .i64 c.t1, .int .i64 c.t2, .int .i64 c.t3, .int .i64 c.tol, .int .i64 c.lo, .int .i64 c.hi, .int .i64 c.cup, .int .i64 c.cdn, .int .i64 c.pup, .int .i64 c.tup, .int .i64 c.pdn, .int .i64 c.tdn, .int .i64 c.per, .int .i64 c.far, .int .i64 c.str, .int .i64 c.pro, .int .i64 c.sec, .int .u64 c.seed]] w (PartsPost c w) := by
  have hF := clampF_range c.f
  obtain ⟨F, hFe⟩ : ∃ F, clampF c.f = F := ⟨_, rfl⟩
  rw [hFe] at hF
  have hF0 := hF.1
  have hF1 := hF.2
  have HFe := Lib.hid hFe; clear hFe
  go_enter Try.func82, Try.ntmps82
  go_upto_region 3 with ((go_at_call 98; refine (same_as _ F ?hside _).mono ?hgo; (case hside => (rw [← HFe.out]; unfold clampF; split <;> (try split) <;> omega)); rintro e w' ⟨rfl, rfl⟩))
  have hcell : ∀ i v, (c.ls ++ [.int .u64 c.seed])[i]? = some v → (w.alloc (.cells #[.int .i64 c.n, .int .i64 c.f, .int .i64 c.m, .int .i64 c.q, .int .i64 c.fresh, .int .i64 c.grace, .int .i64 c.window, .int .i64 c.t0, .int .i64 c.t1, .int .i64 c.t2, .int .i64 c.t3, .int .i64 c.tol, .int .i64 c.lo, .int .i64 c.hi, .int .i64 c.cup, .int .i64 c.cdn, .int .i64 c.pup, .int .i64 c.tup, .int .i64 c.pdn, .int .i64 c.tdn, .int .i64 c.per, .int .i64 c.far, .int .i64 c.str, .int .i64 c.pro, .int .i64 c.sec, .int .u64 c.seed] 36)).cell? ⟨w.heap.size, i, none⟩ = some v := fun i v h => cell_box w _ _ _ _ h
  have hb : Below w.heap.size w (w.alloc (.cells #[.int .i64 c.n, .int .i64 c.f, .int .i64 c.m, .int .i64 c.q, .int .i64 c.fresh, .int .i64 c.grace, .int .i64 c.window, .int .i64 c.t0, .int .i64 c.t1, .int .i64 c.t2, .int .i64 c.t3, .int .i64 c.tol, .int .i64 c.lo, .int .i64 c.hi, .int .i64 c.cup, .int .i64 c.cdn, .int .i64 c.pup, .int .i64 c.tup, .int .i64 c.pdn, .int .i64 c.tdn, .int .i64 c.per, .int .i64 c.far, .int .i64 c.str, .int .i64 c.pro, .int .i64 c.sec, .int .u64 c.seed] 36)) := (Below.refl _ _).alloc (Nat.le_refl _) _
  generalize w.alloc (.cells #[.int .i64 c.n, .int .i64 c.f, .int .i64 c.m, .int .i64 c.q, .int .i64 c.fresh, .int .i64 c.grace, .int .i64 c.window, .int .i64 c.t0, .int .i64 c.t1, .int .i64 c.t2, .int .i64 c.t3, .int .i64 c.tol, .int .i64 c.lo, .int .i64 c.hi, .int .i64 c.cup, .int .i64 c.cdn, .int .i64 c.pup, .int .i64 c.tup, .int .i64 c.pdn, .int .i64 c.tdn, .int .i64 c.per, .int .i64 c.far, .int .i64 c.str, .int .i64 c.pro, .int .i64 c.sec, .int .u64 c.seed] 36) = W1 at *
  refine wp_region_quiet_tail (C := fun w' => ∃ s : Gw W1, w' = s.val) 123 (by kernel_rfl) (by as_aux_lemma => kernel_rfl) (by decide) (by as_aux_lemma => kernel_rfl) (by as_aux_lemma => kernel_rfl) (by as_aux_lemma => kernel_rfl) (by as_aux_lemma => kernel_rfl) ⟨⟨_, (Below.refl _ _).drew⟩, rfl⟩ ?_
  simp only [List.append_eq, List.cons_append, List.nil_append, List.take_succ_cons, List.take_zero, List.drop_succ_cons, List.drop_zero]
  refine runQ_sound (rdC_sound c W1 w.heap.size hcell) (cfC_sound c W1) _ _ ⟨#[(.agg #[.int .i64 c.n, .int .i64 c.f, .int .i64 c.m, .int .i64 c.q, .int .i64 c.fresh, .int .i64 c.grace, .int .i64 c.window, .int .i64 c.t0, .int .i64 c.t1, .int .i64 c.t2, .int .i64 c.t3, .int .i64 c.tol, .int .i64 c.lo, .int .i64 c.hi, .int .i64 c.cup, .int .i64 c.cdn, .int .i64 c.pup, .int .i64 c.tup, .int .i64 c.pdn, .int .i64 c.tdn, .int .i64 c.per, .int .i64 c.far, .int .i64 c.str, .int .i64 c.pro, .int .i64 c.sec, .int .u64 c.seed]), (.pointer (some ⟨w.heap.size, 0, none⟩)), (.slice none 0 0), (.func (Fn.func 98) #[] #[]), (.int .i64 F), (.func (Fn.func 98) #[] #[]), (.pointer (some ⟨w.heap.size, 1, none⟩)), (.int .i64 c.f), (.int .i64 (if c.f < 0 then 0 else c.f)), (.int .i64 (if 16 < (if c.f < 0 then 0 else c.f) then 16 else (if c.f < 0 then 0 else c.f))), (.int .i64 F), (.func (Fn.func 98) #[] #[]), (.pointer (some ⟨w.heap.size, 0, none⟩)), (.int .i64 c.n), (.int .i64 c.n), (.agg #[.string ⟨#[110]⟩, .int .i64 c.n, .int .i64 1, .int .i64 16]), (.func (Fn.func 98) #[] #[]), (.pointer (some ⟨w.heap.size, 1, none⟩)), (.int .i64 c.f), (.int .i64 c.f), (.func (Fn.func 98) #[] #[]), (.pointer (some ⟨w.heap.size, 0, none⟩)), (.int .i64 c.n), (.int .i64 c.n), (.int .i64 (IntKind.i64.wrap (c.n - 1))), (.int .i64 (IntKind.i64.wrap ((IntKind.i64.wrap (c.n - 1)).tdiv 3))), (.agg #[.string ⟨#[102]⟩, .int .i64 c.f, .int .i64 0, .int .i64 (IntKind.i64.wrap ((IntKind.i64.wrap (c.n - 1)).tdiv 3))]), (.func (Fn.func 98) #[] #[]), (.pointer (some ⟨w.heap.size, 2, none⟩)), (.int .i64 c.m), (.int .i64 c.m), (.agg #[.string ⟨#[109]⟩, .int .i64 c.m, .int .i64 1, .int .i64 4]), (.func (Fn.func 98) #[] #[]), (.pointer (some ⟨w.heap.size, 3, none⟩)), (.int .i64 c.q), (.int .i64 c.q), (.int .i64 F), (.int .i64 (IntKind.i64.wrap (2 * F))), (.int .i64 (IntKind.i64.wrap (IntKind.i64.wrap (2 * F) + 1))), (.func (Fn.func 98) #[] #[]), (.pointer (some ⟨w.heap.size, 0, none⟩)), (.int .i64 c.n), (.int .i64 c.n), (.agg #[.string ⟨#[113, 117, 111, 114, 117, 109]⟩, .int .i64 c.q, .int .i64 (IntKind.i64.wrap (IntKind.i64.wrap (2 * F) + 1)), .int .i64 c.n]), (.func (Fn.func 98) #[] #[]), (.pointer (some ⟨w.heap.size, 4, none⟩)), (.int .i64 c.fresh), (.int .i64 c.fresh), (.agg #[.string ⟨#[102, 114, 101, 115, 104]⟩, .int .i64 c.fresh, .int .i64 1, .int .i64 8]), (.func (Fn.func 98) #[] #[]), (.pointer (some ⟨w.heap.size, 5, none⟩)), (.int .i64 c.grace), (.int .i64 c.grace), (.agg #[.string ⟨#[103, 114, 97, 99, 101]⟩, .int .i64 c.grace, .int .i64 1, .int .i64 100]), (.func (Fn.func 98) #[] #[]), (.pointer (some ⟨w.heap.size, 6, none⟩)), (.int .i64 c.window), (.int .i64 c.window), (.agg #[.string ⟨#[119, 105, 110, 100, 111, 119]⟩, .int .i64 c.window, .int .i64 1, .int .i64 64]), (.agg #[.int .i64 c.n, .int .i64 c.f, .int .i64 c.m, .int .i64 c.q, .int .i64 c.fresh, .int .i64 c.grace, .int .i64 c.window, .int .i64 c.t0, .int .i64 c.t1, .int .i64 c.t2, .int .i64 c.t3, .int .i64 c.tol, .int .i64 c.lo, .int .i64 c.hi, .int .i64 c.cup, .int .i64 c.cdn, .int .i64 c.pup, .int .i64 c.tup, .int .i64 c.pdn, .int .i64 c.tdn, .int .i64 c.per, .int .i64 c.far, .int .i64 c.str, .int .i64 c.pro, .int .i64 c.sec, .int .u64 c.seed]), (.int .i64 (targetsV c)), (.agg #[.string ⟨#[116, 97, 114, 103, 101, 116]⟩, .int .i64 (targetsV c), .int .i64 1, .int .i64 1]), (.func (Fn.func 98) #[] #[]), (.pointer (some ⟨w.heap.size, 11, none⟩)), (.int .i64 c.tol), (.int .i64 c.tol), (.agg #[.string ⟨#[116, 111, 108]⟩, .int .i64 c.tol, .int .i64 0, .int .i64 1000]), (.func (Fn.func 98) #[] #[]), (.pointer (some ⟨w.heap.size, 12, none⟩)), (.int .i64 c.lo), (.int .i64 c.lo), (.agg #[.string ⟨#[109, 105, 110]⟩, .int .i64 c.lo, .int .i64 1, .int .i64 10000]), (.func (Fn.func 98) #[] #[]), (.pointer (some ⟨w.heap.size, 13, none⟩)), (.int .i64 c.hi), (.int .i64 c.hi), (.func (Fn.func 98) #[] #[]), (.pointer (some ⟨w.heap.size, 12, none⟩)), (.int .i64 c.lo), (.int .i64 c.lo), (.agg #[.string ⟨#[109, 97, 120]⟩, .int .i64 c.hi, .int .i64 c.lo, .int .i64 10000]), (.func (Fn.func 98) #[] #[]), (.pointer (some ⟨w.heap.size, 14, none⟩)), (.int .i64 c.cup), (.int .i64 c.cup), (.agg #[.string ⟨#[99, 97, 108, 109, 117, 112]⟩, .int .i64 c.cup, .int .i64 0, .int .i64 60]), (.func (Fn.func 98) #[] #[]), (.pointer (some ⟨w.heap.size, 15, none⟩)), (.int .i64 c.cdn), (.int .i64 c.cdn), (.agg #[.string ⟨#[99, 97, 108, 109, 100, 111, 119, 110]⟩, .int .i64 c.cdn, .int .i64 0, .int .i64 60]), (.func (Fn.func 98) #[] #[]), (.pointer (some ⟨w.heap.size, 16, none⟩)), (.int .i64 c.pup), (.int .i64 c.pup), (.agg #[.string ⟨#[112, 111, 100, 115, 117, 112]⟩, .int .i64 c.pup, .int .i64 1, .int .i64 1000]), (.func (Fn.func 98) #[] #[]), (.pointer (some ⟨w.heap.size, 17, none⟩)), (.int .i64 c.tup), (.int .i64 c.tup), (.agg #[.string ⟨#[112, 99, 116, 117, 112]⟩, .int .i64 c.tup, .int .i64 1, .int .i64 1000]), (.func (Fn.func 98) #[] #[]), (.pointer (some ⟨w.heap.size, 18, none⟩)), (.int .i64 c.pdn), (.int .i64 c.pdn), (.agg #[.string ⟨#[112, 111, 100, 115, 100, 111, 119, 110]⟩, .int .i64 c.pdn, .int .i64 1, .int .i64 1000]), (.func (Fn.func 98) #[] #[]), (.pointer (some ⟨w.heap.size, 19, none⟩)), (.int .i64 c.tdn), (.int .i64 c.tdn), (.agg #[.string ⟨#[112, 99, 116, 100, 111, 119, 110]⟩, .int .i64 c.tdn, .int .i64 1, .int .i64 100]), (.func (Fn.func 98) #[] #[]), (.pointer (some ⟨w.heap.size, 20, none⟩)), (.int .i64 c.per), (.int .i64 c.per), (.agg #[.string ⟨#[112, 101, 114, 105, 111, 100]⟩, .int .i64 c.per, .int .i64 1, .int .i64 60]), (.pointer (some ⟨w.heap.size, 21, none⟩)), (.int .i64 c.far), (.agg #[.string ⟨#[102, 97, 114]⟩, .int .i64 c.far, .int .i64 0, .int .i64 1099511627776]), (.func (Fn.func 98) #[] #[]), (.pointer (some ⟨w.heap.size, 22, none⟩)), (.int .i64 c.str), (.int .i64 c.str), (.agg #[.string ⟨#[115, 116, 114, 105, 107, 101, 115]⟩, .int .i64 c.str, .int .i64 1, .int .i64 100]), (.func (Fn.func 98) #[] #[]), (.pointer (some ⟨w.heap.size, 23, none⟩)), (.int .i64 c.pro), (.int .i64 c.pro), (.agg #[.string ⟨#[112, 114, 111, 98, 101]⟩, .int .i64 c.pro, .int .i64 1, .int .i64 100]), (.func (Fn.func 98) #[] #[]), (.pointer (some ⟨w.heap.size, 24, none⟩)), (.int .i64 c.sec), (.int .i64 c.sec), (.agg #[.string ⟨#[115, 101, 99, 116, 111, 114, 115]⟩, .int .i64 c.sec, .int .i64 64, .int .i64 4096]), undef], []⟩ (List.replicate 10 (.int .u64 w.heap.size, .int .u64 w.heap.size) ++ ((.agg #[.int .i64 c.n, .int .i64 c.f, .int .i64 c.m, .int .i64 c.q, .int .i64 c.fresh, .int .i64 c.grace, .int .i64 c.window, .int .i64 c.t0, .int .i64 c.t1, .int .i64 c.t2, .int .i64 c.t3, .int .i64 c.tol, .int .i64 c.lo, .int .i64 c.hi, .int .i64 c.cup, .int .i64 c.cdn, .int .i64 c.pup, .int .i64 c.tup, .int .i64 c.pdn, .int .i64 c.tdn, .int .i64 c.per, .int .i64 c.far, .int .i64 c.str, .int .i64 c.pro, .int .i64 c.sec, .int .u64 c.seed], .agg #[.int .i64 c.n, .int .i64 c.f, .int .i64 c.m, .int .i64 c.q, .int .i64 c.fresh, .int .i64 c.grace, .int .i64 c.window, .int .i64 c.t0, .int .i64 c.t1, .int .i64 c.t2, .int .i64 c.t3, .int .i64 c.tol, .int .i64 c.lo, .int .i64 c.hi, .int .i64 c.cup, .int .i64 c.cdn, .int .i64 c.pup, .int .i64 c.tup, .int .i64 c.pdn, .int .i64 c.tdn, .int .i64 c.per, .int .i64 c.far, .int .i64 c.str, .int .i64 c.pro, .int .i64 c.sec, .int .u64 c.seed]) :: List.replicate 15 (.int .u64 w.heap.size, .int .u64 w.heap.size))) (by as_aux_lemma => kernel_rfl) (fun b hm => ?_) ?_
  · rcases List.mem_append.1 hm with h | h
    · rw [List.eq_of_mem_replicate h]
    · rcases List.mem_cons.1 h with h | h
      · rw [h]
      · rw [List.eq_of_mem_replicate h]
  rintro _ ⟨s, rfl⟩
  clear hcell
  have e1 : IntKind.i64.wrap (2 * F) = 2 * F := IntWalk.i64_in _ (by omega)
  have e2 : IntKind.i64.wrap (2 * F + 1) = 2 * F + 1 := IntWalk.i64_in _ (by omega)
  rw [e1, e2]
  clear e1 e2
  go_wp2
  all_goals
    go_ret
    refine ⟨_, rfl, Nat.le_trans hb.size s.ok.size, ?_, ⟨hb.trans ((s.ok.alloc s.ok.size _).mono hb.size)⟩⟩
    rw [heap_new rfl, ← HFe.out]
    rfl
end Go.Proofs.Ytjobicffdcnnlaa
