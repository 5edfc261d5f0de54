/- A region that draws its order, taken by a schedule: reads first wherever they are ready, the others one by one. General: no program in sight. Over Derived/OrdersHeld.lean's laws. -/
import Derived.Test.YtjobicffdcnnlaaQ1
import Derived.OrdersHeld
namespace Go.Proofs.Ytjobicffdcnnlaa
open Go

section
variable {P : Program} {ops : Array Oper} {md : Region.Mode} {C : World → Prop} {Q : Exit → Act → World → Prop}

/-- What calls no Go function. -/
def plainOp : Op → Bool
  | .move _ => true
  | .assign _ => true
  | .pick _ _ _ => true
  | .load _ _ => true
  | .binOp _ _ _ _ _ => true
  | .unOp _ _ _ => true
  | .convert _ _ _ => true
  | .slice _ _ _ _ _ => true
  | .fieldAddr _ _ _ => true
  | .indexAddr _ _ _ => true
  | .extract _ _ => true
  | .nilCheck _ => true
  | .call { callee := .builtin .len, .. } => true
  | .call { callee := .builtin .max, .. } => true
  | .call { callee := .builtin .min, .. } => true
  | _ => false

def OnlyV (r : Result Next) : Prop := ∀ n w', r = .ok n w' → ∃ u, n = .value u
theorem onlyV_value {m : Sem Value} {w : World} : OnlyV ((do let y ← m; pure (Next.value y) : Sem Next).run P w) := by
  intro n w' h
  rw [Sem.run_bind] at h
  cases hm : m.run P w with
  | ok u w1 => rw [hm] at h; simp [Result.andThen] at h; exact ⟨u, h.1.symm⟩
  | _ => rw [hm] at h; simp [Result.andThen] at h
theorem onlyV_andThen {r : Result Value} : OnlyV (r.andThen fun a w' => Result.ok (Next.value a) w') := by
  intro n w' h
  cases r with
  | ok u w1 => simp [Result.andThen] at h; exact ⟨u, h.1.symm⟩
  | _ => simp [Result.andThen] at h
theorem onlyV_pure {u : Value} {w : World} : OnlyV (.ok (.value u) w) := by
  intro n w' h
  cases h
  exact ⟨u, rfl⟩
theorem onlyV_panic {w : World} : OnlyV ((runtimePanic .nilDeref : Sem Next).run P w) := by
  intro n w' h
  unfold runtimePanic at h
  simp only [Sem.run_bind, run_program, Result.andThen_ok] at h
  simp [goPanic] at h
theorem plain_onlyV {ρ : Operand → Value} {o : Oper} (h : plainOp o.op = true) (w : World) : OnlyV ((execOp ρ o).run P w) := by
  obtain ⟨dst, op, ty, pos, after, guard⟩ := o
  cases op with
  | move x => exact onlyV_pure
  | assign x => exact onlyV_pure
  | pick c a b =>
    intro n w' h
    simp only [execOp, Sem.run_bind] at h
    cases hm : (asBool (ρ c)).run P w with
    | ok u w1 => rw [hm] at h; simp [Result.andThen] at h; exact ⟨_, h.1.symm⟩
    | _ => rw [hm] at h; simp [Result.andThen] at h
  | load t a => exact onlyV_value
  | binOp op xt x y yt => exact onlyV_value
  | unOp op t x => exact onlyV_value
  | convert s d x => exact onlyV_value
  | slice t x lo hi mx => exact onlyV_value
  | fieldAddr s x f => exact onlyV_value
  | indexAddr t x i => exact onlyV_value
  | extract t i => exact onlyV_value
  | nilCheck x =>
    show OnlyV ((match ρ x with
      | .pointer none | .nilIface | .nilFunc => runtimePanic .nilDeref
      | .func (.method name) first captured => _
      | x => pure (.value x) : Sem Next).run P w)
    split
    · exact onlyV_panic
    · exact onlyV_panic
    · exact onlyV_panic
    · split
      · exact onlyV_panic
      · intro n w' h
        simp only [Sem.run_bind, run_program, Result.andThen_ok] at h
        generalize Sem.run P (nilAhead _ _ _ _) w = r at h
        cases r with
        | ok a w1 =>
          simp only [Result.andThen] at h
          split at h
          · simp [unsupported, Result.andThen] at h
          · simp at h; exact ⟨_, h.1.symm⟩
        | _ => simp [Result.andThen] at h
      · exact onlyV_pure
    · exact onlyV_pure
  | call c =>
    obtain ⟨callee, args, ats⟩ := c
    cases callee with
    | builtin b =>
      intro n w' h'
      cases b <;> first | (cases h; done) | (simp only [execOp, resolve, invoke, builtin, Sem.run_bind, Sem.run_pure, Result.andThen_ok] at h'; exact onlyV_andThen _ _ h')
    | _ => cases h
  | _ => cases h

/-- The groups: reads, then single operations. -/
def schR (md : Region.Mode) (ops : Array Oper) : List Nat → Array Bool → Bool
  | [], _ => true
  | i :: r, l => (Region.ready md ops l).contains i && Region.free md ops l i && (match ops[i]? with | some o => plainOp o.op | none => false) && schR md ops r (l.setIfInBounds i true)
def schA (md : Region.Mode) (ops : Array Oper) : List Nat → Array Bool → Bool
  | [], _ => true
  | i :: r, l => decide (Region.ready md ops l = [i]) && schA md ops r (l.setIfInBounds i true)
def setAll : List Nat → Array Bool → Array Bool
  | [], l => l
  | i :: r, l => setAll r (l.setIfInBounds i true)
def schB (md : Region.Mode) (ops : Array Oper) : List (List Nat × List Nat) → Array Bool → Bool
  | [], l => (Region.ready md ops l).isEmpty
  | (R, A) :: σ, l => schR md ops R l && schA md ops A (setAll R l) && schB md ops σ (setAll A (setAll R l))

def wpSeqC (P : Program) (ops : Array Oper) (C : World → Prop) (Q : Exit → Act → World → Prop) (K : Act → World → Prop) : List Nat → Act → World → Prop
  | [], a, w => K a w
  | i :: r, a, w => wpOp P ops Q i (fun a' w' => C w' ∧ wpSeqC P ops C Q K r a' w') a w
def wpGrp (P : Program) (ops : Array Oper) (C : World → Prop) (Q : Exit → Act → World → Prop) : List (List Nat × List Nat) → Act → World → Prop
  | [], a, w => Q .normal a w
  | (R, A) :: σ, a, w => wpQuiet P ops C (fun a' => wpSeqC P ops C Q (wpGrp P ops C Q σ) A a' w) (R.filterMap fun i => ops[i]?) a

theorem reads_sound (hsel : Region.noSelect ops = true) (hQ : ∀ d v c a w, Q (.panic c) (Act.put a d v) w → Q (.panic c) a w) {w : World} (hC : C w) {K : Act → Prop} {fuel : Nat} :
    ∀ (R : List Nat) (listed : Array Bool) (a : Act), schR md ops R listed = true → wpQuiet P ops C K (R.filterMap fun i => ops[i]?) a →
    (∀ a', K a' → wpAnyH P md ops Q C fuel (setAll R listed) a' w) → wpAnyH P md ops Q C (fuel + R.length) listed a w
  | [], listed, a, _, h, k => k a h
  | i :: r, listed, a, hB, h, k => by
    simp only [schR, Bool.and_eq_true] at hB
    obtain ⟨⟨⟨h1, h2⟩, h3⟩, h4⟩ := hB
    cases ho : ops[i]? with
    | none => rw [ho] at h3; cases h3
    | some o =>
      rw [ho] at h3
      simp only [List.filterMap_cons, ho] at h
      unfold wpQuiet at h
      show wpAnyH P md ops Q C (fuel + r.length + 1) listed a w
      by_cases hw : Region.wanted o (yielded ops a.tmps) = true
      · rw [if_pos hw] at h
        obtain ⟨v, hv, hn⟩ := h
        refine wpAnyH_take ho hsel h2 h1 (fun c a w => hQ o.dst v c a w) (.inl ⟨hw, fun w' hw' => ?_⟩) hC (reads_sound hsel hQ hC r _ _ h4 hn k)
        have := hv w' hw'
        unfold Oper.quietAt at this
        cases hr : (execOp a.eval o).run P w' with
        | ok n w1 =>
          obtain ⟨u, rfl⟩ := plain_onlyV h3 w' n w1 hr
          rw [hr] at this
          obtain ⟨e1, e2⟩ := this
          rw [e1, e2]
        | _ => rw [hr] at this; exact this.elim
      · rw [if_neg hw] at h
        exact wpAnyH_take ho hsel h2 h1 (fun c a w => hQ o.dst undef c a w) (.inr ⟨by simpa using hw, rfl⟩) hC (reads_sound hsel hQ hC r _ _ h4 h k)

theorem seq_sound {K : Act → World → Prop} {fuel : Nat} :
    ∀ (A : List Nat) (listed : Array Bool) (a : Act) (w : World), C w → schA md ops A listed = true → wpSeqC P ops C Q K A a w →
    (∀ a' w', C w' → K a' w' → wpAnyH P md ops Q C fuel (setAll A listed) a' w') → wpAnyH P md ops Q C (fuel + A.length) listed a w
  | [], listed, a, w, hC, _, h, k => k a w hC h
  | i :: r, listed, a, w, hC, hB, h, k => by
    simp only [schA, Bool.and_eq_true, decide_eq_true_eq] at hB
    refine wpAnyH_all (rs := [i]) hB.1 (by simp) fun j hj => ?_
    obtain rfl : j = i := by simpa using hj
    exact wpOp_mono (fun a' w' h' => ⟨h'.1, seq_sound r _ a' w' h'.1 hB.2 h'.2 k⟩) h

def count : List (List Nat × List Nat) → Nat
  | [] => 0
  | (R, A) :: σ => count σ + A.length + R.length
theorem grp_sound (hsel : Region.noSelect ops = true) (hQ : ∀ d v c a w, Q (.panic c) (Act.put a d v) w → Q (.panic c) a w) :
    ∀ (σ : List (List Nat × List Nat)) (listed : Array Bool) (a : Act) (w : World), C w → schB md ops σ listed = true → wpGrp P ops C Q σ a w → wpAnyH P md ops Q C (count σ) listed a w
  | [], listed, a, w, _, hB, h => wpAnyH_done (by simpa [schB] using hB) h 0
  | (R, A) :: σ, listed, a, w, hC, hB, h => by
    simp only [schB, Bool.and_eq_true] at hB
    refine reads_sound hsel hQ hC R listed a hB.1.1 h fun a' h' => ?_
    exact seq_sound A _ a' w hC hB.1.2 h' fun a2 w2 hC2 h2 => grp_sound hsel hQ σ _ a2 w2 hC2 hB.2 h2

/-- One schedule serves every order. -/
theorem wp_region_grp {id : Nat} {a : Act} {w : World} {l : List Oper} (C : World → Prop) (σ : List (List Nat × List Nat)) (hm : P.follows .mixedOrders = true) (hsel : Region.noSelect l.toArray = true)
    (hB : schB .any l.toArray σ (Array.replicate l.toArray.size false) = true) (hn : count σ = l.toArray.size)
    (hQ : ∀ d v c a w, Q (.panic c) (Act.put a d v) w → Q (.panic c) a w) (hC : C { w with drawn := w.drawn + 1 })
    (h : wpGrp P l.toArray C Q σ a { w with drawn := w.drawn + 1 }) : (Code.region id l.toArray true).wp P Q a w := by
  refine wp_region_held (S := C) hm ?_
  have := grp_sound (md := .any) hsel hQ σ _ a _ hC hB h
  rwa [hn] at this

theorem wpOp_value {i : Nat} {o : Oper} {a : Act} {w : World} {K : Act → World → Prop} (v : Value) (w1 : World) (hi : ops[i]? = some o) (hw : Region.wanted o (yielded ops a.tmps) = true)
    (h : (execOp a.eval o).run P w = .ok (.value v) w1) (k : K (a.put o.dst v) w1) : wpOp P ops Q i K a w := by
  unfold wpOp
  simp only [hi, hw, if_true, Oper.wp, h, Oper.upon]
  exact .inl k
theorem wpOp_skip {i : Nat} {o : Oper} {a : Act} {w : World} {K : Act → World → Prop} (w1 : World) (hi : ops[i]? = some o) (hw : Region.wanted o (yielded ops a.tmps) = true)
    (h : (execOp a.eval o).run P w = .ok .skip w1) (k : K (a.put o.dst undef) w1) : wpOp P ops Q i K a w := by
  unfold wpOp
  simp only [hi, hw, if_true, Oper.wp, h, Oper.upon]
  exact .inl k
theorem wpOp_enter {i : Nat} {o : Oper} {a : Act} {w : World} {K : Act → World → Prop} {R : Value → World → Prop} (f : FuncId) (args : Array Value) (hi : ops[i]? = some o) (hw : Region.wanted o (yielded ops a.tmps) = true)
    (h : (execOp a.eval o).run P w = .ok (.enter f args) w) (hc : Calls P f args w fun e w' => ∃ v, e = .returned v ∧ R v w') (k : ∀ v w', R v w' → K (a.put o.dst v) w') : wpOp P ops Q i K a w := by
  unfold wpOp
  simp only [hi, hw, if_true, Oper.wp, h, Oper.upon_enter]
  exact .inl (hc.mono fun e w' ⟨v, he, hr⟩ => by subst he; exact k v w' hr)
end
end Go.Proofs.Ytjobicffdcnnlaa
