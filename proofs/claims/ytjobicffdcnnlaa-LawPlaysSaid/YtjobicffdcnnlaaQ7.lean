import Derived.Test.YtjobicffdcnnlaaQ1
import Derived.OrdersHeld
import Derived.Test.YtjobicffdcnnlaaC9
/- A region that draws its order, taken by a schedule: reads first wherever they are ready, the others one by one. General: no program in sight. Over Derived/OrdersHeld.lean's laws. -/
namespace Go.Proofs.Ytjobicffdcnnlaa
open Go

section
variable {P : Program} {ops : Array Oper} {md : Region.Mode} {C : World → Prop} {Q : Exit → Act → World → Prop}

/-- What calls no Go function. -/
def plainOp : Op → Bool
  | .move _ => true
  | .assign _ => true
  | .pick _ _ _ => true
  | .load _ _ => true
  | .binOp _ _ _ _ _ => true
  | .unOp _ _ _ => true
  | .convert _ _ _ => true
  | .slice _ _ _ _ _ => true
  | .fieldAddr _ _ _ => true
  | .indexAddr _ _ _ => true
  | .extract _ _ => true
  | .nilCheck _ => true
  | .call { callee := .builtin .len, .. } => true
  | .call { callee := .builtin .max, .. } => true
  | .call { callee := .builtin .min, .. } => true
  | _ => false

def OnlyV (r : Result Next) : Prop := ∀ n w', r = .ok n w' → ∃ u, n = .value u
theorem onlyV_value {m : Sem Value} {w : World} : OnlyV ((do let y ← m; pure (Next.value y) : Sem Next).run P w) := by
  intro n w' h
  rw [Sem.run_bind] at h
  cases hm : m.run P w with
  | ok u w1 => rw [hm] at h; simp [Result.andThen] at h; exact ⟨u, h.1.symm⟩
  | _ => rw [hm] at h; simp [Result.andThen] at h
theorem onlyV_andThen {r : Result Value} : OnlyV (r.andThen fun a w' => Result.ok (Next.value a) w') := by
  intro n w' h
  cases r with
  | ok u w1 => simp [Result.andThen] at h; exact ⟨u, h.1.symm⟩
  | _ => simp [Result.andThen] at h
theorem onlyV_pure {u : Value} {w : World} : OnlyV (.ok (.value u) w) := by
  intro n w' h
  cases h
  exact ⟨u, rfl⟩
theorem onlyV_panic {w : World} : OnlyV ((runtimePanic .nilDeref : Sem Next).run P w) := by
  intro n w' h
  unfold runtimePanic at h
  simp only [Sem.run_bind, run_program, Result.andThen_ok] at h
  simp [goPanic] at h
theorem plain_onlyV {ρ : Operand → Value} {o : Oper} (h : plainOp o.op = true) (w : World) : OnlyV ((execOp ρ o).run P w) := by
  obtain ⟨dst, op, ty, pos, after, guard⟩ := o
  cases op with
  | move x => exact onlyV_pure
  | assign x => exact onlyV_pure
  | pick c a b =>
    intro n w' h
    simp only [execOp, Sem.run_bind] at h
    cases hm : (asBool (ρ c)).run P w with
    | ok u w1 => rw [hm] at h; simp [Result.andThen] at h; exact ⟨_, h.1.symm⟩
    | _ => rw [hm] at h; simp [Result.andThen] at h
  | load t a => exact onlyV_value
  | binOp op xt x y yt => exact onlyV_value
  | unOp op t x => exact onlyV_value
  | convert s d x => exact onlyV_value
  | slice t x lo hi mx => exact onlyV_value
  | fieldAddr s x f => exact onlyV_value
  | indexAddr t x i => exact onlyV_value
  | extract t i => exact onlyV_value
  | nilCheck x =>
    show OnlyV ((match ρ x with
      | .pointer none | .nilIface | .nilFunc => runtimePanic .nilDeref
      | .func (.method name) first captured => _
      | x => pure (.value x) : Sem Next).run P w)
    split
    · exact onlyV_panic
    · exact onlyV_panic
    · exact onlyV_panic
    · split
      · exact onlyV_panic
      · intro n w' h
        simp only [Sem.run_bind, run_program, Result.andThen_ok] at h
        generalize Sem.run P (nilAhead _ _ _ _) w = r at h
        cases r with
        | ok a w1 =>
          simp only [Result.andThen] at h
          split at h
          · simp [unsupported, Result.andThen] at h
          · simp at h; exact ⟨_, h.1.symm⟩
        | _ => simp [Result.andThen] at h
      · exact onlyV_pure
    · exact onlyV_pure
  | call c =>
    obtain ⟨callee, args, ats⟩ := c
    cases callee with
    | builtin b =>
      intro n w' h'
      cases b <;> first | (cases h; done) | (simp only [execOp, resolve, invoke, builtin, Sem.run_bind, Sem.run_pure, Result.andThen_ok] at h'; exact onlyV_andThen _ _ h')
    | _ => cases h
  | _ => cases h

/-- The groups: reads, then single operations. -/
def schR (md : Region.Mode) (ops : Array Oper) : List Nat → Array Bool → Bool
  | [], _ => true
  | i :: r, l => (Region.ready md ops l).contains i && Region.free md ops l i && (match ops[i]? with | some o => plainOp o.op | none => false) && schR md ops r (l.setIfInBounds i true)
def schA (md : Region.Mode) (ops : Array Oper) : List Nat → Array Bool → Bool
  | [], _ => true
  | i :: r, l => decide (Region.ready md ops l = [i]) && schA md ops r (l.setIfInBounds i true)
def setAll : List Nat → Array Bool → Array Bool
  | [], l => l
  | i :: r, l => setAll r (l.setIfInBounds i true)
def schB (md : Region.Mode) (ops : Array Oper) : List (List Nat × List Nat) → Array Bool → Bool
  | [], l => (Region.ready md ops l).isEmpty
  | (R, A) :: σ, l => schR md ops R l && schA md ops A (setAll R l) && schB md ops σ (setAll A (setAll R l))

def wpSeqC (P : Program) (ops : Array Oper) (C : World → Prop) (Q : Exit → Act → World → Prop) (K : Act → World → Prop) : List Nat → Act → World → Prop
  | [], a, w => K a w
  | i :: r, a, w => wpOp P ops Q i (fun a' w' => C w' ∧ wpSeqC P ops C Q K r a' w') a w
def wpGrp (P : Program) (ops : Array Oper) (C : World → Prop) (Q : Exit → Act → World → Prop) : List (List Nat × List Nat) → Act → World → Prop
  | [], a, w => Q .normal a w
  | (R, A) :: σ, a, w => wpQuiet P ops C (fun a' => wpSeqC P ops C Q (wpGrp P ops C Q σ) A a' w) (R.filterMap fun i => ops[i]?) a

theorem reads_sound (hsel : Region.noSelect ops = true) (hQ : ∀ d v c a w, Q (.panic c) (Act.put a d v) w → Q (.panic c) a w) {w : World} (hC : C w) {K : Act → Prop} {fuel : Nat} :
    ∀ (R : List Nat) (listed : Array Bool) (a : Act), schR md ops R listed = true → wpQuiet P ops C K (R.filterMap fun i => ops[i]?) a →
    (∀ a', K a' → wpAnyH P md ops Q C fuel (setAll R listed) a' w) → wpAnyH P md ops Q C (fuel + R.length) listed a w
  | [], listed, a, _, h, k => k a h
  | i :: r, listed, a, hB, h, k => by
    simp only [schR, Bool.and_eq_true] at hB
    obtain ⟨⟨⟨h1, h2⟩, h3⟩, h4⟩ := hB
    cases ho : ops[i]? with
    | none => rw [ho] at h3; cases h3
    | some o =>
      rw [ho] at h3
      simp only [List.filterMap_cons, ho] at h
      unfold wpQuiet at h
      show wpAnyH P md ops Q C (fuel + r.length + 1) listed a w
      by_cases hw : Region.wanted o (yielded ops a.tmps) = true
      · rw [if_pos hw] at h
        obtain ⟨v, hv, hn⟩ := h
        refine wpAnyH_take ho hsel h2 h1 (fun c a w => hQ o.dst v c a w) (.inl ⟨hw, fun w' hw' => ?_⟩) hC (reads_sound hsel hQ hC r _ _ h4 hn k)
        have := hv w' hw'
        unfold Oper.quietAt at this
        cases hr : (execOp a.eval o).run P w' with
        | ok n w1 =>
          obtain ⟨u, rfl⟩ := plain_onlyV h3 w' n w1 hr
          rw [hr] at this
          obtain ⟨e1, e2⟩ := this
          rw [e1, e2]
        | _ => rw [hr] at this; exact this.elim
      · rw [if_neg hw] at h
        exact wpAnyH_take ho hsel h2 h1 (fun c a w => hQ o.dst undef c a w) (.inr ⟨by simpa using hw, rfl⟩) hC (reads_sound hsel hQ hC r _ _ h4 h k)

theorem seq_sound {K : Act → World → Prop} {fuel : Nat} :
    ∀ (A : List Nat) (listed : Array Bool) (a : Act) (w : World), C w → schA md ops A listed = true → wpSeqC P ops C Q K A a w →
    (∀ a' w', C w' → K a' w' → wpAnyH P md ops Q C fuel (setAll A listed) a' w') → wpAnyH P md ops Q C (fuel + A.length) listed a w
  | [], listed, a, w, hC, _, h, k => k a w hC h
  | i :: r, listed, a, w, hC, hB, h, k => by
    simp only [schA, Bool.and_eq_true, decide_eq_true_eq] at hB
    refine wpAnyH_all (rs := [i]) hB.1 (by simp) fun j hj => ?_
    obtain rfl : j = i := by simpa using hj
    exact wpOp_mono (fun a' w' h' => ⟨h'.1, seq_sound r _ a' w' h'.1 hB.2 h'.2 k⟩) h

def count : List (List Nat × List Nat) → Nat
  | [] => 0
  | (R, A) :: σ => count σ + A.length + R.length
theorem grp_sound (hsel : Region.noSelect ops = true) (hQ : ∀ d v c a w, Q (.panic c) (Act.put a d v) w → Q (.panic c) a w) :
    ∀ (σ : List (List Nat × List Nat)) (listed : Array Bool) (a : Act) (w : World), C w → schB md ops σ listed = true → wpGrp P ops C Q σ a w → wpAnyH P md ops Q C (count σ) listed a w
  | [], listed, a, w, _, hB, h => wpAnyH_done (by simpa [schB] using hB) h 0
  | (R, A) :: σ, listed, a, w, hC, hB, h => by
    simp only [schB, Bool.and_eq_true] at hB
    refine reads_sound hsel hQ hC R listed a hB.1.1 h fun a' h' => ?_
    exact seq_sound A _ a' w hC hB.1.2 h' fun a2 w2 hC2 h2 => grp_sound hsel hQ σ _ a2 w2 hC2 hB.2 h2

/-- One schedule serves every order. -/
theorem wp_region_grp {id : Nat} {a : Act} {w : World} {l : List Oper} (C : World → Prop) (σ : List (List Nat × List Nat)) (hm : P.follows .mixedOrders = true) (hsel : Region.noSelect l.toArray = true)
    (hB : schB .any l.toArray σ (Array.replicate l.toArray.size false) = true) (hn : count σ = l.toArray.size)
    (hQ : ∀ d v c a w, Q (.panic c) (Act.put a d v) w → Q (.panic c) a w) (hC : C { w with drawn := w.drawn + 1 })
    (h : wpGrp P l.toArray C Q σ a { w with drawn := w.drawn + 1 }) : (Code.region id l.toArray true).wp P Q a w := by
  refine wp_region_held (S := C) hm ?_
  have := grp_sound (md := .any) hsel hQ σ _ a _ hC hB h
  rwa [hn] at this

theorem wpOp_value {i : Nat} {o : Oper} {a : Act} {w : World} {K : Act → World → Prop} (v : Value) (w1 : World) (hi : ops[i]? = some o) (hw : Region.wanted o (yielded ops a.tmps) = true)
    (h : (execOp a.eval o).run P w = .ok (.value v) w1) (k : K (a.put o.dst v) w1) : wpOp P ops Q i K a w := by
  unfold wpOp
  simp only [hi, hw, if_true, Oper.wp, h, Oper.upon]
  exact .inl k
theorem wpOp_skip {i : Nat} {o : Oper} {a : Act} {w : World} {K : Act → World → Prop} (w1 : World) (hi : ops[i]? = some o) (hw : Region.wanted o (yielded ops a.tmps) = true)
    (h : (execOp a.eval o).run P w = .ok .skip w1) (k : K (a.put o.dst undef) w1) : wpOp P ops Q i K a w := by
  unfold wpOp
  simp only [hi, hw, if_true, Oper.wp, h, Oper.upon]
  exact .inl k
theorem wpOp_enter {i : Nat} {o : Oper} {a : Act} {w : World} {K : Act → World → Prop} {R : Value → World → Prop} (f : FuncId) (args : Array Value) (hi : ops[i]? = some o) (hw : Region.wanted o (yielded ops a.tmps) = true)
    (h : (execOp a.eval o).run P w = .ok (.enter f args) w) (hc : Calls P f args w fun e w' => ∃ v, e = .returned v ∧ R v w') (k : ∀ v w', R v w' → K (a.put o.dst v) w') : wpOp P ops Q i K a w := by
  unfold wpOp
  simp only [hi, hw, if_true, Oper.wp, h, Oper.upon_enter]
  exact .inl (hc.mono fun e w' ⟨v, he, hr⟩ => by subst he; exact k v w' hr)
end
end Go.Proofs.Ytjobicffdcnnlaa
/- The schedule of Q4 over the worlds that have grown. -/
namespace Go.Proofs.Ytjobicffdcnnlaa
open Go.RowKit

section
variable {P : Program} {ops : Array Oper} {Q : Exit → Act → World → Prop}
theorem Gr.in_ {W w : World} (h : Gr W w) : ∃ s : Gw W, w = s.val := ⟨⟨w, h.out⟩, rfl⟩
theorem Gr.fresh (W : World) : Gr W { W with drawn := W.drawn + 1 } := ⟨(Below.refl _ _).drew⟩
theorem wpOp_gr {W w : World} {i : Nat} {o : Oper} {a : Act} {K : Act → World → Prop} (t : Nat) (f : FuncId) (args : Array Value) (v : Value) (hi : ops[i]? = some o) (hd : o.dst = some t) (hw : Region.wanted o (yielded ops a.tmps) = true)
    (h : (execOp a.eval o).run P w = .ok (.enter f args) w) (hG : Gr W w) (hc : Calls P f args w fun e w' => e = .returned v ∧ Gr w w') (k : ∀ w', Gr W w' → Gr w w' → K (a.put (some t) v) w') :
    wpOp P ops Q i (fun a' w' => (∃ s : Gw W, w' = s.val) ∧ K a' w') a w :=
  wpOp_enter (R := fun u w' => u = v ∧ Gr w w') f args hi hw h (hc.mono fun e w' ⟨h1, h2⟩ => ⟨_, h1, rfl, h2⟩) fun u w' ⟨e, g⟩ => by subst e; rw [hd]; exact ⟨(hG.trans g).in_, k w' (hG.trans g) g⟩
/-- A call that hands back what it has made. -/
theorem wpOp_new {W w : World} {i : Nat} {o : Oper} {a : Act} {K : Act → World → Prop} {R : Value → World → Prop} (t : Nat) (f : FuncId) (args : Array Value) (hi : ops[i]? = some o) (hd : o.dst = some t) (hw : Region.wanted o (yielded ops a.tmps) = true)
    (h : (execOp a.eval o).run P w = .ok (.enter f args) w) (hG : Gr W w) (hc : Calls P f args w fun e w' => ∃ v, e = .returned v ∧ R v w' ∧ Gr w w') (k : ∀ v w', R v w' → Gr W w' → Gr w w' → K (a.put (some t) v) w') :
    wpOp P ops Q i (fun a' w' => (∃ s : Gw W, w' = s.val) ∧ K a' w') a w :=
  wpOp_enter (R := fun u w' => R u w' ∧ Gr w w') f args hi hw h hc fun u w' ⟨r, g⟩ => by rw [hd]; exact ⟨(hG.trans g).in_, k u w' r (hG.trans g) g⟩
theorem wpOp_made {W w : World} {i : Nat} {o : Oper} {a : Act} {K : Act → World → Prop} (t : Nat) (v : Value) (w1 : World) (hi : ops[i]? = some o) (hd : o.dst = some t) (hw : Region.wanted o (yielded ops a.tmps) = true)
    (h : (execOp a.eval o).run P w = .ok (.value v) w1) (hG : Gr W w1) (k : K (a.put (some t) v) w1) : wpOp P ops Q i (fun a' w' => (∃ s : Gw W, w' = s.val) ∧ K a' w') a w :=
  wpOp_value v w1 hi hw h (by rw [hd]; exact ⟨hG.in_, k⟩)
end
end Go.Proofs.Ytjobicffdcnnlaa
/- The schedule of Q4 once more, with a tail behind which the class is not asked: what stores at the region's end. General: no program in sight. -/
namespace Go.Proofs.Ytjobicffdcnnlaa
open Go

section
variable {P : Program} {ops : Array Oper} {md : Region.Mode} {C : World → Prop} {Q : Exit → Act → World → Prop} {tl : Nat → Bool}

/-- Whatever order is picked, and C holds behind each operation that is none of the tail. -/
def wpAnyT (P : Program) (md : Region.Mode) (ops : Array Oper) (Q : Exit → Act → World → Prop) (C : World → Prop) (tl : Nat → Bool) : Nat → Array Bool → Act → World → Prop
  | 0, listed, a, w => Region.ready md ops listed = [] ∧ Q .normal a w
  | fuel + 1, listed, a, w =>
    (Region.ready md ops listed = [] → Q .normal a w) ∧
    ∀ i ∈ Region.ready md ops listed, wpOp P ops Q i (fun a' w' => (tl i = false → C w') ∧ wpAnyT P md ops Q C tl fuel (listed.setIfInBounds i true) a' w') a w
theorem wpAny_of_T : ∀ (fuel : Nat) (listed : Array Bool) (a : Act) (w : World), wpAnyT P md ops Q C tl fuel listed a w → wpAny P md ops Q fuel listed a w
  | 0, _, _, _, h => h
  | fuel + 1, _, _, _, h => ⟨h.1, fun i hi => wpOp_mono (fun a' w' h' => wpAny_of_T fuel _ a' w' h'.2) (h.2 i hi)⟩

theorem not_ready_of_waits {listed : Array Bool} {t i : Nat} (hw : Region.waitsFor md ops t i = true) (hun : listed.getD i true = false) : t ∉ Region.ready md ops listed := fun hr => by
  obtain ⟨_, ot, hot, hall⟩ := mem_ready.1 hr
  obtain ⟨o', ho', e, he, hb, hon⟩ := Region.waitsFor_spec hw
  obtain rfl : o' = ot := Option.some.inj (ho'.symm.trans hot)
  have := hall e he hb
  rw [hon, getD_both hun] at this
  cases this

theorem wpAnyT_first {i : Nat} {oi : Oper} {v : Value} (hi : ops[i]? = some oi) (hsel : ∀ (j : Nat) (o : Oper) cs b, ops[j]? = some o → o.op ≠ .select cs b)
    (hQ : ∀ c a w, Q (.panic c) (a.put oi.dst v) w → Q (.panic c) a w) (hT : ∀ t, tl t = true → t < ops.size → Region.waitsFor md ops t i = true) (hti : tl i = false) :
    ∀ (fuel : Nat) (listed : Array Bool) (a : Act) (w : World),
      (∀ j oj, ops[j]? = some oj → j ≠ i → listed.getD j true = false → (∀ e ∈ oj.after, Region.binds md e = true → e.on ≠ i) → oi.apart ops oj = true) →
      i ∈ Region.ready md ops listed → YieldsIf P ops C oi v a → C w →
      wpAnyT P md ops Q C tl fuel (listed.setIfInBounds i true) (a.put oi.dst v) w → wpAnyT P md ops Q C tl (fuel + 1) listed a w := by
  intro fuel
  induction fuel with
  | zero =>
    intro listed a w _ hr hy hS H
    refine ⟨fun h => (by rw [h] at hr; cases hr), fun j hj => ?_⟩
    by_cases hji : j = i
    · subst hji; exact hy.wpOp hi hS ⟨fun _ => hS, H⟩
    · have := ready_mono hj hji
      rw [H.1] at this
      cases this
  | succ fuel ih =>
    intro listed a w hfree hr hy hS H
    have hun := (mem_ready.1 hr).1
    refine ⟨fun h => (by rw [h] at hr; cases hr), fun j hj => ?_⟩
    by_cases hji : j = i
    · subst hji; exact hy.wpOp hi hS ⟨fun _ => hS, H⟩
    · have h1 := H.2 j (ready_mono hj hji)
      obtain ⟨hjun, oj, hoj, hall⟩ := mem_ready.1 hj
      have hjt : tl j = false := by
        cases ht : tl j with
        | false => rfl
        | true => exact absurd hj (not_ready_of_waits (hT j ht (Array.getElem?_eq_some_iff.1 hoj).1) hun)
      have hnot : ∀ e ∈ oj.after, Region.binds md e = true → e.on ≠ i := fun e he hb heq => by
        have h1 := hall e he hb
        rw [heq, getD_both hun] at h1
        cases h1
      have h2 := wpOp_putIf hoj (hfree j oj hoj hji hjun hnot) (fun cs b => hsel i oi cs b hi) (fun cs b => hsel j oj cs b hoj) hQ hy h1
      have hfree' : ∀ k ok, ops[k]? = some ok → k ≠ i → (listed.setIfInBounds j true).getD k true = false →
          (∀ e ∈ ok.after, Region.binds md e = true → e.on ≠ i) → oi.apart ops ok = true := fun k ok hk hki hun hno => by
        refine hfree k ok hk hki ?_ hno
        by_cases hjk : j = k
        · subst hjk; exact hjun
        · rw [getD_set_ne true hjk] at hun; exact hun
      refine wpOp_mono (fun a' w' h3 => ⟨h3.2.1, ih (listed.setIfInBounds j true) a' w' hfree' (ready_mono hr (Ne.symm hji)) h3.1 (h3.2.1 hjt) ?_⟩) h2
      rw [Array.setIfInBounds_comm _ _ hji]
      exact h3.2.2

/-- The tail waits for each of the reads, and none of them is of it. -/
def tailB (md : Region.Mode) (ops : Array Oper) (T : List Nat) (R : List Nat) : Bool := R.all fun i => !T.contains i && T.all fun t => Region.waitsFor md ops t i
def inT (T : List Nat) (i : Nat) : Bool := T.contains i

theorem reads_soundT {T : List Nat} (hsel : Region.noSelect ops = true) (hQ : ∀ d v c a w, Q (.panic c) (Act.put a d v) w → Q (.panic c) a w) {w : World} (hC : C w) {K : Act → Prop} {fuel : Nat} :
    ∀ (R : List Nat) (listed : Array Bool) (a : Act), schR md ops R listed = true → tailB md ops T R = true → wpQuiet P ops C K (R.filterMap fun i => ops[i]?) a →
    (∀ a', K a' → wpAnyT P md ops Q C (inT T) fuel (setAll R listed) a' w) → wpAnyT P md ops Q C (inT T) (fuel + R.length) listed a w
  | [], listed, a, _, _, h, k => k a h
  | i :: r, listed, a, hB, ht, h, k => by
    simp only [schR, Bool.and_eq_true] at hB
    obtain ⟨⟨⟨h1, h2⟩, h3⟩, h4⟩ := hB
    unfold tailB at ht
    rw [List.all_cons, Bool.and_eq_true, Bool.and_eq_true] at ht
    obtain ⟨⟨t1, t2⟩, t3⟩ := ht
    have hti : inT T i = false := by unfold inT; simpa using t1
    have hT : ∀ t, inT T t = true → t < ops.size → Region.waitsFor md ops t i = true := fun t h' _ => List.all_eq_true.1 t2 t (by unfold inT at h'; simpa using h')
    cases ho : ops[i]? with
    | none => rw [ho] at h3; cases h3
    | some o =>
      rw [ho] at h3
      simp only [List.filterMap_cons, ho] at h
      unfold wpQuiet at h
      have hfree := Region.free_spec ho h2
      have hmem : i ∈ Region.ready md ops listed := by simpa using h1
      show wpAnyT P md ops Q C (inT T) (fuel + r.length + 1) listed a w
      by_cases hw : Region.wanted o (yielded ops a.tmps) = true
      · rw [if_pos hw] at h
        obtain ⟨v, hv, hn⟩ := h
        refine wpAnyT_first ho (Region.noSelect_spec hsel) (fun c a w => hQ o.dst v c a w) hT hti _ listed a w hfree hmem (.inl ⟨hw, fun w' hw' => ?_⟩) hC (reads_soundT hsel hQ hC r _ _ h4 t3 hn k)
        have := hv w' hw'
        unfold Oper.quietAt at this
        cases hr : (execOp a.eval o).run P w' with
        | ok n w1 =>
          obtain ⟨u, rfl⟩ := plain_onlyV h3 w' n w1 hr
          rw [hr] at this
          obtain ⟨e1, e2⟩ := this
          rw [e1, e2]
        | _ => rw [hr] at this; exact this.elim
      · rw [if_neg hw] at h
        exact wpAnyT_first ho (Region.noSelect_spec hsel) (fun c a w => hQ o.dst undef c a w) hT hti _ listed a w hfree hmem (.inr ⟨by simpa using hw, rfl⟩) hC (reads_soundT hsel hQ hC r _ _ h4 t3 h k)

def wpSeqT (P : Program) (ops : Array Oper) (C : World → Prop) (tl : Nat → Bool) (Q : Exit → Act → World → Prop) (K : Act → World → Prop) : List Nat → Act → World → Prop
  | [], a, w => K a w
  | i :: r, a, w => wpOp P ops Q i (fun a' w' => (tl i = false → C w') ∧ wpSeqT P ops C tl Q K r a' w') a w
theorem seq_soundT {K : Act → World → Prop} {fuel : Nat} :
    ∀ (A : List Nat) (listed : Array Bool) (a : Act) (w : World), schA md ops A listed = true → wpSeqT P ops C tl Q K A a w →
    (∀ a' w', K a' w' → wpAnyT P md ops Q C tl fuel (setAll A listed) a' w') → wpAnyT P md ops Q C tl (fuel + A.length) listed a w
  | [], listed, a, w, _, h, k => k a w h
  | i :: r, listed, a, w, hB, h, k => by
    simp only [schA, Bool.and_eq_true, decide_eq_true_eq] at hB
    refine ⟨fun h0 => (by rw [hB.1] at h0; cases h0), fun j hj => ?_⟩
    rw [hB.1] at hj
    obtain rfl : j = i := by simpa using hj
    exact wpOp_mono (fun a' w' h' => ⟨h'.1, seq_soundT r _ a' w' hB.2 h'.2 k⟩) h

/-- Groups, and the tail: C is asked where a group of reads begins. -/
def wpGrpT (P : Program) (ops : Array Oper) (C : World → Prop) (tl : Nat → Bool) (Q : Exit → Act → World → Prop) : List (List Nat × List Nat) → Act → World → Prop
  | [], a, w => Q .normal a w
  | (R, A) :: σ, a, w => (R = [] ∨ C w) ∧ wpQuiet P ops C (fun a' => wpSeqT P ops C tl Q (wpGrpT P ops C tl Q σ) A a' w) (R.filterMap fun i => ops[i]?) a
def tailsB (md : Region.Mode) (ops : Array Oper) (T : List Nat) : List (List Nat × List Nat) → Bool
  | [] => true
  | (R, _) :: σ => tailB md ops T R && tailsB md ops T σ
theorem grp_soundT {T : List Nat} (hsel : Region.noSelect ops = true) (hQ : ∀ d v c a w, Q (.panic c) (Act.put a d v) w → Q (.panic c) a w) :
    ∀ (σ : List (List Nat × List Nat)) (listed : Array Bool) (a : Act) (w : World), schB md ops σ listed = true → tailsB md ops T σ = true → wpGrpT P ops C (inT T) Q σ a w → wpAnyT P md ops Q C (inT T) (count σ) listed a w
  | [], listed, a, w, hB, _, h => ⟨by simpa [schB] using hB, h⟩
  | (R, A) :: σ, listed, a, w, hB, ht, h => by
    simp only [schB, Bool.and_eq_true] at hB
    simp only [tailsB, Bool.and_eq_true] at ht
    obtain ⟨hc, h⟩ := h
    have go : ∀ a', wpSeqT P ops C (inT T) Q (wpGrpT P ops C (inT T) Q σ) A a' w → wpAnyT P md ops Q C (inT T) (count σ + A.length) (setAll R listed) a' w := fun a' h' =>
      seq_soundT A _ a' w hB.1.2 h' fun a2 w2 h2 => grp_soundT hsel hQ σ _ a2 w2 hB.2 ht.2 h2
    rcases hc with rfl | hC
    · exact go a h
    · exact reads_soundT hsel hQ hC R listed a hB.1.1 ht.1 h go

/-- One schedule serves every order; behind the operations of T the class is not asked. -/
theorem wp_region_grpT {id : Nat} {a : Act} {w : World} {l : List Oper} (C : World → Prop) (T : List Nat) (σ : List (List Nat × List Nat)) (hm : P.follows .mixedOrders = true) (hsel : Region.noSelect l.toArray = true)
    (hB : schB .any l.toArray σ (Array.replicate l.toArray.size false) = true) (ht : tailsB .any l.toArray T σ = true) (hn : count σ = l.toArray.size)
    (hQ : ∀ d v c a w, Q (.panic c) (Act.put a d v) w → Q (.panic c) a w)
    (h : wpGrpT P l.toArray C (inT T) Q σ a { w with drawn := w.drawn + 1 }) : (Code.region id l.toArray true).wp P Q a w := by
  refine wp_region_any hm ?_
  have := wpAny_of_T _ _ _ _ (grp_soundT (md := .any) (T := T) hsel hQ σ (Array.replicate l.toArray.size false) a _ hB ht h)
  rwa [hn] at this
end
end Go.Proofs.Ytjobicffdcnnlaa
/- Schedules one behind the other, each with a class of its own. General: no program in sight. -/
namespace Go.Proofs.Ytjobicffdcnnlaa
open Go

section
variable {P : Program} {ops : Array Oper} {md : Region.Mode} {C : World → Prop} {Q : Exit → Act → World → Prop}

theorem held_of_any : ∀ (fuel : Nat) (listed : Array Bool) (a : Act) (w : World), wpAny P md ops Q fuel listed a w → wpAnyH P md ops Q (fun _ => True) fuel listed a w
  | 0, _, _, _, h => h
  | fuel + 1, _, _, _, h => ⟨h.1, fun i hi => wpOp_mono (fun a' w' h' => ⟨trivial, held_of_any fuel _ a' w' h'⟩) (h.2 i hi)⟩
def schG (md : Region.Mode) (ops : Array Oper) : List (List Nat × List Nat) → Array Bool → Bool
  | [], _ => true
  | (R, A) :: σ, l => schR md ops R l && schA md ops A (setAll R l) && schG md ops σ (setAll A (setAll R l))
def setGs : List (List Nat × List Nat) → Array Bool → Array Bool
  | [], l => l
  | (R, A) :: σ, l => setGs σ (setAll A (setAll R l))
def wpGrpK (P : Program) (ops : Array Oper) (C : World → Prop) (Q : Exit → Act → World → Prop) (K : Act → World → Prop) : List (List Nat × List Nat) → Act → World → Prop
  | [], a, w => K a w
  | (R, A) :: σ, a, w => wpQuiet P ops C (fun a' => wpSeqC P ops C Q (wpGrpK P ops C Q K σ) A a' w) (R.filterMap fun i => ops[i]?) a
theorem grp_then (hsel : Region.noSelect ops = true) (hQ : ∀ d v c a w, Q (.panic c) (Act.put a d v) w → Q (.panic c) a w) {K : Act → World → Prop} {fuel : Nat} :
    ∀ (σ : List (List Nat × List Nat)) (listed : Array Bool) (a : Act) (w : World), C w → schG md ops σ listed = true → wpGrpK P ops C Q K σ a w →
    (∀ a' w', C w' → K a' w' → wpAnyH P md ops Q C fuel (setGs σ listed) a' w') → wpAnyH P md ops Q C (fuel + count σ) listed a w
  | [], listed, a, w, hC, _, h, k => k a w hC h
  | (R, A) :: σ, listed, a, w, hC, hB, h, k => by
    simp only [schG, Bool.and_eq_true] at hB
    rw [show fuel + count ((R, A) :: σ) = fuel + count σ + A.length + R.length by simp only [count]; omega]
    refine reads_sound hsel hQ hC R listed a hB.1.1 h fun a' h' => ?_
    exact seq_sound A _ a' w hC hB.1.2 h' fun a2 w2 hC2 h2 => grp_then hsel hQ σ _ a2 w2 hC2 hB.2 h2 k

/-- First a schedule whose reads look at no memory; behind it one over a class that is chosen there. -/
theorem wp_region_two {id : Nat} {a : Act} {w : World} {l : List Oper} (σ τ : List (List Nat × List Nat)) (hm : P.follows .mixedOrders = true) (hsel : Region.noSelect l.toArray = true)
    (hB : schG .any l.toArray σ (Array.replicate l.toArray.size false) = true) (hB2 : schB .any l.toArray τ (setGs σ (Array.replicate l.toArray.size false)) = true) (hn : count τ + count σ = l.toArray.size)
    (hQ : ∀ d v c a w, Q (.panic c) (Act.put a d v) w → Q (.panic c) a w)
    (h : wpGrpK P l.toArray (fun _ => True) Q (fun a' w' => ∃ D : World → Prop, D w' ∧ wpGrp P l.toArray D Q τ a' w') σ a { w with drawn := w.drawn + 1 }) : (Code.region id l.toArray true).wp P Q a w := by
  refine wp_region_held (S := fun _ => True) hm ?_
  have := grp_then (md := .any) (C := fun _ => True) (fuel := count τ) hsel hQ σ (Array.replicate l.toArray.size false) a { w with drawn := w.drawn + 1 } trivial hB h
    (fun a' w' _ ⟨D, hD, hg⟩ => held_of_any _ _ _ _ (wpAny_of_held _ _ _ _ (grp_sound (md := .any) (C := D) hsel hQ τ _ a' w' hD hB2 hg)))
  rwa [hn] at this
end
end Go.Proofs.Ytjobicffdcnnlaa
