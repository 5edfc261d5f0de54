/- The schedule of Q4 once more, with a tail behind which the class is not asked: what stores at the region's end. General: no program in sight. -/
import Derived.Test.YtjobicffdcnnlaaQ5
namespace Go.Proofs.Ytjobicffdcnnlaa
open Go

section
variable {P : Program} {ops : Array Oper} {md : Region.Mode} {C : World → Prop} {Q : Exit → Act → World → Prop} {tl : Nat → Bool}

/-- Whatever order is picked, and C holds behind each operation that is none of the tail. -/
def wpAnyT (P : Program) (md : Region.Mode) (ops : Array Oper) (Q : Exit → Act → World → Prop) (C : World → Prop) (tl : Nat → Bool) : Nat → Array Bool → Act → World → Prop
  | 0, listed, a, w => Region.ready md ops listed = [] ∧ Q .normal a w
  | fuel + 1, listed, a, w =>
    (Region.ready md ops listed = [] → Q .normal a w) ∧
    ∀ i ∈ Region.ready md ops listed, wpOp P ops Q i (fun a' w' => (tl i = false → C w') ∧ wpAnyT P md ops Q C tl fuel (listed.setIfInBounds i true) a' w') a w
theorem wpAny_of_T : ∀ (fuel : Nat) (listed : Array Bool) (a : Act) (w : World), wpAnyT P md ops Q C tl fuel listed a w → wpAny P md ops Q fuel listed a w
  | 0, _, _, _, h => h
  | fuel + 1, _, _, _, h => ⟨h.1, fun i hi => wpOp_mono (fun a' w' h' => wpAny_of_T fuel _ a' w' h'.2) (h.2 i hi)⟩

theorem not_ready_of_waits {listed : Array Bool} {t i : Nat} (hw : Region.waitsFor md ops t i = true) (hun : listed.getD i true = false) : t ∉ Region.ready md ops listed := fun hr => by
  obtain ⟨_, ot, hot, hall⟩ := mem_ready.1 hr
  obtain ⟨o', ho', e, he, hb, hon⟩ := Region.waitsFor_spec hw
  obtain rfl : o' = ot := Option.some.inj (ho'.symm.trans hot)
  have := hall e he hb
  rw [hon, getD_both hun] at this
  cases this

theorem wpAnyT_first {i : Nat} {oi : Oper} {v : Value} (hi : ops[i]? = some oi) (hsel : ∀ (j : Nat) (o : Oper) cs b, ops[j]? = some o → o.op ≠ .select cs b)
    (hQ : ∀ c a w, Q (.panic c) (a.put oi.dst v) w → Q (.panic c) a w) (hT : ∀ t, tl t = true → t < ops.size → Region.waitsFor md ops t i = true) (hti : tl i = false) :
    ∀ (fuel : Nat) (listed : Array Bool) (a : Act) (w : World),
      (∀ j oj, ops[j]? = some oj → j ≠ i → listed.getD j true = false → (∀ e ∈ oj.after, Region.binds md e = true → e.on ≠ i) → oi.apart ops oj = true) →
      i ∈ Region.ready md ops listed → YieldsIf P ops C oi v a → C w →
      wpAnyT P md ops Q C tl fuel (listed.setIfInBounds i true) (a.put oi.dst v) w → wpAnyT P md ops Q C tl (fuel + 1) listed a w := by
  intro fuel
  induction fuel with
  | zero =>
    intro listed a w _ hr hy hS H
    refine ⟨fun h => (by rw [h] at hr; cases hr), fun j hj => ?_⟩
    by_cases hji : j = i
    · subst hji; exact hy.wpOp hi hS ⟨fun _ => hS, H⟩
    · have := ready_mono hj hji
      rw [H.1] at this
      cases this
  | succ fuel ih =>
    intro listed a w hfree hr hy hS H
    have hun := (mem_ready.1 hr).1
    refine ⟨fun h => (by rw [h] at hr; cases hr), fun j hj => ?_⟩
    by_cases hji : j = i
    · subst hji; exact hy.wpOp hi hS ⟨fun _ => hS, H⟩
    · have h1 := H.2 j (ready_mono hj hji)
      obtain ⟨hjun, oj, hoj, hall⟩ := mem_ready.1 hj
      have hjt : tl j = false := by
        cases ht : tl j with
        | false => rfl
        | true => exact absurd hj (not_ready_of_waits (hT j ht (Array.getElem?_eq_some_iff.1 hoj).1) hun)
      have hnot : ∀ e ∈ oj.after, Region.binds md e = true → e.on ≠ i := fun e he hb heq => by
        have h1 := hall e he hb
        rw [heq, getD_both hun] at h1
        cases h1
      have h2 := wpOp_putIf hoj (hfree j oj hoj hji hjun hnot) (fun cs b => hsel i oi cs b hi) (fun cs b => hsel j oj cs b hoj) hQ hy h1
      have hfree' : ∀ k ok, ops[k]? = some ok → k ≠ i → (listed.setIfInBounds j true).getD k true = false →
          (∀ e ∈ ok.after, Region.binds md e = true → e.on ≠ i) → oi.apart ops ok = true := fun k ok hk hki hun hno => by
        refine hfree k ok hk hki ?_ hno
        by_cases hjk : j = k
        · subst hjk; exact hjun
        · rw [getD_set_ne true hjk] at hun; exact hun
      refine wpOp_mono (fun a' w' h3 => ⟨h3.2.1, ih (listed.setIfInBounds j true) a' w' hfree' (ready_mono hr (Ne.symm hji)) h3.1 (h3.2.1 hjt) ?_⟩) h2
      rw [Array.setIfInBounds_comm _ _ hji]
      exact h3.2.2

/-- The tail waits for each of the reads, and none of them is of it. -/
def tailB (md : Region.Mode) (ops : Array Oper) (T : List Nat) (R : List Nat) : Bool := R.all fun i => !T.contains i && T.all fun t => Region.waitsFor md ops t i
def inT (T : List Nat) (i : Nat) : Bool := T.contains i

theorem reads_soundT {T : List Nat} (hsel : Region.noSelect ops = true) (hQ : ∀ d v c a w, Q (.panic c) (Act.put a d v) w → Q (.panic c) a w) {w : World} (hC : C w) {K : Act → Prop} {fuel : Nat} :
    ∀ (R : List Nat) (listed : Array Bool) (a : Act), schR md ops R listed = true → tailB md ops T R = true → wpQuiet P ops C K (R.filterMap fun i => ops[i]?) a →
    (∀ a', K a' → wpAnyT P md ops Q C (inT T) fuel (setAll R listed) a' w) → wpAnyT P md ops Q C (inT T) (fuel + R.length) listed a w
  | [], listed, a, _, _, h, k => k a h
  | i :: r, listed, a, hB, ht, h, k => by
    simp only [schR, Bool.and_eq_true] at hB
    obtain ⟨⟨⟨h1, h2⟩, h3⟩, h4⟩ := hB
    unfold tailB at ht
    rw [List.all_cons, Bool.and_eq_true, Bool.and_eq_true] at ht
    obtain ⟨⟨t1, t2⟩, t3⟩ := ht
    have hti : inT T i = false := by unfold inT; simpa using t1
    have hT : ∀ t, inT T t = true → t < ops.size → Region.waitsFor md ops t i = true := fun t h' _ => List.all_eq_true.1 t2 t (by unfold inT at h'; simpa using h')
    cases ho : ops[i]? with
    | none => rw [ho] at h3; cases h3
    | some o =>
      rw [ho] at h3
      simp only [List.filterMap_cons, ho] at h
      unfold wpQuiet at h
      have hfree := Region.free_spec ho h2
      have hmem : i ∈ Region.ready md ops listed := by simpa using h1
      show wpAnyT P md ops Q C (inT T) (fuel + r.length + 1) listed a w
      by_cases hw : Region.wanted o (yielded ops a.tmps) = true
      · rw [if_pos hw] at h
        obtain ⟨v, hv, hn⟩ := h
        refine wpAnyT_first ho (Region.noSelect_spec hsel) (fun c a w => hQ o.dst v c a w) hT hti _ listed a w hfree hmem (.inl ⟨hw, fun w' hw' => ?_⟩) hC (reads_soundT hsel hQ hC r _ _ h4 t3 hn k)
        have := hv w' hw'
        unfold Oper.quietAt at this
        cases hr : (execOp a.eval o).run P w' with
        | ok n w1 =>
          obtain ⟨u, rfl⟩ := plain_onlyV h3 w' n w1 hr
          rw [hr] at this
          obtain ⟨e1, e2⟩ := this
          rw [e1, e2]
        | _ => rw [hr] at this; exact this.elim
      · rw [if_neg hw] at h
        exact wpAnyT_first ho (Region.noSelect_spec hsel) (fun c a w => hQ o.dst undef c a w) hT hti _ listed a w hfree hmem (.inr ⟨by simpa using hw, rfl⟩) hC (reads_soundT hsel hQ hC r _ _ h4 t3 h k)

def wpSeqT (P : Program) (ops : Array Oper) (C : World → Prop) (tl : Nat → Bool) (Q : Exit → Act → World → Prop) (K : Act → World → Prop) : List Nat → Act → World → Prop
  | [], a, w => K a w
  | i :: r, a, w => wpOp P ops Q i (fun a' w' => (tl i = false → C w') ∧ wpSeqT P ops C tl Q K r a' w') a w
theorem seq_soundT {K : Act → World → Prop} {fuel : Nat} :
    ∀ (A : List Nat) (listed : Array Bool) (a : Act) (w : World), schA md ops A listed = true → wpSeqT P ops C tl Q K A a w →
    (∀ a' w', K a' w' → wpAnyT P md ops Q C tl fuel (setAll A listed) a' w') → wpAnyT P md ops Q C tl (fuel + A.length) listed a w
  | [], listed, a, w, _, h, k => k a w h
  | i :: r, listed, a, w, hB, h, k => by
    simp only [schA, Bool.and_eq_true, decide_eq_true_eq] at hB
    refine ⟨fun h0 => (by rw [hB.1] at h0; cases h0), fun j hj => ?_⟩
    rw [hB.1] at hj
    obtain rfl : j = i := by simpa using hj
    exact wpOp_mono (fun a' w' h' => ⟨h'.1, seq_soundT r _ a' w' hB.2 h'.2 k⟩) h

/-- Groups, and the tail: C is asked where a group of reads begins. -/
def wpGrpT (P : Program) (ops : Array Oper) (C : World → Prop) (tl : Nat → Bool) (Q : Exit → Act → World → Prop) : List (List Nat × List Nat) → Act → World → Prop
  | [], a, w => Q .normal a w
  | (R, A) :: σ, a, w => (R = [] ∨ C w) ∧ wpQuiet P ops C (fun a' => wpSeqT P ops C tl Q (wpGrpT P ops C tl Q σ) A a' w) (R.filterMap fun i => ops[i]?) a
def tailsB (md : Region.Mode) (ops : Array Oper) (T : List Nat) : List (List Nat × List Nat) → Bool
  | [] => true
  | (R, _) :: σ => tailB md ops T R && tailsB md ops T σ
theorem grp_soundT {T : List Nat} (hsel : Region.noSelect ops = true) (hQ : ∀ d v c a w, Q (.panic c) (Act.put a d v) w → Q (.panic c) a w) :
    ∀ (σ : List (List Nat × List Nat)) (listed : Array Bool) (a : Act) (w : World), schB md ops σ listed = true → tailsB md ops T σ = true → wpGrpT P ops C (inT T) Q σ a w → wpAnyT P md ops Q C (inT T) (count σ) listed a w
  | [], listed, a, w, hB, _, h => ⟨by simpa [schB] using hB, h⟩
  | (R, A) :: σ, listed, a, w, hB, ht, h => by
    simp only [schB, Bool.and_eq_true] at hB
    simp only [tailsB, Bool.and_eq_true] at ht
    obtain ⟨hc, h⟩ := h
    have go : ∀ a', wpSeqT P ops C (inT T) Q (wpGrpT P ops C (inT T) Q σ) A a' w → wpAnyT P md ops Q C (inT T) (count σ + A.length) (setAll R listed) a' w := fun a' h' =>
      seq_soundT A _ a' w hB.1.2 h' fun a2 w2 h2 => grp_soundT hsel hQ σ _ a2 w2 hB.2 ht.2 h2
    rcases hc with rfl | hC
    · exact go a h
    · exact reads_soundT hsel hQ hC R listed a hB.1.1 ht.1 h go

/-- One schedule serves every order; behind the operations of T the class is not asked. -/
theorem wp_region_grpT {id : Nat} {a : Act} {w : World} {l : List Oper} (C : World → Prop) (T : List Nat) (σ : List (List Nat × List Nat)) (hm : P.follows .mixedOrders = true) (hsel : Region.noSelect l.toArray = true)
    (hB : schB .any l.toArray σ (Array.replicate l.toArray.size false) = true) (ht : tailsB .any l.toArray T σ = true) (hn : count σ = l.toArray.size)
    (hQ : ∀ d v c a w, Q (.panic c) (Act.put a d v) w → Q (.panic c) a w)
    (h : wpGrpT P l.toArray C (inT T) Q σ a { w with drawn := w.drawn + 1 }) : (Code.region id l.toArray true).wp P Q a w := by
  refine wp_region_any hm ?_
  have := wpAny_of_T _ _ _ _ (grp_soundT (md := .any) (T := T) hsel hQ σ (Array.replicate l.toArray.size false) a _ hB ht h)
  rwa [hn] at this
end
end Go.Proofs.Ytjobicffdcnnlaa
