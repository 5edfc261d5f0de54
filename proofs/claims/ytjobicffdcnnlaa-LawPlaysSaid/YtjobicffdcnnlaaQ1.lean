/- A region that draws its order: a head whose operations are quiet in a class of worlds, in whatever order; behind it a tail in a fixed order. General: no program in sight. After Derived/StillTail.lean, over the class of Derived/Deep/Quiet.lean. -/
import Derived.StillTail
import Derived.Deep.Quiet
import Derived.Deep.QuietTactic
import Derived.Below
namespace Go.Proofs.Ytjobicffdcnnlaa
open Go

/-- A world that has grown out of w. -/
structure Gw (w : World) where mk ::
  val : World
  ok : RowKit.Below w.heap.size w val
instance (w : World) : Nonempty (Gw w) := ⟨⟨w, RowKit.Below.refl _ _⟩⟩
theorem Gw.cell {w : World} (s : Gw w) {p : Addr} {v : Value} (h : w.cell? p = some v) : s.val.cell? p = some v := (s.ok.cell (World.block_lt_of_cell? w p h)).trans h
/-- The class is taken apart ahead of the operation, not behind it. -/
@[go_sem ↓] theorem quiet_gw {P : Program} {o : Oper} {a : Act} {W : World} {K : Act → Prop} : o.quiet P a (fun w' => ∃ s : Gw W, w' = s.val) K =
    (∃ v, (∀ s : Gw W, o.quietAt P a (fun w' => ∃ s : Gw W, w' = s.val) s.val v) ∧ K (a.put o.dst v)) := by
  unfold Oper.quiet
  apply propext
  constructor
  · rintro ⟨v, h, k⟩
    exact ⟨v, fun s => h _ ⟨s, rfl⟩, k⟩
  · rintro ⟨v, h, k⟩
    exact ⟨v, fun w ⟨s, hs⟩ => by subst hs; exact h s, k⟩
@[go_sem ↓] theorem quiet_drewN {P : Program} {o : Oper} {a : Act} {W : World} {K : Act → Prop} : o.quiet P a (fun w' => ∃ n, w' = W.drewN n) K =
    (∃ v, (∀ n, o.quietAt P a (fun w' => ∃ n, w' = W.drewN n) (W.drewN n) v) ∧ K (a.put o.dst v)) := by
  unfold Oper.quiet
  apply propext
  constructor
  · rintro ⟨v, h, k⟩
    exact ⟨v, fun n => h _ ⟨n, rfl⟩, k⟩
  · rintro ⟨v, h, k⟩
    exact ⟨v, fun w ⟨n, hn⟩ => by subst hn; exact h n, k⟩

section
variable {P : Program} {ops : Array Oper} {md : Region.Mode} {C : World → Prop}

def wpHeadQ (P : Program) (md : Region.Mode) (ops : Array Oper) (C : World → Prop) (n : Nat) (L : Array Bool → Act → Prop) : Nat → Array Bool → Act → Prop
  | 0, listed, a => L listed a
  | f + 1, listed, a => Region.ready md ops listed ≠ [] ∧ ∀ i ∈ Region.ready md ops listed, i < n ∧ qOp P ops C i (wpHeadQ P md ops C n L f (listed.setIfInBounds i true)) a

theorem wpAny_of_headQ {n g : Nat} {L : Array Bool → Act → Prop} {Q' : Exit → Act → World → Prop} (hL : ∀ listed a w, C w → L listed a → wpAny P md ops Q' g listed a w) :
    ∀ (f : Nat) (listed : Array Bool) (a : Act) (w : World), C w → wpHeadQ P md ops C n L f listed a → wpAny P md ops Q' (f + g) listed a w
  | 0, listed, a, w, hw, h => by rw [Nat.zero_add]; exact hL _ _ _ hw h
  | f + 1, listed, a, w, hw, h => by
    rw [show f + 1 + g = (f + g) + 1 by omega]
    exact ⟨fun h0 => absurd h0 h.1, fun i hi => wpOp_of_qOp hw (fun a' w' hw' h' => wpAny_of_headQ hL f _ a' w' hw' h') (h.2 i hi).2⟩

theorem wpHeadQ_first {n i : Nat} {oi : Oper} {v : Value} {L : Array Bool → Act → Prop} (hi : ops[i]? = some oi) (hsel : ∀ (j : Nat) (o : Oper) cs b, ops[j]? = some o → o.op ≠ .select cs b)
    (hs : Region.sinkB md ops n = true) (hc : Region.chainB md ops n = true) (hn : n < ops.size) (hin : i < n)
    (hdone : ∀ listed a, L listed a → ∀ j ∈ Region.ready md ops listed, n ≤ j) :
    ∀ (f : Nat) (listed : Array Bool) (a : Act), HeadInv md ops n listed →
      (∀ j oj, ops[j]? = some oj → j ≠ i → listed.getD j true = false → (∀ e ∈ oj.after, Region.binds md e = true → e.on ≠ i) → oi.apart ops oj = true) →
      i ∈ Region.ready md ops listed → YieldsIn P ops C oi v a →
      wpHeadQ P md ops C n L f (listed.setIfInBounds i true) (a.put oi.dst v) → wpHeadQ P md ops C n L (f + 1) listed a := by
  intro f
  induction f with
  | zero =>
    intro listed a inv _ hr hy H
    have hun := (mem_ready.1 hr).1
    refine ⟨fun h => (by rw [h] at hr; cases hr), fun j hj => ?_⟩
    have hjn : j < n := by
      rcases Nat.lt_or_ge j n with h | h
      · exact h
      · exact absurd hj (tail_waits hs hc hn inv _ i rfl hin hun j h)
    refine ⟨hjn, ?_⟩
    by_cases hji : j = i
    · subst hji; exact hy.qOp hi H
    · have := hdone _ _ H j (ready_mono hj hji)
      omega
  | succ f ih =>
    intro listed a inv hfree hr hy H
    have hun := (mem_ready.1 hr).1
    refine ⟨fun h => (by rw [h] at hr; cases hr), fun j hj => ?_⟩
    have hjn : j < n := by
      rcases Nat.lt_or_ge j n with h | h
      · exact h
      · exact absurd hj (tail_waits hs hc hn inv _ i rfl hin hun j h)
    refine ⟨hjn, ?_⟩
    by_cases hji : j = i
    · subst hji; exact hy.qOp hi H
    · have h1 := (H.2 j (ready_mono hj hji)).2
      obtain ⟨hjun, oj, hoj, hall⟩ := mem_ready.1 hj
      have hnot : ∀ e ∈ oj.after, Region.binds md e = true → e.on ≠ i := fun e he hb heq => by
        have h1 := hall e he hb
        rw [heq, getD_both hun] at h1
        cases h1
      have h2 := qOp_put hoj (hfree j oj hoj hji hjun hnot) (fun cs b => hsel i oi cs b hi) (fun cs b => hsel j oj cs b hoj) hy h1
      have hfree' : ∀ k ok, ops[k]? = some ok → k ≠ i → (listed.setIfInBounds j true).getD k true = false →
          (∀ e ∈ ok.after, Region.binds md e = true → e.on ≠ i) → oi.apart ops ok = true := fun k ok hk hki hun hno => by
        refine hfree k ok hk hki ?_ hno
        by_cases hjk : j = k
        · subst hjk; exact hjun
        · rw [getD_set_ne true hjk] at hun; exact hun
      refine qOp_mono (fun a' h3 => ih (listed.setIfInBounds j true) a' (inv.set hj hjn) hfree' (ready_mono hr (Ne.symm hji)) h3.1 ?_) h2
      rw [Array.setIfInBounds_comm _ _ hji]
      exact h3.2

/-- Edges lead back in the text. -/
def edgesB (md : Region.Mode) : Nat → List Oper → Bool
  | _, [] => true
  | k, o :: r => o.after.toList.all (fun e => !Region.binds md e || Nat.blt e.on k) && edgesB md (k + 1) r
theorem edgesB_spec : ∀ (l : List Oper) (k : Nat), edgesB md k l = true → ∀ j o, l[j]? = some o → ∀ e ∈ o.after, Region.binds md e = true → e.on < k + j
  | [], _, _, j, o, h, _, _, _ => by simp at h
  | x :: r, k, hB, 0, o, h, e, he, hb => by
    simp only [edgesB, Bool.and_eq_true] at hB
    have hx : x = o := by simpa using h
    subst hx
    have := List.all_eq_true.1 hB.1 e (by simpa using he)
    rw [hb] at this
    simpa using this
  | x :: r, k, hB, j + 1, o, h, e, he, hb => by
    simp only [edgesB, Bool.and_eq_true] at hB
    have := edgesB_spec r (k + 1) hB.2 j o (by simpa using h) e he hb
    omega
/-- Of the first n, each is apart from what stands behind it and does not wait for it. -/
def freeB (md : Region.Mode) (ops : Array Oper) : Nat → Nat → List Oper → Bool
  | 0, _, _ => true
  | _ + 1, _, [] => true
  | n + 1, k, o :: r => (r.all fun y => y.after.toList.any (fun e => Region.binds md e && Nat.beq e.on k) || o.apart ops y) && freeB md ops n (k + 1) r
theorem freeB_spec : ∀ (n k : Nat) (l : List Oper), freeB md ops n k l = true → ∀ i oi j oj, i < n → i < j → l[i]? = some oi → l[j]? = some oj →
    (∀ e ∈ oj.after, Region.binds md e = true → e.on ≠ k + i) → oi.apart ops oj = true
  | 0, _, _, _, i, _, _, _, hi, _, _, _, _ => by omega
  | n + 1, k, [], _, i, _, _, _, _, _, h, _, _ => by simp at h
  | n + 1, k, o :: r, hB, 0, oi, j, oj, _, hj, h1, h2, hno => by
    simp only [freeB, Bool.and_eq_true] at hB
    have hx : o = oi := by simpa using h1
    subst hx
    obtain ⟨j, rfl⟩ : ∃ m, j = m + 1 := ⟨j - 1, by omega⟩
    have hm : oj ∈ r := List.mem_of_getElem? (by simpa using h2)
    have := List.all_eq_true.1 hB.1 oj hm
    simp only [Bool.or_eq_true] at this
    rcases this with h | h
    · exfalso
      obtain ⟨e, he, hb⟩ := List.any_eq_true.1 h
      simp only [Bool.and_eq_true] at hb
      exact hno e (by simpa using he) hb.1 (by simpa using Nat.eq_of_beq_eq_true hb.2)
    · exact h
  | n + 1, k, o :: r, hB, i + 1, oi, j, oj, hi, hj, h1, h2, hno => by
    simp only [freeB, Bool.and_eq_true] at hB
    obtain ⟨j, rfl⟩ : ∃ m, j = m + 1 := ⟨j - 1, by omega⟩
    exact freeB_spec n (k + 1) r hB.2 i oi j oj (by omega) (by omega) (by simpa using h1) (by simpa using h2) (fun e he hb => by have := hno e he hb; omega)

/-- The first k are listed, the others not. -/
def First (N k : Nat) (listed : Array Bool) : Prop := listed.size = N ∧ ∀ j, j < N → listed[j]? = some (decide (j < k))
theorem First.zero (N : Nat) : First N 0 (Array.replicate N false) := ⟨by simp, fun j hj => by simp [hj]⟩
theorem First.next {N k : Nat} {listed : Array Bool} (h : First N k listed) (hk : k < N) : First N (k + 1) (listed.setIfInBounds k true) :=
  ⟨by simp [h.1], fun j hj => by
    by_cases hjk : j = k
    · subst hjk; simp [h.1, hk]
    · rw [Array.getElem?_setIfInBounds_ne (Ne.symm hjk), h.2 j hj]; congr 1; simp; omega⟩
theorem First.getF {N k j : Nat} {listed : Array Bool} (h : First N k listed) (hj : j < N) : listed.getD j false = decide (j < k) := by
  rw [Array.getD_eq_getD_getElem?, h.2 j hj]; rfl
theorem First.getT {N k j : Nat} {listed : Array Bool} (h : First N k listed) (hj : j < N) : listed.getD j true = decide (j < k) := by
  rw [Array.getD_eq_getD_getElem?, h.2 j hj]; rfl

theorem first_ready {k : Nat} {listed : Array Bool} (he : edgesB md 0 ops.toList = true) (h : First ops.size k listed) (hk : k < ops.size) : k ∈ Region.ready md ops listed := by
  refine mem_ready.2 ⟨by rw [h.getT hk]; simp, ops[k], by simp [hk], fun e hm hb => ?_⟩
  have := edgesB_spec ops.toList 0 he k ops[k] (by simp [hk]) e hm hb
  rw [h.getF (by omega)]
  simp; omega

theorem first_seq {n : Nat} (he : edgesB md 0 ops.toList = true) (hc : Region.chainB md ops n = true) : ∀ (g k : Nat) (listed : Array Bool), First ops.size k listed → n ≤ k → k + g = ops.size → Region.seqB md ops g k listed = true
  | 0, k, listed, h, _, hk => by
    simp only [Region.seqB, List.isEmpty_iff, List.eq_nil_iff_forall_not_mem]
    intro j hj
    obtain ⟨h1, o, ho, _⟩ := mem_ready.1 hj
    have hj' : j < ops.size := (Array.getElem?_eq_some_iff.1 ho).1
    rw [h.getT hj'] at h1
    simp at h1; omega
  | g + 1, k, listed, h, hnk, hk => by
    have hkl : k < ops.size := by omega
    simp only [Region.seqB, Bool.and_eq_true, decide_eq_true_eq]
    refine ⟨?_, first_seq he hc g (k + 1) _ (h.next hkl) (by omega) (by omega)⟩
    have h0 : ∀ j, j ∈ Region.ready md ops listed ↔ j = k := by
      intro j
      constructor
      · intro hj
        obtain ⟨h1, o, ho, hall⟩ := mem_ready.1 hj
        have hj' : j < ops.size := (Array.getElem?_eq_some_iff.1 ho).1
        rw [h.getT hj'] at h1
        have hjk : k ≤ j := by simpa using h1
        by_cases hne : j = k
        · exact hne
        · exfalso
          have h2 := List.all_eq_true.1 hc j (List.mem_range.2 hj')
          simp only [Bool.or_eq_true, decide_eq_true_eq] at h2
          rcases h2 with h2 | h2
          · omega
          · obtain ⟨o', ho', e, hm, hb, hon⟩ := Region.waitsFor_spec h2
            have : o' = o := Option.some.inj (ho'.symm.trans ho)
            subst this
            have h3 := hall e hm hb
            rw [hon, h.getF (by omega)] at h3
            simp at h3; omega
      · rintro rfl
        exact first_ready he h hkl
    have hnd : (Region.ready md ops listed).Nodup := by unfold Region.ready; exact List.Nodup.sublist List.filter_sublist List.nodup_range
    generalize Region.ready md ops listed = r at *
    match r, h0, hnd with
    | [], h0, _ => exact absurd ((h0 k).2 rfl) (by simp)
    | [a], h0, _ => rw [(h0 a).1 (by simp)]
    | a :: b :: r, h0, hnd => 
      have ha := (h0 a).1 (by simp)
      have hb := (h0 b).1 (by simp)
      subst ha; subst hb
      simp at hnd

theorem wpHeadQ_lex2 {n g : Nat} {Lq : Act → Prop} (hsel : Region.noSelect ops = true) (hs : Region.sinkB md ops n = true) (hc : Region.chainB md ops n = true) (hn : n < ops.size)
    (he : edgesB md 0 ops.toList = true) (hfr : freeB md ops n 0 ops.toList = true) (hg : n + g = ops.size) :
    ∀ (l : List Oper) (k : Nat) (listed : Array Bool) (a : Act), (∀ j, j < l.length → l[j]? = ops[k + j]?) → k + l.length = n → HeadInv md ops n listed → First ops.size k listed →
    wpQuiet P ops C Lq l a →
    wpHeadQ P md ops C n (fun listed' a' => Region.seqB md ops g n listed' = true ∧ Lq a') l.length listed a
  | [], k, listed, a, _, hk, _, hF, h => by
    have : k = n := by simpa using hk
    subst this
    exact ⟨first_seq he hc g k listed hF (Nat.le_refl _) hg, h⟩
  | o :: l, k, listed, a, hl, hk, inv, hF, h => by
    have h0 : ops[k]? = some o := by simpa using (hl 0 (by simp)).symm
    have hkn : k < n := by simp only [List.length_cons] at hk; omega
    have hr' : k ∈ Region.ready md ops listed := first_ready he hF (by omega)
    have hst : qOp P ops C k (wpQuiet P ops C Lq l) a := by unfold qOp; simp only [h0]; exact h
    obtain ⟨v, hy, hK⟩ := yieldsIn_of_qOp h0 hst
    exact wpHeadQ_first h0 (Region.noSelect_spec hsel) hs hc hn hkn (fun listed' a' hL => seqB_ready hL.1) l.length listed a inv
      (fun j oj hj hne hun hno => by
        have hj' : j < ops.size := (Array.getElem?_eq_some_iff.1 hj).1
        rw [hF.getT hj'] at hun
        have hkj : k ≤ j := by simpa using hun
        exact freeB_spec n 0 ops.toList hfr k o j oj hkn (by omega) (by simpa using h0) (by simpa using hj) (fun e hm hb => by have := hno e hm hb; omega)) hr' hy
      (wpHeadQ_lex2 hsel hs hc hn he hfr hg l (k + 1) _ _ (fun j hj => by have := hl (j + 1) (by simp; omega); simpa [Nat.add_assoc, Nat.add_comm 1 j] using this) (by simp only [List.length_cons] at hk; omega) (inv.set hr' hkn) (hF.next (by omega)) hK)

/-- One walk of the text's order serves every order. -/
theorem wp_region_quiet_tail {id : Nat} {Q : Exit → Act → World → Prop} {a : Act} {w : World} {l : List Oper} (n : Nat) (hm : P.follows .mixedOrders = true)
    (hsel : Region.noSelect l.toArray = true) (hn' : n < l.length) (hs : Region.sinkB .any l.toArray n = true) (hc : Region.chainB .any l.toArray n = true)
    (he : edgesB .any 0 l = true) (hfr : freeB .any l.toArray n 0 l = true)
    (hC : C { w with drawn := w.drawn + 1 })
    (h : wpQuiet P l.toArray C (fun a' => ∀ w', C w' → wpList P l.toArray Q (l.drop n) a' w') (l.take n) a) : (Code.region id l.toArray true).wp P Q a w := by
  have hn : n < l.toArray.size := by simpa using hn'
  have htl : (l.take n).length = n := by simp; omega
  have hdl : (l.drop n).length = l.toArray.size - n := by simp
  have inv0 : HeadInv .any l.toArray n (Array.replicate l.toArray.size false) :=
    ⟨by simp, fun j oj _ hl => (by rw [getD_replicate_false] at hl; cases hl), fun t _ ht => getD_in (by simpa using ht) (getD_replicate_false _ _)⟩
  have H := wpHeadQ_lex2 (md := .any) (g := l.toArray.size - n) hsel hs hc hn (by simpa using he) (by simpa using hfr) (by omega) (l.take n) 0 _ a (fun j hj => by
    have hj' : j < n := by rw [htl] at hj; exact hj
    simp [hj']) (by simpa using htl) inv0 (First.zero _) h
  refine wp_region_any hm ?_
  have := wpAny_of_headQ (Q' := Q) (g := l.toArray.size - n) (fun listed a' w' hw' hL => by
    have := wpAny_of_seq (md := .any) (Q' := Q) (l.drop n) n listed a' w' (fun j => by simp [List.getElem?_drop]) (by rw [hdl]; exact hL.1) (hL.2 w' hw')
    rwa [hdl] at this) _ _ _ _ hC H
  rw [htl, show n + (l.toArray.size - n) = l.toArray.size by omega] at this
  exact this
end
end Go.Proofs.Ytjobicffdcnnlaa
