/- A region that draws its order, whose first operation is a copy that the tail does not wait for: it is taken first; then as in Q1. General: no program in sight. -/
import Derived.Test.YtjobicffdcnnlaaQ1
import Derived.Orders
namespace Go.Proofs.Ytjobicffdcnnlaa
open Go

section
variable {P : Program} {ops : Array Oper} {md : Region.Mode} {C : World → Prop}

/-- The tail waits for all of the head but its first m. -/
def sinkM (md : Region.Mode) (ops : Array Oper) (n m : Nat) : Bool :=
  (List.range n).all fun i => decide (i < m) || (List.range (n + 1)).any fun j => decide (i < j) && Region.waitsFor md ops j i

theorem tail_waitsM {n m : Nat} {listed : Array Bool} (hs : sinkM md ops n m = true) (hc : Region.chainB md ops n = true) (hn : n < ops.size) (inv : HeadInv md ops n listed) :
    ∀ (d i : Nat), n - i = d → i < n → m ≤ i → listed.getD i true = false → ∀ t, n ≤ t → t ∉ Region.ready md ops listed := by
  intro d
  induction d using Nat.strongRecOn with
  | _ d ih =>
    intro i hd hi hmi hun t ht hr
    obtain ⟨_, ot, hot, hall⟩ := mem_ready.1 hr
    have htlt : t < ops.size := (Array.getElem?_eq_some_iff.1 hot).1
    have no : ∀ u, listed.getD u true = false → listed.getD u false = true → False := fun u h1 h2 => by rw [getD_both h1] at h2; cases h2
    rcases Nat.lt_or_ge n t with hlt | hge
    · have h1 := List.all_eq_true.1 hc t (List.mem_range.2 htlt)
      rw [Bool.or_eq_true] at h1
      rcases h1 with h1 | h1
      · have := of_decide_eq_true h1; omega
      · obtain ⟨o', ho', e, he, hb, hon⟩ := Region.waitsFor_spec h1
        obtain rfl : o' = ot := Option.some.inj (ho'.symm.trans hot)
        exact no _ (inv.tail (t - 1) (by omega) (by omega)) (hon ▸ hall e he hb)
    · obtain rfl : t = n := by omega
      have h1 := List.all_eq_true.1 hs i (List.mem_range.2 hi)
      rw [Bool.or_eq_true] at h1
      rcases h1 with h1 | h1
      · have := of_decide_eq_true h1; omega
      · obtain ⟨j, hj, hj2⟩ := List.any_eq_true.1 h1
        rw [Bool.and_eq_true] at hj2
        have hij := of_decide_eq_true hj2.1
        obtain ⟨oj, hoj, e, he, hb, hon⟩ := Region.waitsFor_spec hj2.2
        have hjle := List.mem_range.1 hj
        rcases Nat.lt_or_ge j t with hjt | hjt
        · cases hl : listed.getD j false with
          | true => exact no i hun (hon ▸ inv.closed j oj hoj hl e he hb)
          | false => exact ih (t - j) (by omega) j rfl hjt (by omega) (getD_in (by rw [inv.size]; omega) hl) t (Nat.le_refl _) hr
        · obtain rfl : j = t := by omega
          obtain rfl : oj = ot := Option.some.inj (hoj.symm.trans hot)
          exact no i hun (hon ▸ hall e he hb)

theorem wpHeadQ_firstM {n i : Nat} {oi : Oper} {v : Value} {L : Array Bool → Act → Prop} (hi : ops[i]? = some oi) (hsel : ∀ (j : Nat) (o : Oper) cs b, ops[j]? = some o → o.op ≠ .select cs b)
    (hT : ∀ listed, HeadInv md ops n listed → listed.getD i true = false → ∀ t, n ≤ t → t ∉ Region.ready md ops listed)
    (hdone : ∀ listed a, L listed a → ∀ j ∈ Region.ready md ops listed, n ≤ j) :
    ∀ (f : Nat) (listed : Array Bool) (a : Act), HeadInv md ops n listed →
      (∀ j oj, ops[j]? = some oj → j ≠ i → listed.getD j true = false → (∀ e ∈ oj.after, Region.binds md e = true → e.on ≠ i) → oi.apart ops oj = true) →
      i ∈ Region.ready md ops listed → YieldsIn P ops C oi v a →
      wpHeadQ P md ops C n L f (listed.setIfInBounds i true) (a.put oi.dst v) → wpHeadQ P md ops C n L (f + 1) listed a := by
  intro f
  induction f with
  | zero =>
    intro listed a inv _ hr hy H
    have hun := (mem_ready.1 hr).1
    refine ⟨fun h => (by rw [h] at hr; cases hr), fun j hj => ?_⟩
    have hjn : j < n := by
      rcases Nat.lt_or_ge j n with h | h
      · exact h
      · exact absurd hj (hT _ inv hun j h)
    refine ⟨hjn, ?_⟩
    by_cases hji : j = i
    · subst hji; exact hy.qOp hi H
    · have := hdone _ _ H j (ready_mono hj hji)
      omega
  | succ f ih =>
    intro listed a inv hfree hr hy H
    have hun := (mem_ready.1 hr).1
    refine ⟨fun h => (by rw [h] at hr; cases hr), fun j hj => ?_⟩
    have hjn : j < n := by
      rcases Nat.lt_or_ge j n with h | h
      · exact h
      · exact absurd hj (hT _ inv hun j h)
    refine ⟨hjn, ?_⟩
    by_cases hji : j = i
    · subst hji; exact hy.qOp hi H
    · have h1 := (H.2 j (ready_mono hj hji)).2
      obtain ⟨hjun, oj, hoj, hall⟩ := mem_ready.1 hj
      have hnot : ∀ e ∈ oj.after, Region.binds md e = true → e.on ≠ i := fun e he hb heq => by
        have h1 := hall e he hb
        rw [heq, getD_both hun] at h1
        cases h1
      have h2 := qOp_put hoj (hfree j oj hoj hji hjun hnot) (fun cs b => hsel i oi cs b hi) (fun cs b => hsel j oj cs b hoj) hy h1
      have hfree' : ∀ k ok, ops[k]? = some ok → k ≠ i → (listed.setIfInBounds j true).getD k true = false →
          (∀ e ∈ ok.after, Region.binds md e = true → e.on ≠ i) → oi.apart ops ok = true := fun k ok hk hki hun hno => by
        refine hfree k ok hk hki ?_ hno
        by_cases hjk : j = k
        · subst hjk; exact hjun
        · rw [getD_set_ne true hjk] at hun; exact hun
      refine qOp_mono (fun a' h3 => ih (listed.setIfInBounds j true) a' (inv.set hj hjn) hfree' (ready_mono hr (Ne.symm hji)) h3.1 ?_) h2
      rw [Array.setIfInBounds_comm _ _ hji]
      exact h3.2

theorem wpHeadQ_lex2M {n m g : Nat} {Lq : Act → Prop} (hsel : Region.noSelect ops = true) (hs : sinkM md ops n m = true) (hc : Region.chainB md ops n = true) (hn : n < ops.size)
    (he : edgesB md 0 ops.toList = true) (hfr : freeB md ops n 0 ops.toList = true) (hg : n + g = ops.size) :
    ∀ (l : List Oper) (k : Nat) (listed : Array Bool) (a : Act), m ≤ k → (∀ j, j < l.length → l[j]? = ops[k + j]?) → k + l.length = n → HeadInv md ops n listed → First ops.size k listed →
    wpQuiet P ops C Lq l a →
    wpHeadQ P md ops C n (fun listed' a' => Region.seqB md ops g n listed' = true ∧ Lq a') l.length listed a
  | [], k, listed, a, _, _, hk, _, hF, h => by
    have : k = n := by simpa using hk
    subst this
    exact ⟨first_seq he hc g k listed hF (Nat.le_refl _) hg, h⟩
  | o :: l, k, listed, a, hmk, hl, hk, inv, hF, h => by
    have h0 : ops[k]? = some o := by simpa using (hl 0 (by simp)).symm
    have hkn : k < n := by simp only [List.length_cons] at hk; omega
    have hr' : k ∈ Region.ready md ops listed := first_ready he hF (by omega)
    have hst : qOp P ops C k (wpQuiet P ops C Lq l) a := by unfold qOp; simp only [h0]; exact h
    obtain ⟨v, hy, hK⟩ := yieldsIn_of_qOp h0 hst
    exact wpHeadQ_firstM h0 (Region.noSelect_spec hsel) (fun li inv' hun => tail_waitsM hs hc hn inv' _ k rfl hkn hmk hun) (fun listed' a' hL => seqB_ready hL.1) l.length listed a inv
      (fun j oj hj hne hun hno => by
        have hj' : j < ops.size := (Array.getElem?_eq_some_iff.1 hj).1
        rw [hF.getT hj'] at hun
        have hkj : k ≤ j := by simpa using hun
        exact freeB_spec n 0 ops.toList hfr k o j oj hkn (by omega) (by simpa using h0) (by simpa using hj) (fun e hm hb => by have := hno e hm hb; omega)) hr' hy
      (wpHeadQ_lex2M hsel hs hc hn he hfr hg l (k + 1) _ _ (by omega) (fun j hj => by have := hl (j + 1) (by simp; omega); simpa [Nat.add_assoc, Nat.add_comm 1 j] using this) (by simp only [List.length_cons] at hk; omega) (inv.set hr' hkn) (hF.next (by omega)) hK)

/-- The first operation first; then one walk of the text's order serves every order. -/
theorem wp_region_copy_quiet_tail {id : Nat} {Q : Exit → Act → World → Prop} {a : Act} {w : World} {o0 : Oper} {l : List Oper} {v0 : Value} (n : Nat) (hm : P.follows .mixedOrders = true)
    (hsel : Region.noSelect (o0 :: l).toArray = true) (h1n : 1 ≤ n) (hn' : n < (o0 :: l).length) (hs : sinkM .any (o0 :: l).toArray n 1 = true) (hc : Region.chainB .any (o0 :: l).toArray n = true)
    (he : edgesB .any 0 (o0 :: l) = true) (hfr : freeB .any (o0 :: l).toArray n 0 (o0 :: l) = true)
    (hf0 : Region.free .any (o0 :: l).toArray (Array.replicate (o0 :: l).toArray.size false) 0 = true)
    (hy : Yields P (o0 :: l).toArray o0 v0 a) (hQ : ∀ c a w, Q (.panic c) (a.put o0.dst v0) w → Q (.panic c) a w)
    (hC : C { w with drawn := w.drawn + 1 })
    (h : wpQuiet P (o0 :: l).toArray C (fun a' => ∀ w', C w' → wpList P (o0 :: l).toArray Q ((o0 :: l).drop n) a' w') (l.take (n - 1)) (a.put o0.dst v0)) : (Code.region id (o0 :: l).toArray true).wp P Q a w := by
  generalize hops : (o0 :: l).toArray = ops at *
  have hsz : ops.size = l.length + 1 := by rw [← hops]; simp
  have hL : ops.toList = o0 :: l := by rw [← hops]
  have hn : n < ops.size := by simpa [hsz] using hn'
  have h00 : ops[0]? = some o0 := by rw [← hops]; simp
  have inv0 : HeadInv .any ops n (Array.replicate ops.size false) :=
    ⟨by simp, fun j oj _ hl => (by rw [getD_replicate_false] at hl; cases hl), fun t _ ht => getD_in (by simpa using ht) (getD_replicate_false _ _)⟩
  have hr0 : 0 ∈ Region.ready .any ops (Array.replicate ops.size false) := first_ready (by rw [hL]; exact he) (First.zero _) (by omega)
  have hlen : (l.take (n - 1)).length = n - 1 := by simp at hn' ⊢; omega
  have H := wpHeadQ_lex2M (md := .any) (g := ops.size - n) hsel hs hc hn (by rw [hL]; exact he) (by rw [hL]; exact hfr) (by omega) (l.take (n - 1)) 1 _ (a.put o0.dst v0) (Nat.le_refl _) (fun j hj => by
    rw [hlen] at hj
    rw [← hops, Nat.add_comm]
    simp [List.getElem?_take_of_lt hj]) (by rw [hlen]; omega) (inv0.set hr0 (by omega)) ((First.zero ops.size).next (by omega)) h
  refine wp_region_any hm ?_
  rw [show ops.size = ((n - 1) + (ops.size - n)) + 1 by omega]
  rw [← show ops.size = ((n - 1) + (ops.size - n)) + 1 by omega]
  have hdl : ((o0 :: l).drop n).length = ops.size - n := by simp [hsz]
  have K := wpAny_of_headQ (Q' := Q) (g := ops.size - n) (fun listed a' w' hw' hLL => by
    have := wpAny_of_seq (md := .any) (Q' := Q) ((o0 :: l).drop n) n listed a' w' (fun j => by rw [List.getElem?_drop, ← hops]; simp) (by rw [hdl]; exact hLL.1) (hLL.2 w' hw')
    rwa [hdl] at this) _ _ _ _ hC H
  rw [hlen] at K
  have := wpAny_take (md := .any) (fuel := (n - 1) + (ops.size - n)) h00 hsel hf0 (by simpa using hr0) hQ hy K
  rwa [show (n - 1) + (ops.size - n) + 1 = ops.size by omega] at this
end
end Go.Proofs.Ytjobicffdcnnlaa
