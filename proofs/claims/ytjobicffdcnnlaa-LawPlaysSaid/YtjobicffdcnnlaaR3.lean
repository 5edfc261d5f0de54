import Derived.Test.YtjobicffdcnnlaaProg
import Derived.WalkKit
import Derived.WalkLawsBesides
import Derived.WalkSpells
import Derived.Outline
import Derived.KernelRfl
import Derived.Deep.QuietTactic
import Derived.BigQuiet
import Derived.Lib.Hide
import Derived.Test.YtjobicffdcnnlaaA1
namespace Go.Proofs.Ytjobicffdcnnlaa
open Go.RowKit

theorem ret_bool {a b : Bool} (h : a = b) : Ending.returned (.bool a) = Ending.returned (.bool b) := by rw [h]
theorem ret_int {k : IntKind} {a b : Int} (h : a = b) : Ending.returned (.int k a) = Ending.returned (.int k b) := by rw [h]

/-- A slice of numbers that is read: nil, empty and others alike. -/
def RI (w : World) (A : Option Addr) (n : Nat) (xs : List Int) : Prop :=
  xs.length = n ∧ n ≤ 9223372036854775807 ∧ (0 < n → ∃ ad, A = some ad ∧ ∀ j, j < n → w.cell? (ad.add j) = some (.int .i64 (xs.getD j 0)))
theorem RI.at_ {w : World} {A : Option Addr} {n : Nat} {xs : List Int} (h : RI w A n xs) {k : Nat} (hk : k < n) : ∃ ad, A = some ad ∧ w.cell? (ad.add k) = some (.int .i64 (xs.getD k 0)) := by
  obtain ⟨ad, e, hc⟩ := h.2.2 (by omega)
  exact ⟨ad, e, hc _ hk⟩

theorem RI.nil_ (w : World) : RI w none 0 [] := ⟨rfl, by omega, fun h => absurd h (by omega)⟩
theorem RI.of_row {w : World} {x : Addr} {l c : Nat} {zs : List Int} (hl : l ≤ c) (hm : c ≤ maxLen) (hz : zs.length = c) (hc : ∀ i, i < zs.length → w.cell? (x.add i) = some (.int .i64 (zs.getD i 0))) : RI w (some x) l (zs.take l) := by
  unfold maxLen at hm
  refine ⟨by simp; omega, by omega, fun _ => ⟨x, rfl, fun j hj => ?_⟩⟩
  rw [hc j (by omega)]
  simp [List.getD_eq_getElem?_getD, hj]
/-- A slice of bools that is read. -/
def RB (w : World) (A : Option Addr) (n : Nat) (xs : List Bool) : Prop :=
  xs.length = n ∧ n ≤ 9223372036854775807 ∧ (0 < n → ∃ ad, A = some ad ∧ ∀ j, j < n → w.cell? (ad.add j) = some (.bool (xs.getD j false)))
theorem RB.at_ {w : World} {A : Option Addr} {n : Nat} {xs : List Bool} (h : RB w A n xs) {k : Nat} (hk : k < n) : ∃ ad, A = some ad ∧ w.cell? (ad.add k) = some (.bool (xs.getD k false)) := by
  obtain ⟨ad, e, hc⟩ := h.2.2 (by omega)
  exact ⟨ad, e, hc _ hk⟩
theorem RB.nil_ (w : World) : RB w none 0 [] := ⟨rfl, by omega, fun h => absurd h (by omega)⟩
theorem RB.of_fn {w : World} {x : Addr} {l c : Nat} {B : Nat → Bool} (hl : l ≤ c) (hm : c ≤ maxLen) (hc : ∀ i, i < c → w.cell? (x.add i) = some (.bool (B i))) : RB w (some x) l ((List.range l).map B) := by
  unfold maxLen at hm
  refine ⟨by simp, by omega, fun _ => ⟨x, rfl, fun j hj => ?_⟩⟩
  rw [hc j (by omega)]
  simp [List.getD_eq_getElem?_getD, hj]

theorem zip_drop_cons {vs ts : List Int} {n : Nat} (hv : vs.length = n) (ht : ts.length = n) {k : Nat} (hk : k < n) : (vs.zip ts).drop k = (vs.getD k 0, ts.getD k 0) :: (vs.zip ts).drop (k + 1) := by
  rw [List.drop_eq_getElem_cons (by simp; omega)]
  simp [List.getD_eq_getElem?_getD, List.getElem?_eq_getElem (show k < vs.length by omega), List.getElem?_eq_getElem (show k < ts.length by omega)]

theorem may_any (v t tol : Int) (w : World) : Calls Try.prog 80 #[.int .i64 v, .int .i64 t, .int .i64 tol] w fun e w' => e = .returned (.bool (mayB v t tol)) ∧ w = w' := by
  go_enter Try.func80, Try.ntmps80
  go_wp2
  all_goals
    go_ret
    refine ⟨ret_bool ?_, rfl⟩
    unfold mayB
    simp [*] <;> omega

theorem in_any (v t tol : Int) (w : World) : Calls Try.prog 32 #[.int .i64 v, .int .i64 t, .int .i64 tol] w fun e w' => e = .returned (.bool (inB v t tol)) ∧ w = w' := by
  cases hm : mayB v t tol with
  | false =>
    have hf := may_any v t tol
    rw [hm] at hf
    have hi : inB v t tol = false := by unfold inB; rw [hm]; rfl
    rw [hi]; clear hi hm
    go_enter Try.func32, Try.ntmps32
    go_wp2_with (go_at_call 80; refine (hf _).mono ?_; rintro e w' ⟨rfl, rfl⟩)
    go_ret
    exact ⟨rfl, rfl⟩
  | true =>
    have hf := may_any v t tol
    rw [hm] at hf
    obtain ⟨h1, h2, h3, h4, h5, h6⟩ := mayB_true hm
    have hi : inB v t tol = (decide (t * (1000 - tol) ≤ v * 1000) && decide (v * 1000 ≤ t * (1000 + tol))) := by unfold inB; rw [hm]; rfl
    rw [hi]; clear hi hm
    have e1 : 0 ≤ t * (1000 - tol) := Int.mul_nonneg (by omega) (by omega)
    have e2 : t * (1000 - tol) ≤ 1099511627776 * 1000 := Int.mul_le_mul h4 (by omega) (by omega) (by omega)
    have e3 : 0 ≤ t * (1000 + tol) := Int.mul_nonneg (by omega) (by omega)
    have e4 : t * (1000 + tol) ≤ 1099511627776 * 2000 := Int.mul_le_mul h4 (by omega) (by omega) (by omega)
    by_cases hc : t * (1000 - tol) ≤ v * 1000
    all_goals
      go_enter Try.func32, Try.ntmps32
      go_wp2_with (go_at_call 80; refine (hf _).mono ?_; rintro e w' ⟨rfl, rfl⟩)
      go_ret
      refine ⟨ret_bool ?_, rfl⟩
      first | rw [decide_eq_true hc]; rfl | rw [decide_eq_false (by omega)]; rfl

theorem want_any (n v t tol : Int) (w : World) : Calls Try.prog 34 #[.int .i64 n, .int .i64 v, .int .i64 t, .int .i64 tol] w fun e w' => e = .returned (.int .i64 (wantV n v t tol)) ∧ w = w' := by
  by_cases h0 : n < 0
  · have hi : wantV n v t tol = 0 := by unfold wantV; rw [if_pos (Or.inl h0)]
    rw [hi]; clear hi
    go_enter Try.func34, Try.ntmps34
    go_wp2
    go_ret
    exact ⟨rfl, rfl⟩
  by_cases h1 : 10000 < n
  · have hi : wantV n v t tol = 0 := by unfold wantV; rw [if_pos (Or.inr (Or.inl h1))]
    rw [hi]; clear hi
    go_enter Try.func34, Try.ntmps34
    go_wp2
    go_ret
    exact ⟨rfl, rfl⟩
  have hf := may_any v t tol
  have hg := in_any v t tol
  cases hm : mayB v t tol with
  | false =>
    rw [hm] at hf
    have hi : wantV n v t tol = 0 := by unfold wantV; rw [if_pos (Or.inr (Or.inr hm))]
    rw [hi]; clear hi hm hg
    go_enter Try.func34, Try.ntmps34
    go_wp2_with (go_at_call 80; refine (hf _).mono ?_; rintro e w' ⟨rfl, rfl⟩)
    go_ret
    exact ⟨rfl, rfl⟩
  | true =>
    rw [hm] at hf
    obtain ⟨a1, a2, a3, a4, a5, a6⟩ := mayB_true hm
    cases hn : inB v t tol with
    | true =>
      rw [hn] at hg
      have hi : wantV n v t tol = n := by unfold wantV; rw [if_neg (by rw [hm]; simp; omega), if_pos hn]
      rw [hi]; clear hi hm hn
      go_enter Try.func34, Try.ntmps34
      go_wp2_with (first | (go_at_call 80; refine (hf _).mono ?_; rintro e w' ⟨rfl, rfl⟩) | (go_at_call 32; refine (hg _).mono ?_; rintro e w' ⟨rfl, rfl⟩))
      go_ret
      exact ⟨rfl, rfl⟩
    | false =>
      rw [hn] at hg
      have hi : wantV n v t tol = min ((n * v + t - 1) / t) 1000000 := by unfold wantV; rw [if_neg (by rw [hm]; simp; omega), if_neg (by rw [hn]; simp)]
      rw [hi]; clear hi hm hn
      have e1 : 0 ≤ n * v := Int.mul_nonneg (by omega) (by omega)
      have e2 : n * v ≤ 10000 * 1099511627776 := Int.mul_le_mul (by omega) (by omega) (by omega) (by omega)
      have e3 : 0 ≤ (n * v + t - 1) / t := Int.ediv_nonneg (by omega) (by omega)
      go_enter Try.func34, Try.ntmps34
      go_wp2_with (first | (go_at_call 80; refine (hf _).mono ?_; rintro e w' ⟨rfl, rfl⟩) | (go_at_call 32; refine (hg _).mono ?_; rintro e w' ⟨rfl, rfl⟩))
      all_goals
        go_ret
        refine ⟨ret_int ?_, rfl⟩
        omega

theorem r_may_any (v t tol : Int) (w : World) : Calls Try.prog 81 #[.int .i64 v, .int .i64 t, .int .i64 tol] w fun e w' => e = .returned (.bool (mayB v t tol)) ∧ w = w' := by
  go_enter Try.func81, Try.ntmps81
  go_wp2
  all_goals
    go_ret
    refine ⟨ret_bool ?_, rfl⟩
    unfold mayB
    simp [*] <;> omega

theorem r_in_any (v t tol : Int) (w : World) : Calls Try.prog 33 #[.int .i64 v, .int .i64 t, .int .i64 tol] w fun e w' => e = .returned (.bool (inB v t tol)) ∧ w = w' := by
  cases hm : mayB v t tol with
  | false =>
    have hf := r_may_any v t tol
    rw [hm] at hf
    have hi : inB v t tol = false := by unfold inB; rw [hm]; rfl
    rw [hi]; clear hi hm
    go_enter Try.func33, Try.ntmps33
    go_wp2_with (go_at_call 81; refine (hf _).mono ?_; rintro e w' ⟨rfl, rfl⟩)
    go_ret
    exact ⟨rfl, rfl⟩
  | true =>
    have hf := r_may_any v t tol
    rw [hm] at hf
    obtain ⟨h1, h2, h3, h4, h5, h6⟩ := mayB_true hm
    have hi : inB v t tol = (decide (t * (1000 - tol) ≤ v * 1000) && decide (v * 1000 ≤ t * (1000 + tol))) := by unfold inB; rw [hm]; rfl
    rw [hi]; clear hi hm
    have e1 : 0 ≤ t * (1000 - tol) := Int.mul_nonneg (by omega) (by omega)
    have e2 : t * (1000 - tol) ≤ 1099511627776 * 1000 := Int.mul_le_mul h4 (by omega) (by omega) (by omega)
    have e3 : 0 ≤ t * (1000 + tol) := Int.mul_nonneg (by omega) (by omega)
    have e4 : t * (1000 + tol) ≤ 1099511627776 * 2000 := Int.mul_le_mul h4 (by omega) (by omega) (by omega)
    by_cases hc : t * (1000 - tol) ≤ v * 1000
    all_goals
      go_enter Try.func33, Try.ntmps33
      go_wp2_with (go_at_call 81; refine (hf _).mono ?_; rintro e w' ⟨rfl, rfl⟩)
      go_ret
      refine ⟨ret_bool ?_, rfl⟩
      first | rw [decide_eq_true hc]; rfl | rw [decide_eq_false (by omega)]; rfl

theorem r_want_any (n v t tol : Int) (w : World) : Calls Try.prog 35 #[.int .i64 n, .int .i64 v, .int .i64 t, .int .i64 tol] w fun e w' => e = .returned (.int .i64 (wantV n v t tol)) ∧ w = w' := by
  by_cases h0 : n < 0
  · have hi : wantV n v t tol = 0 := by unfold wantV; rw [if_pos (Or.inl h0)]
    rw [hi]; clear hi
    go_enter Try.func35, Try.ntmps35
    go_wp2
    go_ret
    exact ⟨rfl, rfl⟩
  by_cases h1 : 10000 < n
  · have hi : wantV n v t tol = 0 := by unfold wantV; rw [if_pos (Or.inr (Or.inl h1))]
    rw [hi]; clear hi
    go_enter Try.func35, Try.ntmps35
    go_wp2
    go_ret
    exact ⟨rfl, rfl⟩
  have hf := r_may_any v t tol
  have hg := r_in_any v t tol
  cases hm : mayB v t tol with
  | false =>
    rw [hm] at hf
    have hi : wantV n v t tol = 0 := by unfold wantV; rw [if_pos (Or.inr (Or.inr hm))]
    rw [hi]; clear hi hm hg
    go_enter Try.func35, Try.ntmps35
    go_wp2_with (go_at_call 81; refine (hf _).mono ?_; rintro e w' ⟨rfl, rfl⟩)
    go_ret
    exact ⟨rfl, rfl⟩
  | true =>
    rw [hm] at hf
    obtain ⟨a1, a2, a3, a4, a5, a6⟩ := mayB_true hm
    cases hn : inB v t tol with
    | true =>
      rw [hn] at hg
      have hi : wantV n v t tol = n := by unfold wantV; rw [if_neg (by rw [hm]; simp; omega), if_pos hn]
      rw [hi]; clear hi hm hn
      go_enter Try.func35, Try.ntmps35
      go_wp2_with (first | (go_at_call 81; refine (hf _).mono ?_; rintro e w' ⟨rfl, rfl⟩) | (go_at_call 33; refine (hg _).mono ?_; rintro e w' ⟨rfl, rfl⟩))
      go_ret
      exact ⟨rfl, rfl⟩
    | false =>
      rw [hn] at hg
      have hi : wantV n v t tol = min ((n * v + t - 1) / t) 1000000 := by unfold wantV; rw [if_neg (by rw [hm]; simp; omega), if_neg (by rw [hn]; simp)]
      rw [hi]; clear hi hm hn
      have e1 : 0 ≤ n * v := Int.mul_nonneg (by omega) (by omega)
      have e2 : n * v ≤ 10000 * 1099511627776 := Int.mul_le_mul (by omega) (by omega) (by omega) (by omega)
      have e3 : 0 ≤ (n * v + t - 1) / t := Int.ediv_nonneg (by omega) (by omega)
      go_enter Try.func35, Try.ntmps35
      go_wp2_with (first | (go_at_call 81; refine (hf _).mono ?_; rintro e w' ⟨rfl, rfl⟩) | (go_at_call 33; refine (hg _).mono ?_; rintro e w' ⟨rfl, rfl⟩))
      all_goals
        go_ret
        refine ⟨ret_int ?_, rfl⟩
        omega

set_option maxHeartbeats 400000 in
theorem most_any (n tol : Int) (A1 A2 : Option Addr) (c1 c2 n1 n2 : Nat) (vs ts : List Int) (w : World) (h1 : RI w A1 n1 vs) (h2 : RI w A2 n2 ts) :
    Calls Try.prog 30 #[.int .i64 n, .slice A1 n1 c1, .slice A2 n2 c2, .int .i64 tol] w fun e w' => e = .returned (.tuple #[.int .i64 ((mostV n tol vs ts).getD 0), .bool (mostV n tol vs ts).isSome]) ∧ w = w' := by
  have hl1 := h1.1
  have hl2 := h2.1
  have hb1 := h1.2.1
  have hb2 := h2.2.1
  by_cases hbad : n1 ≠ n2 ∨ n1 = 0 ∨ n < 0 ∨ 10000 < n
  · have hi : mostV n tol vs ts = none := by unfold mostV; rw [if_pos (by omega)]
    rw [hi]; clear hi
    by_cases g1 : n1 = n2
    · subst g1
      by_cases g2 : n1 = 0
      · subst g2
        go_enter Try.func30, Try.ntmps30
        go_wp2
        go_ret2
        exact ⟨rfl, rfl⟩
      · by_cases g3 : n < 0
        all_goals
          have g4 : ((n1 : Int) == 0) = false := by simp; omega
          go_enter Try.func30, Try.ntmps30
          go_wp2
          go_ret2
          exact ⟨rfl, rfl⟩
    · have g4 : ((n1 : Int) != (n2 : Int)) = true := by simp; omega
      go_enter Try.func30, Try.ntmps30
      go_wp2
      go_ret2
      exact ⟨rfl, rfl⟩
  · obtain rfl : n1 = n2 := by omega
    have g1 : ((n1 : Int) == 0) = false := by simp; omega
    have g2 : 0 ≤ n := by omega
    have g3 : n ≤ 10000 := by omega
    obtain ⟨o, ho⟩ : ∃ o, mostL n tol (vs.zip ts) 0 = o := ⟨_, rfl⟩
    have hi : mostV n tol vs ts = o := by unfold mostV; rw [if_neg (by omega), ho]
    rw [hi]; clear hi hbad
    have HO := Lib.hid ho; clear ho
    have HL1 := Lib.hid hl1; clear hl1
    have HL2 := Lib.hid hl2; clear hl2
    have H1 := Lib.hid h1; clear h1
    have H2 := Lib.hid h2; clear h2
    go_enter Try.func30, Try.ntmps30
    go_wp2
    go_loop [10, 33] (fun t i => ∃ (k : Nat) (acc : Int), k ≤ n1 ∧ 0 ≤ acc ∧ acc ≤ 1000000 ∧ i = .int .i64 k ∧ t = .int .i64 acc ∧ Hid (mostL n tol ((vs.zip ts).drop k) acc = o)) (fun _ i => n1 - (intOf i).toNat)
    case atStart => exact ⟨0, 0, Nat.zero_le _, by omega, by omega, rfl, rfl, HO⟩
    case round =>
      obtain ⟨k, acc, hk, ha1, ha2, rfl, rfl, hm⟩ := hrel
      by_cases hlt : k < n1
      · obtain ⟨a1, rfl, hc1⟩ := H1.out.at_ hlt
        obtain ⟨a2, rfl, hc2⟩ := H2.out.at_ hlt
        have hz := zip_drop_cons HL1.out HL2.out hlt
        have hm' := hm.out
        rw [hz] at hm'
        clear hz hm
        generalize vs.getD k 0 = v at *
        generalize ts.getD k 0 = t at *
        have hmay := may_any v t tol
        have hw := want_any n v t tol
        have hr := wantV_range n v t tol
        generalize hwv : wantV n v t tol = x at *
        cases hmb : mayB v t tol with
        | false =>
          rw [hmb] at hmay
          have hn : o = none := by rw [← hm']; simp [mostL, hmb]
          clear hm' hwv hmb
          subst hn
          go_wp2_with (first | (go_at_call 80; refine (hmay _).mono ?_; rintro e w' ⟨rfl, rfl⟩) | (go_at_call 34; refine (hw _).mono ?_; rintro e w' ⟨rfl, rfl⟩))
          go_ret2
          exact ⟨rfl, rfl⟩
        | true =>
          rw [hmb] at hmay
          have hn : Hid (mostL n tol ((vs.zip ts).drop (k + 1)) (max acc x) = o) := by rw [← hm']; simp [mostL, hmb, hwv, Hid]
          clear hm' hwv hmb
          go_wp2_with (first | (go_at_call 80; refine (hmay _).mono ?_; rintro e w' ⟨rfl, rfl⟩) | (go_at_call 34; refine (hw _).mono ?_; rintro e w' ⟨rfl, rfl⟩))
          go_round
          case rel => exact ⟨k + 1, max acc x, by omega, by omega, by omega, by go_num, by congr 1; split <;> omega, hn⟩
          case measure => simp [intOf]; omega
      · have hd : o = some acc := by rw [← hm.out, List.drop_eq_nil_of_le (by have := HL1.out; simp; omega)]; rfl
        clear hm
        subst hd
        go_wp2
        go_ret2
        exact ⟨rfl, rfl⟩
end Go.Proofs.Ytjobicffdcnnlaa
namespace Go.Proofs.Ytjobicffdcnnlaa
open Go.RowKit

/-- A quiet call out of a contract that leaves the world alone. -/
theorem q_same {P : Program} {f : FuncId} {args : Array Value} {w : World} {n : Nat} {v : Value}
    (h : Calls P f args (w.drewN n) fun e w' => e = .returned v ∧ w.drewN n = w') : Calls P f args (w.drewN n) fun e w'' => e = .returned v ∧ ∃ m, w'' = w.drewN m :=
  h.mono fun _ _ ⟨he, hm⟩ => ⟨he, n, hm.symm⟩

theorem q_add {P : Program} {f : FuncId} {args : Array Value} {w : World} {a n : Nat} {v : Value}
    (h : Calls P f args (w.drewN (a + n)) fun e w' => e = .returned v ∧ w.drewN (a + n) = w') :
    Calls P f args (w.drewN (a + n)) fun e w'' => e = .returned v ∧ ∃ m, w'' = w.drewN (a + m) :=
  h.mono fun _ _ ⟨he, hm⟩ => ⟨he, n, hm.symm⟩

/-- The world is the old one, some orders having been drawn. -/
structure Drawn (w w' : World) : Prop where mk :: (out : ∃ n, w' = w.drewN n)
theorem Drawn.refl (w : World) : Drawn w w := ⟨⟨0, rfl⟩⟩
theorem Drawn.step {w w' : World} (h : Drawn w w') (n : Nat) : Drawn w (w'.drewN n) := by
  obtain ⟨m, rfl⟩ := h
  exact ⟨⟨m + n, World.drewN_drewN ..⟩⟩
theorem Drawn.below {w w' : World} (h : Drawn w w') : Below w.heap.size w w' := by
  obtain ⟨m, rfl⟩ := h
  exact ⟨rfl, rfl, rfl, Nat.le_refl _, fun _ _ => rfl⟩
theorem RI.drawn {w w' : World} {A : Option Addr} {n : Nat} {xs : List Int} (h : RI w A n xs) (hd : Drawn w w') : RI w' A n xs := by
  obtain ⟨m, rfl⟩ := hd
  exact h

set_option maxHeartbeats 400000 in
theorem r_most_any (n tol : Int) (A1 A2 : Option Addr) (c1 c2 n1 n2 : Nat) (vs ts : List Int) (w : World) (h1 : RI w A1 n1 vs) (h2 : RI w A2 n2 ts) :
    Calls Try.prog 31 #[.int .i64 n, .slice A1 n1 c1, .slice A2 n2 c2, .int .i64 tol] w fun e w' => e = .returned (.tuple #[.int .i64 ((mostV n tol vs ts).getD 0), .bool (mostV n tol vs ts).isSome]) ∧ Drawn w w' := by
  have hl1 := h1.1
  have hl2 := h2.1
  have hb1 := h1.2.1
  have hb2 := h2.2.1
  by_cases hbad : n1 ≠ n2 ∨ n1 = 0 ∨ n < 0 ∨ 10000 < n
  · have hi : mostV n tol vs ts = none := by unfold mostV; rw [if_pos (by omega)]
    rw [hi]; clear hi
    by_cases g1 : n1 = 0
    · subst g1
      go_enter Try.func31, Try.ntmps31
      go_wp2
      go_ret2
      exact ⟨rfl, Drawn.refl _⟩
    · have g4 : ((n1 : Int) == 0) = false := by simp; omega
      by_cases g2 : n1 = n2
      · subst g2
        by_cases g3 : n < 0
        all_goals
          go_enter Try.func31, Try.ntmps31
          go_wp2
          go_ret2
          exact ⟨rfl, Drawn.refl _⟩
      · have g5 : ((n1 : Int) != (n2 : Int)) = true := by simp; omega
        go_enter Try.func31, Try.ntmps31
        go_wp2
        go_ret2
        exact ⟨rfl, Drawn.refl _⟩
  · obtain rfl : n1 = n2 := by omega
    have g1 : ((n1 : Int) == 0) = false := by simp; omega
    have g2 : 0 ≤ n := by omega
    have g3 : n ≤ 10000 := by omega
    obtain ⟨o, ho⟩ : ∃ o, mostL n tol (vs.zip ts) 0 = o := ⟨_, rfl⟩
    have hi : mostV n tol vs ts = o := by unfold mostV; rw [if_neg (by omega), ho]
    rw [hi]; clear hi hbad
    have HO := Lib.hid ho; clear ho
    have HL1 := Lib.hid hl1; clear hl1
    have HL2 := Lib.hid hl2; clear hl2
    have H1 := Lib.hid h1; clear h1
    have H2 := Lib.hid h2; clear h2
    go_enter Try.func31, Try.ntmps31
    go_wp2
    go_loopw [10, 11] (fun t i wr => ∃ (k : Nat) (acc : Int), k ≤ n1 ∧ 0 ≤ acc ∧ acc ≤ 1000000 ∧ i = .int .i64 k ∧ t = .int .i64 acc ∧ Hid (mostL n tol ((vs.zip ts).drop k) acc = o) ∧ Drawn w wr) (fun _ i _ => n1 - (intOf i).toNat)
    case atStart => exact ⟨0, 0, Nat.zero_le _, by omega, by omega, rfl, rfl, HO, Drawn.refl _⟩
    case round =>
      obtain ⟨k, acc, hk, ha1, ha2, rfl, rfl, hm, hdr⟩ := hrel
      have H1r := Lib.hid (H1.out.drawn hdr)
      have H2r := Lib.hid (H2.out.drawn hdr)
      by_cases hlt : k < n1
      · obtain ⟨a1, rfl, hc1⟩ := H1r.out.at_ hlt
        obtain ⟨a2, rfl, hc2⟩ := H2r.out.at_ hlt
        have hz := zip_drop_cons HL1.out HL2.out hlt
        have hm' := hm.out
        rw [hz] at hm'
        clear hz hm
        generalize vs.getD k 0 = v at *
        generalize ts.getD k 0 = t at *
        have hmay := r_may_any v t tol
        have hw := r_want_any n v t tol
        have hr := wantV_range n v t tol
        generalize hwv : wantV n v t tol = x at *
        cases hmb : mayB v t tol with
        | false =>
          rw [hmb] at hmay
          have hn : o = none := by rw [← hm']; simp [mostL, hmb]
          clear hm' hwv hmb
          subst hn
          go_wp2
          go_quiet ((go_at_call 81; exact q_same (hmay _)))
          go_wp2
          go_ret2
          exact ⟨rfl, hdr.step _⟩
        | true =>
          rw [hmb] at hmay
          have hn : Hid (mostL n tol ((vs.zip ts).drop (k + 1)) (max acc x) = o) := by rw [← hm']; simp [mostL, hmb, hwv, Hid]
          clear hm' hwv hmb
          go_wp2
          go_quiet ((go_at_call 81; exact q_same (hmay _)))
          go_wp2
          go_quiet ((go_at_call 35; exact q_add (hw _)))
          go_wp2
          go_roundw
          case rel => exact ⟨k + 1, max acc x, by omega, by omega, by omega, by go_num, by congr 1; split <;> omega, hn, hdr.step _⟩
          case measure => simp [intOf]; omega
      · have hd : o = some acc := by rw [← hm.out, List.drop_eq_nil_of_le (by have := HL1.out; simp; omega)]; rfl
        clear hm
        subst hd
        go_wp2
        go_ret2
        exact ⟨rfl, hdr⟩
end Go.Proofs.Ytjobicffdcnnlaa
namespace Go.Proofs.Ytjobicffdcnnlaa
open Go.RowKit

theorem heap_new {w : World} {o : Obj} {b : Nat} (h : b = w.heap.size) : (w.alloc o).heap[b]? = some o := by subst h; show (w.heap.push o)[w.heap.size]? = _; simp
theorem heap_old {w : World} {o o' : Obj} {b : Nat} (h : w.heap[b]? = some o') : (w.alloc o).heap[b]? = some o' :=
  (Below.heap_alloc w o b (Array.getElem?_eq_some_iff.1 h).1).trans h
theorem size_alloc (w : World) (o : Obj) : (w.alloc o).heap.size = w.heap.size + 1 := by show (w.heap.push o).size = _; simp

theorem RI.two (w : World) (b : Nat) (t : TypeId) (x y : Int) (h : w.heap[b]? = some (.cells #[.int .i64 x, .int .i64 y] t)) : RI w (some ⟨b, 0, none⟩) 2 [x, y] :=
  ⟨rfl, by omega, fun _ => ⟨_, rfl, fun j hj => by
    match j, hj with
    | 0, _ => simp [World.cell?, Addr.add, h]
    | 1, _ => simp [World.cell?, Addr.add, h]⟩⟩

set_option maxRecDepth 100000 in
theorem told13_any (w : World) : Calls Try.prog 29 #[] w fun e w' => e = .returned (.bool true) ∧ Below w.heap.size w w' := by
  have hw := want_any
  have hi := in_any
  have k1 : wantV 4 1500 1000 100 = 6 := by decide +kernel
  have k2 : wantV 4 1100 1000 100 = 4 := by decide +kernel
  have k3 : wantV 4 1101 1000 100 = 5 := by decide +kernel
  have k4 : wantV 4 900 1000 100 = 4 := by decide +kernel
  have k5 : wantV 4 0 1000 100 = 0 := by decide +kernel
  have k6 : wantV (-1) 1500 1000 100 = 0 := by decide +kernel
  have k7 : inB 900 1000 100 = true := by decide +kernel
  have k8 : inB 899 1000 100 = false := by decide +kernel
  have k9 : inB (-1) 1 1000 = false := by decide +kernel
  go_enter Try.func29, Try.ntmps29
  go_wp2_with fail
  refine (most_any 4 100 _ _ _ _ _ _ [1500, 500] [1000, 1000] _ ?_ ?_).mono ?_
  · exact RI.two _ _ _ _ _ (heap_old (heap_new rfl))
  · exact RI.two _ _ _ _ _ (heap_new (size_alloc _ _).symm)
  rw [show mostV 4 100 [1500, 500] [1000, 1000] = some 6 from by decide +kernel]
  rintro e w' ⟨rfl, rfl⟩
  go_wp2_with fail
  refine (most_any 4 100 _ _ _ _ _ _ [] [] _ (RI.nil_ _) (RI.nil_ _)).mono ?_
  rw [show mostV 4 100 [] [] = none from by decide +kernel]
  rintro e w' ⟨rfl, rfl⟩
  go_wp2_with (first | (go_at_call 34; refine (hw _ _ _ _ _).mono ?_; rintro e w' ⟨rfl, rfl⟩) | (go_at_call 32; refine (hi _ _ _ _).mono ?_; rintro e w' ⟨rfl, rfl⟩))

  go_ret
  exact ⟨rfl, ((Below.refl _ _).alloc (Nat.le_refl _) _).alloc (by simp) _⟩
end Go.Proofs.Ytjobicffdcnnlaa
