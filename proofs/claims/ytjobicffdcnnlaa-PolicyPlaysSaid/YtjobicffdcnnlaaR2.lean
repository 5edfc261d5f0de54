import Derived.Test.YtjobicffdcnnlaaR1
namespace Go.Proofs.Ytjobicffdcnnlaa
open Go.RowKit

/-- A quiet call out of a contract that leaves the world alone. -/
theorem q_same {P : Program} {f : FuncId} {args : Array Value} {w : World} {n : Nat} {v : Value}
    (h : Calls P f args (w.drewN n) fun e w' => e = .returned v ∧ w.drewN n = w') : Calls P f args (w.drewN n) fun e w'' => e = .returned v ∧ ∃ m, w'' = w.drewN m :=
  h.mono fun _ _ ⟨he, hm⟩ => ⟨he, n, hm.symm⟩

theorem q_add {P : Program} {f : FuncId} {args : Array Value} {w : World} {a n : Nat} {v : Value}
    (h : Calls P f args (w.drewN (a + n)) fun e w' => e = .returned v ∧ w.drewN (a + n) = w') :
    Calls P f args (w.drewN (a + n)) fun e w'' => e = .returned v ∧ ∃ m, w'' = w.drewN (a + m) :=
  h.mono fun _ _ ⟨he, hm⟩ => ⟨he, n, hm.symm⟩

/-- The world is the old one, some orders having been drawn. -/
structure Drawn (w w' : World) : Prop where mk :: (out : ∃ n, w' = w.drewN n)
theorem Drawn.refl (w : World) : Drawn w w := ⟨⟨0, rfl⟩⟩
theorem Drawn.step {w w' : World} (h : Drawn w w') (n : Nat) : Drawn w (w'.drewN n) := by
  obtain ⟨m, rfl⟩ := h
  exact ⟨⟨m + n, World.drewN_drewN ..⟩⟩
theorem Drawn.below {w w' : World} (h : Drawn w w') : Below w.heap.size w w' := by
  obtain ⟨m, rfl⟩ := h
  exact ⟨rfl, rfl, rfl, Nat.le_refl _, fun _ _ => rfl⟩
theorem RI.drawn {w w' : World} {A : Option Addr} {n : Nat} {xs : List Int} (h : RI w A n xs) (hd : Drawn w w') : RI w' A n xs := by
  obtain ⟨m, rfl⟩ := hd
  exact h

set_option maxHeartbeats 400000 in
theorem r_most_any (n tol : Int) (A1 A2 : Option Addr) (c1 c2 n1 n2 : Nat) (vs ts : List Int) (w : World) (h1 : RI w A1 n1 vs) (h2 : RI w A2 n2 ts) :
    Calls Try.prog 31 #[.int .i64 n, .slice A1 n1 c1, .slice A2 n2 c2, .int .i64 tol] w fun e w' => e = .returned (.tuple #[.int .i64 ((mostV n tol vs ts).getD 0), .bool (mostV n tol vs ts).isSome]) ∧ Drawn w w' := by
  have hl1 := h1.1
  have hl2 := h2.1
  have hb1 := h1.2.1
  have hb2 := h2.2.1
  by_cases hbad : n1 ≠ n2 ∨ n1 = 0 ∨ n < 0 ∨ 10000 < n
  · have hi : mostV n tol vs ts = none := by unfold mostV; rw [if_pos (by omega)]
    rw [hi]; clear hi
    by_cases g1 : n1 = 0
    · subst g1
      go_enter Try.func31, Try.ntmps31
      go_wp2
      go_ret2
      exact ⟨rfl, Drawn.refl _⟩
    · have g4 : ((n1 : Int) == 0) = false := by simp; omega
      by_cases g2 : n1 = n2
      · subst g2
        by_cases g3 : n < 0
        all_goals
          go_enter Try.func31, Try.ntmps31
          go_wp2
          go_ret2
          exact ⟨rfl, Drawn.refl _⟩
      · have g5 : ((n1 : Int) != (n2 : Int)) = true := by simp; omega
        go_enter Try.func31, Try.ntmps31
        go_wp2
        go_ret2
        exact ⟨rfl, Drawn.refl _⟩
  · obtain rfl : n1 = n2 := by omega
    have g1 : ((n1 : Int) == 0) = false := by simp; omega
    have g2 : 0 ≤ n := by omega
    have g3 : n ≤ 10000 := by omega
    obtain ⟨o, ho⟩ : ∃ o, mostL n tol (vs.zip ts) 0 = o := ⟨_, rfl⟩
    have hi : mostV n tol vs ts = o := by unfold mostV; rw [if_neg (by omega), ho]
    rw [hi]; clear hi hbad
    have HO := Lib.hid ho; clear ho
    have HL1 := Lib.hid hl1; clear hl1
    have HL2 := Lib.hid hl2; clear hl2
    have H1 := Lib.hid h1; clear h1
    have H2 := Lib.hid h2; clear h2
    go_enter Try.func31, Try.ntmps31
    go_wp2
    go_loopw [10, 11] (fun t i wr => ∃ (k : Nat) (acc : Int), k ≤ n1 ∧ 0 ≤ acc ∧ acc ≤ 1000000 ∧ i = .int .i64 k ∧ t = .int .i64 acc ∧ Hid (mostL n tol ((vs.zip ts).drop k) acc = o) ∧ Drawn w wr) (fun _ i _ => n1 - (intOf i).toNat)
    case atStart => exact ⟨0, 0, Nat.zero_le _, by omega, by omega, rfl, rfl, HO, Drawn.refl _⟩
    case round =>
      obtain ⟨k, acc, hk, ha1, ha2, rfl, rfl, hm, hdr⟩ := hrel
      have H1r := Lib.hid (H1.out.drawn hdr)
      have H2r := Lib.hid (H2.out.drawn hdr)
      by_cases hlt : k < n1
      · obtain ⟨a1, rfl, hc1⟩ := H1r.out.at_ hlt
        obtain ⟨a2, rfl, hc2⟩ := H2r.out.at_ hlt
        have hz := zip_drop_cons HL1.out HL2.out hlt
        have hm' := hm.out
        rw [hz] at hm'
        clear hz hm
        generalize vs.getD k 0 = v at *
        generalize ts.getD k 0 = t at *
        have hmay := r_may_any v t tol
        have hw := r_want_any n v t tol
        have hr := wantV_range n v t tol
        generalize hwv : wantV n v t tol = x at *
        cases hmb : mayB v t tol with
        | false =>
          rw [hmb] at hmay
          have hn : o = none := by rw [← hm']; simp [mostL, hmb]
          clear hm' hwv hmb
          subst hn
          go_wp2
          go_quiet ((go_at_call 81; exact q_same (hmay _)))
          go_wp2
          go_ret2
          exact ⟨rfl, hdr.step _⟩
        | true =>
          rw [hmb] at hmay
          have hn : Hid (mostL n tol ((vs.zip ts).drop (k + 1)) (max acc x) = o) := by rw [← hm']; simp [mostL, hmb, hwv, Hid]
          clear hm' hwv hmb
          go_wp2
          go_quiet ((go_at_call 81; exact q_same (hmay _)))
          go_wp2
          go_quiet ((go_at_call 35; exact q_add (hw _)))
          go_wp2
          go_roundw
          case rel => exact ⟨k + 1, max acc x, by omega, by omega, by omega, by go_num, by congr 1; split <;> omega, hn, hdr.step _⟩
          case measure => simp [intOf]; omega
      · have hd : o = some acc := by rw [← hm.out, List.drop_eq_nil_of_le (by have := HL1.out; simp; omega)]; rfl
        clear hm
        subst hd
        go_wp2
        go_ret2
        exact ⟨rfl, hdr⟩
end Go.Proofs.Ytjobicffdcnnlaa
