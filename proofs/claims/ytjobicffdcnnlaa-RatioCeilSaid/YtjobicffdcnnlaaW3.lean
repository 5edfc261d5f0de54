import Derived.Test.YtjobicffdcnnlaaW2
namespace Go.Proofs.Ytjobicffdcnnlaa
open Go.RowKit

theorem ratioBand_walk (a0 a1 a2 a3 : Int) (w : World) (_w0 : (Lit.int .i64 a0).wf = true) (_w1 : (Lit.int .i64 a1).wf = true) (_w2 : (Lit.int .i64 a2).wf = true) (_w3 : (Lit.int .i64 a3).wf = true) :
    Calls Try.prog 5 #[.int .i64 a0, .int .i64 a1, .int .i64 a2, .int .i64 a3] w fun e w' => e = .returned (.bool true) ∧ Below w.heap.size w w' := by
  have u0 := u64_nonneg a0
  have u1 := u64_nonneg a1
  have u2 := u64_nonneg a2
  have u3 := u64_nonneg a3
  obtain ⟨n, hn, n0, n1⟩ := u64_mod a0 10001 (by omega)
  obtain ⟨x, hx, x0, x1⟩ := u64_mod a1 1099511627777 (by omega)
  obtain ⟨g, hg, g0, g1⟩ := u64_mod a2 1099511627776 (by omega)
  obtain ⟨l, hl, l0, l1⟩ := u64_mod a3 1001 (by omega)
  obtain ⟨b1, b2, b3⟩ := want_band (n := n) (x := x) (g := 1 + g) (l := l) n0 (by omega) x0 (by omega) (by omega) (by omega) l0 (by omega)
  have hW := want_any n x (1 + g) l
  have hI := in_any x (1 + g) l
  have hG := in_any (1 + g) (1 + g) l
  have hr := wantV_range n x (1 + g) l
  have e1 : 0 ≤ (1 + g) * (1000 - l) := Int.mul_nonneg (by omega) (by omega)
  have e2 : (1 + g) * (1000 - l) ≤ 1099511627776 * 1000 := Int.mul_le_mul (by omega) (by omega) (by omega) (by omega)
  have e3 : 0 ≤ (1 + g) * (1000 + l) := Int.mul_nonneg (by omega) (by omega)
  have e4 : (1 + g) * (1000 + l) ≤ 1099511627776 * 2000 := Int.mul_le_mul (by omega) (by omega) (by omega) (by omega)
  generalize wantV n x (1 + g) l = W at *
  cases hb : inB x (1 + g) l with
  | true =>
    obtain ⟨rfl, c2⟩ := b1 hb
    rw [hb] at hI
    rw [c2] at hG
    clear b1 b2 b3 hb c2
    go_enter Try.func5, Try.ntmps5
    go_wp2_with fail
    refine (hW _).mono ?_; rintro e w' ⟨rfl, rfl⟩
    go_wp2_with fail
    refine (hI _).mono ?_; rintro e w' ⟨rfl, rfl⟩
    go_wp2_with fail
    refine (told13_any _).mono ?_; rintro e w' ⟨rfl, hbl⟩
    go_wp2_with fail
    refine (hG _).mono ?_; rintro e w' ⟨rfl, rfl⟩
    go_wp2_with fail
    go_ret
    exact ⟨ret_bool (by first | rfl | (simp; done) | (simp; omega)), hbl⟩
  | false =>
    rw [hb] at hI
    by_cases hx' : 1 + g < x
    · obtain ⟨c1, c2⟩ := b2 hb hx'
      clear b1 b2 b3 hb
      go_enter Try.func5, Try.ntmps5
      go_wp2_with fail
      refine (hW _).mono ?_; rintro e w' ⟨rfl, rfl⟩
      go_wp2_with fail
      refine (hI _).mono ?_; rintro e w' ⟨rfl, rfl⟩
      go_wp2_with fail
      refine (told13_any _).mono ?_; rintro e w' ⟨rfl, hbl⟩
      go_wp2_with fail
      go_ret
      exact ⟨ret_bool (by first | rfl | (simp; done) | (simp; omega)), hbl⟩
    · obtain ⟨c1, c2, c3⟩ := b3 hb (by omega)
      clear b1 b2 b3 hb
      by_cases hp : 0 < n
      · by_cases hq : 0 < x
        · have c4 : 0 < W := c3.2 ⟨hp, hq⟩
          clear c3
          go_enter Try.func5, Try.ntmps5
          go_wp2_with fail
          refine (hW _).mono ?_; rintro e w' ⟨rfl, rfl⟩
          go_wp2_with fail
          refine (hI _).mono ?_; rintro e w' ⟨rfl, rfl⟩
          go_wp2_with fail
          refine (told13_any _).mono ?_; rintro e w' ⟨rfl, hbl⟩
          go_wp2_with fail
          go_ret
          exact ⟨ret_bool (by first | rfl | (simp; done) | (simp; omega)), hbl⟩
        · have c4 : ¬ 0 < W := fun h => by have := c3.1 h; omega
          clear c3
          go_enter Try.func5, Try.ntmps5
          go_wp2_with fail
          refine (hW _).mono ?_; rintro e w' ⟨rfl, rfl⟩
          go_wp2_with fail
          refine (hI _).mono ?_; rintro e w' ⟨rfl, rfl⟩
          go_wp2_with fail
          refine (told13_any _).mono ?_; rintro e w' ⟨rfl, hbl⟩
          go_wp2_with fail
          go_ret
          exact ⟨ret_bool (by first | rfl | (simp; done) | (simp; omega)), hbl⟩
      · have c4 : ¬ 0 < W := fun h => by have := c3.1 h; omega
        clear c3
        go_enter Try.func5, Try.ntmps5
        go_wp2_with fail
        refine (hW _).mono ?_; rintro e w' ⟨rfl, rfl⟩
        go_wp2_with fail
        refine (hI _).mono ?_; rintro e w' ⟨rfl, rfl⟩
        go_wp2_with fail
        refine (told13_any _).mono ?_; rintro e w' ⟨rfl, hbl⟩
        go_wp2_with fail
        go_ret
        exact ⟨ret_bool (by first | rfl | (simp; done) | (simp; omega)), hbl⟩

theorem ratioCeil_walk (a0 a1 a2 : Int) (w : World) (_w0 : (Lit.int .i64 a0).wf = true) (_w1 : (Lit.int .i64 a1).wf = true) (_w2 : (Lit.int .i64 a2).wf = true) :
    Calls Try.prog 7 #[.int .i64 a0, .int .i64 a1, .int .i64 a2] w fun e w' => e = .returned (.bool true) ∧ Below w.heap.size w w' := by
  have u0 := u64_nonneg a0
  have u1 := u64_nonneg a1
  have u2 := u64_nonneg a2
  obtain ⟨n, hn, n0, n1⟩ := u64_mod a0 1001 (by omega)
  obtain ⟨x, hx, x0, x1⟩ := u64_mod a1 100001 (by omega)
  obtain ⟨g, hg, g0, g1⟩ := u64_mod a2 100000 (by omega)
  obtain ⟨b1, b2, b3⟩ := want_ceil (n := n) (x := x) (g := 1 + g) n0 (by omega) x0 (by omega) (by omega) (by omega)
  have hW := want_any n x (1 + g) 50
  have hI := in_any x (1 + g) 50
  have hr := wantV_range n x (1 + g) 50
  have e1 : 0 ≤ n * x := Int.mul_nonneg (by omega) (by omega)
  have e2 : n * x ≤ 1000 * 100000 := Int.mul_le_mul (by omega) (by omega) (by omega) (by omega)
  generalize wantV n x (1 + g) 50 = W at *
  have e3 : 0 ≤ W * (1 + g) := Int.mul_nonneg (by omega) (by omega)
  have e4 : W * (1 + g) ≤ 1000000 * 100000 := Int.mul_le_mul (by omega) (by omega) (by omega) (by omega)
  have e5 : (W - 1) * (1 + g) ≤ 1000000 * 100000 := by rw [Int.sub_mul]; omega
  have e6 : - 100000 ≤ (W - 1) * (1 + g) := by rw [Int.sub_mul]; omega
  cases hb : inB x (1 + g) 50 with
  | true =>
    obtain rfl := b1 hb
    rw [hb] at hI
    clear b1 b2 b3 hb
    go_enter Try.func7, Try.ntmps7
    go_wp2_with fail
    refine (hI _).mono ?_; rintro e w' ⟨rfl, rfl⟩
    go_wp2_with fail
    refine (told13_any _).mono ?_; rintro e w' ⟨rfl, hbl⟩
    go_wp2_with fail
    refine (hW _).mono ?_; rintro e w' ⟨rfl, rfl⟩
    go_wp2_with fail
    go_ret
    exact ⟨ret_bool (by first | rfl | (simp; done) | (simp; omega)), hbl⟩
  | false =>
    rw [hb] at hI
    by_cases hw : W = 1000000
    · have c1 := b2 hb hw
      clear b1 b2 b3 hb
      subst hw
      go_enter Try.func7, Try.ntmps7
      go_wp2_with fail
      refine (hI _).mono ?_; rintro e w' ⟨rfl, rfl⟩
      go_wp2_with fail
      refine (hW _).mono ?_; rintro e w' ⟨rfl, rfl⟩
      go_wp2_with fail
      refine (told13_any _).mono ?_; rintro e w' ⟨rfl, hbl⟩
      go_wp2_with fail
      go_ret
      exact ⟨ret_bool (by first | rfl | (simp; done) | (simp; omega)), hbl⟩
    · obtain ⟨c1, c2⟩ := b3 hb hw
      clear b1 b2 b3 hb
      have f1 : (W == 1000000) = false := by simp; omega
      by_cases hz : W = 0
      · subst hz
        clear f1
        go_enter Try.func7, Try.ntmps7
        go_wp2_with fail
        refine (hI _).mono ?_; rintro e w' ⟨rfl, rfl⟩
        go_wp2_with fail
        refine (hW _).mono ?_; rintro e w' ⟨rfl, rfl⟩
        go_wp2_with fail
        refine (told13_any _).mono ?_; rintro e w' ⟨rfl, hbl⟩
        go_wp2_with fail
        go_ret
        exact ⟨ret_bool (by first | rfl | (simp; done) | (simp; omega)), hbl⟩
      · have f2 : (W == 0) = false := by simp; omega
        go_enter Try.func7, Try.ntmps7
        go_wp2_with fail
        refine (hI _).mono ?_; rintro e w' ⟨rfl, rfl⟩
        go_wp2_with fail
        refine (hW _).mono ?_; rintro e w' ⟨rfl, rfl⟩
        go_wp2_with fail
        refine (told13_any _).mono ?_; rintro e w' ⟨rfl, hbl⟩
        go_wp2_with fail
        go_ret
        exact ⟨ret_bool (by first | rfl | (simp; done) | (simp; omega)), hbl⟩

theorem RI.one (w : World) (b : Nat) (t : TypeId) (x : Int) (h : w.heap[b]? = some (.cells #[.int .i64 x] t)) : RI w (some ⟨b, 0, none⟩) 1 [x] :=
  ⟨rfl, by omega, fun _ => ⟨_, rfl, fun j hj => by
    match j, hj with
    | 0, _ => simp [World.cell?, Addr.add, h]⟩⟩

theorem ratioRaw_0 (a0 : Int) (w : World) (hk : IntKind.u64.wrap a0 % 4 = 0) :
    Calls Try.prog 8 #[.int .i64 a0, .bool true] w fun e w' => e = .returned (.bool true) ∧ Below w.heap.size w w' := by
  have u0 := u64_nonneg a0
  have hW := want_any (-1) 5000 1000 100
  have hI := in_any 5000 1000 100
  rw [show wantV (-1) 5000 1000 100 = 0 by decide +kernel] at hW
  rw [show inB 5000 1000 100 = false by decide +kernel] at hI
  go_enter Try.func8, Try.ntmps8
  go_wp2_with fail
  refine (most_any (-1) 100 _ _ _ _ _ _ [5000] [1000] _ ?_ ?_).mono ?_
  · exact RI.one _ _ _ _ (heap_old (heap_new rfl))
  · exact RI.one _ _ _ _ (heap_new (size_alloc _ _).symm)
  rw [show mostV (-1) 100 [5000] [1000] = none from by decide +kernel]
  rintro e w' ⟨rfl, rfl⟩
  go_wp2_with fail
  refine (told13_any _).mono ?_; rintro e w' ⟨rfl, hbl⟩
  go_wp2_with fail
  refine (hW _).mono ?_; rintro e w' ⟨rfl, rfl⟩
  go_wp2_with fail
  go_ret
  exact ⟨rfl, (((Below.refl _ _).alloc (Nat.le_refl _) _).alloc (by simp) _).trans (hbl.mono (by simp; omega))⟩

theorem ratioRaw_1 (a0 : Int) (w : World) (hk : IntKind.u64.wrap a0 % 4 = 0) :
    Calls Try.prog 8 #[.int .i64 a0, .bool false] w fun e w' => e = .returned (.bool true) ∧ Below w.heap.size w w' := by
  have u0 := u64_nonneg a0
  have hW := want_any 10001 5000 1000 100
  have hI := in_any 5000 1000 100
  rw [show wantV 10001 5000 1000 100 = 0 by decide +kernel] at hW
  rw [show inB 5000 1000 100 = false by decide +kernel] at hI
  go_enter Try.func8, Try.ntmps8
  go_wp2_with fail
  refine (most_any 10001 100 _ _ _ _ _ _ [5000] [1000] _ ?_ ?_).mono ?_
  · exact RI.one _ _ _ _ (heap_old (heap_new rfl))
  · exact RI.one _ _ _ _ (heap_new (size_alloc _ _).symm)
  rw [show mostV 10001 100 [5000] [1000] = none from by decide +kernel]
  rintro e w' ⟨rfl, rfl⟩
  go_wp2_with fail
  refine (told13_any _).mono ?_; rintro e w' ⟨rfl, hbl⟩
  go_wp2_with fail
  refine (hW _).mono ?_; rintro e w' ⟨rfl, rfl⟩
  go_wp2_with fail
  go_ret
  exact ⟨rfl, (((Below.refl _ _).alloc (Nat.le_refl _) _).alloc (by simp) _).trans (hbl.mono (by simp; omega))⟩

theorem ratioRaw_2 (a0 : Int) (w : World) (hk : IntKind.u64.wrap a0 % 4 = 1) :
    Calls Try.prog 8 #[.int .i64 a0, .bool true] w fun e w' => e = .returned (.bool true) ∧ Below w.heap.size w w' := by
  have u0 := u64_nonneg a0
  have hW := want_any 5 (-1) 1000 100
  have hI := in_any (-1) 1000 100
  rw [show wantV 5 (-1) 1000 100 = 0 by decide +kernel] at hW
  rw [show inB (-1) 1000 100 = false by decide +kernel] at hI
  go_enter Try.func8, Try.ntmps8
  go_wp2_with fail
  refine (most_any 5 100 _ _ _ _ _ _ [(-1)] [1000] _ ?_ ?_).mono ?_
  · exact RI.one _ _ _ _ (heap_old (heap_new rfl))
  · exact RI.one _ _ _ _ (heap_new (size_alloc _ _).symm)
  rw [show mostV 5 100 [(-1)] [1000] = none from by decide +kernel]
  rintro e w' ⟨rfl, rfl⟩
  go_wp2_with fail
  refine (told13_any _).mono ?_; rintro e w' ⟨rfl, hbl⟩
  go_wp2_with fail
  refine (hW _).mono ?_; rintro e w' ⟨rfl, rfl⟩
  go_wp2_with fail
  refine (hI _).mono ?_; rintro e w' ⟨rfl, rfl⟩
  go_wp2_with fail
  go_ret
  exact ⟨rfl, (((Below.refl _ _).alloc (Nat.le_refl _) _).alloc (by simp) _).trans (hbl.mono (by simp; omega))⟩

theorem ratioRaw_3 (a0 : Int) (w : World) (hk : IntKind.u64.wrap a0 % 4 = 1) :
    Calls Try.prog 8 #[.int .i64 a0, .bool false] w fun e w' => e = .returned (.bool true) ∧ Below w.heap.size w w' := by
  have u0 := u64_nonneg a0
  have hW := want_any 5 1099511627777 1000 100
  have hI := in_any 1099511627777 1000 100
  rw [show wantV 5 1099511627777 1000 100 = 0 by decide +kernel] at hW
  rw [show inB 1099511627777 1000 100 = false by decide +kernel] at hI
  go_enter Try.func8, Try.ntmps8
  go_wp2_with fail
  refine (most_any 5 100 _ _ _ _ _ _ [1099511627777] [1000] _ ?_ ?_).mono ?_
  · exact RI.one _ _ _ _ (heap_old (heap_new rfl))
  · exact RI.one _ _ _ _ (heap_new (size_alloc _ _).symm)
  rw [show mostV 5 100 [1099511627777] [1000] = none from by decide +kernel]
  rintro e w' ⟨rfl, rfl⟩
  go_wp2_with fail
  refine (told13_any _).mono ?_; rintro e w' ⟨rfl, hbl⟩
  go_wp2_with fail
  refine (hW _).mono ?_; rintro e w' ⟨rfl, rfl⟩
  go_wp2_with fail
  refine (hI _).mono ?_; rintro e w' ⟨rfl, rfl⟩
  go_wp2_with fail
  go_ret
  exact ⟨rfl, (((Below.refl _ _).alloc (Nat.le_refl _) _).alloc (by simp) _).trans (hbl.mono (by simp; omega))⟩

theorem ratioRaw_4 (a0 : Int) (w : World) (hk : IntKind.u64.wrap a0 % 4 = 2) :
    Calls Try.prog 8 #[.int .i64 a0, .bool true] w fun e w' => e = .returned (.bool true) ∧ Below w.heap.size w w' := by
  have u0 := u64_nonneg a0
  have hW := want_any 5 5000 0 100
  have hI := in_any 5000 0 100
  rw [show wantV 5 5000 0 100 = 0 by decide +kernel] at hW
  rw [show inB 5000 0 100 = false by decide +kernel] at hI
  go_enter Try.func8, Try.ntmps8
  go_wp2_with fail
  refine (most_any 5 100 _ _ _ _ _ _ [5000] [0] _ ?_ ?_).mono ?_
  · exact RI.one _ _ _ _ (heap_old (heap_new rfl))
  · exact RI.one _ _ _ _ (heap_new (size_alloc _ _).symm)
  rw [show mostV 5 100 [5000] [0] = none from by decide +kernel]
  rintro e w' ⟨rfl, rfl⟩
  go_wp2_with fail
  refine (told13_any _).mono ?_; rintro e w' ⟨rfl, hbl⟩
  go_wp2_with fail
  refine (hW _).mono ?_; rintro e w' ⟨rfl, rfl⟩
  go_wp2_with fail
  refine (hI _).mono ?_; rintro e w' ⟨rfl, rfl⟩
  go_wp2_with fail
  go_ret
  exact ⟨rfl, (((Below.refl _ _).alloc (Nat.le_refl _) _).alloc (by simp) _).trans (hbl.mono (by simp; omega))⟩

theorem ratioRaw_5 (a0 : Int) (w : World) (hk : IntKind.u64.wrap a0 % 4 = 2) :
    Calls Try.prog 8 #[.int .i64 a0, .bool false] w fun e w' => e = .returned (.bool true) ∧ Below w.heap.size w w' := by
  have u0 := u64_nonneg a0
  have hW := want_any 5 5000 1099511627777 100
  have hI := in_any 5000 1099511627777 100
  rw [show wantV 5 5000 1099511627777 100 = 0 by decide +kernel] at hW
  rw [show inB 5000 1099511627777 100 = false by decide +kernel] at hI
  go_enter Try.func8, Try.ntmps8
  go_wp2_with fail
  refine (most_any 5 100 _ _ _ _ _ _ [5000] [1099511627777] _ ?_ ?_).mono ?_
  · exact RI.one _ _ _ _ (heap_old (heap_new rfl))
  · exact RI.one _ _ _ _ (heap_new (size_alloc _ _).symm)
  rw [show mostV 5 100 [5000] [1099511627777] = none from by decide +kernel]
  rintro e w' ⟨rfl, rfl⟩
  go_wp2_with fail
  refine (told13_any _).mono ?_; rintro e w' ⟨rfl, hbl⟩
  go_wp2_with fail
  refine (hW _).mono ?_; rintro e w' ⟨rfl, rfl⟩
  go_wp2_with fail
  refine (hI _).mono ?_; rintro e w' ⟨rfl, rfl⟩
  go_wp2_with fail
  go_ret
  exact ⟨rfl, (((Below.refl _ _).alloc (Nat.le_refl _) _).alloc (by simp) _).trans (hbl.mono (by simp; omega))⟩

theorem ratioRaw_6 (a0 : Int) (w : World) (hk : IntKind.u64.wrap a0 % 4 = 3) :
    Calls Try.prog 8 #[.int .i64 a0, .bool true] w fun e w' => e = .returned (.bool true) ∧ Below w.heap.size w w' := by
  have u0 := u64_nonneg a0
  have hW := want_any 5 5000 1000 (-1)
  have hI := in_any 5000 1000 (-1)
  rw [show wantV 5 5000 1000 (-1) = 0 by decide +kernel] at hW
  rw [show inB 5000 1000 (-1) = false by decide +kernel] at hI
  go_enter Try.func8, Try.ntmps8
  go_wp2_with fail
  refine (most_any 5 (-1) _ _ _ _ _ _ [5000] [1000] _ ?_ ?_).mono ?_
  · exact RI.one _ _ _ _ (heap_old (heap_new rfl))
  · exact RI.one _ _ _ _ (heap_new (size_alloc _ _).symm)
  rw [show mostV 5 (-1) [5000] [1000] = none from by decide +kernel]
  rintro e w' ⟨rfl, rfl⟩
  go_wp2_with fail
  refine (told13_any _).mono ?_; rintro e w' ⟨rfl, hbl⟩
  go_wp2_with fail
  refine (hW _).mono ?_; rintro e w' ⟨rfl, rfl⟩
  go_wp2_with fail
  refine (hI _).mono ?_; rintro e w' ⟨rfl, rfl⟩
  go_wp2_with fail
  go_ret
  exact ⟨rfl, (((Below.refl _ _).alloc (Nat.le_refl _) _).alloc (by simp) _).trans (hbl.mono (by simp; omega))⟩

theorem ratioRaw_7 (a0 : Int) (w : World) (hk : IntKind.u64.wrap a0 % 4 = 3) :
    Calls Try.prog 8 #[.int .i64 a0, .bool false] w fun e w' => e = .returned (.bool true) ∧ Below w.heap.size w w' := by
  have u0 := u64_nonneg a0
  have hW := want_any 5 5000 1000 1001
  have hI := in_any 5000 1000 1001
  rw [show wantV 5 5000 1000 1001 = 0 by decide +kernel] at hW
  rw [show inB 5000 1000 1001 = false by decide +kernel] at hI
  go_enter Try.func8, Try.ntmps8
  go_wp2_with fail
  refine (most_any 5 1001 _ _ _ _ _ _ [5000] [1000] _ ?_ ?_).mono ?_
  · exact RI.one _ _ _ _ (heap_old (heap_new rfl))
  · exact RI.one _ _ _ _ (heap_new (size_alloc _ _).symm)
  rw [show mostV 5 1001 [5000] [1000] = none from by decide +kernel]
  rintro e w' ⟨rfl, rfl⟩
  go_wp2_with fail
  refine (told13_any _).mono ?_; rintro e w' ⟨rfl, hbl⟩
  go_wp2_with fail
  refine (hW _).mono ?_; rintro e w' ⟨rfl, rfl⟩
  go_wp2_with fail
  refine (hI _).mono ?_; rintro e w' ⟨rfl, rfl⟩
  go_wp2_with fail
  go_ret
  exact ⟨rfl, (((Below.refl _ _).alloc (Nat.le_refl _) _).alloc (by simp) _).trans (hbl.mono (by simp; omega))⟩

theorem ratioRaw_walk (a0 : Int) (a1 : Bool) (w : World) (_w0 : (Lit.int .i64 a0).wf = true) :
    Calls Try.prog 8 #[.int .i64 a0, .bool a1] w fun e w' => e = .returned (.bool true) ∧ Below w.heap.size w w' := by
  obtain ⟨k, hk, k0, k1⟩ := u64_mod a0 4 (by omega)
  rcases (show k = 0 ∨ k = 1 ∨ k = 2 ∨ k = 3 by omega) with h | h | h | h <;> subst h <;> cases a1
  · exact ratioRaw_1 a0 w hk
  · exact ratioRaw_0 a0 w hk
  · exact ratioRaw_3 a0 w hk
  · exact ratioRaw_2 a0 w hk
  · exact ratioRaw_5 a0 w hk
  · exact ratioRaw_4 a0 w hk
  · exact ratioRaw_7 a0 w hk
  · exact ratioRaw_6 a0 w hk

theorem ratioAsks_walk (a0 a1 a2 a3 : Int) (A4 : Option Addr) (n4 c4 : Nat) (z4 : List Int) (A5 : Option Addr) (n5 c5 : Nat) (z5 : List Int) (w : World) (_w0 : (Lit.int .i64 a0).wf = true) (_w1 : (Lit.int .i64 a1).wf = true) (_w2 : (Lit.int .i64 a2).wf = true) (_w3 : (Lit.int .i64 a3).wf = true)
    (h4 : RI w A4 n4 z4) (_y4 : ∀ n ∈ z4, (Lit.int .i64 n).wf = true) (h5 : RI w A5 n5 z5) (_y5 : ∀ n ∈ z5, (Lit.int .i64 n).wf = true) :
    Calls Try.prog 3 #[.int .i64 a0, .int .i64 a1, .int .i64 a2, .int .i64 a3, .slice A4 n4 c4, .slice A5 n5 c5] w fun e w' => e = .returned (.bool true) ∧ Below w.heap.size w w' := by
  have hb4 := h4.2.1
  have hb5 := h5.2.1
  by_cases g : 6 < n4
  · go_enter Try.func3, Try.ntmps3
    go_wp2_with fail
    refine (told13_any _).mono ?_; rintro e w' ⟨rfl, hbl⟩
    go_wp2_with fail
    go_ret
    exact ⟨rfl, hbl⟩
  · by_cases g' : 6 < n5
    · go_enter Try.func3, Try.ntmps3
      go_wp2_with fail
      refine (told13_any _).mono ?_; rintro e w' ⟨rfl, hbl⟩
      go_wp2_with fail
      go_ret
      exact ⟨rfl, hbl⟩
    · have hM := most_any a0 a3 A4 A5 c4 c5 n4 n5 z4 z5
      have hR := r_most_any a0 a3 A4 A5 c4 c5 n4 n5 z4 z5
      have hI := in_any a1 a2 a3
      have hJ := r_in_any a1 a2 a3
      have hW := want_any a0 a1 a2 a3
      have hX := r_want_any a0 a1 a2 a3
      generalize inB a1 a2 a3 = I at *
      generalize wantV a0 a1 a2 a3 = W at *
      generalize (mostV a0 a3 z4 z5).getD 0 = m at *
      generalize (mostV a0 a3 z4 z5).isSome = o at *
      have H4 := Lib.hid h4; clear h4
      have H5 := Lib.hid h5; clear h5
      have HM := Lib.hid hM; clear hM
      have HR := Lib.hid hR; clear hR
      go_enter Try.func3, Try.ntmps3
      go_wp2_with fail
      refine (HM.out _ H4.out H5.out).mono ?_; rintro e w' ⟨rfl, rfl⟩
      go_wp2_with fail
      refine (HR.out _ H4.out H5.out).mono ?_; rintro e w' ⟨rfl, hdr⟩
      go_wp2_with fail
      refine (told13_any _).mono ?_; rintro e w' ⟨rfl, hbl⟩
      go_wp2_with fail
      refine (hI _).mono ?_; rintro e w' ⟨rfl, rfl⟩
      go_wp2_with fail
      refine (hJ _).mono ?_; rintro e w' ⟨rfl, rfl⟩
      go_wp2_with fail
      refine (hW _).mono ?_; rintro e w' ⟨rfl, rfl⟩
      go_wp2_with fail
      refine (hX _).mono ?_; rintro e w' ⟨rfl, rfl⟩
      go_wp2_with fail
      go_ret
      exact ⟨rfl, hdr.below.trans (hbl.mono hdr.below.size)⟩
end Go.Proofs.Ytjobicffdcnnlaa
