import Derived.Test.YtjobicffdcnnlaaC7
namespace Go.Proofs.Ytjobicffdcnnlaa
open Go.RowKit
set_option linter.unusedSimpArgs false
set_option linter.unusedVariables false

theorem ret_str {a b : ByteArray} (h : a = b) : Ending.returned (.string a) = Ending.returned (.string b) := by rw [h]
def okF (c : CF) : Bool := decide (0 ≤ c.f) && (decide (c.f ≤ 5) && decide (3 * c.f + 1 ≤ c.n))
def wrongR (c : CF) : ByteArray :=
  if (inR c.n 1 16) = false then ⟨#[110]⟩ else
  if (okF c) = false then ⟨#[102]⟩ else
  if (inR c.m 1 4) = false then ⟨#[109]⟩ else
  if (inR c.q (2 * c.f + 1) c.n) = false then ⟨#[113, 117, 111, 114, 117, 109]⟩ else
  if (inR c.fresh 1 8) = false then ⟨#[102, 114, 101, 115, 104]⟩ else
  if (inR c.grace 1 100) = false then ⟨#[103, 114, 97, 99, 101]⟩ else
  if (inR c.window 1 64) = false then ⟨#[119, 105, 110, 100, 111, 119]⟩ else
  if (targetsB c) = false then ⟨#[116, 97, 114, 103, 101, 116]⟩ else
  if (inR c.tol 0 1000) = false then ⟨#[116, 111, 108]⟩ else
  if (inR c.lo 1 10000) = false then ⟨#[109, 105, 110]⟩ else
  if (inR c.hi c.lo 10000) = false then ⟨#[109, 97, 120]⟩ else
  if (inR c.cup 0 60) = false then ⟨#[99, 97, 108, 109, 117, 112]⟩ else
  if (inR c.cdn 0 60) = false then ⟨#[99, 97, 108, 109, 100, 111, 119, 110]⟩ else
  if (inR c.pup 1 1000) = false then ⟨#[112, 111, 100, 115, 117, 112]⟩ else
  if (inR c.tup 1 1000) = false then ⟨#[112, 99, 116, 117, 112]⟩ else
  if (inR c.pdn 1 1000) = false then ⟨#[112, 111, 100, 115, 100, 111, 119, 110]⟩ else
  if (inR c.tdn 1 100) = false then ⟨#[112, 99, 116, 100, 111, 119, 110]⟩ else
  if (inR c.per 1 60) = false then ⟨#[112, 101, 114, 105, 111, 100]⟩ else
  if (inR c.far 0 1099511627776) = false then ⟨#[102, 97, 114]⟩ else
  if (inR c.str 1 100) = false then ⟨#[115, 116, 114, 105, 107, 101, 115]⟩ else
  if (inR c.pro 1 100) = false then ⟨#[112, 114, 111, 98, 101]⟩ else
  if (inR c.sec 64 4096) = false then ⟨#[115, 101, 99, 116, 111, 114, 115]⟩ else
  ⟨#[]⟩

set_option maxHeartbeats 4000000 in
set_option maxRecDepth 100000 in
theorem r_wrong_any (c : CF) (w : World) : Calls Try.prog 42 #[.agg #[.int .i64 c.n, .int .i64 c.f, .int .i64 c.m, .int .i64 c.q, .int .i64 c.fresh, .int .i64 c.grace, .int .i64 c.window, .int .i64 c.t0, .int .i64 c.t1, .int .i64 c.t2, .int .i64 c.t3, .int .i64 c.tol, .int .i64 c.lo, .int .i64 c.hi, .int .i64 c.cup, .int .i64 c.cdn, .int .i64 c.pup, .int .i64 c.tup, .int .i64 c.pdn, .int .i64 c.tdn, .int .i64 c.per, .int .i64 c.far, .int .i64 c.str, .int .i64 c.pro, .int .i64 c.sec, .int .u64 c.seed]] w fun e w' => e = .returned (.string (wrongR c)) ∧ Gr w w' := by
  obtain ⟨r, hr⟩ : ∃ r, wrongR c = r := ⟨_, rfl⟩
  rw [hr]
  have HR := Lib.hid hr; clear hr
  go_enter Try.func42, Try.ntmps42
  go_wp2_with fail
  cases h0 : inR c.n 1 16 with
  | false =>
    refine (in_false c.n 1 16 h0 _).mono ?_; rintro e w' ⟨rfl, rfl⟩
    have H0 := Lib.hid h0; clear h0
    go_wp2
    go_ret
    first | exact ⟨ret_str (by rw [← HR.out]; unfold wrongR; simp [H0.out]), (Gr.refl w).alloc _⟩ | exact ⟨ret_str (by rw [← HR.out]; unfold wrongR; simp [H0.out]), ((Gr.refl w).alloc _).alloc _⟩
  | true =>
    refine (in_true c.n 1 16 h0 _).mono ?_; rintro e w' ⟨rfl, rfl⟩
    have H0 := Lib.hid h0; clear h0
    have n1 : 1 ≤ c.n := by have h := H0.out; unfold inR at h; simp at h; omega
    have n2 : c.n ≤ 16 := by have h := H0.out; unfold inR at h; simp at h; omega
    cases h1 : okF c with
    | false =>
      have H1 := Lib.hid h1; clear h1
      have hq : c.f < 0 ∨ 0 ≤ c.f ∧ 5 < c.f ∨ 0 ≤ c.f ∧ c.f ≤ 5 ∧ c.n < 3 * c.f + 1 := by have h := H1.out; unfold okF at h; simp at h; omega
      rcases hq with q1 | ⟨q1, q2⟩ | ⟨q1, q2, q3⟩
      · go_wp2
        go_ret
        first | exact ⟨ret_str (by rw [← HR.out]; unfold wrongR; simp [H0.out, H1.out]), (Gr.refl w).alloc _⟩ | exact ⟨ret_str (by rw [← HR.out]; unfold wrongR; simp [H0.out, H1.out]), ((Gr.refl w).alloc _).alloc _⟩
      · go_wp2
        go_ret
        first | exact ⟨ret_str (by rw [← HR.out]; unfold wrongR; simp [H0.out, H1.out]), (Gr.refl w).alloc _⟩ | exact ⟨ret_str (by rw [← HR.out]; unfold wrongR; simp [H0.out, H1.out]), ((Gr.refl w).alloc _).alloc _⟩
      · go_wp2
        go_ret
        first | exact ⟨ret_str (by rw [← HR.out]; unfold wrongR; simp [H0.out, H1.out]), (Gr.refl w).alloc _⟩ | exact ⟨ret_str (by rw [← HR.out]; unfold wrongR; simp [H0.out, H1.out]), ((Gr.refl w).alloc _).alloc _⟩
    | true =>
      have H1 := Lib.hid h1; clear h1
      have f1 : 0 ≤ c.f := by have h := H1.out; unfold okF at h; simp at h; omega
      have f2 : c.f ≤ 5 := by have h := H1.out; unfold okF at h; simp at h; omega
      have f3 : 3 * c.f + 1 ≤ c.n := by have h := H1.out; unfold okF at h; simp at h; omega
      go_wp2_with fail
      cases h2 : inR c.m 1 4 with
      | false =>
        refine (in_false c.m 1 4 h2 _).mono ?_; rintro e w' ⟨rfl, rfl⟩
        have H2 := Lib.hid h2; clear h2
        go_wp2
        go_ret
        first | exact ⟨ret_str (by rw [← HR.out]; unfold wrongR; simp [H0.out, H1.out, H2.out]), (Gr.refl w).alloc _⟩ | exact ⟨ret_str (by rw [← HR.out]; unfold wrongR; simp [H0.out, H1.out, H2.out]), ((Gr.refl w).alloc _).alloc _⟩
      | true =>
        refine (in_true c.m 1 4 h2 _).mono ?_; rintro e w' ⟨rfl, rfl⟩
        have H2 := Lib.hid h2; clear h2
        go_wp2_with fail
        cases h3 : inR c.q (2 * c.f + 1) c.n with
        | false =>
          refine (in_false c.q (2 * c.f + 1) c.n h3 _).mono ?_; rintro e w' ⟨rfl, rfl⟩
          have H3 := Lib.hid h3; clear h3
          go_wp2
          go_ret
          first | exact ⟨ret_str (by rw [← HR.out]; unfold wrongR; simp [H0.out, H1.out, H2.out, H3.out]), (Gr.refl w).alloc _⟩ | exact ⟨ret_str (by rw [← HR.out]; unfold wrongR; simp [H0.out, H1.out, H2.out, H3.out]), ((Gr.refl w).alloc _).alloc _⟩
        | true =>
          refine (in_true c.q (2 * c.f + 1) c.n h3 _).mono ?_; rintro e w' ⟨rfl, rfl⟩
          have H3 := Lib.hid h3; clear h3
          go_wp2_with fail
          cases h4 : inR c.fresh 1 8 with
          | false =>
            refine (in_false c.fresh 1 8 h4 _).mono ?_; rintro e w' ⟨rfl, rfl⟩
            have H4 := Lib.hid h4; clear h4
            go_wp2
            go_ret
            first | exact ⟨ret_str (by rw [← HR.out]; unfold wrongR; simp [H0.out, H1.out, H2.out, H3.out, H4.out]), (Gr.refl w).alloc _⟩ | exact ⟨ret_str (by rw [← HR.out]; unfold wrongR; simp [H0.out, H1.out, H2.out, H3.out, H4.out]), ((Gr.refl w).alloc _).alloc _⟩
          | true =>
            refine (in_true c.fresh 1 8 h4 _).mono ?_; rintro e w' ⟨rfl, rfl⟩
            have H4 := Lib.hid h4; clear h4
            go_wp2_with fail
            cases h5 : inR c.grace 1 100 with
            | false =>
              refine (in_false c.grace 1 100 h5 _).mono ?_; rintro e w' ⟨rfl, rfl⟩
              have H5 := Lib.hid h5; clear h5
              go_wp2
              go_ret
              first | exact ⟨ret_str (by rw [← HR.out]; unfold wrongR; simp [H0.out, H1.out, H2.out, H3.out, H4.out, H5.out]), (Gr.refl w).alloc _⟩ | exact ⟨ret_str (by rw [← HR.out]; unfold wrongR; simp [H0.out, H1.out, H2.out, H3.out, H4.out, H5.out]), ((Gr.refl w).alloc _).alloc _⟩
            | true =>
              refine (in_true c.grace 1 100 h5 _).mono ?_; rintro e w' ⟨rfl, rfl⟩
              have H5 := Lib.hid h5; clear h5
              go_wp2_with fail
              cases h6 : inR c.window 1 64 with
              | false =>
                refine (in_false c.window 1 64 h6 _).mono ?_; rintro e w' ⟨rfl, rfl⟩
                have H6 := Lib.hid h6; clear h6
                go_wp2
                go_ret
                first | exact ⟨ret_str (by rw [← HR.out]; unfold wrongR; simp [H0.out, H1.out, H2.out, H3.out, H4.out, H5.out, H6.out]), (Gr.refl w).alloc _⟩ | exact ⟨ret_str (by rw [← HR.out]; unfold wrongR; simp [H0.out, H1.out, H2.out, H3.out, H4.out, H5.out, H6.out]), ((Gr.refl w).alloc _).alloc _⟩
              | true =>
                refine (in_true c.window 1 64 h6 _).mono ?_; rintro e w' ⟨rfl, rfl⟩
                have H6 := Lib.hid h6; clear h6
                go_wp2_with fail
                cases h7 : targetsB c with
                | false =>
                  refine (r_targets_core c _ h7 _).mono ?_; rintro e w' ⟨rfl, rfl⟩
                  have H7 := Lib.hid h7; clear h7
                  go_wp2
                  go_ret
                  first | exact ⟨ret_str (by rw [← HR.out]; unfold wrongR; simp [H0.out, H1.out, H2.out, H3.out, H4.out, H5.out, H6.out, H7.out]), (Gr.refl w).alloc _⟩ | exact ⟨ret_str (by rw [← HR.out]; unfold wrongR; simp [H0.out, H1.out, H2.out, H3.out, H4.out, H5.out, H6.out, H7.out]), ((Gr.refl w).alloc _).alloc _⟩
                | true =>
                  refine (r_targets_core c _ h7 _).mono ?_; rintro e w' ⟨rfl, rfl⟩
                  have H7 := Lib.hid h7; clear h7
                  go_wp2_with fail
                  cases h8 : inR c.tol 0 1000 with
                  | false =>
                    refine (in_false c.tol 0 1000 h8 _).mono ?_; rintro e w' ⟨rfl, rfl⟩
                    have H8 := Lib.hid h8; clear h8
                    go_wp2
                    go_ret
                    first | exact ⟨ret_str (by rw [← HR.out]; unfold wrongR; simp [H0.out, H1.out, H2.out, H3.out, H4.out, H5.out, H6.out, H7.out, H8.out]), (Gr.refl w).alloc _⟩ | exact ⟨ret_str (by rw [← HR.out]; unfold wrongR; simp [H0.out, H1.out, H2.out, H3.out, H4.out, H5.out, H6.out, H7.out, H8.out]), ((Gr.refl w).alloc _).alloc _⟩
                  | true =>
                    refine (in_true c.tol 0 1000 h8 _).mono ?_; rintro e w' ⟨rfl, rfl⟩
                    have H8 := Lib.hid h8; clear h8
                    go_wp2_with fail
                    cases h9 : inR c.lo 1 10000 with
                    | false =>
                      refine (in_false c.lo 1 10000 h9 _).mono ?_; rintro e w' ⟨rfl, rfl⟩
                      have H9 := Lib.hid h9; clear h9
                      go_wp2
                      go_ret
                      first | exact ⟨ret_str (by rw [← HR.out]; unfold wrongR; simp [H0.out, H1.out, H2.out, H3.out, H4.out, H5.out, H6.out, H7.out, H8.out, H9.out]), (Gr.refl w).alloc _⟩ | exact ⟨ret_str (by rw [← HR.out]; unfold wrongR; simp [H0.out, H1.out, H2.out, H3.out, H4.out, H5.out, H6.out, H7.out, H8.out, H9.out]), ((Gr.refl w).alloc _).alloc _⟩
                    | true =>
                      refine (in_true c.lo 1 10000 h9 _).mono ?_; rintro e w' ⟨rfl, rfl⟩
                      have H9 := Lib.hid h9; clear h9
                      go_wp2_with fail
                      cases h10 : inR c.hi c.lo 10000 with
                      | false =>
                        refine (in_false c.hi c.lo 10000 h10 _).mono ?_; rintro e w' ⟨rfl, rfl⟩
                        have H10 := Lib.hid h10; clear h10
                        go_wp2
                        go_ret
                        first | exact ⟨ret_str (by rw [← HR.out]; unfold wrongR; simp [H0.out, H1.out, H2.out, H3.out, H4.out, H5.out, H6.out, H7.out, H8.out, H9.out, H10.out]), (Gr.refl w).alloc _⟩ | exact ⟨ret_str (by rw [← HR.out]; unfold wrongR; simp [H0.out, H1.out, H2.out, H3.out, H4.out, H5.out, H6.out, H7.out, H8.out, H9.out, H10.out]), ((Gr.refl w).alloc _).alloc _⟩
                      | true =>
                        refine (in_true c.hi c.lo 10000 h10 _).mono ?_; rintro e w' ⟨rfl, rfl⟩
                        have H10 := Lib.hid h10; clear h10
                        go_wp2_with fail
                        cases h11 : inR c.cup 0 60 with
                        | false =>
                          refine (in_false c.cup 0 60 h11 _).mono ?_; rintro e w' ⟨rfl, rfl⟩
                          have H11 := Lib.hid h11; clear h11
                          go_wp2
                          go_ret
                          first | exact ⟨ret_str (by rw [← HR.out]; unfold wrongR; simp [H0.out, H1.out, H2.out, H3.out, H4.out, H5.out, H6.out, H7.out, H8.out, H9.out, H10.out, H11.out]), (Gr.refl w).alloc _⟩ | exact ⟨ret_str (by rw [← HR.out]; unfold wrongR; simp [H0.out, H1.out, H2.out, H3.out, H4.out, H5.out, H6.out, H7.out, H8.out, H9.out, H10.out, H11.out]), ((Gr.refl w).alloc _).alloc _⟩
                        | true =>
                          refine (in_true c.cup 0 60 h11 _).mono ?_; rintro e w' ⟨rfl, rfl⟩
                          have H11 := Lib.hid h11; clear h11
                          go_wp2_with fail
                          cases h12 : inR c.cdn 0 60 with
                          | false =>
                            refine (in_false c.cdn 0 60 h12 _).mono ?_; rintro e w' ⟨rfl, rfl⟩
                            have H12 := Lib.hid h12; clear h12
                            go_wp2
                            go_ret
                            first | exact ⟨ret_str (by rw [← HR.out]; unfold wrongR; simp [H0.out, H1.out, H2.out, H3.out, H4.out, H5.out, H6.out, H7.out, H8.out, H9.out, H10.out, H11.out, H12.out]), (Gr.refl w).alloc _⟩ | exact ⟨ret_str (by rw [← HR.out]; unfold wrongR; simp [H0.out, H1.out, H2.out, H3.out, H4.out, H5.out, H6.out, H7.out, H8.out, H9.out, H10.out, H11.out, H12.out]), ((Gr.refl w).alloc _).alloc _⟩
                          | true =>
                            refine (in_true c.cdn 0 60 h12 _).mono ?_; rintro e w' ⟨rfl, rfl⟩
                            have H12 := Lib.hid h12; clear h12
                            go_wp2_with fail
                            cases h13 : inR c.pup 1 1000 with
                            | false =>
                              refine (in_false c.pup 1 1000 h13 _).mono ?_; rintro e w' ⟨rfl, rfl⟩
                              have H13 := Lib.hid h13; clear h13
                              go_wp2
                              go_ret
                              first | exact ⟨ret_str (by rw [← HR.out]; unfold wrongR; simp [H0.out, H1.out, H2.out, H3.out, H4.out, H5.out, H6.out, H7.out, H8.out, H9.out, H10.out, H11.out, H12.out, H13.out]), (Gr.refl w).alloc _⟩ | exact ⟨ret_str (by rw [← HR.out]; unfold wrongR; simp [H0.out, H1.out, H2.out, H3.out, H4.out, H5.out, H6.out, H7.out, H8.out, H9.out, H10.out, H11.out, H12.out, H13.out]), ((Gr.refl w).alloc _).alloc _⟩
                            | true =>
                              refine (in_true c.pup 1 1000 h13 _).mono ?_; rintro e w' ⟨rfl, rfl⟩
                              have H13 := Lib.hid h13; clear h13
                              go_wp2_with fail
                              cases h14 : inR c.tup 1 1000 with
                              | false =>
                                refine (in_false c.tup 1 1000 h14 _).mono ?_; rintro e w' ⟨rfl, rfl⟩
                                have H14 := Lib.hid h14; clear h14
                                go_wp2
                                go_ret
                                first | exact ⟨ret_str (by rw [← HR.out]; unfold wrongR; simp [H0.out, H1.out, H2.out, H3.out, H4.out, H5.out, H6.out, H7.out, H8.out, H9.out, H10.out, H11.out, H12.out, H13.out, H14.out]), (Gr.refl w).alloc _⟩ | exact ⟨ret_str (by rw [← HR.out]; unfold wrongR; simp [H0.out, H1.out, H2.out, H3.out, H4.out, H5.out, H6.out, H7.out, H8.out, H9.out, H10.out, H11.out, H12.out, H13.out, H14.out]), ((Gr.refl w).alloc _).alloc _⟩
                              | true =>
                                refine (in_true c.tup 1 1000 h14 _).mono ?_; rintro e w' ⟨rfl, rfl⟩
                                have H14 := Lib.hid h14; clear h14
                                go_wp2_with fail
                                cases h15 : inR c.pdn 1 1000 with
                                | false =>
                                  refine (in_false c.pdn 1 1000 h15 _).mono ?_; rintro e w' ⟨rfl, rfl⟩
                                  have H15 := Lib.hid h15; clear h15
                                  go_wp2
                                  go_ret
                                  first | exact ⟨ret_str (by rw [← HR.out]; unfold wrongR; simp [H0.out, H1.out, H2.out, H3.out, H4.out, H5.out, H6.out, H7.out, H8.out, H9.out, H10.out, H11.out, H12.out, H13.out, H14.out, H15.out]), (Gr.refl w).alloc _⟩ | exact ⟨ret_str (by rw [← HR.out]; unfold wrongR; simp [H0.out, H1.out, H2.out, H3.out, H4.out, H5.out, H6.out, H7.out, H8.out, H9.out, H10.out, H11.out, H12.out, H13.out, H14.out, H15.out]), ((Gr.refl w).alloc _).alloc _⟩
                                | true =>
                                  refine (in_true c.pdn 1 1000 h15 _).mono ?_; rintro e w' ⟨rfl, rfl⟩
                                  have H15 := Lib.hid h15; clear h15
                                  go_wp2_with fail
                                  cases h16 : inR c.tdn 1 100 with
                                  | false =>
                                    refine (in_false c.tdn 1 100 h16 _).mono ?_; rintro e w' ⟨rfl, rfl⟩
                                    have H16 := Lib.hid h16; clear h16
                                    go_wp2
                                    go_ret
                                    first | exact ⟨ret_str (by rw [← HR.out]; unfold wrongR; simp [H0.out, H1.out, H2.out, H3.out, H4.out, H5.out, H6.out, H7.out, H8.out, H9.out, H10.out, H11.out, H12.out, H13.out, H14.out, H15.out, H16.out]), (Gr.refl w).alloc _⟩ | exact ⟨ret_str (by rw [← HR.out]; unfold wrongR; simp [H0.out, H1.out, H2.out, H3.out, H4.out, H5.out, H6.out, H7.out, H8.out, H9.out, H10.out, H11.out, H12.out, H13.out, H14.out, H15.out, H16.out]), ((Gr.refl w).alloc _).alloc _⟩
                                  | true =>
                                    refine (in_true c.tdn 1 100 h16 _).mono ?_; rintro e w' ⟨rfl, rfl⟩
                                    have H16 := Lib.hid h16; clear h16
                                    go_wp2_with fail
                                    cases h17 : inR c.per 1 60 with
                                    | false =>
                                      refine (in_false c.per 1 60 h17 _).mono ?_; rintro e w' ⟨rfl, rfl⟩
                                      have H17 := Lib.hid h17; clear h17
                                      go_wp2
                                      go_ret
                                      first | exact ⟨ret_str (by rw [← HR.out]; unfold wrongR; simp [H0.out, H1.out, H2.out, H3.out, H4.out, H5.out, H6.out, H7.out, H8.out, H9.out, H10.out, H11.out, H12.out, H13.out, H14.out, H15.out, H16.out, H17.out]), (Gr.refl w).alloc _⟩ | exact ⟨ret_str (by rw [← HR.out]; unfold wrongR; simp [H0.out, H1.out, H2.out, H3.out, H4.out, H5.out, H6.out, H7.out, H8.out, H9.out, H10.out, H11.out, H12.out, H13.out, H14.out, H15.out, H16.out, H17.out]), ((Gr.refl w).alloc _).alloc _⟩
                                    | true =>
                                      refine (in_true c.per 1 60 h17 _).mono ?_; rintro e w' ⟨rfl, rfl⟩
                                      have H17 := Lib.hid h17; clear h17
                                      cases h18 : inR c.far 0 1099511627776 with
                                      | false =>
                                        have H18 := Lib.hid h18; clear h18
                                        have hq : c.far < 0 ∨ 0 ≤ c.far ∧ 1099511627776 < c.far := by have h := H18.out; unfold inR at h; simp at h; omega
                                        rcases hq with q1 | ⟨q1, q2⟩
                                        · go_wp2
                                          go_ret
                                          first | exact ⟨ret_str (by rw [← HR.out]; unfold wrongR; simp [H0.out, H1.out, H2.out, H3.out, H4.out, H5.out, H6.out, H7.out, H8.out, H9.out, H10.out, H11.out, H12.out, H13.out, H14.out, H15.out, H16.out, H17.out, H18.out]), (Gr.refl w).alloc _⟩ | exact ⟨ret_str (by rw [← HR.out]; unfold wrongR; simp [H0.out, H1.out, H2.out, H3.out, H4.out, H5.out, H6.out, H7.out, H8.out, H9.out, H10.out, H11.out, H12.out, H13.out, H14.out, H15.out, H16.out, H17.out, H18.out]), ((Gr.refl w).alloc _).alloc _⟩
                                        · go_wp2
                                          go_ret
                                          first | exact ⟨ret_str (by rw [← HR.out]; unfold wrongR; simp [H0.out, H1.out, H2.out, H3.out, H4.out, H5.out, H6.out, H7.out, H8.out, H9.out, H10.out, H11.out, H12.out, H13.out, H14.out, H15.out, H16.out, H17.out, H18.out]), (Gr.refl w).alloc _⟩ | exact ⟨ret_str (by rw [← HR.out]; unfold wrongR; simp [H0.out, H1.out, H2.out, H3.out, H4.out, H5.out, H6.out, H7.out, H8.out, H9.out, H10.out, H11.out, H12.out, H13.out, H14.out, H15.out, H16.out, H17.out, H18.out]), ((Gr.refl w).alloc _).alloc _⟩
                                      | true =>
                                        have H18 := Lib.hid h18; clear h18
                                        have r1 : 0 ≤ c.far := by have h := H18.out; unfold inR at h; simp at h; omega
                                        have r2 : c.far ≤ 1099511627776 := by have h := H18.out; unfold inR at h; simp at h; omega
                                        go_wp2_with fail
                                        cases h19 : inR c.str 1 100 with
                                        | false =>
                                          refine (in_false c.str 1 100 h19 _).mono ?_; rintro e w' ⟨rfl, rfl⟩
                                          have H19 := Lib.hid h19; clear h19
                                          go_wp2
                                          go_ret
                                          first | exact ⟨ret_str (by rw [← HR.out]; unfold wrongR; simp [H0.out, H1.out, H2.out, H3.out, H4.out, H5.out, H6.out, H7.out, H8.out, H9.out, H10.out, H11.out, H12.out, H13.out, H14.out, H15.out, H16.out, H17.out, H18.out, H19.out]), (Gr.refl w).alloc _⟩ | exact ⟨ret_str (by rw [← HR.out]; unfold wrongR; simp [H0.out, H1.out, H2.out, H3.out, H4.out, H5.out, H6.out, H7.out, H8.out, H9.out, H10.out, H11.out, H12.out, H13.out, H14.out, H15.out, H16.out, H17.out, H18.out, H19.out]), ((Gr.refl w).alloc _).alloc _⟩
                                        | true =>
                                          refine (in_true c.str 1 100 h19 _).mono ?_; rintro e w' ⟨rfl, rfl⟩
                                          have H19 := Lib.hid h19; clear h19
                                          go_wp2_with fail
                                          cases h20 : inR c.pro 1 100 with
                                          | false =>
                                            refine (in_false c.pro 1 100 h20 _).mono ?_; rintro e w' ⟨rfl, rfl⟩
                                            have H20 := Lib.hid h20; clear h20
                                            go_wp2
                                            go_ret
                                            first | exact ⟨ret_str (by rw [← HR.out]; unfold wrongR; simp [H0.out, H1.out, H2.out, H3.out, H4.out, H5.out, H6.out, H7.out, H8.out, H9.out, H10.out, H11.out, H12.out, H13.out, H14.out, H15.out, H16.out, H17.out, H18.out, H19.out, H20.out]), (Gr.refl w).alloc _⟩ | exact ⟨ret_str (by rw [← HR.out]; unfold wrongR; simp [H0.out, H1.out, H2.out, H3.out, H4.out, H5.out, H6.out, H7.out, H8.out, H9.out, H10.out, H11.out, H12.out, H13.out, H14.out, H15.out, H16.out, H17.out, H18.out, H19.out, H20.out]), ((Gr.refl w).alloc _).alloc _⟩
                                          | true =>
                                            refine (in_true c.pro 1 100 h20 _).mono ?_; rintro e w' ⟨rfl, rfl⟩
                                            have H20 := Lib.hid h20; clear h20
                                            go_wp2_with fail
                                            cases h21 : inR c.sec 64 4096 with
                                            | false =>
                                              refine (in_false c.sec 64 4096 h21 _).mono ?_; rintro e w' ⟨rfl, rfl⟩
                                              have H21 := Lib.hid h21; clear h21
                                              go_wp2
                                              go_ret
                                              first | exact ⟨ret_str (by rw [← HR.out]; unfold wrongR; simp [H0.out, H1.out, H2.out, H3.out, H4.out, H5.out, H6.out, H7.out, H8.out, H9.out, H10.out, H11.out, H12.out, H13.out, H14.out, H15.out, H16.out, H17.out, H18.out, H19.out, H20.out, H21.out]), (Gr.refl w).alloc _⟩ | exact ⟨ret_str (by rw [← HR.out]; unfold wrongR; simp [H0.out, H1.out, H2.out, H3.out, H4.out, H5.out, H6.out, H7.out, H8.out, H9.out, H10.out, H11.out, H12.out, H13.out, H14.out, H15.out, H16.out, H17.out, H18.out, H19.out, H20.out, H21.out]), ((Gr.refl w).alloc _).alloc _⟩
                                            | true =>
                                              refine (in_true c.sec 64 4096 h21 _).mono ?_; rintro e w' ⟨rfl, rfl⟩
                                              have H21 := Lib.hid h21; clear h21
                                              go_wp2
                                              go_ret
                                              first | exact ⟨ret_str (by rw [← HR.out]; unfold wrongR; simp [H0.out, H1.out, H2.out, H3.out, H4.out, H5.out, H6.out, H7.out, H8.out, H9.out, H10.out, H11.out, H12.out, H13.out, H14.out, H15.out, H16.out, H17.out, H18.out, H19.out, H20.out, H21.out]), (Gr.refl w).alloc _⟩ | exact ⟨ret_str (by rw [← HR.out]; unfold wrongR; simp [H0.out, H1.out, H2.out, H3.out, H4.out, H5.out, H6.out, H7.out, H8.out, H9.out, H10.out, H11.out, H12.out, H13.out, H14.out, H15.out, H16.out, H17.out, H18.out, H19.out, H20.out, H21.out]), ((Gr.refl w).alloc _).alloc _⟩
end Go.Proofs.Ytjobicffdcnnlaa
