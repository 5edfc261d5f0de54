import Derived.Test.YtjobicffdcnnlaaS7
/- What the program's policy tells of a few (told15). -/
namespace Go.Proofs.Ytjobicffdcnnlaa
open Go.RowKit
set_option linter.unusedSimpArgs false
set_option linter.unusedVariables false
set_option maxRecDepth 100000

theorem Tc.gr {p g : Nat} {W w w' : World} (h : Tc p g w w') (G : Gr W w) (hp : W.heap.size ≤ p) (hg : W.heap.size ≤ g) : Gr W w' := ⟨G.out.trans (h.below hp hg G.size)⟩
theorem Tc.at_ {p g b : Nat} {W w w' : World} {c : CF} (h : Tc p g w w') (A : At W w b c) (hp : W.heap.size ≤ p) (hg : W.heap.size ≤ g) (h1 : b ≠ p) (h2 : b ≠ g) : At W w' b c :=
  ⟨A.new, h.gr A.gr hp hg, (h.block b (Array.getElem?_eq_some_iff.1 A.box).1 h1 h2).trans A.box⟩
theorem limit_v {w : World} {p g cap : Nat} {c : CF} {l : List Int} {k : Int} (h : Pol w p g cap c l k) (hl : 1 ≤ l.length) (x v : Int) (e : limP c (headP l) x = v) :
    Calls Try.prog 49 #[.pointer (some ⟨p, 0, none⟩), .int .i64 x] w fun e w' => ∃ k', e = .returned (.int .i64 v) ∧ Pol w' p g cap c l k' ∧ Tc p g w w' := e ▸ limit_any h hl x
theorem put_v {w : World} {p g cap : Nat} {c : CF} {l : List Int} {k : Int} (h : Pol w p g cap c l k) (hl : 1 ≤ l.length) (hm : l.length ≤ 1000) (r : Rts c) (n : Int) (hn : putB c n = true) (l' : List Int) (e : putP c l n = l') :
    Calls Try.prog 46 #[.pointer (some ⟨p, 0, none⟩), .int .i64 n] w fun e w' => ∃ g' cap', e = .returned (.int .i64 0) ∧ Pol w' p g' cap' c l' k ∧ Tc p g w w' ∧ w.heap.size ≤ g' := e ▸ put_ok h hl hm r n hn
theorem bounds_v (c : CF) (b x y : Int) (e1 : loB c b = x) (e2 : hiB c b = y) (w : World) : Calls Try.prog 53 #[.agg #[.int .i64 c.n, .int .i64 c.f, .int .i64 c.m, .int .i64 c.q, .int .i64 c.fresh, .int .i64 c.grace, .int .i64 c.window, .int .i64 c.t0, .int .i64 c.t1, .int .i64 c.t2, .int .i64 c.t3, .int .i64 c.tol, .int .i64 c.lo, .int .i64 c.hi, .int .i64 c.cup, .int .i64 c.cdn, .int .i64 c.pup, .int .i64 c.tup, .int .i64 c.pdn, .int .i64 c.tdn, .int .i64 c.per, .int .i64 c.far, .int .i64 c.str, .int .i64 c.pro, .int .i64 c.sec, .int .u64 c.seed], .int .i64 b] w fun e w' => e = .returned (.tuple #[.int .i64 x, .int .i64 y]) ∧ Gr w w' := e1 ▸ e2 ▸ bounds_any c b w
theorem base_v {w : World} {p g cap : Nat} {c : CF} {l : List Int} {k : Int} (h : Pol w p g cap c l k) (hl : 1 ≤ l.length) (v : Int) (e : headP l = v) :
    Calls Try.prog 50 #[.pointer (some ⟨p, 0, none⟩)] w fun e w' => e = .returned (.int .i64 v) ∧ w = w' := e ▸ base_any h hl
theorem rts_dflt : Rts dflt := by constructor <;> decide
theorem bounds_zero (w : World) : Calls Try.prog 53 #[.agg zero36, .int .i64 4] w fun e w' => e = .returned (.tuple #[.int .i64 0, .int .i64 0]) ∧ Gr w w' := bounds_v zeroC 4 0 0 (by decide) (by decide) w

set_option maxHeartbeats 4000000 in
theorem told15_any (w : World) : Calls Try.prog 51 #[] w fun e w' => e = .returned (.bool true) ∧ Gr w w' := by
  go_enter Try.func51, Try.ntmps51
  go_upto_region 1 with (fail)
  refine wp_region_lit ?_
  refine wpList_enter 38 #[] _ rfl (by kernel_rfl) (default_any w) fun w1 hg => ?_
  refine wpList_val (.pointer (some ⟨w1.heap.size, 0, none⟩)) (w1.alloc (.cells zero36 36)) rfl (xalloc36 ..) ?_
  refine wpList_skip' (w1.alloc (.cells #[.int .i64 dflt.n, .int .i64 dflt.f, .int .i64 dflt.m, .int .i64 dflt.q, .int .i64 dflt.fresh, .int .i64 dflt.grace, .int .i64 dflt.window, .int .i64 dflt.t0, .int .i64 dflt.t1, .int .i64 dflt.t2, .int .i64 dflt.t3, .int .i64 dflt.tol, .int .i64 dflt.lo, .int .i64 dflt.hi, .int .i64 dflt.cup, .int .i64 dflt.cdn, .int .i64 dflt.pup, .int .i64 dflt.tup, .int .i64 dflt.pdn, .int .i64 dflt.tdn, .int .i64 dflt.per, .int .i64 dflt.far, .int .i64 dflt.str, .int .i64 dflt.pro, .int .i64 dflt.sec, .int .u64 dflt.seed] 36)) rfl (xstore36_at rfl (by kernel_rfl) (by kernel_rfl) rfl rfl (by kernel_rfl)) ?_
  have A := start_at hg dflt
  have hbs : w1.heap.size < (w1.alloc (.cells #[.int .i64 dflt.n, .int .i64 dflt.f, .int .i64 dflt.m, .int .i64 dflt.q, .int .i64 dflt.fresh, .int .i64 dflt.grace, .int .i64 dflt.window, .int .i64 dflt.t0, .int .i64 dflt.t1, .int .i64 dflt.t2, .int .i64 dflt.t3, .int .i64 dflt.tol, .int .i64 dflt.lo, .int .i64 dflt.hi, .int .i64 dflt.cup, .int .i64 dflt.cdn, .int .i64 dflt.pup, .int .i64 dflt.tup, .int .i64 dflt.pdn, .int .i64 dflt.tdn, .int .i64 dflt.per, .int .i64 dflt.far, .int .i64 dflt.str, .int .i64 dflt.pro, .int .i64 dflt.sec, .int .u64 dflt.seed] 36)).heap.size := by simp
  generalize w1.alloc (.cells #[.int .i64 dflt.n, .int .i64 dflt.f, .int .i64 dflt.m, .int .i64 dflt.q, .int .i64 dflt.fresh, .int .i64 dflt.grace, .int .i64 dflt.window, .int .i64 dflt.t0, .int .i64 dflt.t1, .int .i64 dflt.t2, .int .i64 dflt.t3, .int .i64 dflt.tol, .int .i64 dflt.lo, .int .i64 dflt.hi, .int .i64 dflt.cup, .int .i64 dflt.cdn, .int .i64 dflt.pup, .int .i64 dflt.tup, .int .i64 dflt.pdn, .int .i64 dflt.tdn, .int .i64 dflt.per, .int .i64 dflt.far, .int .i64 dflt.str, .int .i64 dflt.pro, .int .i64 dflt.sec, .int .u64 dflt.seed] 36) = w2 at *
  generalize w1.heap.size = b at *
  clear hg
  have hk := A.conf
  go_wp2_with fail
  refine (bounds_v dflt 4 0 8 (by decide) (by decide) _).mono ?_
  rintro e w3 ⟨rfl, hg⟩
  have hs3 := hg.size
  replace A := A.on hg
  clear hg hk
  have hk := A.conf
  go_wp2_with fail
  refine (bounds_v dflt 10 5 20 (by decide) (by decide) _).mono ?_
  rintro e w4 ⟨rfl, hg⟩
  have hs4 := hg.size
  replace A := A.on hg
  clear hg hk
  have hk := A.conf
  go_wp2_with fail
  refine (new_ok dflt 4 (by decide) _).mono ?_
  rintro e w5 ⟨p, g, rfl, H, hp, hg5, hg⟩
  replace A := A.on hg
  have hws := A.new
  have hpw : w.heap.size ≤ p := by omega
  have hgw : w.heap.size ≤ g := by omega
  have hbp : b ≠ p := by omega
  have hbg : b ≠ g := by omega
  clear hg hk
  have hk := A.conf
  go_wp2_with fail
  refine (limit_v H (by decide) 50 8 (by decide)).mono ?_
  rintro e w6 ⟨k1, rfl, H1, T⟩
  replace A := T.at_ A hpw hgw hbp hbg
  clear H T hk
  have hk := A.conf
  go_wp2_with fail
  refine (put_v H1 (by decide) (by decide) rts_dflt 8 (by decide) [4, 8] (by decide)).mono ?_
  rintro e w7 ⟨g2, cap2, rfl, H2, T, hg2⟩
  have hs6 := (Array.getElem?_eq_some_iff.1 A.box).1
  have hs6' := A.gr.size
  replace A := T.at_ A hpw hgw hbp hbg
  have hgw2 : w.heap.size ≤ g2 := by omega
  have hbg2 : b ≠ g2 := by omega
  clear H1 T hk
  have hk := A.conf
  go_wp2_with fail
  refine (limit_v H2 (by decide) 50 8 (by decide)).mono ?_
  rintro e w8 ⟨k3, rfl, H3, T⟩
  replace A := T.at_ A hpw hgw2 hbp hbg2
  clear H2 T hk
  have hk := A.conf
  go_wp2_with fail
  refine (put_v H3 (by decide) (by decide) rts_dflt 8 (by decide) [8, 8] (by decide)).mono ?_
  rintro e w9 ⟨g4, cap4, rfl, H4, T, hg4⟩
  have hs8 := (Array.getElem?_eq_some_iff.1 A.box).1
  have hs8' := A.gr.size
  replace A := T.at_ A hpw hgw2 hbp hbg2
  have hgw4 : w.heap.size ≤ g4 := by omega
  have hbg4 : b ≠ g4 := by omega
  clear H3 T hk
  have hk := A.conf
  go_wp2_with fail
  refine (limit_v H4 (by decide) 50 16 (by decide)).mono ?_
  rintro e w10 ⟨k5, rfl, H5, T⟩
  replace A := T.at_ A hpw hgw4 hbp hbg4
  clear H4 T hk
  have hk := A.conf
  have hz := build36z
  go_wp2_with fail
  refine (bounds_zero _).mono ?_
  rintro e w11 ⟨rfl, hg⟩
  replace A := A.on hg
  replace H5 := H5.on hg
  clear hg hk hz
  have hk := A.conf
  go_wp2_with fail
  refine (limit_v H5 (by decide) 0 4 (by decide)).mono ?_
  rintro e w12 ⟨k6, rfl, H6, T⟩
  replace A := T.at_ A hpw hgw4 hbp hbg4
  clear H5 T hk
  have hk := A.conf
  go_wp2_with fail
  refine (base_v H6 (by decide) 8 (by decide)).mono ?_
  rintro e w13 ⟨rfl, rfl⟩
  go_wp2_with fail
  refine (all_any H6 (by decide) (by decide)).mono ?_
  rintro e w14 ⟨g7, cap7, rfl, _, _, hg⟩
  replace A := A.on hg
  replace H6 := H6.on hg
  clear hg hk
  have hk := A.conf
  go_wp2_with fail
  refine (put_no H6 0 (by decide)).mono ?_
  rintro e w15 ⟨rfl, rfl⟩
  go_wp2_with fail
  refine (set_no H6 rts_dflt none 0 0 [] (RI.nil_ _) (by decide)).mono ?_
  rintro e w16 ⟨rfl, hg⟩
  replace A := A.on hg
  replace H6 := H6.on hg
  clear hg hk
  have hk := A.conf
  go_wp2_with fail
  have gA := (Gr.refl w16).alloc (.cells #[.int .i64 9] 3)
  replace A := A.on gA
  replace H6 := H6.on gA
  have hr : RI (w16.alloc (.cells #[.int .i64 9] 3)) (some ⟨w16.heap.size, 0, none⟩) 1 [9] := ⟨rfl, by omega, fun _ => ⟨_, rfl, fun j hj => by
    obtain rfl : j = 0 := by omega
    rw [Addr.add_lit]
    exact cell_in (heap_new rfl) rfl⟩⟩
  refine (set_ok H6 rts_dflt _ 1 1 [9] hr (by decide)).mono ?_
  rintro e w17 ⟨g8, cap8, rfl, H8, T, hg8⟩
  replace A := T.at_ A hpw hgw4 hbp hbg4
  clear hr gA H6 T hk
  have hk := A.conf
  go_wp2_with fail
  refine (new_no dflt 0 (by decide) _).mono ?_
  rintro e w18 ⟨rfl, hg⟩
  replace A := A.on hg
  clear hg hk
  go_wp2_with fail
  refine (limit_none 1 _).mono ?_
  rintro e w19 ⟨rfl, rfl⟩
  go_wp2
  go_ret
  exact ⟨rfl, A.gr⟩
end Go.Proofs.Ytjobicffdcnnlaa
