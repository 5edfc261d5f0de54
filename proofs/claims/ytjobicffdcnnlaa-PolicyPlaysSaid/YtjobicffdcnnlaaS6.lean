import Derived.Test.YtjobicffdcnnlaaS5
/- Set of the program's policy. -/
namespace Go.Proofs.Ytjobicffdcnnlaa
open Go.RowKit
set_option linter.unusedSimpArgs false
set_option linter.unusedVariables false
set_option maxRecDepth 100000

def badX (c : CF) (x : Int) : Bool := decide (x < c.lo) || decide (c.hi < x)
theorem setB_bad (c : CF) (l : List Int) : (l.all fun x => decide (c.lo ≤ x) && decide (x ≤ c.hi)) = !(l.any (badX c)) := by
  rw [List.not_any_eq_all_not]
  congr 1
  funext x
  unfold badX
  by_cases h1 : x < c.lo <;> by_cases h2 : c.hi < x <;> simp [h1, h2] <;> omega

theorem set1_any {w : World} {p g cap bx : Nat} {c : CF} {l : List Int} {k : Int} (h : Pol w p g cap c l k) (hb : w.cell? ⟨bx, 0, none⟩ = some (.pointer (some ⟨p, 0, none⟩))) (x : Int) :
    Calls Try.prog 88 #[.int .i64 x, .pointer (some ⟨bx, 0, none⟩)] w fun e w' => e = .returned (.bool (badX c x)) ∧ w = w' := by
  have hc := h.cell
  clear h
  unfold badX
  by_cases h0 : x < c.lo
  all_goals
    go_enter Try.func88, Try.ntmps88
    go_wp2
    go_ret
    exact ⟨ret_bool (by first | (simp [h0]; done) | (simp [h0]; omega)), rfl⟩

set_option maxHeartbeats 2000000 in
theorem index_any {w : World} {p g cap bx : Nat} {c : CF} {l : List Int} {k : Int} (h : Pol w p g cap c l k) (hb : w.cell? ⟨bx, 0, none⟩ = some (.pointer (some ⟨p, 0, none⟩))) (A : Option Addr) (n cp : Nat) (zs : List Int) (hr : RI w A n zs) :
    Calls Try.prog 100 #[.slice A n cp, .func (.func 88) #[] #[.pointer (some ⟨bx, 0, none⟩)]] w fun e w' => (∃ i : Int, e = .returned (.int .i64 i) ∧ decide (0 ≤ i) = zs.any (badX c)) ∧ w = w' := by
  have hf := fun x => set1_any h hb x
  have hlen := hr.1
  have hbig := hr.2.1
  have H := Lib.hid hr; clear hr h hb
  have H0 : Hid ((zs.drop 0).any (badX c) = zs.any (badX c)) := Lib.hid (by rw [List.drop_zero])
  generalize zs.any (badX c) = R at *
  go_enter Try.func100, Try.ntmps100
  go_wp2_with fail
  go_loop [8] (fun i => ∃ k : Nat, k ≤ n ∧ i = .int .i64 k ∧ Hid ((zs.drop k).any (badX c) = R)) (fun i => n - (intOf i).toNat)
  case atStart => exact ⟨0, by omega, rfl, H0⟩
  case round =>
    obtain ⟨k, hk, rfl, hR⟩ := hrel
    by_cases h1 : k < n
    · obtain ⟨ad, rfl, hc⟩ := H.out.at_ h1
      have hd : (zs.drop k).any (badX c) = (badX c (zs.getD k 0) || (zs.drop (k + 1)).any (badX c)) := by
        rw [List.drop_eq_getElem_cons (by omega), List.any_cons, List.getD_eq_getElem?_getD, List.getElem?_eq_getElem (show k < zs.length by omega)]
        rfl
      have hR' := hR.out
      rw [hd] at hR'
      clear hR hd
      generalize zs.getD k 0 = x at *
      have hfx := hf x
      cases hx : badX c x with
      | true =>
        rw [hx] at hfx hR'
        have e : R = true := by simpa using hR'.symm
        clear hR' hx hf
        subst e
        go_wp2_with (go_at_call 88; refine hfx.mono ?_; rintro e w' ⟨rfl, rfl⟩)
        go_ret
        exact ⟨⟨_, rfl, by simp⟩, rfl⟩
      | false =>
        rw [hx] at hfx hR'
        have hn : Hid ((zs.drop (k + 1)).any (badX c) = R) := Lib.hid (by simpa using hR')
        clear hR' hx hf
        go_wp2_with (go_at_call 88; refine hfx.mono ?_; rintro e w' ⟨rfl, rfl⟩)
        go_round
        case rel => exact ⟨k + 1, by omega, by first | rfl | go_num, hn⟩
        case measure => simp [intOf]; omega
    · have e : R = false := by rw [← hR.out, List.drop_eq_nil_of_le (by omega)]; rfl
      clear hR
      subst e
      go_wp2
      go_ret
      exact ⟨⟨_, rfl, by simp⟩, rfl⟩
theorem contains_any {w : World} {p g cap bx : Nat} {c : CF} {l : List Int} {k : Int} (h : Pol w p g cap c l k) (hb : w.cell? ⟨bx, 0, none⟩ = some (.pointer (some ⟨p, 0, none⟩))) (A : Option Addr) (n cp : Nat) (zs : List Int) (hr : RI w A n zs) (b : Bool) (e : zs.any (badX c) = b) :
    Calls Try.prog 87 #[.slice A n cp, .func (.func 88) #[] #[.pointer (some ⟨bx, 0, none⟩)]] w fun e w' => e = .returned (.bool b) ∧ w = w' := by
  have K := index_any h hb A n cp zs hr
  rw [e] at K
  have HK := Lib.hid K
  clear K h hb hr e
  go_enter Try.func87, Try.ntmps87
  go_wp2_with fail
  refine HK.out.mono ?_
  rintro e w' ⟨⟨i, rfl, hi⟩, rfl⟩
  clear HK
  cases b
  all_goals
    simp at hi
    go_wp2
    go_ret
    exact ⟨by simp [hi] <;> omega, rfl⟩
end Go.Proofs.Ytjobicffdcnnlaa
