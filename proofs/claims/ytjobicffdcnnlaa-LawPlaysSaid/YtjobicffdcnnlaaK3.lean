import Derived.Test.YtjobicffdcnnlaaT3
import Derived.Deep.AppendLies
/- slices.Max, slices.Min; calm's state, kept, last. -/
namespace Go.Proofs.Ytjobicffdcnnlaa
open Go.RowKit
set_option linter.unusedSimpArgs false
set_option linter.unusedVariables false
set_option maxRecDepth 100000

/-- The greatest, the least of the first k. -/
def maxT (zs : List Int) (k : Nat) : Int := ((zs.take k).drop 1).foldl max (zs.getD 0 0)
def minT (zs : List Int) (k : Nat) : Int := ((zs.take k).drop 1).foldl min (zs.getD 0 0)
theorem take_drop_succ (zs : List Int) {k : Nat} (h1 : 1 ≤ k) (h2 : k < zs.length) : (zs.take (k + 1)).drop 1 = (zs.take k).drop 1 ++ [zs.getD k 0] := by
  rw [List.take_succ_eq_append_getElem h2, List.drop_append_of_le_length (by simp; omega)]
  simp [List.getD_eq_getElem?_getD, List.getElem?_eq_getElem h2]
theorem maxT_step (zs : List Int) {k : Nat} (h1 : 1 ≤ k) (h2 : k < zs.length) : maxT zs (k + 1) = max (maxT zs k) (zs.getD k 0) := by
  unfold maxT
  rw [take_drop_succ zs h1 h2, List.foldl_append]
  rfl
theorem minT_step (zs : List Int) {k : Nat} (h1 : 1 ≤ k) (h2 : k < zs.length) : minT zs (k + 1) = min (minT zs k) (zs.getD k 0) := by
  unfold minT
  rw [take_drop_succ zs h1 h2, List.foldl_append]
  rfl
theorem maxT_one (zs : List Int) : maxT zs 1 = zs.getD 0 0 := by
  unfold maxT
  cases zs <;> rfl
theorem minT_one (zs : List Int) : minT zs 1 = zs.getD 0 0 := by
  unfold minT
  cases zs <;> rfl
def maxZ (zs : List Int) : Int := maxT zs zs.length
def minZ (zs : List Int) : Int := minT zs zs.length

set_option maxHeartbeats 1000000 in
theorem max_any (A : Option Addr) (n c : Nat) (zs : List Int) (w : World) (h : RI w A n zs) (hn : 1 ≤ n) : Calls Try.prog 104 #[.slice A n c] w fun e w' => e = .returned (.int .i64 (maxZ zs)) ∧ w = w' := by
  have e1 := h.1
  have hbig := h.2.1
  have hz : maxZ zs = maxT zs n := by unfold maxZ; rw [e1]
  rw [hz]
  clear hz
  have hn1 : ¬ ((n : Int) < 1) := by omega
  have hn2 : 1 ≤ (n : Int) := by omega
  obtain ⟨ad, rfl, h0⟩ := h.at_ (k := 0) (by omega)
  replace h0 : w.cell? ad = some (.int .i64 (zs.getD 0 0)) := h0
  have H := Lib.hid h; clear h
  have M1 := Lib.hid (maxT_one zs)
  generalize zs.getD 0 0 = x0 at h0 M1
  go_enter Try.func104, Try.ntmps104
  go_wp2_with fail
  go_loop [3, 4] (fun t i => ∃ k : Nat, 1 ≤ k ∧ k ≤ n ∧ i = .int .i64 k ∧ t = .int .i64 (maxT zs k)) (fun _ i => n - (intOf i).toNat)
  case atStart => exact ⟨1, by omega, hn, rfl, by rw [M1.out]⟩
  case round =>
    obtain ⟨k, hk0, hk, rfl, rfl⟩ := hrel
    by_cases q : k < n
    · obtain ⟨ad', e', hc⟩ := H.out.at_ q
      obtain rfl := Option.some.inj e'
      have hs := Lib.hid (maxT_step zs hk0 (by omega))
      generalize zs.getD k 0 = x at hc hs
      generalize maxT zs k = m at *
      go_wp2
      go_round
      case rel => exact ⟨k + 1, by omega, by omega, by first | rfl | go_num, by rw [hs.out]⟩
      case measure => simp [intOf]; omega
    · obtain rfl : k = n := by omega
      go_wp2
      go_ret
      exact ⟨rfl, rfl⟩
set_option maxHeartbeats 1000000 in
theorem min_any (A : Option Addr) (n c : Nat) (zs : List Int) (w : World) (h : RI w A n zs) (hn : 1 ≤ n) : Calls Try.prog 105 #[.slice A n c] w fun e w' => e = .returned (.int .i64 (minZ zs)) ∧ w = w' := by
  have e1 := h.1
  have hbig := h.2.1
  have hz : minZ zs = minT zs n := by unfold minZ; rw [e1]
  rw [hz]
  clear hz
  have hn1 : ¬ ((n : Int) < 1) := by omega
  have hn2 : 1 ≤ (n : Int) := by omega
  obtain ⟨ad, rfl, h0⟩ := h.at_ (k := 0) (by omega)
  replace h0 : w.cell? ad = some (.int .i64 (zs.getD 0 0)) := h0
  have H := Lib.hid h; clear h
  have M1 := Lib.hid (minT_one zs)
  generalize zs.getD 0 0 = x0 at h0 M1
  go_enter Try.func105, Try.ntmps105
  go_wp2_with fail
  go_loop [3, 4] (fun t i => ∃ k : Nat, 1 ≤ k ∧ k ≤ n ∧ i = .int .i64 k ∧ t = .int .i64 (minT zs k)) (fun _ i => n - (intOf i).toNat)
  case atStart => exact ⟨1, by omega, hn, rfl, by rw [M1.out]⟩
  case round =>
    obtain ⟨k, hk0, hk, rfl, rfl⟩ := hrel
    by_cases q : k < n
    · obtain ⟨ad', e', hc⟩ := H.out.at_ q
      obtain rfl := Option.some.inj e'
      have hs := Lib.hid (minT_step zs hk0 (by omega))
      generalize zs.getD k 0 = x at hc hs
      generalize minT zs k = m at *
      go_wp2
      go_round
      case rel => exact ⟨k + 1, by omega, by omega, by first | rfl | go_num, by rw [hs.out]⟩
      case measure => simp [intOf]; omega
    · obtain rfl : k = n := by omega
      go_wp2
      go_ret
      exact ⟨rfl, rfl⟩
end Go.Proofs.Ytjobicffdcnnlaa
/- calm's state; kept, last, New. -/
namespace Go.Proofs.Ytjobicffdcnnlaa
open Go.RowKit
set_option linter.unusedSimpArgs false
set_option linter.unusedVariables false
set_option maxRecDepth 100000

def calAt (up dn : Int) (v : Value) (k : Int) (i : Nat) : Option Value := (#[.int .i64 up, .int .i64 dn, v, .int .i64 k] : Array Value)[i]?
@[go_sem] theorem calAt_0 (up dn : Int) (v : Value) (k : Int) : calAt up dn v k 0 = some (.int .i64 up) := rfl
@[go_sem] theorem calAt_1 (up dn : Int) (v : Value) (k : Int) : calAt up dn v k 1 = some (.int .i64 dn) := rfl
@[go_sem] theorem calAt_2 (up dn : Int) (v : Value) (k : Int) : calAt up dn v k 2 = some v := rfl
@[go_sem] theorem calAt_3 (up dn : Int) (v : Value) (k : Int) : calAt up dn v k 3 = some (.int .i64 k) := rfl
/-- What was wanted: its block p, its row g (p: there is none yet). -/
structure Cal (w : World) (p g : Nat) (v : Value) (up dn : Int) (l : List Int) (k : Int) : Prop where
  box : w.heap[p]? = some (.cells #[.int .i64 up, .int .i64 dn, v, .int .i64 k] 124)
  row : (v = .slice none 0 0 ∧ l = [] ∧ g = p) ∨ (∃ cap, v = .slice (some ⟨g, 0, none⟩) l.length cap ∧ w.ownsRow g 3 1 (.slice (some ⟨g, 0, none⟩) l.length cap) l.length (l.map (.int .i64)) ∧ p ≠ g)
theorem Cal.lt {w : World} {p g : Nat} {v : Value} {up dn : Int} {l : List Int} {k : Int} (h : Cal w p g v up dn l k) : p < w.heap.size := (Array.getElem?_eq_some_iff.1 h.box).1
theorem Cal.glt {w : World} {p g : Nat} {v : Value} {up dn : Int} {l : List Int} {k : Int} (h : Cal w p g v up dn l k) : g < w.heap.size := by
  rcases h.row with ⟨_, _, e⟩ | ⟨_, _, o, _⟩
  · rw [e]; exact h.lt
  · exact own_lt o
theorem Cal.cell {w : World} {p g : Nat} {v : Value} {up dn : Int} {l : List Int} {k : Int} (h : Cal w p g v up dn l k) (off : Nat) : w.cell? ⟨p, off, none⟩ = calAt up dn v k off := by
  simp [World.cell?, h.box, calAt]
theorem Cal.froz {w : World} {p g : Nat} {v : Value} {up dn : Int} {l : List Int} {k : Int} (h : Cal w p g v up dn l k) (off : Nat) : w.frozen? ⟨p, off, none⟩ = false := frozen_in h.box
theorem Cal.on {w w' : World} {p g : Nat} {v : Value} {up dn : Int} {l : List Int} {k : Int} (h : Cal w p g v up dn l k) (r : Gr w w') : Cal w' p g v up dn l k :=
  ⟨r.block h.box, h.row.imp id fun ⟨cap, e, o, n⟩ => ⟨cap, e, own_of_block o (r.out.block g (own_lt o)), n⟩⟩
theorem Cal.other {w w' : World} {p g : Nat} {v : Value} {up dn : Int} {l : List Int} {k : Int} {q r : Nat} (h : Cal w p g v up dn l k) (t : Tc q r w w') (h1 : p ≠ q) (h2 : p ≠ r) (h3 : g ≠ q) (h4 : g ≠ r) : Cal w' p g v up dn l k :=
  ⟨(t.block p h.lt h1 h2).trans h.box, h.row.imp id fun ⟨cap, e, o, n⟩ => ⟨cap, e, own_of_block o (t.block g (own_lt o) h3 h4), n⟩⟩
theorem Cal.setK {w : World} {p g : Nat} {v : Value} {up dn : Int} {l : List Int} {k : Int} (h : Cal w p g v up dn l k) (k' : Int) : Cal (w.setCell ⟨p, 3, none⟩ (.int .i64 k')) p g v up dn l k' :=
  ⟨set_block h.box, h.row.imp id fun ⟨cap, e, o, n⟩ => ⟨cap, e, own_of_block o (Below.heap_setCell w _ _ g (Ne.symm n)), n⟩⟩
theorem Cal.setL {w : World} {p : Nat} {v : Value} {up dn : Int} {k : Int} (hb : w.heap[p]? = some (.cells #[.int .i64 up, .int .i64 dn, v, .int .i64 k] 124)) {g' cap' : Nat} {l' : List Int}
    (ho : w.ownsRow g' 3 1 (.slice (some ⟨g', 0, none⟩) l'.length cap') l'.length (l'.map (.int .i64))) (hne : p ≠ g') : Cal (w.setCell ⟨p, 2, none⟩ (.slice (some ⟨g', 0, none⟩) l'.length cap')) p g' (.slice (some ⟨g', 0, none⟩) l'.length cap') up dn l' k :=
  ⟨set_block hb, .inr ⟨cap', rfl, own_of_block ho (Below.heap_setCell w _ _ g' (Ne.symm hne)), hne⟩⟩

theorem kept_any {w : World} {p g : Nat} {v : Value} {up dn : Int} {l : List Int} {k : Int} (h : Cal w p g v up dn l k) (u0 : 0 ≤ up) (u1 : up ≤ 60) (d0 : 0 ≤ dn) (d1 : dn ≤ 60) :
    Calls Try.prog 103 #[.pointer (some ⟨p, 0, none⟩)] w fun e w' => e = .returned (.int .i64 (max up dn + 1)) ∧ Gr w w' := by
  go_enter Try.func103, Try.ntmps103
  go_upto_region 1 with (fail)
  refine wp_region_quiet_gw (by kernel_rfl) (by kernel_rfl) ?_
  have hc := fun s : Gw w => (h.on s.gr).cell
  repeat (go_big_quiet_step (fail))
  refine wpQuiet_nil fun s => ?_
  have G := s.gr
  clear hc h
  go_wp2
  all_goals
    go_ret
    exact ⟨ret_int (by omega), G⟩

set_option maxHeartbeats 1000000 in
theorem c_last_any {w : World} {p g cap : Nat} {up dn : Int} {l : List Int} {k : Int} (h : Cal w p g (.slice (some ⟨g, 0, none⟩) l.length cap) up dn l k) (hl : 1 ≤ l.length) (hm : l.length ≤ 1000) (hcap : l.length ≤ cap) (hcm : cap ≤ maxLen) (n : Nat) (hn : n ≤ 60) :
    Calls Try.prog 102 #[.pointer (some ⟨p, 0, none⟩), .int .i64 (n : Int)] w fun e w' => e = .returned (.slice (some ⟨g, l.length - (n + 1), none⟩) (l.length - (l.length - (n + 1))) (cap - (l.length - (n + 1)))) ∧ Gr w w' := by
  unfold maxLen at hcm
  have H := Lib.hid h; clear h
  generalize l.length = L at *
  have eD : (max ((L : Int) - (n : Int) - 1) 0).toNat = L - (n + 1) := by omega
  go_enter Try.func102, Try.ntmps102
  go_upto_region 1 with (fail)
  refine wp_region_quiet_gw (by kernel_rfl) (by kernel_rfl) ?_
  have hc := fun s : Gw w => (H.out.on s.gr).cell
  repeat (go_big_quiet_step (fail))
  refine wpQuiet_nil fun s => ?_
  have G := s.gr
  clear hc
  go_wp2
  go_ret
  exact ⟨rfl, G⟩

set_option maxHeartbeats 1000000 in
theorem c_new_any (up dn : Int) (u0 : 0 ≤ up) (u1 : up ≤ 60) (d0 : 0 ≤ dn) (d1 : dn ≤ 60) (w : World) : Calls Try.prog 92 #[.int .i64 up, .int .i64 dn] w fun e w' =>
    ∃ p, e = .returned (.pointer (some ⟨p, 0, none⟩)) ∧ Cal w' p p (.slice none 0 0) up dn [] 0 ∧ w.heap.size ≤ p ∧ Gr w w' := by
  go_enter Try.func92, Try.ntmps92
  go_upto_region 3 with (fail)
  refine wp_region_lit ?_
  refine wpList_val (.int .i64 up) w rfl (by kernel_rfl) ?_
  refine wpList_val (.int .i64 dn) w rfl (by kernel_rfl) ?_
  refine wpList_val (.agg #[.int .i64 up, .int .i64 dn, .slice none 0 0, .int .i64 0]) w rfl (by kernel_rfl) ?_
  refine wpList_val (.pointer (some ⟨w.heap.size, 0, none⟩)) (w.alloc (.cells #[.int .i64 up, .int .i64 dn, .slice none 0 0, .int .i64 0] 124)) rfl (by kernel_rfl) ?_
  go_wp2
  go_ret
  exact ⟨_, rfl, ⟨heap_new rfl, .inl ⟨rfl, rfl, rfl⟩⟩, Nat.le_refl _, (Gr.refl w).alloc _⟩
end Go.Proofs.Ytjobicffdcnnlaa
/- calm's Next. -/
namespace Go.Proofs.Ytjobicffdcnnlaa
open Go.RowKit
set_option linter.unusedSimpArgs false
set_option linter.unusedVariables false
set_option maxRecDepth 100000

def clampM (x : Int) : Int := min (max x 0) 1000000
/-- The last n of a list. -/
def lastN (n : Nat) (l : List Int) : List Int := l.drop (l.length - n)
def calL (up dn : Int) (l : List Int) (x : Int) : List Int := lastN ((max up dn).toNat + 1) (l ++ [clampM x])
def calV (up dn : Int) (l : List Int) (c : Int) : Int := min (maxZ (lastN (dn.toNat + 1) l)) (max (clampM c) (minZ (lastN (up.toNat + 1) l)))

theorem Cal.own {w : World} {p g : Nat} {v : Value} {up dn : Int} {l : List Int} {k : Int} (h : Cal w p g v up dn l k) : w.ownsRow 0 3 1 v l.length (l.map (.int .i64)) := by
  rcases h.row with ⟨rfl, rfl, _⟩ | ⟨cap, rfl, o, _⟩
  · exact World.ownsRow_nil _ _ _ _
  · obtain ⟨cur, h1, h2, h3, h4, h5⟩ := own_block o
    exact ⟨o.1, .inr ⟨g, cap, cur, rfl, Nat.zero_le _, h1, h2, h3, by simpa using h4, by simpa using h5⟩⟩
theorem Cal.blk {w : World} {p g : Nat} {v : Value} {up dn : Int} {l : List Int} {k : Int} (h : Cal w p g v up dn l k) : ∀ j, v.ownBlock = some j → j = g ∧ j ≠ p := by
  intro j hj
  rcases h.row with ⟨rfl, rfl, _⟩ | ⟨cap, rfl, o, n⟩
  · cases hj
  · cases hj; exact ⟨rfl, Ne.symm n⟩
theorem Tc.grown' {p g : Nat} {w w' : World} {x : Option Nat} (h : w.grownBy w' x) (hx : ∀ j, x = some j → j = g) : Tc p g w w' :=
  ⟨h.os, h.tape, h.output, h.size, fun k hk _ h2 => h.block k hk (fun e => h2 (hx k e.symm))⟩

set_option maxHeartbeats 4000000 in
theorem c_next_any {w : World} {p g : Nat} {v : Value} {up dn : Int} {l : List Int} {k : Int} (h : Cal w p g v up dn l k) (u0 : 0 ≤ up) (u1 : up ≤ 60) (d0 : 0 ≤ dn) (d1 : dn ≤ 60) (hl : l.length ≤ 900) (c x : Int) :
    Calls Try.prog 93 #[.pointer (some ⟨p, 0, none⟩), .int .i64 c, .int .i64 x] w fun e w' => ∃ g' v' k', e = .returned (.int .i64 (calV up dn (calL up dn l x) c)) ∧ Cal w' p g' v' up dn (calL up dn l x) k' ∧ Tc p g w w' ∧ w.heap.size ≤ g' := by
  have hc3 : w.cell? ⟨p, 3, none⟩ = some (.int .i64 k) := h.cell 3
  have hz3 := h.froz 3
  have H := h.setK (wrap64 (k + 1))
  have T := Tc.cellp p g 3 w (.int .i64 (wrap64 (k + 1)))
  clear h
  obtain ⟨U, rfl⟩ : ∃ U : Nat, up = (U : Int) := ⟨up.toNat, by omega⟩
  obtain ⟨D, rfl⟩ : ∃ D : Nat, dn = (D : Int) := ⟨dn.toNat, by omega⟩
  have ec : clampM c = min (max c 0) 1000000 := rfl
  have ex : clampM x = min (max x 0) 1000000 := rfl
  go_enter Try.func93, Try.ntmps93
  go_upto_region 4 with ((go_at_call 89; refine (add_any p 3 k 1 _ hc3 hz3).mono ?_; rintro e w1 ⟨rfl, rfl⟩))
  clear hc3 hz3
  have hsw : w.heap.size ≤ (World.setCell w ⟨p, 3, none⟩ (.int .i64 (wrap64 (k + 1)))).heap.size := T.size
  generalize World.setCell _ _ _ = w1 at *
  go_upto_region 5 with (fail)
  rw [← ec, ← ex]
  have EC := Lib.hid ec
  clear ec ex EC
  have eL0 : calL U D l x = lastN ((max (U : Int) D).toNat + 1) (l ++ [clampM x]) := rfl
  have eV0 : ∀ l', calV U D l' c = min (maxZ (lastN (D + 1) l')) (max (clampM c) (minZ (lastN (U + 1) l'))) := fun _ => rfl
  have EL := Lib.hid eL0
  have EV := Lib.hid eV0
  clear eL0 eV0
  generalize clampM x = y at *
  generalize clampM c = cc at *
  obtain ⟨i0, hi, hz0, hz1, hz2⟩ := info_parts info3
  have hc := H.cell
  have hw := H.own.alloc (.cells #[.int .i64 y] 3)
  have hlt0 := H.lt
  obtain ⟨N, hN⟩ : ∃ N, l.length = N := ⟨_, rfl⟩
  rw [hN] at hw hl
  have HH := Lib.hid H
  clear H
  go_wp2_with (at_builtin; refine wpList_append_lies _ rfl _ _ 45 rfl 0 3 i0 (.int .i64 0) 1 8 Try.underlying45 hi hz0 hz1 hz2 rfl (by decide) _ _ _ rfl hw ⟨w1.heap.size, 0, none⟩ 1 1 [.int .i64 y] rfl ?qc1 ?qc2 ?qc3 (by omega) ?qc4 ?qc5 ?qc6 _ rfl ?_)
  case qc1 => simp
  case qc2 =>
    intro j u hj
    have hj0 : j = 0 := by
      have := (List.getElem?_eq_some_iff.1 hj).1
      simp at this; exact this
    subst hj0
    rw [Addr.add_lit, ← hj]
    exact cell_in (heap_new rfl) rfl
  case qc3 => intro u hu; simp at hu; subst hu; rfl
  case qc4 => unfold maxLen; omega
  case qc5 => omega
  case qc6 => omega
  intro g1 cap1 w2 hown hgrow hat hlt
  have H := HH.out
  clear HH hw hc
  have hs1 : (w1.alloc (.cells #[.int .i64 y] 3)).heap.size = w1.heap.size + 1 := by simp
  have ho1 : w2.ownsRow g1 3 1 (.slice (some ⟨g1, 0, none⟩) (l ++ [y]).length cap1) (l ++ [y]).length ((l ++ [y]).map (.int .i64)) := by
    have e : (l ++ [y]).length = N + 1 := by simp [hN]
    rw [e]
    exact own_re (by simpa using hown)
  have T2 : Tc p g w1 w2 := (Tc.of_gr ((Gr.refl w1).alloc _)).trans (Tc.grown' hgrow (fun j hj => (H.blk j hj).1))
  have hpg : p ≠ g1 := hat.elim (fun e => (H.blk g1 e).2.symm) (fun e => by omega)
  have hbox : w2.heap[p]? = some (.cells #[.int .i64 U, .int .i64 D, v, .int .i64 (wrap64 (k + 1))] 124) := by
    rw [hgrow.block p (by omega) (fun e => (H.blk p e.symm).2 rfl), Below.heap_alloc _ _ _ hlt0]
    exact H.box
  replace T := T.trans T2
  have hsz2 := hgrow.size
  clear T2 hgrow hown hat H
  have hc : ∀ off, w2.cell? ⟨p, off, none⟩ = calAt U D v (wrap64 (k + 1)) off := fun off => by simp [World.cell?, hbox, calAt]
  have hz : ∀ off, w2.frozen? ⟨p, off, none⟩ = false := fun off => frozen_in hbox
  as_aux_lemma =>
    go_upto_region 6 with (fail)
    have e : (l ++ [y]).length = N + 1 := by simp [hN]
    have H3 := Cal.setL hbox ho1 hpg
    rw [e] at H3
    replace T := T.trans (Tc.cellp p g 2 w2 (.slice (some ⟨g1, 0, none⟩) (N + 1) cap1))
    have hw3 := T.size
    have hcp : N + 1 ≤ cap1 ∧ cap1 ≤ maxLen := by
      obtain ⟨cur, q1, q2, q3, _⟩ := own_block ho1
      exact ⟨by omega, q3⟩
    clear hc hz hbox ho1
    generalize World.setCell _ _ _ = w3 at *
    obtain ⟨M, hM⟩ : ∃ M : Nat, max (U : Int) D = (M : Int) := ⟨max U D, by omega⟩
    have hM6 : M ≤ 60 := by omega
    have hk := kept_any H3 u0 u1 d0 d1
    rw [hM] at hk
    rw [hM] at EL
    have hl' : calL U D l x = lastN (M + 1) (l ++ [y]) := by rw [EL.out]; rfl
    obtain ⟨O, hO⟩ : ∃ O, N + 1 - (M + 1) = O := ⟨_, rfl⟩
    have hOn : O ≤ N := by omega
    have hlen2 : (lastN (M + 1) (l ++ [y])).length = N + 1 - (O) := by unfold lastN; rw [List.length_drop, e, hO]
    have hrow3 := H3.row
    obtain ⟨L, hL⟩ : ∃ L, lastN (M + 1) (l ++ [y]) = L := ⟨_, rfl⟩
    have hcells : ∀ (w' : World), Gr w3 w' → ∀ j, j < L.length → w'.cell? ⟨g1, (O) + j, none⟩ = some (.int .i64 (L.getD j 0)) := fun w' r j hj => by
      rcases (H3.on r).row with ⟨q1, _, _⟩ | ⟨cp, q1, o, _⟩
      · cases q1
      · have hj' : (O) + j < (l ++ [y]).length := by rw [← hL] at hj; omega
        rw [own_cell o hj', ← hL]
        unfold lastN
        rw [e, hO]
        simp [List.getD_eq_getElem?_getD]
    rw [hL] at hlen2
    have HLE := Lib.hid (hl'.trans hL)
    have HC := Lib.hid hcells
    clear hcells hrow3 hl'
    have HLl := Lib.hid hL
    clear hL
    have e' := e
    have hla := fun (w' : World) (r : Gr w3 w') => c_last_any (w := w') (cap := cap1) (l := l ++ [y]) (by rw [e]; exact H3.on r) (by omega) (by omega) (by omega) hcp.2 M hM6
    rw [e, hO] at hla
    have HLA := Lib.hid hla
    clear hla
    go_wp2_with fail
    refine hk.mono ?_
    rintro e3 w4 ⟨rfl, hg4⟩
    go_wp2_with fail
    refine (HLA.out _ hg4).mono ?_
    rintro e4 w5 ⟨rfl, hg5⟩
    have hg35 := hg4.trans hg5
    go_wp2_with fail
    refine (clone_any g1 (O) _ _ L w5 hlen2 (by omega) (by omega) (HC.out _ hg35)).mono ?_
    rintro e5 w6 ⟨g2, cap2, rfl, ho, hg2, hgr⟩
    have G36 := hg35.trans hgr
    have H6 := H3.on G36
    replace T := T.trans (Tc.of_gr G36)
    have hc6 := H6.cell
    have hz6 := H6.froz
    have hp3 := H3.lt
    have s35 := hg35.size
    have hne2 : p ≠ g2 := by omega
    have hsz6 : w.heap.size ≤ g2 := by omega
    clear hk HC HLA hg4 hg5 hg35 hgr G36 H3
    go_upto_region 7 with (fail)
    have H7 := Cal.setL (l' := L) (cap' := cap2) H6.box (by rw [hlen2]; exact ho) hne2
    replace T := T.trans (Tc.cellp p g 2 w6 (.slice (some ⟨g2, 0, none⟩) L.length cap2))
    rw [hlen2] at H7 T
    have hown7 := ho
    clear hc6 hz6 H6
    generalize World.setCell _ _ _ = w7 at *
    have hcp2 : N + 1 - (O) ≤ cap2 ∧ cap2 ≤ maxLen := by
      obtain ⟨cur, q1, q2, q3, _⟩ := own_block hown7
      exact ⟨q2, q3⟩
    obtain ⟨R, hR⟩ : ∃ R, N + 1 - O = R := ⟨_, rfl⟩
    rw [hR] at H7 hlen2 hcp2 ⊢
    have hR1 : 1 ≤ R := by omega
    have hR2 : R ≤ 1000 := by omega
    have hUM : U ≤ M := by omega
    have hDM : D ≤ M := by omega
    have hcel : ∀ (w' : World), Gr w7 w' → ∀ n, RI w' (some ⟨g2, R - (n + 1), none⟩) (R - (R - (n + 1))) (lastN (n + 1) L) := fun w' r n => by
      rcases (H7.on r).row with ⟨q1, _, _⟩ | ⟨cp, q1, o, _⟩
      · cases q1
      · refine ⟨by unfold lastN; rw [List.length_drop, hlen2], by omega, fun _ => ⟨_, rfl, fun j hj => ?_⟩⟩
        rw [Addr.add_lit, own_cell o (by omega)]
        unfold lastN
        rw [hlen2]
        simp [List.getD_eq_getElem?_getD]
    have HRI := Lib.hid hcel
    have hla := fun (w' : World) (r : Gr w7 w') (n : Nat) (hn : n ≤ 60) => c_last_any (w := w') (cap := cap2) (l := L) (by rw [hlen2]; exact H7.on r) (by omega) (by omega) (by omega) hcp2.2 n hn
    rw [hlen2] at hla
    have HLA := Lib.hid hla
    have HMX := Lib.hid (fun (w' : World) (r : Gr w7 w') (cc : Nat) => max_any _ _ cc _ w' (hcel w' r D) (by omega))
    have HMN := Lib.hid (fun (w' : World) (r : Gr w7 w') (cc : Nat) => min_any _ _ cc _ w' (hcel w' r U) (by omega))
    clear hcel hla
    as_aux_lemma =>
      refine wp_region_quiet_gw (by kernel_rfl) (by kernel_rfl) ?_
      have hc := fun s : Gw w7 => (H7.on s.gr).cell
      repeat (go_big_quiet_step (first
        | (go_at_call 102; exact q_gr (HLA.out _ (Gw.gr _) _ (by omega)))
        | (go_at_call 104; exact q_gr ((HMX.out _ (Gw.gr _) _).mono fun _ _ ⟨r1, r2⟩ => ⟨r1, r2 ▸ Gr.refl _⟩))
        | (go_at_call 105; exact q_gr ((HMN.out _ (Gw.gr _) _).mono fun _ _ ⟨r1, r2⟩ => ⟨r1, r2 ▸ Gr.refl _⟩))))
      refine wpQuiet_nil fun s => ?_
      have H8 := H7.on s.gr
      have T8 := T.trans (Tc.of_gr s.gr)
      clear hc HLA HMX HMN HRI H7 T
      go_wp2
      all_goals
        go_ret
        have H9 := H8
        rw [← HLE.out] at H9
        exact ⟨g2, _, _, ret_int (by rw [HLE.out, EV.out]), H9, T8, hsz6⟩
end Go.Proofs.Ytjobicffdcnnlaa
