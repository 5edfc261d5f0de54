import Derived.Test.YtjobicffdcnnlaaR2
namespace Go.Proofs.Ytjobicffdcnnlaa
open Go.RowKit

theorem heap_new {w : World} {o : Obj} {b : Nat} (h : b = w.heap.size) : (w.alloc o).heap[b]? = some o := by subst h; show (w.heap.push o)[w.heap.size]? = _; simp
theorem heap_old {w : World} {o o' : Obj} {b : Nat} (h : w.heap[b]? = some o') : (w.alloc o).heap[b]? = some o' :=
  (Below.heap_alloc w o b (Array.getElem?_eq_some_iff.1 h).1).trans h
theorem size_alloc (w : World) (o : Obj) : (w.alloc o).heap.size = w.heap.size + 1 := by show (w.heap.push o).size = _; simp

theorem RI.two (w : World) (b : Nat) (t : TypeId) (x y : Int) (h : w.heap[b]? = some (.cells #[.int .i64 x, .int .i64 y] t)) : RI w (some ⟨b, 0, none⟩) 2 [x, y] :=
  ⟨rfl, by omega, fun _ => ⟨_, rfl, fun j hj => by
    match j, hj with
    | 0, _ => simp [World.cell?, Addr.add, h]
    | 1, _ => simp [World.cell?, Addr.add, h]⟩⟩

set_option maxRecDepth 100000 in
theorem told13_any (w : World) : Calls Try.prog 29 #[] w fun e w' => e = .returned (.bool true) ∧ Below w.heap.size w w' := by
  have hw := want_any
  have hi := in_any
  have k1 : wantV 4 1500 1000 100 = 6 := by decide +kernel
  have k2 : wantV 4 1100 1000 100 = 4 := by decide +kernel
  have k3 : wantV 4 1101 1000 100 = 5 := by decide +kernel
  have k4 : wantV 4 900 1000 100 = 4 := by decide +kernel
  have k5 : wantV 4 0 1000 100 = 0 := by decide +kernel
  have k6 : wantV (-1) 1500 1000 100 = 0 := by decide +kernel
  have k7 : inB 900 1000 100 = true := by decide +kernel
  have k8 : inB 899 1000 100 = false := by decide +kernel
  have k9 : inB (-1) 1 1000 = false := by decide +kernel
  go_enter Try.func29, Try.ntmps29
  go_wp2_with fail
  refine (most_any 4 100 _ _ _ _ _ _ [1500, 500] [1000, 1000] _ ?_ ?_).mono ?_
  · exact RI.two _ _ _ _ _ (heap_old (heap_new rfl))
  · exact RI.two _ _ _ _ _ (heap_new (size_alloc _ _).symm)
  rw [show mostV 4 100 [1500, 500] [1000, 1000] = some 6 from by decide +kernel]
  rintro e w' ⟨rfl, rfl⟩
  go_wp2_with fail
  refine (most_any 4 100 _ _ _ _ _ _ [] [] _ (RI.nil_ _) (RI.nil_ _)).mono ?_
  rw [show mostV 4 100 [] [] = none from by decide +kernel]
  rintro e w' ⟨rfl, rfl⟩
  go_wp2_with (first | (go_at_call 34; refine (hw _ _ _ _ _).mono ?_; rintro e w' ⟨rfl, rfl⟩) | (go_at_call 32; refine (hi _ _ _ _).mono ?_; rintro e w' ⟨rfl, rfl⟩))

  go_ret
  exact ⟨rfl, ((Below.refl _ _).alloc (Nat.le_refl _) _).alloc (by simp) _⟩
end Go.Proofs.Ytjobicffdcnnlaa
