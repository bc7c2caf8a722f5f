/- The calls of a nil ring whose order of evaluation is drawn. -/
import Derived.Test.YteohaebhnenabaaGreatDoorKnil
import Derived.Deep.RegionHeld3
namespace Go.Proofs.YteohaebhnenabaaGreatDoor
open Go.RowKit

set_option maxRecDepth 100000

/-- five cells in block B, and nothing below B has changed -/
def Five (B : Nat) (v0 v1 v2 v3 v4 : Value) (w w' : World) : Prop :=
  Below B w w' ∧ B < w'.heap.size ∧ w'.cell? ⟨B, 0, none⟩ = some v0 ∧ w'.cell? ⟨B, 1, none⟩ = some v1 ∧ w'.cell? ⟨B, 2, none⟩ = some v2 ∧ w'.cell? ⟨B, 3, none⟩ = some v3 ∧ w'.cell? ⟨B, 4, none⟩ = some v4

theorem Five.below {B : Nat} {v0 v1 v2 v3 v4 : Value} {w a b : World} (h : Five B v0 v1 v2 v3 v4 w a) (hb : Below a.heap.size a b) : Five B v0 v1 v2 v3 v4 w b :=
  ⟨h.1.trans (hb.mono (by have := h.2.1; omega)), Nat.lt_of_lt_of_le h.2.1 hb.size, (hb.cell (p := ⟨B, 0, none⟩) h.2.1).trans h.2.2.1, (hb.cell (p := ⟨B, 1, none⟩) h.2.1).trans h.2.2.2.1, (hb.cell (p := ⟨B, 2, none⟩) h.2.1).trans h.2.2.2.2.1, (hb.cell (p := ⟨B, 3, none⟩) h.2.1).trans h.2.2.2.2.2.1, (hb.cell (p := ⟨B, 4, none⟩) h.2.1).trans h.2.2.2.2.2.2⟩

theorem Five.start (v0 v1 v2 v3 v4 : Value) (w : World) (t : TypeId) : Five w.heap.size v0 v1 v2 v3 v4 w ((w.alloc (.cells #[v0, v1, v2, v3, v4] t)).drew) :=
  ⟨((Below.refl _ _).alloc (Nat.le_refl _) _).drew, by simp, cell_of (heap_alloc_new _ _) 0, cell_of (heap_alloc_new _ _) 1, cell_of (heap_alloc_new _ _) 2, cell_of (heap_alloc_new _ _) 3, cell_of (heap_alloc_new _ _) 4⟩

set_option maxHeartbeats 4000000 in
theorem change_ring (p : Value) (v0 v1 v2 v3 v4 : Value) (w : World) :
    Calls Tryz.prog 13 #[.pointer none, p, .slice none 0 0, .int .i64 0, .agg #[v0, v1, v2, v3, v4]] w (Ans (.int .i64 1) w) := by
  go_enter Tryz.func13, Tryz.ntmps13
  go_wp2
  have hS0 := Five.start v0 v1 v2 v3 v4 w 24
  generalize hW : w.alloc (.cells #[v0, v1, v2, v3, v4] 24) = W at hS0 ⊢
  clear hW
  go_region_held3 (fun w' => Below w.heap.size w w' ∧ w.heap.size < w'.heap.size ∧ w'.cell? ⟨w.heap.size, 0, none⟩ = some v0 ∧ w'.cell? ⟨w.heap.size, 1, none⟩ = some v1 ∧ w'.cell? ⟨w.heap.size, 2, none⟩ = some v2 ∧ w'.cell? ⟨w.heap.size, 3, none⟩ = some v3 ∧ w'.cell? ⟨w.heap.size, 4, none⟩ = some v4) (first | exact hS0 | exact Five.below (by assumption) hb)
    (first | (go_at_call 34; refine (numbered_any 0 _ (by decide) (by decide)).mono ?_; rintro e w' ⟨rfl, rfl⟩) | (go_at_call 33; refine (allowed_nil _ _ _ _).mono ?_; rintro e w' ⟨rfl, hb⟩))
  have HF : Hid (Below w.heap.size w w') := Lib.hid (Five.below (by assumption) hb).1
  clear hb hS0
  go_wp2
  go_ret
  exact ⟨rfl, HF.out⟩

set_option maxHeartbeats 4000000 in
theorem add_ring (p : Value) (v0 v1 v2 v3 v4 : Value) (w : World) :
    Calls Tryz.prog 5 #[.pointer none, p, .slice none 0 0, .int .i64 (-1), .agg #[v0, v1, v2, v3, v4]] w (Ans (.tuple #[.int .i64 (-1), .int .i64 1]) w) := by
  go_enter Tryz.func5, Tryz.ntmps5
  go_wp2
  have hS0 := Five.start v0 v1 v2 v3 v4 w 24
  generalize hW : w.alloc (.cells #[v0, v1, v2, v3, v4] 24) = W at hS0 ⊢
  clear hW
  refine wp_region_held_drew (S := (fun w' => Five w.heap.size v0 v1 v2 v3 v4 w w')) (by kernel_rfl) hS0 (fun _ => ?_)
  refine wpAnyH_take (i := 0) (oi := ⟨some 15, _, _, _, _, _⟩) (v := .pointer none) rfl (by kernel_rfl) (by kernel_rfl) (by kernel_rfl) (fun _ _ _ h => h) (Or.inl ⟨by rfl, ?_⟩) (by assumption) ?_
  · intro w hSw
    go_simp
  try simp only [Act.put, List.setIfInBounds_toArray, List.set_cons_zero, List.set_cons_succ]
  refine wpAnyH_take (i := 1) (oi := ⟨some 16, _, _, _, _, _⟩) (v := p) rfl (by kernel_rfl) (by kernel_rfl) (by kernel_rfl) (fun _ _ _ h => h) (Or.inl ⟨by rfl, ?_⟩) (by assumption) ?_
  · intro w hSw
    go_simp
  try simp only [Act.put, List.setIfInBounds_toArray, List.set_cons_zero, List.set_cons_succ]
  refine wpAnyH_take (i := 2) (oi := ⟨some 17, _, _, _, _, _⟩) (v := .slice none 0 0) rfl (by kernel_rfl) (by kernel_rfl) (by kernel_rfl) (fun _ _ _ h => h) (Or.inl ⟨by rfl, ?_⟩) (by assumption) ?_
  · intro w hSw
    go_simp
  try simp only [Act.put, List.setIfInBounds_toArray, List.set_cons_zero, List.set_cons_succ]
  refine wpAnyH_take (i := 3) (oi := ⟨some 18, _, _, _, _, _⟩) (v := .int .i64 (-1)) rfl (by kernel_rfl) (by kernel_rfl) (by kernel_rfl) (fun _ _ _ h => h) (Or.inl ⟨by rfl, ?_⟩) (by assumption) ?_
  · intro w hSw
    go_simp
  try simp only [Act.put, List.setIfInBounds_toArray, List.set_cons_zero, List.set_cons_succ]
  refine wpAnyH_take (i := 4) (oi := ⟨some 19, _, _, _, _, _⟩) (v := .bool true) rfl (by kernel_rfl) (by kernel_rfl) (by kernel_rfl) (fun _ _ _ h => h) (Or.inl ⟨by rfl, ?_⟩) (by assumption) ?_
  · intro w hSw
    go_simp
  try simp only [Act.put, List.setIfInBounds_toArray, List.set_cons_zero, List.set_cons_succ]
  refine wpAnyH_take (i := 5) (oi := ⟨some 20, _, _, _, _, _⟩) (v := .bool true) rfl (by kernel_rfl) (by kernel_rfl) (by kernel_rfl) (fun _ _ _ h => h) (Or.inl ⟨by rfl, ?_⟩) (by assumption) ?_
  · intro w hSw
    go_simp
  try simp only [Act.put, List.setIfInBounds_toArray, List.set_cons_zero, List.set_cons_succ]
  refine wpAnyH_take (i := 9) (oi := ⟨some 24, _, _, _, _, _⟩) (v := .agg #[v0, v1, v2, v3, v4]) rfl (by kernel_rfl) (by kernel_rfl) (by kernel_rfl) (fun _ _ _ h => h) (Or.inl ⟨by rfl, ?_⟩) (by assumption) ?_
  · intro w hSw
    obtain ⟨z1, z2, c0, c1, c2, c3, c4⟩ := hSw
    go_simp
  try simp only [Act.put, List.setIfInBounds_toArray, List.set_cons_zero, List.set_cons_succ]
  refine wpAnyH_take (i := 6) (oi := ⟨some 21, _, _, _, _, _⟩) (v := undef) rfl (by kernel_rfl) (by kernel_rfl) (by kernel_rfl) (fun _ _ _ h => h) (Or.inr ⟨by rfl, rfl⟩) (by assumption) ?_
  try simp only [Act.put, List.setIfInBounds_toArray, List.set_cons_zero, List.set_cons_succ]
  refine wpAnyH_take (i := 7) (oi := ⟨some 22, _, _, _, _, _⟩) (v := undef) rfl (by kernel_rfl) (by kernel_rfl) (by kernel_rfl) (fun _ _ _ h => h) (Or.inr ⟨by rfl, rfl⟩) (by assumption) ?_
  try simp only [Act.put, List.setIfInBounds_toArray, List.set_cons_zero, List.set_cons_succ]
  refine wpAnyH_take (i := 8) (oi := ⟨some 23, _, _, _, _, _⟩) (v := .bool true) rfl (by kernel_rfl) (by kernel_rfl) (by kernel_rfl) (fun _ _ _ h => h) (Or.inl ⟨by rfl, ?_⟩) (by assumption) ?_
  · intro w hSw
    go_simp
  try simp only [Act.put, List.setIfInBounds_toArray, List.set_cons_zero, List.set_cons_succ]
  refine wpAnyH_ready (rs := [10]) (by kernel_rfl) (by simp) ?_
  refine AllReadyH.cons (o := ⟨some 25, _, _, _, _, _⟩) rfl (fun Kc hK => ?_) AllReadyH.nil
  go_simp
  go_at_call 33
  refine (allowed_nil _ _ _ _).mono ?_
  rintro e w' ⟨rfl, hb⟩
  refine hK.out _ _ (Five.below (by assumption) hb) (fun _ => ?_)
  clear hK
  try simp only [Act.put, List.setIfInBounds_toArray, List.set_cons_zero, List.set_cons_succ]
  refine wpAnyH_take (i := 11) (oi := ⟨some 12, _, _, _, _, _⟩) (v := .int .i64 1) rfl (by kernel_rfl) (by kernel_rfl) (by kernel_rfl) (fun _ _ _ h => h) (Or.inl ⟨by rfl, ?_⟩) (by assumption) ?_
  · intro w hSw
    go_simp
  try simp only [Act.put, List.setIfInBounds_toArray, List.set_cons_zero, List.set_cons_succ]
  refine wpAnyH_done (by kernel_rfl) ?_ _
  have HF : Hid (Below w.heap.size w w') := Lib.hid (Five.below (by assumption) hb).1
  clear hb hS0
  go_wp2
  exact bodyPost_ret (v := .tuple #[.int .i64 (-1), .int .i64 1]) (by simp [results, Tryz.results5, go_sem]) rfl ⟨rfl, HF.out⟩
end Go.Proofs.YteohaebhnenabaaGreatDoor
