/- SameMeta of two zero values; slab.New of 512 and 200 with no plan, and its Ops. -/
import Derived.Test.YteohaebhnenabaaGreatDoorKnilB
import Derived.Carry
namespace Go.Proofs.YteohaebhnenabaaGreatDoor
open Go.RowKit

set_option maxRecDepth 100000

set_option maxHeartbeats 2000000 in
theorem samemeta_zero (w : World) :
    Calls Tryz.prog 27 #[.agg zMeta, .agg zMeta] w (Ans (.bool true) w) := by
  go_enter Tryz.func27, Tryz.ntmps27
  go_wp2
  refine wp_loop_rounds 1 ?_
  rw [rounds_succ]
  go_wp2
  refine wp_loop_rounds 1 ?_
  rw [rounds_succ]
  go_wp2
  refine wp_loop_rounds 1 ?_
  rw [rounds_succ]
  go_wp2
  refine wp_loop_rounds 1 ?_
  rw [rounds_succ]
  go_wp2
  go_ret
  exact ⟨rfl, by repeat (first | exact Below.refl _ _ | refine Below.alloc ?_ (by simp; try omega) _)⟩

theorem ops_zero (b : Nat) (w : World) (h : w.cell? ⟨b, 8, none⟩ = some (.int .i64 0)) :
    Calls Tryz.prog 28 #[.pointer (some ⟨b, 0, none⟩)] w (Ans (.int .i64 0) w) := by
  go_enter Tryz.func28, Tryz.ntmps28
  go_wp2
  go_ret
  exact ⟨rfl, Below.refl _ _⟩

set_option maxHeartbeats 2000000 in
theorem slabnew (w : World) :
    Calls Tryz.prog 12 #[.int .i64 512, .int .u64 200, .slice none 0 0] w fun e w' => ∃ b : Nat, e = .returned (.tuple #[.pointer (some ⟨b, 0, none⟩), .int .i64 0]) ∧ b < w'.heap.size ∧ Below w.heap.size w w' ∧ w'.cell? ⟨b, 8, none⟩ = some (.int .i64 0) := by
  have km := fun (t : TypeId) (W : World) => run_makeMap (P := Tryz.prog) t W
  go_enter Tryz.func12, Tryz.ntmps12
  go_wp2
  refine wp_loop_rounds 1 ?_
  rw [rounds_succ]
  go_wp2
  go_ret2
  have hsz : ((((w.alloc (Obj.map #[] 0)).alloc (Obj.map #[] 0)).alloc (Obj.map #[] 0)).alloc (Obj.map #[] 0)).heap.size = w.heap.size + 1 + 1 + 1 + 1 := by simp
  refine ⟨w.heap.size + 1 + 1 + 1 + 1, rfl, by simp, (by repeat (first | exact Below.refl _ _ | refine Below.alloc ?_ (by simp; try omega) _)), ?_⟩
  rw [← hsz]
  exact cell_of (heap_alloc_new _ _) 8
end Go.Proofs.YteohaebhnenabaaGreatDoor
