/- The calls of a nil volume, of a nil device, 2: Format, Status; SameStatus of two zero values. -/
import Derived.Test.YtajfbkodjigmpaaGreatDoorNil
import Derived.Test.YtajfbkodjigmpaaGreatDoorCopy
import Derived.Laws.Rows
import Derived.Laws.Tables
namespace Go.Proofs.YtajfbkodjigmpaaGreatDoor
open Go.RowKit
set_option maxRecDepth 100000

abbrev zFormat : Array Value := #[Value.string { data := #[] }, Value.string { data := #[] }, Value.string { data := #[] },
          Value.int IntKind.i64 0, Value.int IntKind.i64 0, Value.string { data := #[] }, Value.int IntKind.i64 0,
          Value.int IntKind.i64 0, Value.int IntKind.i64 0, Value.int IntKind.i64 0, Value.string { data := #[] },
          Value.int IntKind.i64 0]

abbrev zStatus : Array Value := #[Value.int IntKind.i64 0, Value.int IntKind.i64 0, Value.int IntKind.i64 0, Value.int IntKind.u64 0,
          Value.string { data := #[] }, Value.int IntKind.u64 0, Value.slice none 0 0, Value.bool false,
          Value.int IntKind.u64 0, Value.int IntKind.u64 0, Value.bool false, Value.int IntKind.i64 0,
          Value.int IntKind.u64 0, Value.int IntKind.u64 0, Value.int IntKind.i64 0, Value.int IntKind.i64 0,
          Value.bool false, Value.int IntKind.u64 0, Value.string { data := #[] }]

set_option maxHeartbeats 1000000 in
theorem format_nil (p : Value) (w : World) :
    Calls Tryz.prog 10 #[.nilIface, p, .agg zFormat, .slice none 0 0] w (Ans (.int .i64 1) w) := by
  go_enter Tryz.func10, Tryz.ntmps10
  go_wp2_with fail
  refine (make_nil p zFormat _).mono ?_
  rintro e w1 ⟨rfl, hb1⟩
  dsimp only
  have hb : Hid (Below w.heap.size w w1) := Lib.hid (((Below.refl _ _).alloc (Nat.le_refl _) _).trans (hb1.mono (by simp)))
  clear hb1
  go_wp2
  go_ret
  exact ⟨rfl, hb.out⟩

set_option maxHeartbeats 1000000 in
theorem status_nil (w : World) :
    Calls Tryz.prog 24 #[.pointer none] w (Ans (.agg zStatus) w) := by
  have o1 : zStatus.all (·.oneCell') = true := by kernel_rfl
  have o2 : (Tryz.prog.info? 63).map (·.size) = some zStatus.size := by kernel_rfl
  go_enter Tryz.func24, Tryz.ntmps24
  go_wp2_with (refine wpList_store_row rfl 63 (.tmp 2) (.tmp 12) rfl w.heap.size zStatus rfl rfl 63 zStatus (heap_alloc_new _ _) o2 rfl o1 ?_)
  have hg := setRow_heap _ w.heap.size zStatus zStatus 63 (0, 0) (heap_alloc_new w (.cells zStatus 63))
  exact bodyPost_ret (v := .agg zStatus) (results_cell_row Tryz.results24 _ _ w.heap.size 63 zStatus (0, 0) _ rfl hg Tryz.underlying63 rfl o2) rfl
    ⟨rfl, Upd.below ((Upd.of_below (S := BSet w.heap.size) ((Below.refl _ _).alloc (Nat.le_refl _) _)).trans (upd_setRow (heap_alloc_new w (.cells zStatus 63)) rfl)) (fun k o hk h => by have : k = w.heap.size := h; omega)⟩

set_option maxHeartbeats 1000000 in
theorem sameints_nil (w : World) :
    Calls Tryz.prog 60 #[.slice none 0 0, .slice none 0 0] w fun e w' => e = .returned (.bool true) ∧ w = w' := by
  go_enter Tryz.func60, Tryz.ntmps60
  go_wp2
  refine wp_loop_rounds 1 ?_
  rw [rounds_succ]
  go_wp2
  go_ret
  exact ⟨rfl, rfl⟩

set_option maxHeartbeats 2000000 in
theorem samestatus_nil (w : World) :
    Calls Tryz.prog 23 #[.agg zStatus, .agg zStatus] w (Ans (.bool true) w) := by
  go_enter Tryz.func23, Tryz.ntmps23
  go_wp2_with (go_at_call 60; refine (sameints_nil _).mono ?_; rintro e w1 ⟨rfl, rfl⟩)
  go_ret
  exact ⟨rfl, by repeat (first | exact Below.refl _ _ | refine Below.alloc ?_ (by simp; try omega) _)⟩
end Go.Proofs.YtajfbkodjigmpaaGreatDoor
