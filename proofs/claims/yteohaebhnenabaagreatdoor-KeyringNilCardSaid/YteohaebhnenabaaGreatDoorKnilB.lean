/- The calls of a nil ring that answer with a struct: Epoch, Meta; SameMeta of two zero values. -/
import Derived.Test.YteohaebhnenabaaGreatDoorKnilA
import Derived.Test.YteohaebhnenabaaGreatDoorBegin
import Derived.Laws.Rows
import Derived.Laws.Tables
namespace Go.Proofs.YteohaebhnenabaaGreatDoor
open Go.RowKit

set_option maxRecDepth 100000

abbrev zEpoch : Array Value := #[Value.int IntKind.u64 0, Value.string { data := #[] }, Value.string { data := #[] }, Value.string { data := #[] }, Value.string { data := #[] }]

abbrev zMeta : Array Value := #[Value.string { data := #[] }, Value.string { data := #[] }, Value.string { data := #[] },
  Value.string { data := #[] }, Value.int IntKind.i64 0, Value.int IntKind.u64 0, Value.int IntKind.i64 0,
  Value.int IntKind.i64 0, Value.int IntKind.i64 0, Value.string { data := #[] },
  Value.string { data := #[] }, Value.slice none 0 0, Value.slice none 0 0, Value.slice none 0 0,
  Value.bool false, Value.int IntKind.u64 0, Value.int IntKind.u64 0, Value.bool false,
  Value.int IntKind.i64 0, Value.int IntKind.u64 0, Value.int IntKind.u64 0, Value.int IntKind.i64 0,
  Value.int IntKind.i64 0, Value.bool false, Value.int IntKind.u64 0, Value.string { data := #[] },
  Value.slice none 0 0]

set_option maxHeartbeats 1000000 in
theorem epoch_ring (p : Value) (s : ByteArray) (w : World) :
    Calls Tryz.prog 8 #[.pointer none, p, .int .u64 1, .string s] w (Ans (.tuple #[.agg zEpoch, .int .i64 1]) w) := by
  have o2 : (Tryz.prog.info? 37).map (·.size) = some zEpoch.size := by kernel_rfl
  go_enter Tryz.func8, Tryz.ntmps8
  go_wp2_with (go_at_call 37; refine (ready_nil _).mono ?_; rintro e w' ⟨rfl, rfl⟩)
  exact bodyPost_ret (v := .tuple #[.agg zEpoch, .int .i64 1]) (results_cell_slot Tryz.results8 _ _ w.heap.size 37 zEpoch (0, 0) _ _ rfl rfl (heap_alloc_new _ _) Tryz.underlying37 rfl o2) rfl ⟨rfl, (Below.refl _ _).alloc (Nat.le_refl _) _⟩

set_option maxHeartbeats 1000000 in
theorem meta_ring (w : World) :
    Calls Tryz.prog 20 #[.pointer none] w (Ans (.agg zMeta) w) := by
  have o1 : zMeta.all (·.oneCell') = true := by kernel_rfl
  have o2 : (Tryz.prog.info? 71).map (·.size) = some zMeta.size := by kernel_rfl
  go_enter Tryz.func20, Tryz.ntmps20
  go_wp2_with (refine wpList_store_row rfl 71 (.tmp 2) (.tmp 5) rfl w.heap.size zMeta rfl rfl 71 zMeta (heap_alloc_new _ _) o2 rfl o1 ?_)
  have hg := setRow_heap _ w.heap.size zMeta zMeta 71 (0, 0) (heap_alloc_new w (.cells zMeta 71))
  exact bodyPost_ret (v := .agg zMeta) (results_cell_row Tryz.results20 _ _ w.heap.size 71 zMeta (0, 0) _ rfl hg Tryz.underlying71 rfl o2) rfl
    ⟨rfl, Upd.below ((Upd.of_below (S := BSet w.heap.size) ((Below.refl _ _).alloc (Nat.le_refl _) _)).trans (upd_setRow (heap_alloc_new w (.cells zMeta 71)) rfl)) (fun k o hk h => by have : k = w.heap.size := h; omega)⟩
end Go.Proofs.YteohaebhnenabaaGreatDoor
