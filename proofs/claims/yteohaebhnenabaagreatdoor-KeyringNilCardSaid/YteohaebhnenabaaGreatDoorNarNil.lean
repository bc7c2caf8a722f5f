/- digest.narrow leaves the words alone where fewer than 64 bytes come in; digest.first gives the first words. -/
import Derived.Test.YteohaebhnenabaaGreatDoorProg
import Derived.Test.YteohaebhnenabaaGreatDoorFrame
import Derived.WalkKit
import Derived.WalkSpells
import Derived.WalkLawsBesides
import Derived.Deep.QuietTactic
import Derived.BigQuiet
import Derived.StillTailTactics
import Derived.Lib.Hide
import Derived.Laws.EntriesVeiled
import Derived.Handy
namespace Go.Proofs.YteohaebhnenabaaGreatDoor
open Go.RowKit

set_option maxRecDepth 100000 in
set_option maxHeartbeats 1000000 in
theorem narrow_few (h : Value) (a : Option Addr) (n c : Nat) (w : World) (hn : n < 64) :
    Calls Tryz.prog 102 #[h, .slice a n c] w fun e w' => e = .returned (.tuple #[]) ∧ Below w.heap.size w w' := by
  have hd : decide ((64 : Int) ≤ n) = false := by simp; omega
  go_enter Tryz.func102, Tryz.ntmps102
  go_wp2
  refine wp_loop_rounds 1 ?_
  rw [rounds_succ]
  go_wp2
  go_end0
  exact ⟨rfl, (Below.refl _ _).alloc (Nat.le_refl _) _⟩

set_option maxHeartbeats 1000000 in
theorem first_256 (sq : Nat → Int) (w : World) (hz : 3 ≤ w.heap.size) (h : ∀ i, i < 16 → w.cell? ⟨2, i, none⟩ = some (.int .u64 (sq i))) :
    Calls Tryz.prog 120 #[.int .i64 256] w fun e w' => e = .returned (.agg ((List.range 8).map (fun i => Value.int .u64 (sq i / 4294967296))).toArray) ∧ Below w.heap.size w w' := by
  have h0 := h 0 (by omega)
  have h1 := h 1 (by omega)
  have h2 := h 2 (by omega)
  have h3 := h 3 (by omega)
  have h4 := h 4 (by omega)
  have h5 := h 5 (by omega)
  have h6 := h 6 (by omega)
  have h7 := h 7 (by omega)
  clear h
  have hg : 2 < w.heap.size := by omega
  go_enter Tryz.func120, Tryz.ntmps120
  go_wp2
  go_rounds 9
  exact bodyPost_ret (v := .agg ((List.range 8).map (fun i => Value.int .u64 (sq i / 4294967296))).toArray) (by simp [results, Tryz.results120, go_sem, List.range, List.range.loop]) rfl ⟨rfl, (Below.refl _ _).alloc (Nat.le_refl _) _⟩
end Go.Proofs.YteohaebhnenabaaGreatDoor
