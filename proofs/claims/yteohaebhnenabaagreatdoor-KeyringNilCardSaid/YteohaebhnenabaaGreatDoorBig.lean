/- digest.big: the bytes of a number of four bytes, the greatest first. -/
import Derived.Test.YteohaebhnenabaaGreatDoorProg
import Derived.Test.YteohaebhnenabaaGreatDoorFrame
import Derived.WalkKit
import Derived.WalkSpells
import Derived.WalkLawsBesides
import Derived.Deep.QuietTactic
import Derived.BigQuiet
import Derived.StillTailTactics
import Derived.Lib.Hide
import Derived.Laws.EntriesVeiled
import Derived.Handy
import Derived.Test.YteohaebhnenabaaGreatDoorDg1
import Derived.Test.YteohaebhnenabaaGreatDoorNarNil
namespace Go.Proofs.YteohaebhnenabaaGreatDoor
open Go.RowKit


theorem own_block {w : World} {base e size n : Nat} {v : Value} {xs : List Value} (h : w.ownsRow base e size v n xs) : ∀ k, v.ownBlock = some k → base ≤ k := by
  intro k hk
  obtain ⟨_, h | ⟨g, cap, cur, hv, hg, _⟩⟩ := h
  · rw [h.1] at hk; cases hk
  · rw [hv] at hk
    simp only [Value.ownBlock, Option.some.injEq] at hk
    omega

set_option maxRecDepth 100000 in
set_option maxHeartbeats 2000000 in
theorem big_4 (base n : Nat) (v : Value) (xs : List Value) (x : Int) (w0 : World) (h0 : w0.ownsRow base 5 1 v n xs) (q0 : base ≤ w0.heap.size) (hn : n ≤ 1000) :
    Calls Tryz.prog 121 #[v, .int .u64 x, .int .i64 4] w0 fun e w' => ∃ v', e = .returned v' ∧ Below base w0 w' ∧
      w'.ownsRow base 5 1 v' (n + 4) (xs ++ [.int .u8 (x / 16777216 % 256), .int .u8 (x / 65536 % 256), .int .u8 (x / 256 % 256), .int .u8 (x % 256)]) := by
  have i8 : (Tryz.prog.info? 5).map (fun i => (i.zero, i.size, i.bytes)) = some (some (.int .u8 0), 1, 1) := by kernel_rfl
  obtain ⟨i0, hi, hz0, hz1, hz2⟩ := info_parts i8
  have B0 : Hid (Below base w0 w0) := Lib.hid (Below.refl _ _)
  go_enter Tryz.func121, Tryz.ntmps121
  go_wp2
  refine wp_loop_rounds 5 ?_
  rw [rounds_succ]
  go_wp2_with (at_builtin; refine wpList_append_own _ rfl _ _ 29 rfl base 5 i0 (.int .u8 0) 1 1 Tryz.underlying29 hi hz0 hz1 hz2 rfl (by decide) _ (n + 0) _ rfl (h0.alloc _) ⟨w0.heap.size, 0, none⟩ 1 1 [.int .u8 (x / 16777216 % 256)] rfl rfl ?a1 ?b1 ?c1 ?d1 ?e1 ?_)
  case a1 => exact cell_one_new _ _ _
  case b1 => intro u hu; simp at hu; subst hu; rfl
  case c1 => unfold maxLen; omega
  case d1 => omega
  case e1 => simp; omega
  intro v1 w1 h1 g1 _
  have q1 : base ≤ w1.heap.size := by have := g1.size; simp at this; omega
  have B1 : Hid (Below base w0 w1) := Lib.hid ((B0.out.alloc q0 _).grown g1 (by simp; omega) (own_block h0))
  clear g1
  go_wp2
  rw [rounds_succ]
  go_wp2_with (at_builtin; refine wpList_append_own _ rfl _ _ 29 rfl base 5 i0 (.int .u8 0) 1 1 Tryz.underlying29 hi hz0 hz1 hz2 rfl (by decide) _ (n + 1) _ rfl (h1.alloc _) ⟨w1.heap.size, 0, none⟩ 1 1 [.int .u8 (x / 65536 % 256)] rfl rfl ?a2 ?b2 ?c2 ?d2 ?e2 ?_)
  case a2 => exact cell_one_new _ _ _
  case b2 => intro u hu; simp at hu; subst hu; rfl
  case c2 => unfold maxLen; omega
  case d2 => omega
  case e2 => simp; omega
  intro v2 w2 h2 g2 _
  have q2 : base ≤ w2.heap.size := by have := g2.size; simp at this; omega
  have B2 : Hid (Below base w0 w2) := Lib.hid ((B1.out.alloc q1 _).grown g2 (by simp; omega) (own_block h1))
  clear g2
  go_wp2
  rw [rounds_succ]
  go_wp2_with (at_builtin; refine wpList_append_own _ rfl _ _ 29 rfl base 5 i0 (.int .u8 0) 1 1 Tryz.underlying29 hi hz0 hz1 hz2 rfl (by decide) _ (n + 2) _ rfl (h2.alloc _) ⟨w2.heap.size, 0, none⟩ 1 1 [.int .u8 (x / 256 % 256)] rfl rfl ?a3 ?b3 ?c3 ?d3 ?e3 ?_)
  case a3 => exact cell_one_new _ _ _
  case b3 => intro u hu; simp at hu; subst hu; rfl
  case c3 => unfold maxLen; omega
  case d3 => omega
  case e3 => simp; omega
  intro v3 w3 h3 g3 _
  have q3 : base ≤ w3.heap.size := by have := g3.size; simp at this; omega
  have B3 : Hid (Below base w0 w3) := Lib.hid ((B2.out.alloc q2 _).grown g3 (by simp; omega) (own_block h2))
  clear g3
  go_wp2
  rw [rounds_succ]
  go_wp2_with (at_builtin; refine wpList_append_own _ rfl _ _ 29 rfl base 5 i0 (.int .u8 0) 1 1 Tryz.underlying29 hi hz0 hz1 hz2 rfl (by decide) _ (n + 3) _ rfl (h3.alloc _) ⟨w3.heap.size, 0, none⟩ 1 1 [.int .u8 (x % 256)] rfl rfl ?a4 ?b4 ?c4 ?d4 ?e4 ?_)
  case a4 => exact cell_one_new _ _ _
  case b4 => intro u hu; simp at hu; subst hu; rfl
  case c4 => unfold maxLen; omega
  case d4 => omega
  case e4 => simp; omega
  intro v4 w4 h4 g4 _
  have q4 : base ≤ w4.heap.size := by have := g4.size; simp at this; omega
  have B4 : Hid (Below base w0 w4) := Lib.hid ((B3.out.alloc q3 _).grown g4 (by simp; omega) (own_block h3))
  clear g4
  go_wp2
  rw [rounds_succ]
  go_wp2
  go_ret
  refine ⟨_, rfl, B4.out, ?_⟩
  simpa using h4
end Go.Proofs.YteohaebhnenabaaGreatDoor
