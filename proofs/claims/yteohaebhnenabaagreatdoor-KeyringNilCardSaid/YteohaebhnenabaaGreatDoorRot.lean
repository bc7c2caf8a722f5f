/- bits.RotateLeft32 at the ten constants that SHA-256 uses. -/
import Derived.Test.YteohaebhnenabaaGreatDoorProg
import Derived.WalkKit
import Derived.WalkSpells
import Derived.WalkLawsBesides
import Derived.Lib.Hide
import Derived.Laws.EntriesVeiled
namespace Go.Proofs.YteohaebhnenabaaGreatDoor
open Go.RowKit

def rotr32 (x : Int) (k : Nat) : Int := bits .or .u32 (x * 2 ^ (32 - k) % 2 ^ 32) (x / 2 ^ k)

theorem rot32_2 (x : Int) (w : World) :
    Calls Tryz.prog 109 #[.int .u32 x, .int .i64 (-2)] w fun e w' => e = .returned (.int .u32 (rotr32 x 2)) ∧ w' = w := by
  have e1 : bits BinOp.and IntKind.u64 (IntKind.u64.wrap (-2)) 31 = 30 := by kernel_rfl
  go_enter Tryz.func109, Tryz.ntmps109
  go_wp2
  go_ret
  exact ⟨by simp [rotr32], rfl⟩
theorem rot32_6 (x : Int) (w : World) :
    Calls Tryz.prog 109 #[.int .u32 x, .int .i64 (-6)] w fun e w' => e = .returned (.int .u32 (rotr32 x 6)) ∧ w' = w := by
  have e1 : bits BinOp.and IntKind.u64 (IntKind.u64.wrap (-6)) 31 = 26 := by kernel_rfl
  go_enter Tryz.func109, Tryz.ntmps109
  go_wp2
  go_ret
  exact ⟨by simp [rotr32], rfl⟩
theorem rot32_7 (x : Int) (w : World) :
    Calls Tryz.prog 109 #[.int .u32 x, .int .i64 (-7)] w fun e w' => e = .returned (.int .u32 (rotr32 x 7)) ∧ w' = w := by
  have e1 : bits BinOp.and IntKind.u64 (IntKind.u64.wrap (-7)) 31 = 25 := by kernel_rfl
  go_enter Tryz.func109, Tryz.ntmps109
  go_wp2
  go_ret
  exact ⟨by simp [rotr32], rfl⟩
theorem rot32_11 (x : Int) (w : World) :
    Calls Tryz.prog 109 #[.int .u32 x, .int .i64 (-11)] w fun e w' => e = .returned (.int .u32 (rotr32 x 11)) ∧ w' = w := by
  have e1 : bits BinOp.and IntKind.u64 (IntKind.u64.wrap (-11)) 31 = 21 := by kernel_rfl
  go_enter Tryz.func109, Tryz.ntmps109
  go_wp2
  go_ret
  exact ⟨by simp [rotr32], rfl⟩
theorem rot32_13 (x : Int) (w : World) :
    Calls Tryz.prog 109 #[.int .u32 x, .int .i64 (-13)] w fun e w' => e = .returned (.int .u32 (rotr32 x 13)) ∧ w' = w := by
  have e1 : bits BinOp.and IntKind.u64 (IntKind.u64.wrap (-13)) 31 = 19 := by kernel_rfl
  go_enter Tryz.func109, Tryz.ntmps109
  go_wp2
  go_ret
  exact ⟨by simp [rotr32], rfl⟩
theorem rot32_17 (x : Int) (w : World) :
    Calls Tryz.prog 109 #[.int .u32 x, .int .i64 (-17)] w fun e w' => e = .returned (.int .u32 (rotr32 x 17)) ∧ w' = w := by
  have e1 : bits BinOp.and IntKind.u64 (IntKind.u64.wrap (-17)) 31 = 15 := by kernel_rfl
  go_enter Tryz.func109, Tryz.ntmps109
  go_wp2
  go_ret
  exact ⟨by simp [rotr32], rfl⟩
theorem rot32_18 (x : Int) (w : World) :
    Calls Tryz.prog 109 #[.int .u32 x, .int .i64 (-18)] w fun e w' => e = .returned (.int .u32 (rotr32 x 18)) ∧ w' = w := by
  have e1 : bits BinOp.and IntKind.u64 (IntKind.u64.wrap (-18)) 31 = 14 := by kernel_rfl
  go_enter Tryz.func109, Tryz.ntmps109
  go_wp2
  go_ret
  exact ⟨by simp [rotr32], rfl⟩
theorem rot32_19 (x : Int) (w : World) :
    Calls Tryz.prog 109 #[.int .u32 x, .int .i64 (-19)] w fun e w' => e = .returned (.int .u32 (rotr32 x 19)) ∧ w' = w := by
  have e1 : bits BinOp.and IntKind.u64 (IntKind.u64.wrap (-19)) 31 = 13 := by kernel_rfl
  go_enter Tryz.func109, Tryz.ntmps109
  go_wp2
  go_ret
  exact ⟨by simp [rotr32], rfl⟩
theorem rot32_22 (x : Int) (w : World) :
    Calls Tryz.prog 109 #[.int .u32 x, .int .i64 (-22)] w fun e w' => e = .returned (.int .u32 (rotr32 x 22)) ∧ w' = w := by
  have e1 : bits BinOp.and IntKind.u64 (IntKind.u64.wrap (-22)) 31 = 10 := by kernel_rfl
  go_enter Tryz.func109, Tryz.ntmps109
  go_wp2
  go_ret
  exact ⟨by simp [rotr32], rfl⟩
theorem rot32_25 (x : Int) (w : World) :
    Calls Tryz.prog 109 #[.int .u32 x, .int .i64 (-25)] w fun e w' => e = .returned (.int .u32 (rotr32 x 25)) ∧ w' = w := by
  have e1 : bits BinOp.and IntKind.u64 (IntKind.u64.wrap (-25)) 31 = 7 := by kernel_rfl
  go_enter Tryz.func109, Tryz.ntmps109
  go_wp2
  go_ret
  exact ⟨by simp [rotr32], rfl⟩
theorem rot32_all (x n : Int) (w : World) (h : n = -2 ∨ n = -6 ∨ n = -7 ∨ n = -11 ∨ n = -13 ∨ n = -17 ∨ n = -18 ∨ n = -19 ∨ n = -22 ∨ n = -25) :
    Calls Tryz.prog 109 #[.int .u32 x, .int .i64 n] w fun e w' => e = .returned (.int .u32 (rotr32 x (-n).toNat)) ∧ w' = w := by
  rcases h with rfl | rfl | rfl | rfl | rfl | rfl | rfl | rfl | rfl | rfl
  · exact rot32_2 x w
  · exact rot32_6 x w
  · exact rot32_7 x w
  · exact rot32_11 x w
  · exact rot32_13 x w
  · exact rot32_17 x w
  · exact rot32_18 x w
  · exact rot32_19 x w
  · exact rot32_22 x w
  · exact rot32_25 x w
end Go.Proofs.YteohaebhnenabaaGreatDoor
