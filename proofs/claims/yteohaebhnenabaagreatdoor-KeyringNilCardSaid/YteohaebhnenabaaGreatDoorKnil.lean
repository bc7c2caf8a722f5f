/- The calls of a nil ring: each answers at once. -/
import Derived.Test.YteohaebhnenabaaGreatDoorProg
import Derived.Test.YteohaebhnenabaaGreatDoorCopy
import Derived.Laws.Rows
import Derived.Laws.Tables
import Derived.WalkKit
import Derived.WalkSpells
import Derived.WalkLawsBesides
import Derived.Deep.QuietTactic
import Derived.BigQuiet
import Derived.Lib.Hide
import Derived.Handy
import Derived.Outline
namespace Go.Proofs.YteohaebhnenabaaGreatDoor
open Go.RowKit

set_option maxRecDepth 100000

theorem ready_nil (w : World) :
    Calls Tryz.prog 37 #[.pointer none] w fun e w' => e = .returned (.int .i64 1) ∧ w = w' := by
  go_enter Tryz.func37, Tryz.ntmps37
  go_wp2
  go_ret
  exact ⟨rfl, rfl⟩

theorem numbered_any (n : Int) (w : World) (h0 : 0 ≤ n) (h1 : n < 32) :
    Calls Tryz.prog 34 #[.int .i64 n] w fun e w' => e = .returned (.bool true) ∧ w = w' := by
  have d0 : decide (0 ≤ n) = true := by simp; omega
  have d1 : decide (n < 32) = true := by simp; omega
  go_enter Tryz.func34, Tryz.ntmps34
  go_wp2
  go_ret
  exact ⟨rfl, rfl⟩

/-- the call answers v; nothing that was there has changed -/
def Ans (v : Value) (w : World) (e : Ending) (w' : World) : Prop := e = .returned v ∧ Below w.heap.size w w'

set_option maxHeartbeats 1000000 in
theorem allowed_nil (p : Value) (b : Bool) (o : Array Value) (w : World) :
    Calls Tryz.prog 33 #[.pointer none, p, .slice none 0 0, .bool b, .agg o] w (Ans (.int .i64 1) w) := by
  go_enter Tryz.func33, Tryz.ntmps33
  go_wp2_with (go_at_call 37; refine (ready_nil _).mono ?_; rintro e w' ⟨rfl, rfl⟩)
  go_ret
  exact ⟨rfl, (by repeat (first | exact Below.refl _ _ | refine Below.alloc ?_ (by simp; try omega) _))⟩

set_option maxHeartbeats 1000000 in
theorem open_ring (w : World) :
    Calls Tryz.prog 6 #[.pointer none, .slice none 0 0, .int .i64 (-1)] w (Ans (.tuple #[.int .i64 (-1), .int .i64 1]) w) := by
  go_enter Tryz.func6, Tryz.ntmps6
  go_wp2_with (go_at_call 37; refine (ready_nil _).mono ?_; rintro e w' ⟨rfl, rfl⟩)
  exact bodyPost_ret (v := .tuple #[.int .i64 (-1), .int .i64 1]) (by simp [results, Tryz.results6, go_sem]) rfl ⟨rfl, (by repeat (first | exact Below.refl _ _ | refine Below.alloc ?_ (by simp; try omega) _))⟩

set_option maxHeartbeats 1000000 in
theorem key_ring (w : World) :
    Calls Tryz.prog 7 #[.pointer none, .int .u64 0] w (Ans (.tuple #[.slice none 0 0, .int .i64 1]) w) := by
  go_enter Tryz.func7, Tryz.ntmps7
  go_wp2_with (go_at_call 37; refine (ready_nil _).mono ?_; rintro e w' ⟨rfl, rfl⟩)
  go_ret2
  exact ⟨rfl, (by repeat (first | exact Below.refl _ _ | refine Below.alloc ?_ (by simp; try omega) _))⟩

set_option maxHeartbeats 1000000 in
theorem master_ring (w : World) :
    Calls Tryz.prog 9 #[.pointer none] w (Ans (.tuple #[.slice none 0 0, .int .i64 1]) w) := by
  go_enter Tryz.func9, Tryz.ntmps9
  go_wp2_with (go_at_call 37; refine (ready_nil _).mono ?_; rintro e w' ⟨rfl, rfl⟩)
  go_ret2
  exact ⟨rfl, (by repeat (first | exact Below.refl _ _ | refine Below.alloc ?_ (by simp; try omega) _))⟩

set_option maxHeartbeats 1000000 in
theorem kill_ring (w : World) :
    Calls Tryz.prog 14 #[.pointer none, .int .i64 0] w (Ans (.int .i64 1) w) := by
  go_enter Tryz.func14, Tryz.ntmps14
  go_wp2_with (go_at_call 37; refine (ready_nil _).mono ?_; rintro e w' ⟨rfl, rfl⟩)
  go_ret
  exact ⟨rfl, (by repeat (first | exact Below.refl _ _ | refine Below.alloc ?_ (by simp; try omega) _))⟩

set_option maxHeartbeats 1000000 in
theorem prefer_ring (w : World) :
    Calls Tryz.prog 15 #[.pointer none, .int .i64 0, .int .i64 1] w (Ans (.int .i64 1) w) := by
  go_enter Tryz.func15, Tryz.ntmps15
  go_wp2_with (go_at_call 37; refine (ready_nil _).mono ?_; rintro e w' ⟨rfl, rfl⟩)
  go_ret
  exact ⟨rfl, (by repeat (first | exact Below.refl _ _ | refine Below.alloc ?_ (by simp; try omega) _))⟩

set_option maxHeartbeats 1000000 in
theorem sweep_ring (w : World) :
    Calls Tryz.prog 16 #[.pointer none] w (Ans (.int .i64 1) w) := by
  go_enter Tryz.func16, Tryz.ntmps16
  go_wp2_with (go_at_call 37; refine (ready_nil _).mono ?_; rintro e w' ⟨rfl, rfl⟩)
  go_ret
  exact ⟨rfl, (by repeat (first | exact Below.refl _ _ | refine Below.alloc ?_ (by simp; try omega) _))⟩

set_option maxHeartbeats 1000000 in
theorem note_ring (o : Array Value) (w : World) :
    Calls Tryz.prog 17 #[.pointer none, .agg o] w (Ans (.int .i64 1) w) := by
  go_enter Tryz.func17, Tryz.ntmps17
  go_wp2_with (go_at_call 37; refine (ready_nil _).mono ?_; rintro e w' ⟨rfl, rfl⟩)
  go_ret
  exact ⟨rfl, (by repeat (first | exact Below.refl _ _ | refine Below.alloc ?_ (by simp; try omega) _))⟩

set_option maxHeartbeats 1000000 in
theorem unnote_ring (w : World) :
    Calls Tryz.prog 18 #[.pointer none, .int .i64 0] w (Ans (.int .i64 1) w) := by
  go_enter Tryz.func18, Tryz.ntmps18
  go_wp2_with (go_at_call 37; refine (ready_nil _).mono ?_; rintro e w' ⟨rfl, rfl⟩)
  go_ret
  exact ⟨rfl, (by repeat (first | exact Below.refl _ _ | refine Below.alloc ?_ (by simp; try omega) _))⟩

set_option maxHeartbeats 1000000 in
theorem commit_ring (o : Array Value) (w : World) :
    Calls Tryz.prog 19 #[.pointer none, .agg o] w (Ans (.int .i64 1) w) := by
  go_enter Tryz.func19, Tryz.ntmps19
  go_wp2_with (go_at_call 37; refine (ready_nil _).mono ?_; rintro e w' ⟨rfl, rfl⟩)
  go_ret
  exact ⟨rfl, (by repeat (first | exact Below.refl _ _ | refine Below.alloc ?_ (by simp; try omega) _))⟩

set_option maxHeartbeats 1000000 in
theorem unlock_ring (w : World) :
    Calls Tryz.prog 21 #[.pointer none, .slice none 0 0] w (Ans (.int .i64 1) w) := by
  go_enter Tryz.func21, Tryz.ntmps21
  go_wp2_with (go_at_call 37; refine (ready_nil _).mono ?_; rintro e w' ⟨rfl, rfl⟩)
  go_ret
  exact ⟨rfl, (by repeat (first | exact Below.refl _ _ | refine Below.alloc ?_ (by simp; try omega) _))⟩

set_option maxHeartbeats 1000000 in
theorem lock_ring (w : World) :
    Calls Tryz.prog 22 #[.pointer none] w (Ans (.int .i64 1) w) := by
  go_enter Tryz.func22, Tryz.ntmps22
  go_wp2_with (go_at_call 37; refine (ready_nil _).mono ?_; rintro e w' ⟨rfl, rfl⟩)
  go_ret
  exact ⟨rfl, (by repeat (first | exact Below.refl _ _ | refine Below.alloc ?_ (by simp; try omega) _))⟩

set_option maxHeartbeats 1000000 in
theorem seq_ring (w : World) :
    Calls Tryz.prog 23 #[.pointer none] w (Ans (.int .u64 0) w) := by
  go_enter Tryz.func23, Tryz.ntmps23
  go_wp2_with (go_at_call 37; refine (ready_nil _).mono ?_; rintro e w' ⟨rfl, rfl⟩)
  go_ret
  exact ⟨rfl, (by repeat (first | exact Below.refl _ _ | refine Below.alloc ?_ (by simp; try omega) _))⟩

set_option maxHeartbeats 1000000 in
theorem device_ring (w : World) :
    Calls Tryz.prog 24 #[.pointer none] w (Ans (.nilIface) w) := by
  go_enter Tryz.func24, Tryz.ntmps24
  go_wp2_with (go_at_call 37; refine (ready_nil _).mono ?_; rintro e w' ⟨rfl, rfl⟩)
  go_ret
  exact ⟨rfl, (by repeat (first | exact Below.refl _ _ | refine Below.alloc ?_ (by simp; try omega) _))⟩

set_option maxHeartbeats 1000000 in
theorem locked_ring (w : World) :
    Calls Tryz.prog 25 #[.pointer none] w (Ans (.bool true) w) := by
  go_enter Tryz.func25, Tryz.ntmps25
  go_wp2_with (go_at_call 37; refine (ready_nil _).mono ?_; rintro e w' ⟨rfl, rfl⟩)
  go_ret
  exact ⟨rfl, (by repeat (first | exact Below.refl _ _ | refine Below.alloc ?_ (by simp; try omega) _))⟩

set_option maxHeartbeats 1000000 in
theorem stuck_ring (w : World) :
    Calls Tryz.prog 26 #[.pointer none] w (Ans (.bool false) w) := by
  go_enter Tryz.func26, Tryz.ntmps26
  go_wp2_with (go_at_call 37; refine (ready_nil _).mono ?_; rintro e w' ⟨rfl, rfl⟩)
  go_ret
  exact ⟨rfl, (by repeat (first | exact Below.refl _ _ | refine Below.alloc ?_ (by simp; try omega) _))⟩

set_option maxHeartbeats 1000000 in
theorem load_dev (w : World) :
    Calls Tryz.prog 10 #[.nilIface] w (Ans (.tuple #[.pointer none, .int .i64 1]) w) := by
  go_enter Tryz.func10, Tryz.ntmps10
  go_wp2_with (go_at_call 37; refine (ready_nil _).mono ?_; rintro e w' ⟨rfl, rfl⟩)
  go_ret2
  exact ⟨rfl, (by repeat (first | exact Below.refl _ _ | refine Below.alloc ?_ (by simp; try omega) _))⟩

set_option maxHeartbeats 1000000 in
theorem make_dev (p : Value) (o : Array Value) (w : World) :
    Calls Tryz.prog 11 #[.nilIface, p, .agg o, .slice none 0 0] w (Ans (.tuple #[.pointer none, .int .i64 1]) w) := by
  go_enter Tryz.func11, Tryz.ntmps11
  go_wp2
  go_ret2
  exact ⟨rfl, by repeat (first | exact Below.refl _ _ | refine Below.alloc ?_ (by simp; try omega) _)⟩

set_option maxHeartbeats 1000000 in
theorem make_spring (t : TypeId) (a : Addr) (o : Array Value) (w : World) :
    Calls Tryz.prog 11 #[.iface t (.pointer (some a)), .pointer none, .agg o, .slice none 0 0] w (Ans (.tuple #[.pointer none, .int .i64 1]) w) := by
  go_enter Tryz.func11, Tryz.ntmps11
  go_wp2
  go_outline
  go_ret2
  exact ⟨rfl, by repeat (first | exact Below.refl _ _ | refine Below.alloc ?_ (by simp; try omega) _)⟩
end Go.Proofs.YteohaebhnenabaaGreatDoor
