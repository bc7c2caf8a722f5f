/- The calls of a nil volume, of a nil device: each answers at once. -/
import Derived.Test.YtajfbkodjigmpaaGreatDoorProg
import Derived.WalkKit
import Derived.WalkSpells
import Derived.WalkLawsBesides
import Derived.Deep.QuietTactic
import Derived.BigQuiet
import Derived.Lib.Hide
import Derived.Handy
import Derived.Outline
namespace Go.Proofs.YtajfbkodjigmpaaGreatDoor
open Go.RowKit

set_option maxRecDepth 100000

theorem let_nil (c : Int) (w : World) :
    Calls Tryz.prog 30 #[.pointer none, .int .i64 c] w fun e w' => e = .returned (.int .i64 1) ∧ w = w' := by
  go_enter Tryz.func30, Tryz.ntmps30
  go_wp2
  go_ret
  exact ⟨rfl, rfl⟩

/-- the call answers v; nothing that was there has changed -/
def Ans (v : Value) (w : World) (e : Ending) (w' : World) : Prop := e = .returned v ∧ Below w.heap.size w w'

set_option maxHeartbeats 1000000 in
theorem addslot_nil (p : Value) (o : Array Value) (w : World) :
    Calls Tryz.prog 5 #[.pointer none, p, .slice none 0 0, .int .i64 (-1), .agg o] w (Ans (.tuple #[.int .i64 (-1), .int .i64 1]) w) := by
  go_enter Tryz.func5, Tryz.ntmps5
  go_wp2_with (go_at_call 30; refine (let_nil _ _).mono ?_; rintro e w' ⟨rfl, rfl⟩)
  go_ret2
  exact ⟨rfl, (by repeat (first | exact Below.refl _ _ | refine Below.alloc ?_ (by simp; try omega) _))⟩

set_option maxHeartbeats 1000000 in
theorem master_nil (w : World) :
    Calls Tryz.prog 6 #[.pointer none] w (Ans (.tuple #[.slice none 0 0, .int .i64 1]) w) := by
  go_enter Tryz.func6, Tryz.ntmps6
  go_wp2_with (go_at_call 30; refine (let_nil _ _).mono ?_; rintro e w' ⟨rfl, rfl⟩)
  go_ret2
  exact ⟨rfl, (by repeat (first | exact Below.refl _ _ | refine Below.alloc ?_ (by simp; try omega) _))⟩

set_option maxHeartbeats 1000000 in
theorem step_nil (w : World) :
    Calls Tryz.prog 7 #[.pointer none] w (Ans (.tuple #[.bool false, .int .i64 1]) w) := by
  go_enter Tryz.func7, Tryz.ntmps7
  go_wp2_with (go_at_call 30; refine (let_nil _ _).mono ?_; rintro e w' ⟨rfl, rfl⟩)
  go_ret2
  exact ⟨rfl, (by repeat (first | exact Below.refl _ _ | refine Below.alloc ?_ (by simp; try omega) _))⟩

set_option maxHeartbeats 1000000 in
theorem read_nil (b : Option Addr) (n c : Nat) (w : World) :
    Calls Tryz.prog 11 #[.pointer none, .int .u64 0, .slice b n c] w (Ans (.int .i64 1) w) := by
  go_enter Tryz.func11, Tryz.ntmps11
  go_wp2_with (go_at_call 30; refine (let_nil _ _).mono ?_; rintro e w' ⟨rfl, rfl⟩)
  exact bodyPost_ret (v := .int .i64 1) (by simp [results, Tryz.results11, go_sem]) rfl ⟨rfl, (by repeat (first | exact Below.refl _ _ | refine Below.alloc ?_ (by simp; try omega) _))⟩

set_option maxHeartbeats 1000000 in
theorem write_nil (b : Option Addr) (n c : Nat) (w : World) :
    Calls Tryz.prog 12 #[.pointer none, .int .u64 0, .slice b n c] w (Ans (.int .i64 1) w) := by
  go_enter Tryz.func12, Tryz.ntmps12
  go_wp2_with (go_at_call 30; refine (let_nil _ _).mono ?_; rintro e w' ⟨rfl, rfl⟩)
  exact bodyPost_ret (v := .int .i64 1) (by simp [results, Tryz.results12, go_sem]) rfl ⟨rfl, (by repeat (first | exact Below.refl _ _ | refine Below.alloc ?_ (by simp; try omega) _))⟩

set_option maxHeartbeats 1000000 in
theorem flush_nil (w : World) :
    Calls Tryz.prog 13 #[.pointer none] w (Ans (.int .i64 1) w) := by
  go_enter Tryz.func13, Tryz.ntmps13
  go_wp2_with (go_at_call 30; refine (let_nil _ _).mono ?_; rintro e w' ⟨rfl, rfl⟩)
  go_ret
  exact ⟨rfl, (by repeat (first | exact Below.refl _ _ | refine Below.alloc ?_ (by simp; try omega) _))⟩

set_option maxHeartbeats 1000000 in
theorem suspend_nil (w : World) :
    Calls Tryz.prog 14 #[.pointer none] w (Ans (.int .i64 1) w) := by
  go_enter Tryz.func14, Tryz.ntmps14
  go_wp2_with (go_at_call 30; refine (let_nil _ _).mono ?_; rintro e w' ⟨rfl, rfl⟩)
  go_ret
  exact ⟨rfl, (by repeat (first | exact Below.refl _ _ | refine Below.alloc ?_ (by simp; try omega) _))⟩

set_option maxHeartbeats 1000000 in
theorem resume_nil (w : World) :
    Calls Tryz.prog 15 #[.pointer none, .slice none 0 0, .int .i64 (-1)] w (Ans (.int .i64 1) w) := by
  go_enter Tryz.func15, Tryz.ntmps15
  go_wp2_with (go_at_call 30; refine (let_nil _ _).mono ?_; rintro e w' ⟨rfl, rfl⟩)
  go_ret
  exact ⟨rfl, (by repeat (first | exact Below.refl _ _ | refine Below.alloc ?_ (by simp; try omega) _))⟩

set_option maxHeartbeats 1000000 in
theorem close_nil (w : World) :
    Calls Tryz.prog 16 #[.pointer none] w (Ans (.int .i64 1) w) := by
  go_enter Tryz.func16, Tryz.ntmps16
  go_wp2_with (go_at_call 30; refine (let_nil _ _).mono ?_; rintro e w' ⟨rfl, rfl⟩)
  go_ret
  exact ⟨rfl, (by repeat (first | exact Below.refl _ _ | refine Below.alloc ?_ (by simp; try omega) _))⟩

set_option maxHeartbeats 1000000 in
theorem changeslot_nil (p : Value) (o : Array Value) (w : World) :
    Calls Tryz.prog 17 #[.pointer none, p, .slice none 0 0, .int .i64 0, .agg o] w (Ans (.int .i64 1) w) := by
  go_enter Tryz.func17, Tryz.ntmps17
  go_wp2_with (go_at_call 30; refine (let_nil _ _).mono ?_; rintro e w' ⟨rfl, rfl⟩)
  go_ret
  exact ⟨rfl, (by repeat (first | exact Below.refl _ _ | refine Below.alloc ?_ (by simp; try omega) _))⟩

set_option maxHeartbeats 1000000 in
theorem killslot_nil (w : World) :
    Calls Tryz.prog 18 #[.pointer none, .int .i64 0] w (Ans (.int .i64 1) w) := by
  go_enter Tryz.func18, Tryz.ntmps18
  go_wp2_with (go_at_call 30; refine (let_nil _ _).mono ?_; rintro e w' ⟨rfl, rfl⟩)
  go_ret
  exact ⟨rfl, (by repeat (first | exact Below.refl _ _ | refine Below.alloc ?_ (by simp; try omega) _))⟩

set_option maxHeartbeats 1000000 in
theorem preferslot_nil (w : World) :
    Calls Tryz.prog 19 #[.pointer none, .int .i64 0, .int .i64 1] w (Ans (.int .i64 1) w) := by
  go_enter Tryz.func19, Tryz.ntmps19
  go_wp2_with (go_at_call 30; refine (let_nil _ _).mono ?_; rintro e w' ⟨rfl, rfl⟩)
  go_ret
  exact ⟨rfl, (by repeat (first | exact Below.refl _ _ | refine Below.alloc ?_ (by simp; try omega) _))⟩

set_option maxHeartbeats 1000000 in
theorem note_nil (o : Array Value) (w : World) :
    Calls Tryz.prog 20 #[.pointer none, .agg o] w (Ans (.int .i64 1) w) := by
  go_enter Tryz.func20, Tryz.ntmps20
  go_wp2_with (go_at_call 30; refine (let_nil _ _).mono ?_; rintro e w' ⟨rfl, rfl⟩)
  go_ret
  exact ⟨rfl, (by repeat (first | exact Below.refl _ _ | refine Below.alloc ?_ (by simp; try omega) _))⟩

set_option maxHeartbeats 1000000 in
theorem unnote_nil (w : World) :
    Calls Tryz.prog 21 #[.pointer none, .int .i64 0] w (Ans (.int .i64 1) w) := by
  go_enter Tryz.func21, Tryz.ntmps21
  go_wp2_with (go_at_call 30; refine (let_nil _ _).mono ?_; rintro e w' ⟨rfl, rfl⟩)
  go_ret
  exact ⟨rfl, (by repeat (first | exact Below.refl _ _ | refine Below.alloc ?_ (by simp; try omega) _))⟩

set_option maxHeartbeats 1000000 in
theorem start_nil (p : Value) (o : Array Value) (w : World) :
    Calls Tryz.prog 22 #[.pointer none, p, .agg o] w (Ans (.int .i64 1) w) := by
  go_enter Tryz.func22, Tryz.ntmps22
  go_wp2_with (go_at_call 30; refine (let_nil _ _).mono ?_; rintro e w' ⟨rfl, rfl⟩)
  go_ret
  exact ⟨rfl, (by repeat (first | exact Below.refl _ _ | refine Below.alloc ?_ (by simp; try omega) _))⟩

set_option maxHeartbeats 1000000 in
theorem tokens_nil (w : World) :
    Calls Tryz.prog 25 #[.pointer none] w (Ans (.slice none 0 0) w) := by
  go_enter Tryz.func25, Tryz.ntmps25
  go_wp2_with (go_at_call 30; refine (let_nil _ _).mono ?_; rintro e w' ⟨rfl, rfl⟩)
  go_ret
  exact ⟨rfl, (by repeat (first | exact Below.refl _ _ | refine Below.alloc ?_ (by simp; try omega) _))⟩

set_option maxHeartbeats 1000000 in
theorem load_nil (w : World) :
    Calls Tryz.prog 72 #[.nilIface] w (Ans (.tuple #[.pointer none, .int .i64 1]) w) := by
  go_enter Tryz.func72, Tryz.ntmps72
  go_wp2_with (go_at_call 30; refine (let_nil _ _).mono ?_; rintro e w' ⟨rfl, rfl⟩)
  go_ret2
  exact ⟨rfl, (by repeat (first | exact Below.refl _ _ | refine Below.alloc ?_ (by simp; try omega) _))⟩

set_option maxHeartbeats 1000000 in
theorem begin_vol1 (g : Value) (w : World) :
    Calls Tryz.prog 36 #[.nilIface, .int .i64 1, g] w (Ans (.tuple #[.pointer none, .int .i64 1]) w) := by
  go_enter Tryz.func36, Tryz.ntmps36
  go_wp2_with (go_at_call 72; refine (load_nil _).mono ?_; rintro e w1 ⟨rfl, hb1⟩)
  go_ret2
  exact ⟨rfl, hb1⟩

set_option maxHeartbeats 1000000 in
theorem begin_vol0 (g : Value) (w : World) :
    Calls Tryz.prog 36 #[.nilIface, .int .i64 0, g] w (Ans (.tuple #[.pointer none, .int .i64 2]) w) := by
  go_enter Tryz.func36, Tryz.ntmps36
  go_wp2
  go_ret2
  exact ⟨rfl, Below.refl _ _⟩

set_option maxHeartbeats 1000000 in
theorem open_nil1 (w : World) :
    Calls Tryz.prog 8 #[.nilIface, .slice none 0 0, .int .i64 (-1), .int .i64 1] w (Ans (.tuple #[.pointer none, .int .i64 1]) w) := by
  go_enter Tryz.func8, Tryz.ntmps8
  go_wp2_with (go_at_call 36; refine (begin_vol1 _ _).mono ?_; rintro e w1 ⟨rfl, hb1⟩)
  go_ret2
  exact ⟨rfl, Below.trans (by repeat (first | exact Below.refl _ _ | refine Below.alloc ?_ (by simp; try omega) _)) (hb1.mono (by simp; try omega))⟩

set_option maxHeartbeats 1000000 in
theorem open_nil0 (w : World) :
    Calls Tryz.prog 8 #[.nilIface, .slice none 0 0, .int .i64 (-1), .int .i64 0] w (Ans (.tuple #[.pointer none, .int .i64 2]) w) := by
  go_enter Tryz.func8, Tryz.ntmps8
  go_wp2_with (go_at_call 36; refine (begin_vol0 _ _).mono ?_; rintro e w1 ⟨rfl, hb1⟩)
  go_ret2
  exact ⟨rfl, Below.trans (by repeat (first | exact Below.refl _ _ | refine Below.alloc ?_ (by simp; try omega) _)) (hb1.mono (by simp; try omega))⟩

set_option maxHeartbeats 1000000 in
theorem reopen_nil (w : World) :
    Calls Tryz.prog 9 #[.nilIface, .slice none 0 0, .int .i64 1] w (Ans (.tuple #[.pointer none, .int .i64 1]) w) := by
  go_enter Tryz.func9, Tryz.ntmps9
  go_wp2_with (go_at_call 36; refine (begin_vol1 _ _).mono ?_; rintro e w1 ⟨rfl, hb1⟩)
  go_ret2
  exact ⟨rfl, Below.trans (by repeat (first | exact Below.refl _ _ | refine Below.alloc ?_ (by simp; try omega) _)) (hb1.mono (by simp; try omega))⟩

set_option maxHeartbeats 1000000 in
theorem make_nil (p : Value) (o : Array Value) (w : World) :
    Calls Tryz.prog 41 #[.nilIface, p, .agg o, .slice none 0 0] w (Ans (.tuple #[.pointer none, .int .i64 1]) w) := by
  go_enter Tryz.func41, Tryz.ntmps41
  go_wp2
  go_ret2
  exact ⟨rfl, by repeat (first | exact Below.refl _ _ | refine Below.alloc ?_ (by simp; try omega) _)⟩
end Go.Proofs.YtajfbkodjigmpaaGreatDoor
