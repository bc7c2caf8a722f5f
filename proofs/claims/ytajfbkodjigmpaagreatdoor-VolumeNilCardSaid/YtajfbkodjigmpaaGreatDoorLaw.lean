/- VolumeNil: the walk of the law. Condition: the two tables hold 64-bit numbers. -/
import Derived.Test.YtajfbkodjigmpaaGreatDoorNew
import Derived.Test.YtajfbkodjigmpaaGreatDoorNil2
import Derived.Deep.DeepCutAuto
import Derived.Deep.RegionHeld3
import Derived.Lib.SlBytesConst
import Derived.Laws.MakeOwn
namespace Go.Proofs.YtajfbkodjigmpaaGreatDoor
open Go.RowKit

def entropy : List Int := [115, 111, 109, 101, 32, 101, 110, 116, 114, 111, 112, 121, 32, 111, 102, 32, 51, 50, 32, 98, 121, 116, 101, 115, 32, 111, 114, 32, 109, 111, 114, 101]

theorem mk512 : ∃ Z : Array Value, ∀ W : World, (Instr.makeSlice 27 (.int .i64 512) (.int .i64 512)).run Tryz.prog W = .ok (.slice (some ⟨W.heap.size, 0, none⟩) 512 512) (W.alloc (.cells Z 5)) := by
  have i8 : (Tryz.prog.info? 5).map (fun i => (i.zero, i.size, i.bytes)) = some (some (.int .u8 0), 1, 1) := by kernel_rfl
  obtain ⟨i0, hi, hz0, hz1, hz2⟩ := info_parts i8
  exact ⟨_, fun W => run_makeSlice (w := W) 27 5 i0 (.int .u8 0) Tryz.underlying27 hi hz0 .i64 .i64 512 512 (by omega) (by omega) (by rw [hz1]; decide) (by rw [hz2]; decide) (by omega)⟩

theorem held_step {w0 a b : World} (hb : Below a.heap.size a b) (h : Below w0.heap.size w0 a) : Below w0.heap.size w0 b := h.trans (hb.mono h.size)

theorem held_alloc {w0 a : World} {o : Obj} (h : Below w0.heap.size w0 a) : Below w0.heap.size w0 (a.alloc o) := h.alloc h.size o

theorem ones18 (W : World) (t : TypeId) (i : Nat) (hi : i < 18) : (W.alloc (.cells #[.int .i64 1, .int .i64 1, .int .i64 1, .int .i64 1, .int .i64 1, .int .i64 1, .int .i64 1, .int .i64 1, .int .i64 1, .int .i64 1, .int .i64 1, .int .i64 1, .int .i64 1, .int .i64 1, .int .i64 1, .int .i64 1, .int .i64 1, .int .i64 1] t)).cell? ⟨W.heap.size, i, none⟩ = some (.int .i64 1) := by
  rw [cell_of (heap_alloc_new _ _)]
  show ((List.replicate 18 (Value.int .i64 1)).toArray)[i]? = _
  rw [List.getElem?_toArray, List.getElem?_replicate, if_pos hi]

set_option maxRecDepth 100000 in
set_option maxHeartbeats 8000000 in
theorem volumenil (cub sq : Nat → Int) (w : World) (G : Glob cub sq w) :
    Calls Tryz.prog 3 #[] w fun e w' => e = .returned (.bool true) ∧ Below w.heap.size w w' := by
  have HG := Lib.hid G
  clear G
  have kc := fun (W : World) (C : Array Value) (n c : Nat) => Lib.run_convert_bytes_const (P := Tryz.prog) W 27 5 C n c Tryz.underlying27 Tryz.underlying5
  go_enter Tryz.func3, Tryz.ntmps3
  go_wp2_with fail
  obtain ⟨w0, Hw0⟩ : ∃ w0, Hid (w.alloc (Obj.cells (entropy.map (Value.int .u8)).toArray 5 (32, 33)) = w0) := ⟨_, Lib.hid rfl⟩
  have hB0 : Hid (Below w.heap.size w w0) := Lib.hid (by rw [← Hw0.out]; exact (Below.refl _ _).alloc (Nat.le_refl _) _)
  have hE0 : Hid (SlBytes w0 w.heap.size 0 entropy) := Lib.hid (by rw [← Hw0.out]; exact ⟨by simp, fun i hi => by rw [Nat.zero_add, cell_of (heap_alloc_new _ _), getD_map _ _ _ hi]⟩)
  have NEW := Lib.hid (new_any cub sq w.heap.size 0 32 entropy w0 (HG.out.below hB0.out HG.out.hz) hE0.out rfl (Nat.le_refl _) (by omega))
  have Hw0' := Hw0.out
  simp only [entropy, List.map] at Hw0'
  rw [Hw0']
  clear Hw0' Hw0 kc
  refine NEW.out.mono ?_
  rintro e w1 ⟨p, rfl, hb⟩
  dsimp only
  have h1 : Hid (Below w.heap.size w w1) := Lib.hid (held_step hb hB0.out)
  clear hb NEW hE0 hB0
  go_wp2_with fail
  refine (addslot_nil _ _ _).mono ?_
  rintro e w2 ⟨rfl, hb⟩
  dsimp only
  have h2 : Hid (Below w.heap.size w w2) := Lib.hid (held_step hb h1.out)
  clear hb h1
  go_wp2_with fail
  refine (master_nil _).mono ?_
  rintro e w3 ⟨rfl, hb⟩
  dsimp only
  have h3 : Hid (Below w.heap.size w w3) := Lib.hid (held_step hb h2.out)
  clear hb h2
  go_wp2_with fail
  refine (step_nil _).mono ?_
  rintro e w4 ⟨rfl, hb⟩
  dsimp only
  have h4 : Hid (Below w.heap.size w w4) := Lib.hid (held_step hb h3.out)
  clear hb h3
  go_wp2_with fail
  refine (open_nil1 _).mono ?_
  rintro e w5 ⟨rfl, hb⟩
  dsimp only
  have h5 : Hid (Below w.heap.size w w5) := Lib.hid (held_step hb h4.out)
  clear hb h4
  go_wp2_with fail
  refine (reopen_nil _).mono ?_
  rintro e w6 ⟨rfl, hb⟩
  dsimp only
  have h6 : Hid (Below w.heap.size w w6) := Lib.hid (held_step hb h5.out)
  clear hb h5
  go_upto_region 8 with (fail)
  go_cut [14] (fun s14 wx => ∃ g : Nat, s14 = .slice (some ⟨g, 0, none⟩) 18 18 ∧ Hid (Below w.heap.size w wx) ∧ Hid (∀ i : Nat, i < 18 → wx.cell? ⟨g, i, none⟩ = some (.int .i64 1)))
  case first =>
    obtain ⟨Z, hmk⟩ := mk512
    have hS0 : Below w.heap.size w w6.drew := h6.out.drew
    go_region_held3 (fun w' => Below w.heap.size w w') (first | exact hS0 | exact held_step hb (by assumption) | exact held_alloc (by assumption))
      (first | (go_at_call 10; refine (format_nil _ _).mono ?_; rintro e w' ⟨rfl, hb⟩) | (go_at_call 11; refine (read_nil _ _ _ _).mono ?_; rintro e w' ⟨rfl, hb⟩) | (go_at_call 12; refine (write_nil _ _ _ _).mono ?_; rintro e w' ⟨rfl, hb⟩) | (go_at_call 13; refine (flush_nil _).mono ?_; rintro e w' ⟨rfl, hb⟩) | (go_at_call 14; refine (suspend_nil _).mono ?_; rintro e w' ⟨rfl, hb⟩) | (go_at_call 15; refine (resume_nil _).mono ?_; rintro e w' ⟨rfl, hb⟩) | (go_at_call 16; refine (close_nil _).mono ?_; rintro e w' ⟨rfl, hb⟩) | (go_at_call 17; refine (changeslot_nil _ _ _).mono ?_; rintro e w' ⟨rfl, hb⟩) | (go_at_call 18; refine (killslot_nil _).mono ?_; rintro e w' ⟨rfl, hb⟩) | (go_at_call 19; refine (preferslot_nil _).mono ?_; rintro e w' ⟨rfl, hb⟩) | (go_at_call 20; refine (note_nil _ _).mono ?_; rintro e w' ⟨rfl, hb⟩) | (go_at_call 21; refine (unnote_nil _).mono ?_; rintro e w' ⟨rfl, hb⟩) | (go_at_call 22; refine (start_nil _ _ _).mono ?_; rintro e w' ⟨rfl, hb⟩))
    all_goals
      go_wp2_with fail
      go_meet
      exact ⟨_, rfl, Lib.hid (by assumption), Lib.hid (fun i hi => ones18 _ _ i hi)⟩
  case rest =>
    obtain ⟨g, rfl, hb, hc⟩ := hcut
    clear h6
    go_wp2
    go_loop [15] (fun v => ∃ k : Nat, k ≤ 18 ∧ v = .int .i64 k) (fun v => 18 - (intOf v).toNat)
    case atStart => exact ⟨0, by omega, rfl⟩
    case round =>
      obtain ⟨k, hk, rfl⟩ := hrel
      by_cases hlt : k < 18
      · have hd : decide ((k : Int) < 18) = true := by simp; omega
        have k0 : (k : Int) < 18 := by omega
        have cc := hc.out k hlt
        go_wp2
        go_round
        case rel => exact ⟨k + 1, by omega, by go_num⟩
        case measure => simp [intOf]; omega
      · obtain rfl : k = 18 := by omega
        have hd : decide (((18 : Nat) : Int) < 18) = false := by decide
        clear hk hlt hc
        go_wp2_with fail
        refine (open_nil0 _).mono ?_
        rintro e w7 ⟨rfl, hb7⟩
        dsimp only
        have h7 : Hid (Below w.heap.size w w7) := Lib.hid (held_step hb7 hb.out)
        clear hb7 hb
        go_wp2_with fail
        refine (status_nil _).mono ?_
        rintro e w8 ⟨rfl, hb8⟩
        dsimp only
        have h8 : Hid (Below w.heap.size w w8) := Lib.hid (held_step hb8 h7.out)
        clear hb8 h7
        go_wp2_with fail
        refine (samestatus_nil _).mono ?_
        rintro e w9 ⟨rfl, hb9⟩
        dsimp only
        have h9 : Hid (Below w.heap.size w w9) := Lib.hid (held_step hb9 h8.out)
        clear hb9 h8
        go_wp2_with fail
        refine (tokens_nil _).mono ?_
        rintro e wa ⟨rfl, hba⟩
        dsimp only
        have ha : Hid (Below w.heap.size w wa) := Lib.hid (held_step hba h9.out)
        clear hba h9
        go_wp2
        go_ret
        exact ⟨rfl, ha.out⟩
end Go.Proofs.YtajfbkodjigmpaaGreatDoor
