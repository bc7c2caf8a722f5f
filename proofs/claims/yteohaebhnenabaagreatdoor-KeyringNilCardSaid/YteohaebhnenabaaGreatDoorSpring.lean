/- (*Spring).code: 32 bytes in new memory; the first part is not empty, so slices.ContainsFunc is true. -/
import Derived.Test.YteohaebhnenabaaGreatDoorRepeat
import Derived.Deep.RegionHeld3
namespace Go.Proofs.YteohaebhnenabaaGreatDoor
open Go.RowKit

set_option maxRecDepth 100000 in
set_option maxHeartbeats 1000000 in
theorem some_any (p : Option Addr) (n c : Nat) (w : World) (hn : 0 < n) :
    Calls Tryz.prog 96 #[.slice p n c] w fun e w' => e = .returned (.bool true) ∧ w = w' := by
  have hd : decide ((0 : Int) < (n : Int)) = true := by simp; omega
  go_enter Tryz.func96, Tryz.ntmps96
  go_wp2
  go_ret
  exact ⟨rfl, rfl⟩

/-- the first part is not empty -/
theorem indexfunc_0 (pb po np cp : Nat) (p : Option Addr) (n c : Nat) (w : World) (hc : w.cell? ⟨pb, po, none⟩ = some (.slice p n c)) (hn : 0 < n) (hnp : 0 < np) :
    Calls Tryz.prog 106 #[.slice (some ⟨pb, po, none⟩) np cp, .func (.func 96) #[] #[]] w fun e w' => e = .returned (.int .i64 0) ∧ w = w' := by
  have hd : decide ((0 : Int) < (np : Int)) = true := by simp; omega
  have hp : (0 : Int) < np := by omega
  go_enter Tryz.func106, Tryz.ntmps106
  go_wp2
  refine wp_loop_rounds 1 ?_
  rw [rounds_succ]
  go_wp2_with (go_at_call 96; refine (some_any _ _ _ _ hn).mono ?_; rintro e w' ⟨rfl, rfl⟩)
  go_ret
  exact ⟨rfl, rfl⟩

theorem containsfunc_0 (pb po np cp : Nat) (p : Option Addr) (n c : Nat) (w : World) (hc : w.cell? ⟨pb, po, none⟩ = some (.slice p n c)) (hn : 0 < n) (hnp : 0 < np) :
    Calls Tryz.prog 95 #[.slice (some ⟨pb, po, none⟩) np cp, .func (.func 96) #[] #[]] w fun e w' => e = .returned (.bool true) ∧ w = w' := by
  have H := Lib.hid (indexfunc_0 pb po np cp p n c w hc hn hnp)
  clear hc hn hnp
  go_enter Tryz.func95, Tryz.ntmps95
  go_wp2_with (go_at_call 106; refine H.out.mono ?_; rintro e w' ⟨rfl, rfl⟩)
  go_ret
  exact ⟨rfl, rfl⟩

set_option maxRecDepth 100000 in
set_option maxHeartbeats 4000000 in
theorem springcode (cub sq : Nat → Int) (B kb ko kc : Nat) (l : List Int) (pb po np cp : Nat) (at_ : Nat → Option Addr) (len cap : Nat → Nat) (w : World) (G : Glob cub sq w)
    (hB0 : w.cell? ⟨B, 0, none⟩ = some (.int .i64 256)) (hB3 : w.cell? ⟨B, 3, none⟩ = some (.slice (some ⟨kb, ko, none⟩) 32 kc)) (hl : SlBytes w kb ko l) (h32 : l.length = 32) (hc : 32 ≤ kc) (hcm : kc ≤ 140737488351232)
    (hp : PartsAt w w.heap.size pb po np at_ len cap) (hpb : pb < w.heap.size) (hnp : np ≤ 1000) (hnc : np ≤ cp) (hs : sumLen len np ≤ 1000000) (c1 : 0 < (64 + sumLen len np) % 64) (c2 : (64 + sumLen len np) % 64 ≤ 55) :
    Calls Tryz.prog 97 #[.pointer (some ⟨B, 0, none⟩), .slice (some ⟨pb, po, none⟩) np cp] w (Bytes32 w) := by
  have HC := Lib.hid (code_256 cub sq kb ko kc l pb po np cp at_ len cap w.drew ⟨G.hz, G.cubes, G.squares⟩ ⟨hl.lt, hl.cell⟩ h32 hc hcm (hp.below (Below.refl w.heap.size w).drew (Nat.le_refl _) hpb) hpb hnp hnc hs c1 c2)
  have b0 : w.drew.cell? ⟨B, 0, none⟩ = some (.int .i64 256) := hB0
  have b3 : w.drew.cell? ⟨B, 3, none⟩ = some (.slice (some ⟨kb, ko, none⟩) 32 kc) := hB3
  have hBl : B < w.drew.heap.size := World.block_lt_of_cell? w _ hB0
  clear G hB0 hB3 hl h32 hc hcm hp hpb hnp hnc hs c1 c2
  go_enter Tryz.func97, Tryz.ntmps97
  go_wp2
  go_region_held3 (fun w' => w'.cell? ⟨B, 0, none⟩ = some (.int .i64 256) ∧ w'.cell? ⟨B, 3, none⟩ = some (.slice (some ⟨kb, ko, none⟩) 32 kc))
    (first | exact ⟨b0, b3⟩ | exact ⟨(q4.cell (p := ⟨B, 0, none⟩) hBl).trans b0, (q4.cell (p := ⟨B, 3, none⟩) hBl).trans b3⟩)
    (first | (go_at_call 107; refine HC.out.mono ?_; rintro e w1 ⟨g, m, rfl, q1, q2, q3, q4⟩))
  have HF : Hid (w.heap.size ≤ g ∧ m.length = 32 ∧ SlBytes w1 g 0 m ∧ Below w.heap.size w w1) := Lib.hid ⟨q1, q2, q3, ((Below.refl w.heap.size w).drew).trans q4⟩
  clear q1 q2 q3 q4 HC b0 b3
  go_wp2
  go_ret
  exact ⟨g, m, rfl, HF.out⟩
end Go.Proofs.YteohaebhnenabaaGreatDoor
