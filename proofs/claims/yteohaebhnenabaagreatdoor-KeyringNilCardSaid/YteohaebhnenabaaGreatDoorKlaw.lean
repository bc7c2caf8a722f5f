/- KeyringNil: the walk of the law. Condition: the two tables hold 64-bit numbers. -/
import Derived.Test.YteohaebhnenabaaGreatDoorKnilC
import Derived.Test.YteohaebhnenabaaGreatDoorNew
import Derived.Deep.DeepCutAuto
import Derived.Lib.SlBytesConst
namespace Go.Proofs.YteohaebhnenabaaGreatDoor
open Go.RowKit

def entropy : List Int := [115, 111, 109, 101, 32, 101, 110, 116, 114, 111, 112, 121, 32, 111, 102, 32, 51, 50, 32, 98, 121, 116, 101, 115, 32, 111, 114, 32, 109, 111, 114, 101]

theorem held_step {w0 a b : World} (hb : Below a.heap.size a b) (h : Below w0.heap.size w0 a) : Below w0.heap.size w0 b := h.trans (hb.mono h.size)

theorem held_alloc {w0 a : World} {o : Obj} (h : Below w0.heap.size w0 a) : Below w0.heap.size w0 (a.alloc o) := h.alloc h.size o

theorem cell_on {a b : World} (hb : Below a.heap.size a b) {p : Addr} {v : Value} (h : a.cell? p = some v) : b.cell? p = some v := (hb.cell (World.block_lt_of_cell? a p h)).trans h

/-- five cells in block b -/
def Row5 (b : Nat) (v0 v1 v2 v3 v4 : Value) (W : World) : Prop :=
  W.cell? ⟨b, 0, none⟩ = some v0 ∧ W.cell? ⟨b, 1, none⟩ = some v1 ∧ W.cell? ⟨b, 2, none⟩ = some v2 ∧ W.cell? ⟨b, 3, none⟩ = some v3 ∧ W.cell? ⟨b, 4, none⟩ = some v4

theorem Row5.on {b : Nat} {v0 v1 v2 v3 v4 : Value} {x y : World} (h : Row5 b v0 v1 v2 v3 v4 x) (hb : Below x.heap.size x y) : Row5 b v0 v1 v2 v3 v4 y :=
  ⟨cell_on hb h.1, cell_on hb h.2.1, cell_on hb h.2.2.1, cell_on hb h.2.2.2.1, cell_on hb h.2.2.2.2⟩

theorem Row5.alloc {b : Nat} {v0 v1 v2 v3 v4 : Value} {x : World} {o : Obj} (h : Row5 b v0 v1 v2 v3 v4 x) : Row5 b v0 v1 v2 v3 v4 (x.alloc o) := h.on ((Below.refl _ _).alloc (Nat.le_refl _) _)

theorem Row5.new (v0 v1 v2 v3 v4 : Value) (W : World) (t : TypeId) : Row5 W.heap.size v0 v1 v2 v3 v4 (W.alloc (.cells #[v0, v1, v2, v3, v4] t)) :=
  ⟨cell_of (heap_alloc_new _ _) 0, cell_of (heap_alloc_new _ _) 1, cell_of (heap_alloc_new _ _) 2, cell_of (heap_alloc_new _ _) 3, cell_of (heap_alloc_new _ _) 4⟩

theorem cell_alloc {x : World} {o : Obj} {p : Addr} {v : Value} (h : x.cell? p = some v) : (x.alloc o).cell? p = some v := cell_on ((Below.refl _ _).alloc (Nat.le_refl _) _) h

theorem ones17 (W : World) (t : TypeId) (i : Nat) (hi : i < 17) : (W.alloc (.cells #[.int .i64 1, .int .i64 1, .int .i64 1, .int .i64 1, .int .i64 1, .int .i64 1, .int .i64 1, .int .i64 1, .int .i64 1, .int .i64 1, .int .i64 1, .int .i64 1, .int .i64 1, .int .i64 1, .int .i64 1, .int .i64 1, .int .i64 1] t)).cell? ⟨W.heap.size, i, none⟩ = some (.int .i64 1) := by
  rw [cell_of (heap_alloc_new _ _)]
  show ((List.replicate 17 (Value.int .i64 1)).toArray)[i]? = _
  rw [List.getElem?_toArray, List.getElem?_replicate, if_pos hi]

abbrev vAes : Value := .string { data := #[97, 101, 115, 49, 50, 56, 45, 101, 99, 98] }

set_option maxRecDepth 100000 in
set_option maxHeartbeats 8000000 in
theorem keyringnil (cub sq : Nat → Int) (w : World) (G : Glob cub sq w) :
    Calls Tryz.prog 3 #[] w fun e w' => e = .returned (.bool true) ∧ Below w.heap.size w w' := by
  have HG := Lib.hid G
  clear G
  have kc := fun (W : World) (C : Array Value) (n c : Nat) => Lib.run_convert_bytes_const (P := Tryz.prog) W 29 5 C n c Tryz.underlying29 Tryz.underlying5
  go_enter Tryz.func3, Tryz.ntmps3
  go_upto_region 3 with (fail)
  obtain ⟨wo, Hwo⟩ : ∃ wo, Hid (w.alloc (Obj.cells #[.int .i64 0, .int .i64 256, .int .i64 1, vAes, .int .i64 1] 24) = wo) := ⟨_, Lib.hid rfl⟩
  have hBo : Hid (Below w.heap.size w wo) := Lib.hid (by rw [← Hwo.out]; exact (Below.refl _ _).alloc (Nat.le_refl _) _)
  have O : Hid (Row5 w.heap.size (.int .i64 0) (.int .i64 256) (.int .i64 1) vAes (.int .i64 1) wo) := Lib.hid (by rw [← Hwo.out]; exact Row5.new _ _ _ _ _ _ _)
  have Hwo' := Hwo.out
  simp only [vAes] at Hwo'
  rw [Hwo']
  clear Hwo' Hwo
  obtain ⟨bo, Hbo⟩ : ∃ bo, Hid (w.heap.size = bo) := ⟨_, Lib.hid rfl⟩
  rw [Hbo.out] at O ⊢
  go_wp2_with fail
  obtain ⟨w0, Hw0⟩ : ∃ w0, Hid (wo.alloc (Obj.cells (entropy.map (Value.int .u8)).toArray 5 (32, 33)) = w0) := ⟨_, Lib.hid rfl⟩
  have hB0 : Hid (Below w.heap.size w w0) := Lib.hid (by rw [← Hw0.out]; exact held_alloc hBo.out)
  have hE0 : Hid (SlBytes w0 wo.heap.size 0 entropy) := Lib.hid (by rw [← Hw0.out]; exact ⟨by simp, fun i hi => by rw [Nat.zero_add, cell_of (heap_alloc_new _ _), getD_map _ _ _ hi]⟩)
  replace O := Lib.hid (show Row5 bo (.int .i64 0) (.int .i64 256) (.int .i64 1) vAes (.int .i64 1) w0 by rw [← Hw0.out]; exact O.out.alloc)
  have NEW := Lib.hid (new_any cub sq wo.heap.size 0 32 entropy w0 (HG.out.below hB0.out HG.out.hz) hE0.out rfl (Nat.le_refl _) (by omega))
  have Hw0' := Hw0.out
  simp only [entropy, List.map] at Hw0'
  rw [Hw0']
  clear Hw0' Hw0 kc
  refine NEW.out.mono ?_
  rintro e w1 ⟨p, rfl, hb⟩
  dsimp only
  have h1 : Hid (Below w.heap.size w w1) := Lib.hid (held_step hb hB0.out)
  replace O := Lib.hid (O.out.on hb)
  clear hb NEW hE0 hB0 hBo
  obtain ⟨O0, O1, O2, O3, O4⟩ := O.out
  go_wp2_with fail
  refine (add_ring _ _ _ _ _ _ _).mono ?_
  rintro e w2 ⟨rfl, hb⟩
  dsimp only
  have h2 : Hid (Below w.heap.size w w2) := Lib.hid (held_step hb h1.out)
  clear O0 O1 O2 O3 O4
  replace O := Lib.hid (O.out.on hb)
  clear hb h1
  go_wp2_with fail
  refine (open_ring _).mono ?_
  rintro e w3 ⟨rfl, hb⟩
  dsimp only
  have h3 : Hid (Below w.heap.size w w3) := Lib.hid (held_step hb h2.out)
  replace O := Lib.hid (O.out.on hb)
  clear hb h2
  go_wp2_with fail
  refine (key_ring _).mono ?_
  rintro e w4 ⟨rfl, hb⟩
  dsimp only
  have h4 : Hid (Below w.heap.size w w4) := Lib.hid (held_step hb h3.out)
  replace O := Lib.hid (O.out.on hb)
  clear hb h3
  go_wp2_with fail
  refine (epoch_ring _ _ _).mono ?_
  rintro e w5 ⟨rfl, hb⟩
  dsimp only
  have h5 : Hid (Below w.heap.size w w5) := Lib.hid (held_step hb h4.out)
  replace O := Lib.hid (O.out.on hb)
  clear hb h4
  go_upto_region 8 with (fail)
  have X := Lib.hid (Row5.new (.int .u64 0) (.string { data := #[] }) (.string { data := #[] }) (.string { data := #[] }) (.string { data := #[] }) w5 37)
  replace O := Lib.hid (O.out.alloc (o := .cells zEpoch 37))
  have h5a := Lib.hid (held_alloc (o := .cells zEpoch 37) h5.out)
  obtain ⟨wx, Hwx⟩ : ∃ wx, Hid (w5.alloc (.cells zEpoch 37) = wx) := ⟨_, Lib.hid rfl⟩
  obtain ⟨bx, Hbx⟩ : ∃ bx, Hid (w5.heap.size = bx) := ⟨_, Lib.hid rfl⟩
  rw [Hbx.out] at X ⊢
  replace X : Hid (Row5 bx (.int .u64 0) (.string { data := #[] }) (.string { data := #[] }) (.string { data := #[] }) (.string { data := #[] }) wx) := by rw [← Hwx.out]; exact X
  replace O : Hid (Row5 bo (.int .i64 0) (.int .i64 256) (.int .i64 1) vAes (.int .i64 1) wx) := by rw [← Hwx.out]; exact O
  replace h5a : Hid (Below w.heap.size w wx) := by rw [← Hwx.out]; exact h5a
  have Hwx' := Hwx.out
  simp only [zEpoch] at Hwx'
  rw [Hwx']
  clear Hwx' Hwx Hbx h5
  have h5 := h5a
  clear h5a
  go_wp2_with fail
  refine (master_ring _).mono ?_
  rintro e w6 ⟨rfl, hb⟩
  dsimp only
  have h6 : Hid (Below w.heap.size w w6) := Lib.hid (held_step hb h5.out)
  replace O := Lib.hid (O.out.on hb)
  replace X := Lib.hid (X.out.on hb)
  clear hb h5
  go_wp2_with fail
  refine (load_dev _).mono ?_
  rintro e w7 ⟨rfl, hb⟩
  dsimp only
  have h7 : Hid (Below w.heap.size w w7) := Lib.hid (held_step hb h6.out)
  replace O := Lib.hid (O.out.on hb)
  replace X := Lib.hid (X.out.on hb)
  clear hb h6
  go_wp2_with fail
  refine (make_dev _ _ _).mono ?_
  rintro e w8 ⟨rfl, hb⟩
  dsimp only
  have h8 : Hid (Below w.heap.size w w8) := Lib.hid (held_step hb h7.out)
  replace O := Lib.hid (O.out.on hb)
  replace X := Lib.hid (X.out.on hb)
  clear hb h7
  go_wp2_with fail
  refine (slabnew _).mono ?_
  rintro e w9 ⟨ds, rfl, dlt, hb, hd⟩
  dsimp only
  have h9 : Hid (Below w.heap.size w w9) := Lib.hid (held_step hb h8.out)
  replace O := Lib.hid (O.out.on hb)
  replace X := Lib.hid (X.out.on hb)
  have D : Hid (w9.cell? ⟨ds, 8, none⟩ = some (.int .i64 0)) := Lib.hid hd
  clear dlt hd
  clear hb h8
  go_wp2_with fail
  refine (make_spring _ _ _ _).mono ?_
  rintro e w10 ⟨rfl, hb⟩
  dsimp only
  have h10 : Hid (Below w.heap.size w w10) := Lib.hid (held_step hb h9.out)
  replace O := Lib.hid (O.out.on hb)
  replace X := Lib.hid (X.out.on hb)
  replace D : Hid (w10.cell? ⟨ds, 8, none⟩ = some (.int .i64 0)) := Lib.hid (cell_on hb D.out)
  obtain ⟨O0, O1, O2, O3, O4⟩ := O.out
  clear hb h9
  go_wp2_with fail
  refine (change_ring _ _ _ _ _ _ _).mono ?_
  rintro e w11 ⟨rfl, hb⟩
  dsimp only
  have h11 : Hid (Below w.heap.size w w11) := Lib.hid (held_step hb h10.out)
  clear O0 O1 O2 O3 O4 O
  replace X := Lib.hid (X.out.on hb)
  replace D : Hid (w11.cell? ⟨ds, 8, none⟩ = some (.int .i64 0)) := Lib.hid (cell_on hb D.out)
  clear hb h10
  go_wp2_with fail
  refine (kill_ring _).mono ?_
  rintro e w12 ⟨rfl, hb⟩
  dsimp only
  have h12 : Hid (Below w.heap.size w w12) := Lib.hid (held_step hb h11.out)
  replace X := Lib.hid (X.out.on hb)
  replace D : Hid (w12.cell? ⟨ds, 8, none⟩ = some (.int .i64 0)) := Lib.hid (cell_on hb D.out)
  clear hb h11
  go_wp2_with fail
  refine (prefer_ring _).mono ?_
  rintro e w13 ⟨rfl, hb⟩
  dsimp only
  have h13 : Hid (Below w.heap.size w w13) := Lib.hid (held_step hb h12.out)
  replace X := Lib.hid (X.out.on hb)
  replace D : Hid (w13.cell? ⟨ds, 8, none⟩ = some (.int .i64 0)) := Lib.hid (cell_on hb D.out)
  clear hb h12
  go_wp2_with fail
  refine (sweep_ring _).mono ?_
  rintro e w14 ⟨rfl, hb⟩
  dsimp only
  have h14 : Hid (Below w.heap.size w w14) := Lib.hid (held_step hb h13.out)
  replace X := Lib.hid (X.out.on hb)
  replace D : Hid (w14.cell? ⟨ds, 8, none⟩ = some (.int .i64 0)) := Lib.hid (cell_on hb D.out)
  clear hb h13
  go_wp2_with fail
  refine (note_ring _ _).mono ?_
  rintro e w15 ⟨rfl, hb⟩
  dsimp only
  have h15 : Hid (Below w.heap.size w w15) := Lib.hid (held_step hb h14.out)
  replace X := Lib.hid (X.out.on hb)
  replace D : Hid (w15.cell? ⟨ds, 8, none⟩ = some (.int .i64 0)) := Lib.hid (cell_on hb D.out)
  clear hb h14
  go_wp2_with fail
  refine (unnote_ring _).mono ?_
  rintro e w16 ⟨rfl, hb⟩
  dsimp only
  have h16 : Hid (Below w.heap.size w w16) := Lib.hid (held_step hb h15.out)
  replace X := Lib.hid (X.out.on hb)
  replace D : Hid (w16.cell? ⟨ds, 8, none⟩ = some (.int .i64 0)) := Lib.hid (cell_on hb D.out)
  clear hb h15
  go_wp2_with fail
  refine (meta_ring _).mono ?_
  rintro e w17 ⟨rfl, hb⟩
  dsimp only
  have h17 : Hid (Below w.heap.size w w17) := Lib.hid (held_step hb h16.out)
  replace X := Lib.hid (X.out.on hb)
  replace D : Hid (w17.cell? ⟨ds, 8, none⟩ = some (.int .i64 0)) := Lib.hid (cell_on hb D.out)
  clear hb h16
  go_wp2_with fail
  refine (commit_ring _ _).mono ?_
  rintro e w18 ⟨rfl, hb⟩
  dsimp only
  have h18 : Hid (Below w.heap.size w w18) := Lib.hid (held_step hb h17.out)
  replace X := Lib.hid (X.out.on hb)
  replace D : Hid (w18.cell? ⟨ds, 8, none⟩ = some (.int .i64 0)) := Lib.hid (cell_on hb D.out)
  clear hb h17
  go_wp2_with fail
  refine (unlock_ring _).mono ?_
  rintro e w19 ⟨rfl, hb⟩
  dsimp only
  have h19 : Hid (Below w.heap.size w w19) := Lib.hid (held_step hb h18.out)
  replace X := Lib.hid (X.out.on hb)
  replace D : Hid (w19.cell? ⟨ds, 8, none⟩ = some (.int .i64 0)) := Lib.hid (cell_on hb D.out)
  clear hb h18
  go_wp2_with fail
  refine (lock_ring _).mono ?_
  rintro e w20 ⟨rfl, hb⟩
  dsimp only
  have h20 : Hid (Below w.heap.size w w20) := Lib.hid (held_step hb h19.out)
  replace X := Lib.hid (X.out.on hb)
  replace D : Hid (w20.cell? ⟨ds, 8, none⟩ = some (.int .i64 0)) := Lib.hid (cell_on hb D.out)
  clear hb h19
  go_upto_region 14 with (fail)
  have hc : Hid (∀ i : Nat, i < 17 → (w20.alloc (.cells #[.int .i64 1, .int .i64 1, .int .i64 1, .int .i64 1, .int .i64 1, .int .i64 1, .int .i64 1, .int .i64 1, .int .i64 1, .int .i64 1, .int .i64 1, .int .i64 1, .int .i64 1, .int .i64 1, .int .i64 1, .int .i64 1, .int .i64 1] 26)).cell? ⟨w20.heap.size, i, none⟩ = some (.int .i64 1)) := Lib.hid (fun i hi => ones17 _ _ i hi)
  obtain ⟨wl, Hwl⟩ : ∃ wl, Hid (w20.alloc (.cells #[.int .i64 1, .int .i64 1, .int .i64 1, .int .i64 1, .int .i64 1, .int .i64 1, .int .i64 1, .int .i64 1, .int .i64 1, .int .i64 1, .int .i64 1, .int .i64 1, .int .i64 1, .int .i64 1, .int .i64 1, .int .i64 1, .int .i64 1] 26) = wl) := ⟨_, Lib.hid rfl⟩
  obtain ⟨g, Hg⟩ : ∃ g, Hid (w20.heap.size = g) := ⟨_, Lib.hid rfl⟩
  have hl : Hid (Below w.heap.size w wl) := Lib.hid (by rw [← Hwl.out]; exact held_alloc h20.out)
  replace X : Hid (Row5 bx (.int .u64 0) (.string { data := #[] }) (.string { data := #[] }) (.string { data := #[] }) (.string { data := #[] }) wl) := Lib.hid (by rw [← Hwl.out]; exact X.out.alloc)
  replace D : Hid (wl.cell? ⟨ds, 8, none⟩ = some (.int .i64 0)) := Lib.hid (by rw [← Hwl.out]; exact cell_alloc D.out)
  rw [Hg.out, Hwl.out] at hc
  rw [Hg.out, Hwl.out]
  clear Hg Hwl h20
  go_wp2
  go_loop [24] (fun v => ∃ k : Nat, k ≤ 17 ∧ v = .int .i64 k) (fun v => 17 - (intOf v).toNat)
  case atStart => exact ⟨0, by omega, rfl⟩
  case round =>
    obtain ⟨k, hk, rfl⟩ := hrel
    by_cases hlt : k < 17
    · have hd : decide ((k : Int) < 17) = true := by simp; omega
      have k0 : (k : Int) < 17 := by omega
      have cc := hc.out k hlt
      go_wp2
      go_round
      case rel => exact ⟨k + 1, by omega, by go_num⟩
      case measure => simp [intOf]; omega
    · obtain rfl : k = 17 := by omega
      have hd : decide (((17 : Nat) : Int) < 17) = false := by decide
      clear hk hlt hc
      obtain ⟨X0, X1, X2, X3, X4⟩ := X.out
      go_wp2_with fail
      refine (seq_ring _).mono ?_
      rintro e v0 ⟨rfl, hb⟩
      dsimp only
      have g0 : Hid (Below w.heap.size w v0) := Lib.hid (held_step hb hl.out)
      replace D : Hid (v0.cell? ⟨ds, 8, none⟩ = some (.int .i64 0)) := Lib.hid (cell_on hb D.out)
      clear hb hl X0 X1 X2 X3 X4 X
      go_wp2_with fail
      refine (device_ring _).mono ?_
      rintro e v1 ⟨rfl, hb⟩
      dsimp only
      have g1 : Hid (Below w.heap.size w v1) := Lib.hid (held_step hb g0.out)
      replace D : Hid (v1.cell? ⟨ds, 8, none⟩ = some (.int .i64 0)) := Lib.hid (cell_on hb D.out)
      clear hb g0
      go_wp2_with fail
      refine (locked_ring _).mono ?_
      rintro e v2 ⟨rfl, hb⟩
      dsimp only
      have g2 : Hid (Below w.heap.size w v2) := Lib.hid (held_step hb g1.out)
      replace D : Hid (v2.cell? ⟨ds, 8, none⟩ = some (.int .i64 0)) := Lib.hid (cell_on hb D.out)
      clear hb g1
      go_wp2_with fail
      refine (stuck_ring _).mono ?_
      rintro e v3 ⟨rfl, hb⟩
      dsimp only
      have g3 : Hid (Below w.heap.size w v3) := Lib.hid (held_step hb g2.out)
      replace D : Hid (v3.cell? ⟨ds, 8, none⟩ = some (.int .i64 0)) := Lib.hid (cell_on hb D.out)
      clear hb g2
      go_wp2_with fail
      refine (meta_ring _).mono ?_
      rintro e v4 ⟨rfl, hb⟩
      dsimp only
      have g4 : Hid (Below w.heap.size w v4) := Lib.hid (held_step hb g3.out)
      replace D : Hid (v4.cell? ⟨ds, 8, none⟩ = some (.int .i64 0)) := Lib.hid (cell_on hb D.out)
      clear hb g3
      go_wp2_with fail
      refine (samemeta_zero _).mono ?_
      rintro e v5 ⟨rfl, hb⟩
      dsimp only
      have g5 : Hid (Below w.heap.size w v5) := Lib.hid (held_step hb g4.out)
      replace D : Hid (v5.cell? ⟨ds, 8, none⟩ = some (.int .i64 0)) := Lib.hid (cell_on hb D.out)
      clear hb g4
      go_wp2_with fail
      refine (ops_zero _ _ D.out).mono ?_
      rintro e vf ⟨rfl, hb⟩
      dsimp only
      have gf : Hid (Below w.heap.size w vf) := Lib.hid (held_step hb g5.out)
      clear hb g5 D
      go_wp2
      go_ret
      exact ⟨rfl, gf.out⟩
end Go.Proofs.YteohaebhnenabaaGreatDoor
