/- (*Mac).Sum: 32 bytes in new memory. Condition: the half block holds 1 to 55 bytes. -/
import Derived.Test.YteohaebhnenabaaGreatDoorWrite
import Derived.Test.YteohaebhnenabaaGreatDoorEnd
import Derived.Deep.MidRow
namespace Go.Proofs.YteohaebhnenabaaGreatDoor
open Go.RowKit

/-- 32 bytes in new memory -/
def Bytes32 (w : World) (e : Ending) (w' : World) : Prop :=
  ∃ (g : Nat) (l : List Int), e = .returned (.slice (some ⟨g, 0, none⟩) 32 32) ∧ w.heap.size ≤ g ∧ l.length = 32 ∧ SlBytes w' g 0 l ∧ Below w.heap.size w w'

theorem end_32 (s : St) (cub sq : Nat → Int) (w : World) (hh : s.half.length = 128) (G : Glob cub sq w) (h0 : 0 < s.count % 64) (h1 : s.count % 64 ≤ 55) (hcount : s.count ≤ 1099511627776) :
    Calls Tryz.prog 119 #[.agg (stCells s).toArray] w (Bytes32 w) :=
  (end_256 s cub w hh G.hz h0 h1 hcount G.cubes).mono fun _ _ ⟨g, h1, h2, h3, h4⟩ => ⟨g, endF cub s, h1, h2, rfl, h3, h4⟩

theorem AtSt.range {w : World} {B T : Nat} {pre post : List Value} {s : St} (h : AtSt w B T pre post s) : w.rangeAt B pre.length (stCells s) := fun i _ hv => h.cell i hv

set_option maxRecDepth 100000 in
set_option maxHeartbeats 4000000 in
theorem keyed_end (cub sq : Nat → Int) (s1 s2 : St) (w : World) (G : Glob cub sq w) (h1 : s1.half.length = 128) (h2 : s2.half.length = 128) (c1 : 0 < s1.count % 64) (c1' : s1.count % 64 ≤ 55) (c1'' : s1.count ≤ 1099511627776) (c2 : s2.count = 64) :
    Calls Tryz.prog 117 #[.agg (stCells s1 ++ stCells s2).toArray] w (Bytes32 w) := by
  have HG := Lib.hid G
  have l1 : (stCells s1).length = 142 := stCells_length s1 h1
  have l2 : (stCells s2).length = 142 := stCells_length s2 h2
  have L1 := Lib.hid l1
  have L2 := Lib.hid l2
  have HE := Lib.hid (show s1.half.length = 128 ∧ s2.half.length = 128 ∧ 0 < s1.count % 64 ∧ s1.count % 64 ≤ 55 ∧ s1.count ≤ 1099511627776 ∧ s2.count = 64 from ⟨h1, h2, c1, c1', c1'', c2⟩)
  obtain ⟨M, HM⟩ : ∃ M, Hid ((stCells s1 ++ stCells s2).toArray = M) := ⟨_, Lib.hid rfl⟩
  rw [HM.out]
  clear G h1 h2 c1 c1' c1'' c2 l1 l2
  go_enter Tryz.func117, Tryz.ntmps117
  have o1 : (Tryz.prog.info? 201).map (·.size) = some (stCells s1).length := by rw [L1.out]; kernel_rfl
  have hA : Hid (AtSt (w.alloc (.cells M 203)) w.heap.size 203 [] (stCells s2) s1) := Lib.hid ⟨by rw [heap_alloc_new, ← HM.out]; simp, HE.out.1⟩
  have hR : Hid ((w.alloc (.cells M 203)).rangeAt w.heap.size 0 (stCells s1)) := Lib.hid hA.out.range
  have hG0 : Hid (Glob cub sq (w.alloc (.cells M 203))) := Lib.hid (HG.out.below ((Below.refl _ _).alloc (Nat.le_refl _) _) HG.out.hz)
  obtain ⟨w0, Hw0⟩ : ∃ w0, Hid (w.alloc (.cells M 203) = w0) := ⟨_, Lib.hid rfl⟩
  have hb0 : Hid (Below w.heap.size w w0 ∧ w.heap.size < w0.heap.size) := Lib.hid (by rw [← Hw0.out]; exact ⟨(Below.refl _ _).alloc (Nat.le_refl _) _, by simp⟩)
  go_upto_region 1 with (fail)
  rw [Hw0.out] at hA hR hG0 ⊢
  obtain ⟨N, HN⟩ : ∃ N, Hid (w.heap.size = N) := ⟨_, Lib.hid rfl⟩
  rw [HN.out] at hA hR
  simp only [HN.out]
  have hN : 3 ≤ N ∧ N < w0.heap.size := ⟨by rw [← HN.out]; exact HG.out.hz, by rw [← HN.out]; exact hb0.out.2⟩
  have HNN := Lib.hid hN
  clear hN Hw0
  go_wp2_with (refine wpList_load_mid rfl 201 (.tmp 4) rfl N 0 rfl (stCells s1) _ hR.out Tryz.underlying201 rfl o1 ?_)
  refine (end_32 s1 cub sq _ HE.out.1 hG0.out HE.out.2.2.1 HE.out.2.2.2.1 HE.out.2.2.2.2.1).mono ?_
  rintro e w1 ⟨g, l, rfl, q1, q2, q3, q4⟩
  dsimp only
  have hA1 : Hid (AtSt w1 N 203 (stCells s1) [] s2) := Lib.hid ⟨by rw [q4.block _ HNN.out.2, hA.out.row]; simp, HE.out.2.1⟩
  have hG1 : Hid (Glob cub sq w1) := Lib.hid (hG0.out.below q4 hG0.out.hz)
  have hB1 : Hid (Below w.heap.size w w1) := Lib.hid (hb0.out.1.trans (q4.mono (Nat.le_of_lt hb0.out.2)))
  have HQ := Lib.hid (show w0.heap.size ≤ g ∧ l.length = 32 ∧ SlBytes w1 g 0 l from ⟨q1, q2, q3⟩)
  have T2 := Lib.hid (take_at0 N 203 g 0 32 (stCells s1) [] s2 l cub w1 hA1.out q3 (by rw [q2]; omega) (by omega) (by have := HNN.out.2; omega) HNN.out.1 (by rw [HE.out.2.2.2.2.2]) (by rw [HE.out.2.2.2.2.2]; omega) hG1.out.cubes)
  rw [q2, L1.out] at T2
  clear q1 q2 q3 q4 o1
  go_wp2_with fail
  refine T2.out.mono ?_
  rintro e w2 ⟨rfl, u2, a2⟩
  dsimp only
  have H2 : Hid (∃ s3 : St, s3.count = 96 ∧ AtSt w2 N 203 (stCells s1) [] s3) := Lib.hid ⟨_, by simp [restF, HE.out.2.2.2.2.2], a2⟩
  clear a2 T2
  obtain ⟨s3, c3, a3⟩ := H2.out
  have hG2 : Hid (Glob cub sq w2) := Lib.hid (hG1.out.upd u2 (fun b o h => by have : b = N := h; have := HNN.out.1; omega))
  have hU2 : Hid (Upd (fun b _ => w.heap.size ≤ b) w w2) := Lib.hid ((Upd.of_below hB1.out).trans (u2.mono (fun b o _ h => by have : b = N := h; have := HN.out; omega)))
  have l3 : (stCells s3).length = 142 := stCells_length s3 a3.half
  have o3 : (Tryz.prog.info? 201).map (·.size) = some (stCells s3).length := by rw [l3]; kernel_rfl
  have r3 := a3.range
  rw [L1.out] at r3
  have R3 := Lib.hid r3
  have HC := Lib.hid (show s3.count = 96 ∧ s3.half.length = 128 from ⟨c3, a3.half⟩)
  clear u2 c3 a3 l3 r3
  go_wp2_with (refine wpList_load_mid rfl 201 (.tmp 8) rfl N 142 rfl (stCells s3) _ R3.out Tryz.underlying201 rfl o3 ?_)
  refine (end_32 s3 cub sq _ HC.out.2 hG2.out (by rw [HC.out.1]; omega) (by rw [HC.out.1]; omega) (by rw [HC.out.1]; omega)).mono ?_
  rintro e w3 ⟨g3, m3, rfl, q1, q2, q3, q4⟩
  dsimp only
  have HF : Hid (w.heap.size ≤ g3 ∧ m3.length = 32 ∧ SlBytes w3 g3 0 m3 ∧ Below w.heap.size w w3) := Lib.hid ⟨Nat.le_trans hU2.out.size q1, q2, q3, Upd.below (hU2.out.trans (Upd.of_below q4)) (fun k o hk h => by omega)⟩
  clear q1 q2 q3 q4 o3
  go_wp2
  go_ret
  exact ⟨g3, m3, rfl, HF.out⟩
end Go.Proofs.YteohaebhnenabaaGreatDoor
