/- NewMac: a Mac in new memory, of hash 256 and a key of 32 bytes. -/
import Derived.Test.YteohaebhnenabaaGreatDoorKey
namespace Go.Proofs.YteohaebhnenabaaGreatDoor
open Go.RowKit

/-- a Mac in new memory: its first digest has taken n bytes, its second a block -/
def MacAt (w : World) (g n : Nat) : Prop :=
  ∃ (s1 s2 : St) (post : List Value), s1.count = n ∧ s2.count = 64 ∧ s2.half.length = 128 ∧ AtSt w g 207 [] (stCells s2 ++ post) s1 ∧ post.length = 284

def NewMacR (w : World) (e : Ending) (w' : World) : Prop :=
  ∃ g : Nat, e = .returned (.tuple #[.pointer (some ⟨g, 0, none⟩), .int .i64 0]) ∧ w.heap.size ≤ g ∧ MacAt w' g 64 ∧ Below w.heap.size w w'

set_option maxRecDepth 100000 in
set_option maxHeartbeats 4000000 in
theorem newmac_256 (cub sq : Nat → Int) (kb ko kc : Nat) (l : List Int) (w : World) (G : Glob cub sq w) (hl : SlBytes w kb ko l) (h32 : l.length = 32) (hc : 32 ≤ kc) (hcm : kc ≤ 140737488351232) :
    Calls Tryz.prog 110 #[.int .i64 256, .slice (some ⟨kb, ko, none⟩) 32 kc] w (NewMacR w) := by
  have HG := Lib.hid G
  have Hl := Lib.hid hl
  have H32 := Lib.hid h32
  have zz2 : Tryz.zeroCells203.size = 284 := by kernel_rfl
  clear G hl h32
  go_enter Tryz.func110, Tryz.ntmps110
  go_wp2_with fail
  refine (size_256 _).mono ?_
  rintro e w1 ⟨rfl, hb1⟩
  dsimp only
  have Hb1 : Hid (Below w.heap.size w w1) := Lib.hid hb1
  clear hb1
  go_wp2_with fail
  refine (key_256 cub sq kb ko kc l w1 (HG.out.below Hb1.out HG.out.hz) (Hl.out.below Hb1.out Hl.out.lt) H32.out hc hcm).mono ?_
  rintro e w2 ⟨s1, s2, rfl, hc1, hc2, hh1, hh2, hb2⟩
  dsimp only
  obtain ⟨M, HM⟩ : ∃ M, Hid ((stCells s1 ++ stCells s2).toArray = M) := ⟨_, Lib.hid rfl⟩
  rw [HM.out]
  have hMs : M.size = 284 := by rw [← HM.out]; simp [stCells_length s1 hh1, stCells_length s2 hh2]
  have Hb2 : Hid (Below w.heap.size w w2) := Lib.hid (Hb1.out.trans (hb2.mono Hb1.out.size))
  have HF : Hid (s1.count = 64 ∧ s2.count = 64 ∧ s1.half.length = 128 ∧ s2.half.length = 128) := Lib.hid ⟨hc1, hc2, hh1, hh2⟩
  have q1 : (Tryz.prog.info? 203).map (·.size) = some M.size := by rw [hMs]; kernel_rfl
  have q2 : Tryz.zeroCells203.size = M.size := by rw [hMs]; exact zz2
  have q3 : M.all (·.oneCell') = true := by rw [← HM.out]; exact all_one _ (fun v hv => by rcases List.mem_append.1 hv with h | h; exact st_one _ v h; exact st_one _ v h)
  have ob : Tryz.prog.built 207 [(0, .agg M), (1, .agg M)] = some (M ++ M) := by
    have h1 : (Tryz.prog.info? 207).bind (·.zero) = some (.agg Tryz.zeroCells207) := by kernel_rfl
    cases hit : Tryz.prog.info? 207 with
    | none => rw [hit] at h1; cases h1
    | some it =>
      rw [hit] at h1
      exact built_two hit h1 Tryz.underlying207 (s := 284) (by kernel_rfl) M M hMs hMs (by omega) (by kernel_rfl)
  have HMs := Lib.hid hMs
  clear hc1 hc2 hh1 hh2 hb2 zz2 hMs
  go_wp2_with (first
    | (refine wpList_store_fresh rfl 203 (.tmp 6) (.tmp 18) rfl w2.heap.size M Tryz.zeroCells203 203 rfl rfl rfl q1 q2 q3 ?_)
    | (refine wpList_load_row rfl 203 (.tmp 6) rfl w2.heap.size rfl 203 M (0, 0) _ (heap_alloc_new _ _) Tryz.underlying203 rfl q1 ?_)
    | (refine wpList_build_two rfl 207 (.tmp 20) (.tmp 21) rfl M M (M ++ M) rfl rfl ob ?_))
  go_ret2
  have hz2 : w.heap.size ≤ w2.heap.size := Hb2.out.size
  refine ⟨w2.heap.size + 1, rfl, by omega, ⟨s1, s2, (stCells s1 ++ stCells s2), HF.out.1, HF.out.2.1, HF.out.2.2.2, ⟨?_, HF.out.2.2.1⟩, by rw [List.length_append, stCells_length s1 HF.out.2.2.1, stCells_length s2 HF.out.2.2.2]⟩, ?_⟩
  · have e : w2.heap.size + 1 = (w2.alloc (.cells M 203)).heap.size := by simp
    rw [e, heap_alloc_new, ← HM.out]
    simp
  · exact (Hb2.out.alloc hz2 _).alloc (by simp; omega) _
end Go.Proofs.YteohaebhnenabaaGreatDoor
