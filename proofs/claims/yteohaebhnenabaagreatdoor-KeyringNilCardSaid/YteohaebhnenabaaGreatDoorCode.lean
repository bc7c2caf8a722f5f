/- digest.Code of hash 256: 32 bytes in new memory, no error. -/
import Derived.Test.YteohaebhnenabaaGreatDoorSum
namespace Go.Proofs.YteohaebhnenabaaGreatDoor
open Go.RowKit

theorem rangeAt_row {w : World} {b : Nat} {L R : List Value} {T : TypeId} (h : w.heap[b]? = some (.cells (L ++ R).toArray T)) : w.rangeAt b 0 L := by
  intro i v hv
  obtain ⟨hi, _⟩ := List.getElem?_eq_some_iff.1 hv
  rw [Nat.zero_add, cell_of h, List.getElem?_toArray, List.getElem?_append_left hi, hv]

set_option maxRecDepth 100000 in
set_option maxHeartbeats 4000000 in
theorem macsum (cub sq : Nat → Int) (g n : Nat) (w : World) (G : Glob cub sq w) (hm : MacAt w g n) (c1 : 0 < n % 64) (c2 : n % 64 ≤ 55) (c3 : n ≤ 1099511627776) :
    Calls Tryz.prog 112 #[.pointer (some ⟨g, 0, none⟩)] w (Bytes32 w) := by
  obtain ⟨s1, s2, post, e1, e2, e3, e4, e5⟩ := hm
  have hrow : w.heap[g]? = some (.cells ((stCells s1 ++ stCells s2) ++ post).toArray 207) := by rw [e4.row]; simp
  have hr := Lib.hid (rangeAt_row hrow)
  have l : (stCells s1 ++ stCells s2).length = 284 := by rw [List.length_append, stCells_length s1 e4.half, stCells_length s2 e3]
  have o1 : (Tryz.prog.info? 203).map (·.size) = some (stCells s1 ++ stCells s2).length := by rw [l]; kernel_rfl
  have he := Lib.hid (keyed_end cub sq s1 s2 w G e4.half e3 (by rw [e1]; exact c1) (by rw [e1]; exact c2) (by rw [e1]; exact c3) e2)
  clear G e1 e2 e3 e4 e5 hrow l c1 c2 c3
  go_enter Tryz.func112, Tryz.ntmps112
  go_wp2_with (refine wpList_load_mid rfl 203 (.tmp 7) rfl g 0 rfl (stCells s1 ++ stCells s2) _ hr.out Tryz.underlying203 rfl o1 ?_)
  refine he.out.mono ?_
  rintro e w1 ⟨g1, m1, rfl, q⟩
  dsimp only
  have Q := Lib.hid q
  clear q he hr o1
  go_wp2
  go_ret
  exact ⟨g1, m1, rfl, Q.out⟩

/-- 32 bytes in new memory, and no error -/
def CodeR (w : World) (e : Ending) (w' : World) : Prop :=
  ∃ (g : Nat) (l : List Int), e = .returned (.tuple #[.slice (some ⟨g, 0, none⟩) 32 32, .int .i64 0]) ∧ w.heap.size ≤ g ∧ l.length = 32 ∧ SlBytes w' g 0 l ∧ Below w.heap.size w w'

set_option maxRecDepth 100000 in
set_option maxHeartbeats 4000000 in
theorem code_256 (cub sq : Nat → Int) (kb ko kc : Nat) (l : List Int) (pb po np cp : Nat) (at_ : Nat → Option Addr) (len cap : Nat → Nat) (w : World) (G : Glob cub sq w) (hl : SlBytes w kb ko l) (h32 : l.length = 32) (hc : 32 ≤ kc) (hcm : kc ≤ 140737488351232)
    (hp : PartsAt w w.heap.size pb po np at_ len cap) (hpb : pb < w.heap.size) (hnp : np ≤ 1000) (hnc : np ≤ cp) (hs : sumLen len np ≤ 1000000) (c1 : 0 < (64 + sumLen len np) % 64) (c2 : (64 + sumLen len np) % 64 ≤ 55) :
    Calls Tryz.prog 107 #[.int .i64 256, .slice (some ⟨kb, ko, none⟩) 32 kc, .slice (some ⟨pb, po, none⟩) np cp] w (CodeR w) := by
  have HG := Lib.hid G
  have HC := Lib.hid (show np ≤ 1000 ∧ np ≤ cp ∧ sumLen len np ≤ 1000000 ∧ 0 < (64 + sumLen len np) % 64 ∧ (64 + sumLen len np) % 64 ≤ 55 from ⟨hnp, hnc, hs, c1, c2⟩)
  have HP := Lib.hid (show PartsAt w w.heap.size pb po np at_ len cap ∧ pb < w.heap.size from ⟨hp, hpb⟩)
  have HN := Lib.hid (newmac_256 cub sq kb ko kc l w G hl h32 hc hcm)
  clear G hl h32 hc hcm hp hpb hnp hnc hs c1 c2
  go_enter Tryz.func107, Tryz.ntmps107
  go_wp2_with fail
  refine HN.out.mono ?_
  rintro e w1 ⟨g, rfl, hg, hm, hb⟩
  dsimp only
  have HB := Lib.hid hb
  have HGG := Lib.hid hg
  have HG1 : Hid (Glob cub sq w1) := Lib.hid (HG.out.below hb HG.out.hz)
  have HW := Lib.hid (macwrite cub sq g pb po np cp at_ len cap w1 HG1.out hm (fun i hi => ⟨((HP.out.1.below hb (Nat.le_refl _) HP.out.2) i hi).1, ((HP.out.1.below hb (Nat.le_refl _) HP.out.2) i hi).2.mono hg⟩) (Nat.lt_of_lt_of_le HP.out.2 hg) (Nat.le_trans HG.out.hz hg) HC.out.1 HC.out.2.1 (Nat.le_trans HC.out.2.2.1 (by omega)))
  clear hb hg hm HN
  go_wp2_with fail
  refine HW.out.mono ?_
  rintro e w2 ⟨rfl, hu, hm⟩
  dsimp only
  have HU : Hid (Upd (fun b _ => w.heap.size ≤ b) w w2) := Lib.hid ((Upd.of_below HB.out).trans (hu.mono (fun b o _ h => by have : b = g := h; have := HGG.out; omega)))
  have HS := Lib.hid (macsum cub sq g (64 + sumLen len np) w2 (HG1.out.upd hu (fun b o h => by have : b = g := h; have := HGG.out; have := HG.out.hz; omega)) hm HC.out.2.2.2.1 HC.out.2.2.2.2 (by have := HC.out.2.2.1; omega))
  clear hu hm HW
  go_wp2_with fail
  refine HS.out.mono ?_
  rintro e w3 ⟨g3, m3, rfl, q1, q2, q3, q4⟩
  dsimp only
  have HF : Hid (w.heap.size ≤ g3 ∧ m3.length = 32 ∧ SlBytes w3 g3 0 m3 ∧ Below w.heap.size w w3) := Lib.hid ⟨Nat.le_trans HU.out.size q1, q2, q3, Upd.below (HU.out.trans (Upd.of_below q4)) (fun k o hk h => by omega)⟩
  clear q1 q2 q3 q4 HS
  go_wp2
  go_ret2
  exact ⟨g3, m3, rfl, HF.out⟩
end Go.Proofs.YteohaebhnenabaaGreatDoor
