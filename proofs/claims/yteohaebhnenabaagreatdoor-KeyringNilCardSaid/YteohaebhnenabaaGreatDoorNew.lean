/- spring.New of hash 256 with 32 bytes: a spring in new memory, no error; nothing that was there has changed. -/
import Derived.Test.YteohaebhnenabaaGreatDoorUpdate
import Derived.Deep.RegionWith
namespace Go.Proofs.YteohaebhnenabaaGreatDoor
open Go.RowKit

def zeros32 : Array Value := ((List.replicate 32 (0 : Int)).map (Value.int .u8)).toArray

theorem cell_new1 (w : World) (x : Value) (t : TypeId) : (w.alloc (.cells #[x] t)).cell? ⟨w.heap.size, 0, none⟩ = some x := by
  rw [cell_of (heap_alloc_new _ _)]
  rfl

theorem zeros_at {w : World} {b : Nat} (h : w.heap[b]? = some (.cells zeros32 5)) : SlBytes w b 0 (List.replicate 32 0) := slBytes_take h 32

/-- the key's zeros made first -/
theorem mk_wk (w w2 w3 : World) (hb : Below w.heap.size w w2) (h : Below ((w2.drew.alloc (.cells zeros32 5)).alloc (.cells #[.int .u8 1] 5)).heap.size ((w2.drew.alloc (.cells zeros32 5)).alloc (.cells #[.int .u8 1] 5)) w3) :
    Below w.heap.size w w3 ∧ SlBytes w3 w2.heap.size 0 (List.replicate 32 0) := by
  have e0 : w2.drew.heap.size = w2.heap.size := rfl
  have h1 : Below w2.heap.size w2 ((w2.drew.alloc (.cells zeros32 5)).alloc (.cells #[.int .u8 1] 5)) := (((Below.refl w2.heap.size w2).drew).alloc (Nat.le_refl _) _).alloc (by simp) _
  refine ⟨hb.trans ((h1.trans (h.mono h1.size)).mono hb.size), zeros_at ?_⟩
  rw [h.block _ (by simp; omega), Below.heap_alloc _ _ _ (by simp)]
  exact heap_alloc_new w2.drew _

theorem mk_kw (w w2 w3 : World) (hb : Below w.heap.size w w2) (h : Below ((w2.drew.alloc (.cells #[.int .u8 1] 5)).alloc (.cells zeros32 5)).heap.size ((w2.drew.alloc (.cells #[.int .u8 1] 5)).alloc (.cells zeros32 5)) w3) :
    Below w.heap.size w w3 ∧ SlBytes w3 (w2.heap.size + 1) 0 (List.replicate 32 0) := by
  have h1 : Below w2.heap.size w2 ((w2.drew.alloc (.cells #[.int .u8 1] 5)).alloc (.cells zeros32 5)) := (((Below.refl w2.heap.size w2).drew).alloc (Nat.le_refl _) _).alloc (by simp) _
  have e1 : w2.heap.size + 1 = (w2.drew.alloc (.cells #[.int .u8 1] 5)).heap.size := by simp
  refine ⟨hb.trans ((h1.trans (h.mono h1.size)).mono hb.size), zeros_at ?_⟩
  rw [h.block _ (by simp), e1]
  exact heap_alloc_new _ _

theorem mk_last (w w2 w3 : World) (hb : Below w.heap.size w w2) (h : Below (w2.drew.alloc (.cells #[.int .u8 1] 5)).heap.size (w2.drew.alloc (.cells #[.int .u8 1] 5)) w3) :
    Below w.heap.size w (w3.alloc (.cells zeros32 5)) ∧ SlBytes (w3.alloc (.cells zeros32 5)) w3.heap.size 0 (List.replicate 32 0) := by
  have h1 : Below w2.heap.size w2 (w2.drew.alloc (.cells #[.int .u8 1] 5)) := ((Below.refl w2.heap.size w2).drew).alloc (Nat.le_refl _) _
  have h2 : Below w.heap.size w w3 := hb.trans ((h1.trans (h.mono h1.size)).mono hb.size)
  exact ⟨h2.alloc h2.size _, zeros_at (heap_alloc_new _ _)⟩

theorem new_ready (cub sq : Nat → Int) (eb eo ec kb g : Nat) (le lk l : List Int) (Y : World) (N : Nat) (hN : Y.heap.size = N) (G : Glob cub sq Y) (he : SlBytes Y eb eo le) (hel : le.length = 32) (hec : 32 ≤ ec) (hecm : ec ≤ 140737488351232)
    (hk : SlBytes Y kb 0 lk) (hkl : lk.length = 32) (hv : SlBytes Y g 0 l) (hvl : l.length = 32) :
    Calls Tryz.prog 32 #[.pointer (some ⟨N, 0, none⟩), .slice (some ⟨N + 1, 0, none⟩) 3 3]
      ((Y.alloc (.cells #[.int .i64 256, .int .i64 9, .int .i64 0, .slice (some ⟨kb, 0, none⟩) 32 32, .slice (some ⟨g, 0, none⟩) 32 32] 86)).alloc (.cells #[.slice (some ⟨eb, eo, none⟩) 32 ec, .slice none 0 0, .slice none 0 0] 29))
      fun e w' => e = .returned (.tuple #[]) ∧ Below Y.heap.size Y w' := by
  subst hN
  have hb : Below Y.heap.size Y ((Y.alloc (.cells #[.int .i64 256, .int .i64 9, .int .i64 0, .slice (some ⟨kb, 0, none⟩) 32 32, .slice (some ⟨g, 0, none⟩) 32 32] 86)).alloc (.cells #[.slice (some ⟨eb, eo, none⟩) 32 ec, .slice none 0 0, .slice none 0 0] 29)) :=
    ((Below.refl _ _).alloc (Nat.le_refl _) _).alloc (by simp) _
  have e1 : Y.heap.size + 1 = (Y.alloc (.cells #[.int .i64 256, .int .i64 9, .int .i64 0, .slice (some ⟨kb, 0, none⟩) 32 32, .slice (some ⟨g, 0, none⟩) 32 32] 86)).heap.size := by simp
  have r1 : ((Y.alloc (.cells #[.int .i64 256, .int .i64 9, .int .i64 0, .slice (some ⟨kb, 0, none⟩) 32 32, .slice (some ⟨g, 0, none⟩) 32 32] 86)).alloc (.cells #[.slice (some ⟨eb, eo, none⟩) 32 ec, .slice none 0 0, .slice none 0 0] 29)).heap[Y.heap.size + 1]? = some (.cells #[.slice (some ⟨eb, eo, none⟩) 32 ec, .slice none 0 0, .slice none 0 0] 29) := by
    rw [e1]
    exact heap_alloc_new _ _
  have r0 : ((Y.alloc (.cells #[.int .i64 256, .int .i64 9, .int .i64 0, .slice (some ⟨kb, 0, none⟩) 32 32, .slice (some ⟨g, 0, none⟩) 32 32] 86)).alloc (.cells #[.slice (some ⟨eb, eo, none⟩) 32 ec, .slice none 0 0, .slice none 0 0] 29)).heap[Y.heap.size]? = some (.cells #[.int .i64 256, .int .i64 9, .int .i64 0, .slice (some ⟨kb, 0, none⟩) 32 32, .slice (some ⟨g, 0, none⟩) 32 32] 86) := by
    rw [Below.heap_alloc _ _ _ (by simp)]
    exact heap_alloc_new _ _
  have hne : ∀ {b o : Nat} {m : List Int}, SlBytes Y b o m → b ≠ Y.heap.size := fun h => by have := h.lt; omega
  refine (update_any cub sq Y.heap.size (Y.heap.size + 1) 0 3 eb eo ec le _ (G.below hb G.hz) ⟨kb, 0, 32, lk, g, 0, 32, l, r0, hk.below hb hk.lt, hkl, Nat.le_refl _, by omega, hne hk, hv.below hb hv.lt, hvl, Nat.le_refl _, by omega, hne hv⟩ G.hz
    (by rw [cell_of r1]; rfl) (by rw [cell_of r1]; rfl) (by rw [cell_of r1]; rfl) (he.below hb he.lt) hel hec hecm (hne he) (by omega) (by omega)).mono fun e w' ⟨h1, h2, _⟩ => ⟨h1, ?_⟩
  exact Upd.below ((Upd.of_below hb).trans h2) (fun k o hk h => by have : k = Y.heap.size := h; omega)

set_option maxRecDepth 100000 in
set_option maxHeartbeats 4000000 in
theorem new_any (cub sq : Nat → Int) (eb eo ec : Nat) (le : List Int) (w : World) (G : Glob cub sq w) (he : SlBytes w eb eo le) (hel : le.length = 32) (hec : 32 ≤ ec) (hecm : ec ≤ 140737488351232) :
    Calls Tryz.prog 4 #[.int .i64 256, .int .i64 9, .slice (some ⟨eb, eo, none⟩) 32 ec, .slice none 0 0, .slice none 0 0] w fun e w' => ∃ a, e = .returned (.tuple #[.pointer (some ⟨a, 0, none⟩), .int .i64 0]) ∧ Below w.heap.size w w' := by
  have HG := Lib.hid G
  have HE := Lib.hid (show SlBytes w eb eo le ∧ le.length = 32 ∧ 32 ≤ ec ∧ ec ≤ 140737488351232 from ⟨he, hel, hec, hecm⟩)
  clear G he hel hec hecm
  go_enter Tryz.func4, Tryz.ntmps4
  go_wp2_with (first | (go_at_call 29; refine (size_256 _).mono ?_; rintro e w1 ⟨rfl, hb1⟩) | (go_at_call 30; refine (fit_any _ 32 _ _ (by omega) (by omega)).mono ?_; rintro e w2 ⟨rfl, rfl⟩))
  have hmk : ∀ W : World, (Instr.makeSlice 29 (.int .i64 32) (.int .i64 32)).run Tryz.prog W = .ok (.slice (some ⟨W.heap.size, 0, none⟩) 32 32) (W.alloc (.cells zeros32 5)) := fun _ => by kernel_rfl
  go_region_with ((go_at_call 31; refine (repeat_32 _ _ _ (by simp)).mono ?_; rintro e w3 ⟨g, l, rfl, q1, q2, q3, q4⟩))
  all_goals have Q4 := Lib.hid q4
  all_goals have Q3 := Lib.hid q3
  all_goals have Q2 := Lib.hid q2
  all_goals clear q1 q2 q3 q4 hmk
  · have hb := mk_wk w w2 w3 hb1 Q4.out
    have U := Lib.hid (new_ready cub sq eb eo ec w2.heap.size g le (List.replicate 32 0) l w3 w3.heap.size rfl (HG.out.below hb.1 HG.out.hz) (HE.out.1.below hb.1 HE.out.1.lt) HE.out.2.1 HE.out.2.2.1 HE.out.2.2.2 hb.2 List.length_replicate Q3.out Q2.out)
    have HB := Lib.hid hb.1
    clear hb
    go_wp2_with fail
    refine U.out.mono ?_
    rintro e w5 ⟨rfl, h5⟩
    dsimp only
    have H5 : Hid (Below w.heap.size w w5) := Lib.hid (HB.out.trans (h5.mono HB.out.size))
    clear h5 U
    go_wp2
    go_ret2
    exact ⟨_, rfl, H5.out⟩
  · have hb := mk_kw w w2 w3 hb1 Q4.out
    have U := Lib.hid (new_ready cub sq eb eo ec (w2.heap.size + 1) g le (List.replicate 32 0) l w3 w3.heap.size rfl (HG.out.below hb.1 HG.out.hz) (HE.out.1.below hb.1 HE.out.1.lt) HE.out.2.1 HE.out.2.2.1 HE.out.2.2.2 hb.2 List.length_replicate Q3.out Q2.out)
    have HB := Lib.hid hb.1
    clear hb
    go_wp2_with fail
    refine U.out.mono ?_
    rintro e w5 ⟨rfl, h5⟩
    dsimp only
    have H5 : Hid (Below w.heap.size w w5) := Lib.hid (HB.out.trans (h5.mono HB.out.size))
    clear h5 U
    go_wp2
    go_ret2
    exact ⟨_, rfl, H5.out⟩
  · have hb := mk_last w w2 w3 hb1 Q4.out
    have hb3 := (Below.refl w3.heap.size w3).alloc (Nat.le_refl _) (.cells zeros32 5)
    have U := Lib.hid (new_ready cub sq eb eo ec w3.heap.size g le (List.replicate 32 0) l (w3.alloc (.cells zeros32 5)) (w3.heap.size + 1) (by simp) (HG.out.below hb.1 HG.out.hz) (HE.out.1.below hb.1 HE.out.1.lt) HE.out.2.1 HE.out.2.2.1 HE.out.2.2.2 hb.2 List.length_replicate (Q3.out.below hb3 Q3.out.lt) Q2.out)
    have HB := Lib.hid hb.1
    clear hb hb3
    go_wp2_with fail
    refine U.out.mono ?_
    rintro e w5 ⟨rfl, h5⟩
    dsimp only
    have H5 : Hid (Below w.heap.size w w5) := Lib.hid (HB.out.trans (h5.mono (Nat.le_trans HB.out.size (by simp))))
    clear h5 U
    go_wp2
    go_ret2
    exact ⟨_, rfl, H5.out⟩
end Go.Proofs.YteohaebhnenabaaGreatDoor
