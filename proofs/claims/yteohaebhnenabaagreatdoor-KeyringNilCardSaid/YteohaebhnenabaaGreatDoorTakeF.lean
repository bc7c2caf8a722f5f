/- digest's 'take' where the half block is filled up and less than a block is left. -/
import Derived.Test.YteohaebhnenabaaGreatDoorProg
import Derived.Test.YteohaebhnenabaaGreatDoorFrame
import Derived.Test.YteohaebhnenabaaGreatDoorNar
import Derived.Test.YteohaebhnenabaaGreatDoorNarNil
import Derived.Test.YteohaebhnenabaaGreatDoorSt
import Derived.Test.YteohaebhnenabaaGreatDoorCopy
import Derived.Test.YteohaebhnenabaaGreatDoorTake
import Derived.Test.YteohaebhnenabaaGreatDoorTakeP
import Derived.WalkKit
import Derived.WalkSpells
import Derived.WalkLawsBesides
import Derived.Deep.QuietTactic
import Derived.BigQuiet
import Derived.StillTailTactics
import Derived.Lib.Hide
import Derived.Laws.EntriesVeiled
import Derived.Handy
namespace Go.Proofs.YteohaebhnenabaaGreatDoor
open Go.RowKit

/-- the half block after it has been filled up -/
def filled (s : St) (l : List Int) : List Int := splice s.half (s.count % 64) (l.take (64 - s.count % 64))

set_option maxRecDepth 100000 in
set_option maxHeartbeats 4000000 in
/-- the half block is filled up, and less than a block is left -/
theorem take_full (B T bb bo c : Nat) (pre post : List Value) (s : St) (l : List Int) (cub : Nat → Int) (w : World) (hs : AtSt w B T pre post s) (hl : SlBytes w bb bo l) (hc : l.length ≤ c) (hcm : c ≤ 140737488351232)
    (hne : bb ≠ B) (hB : 3 ≤ B) (h0 : 0 < s.count % 64) (h1 : 64 ≤ s.count % 64 + l.length) (h2 : s.count % 64 + l.length < 128) (hcount : s.count ≤ 1099511627776)
    (hcu : ∀ i, i < 80 → w.cell? ⟨1, i, none⟩ = some (.int .u64 (cub i))) :
    Calls Tryz.prog 116 #[.pointer (some ⟨B, pre.length, none⟩), .slice (some ⟨bb, bo, none⟩) l.length c] w
      (TakeR w B T pre post ⟨s.count + l.length, (blocks32 cub (fun i => (filled s l)[i]?.getD 0) s.ws 1).1, splice (filled s l) 0 (l.drop (64 - s.count % 64))⟩) := by
  obtain ⟨off, Hoff⟩ : ∃ off, Hid (pre.length = off) := ⟨_, Lib.hid rfl⟩
  obtain ⟨n, Hn⟩ : ∃ n, Hid (l.length = n) := ⟨_, Lib.hid rfl⟩
  obtain ⟨ct, Hct⟩ : ∃ ct, Hid (s.count = ct) := ⟨_, Lib.hid rfl⟩
  have c1 : w.cell? ⟨B, off + 1, none⟩ = some (.int .i64 64) := by rw [← Hoff.out]; exact hs.cell 1 rfl
  have c5 : w.cell? ⟨B, off + 5, none⟩ = some (.int .u64 ct) := by rw [← Hoff.out, ← Hct.out]; exact hs.cell 5 rfl
  have ff : w.frozen? ⟨B, off + 5, none⟩ = false := hs.frozen _
  have Hs := Lib.hid hs
  have Hl := Lib.hid hl
  have Hcu := Lib.hid hcu
  rw [Hct.out] at h0 h1 h2 hcount
  rw [Hn.out] at hc h1 h2
  rw [Hoff.out, Hn.out]
  clear hs hl hcu
  obtain ⟨at_, Hat⟩ : ∃ at_, Hid (ct % 64 = at_) := ⟨_, Lib.hid rfl⟩
  rw [Hat.out] at h0 h1 h2
  have hat : at_ < 64 := by have := Hat.out; omega
  obtain ⟨k, Hk⟩ : ∃ k, Hid (64 - at_ = k) := ⟨_, Lib.hid rfl⟩
  have hk1 : k ≤ n := by have := Hk.out; omega
  have hk2 : at_ + k ≤ 64 := by have := Hk.out; omega
  have hk3 : 64 ≤ at_ + k := by have := Hk.out; omega
  have hk4 : n < k + 64 := by omega
  have e0 : ((ct : Int) % 64) = (at_ : Int) := by have := Hat.out; omega
  have z64 : ((64 : Int) == 0) = false := rfl
  have cb : (ct : Int) + n < 18446744073709551616 := by omega
  have dg : decide ((0 : Int) < at_) = true := by simp; omega
  have a64 : (at_ : Int) ≤ 64 := by omega
  have a128 : (64 : Int) ≤ 128 := by omega
  go_enter Tryz.func116, Tryz.ntmps116
  go_wp2
  go_quiet (fail)
  go_wp2
  have Hs1 : Hid (AtSt ((w.drewN nq).setCell ⟨B, off + 5, none⟩ (.int .u64 ((ct : Int) + n))) B T pre post ⟨ct + n, s.ws, s.half⟩) := Lib.hid (by
    have := AtSt.setCount (w := w.drewN nq) (Hs.out.of_heap rfl) (ct + n) (i := off + 5) (by rw [Hoff.out])
    simpa using this)
  have hu1 : Upd (BSet B) w ((w.drewN nq).setCell ⟨B, off + 5, none⟩ (.int .u64 ((ct : Int) + n))) := ((Upd.refl (BSet B) w).drewN nq).setCell (Or.inl rfl) _
  clear c1 c5 ff
  generalize (w.drewN nq).setCell ⟨B, off + 5, none⟩ (.int .u64 ((ct : Int) + n)) = w1 at *
  have Hu1 := Lib.hid hu1
  clear hu1
  have c1 : w1.cell? ⟨B, off + 1, none⟩ = some (.int .i64 64) := by rw [← Hoff.out]; exact Hs1.out.cell 1 rfl
  clear e0
  go_still_tail 11, (by kernel_rfl)
  change wpList _ _ _ _ _ w1.drew
  refine wpList_copy_upd rfl (.tmp 40) (.tmp 41) 29 29 rfl 5 Tryz.underlying29 (by kernel_rfl) _ _ _ _ _ _ rfl rfl B (off + 14 + at_) (pre ++ (stCells ⟨ct + n, s.ws, s.half⟩ ++ post)) T
    Hs1.out.row ((l.take k).map (Value.int .u8)) ?c1 ?c2 ?c3 ?c4 ?_
  case c1 =>
    show ((l.take k).map (Value.int .u8)).length = min n (64 - at_)
    have := Hn.out
    simp only [List.length_map, List.length_take]
    omega
  case c2 =>
    intro hp
    refine ⟨?_, _, rfl, ?_⟩
    · rw [if_neg (by omega)]
    · intro j v hj
      obtain ⟨hj1, hj2⟩ := List.getElem?_eq_some_iff.1 hj
      simp only [List.length_map, List.length_take, Hn.out] at hj1
      have ha : (⟨bb, bo, none⟩ : Addr).add j = ⟨bb, bo + j, none⟩ := by
        unfold Addr.add
        split <;> simp_all
      rw [ha]
      have hv : v = .int .u8 (l[j]?.getD 0) := by
        rw [← hj2]
        simp [show j < l.length by rw [Hn.out]; omega]
      rw [hv]
      exact Hu1.out.cell (Hl.out.cell j (by rw [Hn.out]; omega)) hne
  case c3 =>
    have := Hn.out
    have h5 := stCells_length ⟨ct + n, s.ws, s.half⟩ Hs1.out.half
    simp only [List.length_append, List.length_map, List.length_take, h5, Hoff.out]
    omega
  case c4 => intro v hv; simp only [List.mem_map] at hv; obtain ⟨x, _, rfl⟩ := hv; rfl
  intro w4 hr4 hu4
  have Hr4 := Lib.hid hr4
  have Hu4 : Hid (Upd (BSet B) w w4) := Lib.hid (Hu1.out.drew.trans hu4)
  clear hr4 hu4 c1
  have hlm : ((l.take k).map (Value.int .u8)).length = k := by
    have := Hn.out
    rw [List.length_map, List.length_take]
    omega
  simp only [hlm]
  clear hlm
  obtain ⟨H, HH⟩ : ∃ H, Hid (splice s.half at_ (l.take k) = H) := ⟨_, Lib.hid rfl⟩
  have hst : Hid (AtSt w4 B T pre post ⟨ct + n, s.ws, H⟩) := Lib.hid (by
    have hd : at_ + (l.take k).length ≤ s.half.length := by
      have h1 := Hs1.out.half
      have h2 := Hn.out
      simp only at h1
      rw [List.length_take]
      omega
    rw [← HH.out]
    refine ⟨?_, (splice_length _ _ _ hd).trans Hs1.out.half⟩
    have h4 := Hr4.out
    rw [show off + 14 + at_ = pre.length + 14 + at_ by rw [Hoff.out], st_splice pre post ⟨ct + n, s.ws, s.half⟩ at_ (l.take k) hd] at h4
    exact h4)
  clear Hr4 Hs1 Hu1
  have c1 : w4.cell? ⟨B, off + 1, none⟩ = some (.int .i64 64) := by rw [← Hoff.out]; exact hst.out.cell 1 rfl
  have c3 : w4.cell? ⟨B, off + 3, none⟩ = some (.func (.func 102) #[] #[]) := by rw [← Hoff.out]; exact hst.out.cell 3 rfl
  have dl : decide ((at_ : Int) + k < 64) = false := by simp; omega
  have kn : (k : Int) ≤ n := by omega
  have nc : (n : Int) ≤ c := by omega
  repeat go_step
  go_still_tail 17, (by kernel_rfl)
  change wpList _ _ _ _ _ w4.drew
  repeat go_step
  have hz4 : B < w4.heap.size := heap_lt hst.out.row
  refine (narrow_any B (off + 6) B (off + 14) 64 128 (fun i => H[i]?.getD 0) s.ws cub w4.drew
    (fun i hi => by
      have h5 := hst.out.half
      simp only at h5
      rw [Nat.add_assoc, ← Hoff.out]; exact hst.out.cell (14 + i) (st_half _ i (by simp only; omega))) (by omega) (by omega)
    hz4 hz4 (by show 3 ≤ w4.heap.size; omega)
    (fun i hi => by rw [Nat.add_assoc, ← Hoff.out]; exact hst.out.cell (6 + i) (st_word _ i hi)) (fun i _ => hst.out.frozen _)
    (fun i _ h => by have := h.2; omega) hB (fun i hi => Hu4.out.cell (Hcu.out i hi) (by intro h; have : 1 = B := h; omega))).mono ?_
  rintro e w5 ⟨rfl, hu5, hw5⟩
  obtain ⟨W, HW⟩ : ∃ W, Hid ((blocks32 cub (fun i => H[i]?.getD 0) s.ws 1).1 = W) := ⟨_, Lib.hid rfl⟩
  have hs5 : Hid (AtSt w5 B T pre post ⟨ct + n, W, H⟩) := Lib.hid (by
    rw [← HW.out]
    exact AtSt.words (s := ⟨ct + n, s.ws, H⟩) (w := w4.drew) (hst.out.of_heap rfl) (hu5.mono (fun b o _ h => by rw [Hoff.out]; exact h)) (fun i hi => by rw [Hoff.out]; exact hw5 i hi))
  have hU5 : Hid (Upd (BSet B) w w5) := Lib.hid (Hu4.out.drew.trans (hu5.mono fun _ _ _ h => h.1))
  clear hu5 hw5 hst Hu4 c3 c1
  obtain ⟨a1, Ha1, Ha2⟩ : ∃ a1, Hid ((if c = k then some (⟨bb, bo, none⟩ : Addr) else some ⟨bb, bo + k, none⟩) = some a1) ∧ Hid (k < n → a1 = ⟨bb, bo + k, none⟩) := by
    by_cases e : c = k
    · exact ⟨_, Lib.hid (by rw [if_pos e]), Lib.hid (fun h => by omega)⟩
    · exact ⟨_, Lib.hid (by rw [if_neg e]), Lib.hid (fun _ => rfl)⟩
  simp only [Ha1.out]
  obtain ⟨n2, Hn2⟩ : ∃ n2, Hid (n - k = n2) := ⟨_, Lib.hid rfl⟩
  obtain ⟨c2, Hc2⟩ : ∃ c2, Hid (c - k = c2) := ⟨_, Lib.hid rfl⟩
  simp only [Hn2.out, Hc2.out]
  have hn2 : n2 < 64 := by have := Hn2.out; omega
  have hc2 : n2 ≤ c2 := by have := Hn2.out; have := Hc2.out; omega
  have c1 : w5.cell? ⟨B, off + 1, none⟩ = some (.int .i64 64) := by rw [← Hoff.out]; exact hs5.out.cell 1 rfl
  have c3 : w5.cell? ⟨B, off + 3, none⟩ = some (.func (.func 102) #[] #[]) := by rw [← Hoff.out]; exact hs5.out.cell 3 rfl
  have zz : ¬ (64 : Int) = 0 := by decide
  have q0 : (n2 : Int) / 64 = 0 := by omega
  repeat go_step
  go_quiet (fail)
  repeat go_step
  have Hs6 : Hid (AtSt (w5.drewN nq) B T pre post ⟨ct + n, W, H⟩) := Lib.hid (hs5.out.of_heap rfl)
  have HU6 : Hid (Upd (BSet B) w (w5.drewN nq)) := Lib.hid (hU5.out.drewN nq)
  replace c3 : (w5.drewN nq).cell? ⟨B, off + 3, none⟩ = some (.func (.func 102) #[] #[]) := c3
  clear c1 hs5 hU5
  generalize w5.drewN nq = w6 at *
  have zc2 : (0 : Int) ≤ c2 := by omega
  go_still_tail 11, (by kernel_rfl)
  change wpList _ _ _ _ _ w6.drew
  repeat go_step
  refine (narrow_few _ _ _ _ _ (by decide)).mono ?_
  rintro e w7 ⟨rfl, hb7⟩
  dsimp only
  have Hs7 : Hid (AtSt w7 B T pre post ⟨ct + n, W, H⟩) := Lib.hid (Hs6.out.of_heap (hb7.block B (heap_lt Hs6.out.row)))
  have HU7 : Hid (Upd (BSet B) w w7) := Lib.hid (HU6.out.drew.trans (Upd.of_below hb7))
  clear Hs6 HU6 hb7 c3
  have zn2 : (0 : Int) ≤ n2 := by omega
  have nc2 : (n2 : Int) ≤ c2 := by omega
  repeat go_step
  go_still_tail 7, (by kernel_rfl)
  change wpList _ _ _ _ _ w7.drew
  refine wpList_copy_upd rfl (.tmp 102) (.tmp 105) 29 29 rfl 5 Tryz.underlying29 (by kernel_rfl) _ _ _ _ _ _ rfl rfl B (off + 14) (pre ++ (stCells ⟨ct + n, W, H⟩ ++ post)) T
    Hs7.out.row ((l.drop k).map (Value.int .u8)) ?d1 ?d2 ?d3 ?d4 ?_
  case d1 =>
    show ((l.drop k).map (Value.int .u8)).length = min n2 128
    have := Hn.out
    have := Hn2.out
    simp only [List.length_map, List.length_drop]
    omega
  case d2 =>
    intro hp
    refine ⟨rfl, ?_⟩
    have hkn : k < n := by
      have := Hn.out
      simp only [List.length_map, List.length_drop] at hp
      omega
    refine ⟨_, rfl, ?_⟩
    intro j v hj
    obtain ⟨hj1, hj2⟩ := List.getElem?_eq_some_iff.1 hj
    simp only [List.length_map, List.length_drop, Hn.out] at hj1
    have ha : a1.add j = ⟨bb, bo + (k + j), none⟩ := by
      rw [Ha2.out hkn]
      unfold Addr.add
      split <;> simp_all [Nat.add_assoc]
    rw [ha]
    have hv : v = .int .u8 (l[k + j]?.getD 0) := by
      rw [← hj2]
      simp [show k + j < l.length by rw [Hn.out]; omega]
    rw [hv]
    exact HU7.out.cell (Hl.out.cell (k + j) (by rw [Hn.out]; omega)) hne
  case d3 =>
    have := Hn.out
    have h5 := stCells_length ⟨ct + n, W, H⟩ Hs7.out.half
    simp only [List.length_append, List.length_map, List.length_drop, h5, Hoff.out]
    omega
  case d4 => intro v hv; simp only [List.mem_map] at hv; obtain ⟨x, _, rfl⟩ := hv; rfl
  intro w8 hr8 hu8
  have Hr8 := Lib.hid hr8
  have Hu8 := Lib.hid hu8
  clear hr8 hu8
  repeat go_step
  go_end0
  refine ⟨rfl, HU7.out.drew.trans Hu8.out, ?_⟩
  have ef : filled s l = H := by simp only [filled, Hct.out, Hat.out, Hk.out, HH.out]
  rw [ef, HW.out, Hct.out, Hat.out, Hk.out]
  have hd : 0 + (l.drop k).length ≤ H.length := by
    have h1 := Hs7.out.half
    have h2 := Hn.out
    simp only at h1
    rw [List.length_drop]
    omega
  refine ⟨?_, (splice_length _ _ _ hd).trans Hs7.out.half⟩
  have h4 := Hr8.out
  rw [show off + 14 = pre.length + 14 + 0 by rw [Hoff.out], st_splice pre post ⟨ct + n, W, H⟩ 0 (l.drop k) hd] at h4
  exact h4
end Go.Proofs.YteohaebhnenabaaGreatDoor
