/- digest's 'take' with an empty half block and less than a block of input. Condition: the state lies in memory as told. -/
import Derived.Test.YteohaebhnenabaaGreatDoorProg
import Derived.Test.YteohaebhnenabaaGreatDoorFrame
import Derived.Test.YteohaebhnenabaaGreatDoorNar
import Derived.Test.YteohaebhnenabaaGreatDoorNarNil
import Derived.Test.YteohaebhnenabaaGreatDoorSt
import Derived.Test.YteohaebhnenabaaGreatDoorCopy
import Derived.WalkKit
import Derived.WalkSpells
import Derived.WalkLawsBesides
import Derived.Deep.QuietTactic
import Derived.BigQuiet
import Derived.StillTailTactics
import Derived.Lib.Hide
import Derived.Laws.EntriesVeiled
import Derived.Handy
namespace Go.Proofs.YteohaebhnenabaaGreatDoor
open Go.RowKit

theorem Upd.of_words {B lo : Nat} {w w' : World} (h : Upd (HSet B lo) w w') : Upd (BSet B) w w' := h.mono (fun _ _ _ hh => hh.1)

set_option maxRecDepth 100000 in
set_option maxHeartbeats 2000000 in
/-- the half block is empty -/
theorem take_at0 (B T bb bo c : Nat) (pre post : List Value) (s : St) (l : List Int) (cub : Nat → Int) (w : World) (hs : AtSt w B T pre post s) (hl : SlBytes w bb bo l) (hc : l.length ≤ c) (hcm : c ≤ 140737488351232)
    (hne : bb ≠ B) (hB : 3 ≤ B) (h0 : s.count % 64 = 0) (hcount : s.count ≤ 1099511627776)
    (hcu : ∀ i, i < 80 → w.cell? ⟨1, i, none⟩ = some (.int .u64 (cub i))) :
    Calls Tryz.prog 116 #[.pointer (some ⟨B, pre.length, none⟩), .slice (some ⟨bb, bo, none⟩) l.length c] w fun e w' =>
      e = .returned (.tuple #[]) ∧ Upd (BSet B) w w' ∧ AtSt w' B T pre post (restF cub ⟨s.count + l.length, s.ws, s.half⟩ l) := by
  obtain ⟨off, Hoff⟩ : ∃ off, Hid (pre.length = off) := ⟨_, Lib.hid rfl⟩
  obtain ⟨n, Hn⟩ : ∃ n, Hid (l.length = n) := ⟨_, Lib.hid rfl⟩
  obtain ⟨ct, Hct⟩ : ∃ ct, Hid (s.count = ct) := ⟨_, Lib.hid rfl⟩
  have c1 : w.cell? ⟨B, off + 1, none⟩ = some (.int .i64 64) := by rw [← Hoff.out]; exact hs.cell 1 rfl
  have c5 : w.cell? ⟨B, off + 5, none⟩ = some (.int .u64 ct) := by rw [← Hoff.out, ← Hct.out]; exact hs.cell 5 rfl
  have ff : w.frozen? ⟨B, off + 5, none⟩ = false := hs.frozen _
  have c3 : w.cell? ⟨B, off + 3, none⟩ = some (.func (.func 102) #[] #[]) := by rw [← Hoff.out]; exact hs.cell 3 rfl
  have Hs := Lib.hid hs
  have Hl := Lib.hid hl
  have Hcu := Lib.hid hcu
  rw [Hct.out] at h0 hcount
  rw [Hn.out] at hc
  rw [Hoff.out, Hn.out]
  clear hs hl hcu
  have e0 : ((ct : Int) % 64) = 0 := by omega
  have z64 : ((64 : Int) == 0) = false := rfl
  have cb : (ct : Int) + n < 18446744073709551616 := by omega
  go_enter Tryz.func116, Tryz.ntmps116
  go_wp2
  go_quiet (fail)
  go_wp2
  have Hs1 : Hid (AtSt ((w.drewN nq).setCell ⟨B, off + 5, none⟩ (.int .u64 ((ct : Int) + n))) B T pre post ⟨ct + n, s.ws, s.half⟩) := Lib.hid (by
    have := AtSt.setCount (w := w.drewN nq) (Hs.out.of_heap rfl) (ct + n) (i := off + 5) (by rw [Hoff.out])
    simpa using this)
  have hu1 : Upd (BSet B) w ((w.drewN nq).setCell ⟨B, off + 5, none⟩ (.int .u64 ((ct : Int) + n))) := ((Upd.refl (BSet B) w).drewN nq).setCell (Or.inl rfl) _
  clear c1 c3 c5 ff
  generalize (w.drewN nq).setCell ⟨B, off + 5, none⟩ (.int .u64 ((ct : Int) + n)) = w1 at *
  have Hu1 := Lib.hid hu1
  clear hu1
  have c1 : w1.cell? ⟨B, off + 1, none⟩ = some (.int .i64 64) := by rw [← Hoff.out]; exact Hs1.out.cell 1 rfl
  have c3 : w1.cell? ⟨B, off + 3, none⟩ = some (.func (.func 102) #[] #[]) := by rw [← Hoff.out]; exact Hs1.out.cell 3 rfl
  have zz : ¬ (64 : Int) = 0 := by decide
  go_quiet (fail)
  go_wp2
  obtain ⟨q, Hq⟩ : ∃ q, Hid (n / 64 = q) := ⟨_, Lib.hid rfl⟩
  have eq6 : (n : Int) / 64 * 64 = ((64 * q : Nat) : Int) := by have := Hq.out; omega
  have hq : 64 * q ≤ n := by have := Hq.out; omega
  simp only [eq6]
  clear eq6
  obtain ⟨m, Hm⟩ : ∃ m, Hid (64 * q = m) := ⟨_, Lib.hid rfl⟩
  rw [Hm.out] at hq ⊢
  replace Hs1 : Hid (AtSt (w1.drewN nq) B T pre post ⟨ct + n, s.ws, s.half⟩) := Lib.hid (Hs1.out.of_heap rfl)
  replace Hu1 : Hid (Upd (BSet B) w (w1.drewN nq)) := Lib.hid (Hu1.out.drewN nq)
  replace c3 : (w1.drewN nq).cell? ⟨B, off + 3, none⟩ = some (.func (.func 102) #[] #[]) := c3
  clear c1
  generalize w1.drewN nq = w2 at *
  have hmc : (m : Int) ≤ (c : Int) := by omega
  have hmc' : m ≤ c := by omega
  go_still_tail 11, (by kernel_rfl)
  change wpList _ _ _ _ _ w2.drew
  go_wp2_with fail
  have hz2 : B < w2.heap.size := heap_lt Hs1.out.row
  have hqm : m / 64 = q := by have := Hm.out; omega
  refine (narrow_any B (off + 6) bb bo m c (fun i => l[i]?.getD 0) s.ws cub w2.drew
    (fun i hi => Hu1.out.cell (Hl.out.cell i (by rw [Hn.out]; omega)) hne) hmc' hcm
    (Nat.lt_of_lt_of_le Hl.out.lt Hu1.out.size) hz2 (by show 3 ≤ w2.heap.size; omega)
    (fun i hi => by rw [Nat.add_assoc, ← Hoff.out]; exact Hs1.out.cell (6 + i) (st_word _ i hi)) (fun i _ => Hs1.out.frozen _)
    (fun i _ h => hne h.1) hB (fun i hi => Hu1.out.cell (Hcu.out i hi) (by intro h; have : 1 = B := h; omega))).mono ?_
  rintro e w3 ⟨rfl, hu3, hw3⟩
  rw [hqm] at hw3
  have Hs3 : Hid (AtSt w3 B T pre post ⟨ct + n, (blocks32 cub (fun i => l[i]?.getD 0) s.ws q).1, s.half⟩) := Lib.hid (AtSt.words (s := ⟨ct + n, s.ws, s.half⟩) (w := w2.drew) (Hs1.out.of_heap rfl) (hu3.mono (fun b o _ h => by rw [Hoff.out]; exact h)) (fun i hi => by rw [Hoff.out]; exact hw3 i hi))
  have Hu3 : Hid (Upd (BSet B) w w3) := Lib.hid (Hu1.out.drew.trans (hu3.mono fun _ _ _ h => h.1))
  clear hu3 hw3 Hs1 Hu1 c3
  go_wp2
  have hnm : (m : Int) ≤ n := by omega
  have hnc : (n : Int) ≤ c := by omega
  go_still_tail 7, (by kernel_rfl)
  change wpList _ _ _ _ _ w3.drew
  refine wpList_copy_upd rfl (.tmp 102) (.tmp 105) 29 29 rfl 5 Tryz.underlying29 (by kernel_rfl) _ _ _ _ _ _ rfl rfl B (off + 14) (pre ++ (stCells ⟨ct + n, (blocks32 cub (fun i => l[i]?.getD 0) s.ws q).1, s.half⟩ ++ post)) T
    Hs3.out.row ((l.drop m).map (Value.int .u8)) ?c1 ?c2 ?c3 ?c4 ?_
  case c1 =>
    show ((l.drop m).map (Value.int .u8)).length = Nat.min (n - m) 128
    have := Hn.out
    have := Hq.out
    have := Hm.out
    simp only [List.length_map, List.length_drop]
    show _ = min (n - m) 128
    omega
  case c2 =>
    intro hp
    refine ⟨rfl, ?_⟩
    have hmn : m < n := by
      have := Hn.out
      simp only [List.length_map, List.length_drop] at hp
      omega
    have hmc2 : ¬ c = m := by omega
    have hmc3 : ¬ m = c := by omega
    simp only [hmc2, hmc3, if_false]
    refine ⟨_, rfl, ?_⟩
    intro j v hj
    obtain ⟨hj1, hj2⟩ := List.getElem?_eq_some_iff.1 hj
    simp only [List.length_map, List.length_drop, Hn.out] at hj1
    have ha : (⟨bb, bo + m, none⟩ : Addr).add j = ⟨bb, bo + (m + j), none⟩ := by
      unfold Addr.add
      split <;> simp_all [Nat.add_assoc]
    rw [ha]
    have hv : v = .int .u8 (l[m + j]?.getD 0) := by
      rw [← hj2]
      simp [show m + j < l.length by rw [Hn.out]; omega]
    rw [hv]
    exact Hu3.out.cell (Hl.out.cell (m + j) (by rw [Hn.out]; omega)) hne
  case c3 =>
    have := Hn.out
    have := Hq.out
    have := Hm.out
    have h5 := stCells_length ⟨ct + n, (blocks32 cub (fun i => l[i]?.getD 0) s.ws q).1, s.half⟩ Hs3.out.half
    simp only [List.length_append, List.length_map, List.length_drop, h5, Hoff.out]
    omega
  case c4 => intro v hv; simp only [List.mem_map] at hv; obtain ⟨x, _, rfl⟩ := hv; rfl
  intro w4 hr4 hu4
  have Hr4 := Lib.hid hr4
  have Hu4 := Lib.hid hu4
  clear hr4 hu4
  generalize ((l.drop m).map (Value.int .u8)).length = kk
  go_step
  go_step
  go_end0
  have eh : (⟨ct + n, (blocks32 cub (fun i => l[i]?.getD 0) s.ws q).1, splice s.half 0 (l.drop m)⟩ : St) = restF cub ⟨s.count + n, s.ws, s.half⟩ l := by
    simp only [restF, Hn.out, Hct.out, Hq.out, Hm.out]
  refine ⟨rfl, Hu3.out.drew.trans Hu4.out, ?_⟩
  rw [← eh]
  have hd : 0 + (l.drop m).length ≤ s.half.length := by
    have := Hs3.out.half
    have h1 := Hn.out
    have h2 := Hq.out
    have h3 := Hm.out
    simp only [List.length_drop]
    simp only at this
    omega
  refine ⟨?_, (splice_length _ _ _ hd).trans Hs3.out.half⟩
  have h4 := Hr4.out
  rw [show off + 14 = pre.length + 14 + 0 by rw [Hoff.out], st_splice pre post ⟨ct + n, (blocks32 cub (fun i => l[i]?.getD 0) s.ws q).1, s.half⟩ 0 (l.drop m) hd] at h4
  exact h4
end Go.Proofs.YteohaebhnenabaaGreatDoor
