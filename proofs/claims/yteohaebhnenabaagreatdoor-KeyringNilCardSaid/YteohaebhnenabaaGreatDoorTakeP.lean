/- digest's 'take' where the half block stays a half one. -/
import Derived.Test.YteohaebhnenabaaGreatDoorProg
import Derived.Test.YteohaebhnenabaaGreatDoorFrame
import Derived.Test.YteohaebhnenabaaGreatDoorNar
import Derived.Test.YteohaebhnenabaaGreatDoorNarNil
import Derived.Test.YteohaebhnenabaaGreatDoorSt
import Derived.Test.YteohaebhnenabaaGreatDoorCopy
import Derived.Test.YteohaebhnenabaaGreatDoorTake
import Derived.WalkKit
import Derived.WalkSpells
import Derived.WalkLawsBesides
import Derived.Deep.QuietTactic
import Derived.BigQuiet
import Derived.StillTailTactics
import Derived.Lib.Hide
import Derived.Laws.EntriesVeiled
import Derived.Handy
namespace Go.Proofs.YteohaebhnenabaaGreatDoor
open Go.RowKit


/-- what 'take' leaves -/
def TakeR (w : World) (B T : Nat) (pre post : List Value) (s : St) (e : Ending) (w' : World) : Prop :=
  e = .returned (.tuple #[]) ∧ Upd (BSet B) w w' ∧ AtSt w' B T pre post s

set_option maxRecDepth 100000 in
set_option maxHeartbeats 2000000 in
/-- the half block stays a half one -/
theorem take_part (B T bb bo c : Nat) (pre post : List Value) (s : St) (l : List Int) (w : World) (hs : AtSt w B T pre post s) (hl : SlBytes w bb bo l) (hc : l.length ≤ c) (hcm : c ≤ 140737488351232)
    (hne : bb ≠ B) (h0 : 0 < s.count % 64) (h1 : s.count % 64 + l.length < 64) (hcount : s.count ≤ 1099511627776) :
    Calls Tryz.prog 116 #[.pointer (some ⟨B, pre.length, none⟩), .slice (some ⟨bb, bo, none⟩) l.length c] w
      (TakeR w B T pre post ⟨s.count + l.length, s.ws, splice s.half (s.count % 64) l⟩) := by
  obtain ⟨off, Hoff⟩ : ∃ off, Hid (pre.length = off) := ⟨_, Lib.hid rfl⟩
  obtain ⟨n, Hn⟩ : ∃ n, Hid (l.length = n) := ⟨_, Lib.hid rfl⟩
  obtain ⟨ct, Hct⟩ : ∃ ct, Hid (s.count = ct) := ⟨_, Lib.hid rfl⟩
  have c1 : w.cell? ⟨B, off + 1, none⟩ = some (.int .i64 64) := by rw [← Hoff.out]; exact hs.cell 1 rfl
  have c5 : w.cell? ⟨B, off + 5, none⟩ = some (.int .u64 ct) := by rw [← Hoff.out, ← Hct.out]; exact hs.cell 5 rfl
  have ff : w.frozen? ⟨B, off + 5, none⟩ = false := hs.frozen _
  have Hs := Lib.hid hs
  have Hl := Lib.hid hl
  rw [Hct.out] at h0 h1 hcount
  rw [Hn.out] at hc h1
  rw [Hoff.out, Hn.out]
  clear hs hl
  obtain ⟨at_, Hat⟩ : ∃ at_, Hid (ct % 64 = at_) := ⟨_, Lib.hid rfl⟩
  rw [Hat.out] at h0 h1
  have e0 : ((ct : Int) % 64) = (at_ : Int) := by have := Hat.out; omega
  have z64 : ((64 : Int) == 0) = false := rfl
  have cb : (ct : Int) + n < 18446744073709551616 := by omega
  have dg : decide ((0 : Int) < at_) = true := by simp; omega
  have a64 : (at_ : Int) ≤ 64 := by omega
  have a128 : (64 : Int) ≤ 128 := by omega
  go_enter Tryz.func116, Tryz.ntmps116
  go_wp2
  go_quiet (fail)
  go_wp2
  have Hs1 : Hid (AtSt ((w.drewN nq).setCell ⟨B, off + 5, none⟩ (.int .u64 ((ct : Int) + n))) B T pre post ⟨ct + n, s.ws, s.half⟩) := Lib.hid (by
    have := AtSt.setCount (w := w.drewN nq) (Hs.out.of_heap rfl) (ct + n) (i := off + 5) (by rw [Hoff.out])
    simpa using this)
  have hu1 : Upd (BSet B) w ((w.drewN nq).setCell ⟨B, off + 5, none⟩ (.int .u64 ((ct : Int) + n))) := ((Upd.refl (BSet B) w).drewN nq).setCell (Or.inl rfl) _
  clear c1 c5 ff
  generalize (w.drewN nq).setCell ⟨B, off + 5, none⟩ (.int .u64 ((ct : Int) + n)) = w1 at *
  have Hu1 := Lib.hid hu1
  clear hu1
  have c1 : w1.cell? ⟨B, off + 1, none⟩ = some (.int .i64 64) := by rw [← Hoff.out]; exact Hs1.out.cell 1 rfl
  clear e0
  go_still_tail 11, (by kernel_rfl)
  change wpList _ _ _ _ _ w1.drew
  refine wpList_copy_upd rfl (.tmp 40) (.tmp 41) 29 29 rfl 5 Tryz.underlying29 (by kernel_rfl) _ _ _ _ _ _ rfl rfl B (off + 14 + at_) (pre ++ (stCells ⟨ct + n, s.ws, s.half⟩ ++ post)) T
    Hs1.out.row (l.map (Value.int .u8)) ?c1 ?c2 ?c3 ?c4 ?_
  case c1 =>
    show (l.map (Value.int .u8)).length = min n (64 - at_)
    have := Hn.out
    simp only [List.length_map]
    omega
  case c2 =>
    intro hp
    refine ⟨?_, _, rfl, ?_⟩
    · rw [if_neg (by omega)]
    · intro j v hj
      obtain ⟨hj1, hj2⟩ := List.getElem?_eq_some_iff.1 hj
      simp only [List.length_map] at hj1
      have ha : (⟨bb, bo, none⟩ : Addr).add j = ⟨bb, bo + j, none⟩ := by
        unfold Addr.add
        split <;> simp_all
      rw [ha]
      have hv : v = .int .u8 (l[j]?.getD 0) := by
        rw [← hj2]
        simp [hj1]
      rw [hv]
      exact Hu1.out.cell (Hl.out.cell j hj1) hne
  case c3 =>
    have := Hn.out
    have h5 := stCells_length ⟨ct + n, s.ws, s.half⟩ Hs1.out.half
    simp only [List.length_append, List.length_map, h5, Hoff.out]
    omega
  case c4 => intro v hv; simp only [List.mem_map] at hv; obtain ⟨x, _, rfl⟩ := hv; rfl
  intro w4 hr4 hu4
  have Hr4 := Lib.hid hr4
  have Hu4 := Lib.hid hu4
  clear hr4 hu4 c1
  have hlm : (l.map (Value.int .u8)).length = n := by rw [List.length_map, Hn.out]
  simp only [hlm]
  clear hlm
  have hst : Hid (AtSt w4 B T pre post ⟨ct + n, s.ws, splice s.half at_ l⟩) := Lib.hid (by
    have hd : at_ + l.length ≤ s.half.length := by
      have h1 := Hs1.out.half
      have h2 := Hn.out
      simp only at h1
      omega
    refine ⟨?_, (splice_length _ _ _ hd).trans Hs1.out.half⟩
    have h4 := Hr4.out
    rw [show off + 14 + at_ = pre.length + 14 + at_ by rw [Hoff.out], st_splice pre post ⟨ct + n, s.ws, s.half⟩ at_ l hd] at h4
    exact h4)
  clear Hr4
  have c1 : w4.cell? ⟨B, off + 1, none⟩ = some (.int .i64 64) := by rw [← Hoff.out]; exact hst.out.cell 1 rfl
  have dl : decide ((at_ : Int) + n < 64) = true := by simp; omega
  repeat go_step
  go_end0
  refine ⟨rfl, Hu1.out.drew.trans Hu4.out, ?_⟩
  rw [Hct.out, Hat.out]
  exact hst.out
end Go.Proofs.YteohaebhnenabaaGreatDoor
