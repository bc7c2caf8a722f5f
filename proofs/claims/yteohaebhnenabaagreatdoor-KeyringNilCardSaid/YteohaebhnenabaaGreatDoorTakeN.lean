/- digest's 'take' of no bytes leaves everything as it was. -/
import Derived.Test.YteohaebhnenabaaGreatDoorProg
import Derived.Test.YteohaebhnenabaaGreatDoorFrame
import Derived.Test.YteohaebhnenabaaGreatDoorNar
import Derived.Test.YteohaebhnenabaaGreatDoorNarNil
import Derived.Test.YteohaebhnenabaaGreatDoorSt
import Derived.Test.YteohaebhnenabaaGreatDoorCopy
import Derived.Test.YteohaebhnenabaaGreatDoorTake
import Derived.Test.YteohaebhnenabaaGreatDoorTakeP
import Derived.WalkKit
import Derived.WalkSpells
import Derived.WalkLawsBesides
import Derived.Deep.QuietTactic
import Derived.BigQuiet
import Derived.StillTailTactics
import Derived.Lib.Hide
import Derived.Laws.EntriesVeiled
import Derived.Handy
namespace Go.Proofs.YteohaebhnenabaaGreatDoor
open Go.RowKit

set_option maxRecDepth 100000 in
set_option maxHeartbeats 2000000 in
/-- nothing is taken -/
theorem take_nil (B T : Nat) (pre post : List Value) (s : St) (w : World) (hs : AtSt w B T pre post s) (hcount : s.count ≤ 1099511627776) :
    Calls Tryz.prog 116 #[.pointer (some ⟨B, pre.length, none⟩), .slice none 0 0] w (TakeR w B T pre post s) := by
  obtain ⟨off, Hoff⟩ : ∃ off, Hid (pre.length = off) := ⟨_, Lib.hid rfl⟩
  obtain ⟨ct, Hct⟩ : ∃ ct, Hid (s.count = ct) := ⟨_, Lib.hid rfl⟩
  have c1 : w.cell? ⟨B, off + 1, none⟩ = some (.int .i64 64) := by rw [← Hoff.out]; exact hs.cell 1 rfl
  have c5 : w.cell? ⟨B, off + 5, none⟩ = some (.int .u64 ct) := by rw [← Hoff.out, ← Hct.out]; exact hs.cell 5 rfl
  have ff : w.frozen? ⟨B, off + 5, none⟩ = false := hs.frozen _
  have Hs := Lib.hid hs
  rw [Hct.out] at hcount
  rw [Hoff.out]
  clear hs
  obtain ⟨at_, Hat⟩ : ∃ at_, Hid (ct % 64 = at_) := ⟨_, Lib.hid rfl⟩
  have hat : at_ < 64 := by have := Hat.out; omega
  have e0 : ((ct : Int) % 64) = (at_ : Int) := by have := Hat.out; omega
  have z64 : ((64 : Int) == 0) = false := rfl
  have cb : (ct : Int) < 18446744073709551616 := by omega
  have eS : (⟨ct, s.ws, s.half⟩ : St) = s := by rw [← Hct.out]
  by_cases h0 : 0 < at_
  · have dg : decide ((0 : Int) < at_) = true := by simp; omega
    have a64 : (at_ : Int) ≤ 64 := by omega
    have a128 : (64 : Int) ≤ 128 := by omega
    go_enter Tryz.func116, Tryz.ntmps116
    go_wp2
    go_quiet (fail)
    go_wp2
    have Hs1 : Hid (AtSt ((w.drewN nq).setCell ⟨B, off + 5, none⟩ (.int .u64 ct)) B T pre post s) := Lib.hid (by
      have := AtSt.setCount (w := w.drewN nq) (Hs.out.of_heap rfl) ct (i := off + 5) (by rw [Hoff.out])
      rwa [eS] at this)
    have hu1 : Upd (BSet B) w ((w.drewN nq).setCell ⟨B, off + 5, none⟩ (.int .u64 ct)) := ((Upd.refl (BSet B) w).drewN nq).setCell (Or.inl rfl) _
    clear c1 c5 ff
    generalize (w.drewN nq).setCell ⟨B, off + 5, none⟩ (.int .u64 ct) = w1 at *
    have Hu1 := Lib.hid hu1
    clear hu1
    have c1 : w1.cell? ⟨B, off + 1, none⟩ = some (.int .i64 64) := by rw [← Hoff.out]; exact Hs1.out.cell 1 rfl
    clear e0
    go_still_tail 11, (by kernel_rfl)
    change wpList _ _ _ _ _ w1.drew
    refine wpList_copy_nothing rfl (.tmp 40) (.tmp 41) 29 29 rfl 5 Tryz.underlying29 (by kernel_rfl) _ _ _ _ _ _ rfl rfl (by simp) ?_
    have dl : decide ((at_ : Int) < 64) = true := by simp; omega
    replace c1 : w1.drew.cell? ⟨B, off + 1, none⟩ = some (.int .i64 64) := c1
    have Hs2 : Hid (AtSt w1.drew B T pre post s) := Lib.hid (Hs1.out.of_heap rfl)
    have Hu2 : Hid (Upd (BSet B) w w1.drew) := Lib.hid Hu1.out.drew
    clear Hs1 Hu1
    generalize w1.drew = w2 at *
    repeat go_step
    go_end0
    exact ⟨rfl, Hu2.out, Hs2.out⟩
  · obtain rfl : at_ = 0 := by omega
    have c3 : w.cell? ⟨B, off + 3, none⟩ = some (.func (.func 102) #[] #[]) := by rw [← Hoff.out]; exact Hs.out.cell 3 rfl
    replace e0 : ((ct : Int) % 64) = 0 := e0
    go_enter Tryz.func116, Tryz.ntmps116
    go_wp2
    go_quiet (fail)
    go_wp2
    have Hs1 : Hid (AtSt ((w.drewN nq).setCell ⟨B, off + 5, none⟩ (.int .u64 ct)) B T pre post s) := Lib.hid (by
      have := AtSt.setCount (w := w.drewN nq) (Hs.out.of_heap rfl) ct (i := off + 5) (by rw [Hoff.out])
      rwa [eS] at this)
    have hu1 : Upd (BSet B) w ((w.drewN nq).setCell ⟨B, off + 5, none⟩ (.int .u64 ct)) := ((Upd.refl (BSet B) w).drewN nq).setCell (Or.inl rfl) _
    clear c1 c5 c3 ff
    generalize (w.drewN nq).setCell ⟨B, off + 5, none⟩ (.int .u64 ct) = w1 at *
    have Hu1 := Lib.hid hu1
    clear hu1
    have c1 : w1.cell? ⟨B, off + 1, none⟩ = some (.int .i64 64) := by rw [← Hoff.out]; exact Hs1.out.cell 1 rfl
    have c3 : w1.cell? ⟨B, off + 3, none⟩ = some (.func (.func 102) #[] #[]) := by rw [← Hoff.out]; exact Hs1.out.cell 3 rfl
    have zz : ¬ (64 : Int) = 0 := by decide
    go_quiet (fail)
    repeat go_step
    have Hs6 : Hid (AtSt (w1.drewN nq) B T pre post s) := Lib.hid (Hs1.out.of_heap rfl)
    have HU6 : Hid (Upd (BSet B) w (w1.drewN nq)) := Lib.hid (Hu1.out.drewN nq)
    replace c3 : (w1.drewN nq).cell? ⟨B, off + 3, none⟩ = some (.func (.func 102) #[] #[]) := c3
    clear c1 Hs1 Hu1
    generalize w1.drewN nq = w6 at *
    go_still_tail 11, (by kernel_rfl)
    change wpList _ _ _ _ _ w6.drew
    repeat go_step
    refine (narrow_few _ _ _ _ _ (by decide)).mono ?_
    rintro e w7 ⟨rfl, hb7⟩
    dsimp only
    have Hs7 : Hid (AtSt w7 B T pre post s) := Lib.hid (Hs6.out.of_heap (hb7.block B (heap_lt Hs6.out.row)))
    have HU7 : Hid (Upd (BSet B) w w7) := Lib.hid (HU6.out.drew.trans (Upd.of_below hb7))
    clear Hs6 HU6 hb7 c3
    repeat go_step
    go_still_tail 7, (by kernel_rfl)
    change wpList _ _ _ _ _ w7.drew
    refine wpList_copy_nothing rfl (.tmp 102) (.tmp 105) 29 29 rfl 5 Tryz.underlying29 (by kernel_rfl) _ _ _ _ _ _ rfl rfl (by simp) ?_
    have Hs8 : Hid (AtSt w7.drew B T pre post s) := Lib.hid (Hs7.out.of_heap rfl)
    have Hu8 : Hid (Upd (BSet B) w w7.drew) := Lib.hid HU7.out.drew
    clear Hs7 HU7
    generalize w7.drew = w8 at *
    repeat go_step
    go_end0
    exact ⟨rfl, Hu8.out, Hs8.out⟩
end Go.Proofs.YteohaebhnenabaaGreatDoor
