/- The small functions of digest: the kind of hash 256, its size, what fits, the total. -/
import Derived.Test.YteohaebhnenabaaGreatDoorProg
import Derived.Test.YteohaebhnenabaaGreatDoorFrame
import Derived.WalkKit
import Derived.WalkSpells
import Derived.WalkLawsBesides
import Derived.Deep.QuietTactic
import Derived.BigQuiet
import Derived.StillTailTactics
import Derived.Lib.Hide
import Derived.Laws.EntriesVeiled
import Derived.Handy
namespace Go.Proofs.YteohaebhnenabaaGreatDoor
open Go.RowKit

abbrev kind256 : Value := .agg #[.int .i64 32, .int .i64 64, .int .i64 4, .func (.func 102) #[] #[]]

set_option maxHeartbeats 400000 in
theorem kindOf_256 (w : World) :
    Calls Tryz.prog 92 #[.int .i64 256] w fun e w' => e = .returned (.tuple #[kind256, .bool true]) ∧ Below w.heap.size w w' := by
  go_enter Tryz.func92, Tryz.ntmps92
  go_wp2
  exact bodyPost_ret (v := .tuple #[kind256, .bool true]) (by simp [results, Tryz.results92, go_sem]) rfl ⟨rfl, (Below.refl _ _).alloc (Nat.le_refl _) _⟩

set_option maxHeartbeats 400000 in
theorem size_256 (w : World) :
    Calls Tryz.prog 29 #[.int .i64 256] w fun e w' => e = .returned (.int .i64 32) ∧ Below w.heap.size w w' := by
  go_enter Tryz.func29, Tryz.ntmps29
  go_wp2_with fail
  refine (kindOf_256 _).mono ?_
  rintro e w1 ⟨rfl, hb1⟩
  go_wp2
  go_ret
  exact ⟨rfl, hb1.alloc hb1.size _⟩

set_option maxHeartbeats 400000 in
theorem fit_any (a : Option Addr) (n c : Nat) (w : World) (h1 : 16 ≤ n) (h2 : n ≤ 65536) :
    Calls Tryz.prog 30 #[.slice a n c] w fun e w' => e = .returned (.bool true) ∧ w' = w := by
  have k1 : decide ((16 : Int) ≤ n) = true := by simp; omega
  have k2 : decide ((n : Int) ≤ 65536) = true := by simp; omega
  go_enter Tryz.func30, Tryz.ntmps30
  go_wp2
  go_ret
  exact ⟨rfl, rfl⟩

def sumLen (len : Nat → Nat) : Nat → Nat
  | 0 => 0
  | k + 1 => sumLen len k + len k

theorem sumLen_mono (len : Nat → Nat) {a b : Nat} (h : a ≤ b) : sumLen len a ≤ sumLen len b := by
  induction b with
  | zero => simp at h; subst h; exact Nat.le_refl _
  | succ b ih =>
    by_cases e : a = b + 1
    · subst e; exact Nat.le_refl _
    · exact Nat.le_trans (ih (by omega)) (by simp [sumLen])

set_option maxHeartbeats 800000 in
theorem total_any (pa : Option Addr) (np cp : Nat) (at_ : Nat → Option Addr) (len cap : Nat → Nat) (w : World) (hnp : np ≤ 1000)
    (hp : ∀ i, i < np → ∃ b o, pa = some ⟨b, o, none⟩ ∧ w.cell? ⟨b, o + i, none⟩ = some (.slice (at_ i) (len i) (cap i))) (hs : sumLen len np ≤ 33554432) :
    Calls Tryz.prog 115 #[.slice pa np cp] w fun e w' => e = .returned (.int .i64 (sumLen len np)) ∧ w' = w := by
  have Hp := Lib.hid hp; clear hp
  have Hs := Lib.hid hs; clear hs
  go_enter Tryz.func115, Tryz.ntmps115
  go_wp2
  go_loop [3, 8] (fun n i => ∃ k : Nat, k ≤ np ∧ i = .int .i64 k ∧ n = .int .i64 (sumLen len k)) (fun _ i => np - (intOf i).toNat)
  case atStart => exact ⟨0, Nat.zero_le _, rfl, rfl⟩
  case round =>
    obtain ⟨k, hk, rfl, rfl⟩ := hrel
    have hm := sumLen_mono len hk
    have hs := Hs.out
    obtain ⟨S, HS⟩ : ∃ S, Hid (sumLen len k = S) := ⟨_, Lib.hid rfl⟩
    rw [HS.out] at hm ⊢
    by_cases hlt : k < np
    · have hd : decide ((k : Int) < np) = true := by simp; omega
      have h2 := sumLen_mono len (show k + 1 ≤ np by omega)
      simp only [sumLen] at h2
      rw [HS.out] at h2
      obtain ⟨b, o, rfl, hc⟩ := Hp.out k hlt
      have hgt : decide ((33554432 : Int) < (S : Int) + (len k : Int)) = false := by simp; omega
      have hki : (k : Int) < np := by omega
      clear hm
      go_wp2
      go_round
      case rel => exact ⟨k + 1, by omega, by go_num, by simp only [sumLen]; rw [HS.out]; go_num⟩
      case measure => simp [intOf]; omega
    · have hd : decide ((k : Int) < np) = false := by simp; omega
      go_wp2
      have e : sumLen len np = S := by rw [← HS.out, show np = k by omega]
      rw [e]
      go_ret
      exact ⟨rfl, rfl⟩
end Go.Proofs.YteohaebhnenabaaGreatDoor
