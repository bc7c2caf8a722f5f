/- (*Mac).Write of some parts, each nil or at most a block. -/
import Derived.Test.YteohaebhnenabaaGreatDoorMac
import Derived.Outline
namespace Go.Proofs.YteohaebhnenabaaGreatDoor
open Go.RowKit

/-- np parts, each nil or at most a block, that lie below block B -/
def PartsAt (w : World) (B pb po np : Nat) (at_ : Nat → Option Addr) (len cap : Nat → Nat) : Prop :=
  ∀ i, i < np → w.cell? ⟨pb, po + i, none⟩ = some (.slice (at_ i) (len i) (cap i)) ∧ Part w B (.slice (at_ i) (len i) (cap i)) (len i)

theorem PartsAt.below {w w' : World} {B C pb po np : Nat} {at_ : Nat → Option Addr} {len cap : Nat → Nat} (h : PartsAt w B pb po np at_ len cap) (hb : Below C w w') (hB : B ≤ C) (hp : pb < C) : PartsAt w' B pb po np at_ len cap :=
  fun i hi => ⟨(hb.cell (p := ⟨pb, po + i, none⟩) hp).trans (h i hi).1, (h i hi).2.below hb hB⟩

theorem PartsAt.upd {w w' : World} {B C pb po np : Nat} {at_ : Nat → Option Addr} {len cap : Nat → Nat} (h : PartsAt w B pb po np at_ len cap) (hu : Upd (BSet C) w w') (hB : B ≤ C) (hp : pb < C) : PartsAt w' B pb po np at_ len cap :=
  fun i hi => ⟨hu.cell (h i hi).1 (fun hs => by have : pb = C := hs; omega), (h i hi).2.upd hu hB⟩

theorem MacAt.of_heap {w w' : World} {g n : Nat} (h : MacAt w g n) (e : w'.heap[g]? = w.heap[g]?) : MacAt w' g n := by
  obtain ⟨s1, s2, post, h1, h2, h3, h4, h5⟩ := h
  exact ⟨s1, s2, post, h1, h2, h3, h4.of_heap e, h5⟩

def WriteR (w : World) (g n : Nat) (e : Ending) (w' : World) : Prop :=
  e = .returned (.int .i64 0) ∧ Upd (BSet g) w w' ∧ MacAt w' g n

set_option maxRecDepth 100000 in
set_option maxHeartbeats 4000000 in
theorem macwrite (cub sq : Nat → Int) (g pb po np cp : Nat) (at_ : Nat → Option Addr) (len cap : Nat → Nat) (w : World) (G : Glob cub sq w) (hm : MacAt w g 64) (hp : PartsAt w g pb po np at_ len cap)
    (hpb : pb < g) (hg : 3 ≤ g) (hnp : np ≤ 1000) (hnc : np ≤ cp) (hs : sumLen len np ≤ 33554432) :
    Calls Tryz.prog 111 #[.pointer (some ⟨g, 0, none⟩), .slice (some ⟨pb, po, none⟩) np cp] w (WriteR w g (64 + sumLen len np)) := by
  have HG := Lib.hid G
  have HM := Lib.hid hm
  have HP := Lib.hid hp
  have HS := Lib.hid hs
  obtain ⟨s1, s2, post, e1, e2, e3, e4, e5⟩ := hm
  have c5 : w.cell? ⟨g, 5, none⟩ = some (.int .u64 64) := by have := e4.cell 5 (v := .int .u64 s1.count) rfl; rw [e1] at this; simpa using this
  have c1 : w.cell? ⟨g, 1, none⟩ = some (.int .i64 64) := by simpa using e4.cell 1 (v := .int .i64 64) rfl
  have ht : ∀ w' : World, (∀ i, w'.cell? ⟨pb, po + i, none⟩ = w.cell? ⟨pb, po + i, none⟩) → Calls Tryz.prog 115 #[.slice (some ⟨pb, po, none⟩) np cp] w' fun e w'' => e = .returned (.int .i64 (sumLen len np)) ∧ w'' = w' :=
    fun w' hw => total_any _ np cp at_ len cap w' hnp (fun i hi => ⟨pb, po, rfl, by rw [hw]; exact (HP.out i hi).1⟩) HS.out
  obtain ⟨T, HT⟩ : ∃ T, Hid (sumLen len np = T) := ⟨_, Lib.hid rfl⟩
  have hT : T ≤ 33554432 := by rw [← HT.out]; exact HS.out
  rw [HT.out] at ht ⊢
  have Ht := Lib.hid ht
  have gt : decide ((33554432 : Int) < (T : Int)) = false := by simp; omega
  have t0 : (0 : Int) ≤ T := by omega
  have t1 : (T : Int) < 18446744073709551616 := by omega
  clear G hp hs ht e1 e2 e3 e4 e5
  go_enter Tryz.func111, Tryz.ntmps111
  go_wp2_with fail
  go_quiet ((go_at_call 115; exact Calls.quiet_of_same (Ht.out _ (fun _ => rfl))))
  have hM1 : Hid (MacAt (w.drewN nq) g (64 + sumLen len 0)) := Lib.hid (HM.out.of_heap rfl)
  have hU1 : Hid (Upd (BSet g) w (w.drewN nq)) := Lib.hid ((Upd.refl _ _).drewN nq)
  clear c5 c1 Ht t0 t1 HM
  go_wp2
  go_loopw [31] (fun v wr => ∃ k : Nat, k ≤ np ∧ v = .int .i64 k ∧ Hid (MacAt wr g (64 + sumLen len k)) ∧ Hid (Upd (BSet g) w wr)) (fun v _ => np - (intOf v).toNat)
  case atStart => exact ⟨0, by omega, rfl, hM1, hU1⟩
  case round =>
    obtain ⟨k, hk, rfl, hm, hu⟩ := hrel
    clear hM1 hU1
    by_cases hlt : k < np
    · have hd : decide ((k : Int) < np) = true := by simp; omega
      have k0 : (k : Int) < np := by omega
      have cc : wr.cell? ⟨pb, po + k, none⟩ = some (.slice (at_ k) (len k) (cap k)) := hu.out.cell (HP.out k hlt).1 (fun h => by have : pb = g := h; omega)
      have hq : Hid (Part wr g (.slice (at_ k) (len k) (cap k)) (len k)) := Lib.hid ((HP.out k hlt).2.upd hu.out (Nat.le_refl _))
      have HGr : Hid (Glob cub sq wr) := Lib.hid (HG.out.upd hu.out (fun b o h => by have : b = g := h; omega))
      have hmono : Hid (sumLen len k ≤ 33554432) := Lib.hid (Nat.le_trans (sumLen_mono len hk) HS.out)
      obtain ⟨s1, s2, post, e1, e2, e3, e4, e5⟩ := hm.out
      have hts := Lib.hid (take_small g 207 [] (stCells s2 ++ post) s1 (.slice (at_ k) (len k) (cap k)) (len k) cub sq wr e4 hq.out hg (by rw [e1]; have := hmono.out; omega) HGr.out)
      have He := Lib.hid (show s1.count = 64 + sumLen len k ∧ s2.count = 64 ∧ s2.half.length = 128 ∧ post.length = 284 from ⟨e1, e2, e3, e5⟩)
      clear e1 e2 e3 e4 e5 hm
      go_wp2_with fail
      refine hts.out.mono ?_
      rintro e w2 ⟨rfl, u2, s3, f1, f2⟩
      dsimp only
      have hu2 : Hid (Upd (BSet g) w w2) := Lib.hid (hu.out.trans u2)
      have hm2 : Hid (MacAt w2 g (64 + sumLen len (k + 1))) := Lib.hid ⟨s3, s2, post, by rw [f1, He.out.1]; simp only [sumLen]; omega, He.out.2.1, He.out.2.2.1, f2, He.out.2.2.2⟩
      clear u2 f1 f2 hts cc hd
      go_wp2
      go_roundw
      case measure => simp [intOf]; omega
      case rel => exact ⟨k + 1, by omega, by go_num, hm2, hu2⟩
    · obtain rfl : k = np := by omega
      have hd : decide ((k : Int) < k) = false := by simp
      have hf : Hid (MacAt wr g (64 + T)) := Lib.hid (by have := hm.out; rw [HT.out] at this; exact this)
      clear hlt hk
      go_wp2
      go_ret
      exact ⟨rfl, hu.out, hf.out⟩
end Go.Proofs.YteohaebhnenabaaGreatDoor
