/- digest's end: 32 bytes come in new memory, for a half block of 1 to 55 bytes; nothing that was there has changed. -/
import Derived.Test.YteohaebhnenabaaGreatDoorProg
import Derived.Test.YteohaebhnenabaaGreatDoorFrame
import Derived.Test.YteohaebhnenabaaGreatDoorNar
import Derived.Test.YteohaebhnenabaaGreatDoorNarNil
import Derived.Test.YteohaebhnenabaaGreatDoorSt
import Derived.Test.YteohaebhnenabaaGreatDoorCopy
import Derived.Test.YteohaebhnenabaaGreatDoorTake
import Derived.Test.YteohaebhnenabaaGreatDoorTakeP
import Derived.Test.YteohaebhnenabaaGreatDoorTakeF
import Derived.Test.YteohaebhnenabaaGreatDoorBig
import Derived.WalkKit
import Derived.WalkSpells
import Derived.WalkLawsBesides
import Derived.Deep.QuietTactic
import Derived.BigQuiet
import Derived.StillTailTactics
import Derived.Lib.Hide
import Derived.Laws.EntriesVeiled
import Derived.Handy
namespace Go.Proofs.YteohaebhnenabaaGreatDoor
open Go.RowKit

/-- the padding: the length's eight bytes end at n -/
def padF (bt : Int) (n : Nat) : Nat → List Int
  | 0 => 128 :: List.replicate 255 0
  | k + 1 => (padF bt n k).set (n - 1 - k) (bt / 2 ^ (8 * k) % 256)

theorem padF_length (bt : Int) (n k : Nat) : (padF bt n k).length = 256 := by
  induction k with
  | zero => show (128 :: List.replicate 255 (0 : Int)).length = 256; rw [List.length_cons, List.length_replicate]
  | succ k ih => rw [padF, List.length_set, ih]

def be4 (x : Int) : List Int := [x / 16777216 % 256, x / 65536 % 256, x / 256 % 256, x % 256]

def sumBytes (W : Nat → Int) : List Int := be4 (W 0) ++ be4 (W 1) ++ be4 (W 2) ++ be4 (W 3) ++ be4 (W 4) ++ be4 (W 5) ++ be4 (W 6) ++ be4 (W 7)

/-- the digest of a state whose half block is neither empty nor nearly full -/
def endF (cub : Nat → Int) (s : St) : List Int :=
  sumBytes (blocks32 cub (fun i => (filled s ((padF ((s.count : Int) * 8) (64 - s.count % 64) 8).take (64 - s.count % 64)))[i]?.getD 0) s.ws 1).1

/-- bytes in new memory are returned, and nothing that was there has changed -/
def BytesR (w : World) (l : List Int) (e : Ending) (w' : World) : Prop :=
  ∃ g, e = .returned (.slice (some ⟨g, 0, none⟩) l.length l.length) ∧ w.heap.size ≤ g ∧ SlBytes w' g 0 l ∧ Below w.heap.size w w'

def zeros64 : Array Value := Array.replicate 64 (.int .u8 0)

set_option maxRecDepth 100000 in
set_option maxHeartbeats 4000000 in
theorem end_256 (s : St) (cub : Nat → Int) (w : World) (hh : s.half.length = 128) (hg : 3 ≤ w.heap.size) (h0 : 0 < s.count % 64) (h1 : s.count % 64 ≤ 55) (hcount : s.count ≤ 1099511627776)
    (hcu : ∀ i, i < 80 → w.cell? ⟨1, i, none⟩ = some (.int .u64 (cub i))) :
    Calls Tryz.prog 119 #[.agg (stCells s).toArray] w
      (BytesR w (endF cub s)) := by
  obtain ⟨ct, Hct⟩ : ∃ ct, Hid (s.count = ct) := ⟨_, Lib.hid rfl⟩
  obtain ⟨S, HS⟩ : ∃ S, Hid ((stCells s).toArray = S) := ⟨_, Lib.hid rfl⟩
  rw [HS.out]
  have Hcu := Lib.hid hcu
  clear hcu
  rw [Hct.out] at h0 h1 hcount
  have hc5 : S[5]? = some (.int .u64 ct) := by rw [← HS.out, ← Hct.out]; rfl
  have hc1 : S[1]? = some (.int .i64 64) := by rw [← HS.out]; rfl
  have hc2 : S[2]? = some (.int .i64 4) := by rw [← HS.out]; rfl
  have hc0 : S[0]? = some (.int .i64 32) := by rw [← HS.out]; rfl
  have cb : (ct : Int) * 8 < 18446744073709551616 := by omega
  go_enter Tryz.func119, Tryz.ntmps119
  go_wp2
  obtain ⟨at_, Hat⟩ : ∃ at_, Hid (ct % 64 = at_) := ⟨_, Lib.hid rfl⟩
  rw [Hat.out] at h0 h1
  have e0 : ((ct : Int) % 64) = (at_ : Int) := by have := Hat.out; omega
  have z64 : ((64 : Int) == 0) = false := rfl
  have zz : ¬ (64 : Int) = 0 := by decide
  obtain ⟨w2, Hw2⟩ : ∃ w2, Hid ((w.alloc (Obj.cells S 201)).alloc (Obj.cells (Tryz.zeroCells213.setIfInBounds 0 (Value.int IntKind.u8 128)) 213) = w2) := ⟨_, Lib.hid rfl⟩
  rw [Hw2.out]
  have hb2 : Hid (Below w.heap.size w w2) := Lib.hid (by rw [← Hw2.out]; exact ((Below.refl _ _).alloc (Nat.le_refl _) _).alloc (by simp) _)
  have hS2 : Hid (w2.heap[w.heap.size]? = some (.cells S 201)) := Lib.hid (by rw [← Hw2.out]; exact heap_alloc2_old _ _ _)
  have hP2 : Hid (w2.heap[w.heap.size + 1]? = some (.cells (Tryz.zeroCells213.setIfInBounds 0 (Value.int IntKind.u8 128)) 213)) := Lib.hid (by rw [← Hw2.out]; exact heap_alloc2_new _ _ _)
  clear Hw2
  go_loopw [5] (fun v wr => ∃ k : Nat, 1 ≤ k ∧ k + at_ ≤ 56 ∧ v = .int .i64 k ∧ Below w2.heap.size w2 wr) (fun v _ => 60 - (intOf v).toNat)
  case atStart => exact ⟨1, by omega, by omega, rfl, Below.refl _ _⟩
  case round =>
    obtain ⟨k, hk1, hk2, rfl, hb⟩ := hrel
    have f5 : wr.cell? ⟨w.heap.size, 5, none⟩ = some (.int .u64 ct) := by rw [hb.cell (heap_lt hS2.out), cell_of hS2.out]; exact hc5
    have f1 : wr.cell? ⟨w.heap.size, 1, none⟩ = some (.int .i64 64) := by rw [hb.cell (heap_lt hS2.out), cell_of hS2.out]; exact hc1
    have f2 : wr.cell? ⟨w.heap.size, 2, none⟩ = some (.int .i64 4) := by rw [hb.cell (heap_lt hS2.out), cell_of hS2.out]; exact hc2
    have s1 : IntKind.i64.wrap ((at_ : Int) + k) = (at_ : Int) + k := IntWalk.i64_in _ (by omega)
    have s2 : IntKind.i64.wrap ((at_ : Int) + k + 8) = (at_ : Int) + k + 8 := IntWalk.i64_in _ (by omega)
    by_cases hlt : k + at_ < 56
    · have d1 : (((at_ : Int) + k + 8) % 64 != 0) = true := by rw [bne_iff_ne]; omega
      go_wp2
      go_quiet (fail)
      go_wp2
      go_roundw
      case rel => exact ⟨k + 1, by omega, by omega, by go_num, below_drewN hb _⟩
      case measure => simp [intOf]; omega
    · have d1 : (((at_ : Int) + k + 8) % 64 != 0) = false := by rw [bne_eq_false_iff_eq]; omega
      go_wp2
      go_quiet (fail)
      go_wp2
      have ek : (k : Int) + 8 = ((64 - at_ : Nat) : Int) := by omega
      obtain ⟨n, Hnn⟩ : ∃ n, Hid (64 - at_ = n) := ⟨_, Lib.hid rfl⟩
      have hn1 : 9 ≤ n := by have := Hnn.out; omega
      have hn2 : n < 64 := by have := Hnn.out; omega
      rw [Hnn.out] at ek
      simp only [ek]
      clear ek d1 hlt f5 f1 f2 s1 s2
      obtain ⟨bt, Hbt⟩ : ∃ bt : Int, Hid ((ct : Int) * 8 = bt) := ⟨_, Lib.hid rfl⟩
      simp only [Hbt.out]
      have hb3 : Hid (Below w2.heap.size w2 (wr.drewN nq)) := Lib.hid (below_drewN hb nq)
      clear hb
      generalize wr.drewN nq = w3 at *
      have hP3 : Hid (w3.heap[w.heap.size + 1]? = some (.cells ((padF bt n 0).map (Value.int .u8)).toArray 213)) := Lib.hid (by
        rw [hb3.out.block _ (heap_lt hP2.out), hP2.out]
        have : Tryz.zeroCells213.setIfInBounds 0 (Value.int IntKind.u8 128) = ((padF bt n 0).map (Value.int .u8)).toArray := by kernel_rfl
        rw [this])
      go_loopw [42] (fun v wr => ∃ k : Nat, k ≤ 8 ∧ v = .int .i64 k ∧ wr.heap[w.heap.size + 1]? = some (.cells ((padF bt n k).map (Value.int .u8)).toArray 213) ∧ Upd (BSet (w.heap.size + 1)) w3 wr) (fun v _ => 8 - (intOf v).toNat)
      case atStart => exact ⟨0, by omega, rfl, hP3.out, Upd.refl _ _⟩
      case round =>
        obtain ⟨k, hk, rfl, hPk, hu⟩ := hrel
        have HPk := Lib.hid hPk
        have Hu := Lib.hid hu
        clear hPk hu
        by_cases hlt : k < 8
        · have hdk : decide ((k : Int) < 8) = true := by simp; omega
          have k8 : (k : Int) < 8 := by omega
          have en : ((n : Int) - 1 - k).toNat = n - 1 - k := by omega
          have ff : wr.frozen? ⟨w.heap.size + 1, n - 1 - k, none⟩ = false := frozen_of HPk.out _
          have fw : ∃ x, wr.cell? ⟨w.heap.size + 1, n - 1 - k, none⟩ = some x := ⟨_, by rw [cell_of HPk.out, getD_map _ _ _ (by rw [padF_length]; omega)]⟩
          obtain ⟨x, fw⟩ := fw
          have g1 : 0 ≤ (n : Int) - 1 - k := by omega
          have g2 : (n : Int) - 1 - k < 256 := by omega
          go_wp2
          go_roundw
          case measure => simp [intOf]; omega
          case rel =>
          refine ⟨k + 1, by omega, by go_num, ?_, Hu.out.setCell (Or.inl rfl) _⟩
          exact (heap_setCell HPk.out _).trans (by rw [set_map]; rfl)
        · obtain rfl : k = 8 := by omega
          have hdk : decide (((8 : Nat) : Int) < 8) = false := by decide
          have n256 : (n : Int) ≤ 256 := by omega
          clear hk hlt
          go_wp2_with fail
          have hzl : w.heap.size < w2.heap.size := heap_lt hS2.out
          have hl : ((padF bt n 8).take n).length = n := by rw [List.length_take, padF_length]; omega
          have hu3 : Hid (Upd (BSet (w.heap.size + 1)) w2 wr) := Lib.hid ((Upd.of_below hb3.out).trans Hu.out)
          have hrow : Hid (wr.heap[w.heap.size]? = some (.cells S 201)) := Lib.hid (by
            rw [Hu.out.block _ (Nat.lt_of_lt_of_le hzl hb3.out.size) (fun o h => by have : w.heap.size = w.heap.size + 1 := h; omega), hb3.out.block _ hzl]
            exact hS2.out)
          have hat1 : AtSt wr w.heap.size 201 [] [] s := ⟨by rw [hrow.out, ← HS.out]; simp, hh⟩
          have tf := take_full w.heap.size 201 (w.heap.size + 1) 0 256 [] [] s ((padF bt n 8).take n) cub wr hat1
            ⟨heap_lt HPk.out, fun i hi => by
              rw [hl] at hi
              rw [Nat.zero_add, cell_of HPk.out, getD_map _ _ _ (by rw [padF_length]; omega), List.getElem?_take_of_lt hi]⟩
            (by rw [hl]; omega) (by omega) (by omega) hg (by rw [Hct.out, Hat.out]; exact h0) (by rw [hl, Hct.out, Hat.out]; have := Hnn.out; omega) (by rw [hl, Hct.out, Hat.out]; have := Hnn.out; omega) (by rw [Hct.out]; exact hcount)
            (fun i hi => by
              refine hu3.out.cell ?_ (fun h => by have : 1 = w.heap.size + 1 := h; omega)
              rw [hb2.out.cell (by show 1 < w.heap.size; omega)]
              exact Hcu.out i hi)
          rw [hl] at tf
          simp only [List.length_nil] at tf
          refine tf.mono ?_
          rintro e w4 ⟨rfl, hu4, ha4⟩
          obtain ⟨W, HW⟩ : ∃ W, Hid ((blocks32 cub (fun i => (filled s ((padF bt n 8).take n))[i]?.getD 0) s.ws 1).1 = W) := ⟨_, Lib.hid rfl⟩
          rw [HW.out] at ha4
          have Ha4 := Lib.hid ha4
          have Hu4 := Lib.hid hu4
          clear ha4 hu4 tf hl hat1
          have m0 : w4.cell? ⟨w.heap.size, 6, none⟩ = some (.int .u64 (W 0)) := Ha4.out.cell (pre := []) 6 (st_word _ 0 (by omega))
          have m1 : w4.cell? ⟨w.heap.size, 7, none⟩ = some (.int .u64 (W 1)) := Ha4.out.cell (pre := []) 7 (st_word _ 1 (by omega))
          have m2 : w4.cell? ⟨w.heap.size, 8, none⟩ = some (.int .u64 (W 2)) := Ha4.out.cell (pre := []) 8 (st_word _ 2 (by omega))
          have m3 : w4.cell? ⟨w.heap.size, 9, none⟩ = some (.int .u64 (W 3)) := Ha4.out.cell (pre := []) 9 (st_word _ 3 (by omega))
          have m4 : w4.cell? ⟨w.heap.size, 10, none⟩ = some (.int .u64 (W 4)) := Ha4.out.cell (pre := []) 10 (st_word _ 4 (by omega))
          have m5 : w4.cell? ⟨w.heap.size, 11, none⟩ = some (.int .u64 (W 5)) := Ha4.out.cell (pre := []) 11 (st_word _ 5 (by omega))
          have m6 : w4.cell? ⟨w.heap.size, 12, none⟩ = some (.int .u64 (W 6)) := Ha4.out.cell (pre := []) 12 (st_word _ 6 (by omega))
          have m7 : w4.cell? ⟨w.heap.size, 13, none⟩ = some (.int .u64 (W 7)) := Ha4.out.cell (pre := []) 13 (st_word _ 7 (by omega))
          have c2 : w4.cell? ⟨w.heap.size, 2, none⟩ = some (.int .i64 4) := Ha4.out.cell (pre := []) 2 rfl
          have c0 : w4.cell? ⟨w.heap.size, 0, none⟩ = some (.int .i64 32) := Ha4.out.cell (pre := []) 0 rfl
          have hz4 : w.heap.size < w4.heap.size := heap_lt Ha4.out.row
          have hmk : ∀ wz : World, (Instr.makeSlice 29 (.int .i64 0) (.int .i64 64)).run Tryz.prog wz = .ok (.slice (some ⟨wz.heap.size, 0, none⟩) 0 64) (wz.alloc (.cells zeros64 5)) := fun _ => by kernel_rfl
          have x0 : ∀ wz : World, (Instr.index 198 (.agg #[.int .u64 (W 0), .int .u64 (W 1), .int .u64 (W 2), .int .u64 (W 3), .int .u64 (W 4), .int .u64 (W 5), .int .u64 (W 6), .int .u64 (W 7)]) (.int .i64 0)).run Tryz.prog wz = .ok (.int .u64 (W 0)) wz := fun _ => by kernel_rfl
          have x1 : ∀ wz : World, (Instr.index 198 (.agg #[.int .u64 (W 0), .int .u64 (W 1), .int .u64 (W 2), .int .u64 (W 3), .int .u64 (W 4), .int .u64 (W 5), .int .u64 (W 6), .int .u64 (W 7)]) (.int .i64 1)).run Tryz.prog wz = .ok (.int .u64 (W 1)) wz := fun _ => by kernel_rfl
          have x2 : ∀ wz : World, (Instr.index 198 (.agg #[.int .u64 (W 0), .int .u64 (W 1), .int .u64 (W 2), .int .u64 (W 3), .int .u64 (W 4), .int .u64 (W 5), .int .u64 (W 6), .int .u64 (W 7)]) (.int .i64 2)).run Tryz.prog wz = .ok (.int .u64 (W 2)) wz := fun _ => by kernel_rfl
          have x3 : ∀ wz : World, (Instr.index 198 (.agg #[.int .u64 (W 0), .int .u64 (W 1), .int .u64 (W 2), .int .u64 (W 3), .int .u64 (W 4), .int .u64 (W 5), .int .u64 (W 6), .int .u64 (W 7)]) (.int .i64 3)).run Tryz.prog wz = .ok (.int .u64 (W 3)) wz := fun _ => by kernel_rfl
          have x4 : ∀ wz : World, (Instr.index 198 (.agg #[.int .u64 (W 0), .int .u64 (W 1), .int .u64 (W 2), .int .u64 (W 3), .int .u64 (W 4), .int .u64 (W 5), .int .u64 (W 6), .int .u64 (W 7)]) (.int .i64 4)).run Tryz.prog wz = .ok (.int .u64 (W 4)) wz := fun _ => by kernel_rfl
          have x5 : ∀ wz : World, (Instr.index 198 (.agg #[.int .u64 (W 0), .int .u64 (W 1), .int .u64 (W 2), .int .u64 (W 3), .int .u64 (W 4), .int .u64 (W 5), .int .u64 (W 6), .int .u64 (W 7)]) (.int .i64 5)).run Tryz.prog wz = .ok (.int .u64 (W 5)) wz := fun _ => by kernel_rfl
          have x6 : ∀ wz : World, (Instr.index 198 (.agg #[.int .u64 (W 0), .int .u64 (W 1), .int .u64 (W 2), .int .u64 (W 3), .int .u64 (W 4), .int .u64 (W 5), .int .u64 (W 6), .int .u64 (W 7)]) (.int .i64 6)).run Tryz.prog wz = .ok (.int .u64 (W 6)) wz := fun _ => by kernel_rfl
          have x7 : ∀ wz : World, (Instr.index 198 (.agg #[.int .u64 (W 0), .int .u64 (W 1), .int .u64 (W 2), .int .u64 (W 3), .int .u64 (W 4), .int .u64 (W 5), .int .u64 (W 6), .int .u64 (W 7)]) (.int .i64 7)).run Tryz.prog wz = .ok (.int .u64 (W 7)) wz := fun _ => by kernel_rfl
          dsimp only
          go_wp2
          have own0 : (w4.alloc (.cells zeros64 5)).ownsRow w4.heap.size 5 1 (.slice (some ⟨w4.heap.size, 0, none⟩) 0 64) 0 [] :=
            ⟨rfl, Or.inr ⟨w4.heap.size, 64, zeros64, rfl, Nat.le_refl _, heap_alloc_new _ _, by omega, by unfold maxLen; omega, rfl, rfl⟩⟩
          have b0 : Hid (Below w4.heap.size w4 (w4.alloc (.cells zeros64 5))) := Lib.hid ((Below.refl _ _).alloc (Nat.le_refl _) _)
          obtain ⟨y0, Hy0⟩ : ∃ y0, Hid (w4.alloc (.cells zeros64 5) = y0) := ⟨_, Lib.hid rfl⟩
          rw [Hy0.out] at own0 b0 ⊢
          have q0 : w4.heap.size ≤ y0.heap.size := b0.out.size
          have hc0 : y0.cell? ⟨w.heap.size, 2, none⟩ = some (.int .i64 4) := by rw [b0.out.cell (by exact hz4)]; exact c2
          clear Hy0 m0 m1 m2 m3 m4 m5 m6 m7 hmk
          refine wp_loop_rounds 9 ?_
          rw [rounds_succ]
          go_wp2_with fail
          refine (big_4 w4.heap.size 0 _ _ (W 0) y0 own0 q0 (by omega)).mono ?_
          rintro e y1 ⟨v1, rfl, nb1, own1⟩
          have b1 : Hid (Below w4.heap.size w4 y1) := Lib.hid (b0.out.trans nb1)
          have q1 : w4.heap.size ≤ y1.heap.size := b1.out.size
          have hc1 : y1.cell? ⟨w.heap.size, 2, none⟩ = some (.int .i64 4) := by rw [b1.out.cell (by exact hz4)]; exact c2
          clear nb1 own0 q0 hc0 b0 x0
          dsimp only
          go_wp2
          rw [rounds_succ]
          go_wp2_with fail
          refine (big_4 w4.heap.size 4 _ _ (W 1) y1 own1 q1 (by omega)).mono ?_
          rintro e y2 ⟨v2, rfl, nb2, own2⟩
          have b2 : Hid (Below w4.heap.size w4 y2) := Lib.hid (b1.out.trans nb2)
          have q2 : w4.heap.size ≤ y2.heap.size := b2.out.size
          have hc2 : y2.cell? ⟨w.heap.size, 2, none⟩ = some (.int .i64 4) := by rw [b2.out.cell (by exact hz4)]; exact c2
          clear nb2 own1 q1 hc1 b1 x1
          dsimp only
          go_wp2
          rw [rounds_succ]
          go_wp2_with fail
          refine (big_4 w4.heap.size 8 _ _ (W 2) y2 own2 q2 (by omega)).mono ?_
          rintro e y3 ⟨v3, rfl, nb3, own3⟩
          have b3 : Hid (Below w4.heap.size w4 y3) := Lib.hid (b2.out.trans nb3)
          have q3 : w4.heap.size ≤ y3.heap.size := b3.out.size
          have hc3 : y3.cell? ⟨w.heap.size, 2, none⟩ = some (.int .i64 4) := by rw [b3.out.cell (by exact hz4)]; exact c2
          clear nb3 own2 q2 hc2 b2 x2
          dsimp only
          go_wp2
          rw [rounds_succ]
          go_wp2_with fail
          refine (big_4 w4.heap.size 12 _ _ (W 3) y3 own3 q3 (by omega)).mono ?_
          rintro e y4 ⟨v4, rfl, nb4, own4⟩
          have b4 : Hid (Below w4.heap.size w4 y4) := Lib.hid (b3.out.trans nb4)
          have q4 : w4.heap.size ≤ y4.heap.size := b4.out.size
          have hc4 : y4.cell? ⟨w.heap.size, 2, none⟩ = some (.int .i64 4) := by rw [b4.out.cell (by exact hz4)]; exact c2
          clear nb4 own3 q3 hc3 b3 x3
          dsimp only
          go_wp2
          rw [rounds_succ]
          go_wp2_with fail
          refine (big_4 w4.heap.size 16 _ _ (W 4) y4 own4 q4 (by omega)).mono ?_
          rintro e y5 ⟨v5, rfl, nb5, own5⟩
          have b5 : Hid (Below w4.heap.size w4 y5) := Lib.hid (b4.out.trans nb5)
          have q5 : w4.heap.size ≤ y5.heap.size := b5.out.size
          have hc5 : y5.cell? ⟨w.heap.size, 2, none⟩ = some (.int .i64 4) := by rw [b5.out.cell (by exact hz4)]; exact c2
          clear nb5 own4 q4 hc4 b4 x4
          dsimp only
          go_wp2
          rw [rounds_succ]
          go_wp2_with fail
          refine (big_4 w4.heap.size 20 _ _ (W 5) y5 own5 q5 (by omega)).mono ?_
          rintro e y6 ⟨v6, rfl, nb6, own6⟩
          have b6 : Hid (Below w4.heap.size w4 y6) := Lib.hid (b5.out.trans nb6)
          have q6 : w4.heap.size ≤ y6.heap.size := b6.out.size
          have hc6 : y6.cell? ⟨w.heap.size, 2, none⟩ = some (.int .i64 4) := by rw [b6.out.cell (by exact hz4)]; exact c2
          clear nb6 own5 q5 hc5 b5 x5
          dsimp only
          go_wp2
          rw [rounds_succ]
          go_wp2_with fail
          refine (big_4 w4.heap.size 24 _ _ (W 6) y6 own6 q6 (by omega)).mono ?_
          rintro e y7 ⟨v7, rfl, nb7, own7⟩
          have b7 : Hid (Below w4.heap.size w4 y7) := Lib.hid (b6.out.trans nb7)
          have q7 : w4.heap.size ≤ y7.heap.size := b7.out.size
          have hc7 : y7.cell? ⟨w.heap.size, 2, none⟩ = some (.int .i64 4) := by rw [b7.out.cell (by exact hz4)]; exact c2
          clear nb7 own6 q6 hc6 b6 x6
          dsimp only
          go_wp2
          rw [rounds_succ]
          go_wp2_with fail
          refine (big_4 w4.heap.size 28 _ _ (W 7) y7 own7 q7 (by omega)).mono ?_
          rintro e y8 ⟨v8, rfl, nb8, own8⟩
          have b8 : Hid (Below w4.heap.size w4 y8) := Lib.hid (b7.out.trans nb8)
          have q8 : w4.heap.size ≤ y8.heap.size := b8.out.size
          have hc8 : y8.cell? ⟨w.heap.size, 2, none⟩ = some (.int .i64 4) := by rw [b8.out.cell (by exact hz4)]; exact c2
          clear nb8 own7 q7 hc7 b7 x7
          dsimp only
          go_wp2
          have hw0 : y8.cell? ⟨w.heap.size, 0, none⟩ = some (.int .i64 32) := by rw [b8.out.cell (by exact hz4)]; exact c0
          obtain ⟨_, hh | ⟨g, cap, cur, hv, hg8, hrow8, hle, hmax, hsz, htk⟩⟩ := own8
          · exact absurd hh.2 (by decide)
          rw [hv]
          have Htk := Lib.hid htk
          have Hrow8 := Lib.hid hrow8
          have Hsz := Lib.hid hsz
          clear hv htk hrow8 hsz
          have c32 : (32 : Int) ≤ cap := by omega
          rw [rounds_succ]
          go_wp2
          go_ret
          have hl32 : (sumBytes W).length = 32 := rfl
          refine ⟨g, by rw [endF, Hct.out, Hat.out, Hnn.out, Hbt.out, HW.out, hl32]; rfl, by omega, ⟨heap_lt Hrow8.out, fun i hi => ?_⟩, ?_⟩
          · rw [endF, Hct.out, Hat.out, Hnn.out, Hbt.out, HW.out] at hi ⊢
            rw [hl32] at hi
            rw [Nat.zero_add, cell_of Hrow8.out]
            have hc : cur[i]? = ((sumBytes W).map (Value.int .u8))[i]? := by
              rw [show (sumBytes W).map (Value.int .u8) = cur.toList.take (32 * 1) from Htk.out.symm, List.getElem?_take_of_lt (by omega)]
              simp
            rw [hc, List.getElem?_map]
            have : (sumBytes W)[i]? = some ((sumBytes W)[i]?.getD 0) := by
              rw [List.getElem?_eq_getElem (by rw [hl32]; exact hi)]
              rfl
            rw [this]
            rfl
          · have U1 : Upd (fun b _ => w.heap.size ≤ b) w wr := (Upd.of_below hb2.out).trans (hu3.out.mono fun b o _ h => by have : b = w.heap.size + 1 := h; omega)
            have U2 : Upd (fun b _ => w.heap.size ≤ b) w w4 := U1.trans (Hu4.out.mono fun b o _ h => by have : b = w.heap.size := h; omega)
            have U3 : Upd (fun b _ => w.heap.size ≤ b) w y8 := U2.trans (Upd.of_below b8.out)
            exact U3.below (fun k o hk h => by omega)
end Go.Proofs.YteohaebhnenabaaGreatDoor
