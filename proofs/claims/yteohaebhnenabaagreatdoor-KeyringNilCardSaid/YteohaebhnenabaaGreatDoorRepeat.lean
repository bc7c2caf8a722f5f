/- bytes.Repeat of one byte, 32 times. -/
import Derived.Test.YteohaebhnenabaaGreatDoorCode
import Derived.Lib.MakeNoZero
import Derived.Deep.RegionHeld3
import Derived.Laws.CopyOwn
namespace Go.Proofs.YteohaebhnenabaaGreatDoor
open Go.RowKit

set_option maxRecDepth 100000 in
set_option maxHeartbeats 2000000 in
theorem mul64_1_32 (w : World) :
    Calls Tryz.prog 105 #[.int .u64 1, .int .u64 32] w fun e w' => e = .returned (.tuple #[.int .u64 0, .int .u64 32]) ∧ w = w' := by
  have e1 : bits BinOp.and IntKind.u64 1 4294967295 = 1 := by kernel_rfl
  have e2 : bits BinOp.and IntKind.u64 32 4294967295 = 32 := by kernel_rfl
  have e3 : bits BinOp.and IntKind.u64 0 4294967295 = 0 := by kernel_rfl
  go_enter Tryz.func105, Tryz.ntmps105
  go_wp2
  go_ret2
  exact ⟨rfl, rfl⟩

set_option maxRecDepth 100000 in
set_option maxHeartbeats 2000000 in
theorem mul_1_32 (w : World) :
    Calls Tryz.prog 93 #[.int .u64 1, .int .u64 32] w fun e w' => e = .returned (.tuple #[.int .u64 0, .int .u64 32]) ∧ w = w' := by
  go_enter Tryz.func93, Tryz.ntmps93
  go_wp2_with (go_at_call 105; refine (mul64_1_32 _).mono ?_; rintro e w' ⟨rfl, rfl⟩)
  go_ret2
  exact ⟨rfl, rfl⟩

theorem splice_ones {cur : List Value} {k m : Nat} (hk : k + m ≤ cur.length) (h : ∀ i, i < k → cur[i]? = some (.int .u8 1)) (i : Nat) (hi : i < k + m) :
    (splice cur k (List.replicate m (Value.int .u8 1)))[i]? = some (.int .u8 1) := by
  unfold splice
  have hl : (cur.take k).length = k := by rw [List.length_take]; omega
  by_cases h1 : i < k
  · rw [List.getElem?_append_left (by omega), List.getElem?_take_of_lt h1]
    exact h i h1
  · rw [List.getElem?_append_right (by omega), List.getElem?_append_left (by rw [List.length_replicate]; omega), List.getElem?_replicate, if_pos (by omega)]

theorem one_src {w : World} {b o : Nat} {x : Value} (h : w.cell? ⟨b, o, none⟩ = some x) (j : Nat) (v : Value) (hj : ([x] : List Value)[j]? = some v) : w.cell? ((⟨b, o, none⟩ : Addr).add j) = some v := by
  cases j with
  | zero => simp at hj; subst hj; simpa [Addr.add] using h
  | succ j => simp at hj

set_option maxRecDepth 100000 in
set_option maxHeartbeats 1000000 in
theorem repeat_32 (bb bo : Nat) (w : World) (hb : w.cell? ⟨bb, bo, none⟩ = some (.int .u8 1)) :
    Calls Tryz.prog 31 #[.slice (some ⟨bb, bo, none⟩) 1 1, .int .i64 32] w (Bytes32 w) := by
  have HB := Lib.hid hb
  have hlb : bb < w.heap.size := World.block_lt_of_cell? w _ hb
  obtain ⟨cs, hrunM, hle, _⟩ := Lib.run_makeNoZero (P := Tryz.prog) w #[3] 29 5 Tryz.underlying29 32 (by omega)
  have hcall : (callFunc 94 #[.int .i64 32]).run Tryz.prog w = .ok (.value (.slice (some ⟨w.heap.size, 0, none⟩) 32 cs.size)) ((w.alloc (.cells cs 5)).drewN 2) := by
    rw [run_callFunc_extern Tryz.func94 (by kernel_rfl) (by kernel_rfl) (by kernel_rfl) (e := Extern.BytealgMakeNoZero.makeNoZero #[3] #[29]) (by kernel_rfl), show (32 : Int) = ((32 : Nat) : Int) from rfl, hrunM]
    rfl
  clear hrunM hb
  have i1 : (32 : Int) ≤ (cs.size : Int) := by omega
  go_enter Tryz.func31, Tryz.ntmps31
  go_upto_region 17 with (go_at_call 93; refine (mul_1_32 _).mono ?_; rintro e w' ⟨rfl, rfl⟩)
  obtain ⟨g, Hg⟩ : ∃ g, Hid (w.heap.size = g) := ⟨_, Lib.hid rfl⟩
  have f1 : Hid (((w.alloc (Obj.cells cs 5)).drewN 2).heap[g]? = some (.cells cs.toList.toArray 5)) := Lib.hid (by rw [← Hg.out]; exact heap_alloc_new _ _)
  have b1 : Hid (Below w.heap.size w ((w.alloc (Obj.cells cs 5)).drewN 2)) := Lib.hid (below_drewN ((Below.refl _ _).alloc (Nat.le_refl _) _) 2)
  have hb1 : Hid (((w.alloc (Obj.cells cs 5)).drewN 2).cell? ⟨bb, bo, none⟩ = some (.int .u8 1)) := Lib.hid ((b1.out.cell (p := ⟨bb, bo, none⟩) hlb).trans HB.out)
  obtain ⟨w1, Hw1⟩ : ∃ w1, Hid ((w.alloc (Obj.cells cs 5)).drewN 2 = w1) := ⟨_, Lib.hid rfl⟩
  rw [Hw1.out] at f1 b1 hb1 ⊢
  simp only [Hg.out]
  clear hcall Hw1
  have s8 : (Tryz.prog.info? 5).map (·.size) = some 1 := by kernel_rfl
  obtain ⟨cl, Hcl⟩ : ∃ cl, Hid (cs.toList = cl) := ⟨_, Lib.hid rfl⟩
  have hcl : 32 ≤ cl.length := by rw [← Hcl.out]; simpa using hle
  rw [Hcl.out] at f1
  clear hle i1 Hcl
  go_wp2_with (refine wpList_copy_upd rfl (.tmp 58) (.tmp 59) 29 29 rfl 5 Tryz.underlying29 s8 (some ⟨g, 0, none⟩) (some ⟨bb, bo, none⟩) 32 32 1 1 rfl rfl g 0 cl 5 f1.out [.int .u8 1] rfl (fun _ => ⟨rfl, _, rfl, fun j v hj => one_src hb1.out j v hj⟩) (by simp; omega) (by intro v hv; simp at hv; subst hv; rfl) ?_; intro w2 g2 u2)
  have F2 : Hid (∃ cur : List Value, 32 ≤ cur.length ∧ w2.heap[g]? = some (.cells cur.toArray 5) ∧ ∀ i, i < 1 → cur[i]? = some (.int .u8 1)) := Lib.hid ⟨_, by rw [length_splice _ _ _ (by simp; omega)]; exact hcl, g2, fun i hi => by rw [show i = 0 by omega]; simp [splice]⟩
  have U2 : Hid (Below w.heap.size w w2) := Lib.hid (Upd.below ((Upd.of_below b1.out).trans (u2.mono (fun b o _ h => h))) (fun k o hk h => by have : k = g := h; have := Hg.out; omega))
  clear g2 u2 f1 hb1
  go_loopw [10] (fun v wr => ∃ k : Nat, 1 ≤ k ∧ k ≤ 32 ∧ v = .int .i64 k ∧ Hid (Below w.heap.size w wr) ∧ Hid (∃ cur : List Value, 32 ≤ cur.length ∧ wr.heap[g]? = some (.cells cur.toArray 5) ∧ ∀ i, i < k → cur[i]? = some (.int .u8 1))) (fun v _ => 32 - (intOf v).toNat)
  case atStart => exact ⟨1, by omega, by omega, by simp, U2, F2⟩
  case round =>
    obtain ⟨k, hk1, hk, rfl, hu, hf⟩ := hrel
    clear F2 U2
    by_cases hlt : k < 32
    · have hd : decide ((k : Int) < 32) = true := by simp; omega
      have hkk : (k : Int) < 32 := by omega
      have hkl : (k : Int) ≤ 32 := by omega
      go_wp2
      obtain ⟨cur, hcu1, hcu2, hcu3⟩ := hf.out
      have Hcu1 := Lib.hid hcu1
      have Hcu2 : Hid (wr.drew.heap[g]? = some (.cells cur.toArray 5)) := Lib.hid hcu2
      have Hcu3 := Lib.hid hcu3
      have Hud : Hid (Below w.heap.size w wr.drew) := Lib.hid hu.out.drew
      obtain ⟨m, Hm⟩ : ∃ m, Hid (min k (32 - k) = m) := ⟨_, Lib.hid rfl⟩
      have hm1 : 1 ≤ m := by have := Hm.out; omega
      have hm2 : m ≤ k := by have := Hm.out; omega
      have hm3 : k + m ≤ 32 := by have := Hm.out; omega
      have Hsrc : Hid (∀ j v, (List.replicate (m) (Value.int .u8 1))[j]? = some v → wr.drew.cell? ((⟨g, 0, none⟩ : Addr).add j) = some v) := Lib.hid (fun j v hj => by
        obtain ⟨h1, h2⟩ := List.getElem?_eq_some_iff.1 hj
        rw [List.getElem_replicate] at h2
        rw [List.length_replicate] at h1
        have := hm2
        have ha : (⟨g, 0, none⟩ : Addr).add j = ⟨g, j, none⟩ := by
          unfold Addr.add
          split <;> simp_all
        rw [ha, cell_of Hcu2.out, List.getElem?_toArray, Hcu3.out j (by omega), h2])
      have ne32 : ¬ (32 : Nat) = k := by omega
      clear hcu1 hcu2 hcu3 hf hu
      have kcw : IntKind.i64.wrap ((k : Int) + (m : Int)) = (k : Int) + (m : Int) := IntWalk.i64_in _ (by omega)
      refine wp_region_held_drew (S := fun _ => True) (by kernel_rfl) trivial (fun _ => ?_)
      refine wpAnyH_take (i := 0) (oi := ⟨some 67, _, _, _, _, _⟩) (v := .int .i64 k) rfl (by kernel_rfl) (by kernel_rfl) (by kernel_rfl) (fun _ _ _ h => h) (Or.inl ⟨by rfl, ?_⟩) trivial ?_
      · intro w _
        go_simp
      try simp only [Act.put, List.setIfInBounds_toArray, List.set_cons_zero, List.set_cons_succ]
      refine wpAnyH_take (i := 1) (oi := ⟨some 68, _, _, _, _, _⟩) (v := .slice (some ⟨g, 0, none⟩) 32 32) rfl (by kernel_rfl) (by kernel_rfl) (by kernel_rfl) (fun _ _ _ h => h) (Or.inl ⟨by rfl, ?_⟩) trivial ?_
      · intro w _
        go_simp
      try simp only [Act.put, List.setIfInBounds_toArray, List.set_cons_zero, List.set_cons_succ]
      refine wpAnyH_take (i := 2) (oi := ⟨some 69, _, _, _, _, _⟩) (v := .int .i64 k) rfl (by kernel_rfl) (by kernel_rfl) (by kernel_rfl) (fun _ _ _ h => h) (Or.inl ⟨by rfl, ?_⟩) trivial ?_
      · intro w _
        go_simp
      try simp only [Act.put, List.setIfInBounds_toArray, List.set_cons_zero, List.set_cons_succ]
      refine wpAnyH_take (i := 3) (oi := ⟨some 70, _, _, _, _, _⟩) (v := .slice (some ⟨g, k, none⟩) (32 - k) (32 - k)) rfl (by kernel_rfl) (by kernel_rfl) (by kernel_rfl) (fun _ _ _ h => h) (Or.inl ⟨by rfl, ?_⟩) trivial ?_
      · intro w _
        go_simp
      try simp only [Act.put, List.setIfInBounds_toArray, List.set_cons_zero, List.set_cons_succ]
      refine wpAnyH_take (i := 4) (oi := ⟨some 71, _, _, _, _, _⟩) (v := .slice (some ⟨g, 0, none⟩) 32 32) rfl (by kernel_rfl) (by kernel_rfl) (by kernel_rfl) (fun _ _ _ h => h) (Or.inl ⟨by rfl, ?_⟩) trivial ?_
      · intro w _
        go_simp
      try simp only [Act.put, List.setIfInBounds_toArray, List.set_cons_zero, List.set_cons_succ]
      refine wpAnyH_take (i := 5) (oi := ⟨some 72, _, _, _, _, _⟩) (v := .int .i64 k) rfl (by kernel_rfl) (by kernel_rfl) (by kernel_rfl) (fun _ _ _ h => h) (Or.inl ⟨by rfl, ?_⟩) trivial ?_
      · intro w _
        go_simp
      try simp only [Act.put, List.setIfInBounds_toArray, List.set_cons_zero, List.set_cons_succ]
      refine wpAnyH_take (i := 6) (oi := ⟨some 73, _, _, _, _, _⟩) (v := .slice (some ⟨g, 0, none⟩) k 32) rfl (by kernel_rfl) (by kernel_rfl) (by kernel_rfl) (fun _ _ _ h => h) (Or.inl ⟨by rfl, ?_⟩) trivial ?_
      · intro w _
        go_simp
      try simp only [Act.put, List.setIfInBounds_toArray, List.set_cons_zero, List.set_cons_succ]
      refine wpAnyH_ready (rs := [7]) (by kernel_rfl) (by simp) ?_
      refine AllReadyH.cons (o := ⟨some 74, _, _, _, _, _⟩) rfl (fun Kc hK => ?_) AllReadyH.nil
      refine step_copy_splice rfl (.tmp 70) (.tmp 73) 29 29 rfl 5 Tryz.underlying29 s8 (some ⟨g, k, none⟩) (some ⟨g, 0, none⟩) (32 - k) (32 - k) k 32 rfl rfl g k cur 5 Hcu2.out (List.replicate (m) (.int .u8 1)) (by rw [List.length_replicate]; exact Hm.out.symm) (fun _ => ⟨rfl, _, rfl, Hsrc.out⟩) (by have := Hcu1.out; rw [List.length_replicate]; omega) (by intro v hv; obtain ⟨_, rfl⟩ := List.mem_replicate.1 hv; rfl) w.heap.size w Hud.out (Nat.le_of_eq Hg.out) ?_
      intro w3 g3 u3
      rw [List.length_replicate]
      refine hK.out _ _ trivial (fun _ => ?_)
      clear hK
      try simp only [Act.put, List.setIfInBounds_toArray, List.set_cons_zero, List.set_cons_succ]
      refine wpAnyH_take (i := 8) (oi := ⟨some 75, _, _, _, _, _⟩) (v := .int .i64 ((k : Int) + (m : Int))) rfl (by kernel_rfl) (by kernel_rfl) (by kernel_rfl) (fun _ _ _ h => h) (Or.inl ⟨by rfl, ?_⟩) trivial ?_
      · intro w _
        go_simp
      try simp only [Act.put, List.setIfInBounds_toArray, List.set_cons_zero, List.set_cons_succ]
      refine wpAnyH_take (i := 9) (oi := ⟨some 10, _, _, _, _, _⟩) (v := .int .i64 ((k : Int) + (m : Int))) rfl (by kernel_rfl) (by kernel_rfl) (by kernel_rfl) (fun _ _ _ h => h) (Or.inl ⟨by rfl, ?_⟩) trivial ?_
      · intro w _
        go_simp
      try simp only [Act.put, List.setIfInBounds_toArray, List.set_cons_zero, List.set_cons_succ]
      refine wpAnyH_done (by kernel_rfl) ?_ _
      have hf3 : Hid (∃ cur : List Value, 32 ≤ cur.length ∧ w3.heap[g]? = some (.cells cur.toArray 5) ∧ ∀ i, i < k + m → cur[i]? = some (.int .u8 1)) := Lib.hid ⟨_, by rw [length_splice _ _ _ (by have := Hcu1.out; rw [List.length_replicate]; omega)]; exact Hcu1.out, g3.out, fun i hi => splice_ones (by have := Hcu1.out; omega) Hcu3.out i hi⟩
      have hu3 : Hid (Below w.heap.size w w3) := Lib.hid u3
      clear g3 u3 Hsrc Hud kcw ne32
      go_wp2
      go_roundw
      case measure => simp [intOf]; omega
      case rel => exact ⟨k + m, by omega, by omega, by go_num, hu3, hf3⟩
    · obtain rfl : k = 32 := by omega
      have hd : decide (((32 : Nat) : Int) < 32) = false := by decide
      clear hk hk1 hlt
      go_wp2
      go_ret
      obtain ⟨cur, q1, q2, q3⟩ := hf.out
      refine ⟨g, List.replicate 32 1, rfl, Nat.le_of_eq Hg.out, List.length_replicate, ⟨heap_lt q2, fun i hi => ?_⟩, hu.out⟩
      rw [List.length_replicate] at hi
      rw [Nat.zero_add, cell_of q2, List.getElem?_toArray, q3 i hi, List.getElem?_replicate, if_pos hi]
      rfl
end Go.Proofs.YteohaebhnenabaaGreatDoor
