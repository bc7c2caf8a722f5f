/- An HMAC's key goes into its two states. Condition: the key has 32 bytes. -/
import Derived.Test.YteohaebhnenabaaGreatDoorBegin
import Derived.Test.YteohaebhnenabaaGreatDoorPair
import Derived.Great.BuildSlice
import Derived.Deep.Cut
import Derived.Deep.CutBlock
namespace Go.Proofs.YteohaebhnenabaaGreatDoor
open Go.RowKit

/-- an HMAC's two digests behind the key -/
def KeyR (w : World) (e : Ending) (w' : World) : Prop :=
  ∃ s1 s2 : St, e = .returned (.tuple #[.agg (stCells s1 ++ stCells s2).toArray, .bool true]) ∧ s1.count = 64 ∧ s2.count = 64 ∧ s1.half.length = 128 ∧ s2.half.length = 128 ∧ Below w.heap.size w w'

theorem SlBytes.src {w : World} {b o : Nat} {l : List Int} (h : SlBytes w b o l) : ∀ j v, (l.map (Value.int .u8))[j]? = some v → w.cell? ((⟨b, o, none⟩ : Addr).add j) = some v := by
  intro j v hj
  obtain ⟨hj1, hj2⟩ := List.getElem?_eq_some_iff.1 hj
  simp only [List.length_map] at hj1
  have ha : (⟨b, o, none⟩ : Addr).add j = ⟨b, o + j, none⟩ := by
    unfold Addr.add
    split <;> simp_all
  rw [ha, h.cell j hj1, ← hj2]
  simp [hj1]

theorem bytes_one (l : List Int) : ∀ v ∈ l.map (Value.int .u8), v.oneCell' = true := by
  intro v hv
  obtain ⟨x, _, rfl⟩ := List.mem_map.1 hv
  rfl

theorem all_one (l : List Value) (h : ∀ v ∈ l, v.oneCell' = true) : l.toArray.all (·.oneCell') = true :=
  Array.all_eq_true_iff_forall_mem.2 (fun v hv => h v (by simpa using hv))

theorem st_one (s : St) : ∀ v ∈ stCells s, v.oneCell' = true := by
  intro v hv
  simp only [stCells, stHead, List.mem_append, List.mem_cons, List.not_mem_nil, or_false, List.mem_map, List.mem_range] at hv
  rcases hv with (rfl | rfl | rfl | rfl | rfl) | (rfl | (⟨i, _, rfl⟩ | ⟨i, _, rfl⟩)) <;> rfl

theorem slBytes_take {w : World} {b : Nat} {p : List Int} {T : TypeId} (h : w.heap[b]? = some (.cells (p.map (Value.int .u8)).toArray T)) (n : Nat) : SlBytes w b 0 (p.take n) :=
  ⟨heap_lt h, fun i hi => by
    rw [List.length_take] at hi
    rw [Nat.zero_add, cell_of h, getD_map _ _ _ (by omega), List.getElem?_take_of_lt (by omega)]⟩

set_option maxRecDepth 100000 in
set_option maxHeartbeats 4000000 in
theorem key_256 (cub sq : Nat → Int) (kb ko kc : Nat) (l : List Int) (w : World) (G : Glob cub sq w) (hl : SlBytes w kb ko l) (h32 : l.length = 32) (hc : 32 ≤ kc) (hcm : kc ≤ 140737488351232) :
    Calls Tryz.prog 114 #[.int .i64 256, .slice (some ⟨kb, ko, none⟩) 32 kc] w (KeyR w) := by
  have HG := Lib.hid G
  have Hl := Lib.hid hl
  clear G hl
  have zz : Tryz.zeroCells201.size = 142 := by kernel_rfl
  have zz2 : Tryz.zeroCells203.size = 284 := by kernel_rfl
  obtain ⟨S, HS⟩ : ∃ S, Hid ((stCells (begun sq)).toArray = S) := ⟨_, Lib.hid rfl⟩
  have hS0 : S.size = 142 := by rw [← HS.out]; kernel_rfl
  have hS1 : S[1]? = some (.int .i64 64) := by rw [← HS.out]; rfl
  have hS1e : S[1]'(by omega) = .int .i64 64 := by rw [Array.getElem?_eq_getElem (by omega)] at hS1; exact Option.some.inj hS1
  have o1 : (Tryz.prog.info? 201).map (·.size) = some S.size := by rw [hS0]; kernel_rfl
  have o2 : Tryz.zeroCells201.size = S.size := by rw [hS0]; exact zz
  have o3 : S.all (·.oneCell') = true := by rw [← HS.out]; kernel_rfl
  go_enter Tryz.func114, Tryz.ntmps114
  go_wp2_with fail
  refine (begin_256 sq _ (by exact Nat.le_trans HG.out.hz (by simp)) (fun i hi => by rw [((Below.refl w.heap.size w).alloc (Nat.le_refl _) _).cell (by show 2 < w.heap.size; have := HG.out.hz; omega)]; exact HG.out.squares i hi)).mono ?_
  rintro e w1 ⟨rfl, hb1⟩
  dsimp only
  rw [HS.out]
  have Hb1 : Hid (Below (w.heap.size + 1) (w.alloc (.cells Tryz.zeroCells203 203)) w1) := Lib.hid (by simpa using hb1)
  clear hb1
  have ob : Tryz.prog.built 203 [(0, .agg S), (1, .agg S)] = some (S ++ S) := by
    have h1 : (Tryz.prog.info? 203).bind (·.zero) = some (.agg Tryz.zeroCells203) := by kernel_rfl
    cases hit : Tryz.prog.info? 203 with
    | none => rw [hit] at h1; cases h1
    | some it =>
      rw [hit] at h1
      exact built_two hit h1 Tryz.underlying203 (s := 142) (by kernel_rfl) S S hS0 hS0 (by omega) zz2
  have p1 : (Tryz.prog.info? 203).map (·.size) = some (S ++ S).size := by rw [Array.size_append, hS0]; kernel_rfl
  have p2 : Tryz.zeroCells203.size = (S ++ S).size := by rw [Array.size_append, hS0]; exact zz2
  have p3 : (S ++ S).all (·.oneCell') = true := by rw [Array.all_append, o3]; rfl
  go_upto_region 10 with (first
    | (refine wpList_store_fresh rfl 201 (.tmp 6) (.tmp 16) rfl w1.heap.size S Tryz.zeroCells201 201 rfl rfl rfl o1 o2 o3 ?_)
    | (refine wpList_load_row rfl 201 (.tmp 6) rfl w1.heap.size rfl 201 S (0, 0) _ (heap_alloc_new _ _) Tryz.underlying201 rfl o1 ?_)
    | (refine wpList_build_two rfl 203 (.tmp 32) (.tmp 33) rfl S S (S ++ S) rfl rfl ob ?_)
    | (refine wpList_store_fresh rfl 203 (.tmp 9) (.tmp 34) rfl (w1.heap.size + 1) (S ++ S) Tryz.zeroCells203 203 rfl (by simp) rfl p1 p2 p3 ?_))
  obtain ⟨w2, Hw2⟩ : ∃ w2, Hid ((((w1.alloc (Obj.cells S 201)).alloc (Obj.cells (S ++ S) 203)).alloc (Obj.cells Tryz.zeroCells199 199)).alloc (Obj.cells Tryz.zeroCells199 199) = w2) := ⟨_, Lib.hid rfl⟩
  rw [Hw2.out]
  obtain ⟨N, HN⟩ : ∃ N, Hid (w1.heap.size = N) := ⟨_, Lib.hid rfl⟩
  simp only [HN.out]
  have hlt : w.heap.size < N := by have h := Hb1.out.size; simp at h; rw [HN.out] at h; omega
  have h4 := heap4 w1 (Obj.cells S 201) (Obj.cells (S ++ S) 203) (Obj.cells Tryz.zeroCells199 199) (Obj.cells Tryz.zeroCells199 199)
  rw [Hw2.out, HN.out] at h4
  obtain ⟨f6, f9, f10, f11, fb⟩ := h4
  have FB : Hid (Below w.heap.size w w2) := Lib.hid ((((Below.refl _ _).alloc (Nat.le_refl _) _).trans (Hb1.out.mono (by omega))).trans (fb.mono (by omega)))
  have F0 : Hid (w2.heap[w.heap.size]? = some (.cells Tryz.zeroCells203 203)) := Lib.hid (by
    rw [fb.block _ hlt, Hb1.out.block _ (by omega)]
    exact heap_alloc_new _ _)
  have F6 := Lib.hid f6
  have F9 := Lib.hid f9
  have F10 := Lib.hid f10
  have F11 := Lib.hid f11
  clear f6 f9 f10 f11 fb
  clear Hw2 HN Hb1
  obtain ⟨Z, HZ⟩ : ∃ Z : List Int, Hid (List.replicate 128 (0 : Int) = Z) := ⟨_, Lib.hid rfl⟩
  have hZl : Hid (Z.length = 128) := Lib.hid (by rw [← HZ.out]; exact List.length_replicate)
  have Z0 : Tryz.zeroCells199 = (Z.map (Value.int .u8)).toArray := by rw [← HZ.out]; kernel_rfl
  rw [Z0] at F10 F11
  have s8 : (Tryz.prog.info? 5).map (·.size) = some 1 := by kernel_rfl
  have hlm : (l.map (Value.int .u8)).length = 32 := by rw [List.length_map]; exact h32
  have Hlm := Lib.hid hlm
  have hk2 : Hid (SlBytes w2 kb ko l) := Lib.hid (Hl.out.below FB.out Hl.out.lt)
  clear Z0 hlm h32
  go_upto_region 11 with (refine wpList_copy_upd rfl (.tmp 35) (.tmp 36) 29 29 rfl 5 Tryz.underlying29 s8 (some ⟨N + 1 + 1, 0, none⟩) (some ⟨kb, ko, none⟩) 128 128 32 kc rfl rfl (N + 1 + 1) 0 (Z.map (Value.int .u8)) 199 F10.out (l.map (Value.int .u8)) (by rw [Hlm.out]; rfl) (fun _ => ⟨rfl, _, rfl, hk2.out.src⟩) (by rw [Hlm.out, List.length_map, hZl.out]; omega) (bytes_one l) ?_; intro w3 g3 u3)
  have HB3 : Hid (Upd (fun b _ => N + 2 ≤ b) w2 w3) := Lib.hid (u3.mono (fun b o _ h => by have : b = N + 1 + 1 := h; omega))
  have hk3 : Hid (SlBytes w3 kb ko l) := Lib.hid (hk2.out.upd u3 (fun i h => by have : kb = N + 1 + 1 := h; have := Hl.out.lt; omega))
  have G3 : Hid (∃ p : List Int, p.length = 128 ∧ w3.heap[N + 1 + 1]? = some (.cells (p.map (Value.int .u8)).toArray 199)) := Lib.hid ⟨splice Z 0 l, by rw [splice_length _ _ _ (by rw [hZl.out]; have := Hlm.out; simp at this; omega)]; exact hZl.out, by rw [g3, splice_map]⟩
  have g11 : Hid (w3.heap[N + 1 + 1 + 1]? = some (.cells (Z.map (Value.int .u8)).toArray 199)) := Lib.hid (by rw [u3.block _ (heap_lt F11.out) (fun o h => by have : N + 1 + 1 + 1 = N + 1 + 1 := h; omega)]; exact F11.out)
  clear u3 g3
  go_upto_region 12 with (refine wpList_copy_upd rfl (.tmp 38) (.tmp 39) 29 29 rfl 5 Tryz.underlying29 s8 (some ⟨N + 1 + 1 + 1, 0, none⟩) (some ⟨kb, ko, none⟩) 128 128 32 kc rfl rfl (N + 1 + 1 + 1) 0 (Z.map (Value.int .u8)) 199 g11.out (l.map (Value.int .u8)) (by rw [Hlm.out]; rfl) (fun _ => ⟨rfl, _, rfl, hk3.out.src⟩) (by rw [Hlm.out, List.length_map, hZl.out]; omega) (bytes_one l) ?_; intro w4 g4 u4)
  have HB4 : Hid (Upd (fun b _ => N + 2 ≤ b) w2 w4) := Lib.hid (HB3.out.trans (u4.mono (fun b o _ h => by have : b = N + 1 + 1 + 1 := h; omega)))
  have G4 : Hid (∃ p q : List Int, p.length = 128 ∧ q.length = 128 ∧ w4.heap[N + 1 + 1]? = some (.cells (p.map (Value.int .u8)).toArray 199) ∧ w4.heap[N + 1 + 1 + 1]? = some (.cells (q.map (Value.int .u8)).toArray 199)) := Lib.hid (by
    obtain ⟨p, hp, hg⟩ := G3.out
    exact ⟨p, splice Z 0 l, hp, by rw [splice_length _ _ _ (by rw [hZl.out]; have := Hlm.out; simp at this; omega)]; exact hZl.out, by rw [u4.block _ (heap_lt hg) (fun o h => by have : N + 1 + 1 = N + 1 + 1 + 1 := h; omega)]; exact hg, by rw [g4, splice_map]⟩)
  clear u4 g4 HB3 G3 g11 hk3 hk2 F10 F11 Hlm hZl HZ
  go_wp2
  go_loopw [41] (fun v wr => ∃ k : Nat, k ≤ 128 ∧ v = .int .i64 k ∧ Hid (Upd (fun b _ => N + 2 ≤ b) w2 wr) ∧ Hid (∃ p q : List Int, p.length = 128 ∧ q.length = 128 ∧ wr.heap[N + 1 + 1]? = some (.cells (p.map (Value.int .u8)).toArray 199) ∧ wr.heap[N + 1 + 1 + 1]? = some (.cells (q.map (Value.int .u8)).toArray 199))) (fun v _ => 128 - (intOf v).toNat)
  case atStart => exact ⟨0, by omega, rfl, HB4, G4⟩
  case round =>
    obtain ⟨k, hk, rfl, hu, hpq⟩ := hrel
    clear HB4 G4
    by_cases hlt : k < 128
    · have hd : decide ((k : Int) < 128) = true := by simp; omega
      obtain ⟨p, q, hp, hq, hg1, hg2⟩ := hpq.out
      have c1 : wr.cell? ⟨N + 1 + 1, k, none⟩ = some (.int .u8 (p[k]?.getD 0)) := by rw [cell_of hg1, getD_map _ _ _ (by omega)]
      have c2 : wr.cell? ⟨N + 1 + 1 + 1, k, none⟩ = some (.int .u8 (q[k]?.getD 0)) := by rw [cell_of hg2, getD_map _ _ _ (by omega)]
      have f1 : wr.frozen? ⟨N + 1 + 1, k, none⟩ = false := frozen_of hg1 _
      have f2 : wr.frozen? ⟨N + 1 + 1 + 1, k, none⟩ = false := frozen_of hg2 _
      have k0 : (k : Int) < 128 := by omega
      have Hg1 := Lib.hid hg1
      have Hg2 := Lib.hid hg2
      have Hp := Lib.hid hp
      have Hq := Lib.hid hq
      clear hg1 hg2 hp hq hpq
      go_wp2
      go_roundw
      case measure => simp [intOf]; omega
      case rel =>
      refine ⟨k + 1, by omega, by go_num, Lib.hid ((hu.out.setCell (Or.inl (by omega)) _).setCell (Or.inl (by omega)) _), Lib.hid ⟨p.set k (bits .xor .u8 (p[k]?.getD 0) 54), q.set k (bits .xor .u8 (q[k]?.getD 0) 92), by rw [List.length_set]; exact Hp.out, by rw [List.length_set]; exact Hq.out, ?_, ?_⟩⟩
      · rw [heap_setCell_ne (by omega), heap_setCell Hg1.out, set_map]
      · have h2 : (wr.setCell ⟨N + 1 + 1, k, none⟩ (.int .u8 (bits .xor .u8 (p[k]?.getD 0) 54))).heap[N + 1 + 1 + 1]? = some (.cells (q.map (Value.int .u8)).toArray 199) := by rw [heap_setCell_ne (by omega)]; exact Hg2.out
        rw [heap_setCell h2, set_map]
    · obtain rfl : k = 128 := by omega
      have hd : decide (((128 : Nat) : Int) < 128) = false := by decide
      clear hk hlt
      have x6 : Hid (wr.heap[N]? = some (.cells S 201)) := Lib.hid (by rw [hu.out.block _ (heap_lt F6.out) (fun o h => by omega)]; exact F6.out)
      have x9 : Hid (wr.heap[N + 1]? = some (.cells (S ++ S) 203)) := Lib.hid (by rw [hu.out.block _ (heap_lt F9.out) (fun o h => by omega)]; exact F9.out)
      have x0 : Hid (wr.heap[w.heap.size]? = some (.cells Tryz.zeroCells203 203)) := Lib.hid (by rw [hu.out.block _ (heap_lt F0.out) (fun o h => by omega)]; exact F0.out)
      have xU : Hid (Upd (fun b _ => w.heap.size ≤ b) w wr) := Lib.hid ((Upd.of_below FB.out).trans (hu.out.mono (fun b o _ h => by omega)))
      have xG : Hid (Glob cub sq wr) := Lib.hid (HG.out.upd xU.out (fun b o h => by have := HG.out.hz; omega))
      have c6 : wr.cell? ⟨N, 1, none⟩ = some (.int .i64 64) := by rw [cell_of x6.out]; exact hS1
      obtain ⟨p, q, hp, hq, hg1, hg2⟩ := hpq.out
      have lp : (p.take 64).length = 64 := by rw [List.length_take]; omega
      have lq : (q.take 64).length = 64 := by rw [List.length_take]; omega
      have sp : Hid (SlBytes wr (N + 1 + 1) 0 (p.take 64)) := Lib.hid (slBytes_take hg1 64)
      have sq2 : Hid (SlBytes wr (N + 1 + 1 + 1) 0 (q.take 64)) := Lib.hid (slBytes_take hg2 64)
      have Lp := Lib.hid lp
      have Lq := Lib.hid lq
      have xS : Hid (AtSt wr (N + 1) 203 [] (stCells (begun sq)) (begun sq)) := Lib.hid ⟨by rw [x9.out, ← HS.out]; simp, List.length_replicate⟩
      have hN17 : 3 ≤ N + 1 := by have := HG.out.hz; omega
      have a64 : (64 : Int) ≤ 128 := by omega
      have T1 := Lib.hid (take_at0 (N + 1) 203 (N + 1 + 1) 0 128 [] (stCells (begun sq)) (begun sq) (p.take 64) cub wr xS.out sp.out (by rw [Lp.out]; omega) (by omega) (by omega) hN17 rfl (by show (0 : Nat) ≤ _; omega) xG.out.cubes)
      rw [Lp.out] at T1
      clear hpq hp hq hg1 hg2 lp lq hd
      go_wp2_with fail
      refine (T1.out).mono ?_
      rintro e w5 ⟨rfl, u5, a5⟩
      dsimp only
      have H5 : Hid (∃ s1 : St, s1.count = 64 ∧ AtSt w5 (N + 1) 203 [] (stCells (begun sq)) s1) := Lib.hid ⟨_, rfl, a5⟩
      clear a5 T1
      obtain ⟨s1, hc1, hs1⟩ := H5.out
      have l1 : (stCells s1).length = 142 := stCells_length s1 hs1.half
      have yS : Hid (AtSt w5 (N + 1) 203 (stCells s1) [] (begun sq)) := Lib.hid ⟨by rw [hs1.row]; simp, List.length_replicate⟩
      have yG : Hid (Glob cub sq w5) := Lib.hid (xG.out.upd u5 (fun b o h => by have : b = N + 1 := h; omega))
      have yq : Hid (SlBytes w5 (N + 1 + 1 + 1) 0 (q.take 64)) := Lib.hid (sq2.out.upd u5 (fun i h => by have : N + 1 + 1 + 1 = N + 1 := h; omega))
      have T2 := Lib.hid (take_at0 (N + 1) 203 (N + 1 + 1 + 1) 0 128 (stCells s1) [] (begun sq) (q.take 64) cub w5 yS.out yq.out (by rw [Lq.out]; omega) (by omega) (by omega) hN17 rfl (by show (0 : Nat) ≤ _; omega) yG.out.cubes)
      rw [Lq.out, l1] at T2
      have d6 : w5.cell? ⟨N, 1, none⟩ = some (.int .i64 64) := u5.cell c6 (fun h => by have : N = N + 1 := h; omega)
      have y0 : Hid (w5.heap[w.heap.size]? = some (.cells Tryz.zeroCells203 203)) := Lib.hid (by rw [u5.block _ (heap_lt x0.out) (fun o h => by have : w.heap.size = N + 1 := h; omega)]; exact x0.out)
      have yU : Hid (Upd (fun b _ => w.heap.size ≤ b) w w5) := Lib.hid (xU.out.trans (u5.mono (fun b o _ h => by have : b = N + 1 := h; omega)))
      have Hc1 := Lib.hid hc1
      have Hs1 := Lib.hid hs1
      have L1 := Lib.hid l1
      clear u5 c6 hc1 hs1 l1
      go_wp2_with fail
      refine (T2.out).mono ?_
      rintro e w6 ⟨rfl, u6, a6⟩
      dsimp only
      have H6 : Hid (∃ s2 : St, s2.count = 64 ∧ AtSt w6 (N + 1) 203 (stCells s1) [] s2) := Lib.hid ⟨_, rfl, a6⟩
      clear a6 T2
      obtain ⟨s2, hc2, hs2⟩ := H6.out
      have l2 : (stCells s2).length = 142 := stCells_length s2 hs2.half
      obtain ⟨M, HM⟩ : ∃ M, Hid ((stCells s1 ++ stCells s2).toArray = M) := ⟨_, Lib.hid rfl⟩
      have hMs : M.size = 284 := by rw [← HM.out]; simp [L1.out, l2]
      have m9 : Hid (w6.heap[N + 1]? = some (.cells M 203)) := Lib.hid (by rw [hs2.row, ← HM.out]; simp)
      have m0 : Hid (w6.heap[w.heap.size]? = some (.cells Tryz.zeroCells203 203)) := Lib.hid (by rw [u6.block _ (heap_lt y0.out) (fun o h => by have : w.heap.size = N + 1 := h; omega)]; exact y0.out)
      have mU : Hid (Upd (fun b _ => w.heap.size ≤ b) w w6) := Lib.hid (yU.out.trans (u6.mono (fun b o _ h => by have : b = N + 1 := h; omega)))
      have q1 : (Tryz.prog.info? 203).map (·.size) = some M.size := by rw [hMs]; kernel_rfl
      have q2 : Tryz.zeroCells203.size = M.size := by rw [hMs]; exact zz2
      have q3 : M.all (·.oneCell') = true := by rw [← HM.out]; exact all_one _ (fun v hv => by rcases List.mem_append.1 hv with h | h; exact st_one _ v h; exact st_one _ v h)
      have Hc2 := Lib.hid hc2
      have Hs2 := Lib.hid hs2
      have HMs := Lib.hid hMs
      have hMl : Hid (s1.half.length = 128 ∧ s2.half.length = 128) := Lib.hid ⟨Hs1.out.half, hs2.half⟩
      clear u6 d6 hc2 hs2 l2 hMs
      go_wp2_with (first
        | (refine wpList_load_row rfl 203 (.tmp 9) rfl (N + 1) rfl 203 M (0, 0) _ m9.out Tryz.underlying203 rfl q1 ?_)
        | (refine wpList_store_row rfl 203 (.tmp 4) (.tmp 67) rfl w.heap.size M rfl rfl 203 _ m0.out q1 q2 q3 ?_))
      exact bodyPost_ret (v := .tuple #[.agg M, .bool true]) (results_cell_slot Tryz.results114 _ _ w.heap.size 203 M (0, 0) _ _ rfl rfl (setRow_heap _ _ _ _ _ _ m0.out) Tryz.underlying203 rfl q1) rfl
        ⟨s1, s2, by rw [HM.out], Hc1.out, Hc2.out, hMl.out.1, hMl.out.2, Upd.below (mU.out.trans ((upd_setRow m0.out q2.symm).mono (fun b o _ h => by have : b = w.heap.size := h; omega))) (fun k o hk h => by omega)⟩
end Go.Proofs.YteohaebhnenabaaGreatDoor
