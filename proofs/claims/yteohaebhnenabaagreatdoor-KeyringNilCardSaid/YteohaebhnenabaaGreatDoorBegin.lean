/- digest's begin: a new state of hash 256; nothing that was there has changed. Condition: its region's order is left open, and each order is walked. -/
import Derived.Test.YteohaebhnenabaaGreatDoorTakeS
import Derived.Deep.RegionHeld3
import Derived.Laws.Rows
import Derived.Laws.Tables
namespace Go.Proofs.YteohaebhnenabaaGreatDoor
open Go.RowKit

/-- a digest in its beginning -/
def begun (sq : Nat → Int) : St := ⟨0, fun i => sq i / 4294967296, List.replicate 128 0⟩

def BeginR (w : World) (s : St) (e : Ending) (w' : World) : Prop :=
  e = .returned (.tuple #[.agg (stCells s).toArray, .bool true]) ∧ Below w.heap.size w w'

theorem results_cell_slot {P : Program} {fn : Func} {p q : Tmp} {ty : TypeId} (h : fn.results = #[.cell p ty, .tmp q]) (tmps : Array Value) (w : World) (g : Nat) (t : TypeId) (cs : Array Value) (fr : Nat × Nat) (d : TypeDesc) (v : Value)
    (hp : tmps.getD p undef = .pointer (some ⟨g, 0, none⟩)) (hq : tmps.getD q undef = v) (hg : w.heap[g]? = some (.cells cs t fr))
    (hu : P.underlying ty = some d) (hd : (match d with | .struct _ | .array _ _ => true | _ => false) = true) (hi : (P.info? ty).map (·.size) = some cs.size) :
    (results fn tmps).run P w = .ok (.tuple #[.agg cs, v]) w := by
  have hp' : tmps[p]?.getD undef = .pointer (some ⟨g, 0, none⟩) := by simpa using hp
  have hq' : tmps[q]?.getD undef = v := by simpa using hq
  simp [results, h, hp', hq', asAddr, run_loadVar_row w g t ty cs fr d hg hu hd hi]

/-- what the region of 'begin' leans on -/
def BeginS (sq : Nat → Int) (w0 : World) (b : Nat) (w' : World) : Prop :=
  w'.heap[w0.heap.size]? = some (.cells Tryz.zeroCells201 201) ∧ Below w0.heap.size w0 w' ∧ 3 ≤ w'.heap.size ∧ w0.heap.size < b ∧ b < w'.heap.size ∧
  ∀ i, i < 16 → w'.cell? ⟨2, i, none⟩ = some (.int .u64 (sq i))

set_option maxRecDepth 100000 in
set_option maxHeartbeats 400000 in
theorem begin_256 (sq : Nat → Int) (w : World) (hz : 3 ≤ w.heap.size) (h : ∀ i, i < 16 → w.cell? ⟨2, i, none⟩ = some (.int .u64 (sq i))) :
    Calls Tryz.prog 118 #[.int .i64 256] w (BeginR w (begun sq)) := by
  have H := Lib.hid h
  clear h
  go_enter Tryz.func118, Tryz.ntmps118
  go_wp2_with fail
  refine (kindOf_256 _).mono ?_
  rintro e w1 ⟨rfl, hb1⟩
  dsimp only
  go_wp2
  obtain ⟨K, HK⟩ : ∃ K, Hid (w1.alloc (Obj.cells #[.int .i64 32, .int .i64 64, .int .i64 4, .func (.func 102) #[] #[]] 166) = K) := ⟨_, Lib.hid rfl⟩
  rw [HK.out]
  have hk : K.heap[w1.heap.size]? = some (.cells #[.int .i64 32, .int .i64 64, .int .i64 4, .func (.func 102) #[] #[]] 166) := by rw [← HK.out]; exact heap_alloc_new _ _
  have k0 : K.cell? ⟨w1.heap.size, 0, none⟩ = some (.int .i64 32) := by rw [cell_of hk]; rfl
  have k1 : K.cell? ⟨w1.heap.size, 1, none⟩ = some (.int .i64 64) := by rw [cell_of hk]; rfl
  have k2 : K.cell? ⟨w1.heap.size, 2, none⟩ = some (.int .i64 4) := by rw [cell_of hk]; rfl
  have k3 : K.cell? ⟨w1.heap.size, 3, none⟩ = some (.func (.func 102) #[] #[]) := by rw [cell_of hk]; rfl
  have hlt : w1.heap.size < K.heap.size := heap_lt hk
  clear hk
  have hbK : Below w.heap.size w K := by
    rw [← HK.out]
    exact (((Below.refl w.heap.size w).alloc (Nat.le_refl _) _).trans (hb1.mono (by simp))).alloc (by have := hb1.size; simp at this; omega) _
  have HS : Hid (BeginS sq w w1.heap.size K) := Lib.hid ⟨by
    rw [← HK.out]
    have e1 : w.heap.size < w1.heap.size := by have := hb1.size; simp at this; omega
    rw [((Below.refl w1.heap.size w1).alloc (Nat.le_refl _) _).block _ e1, hb1.block _ (by simp)]
    exact heap_alloc_new _ _, hbK, Nat.le_trans hz hbK.size, by have := hb1.size; simp at this; omega, hlt, fun i hi => by
    rw [hbK.cell (by show 2 < w.heap.size; omega)]
    exact H.out i hi⟩
  clear H hbK hlt HK hz
  generalize hbb : w1.heap.size = b at *
  clear hbb hb1
  have o1 : Hid ((Tryz.prog.info? 201).map (·.size) = some (stCells (begun sq)).toArray.size) := Lib.hid (by kernel_rfl)
  have o2 : Hid (Tryz.zeroCells201.size = (stCells (begun sq)).toArray.size) := Lib.hid (by kernel_rfl)
  have o3 : Hid ((stCells (begun sq)).toArray.all (·.oneCell') = true) := Lib.hid (by kernel_rfl)
  have j0 : K.drew.cell? ⟨b, 0, none⟩ = some (.int .i64 32) := k0
  have j1 : K.drew.cell? ⟨b, 1, none⟩ = some (.int .i64 64) := k1
  have j2 : K.drew.cell? ⟨b, 2, none⟩ = some (.int .i64 4) := k2
  have j3 : K.drew.cell? ⟨b, 3, none⟩ = some (.func (.func 102) #[] #[]) := k3
  have HD : Hid (BeginS sq w b K.drew) := Lib.hid ⟨HS.out.1, HS.out.2.1.drew, HS.out.2.2.1, HS.out.2.2.2.1, HS.out.2.2.2.2.1, HS.out.2.2.2.2.2⟩
  clear HS
  obtain ⟨C, HC⟩ : ∃ C, Hid (((((((((((((Tryz.zeroCells201.setIfInBounds 0 (Value.int IntKind.i64 32)).setIfInBounds 1 (Value.int IntKind.i64 64)).setIfInBounds 2 (Value.int IntKind.i64 4)).setIfInBounds 3 (Value.func (Fn.func 102) #[] #[])).setIfInBounds 4 (Value.int IntKind.i64 256)).setIfInBounds 6 (Value.int IntKind.u64 (sq 0 / 4294967296))).setIfInBounds 7 (Value.int IntKind.u64 (sq 1 / 4294967296))).setIfInBounds 8 (Value.int IntKind.u64 (sq 2 / 4294967296))).setIfInBounds 9 (Value.int IntKind.u64 (sq 3 / 4294967296))).setIfInBounds 10 (Value.int IntKind.u64 (sq 4 / 4294967296))).setIfInBounds 11 (Value.int IntKind.u64 (sq 5 / 4294967296))).setIfInBounds 12 (Value.int IntKind.u64 (sq 6 / 4294967296))).setIfInBounds 13 (Value.int IntKind.u64 (sq 7 / 4294967296)) = C) := ⟨_, Lib.hid rfl⟩
  have hCe : Hid (C = (stCells (begun sq)).toArray) := Lib.hid (by rw [← HC.out]; kernel_rfl)
  have eC := HC.out
  rw [← hCe.out] at o1 o2 o3
  clear k0 k1 k2 k3
  refine wp_region_held_drew (S := fun w' => w'.cell? ⟨b, 0, none⟩ = some (.int .i64 32) ∧ w'.cell? ⟨b, 1, none⟩ = some (.int .i64 64) ∧ w'.cell? ⟨b, 2, none⟩ = some (.int .i64 4) ∧ w'.cell? ⟨b, 3, none⟩ = some (.func (.func 102) #[] #[])) (by kernel_rfl) ⟨j0, j1, j2, j3⟩ (fun hH => ?_)
  refine wpAnyH_take (i := 0) (oi := ⟨some 11, _, _, _, _, _⟩) (v := ?_) rfl (by kernel_rfl) (by kernel_rfl) (by kernel_rfl) (fun _ _ _ h => h) (Or.inl ⟨by rfl, ?_⟩) (by assumption) ?_
  rotate_left
  · intro w hSw; (try dsimp only at hSw); go_simp; with_reducible rfl
  try simp only [Act.put, List.setIfInBounds_toArray, List.set_cons_zero, List.set_cons_succ]
  refine wpAnyH_take (i := 1) (oi := ⟨some 12, _, _, _, _, _⟩) (v := ?_) rfl (by kernel_rfl) (by kernel_rfl) (by kernel_rfl) (fun _ _ _ h => h) (Or.inl ⟨by rfl, ?_⟩) (by assumption) ?_
  rotate_left
  · intro w hSw; (try dsimp only at hSw); go_simp; with_reducible rfl
  try simp only [Act.put, List.setIfInBounds_toArray, List.set_cons_zero, List.set_cons_succ]
  refine wpAnyH_take (i := 2) (oi := ⟨some 13, _, _, _, _, _⟩) (v := ?_) rfl (by kernel_rfl) (by kernel_rfl) (by kernel_rfl) (fun _ _ _ h => h) (Or.inl ⟨by rfl, ?_⟩) (by assumption) ?_
  rotate_left
  · intro w hSw; (try dsimp only at hSw); go_simp; with_reducible rfl
  try simp only [Act.put, List.setIfInBounds_toArray, List.set_cons_zero, List.set_cons_succ]
  refine wpAnyH_take (i := 5) (oi := ⟨some 16, _, _, _, _, _⟩) (v := ?_) rfl (by kernel_rfl) (by kernel_rfl) (by kernel_rfl) (fun _ _ _ h => h) (Or.inl ⟨by rfl, ?_⟩) (by assumption) ?_
  rotate_left
  · intro w hSw; (try dsimp only at hSw); go_simp; with_reducible rfl
  try simp only [Act.put, List.setIfInBounds_toArray, List.set_cons_zero, List.set_cons_succ]
  refine wpAnyH_ready (rs := [3]) (by kernel_rfl) (by simp) ?_
  refine AllReadyH.cons (o := ⟨some 14, _, _, _, _, _⟩) rfl (fun Kc hK => ?_) AllReadyH.nil
  go_simp
  go_at_call 120
  refine (first_256 sq _ HD.out.2.2.1 HD.out.2.2.2.2.2).mono ?_
  rintro e w3 ⟨rfl, hb3⟩
  have hr3 : w3.heap[w.heap.size]? = some (.cells Tryz.zeroCells201 201) := (hb3.block _ (Nat.lt_trans HD.out.2.2.2.1 HD.out.2.2.2.2.1)).trans HD.out.1
  have hb03 : Below w.heap.size w w3 := HD.out.2.1.trans (hb3.mono (Nat.le_of_lt (Nat.lt_trans HD.out.2.2.2.1 HD.out.2.2.2.2.1)))
  have hcd : ∀ i x, K.drew.cell? ⟨b, i, none⟩ = some x → w3.cell? ⟨b, i, none⟩ = some x := fun i x h => (hb3.cell (p := ⟨b, i, none⟩) HD.out.2.2.2.2.1).trans h
  have hne : b ≠ w.heap.size := by have := HD.out.2.2.2.1; omega
  have m0 := hcd _ _ j0
  have m1 := hcd _ _ j1
  have m2 := hcd _ _ j2
  have m3 := hcd _ _ j3
  clear hb3 hcd HD
  dsimp only
  refine hK.out _ _ ⟨m0, m1, m2, m3⟩ (fun hH2 => ?_)
  clear hK hH j0 j1 j2 j3
  try simp only [Act.put, List.setIfInBounds_toArray, List.set_cons_zero, List.set_cons_succ]
  refine wpAnyH_take (i := 4) (oi := ⟨some 15, _, _, _, _, _⟩) (v := .agg C) rfl (by kernel_rfl) (by kernel_rfl) (by kernel_rfl) (fun _ _ _ h => h) (Or.inl ⟨by rfl, ?_⟩) (by assumption) ?_
  · intro w hSw
    go_simp
  clear eC
  try simp only [Act.put, List.setIfInBounds_toArray, List.set_cons_zero, List.set_cons_succ]
  refine wpAnyH_ready (rs := [6]) (by kernel_rfl) (by simp) ?_
  refine AllReadyH.cons (o := ⟨none, _, _, _, _, _⟩) rfl (fun Kc hK => ?_) AllReadyH.nil
  refine step_store_row rfl 201 (.tmp 2) (.tmp 15) rfl w.heap.size C rfl rfl 201 _ hr3 o1.out o2.out o3.out ?_
  intro w4 hr4 hu4
  refine hK.out _ _ ⟨hu4.cell m0 hne, hu4.cell m1 hne, hu4.cell m2 hne, hu4.cell m3 hne⟩ (fun hH4 => ?_)
  have hb4 : Hid (Below w.heap.size w w4) := Lib.hid (Upd.below ((Upd.of_below (S := BSet w.heap.size) hb03).trans hu4) (fun k o hk h => by have : k = w.heap.size := h; omega))
  have Hr4 := Lib.hid hr4
  clear hK hH2 m0 m1 m2 m3 hu4 hb03 hr3 hr4
  try simp only [Act.put]
  refine wpAnyH_take (i := 7) (oi := ⟨some 3, _, _, _, _, _⟩) (v := .bool true) rfl (by kernel_rfl) (by kernel_rfl) (by kernel_rfl) (fun _ _ _ h => h) (Or.inl ⟨by rfl, ?_⟩) (by assumption) ?_
  · intro w hSw
    go_simp
  try simp only [Act.put, List.setIfInBounds_toArray, List.set_cons_zero, List.set_cons_succ]
  refine wpAnyH_done (by kernel_rfl) ?_ _
  clear hH4
  go_wp2
  exact bodyPost_ret (v := .tuple #[.agg C, .bool true]) (results_cell_slot Tryz.results118 _ _ w.heap.size 201 C (0, 0) _ _ rfl rfl Hr4.out Tryz.underlying201 rfl o1.out) rfl ⟨by rw [hCe.out], hb4.out⟩
end Go.Proofs.YteohaebhnenabaaGreatDoor
