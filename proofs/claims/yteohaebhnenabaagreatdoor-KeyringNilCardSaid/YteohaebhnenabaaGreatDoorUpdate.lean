/- (*Spring).update writes the spring's key and value anew, and nothing else that was there. Condition: the spring lies in memory as told. -/
import Derived.Test.YteohaebhnenabaaGreatDoorSpring
import Derived.Laws.OwnMore
namespace Go.Proofs.YteohaebhnenabaaGreatDoor
open Go.RowKit

/-- a Spring in memory: its key and its value are 32 bytes each, in blocks of their own -/
structure SpringAt (w : World) (B kb ko kc : Nat) (lk : List Int) (vb vo vc : Nat) (lv : List Int) : Prop where
  row : w.heap[B]? = some (.cells #[.int .i64 256, .int .i64 9, .int .i64 0, .slice (some ⟨kb, ko, none⟩) 32 kc, .slice (some ⟨vb, vo, none⟩) 32 vc] 86)
  k : SlBytes w kb ko lk
  kl : lk.length = 32
  kc1 : 32 ≤ kc
  kc2 : kc ≤ 140737488351232
  kB : kb ≠ B
  v : SlBytes w vb vo lv
  vl : lv.length = 32
  vc1 : 32 ≤ vc
  vc2 : vc ≤ 140737488351232
  vB : vb ≠ B

def SpringOk (w : World) (B : Nat) : Prop := ∃ (kb ko kc : Nat) (lk : List Int) (vb vo vc : Nat) (lv : List Int), SpringAt w B kb ko kc lk vb vo vc lv

def partsF (P : List (Option Addr × Nat × Nat)) : (Nat → Option Addr) × (Nat → Nat) × (Nat → Nat) :=
  (fun i => ((P[i]?).getD (none, 0, 0)).1, fun i => ((P[i]?).getD (none, 0, 0)).2.1, fun i => ((P[i]?).getD (none, 0, 0)).2.2)

/-- the second half of a round: the value anew -/
def VR (w : World) (B : Nat) (w' : World) : Prop := Upd (BSet B) w w' ∧ SpringOk w' B

theorem Part.mk {w : World} {B bb bo c : Nat} {l : List Int} (h : SlBytes w bb bo l) (n : Nat) (hn : l.length = n) (hc : n ≤ c) (hm : c ≤ 140737488351232) (h64 : n ≤ 64) (hB : bb < B) : Part w B (.slice (some ⟨bb, bo, none⟩) n c) n :=
  Or.inr ⟨bb, bo, c, l, by rw [hn], hn.symm, h, by omega, hm, by omega, hB⟩

theorem mid_own (wr W0 : World) (N k : Nat) (v : Value)
    (h : (wr.alloc (.cells #[.int .u8 k] 5)).alloc (.cells #[v, .slice (some ⟨wr.heap.size, 0, none⟩) 1 1] 29) = W0) (hN : wr.heap.size = N) :
    W0.ownsRow N 29 1 (.slice (some ⟨N + 1, 0, none⟩) 2 2) 2 [v, .slice (some ⟨N, 0, none⟩) 1 1] ∧ Below wr.heap.size wr W0 ∧ W0.heap.size = N + 2 ∧ W0.heap[N]? = some (.cells #[.int .u8 k] 5) := by
  subst h
  subst hN
  have e : wr.heap.size + 1 = (wr.alloc (.cells #[.int .u8 k] 5)).heap.size := by simp
  refine ⟨⟨rfl, Or.inr ⟨wr.heap.size + 1, 2, #[v, .slice (some ⟨wr.heap.size, 0, none⟩) 1 1], rfl, by omega, ?_, Nat.le_refl _, by unfold maxLen; omega, rfl, rfl⟩⟩, ((Below.refl _ _).alloc (Nat.le_refl _) _).alloc (by simp) _, by simp, ?_⟩
  · rw [e]
    exact heap_alloc_new _ _
  · rw [Below.heap_alloc _ _ _ (by simp)]
    exact heap_alloc_new _ _

theorem three_src {w : World} {b o : Nat} {x y z : Value} (hx : w.cell? ⟨b, o, none⟩ = some x) (hy : w.cell? ⟨b, o + 1, none⟩ = some y) (hz : w.cell? ⟨b, o + 2, none⟩ = some z) :
    ∀ j u, ([x, y, z] : List Value)[j]? = some u → w.cell? ((⟨b, o, none⟩ : Addr).add j) = some u := by
  intro j u hj
  have ha : (⟨b, o, none⟩ : Addr).add j = ⟨b, o + j, none⟩ := by
    unfold Addr.add
    split <;> simp_all
  rw [ha]
  match j, hj with
  | 0, hj => simp at hj; subst hj; exact hx
  | 1, hj => simp at hj; subst hj; exact hy
  | 2, hj => simp at hj; subst hj; exact hz
  | j + 3, hj => simp at hj

theorem after_append (wr w1 : World) (k vb vo vc eb eo ec : Nat) (lv le : List Int) (v' : Value) (hv : SlBytes wr vb vo lv) (hvl : lv.length = 32) (hvc : 32 ≤ vc) (hvm : vc ≤ 140737488351232)
    (he : SlBytes wr eb eo le) (hel : le.length = 32) (hec : 32 ≤ ec) (hem : ec ≤ 140737488351232)
    (hown : w1.ownsRow wr.heap.size 29 1 v' (2 + 3) ([.slice (some ⟨vb, vo, none⟩) 32 vc, .slice (some ⟨wr.heap.size, 0, none⟩) 1 1] ++ [.slice (some ⟨eb, eo, none⟩) 32 ec, .slice none 0 0, .slice none 0 0]))
    (hgrow : ((wr.alloc (.cells #[.int .u8 k] 5)).alloc (.cells #[.slice (some ⟨vb, vo, none⟩) 32 vc, .slice (some ⟨wr.heap.size, 0, none⟩) 1 1] 29)).grownBy w1 (Value.ownBlock (.slice (some ⟨wr.heap.size + 1, 0, none⟩) 2 2))) :
    ∃ g cap, v' = .slice (some ⟨g, 0, none⟩) 5 cap ∧ 5 ≤ cap ∧ g < w1.heap.size ∧ Below wr.heap.size wr w1 ∧
      PartsAt w1 w1.heap.size g 0 5 (partsF [(some ⟨vb, vo, none⟩, 32, vc), (some ⟨wr.heap.size, 0, none⟩, 1, 1), (some ⟨eb, eo, none⟩, 32, ec), (none, 0, 0), (none, 0, 0)]).1
        (partsF [(some ⟨vb, vo, none⟩, 32, vc), (some ⟨wr.heap.size, 0, none⟩, 1, 1), (some ⟨eb, eo, none⟩, 32, ec), (none, 0, 0), (none, 0, 0)]).2.1
        (partsF [(some ⟨vb, vo, none⟩, 32, vc), (some ⟨wr.heap.size, 0, none⟩, 1, 1), (some ⟨eb, eo, none⟩, 32, ec), (none, 0, 0), (none, 0, 0)]).2.2 := by
  obtain ⟨_, hb0, hs0, hm0⟩ := mid_own wr _ _ k (.slice (some ⟨vb, vo, none⟩) 32 vc) rfl rfl
  obtain ⟨_, hh | ⟨g, cap, cur, rfl, hbg, hrow, hle, hmax, hsz, htk⟩⟩ := hown
  · exact absurd hh.2 (by omega)
  have hb1 : Below wr.heap.size wr w1 := hb0.grown hgrow hb0.size (fun k h => by simp [Value.ownBlock] at h; omega)
  have hN : w1.heap[wr.heap.size]? = some (.cells #[.int .u8 k] 5) := by
    rw [hgrow.block _ (by omega) (by simp [Value.ownBlock])]
    exact hm0
  have hz1 : wr.heap.size < w1.heap.size := heap_lt hN
  have mark : SlBytes w1 wr.heap.size 0 [(k : Int)] := ⟨hz1, fun i hi => by
    have : i = 0 := by simp at hi; omega
    subst this
    rw [cell_of hN]
    rfl⟩
  have hci : ∀ i, i < 5 → cur[i]? = ([.slice (some ⟨vb, vo, none⟩) 32 vc, .slice (some ⟨wr.heap.size, 0, none⟩) 1 1, .slice (some ⟨eb, eo, none⟩) 32 ec, .slice none 0 0, .slice none 0 0] : List Value)[i]? := by
    intro i hi
    have : (cur.toList.take ((2 + 3) * 1))[i]? = cur[i]? := by rw [List.getElem?_take_of_lt (by omega)]; simp
    rw [← this, htk]
    rfl
  refine ⟨g, cap, rfl, hle, heap_lt hrow, hb1, fun i hi => ?_⟩
  rw [Nat.zero_add, cell_of hrow, hci i hi]
  have hi' : i = 0 ∨ i = 1 ∨ i = 2 ∨ i = 3 ∨ i = 4 := by omega
  rcases hi' with rfl | rfl | rfl | rfl | rfl
  · exact ⟨rfl, Part.mk (hv.below hb1 hv.lt) 32 hvl hvc hvm (by omega) (Nat.lt_of_lt_of_le hv.lt hb1.size)⟩
  · exact ⟨rfl, Part.mk mark 1 rfl (Nat.le_refl 1) (by show (1 : Nat) ≤ _; omega) (by omega) hz1⟩
  · exact ⟨rfl, Part.mk (he.below hb1 he.lt) 32 hel hec hem (by omega) (Nat.lt_of_lt_of_le he.lt hb1.size)⟩
  · exact ⟨rfl, Or.inl ⟨rfl, rfl⟩⟩
  · exact ⟨rfl, Or.inl ⟨rfl, rfl⟩⟩

theorem one_part (w : World) (vb vo vc : Nat) (lv : List Int) (hv : SlBytes w vb vo lv) (hvl : lv.length = 32) (hvc : 32 ≤ vc) (hvm : vc ≤ 140737488351232) :
    PartsAt (w.alloc (.cells #[.slice (some ⟨vb, vo, none⟩) 32 vc] 29)) (w.alloc (.cells #[.slice (some ⟨vb, vo, none⟩) 32 vc] 29)).heap.size w.heap.size 0 1 (partsF [(some ⟨vb, vo, none⟩, 32, vc)]).1
      (partsF [(some ⟨vb, vo, none⟩, 32, vc)]).2.1 (partsF [(some ⟨vb, vo, none⟩, 32, vc)]).2.2 := by
  have hb := (Below.refl w.heap.size w).alloc (Nat.le_refl _) (.cells #[.slice (some ⟨vb, vo, none⟩) 32 vc] 29)
  intro i hi
  obtain rfl : i = 0 := by omega
  refine ⟨?_, Part.mk (hv.below hb hv.lt) 32 hvl hvc hvm (by omega) (Nat.lt_of_lt_of_le hv.lt hb.size)⟩
  rw [cell_of (heap_alloc_new _ _)]
  rfl

set_option maxRecDepth 100000 in
set_option maxHeartbeats 4000000 in
theorem update_any (cub sq : Nat → Int) (B pb po cp eb eo ec : Nat) (le : List Int) (w : World) (G : Glob cub sq w) (hs : SpringOk w B) (hB : 3 ≤ B)
    (hp0 : w.cell? ⟨pb, po, none⟩ = some (.slice (some ⟨eb, eo, none⟩) 32 ec)) (hp1 : w.cell? ⟨pb, po + 1, none⟩ = some (.slice none 0 0)) (hp2 : w.cell? ⟨pb, po + 2, none⟩ = some (.slice none 0 0))
    (he : SlBytes w eb eo le) (hel : le.length = 32) (hec : 32 ≤ ec) (hecm : ec ≤ 140737488351232) (heB : eb ≠ B) (hpB : pb ≠ B) (_hcp : 3 ≤ cp) :
    Calls Tryz.prog 32 #[.pointer (some ⟨B, 0, none⟩), .slice (some ⟨pb, po, none⟩) 3 cp] w fun e w' => e = .returned (.tuple #[]) ∧ VR w B w' := by
  have i27 : (Tryz.prog.info? 29).map (fun i => (i.zero, i.size, i.bytes)) = some (some (.slice none 0 0), 1, 24) := by kernel_rfl
  obtain ⟨i0, hi, hz0, hz1, hz2⟩ := info_parts i27
  have HG := Lib.hid G
  have HS := Lib.hid hs
  have HP0 := Lib.hid hp0
  have HP1 := Lib.hid hp1
  have HP2 := Lib.hid hp2
  have HE := Lib.hid (show SlBytes w eb eo le ∧ le.length = 32 ∧ 32 ≤ ec ∧ ec ≤ 140737488351232 ∧ eb ≠ B ∧ pb ≠ B ∧ 3 ≤ B from ⟨he, hel, hec, hecm, heB, hpB, hB⟩)
  have HCF := Lib.hid (containsfunc_0 pb po 3 cp (some ⟨eb, eo, none⟩) 32 ec w hp0 (by omega) (by omega))
  have h0 : Hid (Upd (BSet B) w w) := Lib.hid (Upd.refl _ _)
  clear G hs hB hp0 hp1 hp2 he hel hec hecm heB hpB
  go_enter Tryz.func32, Tryz.ntmps32
  go_wp2_with (go_at_call 95; refine HCF.out.mono ?_; rintro e w' ⟨rfl, rfl⟩)
  go_loopw [8] (fun v wr => ∃ k : Nat, k ≤ 2 ∧ v = .int .u8 k ∧ Hid (Upd (BSet B) w wr) ∧ Hid (SpringOk wr B)) (fun v _ => 2 - (intOf v).toNat)
  case atStart => exact ⟨0, by omega, rfl, h0, HS⟩
  case round =>
    obtain ⟨k, hk, rfl, hu, hsp⟩ := hrel
    clear HS h0 HCF
    by_cases hlt : k < 2
    · have hd : decide ((k : Int) < 2) = true := by simp; omega
      obtain ⟨kb, ko, kc, lk, vb, vo, vc, lv, sa⟩ := hsp.out
      have SA := Lib.hid sa
      have c4 : wr.cell? ⟨B, 4, none⟩ = some (.slice (some ⟨vb, vo, none⟩) 32 vc) := by rw [cell_of sa.row]; rfl
      have c3 : wr.cell? ⟨B, 3, none⟩ = some (.slice (some ⟨kb, ko, none⟩) 32 kc) := by rw [cell_of sa.row]; rfl
      have f4 : wr.frozen? ⟨B, 4, none⟩ = false := frozen_of sa.row _
      have f3 : wr.frozen? ⟨B, 3, none⟩ = false := frozen_of sa.row _
      clear sa hsp
      have hown := mid_own wr _ _ k (.slice (some ⟨vb, vo, none⟩) 32 vc) rfl rfl
      have hnews : Hid (∀ j u, ([.slice (some ⟨eb, eo, none⟩) 32 ec, .slice none 0 0, .slice none 0 0] : List Value)[j]? = some u → ((wr.alloc (.cells #[.int .u8 k] 5)).alloc (.cells #[.slice (some ⟨vb, vo, none⟩) 32 vc, .slice (some ⟨wr.heap.size, 0, none⟩) 1 1] 29)).cell? ((⟨pb, po, none⟩ : Addr).add j) = some u) := Lib.hid (by
        have hb := hown.2.1
        have hpl : pb < wr.heap.size := Nat.lt_of_lt_of_le (World.block_lt_of_cell? w _ HP0.out) hu.out.size
        have hpn : ∀ i, ¬ BSet B pb i := fun i h => HE.out.2.2.2.2.2.1 h
        exact three_src ((hb.cell (p := ⟨pb, po, none⟩) hpl).trans (hu.out.cell HP0.out (hpn _))) ((hb.cell (p := ⟨pb, po + 1, none⟩) hpl).trans (hu.out.cell HP1.out (hpn _))) ((hb.cell (p := ⟨pb, po + 2, none⟩) hpl).trans (hu.out.cell HP2.out (hpn _))))
      have hez : Hid (SlBytes wr eb eo le) := Lib.hid (HE.out.1.upd hu.out (fun i h => HE.out.2.2.2.2.1 h))
      have HGr : Hid (Glob cub sq wr) := Lib.hid (HG.out.upd hu.out (fun b o h => by have : b = B := h; have := HE.out.2.2.2.2.2.2; omega))
      have Hown := Lib.hid hown
      have hone : ∀ u ∈ ([.slice (some ⟨eb, eo, none⟩) 32 ec, .slice none 0 0, .slice none 0 0] : List Value), u.oneCell' = true := by
        intro u hu
        simp only [List.mem_cons, List.not_mem_nil, or_false] at hu
        rcases hu with rfl | rfl | rfl <;> rfl
      have Hone := Lib.hid hone
      clear hown hone
      have hkk : (((k : Int) == 1) = true) ∨ (((k : Int) == 1) = false) := by cases h : ((k : Int) == 1) <;> simp
      rcases hkk with hq | hq
      all_goals
        go_wp2_with (refine wpList_append_own _ rfl (.tmp 25) (.tmp 26) 103 rfl wr.heap.size 29 i0 (.slice none 0 0) 1 24 Tryz.underlying103 hi hz0 hz1 hz2 rfl (by decide) (.slice (some ⟨wr.heap.size + 1, 0, none⟩) 2 2) 2 [.slice (some ⟨vb, vo, none⟩) 32 vc, .slice (some ⟨wr.heap.size, 0, none⟩) 1 1] rfl Hown.out.1 ⟨pb, po, none⟩ 3 cp [.slice (some ⟨eb, eo, none⟩) 32 ec, .slice none 0 0, .slice none 0 0] rfl rfl hnews.out Hone.out (by unfold maxLen; omega) (by omega) Hown.out.2.1.size ?_; intro v' w1 hown' hgrow _)
        obtain ⟨g, cap, rfl, hcap, hgl, hb1, hpa⟩ := after_append wr w1 k vb vo vc eb eo ec lv le v' SA.out.v SA.out.vl SA.out.vc1 SA.out.vc2 hez.out HE.out.2.1 HE.out.2.2.1 HE.out.2.2.2.1 hown' hgrow
        have hBl : B < wr.heap.size := heap_lt SA.out.row
        have hBl1 : B < w1.heap.size := Nat.lt_of_lt_of_le hBl hb1.size
        have row1 : w1.heap[B]? = _ := (hb1.block B hBl).trans SA.out.row
        have SC := Lib.hid (springcode cub sq B kb ko kc lk g 0 5 cap _ _ _ w1 (HGr.out.below hb1 HGr.out.hz) (by rw [cell_of row1]; rfl) (by rw [cell_of row1]; rfl) (SA.out.k.below hb1 SA.out.k.lt) SA.out.kl SA.out.kc1 SA.out.kc2 hpa hgl (by omega) hcap (by show (65 : Nat) ≤ _; omega) (by show (0 : Nat) < (64 + 65) % 64; omega) (by show (64 + 65) % 64 ≤ (55 : Nat); omega))
        have HR1 := Lib.hid (show w1.heap[B]? = some (.cells #[.int .i64 256, .int .i64 9, .int .i64 0, .slice (some ⟨kb, ko, none⟩) 32 kc, .slice (some ⟨vb, vo, none⟩) 32 vc] 86) ∧ Below wr.heap.size wr w1 ∧ B < w1.heap.size from ⟨row1, hb1, hBl1⟩)
        clear hown' hgrow hcap hgl hb1 hpa c3 c4 f3 f4 row1 hBl hBl1 Hown hnews Hone
        refine SC.out.mono ?_
        rintro e w2 ⟨g1, l1, rfl, q1, q2, q3, q4⟩
        dsimp only
        have HR2 : Hid (w2.heap[B]? = some (.cells #[.int .i64 256, .int .i64 9, .int .i64 0, .slice (some ⟨kb, ko, none⟩) 32 kc, .slice (some ⟨vb, vo, none⟩) 32 vc] 86)) := Lib.hid ((q4.block B HR1.out.2.2).trans HR1.out.1)
        have HB2 : Hid (Below wr.heap.size wr w2) := Lib.hid (HR1.out.2.1.trans (q4.mono HR1.out.2.1.size))
        have HQ := Lib.hid (show w1.heap.size ≤ g1 ∧ l1.length = 32 ∧ SlBytes w2 g1 0 l1 ∧ B < w1.heap.size from ⟨q1, q2, q3, HR1.out.2.2⟩)
        have c3 : w2.cell? ⟨B, 3, none⟩ = some (.slice (some ⟨kb, ko, none⟩) 32 kc) := by rw [cell_of HR2.out]; rfl
        have f3 : w2.frozen? ⟨B, 3, none⟩ = false := frozen_of HR2.out _
        clear SC q1 q2 q3 q4 HR1
        go_upto_region 6 with (fail)
        have SA3 : Hid (SpringAt (w2.setCell ⟨B, 3, none⟩ (.slice (some ⟨g1, 0, none⟩) 32 32)) B g1 0 32 l1 vb vo vc lv) := Lib.hid (by
          have hu : Upd (BSet B) w2 (w2.setCell ⟨B, 3, none⟩ (.slice (some ⟨g1, 0, none⟩) 32 32)) := Upd.setCell (Upd.refl (BSet B) _) (Or.inl rfl) _
          have hg1 : g1 ≠ B := by have := HQ.out.1; have := HQ.out.2.2.2; omega
          exact ⟨heap_setCell HR2.out _, HQ.out.2.2.1.upd hu (fun i h => hg1 h), HQ.out.2.1, Nat.le_refl _, by omega, hg1, (SA.out.v.below HB2.out SA.out.v.lt).upd hu (fun i h => SA.out.vB h), SA.out.vl, SA.out.vc1, SA.out.vc2, SA.out.vB⟩)
        have hu3 : Hid (Upd (BSet B) w (w2.setCell ⟨B, 3, none⟩ (.slice (some ⟨g1, 0, none⟩) 32 32))) := Lib.hid ((hu.out.trans (Upd.of_below HB2.out)).setCell (Or.inl rfl) _)
        clear c3 f3 HR2 HB2 HQ
        obtain ⟨w3, Hw3⟩ : ∃ w3, Hid (w2.setCell ⟨B, 3, none⟩ (.slice (some ⟨g1, 0, none⟩) 32 32) = w3) := ⟨_, Lib.hid rfl⟩
        rw [Hw3.out] at SA3 hu3 ⊢
        clear Hw3
        have c4 : w3.cell? ⟨B, 4, none⟩ = some (.slice (some ⟨vb, vo, none⟩) 32 vc) := by rw [cell_of SA3.out.row]; rfl
        have hBl : B < w3.heap.size := heap_lt SA3.out.row
        have hb4 := (Below.refl w3.heap.size w3).alloc (Nat.le_refl _) (.cells #[.slice (some ⟨vb, vo, none⟩) 32 vc] 29)
        have HG3 : Glob cub sq w3 := HG.out.upd hu3.out (fun b o h => by have : b = B := h; have := HE.out.2.2.2.2.2.2; omega)
        have row4 := (hb4.block B hBl).trans SA3.out.row
        have SC := Lib.hid (springcode cub sq B g1 0 32 l1 w3.heap.size 0 1 1 _ _ _ (w3.alloc (.cells #[.slice (some ⟨vb, vo, none⟩) 32 vc] 29)) (HG3.below hb4 HG3.hz) (by rw [cell_of row4]; rfl) (by rw [cell_of row4]; rfl) (SA3.out.k.below hb4 SA3.out.k.lt) SA3.out.kl SA3.out.kc1 SA3.out.kc2 (one_part w3 vb vo vc lv SA3.out.v SA3.out.vl SA3.out.vc1 SA3.out.vc2) (by simp) (by omega) (Nat.le_refl _) (by show (32 : Nat) ≤ _; omega) (by show (0 : Nat) < (64 + 32) % 64; omega) (by show (64 + 32) % 64 ≤ (55 : Nat); omega))
        have HR4 := Lib.hid row4
        have HB4 := Lib.hid hb4
        have HBl := Lib.hid hBl
        clear hb4 HG3 row4 hBl
        go_wp2_with fail
        refine SC.out.mono ?_
        rintro e w5 ⟨g2, l2, rfl, q1, q2, q3, q4⟩
        dsimp only
        have hlt5 : B < (w3.alloc (.cells #[.slice (some ⟨vb, vo, none⟩) 32 vc] 29)).heap.size := Nat.lt_of_lt_of_le HBl.out HB4.out.size
        have HR5 : Hid (w5.heap[B]? = some (.cells #[.int .i64 256, .int .i64 9, .int .i64 0, .slice (some ⟨g1, 0, none⟩) 32 32, .slice (some ⟨vb, vo, none⟩) 32 vc] 86)) := Lib.hid ((q4.block B hlt5).trans HR4.out)
        have HB5 : Hid (Below w3.heap.size w3 w5) := Lib.hid (HB4.out.trans (q4.mono HB4.out.size))
        have HQ := Lib.hid (show l2.length = 32 ∧ SlBytes w5 g2 0 l2 ∧ B < g2 from ⟨q2, q3, Nat.lt_of_lt_of_le hlt5 q1⟩)
        have c4' : w5.cell? ⟨B, 4, none⟩ = some (.slice (some ⟨vb, vo, none⟩) 32 vc) := by rw [cell_of HR5.out]; rfl
        have f4 : w5.frozen? ⟨B, 4, none⟩ = false := frozen_of HR5.out _
        clear SC q1 q2 q3 q4 hlt5 c4 HR4 HB4
        go_wp2
        go_roundw
        case measure => simp [intOf]; omega
        case rel =>
        refine ⟨k + 1, by omega, by go_num, Lib.hid ((hu3.out.trans (Upd.of_below HB5.out)).setCell (Or.inl rfl) _), Lib.hid ⟨g1, 0, 32, l1, g2, 0, 32, l2, ?_⟩⟩
        have hu : Upd (BSet B) w5 (w5.setCell ⟨B, 4, none⟩ (.slice (some ⟨g2, 0, none⟩) 32 32)) := Upd.setCell (Upd.refl (BSet B) _) (Or.inl rfl) _
        have hg2 : g2 ≠ B := by have := HQ.out.2.2; omega
        exact ⟨heap_setCell HR5.out _, (SA3.out.k.below HB5.out SA3.out.k.lt).upd hu (fun i h => SA3.out.kB h), SA3.out.kl, Nat.le_refl _, by omega, SA3.out.kB, HQ.out.2.1.upd hu (fun i h => hg2 h), HQ.out.1, Nat.le_refl _, by omega, hg2⟩
    · obtain rfl : k = 2 := by omega
      have hd : decide (((2 : Nat) : Int) < 2) = false := by decide
      clear hk hlt
      go_wp2
      go_end0
      exact ⟨rfl, hu.out, hsp.out⟩
end Go.Proofs.YteohaebhnenabaaGreatDoor
