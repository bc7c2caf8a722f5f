/- Frames: what a call may have written. No program in sight. -/
import Derived.WalkKit
import Derived.Deep.QuietTactic
namespace Go.Proofs.YteohaebhnenabaaGreatDoor
open Go.RowKit

/-- Only cells (k, o) with S k o of the blocks that were there may have changed; new blocks may have come. -/
structure Upd (S : Nat → Nat → Prop) (w w' : World) : Prop where
  os : w'.os = w.os
  tape : w'.tape = w.tape
  output : w'.output = w.output
  size : w.heap.size ≤ w'.heap.size
  block : ∀ k, k < w.heap.size → (∀ o, ¬ S k o) → w'.heap[k]? = w.heap[k]?
  cells : ∀ k c t fz, w.heap[k]? = some (.cells c t fz) → ∃ c', w'.heap[k]? = some (.cells c' t fz) ∧ c'.size = c.size ∧ ∀ i, ¬ S k i → c'[i]? = c[i]?

theorem Upd.refl (S : Nat → Nat → Prop) (w : World) : Upd S w w :=
  ⟨rfl, rfl, rfl, Nat.le_refl _, fun _ _ _ => rfl, fun _ c _ _ h => ⟨c, h, rfl, fun _ _ => rfl⟩⟩

theorem heap_lt {w : World} {k : Nat} {o : Obj} (h : w.heap[k]? = some o) : k < w.heap.size := by
  obtain ⟨hk, _⟩ := Array.getElem?_eq_some_iff.1 h
  exact hk

theorem Upd.trans {S : Nat → Nat → Prop} {a b c : World} (h : Upd S a b) (g : Upd S b c) : Upd S a c :=
  ⟨g.os.trans h.os, g.tape.trans h.tape, g.output.trans h.output, Nat.le_trans h.size g.size,
   fun k hk hS => (g.block k (Nat.lt_of_lt_of_le hk h.size) hS).trans (h.block k hk hS),
   fun k c t fz hc => by
     obtain ⟨c1, h1, h2, h3⟩ := h.cells k c t fz hc
     obtain ⟨c2, g1, g2, g3⟩ := g.cells k c1 t fz h1
     exact ⟨c2, g1, g2.trans h2, fun i hi => (g3 i hi).trans (h3 i hi)⟩⟩

theorem Upd.mono {S T : Nat → Nat → Prop} {w w' : World} (h : Upd S w w') (hST : ∀ k o, k < w.heap.size → S k o → T k o) : Upd T w w' :=
  ⟨h.os, h.tape, h.output, h.size, fun k hk hT => h.block k hk (fun o ho => hT o (hST k o hk ho)),
   fun k c t fz hc => by
     obtain ⟨c1, h1, h2, h3⟩ := h.cells k c t fz hc
     exact ⟨c1, h1, h2, fun i hi => h3 i (fun hs => hi (hST k i (heap_lt hc) hs))⟩⟩

theorem Upd.of_below {S : Nat → Nat → Prop} {w w' : World} (h : Below w.heap.size w w') : Upd S w w' :=
  ⟨h.os, h.tape, h.output, h.size, fun k hk _ => h.block k hk, fun k c t fz hc => ⟨c, by rw [h.block k (heap_lt hc)]; exact hc, rfl, fun _ _ => rfl⟩⟩

/-- Where nothing that was there may be written. -/
theorem Upd.below {S : Nat → Nat → Prop} {w w' : World} (h : Upd S w w') (hS : ∀ k o, k < w.heap.size → ¬ S k o) : Below w.heap.size w w' :=
  ⟨h.os, h.tape, h.output, h.size, fun k hk => h.block k hk (fun o => hS k o hk)⟩

theorem Upd.drew {S : Nat → Nat → Prop} {a w : World} (h : Upd S a w) : Upd S a w.drew := ⟨h.os, h.tape, h.output, h.size, h.block, h.cells⟩

theorem Upd.drewN {S : Nat → Nat → Prop} {a w : World} (h : Upd S a w) (n : Nat) : Upd S a (w.drewN n) := ⟨h.os, h.tape, h.output, h.size, h.block, h.cells⟩

theorem Upd.alloc {S : Nat → Nat → Prop} {a w : World} (h : Upd S a w) (o : Obj) : Upd S a (w.alloc o) :=
  h.trans (Upd.of_below ((Below.refl _ _).alloc (Nat.le_refl _) o))

theorem heap_setCell {w : World} {b i : Nat} {c : Array Value} {t : TypeId} {fz : Nat × Nat} (h : w.heap[b]? = some (.cells c t fz)) (v : Value) :
    (w.setCell ⟨b, i, none⟩ v).heap[b]? = some (.cells (c.setIfInBounds i v) t fz) := by
  simp [World.setCell, Array.getElem?_modify, h]

theorem heap_setCell_ne {w : World} {b k : Nat} {i : Nat} (h : k ≠ b) (v : Value) : (w.setCell ⟨b, i, none⟩ v).heap[k]? = w.heap[k]? :=
  Below.heap_setCell _ _ _ _ h

theorem size_setCell (w : World) (a : Addr) (v : Value) : (w.setCell a v).heap.size = w.heap.size := by simp [World.setCell]

/-- A store. -/
theorem Upd.setCell {S : Nat → Nat → Prop} {a w : World} (h : Upd S a w) {b i : Nat} (hb : S b i ∨ a.heap.size ≤ b) (v : Value) : Upd S a (w.setCell ⟨b, i, none⟩ v) := by
  refine ⟨h.os, h.tape, h.output, by rw [size_setCell]; exact h.size, fun k hk hS => ?_, fun k c t fz hc => ?_⟩
  · by_cases e : k = b
    · subst e
      rcases hb with hb | hb
      · exact absurd hb (hS i)
      · omega
    · rw [heap_setCell_ne e]; exact h.block k hk hS
  · obtain ⟨c1, h1, h2, h3⟩ := h.cells k c t fz hc
    by_cases e : k = b
    · subst e
      refine ⟨c1.setIfInBounds i v, heap_setCell h1 v, by simp [h2], fun j hj => ?_⟩
      rcases hb with hb | hb
      · rw [Array.getElem?_setIfInBounds]
        by_cases e : i = j
        · subst e; exact absurd hb hj
        · rw [if_neg e]; exact h3 j hj
      · have := heap_lt hc; omega
    · exact ⟨c1, by rw [heap_setCell_ne e]; exact h1, h2, h3⟩

theorem cell_of {w : World} {b : Nat} {c : Array Value} {t : TypeId} {fz : Nat × Nat} (h : w.heap[b]? = some (.cells c t fz)) (i : Nat) : w.cell? ⟨b, i, none⟩ = c[i]? := by
  simp [World.cell?, h]

theorem frozen_of {w : World} {b : Nat} {c : Array Value} {t : TypeId} (h : w.heap[b]? = some (.cells c t (0, 0))) (i : Nat) : w.frozen? ⟨b, i, none⟩ = false := by
  simp [World.frozen?, h]

theorem cell_some {w : World} {b i : Nat} {v : Value} (h : w.cell? ⟨b, i, none⟩ = some v) : ∃ c t fz, w.heap[b]? = some (.cells c t fz) ∧ c[i]? = some v := by
  unfold World.cell? at h
  split at h
  · rename_i c t fz hh
    simp only [Option.isSome_none, Bool.false_eq_true, if_false] at h
    exact ⟨c, t, fz, hh, h⟩
  · cases h

/-- A cell that may not have been written reads as it did. -/
theorem Upd.cell {S : Nat → Nat → Prop} {w w' : World} (h : Upd S w w') {b i : Nat} {v : Value} (hv : w.cell? ⟨b, i, none⟩ = some v) (hS : ¬ S b i) : w'.cell? ⟨b, i, none⟩ = some v := by
  obtain ⟨c, t, fz, h1, h2⟩ := cell_some hv
  obtain ⟨c', g1, _, g3⟩ := h.cells b c t fz h1
  rw [cell_of g1, g3 i hS, h2]

theorem Upd.frozen {S : Nat → Nat → Prop} {w w' : World} (h : Upd S w w') {b i : Nat} {c : Array Value} {t : TypeId} {fz : Nat × Nat} (hv : w.heap[b]? = some (.cells c t fz)) : w'.frozen? ⟨b, i, none⟩ = w.frozen? ⟨b, i, none⟩ := by
  obtain ⟨c', g1, _, _⟩ := h.cells b c t fz hv
  simp [World.frozen?, hv, g1]

/-- Behind it a stretch that leaves all old blocks alone. -/
theorem Upd.then_below {S : Nat → Nat → Prop} {a b c : World} (h : Upd S a b) (g : Below a.heap.size b c) : Upd S a c :=
  ⟨g.os.trans h.os, g.tape.trans h.tape, g.output.trans h.output, Nat.le_trans h.size g.size,
   fun k hk hS => (g.block k hk).trans (h.block k hk hS),
   fun k c t fz hc => by
     obtain ⟨c1, h1, h2, h3⟩ := h.cells k c t fz hc
     exact ⟨c1, by rw [g.block k (heap_lt hc)]; exact h1, h2, h3⟩⟩

theorem cell_setCell_at {w : World} {b i : Nat} {old : Value} (h : w.cell? ⟨b, i, none⟩ = some old) (v : Value) (j : Nat) :
    (w.setCell ⟨b, i, none⟩ v).cell? ⟨b, j, none⟩ = if i = j then some v else w.cell? ⟨b, j, none⟩ := by
  obtain ⟨c, t, fz, h1, h2⟩ := cell_some h
  rw [cell_of (heap_setCell h1 v), cell_of h1, Array.getElem?_setIfInBounds]
  obtain ⟨hi, _⟩ := Array.getElem?_eq_some_iff.1 h2
  by_cases e : i = j
  · subst e; simp [hi]
  · simp [e]

theorem drewN_cell {w : World} {a : Addr} (n : Nat) : (w.drewN n).cell? a = w.cell? a := rfl

end Go.Proofs.YteohaebhnenabaaGreatDoor
