/- The digest's state in memory, and what 'take' does to it: plain. -/
import Derived.Test.YteohaebhnenabaaGreatDoorProg
import Derived.Test.YteohaebhnenabaaGreatDoorFrame
import Derived.Test.YteohaebhnenabaaGreatDoorDgS
import Derived.Laws.CopyOwn
namespace Go.Proofs.YteohaebhnenabaaGreatDoor
open Go.RowKit

structure St where
  count : Nat
  ws : Nat → Int
  half : List Int

def stHead : List Value := [.int .i64 32, .int .i64 64, .int .i64 4, .func (.func 102) #[] #[], .int .i64 256]

def stCells (s : St) : List Value := stHead ++ ([.int .u64 s.count] ++ ((List.range 8).map (fun i => Value.int .u64 (s.ws i)) ++ s.half.map (Value.int .u8)))

theorem stCells_length (s : St) (h : s.half.length = 128) : (stCells s).length = 142 := by simp [stCells, stHead, h]

/-- the block B holds a state at off -/
structure AtSt (w : World) (B : Nat) (T : TypeId) (pre post : List Value) (s : St) : Prop where
  row : w.heap[B]? = some (.cells (pre ++ (stCells s ++ post)).toArray T)
  half : s.half.length = 128

theorem AtSt.cell {w : World} {B T : Nat} {pre post : List Value} {s : St} (h : AtSt w B T pre post s) (i : Nat) {v : Value} (hv : (stCells s)[i]? = some v) :
    w.cell? ⟨B, pre.length + i, none⟩ = some v := by
  rw [cell_of h.row]
  have hi : i < (stCells s).length := by
    obtain ⟨hi, _⟩ := List.getElem?_eq_some_iff.1 hv
    exact hi
  simp only [List.getElem?_toArray]
  rw [List.getElem?_append_right (by omega), show pre.length + i - pre.length = i by omega, List.getElem?_append_left hi, hv]

theorem AtSt.frozen {w : World} {B T : Nat} {pre post : List Value} {s : St} (h : AtSt w B T pre post s) (i : Nat) : w.frozen? ⟨B, i, none⟩ = false := frozen_of h.row i

theorem st_word (s : St) (i : Nat) (hi : i < 8) : (stCells s)[6 + i]? = some (.int .u64 (s.ws i)) := by
  have : i = 0 ∨ i = 1 ∨ i = 2 ∨ i = 3 ∨ i = 4 ∨ i = 5 ∨ i = 6 ∨ i = 7 := by omega
  rcases this with rfl | rfl | rfl | rfl | rfl | rfl | rfl | rfl <;> rfl

theorem st_half (s : St) (i : Nat) (hi : i < s.half.length) : (stCells s)[14 + i]? = some (.int .u8 (s.half[i]?.getD 0)) := by
  have e : stCells s = (stHead ++ ([.int .u64 s.count] ++ (List.range 8).map (fun i => Value.int .u64 (s.ws i)))) ++ s.half.map (Value.int .u8) := by simp [stCells]
  rw [e, List.getElem?_append_right (by simp [stHead])]
  simp [stHead, hi]

/-- bytes as a slice -/
structure SlBytes (w : World) (b o : Nat) (l : List Int) : Prop where
  lt : b < w.heap.size
  cell : ∀ i, i < l.length → w.cell? ⟨b, o + i, none⟩ = some (.int .u8 (l[i]?.getD 0))

/-- whole blocks, and what is left, from a place on -/
def restF (cub : Nat → Int) (s : St) (l : List Int) : St :=
  ⟨s.count, (blocks32 cub (fun i => l[i]?.getD 0) s.ws (l.length / 64)).1, splice s.half 0 (l.drop (64 * (l.length / 64)))⟩

/-- how many bytes fill the half block up -/
def fillN (s : St) (l : List Int) : Nat := min l.length (64 - s.count % 64)

def fillH (s : St) (l : List Int) : List Int := splice s.half (s.count % 64) (l.take (fillN s l))

def takeF (cub : Nat → Int) (s : St) (l : List Int) : St :=
  if 0 < s.count % 64 then
    if s.count % 64 + fillN s l < 64 then ⟨s.count + l.length, s.ws, fillH s l⟩
    else restF cub ⟨s.count + l.length, (blocks32 cub (fun i => (fillH s l)[i]?.getD 0) s.ws 1).1, fillH s l⟩ (l.drop (fillN s l))
  else restF cub ⟨s.count + l.length, s.ws, s.half⟩ l

theorem arr_splice {L M M' R : List Value} {c' : Array Value} (hlen : M'.length = M.length) (hs : c'.size = (L ++ (M ++ R)).length)
    (hout : ∀ i, (i < L.length ∨ L.length + M.length ≤ i) → c'[i]? = (L ++ (M ++ R))[i]?) (hin : ∀ i, i < M.length → c'[L.length + i]? = M'[i]?) : c' = (L ++ (M' ++ R)).toArray := by
  apply Array.ext_getElem?
  intro i
  simp only [List.getElem?_toArray]
  by_cases h1 : i < L.length
  · rw [hout i (Or.inl h1), List.getElem?_append_left h1, List.getElem?_append_left h1]
  · by_cases h2 : L.length + M.length ≤ i
    · rw [hout i (Or.inr h2), List.getElem?_append_right (by omega), List.getElem?_append_right (by omega), List.getElem?_append_right (by omega), List.getElem?_append_right (by omega), hlen]
    · have e : i = L.length + (i - L.length) := by omega
      rw [List.getElem?_append_right (by omega), List.getElem?_append_left (by omega)]
      have := hin (i - L.length) (by omega)
      rwa [← e] at this

/-- the eight words have been written -/
theorem AtSt.words {w w' : World} {B T : Nat} {pre post : List Value} {s : St} {ws : Nat → Int} (h : AtSt w B T pre post s)
    (hu : Upd (fun b o => b = B ∧ pre.length + 6 ≤ o ∧ o < pre.length + 6 + 8) w w') (hw : ∀ i, i < 8 → w'.cell? ⟨B, pre.length + 6 + i, none⟩ = some (.int .u64 (ws i))) :
    AtSt w' B T pre post { s with ws := ws } := by
  obtain ⟨c', h1, h2, h3⟩ := hu.cells _ _ _ _ h.row
  refine ⟨?_, h.half⟩
  have e : ∀ v : Nat → Int, pre ++ (stCells { s with ws := v } ++ post) = (pre ++ (stHead ++ [.int .u64 s.count])) ++ ((List.range 8).map (fun i => Value.int .u64 (v i)) ++ (s.half.map (Value.int .u8) ++ post)) := fun v => by
    simp [stCells]
  have e0 : pre ++ (stCells s ++ post) = _ := e s.ws
  have hl : (pre ++ (stHead ++ [Value.int .u64 s.count])).length = pre.length + 6 := by simp [stHead]
  rw [h1, e ws]
  refine congrArg (fun c => some (Obj.cells c T)) (arr_splice (M := (List.range 8).map (fun i => Value.int .u64 (s.ws i))) (by simp) ?_ ?_ ?_)
  · rw [h2, e0]; simp
  · intro i hi
    rw [hl] at hi
    simp only [List.length_map, List.length_range] at hi
    rw [h3 i (fun hh => by omega), e0]
    simp
  · intro i hi
    simp only [List.length_map, List.length_range] at hi
    rw [hl, ← cell_of h1, hw i hi]
    simp [hi]

theorem splice_app {α : Type} (A M R cs : List α) (k : Nat) (h : k + cs.length ≤ M.length) : splice (A ++ (M ++ R)) (A.length + k) cs = A ++ (splice M k cs ++ R) := by
  unfold splice
  rw [List.take_append, List.take_of_length_le (by omega), show A.length + k - A.length = k by omega, List.take_append, show k - M.length = 0 by omega, List.take_zero, List.append_nil]
  rw [List.drop_append, List.drop_of_length_le (show A.length ≤ A.length + k + cs.length by omega), List.nil_append, show A.length + k + cs.length - A.length = k + cs.length by omega, List.drop_append,
    show k + cs.length - M.length = 0 by omega, List.drop_zero]
  simp

theorem splice_map {α β : Type} (f : α → β) (M cs : List α) (k : Nat) : splice (M.map f) k (cs.map f) = (splice M k cs).map f := by
  simp [splice, List.map_take, List.map_drop]

theorem st_half_split (pre post : List Value) (s : St) (hf : List Int) :
    pre ++ (stCells { s with half := hf } ++ post) = (pre ++ (stHead ++ ([.int .u64 s.count] ++ (List.range 8).map (fun i => Value.int .u64 (s.ws i))))) ++ (hf.map (Value.int .u8) ++ post) := by
  simp [stCells]

theorem st_splice (pre post : List Value) (s : St) (k : Nat) (cs : List Int) (h : k + cs.length ≤ s.half.length) :
    splice (pre ++ (stCells s ++ post)) (pre.length + 14 + k) (cs.map (Value.int .u8)) = pre ++ (stCells { s with half := splice s.half k cs } ++ post) := by
  have e0 : pre ++ (stCells s ++ post) = _ := st_half_split pre post s s.half
  rw [e0, st_half_split, ← splice_map]
  have hl : (pre ++ (stHead ++ ([Value.int .u64 s.count] ++ (List.range 8).map (fun i => Value.int .u64 (s.ws i))))).length = pre.length + 14 := by simp [stHead]
  rw [← hl]
  exact splice_app _ _ _ _ _ (by simpa using h)

theorem splice_length {α : Type} (L cs : List α) (k : Nat) (h : k + cs.length ≤ L.length) : (splice L k cs).length = L.length := length_splice L k cs h

theorem AtSt.setCount {w : World} {B T : Nat} {pre post : List Value} {s : St} (h : AtSt w B T pre post s) (n : Nat) {i : Nat} (hi : i = pre.length + 5) :
    AtSt (w.setCell ⟨B, i, none⟩ (.int .u64 n)) B T pre post ⟨n, s.ws, s.half⟩ := by
  subst hi
  refine ⟨?_, h.half⟩
  rw [heap_setCell h.row]
  have e : ∀ m : Nat, pre ++ (stCells ⟨m, s.ws, s.half⟩ ++ post) = (pre ++ stHead) ++ ([.int .u64 m] ++ ((List.range 8).map (fun i => Value.int .u64 (s.ws i)) ++ (s.half.map (Value.int .u8) ++ post))) := fun m => by
    simp [stCells]
  have e0 : pre ++ (stCells s ++ post) = _ := e s.count
  have hl : (pre ++ stHead).length = pre.length + 5 := by simp [stHead]
  rw [e0, e n, ← hl]
  congr 2
  apply Array.ext'
  simp

theorem AtSt.of_heap {w w' : World} {B T : Nat} {pre post : List Value} {s : St} (h : AtSt w B T pre post s) (e : w'.heap[B]? = w.heap[B]?) : AtSt w' B T pre post s := ⟨e.trans h.row, h.half⟩

end Go.Proofs.YteohaebhnenabaaGreatDoor
