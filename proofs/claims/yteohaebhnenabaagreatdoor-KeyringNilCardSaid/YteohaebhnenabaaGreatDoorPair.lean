/- Two parts that fill a struct; a whole row into a new block: plain laws over whatever program. -/
import Derived.Test.YteohaebhnenabaaGreatDoorCopy
import Derived.Great.FillDense
import Derived.Great.BuildSlice
import Derived.Laws.Tables
import Derived.Laws.Rows
namespace Go.Proofs.YteohaebhnenabaaGreatDoor
open Go.RowKit

theorem fill_congr {p q : Nat → Option (Nat × Nat)} : ∀ (parts : List (Nat × Value)) (cells : Array Value), (∀ x ∈ parts, p x.1 = q x.1) → Instr.fill p cells parts = Instr.fill q cells parts
  | [], _, _ => rfl
  | (i, v) :: rest, cells, h => by
    unfold Instr.fill
    rw [h (i, v) List.mem_cons_self]
    cases q i with
    | none => rfl
    | some x =>
      dsimp only
      rw [fill_congr rest _ (fun x hx => h x (List.mem_cons_of_mem _ hx))]

theorem built_two {P : Program} {t : TypeId} {it : TypeInfo} {z : Value} {fields : Array Field} {s : Nat} (hit : P.info? t = some it) (hz : it.zero = some z) (hu : P.underlying t = some (.struct fields))
    (hp : fields.toList.mapM (fun f => (P.info? f.type).map fun i => (f.offset, i.size)) = some [(0, s), (s, s)]) (A B : Array Value) (hA : A.size = s) (hB : B.size = s) (h0 : 0 < s) (hzs : z.cells.size = s + s) :
    P.built t [(0, .agg A), (1, .agg B)] = some (A ++ B) := by
  unfold Program.built
  simp only [hit, hu, hz, hp]
  have h := Great.fill_whole h0 [.agg A, .agg B] z.cells (by
    intro v hv
    simp only [List.mem_cons, List.not_mem_nil, or_false] at hv
    rcases hv with rfl | rfl
    · exact hA
    · exact hB) (by simp only [List.length_cons, List.length_nil]; omega)
  have e : (([Value.agg A, Value.agg B] : List Value).zipIdx 0).map (fun x => (x.2, x.1)) = [(0, .agg A), (1, .agg B)] := rfl
  rw [e] at h
  rw [fill_congr (q := fun i => some (i * s, s))]
  · rw [h]
    congr 1
    apply Array.ext'
    simp [Value.cells]
  · intro x hx
    simp only [List.mem_cons, List.not_mem_nil, or_false] at hx
    rcases hx with rfl | rfl <;> simp

theorem setRow_alloc_new (w : World) (z cells : Array Value) (t : TypeId) : (w.alloc (.cells z t)).setRow w.heap.size cells = w.alloc (.cells cells t) := by
  have hm : ∀ (a : Array Obj) (x : Obj) (f : Obj → Obj), (a.push x).modify a.size f = a.push (f x) := by
    intro a x f
    apply Array.ext
    · simp
    · intro i h1 h2
      simp only [Array.getElem_modify, Array.getElem_push]
      by_cases h : a.size = i
      · subst h
        simp
      · have hi : i < a.size := by simp at h1; omega
        simp [h, hi]
  unfold World.setRow World.alloc
  simp only [hm]

/-- a struct built of two parts -/
theorem wpList_build_two {P : Program} {ops : Array Oper} {rest : List Oper} {o : Oper} {a : Act} {w : World} {Q : Exit → Act → World → Prop} (hg : o.guard = none) (t : TypeId) (x y : Operand) (ho : o.op = .build t #[(0, x), (1, y)])
    (A B cells : Array Value) (hx : a.eval x = .agg A) (hy : a.eval y = .agg B) (hb : P.built t [(0, .agg A), (1, .agg B)] = some cells)
    (h : wpList P ops Q rest (a.put o.dst (.agg cells)) w) : wpList P ops Q (o :: rest) a w :=
  wpList_buildTo hg t _ ho _ rfl cells (by simpa [hx, hy] using hb) h

/-- a whole row into a block that has just been made -/
theorem wpList_store_fresh {P : Program} {ops : Array Oper} {rest : List Oper} {o : Oper} {a : Act} {w : World} {Q : Exit → Act → World → Prop} (hgd : o.guard = none) (ty : TypeId) (x y : Operand) (ho : o.op = .store ty x y)
    (g : Nat) (cells z : Array Value) (t : TypeId) (hx : a.eval x = .pointer (some ⟨g, 0, none⟩)) (hgs : w.heap.size = g) (hy : a.eval y = .agg cells)
    (hi : (P.info? ty).map (·.size) = some cells.size) (hold : z.size = cells.size) (h1 : cells.all (·.oneCell') = true)
    (h : wpList P ops Q rest (a.put o.dst undef) (w.alloc (.cells cells t))) : wpList P ops Q (o :: rest) a (w.alloc (.cells z t)) := by
  subst hgs
  refine wpList_store_row hgd ty x y ho w.heap.size cells hx hy t z (heap_alloc_new _ _) hi hold h1 ?_
  rw [setRow_alloc_new]
  exact h
theorem heap4 (w : World) (A B C D : Obj) : ((((w.alloc A).alloc B).alloc C).alloc D).heap[w.heap.size]? = some A ∧ ((((w.alloc A).alloc B).alloc C).alloc D).heap[w.heap.size + 1]? = some B ∧
    ((((w.alloc A).alloc B).alloc C).alloc D).heap[w.heap.size + 1 + 1]? = some C ∧ ((((w.alloc A).alloc B).alloc C).alloc D).heap[w.heap.size + 1 + 1 + 1]? = some D ∧
    Below w.heap.size w ((((w.alloc A).alloc B).alloc C).alloc D) := by
  have s1 : (w.alloc A).heap.size = w.heap.size + 1 := by simp
  have s2 : ((w.alloc A).alloc B).heap.size = w.heap.size + 1 + 1 := by simp
  have s3 : (((w.alloc A).alloc B).alloc C).heap.size = w.heap.size + 1 + 1 + 1 := by simp
  refine ⟨?_, ?_, ?_, ?_, ?_⟩
  · rw [Below.heap_alloc _ _ _ (by omega), Below.heap_alloc _ _ _ (by omega), Below.heap_alloc _ _ _ (by omega), heap_alloc_new]
  · rw [Below.heap_alloc _ _ _ (by omega), Below.heap_alloc _ _ _ (by omega), ← s1, heap_alloc_new]
  · rw [Below.heap_alloc _ _ _ (by omega), ← s2, heap_alloc_new]
  · rw [← s3, heap_alloc_new]
  · exact ((((Below.refl _ _).alloc (Nat.le_refl _) _).alloc (by omega) _).alloc (by omega) _).alloc (by omega) _
end Go.Proofs.YteohaebhnenabaaGreatDoor
