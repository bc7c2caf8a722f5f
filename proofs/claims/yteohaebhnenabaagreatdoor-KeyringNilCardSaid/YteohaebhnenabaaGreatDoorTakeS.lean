/- 'take' of at most a block, whatever lies in the half block: what the state says is left open. -/
import Derived.Test.YteohaebhnenabaaGreatDoorTakeF
import Derived.Test.YteohaebhnenabaaGreatDoorTakeN
import Derived.Test.YteohaebhnenabaaGreatDoorDg1
import Derived.WalkKit
namespace Go.Proofs.YteohaebhnenabaaGreatDoor
open Go.RowKit

/-- the two tables -/
structure Glob (cub sq : Nat → Int) (w : World) : Prop where
  hz : 3 ≤ w.heap.size
  cubes : ∀ i, i < 80 → w.cell? ⟨1, i, none⟩ = some (.int .u64 (cub i))
  squares : ∀ i, i < 16 → w.cell? ⟨2, i, none⟩ = some (.int .u64 (sq i))

theorem Glob.upd {cub sq : Nat → Int} {S : Nat → Nat → Prop} {w w' : World} (h : Glob cub sq w) (hu : Upd S w w') (hS : ∀ b o, S b o → 3 ≤ b) : Glob cub sq w' :=
  ⟨Nat.le_trans h.hz hu.size, fun i hi => hu.cell (h.cubes i hi) (fun hs => by have := hS _ _ hs; omega), fun i hi => hu.cell (h.squares i hi) (fun hs => by have := hS _ _ hs; omega)⟩

theorem Glob.below {cub sq : Nat → Int} {B : Nat} {w w' : World} (h : Glob cub sq w) (hb : Below B w w') (hB : 3 ≤ B) : Glob cub sq w' :=
  ⟨Nat.le_trans h.hz hb.size, fun i hi => (hb.cell (by show 1 < B; omega)).trans (h.cubes i hi), fun i hi => (hb.cell (by show 2 < B; omega)).trans (h.squares i hi)⟩

theorem SlBytes.upd {S : Nat → Nat → Prop} {w w' : World} {b o : Nat} {l : List Int} (h : SlBytes w b o l) (hu : Upd S w w') (hS : ∀ i, ¬ S b i) : SlBytes w' b o l :=
  ⟨Nat.lt_of_lt_of_le h.lt hu.size, fun i hi => hu.cell (h.cell i hi) (hS _)⟩

theorem SlBytes.below {B : Nat} {w w' : World} {b o : Nat} {l : List Int} (h : SlBytes w b o l) (hb : Below B w w') (hB : b < B) : SlBytes w' b o l :=
  ⟨Nat.lt_of_lt_of_le h.lt hb.size, fun i hi => (hb.cell hB).trans (h.cell i hi)⟩

/-- nil, or at most a block of bytes that lie below block B -/
def Part (w : World) (B : Nat) (v : Value) (n : Nat) : Prop :=
  (v = .slice none 0 0 ∧ n = 0) ∨ ∃ (bb bo c : Nat) (l : List Int), v = .slice (some ⟨bb, bo, none⟩) l.length c ∧ n = l.length ∧ SlBytes w bb bo l ∧ l.length ≤ c ∧ c ≤ 140737488351232 ∧ l.length ≤ 64 ∧ bb < B

theorem Part.below {w w' : World} {B C : Nat} {v : Value} {n : Nat} (h : Part w B v n) (hb : Below C w w') (hC : B ≤ C) : Part w' B v n := by
  rcases h with h | ⟨bb, bo, c, l, h1, h2, h3, h4, h5, h6, h7⟩
  · exact Or.inl h
  · exact Or.inr ⟨bb, bo, c, l, h1, h2, h3.below hb (by omega), h4, h5, h6, h7⟩

theorem Part.upd {w w' : World} {B C : Nat} {v : Value} {n : Nat} (h : Part w B v n) (hu : Upd (BSet C) w w') (hC : B ≤ C) : Part w' B v n := by
  rcases h with h | ⟨bb, bo, c, l, h1, h2, h3, h4, h5, h6, h7⟩
  · exact Or.inl h
  · exact Or.inr ⟨bb, bo, c, l, h1, h2, h3.upd hu (fun i hs => by have : bb = C := hs; omega), h4, h5, h6, h7⟩

theorem Part.mono {w : World} {B C : Nat} {v : Value} {n : Nat} (h : Part w B v n) (hC : B ≤ C) : Part w C v n := by
  rcases h with h | ⟨bb, bo, c, l, h1, h2, h3, h4, h5, h6, h7⟩
  · exact Or.inl h
  · exact Or.inr ⟨bb, bo, c, l, h1, h2, h3, h4, h5, h6, by omega⟩

/-- what is left: a state that has been fed n bytes in all -/
def TakeS (w : World) (B T : Nat) (pre post : List Value) (n : Nat) (e : Ending) (w' : World) : Prop :=
  e = .returned (.tuple #[]) ∧ Upd (BSet B) w w' ∧ ∃ s : St, s.count = n ∧ AtSt w' B T pre post s

theorem take_small (B T : Nat) (pre post : List Value) (s : St) (v : Value) (n : Nat) (cub sq : Nat → Int) (w : World) (hs : AtSt w B T pre post s) (hp : Part w B v n) (hB : 3 ≤ B)
    (hcount : s.count ≤ 1099511627776) (G : Glob cub sq w) :
    Calls Tryz.prog 116 #[.pointer (some ⟨B, pre.length, none⟩), v] w (TakeS w B T pre post (s.count + n)) := by
  rcases hp with ⟨rfl, rfl⟩ | ⟨bb, bo, c, l, rfl, rfl, hl, hc, hcm, h64, hlt⟩
  · exact (take_nil B T pre post s w hs hcount).mono fun e w' ⟨h1, h2, h3⟩ => ⟨h1, h2, s, rfl, h3⟩
  · by_cases h0 : s.count % 64 = 0
    · exact (take_at0 B T bb bo c pre post s l cub w hs hl hc hcm (by omega) hB h0 hcount G.cubes).mono fun e w' ⟨h1, h2, h3⟩ => ⟨h1, h2, _, rfl, h3⟩
    · by_cases h1 : s.count % 64 + l.length < 64
      · exact (take_part B T bb bo c pre post s l w hs hl hc hcm (by omega) (by omega) h1 hcount).mono fun e w' ⟨h1, h2, h3⟩ => ⟨h1, h2, _, rfl, h3⟩
      · exact (take_full B T bb bo c pre post s l cub w hs hl hc hcm (by omega) hB (by omega) (by omega) (by omega) hcount G.cubes).mono fun e w' ⟨h1, h2, h3⟩ => ⟨h1, h2, _, rfl, h3⟩
end Go.Proofs.YteohaebhnenabaaGreatDoor
