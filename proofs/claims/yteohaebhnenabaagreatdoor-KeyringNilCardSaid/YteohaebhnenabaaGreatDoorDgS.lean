/- SHA-2 as the program computes it: plain functions. No program in sight. -/
import Derived.WalkKit
import Derived.Test.YteohaebhnenabaaGreatDoorRot
namespace Go.Proofs.YteohaebhnenabaaGreatDoor

def ld32 (bs : Nat → Int) (k : Nat) : Int :=
  bits .or .u32 (bits .or .u32 (bits .or .u32 (bs (4 * k) % 4294967296 * 16777216 % 4294967296) (bs (4 * k + 1) % 4294967296 * 65536 % 4294967296))
    (bs (4 * k + 2) % 4294967296 * 256 % 4294967296)) (bs (4 * k + 3) % 4294967296)

/-- the first sixteen words -/
def words32 (bs : Nat → Int) (ws : List Int) : Nat → List Int
  | 0 => ws
  | k + 1 => (words32 bs ws k).set k (ld32 bs k)

def next32 (ws : List Int) (k : Nat) : Int :=
  (ws[k - 16]?.getD 0 + ws[k - 7]?.getD 0 +
    bits .xor .u32 (bits .xor .u32 (rotr32 (ws[k - 15]?.getD 0) 7) (rotr32 (ws[k - 15]?.getD 0) 18)) (ws[k - 15]?.getD 0 / 8) +
    bits .xor .u32 (bits .xor .u32 (rotr32 (ws[k - 2]?.getD 0) 17) (rotr32 (ws[k - 2]?.getD 0) 19)) (ws[k - 2]?.getD 0 / 1024)) % 4294967296

/-- the words behind them -/
def sched32 (ws : List Int) : Nat → List Int
  | 0 => ws
  | j + 1 => (sched32 ws j).set (16 + j) (next32 (sched32 ws j) (16 + j))

theorem words32_length (bs : Nat → Int) (ws : List Int) (k : Nat) : (words32 bs ws k).length = ws.length := by
  induction k with
  | zero => rfl
  | succ k ih => simp [words32, ih]

theorem sched32_length (ws : List Int) (j : Nat) : (sched32 ws j).length = ws.length := by
  induction j with
  | zero => rfl
  | succ j ih => simp [sched32, ih]

/-- eight words -/
structure R8 where
  a : Int
  b : Int
  c : Int
  d : Int
  e : Int
  f : Int
  g : Int
  h : Int

def t1_32 (s : R8) (cu w : Int) : Int :=
  (s.h + bits .xor .u32 (bits .xor .u32 (rotr32 s.e 6) (rotr32 s.e 11)) (rotr32 s.e 25) +
    bits .xor .u32 (bits .and .u32 s.e s.f) (bits .and .u32 (bits .xor .u32 (if IntKind.u32.signed = true then -1 else IntKind.u32.max) s.e) s.g) + cu / 4294967296 + w) % 4294967296

def t2_32 (s : R8) : Int :=
  (bits .xor .u32 (bits .xor .u32 (rotr32 s.a 2) (rotr32 s.a 13)) (rotr32 s.a 22) +
    bits .xor .u32 (bits .xor .u32 (bits .and .u32 s.a s.b) (bits .and .u32 s.a s.c)) (bits .and .u32 s.b s.c)) % 4294967296

def round32 (s : R8) (cu w : Int) : R8 := ⟨(t1_32 s cu w + t2_32 s) % 4294967296, s.a, s.b, s.c, (s.d + t1_32 s cu w) % 4294967296, s.e, s.f, s.g⟩

def rounds32 (cub : Nat → Int) (ws : List Int) (s : R8) : Nat → R8
  | 0 => s
  | k + 1 => round32 (rounds32 cub ws s k) (cub k) (ws[k]?.getD 0)

def R8.get (s : R8) : Nat → Int
  | 0 => s.a | 1 => s.b | 2 => s.c | 3 => s.d | 4 => s.e | 5 => s.f | 6 => s.g | _ => s.h

def start32 (hs : Nat → Int) : R8 := ⟨hs 0 % 4294967296, hs 1 % 4294967296, hs 2 % 4294967296, hs 3 % 4294967296, hs 4 % 4294967296, hs 5 % 4294967296, hs 6 % 4294967296, hs 7 % 4294967296⟩

/-- the words of a block -/
def block32 (bs : Nat → Int) (ws : List Int) : List Int := sched32 (words32 bs ws 16) 48

def out32 (cub : Nat → Int) (hs : Nat → Int) (ws : List Int) (i : Nat) : Int := ((start32 hs).get i + (rounds32 cub ws (start32 hs) 64).get i) % 4294967296

/-- what has been taken of bytes: the eight words, and the words of the last block -/
def blocks32 (cub : Nat → Int) (bs : Nat → Int) (hs : Nat → Int) : Nat → (Nat → Int) × List Int
  | 0 => (hs, List.replicate 64 0)
  | j + 1 => let p := blocks32 cub bs hs j
    let ws := block32 (fun i => bs (64 * j + i)) p.2
    (out32 cub p.1 ws, ws)

theorem block32_length (bs : Nat → Int) (ws : List Int) : (block32 bs ws).length = ws.length := by rw [block32, sched32_length, words32_length]

theorem blocks32_length (cub bs hs : Nat → Int) (j : Nat) : (blocks32 cub bs hs j).2.length = 64 := by
  induction j with
  | zero => simp [blocks32]
  | succ j ih => simp [blocks32, block32_length, ih]

end Go.Proofs.YteohaebhnenabaaGreatDoor
