/- KeyringNil: the law returns true, whatever memory it is called in; nothing that was there has changed. Conditions: the two package variables digest.cubes and digest.squares hold what the program's text lays in them (the given tie, over the pruned copy of the seat); the seat's translation is walled: a function that no drawn call entered has no body there, and the walk shows that no run comes to one. -/
import Derived.Test.YteohaebhnenabaaGreatDoorRows
import Derived.Test.YteohaebhnenabaaGreatDoorTie
import Derived.Test.YteohaebhnenabaaGreatDoorCards
import Derived.Test.YteohaebhnenabaaGreatDoorKlaw
import Derived.ProofKit
import Derived.LaidMore
import Derived.OpenShut
import Derived.Stop.Joined
import Derived.SevenTiedAt
namespace Go.Proofs.YteohaebhnenabaaGreatDoor
open Go.ChangeShapes Go.WideShapes Go.ChangeAt Go.WideMaps Go.WideElems Go.RowKit

theorem own : ownKnob Tryz.prog.godebug = none := by kernel_rfl
theorem gCubes : Tryz.prog.globalNamed "coffer/digest.cubes" = some 1 := by kernel_rfl
theorem gSquares : Tryz.prog.globalNamed "coffer/digest.squares" = some 2 := by kernel_rfl
theorem tCubes : (Tryz.prog.globals[1]?).map (·.type) = some 191 := by kernel_rfl
theorem tSquares : (Tryz.prog.globals[2]?).map (·.type) = some 215 := by kernel_rfl

abbrev laidTwo : List (String × DataW Unit) := [("coffer/digest.cubes", Rows.laid_coffer_digest_cubes), ("coffer/digest.squares", Rows.laid_coffer_digest_squares)]

/-- what the door's own run leaves meets the condition -/
theorem door_met (os : Os) (args : Array Value) : laidMetH Tryz.prog laidTwo ((World.doorLaid Tryz.prog 400 os).forCall (fun _ _ => 0) ⟨#[], args, []⟩).memory :=
  laidMetH_of_parts3 (fuel := 8) (laidMet_of_run' 8 (by kernel_rfl) (by kernel_rfl)) (by kernel_rfl) (by kernel_rfl)

/-- the number in a cell -/
def numAt (W : World) (b i : Nat) : Int := match W.cell? ⟨b, i, none⟩ with | some (.int _ n) => n | _ => 0

theorem cells_of_array {enc : TypeId × Value → Unit} {W : World} {n fuel : Nat} {t : TypeId} {x : DataW Unit × List MemPlace} {g : Nat} {nm : String} {cs : Array Value}
    (hu : Tryz.prog.underlying t = some (.array n 35)) (hg : Tryz.prog.globalNamed nm = some g) (hv : W.var? Tryz.prog nm = some cs)
    {spare : Nat → Bool} (hd : DataW.trod enc Tryz.prog W 0 spare false fuel t cs.toList = some x) : ∀ i, i < n → W.cell? ⟨g, i, none⟩ = some (.int .u64 (numAt W g i)) := by
  obtain ⟨xs, m, rfl, _, _, hn, hel⟩ := DataW.trod_array hu hd
  have ce : Tryz.prog.cellsOf 35 = 1 := by kernel_rfl
  intro i hi
  have h := hel i hi
  have hx : i < xs.length := by omega
  rw [List.getElem?_eq_getElem hx, ce, Nat.mul_one] at h
  obtain ⟨k, e1, _, _⟩ := DataW.trod_int Tryz.underlying35 h
  have hc : cs[i]? = some (.int .u64 k) := by
    have e2 : ((cs.toList.drop i).take 1)[0]? = some (.int .u64 k) := by rw [e1]; rfl
    rw [List.getElem?_take_of_lt (by omega), List.getElem?_drop] at e2
    simpa using e2
  have hcell : W.cell? ⟨g, i, none⟩ = some (.int .u64 k) := (World.var?_cell hg hv i).trans hc
  rw [hcell]
  simp [numAt, hcell]

/-- WHAT THE CONDITION GIVES THE WALK -/
theorem of_laid {W : World} (h : laidMetH Tryz.prog laidTwo W) : Glob (numAt W 1) (numAt W 2) W := by
  rw [MakeChecks.laidMetH_plain _ _ _ (by kernel_rfl)] at h
  obtain ⟨ps, ⟨g0, t0, cs0, f0, p0, q0, hg0, ht0, hv0, hd0, ⟨g1, t1, cs1, f1, p1, q1, hg1, ht1, hv1, hd1, _, _⟩, _⟩, _, _⟩ := h
  obtain rfl := Option.some.inj (gCubes.symm.trans hg0)
  obtain rfl := Option.some.inj (gSquares.symm.trans hg1)
  obtain rfl := Option.some.inj (tCubes.symm.trans ht0)
  obtain rfl := Option.some.inj (tSquares.symm.trans ht1)
  have c0 := cells_of_array Tryz.underlying191 gCubes hv0 hd0
  have c1 := cells_of_array Tryz.underlying215 gSquares hv1 hd1
  have z0 := World.block_lt_of_cell? W _ (c0 0 (by omega))
  have z1 := World.block_lt_of_cell? W _ (c1 0 (by omega))
  refine ⟨?_, c0, c1⟩
  have z0' : 1 < W.heap.size := z0
  have z1' : 2 < W.heap.size := z1
  omega

set_option maxRecDepth 100000 in
theorem lifted (os : Os) (started : os.Started) (H : Type) (enc : TypeId × Value → H) :
    ReturnsInHanded {} Tryz.checked os 3 .any (fun w args => (Rows.keyringNilSpec.pre enc Tryz.prog Tryz.f3 [] false w args ∧ laidMetH Tryz.prog laidTwo w) ∧ sizedMet enc Tryz.prog Tryz.f3 (OpenSpec.ofChange Rows.keyringNilSpec) false w args)
      (Rows.keyringNilSpec.post enc Tryz.prog Tryz.f3 false true false false) := by
  refine returnsInHanded_of_change_and (C := Tryz.checked) (X := fun w _ => laidMetH Tryz.prog laidTwo w) (fun _ _ _ hh h => h.of_heap hh) own started (by kernel_rfl) Tryz.func3
    (ChangeSpec.witness_shaped (enc := enc) (C := Tryz.checked) (os := os) (X := fun w _ => laidMetH Tryz.prog laidTwo w) false (World.doorLaid Tryz.prog 400 os) #[] 8 rfl (World.shaped_of_RefB (by kernel_rfl) (by kernel_rfl)) (by kernel_rfl) (by kernel_rfl) (by kernel_rfl) (door_met os _)) ?_
  intro W base args ds gs before hval0 hW _ _ hL _
  have hW' := hW
  obtain ⟨p, q, hA0, hV, rfl, hfz, hnd⟩ := hW
  have hA : DataW.TrodAll enc Tryz.prog W 0 (fun _ => true) true Tryz.f3.params.toList args.toList ds p := hA0
  rw [Tryz.params3] at hA
  obtain ⟨rfl, rfl, rfl⟩ := trodAll_none hA
  obtain ⟨rfl, rfl⟩ := trodVars_none hV
  clear hA0 hval0
  simp only [List.append_nil] at hW'
  refine (keyringnil _ _ W (of_laid hL)).mono fun e W' ⟨he, hb⟩ => ?_
  subst he
  exact ⟨_, rfl, [], [], [], [], [], [], hW', trodAll_mk1 (shut_bool Tryz.underlying4 _), rfl, rfl, hb.frame _, fun h => by cases h⟩

theorem row_holds : Rows.KeyringNilSaid :=
  OpenClaim.holds_of_wide 3 Tryz.f3 rfl rfl rfl rfl rfl rfl rfl ⟨rfl, rfl, rfl, rfl, rfl⟩ rfl rfl rfl rfl rfl (by kernel_rfl) Tryz.func3 (by kernel_rfl)
    (of_decide_eq_true (by kernel_rfl)) (by unfold Func.isWrapper; first | (rw [if_pos (by decide +kernel)]; kernel_rfl) | (rw [if_neg (by decide +kernel)]; exact ⟨rfl, rfl⟩))
    (fun os started H enc _ => lifted os started H enc)

/-- THE STATEMENT -/
theorem keyringNil_card : Rows.KeyringNilCardSaid :=
  Claim7.holds_tied_plain_at .later [] [.data, .data] true (true, "b5c48d2ff1bc4082eb8dbbd11c3fd0e6cca2a3e80ec73179ded265375aebe4ec") false
    row_holds (fun _ h => by cases h) (by kernel_rfl) (fun _ h => by cases h) keyringNil_row_tie rfl ⟨rfl, rfl⟩ (by kernel_rfl) rfl
    (fun f fn hf hfn => by
      obtain rfl : f = 3 := Option.some.inj ((show Tryz.prog.funcNamed "coffer/cofferlaw10.KeyringNil" = some 3 by kernel_rfl).symm.trans hf) |>.symm
      obtain rfl : fn = Tryz.f3 := (Option.some.inj (Tryz.func3.symm.trans hfn)).symm
      exact ⟨by kernel_rfl, fun j t ht => by
        rw [Tryz.params3] at ht
        simp at ht⟩)
    (by kernel_rfl)
#print axioms keyringNil_card
end Go.Proofs.YteohaebhnenabaaGreatDoor
