/- Facts on the program as a whole, which every row asks for. -/
import Derived.Test.YtognmcollmdbpaaGreatDoorRows
import Derived.ProofKit
import Derived.OpenShut
import Derived.ChangeOld
import Derived.SizedLaws
namespace Go.Proofs.YtognmcollmdbpaaGreatDoor.jf
set_option maxRecDepth 100000
noncomputable def signs : { l : List Char // Tryz.prog.initOrder = String.ofList l } := ⟨_, rfl⟩
theorem tl : Tryz.pinned.checked.prog.initOrder.toList = signs.1 := (congrArg String.toList signs.2).trans String.toList_ofList
theorem w1 : (behindMainWord (wordsSigns signs.1)).head? = some "cut".toList := by kernel_rfl
theorem w2 : ∃ rest, behindMainWord (wordsSigns Tryz.pinned.checked.prog.initOrder.toList) = "cut".toList :: rest := by
  have := w1
  cases h : behindMainWord (wordsSigns signs.1) with
  | nil => rw [h] at this; simp at this
  | cons c r => rw [h] at this; exact ⟨r, ((congrArg (fun l => behindMainWord (wordsSigns l)) tl).trans h).trans (by simpa using this)⟩
theorem w3 : Tryz.pinned.checked.prog.laysLater = false := by kernel_rfl
theorem w4 : Tryz.pinned.checked.prog.bearsReflect = false := by kernel_rfl
theorem w5 : Tryz.pinned.checked.prog.doorFits [] = true := by kernel_rfl
theorem w6 (r : List (List Char)) : stripLifts liftWords ("cut".toList :: r) = ([], "cut".toList :: r) := by kernel_rfl
theorem make_cut (P : Program) (r : List (List Char)) (h : behindMainWord (wordsSigns P.initOrder.toList) = "cut".toList :: r) : P.make = some .cut := by
  unfold Program.make Program.headLifts
  rw [h]
  kernel_rfl
theorem final_cut (P : Program) (r : List (List Char)) (h : behindMainWord (wordsSigns P.initOrder.toList) = "cut".toList :: r) : P.liftsFinal = false := by
  unfold Program.liftsFinal Program.headLifts
  rw [h, w6]
  kernel_rfl
theorem enter_cut (P : Program) (r : List (List Char)) (h : behindMainWord (wordsSigns P.initOrder.toList) = "cut".toList :: r) (h3 : P.laysLater = false) (h4 : P.bearsReflect = false) (h5 : P.doorFits [] = true) : P.mayEnter = true := by
  unfold Program.mayEnter
  rw [h]
  simp only [w6, h3, h4, h5]
  kernel_rfl
theorem p1 : laidOutB Tryz.pinned.checked.prog = true := by kernel_rfl
theorem p2 : mapsRowed Tryz.pinned.checked.prog = true := by kernel_rfl
theorem p3 : (Tryz.pinned.checked.prog.stops == []) = true := by kernel_rfl
theorem p4 : (Tryz.pinned.checked.prog.stopKnobs == []) = true := by kernel_rfl
theorem p6 : Tryz.pinned.checked.prog.stopsHeard = true := by kernel_rfl
theorem p7 : Tryz.pinned.checked.prog.mayEnter = true := let ⟨r, h⟩ := w2; enter_cut _ r h w3 w4 w5
theorem p8 : Tryz.pinned.checked.prog.liftsFinal = false := let ⟨r, h⟩ := w2; final_cut _ r h
theorem p9 : Tryz.pinned.checked.prog.make = some .cut := let ⟨r, h⟩ := w2; make_cut _ r h
theorem beq_false {a b : Bool} (h : b = false) (h' : a = false) : (a == b) = true := by subst h; subst h'; rfl
theorem beq_make {a : Option Make} {b : Make} (h : a = some .cut) (h' : b = .cut) : (a == some b) = true := by subst h; subst h'; rfl
theorem andI {a b : Bool} (h : a = true) (h' : b = true) : (a && b) = true := by subst h; subst h'; rfl
end Go.Proofs.YtognmcollmdbpaaGreatDoor.jf
