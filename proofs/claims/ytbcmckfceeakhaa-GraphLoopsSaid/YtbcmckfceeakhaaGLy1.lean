-- Printed by a program of this session (wip/tools/turnprint.py), out of the translation. Not trusted: Lean checks it.
import Derived.Test.YtbcmckfceeakhaaGLx0
import Derived.Test.YtbcmckfceeakhaaGLx2
import Derived.Test.YtbcmckfceeakhaaM4
noncomputable section
namespace Go.Proofs.Ytbcmckfceeakhaa.GL
open Go.RowKit Go.Proofs.YtbcmckfceeakhaaW.PrintWords Go.Proofs.YtbcmckfceeakhaaW.PrintLast Go.Proofs.YtbcmckfceeakhaaW.PrintMore
attribute [local go_sem] max2_int min2_int max_two min_two max_three min_three max_four min_four   -- for this text's walks alone
set_option linter.unusedVariables false
set_option linter.unusedSimpArgs false

open Go.Proofs.Ytbcmckfceeakhaa.Gv
/-! ### loopsLaw: function 4 -/
mutual
def loopsLaw.l0 : Nat → List Int → List (S40) → Int → Option (Bool)
  | 0, _, _, _ => none
  | k + 1, x0, x3, x4 => if x4 < (x3.length : Int) then (if 0 ≤ x4 then ((graph_Loop.f x0 ((rd_T40 x3 x4).f1)).bind fun t256 => (loopsLaw.l1 k x0 x3 x4 t256 false false 0)) else (none)) else (if (x3.length : Int) = 0 then ((astrolabelaw18_awake.f k).bind fun t252 => (some t252)) else ((graph_Cyclic.f x0).bind fun t253 => (if t253 = true then ((astrolabelaw18_awake.f k).bind fun t254 => (some t254)) else (some false))))
def loopsLaw.l1 : Nat → List Int → List (S40) → Int → List Int → Bool → Bool → Int → Option (Bool)
  | 0, _, _, _, _, _, _, _ => none
  | k + 1, x0, x3, x4, x5, x6, x7, x8 => if x8 < (x5.length : Int) then (if x6 = true then (if x7 = true then (if 0 ≤ x4 then (if x4 < (x3.length : Int) then (if 0 ≤ x8 then ((graph_Ahead.f x0 ((rd_T40 x3 x4).f1) (rd x5 x8)).bind fun t261 => (if t261 = true then (loopsLaw.l1 k x0 x3 x4 x5 true true (wrap64 (x8 + 1))) else (some false))) else (none)) else (none)) else (none)) else (if 0 ≤ x8 then (if 0 ≤ x4 then (if x4 < (x3.length : Int) then ((graph_Ahead.f x0 ((rd_T40 x3 x4).f1) (rd x5 x8)).bind fun t266 => (if t266 = true then (loopsLaw.l1 k x0 x3 x4 x5 true ((rd x5 x8) == ((rd_T40 x3 x4).f0)) (wrap64 (x8 + 1))) else (some false))) else (none)) else (none)) else (none))) else (if 0 ≤ x8 then (if 0 ≤ x4 then (if x4 < (x3.length : Int) then (if x7 = true then ((graph_Ahead.f x0 ((rd_T40 x3 x4).f1) (rd x5 x8)).bind fun t271 => (if t271 = true then (loopsLaw.l1 k x0 x3 x4 x5 ((rd x5 x8) == ((rd_T40 x3 x4).f1)) true (wrap64 (x8 + 1))) else (some false))) else ((graph_Ahead.f x0 ((rd_T40 x3 x4).f1) (rd x5 x8)).bind fun t276 => (if t276 = true then (loopsLaw.l1 k x0 x3 x4 x5 ((rd x5 x8) == ((rd_T40 x3 x4).f1)) ((rd x5 x8) == ((rd_T40 x3 x4).f0)) (wrap64 (x8 + 1))) else (some false)))) else (none)) else (none)) else (none))) else (if x6 = true then (if x7 = true then (loopsLaw.l0 k x0 x3 (wrap64 (x4 + 1))) else (some false)) else (some false))
end
def loopsLaw.f (k : Nat) (l0 : List Int) : Option (Bool) := if (l0.length : Int) > 30 then ((astrolabelaw18_awake.f k).bind fun t248 => (some t248)) else ((graph_Backs.f l0).bind fun t249 => (loopsLaw.l0 k l0 t249 0))
theorem loopsLaw.mono_l : ∀ k, (∀ y0 y1 y2, LeO (loopsLaw.l0 k y0 y1 y2) (loopsLaw.l0 (k + 1) y0 y1 y2)) ∧ (∀ y0 y1 y2 y3 y4 y5 y6, LeO (loopsLaw.l1 k y0 y1 y2 y3 y4 y5 y6) (loopsLaw.l1 (k + 1) y0 y1 y2 y3 y4 y5 y6))
  | 0 => ⟨fun _ _ _ r h => by simp [loopsLaw.l0] at h, fun _ _ _ _ _ _ _ r h => by simp [loopsLaw.l1] at h⟩
  | k + 1 => by
    obtain ⟨ih0, ih1⟩ := loopsLaw.mono_l k
    refine ⟨?_, ?_⟩
    · intro y0 y1 y2
      unfold loopsLaw.l0
      repeat' first
      | (with_reducible exact ih0 _ _ _)
      | (with_reducible exact ih1 _ _ _ _ _ _ _)
      | (with_reducible exact astrolabelaw18_awake.mono _)
      | (with_reducible exact LeO.refl _)
      | (with_reducible exact LeO.none _)
      | (with_reducible refine LeO.ite ?_ ?_)
      | (with_reducible refine LeO.bind ?_ (fun _ => ?_))
      | exact ih0 _ _ _
      | exact ih1 _ _ _ _ _ _ _
      | exact astrolabelaw18_awake.mono _
      | exact LeO.none _
      | refine LeO.ite ?_ ?_
      | refine LeO.bind ?_ (fun _ => ?_)
    · intro y0 y1 y2 y3 y4 y5 y6
      unfold loopsLaw.l1
      repeat' first
      | (with_reducible exact ih0 _ _ _)
      | (with_reducible exact ih1 _ _ _ _ _ _ _)
      | (with_reducible exact astrolabelaw18_awake.mono _)
      | (with_reducible exact LeO.refl _)
      | (with_reducible exact LeO.none _)
      | (with_reducible refine LeO.ite ?_ ?_)
      | (with_reducible refine LeO.bind ?_ (fun _ => ?_))
      | exact ih0 _ _ _
      | exact ih1 _ _ _ _ _ _ _
      | exact astrolabelaw18_awake.mono _
      | exact LeO.none _
      | refine LeO.ite ?_ ?_
      | refine LeO.bind ?_ (fun _ => ?_)
theorem loopsLaw.mono : ∀ a0 k, LeO (loopsLaw.f k a0) (loopsLaw.f (k + 1) a0) := by
  intro a0 k
  obtain ⟨ih0, ih1⟩ := loopsLaw.mono_l k
  unfold loopsLaw.f
  repeat' first
      | (with_reducible exact ih0 _ _ _)
      | (with_reducible exact ih1 _ _ _ _ _ _ _)
      | (with_reducible exact astrolabelaw18_awake.mono _)
      | (with_reducible exact LeO.refl _)
      | (with_reducible exact LeO.none _)
      | (with_reducible refine LeO.ite ?_ ?_)
      | (with_reducible refine LeO.bind ?_ (fun _ => ?_))
      | exact ih0 _ _ _
      | exact ih1 _ _ _ _ _ _ _
      | exact astrolabelaw18_awake.mono _
      | exact LeO.none _
      | refine LeO.ite ?_ ?_
      | refine LeO.bind ?_ (fun _ => ?_)
def loopsLaw.T12 : Bool × List (List Nat × List Nat) := (true, [([], []), ([0], [0]), ([1], [1]), ([1], [1]), ([2, 3, 1], [1, 2, 3]), ([4, 1], [1, 4]), ([1], [1]), ([1], [1]), ([6, 7, 1], [1, 6, 7]), ([8, 1], [1, 8]), ([9, 1], [1, 9]), ([5, 10, 1], [1, 5, 10]), ([1, 11], [1, 11]), ([12, 1, 0, 1, 2, 3, 4, 5, 6, 7, 8, 9, 10, 11, 12], [0, 12])])
def loopsLaw.B12 : List Nat := [0, 1, 3, 3, 15, 31, 3, 3, 195, 451, 963, 2047, 4095, 8191]
theorem loopsLaw.tab12 : rtab .any (opsOf Try.f4 12) = loopsLaw.T12 := by kernel_rfl
theorem loopsLaw.bits12 : waitsOk loopsLaw.T12.2 loopsLaw.B12 = true := by kernel_rfl
def loopsLaw.T13 : Bool × List (List Nat × List Nat) := (true, [([], []), ([0], [0]), ([1], [1]), ([1], [1]), ([2, 3, 1], [1, 2, 3]), ([4, 1], [1, 4]), ([1], [1]), ([1], [1]), ([6, 7, 1], [1, 6, 7]), ([8, 1], [1, 8]), ([9, 1], [1, 9]), ([5, 10, 1], [1, 5, 10]), ([1, 11], [1, 11]), ([12, 1, 0, 1, 2, 3, 4, 5, 6, 7, 8, 9, 10, 11, 12], [0, 12])])
def loopsLaw.B13 : List Nat := [0, 1, 3, 3, 15, 31, 3, 3, 195, 451, 963, 2047, 4095, 8191]
theorem loopsLaw.tab13 : rtab .any (opsOf Try.f4 13) = loopsLaw.T13 := by kernel_rfl
theorem loopsLaw.bits13 : waitsOk loopsLaw.T13.2 loopsLaw.B13 = true := by kernel_rfl
def loopsLaw.T14 : Bool × List (List Nat × List Nat) := (true, [([], []), ([], []), ([], []), ([1, 2], [1, 2]), ([3], [3]), ([4], [4]), ([], []), ([], []), ([6, 7], [6, 7]), ([8], [8]), ([0, 5, 9], [0, 5, 9]), ([10], [10])])
def loopsLaw.B14 : List Nat := [0, 0, 0, 6, 14, 30, 0, 0, 192, 448, 1023, 2047]
theorem loopsLaw.tab14 : rtab .any (opsOf Try.f4 14) = loopsLaw.T14 := by kernel_rfl
theorem loopsLaw.bits14 : waitsOk loopsLaw.T14.2 loopsLaw.B14 = true := by kernel_rfl
theorem sIb {α : Type} (l : List α) (i : Nat) (a : α) : l.toArray.setIfInBounds i a = (l.set i a).toArray := by rw [List.setIfInBounds_toArray]
end Go.Proofs.Ytbcmckfceeakhaa.GL
