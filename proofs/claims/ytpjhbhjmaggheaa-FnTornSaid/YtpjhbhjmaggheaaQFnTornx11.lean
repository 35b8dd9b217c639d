-- By a program of this session, over the kit's print.
import Derived.Test.YtpjhbhjmaggheaaQFnTornx0
import Derived.Test.YtpjhbhjmaggheaaQFnTornx1
import Derived.Test.YtpjhbhjmaggheaaQFnTornx4
import Derived.Test.YtpjhbhjmaggheaaQFnTornx10
namespace Go.Proofs.Ytpjhbhjmaggheaa.QFnTorn
open Go.RowKit Go.Proofs.YtpjhbhjmaggheaaW.PrintWords Go.Proofs.YtpjhbhjmaggheaaW.PrintLast Go.Proofs.YtpjhbhjmaggheaaW.PrintMore
attribute [local go_sem] max2_int min2_int max_two min_two max_three min_three max_four min_four   -- for this text's walks alone
set_option linter.unusedVariables false
set_option linter.unusedSimpArgs false

/-! ### laws_FnTorn: function 5 -/
mutual
def laws_FnTorn.l0 : Nat → List (S65) → List Int → Int → List (S71) → Option (Bool)
 | 0, _, _, _, _ => none
 | k + 1, x4, x5, x6, x439000 => if x6 < (x4.length : Int) then (if 0 ≤ x6 then (if ((rd_T65 x4 x6).f0) > 2 then (laws_FnTorn.j1 k x4 x5 x6 true x439000) else (laws_FnTorn.j1 k x4 x5 x6 ((((rd_T65 x4 x6).f3).size : Int) == 0) x439000)) else (none)) else ((impl_PutRaws.f k x439000 x4).bind fun bt442 => (if bt442.2 = (x4.length : Int) then ((impl_DiskOk.f k bt442.1).bind fun t447 => (some t447)) else (none)))
def laws_FnTorn.j1 : Nat → List (S65) → List Int → Int → Bool → List (S71) → Option (Bool)
 | 0, _, _, _, _, _ => none
 | k + 1, x4, x5, x6, x54, x439000 => if x54 = true then (laws_FnTorn.l0 k x4 x5 (wrap64 (x6 + 1)) x439000) else (if 0 ≤ (Int.tmod x6 12) then (if (Int.tmod x6 12) < (x5.length : Int) then (if 0 ≤ x6 then (if x6 < (x4.length : Int) then (if (((rd_T65 x4 x6).f3).size : Int) = 0 then (none) else (if x6 ≤ (x4.length : Int) then ((impl_PutRaws.f k x439000 (x4.take (x6 : Int).toNat)).bind fun bt456 => (if 0 ≤ (wrap64 (x6 + 1)) then (if (wrap64 (x6 + 1)) ≤ (x4.length : Int) then ((impl_PutRaws.f k x439000 (x4.take ((wrap64 (x6 + 1)) : Int).toNat)).bind fun bt465 => ((impl_CutRaws.f k x439000 x4 x6 (wrap64 (1 + (Int.tmod (rd x5 (Int.tmod x6 12)) (((rd_T65 x4 x6).f3).size : Int))))).bind fun bt470 => (if bt470.2 = true then (laws_FnTorn.j2 k x4 x5 x6 (bt465.2 != (wrap64 (x6 + 1))) x439000 bt456.1 bt465.1 bt470.1) else (laws_FnTorn.j2 k x4 x5 x6 true x439000 bt456.1 bt465.1 bt470.1)))) else (none)) else (none))) else (none))) else (none)) else (none)) else (none)) else (none))
def laws_FnTorn.j2 : Nat → List (S65) → List Int → Int → Bool → List (S71) → List (S71) → List (S71) → List (S71) → Option (Bool)
 | 0, _, _, _, _, _, _, _, _ => none
 | k + 1, x4, x5, x6, x100, x439000, x461000, x470000, x475000 => if x100 = true then (none) else (if 0 ≤ x6 then (if x6 < (x4.length : Int) then ((impl_FileAt.f k x475000 ((rd_T65 x4 x6).f1)).bind fun bt476 => ((impl_FileAt.f k x470000 ((rd_T65 x4 x6).f1)).bind fun bt479 => ((impl_FileAt.f k x461000 ((rd_T65 x4 x6).f1)).bind fun bt482 => ((laws_begins.f bt476.1 bt479.1).bind fun t484 => (if t484 = true then (if ((rd_T65 x4 x6).f0) = 2 then ((laws_begins.f bt482.1 bt476.1).bind fun t486 => (if t486 = true then (laws_FnTorn.j3 k x4 x5 x6 ((bt476.1.size : Int) == 0) x439000 x470000 x475000) else (laws_FnTorn.j3 k x4 x5 x6 true x439000 x470000 x475000))) else (laws_FnTorn.j3 k x4 x5 x6 ((bt476.1.size : Int) == 0) x439000 x470000 x475000)) else (laws_FnTorn.j3 k x4 x5 x6 true x439000 x470000 x475000)))))) else (none)) else (none))
def laws_FnTorn.j3 : Nat → List (S65) → List Int → Int → Bool → List (S71) → List (S71) → List (S71) → Option (Bool)
 | 0, _, _, _, _, _, _, _ => none
 | k + 1, x4, x5, x6, x153, x439000, x470000, x475000 => if x153 = true then (none) else (laws_FnTorn.l1 k x4 x5 x6 0 x439000 x470000 x475000)
def laws_FnTorn.l1 : Nat → List (S65) → List Int → Int → Int → List (S71) → List (S71) → List (S71) → Option (Bool)
 | 0, _, _, _, _, _, _, _ => none
 | k + 1, x4, x5, x6, x20, x439000, x470000, x475000 => if x20 < (x470000.length : Int) then (if 0 ≤ x20 then ((impl_FileAt.f k x475000 ((rd_T71 x470000 x20).f0)).bind fun bt488 => (if 0 ≤ x6 then (if x6 < (x4.length : Int) then (if ((rd_T71 x470000 x20).f0).toList = ((rd_T65 x4 x6).f1).toList then (laws_FnTorn.l1 k x4 x5 x6 (wrap64 (x20 + 1)) x439000 x470000 x475000) else (if bt488.2 = true then (if bt488.1.toList = ((rd_T71 x470000 x20).f1).toList then (laws_FnTorn.l1 k x4 x5 x6 (wrap64 (x20 + 1)) x439000 x470000 x475000) else (none)) else (none))) else (none)) else (none))) else (none)) else (laws_FnTorn.l0 k x4 x5 (wrap64 (x6 + 1)) x439000)
end
def laws_FnTorn.f (k : Nat) (l0 : List Int) : Option (Bool) := (laws_big.f l0).bind fun t431 => (if t431 = true then (some true) else ((spec_DrawRightDisk.f k l0).bind fun bt432 => ((spec_DrawPlaces.f k l0).bind fun t439 => (laws_FnTorn.l0 k bt432.2 t439 0 bt432.1))))
theorem laws_FnTorn.mono_l : ∀ k, (∀ y0 y1 y2 y3, LeO (laws_FnTorn.l0 k y0 y1 y2 y3) (laws_FnTorn.l0 (k + 1) y0 y1 y2 y3)) ∧ (∀ y0 y1 y2 y3 y4, LeO (laws_FnTorn.j1 k y0 y1 y2 y3 y4) (laws_FnTorn.j1 (k + 1) y0 y1 y2 y3 y4)) ∧ (∀ y0 y1 y2 y3 y4 y5 y6 y7, LeO (laws_FnTorn.j2 k y0 y1 y2 y3 y4 y5 y6 y7) (laws_FnTorn.j2 (k + 1) y0 y1 y2 y3 y4 y5 y6 y7)) ∧ (∀ y0 y1 y2 y3 y4 y5 y6, LeO (laws_FnTorn.j3 k y0 y1 y2 y3 y4 y5 y6) (laws_FnTorn.j3 (k + 1) y0 y1 y2 y3 y4 y5 y6)) ∧ (∀ y0 y1 y2 y3 y4 y5 y6, LeO (laws_FnTorn.l1 k y0 y1 y2 y3 y4 y5 y6) (laws_FnTorn.l1 (k + 1) y0 y1 y2 y3 y4 y5 y6))
 | 0 => ⟨fun _ _ _ _ r h => by simp [laws_FnTorn.l0] at h, fun _ _ _ _ _ r h => by simp [laws_FnTorn.j1] at h, fun _ _ _ _ _ _ _ _ r h => by simp [laws_FnTorn.j2] at h, fun _ _ _ _ _ _ _ r h => by simp [laws_FnTorn.j3] at h, fun _ _ _ _ _ _ _ r h => by simp [laws_FnTorn.l1] at h⟩
 | k + 1 => by
  obtain ⟨ih0, ih1, ih2, ih3, ih4⟩ := laws_FnTorn.mono_l k; refine ⟨?_, ?_, ?_, ?_, ?_⟩
  · intro y0 y1 y2 y3
    unfold laws_FnTorn.l0
    repeat' first
    | (with_reducible exact ih0 _ _ _ _)
    | (with_reducible exact ih1 _ _ _ _ _)
    | (with_reducible exact ih2 _ _ _ _ _ _ _ _)
    | (with_reducible exact ih3 _ _ _ _ _ _ _)
    | (with_reducible exact ih4 _ _ _ _ _ _ _)
    | (with_reducible exact impl_CutRaws.mono _ _ _ _ _)
    | (with_reducible exact impl_DiskOk.mono _ _)
    | (with_reducible exact impl_FileAt.mono _ _ _)
    | (with_reducible exact impl_PutRaws.mono _ _ _)
    | (with_reducible exact spec_DrawPlaces.mono _ _)
    | (with_reducible exact spec_DrawRightDisk.mono _ _)
    | (with_reducible exact LeO.refl _)
    | (with_reducible exact LeO.none _)
    | (with_reducible refine LeO.ite ?_ ?_)
    | (with_reducible refine LeO.bind ?_ (fun _ => ?_))
    | exact ih0 _ _ _ _
    | exact ih1 _ _ _ _ _
    | exact ih2 _ _ _ _ _ _ _ _
    | exact ih3 _ _ _ _ _ _ _
    | exact ih4 _ _ _ _ _ _ _
    | exact impl_CutRaws.mono _ _ _ _ _
    | exact impl_DiskOk.mono _ _
    | exact impl_FileAt.mono _ _ _
    | exact impl_PutRaws.mono _ _ _
    | exact spec_DrawPlaces.mono _ _
    | exact spec_DrawRightDisk.mono _ _
    | exact LeO.none _
    | refine LeO.ite ?_ ?_
    | refine LeO.bind ?_ (fun _ => ?_)
  · intro y0 y1 y2 y3 y4
    unfold laws_FnTorn.j1
    repeat' first
    | (with_reducible exact ih0 _ _ _ _)
    | (with_reducible exact ih1 _ _ _ _ _)
    | (with_reducible exact ih2 _ _ _ _ _ _ _ _)
    | (with_reducible exact ih3 _ _ _ _ _ _ _)
    | (with_reducible exact ih4 _ _ _ _ _ _ _)
    | (with_reducible exact impl_CutRaws.mono _ _ _ _ _)
    | (with_reducible exact impl_DiskOk.mono _ _)
    | (with_reducible exact impl_FileAt.mono _ _ _)
    | (with_reducible exact impl_PutRaws.mono _ _ _)
    | (with_reducible exact spec_DrawPlaces.mono _ _)
    | (with_reducible exact spec_DrawRightDisk.mono _ _)
    | (with_reducible exact LeO.refl _)
    | (with_reducible exact LeO.none _)
    | (with_reducible refine LeO.ite ?_ ?_)
    | (with_reducible refine LeO.bind ?_ (fun _ => ?_))
    | exact ih0 _ _ _ _
    | exact ih1 _ _ _ _ _
    | exact ih2 _ _ _ _ _ _ _ _
    | exact ih3 _ _ _ _ _ _ _
    | exact ih4 _ _ _ _ _ _ _
    | exact impl_CutRaws.mono _ _ _ _ _
    | exact impl_DiskOk.mono _ _
    | exact impl_FileAt.mono _ _ _
    | exact impl_PutRaws.mono _ _ _
    | exact spec_DrawPlaces.mono _ _
    | exact spec_DrawRightDisk.mono _ _
    | exact LeO.none _
    | refine LeO.ite ?_ ?_
    | refine LeO.bind ?_ (fun _ => ?_)
  · intro y0 y1 y2 y3 y4 y5 y6 y7
    unfold laws_FnTorn.j2
    repeat' first
    | (with_reducible exact ih0 _ _ _ _)
    | (with_reducible exact ih1 _ _ _ _ _)
    | (with_reducible exact ih2 _ _ _ _ _ _ _ _)
    | (with_reducible exact ih3 _ _ _ _ _ _ _)
    | (with_reducible exact ih4 _ _ _ _ _ _ _)
    | (with_reducible exact impl_CutRaws.mono _ _ _ _ _)
    | (with_reducible exact impl_DiskOk.mono _ _)
    | (with_reducible exact impl_FileAt.mono _ _ _)
    | (with_reducible exact impl_PutRaws.mono _ _ _)
    | (with_reducible exact spec_DrawPlaces.mono _ _)
    | (with_reducible exact spec_DrawRightDisk.mono _ _)
    | (with_reducible exact LeO.refl _)
    | (with_reducible exact LeO.none _)
    | (with_reducible refine LeO.ite ?_ ?_)
    | (with_reducible refine LeO.bind ?_ (fun _ => ?_))
    | exact ih0 _ _ _ _
    | exact ih1 _ _ _ _ _
    | exact ih2 _ _ _ _ _ _ _ _
    | exact ih3 _ _ _ _ _ _ _
    | exact ih4 _ _ _ _ _ _ _
    | exact impl_CutRaws.mono _ _ _ _ _
    | exact impl_DiskOk.mono _ _
    | exact impl_FileAt.mono _ _ _
    | exact impl_PutRaws.mono _ _ _
    | exact spec_DrawPlaces.mono _ _
    | exact spec_DrawRightDisk.mono _ _
    | exact LeO.none _
    | refine LeO.ite ?_ ?_
    | refine LeO.bind ?_ (fun _ => ?_)
  · intro y0 y1 y2 y3 y4 y5 y6
    unfold laws_FnTorn.j3
    repeat' first
    | (with_reducible exact ih0 _ _ _ _)
    | (with_reducible exact ih1 _ _ _ _ _)
    | (with_reducible exact ih2 _ _ _ _ _ _ _ _)
    | (with_reducible exact ih3 _ _ _ _ _ _ _)
    | (with_reducible exact ih4 _ _ _ _ _ _ _)
    | (with_reducible exact impl_CutRaws.mono _ _ _ _ _)
    | (with_reducible exact impl_DiskOk.mono _ _)
    | (with_reducible exact impl_FileAt.mono _ _ _)
    | (with_reducible exact impl_PutRaws.mono _ _ _)
    | (with_reducible exact spec_DrawPlaces.mono _ _)
    | (with_reducible exact spec_DrawRightDisk.mono _ _)
    | (with_reducible exact LeO.refl _)
    | (with_reducible exact LeO.none _)
    | (with_reducible refine LeO.ite ?_ ?_)
    | (with_reducible refine LeO.bind ?_ (fun _ => ?_))
    | exact ih0 _ _ _ _
    | exact ih1 _ _ _ _ _
    | exact ih2 _ _ _ _ _ _ _ _
    | exact ih3 _ _ _ _ _ _ _
    | exact ih4 _ _ _ _ _ _ _
    | exact impl_CutRaws.mono _ _ _ _ _
    | exact impl_DiskOk.mono _ _
    | exact impl_FileAt.mono _ _ _
    | exact impl_PutRaws.mono _ _ _
    | exact spec_DrawPlaces.mono _ _
    | exact spec_DrawRightDisk.mono _ _
    | exact LeO.none _
    | refine LeO.ite ?_ ?_
    | refine LeO.bind ?_ (fun _ => ?_)
  · intro y0 y1 y2 y3 y4 y5 y6
    unfold laws_FnTorn.l1
    repeat' first
    | (with_reducible exact ih0 _ _ _ _)
    | (with_reducible exact ih1 _ _ _ _ _)
    | (with_reducible exact ih2 _ _ _ _ _ _ _ _)
    | (with_reducible exact ih3 _ _ _ _ _ _ _)
    | (with_reducible exact ih4 _ _ _ _ _ _ _)
    | (with_reducible exact impl_CutRaws.mono _ _ _ _ _)
    | (with_reducible exact impl_DiskOk.mono _ _)
    | (with_reducible exact impl_FileAt.mono _ _ _)
    | (with_reducible exact impl_PutRaws.mono _ _ _)
    | (with_reducible exact spec_DrawPlaces.mono _ _)
    | (with_reducible exact spec_DrawRightDisk.mono _ _)
    | (with_reducible exact LeO.refl _)
    | (with_reducible exact LeO.none _)
    | (with_reducible refine LeO.ite ?_ ?_)
    | (with_reducible refine LeO.bind ?_ (fun _ => ?_))
    | exact ih0 _ _ _ _
    | exact ih1 _ _ _ _ _
    | exact ih2 _ _ _ _ _ _ _ _
    | exact ih3 _ _ _ _ _ _ _
    | exact ih4 _ _ _ _ _ _ _
    | exact impl_CutRaws.mono _ _ _ _ _
    | exact impl_DiskOk.mono _ _
    | exact impl_FileAt.mono _ _ _
    | exact impl_PutRaws.mono _ _ _
    | exact spec_DrawPlaces.mono _ _
    | exact spec_DrawRightDisk.mono _ _
    | exact LeO.none _
    | refine LeO.ite ?_ ?_
    | refine LeO.bind ?_ (fun _ => ?_)
theorem laws_FnTorn.mono : ∀ a0 k, LeO (laws_FnTorn.f k a0) (laws_FnTorn.f (k + 1) a0) := by
 intro a0 k; obtain ⟨ih0, ih1, ih2, ih3, ih4⟩ := laws_FnTorn.mono_l k
 unfold laws_FnTorn.f
 repeat' first
  | (with_reducible exact ih0 _ _ _ _)
  | (with_reducible exact ih1 _ _ _ _ _)
  | (with_reducible exact ih2 _ _ _ _ _ _ _ _)
  | (with_reducible exact ih3 _ _ _ _ _ _ _)
  | (with_reducible exact ih4 _ _ _ _ _ _ _)
  | (with_reducible exact impl_CutRaws.mono _ _ _ _ _)
  | (with_reducible exact impl_DiskOk.mono _ _)
  | (with_reducible exact impl_FileAt.mono _ _ _)
  | (with_reducible exact impl_PutRaws.mono _ _ _)
  | (with_reducible exact spec_DrawPlaces.mono _ _)
  | (with_reducible exact spec_DrawRightDisk.mono _ _)
  | (with_reducible exact LeO.refl _)
  | (with_reducible exact LeO.none _)
  | (with_reducible refine LeO.ite ?_ ?_)
  | (with_reducible refine LeO.bind ?_ (fun _ => ?_))
  | exact ih0 _ _ _ _
  | exact ih1 _ _ _ _ _
  | exact ih2 _ _ _ _ _ _ _ _
  | exact ih3 _ _ _ _ _ _ _
  | exact ih4 _ _ _ _ _ _ _
  | exact impl_CutRaws.mono _ _ _ _ _
  | exact impl_DiskOk.mono _ _
  | exact impl_FileAt.mono _ _ _
  | exact impl_PutRaws.mono _ _ _
  | exact spec_DrawPlaces.mono _ _
  | exact spec_DrawRightDisk.mono _ _
  | exact LeO.none _
  | refine LeO.ite ?_ ?_
  | refine LeO.bind ?_ (fun _ => ?_)
def laws_FnTorn.T9 : Bool × List (List Nat × List Nat) := (true, [([], []), ([], []), ([1], [1]), ([0, 2], [0, 2]), ([3], [3]), ([], []), ([], []), ([5, 6], [5, 6]), ([7], [7]), ([8], [8]), ([9], [9]), ([4, 10], [4, 10]), ([11], [11]), ([12, 0, 1, 2, 3, 4, 5, 6, 7, 8, 9, 10, 11, 12], [12])])
def laws_FnTorn.B9 : List Nat := [0, 0, 2, 7, 15, 0, 0, 96, 224, 480, 992, 2047, 4095, 8191]
theorem laws_FnTorn.tab9 : rtab .any (opsOf Try.f5 9) = laws_FnTorn.T9 := by kernel_rfl
theorem laws_FnTorn.bits9 : waitsOk laws_FnTorn.T9.2 laws_FnTorn.B9 = true := by kernel_rfl
def laws_FnTorn.T10 : Bool × List (List Nat × List Nat) := (true, [([], []), ([], []), ([], []), ([1, 2], [1, 2]), ([0, 3], [0, 3]), ([4], [4]), ([5], [5]), ([5], [5]), ([], []), ([8, 6, 4, 0, 1, 2, 3, 4, 5, 6, 8], [6, 8]), ([7, 9, 0, 1, 2, 3, 4, 5, 6, 7, 8, 9], [7])])
def laws_FnTorn.B10 : List Nat := [0, 0, 0, 6, 15, 31, 63, 63, 0, 383, 1023]
theorem laws_FnTorn.tab10 : rtab .any (opsOf Try.f5 10) = laws_FnTorn.T10 := by kernel_rfl
theorem laws_FnTorn.bits10 : waitsOk laws_FnTorn.T10.2 laws_FnTorn.B10 = true := by kernel_rfl
def laws_FnTorn.T11 : Bool × List (List Nat × List Nat) := (true, [([], []), ([], []), ([], []), ([2], [2]), ([1, 3], [1, 3]), ([0, 4], [0, 4]), ([5], [5]), ([6], [6]), ([6], [6]), ([], []), ([9, 7, 5, 0, 1, 2, 3, 4, 5, 6, 7, 9], [7, 9]), ([8, 10, 0, 1, 2, 3, 4, 5, 6, 7, 8, 9, 10], [8])])
def laws_FnTorn.B11 : List Nat := [0, 0, 0, 4, 14, 31, 63, 127, 127, 0, 767, 2047]
theorem laws_FnTorn.tab11 : rtab .any (opsOf Try.f5 11) = laws_FnTorn.T11 := by kernel_rfl
theorem laws_FnTorn.bits11 : waitsOk laws_FnTorn.T11.2 laws_FnTorn.B11 = true := by kernel_rfl
def laws_FnTorn.T15 : Bool × List (List Nat × List Nat) := (true, [([], []), ([], []), ([], []), ([1, 2], [1, 2]), ([3], [3]), ([4], [4]), ([0, 5], [0, 5]), ([6], [6]), ([7], [7]), ([7], [7]), ([8, 6, 0, 1, 2, 3, 4, 5, 6, 7, 8], [8]), ([9, 10, 0, 1, 2, 3, 4, 5, 6, 7, 8, 9, 10], [9])])
def laws_FnTorn.B15 : List Nat := [0, 0, 0, 6, 14, 30, 63, 127, 255, 255, 511, 2047]
theorem laws_FnTorn.tab15 : rtab .any (opsOf Try.f5 15) = laws_FnTorn.T15 := by kernel_rfl
theorem laws_FnTorn.bits15 : waitsOk laws_FnTorn.T15.2 laws_FnTorn.B15 = true := by kernel_rfl
def laws_FnTorn.T16 : Bool × List (List Nat × List Nat) := (true, [([], []), ([], []), ([], []), ([1, 2], [1, 2]), ([3], [3]), ([4], [4]), ([0, 5], [0, 5]), ([6], [6]), ([7], [7]), ([7], [7]), ([8, 6, 0, 1, 2, 3, 4, 5, 6, 7, 8], [8]), ([9, 10, 0, 1, 2, 3, 4, 5, 6, 7, 8, 9, 10], [9])])
def laws_FnTorn.B16 : List Nat := [0, 0, 0, 6, 14, 30, 63, 127, 255, 255, 511, 2047]
theorem laws_FnTorn.tab16 : rtab .any (opsOf Try.f5 16) = laws_FnTorn.T16 := by kernel_rfl
theorem laws_FnTorn.bits16 : waitsOk laws_FnTorn.T16.2 laws_FnTorn.B16 = true := by kernel_rfl
def laws_FnTorn.T17 : Bool × List (List Nat × List Nat) := (true, [([], []), ([], []), ([], []), ([1, 2], [1, 2]), ([3], [3]), ([4], [4]), ([0, 5], [0, 5]), ([6], [6]), ([7], [7]), ([7], [7]), ([8, 6, 0, 1, 2, 3, 4, 5, 6, 7, 8], [8]), ([9, 10, 0, 1, 2, 3, 4, 5, 6, 7, 8, 9, 10], [9])])
def laws_FnTorn.B17 : List Nat := [0, 0, 0, 6, 14, 30, 63, 127, 255, 255, 511, 2047]
theorem laws_FnTorn.tab17 : rtab .any (opsOf Try.f5 17) = laws_FnTorn.T17 := by kernel_rfl
theorem laws_FnTorn.bits17 : waitsOk laws_FnTorn.T17.2 laws_FnTorn.B17 = true := by kernel_rfl
def laws_FnTorn.T23 : Bool × List (List Nat × List Nat) := (true, [([], []), ([], []), ([1], [1]), ([], []), ([2, 3], [2, 3]), ([4], [4]), ([5], [5]), ([0, 6], [0, 6]), ([7], [7]), ([8], [8]), ([8], [8]), ([9, 7, 0, 1, 2, 3, 4, 5, 6, 7, 8, 9], [9]), ([10, 11, 0, 1, 2, 3, 4, 5, 6, 7, 8, 9, 10, 11], [10])])
def laws_FnTorn.B23 : List Nat := [0, 0, 2, 0, 14, 30, 62, 127, 255, 511, 511, 1023, 4095]
theorem laws_FnTorn.tab23 : rtab .any (opsOf Try.f5 23) = laws_FnTorn.T23 := by kernel_rfl
theorem laws_FnTorn.bits23 : waitsOk laws_FnTorn.T23.2 laws_FnTorn.B23 = true := by kernel_rfl
def laws_FnTorn.T24 : Bool × List (List Nat × List Nat) := (true, [([], []), ([0], [0]), ([], []), ([1, 2], [1, 2]), ([3], [3]), ([4], [4]), ([], []), ([], []), ([6, 7], [6, 7]), ([8], [8]), ([9], [9]), ([5, 10], [5, 10]), ([11], [11]), ([12], [12]), ([13, 12], [12, 13]), ([14, 12, 12], [12, 14]), ([15], [15]), ([15], [15]), ([17, 15], [15, 17]), ([15], [15]), ([18, 19, 15], [15, 18, 19]), ([20, 15], [15, 20]), ([21, 15], [15, 21]), ([16, 22, 15], [15, 16, 22]), ([15, 23, 12], [12, 15, 23]), ([12, 24], [12, 24])])
def laws_FnTorn.B24 : List Nat := [0, 1, 0, 7, 15, 31, 0, 0, 192, 448, 960, 2047, 4095, 8191, 16383, 32767, 65535, 65535, 196607, 65535, 983039, 2031615, 4128767, 8388607, 16777215, 33554431]
theorem laws_FnTorn.tab24 : rtab .any (opsOf Try.f5 24) = laws_FnTorn.T24 := by kernel_rfl
theorem laws_FnTorn.bits24 : waitsOk laws_FnTorn.T24.2 laws_FnTorn.B24 = true := by kernel_rfl
set_option maxHeartbeats 8000000 in
set_option maxRecDepth 100000 in
theorem laws_FnTorn.calls (k : Nat) (A0 : Option Addr) (c0 : Nat) (l0 : List Int) (r : Bool) (w : World) (hr0 : Kd.C (Kd.int .u8) w A0 l0.length l0) (hc0 : l0.length ≤ c0) (h : laws_FnTorn.f k l0 = some r) :
 Calls Try.prog 5 #[.slice A0 l0.length c0] w fun e w' => e = .returned (.bool r) ∧ Below w.heap.size w w' := by
 have hu30 := Try.underlying30; have HR0 := Aside0.mk hr0; have HC0 := Aside0.mk hc0; clear hr0 hc0; have HB := Aside0.mk (Below.refl w.heap.size w); have H : ((laws_big.f l0).bind fun t431 => (if t431 = true then (some true) else ((spec_DrawRightDisk.f k l0).bind fun bt432 => ((spec_DrawPlaces.f k l0).bind fun t439 => (laws_FnTorn.l0 k bt432.2 t439 0 bt432.1))))) = some r := h; clear h; replace H := Option.bind_eq_some_iff.mp H; obtain ⟨t431, A20, H⟩ := H; replace H : (if t431 = true then (some true) else ((spec_DrawRightDisk.f k l0).bind fun bt432 => ((spec_DrawPlaces.f k l0).bind fun t439 => (laws_FnTorn.l0 k bt432.2 t439 0 bt432.1)))) = some r := H; have A2 := Aside0.mk A20; clear A20; by_cases c3 : t431 = true
 · subst c3; have H1 : (some true) = some r := by rw [if_pos rfl] at H; exact H
   clear H; have H := H1; clear H1; obtain rfl := Option.some.inj H; go_enter Try.func5, Try.ntmps5
   go_wp2_with (first | ((with_reducible refine gate_callee (f := 22) rfl ?_); refine goesL_ (some 26) rfl rfl Try.func22 (by kernel_rfl) rfl #[.slice A0 l0.length c0] rfl t0_ ?_; (with_reducible refine (laws_big.calls _ _ l0 true _ ?side1 ?side2 A2.out).mono ?_); (case side1 => repeat (first | exact HR0.out | (with_reducible refine Kd.C_alloc ?_ _) | (with_reducible refine Kd.C_drewN ?_ _) | (with_reducible refine Kd.C_drew ?_))); (case side2 => exact HC0.out); rintro e w' ⟨rfl, ⟨nd, rfl⟩⟩; refine ⟨_, rfl, ?_⟩))
   go_ret; exact ⟨by first | rfl | (simp [errW_none, errW_some] <;> rfl) | (simp [*, errW_none, errW_some] <;> rfl), t2_⟩
 · replace c3 := Bool.eq_false_iff.mpr c3; subst c3; have H1 : ((spec_DrawRightDisk.f k l0).bind fun bt432 => ((spec_DrawPlaces.f k l0).bind fun t439 => (laws_FnTorn.l0 k bt432.2 t439 0 bt432.1))) = some r := by rw [if_neg (show ¬ (false = true) by decide)] at H; exact H
   clear H; have H := H1; clear H1; replace H := Option.bind_eq_some_iff.mp H; obtain ⟨⟨t432, t435⟩, A40, H⟩ := H; replace H : ((spec_DrawPlaces.f k l0).bind fun t439 => (laws_FnTorn.l0 k t435 t439 0 t432)) = some r := H; have A4 := Aside0.mk A40; clear A40; replace H := Option.bind_eq_some_iff.mp H; obtain ⟨t439, A50, H⟩ := H; replace H : (laws_FnTorn.l0 k t435 t439 0 t432) = some r := H; have A5 := Aside0.mk A50; clear A50; have H' := Aside0.mk H; clear H; go_enter Try.func5, Try.ntmps5
   go_wp2_with (first | ((with_reducible refine gate_callee (f := 22) rfl ?_); refine goesL_ (some 26) rfl rfl Try.func22 (by kernel_rfl) rfl #[.slice A0 l0.length c0] rfl t0_ ?_; (with_reducible refine (laws_big.calls _ _ l0 false _ ?side1 ?side2 A2.out).mono ?_); (case side1 => repeat (first | exact HR0.out | (with_reducible refine Kd.C_alloc ?_ _) | (with_reducible refine Kd.C_drewN ?_ _) | (with_reducible refine Kd.C_drew ?_))); (case side2 => exact HC0.out); rintro e w' ⟨rfl, ⟨nd, rfl⟩⟩; refine ⟨_, rfl, ?_⟩) | ((with_reducible refine gate_callee (f := 29) rfl ?_); refine goesL_ (some 29) rfl rfl Try.func29 (by kernel_rfl) rfl #[.slice A0 l0.length c0] rfl t0_ ?_; (with_reducible refine (spec_DrawRightDisk.calls k _ _ l0 t432 t435 _ ?side1 ?side2 A4.out).mono ?_); (case side1 => repeat (first | exact HR0.out | (with_reducible refine Kd.C_alloc ?_ _) | (with_reducible refine Kd.C_drewN ?_ _) | (with_reducible refine Kd.C_drew ?_))); (case side2 => exact HC0.out); rintro e w6 ⟨v433, v436, rfl, ho0, ho1, hb⟩; refine ⟨_, rfl, ?_⟩; have HO434 := Aside0.mk (Kd.R_lower ho0 (below_size t2_)); have HO437 := Aside0.mk (Kd.R_lower ho1 (below_size t2_)); replace HB := bS t2_ hb; (try clear hb); (try clear ho0); (try clear ho1)) | ((with_reducible refine gate_dst (N := 3) rfl ?_); (try (refine gate_guard (by rfl) ?_; dsimp only)); refine boxE (N := 3) (cs := #[.slice none 0 0]) (t := 30) (h := ?_); intro gb438 hg w7 hbox hb; replace HO434 := Aside0.mk (Kd.R_below (zK HO434) hb); replace HO437 := Aside0.mk (Kd.R_below (zK HO437) hb); have BK438 := Aside0.mk (hbox); have GW438 := Aside0.mk ((t5_ : w.heap.size ≤ gb438)); have GE438 := GW438; replace HB := bS t2_ hb; clear hb hbox hg; obtain ⟨Ao8, co8, eo8⟩ := Kd.R_slice HO434.out; subst eo8; obtain ⟨hcz9_0, hfz9_0⟩ := ba1 BK438) | ((with_reducible refine gate_callee (f := 30) rfl ?_); refine goesL_ (some 33) rfl rfl Try.func30 (by kernel_rfl) rfl #[.slice A0 l0.length c0] rfl t0_ ?_; (with_reducible refine (spec_DrawPlaces.calls k _ _ l0 t439 _ ?side1 ?side2 A5.out).mono ?_); (case side1 => exact Kd.C_below HR0.out t23_); (case side2 => exact HC0.out); rintro e w10 ⟨v440, rfl, ho0, hb⟩; refine ⟨_, rfl, ?_⟩; replace HO434 := Aside0.mk (Kd.R_below (rF HO434 BK438) hb); replace HO437 := Aside0.mk (Kd.R_below (rF HO437 BK438) hb); have HO441 := Aside0.mk (Kd.R_lower ho0 (below_size t23_)); replace BK438 := Aside0.mk (blk_below (g := gb438) (o := .cells #[.slice Ao8 t432.length co8] 30 (0, 0)) (zP BK438) hb); replace HB := bS t23_ hb; (try clear hb); (try clear ho0)))
   go_loopg [6] k (fun kq v6 w' => ∃ (x6_1 : Int), v6 = .int .i64 x6_1 ∧ Aside0 (laws_FnTorn.l0 kq t435 t439 x6_1 t432 = some r) ∧ Aside0 (kq ≤ k) ∧ Aside0 (Kd.R k65 65 w' w.heap.size (fun _ => True) v436 t435) ∧ Aside0 (Kd.R (Kd.int .i64) 3 w' w.heap.size (fun _ => True) v440 t439) ∧ Aside0 (Kd.R k71 71 w' w.heap.size (fun _ => True) (.slice Ao8 t432.length co8) t432) ∧ Aside0 (w'.heap[gb438]? = some (.cells #[(.slice Ao8 t432.length co8)] 30 (0, 0))) ∧ Aside0 (Below w.heap.size w w'))
   case atStart => exact ⟨(0), t27_, H', ⟨Nat.le_refl _⟩, ⟨zK HO437⟩, ⟨zK HO441⟩, ⟨zK HO434⟩, ⟨zN BK438⟩, ⟨t23_⟩⟩
   case round => as_aux_lemma =>
    clear H'
    try clear c2
    try clear p2
    try clear c3
    try clear c5
    try clear hcz9_0
    try clear hfz9_0
    obtain ⟨x6_1, rfl, HA, HK1, HO_4, HO_5, HO_439000, BK438, HB⟩ := hrel
    cases gk with
    | zero => exact absurd HA.out (by simp [laws_FnTorn.l0])
    | succ k1 =>
     have H := HA.out; clear HA; simp only [laws_FnTorn.l0] at H; by_cases c11 : x6_1 < (t435.length : Int)
     · rw [if_pos c11] at H; have c11b0 : decide (x6_1 < (t435.length : Int)) = true := decide_eq_true c11; clear c11; have HC12 := Aside0.mk H; clear H; obtain ⟨Ao13, co13, eo13⟩ := Kd.R_slice HO_4.out; subst eo13
       go_upto_region 8 with (fail)
       go_cut [54] (fun v54 wc => ∃ (kq : Nat) (x54_11 : Bool), v54 = .bool x54_11 ∧ Aside0 (laws_FnTorn.j1 kq t435 t439 x6_1 x54_11 t432 = some r) ∧ Aside0 (kq ≤ k1) ∧ Aside0 (Kd.R k65 65 wc w.heap.size (fun _ => True) (.slice Ao13 t435.length co13) t435) ∧ Aside0 (Kd.R (Kd.int .i64) 3 wc w.heap.size (fun _ => True) v440 t439) ∧ Aside0 (Kd.R k71 71 wc w.heap.size (fun _ => True) (.slice Ao8 t432.length co8) t432) ∧ Aside0 (wc.heap[gb438]? = some (.cells #[(.slice Ao8 t432.length co8)] 30 (0, 0))) ∧ Aside0 (Below w.heap.size w wc))
       case first => as_aux_lemma =>
        have H := HC12.out; clear HC12; by_cases c14 : 0 ≤ x6_1
        · rw [if_pos c14] at H; have c14b0 : decide (0 ≤ x6_1) = true := decide_eq_true c14; clear c14
          (first | rw [c14b0] | (simp only [i64_w, i32_w]; rw [c14b0]) | skip)
          by_cases c15 : ((rd_T65 t435 x6_1).f0) > 2
          · rw [if_pos c15] at H; have c15b0 : decide (2 < ((rd_T65 t435 x6_1).f0)) = true := decide_eq_true c15; clear c15; have H' := Aside0.mk H; clear H; have p448 : 0 ≤ (x6_1 : Int) := of_decide_eq_true t7_; have q448 : x6_1 < (t435.length : Int) := of_decide_eq_true t7_; obtain ⟨ad448, e448, hx448_0, hx448_1, hx448_2, hx448_3⟩ := at_T65 (Kd.R_reads' HO_4.out).2.2 x6_1 p448 q448
            cases e448
            replace p448 := eq_true p448; replace q448 := eq_true q448; go_wp2; go_meet
            case rel => exact ⟨_, (true), t27_, H', ⟨by have := HK1.out; first | omega | exact Nat.le_refl _⟩, ⟨zK HO_4⟩, ⟨zK HO_5⟩, ⟨zK HO_439000⟩, ⟨zN BK438⟩, ⟨t23_⟩⟩
          · rw [if_neg c15] at H; have c15b0 : decide (2 < ((rd_T65 t435 x6_1).f0)) = false := decide_eq_false c15; clear c15; have H' := Aside0.mk H; clear H; have p448 : 0 ≤ (x6_1 : Int) := of_decide_eq_true t7_; have q448 : x6_1 < (t435.length : Int) := of_decide_eq_true t7_; obtain ⟨ad448, e448, hx448_0, hx448_1, hx448_2, hx448_3⟩ := at_T65 (Kd.R_reads' HO_4.out).2.2 x6_1 p448 q448
            cases e448
            replace p448 := eq_true p448; replace q448 := eq_true q448; have p449 : 0 ≤ (x6_1 : Int) := of_decide_eq_true t7_; have q449 : x6_1 < (t435.length : Int) := of_decide_eq_true t7_; obtain ⟨ad449, e449, hx449_0, hx449_1, hx449_2, hx449_3⟩ := at_T65 (Kd.R_reads' HO_4.out).2.2 x6_1 p449 q449; obtain rfl : ad448 = ad449 := (by injection e449); replace p449 := eq_true p449; replace q449 := eq_true q449; go_wp2; go_meet
            case rel => exact ⟨_, (((((rd_T65 t435 x6_1).f3).size : Int) == 0)), t27_, H', ⟨by have := HK1.out; first | omega | exact Nat.le_refl _⟩, ⟨zK HO_4⟩, ⟨zK HO_5⟩, ⟨zK HO_439000⟩, ⟨zN BK438⟩, ⟨t23_⟩⟩
        · rw [if_neg c14] at H; exact absurd H (by simp)
       case rest => as_aux_lemma =>
        clear HC12
        try clear c1
        try clear c2
        try clear p2
        try clear c3
        try clear p4
        try clear q4
        try clear hx4
        try clear c5
        try clear c11
        try clear c11b0
        try clear c14
        try clear c14b0
        try clear c15
        try clear c15b0
        try clear hcz9_0
        try clear hfz9_0
        try clear hx448_0
        try clear hx448_1
        try clear hx448_2
        try clear hx448_3
        try clear hx449_0
        try clear hx449_1
        try clear hx449_2
        try clear hx449_3
        try clear p2
        try clear p448
        try clear p449
        try clear q448
        try clear q449
        obtain ⟨kq, x54_11, rfl, HA, HJ11, HO_4, HO_5, HO_439000, BK438, HB⟩ := hcut
        cases kq with
        | zero => exact absurd HA.out (by simp [laws_FnTorn.j1])
        | succ kj11 =>
         have H := HA.out; clear HA; simp only [laws_FnTorn.j1] at H; by_cases c16 : x54_11 = true
         · subst c16; have H1 : (laws_FnTorn.l0 kj11 t435 t439 (wrap64 (x6_1 + 1)) t432) = some r := by rw [if_pos rfl] at H; exact H
           clear H; have H := H1; clear H1; have H' := Aside0.mk H; clear H; go_wp2
           go_roundg kj11
           case measure => have := HK1.out; have := HJ11.out; omega
           case rel => exact ⟨(wrap64 (x6_1 + 1)), t27_, H', ⟨by have := HK1.out; have := HJ11.out; omega⟩, ⟨zK HO_4⟩, ⟨zK HO_5⟩, ⟨zK HO_439000⟩, ⟨zN BK438⟩, ⟨t23_⟩⟩
         · replace c16 := Bool.eq_false_iff.mpr c16; subst c16; have H1 : (if 0 ≤ (Int.tmod x6_1 12) then (if (Int.tmod x6_1 12) < (t439.length : Int) then (if 0 ≤ x6_1 then (if x6_1 < (t435.length : Int) then (if (((rd_T65 t435 x6_1).f3).size : Int) = 0 then (none) else (if x6_1 ≤ (t435.length : Int) then ((impl_PutRaws.f kj11 t432 (t435.take (x6_1 : Int).toNat)).bind fun bt456 => (if 0 ≤ (wrap64 (x6_1 + 1)) then (if (wrap64 (x6_1 + 1)) ≤ (t435.length : Int) then ((impl_PutRaws.f kj11 t432 (t435.take ((wrap64 (x6_1 + 1)) : Int).toNat)).bind fun bt465 => ((impl_CutRaws.f kj11 t432 t435 x6_1 (wrap64 (1 + (Int.tmod (rd t439 (Int.tmod x6_1 12)) (((rd_T65 t435 x6_1).f3).size : Int))))).bind fun bt470 => (if bt470.2 = true then (laws_FnTorn.j2 kj11 t435 t439 x6_1 (bt465.2 != (wrap64 (x6_1 + 1))) t432 bt456.1 bt465.1 bt470.1) else (laws_FnTorn.j2 kj11 t435 t439 x6_1 true t432 bt456.1 bt465.1 bt470.1)))) else (none)) else (none))) else (none))) else (none)) else (none)) else (none)) else (none)) = some r := by rw [if_neg (show ¬ (false = true) by decide)] at H; exact H
           clear H; have H := H1; clear H1; obtain ⟨ji17, hji17⟩ : ∃ j_ : Int, (Int.tmod x6_1 12) = j_ := ⟨_, rfl⟩; replace H : (if 0 ≤ (ji17) then (if (ji17) < (t439.length : Int) then (if 0 ≤ x6_1 then (if x6_1 < (t435.length : Int) then (if (((rd_T65 t435 x6_1).f3).size : Int) = 0 then (none) else (if x6_1 ≤ (t435.length : Int) then ((impl_PutRaws.f kj11 t432 (t435.take (x6_1 : Int).toNat)).bind fun bt456 => (if 0 ≤ (wrap64 (x6_1 + 1)) then (if (wrap64 (x6_1 + 1)) ≤ (t435.length : Int) then ((impl_PutRaws.f kj11 t432 (t435.take ((wrap64 (x6_1 + 1)) : Int).toNat)).bind fun bt465 => ((impl_CutRaws.f kj11 t432 t435 x6_1 (wrap64 (1 + (Int.tmod (rd t439 (ji17)) (((rd_T65 t435 x6_1).f3).size : Int))))).bind fun bt470 => (if bt470.2 = true then (laws_FnTorn.j2 kj11 t435 t439 x6_1 (bt465.2 != (wrap64 (x6_1 + 1))) t432 bt456.1 bt465.1 bt470.1) else (laws_FnTorn.j2 kj11 t435 t439 x6_1 true t432 bt456.1 bt465.1 bt470.1)))) else (none)) else (none))) else (none))) else (none)) else (none)) else (none)) else (none)) = some r := by first | (rw [hji17] at H; exact H) | (simp only [hji17] at H ⊢; exact H)
           by_cases c18 : 0 ≤ (ji17)
           · rw [if_pos c18] at H; have c18b0 : decide (0 ≤ (ji17)) = true := decide_eq_true c18; clear c18; by_cases c19 : (ji17) < (t439.length : Int)
             · rw [if_pos c19] at H; have c19b0 : decide ((ji17) < (t439.length : Int)) = true := decide_eq_true c19; clear c19; by_cases c20 : 0 ≤ x6_1
               · rw [if_pos c20] at H; have c20b0 : decide (0 ≤ x6_1) = true := decide_eq_true c20; clear c20; by_cases c21 : x6_1 < (t435.length : Int)
                 · rw [if_pos c21] at H; have c21b0 : decide (x6_1 < (t435.length : Int)) = true := decide_eq_true c21; clear c21; by_cases c22 : (((rd_T65 t435 x6_1).f3).size : Int) = 0
                   · rw [if_pos c22] at H; exact absurd H (by simp)
                   · rw [if_neg c22] at H; have c22b0 : ((((rd_T65 t435 x6_1).f3).size : Int) == 0) = false := beq_eq_false_iff_ne.mpr c22; have c22b8 : (((rd_T65 t435 x6_1).f3) = ByteArray.empty) = False := eq_false (fun h_ => c22 (by rw [h_]; rfl)); have c22b1 : ((((rd_T65 t435 x6_1).f3).size : Int) != 0) = true := bne_iff_ne.mpr c22; have c23b0 := eq_true (of_decide_eq_true t7_ : 0 ≤ x6_1); by_cases c24 : x6_1 ≤ (t435.length : Int)
                     · rw [if_pos c24] at H; have c24b0 := eq_true c24; have c24b1 : decide (x6_1 ≤ (t435.length : Int)) = true := decide_eq_true c24; clear c24; obtain ⟨y452, hy452⟩ : ∃ y_ : List (S65), y_ = (t435.take (x6_1 : Int).toNat) := ⟨_, rfl⟩; replace H : ((impl_PutRaws.f kj11 t432 y452).bind fun bt456 => (if 0 ≤ (wrap64 (x6_1 + 1)) then (if (wrap64 (x6_1 + 1)) ≤ (t435.length : Int) then ((impl_PutRaws.f kj11 t432 (t435.take ((wrap64 (x6_1 + 1)) : Int).toNat)).bind fun bt465 => ((impl_CutRaws.f kj11 t432 t435 x6_1 (wrap64 (1 + (Int.tmod (rd t439 (ji17)) (((rd_T65 t435 x6_1).f3).size : Int))))).bind fun bt470 => (if bt470.2 = true then (laws_FnTorn.j2 kj11 t435 t439 x6_1 (bt465.2 != (wrap64 (x6_1 + 1))) t432 bt456.1 bt465.1 bt470.1) else (laws_FnTorn.j2 kj11 t435 t439 x6_1 true t432 bt456.1 bt465.1 bt470.1)))) else (none)) else (none))) = some r := by first | (rw [hy452]; with_reducible exact H) | (have H2_ := (Option.bind_some _ _).symm.trans H; rw [hy452]; with_reducible exact H2_) | (have H2_ := (Option.bind_some _ _).symm.trans H; with_reducible exact H2_) | with_reducible exact H | (rw [hy452]; exact H) | exact H
                       have Ny452 := Aside0.mk hy452; clear hy452; replace H := Option.bind_eq_some_iff.mp H; obtain ⟨⟨t456, t459⟩, A250, H⟩ := H; replace H : (if 0 ≤ (wrap64 (x6_1 + 1)) then (if (wrap64 (x6_1 + 1)) ≤ (t435.length : Int) then ((impl_PutRaws.f kj11 t432 (t435.take ((wrap64 (x6_1 + 1)) : Int).toNat)).bind fun bt465 => ((impl_CutRaws.f kj11 t432 t435 x6_1 (wrap64 (1 + (Int.tmod (rd t439 (ji17)) (((rd_T65 t435 x6_1).f3).size : Int))))).bind fun bt470 => (if bt470.2 = true then (laws_FnTorn.j2 kj11 t435 t439 x6_1 (bt465.2 != (wrap64 (x6_1 + 1))) t432 t456 bt465.1 bt470.1) else (laws_FnTorn.j2 kj11 t435 t439 x6_1 true t432 t456 bt465.1 bt470.1)))) else (none)) else (none)) = some r := H; have A25 := Aside0.mk A250; clear A250; obtain ⟨ji26, hji26⟩ : ∃ j_ : Int, (wrap64 (x6_1 + 1)) = j_ := ⟨_, rfl⟩; replace H : (if 0 ≤ (ji26) then (if (ji26) ≤ (t435.length : Int) then ((impl_PutRaws.f kj11 t432 (t435.take ((ji26) : Int).toNat)).bind fun bt465 => ((impl_CutRaws.f kj11 t432 t435 x6_1 (wrap64 (1 + (Int.tmod (rd t439 (ji17)) (((rd_T65 t435 x6_1).f3).size : Int))))).bind fun bt470 => (if bt470.2 = true then (laws_FnTorn.j2 kj11 t435 t439 x6_1 (bt465.2 != (ji26)) t432 t456 bt465.1 bt470.1) else (laws_FnTorn.j2 kj11 t435 t439 x6_1 true t432 t456 bt465.1 bt470.1)))) else (none)) else (none)) = some r := by first | (rw [hji26] at H; exact H) | (simp only [hji26] at H ⊢; exact H)
                       (try rw [hji26] at A25)
                       have hji26w : (IntKind.i64.wrap (x6_1 + 1)) = ji26 := (i64_w _).trans hji26; by_cases c27 : 0 ≤ (ji26)
                       · rw [if_pos c27] at H; have c27b0 := eq_true c27; have c27b1 : decide (0 ≤ (ji26)) = true := decide_eq_true c27; clear c27; by_cases c28 : (ji26) ≤ (t435.length : Int)
                         · rw [if_pos c28] at H; have c28b0 := eq_true c28; have c28b1 : decide ((ji26) ≤ (t435.length : Int)) = true := decide_eq_true c28; clear c28; obtain ⟨y461, hy461⟩ : ∃ y_ : List (S65), y_ = (t435.take ((ji26) : Int).toNat) := ⟨_, rfl⟩; replace H : ((impl_PutRaws.f kj11 t432 y461).bind fun bt465 => ((impl_CutRaws.f kj11 t432 t435 x6_1 (wrap64 (1 + (Int.tmod (rd t439 (ji17)) (((rd_T65 t435 x6_1).f3).size : Int))))).bind fun bt470 => (if bt470.2 = true then (laws_FnTorn.j2 kj11 t435 t439 x6_1 (bt465.2 != (ji26)) t432 t456 bt465.1 bt470.1) else (laws_FnTorn.j2 kj11 t435 t439 x6_1 true t432 t456 bt465.1 bt470.1)))) = some r := by first | (rw [hy461]; with_reducible exact H) | (have H2_ := (Option.bind_some _ _).symm.trans H; rw [hy461]; with_reducible exact H2_) | (have H2_ := (Option.bind_some _ _).symm.trans H; with_reducible exact H2_) | with_reducible exact H | (rw [hy461]; exact H) | exact H
                           have Ny461 := Aside0.mk hy461; clear hy461; replace H := Option.bind_eq_some_iff.mp H; obtain ⟨⟨t465, t468⟩, A290, H⟩ := H; replace H : ((impl_CutRaws.f kj11 t432 t435 x6_1 (wrap64 (1 + (Int.tmod (rd t439 (ji17)) (((rd_T65 t435 x6_1).f3).size : Int))))).bind fun bt470 => (if bt470.2 = true then (laws_FnTorn.j2 kj11 t435 t439 x6_1 (t468 != (ji26)) t432 t456 t465 bt470.1) else (laws_FnTorn.j2 kj11 t435 t439 x6_1 true t432 t456 t465 bt470.1))) = some r := H; have A29 := Aside0.mk A290; clear A290; replace H := Option.bind_eq_some_iff.mp H; obtain ⟨⟨t470, t473⟩, A300, H⟩ := H; replace H : (if t473 = true then (laws_FnTorn.j2 kj11 t435 t439 x6_1 (t468 != (ji26)) t432 t456 t465 t470) else (laws_FnTorn.j2 kj11 t435 t439 x6_1 true t432 t456 t465 t470)) = some r := H; have A30 := Aside0.mk A300; clear A300; have HC31 := Aside0.mk H; clear H
                           try go_wp2
                           replace HO_4 := Aside0.mk (Kd.R_drew HO_4.out); replace HO_5 := Aside0.mk (Kd.R_drew HO_5.out); replace HO_439000 := Aside0.mk (Kd.R_drew HO_439000.out); replace BK438 := Aside0.mk (blk_drew BK438.out); replace HB := Aside0.mk (below_drew1 HB.out); obtain ⟨Ao33, co33, eo33⟩ := Kd.R_slice HO_5.out
                           (first | subst eo33 | (injection eo33 with f1_ f2_ f3_; have f4_ := f1_.symm; have f5_ := f3_.symm; clear f1_ f2_ f3_; subst f4_; subst f5_))
                           have p450 : 0 ≤ ((ji17) : Int) := of_decide_eq_true t7_; have q450 : (ji17) < (t439.length : Int) := of_decide_eq_true t7_; obtain ⟨ad450, e450, hx450_0⟩ := Kd.at_int (Kd.R_reads' HO_5.out).2.2 (ji17) p450 q450
                           cases e450
                           replace p450 := eq_true p450; replace q450 := eq_true q450; have p451 : 0 ≤ (x6_1 : Int) := of_decide_eq_true t7_; have q451 : x6_1 < (t435.length : Int) := of_decide_eq_true t7_; obtain ⟨ad451, e451, hx451_0, hx451_1, hx451_2, hx451_3⟩ := at_T65 (Kd.R_reads' HO_4.out).2.2 x6_1 p451 q451
                           cases e451
                           replace p451 := eq_true p451; replace q451 := eq_true q451; refine start_ (n := 14) (S := fun w' => w'.cell? (ad450.add ((ji17)).toNat) = some (.int .i64 (rd t439 (ji17))) ∧ w'.cell? (ad451.add ((x6_1).toNat * 4)) = some (.int .i64 ((rd_T65 t435 x6_1).f0)) ∧ w'.cell? ⟨(ad451.add ((x6_1).toNat * 4)).block, (ad451.add ((x6_1).toNat * 4)).off + 1, none⟩ = some (.string ((rd_T65 t435 x6_1).f1)) ∧ w'.cell? ⟨(ad451.add ((x6_1).toNat * 4)).block, (ad451.add ((x6_1).toNat * 4)).off + 2, none⟩ = some (.string ((rd_T65 t435 x6_1).f2)) ∧ w'.cell? ⟨(ad451.add ((x6_1).toNat * 4)).block, (ad451.add ((x6_1).toNat * 4)).off + 3, none⟩ = some (.string ((rd_T65 t435 x6_1).f3))) (ds := []) #[false, false, false, false, false, false, false, false, false, false, false, false, false, false] (by kernel_rfl) rfl rfl ⟨hx450_0, hx451_0, hx451_1, hx451_2, hx451_3⟩ (fun hHeld => ?_); refine with_tabW laws_FnTorn.tab9 laws_FnTorn.bits9 (fun HT_ HW_ => ?_)
                           generalize wc.drew = w32 at HO_4 HO_5 HO_439000 BK438 HB hx450_0 hx451_0 hx451_1 hx451_2 hx451_3 hHeld ⊢; refine pure_ (i := 0) (N := some 55) (v := ?_) (a' := ?_) #[true, false, false, false, false, false, false, false, false, false, false, false, false, false] rfl rfl (any_of HT_.out (by kernel_rfl)) (fun _ _ _ h => h) (Or.inl ⟨by rfl, ?_⟩) ?_ ?_
                           rotate_left
                           · intro w'; go_simp; with_reducible rfl
                           rotate_left
                           · simp only [Act.put, ps1, ps2, ps3, i64_w, i32_w]; rfl
                           refine pure_ (i := 1) (N := some 56) (v := ?_) (a' := ?_) #[true, true, false, false, false, false, false, false, false, false, false, false, false, false] rfl rfl (any_of HT_.out (by kernel_rfl)) (fun _ _ _ h => h) (Or.inl ⟨by rfl, ?_⟩) ?_ ?_
                           rotate_left
                           · intro w'; go_simp; with_reducible rfl
                           rotate_left
                           · simp only [Act.put, ps1, ps2, ps3, i64_w, i32_w]; rfl
                           refine pure_ (i := 2) (N := some 57) (v := ?_) (a' := ?_) #[true, true, true, false, false, false, false, false, false, false, false, false, false, false] rfl rfl (any_of HT_.out (by kernel_rfl)) (fun _ _ _ h => h) (Or.inl ⟨by rfl, ?_⟩) ?_ ?_
                           rotate_left
                           · intro w'; go_simp; with_reducible rfl
                           rotate_left
                           · simp only [Act.put, ps1, ps2, ps3, i64_w, i32_w]; rfl
                           refine pure_ (i := 3) (N := some 58) (v := ?_) (a' := ?_) #[true, true, true, true, false, false, false, false, false, false, false, false, false, false] rfl rfl (any_of HT_.out (by kernel_rfl)) (fun _ _ _ h => h) (Or.inl ⟨by rfl, ?_⟩) ?_ ?_
                           rotate_left
                           · intro w'; go_simp; with_reducible rfl
                           rotate_left
                           · simp only [Act.put, ps1, ps2, ps3, i64_w, i32_w]; rfl
                           refine pure_ (i := 5) (N := some 60) (v := ?_) (a' := ?_) #[true, true, true, true, false, true, false, false, false, false, false, false, false, false] rfl rfl (any_of HT_.out (by kernel_rfl)) (fun _ _ _ h => h) (Or.inl ⟨by rfl, ?_⟩) ?_ ?_
                           rotate_left
                           · intro w'; go_simp; with_reducible rfl
                           rotate_left
                           · simp only [Act.put, ps1, ps2, ps3, i64_w, i32_w]; rfl
                           refine pure_ (i := 6) (N := some 61) (v := ?_) (a' := ?_) #[true, true, true, true, false, true, true, false, false, false, false, false, false, false] rfl rfl (any_of HT_.out (by kernel_rfl)) (fun _ _ _ h => h) (Or.inl ⟨by rfl, ?_⟩) ?_ ?_
                           rotate_left
                           · intro w'; go_simp; with_reducible rfl
                           rotate_left
                           · simp only [Act.put, ps1, ps2, ps3, i64_w, i32_w]; rfl
                           refine pure_ (i := 7) (N := some 62) (v := ?_) (a' := ?_) #[true, true, true, true, false, true, true, true, false, false, false, false, false, false] rfl rfl (any_of HT_.out (by kernel_rfl)) (fun _ _ _ h => h) (Or.inl ⟨by rfl, ?_⟩) ?_ ?_
                           rotate_left
                           · intro w'; go_simp; with_reducible rfl
                           rotate_left
                           · simp only [Act.put, ps1, ps2, ps3, i64_w, i32_w]; rfl
                           refine pure_ (i := 8) (N := some 63) (v := ?_) (a' := ?_) #[true, true, true, true, false, true, true, true, true, false, false, false, false, false] rfl rfl (any_of HT_.out (by kernel_rfl)) (fun _ _ _ h => h) (Or.inl ⟨by rfl, ?_⟩) ?_ ?_
                           rotate_left
                           · intro w'; go_simp; with_reducible rfl
                           rotate_left
                           · simp only [Act.put, ps1, ps2, ps3, i64_w, i32_w]; rfl
                           refine take_ (i := 4) (N := some 59) (v := ?_) (a' := ?_) #[true, true, true, true, true, true, true, true, true, false, false, false, false, false] rfl rfl (take_ofW HT_.out HW_.out (by kernel_rfl)) (fun _ _ _ h => h) (Or.inl ⟨by rfl, ?_⟩) hHeld ?_ ?_
                           rotate_left
                           · rintro w' ⟨s0, s1, s2, s3, s4⟩; go_simp; with_reducible rfl
                           rotate_left
                           · simp only [Act.put, ps1, ps2, ps3, i64_w, i32_w]; rfl
                           refine take_ (i := 9) (N := some 64) (v := ?_) (a' := ?_) #[true, true, true, true, true, true, true, true, true, true, false, false, false, false] rfl rfl (take_ofW HT_.out HW_.out (by kernel_rfl)) (fun _ _ _ h => h) (Or.inl ⟨by rfl, ?_⟩) hHeld ?_ ?_
                           rotate_left
                           · rintro w' ⟨s0, s1, s2, s3, s4⟩; go_simp; with_reducible rfl
                           rotate_left
                           · simp only [Act.put, ps1, ps2, ps3, i64_w, i32_w]; rfl
                           refine pure_ (i := 10) (N := some 65) (v := ?_) (a' := ?_) #[true, true, true, true, true, true, true, true, true, true, true, false, false, false] rfl rfl (any_of HT_.out (by kernel_rfl)) (fun _ _ _ h => h) (Or.inl ⟨by rfl, ?_⟩) ?_ ?_
                           rotate_left
                           · intro w'; go_simp; with_reducible rfl
                           rotate_left
                           · simp only [Act.put, ps1, ps2, ps3, i64_w, i32_w]; rfl
                           refine pure_ (i := 11) (N := some 66) (v := ?_) (a' := ?_) #[true, true, true, true, true, true, true, true, true, true, true, true, false, false] rfl rfl (any_of HT_.out (by kernel_rfl)) (fun _ _ _ h => h) (Or.inl ⟨by rfl, ?_⟩) ?_ ?_
                           rotate_left
                           · intro w'; go_simp; with_reducible rfl
                           rotate_left
                           · simp only [Act.put, ps1, ps2, ps3, i64_w, i32_w]; rfl
                           refine pure_ (i := 12) (N := some 67) (v := ?_) (a' := ?_) #[true, true, true, true, true, true, true, true, true, true, true, true, true, false] rfl rfl (any_of HT_.out (by kernel_rfl)) (fun _ _ _ h => h) (Or.inl ⟨by rfl, ?_⟩) ?_ ?_
                           rotate_left
                           · intro w'; go_simp; with_reducible rfl
                           rotate_left
                           · simp only [Act.put, ps1, ps2, ps3, i64_w, i32_w]; rfl
                           refine pure_ (i := 13) (N := some 7) (v := ?_) (a' := ?_) #[true, true, true, true, true, true, true, true, true, true, true, true, true, true] rfl rfl (any_of HT_.out (by kernel_rfl)) (fun _ _ _ h => h) (Or.inl ⟨by rfl, ?_⟩) ?_ ?_
                           rotate_left
                           · intro w'; go_simp; with_reducible rfl
                           rotate_left
                           · simp only [Act.put, ps1, ps2, ps3, i64_w, i32_w]; rfl
                           refine done_ (done_of HT_.out (by kernel_rfl)) ?_
                           try go_wp2
                           replace HO_4 := Aside0.mk (Kd.R_drew HO_4.out); replace HO_5 := Aside0.mk (Kd.R_drew HO_5.out); replace HO_439000 := Aside0.mk (Kd.R_drew HO_439000.out); replace BK438 := Aside0.mk (blk_drew BK438.out); replace HB := Aside0.mk (below_drew1 HB.out); have q35 : (x6_1 : Int) ≤ ((t435.length : Int) : Int) := of_decide_eq_true t7_; obtain ⟨i035, hi035, _, hsz35, _⟩ := info_parts info65; have hroom35 : t435.length ≤ co13 := (Kd.R_reads' HO_4.out).2.1; have hC35 : Kd.C k65 _ (some ad451) t435.length t435 := (Kd.R_reads' HO_4.out).2.2; have hcut35 := cut_to (P := Try.prog) 34 65 .i64 Try.underlying34 hi035 (some ad451) t435.length co13 x6_1 (of_decide_eq_true t7_) q35 hroom35; have hr35 := Kd.C_take (m := (x6_1 : Int).toNat) hC35 (by omega); have hy35 : y452.length = (x6_1 : Int).toNat := (by rw [Ny452.out, List.length_take]; omega); rw [← Ny452.out] at hr35; rw [← hy35] at hcut35; have HR455 := Aside0.mk hr35; have HC455 := Aside0.mk (show y452.length ≤ co13 from by omega); clear hr35 hC35 hroom35 hi035 hsz35; have KY35 := Aside0.mk hy35; clear hy35; have KL35 := Aside0.mk (show (x6_1 : Int).toNat ≤ t435.length from by omega); replace q35 := eq_true q35; refine start_ (n := 11) (S := fun w' => w'.cell? ⟨gb438, 0, none⟩ = some (.slice Ao8 t432.length co8)) (ds := []) #[false, false, false, false, false, false, false, false, false, false, false] (by kernel_rfl) rfl rfl (bc0 BK438) (fun hHeld => ?_); refine with_tabW laws_FnTorn.tab10 laws_FnTorn.bits10 (fun HT_ HW_ => ?_)
                           generalize w32.drew = w34 at HO_4 HO_5 HO_439000 BK438 HB HR455 hHeld ⊢; refine pure_ (i := 1) (N := some 70) (v := ?_) (a' := ?_) #[false, true, false, false, false, false, false, false, false, false, false] rfl rfl (any_of HT_.out (by kernel_rfl)) (fun _ _ _ h => h) (Or.inl ⟨by rfl, ?_⟩) ?_ ?_
                           rotate_left
                           · intro w'; go_simp; with_reducible rfl
                           rotate_left
                           · simp only [Act.put, ps1, ps2, ps3, i64_w, i32_w]; rfl
                           refine pure_ (i := 2) (N := some 71) (v := ?_) (a' := ?_) #[false, true, true, false, false, false, false, false, false, false, false] rfl rfl (any_of HT_.out (by kernel_rfl)) (fun _ _ _ h => h) (Or.inl ⟨by rfl, ?_⟩) ?_ ?_
                           rotate_left
                           · intro w'; go_simp; with_reducible rfl
                           rotate_left
                           · simp only [Act.put, ps1, ps2, ps3, i64_w, i32_w]; rfl
                           refine pure_ (i := 3) (N := some 72) (v := ?_) (a' := ?_) #[false, true, true, true, false, false, false, false, false, false, false] rfl rfl (any_of HT_.out (by kernel_rfl)) (fun _ _ _ h => h) (Or.inl ⟨by rfl, ?_⟩) ?_ ?_
                           rotate_left
                           · intro w'; go_simp; with_reducible rfl
                           rotate_left
                           · simp only [Act.put, ps1, ps2, ps3, i64_w, i32_w]; rfl
                           refine take_ (i := 0) (N := some 69) (v := ?_) (a' := ?_) #[true, true, true, true, false, false, false, false, false, false, false] rfl rfl (take_ofW HT_.out HW_.out (by kernel_rfl)) (fun _ _ _ h => h) (Or.inl ⟨by rfl, ?_⟩) hHeld ?_ ?_
                           rotate_left
                           · intro w' s0; go_simp; with_reducible rfl
                           rotate_left
                           · simp only [Act.put, ps1, ps2, ps3, i64_w, i32_w]; rfl
                           refine join_ (σ := Value × Nat) 2 #[true, true, true, true, true, true, true, true, true, false, false] (fun s_ => [(73, .tuple #[.agg #[s_.1], .int .i64 t459]), (8, .pointer (some ⟨s_.2, 0, none⟩)), (68, .tuple #[.agg #[s_.1], .int .i64 t459]), (74, .agg #[s_.1]), (75, .int .i64 t459)]) (fun s_ w' => (w'.cell? ⟨gb438, 0, none⟩ = some (.slice Ao8 t432.length co8)) ∧ (Kd.R k71 71 w' w.heap.size (fun _ => True) s_.1 t456) ∧ (Kd.R k65 65 w' w.heap.size (fun _ => True) (.slice (some ad451) t435.length co13) t435) ∧ (Kd.R k71 71 w' w.heap.size (fun _ => True) (.slice Ao8 t432.length co8) t432) ∧ (Kd.R (Kd.int .i64) 3 w' w.heap.size (fun _ => True) (.slice (some ad450) t439.length co33) t439) ∧ (w'.heap[gb438]? = some (.cells #[.slice Ao8 t432.length co8] 30 (0, 0))) ∧ (w'.heap[s_.2]? = some (.cells #[.slice none 0 0] 30 (0, 0))) ∧ (w.heap.size ≤ s_.2) ∧ (w.heap.size ≤ s_.2) ∧ (gb438 ≠ s_.2) ∧ (s_.2 ≠ gb438) ∧ (Below w.heap.size w w')) ?_ ?_
                           rotate_left
                           · intro hCont; refine two_ (i := 4) (j := 8) (Ni := some 73) (Nj := some 8) #[true, true, true, true, true, false, false, false, false, false, false] #[true, true, true, true, false, false, false, false, true, false, false] rfl rfl rfl rfl (two_of HT_.out (by kernel_rfl)) (by decide) (by decide) (fun K hK => ?_) (fun K hK => ?_)
                             · skip
                               refine goes_ Try.func31 (by kernel_rfl) rfl #[.agg #[.slice Ao8 t432.length co8], .slice (some ad451) y452.length co13] (by rfl) rfl rfl t0_ ?_
                               with_reducible refine (impl_PutRaws.calls kj11 _ _ t432 _ _ y452 t456 t459 _ ?side1 ?side2 ?side3 ?side4 A25.out).mono ?_
                               (case side1 => repeat (first | exact (Kd.R_reads' HO_439000.out).2.2 | (with_reducible refine Kd.C_alloc ?_ _) | (with_reducible refine Kd.C_drewN ?_ _) | (with_reducible refine Kd.C_drew ?_)))
                               (case side2 => exact (Kd.R_reads' HO_439000.out).2.1)
                               (case side3 => repeat (first | exact t66_ | (with_reducible refine Kd.C_alloc ?_ _) | (with_reducible refine Kd.C_drewN ?_ _) | (with_reducible refine Kd.C_drew ?_)))
                               (case side4 => exact HC455.out)
                               rintro e w36 ⟨v457, rfl, ho0, hb⟩; refine ⟨_, rfl, ?_⟩
                               replace HO_4 := Aside0.mk (Kd.R_below t34_ hb); replace HO_5 := Aside0.mk (Kd.R_below t33_ hb); replace HO_439000 := Aside0.mk (Kd.R_below t35_ hb); have HO458 := Aside0.mk (Kd.R_lower ho0 (below_size t23_)); replace BK438 := bkN BK438 hb; replace HR455 := Aside0.mk (Kd.C_below t66_ hb); replace HB := bS t23_ hb
                               (try clear hb)
                               (try clear hb2)
                               (try clear hk)
                               (try clear hi)
                               (try clear ho0)
                               refine hK.out _ _ (bc0 BK438) (fun hHeld => ?_)
                               clear hK K; refine norm_ (a' := ?_) ?_ ?_
                               rotate_left
                               · show Act.put _ (some 73) _ = _
                                 simp only [Act.put, ps1, ps2, ps3, i64_w, i32_w]; rfl
                               refine pure_ (i := 5) (N := some 68) (v := ?_) (a' := ?_) #[true, true, true, true, true, true, false, false, false, false, false] rfl rfl (any_of HT_.out (by kernel_rfl)) (fun _ _ _ h => h) (Or.inl ⟨by rfl, ?_⟩) ?_ ?_
                               rotate_left
                               · intro w'; go_simp; with_reducible rfl
                               rotate_left
                               · simp only [Act.put, ps1, ps2, ps3, i64_w, i32_w]; rfl
                               refine pure_ (i := 6) (N := some 74) (v := ?_) (a' := ?_) #[true, true, true, true, true, true, true, false, false, false, false] rfl rfl (any_of HT_.out (by kernel_rfl)) (fun _ _ _ h => h) (Or.inl ⟨by rfl, ?_⟩) ?_ ?_
                               rotate_left
                               · intro w'; go_simp; with_reducible rfl
                               rotate_left
                               · simp only [Act.put, ps1, ps2, ps3, i64_w, i32_w]; rfl
                               refine pure_ (i := 7) (N := some 75) (v := ?_) (a' := ?_) #[true, true, true, true, true, true, true, true, false, false, false] rfl rfl (any_of HT_.out (by kernel_rfl)) (fun _ _ _ h => h) (Or.inl ⟨by rfl, ?_⟩) ?_ ?_
                               rotate_left
                               · intro w'; go_simp; with_reducible rfl
                               rotate_left
                               · simp only [Act.put, ps1, ps2, ps3, i64_w, i32_w]; rfl
                               refine one_ (i := 8) (N := some 8) #[true, true, true, true, true, true, true, true, true, false, false] rfl rfl (one_of HT_.out (by kernel_rfl)) (by decide) (fun K hK => ?_)
                               refine box_step ?hg (N := 8) ?hd (cs := #[.slice none 0 0]) (t := 30) ?hr ?_; (case hd => rfl); (case hg => rfl); (case hr => first | (go_simp; done) | (go_simp; rfl))
                               intro gb460 hg w37 hbox hb; replace HO_4 := Aside0.mk (Kd.R_below t34_ hb); replace HO_5 := Aside0.mk (Kd.R_below t33_ hb); replace HO_439000 := Aside0.mk (Kd.R_below t35_ hb); replace HO458 := Aside0.mk (Kd.R_below t68_ hb); replace HR455 := Aside0.mk (Kd.C_below t66_ hb); have BK460 := Aside0.mk (hbox); have GW460 := Aside0.mk ((t64_ : w.heap.size ≤ gb460)); have GE460 := GW460; replace HB := bS t23_ hb; have NB438_460 := nbL BK438 hg; have NB460_438 := nbG BK438 hg; replace BK438 := bkN BK438 hb; clear hb hbox hg; refine hK.out _ _ (bc0 BK438) (fun hHeld => ?_)
                               clear hK K; refine norm_ (a' := ?_) ?_ ?_
                               rotate_left
                               · show Act.put _ (some 8) _ = _
                                 simp only [Act.put, ps1, ps2, ps3, i64_w, i32_w]; rfl
                               exact norm_ t103_ (hCont (v457, gb460) _ ⟨hHeld, t68_, t34_, t35_, t33_, t97_, t98_, GW460.out, GE460.out, NB438_460.out, NB460_438.out, t32_⟩)
                             · skip
                               refine box_step ?hg (N := 8) ?hd (cs := #[.slice none 0 0]) (t := 30) ?hr ?_; (case hd => rfl); (case hg => rfl); (case hr => first | (go_simp; done) | (go_simp; rfl))
                               intro gb460 hg w36 hbox hb; replace HO_4 := Aside0.mk (Kd.R_below t34_ hb); replace HO_5 := Aside0.mk (Kd.R_below t33_ hb); replace HO_439000 := Aside0.mk (Kd.R_below t35_ hb); replace HR455 := Aside0.mk (Kd.C_below t66_ hb); have BK460 := Aside0.mk (hbox); have GW460 := Aside0.mk ((t64_ : w.heap.size ≤ gb460)); have GE460 := GW460; replace HB := bS t23_ hb; have NB438_460 := nbL BK438 hg; have NB460_438 := nbG BK438 hg; replace BK438 := bkN BK438 hb; clear hb hbox hg; refine hK.out _ _ (bc0 BK438) (fun hHeld => ?_)
                               clear hK K; refine norm_ (a' := ?_) ?_ ?_
                               rotate_left
                               · show Act.put _ (some 8) _ = _
                                 simp only [Act.put, ps1, ps2, ps3, i64_w, i32_w]; rfl
                               refine one_ (i := 4) (N := some 73) #[true, true, true, true, true, false, false, false, true, false, false] rfl rfl (one_of HT_.out (by kernel_rfl)) (by decide) (fun K hK => ?_)
                               refine goes_ Try.func31 (by kernel_rfl) rfl #[.agg #[.slice Ao8 t432.length co8], .slice (some ad451) y452.length co13] (by rfl) rfl rfl t0_ ?_
                               with_reducible refine (impl_PutRaws.calls kj11 _ _ t432 _ _ y452 t456 t459 _ ?side1 ?side2 ?side3 ?side4 A25.out).mono ?_
                               (case side1 => repeat (first | exact (Kd.R_reads' HO_439000.out).2.2 | (with_reducible refine Kd.C_alloc ?_ _) | (with_reducible refine Kd.C_drewN ?_ _) | (with_reducible refine Kd.C_drew ?_)))
                               (case side2 => exact (Kd.R_reads' HO_439000.out).2.1)
                               (case side3 => repeat (first | exact t66_ | (with_reducible refine Kd.C_alloc ?_ _) | (with_reducible refine Kd.C_drewN ?_ _) | (with_reducible refine Kd.C_drew ?_)))
                               (case side4 => exact HC455.out)
                               rintro e w37 ⟨v457, rfl, ho0, hb⟩; refine ⟨_, rfl, ?_⟩
                               replace HO_4 := Aside0.mk (Kd.R_below t34_ hb); replace HO_5 := Aside0.mk (Kd.R_below t33_ hb); replace HO_439000 := Aside0.mk (Kd.R_below t35_ hb); have HO458 := Aside0.mk (Kd.R_lower ho0 (below_size t32_)); replace BK438 := bkN BK438 hb; replace HR455 := Aside0.mk (Kd.C_below t66_ hb); replace BK460 := bkN BK460 hb; replace HB := bS t32_ hb
                               (try clear hb)
                               (try clear hb2)
                               (try clear hk)
                               (try clear hi)
                               (try clear ho0)
                               refine hK.out _ _ (bc0 BK438) (fun hHeld => ?_)
                               clear hK K; refine norm_ (a' := ?_) ?_ ?_
                               rotate_left
                               · show Act.put _ (some 73) _ = _
                                 simp only [Act.put, ps1, ps2, ps3, i64_w, i32_w]; rfl
                               refine pure_ (i := 5) (N := some 68) (v := ?_) (a' := ?_) #[true, true, true, true, true, true, false, false, true, false, false] rfl rfl (any_of HT_.out (by kernel_rfl)) (fun _ _ _ h => h) (Or.inl ⟨by rfl, ?_⟩) ?_ ?_
                               rotate_left
                               · intro w'; go_simp; with_reducible rfl
                               rotate_left
                               · simp only [Act.put, ps1, ps2, ps3, i64_w, i32_w]; rfl
                               refine pure_ (i := 6) (N := some 74) (v := ?_) (a' := ?_) #[true, true, true, true, true, true, true, false, true, false, false] rfl rfl (any_of HT_.out (by kernel_rfl)) (fun _ _ _ h => h) (Or.inl ⟨by rfl, ?_⟩) ?_ ?_
                               rotate_left
                               · intro w'; go_simp; with_reducible rfl
                               rotate_left
                               · simp only [Act.put, ps1, ps2, ps3, i64_w, i32_w]; rfl
                               refine pure_ (i := 7) (N := some 75) (v := ?_) (a' := ?_) #[true, true, true, true, true, true, true, true, true, false, false] rfl rfl (any_of HT_.out (by kernel_rfl)) (fun _ _ _ h => h) (Or.inl ⟨by rfl, ?_⟩) ?_ ?_
                               rotate_left
                               · intro w'; go_simp; with_reducible rfl
                               rotate_left
                               · simp only [Act.put, ps1, ps2, ps3, i64_w, i32_w]; rfl
                               exact norm_ t103_ (hCont (v457, gb460) _ ⟨hHeld, t68_, t34_, t35_, t33_, t97_, t98_, GW460.out, GE460.out, NB438_460.out, NB460_438.out, t32_⟩)
                           rintro ⟨v457, gb460⟩ w38 ⟨hS_, h0_, h1_, h2_, h3_, h4_, h5_, h6_, h7_, h8_, h9_, h10_⟩; have n0_ : Aside0 (Kd.R k71 71 w38 w.heap.size (fun _ => True) v457 t456) := ⟨h0_⟩; have n1_ : Aside0 (Kd.R k65 65 w38 w.heap.size (fun _ => True) (.slice (some ad451) t435.length co13) t435) := ⟨h1_⟩; have n2_ : Aside0 (Kd.R k71 71 w38 w.heap.size (fun _ => True) (.slice Ao8 t432.length co8) t432) := ⟨h2_⟩; have n3_ : Aside0 (Kd.R (Kd.int .i64) 3 w38 w.heap.size (fun _ => True) (.slice (some ad450) t439.length co33) t439) := ⟨h3_⟩; have n4_ : Aside0 (w38.heap[gb438]? = some (.cells #[.slice Ao8 t432.length co8] 30 (0, 0))) := ⟨h4_⟩; have n5_ : Aside0 (w38.heap[gb460]? = some (.cells #[.slice none 0 0] 30 (0, 0))) := ⟨h5_⟩; have n6_ : Aside0 (w.heap.size ≤ gb460) := ⟨h6_⟩; have n7_ : Aside0 (w.heap.size ≤ gb460) := ⟨h7_⟩; have n8_ : Aside0 (gb438 ≠ gb460) := ⟨h8_⟩; have n9_ : Aside0 (gb460 ≠ gb438) := ⟨h9_⟩; have n10_ : Aside0 (Below w.heap.size w w38) := ⟨h10_⟩; clear HO_4; clear HO_5; clear HO_439000; clear BK438; clear HB; clear h0_ h1_ h2_ h3_ h4_ h5_ h6_ h7_ h8_ h9_ h10_; have HO458 := n0_; have HO_4 := n1_; have HO_439000 := n2_; have HO_5 := n3_; have BK438 := n4_; have BK460 := n5_; have GW460 := n6_; have GE460 := n7_; have NB438_460 := n8_; have NB460_438 := n9_; have HB := n10_; clear n0_ n1_ n2_ n3_ n4_ n5_ n6_ n7_ n8_ n9_ n10_; have hHeld : w38.cell? ⟨gb438, 0, none⟩ = some (.slice Ao8 t432.length co8) := hS_; obtain ⟨Ao39, co39, eo39⟩ := Kd.R_slice HO458.out
                           (first | subst eo39 | (injection eo39 with f1_ f2_ f3_; have f4_ := f1_.symm; have f5_ := f3_.symm; clear f1_ f2_ f3_; subst f4_; subst f5_))
                           refine norm_ (a' := ?_) ?_ ?_
                           rotate_left
                           · simp only [putAll, Act.put, List.setIfInBounds_toArray, List.set_cons_zero, List.set_cons_succ]; rfl
                           refine one_ (i := 9) (N := none) #[true, true, true, true, true, true, true, true, true, true, false] rfl rfl (one_of HT_.out (by kernel_rfl)) (by decide) (fun K hK => ?_)
                           have hs40 : w38.cell? ⟨gb460, 0, none⟩ = some (.slice none 0 0) := bc0 BK460; have hfs40 := bf BK460 0; have hns40_0 := NB438_460.out; have hms40_0 := NB460_438.out; refine skip_ (w1 := ?_) (by rfl) rfl ?_ ?_
                           rotate_left
                           · go_simp; rfl
                           refine hK.out _ _ (((cell_far (p := ⟨gb460, _, none⟩) NB438_460.out _).trans (hHeld))) (fun hHeld => ?_)
                           clear hK K; refine pure_ (i := 10) (N := some 9) (v := ?_) (a' := ?_) #[true, true, true, true, true, true, true, true, true, true, true] rfl rfl (any_of HT_.out (by kernel_rfl)) (fun _ _ _ h => h) (Or.inl ⟨by rfl, ?_⟩) ?_ ?_
                           rotate_left
                           · intro w'; go_simp; with_reducible rfl
                           rotate_left
                           · simp only [Act.put, ps1, ps2, ps3, i64_w, i32_w]; rfl
                           refine done_ (done_of HT_.out (by kernel_rfl)) ?_
                           try go_wp2
                           have n0_ : Aside0 (Kd.R k65 65 (w38.setCell ⟨gb460, 0, none⟩ (.slice Ao39 t456.length co39)) w.heap.size (fun _ => True) (.slice (some ad451) t435.length co13) t435) := ⟨rG HO_4 BK460⟩; have n1_ : Aside0 (Kd.R (Kd.int .i64) 3 (w38.setCell ⟨gb460, 0, none⟩ (.slice Ao39 t456.length co39)) w.heap.size (fun _ => True) (.slice (some ad450) t439.length co33) t439) := ⟨rG HO_5 BK460⟩; have n2_ : Aside0 (Kd.R k71 71 (w38.setCell ⟨gb460, 0, none⟩ (.slice Ao39 t456.length co39)) w.heap.size (fun _ => True) (.slice Ao8 t432.length co8) t432) := ⟨rG HO_439000 BK460⟩; have n3_ : Aside0 (Kd.R k71 71 (w38.setCell ⟨gb460, 0, none⟩ (.slice Ao39 t456.length co39)) w.heap.size (fun _ => True) (.slice Ao39 t456.length co39) t456) := ⟨rG HO458 BK460⟩; have n4_ : Aside0 ((w38.setCell ⟨gb460, 0, none⟩ (.slice Ao39 t456.length co39)).heap[gb438]? = some (.cells #[.slice Ao8 t432.length co8] 30 (0, 0))) := ⟨zF1 BK438 NB438_460⟩; have n5_ : Aside0 ((w38.setCell ⟨gb460, 0, none⟩ (.slice Ao39 t456.length co39)).heap[gb460]? = some (.cells #[.slice Ao39 t456.length co39] 30 (0, 0))) := ⟨zP BK460⟩; have n6_ : Aside0 (Below w.heap.size w (w38.setCell ⟨gb460, 0, none⟩ (.slice Ao39 t456.length co39))) := ⟨t32_⟩
                           (try clear HO_4)
                           (try clear HO_5)
                           (try clear HO_439000)
                           (try clear HO458)
                           (try clear BK438)
                           (try clear BK460)
                           (try clear HB)
                           generalize (w38.setCell ⟨gb460, 0, none⟩ (.slice Ao39 t456.length co39)) = w41 at n0_ n1_ n2_ n3_ n4_ n5_ n6_ ⊢; have HO_4 := n0_; have HO_5 := n1_; have HO_439000 := n2_; have HO458 := n3_; have BK438 := n4_; have BK460 := n5_; have HB := n6_; clear n0_ n1_ n2_ n3_ n4_ n5_ n6_; replace HO_4 := Aside0.mk (Kd.R_drew HO_4.out); replace HO_5 := Aside0.mk (Kd.R_drew HO_5.out); replace HO_439000 := Aside0.mk (Kd.R_drew HO_439000.out); replace HO458 := Aside0.mk (Kd.R_drew HO458.out); replace BK438 := Aside0.mk (blk_drew BK438.out); replace BK460 := Aside0.mk (blk_drew BK460.out); replace HB := Aside0.mk (below_drew1 HB.out); have q43 : ((ji26) : Int) ≤ ((t435.length : Int) : Int) := of_decide_eq_true t7_; obtain ⟨i043, hi043, _, hsz43, _⟩ := info_parts info65; have hroom43 : t435.length ≤ co13 := (Kd.R_reads' HO_4.out).2.1; have hC43 : Kd.C k65 _ (some ad451) t435.length t435 := (Kd.R_reads' HO_4.out).2.2; have hcut43 := cut_to (P := Try.prog) 34 65 .i64 Try.underlying34 hi043 (some ad451) t435.length co13 (ji26) (of_decide_eq_true t7_) q43 hroom43; have hr43 := Kd.C_take (m := ((ji26) : Int).toNat) hC43 (by omega); have hy43 : y461.length = ((ji26) : Int).toNat := (by rw [Ny461.out, List.length_take]; omega); rw [← Ny461.out] at hr43; rw [← hy43] at hcut43; have HR464 := Aside0.mk hr43; have HC464 := Aside0.mk (show y461.length ≤ co13 from by omega); clear hr43 hC43 hroom43 hi043 hsz43; have KY43 := Aside0.mk hy43; clear hy43; have KL43 := Aside0.mk (show ((ji26) : Int).toNat ≤ t435.length from by omega); replace q43 := eq_true q43; refine start_ (n := 12) (S := fun w' => w'.cell? ⟨gb438, 0, none⟩ = some (.slice Ao8 t432.length co8)) (ds := []) #[false, false, false, false, false, false, false, false, false, false, false, false] (by kernel_rfl) rfl rfl (bc0 BK438) (fun hHeld => ?_); refine with_tabW laws_FnTorn.tab11 laws_FnTorn.bits11 (fun HT_ HW_ => ?_)
                           generalize w41.drew = w42 at HO_4 HO_5 HO_439000 HO458 BK438 BK460 HB HR464 hHeld ⊢; refine pure_ (i := 1) (N := some 78) (v := ?_) (a' := ?_) #[false, true, false, false, false, false, false, false, false, false, false, false] rfl rfl (any_of HT_.out (by kernel_rfl)) (fun _ _ _ h => h) (Or.inl ⟨by rfl, ?_⟩) ?_ ?_
                           rotate_left
                           · intro w'; go_simp; with_reducible rfl
                           rotate_left
                           · simp only [Act.put, ps1, ps2, ps3, i64_w, i32_w]; rfl
                           refine pure_ (i := 2) (N := some 79) (v := ?_) (a' := ?_) #[false, true, true, false, false, false, false, false, false, false, false, false] rfl rfl (any_of HT_.out (by kernel_rfl)) (fun _ _ _ h => h) (Or.inl ⟨by rfl, ?_⟩) ?_ ?_
                           rotate_left
                           · intro w'; go_simp; with_reducible rfl
                           rotate_left
                           · simp only [Act.put, ps1, ps2, ps3, i64_w, i32_w]; rfl
                           refine pure_ (i := 3) (N := some 80) (v := ?_) (a' := ?_) #[false, true, true, true, false, false, false, false, false, false, false, false] rfl rfl (any_of HT_.out (by kernel_rfl)) (fun _ _ _ h => h) (Or.inl ⟨by rfl, ?_⟩) ?_ ?_
                           rotate_left
                           · intro w'; go_simp; with_reducible rfl
                           rotate_left
                           · simp only [Act.put, ps1, ps2, ps3, i64_w, i32_w]; rfl
                           refine pure_ (i := 4) (N := some 81) (v := ?_) (a' := ?_) #[false, true, true, true, true, false, false, false, false, false, false, false] rfl rfl (any_of HT_.out (by kernel_rfl)) (fun _ _ _ h => h) (Or.inl ⟨by rfl, ?_⟩) ?_ ?_
                           rotate_left
                           · intro w'; go_simp; with_reducible rfl
                           rotate_left
                           · simp only [Act.put, ps1, ps2, ps3, i64_w, i32_w]; rfl
                           refine take_ (i := 0) (N := some 77) (v := ?_) (a' := ?_) #[true, true, true, true, true, false, false, false, false, false, false, false] rfl rfl (take_ofW HT_.out HW_.out (by kernel_rfl)) (fun _ _ _ h => h) (Or.inl ⟨by rfl, ?_⟩) hHeld ?_ ?_
                           rotate_left
                           · intro w' s0; go_simp; with_reducible rfl
                           rotate_left
                           · simp only [Act.put, ps1, ps2, ps3, i64_w, i32_w]; rfl
                           refine join_ (σ := Value × Nat) 2 #[true, true, true, true, true, true, true, true, true, true, false, false] (fun s_ => [(82, .tuple #[.agg #[s_.1], .int .i64 t468]), (10, .pointer (some ⟨s_.2, 0, none⟩)), (76, .tuple #[.agg #[s_.1], .int .i64 t468]), (83, .agg #[s_.1]), (84, .int .i64 t468)]) (fun s_ w' => (w'.cell? ⟨gb438, 0, none⟩ = some (.slice Ao8 t432.length co8)) ∧ (Kd.R k71 71 w' w.heap.size (fun _ => True) (.slice Ao39 t456.length co39) t456) ∧ (Kd.R k71 71 w' w.heap.size (fun _ => True) s_.1 t465) ∧ (Kd.R k65 65 w' w.heap.size (fun _ => True) (.slice (some ad451) t435.length co13) t435) ∧ (Kd.R k71 71 w' w.heap.size (fun _ => True) (.slice Ao8 t432.length co8) t432) ∧ (Kd.R (Kd.int .i64) 3 w' w.heap.size (fun _ => True) (.slice (some ad450) t439.length co33) t439) ∧ (w'.heap[gb438]? = some (.cells #[.slice Ao8 t432.length co8] 30 (0, 0))) ∧ (w'.heap[gb460]? = some (.cells #[.slice Ao39 t456.length co39] 30 (0, 0))) ∧ (w'.heap[s_.2]? = some (.cells #[.slice none 0 0] 30 (0, 0))) ∧ (w.heap.size ≤ s_.2) ∧ (w.heap.size ≤ s_.2) ∧ (gb438 ≠ s_.2) ∧ (s_.2 ≠ gb438) ∧ (gb460 ≠ s_.2) ∧ (s_.2 ≠ gb460) ∧ (Below w.heap.size w w')) ?_ ?_
                           rotate_left
                           · intro hCont; refine two_ (i := 5) (j := 9) (Ni := some 82) (Nj := some 10) #[true, true, true, true, true, true, false, false, false, false, false, false] #[true, true, true, true, true, false, false, false, false, true, false, false] rfl rfl rfl rfl (two_of HT_.out (by kernel_rfl)) (by decide) (by decide) (fun K hK => ?_) (fun K hK => ?_)
                             · skip
                               refine goes_ Try.func31 (by kernel_rfl) rfl #[.agg #[.slice Ao8 t432.length co8], .slice (some ad451) y461.length co13] (by rfl) rfl rfl t0_ ?_
                               with_reducible refine (impl_PutRaws.calls kj11 _ _ t432 _ _ y461 t465 t468 _ ?side1 ?side2 ?side3 ?side4 A29.out).mono ?_
                               (case side1 => repeat (first | exact (Kd.R_reads' HO_439000.out).2.2 | (with_reducible refine Kd.C_alloc ?_ _) | (with_reducible refine Kd.C_drewN ?_ _) | (with_reducible refine Kd.C_drew ?_)))
                               (case side2 => exact (Kd.R_reads' HO_439000.out).2.1)
                               (case side3 => repeat (first | exact t67_ | (with_reducible refine Kd.C_alloc ?_ _) | (with_reducible refine Kd.C_drewN ?_ _) | (with_reducible refine Kd.C_drew ?_)))
                               (case side4 => exact HC464.out)
                               rintro e w44 ⟨v466, rfl, ho0, hb⟩; refine ⟨_, rfl, ?_⟩
                               replace HO_4 := Aside0.mk (Kd.R_below t34_ hb); replace HO_5 := Aside0.mk (Kd.R_below t33_ hb); replace HO_439000 := Aside0.mk (Kd.R_below t35_ hb); replace HO458 := Aside0.mk (Kd.R_below t68_ hb); have HO467 := Aside0.mk (Kd.R_lower ho0 (below_size t32_)); replace BK438 := bkN BK438 hb; replace BK460 := bkN BK460 hb; replace HR464 := Aside0.mk (Kd.C_below t67_ hb); replace HB := bS t32_ hb
                               (try clear hb)
                               (try clear hb2)
                               (try clear hk)
                               (try clear hi)
                               (try clear ho0)
                               refine hK.out _ _ (bc0 BK438) (fun hHeld => ?_)
                               clear hK K; refine norm_ (a' := ?_) ?_ ?_
                               rotate_left
                               · show Act.put _ (some 82) _ = _
                                 simp only [Act.put, ps1, ps2, ps3, i64_w, i32_w]; rfl
                               refine pure_ (i := 6) (N := some 76) (v := ?_) (a' := ?_) #[true, true, true, true, true, true, true, false, false, false, false, false] rfl rfl (any_of HT_.out (by kernel_rfl)) (fun _ _ _ h => h) (Or.inl ⟨by rfl, ?_⟩) ?_ ?_
                               rotate_left
                               · intro w'; go_simp; with_reducible rfl
                               rotate_left
                               · simp only [Act.put, ps1, ps2, ps3, i64_w, i32_w]; rfl
                               refine pure_ (i := 7) (N := some 83) (v := ?_) (a' := ?_) #[true, true, true, true, true, true, true, true, false, false, false, false] rfl rfl (any_of HT_.out (by kernel_rfl)) (fun _ _ _ h => h) (Or.inl ⟨by rfl, ?_⟩) ?_ ?_
                               rotate_left
                               · intro w'; go_simp; with_reducible rfl
                               rotate_left
                               · simp only [Act.put, ps1, ps2, ps3, i64_w, i32_w]; rfl
                               refine pure_ (i := 8) (N := some 84) (v := ?_) (a' := ?_) #[true, true, true, true, true, true, true, true, true, false, false, false] rfl rfl (any_of HT_.out (by kernel_rfl)) (fun _ _ _ h => h) (Or.inl ⟨by rfl, ?_⟩) ?_ ?_
                               rotate_left
                               · intro w'; go_simp; with_reducible rfl
                               rotate_left
                               · simp only [Act.put, ps1, ps2, ps3, i64_w, i32_w]; rfl
                               refine one_ (i := 9) (N := some 10) #[true, true, true, true, true, true, true, true, true, true, false, false] rfl rfl (one_of HT_.out (by kernel_rfl)) (by decide) (fun K hK => ?_)
                               refine box_step ?hg (N := 10) ?hd (cs := #[.slice none 0 0]) (t := 30) ?hr ?_; (case hd => rfl); (case hg => rfl); (case hr => first | (go_simp; done) | (go_simp; rfl))
                               intro gb469 hg w45 hbox hb; replace HO_4 := Aside0.mk (Kd.R_below t34_ hb); replace HO_5 := Aside0.mk (Kd.R_below t33_ hb); replace HO_439000 := Aside0.mk (Kd.R_below t35_ hb); replace HO458 := Aside0.mk (Kd.R_below t68_ hb); replace HO467 := Aside0.mk (Kd.R_below t102_ hb); replace HR464 := Aside0.mk (Kd.C_below t67_ hb); have BK469 := Aside0.mk (hbox); have GW469 := Aside0.mk ((t78_ : w.heap.size ≤ gb469)); have GE469 := GW469; replace HB := bS t32_ hb; have NB438_469 := nbL BK438 hg; have NB469_438 := nbG BK438 hg; replace BK438 := bkN BK438 hb; have NB460_469 := nbL BK460 hg; have NB469_460 := nbG BK460 hg; replace BK460 := bkN BK460 hb; clear hb hbox hg; refine hK.out _ _ (bc0 BK438) (fun hHeld => ?_)
                               clear hK K; refine norm_ (a' := ?_) ?_ ?_
                               rotate_left
                               · show Act.put _ (some 10) _ = _
                                 simp only [Act.put, ps1, ps2, ps3, i64_w, i32_w]; rfl
                               exact norm_ t103_ (hCont (v466, gb469) _ ⟨hHeld, t68_, t102_, t34_, t35_, t33_, t97_, t98_, (zN BK469), GW469.out, GE469.out, NB438_469.out, NB469_438.out, NB460_469.out, NB469_460.out, t38_⟩)
                             · skip
                               refine box_step ?hg (N := 10) ?hd (cs := #[.slice none 0 0]) (t := 30) ?hr ?_; (case hd => rfl); (case hg => rfl); (case hr => first | (go_simp; done) | (go_simp; rfl))
                               intro gb469 hg w44 hbox hb; replace HO_4 := Aside0.mk (Kd.R_below t34_ hb); replace HO_5 := Aside0.mk (Kd.R_below t33_ hb); replace HO_439000 := Aside0.mk (Kd.R_below t35_ hb); replace HO458 := Aside0.mk (Kd.R_below t68_ hb); replace HR464 := Aside0.mk (Kd.C_below t67_ hb); have BK469 := Aside0.mk (hbox); have GW469 := Aside0.mk ((t78_ : w.heap.size ≤ gb469)); have GE469 := GW469; replace HB := bS t32_ hb; have NB438_469 := nbL BK438 hg; have NB469_438 := nbG BK438 hg; replace BK438 := bkN BK438 hb; have NB460_469 := nbL BK460 hg; have NB469_460 := nbG BK460 hg; replace BK460 := bkN BK460 hb; clear hb hbox hg; refine hK.out _ _ (bc0 BK438) (fun hHeld => ?_)
                               clear hK K; refine norm_ (a' := ?_) ?_ ?_
                               rotate_left
                               · show Act.put _ (some 10) _ = _
                                 simp only [Act.put, ps1, ps2, ps3, i64_w, i32_w]; rfl
                               refine one_ (i := 5) (N := some 82) #[true, true, true, true, true, true, false, false, false, true, false, false] rfl rfl (one_of HT_.out (by kernel_rfl)) (by decide) (fun K hK => ?_)
                               refine goes_ Try.func31 (by kernel_rfl) rfl #[.agg #[.slice Ao8 t432.length co8], .slice (some ad451) y461.length co13] (by rfl) rfl rfl t0_ ?_
                               with_reducible refine (impl_PutRaws.calls kj11 _ _ t432 _ _ y461 t465 t468 _ ?side1 ?side2 ?side3 ?side4 A29.out).mono ?_
                               (case side1 => repeat (first | exact (Kd.R_reads' HO_439000.out).2.2 | (with_reducible refine Kd.C_alloc ?_ _) | (with_reducible refine Kd.C_drewN ?_ _) | (with_reducible refine Kd.C_drew ?_)))
                               (case side2 => exact (Kd.R_reads' HO_439000.out).2.1)
                               (case side3 => repeat (first | exact t67_ | (with_reducible refine Kd.C_alloc ?_ _) | (with_reducible refine Kd.C_drewN ?_ _) | (with_reducible refine Kd.C_drew ?_)))
                               (case side4 => exact HC464.out)
                               rintro e w45 ⟨v466, rfl, ho0, hb⟩; refine ⟨_, rfl, ?_⟩
                               replace HO_4 := Aside0.mk (Kd.R_below t34_ hb); replace HO_5 := Aside0.mk (Kd.R_below t33_ hb); replace HO_439000 := Aside0.mk (Kd.R_below t35_ hb); replace HO458 := Aside0.mk (Kd.R_below t68_ hb); have HO467 := Aside0.mk (Kd.R_lower ho0 (below_size t38_)); replace BK438 := bkN BK438 hb; replace BK460 := bkN BK460 hb; replace HR464 := Aside0.mk (Kd.C_below t67_ hb); replace BK469 := bkN BK469 hb; replace HB := bS t38_ hb
                               (try clear hb)
                               (try clear hb2)
                               (try clear hk)
                               (try clear hi)
                               (try clear ho0)
                               refine hK.out _ _ (bc0 BK438) (fun hHeld => ?_)
                               clear hK K; refine norm_ (a' := ?_) ?_ ?_
                               rotate_left
                               · show Act.put _ (some 82) _ = _
                                 simp only [Act.put, ps1, ps2, ps3, i64_w, i32_w]; rfl
                               refine pure_ (i := 6) (N := some 76) (v := ?_) (a' := ?_) #[true, true, true, true, true, true, true, false, false, true, false, false] rfl rfl (any_of HT_.out (by kernel_rfl)) (fun _ _ _ h => h) (Or.inl ⟨by rfl, ?_⟩) ?_ ?_
                               rotate_left
                               · intro w'; go_simp; with_reducible rfl
                               rotate_left
                               · simp only [Act.put, ps1, ps2, ps3, i64_w, i32_w]; rfl
                               refine pure_ (i := 7) (N := some 83) (v := ?_) (a' := ?_) #[true, true, true, true, true, true, true, true, false, true, false, false] rfl rfl (any_of HT_.out (by kernel_rfl)) (fun _ _ _ h => h) (Or.inl ⟨by rfl, ?_⟩) ?_ ?_
                               rotate_left
                               · intro w'; go_simp; with_reducible rfl
                               rotate_left
                               · simp only [Act.put, ps1, ps2, ps3, i64_w, i32_w]; rfl
                               refine pure_ (i := 8) (N := some 84) (v := ?_) (a' := ?_) #[true, true, true, true, true, true, true, true, true, true, false, false] rfl rfl (any_of HT_.out (by kernel_rfl)) (fun _ _ _ h => h) (Or.inl ⟨by rfl, ?_⟩) ?_ ?_
                               rotate_left
                               · intro w'; go_simp; with_reducible rfl
                               rotate_left
                               · simp only [Act.put, ps1, ps2, ps3, i64_w, i32_w]; rfl
                               exact norm_ t103_ (hCont (v466, gb469) _ ⟨hHeld, t68_, t102_, t34_, t35_, t33_, t97_, t98_, (zN BK469), GW469.out, GE469.out, NB438_469.out, NB469_438.out, NB460_469.out, NB469_460.out, t38_⟩)
                           rintro ⟨v466, gb469⟩ w46 ⟨hS_, h0_, h1_, h2_, h3_, h4_, h5_, h6_, h7_, h8_, h9_, h10_, h11_, h12_, h13_, h14_⟩; have n0_ : Aside0 (Kd.R k71 71 w46 w.heap.size (fun _ => True) (.slice Ao39 t456.length co39) t456) := ⟨h0_⟩; have n1_ : Aside0 (Kd.R k71 71 w46 w.heap.size (fun _ => True) v466 t465) := ⟨h1_⟩; have n2_ : Aside0 (Kd.R k65 65 w46 w.heap.size (fun _ => True) (.slice (some ad451) t435.length co13) t435) := ⟨h2_⟩; have n3_ : Aside0 (Kd.R k71 71 w46 w.heap.size (fun _ => True) (.slice Ao8 t432.length co8) t432) := ⟨h3_⟩; have n4_ : Aside0 (Kd.R (Kd.int .i64) 3 w46 w.heap.size (fun _ => True) (.slice (some ad450) t439.length co33) t439) := ⟨h4_⟩; have n5_ : Aside0 (w46.heap[gb438]? = some (.cells #[.slice Ao8 t432.length co8] 30 (0, 0))) := ⟨h5_⟩; have n6_ : Aside0 (w46.heap[gb460]? = some (.cells #[.slice Ao39 t456.length co39] 30 (0, 0))) := ⟨h6_⟩; have n7_ : Aside0 (w46.heap[gb469]? = some (.cells #[.slice none 0 0] 30 (0, 0))) := ⟨h7_⟩; have n8_ : Aside0 (w.heap.size ≤ gb469) := ⟨h8_⟩; have n9_ : Aside0 (w.heap.size ≤ gb469) := ⟨h9_⟩; have n10_ : Aside0 (gb438 ≠ gb469) := ⟨h10_⟩; have n11_ : Aside0 (gb469 ≠ gb438) := ⟨h11_⟩; have n12_ : Aside0 (gb460 ≠ gb469) := ⟨h12_⟩; have n13_ : Aside0 (gb469 ≠ gb460) := ⟨h13_⟩; have n14_ : Aside0 (Below w.heap.size w w46) := ⟨h14_⟩; clear HO_4; clear HO_5; clear HO_439000; clear HO458; clear BK438; clear BK460; clear HB; clear h0_ h1_ h2_ h3_ h4_ h5_ h6_ h7_ h8_ h9_ h10_ h11_ h12_ h13_ h14_; have HO458 := n0_; have HO467 := n1_; have HO_4 := n2_; have HO_439000 := n3_; have HO_5 := n4_; have BK438 := n5_; have BK460 := n6_; have BK469 := n7_; have GW469 := n8_; have GE469 := n9_; have NB438_469 := n10_; have NB469_438 := n11_; have NB460_469 := n12_; have NB469_460 := n13_; have HB := n14_; clear n0_ n1_ n2_ n3_ n4_ n5_ n6_ n7_ n8_ n9_ n10_ n11_ n12_ n13_ n14_; have hHeld : w46.cell? ⟨gb438, 0, none⟩ = some (.slice Ao8 t432.length co8) := hS_; obtain ⟨Ao47, co47, eo47⟩ := Kd.R_slice HO467.out
                           (first | subst eo47 | (injection eo47 with f1_ f2_ f3_; have f4_ := f1_.symm; have f5_ := f3_.symm; clear f1_ f2_ f3_; subst f4_; subst f5_))
                           refine norm_ (a' := ?_) ?_ ?_
                           rotate_left
                           · simp only [putAll, Act.put, List.setIfInBounds_toArray, List.set_cons_zero, List.set_cons_succ]; rfl
                           refine one_ (i := 10) (N := none) #[true, true, true, true, true, true, true, true, true, true, true, false] rfl rfl (one_of HT_.out (by kernel_rfl)) (by decide) (fun K hK => ?_)
                           have hs48 : w46.cell? ⟨gb469, 0, none⟩ = some (.slice none 0 0) := bc0 BK469; have hfs48 := bf BK469 0; have hns48_0 := NB438_469.out; have hns48_1 := NB460_469.out; have hms48_0 := NB469_438.out; have hms48_1 := NB469_460.out; refine skip_ (w1 := ?_) (by rfl) rfl ?_ ?_
                           rotate_left
                           · go_simp; rfl
                           refine hK.out _ _ (((cell_far (p := ⟨gb469, _, none⟩) NB438_469.out _).trans (hHeld))) (fun hHeld => ?_)
                           clear hK K; refine pure_ (i := 11) (N := some 11) (v := ?_) (a' := ?_) #[true, true, true, true, true, true, true, true, true, true, true, true] rfl rfl (any_of HT_.out (by kernel_rfl)) (fun _ _ _ h => h) (Or.inl ⟨by rfl, ?_⟩) ?_ ?_
                           rotate_left
                           · intro w'; go_simp; with_reducible rfl
                           rotate_left
                           · simp only [Act.put, ps1, ps2, ps3, i64_w, i32_w]; rfl
                           refine done_ (done_of HT_.out (by kernel_rfl)) ?_
                           have hnb49 := NB438_460.out; have hnc49 := NB460_438.out; have hnb50 := NB438_469.out; have hnc50 := NB469_438.out; obtain ⟨hcz51_0, hfz51_0⟩ := ba1 BK438
                           go_upto_region 13 with (first | ((with_reducible refine gate_callee (f := 16) rfl ?_); refine goesL_ (some 90) rfl rfl Try.func16 (by kernel_rfl) rfl #[.agg #[.slice Ao8 t432.length co8], .slice (some ad451) t435.length co13, .int .i64 x6_1, .int .i64 (wrap64 (1 + (Int.tmod (rd t439 (ji17)) (((rd_T65 t435 x6_1).f3).size : Int))))] rfl (by (try simp only [List.map_toArray, List.map_cons, List.map_nil]); first | done | (simp only [hji17]; rfl) | rfl | (simp only [List.length_drop, List.length_take]; rfl)) ?_; (with_reducible refine (impl_CutRaws.calls kj11 _ _ t432 _ _ t435 x6_1 (wrap64 (1 + (Int.tmod (rd t439 (ji17)) (((rd_T65 t435 x6_1).f3).size : Int)))) t470 t473 _ ?side1 ?side2 ?side3 ?side4 A30.out).mono ?_); (case side1 => refine (Kd.R_reads' (e := 71) (base := w.heap.size) (ok := fun k_ => True) (n := t432.length) (c := co8) ?_).2.2; exact (rF HO_439000 BK469)); (case side2 => exact (Kd.R_reads' HO_439000.out).2.1); (case side3 => refine (Kd.R_reads' (e := 65) (base := w.heap.size) (ok := fun k_ => True) (n := t435.length) (c := co13) ?_).2.2; exact (rF HO_4 BK469)); (case side4 => exact (Kd.R_reads' HO_4.out).2.1); rintro e w52 ⟨v471, rfl, ho0, hb⟩; refine ⟨_, rfl, ?_⟩; replace HO_4 := Aside0.mk (Kd.R_below (rF HO_4 BK469) hb); replace HO_5 := Aside0.mk (Kd.R_below (rF HO_5 BK469) hb); replace HO_439000 := Aside0.mk (Kd.R_below (rF HO_439000 BK469) hb); replace HO458 := Aside0.mk (Kd.R_below (rF HO458 BK469) hb); replace HO467 := Aside0.mk (Kd.R_below (rF HO467 BK469) hb); have HO472 := Aside0.mk (Kd.R_lower ho0 (below_size t38_)); replace BK438 := bkF BK438 NB438_469 hb; replace BK460 := bkF BK460 NB460_469 hb; replace BK469 := Aside0.mk (blk_below (g := gb469) (o := .cells #[.slice Ao47 t465.length co47] 30 (0, 0)) (zP BK469) hb); replace HB := bS t38_ hb; (try clear hb); (try clear ho0)) | ((with_reducible refine gate_dst (N := 12) rfl ?_); (try (refine gate_guard (by rfl) ?_; dsimp only)); refine boxE (N := 12) (cs := #[.slice none 0 0]) (t := 30) (h := ?_); intro gb474 hg w53 hbox hb; replace HO_4 := Aside0.mk (Kd.R_below t34_ hb); replace HO_5 := Aside0.mk (Kd.R_below t33_ hb); replace HO_439000 := Aside0.mk (Kd.R_below t35_ hb); replace HO458 := Aside0.mk (Kd.R_below t68_ hb); replace HO467 := Aside0.mk (Kd.R_below t102_ hb); replace HO472 := Aside0.mk (Kd.R_below (zK HO472) hb); have BK474 := Aside0.mk (hbox); have GW474 := Aside0.mk ((by rw [hg]; exact (below_size t38_) : w.heap.size ≤ gb474)); have GE474 := Aside0.mk ((by rw [hg]; exact (below_size t38_) : w.heap.size ≤ gb474)); replace HB := bS t38_ hb; have NB438_474 := nbL BK438 hg; have NB474_438 := nbG BK438 hg; replace BK438 := bkN BK438 hb; have NB460_474 := nbL BK460 hg; have NB474_460 := nbG BK460 hg; replace BK460 := bkN BK460 hb; have NB469_474 := nbL BK469 hg; have NB474_469 := nbG BK469 hg; replace BK469 := bkN BK469 hb; clear hb hbox hg; obtain ⟨Ao54, co54, eo54⟩ := Kd.R_slice HO472.out; subst eo54; have hnb55 := NB474_438.out; have hnc55 := NB438_474.out; have hnb56 := NB474_460.out; have hnc56 := NB460_474.out; have hnb57 := NB474_469.out; have hnc57 := NB469_474.out; obtain ⟨hcz58_0, hfz58_0⟩ := ba1 BK474))
                           (try simp only [Act.put, List.setIfInBounds_toArray, List.set_cons_zero, List.set_cons_succ])
                           go_cut [100] (fun v100 wc => ∃ (kq : Nat) (x100_30 : Bool), v100 = .bool x100_30 ∧ Aside0 (laws_FnTorn.j2 kq t435 t439 x6_1 x100_30 t432 t456 t465 t470 = some r) ∧ Aside0 (kq ≤ kj11) ∧ Aside0 (Kd.R k65 65 wc w.heap.size (fun _ => True) (.slice (some ad451) t435.length co13) t435) ∧ Aside0 (Kd.R (Kd.int .i64) 3 wc w.heap.size (fun _ => True) (.slice (some ad450) t439.length co33) t439) ∧ Aside0 (Kd.R k71 71 wc w.heap.size (fun _ => True) (.slice Ao8 t432.length co8) t432) ∧ Aside0 (Kd.R k71 71 wc w.heap.size (fun _ => True) (.slice Ao39 t456.length co39) t456) ∧ Aside0 (Kd.R k71 71 wc w.heap.size (fun _ => True) (.slice Ao47 t465.length co47) t465) ∧ Aside0 (Kd.R k71 71 wc w.heap.size (fun _ => True) (.slice Ao54 t470.length co54) t470) ∧ Aside0 (wc.heap[gb438]? = some (.cells #[(.slice Ao8 t432.length co8)] 30 (0, 0))) ∧ Aside0 (wc.heap[gb460]? = some (.cells #[(.slice Ao39 t456.length co39)] 30 (0, 0))) ∧ Aside0 (wc.heap[gb469]? = some (.cells #[(.slice Ao47 t465.length co47)] 30 (0, 0))) ∧ Aside0 (wc.heap[gb474]? = some (.cells #[(.slice Ao54 t470.length co54)] 30 (0, 0))) ∧ Aside0 (Below w.heap.size w wc))
                           case first => as_aux_lemma =>
                            have H := HC31.out; clear HC31; by_cases c59 : t473 = true
                            · subst c59; have H1 : (laws_FnTorn.j2 kj11 t435 t439 x6_1 (t468 != (ji26)) t432 t456 t465 t470) = some r := by rw [if_pos rfl] at H; exact H
                              clear H; have H := H1; clear H1; have H' := Aside0.mk H; clear H; go_wp2; go_meet
                              case rel => exact ⟨_, ((t468 != (ji26))), (by first | rfl | (simp; done) | (simp only [← hji26] <;> (first | rfl | simp)) | (simp [*]; done)), H', ⟨by have := HK1.out; have := HJ11.out; first | omega | exact Nat.le_refl _⟩, ⟨rG HO_4 BK474⟩, ⟨rG HO_5 BK474⟩, ⟨rG HO_439000 BK474⟩, ⟨rG HO458 BK474⟩, ⟨rG HO467 BK474⟩, ⟨rG HO472 BK474⟩, ⟨zF1 BK438 NB438_474⟩, ⟨zF1 BK460 NB460_474⟩, ⟨zF1 BK469 NB469_474⟩, ⟨zP BK474⟩, ⟨t19_⟩⟩
                            · replace c59 := Bool.eq_false_iff.mpr c59; subst c59; have H1 : (laws_FnTorn.j2 kj11 t435 t439 x6_1 true t432 t456 t465 t470) = some r := by rw [if_neg (show ¬ (false = true) by decide)] at H; exact H
                              clear H; have H := H1; clear H1; have H' := Aside0.mk H; clear H; go_wp2; go_meet
                              case rel => exact ⟨_, (true), t27_, H', ⟨by have := HK1.out; have := HJ11.out; first | omega | exact Nat.le_refl _⟩, ⟨rG HO_4 BK474⟩, ⟨rG HO_5 BK474⟩, ⟨rG HO_439000 BK474⟩, ⟨rG HO458 BK474⟩, ⟨rG HO467 BK474⟩, ⟨rG HO472 BK474⟩, ⟨zF1 BK438 NB438_474⟩, ⟨zF1 BK460 NB460_474⟩, ⟨zF1 BK469 NB469_474⟩, ⟨zP BK474⟩, ⟨t19_⟩⟩
                           case rest => as_aux_lemma =>
                            clear HC31
                            try clear c1
                            try clear p2
                            try clear c3
                            try clear c4
                            try clear q4
                            try clear c5
                            try clear p6
                            try clear c16
                            try clear c31
                            try clear q43
                            try clear c49
                            try clear c50
                            try clear c55
                            try clear c56
                            try clear c57
                            try clear c59
                            try clear hcz51_0
                            try clear hcz58_0
                            try clear hfz51_0
                            try clear hfz58_0
                            try clear q43
                            obtain ⟨kq, x100_30, rfl, HA, HJ30, HO_4, HO_5, HO_439000, HO_461000, HO_470000, HO_475000, BK438, BK460, BK469, BK474, HB⟩ := hcut
                            cases kq with
                            | zero => exact absurd HA.out (by simp [laws_FnTorn.j2])
                            | succ kj30 =>
                             have H := HA.out; clear HA; simp only [laws_FnTorn.j2] at H; by_cases c60 : x100_30 = true
                             · subst c60; have H1 : (none) = some r := by rw [if_pos rfl] at H; exact H
                               clear H; have H := H1; clear H1; exact absurd H (by simp)
                             · replace c60 := Bool.eq_false_iff.mpr c60; subst c60; have H1 : (if 0 ≤ x6_1 then (if x6_1 < (t435.length : Int) then ((impl_FileAt.f kj30 t470 ((rd_T65 t435 x6_1).f1)).bind fun bt476 => ((impl_FileAt.f kj30 t465 ((rd_T65 t435 x6_1).f1)).bind fun bt479 => ((impl_FileAt.f kj30 t456 ((rd_T65 t435 x6_1).f1)).bind fun bt482 => ((laws_begins.f bt476.1 bt479.1).bind fun t484 => (if t484 = true then (if ((rd_T65 t435 x6_1).f0) = 2 then ((laws_begins.f bt482.1 bt476.1).bind fun t486 => (if t486 = true then (laws_FnTorn.j3 kj30 t435 t439 x6_1 ((bt476.1.size : Int) == 0) t432 t465 t470) else (laws_FnTorn.j3 kj30 t435 t439 x6_1 true t432 t465 t470))) else (laws_FnTorn.j3 kj30 t435 t439 x6_1 ((bt476.1.size : Int) == 0) t432 t465 t470)) else (laws_FnTorn.j3 kj30 t435 t439 x6_1 true t432 t465 t470)))))) else (none)) else (none)) = some r := by rw [if_neg (show ¬ (false = true) by decide)] at H; exact H
                               clear H; have H := H1; clear H1; by_cases c61 : 0 ≤ x6_1
                               · rw [if_pos c61] at H; have c61b0 : decide (0 ≤ x6_1) = true := decide_eq_true c61; clear c61; by_cases c62 : x6_1 < (t435.length : Int)
                                 · rw [if_pos c62] at H; have c62b0 : decide (x6_1 < (t435.length : Int)) = true := decide_eq_true c62; clear c62; replace H := Option.bind_eq_some_iff.mp H; obtain ⟨⟨t476, t477⟩, A630, H⟩ := H; replace H : ((impl_FileAt.f kj30 t465 ((rd_T65 t435 x6_1).f1)).bind fun bt479 => ((impl_FileAt.f kj30 t456 ((rd_T65 t435 x6_1).f1)).bind fun bt482 => ((laws_begins.f t476 bt479.1).bind fun t484 => (if t484 = true then (if ((rd_T65 t435 x6_1).f0) = 2 then ((laws_begins.f bt482.1 t476).bind fun t486 => (if t486 = true then (laws_FnTorn.j3 kj30 t435 t439 x6_1 ((t476.size : Int) == 0) t432 t465 t470) else (laws_FnTorn.j3 kj30 t435 t439 x6_1 true t432 t465 t470))) else (laws_FnTorn.j3 kj30 t435 t439 x6_1 ((t476.size : Int) == 0) t432 t465 t470)) else (laws_FnTorn.j3 kj30 t435 t439 x6_1 true t432 t465 t470))))) = some r := H; have A63 := Aside0.mk A630; clear A630; replace H := Option.bind_eq_some_iff.mp H; obtain ⟨⟨t479, t480⟩, A640, H⟩ := H; replace H : ((impl_FileAt.f kj30 t456 ((rd_T65 t435 x6_1).f1)).bind fun bt482 => ((laws_begins.f t476 t479).bind fun t484 => (if t484 = true then (if ((rd_T65 t435 x6_1).f0) = 2 then ((laws_begins.f bt482.1 t476).bind fun t486 => (if t486 = true then (laws_FnTorn.j3 kj30 t435 t439 x6_1 ((t476.size : Int) == 0) t432 t465 t470) else (laws_FnTorn.j3 kj30 t435 t439 x6_1 true t432 t465 t470))) else (laws_FnTorn.j3 kj30 t435 t439 x6_1 ((t476.size : Int) == 0) t432 t465 t470)) else (laws_FnTorn.j3 kj30 t435 t439 x6_1 true t432 t465 t470)))) = some r := H; have A64 := Aside0.mk A640; clear A640; replace H := Option.bind_eq_some_iff.mp H; obtain ⟨⟨t482, t483⟩, A650, H⟩ := H; replace H : ((laws_begins.f t476 t479).bind fun t484 => (if t484 = true then (if ((rd_T65 t435 x6_1).f0) = 2 then ((laws_begins.f t482 t476).bind fun t486 => (if t486 = true then (laws_FnTorn.j3 kj30 t435 t439 x6_1 ((t476.size : Int) == 0) t432 t465 t470) else (laws_FnTorn.j3 kj30 t435 t439 x6_1 true t432 t465 t470))) else (laws_FnTorn.j3 kj30 t435 t439 x6_1 ((t476.size : Int) == 0) t432 t465 t470)) else (laws_FnTorn.j3 kj30 t435 t439 x6_1 true t432 t465 t470))) = some r := H; have A65 := Aside0.mk A650; clear A650; have HC66 := Aside0.mk H; clear H
                                   try go_wp2
                                   replace HO_4 := Aside0.mk (Kd.R_drew HO_4.out); replace HO_5 := Aside0.mk (Kd.R_drew HO_5.out); replace HO_439000 := Aside0.mk (Kd.R_drew HO_439000.out); replace HO_461000 := Aside0.mk (Kd.R_drew HO_461000.out); replace HO_470000 := Aside0.mk (Kd.R_drew HO_470000.out); replace HO_475000 := Aside0.mk (Kd.R_drew HO_475000.out); replace BK438 := Aside0.mk (blk_drew BK438.out); replace BK460 := Aside0.mk (blk_drew BK460.out); replace BK469 := Aside0.mk (blk_drew BK469.out); replace BK474 := Aside0.mk (blk_drew BK474.out); replace HB := Aside0.mk (below_drew1 HB.out); have p475 : 0 ≤ (x6_1 : Int) := of_decide_eq_true t7_; have q475 : x6_1 < (t435.length : Int) := of_decide_eq_true t7_; obtain ⟨ad475, e475, hx475_0, hx475_1, hx475_2, hx475_3⟩ := at_T65 (Kd.R_reads' HO_4.out).2.2 x6_1 p475 q475; obtain rfl : ad451 = ad475 := (by injection e475); replace p475 := eq_true p475; replace q475 := eq_true q475; refine start_ (n := 12) (S := fun w' => w'.cell? ⟨gb474, 0, none⟩ = some (.slice Ao54 t470.length co54) ∧ w'.cell? (ad451.add ((x6_1).toNat * 4)) = some (.int .i64 ((rd_T65 t435 x6_1).f0)) ∧ w'.cell? ⟨(ad451.add ((x6_1).toNat * 4)).block, (ad451.add ((x6_1).toNat * 4)).off + 1, none⟩ = some (.string ((rd_T65 t435 x6_1).f1)) ∧ w'.cell? ⟨(ad451.add ((x6_1).toNat * 4)).block, (ad451.add ((x6_1).toNat * 4)).off + 2, none⟩ = some (.string ((rd_T65 t435 x6_1).f2)) ∧ w'.cell? ⟨(ad451.add ((x6_1).toNat * 4)).block, (ad451.add ((x6_1).toNat * 4)).off + 3, none⟩ = some (.string ((rd_T65 t435 x6_1).f3))) (ds := []) #[false, false, false, false, false, false, false, false, false, false, false, false] (by kernel_rfl) rfl rfl ⟨bc0 BK474, hx475_0, hx475_1, hx475_2, hx475_3⟩ (fun hHeld => ?_); refine with_tabW laws_FnTorn.tab15 laws_FnTorn.bits15 (fun HT_ HW_ => ?_)
                                   generalize wc.drew = w67 at HO_4 HO_5 HO_439000 HO_461000 HO_470000 HO_475000 BK438 BK460 BK469 BK474 HB hx475_0 hx475_1 hx475_2 hx475_3 hHeld ⊢; refine pure_ (i := 1) (N := some 103) (v := ?_) (a' := ?_) #[false, true, false, false, false, false, false, false, false, false, false, false] rfl rfl (any_of HT_.out (by kernel_rfl)) (fun _ _ _ h => h) (Or.inl ⟨by rfl, ?_⟩) ?_ ?_
                                   rotate_left
                                   · intro w'; go_simp; with_reducible rfl
                                   rotate_left
                                   · simp only [Act.put, ps1, ps2, ps3, i64_w, i32_w]; rfl
                                   refine pure_ (i := 2) (N := some 104) (v := ?_) (a' := ?_) #[false, true, true, false, false, false, false, false, false, false, false, false] rfl rfl (any_of HT_.out (by kernel_rfl)) (fun _ _ _ h => h) (Or.inl ⟨by rfl, ?_⟩) ?_ ?_
                                   rotate_left
                                   · intro w'; go_simp; with_reducible rfl
                                   rotate_left
                                   · simp only [Act.put, ps1, ps2, ps3, i64_w, i32_w]; rfl
                                   refine pure_ (i := 3) (N := some 105) (v := ?_) (a' := ?_) #[false, true, true, true, false, false, false, false, false, false, false, false] rfl rfl (any_of HT_.out (by kernel_rfl)) (fun _ _ _ h => h) (Or.inl ⟨by rfl, ?_⟩) ?_ ?_
                                   rotate_left
                                   · intro w'; go_simp; with_reducible rfl
                                   rotate_left
                                   · simp only [Act.put, ps1, ps2, ps3, i64_w, i32_w]; rfl
                                   refine pure_ (i := 4) (N := some 106) (v := ?_) (a' := ?_) #[false, true, true, true, true, false, false, false, false, false, false, false] rfl rfl (any_of HT_.out (by kernel_rfl)) (fun _ _ _ h => h) (Or.inl ⟨by rfl, ?_⟩) ?_ ?_
                                   rotate_left
                                   · intro w'; go_simp; with_reducible rfl
                                   rotate_left
                                   · simp only [Act.put, ps1, ps2, ps3, i64_w, i32_w]; rfl
                                   refine take_ (i := 0) (N := some 102) (v := ?_) (a' := ?_) #[true, true, true, true, true, false, false, false, false, false, false, false] rfl rfl (take_ofW HT_.out HW_.out (by kernel_rfl)) (fun _ _ _ h => h) (Or.inl ⟨by rfl, ?_⟩) hHeld ?_ ?_
                                   rotate_left
                                   · rintro w' ⟨s0, s1, s2, s3, s4⟩; go_simp; with_reducible rfl
                                   rotate_left
                                   · simp only [Act.put, ps1, ps2, ps3, i64_w, i32_w]; rfl
                                   refine take_ (i := 5) (N := some 107) (v := ?_) (a' := ?_) #[true, true, true, true, true, true, false, false, false, false, false, false] rfl rfl (take_ofW HT_.out HW_.out (by kernel_rfl)) (fun _ _ _ h => h) (Or.inl ⟨by rfl, ?_⟩) hHeld ?_ ?_
                                   rotate_left
                                   · rintro w' ⟨s0, s1, s2, s3, s4⟩; go_simp; with_reducible rfl
                                   rotate_left
                                   · simp only [Act.put, ps1, ps2, ps3, i64_w, i32_w]; rfl
                                   refine one_ (i := 6) (N := some 108) #[true, true, true, true, true, true, true, false, false, false, false, false] rfl rfl (one_of HT_.out (by kernel_rfl)) (by decide) (fun K hK => ?_)
                                   refine goes_ Try.func32 (by kernel_rfl) rfl #[.agg #[.slice Ao54 t470.length co54], .string ((rd_T65 t435 x6_1).f1)] (by rfl) rfl rfl t0_ ?_
                                   with_reducible refine (impl_FileAt.calls kj30 _ _ t470 ((rd_T65 t435 x6_1).f1) t476 t477 _ ?side1 ?side2 A63.out).mono ?_
                                   (case side1 => repeat (first | exact (Kd.R_reads' HO_475000.out).2.2 | (with_reducible refine Kd.C_alloc ?_ _) | (with_reducible refine Kd.C_drewN ?_ _) | (with_reducible refine Kd.C_drew ?_)))
                                   (case side2 => exact (Kd.R_reads' HO_475000.out).2.1)
                                   rintro e w68 ⟨rfl, hb⟩; have HS1_ := (hb.cell (World.block_lt_of_cell? _ _ (hHeld.2.1))).trans (hHeld.2.1); have HS2_ := (hb.cell (World.block_lt_of_cell? _ _ (hHeld.2.2.1))).trans (hHeld.2.2.1); have HS3_ := (hb.cell (World.block_lt_of_cell? _ _ (hHeld.2.2.2.1))).trans (hHeld.2.2.2.1); have HS4_ := (hb.cell (World.block_lt_of_cell? _ _ (hHeld.2.2.2.2))).trans (hHeld.2.2.2.2); refine ⟨_, rfl, ?_⟩
                                   replace HO_4 := Aside0.mk (Kd.R_below t34_ hb); replace HO_5 := Aside0.mk (Kd.R_below t33_ hb); replace HO_439000 := Aside0.mk (Kd.R_below t35_ hb); replace HO_461000 := Aside0.mk (Kd.R_below t93_ hb); replace HO_470000 := Aside0.mk (Kd.R_below t94_ hb); replace HO_475000 := Aside0.mk (Kd.R_below t95_ hb); replace BK438 := bkN BK438 hb; replace BK460 := bkN BK460 hb; replace BK469 := bkN BK469 hb; replace BK474 := bkN BK474 hb; replace HB := bS t19_ hb
                                   (try clear hb)
                                   (try clear hb2)
                                   (try clear hk)
                                   (try clear hi)
                                   refine hK.out _ _ ⟨bc0 BK474, HS1_, HS2_, HS3_, HS4_⟩ (fun hHeld => ?_)
                                   clear hK K; refine norm_ (a' := ?_) ?_ ?_
                                   rotate_left
                                   · show Act.put _ (some 108) _ = _
                                     simp only [Act.put, ps1, ps2, ps3, i64_w, i32_w]; rfl
                                   refine pure_ (i := 7) (N := some 101) (v := ?_) (a' := ?_) #[true, true, true, true, true, true, true, true, false, false, false, false] rfl rfl (any_of HT_.out (by kernel_rfl)) (fun _ _ _ h => h) (Or.inl ⟨by rfl, ?_⟩) ?_ ?_
                                   rotate_left
                                   · intro w'; go_simp; with_reducible rfl
                                   rotate_left
                                   · simp only [Act.put, ps1, ps2, ps3, i64_w, i32_w]; rfl
                                   refine pure_ (i := 8) (N := some 109) (v := ?_) (a' := ?_) #[true, true, true, true, true, true, true, true, true, false, false, false] rfl rfl (any_of HT_.out (by kernel_rfl)) (fun _ _ _ h => h) (Or.inl ⟨by rfl, ?_⟩) ?_ ?_
                                   rotate_left
                                   · intro w'; go_simp; with_reducible rfl
                                   rotate_left
                                   · simp only [Act.put, ps1, ps2, ps3, i64_w, i32_w]; rfl
                                   refine pure_ (i := 9) (N := some 110) (v := ?_) (a' := ?_) #[true, true, true, true, true, true, true, true, true, true, false, false] rfl rfl (any_of HT_.out (by kernel_rfl)) (fun _ _ _ h => h) (Or.inl ⟨by rfl, ?_⟩) ?_ ?_
                                   rotate_left
                                   · intro w'; go_simp; with_reducible rfl
                                   rotate_left
                                   · simp only [Act.put, ps1, ps2, ps3, i64_w, i32_w]; rfl
                                   refine pure_ (i := 10) (N := some 14) (v := ?_) (a' := ?_) #[true, true, true, true, true, true, true, true, true, true, true, false] rfl rfl (any_of HT_.out (by kernel_rfl)) (fun _ _ _ h => h) (Or.inl ⟨by rfl, ?_⟩) ?_ ?_
                                   rotate_left
                                   · intro w'; go_simp; with_reducible rfl
                                   rotate_left
                                   · simp only [Act.put, ps1, ps2, ps3, i64_w, i32_w]; rfl
                                   refine pure_ (i := 11) (N := some 15) (v := ?_) (a' := ?_) #[true, true, true, true, true, true, true, true, true, true, true, true] rfl rfl (any_of HT_.out (by kernel_rfl)) (fun _ _ _ h => h) (Or.inl ⟨by rfl, ?_⟩) ?_ ?_
                                   rotate_left
                                   · intro w'; go_simp; with_reducible rfl
                                   rotate_left
                                   · simp only [Act.put, ps1, ps2, ps3, i64_w, i32_w]; rfl
                                   refine done_ (done_of HT_.out (by kernel_rfl)) ?_
                                   try go_wp2
                                   replace HO_4 := Aside0.mk (Kd.R_drew HO_4.out); replace HO_5 := Aside0.mk (Kd.R_drew HO_5.out); replace HO_439000 := Aside0.mk (Kd.R_drew HO_439000.out); replace HO_461000 := Aside0.mk (Kd.R_drew HO_461000.out); replace HO_470000 := Aside0.mk (Kd.R_drew HO_470000.out); replace HO_475000 := Aside0.mk (Kd.R_drew HO_475000.out); replace BK438 := Aside0.mk (blk_drew BK438.out); replace BK460 := Aside0.mk (blk_drew BK460.out); replace BK469 := Aside0.mk (blk_drew BK469.out); replace BK474 := Aside0.mk (blk_drew BK474.out); replace HB := Aside0.mk (below_drew1 HB.out); have p478 : 0 ≤ (x6_1 : Int) := of_decide_eq_true t7_; have q478 : x6_1 < (t435.length : Int) := of_decide_eq_true t7_; obtain ⟨ad478, e478, hx478_0, hx478_1, hx478_2, hx478_3⟩ := at_T65 (Kd.R_reads' HO_4.out).2.2 x6_1 p478 q478; obtain rfl : ad451 = ad478 := (by injection e478); replace p478 := eq_true p478; replace q478 := eq_true q478; refine start_ (n := 12) (S := fun w' => w'.cell? ⟨gb469, 0, none⟩ = some (.slice Ao47 t465.length co47) ∧ w'.cell? (ad451.add ((x6_1).toNat * 4)) = some (.int .i64 ((rd_T65 t435 x6_1).f0)) ∧ w'.cell? ⟨(ad451.add ((x6_1).toNat * 4)).block, (ad451.add ((x6_1).toNat * 4)).off + 1, none⟩ = some (.string ((rd_T65 t435 x6_1).f1)) ∧ w'.cell? ⟨(ad451.add ((x6_1).toNat * 4)).block, (ad451.add ((x6_1).toNat * 4)).off + 2, none⟩ = some (.string ((rd_T65 t435 x6_1).f2)) ∧ w'.cell? ⟨(ad451.add ((x6_1).toNat * 4)).block, (ad451.add ((x6_1).toNat * 4)).off + 3, none⟩ = some (.string ((rd_T65 t435 x6_1).f3))) (ds := []) #[false, false, false, false, false, false, false, false, false, false, false, false] (by kernel_rfl) rfl rfl ⟨bc0 BK469, hx478_0, hx478_1, hx478_2, hx478_3⟩ (fun hHeld => ?_); refine with_tabW laws_FnTorn.tab16 laws_FnTorn.bits16 (fun HT_ HW_ => ?_)
                                   generalize w68.drew = w69 at HO_4 HO_5 HO_439000 HO_461000 HO_470000 HO_475000 BK438 BK460 BK469 BK474 HB hx478_0 hx478_1 hx478_2 hx478_3 hHeld ⊢; refine pure_ (i := 1) (N := some 113) (v := ?_) (a' := ?_) #[false, true, false, false, false, false, false, false, false, false, false, false] rfl rfl (any_of HT_.out (by kernel_rfl)) (fun _ _ _ h => h) (Or.inl ⟨by rfl, ?_⟩) ?_ ?_
                                   rotate_left
                                   · intro w'; go_simp; with_reducible rfl
                                   rotate_left
                                   · simp only [Act.put, ps1, ps2, ps3, i64_w, i32_w]; rfl
                                   refine pure_ (i := 2) (N := some 114) (v := ?_) (a' := ?_) #[false, true, true, false, false, false, false, false, false, false, false, false] rfl rfl (any_of HT_.out (by kernel_rfl)) (fun _ _ _ h => h) (Or.inl ⟨by rfl, ?_⟩) ?_ ?_
                                   rotate_left
                                   · intro w'; go_simp; with_reducible rfl
                                   rotate_left
                                   · simp only [Act.put, ps1, ps2, ps3, i64_w, i32_w]; rfl
                                   refine pure_ (i := 3) (N := some 115) (v := ?_) (a' := ?_) #[false, true, true, true, false, false, false, false, false, false, false, false] rfl rfl (any_of HT_.out (by kernel_rfl)) (fun _ _ _ h => h) (Or.inl ⟨by rfl, ?_⟩) ?_ ?_
                                   rotate_left
                                   · intro w'; go_simp; with_reducible rfl
                                   rotate_left
                                   · simp only [Act.put, ps1, ps2, ps3, i64_w, i32_w]; rfl
                                   refine pure_ (i := 4) (N := some 116) (v := ?_) (a' := ?_) #[false, true, true, true, true, false, false, false, false, false, false, false] rfl rfl (any_of HT_.out (by kernel_rfl)) (fun _ _ _ h => h) (Or.inl ⟨by rfl, ?_⟩) ?_ ?_
                                   rotate_left
                                   · intro w'; go_simp; with_reducible rfl
                                   rotate_left
                                   · simp only [Act.put, ps1, ps2, ps3, i64_w, i32_w]; rfl
                                   refine take_ (i := 0) (N := some 112) (v := ?_) (a' := ?_) #[true, true, true, true, true, false, false, false, false, false, false, false] rfl rfl (take_ofW HT_.out HW_.out (by kernel_rfl)) (fun _ _ _ h => h) (Or.inl ⟨by rfl, ?_⟩) hHeld ?_ ?_
                                   rotate_left
                                   · rintro w' ⟨s0, s1, s2, s3, s4⟩; go_simp; with_reducible rfl
                                   rotate_left
                                   · simp only [Act.put, ps1, ps2, ps3, i64_w, i32_w]; rfl
                                   refine take_ (i := 5) (N := some 117) (v := ?_) (a' := ?_) #[true, true, true, true, true, true, false, false, false, false, false, false] rfl rfl (take_ofW HT_.out HW_.out (by kernel_rfl)) (fun _ _ _ h => h) (Or.inl ⟨by rfl, ?_⟩) hHeld ?_ ?_
                                   rotate_left
                                   · rintro w' ⟨s0, s1, s2, s3, s4⟩; go_simp; with_reducible rfl
                                   rotate_left
                                   · simp only [Act.put, ps1, ps2, ps3, i64_w, i32_w]; rfl
                                   refine one_ (i := 6) (N := some 118) #[true, true, true, true, true, true, true, false, false, false, false, false] rfl rfl (one_of HT_.out (by kernel_rfl)) (by decide) (fun K hK => ?_)
                                   refine goes_ Try.func32 (by kernel_rfl) rfl #[.agg #[.slice Ao47 t465.length co47], .string ((rd_T65 t435 x6_1).f1)] (by rfl) rfl rfl t0_ ?_
                                   with_reducible refine (impl_FileAt.calls kj30 _ _ t465 ((rd_T65 t435 x6_1).f1) t479 t480 _ ?side1 ?side2 A64.out).mono ?_
                                   (case side1 => repeat (first | exact (Kd.R_reads' HO_470000.out).2.2 | (with_reducible refine Kd.C_alloc ?_ _) | (with_reducible refine Kd.C_drewN ?_ _) | (with_reducible refine Kd.C_drew ?_)))
                                   (case side2 => exact (Kd.R_reads' HO_470000.out).2.1)
                                   rintro e w70 ⟨rfl, hb⟩; have HS1_ := (hb.cell (World.block_lt_of_cell? _ _ (hHeld.2.1))).trans (hHeld.2.1); have HS2_ := (hb.cell (World.block_lt_of_cell? _ _ (hHeld.2.2.1))).trans (hHeld.2.2.1); have HS3_ := (hb.cell (World.block_lt_of_cell? _ _ (hHeld.2.2.2.1))).trans (hHeld.2.2.2.1); have HS4_ := (hb.cell (World.block_lt_of_cell? _ _ (hHeld.2.2.2.2))).trans (hHeld.2.2.2.2); refine ⟨_, rfl, ?_⟩
                                   replace HO_4 := Aside0.mk (Kd.R_below t34_ hb); replace HO_5 := Aside0.mk (Kd.R_below t33_ hb); replace HO_439000 := Aside0.mk (Kd.R_below t35_ hb); replace HO_461000 := Aside0.mk (Kd.R_below t93_ hb); replace HO_470000 := Aside0.mk (Kd.R_below t94_ hb); replace HO_475000 := Aside0.mk (Kd.R_below t95_ hb); replace BK438 := bkN BK438 hb; replace BK460 := bkN BK460 hb; replace BK469 := bkN BK469 hb; replace BK474 := bkN BK474 hb; replace HB := bS t19_ hb
                                   (try clear hb)
                                   (try clear hb2)
                                   (try clear hk)
                                   (try clear hi)
                                   refine hK.out _ _ ⟨bc0 BK469, HS1_, HS2_, HS3_, HS4_⟩ (fun hHeld => ?_)
                                   clear hK K; refine norm_ (a' := ?_) ?_ ?_
                                   rotate_left
                                   · show Act.put _ (some 118) _ = _
                                     simp only [Act.put, ps1, ps2, ps3, i64_w, i32_w]; rfl
                                   refine pure_ (i := 7) (N := some 111) (v := ?_) (a' := ?_) #[true, true, true, true, true, true, true, true, false, false, false, false] rfl rfl (any_of HT_.out (by kernel_rfl)) (fun _ _ _ h => h) (Or.inl ⟨by rfl, ?_⟩) ?_ ?_
                                   rotate_left
                                   · intro w'; go_simp; with_reducible rfl
                                   rotate_left
                                   · simp only [Act.put, ps1, ps2, ps3, i64_w, i32_w]; rfl
                                   refine pure_ (i := 8) (N := some 119) (v := ?_) (a' := ?_) #[true, true, true, true, true, true, true, true, true, false, false, false] rfl rfl (any_of HT_.out (by kernel_rfl)) (fun _ _ _ h => h) (Or.inl ⟨by rfl, ?_⟩) ?_ ?_
                                   rotate_left
                                   · intro w'; go_simp; with_reducible rfl
                                   rotate_left
                                   · simp only [Act.put, ps1, ps2, ps3, i64_w, i32_w]; rfl
                                   refine pure_ (i := 9) (N := some 120) (v := ?_) (a' := ?_) #[true, true, true, true, true, true, true, true, true, true, false, false] rfl rfl (any_of HT_.out (by kernel_rfl)) (fun _ _ _ h => h) (Or.inl ⟨by rfl, ?_⟩) ?_ ?_
                                   rotate_left
                                   · intro w'; go_simp; with_reducible rfl
                                   rotate_left
                                   · simp only [Act.put, ps1, ps2, ps3, i64_w, i32_w]; rfl
                                   refine pure_ (i := 10) (N := some 16) (v := ?_) (a' := ?_) #[true, true, true, true, true, true, true, true, true, true, true, false] rfl rfl (any_of HT_.out (by kernel_rfl)) (fun _ _ _ h => h) (Or.inl ⟨by rfl, ?_⟩) ?_ ?_
                                   rotate_left
                                   · intro w'; go_simp; with_reducible rfl
                                   rotate_left
                                   · simp only [Act.put, ps1, ps2, ps3, i64_w, i32_w]; rfl
                                   refine pure_ (i := 11) (N := some 17) (v := ?_) (a' := ?_) #[true, true, true, true, true, true, true, true, true, true, true, true] rfl rfl (any_of HT_.out (by kernel_rfl)) (fun _ _ _ h => h) (Or.inl ⟨by rfl, ?_⟩) ?_ ?_
                                   rotate_left
                                   · intro w'; go_simp; with_reducible rfl
                                   rotate_left
                                   · simp only [Act.put, ps1, ps2, ps3, i64_w, i32_w]; rfl
                                   refine done_ (done_of HT_.out (by kernel_rfl)) ?_
                                   try go_wp2
                                   replace HO_4 := Aside0.mk (Kd.R_drew HO_4.out); replace HO_5 := Aside0.mk (Kd.R_drew HO_5.out); replace HO_439000 := Aside0.mk (Kd.R_drew HO_439000.out); replace HO_461000 := Aside0.mk (Kd.R_drew HO_461000.out); replace HO_470000 := Aside0.mk (Kd.R_drew HO_470000.out); replace HO_475000 := Aside0.mk (Kd.R_drew HO_475000.out); replace BK438 := Aside0.mk (blk_drew BK438.out); replace BK460 := Aside0.mk (blk_drew BK460.out); replace BK469 := Aside0.mk (blk_drew BK469.out); replace BK474 := Aside0.mk (blk_drew BK474.out); replace HB := Aside0.mk (below_drew1 HB.out); have p481 : 0 ≤ (x6_1 : Int) := of_decide_eq_true t7_; have q481 : x6_1 < (t435.length : Int) := of_decide_eq_true t7_; obtain ⟨ad481, e481, hx481_0, hx481_1, hx481_2, hx481_3⟩ := at_T65 (Kd.R_reads' HO_4.out).2.2 x6_1 p481 q481; obtain rfl : ad451 = ad481 := (by injection e481); replace p481 := eq_true p481; replace q481 := eq_true q481; refine start_ (n := 12) (S := fun w' => w'.cell? ⟨gb460, 0, none⟩ = some (.slice Ao39 t456.length co39) ∧ w'.cell? (ad451.add ((x6_1).toNat * 4)) = some (.int .i64 ((rd_T65 t435 x6_1).f0)) ∧ w'.cell? ⟨(ad451.add ((x6_1).toNat * 4)).block, (ad451.add ((x6_1).toNat * 4)).off + 1, none⟩ = some (.string ((rd_T65 t435 x6_1).f1)) ∧ w'.cell? ⟨(ad451.add ((x6_1).toNat * 4)).block, (ad451.add ((x6_1).toNat * 4)).off + 2, none⟩ = some (.string ((rd_T65 t435 x6_1).f2)) ∧ w'.cell? ⟨(ad451.add ((x6_1).toNat * 4)).block, (ad451.add ((x6_1).toNat * 4)).off + 3, none⟩ = some (.string ((rd_T65 t435 x6_1).f3))) (ds := []) #[false, false, false, false, false, false, false, false, false, false, false, false] (by kernel_rfl) rfl rfl ⟨bc0 BK460, hx481_0, hx481_1, hx481_2, hx481_3⟩ (fun hHeld => ?_); refine with_tabW laws_FnTorn.tab17 laws_FnTorn.bits17 (fun HT_ HW_ => ?_)
                                   generalize w70.drew = w71 at HO_4 HO_5 HO_439000 HO_461000 HO_470000 HO_475000 BK438 BK460 BK469 BK474 HB hx481_0 hx481_1 hx481_2 hx481_3 hHeld ⊢; refine pure_ (i := 1) (N := some 123) (v := ?_) (a' := ?_) #[false, true, false, false, false, false, false, false, false, false, false, false] rfl rfl (any_of HT_.out (by kernel_rfl)) (fun _ _ _ h => h) (Or.inl ⟨by rfl, ?_⟩) ?_ ?_
                                   rotate_left
                                   · intro w'; go_simp; with_reducible rfl
                                   rotate_left
                                   · simp only [Act.put, ps1, ps2, ps3, i64_w, i32_w]; rfl
                                   refine pure_ (i := 2) (N := some 124) (v := ?_) (a' := ?_) #[false, true, true, false, false, false, false, false, false, false, false, false] rfl rfl (any_of HT_.out (by kernel_rfl)) (fun _ _ _ h => h) (Or.inl ⟨by rfl, ?_⟩) ?_ ?_
                                   rotate_left
                                   · intro w'; go_simp; with_reducible rfl
                                   rotate_left
                                   · simp only [Act.put, ps1, ps2, ps3, i64_w, i32_w]; rfl
                                   refine pure_ (i := 3) (N := some 125) (v := ?_) (a' := ?_) #[false, true, true, true, false, false, false, false, false, false, false, false] rfl rfl (any_of HT_.out (by kernel_rfl)) (fun _ _ _ h => h) (Or.inl ⟨by rfl, ?_⟩) ?_ ?_
                                   rotate_left
                                   · intro w'; go_simp; with_reducible rfl
                                   rotate_left
                                   · simp only [Act.put, ps1, ps2, ps3, i64_w, i32_w]; rfl
                                   refine pure_ (i := 4) (N := some 126) (v := ?_) (a' := ?_) #[false, true, true, true, true, false, false, false, false, false, false, false] rfl rfl (any_of HT_.out (by kernel_rfl)) (fun _ _ _ h => h) (Or.inl ⟨by rfl, ?_⟩) ?_ ?_
                                   rotate_left
                                   · intro w'; go_simp; with_reducible rfl
                                   rotate_left
                                   · simp only [Act.put, ps1, ps2, ps3, i64_w, i32_w]; rfl
                                   refine take_ (i := 0) (N := some 122) (v := ?_) (a' := ?_) #[true, true, true, true, true, false, false, false, false, false, false, false] rfl rfl (take_ofW HT_.out HW_.out (by kernel_rfl)) (fun _ _ _ h => h) (Or.inl ⟨by rfl, ?_⟩) hHeld ?_ ?_
                                   rotate_left
                                   · rintro w' ⟨s0, s1, s2, s3, s4⟩; go_simp; with_reducible rfl
                                   rotate_left
                                   · simp only [Act.put, ps1, ps2, ps3, i64_w, i32_w]; rfl
                                   refine take_ (i := 5) (N := some 127) (v := ?_) (a' := ?_) #[true, true, true, true, true, true, false, false, false, false, false, false] rfl rfl (take_ofW HT_.out HW_.out (by kernel_rfl)) (fun _ _ _ h => h) (Or.inl ⟨by rfl, ?_⟩) hHeld ?_ ?_
                                   rotate_left
                                   · rintro w' ⟨s0, s1, s2, s3, s4⟩; go_simp; with_reducible rfl
                                   rotate_left
                                   · simp only [Act.put, ps1, ps2, ps3, i64_w, i32_w]; rfl
                                   refine one_ (i := 6) (N := some 128) #[true, true, true, true, true, true, true, false, false, false, false, false] rfl rfl (one_of HT_.out (by kernel_rfl)) (by decide) (fun K hK => ?_)
                                   refine goes_ Try.func32 (by kernel_rfl) rfl #[.agg #[.slice Ao39 t456.length co39], .string ((rd_T65 t435 x6_1).f1)] (by rfl) rfl rfl t0_ ?_
                                   with_reducible refine (impl_FileAt.calls kj30 _ _ t456 ((rd_T65 t435 x6_1).f1) t482 t483 _ ?side1 ?side2 A65.out).mono ?_
                                   (case side1 => repeat (first | exact (Kd.R_reads' HO_461000.out).2.2 | (with_reducible refine Kd.C_alloc ?_ _) | (with_reducible refine Kd.C_drewN ?_ _) | (with_reducible refine Kd.C_drew ?_)))
                                   (case side2 => exact (Kd.R_reads' HO_461000.out).2.1)
                                   rintro e w72 ⟨rfl, hb⟩; have HS1_ := (hb.cell (World.block_lt_of_cell? _ _ (hHeld.2.1))).trans (hHeld.2.1); have HS2_ := (hb.cell (World.block_lt_of_cell? _ _ (hHeld.2.2.1))).trans (hHeld.2.2.1); have HS3_ := (hb.cell (World.block_lt_of_cell? _ _ (hHeld.2.2.2.1))).trans (hHeld.2.2.2.1); have HS4_ := (hb.cell (World.block_lt_of_cell? _ _ (hHeld.2.2.2.2))).trans (hHeld.2.2.2.2); refine ⟨_, rfl, ?_⟩
                                   replace HO_4 := Aside0.mk (Kd.R_below t34_ hb); replace HO_5 := Aside0.mk (Kd.R_below t33_ hb); replace HO_439000 := Aside0.mk (Kd.R_below t35_ hb); replace HO_461000 := Aside0.mk (Kd.R_below t93_ hb); replace HO_470000 := Aside0.mk (Kd.R_below t94_ hb); replace HO_475000 := Aside0.mk (Kd.R_below t95_ hb); replace BK438 := bkN BK438 hb; replace BK460 := bkN BK460 hb; replace BK469 := bkN BK469 hb; replace BK474 := bkN BK474 hb; replace HB := bS t19_ hb
                                   (try clear hb)
                                   (try clear hb2)
                                   (try clear hk)
                                   (try clear hi)
                                   refine hK.out _ _ ⟨bc0 BK460, HS1_, HS2_, HS3_, HS4_⟩ (fun hHeld => ?_)
                                   clear hK K; refine norm_ (a' := ?_) ?_ ?_
                                   rotate_left
                                   · show Act.put _ (some 128) _ = _
                                     simp only [Act.put, ps1, ps2, ps3, i64_w, i32_w]; rfl
                                   refine pure_ (i := 7) (N := some 121) (v := ?_) (a' := ?_) #[true, true, true, true, true, true, true, true, false, false, false, false] rfl rfl (any_of HT_.out (by kernel_rfl)) (fun _ _ _ h => h) (Or.inl ⟨by rfl, ?_⟩) ?_ ?_
                                   rotate_left
                                   · intro w'; go_simp; with_reducible rfl
                                   rotate_left
                                   · simp only [Act.put, ps1, ps2, ps3, i64_w, i32_w]; rfl
                                   refine pure_ (i := 8) (N := some 129) (v := ?_) (a' := ?_) #[true, true, true, true, true, true, true, true, true, false, false, false] rfl rfl (any_of HT_.out (by kernel_rfl)) (fun _ _ _ h => h) (Or.inl ⟨by rfl, ?_⟩) ?_ ?_
                                   rotate_left
                                   · intro w'; go_simp; with_reducible rfl
                                   rotate_left
                                   · simp only [Act.put, ps1, ps2, ps3, i64_w, i32_w]; rfl
                                   refine pure_ (i := 9) (N := some 130) (v := ?_) (a' := ?_) #[true, true, true, true, true, true, true, true, true, true, false, false] rfl rfl (any_of HT_.out (by kernel_rfl)) (fun _ _ _ h => h) (Or.inl ⟨by rfl, ?_⟩) ?_ ?_
                                   rotate_left
                                   · intro w'; go_simp; with_reducible rfl
                                   rotate_left
                                   · simp only [Act.put, ps1, ps2, ps3, i64_w, i32_w]; rfl
                                   refine pure_ (i := 10) (N := some 18) (v := ?_) (a' := ?_) #[true, true, true, true, true, true, true, true, true, true, true, false] rfl rfl (any_of HT_.out (by kernel_rfl)) (fun _ _ _ h => h) (Or.inl ⟨by rfl, ?_⟩) ?_ ?_
                                   rotate_left
                                   · intro w'; go_simp; with_reducible rfl
                                   rotate_left
                                   · simp only [Act.put, ps1, ps2, ps3, i64_w, i32_w]; rfl
                                   refine pure_ (i := 11) (N := some 19) (v := ?_) (a' := ?_) #[true, true, true, true, true, true, true, true, true, true, true, true] rfl rfl (any_of HT_.out (by kernel_rfl)) (fun _ _ _ h => h) (Or.inl ⟨by rfl, ?_⟩) ?_ ?_
                                   rotate_left
                                   · intro w'; go_simp; with_reducible rfl
                                   rotate_left
                                   · simp only [Act.put, ps1, ps2, ps3, i64_w, i32_w]; rfl
                                   refine done_ (done_of HT_.out (by kernel_rfl)) ?_
                                   go_upto_region 18 with (fail)
                                   go_cut [153] (fun v153 wc => ∃ (kq : Nat) (x153_65 : Bool), v153 = .bool x153_65 ∧ Aside0 (laws_FnTorn.j3 kq t435 t439 x6_1 x153_65 t432 t465 t470 = some r) ∧ Aside0 (kq ≤ kj30) ∧ Aside0 (Kd.R k65 65 wc w.heap.size (fun _ => True) (.slice (some ad451) t435.length co13) t435) ∧ Aside0 (Kd.R (Kd.int .i64) 3 wc w.heap.size (fun _ => True) (.slice (some ad450) t439.length co33) t439) ∧ Aside0 (Kd.R k71 71 wc w.heap.size (fun _ => True) (.slice Ao8 t432.length co8) t432) ∧ Aside0 (Kd.R k71 71 wc w.heap.size (fun _ => True) (.slice Ao39 t456.length co39) t456) ∧ Aside0 (Kd.R k71 71 wc w.heap.size (fun _ => True) (.slice Ao47 t465.length co47) t465) ∧ Aside0 (Kd.R k71 71 wc w.heap.size (fun _ => True) (.slice Ao54 t470.length co54) t470) ∧ Aside0 (wc.heap[gb438]? = some (.cells #[(.slice Ao8 t432.length co8)] 30 (0, 0))) ∧ Aside0 (wc.heap[gb460]? = some (.cells #[(.slice Ao39 t456.length co39)] 30 (0, 0))) ∧ Aside0 (wc.heap[gb469]? = some (.cells #[(.slice Ao47 t465.length co47)] 30 (0, 0))) ∧ Aside0 (wc.heap[gb474]? = some (.cells #[(.slice Ao54 t470.length co54)] 30 (0, 0))) ∧ Aside0 (Below w.heap.size w wc))
                                   case first => as_aux_lemma =>
                                    have H := HC66.out; clear HC66; replace H := Option.bind_eq_some_iff.mp H; obtain ⟨t484, A730, H⟩ := H; replace H : (if t484 = true then (if ((rd_T65 t435 x6_1).f0) = 2 then ((laws_begins.f t482 t476).bind fun t486 => (if t486 = true then (laws_FnTorn.j3 kj30 t435 t439 x6_1 ((t476.size : Int) == 0) t432 t465 t470) else (laws_FnTorn.j3 kj30 t435 t439 x6_1 true t432 t465 t470))) else (laws_FnTorn.j3 kj30 t435 t439 x6_1 ((t476.size : Int) == 0) t432 t465 t470)) else (laws_FnTorn.j3 kj30 t435 t439 x6_1 true t432 t465 t470)) = some r := H; have A73 := Aside0.mk A730; clear A730; by_cases c74 : t484 = true
                                    · subst c74; have H1 : (if ((rd_T65 t435 x6_1).f0) = 2 then ((laws_begins.f t482 t476).bind fun t486 => (if t486 = true then (laws_FnTorn.j3 kj30 t435 t439 x6_1 ((t476.size : Int) == 0) t432 t465 t470) else (laws_FnTorn.j3 kj30 t435 t439 x6_1 true t432 t465 t470))) else (laws_FnTorn.j3 kj30 t435 t439 x6_1 ((t476.size : Int) == 0) t432 t465 t470)) = some r := by rw [if_pos rfl] at H; exact H
                                      clear H; have H := H1; clear H1; by_cases c75 : ((rd_T65 t435 x6_1).f0) = 2
                                      · rw [if_pos c75] at H; have c75b0 : (((rd_T65 t435 x6_1).f0) == 2) = true := beq_iff_eq.mpr c75; have c75b1 : (((rd_T65 t435 x6_1).f0) != 2) = false := bne_eq_false_iff_eq.mpr c75; clear c75
                                        (first | rw [c75b0] | (simp only [i64_w, i32_w]; rw [c75b0]) | skip)
                                        replace H := Option.bind_eq_some_iff.mp H; obtain ⟨t486, A760, H⟩ := H; replace H : (if t486 = true then (laws_FnTorn.j3 kj30 t435 t439 x6_1 ((t476.size : Int) == 0) t432 t465 t470) else (laws_FnTorn.j3 kj30 t435 t439 x6_1 true t432 t465 t470)) = some r := H; have A76 := Aside0.mk A760; clear A760; by_cases c77 : t486 = true
                                        · subst c77; have H1 : (laws_FnTorn.j3 kj30 t435 t439 x6_1 ((t476.size : Int) == 0) t432 t465 t470) = some r := by rw [if_pos rfl] at H; exact H
                                          clear H; have H := H1; clear H1; have H' := Aside0.mk H; clear H
                                          go_wp2_with (first | ((with_reducible refine gate_callee (f := 33) rfl ?_); refine goesL_ (some 133) rfl rfl Try.func33 (by kernel_rfl) rfl #[.string t476, .string t479] rfl t0_ ?_; (with_reducible refine (laws_begins.calls t476 t479 true _ A73.out).mono ?_); rintro e w' ⟨rfl, ⟨nd, rfl⟩⟩; refine ⟨_, rfl, ?_⟩; have p485 : 0 ≤ (x6_1 : Int) := of_decide_eq_true t7_; have q485 : x6_1 < (t435.length : Int) := of_decide_eq_true t7_; obtain ⟨ad485, e485, hx485_0, hx485_1, hx485_2, hx485_3⟩ := at_T65 (Kd.R_reads' HO_4.out).2.2 x6_1 p485 q485; obtain rfl : ad451 = ad485 := (by injection e485); replace p485 := eq_true p485; replace q485 := eq_true q485) | (go_at_call 33; (with_reducible refine (laws_begins.calls t482 t476 true _ A76.out).mono ?_); rintro e w' ⟨rfl, ⟨nd, rfl⟩⟩))
                                          go_meet
                                          case rel => exact ⟨_, (((t476.size : Int) == 0)), t27_, H', ⟨by have := HK1.out; have := HJ11.out; have := HJ30.out; first | omega | exact Nat.le_refl _⟩, ⟨zK HO_4⟩, ⟨zK HO_5⟩, ⟨zK HO_439000⟩, ⟨zK HO_461000⟩, ⟨zK HO_470000⟩, ⟨zK HO_475000⟩, ⟨zN BK438⟩, ⟨zN BK460⟩, ⟨zN BK469⟩, ⟨zN BK474⟩, ⟨t19_⟩⟩
                                        · replace c77 := Bool.eq_false_iff.mpr c77; subst c77; have H1 : (laws_FnTorn.j3 kj30 t435 t439 x6_1 true t432 t465 t470) = some r := by rw [if_neg (show ¬ (false = true) by decide)] at H; exact H
                                          clear H; have H := H1; clear H1; have H' := Aside0.mk H; clear H
                                          go_wp2_with (first | ((with_reducible refine gate_callee (f := 33) rfl ?_); refine goesL_ (some 133) rfl rfl Try.func33 (by kernel_rfl) rfl #[.string t476, .string t479] rfl t0_ ?_; (with_reducible refine (laws_begins.calls t476 t479 true _ A73.out).mono ?_); rintro e w' ⟨rfl, ⟨nd, rfl⟩⟩; refine ⟨_, rfl, ?_⟩; have p485 : 0 ≤ (x6_1 : Int) := of_decide_eq_true t7_; have q485 : x6_1 < (t435.length : Int) := of_decide_eq_true t7_; obtain ⟨ad485, e485, hx485_0, hx485_1, hx485_2, hx485_3⟩ := at_T65 (Kd.R_reads' HO_4.out).2.2 x6_1 p485 q485; obtain rfl : ad451 = ad485 := (by injection e485); replace p485 := eq_true p485; replace q485 := eq_true q485) | (go_at_call 33; (with_reducible refine (laws_begins.calls t482 t476 false _ A76.out).mono ?_); rintro e w' ⟨rfl, ⟨nd, rfl⟩⟩))
                                          go_meet
                                          case rel => exact ⟨_, (true), t27_, H', ⟨by have := HK1.out; have := HJ11.out; have := HJ30.out; first | omega | exact Nat.le_refl _⟩, ⟨zK HO_4⟩, ⟨zK HO_5⟩, ⟨zK HO_439000⟩, ⟨zK HO_461000⟩, ⟨zK HO_470000⟩, ⟨zK HO_475000⟩, ⟨zN BK438⟩, ⟨zN BK460⟩, ⟨zN BK469⟩, ⟨zN BK474⟩, ⟨t19_⟩⟩
                                      · rw [if_neg c75] at H; have c75b0 : (((rd_T65 t435 x6_1).f0) == 2) = false := beq_eq_false_iff_ne.mpr c75; have c75b1 : (((rd_T65 t435 x6_1).f0) != 2) = true := bne_iff_ne.mpr c75
                                        (first | rw [c75b0] | (simp only [i64_w, i32_w]; rw [c75b0]) | skip)
                                        have H' := Aside0.mk H; clear H
                                        go_wp2_with (first | ((with_reducible refine gate_callee (f := 33) rfl ?_); refine goesL_ (some 133) rfl rfl Try.func33 (by kernel_rfl) rfl #[.string t476, .string t479] rfl t0_ ?_; (with_reducible refine (laws_begins.calls t476 t479 true _ A73.out).mono ?_); rintro e w' ⟨rfl, ⟨nd, rfl⟩⟩; refine ⟨_, rfl, ?_⟩; have p485 : 0 ≤ (x6_1 : Int) := of_decide_eq_true t7_; have q485 : x6_1 < (t435.length : Int) := of_decide_eq_true t7_; obtain ⟨ad485, e485, hx485_0, hx485_1, hx485_2, hx485_3⟩ := at_T65 (Kd.R_reads' HO_4.out).2.2 x6_1 p485 q485; obtain rfl : ad451 = ad485 := (by injection e485); replace p485 := eq_true p485; replace q485 := eq_true q485))
                                        go_meet
                                        case rel => exact ⟨_, (((t476.size : Int) == 0)), t27_, H', ⟨by have := HK1.out; have := HJ11.out; have := HJ30.out; first | omega | exact Nat.le_refl _⟩, ⟨zK HO_4⟩, ⟨zK HO_5⟩, ⟨zK HO_439000⟩, ⟨zK HO_461000⟩, ⟨zK HO_470000⟩, ⟨zK HO_475000⟩, ⟨zN BK438⟩, ⟨zN BK460⟩, ⟨zN BK469⟩, ⟨zN BK474⟩, ⟨t19_⟩⟩
                                    · replace c74 := Bool.eq_false_iff.mpr c74; subst c74; have H1 : (laws_FnTorn.j3 kj30 t435 t439 x6_1 true t432 t465 t470) = some r := by rw [if_neg (show ¬ (false = true) by decide)] at H; exact H
                                      clear H; have H := H1; clear H1; have H' := Aside0.mk H; clear H
                                      go_wp2_with (first | ((with_reducible refine gate_callee (f := 33) rfl ?_); refine goesL_ (some 133) rfl rfl Try.func33 (by kernel_rfl) rfl #[.string t476, .string t479] rfl t0_ ?_; (with_reducible refine (laws_begins.calls t476 t479 false _ A73.out).mono ?_); rintro e w' ⟨rfl, ⟨nd, rfl⟩⟩; refine ⟨_, rfl, ?_⟩))
                                      go_meet
                                      case rel => exact ⟨_, (true), t27_, H', ⟨by have := HK1.out; have := HJ11.out; have := HJ30.out; first | omega | exact Nat.le_refl _⟩, ⟨zK HO_4⟩, ⟨zK HO_5⟩, ⟨zK HO_439000⟩, ⟨zK HO_461000⟩, ⟨zK HO_470000⟩, ⟨zK HO_475000⟩, ⟨zN BK438⟩, ⟨zN BK460⟩, ⟨zN BK469⟩, ⟨zN BK474⟩, ⟨t19_⟩⟩
                                   case rest => as_aux_lemma =>
                                    clear HC66
                                    try clear p2
                                    try clear c3
                                    try clear p4
                                    try clear q4
                                    try clear hx4
                                    try clear c7
                                    try clear c32
                                    try clear c33
                                    try clear p47
                                    try clear q47
                                    try clear hx47
                                    try clear p48
                                    try clear q48
                                    try clear hx48
                                    try clear c74
                                    try clear c75
                                    try clear c75b0
                                    try clear c75b1
                                    try clear c77
                                    try clear hx475_0
                                    try clear hx475_1
                                    try clear hx475_2
                                    try clear hx475_3
                                    try clear hx478_0
                                    try clear hx478_1
                                    try clear hx478_2
                                    try clear hx478_3
                                    try clear hx481_0
                                    try clear hx481_1
                                    try clear hx481_2
                                    try clear hx481_3
                                    try clear hx485_0
                                    try clear hx485_1
                                    try clear hx485_2
                                    try clear hx485_3
                                    try clear p475
                                    try clear p478
                                    try clear p481
                                    try clear p485
                                    try clear q475
                                    try clear q478
                                    try clear q481
                                    try clear q485
                                    obtain ⟨kq, x153_65, rfl, HA, HJ65, HO_4, HO_5, HO_439000, HO_461000, HO_470000, HO_475000, BK438, BK460, BK469, BK474, HB⟩ := hcut
                                    cases kq with
                                    | zero => exact absurd HA.out (by simp [laws_FnTorn.j3])
                                    | succ kj65 =>
                                     have H := HA.out; clear HA; simp only [laws_FnTorn.j3] at H; by_cases c78 : x153_65 = true
                                     · subst c78; have H1 : (none) = some r := by rw [if_pos rfl] at H; exact H
                                       clear H; have H := H1; clear H1; exact absurd H (by simp)
                                     · replace c78 := Bool.eq_false_iff.mpr c78; subst c78; have H1 : (laws_FnTorn.l1 kj65 t435 t439 x6_1 0 t432 t465 t470) = some r := by rw [if_neg (show ¬ (false = true) by decide)] at H; exact H
                                       clear H; have H := H1; clear H1; have H' := Aside0.mk H; clear H; go_wp2
                                       go_loopg [20] kj65 (fun kq v20 w' => ∃ (x20_5 : Int), v20 = .int .i64 x20_5 ∧ Aside0 (laws_FnTorn.l1 kq t435 t439 x6_1 x20_5 t432 t465 t470 = some r) ∧ Aside0 (kq ≤ kj65) ∧ Aside0 (Kd.R k65 65 w' w.heap.size (fun _ => True) (.slice (some ad451) t435.length co13) t435) ∧ Aside0 (Kd.R (Kd.int .i64) 3 w' w.heap.size (fun _ => True) (.slice (some ad450) t439.length co33) t439) ∧ Aside0 (Kd.R k71 71 w' w.heap.size (fun _ => True) (.slice Ao8 t432.length co8) t432) ∧ Aside0 (Kd.R k71 71 w' w.heap.size (fun _ => True) (.slice Ao39 t456.length co39) t456) ∧ Aside0 (Kd.R k71 71 w' w.heap.size (fun _ => True) (.slice Ao47 t465.length co47) t465) ∧ Aside0 (Kd.R k71 71 w' w.heap.size (fun _ => True) (.slice Ao54 t470.length co54) t470) ∧ Aside0 (w'.heap[gb438]? = some (.cells #[(.slice Ao8 t432.length co8)] 30 (0, 0))) ∧ Aside0 (w'.heap[gb460]? = some (.cells #[(.slice Ao39 t456.length co39)] 30 (0, 0))) ∧ Aside0 (w'.heap[gb469]? = some (.cells #[(.slice Ao47 t465.length co47)] 30 (0, 0))) ∧ Aside0 (w'.heap[gb474]? = some (.cells #[(.slice Ao54 t470.length co54)] 30 (0, 0))) ∧ Aside0 (Below w.heap.size w w'))
                                       case atStart => exact ⟨(0), t27_, H', ⟨Nat.le_refl _⟩, ⟨zK HO_4⟩, ⟨zK HO_5⟩, ⟨zK HO_439000⟩, ⟨zK HO_461000⟩, ⟨zK HO_470000⟩, ⟨zK HO_475000⟩, ⟨zN BK438⟩, ⟨zN BK460⟩, ⟨zN BK469⟩, ⟨zN BK474⟩, ⟨t19_⟩⟩
                                       case round => as_aux_lemma =>
                                        clear H'
                                        try clear p2
                                        try clear c3
                                        try clear p4
                                        try clear q4
                                        try clear hx4
                                        try clear c7
                                        try clear c32
                                        try clear c33
                                        try clear p47
                                        try clear q47
                                        try clear hx47
                                        try clear p48
                                        try clear q48
                                        try clear hx48
                                        try clear c74
                                        try clear c75
                                        try clear c75b0
                                        try clear c75b1
                                        try clear c77
                                        try clear c78
                                        try clear hx475_0
                                        try clear hx475_1
                                        try clear hx475_2
                                        try clear hx475_3
                                        try clear hx478_0
                                        try clear hx478_1
                                        try clear hx478_2
                                        try clear hx478_3
                                        try clear hx481_0
                                        try clear hx481_1
                                        try clear hx481_2
                                        try clear hx481_3
                                        try clear hx485_0
                                        try clear hx485_1
                                        try clear hx485_2
                                        try clear hx485_3
                                        try clear p2
                                        try clear p4
                                        try clear p47
                                        try clear p475
                                        try clear p478
                                        try clear p48
                                        try clear p481
                                        try clear p485
                                        try clear q4
                                        try clear q47
                                        try clear q475
                                        try clear q478
                                        try clear q48
                                        try clear q481
                                        try clear q485
                                        obtain ⟨x20_5, rfl, HA, HK5, HO_4, HO_5, HO_439000, HO_461000, HO_470000, HO_475000, BK438, BK460, BK469, BK474, HB⟩ := hrel
                                        cases gk with
                                        | zero => exact absurd HA.out (by simp [laws_FnTorn.l1])
                                        | succ k5 =>
                                         have H := HA.out; clear HA; simp only [laws_FnTorn.l1] at H; by_cases c79 : x20_5 < (t465.length : Int)
                                         · rw [if_pos c79] at H; have c79b0 : decide (x20_5 < (t465.length : Int)) = true := decide_eq_true c79; clear c79; by_cases c80 : 0 ≤ x20_5
                                           · rw [if_pos c80] at H; have c80b0 : decide (0 ≤ x20_5) = true := decide_eq_true c80; clear c80; replace H := Option.bind_eq_some_iff.mp H; obtain ⟨⟨t488, t489⟩, A810, H⟩ := H; replace H : (if 0 ≤ x6_1 then (if x6_1 < (t435.length : Int) then (if ((rd_T71 t465 x20_5).f0).toList = ((rd_T65 t435 x6_1).f1).toList then (laws_FnTorn.l1 k5 t435 t439 x6_1 (wrap64 (x20_5 + 1)) t432 t465 t470) else (if t489 = true then (if t488.toList = ((rd_T71 t465 x20_5).f1).toList then (laws_FnTorn.l1 k5 t435 t439 x6_1 (wrap64 (x20_5 + 1)) t432 t465 t470) else (none)) else (none))) else (none)) else (none)) = some r := H; have A81 := Aside0.mk A810; clear A810; by_cases c82 : 0 ≤ x6_1
                                             · rw [if_pos c82] at H; have c82b0 : decide (0 ≤ x6_1) = true := decide_eq_true c82; clear c82; by_cases c83 : x6_1 < (t435.length : Int)
                                               · rw [if_pos c83] at H; have c83b0 : decide (x6_1 < (t435.length : Int)) = true := decide_eq_true c83; clear c83; by_cases c84 : ((rd_T71 t465 x20_5).f0).toList = ((rd_T65 t435 x6_1).f1).toList
                                                 · rw [if_pos c84] at H; have c84b0 : (((rd_T71 t465 x20_5).f0).toList == ((rd_T65 t435 x6_1).f1).toList) = true := beq_iff_eq.mpr c84; have c84b1 : (((rd_T71 t465 x20_5).f0).toList != ((rd_T65 t435 x6_1).f1).toList) = false := bne_eq_false_iff_eq.mpr c84; clear c84; have H' := Aside0.mk H; clear H; have hnb85 := NB469_438.out; have hnc85 := NB438_469.out; have hnb86 := NB469_460.out; have hnc86 := NB460_469.out; have hnb87 := NB469_474.out; have hnc87 := NB474_469.out; obtain ⟨hcz88_0, hfz88_0⟩ := ba1 BK469
                                                   try go_wp2
                                                   replace HO_4 := Aside0.mk (Kd.R_drew HO_4.out); replace HO_5 := Aside0.mk (Kd.R_drew HO_5.out); replace HO_439000 := Aside0.mk (Kd.R_drew HO_439000.out); replace HO_461000 := Aside0.mk (Kd.R_drew HO_461000.out); replace HO_470000 := Aside0.mk (Kd.R_drew HO_470000.out); replace HO_475000 := Aside0.mk (Kd.R_drew HO_475000.out); replace BK438 := Aside0.mk (blk_drew BK438.out); replace BK460 := Aside0.mk (blk_drew BK460.out); replace BK469 := Aside0.mk (blk_drew BK469.out); replace BK474 := Aside0.mk (blk_drew BK474.out); replace HB := Aside0.mk (below_drew1 HB.out); have p487 : 0 ≤ (x20_5 : Int) := of_decide_eq_true t7_; have q487 : x20_5 < (t465.length : Int) := of_decide_eq_true t7_; obtain ⟨ad487, e487, hx487_0, hx487_1⟩ := at_T71 (Kd.R_reads' HO_470000.out).2.2 x20_5 p487 q487
                                                   cases e487
                                                   replace p487 := eq_true p487; replace q487 := eq_true q487; refine start_ (n := 13) (S := fun w' => w'.cell? ⟨gb474, 0, none⟩ = some (.slice Ao54 t470.length co54) ∧ w'.cell? ⟨gb469, 0, none⟩ = some (.slice (some ad487) t465.length co47) ∧ w'.cell? (ad487.add ((x20_5).toNat * 2)) = some (.string ((rd_T71 t465 x20_5).f0)) ∧ w'.cell? ⟨(ad487.add ((x20_5).toNat * 2)).block, (ad487.add ((x20_5).toNat * 2)).off + 1, none⟩ = some (.string ((rd_T71 t465 x20_5).f1))) (ds := []) #[false, false, false, false, false, false, false, false, false, false, false, false, false] (by kernel_rfl) rfl rfl ⟨bc0 BK474, bc0 BK469, hx487_0, hx487_1⟩ (fun hHeld => ?_); refine with_tabW laws_FnTorn.tab23 laws_FnTorn.bits23 (fun HT_ HW_ => ?_)
                                                   generalize wr.drew = w89 at HO_4 HO_5 HO_439000 HO_461000 HO_470000 HO_475000 BK438 BK460 BK469 BK474 HB hx487_0 hx487_1 hHeld ⊢; refine pure_ (i := 1) (N := some 163) (v := ?_) (a' := ?_) #[false, true, false, false, false, false, false, false, false, false, false, false, false] rfl rfl (any_of HT_.out (by kernel_rfl)) (fun _ _ _ h => h) (Or.inl ⟨by rfl, ?_⟩) ?_ ?_
                                                   rotate_left
                                                   · intro w'; go_simp; with_reducible rfl
                                                   rotate_left
                                                   · simp only [Act.put, ps1, ps2, ps3, i64_w, i32_w]; rfl
                                                   refine pure_ (i := 3) (N := some 165) (v := ?_) (a' := ?_) #[false, true, false, true, false, false, false, false, false, false, false, false, false] rfl rfl (any_of HT_.out (by kernel_rfl)) (fun _ _ _ h => h) (Or.inl ⟨by rfl, ?_⟩) ?_ ?_
                                                   rotate_left
                                                   · intro w'; go_simp; with_reducible rfl
                                                   rotate_left
                                                   · simp only [Act.put, ps1, ps2, ps3, i64_w, i32_w]; rfl
                                                   refine take_ (i := 0) (N := some 162) (v := ?_) (a' := ?_) #[true, true, false, true, false, false, false, false, false, false, false, false, false] rfl rfl (take_ofW HT_.out HW_.out (by kernel_rfl)) (fun _ _ _ h => h) (Or.inl ⟨by rfl, ?_⟩) hHeld ?_ ?_
                                                   rotate_left
                                                   · rintro w' ⟨s0, s1, s2, s3⟩; go_simp; with_reducible rfl
                                                   rotate_left
                                                   · simp only [Act.put, ps1, ps2, ps3, i64_w, i32_w]; rfl
                                                   refine take_ (i := 2) (N := some 164) (v := ?_) (a' := ?_) #[true, true, true, true, false, false, false, false, false, false, false, false, false] rfl rfl (take_ofW HT_.out HW_.out (by kernel_rfl)) (fun _ _ _ h => h) (Or.inl ⟨by rfl, ?_⟩) hHeld ?_ ?_
                                                   rotate_left
                                                   · rintro w' ⟨s0, s1, s2, s3⟩; go_simp; with_reducible rfl
                                                   rotate_left
                                                   · simp only [Act.put, ps1, ps2, ps3, i64_w, i32_w]; rfl
                                                   refine pure_ (i := 4) (N := some 166) (v := ?_) (a' := ?_) #[true, true, true, true, true, false, false, false, false, false, false, false, false] rfl rfl (any_of HT_.out (by kernel_rfl)) (fun _ _ _ h => h) (Or.inl ⟨by rfl, ?_⟩) ?_ ?_
                                                   rotate_left
                                                   · intro w'; go_simp; with_reducible rfl
                                                   rotate_left
                                                   · simp only [Act.put, ps1, ps2, ps3, i64_w, i32_w]; rfl
                                                   refine pure_ (i := 5) (N := some 167) (v := ?_) (a' := ?_) #[true, true, true, true, true, true, false, false, false, false, false, false, false] rfl rfl (any_of HT_.out (by kernel_rfl)) (fun _ _ _ h => h) (Or.inl ⟨by rfl, ?_⟩) ?_ ?_
                                                   rotate_left
                                                   · intro w'; go_simp; with_reducible rfl
                                                   rotate_left
                                                   · simp only [Act.put, ps1, ps2, ps3, i64_w, i32_w]; rfl
                                                   refine take_ (i := 6) (N := some 168) (v := ?_) (a' := ?_) #[true, true, true, true, true, true, true, false, false, false, false, false, false] rfl rfl (take_ofW HT_.out HW_.out (by kernel_rfl)) (fun _ _ _ h => h) (Or.inl ⟨by rfl, ?_⟩) hHeld ?_ ?_
                                                   rotate_left
                                                   · rintro w' ⟨s0, s1, s2, s3⟩; go_simp; with_reducible rfl
                                                   rotate_left
                                                   · simp only [Act.put, ps1, ps2, ps3, i64_w, i32_w]; rfl
                                                   refine one_ (i := 7) (N := some 169) #[true, true, true, true, true, true, true, true, false, false, false, false, false] rfl rfl (one_of HT_.out (by kernel_rfl)) (by decide) (fun K hK => ?_)
                                                   refine goes_ Try.func32 (by kernel_rfl) rfl #[.agg #[.slice Ao54 t470.length co54], .string ((rd_T71 t465 x20_5).f0)] (by rfl) rfl rfl t0_ ?_
                                                   with_reducible refine (impl_FileAt.calls k5 _ _ t470 ((rd_T71 t465 x20_5).f0) t488 t489 _ ?side1 ?side2 A81.out).mono ?_
                                                   (case side1 => repeat (first | exact (Kd.R_reads' HO_475000.out).2.2 | (with_reducible refine Kd.C_alloc ?_ _) | (with_reducible refine Kd.C_drewN ?_ _) | (with_reducible refine Kd.C_drew ?_)))
                                                   (case side2 => exact (Kd.R_reads' HO_475000.out).2.1)
                                                   rintro e w90 ⟨rfl, hb⟩; have HS2_ := (hb.cell (World.block_lt_of_cell? _ _ (hHeld.2.2.1))).trans (hHeld.2.2.1); have HS3_ := (hb.cell (World.block_lt_of_cell? _ _ (hHeld.2.2.2))).trans (hHeld.2.2.2); refine ⟨_, rfl, ?_⟩
                                                   replace HO_4 := Aside0.mk (Kd.R_below t34_ hb); replace HO_5 := Aside0.mk (Kd.R_below t33_ hb); replace HO_439000 := Aside0.mk (Kd.R_below t35_ hb); replace HO_461000 := Aside0.mk (Kd.R_below t93_ hb); replace HO_470000 := Aside0.mk (Kd.R_below t94_ hb); replace HO_475000 := Aside0.mk (Kd.R_below t95_ hb); replace BK438 := bkN BK438 hb; replace BK460 := bkN BK460 hb; replace BK469 := bkN BK469 hb; replace BK474 := bkN BK474 hb; replace HB := bS t19_ hb
                                                   (try clear hb)
                                                   (try clear hb2)
                                                   (try clear hk)
                                                   (try clear hi)
                                                   refine hK.out _ _ ⟨bc0 BK474, bc0 BK469, HS2_, HS3_⟩ (fun hHeld => ?_)
                                                   clear hK K; refine norm_ (a' := ?_) ?_ ?_
                                                   rotate_left
                                                   · show Act.put _ (some 169) _ = _
                                                     simp only [Act.put, ps1, ps2, ps3, i64_w, i32_w]; rfl
                                                   refine pure_ (i := 8) (N := some 161) (v := ?_) (a' := ?_) #[true, true, true, true, true, true, true, true, true, false, false, false, false] rfl rfl (any_of HT_.out (by kernel_rfl)) (fun _ _ _ h => h) (Or.inl ⟨by rfl, ?_⟩) ?_ ?_
                                                   rotate_left
                                                   · intro w'; go_simp; with_reducible rfl
                                                   rotate_left
                                                   · simp only [Act.put, ps1, ps2, ps3, i64_w, i32_w]; rfl
                                                   refine pure_ (i := 9) (N := some 170) (v := ?_) (a' := ?_) #[true, true, true, true, true, true, true, true, true, true, false, false, false] rfl rfl (any_of HT_.out (by kernel_rfl)) (fun _ _ _ h => h) (Or.inl ⟨by rfl, ?_⟩) ?_ ?_
                                                   rotate_left
                                                   · intro w'; go_simp; with_reducible rfl
                                                   rotate_left
                                                   · simp only [Act.put, ps1, ps2, ps3, i64_w, i32_w]; rfl
                                                   refine pure_ (i := 10) (N := some 171) (v := ?_) (a' := ?_) #[true, true, true, true, true, true, true, true, true, true, true, false, false] rfl rfl (any_of HT_.out (by kernel_rfl)) (fun _ _ _ h => h) (Or.inl ⟨by rfl, ?_⟩) ?_ ?_
                                                   rotate_left
                                                   · intro w'; go_simp; with_reducible rfl
                                                   rotate_left
                                                   · simp only [Act.put, ps1, ps2, ps3, i64_w, i32_w]; rfl
                                                   refine pure_ (i := 11) (N := some 21) (v := ?_) (a' := ?_) #[true, true, true, true, true, true, true, true, true, true, true, true, false] rfl rfl (any_of HT_.out (by kernel_rfl)) (fun _ _ _ h => h) (Or.inl ⟨by rfl, ?_⟩) ?_ ?_
                                                   rotate_left
                                                   · intro w'; go_simp; with_reducible rfl
                                                   rotate_left
                                                   · simp only [Act.put, ps1, ps2, ps3, i64_w, i32_w]; rfl
                                                   refine pure_ (i := 12) (N := some 22) (v := ?_) (a' := ?_) #[true, true, true, true, true, true, true, true, true, true, true, true, true] rfl rfl (any_of HT_.out (by kernel_rfl)) (fun _ _ _ h => h) (Or.inl ⟨by rfl, ?_⟩) ?_ ?_
                                                   rotate_left
                                                   · intro w'; go_simp; with_reducible rfl
                                                   rotate_left
                                                   · simp only [Act.put, ps1, ps2, ps3, i64_w, i32_w]; rfl
                                                   refine done_ (done_of HT_.out (by kernel_rfl)) ?_
                                                   try go_wp2
                                                   replace HO_4 := Aside0.mk (Kd.R_drew HO_4.out); replace HO_5 := Aside0.mk (Kd.R_drew HO_5.out); replace HO_439000 := Aside0.mk (Kd.R_drew HO_439000.out); replace HO_461000 := Aside0.mk (Kd.R_drew HO_461000.out); replace HO_470000 := Aside0.mk (Kd.R_drew HO_470000.out); replace HO_475000 := Aside0.mk (Kd.R_drew HO_475000.out); replace BK438 := Aside0.mk (blk_drew BK438.out); replace BK460 := Aside0.mk (blk_drew BK460.out); replace BK469 := Aside0.mk (blk_drew BK469.out); replace BK474 := Aside0.mk (blk_drew BK474.out); replace HB := Aside0.mk (below_drew1 HB.out); have p490 : 0 ≤ (x20_5 : Int) := of_decide_eq_true t7_; have q490 : x20_5 < (t465.length : Int) := of_decide_eq_true t7_; obtain ⟨ad490, e490, hx490_0, hx490_1⟩ := at_T71 (Kd.R_reads' HO_470000.out).2.2 x20_5 p490 q490; obtain rfl : ad487 = ad490 := (by injection e490); replace p490 := eq_true p490; replace q490 := eq_true q490; have p491 : 0 ≤ (x6_1 : Int) := of_decide_eq_true t7_; have q491 : x6_1 < (t435.length : Int) := of_decide_eq_true t7_; obtain ⟨ad491, e491, hx491_0, hx491_1, hx491_2, hx491_3⟩ := at_T65 (Kd.R_reads' HO_4.out).2.2 x6_1 p491 q491; obtain rfl : ad451 = ad491 := (by injection e491); replace p491 := eq_true p491; replace q491 := eq_true q491; refine start_ (n := 26) (S := fun w' => w'.cell? ⟨gb469, 0, none⟩ = some (.slice (some ad487) t465.length co47) ∧ w'.cell? (ad487.add ((x20_5).toNat * 2)) = some (.string ((rd_T71 t465 x20_5).f0)) ∧ w'.cell? ⟨(ad487.add ((x20_5).toNat * 2)).block, (ad487.add ((x20_5).toNat * 2)).off + 1, none⟩ = some (.string ((rd_T71 t465 x20_5).f1)) ∧ w'.cell? (ad451.add ((x6_1).toNat * 4)) = some (.int .i64 ((rd_T65 t435 x6_1).f0)) ∧ w'.cell? ⟨(ad451.add ((x6_1).toNat * 4)).block, (ad451.add ((x6_1).toNat * 4)).off + 1, none⟩ = some (.string ((rd_T65 t435 x6_1).f1)) ∧ w'.cell? ⟨(ad451.add ((x6_1).toNat * 4)).block, (ad451.add ((x6_1).toNat * 4)).off + 2, none⟩ = some (.string ((rd_T65 t435 x6_1).f2)) ∧ w'.cell? ⟨(ad451.add ((x6_1).toNat * 4)).block, (ad451.add ((x6_1).toNat * 4)).off + 3, none⟩ = some (.string ((rd_T65 t435 x6_1).f3))) (ds := []) #[false, false, false, false, false, false, false, false, false, false, false, false, false, false, false, false, false, false, false, false, false, false, false, false, false, false] (by kernel_rfl) rfl rfl ⟨bc0 BK469, hx490_0, hx490_1, hx491_0, hx491_1, hx491_2, hx491_3⟩ (fun hHeld => ?_); refine with_tabW laws_FnTorn.tab24 laws_FnTorn.bits24 (fun HT_ HW_ => ?_)
                                                   generalize w90.drew = w91 at HO_4 HO_5 HO_439000 HO_461000 HO_470000 HO_475000 BK438 BK460 BK469 BK474 HB hx490_0 hx490_1 hx491_0 hx491_1 hx491_2 hx491_3 hHeld ⊢; refine pure_ (i := 0) (N := some 172) (v := ?_) (a' := ?_) #[true, false, false, false, false, false, false, false, false, false, false, false, false, false, false, false, false, false, false, false, false, false, false, false, false, false] rfl rfl (any_of HT_.out (by kernel_rfl)) (fun _ _ _ h => h) (Or.inl ⟨by rfl, ?_⟩) ?_ ?_
                                                   rotate_left
                                                   · intro w'; go_simp; with_reducible rfl
                                                   rotate_left
                                                   · simp only [Act.put, ps1, ps2, ps3, i64_w, i32_w]; rfl
                                                   refine pure_ (i := 2) (N := some 174) (v := ?_) (a' := ?_) #[true, false, true, false, false, false, false, false, false, false, false, false, false, false, false, false, false, false, false, false, false, false, false, false, false, false] rfl rfl (any_of HT_.out (by kernel_rfl)) (fun _ _ _ h => h) (Or.inl ⟨by rfl, ?_⟩) ?_ ?_
                                                   rotate_left
                                                   · intro w'; go_simp; with_reducible rfl
                                                   rotate_left
                                                   · simp only [Act.put, ps1, ps2, ps3, i64_w, i32_w]; rfl
                                                   refine pure_ (i := 6) (N := some 178) (v := ?_) (a' := ?_) #[true, false, true, false, false, false, true, false, false, false, false, false, false, false, false, false, false, false, false, false, false, false, false, false, false, false] rfl rfl (any_of HT_.out (by kernel_rfl)) (fun _ _ _ h => h) (Or.inl ⟨by rfl, ?_⟩) ?_ ?_
                                                   rotate_left
                                                   · intro w'; go_simp; with_reducible rfl
                                                   rotate_left
                                                   · simp only [Act.put, ps1, ps2, ps3, i64_w, i32_w]; rfl
                                                   refine pure_ (i := 7) (N := some 179) (v := ?_) (a' := ?_) #[true, false, true, false, false, false, true, true, false, false, false, false, false, false, false, false, false, false, false, false, false, false, false, false, false, false] rfl rfl (any_of HT_.out (by kernel_rfl)) (fun _ _ _ h => h) (Or.inl ⟨by rfl, ?_⟩) ?_ ?_
                                                   rotate_left
                                                   · intro w'; go_simp; with_reducible rfl
                                                   rotate_left
                                                   · simp only [Act.put, ps1, ps2, ps3, i64_w, i32_w]; rfl
                                                   refine pure_ (i := 8) (N := some 180) (v := ?_) (a' := ?_) #[true, false, true, false, false, false, true, true, true, false, false, false, false, false, false, false, false, false, false, false, false, false, false, false, false, false] rfl rfl (any_of HT_.out (by kernel_rfl)) (fun _ _ _ h => h) (Or.inl ⟨by rfl, ?_⟩) ?_ ?_
                                                   rotate_left
                                                   · intro w'; go_simp; with_reducible rfl
                                                   rotate_left
                                                   · simp only [Act.put, ps1, ps2, ps3, i64_w, i32_w]; rfl
                                                   refine pure_ (i := 9) (N := some 181) (v := ?_) (a' := ?_) #[true, false, true, false, false, false, true, true, true, true, false, false, false, false, false, false, false, false, false, false, false, false, false, false, false, false] rfl rfl (any_of HT_.out (by kernel_rfl)) (fun _ _ _ h => h) (Or.inl ⟨by rfl, ?_⟩) ?_ ?_
                                                   rotate_left
                                                   · intro w'; go_simp; with_reducible rfl
                                                   rotate_left
                                                   · simp only [Act.put, ps1, ps2, ps3, i64_w, i32_w]; rfl
                                                   refine take_ (i := 1) (N := some 173) (v := ?_) (a' := ?_) #[true, true, true, false, false, false, true, true, true, true, false, false, false, false, false, false, false, false, false, false, false, false, false, false, false, false] rfl rfl (take_ofW HT_.out HW_.out (by kernel_rfl)) (fun _ _ _ h => h) (Or.inl ⟨by rfl, ?_⟩) hHeld ?_ ?_
                                                   rotate_left
                                                   · rintro w' ⟨s0, s1, s2, s3, s4, s5, s6⟩; go_simp; with_reducible rfl
                                                   rotate_left
                                                   · simp only [Act.put, ps1, ps2, ps3, i64_w, i32_w]; rfl
                                                   refine pure_ (i := 3) (N := some 175) (v := ?_) (a' := ?_) #[true, true, true, true, false, false, true, true, true, true, false, false, false, false, false, false, false, false, false, false, false, false, false, false, false, false] rfl rfl (any_of HT_.out (by kernel_rfl)) (fun _ _ _ h => h) (Or.inl ⟨by rfl, ?_⟩) ?_ ?_
                                                   rotate_left
                                                   · intro w'; go_simp; with_reducible rfl
                                                   rotate_left
                                                   · simp only [Act.put, ps1, ps2, ps3, i64_w, i32_w]; rfl
                                                   refine pure_ (i := 4) (N := some 176) (v := ?_) (a' := ?_) #[true, true, true, true, true, false, true, true, true, true, false, false, false, false, false, false, false, false, false, false, false, false, false, false, false, false] rfl rfl (any_of HT_.out (by kernel_rfl)) (fun _ _ _ h => h) (Or.inl ⟨by rfl, ?_⟩) ?_ ?_
                                                   rotate_left
                                                   · intro w'; go_simp; with_reducible rfl
                                                   rotate_left
                                                   · simp only [Act.put, ps1, ps2, ps3, i64_w, i32_w]; rfl
                                                   refine take_ (i := 5) (N := some 177) (v := ?_) (a' := ?_) #[true, true, true, true, true, true, true, true, true, true, false, false, false, false, false, false, false, false, false, false, false, false, false, false, false, false] rfl rfl (take_ofW HT_.out HW_.out (by kernel_rfl)) (fun _ _ _ h => h) (Or.inl ⟨by rfl, ?_⟩) hHeld ?_ ?_
                                                   rotate_left
                                                   · rintro w' ⟨s0, s1, s2, s3, s4, s5, s6⟩; go_simp; with_reducible rfl
                                                   rotate_left
                                                   · simp only [Act.put, ps1, ps2, ps3, i64_w, i32_w]; rfl
                                                   refine take_ (i := 10) (N := some 182) (v := ?_) (a' := ?_) #[true, true, true, true, true, true, true, true, true, true, true, false, false, false, false, false, false, false, false, false, false, false, false, false, false, false] rfl rfl (take_ofW HT_.out HW_.out (by kernel_rfl)) (fun _ _ _ h => h) (Or.inl ⟨by rfl, ?_⟩) hHeld ?_ ?_
                                                   rotate_left
                                                   · rintro w' ⟨s0, s1, s2, s3, s4, s5, s6⟩; go_simp; with_reducible rfl
                                                   rotate_left
                                                   · simp only [Act.put, ps1, ps2, ps3, i64_w, i32_w]; rfl
                                                   refine pure_ (i := 11) (N := some 183) (v := ?_) (a' := ?_) #[true, true, true, true, true, true, true, true, true, true, true, true, false, false, false, false, false, false, false, false, false, false, false, false, false, false] rfl rfl (any_of HT_.out (by kernel_rfl)) (fun _ _ _ h => h) (Or.inl ⟨by rfl, ?_⟩) ?_ ?_
                                                   rotate_left
                                                   · intro w'; go_simp; with_reducible rfl
                                                   rotate_left
                                                   · simp only [Act.put, ps1, ps2, ps3, i64_w, i32_w]; rfl
                                                   refine pure_ (i := 12) (N := some 184) (v := ?_) (a' := ?_) #[true, true, true, true, true, true, true, true, true, true, true, true, true, false, false, false, false, false, false, false, false, false, false, false, false, false] rfl rfl (any_of HT_.out (by kernel_rfl)) (fun _ _ _ h => h) (Or.inl ⟨by rfl, ?_⟩) ?_ ?_
                                                   rotate_left
                                                   · intro w'; go_simp; with_reducible rfl
                                                   rotate_left
                                                   · simp only [Act.put, ps1, ps2, ps3, i64_w, i32_w]; rfl
                                                   refine pure_ (i := 13) (N := some 185) (v := undef) (a' := ?_) #[true, true, true, true, true, true, true, true, true, true, true, true, true, true, false, false, false, false, false, false, false, false, false, false, false, false] rfl rfl (any_of HT_.out (by kernel_rfl)) (fun _ _ _ h => h) (Or.inr ⟨by rfl, rfl⟩) ?_ ?_
                                                   rotate_left
                                                   · simp only [Act.put, ps1, ps2, ps3, i64_w, i32_w]; rfl
                                                   refine pure_ (i := 14) (N := some 186) (v := undef) (a' := ?_) #[true, true, true, true, true, true, true, true, true, true, true, true, true, true, true, false, false, false, false, false, false, false, false, false, false, false] rfl rfl (any_of HT_.out (by kernel_rfl)) (fun _ _ _ h => h) (Or.inr ⟨by rfl, rfl⟩) ?_ ?_
                                                   rotate_left
                                                   · simp only [Act.put, ps1, ps2, ps3, i64_w, i32_w]; rfl
                                                   refine pure_ (i := 15) (N := some 187) (v := undef) (a' := ?_) #[true, true, true, true, true, true, true, true, true, true, true, true, true, true, true, true, false, false, false, false, false, false, false, false, false, false] rfl rfl (any_of HT_.out (by kernel_rfl)) (fun _ _ _ h => h) (Or.inr ⟨by rfl, rfl⟩) ?_ ?_
                                                   rotate_left
                                                   · simp only [Act.put, ps1, ps2, ps3, i64_w, i32_w]; rfl
                                                   refine pure_ (i := 16) (N := some 188) (v := undef) (a' := ?_) #[true, true, true, true, true, true, true, true, true, true, true, true, true, true, true, true, true, false, false, false, false, false, false, false, false, false] rfl rfl (any_of HT_.out (by kernel_rfl)) (fun _ _ _ h => h) (Or.inr ⟨by rfl, rfl⟩) ?_ ?_
                                                   rotate_left
                                                   · simp only [Act.put, ps1, ps2, ps3, i64_w, i32_w]; rfl
                                                   refine pure_ (i := 17) (N := some 189) (v := undef) (a' := ?_) #[true, true, true, true, true, true, true, true, true, true, true, true, true, true, true, true, true, true, false, false, false, false, false, false, false, false] rfl rfl (any_of HT_.out (by kernel_rfl)) (fun _ _ _ h => h) (Or.inr ⟨by rfl, rfl⟩) ?_ ?_
                                                   rotate_left
                                                   · simp only [Act.put, ps1, ps2, ps3, i64_w, i32_w]; rfl
                                                   refine pure_ (i := 18) (N := some 190) (v := undef) (a' := ?_) #[true, true, true, true, true, true, true, true, true, true, true, true, true, true, true, true, true, true, true, false, false, false, false, false, false, false] rfl rfl (any_of HT_.out (by kernel_rfl)) (fun _ _ _ h => h) (Or.inr ⟨by rfl, rfl⟩) ?_ ?_
                                                   rotate_left
                                                   · simp only [Act.put, ps1, ps2, ps3, i64_w, i32_w]; rfl
                                                   refine pure_ (i := 19) (N := some 191) (v := undef) (a' := ?_) #[true, true, true, true, true, true, true, true, true, true, true, true, true, true, true, true, true, true, true, true, false, false, false, false, false, false] rfl rfl (any_of HT_.out (by kernel_rfl)) (fun _ _ _ h => h) (Or.inr ⟨by rfl, rfl⟩) ?_ ?_
                                                   rotate_left
                                                   · simp only [Act.put, ps1, ps2, ps3, i64_w, i32_w]; rfl
                                                   refine pure_ (i := 20) (N := some 192) (v := undef) (a' := ?_) #[true, true, true, true, true, true, true, true, true, true, true, true, true, true, true, true, true, true, true, true, true, false, false, false, false, false] rfl rfl (any_of HT_.out (by kernel_rfl)) (fun _ _ _ h => h) (Or.inr ⟨by rfl, rfl⟩) ?_ ?_
                                                   rotate_left
                                                   · simp only [Act.put, ps1, ps2, ps3, i64_w, i32_w]; rfl
                                                   refine pure_ (i := 21) (N := some 193) (v := undef) (a' := ?_) #[true, true, true, true, true, true, true, true, true, true, true, true, true, true, true, true, true, true, true, true, true, true, false, false, false, false] rfl rfl (any_of HT_.out (by kernel_rfl)) (fun _ _ _ h => h) (Or.inr ⟨by rfl, rfl⟩) ?_ ?_
                                                   rotate_left
                                                   · simp only [Act.put, ps1, ps2, ps3, i64_w, i32_w]; rfl
                                                   refine pure_ (i := 22) (N := some 194) (v := undef) (a' := ?_) #[true, true, true, true, true, true, true, true, true, true, true, true, true, true, true, true, true, true, true, true, true, true, true, false, false, false] rfl rfl (any_of HT_.out (by kernel_rfl)) (fun _ _ _ h => h) (Or.inr ⟨by rfl, rfl⟩) ?_ ?_
                                                   rotate_left
                                                   · simp only [Act.put, ps1, ps2, ps3, i64_w, i32_w]; rfl
                                                   refine pure_ (i := 23) (N := some 195) (v := undef) (a' := ?_) #[true, true, true, true, true, true, true, true, true, true, true, true, true, true, true, true, true, true, true, true, true, true, true, true, false, false] rfl rfl (any_of HT_.out (by kernel_rfl)) (fun _ _ _ h => h) (Or.inr ⟨by rfl, rfl⟩) ?_ ?_
                                                   rotate_left
                                                   · simp only [Act.put, ps1, ps2, ps3, i64_w, i32_w]; rfl
                                                   refine pure_ (i := 24) (N := some 196) (v := undef) (a' := ?_) #[true, true, true, true, true, true, true, true, true, true, true, true, true, true, true, true, true, true, true, true, true, true, true, true, true, false] rfl rfl (any_of HT_.out (by kernel_rfl)) (fun _ _ _ h => h) (Or.inr ⟨by rfl, rfl⟩) ?_ ?_
                                                   rotate_left
                                                   · simp only [Act.put, ps1, ps2, ps3, i64_w, i32_w]; rfl
                                                   refine pure_ (i := 25) (N := some 197) (v := ?_) (a' := ?_) #[true, true, true, true, true, true, true, true, true, true, true, true, true, true, true, true, true, true, true, true, true, true, true, true, true, true] rfl rfl (any_of HT_.out (by kernel_rfl)) (fun _ _ _ h => h) (Or.inl ⟨by rfl, ?_⟩) ?_ ?_
                                                   rotate_left
                                                   · intro w'; go_simp; with_reducible rfl
                                                   rotate_left
                                                   · simp only [Act.put, ps1, ps2, ps3, i64_w, i32_w]; rfl
                                                   refine done_ (done_of HT_.out (by kernel_rfl)) ?_
                                                   try go_wp2
                                                   go_roundg k5
                                                   case measure => have := HK1.out; have := HJ11.out; have := HJ30.out; have := HJ65.out; have := HK5.out; omega
                                                   case rel => exact ⟨(wrap64 (x20_5 + 1)), t27_, H', ⟨by have := HK1.out; have := HJ11.out; have := HJ30.out; have := HJ65.out; have := HK5.out; omega⟩, ⟨zK HO_4⟩, ⟨zK HO_5⟩, ⟨zK HO_439000⟩, ⟨zK HO_461000⟩, ⟨zK HO_470000⟩, ⟨zK HO_475000⟩, ⟨zN BK438⟩, ⟨zN BK460⟩, ⟨zN BK469⟩, ⟨zN BK474⟩, ⟨t19_⟩⟩
                                                 · rw [if_neg c84] at H; have c84b0 : (((rd_T71 t465 x20_5).f0).toList == ((rd_T65 t435 x6_1).f1).toList) = false := beq_eq_false_iff_ne.mpr c84; have c84b1 : (((rd_T71 t465 x20_5).f0).toList != ((rd_T65 t435 x6_1).f1).toList) = true := bne_iff_ne.mpr c84; by_cases c92 : t489 = true
                                                   · subst c92; have H1 : (if t488.toList = ((rd_T71 t465 x20_5).f1).toList then (laws_FnTorn.l1 k5 t435 t439 x6_1 (wrap64 (x20_5 + 1)) t432 t465 t470) else (none)) = some r := by rw [if_pos rfl] at H; exact H
                                                     clear H; have H := H1; clear H1; by_cases c93 : t488.toList = ((rd_T71 t465 x20_5).f1).toList
                                                     · rw [if_pos c93] at H; have c93b0 : (t488.toList == ((rd_T71 t465 x20_5).f1).toList) = true := beq_iff_eq.mpr c93; have c93b1 : (t488.toList != ((rd_T71 t465 x20_5).f1).toList) = false := bne_eq_false_iff_eq.mpr c93; clear c93; have H' := Aside0.mk H; clear H; have hnb94 := NB469_438.out; have hnc94 := NB438_469.out; have hnb95 := NB469_460.out; have hnc95 := NB460_469.out; have hnb96 := NB469_474.out; have hnc96 := NB474_469.out; obtain ⟨hcz97_0, hfz97_0⟩ := ba1 BK469
                                                       try go_wp2
                                                       replace HO_4 := Aside0.mk (Kd.R_drew HO_4.out); replace HO_5 := Aside0.mk (Kd.R_drew HO_5.out); replace HO_439000 := Aside0.mk (Kd.R_drew HO_439000.out); replace HO_461000 := Aside0.mk (Kd.R_drew HO_461000.out); replace HO_470000 := Aside0.mk (Kd.R_drew HO_470000.out); replace HO_475000 := Aside0.mk (Kd.R_drew HO_475000.out); replace BK438 := Aside0.mk (blk_drew BK438.out); replace BK460 := Aside0.mk (blk_drew BK460.out); replace BK469 := Aside0.mk (blk_drew BK469.out); replace BK474 := Aside0.mk (blk_drew BK474.out); replace HB := Aside0.mk (below_drew1 HB.out); have p487 : 0 ≤ (x20_5 : Int) := of_decide_eq_true t7_; have q487 : x20_5 < (t465.length : Int) := of_decide_eq_true t7_; obtain ⟨ad487, e487, hx487_0, hx487_1⟩ := at_T71 (Kd.R_reads' HO_470000.out).2.2 x20_5 p487 q487
                                                       cases e487
                                                       replace p487 := eq_true p487; replace q487 := eq_true q487; refine start_ (n := 13) (S := fun w' => w'.cell? ⟨gb474, 0, none⟩ = some (.slice Ao54 t470.length co54) ∧ w'.cell? ⟨gb469, 0, none⟩ = some (.slice (some ad487) t465.length co47) ∧ w'.cell? (ad487.add ((x20_5).toNat * 2)) = some (.string ((rd_T71 t465 x20_5).f0)) ∧ w'.cell? ⟨(ad487.add ((x20_5).toNat * 2)).block, (ad487.add ((x20_5).toNat * 2)).off + 1, none⟩ = some (.string ((rd_T71 t465 x20_5).f1))) (ds := []) #[false, false, false, false, false, false, false, false, false, false, false, false, false] (by kernel_rfl) rfl rfl ⟨bc0 BK474, bc0 BK469, hx487_0, hx487_1⟩ (fun hHeld => ?_); refine with_tabW laws_FnTorn.tab23 laws_FnTorn.bits23 (fun HT_ HW_ => ?_)
                                                       generalize wr.drew = w98 at HO_4 HO_5 HO_439000 HO_461000 HO_470000 HO_475000 BK438 BK460 BK469 BK474 HB hx487_0 hx487_1 hHeld ⊢; refine pure_ (i := 1) (N := some 163) (v := ?_) (a' := ?_) #[false, true, false, false, false, false, false, false, false, false, false, false, false] rfl rfl (any_of HT_.out (by kernel_rfl)) (fun _ _ _ h => h) (Or.inl ⟨by rfl, ?_⟩) ?_ ?_
                                                       rotate_left
                                                       · intro w'; go_simp; with_reducible rfl
                                                       rotate_left
                                                       · simp only [Act.put, ps1, ps2, ps3, i64_w, i32_w]; rfl
                                                       refine pure_ (i := 3) (N := some 165) (v := ?_) (a' := ?_) #[false, true, false, true, false, false, false, false, false, false, false, false, false] rfl rfl (any_of HT_.out (by kernel_rfl)) (fun _ _ _ h => h) (Or.inl ⟨by rfl, ?_⟩) ?_ ?_
                                                       rotate_left
                                                       · intro w'; go_simp; with_reducible rfl
                                                       rotate_left
                                                       · simp only [Act.put, ps1, ps2, ps3, i64_w, i32_w]; rfl
                                                       refine take_ (i := 0) (N := some 162) (v := ?_) (a' := ?_) #[true, true, false, true, false, false, false, false, false, false, false, false, false] rfl rfl (take_ofW HT_.out HW_.out (by kernel_rfl)) (fun _ _ _ h => h) (Or.inl ⟨by rfl, ?_⟩) hHeld ?_ ?_
                                                       rotate_left
                                                       · rintro w' ⟨s0, s1, s2, s3⟩; go_simp; with_reducible rfl
                                                       rotate_left
                                                       · simp only [Act.put, ps1, ps2, ps3, i64_w, i32_w]; rfl
                                                       refine take_ (i := 2) (N := some 164) (v := ?_) (a' := ?_) #[true, true, true, true, false, false, false, false, false, false, false, false, false] rfl rfl (take_ofW HT_.out HW_.out (by kernel_rfl)) (fun _ _ _ h => h) (Or.inl ⟨by rfl, ?_⟩) hHeld ?_ ?_
                                                       rotate_left
                                                       · rintro w' ⟨s0, s1, s2, s3⟩; go_simp; with_reducible rfl
                                                       rotate_left
                                                       · simp only [Act.put, ps1, ps2, ps3, i64_w, i32_w]; rfl
                                                       refine pure_ (i := 4) (N := some 166) (v := ?_) (a' := ?_) #[true, true, true, true, true, false, false, false, false, false, false, false, false] rfl rfl (any_of HT_.out (by kernel_rfl)) (fun _ _ _ h => h) (Or.inl ⟨by rfl, ?_⟩) ?_ ?_
                                                       rotate_left
                                                       · intro w'; go_simp; with_reducible rfl
                                                       rotate_left
                                                       · simp only [Act.put, ps1, ps2, ps3, i64_w, i32_w]; rfl
                                                       refine pure_ (i := 5) (N := some 167) (v := ?_) (a' := ?_) #[true, true, true, true, true, true, false, false, false, false, false, false, false] rfl rfl (any_of HT_.out (by kernel_rfl)) (fun _ _ _ h => h) (Or.inl ⟨by rfl, ?_⟩) ?_ ?_
                                                       rotate_left
                                                       · intro w'; go_simp; with_reducible rfl
                                                       rotate_left
                                                       · simp only [Act.put, ps1, ps2, ps3, i64_w, i32_w]; rfl
                                                       refine take_ (i := 6) (N := some 168) (v := ?_) (a' := ?_) #[true, true, true, true, true, true, true, false, false, false, false, false, false] rfl rfl (take_ofW HT_.out HW_.out (by kernel_rfl)) (fun _ _ _ h => h) (Or.inl ⟨by rfl, ?_⟩) hHeld ?_ ?_
                                                       rotate_left
                                                       · rintro w' ⟨s0, s1, s2, s3⟩; go_simp; with_reducible rfl
                                                       rotate_left
                                                       · simp only [Act.put, ps1, ps2, ps3, i64_w, i32_w]; rfl
                                                       refine one_ (i := 7) (N := some 169) #[true, true, true, true, true, true, true, true, false, false, false, false, false] rfl rfl (one_of HT_.out (by kernel_rfl)) (by decide) (fun K hK => ?_)
                                                       refine goes_ Try.func32 (by kernel_rfl) rfl #[.agg #[.slice Ao54 t470.length co54], .string ((rd_T71 t465 x20_5).f0)] (by rfl) rfl rfl t0_ ?_
                                                       with_reducible refine (impl_FileAt.calls k5 _ _ t470 ((rd_T71 t465 x20_5).f0) t488 true _ ?side1 ?side2 A81.out).mono ?_
                                                       (case side1 => repeat (first | exact (Kd.R_reads' HO_475000.out).2.2 | (with_reducible refine Kd.C_alloc ?_ _) | (with_reducible refine Kd.C_drewN ?_ _) | (with_reducible refine Kd.C_drew ?_)))
                                                       (case side2 => exact (Kd.R_reads' HO_475000.out).2.1)
                                                       rintro e w99 ⟨rfl, hb⟩; have HS2_ := (hb.cell (World.block_lt_of_cell? _ _ (hHeld.2.2.1))).trans (hHeld.2.2.1); have HS3_ := (hb.cell (World.block_lt_of_cell? _ _ (hHeld.2.2.2))).trans (hHeld.2.2.2); refine ⟨_, rfl, ?_⟩
                                                       replace HO_4 := Aside0.mk (Kd.R_below t34_ hb); replace HO_5 := Aside0.mk (Kd.R_below t33_ hb); replace HO_439000 := Aside0.mk (Kd.R_below t35_ hb); replace HO_461000 := Aside0.mk (Kd.R_below t93_ hb); replace HO_470000 := Aside0.mk (Kd.R_below t94_ hb); replace HO_475000 := Aside0.mk (Kd.R_below t95_ hb); replace BK438 := bkN BK438 hb; replace BK460 := bkN BK460 hb; replace BK469 := bkN BK469 hb; replace BK474 := bkN BK474 hb; replace HB := bS t19_ hb
                                                       (try clear hb)
                                                       (try clear hb2)
                                                       (try clear hk)
                                                       (try clear hi)
                                                       refine hK.out _ _ ⟨bc0 BK474, bc0 BK469, HS2_, HS3_⟩ (fun hHeld => ?_)
                                                       clear hK K; refine norm_ (a' := ?_) ?_ ?_
                                                       rotate_left
                                                       · show Act.put _ (some 169) _ = _
                                                         simp only [Act.put, ps1, ps2, ps3, i64_w, i32_w]; rfl
                                                       refine pure_ (i := 8) (N := some 161) (v := ?_) (a' := ?_) #[true, true, true, true, true, true, true, true, true, false, false, false, false] rfl rfl (any_of HT_.out (by kernel_rfl)) (fun _ _ _ h => h) (Or.inl ⟨by rfl, ?_⟩) ?_ ?_
                                                       rotate_left
                                                       · intro w'; go_simp; with_reducible rfl
                                                       rotate_left
                                                       · simp only [Act.put, ps1, ps2, ps3, i64_w, i32_w]; rfl
                                                       refine pure_ (i := 9) (N := some 170) (v := ?_) (a' := ?_) #[true, true, true, true, true, true, true, true, true, true, false, false, false] rfl rfl (any_of HT_.out (by kernel_rfl)) (fun _ _ _ h => h) (Or.inl ⟨by rfl, ?_⟩) ?_ ?_
                                                       rotate_left
                                                       · intro w'; go_simp; with_reducible rfl
                                                       rotate_left
                                                       · simp only [Act.put, ps1, ps2, ps3, i64_w, i32_w]; rfl
                                                       refine pure_ (i := 10) (N := some 171) (v := ?_) (a' := ?_) #[true, true, true, true, true, true, true, true, true, true, true, false, false] rfl rfl (any_of HT_.out (by kernel_rfl)) (fun _ _ _ h => h) (Or.inl ⟨by rfl, ?_⟩) ?_ ?_
                                                       rotate_left
                                                       · intro w'; go_simp; with_reducible rfl
                                                       rotate_left
                                                       · simp only [Act.put, ps1, ps2, ps3, i64_w, i32_w]; rfl
                                                       refine pure_ (i := 11) (N := some 21) (v := ?_) (a' := ?_) #[true, true, true, true, true, true, true, true, true, true, true, true, false] rfl rfl (any_of HT_.out (by kernel_rfl)) (fun _ _ _ h => h) (Or.inl ⟨by rfl, ?_⟩) ?_ ?_
                                                       rotate_left
                                                       · intro w'; go_simp; with_reducible rfl
                                                       rotate_left
                                                       · simp only [Act.put, ps1, ps2, ps3, i64_w, i32_w]; rfl
                                                       refine pure_ (i := 12) (N := some 22) (v := ?_) (a' := ?_) #[true, true, true, true, true, true, true, true, true, true, true, true, true] rfl rfl (any_of HT_.out (by kernel_rfl)) (fun _ _ _ h => h) (Or.inl ⟨by rfl, ?_⟩) ?_ ?_
                                                       rotate_left
                                                       · intro w'; go_simp; with_reducible rfl
                                                       rotate_left
                                                       · simp only [Act.put, ps1, ps2, ps3, i64_w, i32_w]; rfl
                                                       refine done_ (done_of HT_.out (by kernel_rfl)) ?_
                                                       try go_wp2
                                                       replace HO_4 := Aside0.mk (Kd.R_drew HO_4.out); replace HO_5 := Aside0.mk (Kd.R_drew HO_5.out); replace HO_439000 := Aside0.mk (Kd.R_drew HO_439000.out); replace HO_461000 := Aside0.mk (Kd.R_drew HO_461000.out); replace HO_470000 := Aside0.mk (Kd.R_drew HO_470000.out); replace HO_475000 := Aside0.mk (Kd.R_drew HO_475000.out); replace BK438 := Aside0.mk (blk_drew BK438.out); replace BK460 := Aside0.mk (blk_drew BK460.out); replace BK469 := Aside0.mk (blk_drew BK469.out); replace BK474 := Aside0.mk (blk_drew BK474.out); replace HB := Aside0.mk (below_drew1 HB.out); have p490 : 0 ≤ (x20_5 : Int) := of_decide_eq_true t7_; have q490 : x20_5 < (t465.length : Int) := of_decide_eq_true t7_; obtain ⟨ad490, e490, hx490_0, hx490_1⟩ := at_T71 (Kd.R_reads' HO_470000.out).2.2 x20_5 p490 q490; obtain rfl : ad487 = ad490 := (by injection e490); replace p490 := eq_true p490; replace q490 := eq_true q490; have p491 : 0 ≤ (x6_1 : Int) := of_decide_eq_true t7_; have q491 : x6_1 < (t435.length : Int) := of_decide_eq_true t7_; obtain ⟨ad491, e491, hx491_0, hx491_1, hx491_2, hx491_3⟩ := at_T65 (Kd.R_reads' HO_4.out).2.2 x6_1 p491 q491; obtain rfl : ad451 = ad491 := (by injection e491); replace p491 := eq_true p491; replace q491 := eq_true q491; have p492 : 0 ≤ (x20_5 : Int) := of_decide_eq_true t7_; have q492 : x20_5 < (t465.length : Int) := of_decide_eq_true t7_; obtain ⟨ad492, e492, hx492_0, hx492_1⟩ := at_T71 (Kd.R_reads' HO_470000.out).2.2 x20_5 p492 q492; obtain rfl : ad487 = ad492 := (by injection e492); replace p492 := eq_true p492; replace q492 := eq_true q492; refine start_ (n := 26) (S := fun w' => w'.cell? ⟨gb469, 0, none⟩ = some (.slice (some ad487) t465.length co47) ∧ w'.cell? (ad487.add ((x20_5).toNat * 2)) = some (.string ((rd_T71 t465 x20_5).f0)) ∧ w'.cell? ⟨(ad487.add ((x20_5).toNat * 2)).block, (ad487.add ((x20_5).toNat * 2)).off + 1, none⟩ = some (.string ((rd_T71 t465 x20_5).f1)) ∧ w'.cell? (ad451.add ((x6_1).toNat * 4)) = some (.int .i64 ((rd_T65 t435 x6_1).f0)) ∧ w'.cell? ⟨(ad451.add ((x6_1).toNat * 4)).block, (ad451.add ((x6_1).toNat * 4)).off + 1, none⟩ = some (.string ((rd_T65 t435 x6_1).f1)) ∧ w'.cell? ⟨(ad451.add ((x6_1).toNat * 4)).block, (ad451.add ((x6_1).toNat * 4)).off + 2, none⟩ = some (.string ((rd_T65 t435 x6_1).f2)) ∧ w'.cell? ⟨(ad451.add ((x6_1).toNat * 4)).block, (ad451.add ((x6_1).toNat * 4)).off + 3, none⟩ = some (.string ((rd_T65 t435 x6_1).f3)) ∧ w'.cell? (ad487.add ((x20_5).toNat * 2)) = some (.string ((rd_T71 t465 x20_5).f0)) ∧ w'.cell? ⟨(ad487.add ((x20_5).toNat * 2)).block, (ad487.add ((x20_5).toNat * 2)).off + 1, none⟩ = some (.string ((rd_T71 t465 x20_5).f1))) (ds := []) #[false, false, false, false, false, false, false, false, false, false, false, false, false, false, false, false, false, false, false, false, false, false, false, false, false, false] (by kernel_rfl) rfl rfl ⟨bc0 BK469, hx490_0, hx490_1, hx491_0, hx491_1, hx491_2, hx491_3, hx492_0, hx492_1⟩ (fun hHeld => ?_); refine with_tabW laws_FnTorn.tab24 laws_FnTorn.bits24 (fun HT_ HW_ => ?_)
                                                       generalize w99.drew = w100 at HO_4 HO_5 HO_439000 HO_461000 HO_470000 HO_475000 BK438 BK460 BK469 BK474 HB hx490_0 hx490_1 hx491_0 hx491_1 hx491_2 hx491_3 hx492_0 hx492_1 hHeld ⊢; refine pure_ (i := 0) (N := some 172) (v := ?_) (a' := ?_) #[true, false, false, false, false, false, false, false, false, false, false, false, false, false, false, false, false, false, false, false, false, false, false, false, false, false] rfl rfl (any_of HT_.out (by kernel_rfl)) (fun _ _ _ h => h) (Or.inl ⟨by rfl, ?_⟩) ?_ ?_
                                                       rotate_left
                                                       · intro w'; go_simp; with_reducible rfl
                                                       rotate_left
                                                       · simp only [Act.put, ps1, ps2, ps3, i64_w, i32_w]; rfl
                                                       refine pure_ (i := 2) (N := some 174) (v := ?_) (a' := ?_) #[true, false, true, false, false, false, false, false, false, false, false, false, false, false, false, false, false, false, false, false, false, false, false, false, false, false] rfl rfl (any_of HT_.out (by kernel_rfl)) (fun _ _ _ h => h) (Or.inl ⟨by rfl, ?_⟩) ?_ ?_
                                                       rotate_left
                                                       · intro w'; go_simp; with_reducible rfl
                                                       rotate_left
                                                       · simp only [Act.put, ps1, ps2, ps3, i64_w, i32_w]; rfl
                                                       refine pure_ (i := 6) (N := some 178) (v := ?_) (a' := ?_) #[true, false, true, false, false, false, true, false, false, false, false, false, false, false, false, false, false, false, false, false, false, false, false, false, false, false] rfl rfl (any_of HT_.out (by kernel_rfl)) (fun _ _ _ h => h) (Or.inl ⟨by rfl, ?_⟩) ?_ ?_
                                                       rotate_left
                                                       · intro w'; go_simp; with_reducible rfl
                                                       rotate_left
                                                       · simp only [Act.put, ps1, ps2, ps3, i64_w, i32_w]; rfl
                                                       refine pure_ (i := 7) (N := some 179) (v := ?_) (a' := ?_) #[true, false, true, false, false, false, true, true, false, false, false, false, false, false, false, false, false, false, false, false, false, false, false, false, false, false] rfl rfl (any_of HT_.out (by kernel_rfl)) (fun _ _ _ h => h) (Or.inl ⟨by rfl, ?_⟩) ?_ ?_
                                                       rotate_left
                                                       · intro w'; go_simp; with_reducible rfl
                                                       rotate_left
                                                       · simp only [Act.put, ps1, ps2, ps3, i64_w, i32_w]; rfl
                                                       refine pure_ (i := 8) (N := some 180) (v := ?_) (a' := ?_) #[true, false, true, false, false, false, true, true, true, false, false, false, false, false, false, false, false, false, false, false, false, false, false, false, false, false] rfl rfl (any_of HT_.out (by kernel_rfl)) (fun _ _ _ h => h) (Or.inl ⟨by rfl, ?_⟩) ?_ ?_
                                                       rotate_left
                                                       · intro w'; go_simp; with_reducible rfl
                                                       rotate_left
                                                       · simp only [Act.put, ps1, ps2, ps3, i64_w, i32_w]; rfl
                                                       refine pure_ (i := 9) (N := some 181) (v := ?_) (a' := ?_) #[true, false, true, false, false, false, true, true, true, true, false, false, false, false, false, false, false, false, false, false, false, false, false, false, false, false] rfl rfl (any_of HT_.out (by kernel_rfl)) (fun _ _ _ h => h) (Or.inl ⟨by rfl, ?_⟩) ?_ ?_
                                                       rotate_left
                                                       · intro w'; go_simp; with_reducible rfl
                                                       rotate_left
                                                       · simp only [Act.put, ps1, ps2, ps3, i64_w, i32_w]; rfl
                                                       refine take_ (i := 1) (N := some 173) (v := ?_) (a' := ?_) #[true, true, true, false, false, false, true, true, true, true, false, false, false, false, false, false, false, false, false, false, false, false, false, false, false, false] rfl rfl (take_ofW HT_.out HW_.out (by kernel_rfl)) (fun _ _ _ h => h) (Or.inl ⟨by rfl, ?_⟩) hHeld ?_ ?_
                                                       rotate_left
                                                       · rintro w' ⟨s0, s1, s2, s3, s4, s5, s6, s7, s8⟩; go_simp; with_reducible rfl
                                                       rotate_left
                                                       · simp only [Act.put, ps1, ps2, ps3, i64_w, i32_w]; rfl
                                                       refine pure_ (i := 3) (N := some 175) (v := ?_) (a' := ?_) #[true, true, true, true, false, false, true, true, true, true, false, false, false, false, false, false, false, false, false, false, false, false, false, false, false, false] rfl rfl (any_of HT_.out (by kernel_rfl)) (fun _ _ _ h => h) (Or.inl ⟨by rfl, ?_⟩) ?_ ?_
                                                       rotate_left
                                                       · intro w'; go_simp; with_reducible rfl
                                                       rotate_left
                                                       · simp only [Act.put, ps1, ps2, ps3, i64_w, i32_w]; rfl
                                                       refine pure_ (i := 4) (N := some 176) (v := ?_) (a' := ?_) #[true, true, true, true, true, false, true, true, true, true, false, false, false, false, false, false, false, false, false, false, false, false, false, false, false, false] rfl rfl (any_of HT_.out (by kernel_rfl)) (fun _ _ _ h => h) (Or.inl ⟨by rfl, ?_⟩) ?_ ?_
                                                       rotate_left
                                                       · intro w'; go_simp; with_reducible rfl
                                                       rotate_left
                                                       · simp only [Act.put, ps1, ps2, ps3, i64_w, i32_w]; rfl
                                                       refine take_ (i := 5) (N := some 177) (v := ?_) (a' := ?_) #[true, true, true, true, true, true, true, true, true, true, false, false, false, false, false, false, false, false, false, false, false, false, false, false, false, false] rfl rfl (take_ofW HT_.out HW_.out (by kernel_rfl)) (fun _ _ _ h => h) (Or.inl ⟨by rfl, ?_⟩) hHeld ?_ ?_
                                                       rotate_left
                                                       · rintro w' ⟨s0, s1, s2, s3, s4, s5, s6, s7, s8⟩; go_simp; with_reducible rfl
                                                       rotate_left
                                                       · simp only [Act.put, ps1, ps2, ps3, i64_w, i32_w]; rfl
                                                       refine take_ (i := 10) (N := some 182) (v := ?_) (a' := ?_) #[true, true, true, true, true, true, true, true, true, true, true, false, false, false, false, false, false, false, false, false, false, false, false, false, false, false] rfl rfl (take_ofW HT_.out HW_.out (by kernel_rfl)) (fun _ _ _ h => h) (Or.inl ⟨by rfl, ?_⟩) hHeld ?_ ?_
                                                       rotate_left
                                                       · rintro w' ⟨s0, s1, s2, s3, s4, s5, s6, s7, s8⟩; go_simp; with_reducible rfl
                                                       rotate_left
                                                       · simp only [Act.put, ps1, ps2, ps3, i64_w, i32_w]; rfl
                                                       refine pure_ (i := 11) (N := some 183) (v := ?_) (a' := ?_) #[true, true, true, true, true, true, true, true, true, true, true, true, false, false, false, false, false, false, false, false, false, false, false, false, false, false] rfl rfl (any_of HT_.out (by kernel_rfl)) (fun _ _ _ h => h) (Or.inl ⟨by rfl, ?_⟩) ?_ ?_
                                                       rotate_left
                                                       · intro w'; go_simp; with_reducible rfl
                                                       rotate_left
                                                       · simp only [Act.put, ps1, ps2, ps3, i64_w, i32_w]; rfl
                                                       refine pure_ (i := 12) (N := some 184) (v := ?_) (a' := ?_) #[true, true, true, true, true, true, true, true, true, true, true, true, true, false, false, false, false, false, false, false, false, false, false, false, false, false] rfl rfl (any_of HT_.out (by kernel_rfl)) (fun _ _ _ h => h) (Or.inl ⟨by rfl, ?_⟩) ?_ ?_
                                                       rotate_left
                                                       · intro w'; go_simp; with_reducible rfl
                                                       rotate_left
                                                       · simp only [Act.put, ps1, ps2, ps3, i64_w, i32_w]; rfl
                                                       refine pure_ (i := 13) (N := some 185) (v := ?_) (a' := ?_) #[true, true, true, true, true, true, true, true, true, true, true, true, true, true, false, false, false, false, false, false, false, false, false, false, false, false] rfl rfl (any_of HT_.out (by kernel_rfl)) (fun _ _ _ h => h) (Or.inl ⟨by rfl, ?_⟩) ?_ ?_
                                                       rotate_left
                                                       · intro w'; go_simp; with_reducible rfl
                                                       rotate_left
                                                       · simp only [Act.put, ps1, ps2, ps3, i64_w, i32_w]; rfl
                                                       refine pure_ (i := 14) (N := some 186) (v := ?_) (a' := ?_) #[true, true, true, true, true, true, true, true, true, true, true, true, true, true, true, false, false, false, false, false, false, false, false, false, false, false] rfl rfl (any_of HT_.out (by kernel_rfl)) (fun _ _ _ h => h) (Or.inl ⟨by rfl, ?_⟩) ?_ ?_
                                                       rotate_left
                                                       · intro w'; go_simp; with_reducible rfl
                                                       rotate_left
                                                       · simp only [Act.put, ps1, ps2, ps3, i64_w, i32_w]; rfl
                                                       refine pure_ (i := 15) (N := some 187) (v := ?_) (a' := ?_) #[true, true, true, true, true, true, true, true, true, true, true, true, true, true, true, true, false, false, false, false, false, false, false, false, false, false] rfl rfl (any_of HT_.out (by kernel_rfl)) (fun _ _ _ h => h) (Or.inl ⟨by rfl, ?_⟩) ?_ ?_
                                                       rotate_left
                                                       · intro w'; go_simp; with_reducible rfl
                                                       rotate_left
                                                       · simp only [Act.put, ps1, ps2, ps3, i64_w, i32_w]; rfl
                                                       refine pure_ (i := 16) (N := some 188) (v := ?_) (a' := ?_) #[true, true, true, true, true, true, true, true, true, true, true, true, true, true, true, true, true, false, false, false, false, false, false, false, false, false] rfl rfl (any_of HT_.out (by kernel_rfl)) (fun _ _ _ h => h) (Or.inl ⟨by rfl, ?_⟩) ?_ ?_
                                                       rotate_left
                                                       · intro w'; go_simp; with_reducible rfl
                                                       rotate_left
                                                       · simp only [Act.put, ps1, ps2, ps3, i64_w, i32_w]; rfl
                                                       refine pure_ (i := 17) (N := some 189) (v := ?_) (a' := ?_) #[true, true, true, true, true, true, true, true, true, true, true, true, true, true, true, true, true, true, false, false, false, false, false, false, false, false] rfl rfl (any_of HT_.out (by kernel_rfl)) (fun _ _ _ h => h) (Or.inl ⟨by rfl, ?_⟩) ?_ ?_
                                                       rotate_left
                                                       · intro w'; go_simp; with_reducible rfl
                                                       rotate_left
                                                       · simp only [Act.put, ps1, ps2, ps3, i64_w, i32_w]; rfl
                                                       refine pure_ (i := 19) (N := some 191) (v := ?_) (a' := ?_) #[true, true, true, true, true, true, true, true, true, true, true, true, true, true, true, true, true, true, false, true, false, false, false, false, false, false] rfl rfl (any_of HT_.out (by kernel_rfl)) (fun _ _ _ h => h) (Or.inl ⟨by rfl, ?_⟩) ?_ ?_
                                                       rotate_left
                                                       · intro w'; go_simp; with_reducible rfl
                                                       rotate_left
                                                       · simp only [Act.put, ps1, ps2, ps3, i64_w, i32_w]; rfl
                                                       refine take_ (i := 18) (N := some 190) (v := ?_) (a' := ?_) #[true, true, true, true, true, true, true, true, true, true, true, true, true, true, true, true, true, true, true, true, false, false, false, false, false, false] rfl rfl (take_ofW HT_.out HW_.out (by kernel_rfl)) (fun _ _ _ h => h) (Or.inl ⟨by rfl, ?_⟩) hHeld ?_ ?_
                                                       rotate_left
                                                       · rintro w' ⟨s0, s1, s2, s3, s4, s5, s6, s7, s8⟩; go_simp; with_reducible rfl
                                                       rotate_left
                                                       · simp only [Act.put, ps1, ps2, ps3, i64_w, i32_w]; rfl
                                                       refine pure_ (i := 20) (N := some 192) (v := ?_) (a' := ?_) #[true, true, true, true, true, true, true, true, true, true, true, true, true, true, true, true, true, true, true, true, true, false, false, false, false, false] rfl rfl (any_of HT_.out (by kernel_rfl)) (fun _ _ _ h => h) (Or.inl ⟨by rfl, ?_⟩) ?_ ?_
                                                       rotate_left
                                                       · intro w'; go_simp; with_reducible rfl
                                                       rotate_left
                                                       · simp only [Act.put, ps1, ps2, ps3, i64_w, i32_w]; rfl
                                                       refine pure_ (i := 21) (N := some 193) (v := ?_) (a' := ?_) #[true, true, true, true, true, true, true, true, true, true, true, true, true, true, true, true, true, true, true, true, true, true, false, false, false, false] rfl rfl (any_of HT_.out (by kernel_rfl)) (fun _ _ _ h => h) (Or.inl ⟨by rfl, ?_⟩) ?_ ?_
                                                       rotate_left
                                                       · intro w'; go_simp; with_reducible rfl
                                                       rotate_left
                                                       · simp only [Act.put, ps1, ps2, ps3, i64_w, i32_w]; rfl
                                                       refine take_ (i := 22) (N := some 194) (v := ?_) (a' := ?_) #[true, true, true, true, true, true, true, true, true, true, true, true, true, true, true, true, true, true, true, true, true, true, true, false, false, false] rfl rfl (take_ofW HT_.out HW_.out (by kernel_rfl)) (fun _ _ _ h => h) (Or.inl ⟨by rfl, ?_⟩) hHeld ?_ ?_
                                                       rotate_left
                                                       · rintro w' ⟨s0, s1, s2, s3, s4, s5, s6, s7, s8⟩; go_simp; with_reducible rfl
                                                       rotate_left
                                                       · simp only [Act.put, ps1, ps2, ps3, i64_w, i32_w]; rfl
                                                       refine pure_ (i := 23) (N := some 195) (v := ?_) (a' := ?_) #[true, true, true, true, true, true, true, true, true, true, true, true, true, true, true, true, true, true, true, true, true, true, true, true, false, false] rfl rfl (any_of HT_.out (by kernel_rfl)) (fun _ _ _ h => h) (Or.inl ⟨by rfl, ?_⟩) ?_ ?_
                                                       rotate_left
                                                       · intro w'; go_simp; with_reducible rfl
                                                       rotate_left
                                                       · simp only [Act.put, ps1, ps2, ps3, i64_w, i32_w]; rfl
                                                       refine pure_ (i := 24) (N := some 196) (v := ?_) (a' := ?_) #[true, true, true, true, true, true, true, true, true, true, true, true, true, true, true, true, true, true, true, true, true, true, true, true, true, false] rfl rfl (any_of HT_.out (by kernel_rfl)) (fun _ _ _ h => h) (Or.inl ⟨by rfl, ?_⟩) ?_ ?_
                                                       rotate_left
                                                       · intro w'; go_simp; with_reducible rfl
                                                       rotate_left
                                                       · simp only [Act.put, ps1, ps2, ps3, i64_w, i32_w]; rfl
                                                       refine pure_ (i := 25) (N := some 197) (v := ?_) (a' := ?_) #[true, true, true, true, true, true, true, true, true, true, true, true, true, true, true, true, true, true, true, true, true, true, true, true, true, true] rfl rfl (any_of HT_.out (by kernel_rfl)) (fun _ _ _ h => h) (Or.inl ⟨by rfl, ?_⟩) ?_ ?_
                                                       rotate_left
                                                       · intro w'; go_simp; with_reducible rfl
                                                       rotate_left
                                                       · simp only [Act.put, ps1, ps2, ps3, i64_w, i32_w]; rfl
                                                       refine done_ (done_of HT_.out (by kernel_rfl)) ?_
                                                       try go_wp2
                                                       go_roundg k5
                                                       case measure => have := HK1.out; have := HJ11.out; have := HJ30.out; have := HJ65.out; have := HK5.out; omega
                                                       case rel => exact ⟨(wrap64 (x20_5 + 1)), t27_, H', ⟨by have := HK1.out; have := HJ11.out; have := HJ30.out; have := HJ65.out; have := HK5.out; omega⟩, ⟨zK HO_4⟩, ⟨zK HO_5⟩, ⟨zK HO_439000⟩, ⟨zK HO_461000⟩, ⟨zK HO_470000⟩, ⟨zK HO_475000⟩, ⟨zN BK438⟩, ⟨zN BK460⟩, ⟨zN BK469⟩, ⟨zN BK474⟩, ⟨t19_⟩⟩
                                                     · rw [if_neg c93] at H; exact absurd H (by simp)
                                                   · replace c92 := Bool.eq_false_iff.mpr c92; subst c92; have H1 : (none) = some r := by rw [if_neg (show ¬ (false = true) by decide)] at H; exact H
                                                     clear H; have H := H1; clear H1; exact absurd H (by simp)
                                               · rw [if_neg c83] at H; exact absurd H (by simp)
                                             · rw [if_neg c82] at H; exact absurd H (by simp)
                                           · rw [if_neg c80] at H; exact absurd H (by simp)
                                         · rw [if_neg c79] at H; have c79b0 : decide (x20_5 < (t465.length : Int)) = false := decide_eq_false c79; clear c79; have H' := Aside0.mk H; clear H; have hnb101 := NB469_438.out; have hnc101 := NB438_469.out; have hnb102 := NB469_460.out; have hnc102 := NB460_469.out; have hnb103 := NB469_474.out; have hnc103 := NB474_469.out; obtain ⟨hcz104_0, hfz104_0⟩ := ba1 BK469; go_wp2
                                           go_roundg k5
                                           case measure => have := HK1.out; have := HJ11.out; have := HJ30.out; have := HJ65.out; have := HK5.out; omega
                                           case rel => exact ⟨(wrap64 (x6_1 + 1)), t27_, H', ⟨by have := HK1.out; have := HJ11.out; have := HJ30.out; have := HJ65.out; have := HK5.out; omega⟩, ⟨zK HO_4⟩, ⟨zK HO_5⟩, ⟨zK HO_439000⟩, ⟨zN BK438⟩, ⟨t19_⟩⟩
                                 · rw [if_neg c62] at H; exact absurd H (by simp)
                               · rw [if_neg c61] at H; exact absurd H (by simp)
                         · rw [if_neg c28] at H; exact absurd H (by simp)
                       · rw [if_neg c27] at H; exact absurd H (by simp)
                     · rw [if_neg c24] at H; exact absurd H (by simp)
                 · rw [if_neg c21] at H; exact absurd H (by simp)
               · rw [if_neg c20] at H; exact absurd H (by simp)
             · rw [if_neg c19] at H; exact absurd H (by simp)
           · rw [if_neg c18] at H; exact absurd H (by simp)
     · rw [if_neg c11] at H; have c11b0 : decide (x6_1 < (t435.length : Int)) = false := decide_eq_false c11; clear c11; replace H := Option.bind_eq_some_iff.mp H; obtain ⟨⟨t442, t445⟩, A1050, H⟩ := H; replace H : (if t445 = (t435.length : Int) then ((impl_DiskOk.f k1 t442).bind fun t447 => (some t447)) else (none)) = some r := H; have A105 := Aside0.mk A1050; clear A1050; by_cases c106 : t445 = (t435.length : Int)
       · rw [if_pos c106] at H; have c106b0 : (t445 == (t435.length : Int)) = true := beq_iff_eq.mpr c106; have c106b1 : (t445 != (t435.length : Int)) = false := bne_eq_false_iff_eq.mpr c106; clear c106; replace H := Option.bind_eq_some_iff.mp H; obtain ⟨t447, A1070, H⟩ := H; replace H : (some t447) = some r := H; have A107 := Aside0.mk A1070; clear A1070; obtain rfl := Option.some.inj H; obtain ⟨Ao108, co108, eo108⟩ := Kd.R_slice HO_4.out; subst eo108; obtain ⟨hcz109_0, hfz109_0⟩ := ba1 BK438
         go_wp2_with (first | ((with_reducible refine gate_callee (f := 31) rfl ?_); refine goesL_ (some 201) rfl rfl Try.func31 (by kernel_rfl) rfl #[.agg #[.slice Ao8 t432.length co8], .slice Ao108 t435.length co108] rfl t0_ ?_; (with_reducible refine (impl_PutRaws.calls k1 _ _ t432 _ _ t435 t442 t445 _ ?side1 ?side2 ?side3 ?side4 A105.out).mono ?_); (case side1 => repeat (first | exact (Kd.R_reads' HO_439000.out).2.2 | (with_reducible refine Kd.C_alloc ?_ _) | (with_reducible refine Kd.C_drewN ?_ _) | (with_reducible refine Kd.C_drew ?_))); (case side2 => exact (Kd.R_reads' HO_439000.out).2.1); (case side3 => repeat (first | exact (Kd.R_reads' HO_4.out).2.2 | (with_reducible refine Kd.C_alloc ?_ _) | (with_reducible refine Kd.C_drewN ?_ _) | (with_reducible refine Kd.C_drew ?_))); (case side4 => exact (Kd.R_reads' HO_4.out).2.1); rintro e w110 ⟨v443, rfl, ho0, hb⟩; refine ⟨_, rfl, ?_⟩; replace HO_4 := Aside0.mk (Kd.R_below t34_ hb); replace HO_5 := Aside0.mk (Kd.R_below t33_ hb); replace HO_439000 := Aside0.mk (Kd.R_below t35_ hb); have HO444 := Aside0.mk (Kd.R_lower ho0 (below_size t23_)); replace BK438 := bkN BK438 hb; replace HB := bS t23_ hb; (try clear hb); (try clear ho0)) | ((with_reducible refine gate_dst (N := 23) rfl ?_); (try (refine gate_guard (by rfl) ?_; dsimp only)); refine boxE (N := 23) (cs := #[.slice none 0 0]) (t := 30) (h := ?_); intro gb446 hg w111 hbox hb; replace HO_4 := Aside0.mk (Kd.R_below t34_ hb); replace HO_5 := Aside0.mk (Kd.R_below t33_ hb); replace HO_439000 := Aside0.mk (Kd.R_below t35_ hb); replace HO444 := Aside0.mk (Kd.R_below (zK HO444) hb); have BK446 := Aside0.mk (hbox); have GW446 := Aside0.mk ((t64_ : w.heap.size ≤ gb446)); have GE446 := GW446; replace HB := bS t23_ hb; have NB438_446 := nbL BK438 hg; have NB446_438 := nbG BK438 hg; replace BK438 := bkN BK438 hb; clear hb hbox hg; obtain ⟨Ao112, co112, eo112⟩ := Kd.R_slice HO444.out; subst eo112; have hnb113 := NB446_438.out; have hnc113 := NB438_446.out; obtain ⟨hcz114_0, hfz114_0⟩ := ba1 BK446) | (go_at_call 34; (with_reducible refine (impl_DiskOk.calls k1 _ _ t442 t447 _ ?side1 ?side2 A107.out).mono ?_); (case side1 => refine (Kd.R_reads' (e := 71) (base := w.heap.size) (ok := fun k_ => True) (n := t442.length) (c := co112) ?_).2.2; exact (rF HO444 BK446)); (case side2 => exact (Kd.R_reads' HO444.out).2.1); rintro e w115 ⟨rfl, hb⟩; replace HO_4 := Aside0.mk (Kd.R_below (rF HO_4 BK446) hb); replace HO_5 := Aside0.mk (Kd.R_below (rF HO_5 BK446) hb); replace HO_439000 := Aside0.mk (Kd.R_below (rF HO_439000 BK446) hb); replace HO444 := Aside0.mk (Kd.R_below (rF HO444 BK446) hb); replace BK438 := bkF BK438 NB438_446 hb; replace BK446 := Aside0.mk (blk_below (g := gb446) (o := .cells #[.slice Ao112 t442.length co112] 30 (0, 0)) (zP BK446) hb); replace HB := Aside0.mk (below_step (by repeat (first | (with_reducible first | exact HB.out | apply below_alloc | apply pw_below_drewN | apply below_drew1 | refine below_set ?_ GE438.out | refine below_set ?_ GE446.out) | exact HB.out)) hb); (try clear hb)))
         go_ret; exact ⟨by first | rfl | (simp [errW_none, errW_some] <;> rfl) | (simp [*, errW_none, errW_some] <;> rfl), by repeat (first | (with_reducible first | exact HB.out | apply below_alloc | apply pw_below_drewN | apply below_drew1 | refine below_set ?_ GE438.out | refine below_set ?_ GE446.out) | exact HB.out)⟩
       · rw [if_neg c106] at H; exact absurd H (by simp)

/-- THE ONE PURE STATEMENT of laws_FnTorn: yours. -/
def laws_FnTorn.Pure : Prop := ∀ (l0 : List Int), l0.length ≤ maxLen → l0.length * 1 ≤ 140737488351232 → (∀ x ∈ l0, (Lit.int .u8 x).wf = true) → ∃ k, laws_FnTorn.f k l0 = some true
theorem laws_FnTorn.walk (P : laws_FnTorn.Pure) (a0 : Option Addr) (len0 cap0 : Nat) (z0 : List Int) (w : World) (w0 : (a0 = none ∧ len0 = 0 ∧ cap0 = 0 ∧ z0 = []) ∨ ∃ x, a0 = some x ∧ len0 ≤ cap0 ∧ cap0 ≤ maxLen ∧ z0.length = cap0 ∧ (∀ i, i < z0.length → w.cell? (x.add i) = some (.int .u8 (z0.getD i 0))) ∧ ∀ n ∈ z0, (Lit.int .u8 n).wf = true) (y0 : len0 * 1 ≤ 140737488351232) :
 Calls Try.prog 5 #[.slice a0 len0 cap0] w fun e w' => e = .returned (.bool true) ∧ Below w.heap.size w w' := by
 obtain ⟨l0, rfl, hr0, hm0, hw0, hc0⟩ := ReadsInt.ofRowC w0; obtain ⟨k, h⟩ := P l0 hm0 y0 hw0; refine (laws_FnTorn.calls k _ _ l0 true w (Kd.C_of_reads (d := (0 : Int)) (h1 := fun _ => rfl) hr0) hc0 h).mono ?_
 rintro e w' ⟨rfl, hd⟩; exact ⟨rfl, hd⟩

end Go.Proofs.Ytpjhbhjmaggheaa.QFnTorn
