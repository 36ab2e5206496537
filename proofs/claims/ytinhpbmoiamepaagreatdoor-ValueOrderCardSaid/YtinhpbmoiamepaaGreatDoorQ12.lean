/- Each function reached is shown to return what the plain function beside it computes, wherever that is defined (written by a program of ours for this seat). -/
import Derived.Test.YtinhpbmoiamepaaGreatDoorQ0
import Derived.Test.YtinhpbmoiamepaaGreatDoorQ1
import Derived.Test.YtinhpbmoiamepaaGreatDoorQ10
import Derived.Test.YtinhpbmoiamepaaGreatDoorQ11
import Derived.Test.YtinhpbmoiamepaaGreatDoorPlainSort
namespace Go.Proofs.YtinhpbmoiamepaaGreatDoor.Q
open Go.RowKit Go.Proofs.YtinhpbmoiamepaaGreatDoorW.PrintWords Go.Proofs.YtinhpbmoiamepaaGreatDoorW.PrintLast Go.Proofs.YtinhpbmoiamepaaGreatDoorW.PrintMore
attribute [local go_sem] max2_int min2_int max_two min_two max_three min_three max_four min_four   -- for this text's walks alone
set_option linter.unusedVariables false
set_option linter.unusedSimpArgs false

attribute [local go_sem high] eqA25
/-! ### tacticianlaw01_ValueOrder: function 4 -/
mutual
def tacticianlaw01_ValueOrder.j0 : Nat → Bool → Int → Int → ByteArray → Int → Int → ByteArray → Int → Int → ByteArray → Option (Bool)
  | 0, _, _, _, _, _, _, _, _, _, _ => none
  | k + 1, x104, x279000, x279001, x279002, x280000, x280001, x280002, x281000, x281001, x281002 => if x104 = true then (some false) else ((value_Sorted.f (([(⟨x279000, x279001, x279002⟩ : S25), (⟨x280000, x280001, x280002⟩ : S25), (⟨x281000, x281001, x281002⟩ : S25), (⟨x279000, x279001, x279002⟩ : S25)] : List (S25)))).bind fun bt292 => (if bt292.2 = 0 then (tacticianlaw01_ValueOrder.j1 k bt292.1 ((bt292.1.length : Int) != 4)) else (tacticianlaw01_ValueOrder.j1 k bt292.1 true)))
def tacticianlaw01_ValueOrder.j1 : Nat → List (S25) → Bool → Option (Bool)
  | 0, _, _ => none
  | k + 1, x18, x120 => if x120 = true then (some false) else (tacticianlaw01_ValueOrder.l0 k x18 1)
def tacticianlaw01_ValueOrder.l0 : Nat → List (S25) → Int → Option (Bool)
  | 0, _, _ => none
  | k + 1, x18, x20 => if x20 < 4 then (if 0 ≤ (wrap64 (x20 - 1)) then (if (wrap64 (x20 - 1)) < (x18.length : Int) then (if 0 ≤ x20 then (if x20 < (x18.length : Int) then ((tacticianlaw01_less.f ((rd_T25 x18 (wrap64 (x20 - 1))).f0) ((rd_T25 x18 (wrap64 (x20 - 1))).f1) ((rd_T25 x18 (wrap64 (x20 - 1))).f2) ((rd_T25 x18 x20).f0) ((rd_T25 x18 x20).f1) ((rd_T25 x18 x20).f2)).bind fun bt298 => (if bt298.2 = true then (if bt298.1 > 0 then (some false) else (tacticianlaw01_ValueOrder.l0 k x18 (wrap64 (x20 + 1)))) else (some false))) else (none)) else (none)) else (none)) else (none)) else ((tacticianlaw01_awake.f).bind fun t300 => (some t300))
end
def tacticianlaw01_ValueOrder.f (k : Nat) (a0_0 : Int) (a0_1 : Int) (a0_2 : ByteArray) (a1_0 : Int) (a1_1 : Int) (a1_2 : ByteArray) (a2_0 : Int) (a2_1 : Int) (a2_2 : ByteArray) : Option (Bool) := (tacticianref01_Tame.f k a0_0 a0_1 a0_2).bind fun bt269 => ((tacticianref01_Tame.f k a1_0 a1_1 a1_2).bind fun bt272 => ((tacticianref01_Tame.f k a2_0 a2_1 a2_2).bind fun bt275 => ((tacticianlaw01_less.f bt269.1 bt269.2.1 bt269.2.2 bt272.1 bt272.2.1 bt272.2.2).bind fun bt281 => ((tacticianlaw01_less.f bt272.1 bt272.2.1 bt272.2.2 bt269.1 bt269.2.1 bt269.2.2).bind fun bt283 => ((tacticianlaw01_less.f bt272.1 bt272.2.1 bt272.2.2 bt275.1 bt275.2.1 bt275.2.2).bind fun bt285 => ((tacticianlaw01_less.f bt269.1 bt269.2.1 bt269.2.2 bt275.1 bt275.2.1 bt275.2.2).bind fun bt287 => (if bt281.2 = true then (if bt283.2 = true then (if bt285.2 = true then (if bt287.2 = true then (if bt281.1 = (wrap64 (-bt283.1)) then (if ((bt281.1 == 0) != (bt269.1 == bt272.1 && (bt269.2.1 == bt272.2.1 && (bt269.2.2.toList == bt272.2.2.toList)))) = true then (tacticianlaw01_ValueOrder.j0 k true bt269.1 bt269.2.1 bt269.2.2 bt272.1 bt272.2.1 bt272.2.2 bt275.1 bt275.2.1 bt275.2.2) else (if bt281.1 ≤ 0 then (if bt285.1 ≤ 0 then (if bt287.1 > 0 then (tacticianlaw01_ValueOrder.j0 k true bt269.1 bt269.2.1 bt269.2.2 bt272.1 bt272.2.1 bt272.2.2 bt275.1 bt275.2.1 bt275.2.2) else (if bt281.1 < 0 then (tacticianlaw01_ValueOrder.j0 k (decide (bt287.1 ≥ 0)) bt269.1 bt269.2.1 bt269.2.2 bt272.1 bt272.2.1 bt272.2.2 bt275.1 bt275.2.1 bt275.2.2) else (tacticianlaw01_ValueOrder.j0 k false bt269.1 bt269.2.1 bt269.2.2 bt272.1 bt272.2.1 bt272.2.2 bt275.1 bt275.2.1 bt275.2.2))) else (if bt281.1 < 0 then (tacticianlaw01_ValueOrder.j0 k false bt269.1 bt269.2.1 bt269.2.2 bt272.1 bt272.2.1 bt272.2.2 bt275.1 bt275.2.1 bt275.2.2) else (tacticianlaw01_ValueOrder.j0 k false bt269.1 bt269.2.1 bt269.2.2 bt272.1 bt272.2.1 bt272.2.2 bt275.1 bt275.2.1 bt275.2.2))) else (if bt281.1 < 0 then (if bt285.1 ≤ 0 then (tacticianlaw01_ValueOrder.j0 k (decide (bt287.1 ≥ 0)) bt269.1 bt269.2.1 bt269.2.2 bt272.1 bt272.2.1 bt272.2.2 bt275.1 bt275.2.1 bt275.2.2) else (tacticianlaw01_ValueOrder.j0 k false bt269.1 bt269.2.1 bt269.2.2 bt272.1 bt272.2.1 bt272.2.2 bt275.1 bt275.2.1 bt275.2.2)) else (tacticianlaw01_ValueOrder.j0 k false bt269.1 bt269.2.1 bt269.2.2 bt272.1 bt272.2.1 bt272.2.2 bt275.1 bt275.2.1 bt275.2.2)))) else (tacticianlaw01_ValueOrder.j0 k true bt269.1 bt269.2.1 bt269.2.2 bt272.1 bt272.2.1 bt272.2.2 bt275.1 bt275.2.1 bt275.2.2)) else (tacticianlaw01_ValueOrder.j0 k true bt269.1 bt269.2.1 bt269.2.2 bt272.1 bt272.2.1 bt272.2.2 bt275.1 bt275.2.1 bt275.2.2)) else (tacticianlaw01_ValueOrder.j0 k true bt269.1 bt269.2.1 bt269.2.2 bt272.1 bt272.2.1 bt272.2.2 bt275.1 bt275.2.1 bt275.2.2)) else (tacticianlaw01_ValueOrder.j0 k true bt269.1 bt269.2.1 bt269.2.2 bt272.1 bt272.2.1 bt272.2.2 bt275.1 bt275.2.1 bt275.2.2)) else (tacticianlaw01_ValueOrder.j0 k true bt269.1 bt269.2.1 bt269.2.2 bt272.1 bt272.2.1 bt272.2.2 bt275.1 bt275.2.1 bt275.2.2))))))))
theorem tacticianlaw01_ValueOrder.mono_l : ∀ k, (∀ y0 y1 y2 y3 y4 y5 y6 y7 y8 y9, LeO (tacticianlaw01_ValueOrder.j0 k y0 y1 y2 y3 y4 y5 y6 y7 y8 y9) (tacticianlaw01_ValueOrder.j0 (k + 1) y0 y1 y2 y3 y4 y5 y6 y7 y8 y9)) ∧ (∀ y0 y1, LeO (tacticianlaw01_ValueOrder.j1 k y0 y1) (tacticianlaw01_ValueOrder.j1 (k + 1) y0 y1)) ∧ (∀ y0 y1, LeO (tacticianlaw01_ValueOrder.l0 k y0 y1) (tacticianlaw01_ValueOrder.l0 (k + 1) y0 y1))
  | 0 => ⟨fun _ _ _ _ _ _ _ _ _ _ r h => by simp [tacticianlaw01_ValueOrder.j0] at h, fun _ _ r h => by simp [tacticianlaw01_ValueOrder.j1] at h, fun _ _ r h => by simp [tacticianlaw01_ValueOrder.l0] at h⟩
  | k + 1 => by
    obtain ⟨ih0, ih1, ih2⟩ := tacticianlaw01_ValueOrder.mono_l k
    refine ⟨?_, ?_, ?_⟩
    · intro y0 y1 y2 y3 y4 y5 y6 y7 y8 y9
      unfold tacticianlaw01_ValueOrder.j0
      repeat' first
      | (with_reducible exact ih0 _ _ _ _ _ _ _ _ _ _)
      | (with_reducible exact ih1 _ _)
      | (with_reducible exact ih2 _ _)
      | (with_reducible exact tacticianref01_Tame.mono _ _ _ _)
      | (with_reducible exact LeO.refl _)
      | (with_reducible exact LeO.none _)
      | (with_reducible refine LeO.ite ?_ ?_)
      | (with_reducible refine LeO.bind ?_ (fun _ => ?_))
      | exact ih0 _ _ _ _ _ _ _ _ _ _
      | exact ih1 _ _
      | exact ih2 _ _
      | exact tacticianref01_Tame.mono _ _ _ _
      | exact LeO.none _
      | refine LeO.ite ?_ ?_
      | refine LeO.bind ?_ (fun _ => ?_)
    · intro y0 y1
      unfold tacticianlaw01_ValueOrder.j1
      repeat' first
      | (with_reducible exact ih0 _ _ _ _ _ _ _ _ _ _)
      | (with_reducible exact ih1 _ _)
      | (with_reducible exact ih2 _ _)
      | (with_reducible exact tacticianref01_Tame.mono _ _ _ _)
      | (with_reducible exact LeO.refl _)
      | (with_reducible exact LeO.none _)
      | (with_reducible refine LeO.ite ?_ ?_)
      | (with_reducible refine LeO.bind ?_ (fun _ => ?_))
      | exact ih0 _ _ _ _ _ _ _ _ _ _
      | exact ih1 _ _
      | exact ih2 _ _
      | exact tacticianref01_Tame.mono _ _ _ _
      | exact LeO.none _
      | refine LeO.ite ?_ ?_
      | refine LeO.bind ?_ (fun _ => ?_)
    · intro y0 y1
      unfold tacticianlaw01_ValueOrder.l0
      repeat' first
      | (with_reducible exact ih0 _ _ _ _ _ _ _ _ _ _)
      | (with_reducible exact ih1 _ _)
      | (with_reducible exact ih2 _ _)
      | (with_reducible exact tacticianref01_Tame.mono _ _ _ _)
      | (with_reducible exact LeO.refl _)
      | (with_reducible exact LeO.none _)
      | (with_reducible refine LeO.ite ?_ ?_)
      | (with_reducible refine LeO.bind ?_ (fun _ => ?_))
      | exact ih0 _ _ _ _ _ _ _ _ _ _
      | exact ih1 _ _
      | exact ih2 _ _
      | exact tacticianref01_Tame.mono _ _ _ _
      | exact LeO.none _
      | refine LeO.ite ?_ ?_
      | refine LeO.bind ?_ (fun _ => ?_)
theorem tacticianlaw01_ValueOrder.mono : ∀ a0 a1 a2 a3 a4 a5 a6 a7 a8 k, LeO (tacticianlaw01_ValueOrder.f k a0 a1 a2 a3 a4 a5 a6 a7 a8) (tacticianlaw01_ValueOrder.f (k + 1) a0 a1 a2 a3 a4 a5 a6 a7 a8) := by
  intro a0 a1 a2 a3 a4 a5 a6 a7 a8 k
  obtain ⟨ih0, ih1, ih2⟩ := tacticianlaw01_ValueOrder.mono_l k
  unfold tacticianlaw01_ValueOrder.f
  repeat' first
      | (with_reducible exact ih0 _ _ _ _ _ _ _ _ _ _)
      | (with_reducible exact ih1 _ _)
      | (with_reducible exact ih2 _ _)
      | (with_reducible exact tacticianref01_Tame.mono _ _ _ _)
      | (with_reducible exact LeO.refl _)
      | (with_reducible exact LeO.none _)
      | (with_reducible refine LeO.ite ?_ ?_)
      | (with_reducible refine LeO.bind ?_ (fun _ => ?_))
      | exact ih0 _ _ _ _ _ _ _ _ _ _
      | exact ih1 _ _
      | exact ih2 _ _
      | exact tacticianref01_Tame.mono _ _ _ _
      | exact LeO.none _
      | refine LeO.ite ?_ ?_
      | refine LeO.bind ?_ (fun _ => ?_)
def tacticianlaw01_ValueOrder.T1 : Bool × List (List Nat × List Nat) := (true, [([], []), ([0], [0]), ([], []), ([2, 1], [2]), ([], []), ([4, 3], [4]), ([], []), ([], []), ([], []), ([6, 1, 5, 0, 1, 6, 7, 8], [1, 6]), ([7, 3, 9, 0, 1, 2, 3, 6, 7, 8, 9], [3, 7]), ([8, 5, 10, 0, 1, 2, 3, 4, 5, 6, 7, 8, 9, 10], [5, 8])])
def tacticianlaw01_ValueOrder.B1 : List Nat := [0, 1, 0, 7, 0, 31, 0, 0, 0, 511, 1023, 2047]
theorem tacticianlaw01_ValueOrder.tab1 : rtab .any (opsOf Tryz.f4 1) = tacticianlaw01_ValueOrder.T1 := by kernel_rfl
theorem tacticianlaw01_ValueOrder.bits1 : waitsOk tacticianlaw01_ValueOrder.T1.2 tacticianlaw01_ValueOrder.B1 = true := by kernel_rfl
def tacticianlaw01_ValueOrder.T14 : Bool × List (List Nat × List Nat) := (true, [([], []), ([], []), ([1], [1]), ([0, 2], [0, 2]), ([3], [3]), ([], []), ([], []), ([5, 6], [5, 6]), ([7], [7]), ([4, 8], [4, 8]), ([9], [9]), ([10], [10]), ([10], [10]), ([11, 9, 0, 1, 2, 3, 4, 5, 6, 7, 8, 9, 10, 11], [11]), ([12, 13, 0, 1, 2, 3, 4, 5, 6, 7, 8, 9, 10, 11, 12, 13], [12])])
def tacticianlaw01_ValueOrder.B14 : List Nat := [0, 0, 2, 7, 15, 0, 0, 96, 224, 511, 1023, 2047, 2047, 4095, 16383]
theorem tacticianlaw01_ValueOrder.tab14 : rtab .any (opsOf Tryz.f4 14) = tacticianlaw01_ValueOrder.T14 := by kernel_rfl
theorem tacticianlaw01_ValueOrder.bits14 : waitsOk tacticianlaw01_ValueOrder.T14.2 tacticianlaw01_ValueOrder.B14 = true := by kernel_rfl
set_option maxHeartbeats 8000000 in
set_option maxRecDepth 100000 in
theorem tacticianlaw01_ValueOrder.calls (k : Nat) (a0_0 : Int) (a0_1 : Int) (a0_2 : ByteArray) (a1_0 : Int) (a1_1 : Int) (a1_2 : ByteArray) (a2_0 : Int) (a2_1 : Int) (a2_2 : ByteArray) (r : Bool) (w : World) (hL_ : Laid w) (hr_ : Aside0 (r = true)) (h : tacticianlaw01_ValueOrder.f k a0_0 a0_1 a0_2 a1_0 a1_1 a1_2 a2_0 a2_1 a2_2 = some r) :
  Calls Tryz.prog 4 #[.agg #[.int .i64 a0_0, .int .i64 a0_1, .string a0_2], .agg #[.int .i64 a1_0, .int .i64 a1_1, .string a1_2], .agg #[.int .i64 a2_0, .int .i64 a2_1, .string a2_2]] w fun e w' => e = .returned (.bool r) ∧ Below w.heap.size w w' := by
 have hu25 := Tryz.underlying25
 have HLD := Aside0.mk hL_
 clear hL_
 have HB := Aside0.mk (Below.refl w.heap.size w)
 have H : ((tacticianref01_Tame.f k a0_0 a0_1 a0_2).bind fun bt269 => ((tacticianref01_Tame.f k a1_0 a1_1 a1_2).bind fun bt272 => ((tacticianref01_Tame.f k a2_0 a2_1 a2_2).bind fun bt275 => ((tacticianlaw01_less.f bt269.1 bt269.2.1 bt269.2.2 bt272.1 bt272.2.1 bt272.2.2).bind fun bt281 => ((tacticianlaw01_less.f bt272.1 bt272.2.1 bt272.2.2 bt269.1 bt269.2.1 bt269.2.2).bind fun bt283 => ((tacticianlaw01_less.f bt272.1 bt272.2.1 bt272.2.2 bt275.1 bt275.2.1 bt275.2.2).bind fun bt285 => ((tacticianlaw01_less.f bt269.1 bt269.2.1 bt269.2.2 bt275.1 bt275.2.1 bt275.2.2).bind fun bt287 => (if bt281.2 = true then (if bt283.2 = true then (if bt285.2 = true then (if bt287.2 = true then (if bt281.1 = (wrap64 (-bt283.1)) then (if ((bt281.1 == 0) != (bt269.1 == bt272.1 && (bt269.2.1 == bt272.2.1 && (bt269.2.2.toList == bt272.2.2.toList)))) = true then (tacticianlaw01_ValueOrder.j0 k true bt269.1 bt269.2.1 bt269.2.2 bt272.1 bt272.2.1 bt272.2.2 bt275.1 bt275.2.1 bt275.2.2) else (if bt281.1 ≤ 0 then (if bt285.1 ≤ 0 then (if bt287.1 > 0 then (tacticianlaw01_ValueOrder.j0 k true bt269.1 bt269.2.1 bt269.2.2 bt272.1 bt272.2.1 bt272.2.2 bt275.1 bt275.2.1 bt275.2.2) else (if bt281.1 < 0 then (tacticianlaw01_ValueOrder.j0 k (decide (bt287.1 ≥ 0)) bt269.1 bt269.2.1 bt269.2.2 bt272.1 bt272.2.1 bt272.2.2 bt275.1 bt275.2.1 bt275.2.2) else (tacticianlaw01_ValueOrder.j0 k false bt269.1 bt269.2.1 bt269.2.2 bt272.1 bt272.2.1 bt272.2.2 bt275.1 bt275.2.1 bt275.2.2))) else (if bt281.1 < 0 then (tacticianlaw01_ValueOrder.j0 k false bt269.1 bt269.2.1 bt269.2.2 bt272.1 bt272.2.1 bt272.2.2 bt275.1 bt275.2.1 bt275.2.2) else (tacticianlaw01_ValueOrder.j0 k false bt269.1 bt269.2.1 bt269.2.2 bt272.1 bt272.2.1 bt272.2.2 bt275.1 bt275.2.1 bt275.2.2))) else (if bt281.1 < 0 then (if bt285.1 ≤ 0 then (tacticianlaw01_ValueOrder.j0 k (decide (bt287.1 ≥ 0)) bt269.1 bt269.2.1 bt269.2.2 bt272.1 bt272.2.1 bt272.2.2 bt275.1 bt275.2.1 bt275.2.2) else (tacticianlaw01_ValueOrder.j0 k false bt269.1 bt269.2.1 bt269.2.2 bt272.1 bt272.2.1 bt272.2.2 bt275.1 bt275.2.1 bt275.2.2)) else (tacticianlaw01_ValueOrder.j0 k false bt269.1 bt269.2.1 bt269.2.2 bt272.1 bt272.2.1 bt272.2.2 bt275.1 bt275.2.1 bt275.2.2)))) else (tacticianlaw01_ValueOrder.j0 k true bt269.1 bt269.2.1 bt269.2.2 bt272.1 bt272.2.1 bt272.2.2 bt275.1 bt275.2.1 bt275.2.2)) else (tacticianlaw01_ValueOrder.j0 k true bt269.1 bt269.2.1 bt269.2.2 bt272.1 bt272.2.1 bt272.2.2 bt275.1 bt275.2.1 bt275.2.2)) else (tacticianlaw01_ValueOrder.j0 k true bt269.1 bt269.2.1 bt269.2.2 bt272.1 bt272.2.1 bt272.2.2 bt275.1 bt275.2.1 bt275.2.2)) else (tacticianlaw01_ValueOrder.j0 k true bt269.1 bt269.2.1 bt269.2.2 bt272.1 bt272.2.1 bt272.2.2 bt275.1 bt275.2.1 bt275.2.2)) else (tacticianlaw01_ValueOrder.j0 k true bt269.1 bt269.2.1 bt269.2.2 bt272.1 bt272.2.1 bt272.2.2 bt275.1 bt275.2.1 bt275.2.2))))))))) = some r := h
 clear h
 replace H := Option.bind_eq_some_iff.mp H
 obtain ⟨⟨t269, t270, t271⟩, A40, H⟩ := H
 replace H : ((tacticianref01_Tame.f k a1_0 a1_1 a1_2).bind fun bt272 => ((tacticianref01_Tame.f k a2_0 a2_1 a2_2).bind fun bt275 => ((tacticianlaw01_less.f t269 t270 t271 bt272.1 bt272.2.1 bt272.2.2).bind fun bt281 => ((tacticianlaw01_less.f bt272.1 bt272.2.1 bt272.2.2 t269 t270 t271).bind fun bt283 => ((tacticianlaw01_less.f bt272.1 bt272.2.1 bt272.2.2 bt275.1 bt275.2.1 bt275.2.2).bind fun bt285 => ((tacticianlaw01_less.f t269 t270 t271 bt275.1 bt275.2.1 bt275.2.2).bind fun bt287 => (if bt281.2 = true then (if bt283.2 = true then (if bt285.2 = true then (if bt287.2 = true then (if bt281.1 = (wrap64 (-bt283.1)) then (if ((bt281.1 == 0) != (t269 == bt272.1 && (t270 == bt272.2.1 && (t271.toList == bt272.2.2.toList)))) = true then (tacticianlaw01_ValueOrder.j0 k true t269 t270 t271 bt272.1 bt272.2.1 bt272.2.2 bt275.1 bt275.2.1 bt275.2.2) else (if bt281.1 ≤ 0 then (if bt285.1 ≤ 0 then (if bt287.1 > 0 then (tacticianlaw01_ValueOrder.j0 k true t269 t270 t271 bt272.1 bt272.2.1 bt272.2.2 bt275.1 bt275.2.1 bt275.2.2) else (if bt281.1 < 0 then (tacticianlaw01_ValueOrder.j0 k (decide (bt287.1 ≥ 0)) t269 t270 t271 bt272.1 bt272.2.1 bt272.2.2 bt275.1 bt275.2.1 bt275.2.2) else (tacticianlaw01_ValueOrder.j0 k false t269 t270 t271 bt272.1 bt272.2.1 bt272.2.2 bt275.1 bt275.2.1 bt275.2.2))) else (if bt281.1 < 0 then (tacticianlaw01_ValueOrder.j0 k false t269 t270 t271 bt272.1 bt272.2.1 bt272.2.2 bt275.1 bt275.2.1 bt275.2.2) else (tacticianlaw01_ValueOrder.j0 k false t269 t270 t271 bt272.1 bt272.2.1 bt272.2.2 bt275.1 bt275.2.1 bt275.2.2))) else (if bt281.1 < 0 then (if bt285.1 ≤ 0 then (tacticianlaw01_ValueOrder.j0 k (decide (bt287.1 ≥ 0)) t269 t270 t271 bt272.1 bt272.2.1 bt272.2.2 bt275.1 bt275.2.1 bt275.2.2) else (tacticianlaw01_ValueOrder.j0 k false t269 t270 t271 bt272.1 bt272.2.1 bt272.2.2 bt275.1 bt275.2.1 bt275.2.2)) else (tacticianlaw01_ValueOrder.j0 k false t269 t270 t271 bt272.1 bt272.2.1 bt272.2.2 bt275.1 bt275.2.1 bt275.2.2)))) else (tacticianlaw01_ValueOrder.j0 k true t269 t270 t271 bt272.1 bt272.2.1 bt272.2.2 bt275.1 bt275.2.1 bt275.2.2)) else (tacticianlaw01_ValueOrder.j0 k true t269 t270 t271 bt272.1 bt272.2.1 bt272.2.2 bt275.1 bt275.2.1 bt275.2.2)) else (tacticianlaw01_ValueOrder.j0 k true t269 t270 t271 bt272.1 bt272.2.1 bt272.2.2 bt275.1 bt275.2.1 bt275.2.2)) else (tacticianlaw01_ValueOrder.j0 k true t269 t270 t271 bt272.1 bt272.2.1 bt272.2.2 bt275.1 bt275.2.1 bt275.2.2)) else (tacticianlaw01_ValueOrder.j0 k true t269 t270 t271 bt272.1 bt272.2.1 bt272.2.2 bt275.1 bt275.2.1 bt275.2.2)))))))) = some r := H
 have A4 := Aside0.mk A40
 clear A40
 replace H := Option.bind_eq_some_iff.mp H
 obtain ⟨⟨t272, t273, t274⟩, A50, H⟩ := H
 replace H : ((tacticianref01_Tame.f k a2_0 a2_1 a2_2).bind fun bt275 => ((tacticianlaw01_less.f t269 t270 t271 t272 t273 t274).bind fun bt281 => ((tacticianlaw01_less.f t272 t273 t274 t269 t270 t271).bind fun bt283 => ((tacticianlaw01_less.f t272 t273 t274 bt275.1 bt275.2.1 bt275.2.2).bind fun bt285 => ((tacticianlaw01_less.f t269 t270 t271 bt275.1 bt275.2.1 bt275.2.2).bind fun bt287 => (if bt281.2 = true then (if bt283.2 = true then (if bt285.2 = true then (if bt287.2 = true then (if bt281.1 = (wrap64 (-bt283.1)) then (if ((bt281.1 == 0) != (t269 == t272 && (t270 == t273 && (t271.toList == t274.toList)))) = true then (tacticianlaw01_ValueOrder.j0 k true t269 t270 t271 t272 t273 t274 bt275.1 bt275.2.1 bt275.2.2) else (if bt281.1 ≤ 0 then (if bt285.1 ≤ 0 then (if bt287.1 > 0 then (tacticianlaw01_ValueOrder.j0 k true t269 t270 t271 t272 t273 t274 bt275.1 bt275.2.1 bt275.2.2) else (if bt281.1 < 0 then (tacticianlaw01_ValueOrder.j0 k (decide (bt287.1 ≥ 0)) t269 t270 t271 t272 t273 t274 bt275.1 bt275.2.1 bt275.2.2) else (tacticianlaw01_ValueOrder.j0 k false t269 t270 t271 t272 t273 t274 bt275.1 bt275.2.1 bt275.2.2))) else (if bt281.1 < 0 then (tacticianlaw01_ValueOrder.j0 k false t269 t270 t271 t272 t273 t274 bt275.1 bt275.2.1 bt275.2.2) else (tacticianlaw01_ValueOrder.j0 k false t269 t270 t271 t272 t273 t274 bt275.1 bt275.2.1 bt275.2.2))) else (if bt281.1 < 0 then (if bt285.1 ≤ 0 then (tacticianlaw01_ValueOrder.j0 k (decide (bt287.1 ≥ 0)) t269 t270 t271 t272 t273 t274 bt275.1 bt275.2.1 bt275.2.2) else (tacticianlaw01_ValueOrder.j0 k false t269 t270 t271 t272 t273 t274 bt275.1 bt275.2.1 bt275.2.2)) else (tacticianlaw01_ValueOrder.j0 k false t269 t270 t271 t272 t273 t274 bt275.1 bt275.2.1 bt275.2.2)))) else (tacticianlaw01_ValueOrder.j0 k true t269 t270 t271 t272 t273 t274 bt275.1 bt275.2.1 bt275.2.2)) else (tacticianlaw01_ValueOrder.j0 k true t269 t270 t271 t272 t273 t274 bt275.1 bt275.2.1 bt275.2.2)) else (tacticianlaw01_ValueOrder.j0 k true t269 t270 t271 t272 t273 t274 bt275.1 bt275.2.1 bt275.2.2)) else (tacticianlaw01_ValueOrder.j0 k true t269 t270 t271 t272 t273 t274 bt275.1 bt275.2.1 bt275.2.2)) else (tacticianlaw01_ValueOrder.j0 k true t269 t270 t271 t272 t273 t274 bt275.1 bt275.2.1 bt275.2.2))))))) = some r := H
 have A5 := Aside0.mk A50
 clear A50
 replace H := Option.bind_eq_some_iff.mp H
 obtain ⟨⟨t275, t276, t277⟩, A60, H⟩ := H
 replace H : ((tacticianlaw01_less.f t269 t270 t271 t272 t273 t274).bind fun bt281 => ((tacticianlaw01_less.f t272 t273 t274 t269 t270 t271).bind fun bt283 => ((tacticianlaw01_less.f t272 t273 t274 t275 t276 t277).bind fun bt285 => ((tacticianlaw01_less.f t269 t270 t271 t275 t276 t277).bind fun bt287 => (if bt281.2 = true then (if bt283.2 = true then (if bt285.2 = true then (if bt287.2 = true then (if bt281.1 = (wrap64 (-bt283.1)) then (if ((bt281.1 == 0) != (t269 == t272 && (t270 == t273 && (t271.toList == t274.toList)))) = true then (tacticianlaw01_ValueOrder.j0 k true t269 t270 t271 t272 t273 t274 t275 t276 t277) else (if bt281.1 ≤ 0 then (if bt285.1 ≤ 0 then (if bt287.1 > 0 then (tacticianlaw01_ValueOrder.j0 k true t269 t270 t271 t272 t273 t274 t275 t276 t277) else (if bt281.1 < 0 then (tacticianlaw01_ValueOrder.j0 k (decide (bt287.1 ≥ 0)) t269 t270 t271 t272 t273 t274 t275 t276 t277) else (tacticianlaw01_ValueOrder.j0 k false t269 t270 t271 t272 t273 t274 t275 t276 t277))) else (if bt281.1 < 0 then (tacticianlaw01_ValueOrder.j0 k false t269 t270 t271 t272 t273 t274 t275 t276 t277) else (tacticianlaw01_ValueOrder.j0 k false t269 t270 t271 t272 t273 t274 t275 t276 t277))) else (if bt281.1 < 0 then (if bt285.1 ≤ 0 then (tacticianlaw01_ValueOrder.j0 k (decide (bt287.1 ≥ 0)) t269 t270 t271 t272 t273 t274 t275 t276 t277) else (tacticianlaw01_ValueOrder.j0 k false t269 t270 t271 t272 t273 t274 t275 t276 t277)) else (tacticianlaw01_ValueOrder.j0 k false t269 t270 t271 t272 t273 t274 t275 t276 t277)))) else (tacticianlaw01_ValueOrder.j0 k true t269 t270 t271 t272 t273 t274 t275 t276 t277)) else (tacticianlaw01_ValueOrder.j0 k true t269 t270 t271 t272 t273 t274 t275 t276 t277)) else (tacticianlaw01_ValueOrder.j0 k true t269 t270 t271 t272 t273 t274 t275 t276 t277)) else (tacticianlaw01_ValueOrder.j0 k true t269 t270 t271 t272 t273 t274 t275 t276 t277)) else (tacticianlaw01_ValueOrder.j0 k true t269 t270 t271 t272 t273 t274 t275 t276 t277)))))) = some r := H
 have A6 := Aside0.mk A60
 clear A60
 replace H := Option.bind_eq_some_iff.mp H
 obtain ⟨⟨t281, t282⟩, A70, H⟩ := H
 replace H : ((tacticianlaw01_less.f t272 t273 t274 t269 t270 t271).bind fun bt283 => ((tacticianlaw01_less.f t272 t273 t274 t275 t276 t277).bind fun bt285 => ((tacticianlaw01_less.f t269 t270 t271 t275 t276 t277).bind fun bt287 => (if t282 = true then (if bt283.2 = true then (if bt285.2 = true then (if bt287.2 = true then (if t281 = (wrap64 (-bt283.1)) then (if ((t281 == 0) != (t269 == t272 && (t270 == t273 && (t271.toList == t274.toList)))) = true then (tacticianlaw01_ValueOrder.j0 k true t269 t270 t271 t272 t273 t274 t275 t276 t277) else (if t281 ≤ 0 then (if bt285.1 ≤ 0 then (if bt287.1 > 0 then (tacticianlaw01_ValueOrder.j0 k true t269 t270 t271 t272 t273 t274 t275 t276 t277) else (if t281 < 0 then (tacticianlaw01_ValueOrder.j0 k (decide (bt287.1 ≥ 0)) t269 t270 t271 t272 t273 t274 t275 t276 t277) else (tacticianlaw01_ValueOrder.j0 k false t269 t270 t271 t272 t273 t274 t275 t276 t277))) else (if t281 < 0 then (tacticianlaw01_ValueOrder.j0 k false t269 t270 t271 t272 t273 t274 t275 t276 t277) else (tacticianlaw01_ValueOrder.j0 k false t269 t270 t271 t272 t273 t274 t275 t276 t277))) else (if t281 < 0 then (if bt285.1 ≤ 0 then (tacticianlaw01_ValueOrder.j0 k (decide (bt287.1 ≥ 0)) t269 t270 t271 t272 t273 t274 t275 t276 t277) else (tacticianlaw01_ValueOrder.j0 k false t269 t270 t271 t272 t273 t274 t275 t276 t277)) else (tacticianlaw01_ValueOrder.j0 k false t269 t270 t271 t272 t273 t274 t275 t276 t277)))) else (tacticianlaw01_ValueOrder.j0 k true t269 t270 t271 t272 t273 t274 t275 t276 t277)) else (tacticianlaw01_ValueOrder.j0 k true t269 t270 t271 t272 t273 t274 t275 t276 t277)) else (tacticianlaw01_ValueOrder.j0 k true t269 t270 t271 t272 t273 t274 t275 t276 t277)) else (tacticianlaw01_ValueOrder.j0 k true t269 t270 t271 t272 t273 t274 t275 t276 t277)) else (tacticianlaw01_ValueOrder.j0 k true t269 t270 t271 t272 t273 t274 t275 t276 t277))))) = some r := H
 have A7 := Aside0.mk A70
 clear A70
 replace H := Option.bind_eq_some_iff.mp H
 obtain ⟨⟨t283, t284⟩, A80, H⟩ := H
 replace H : ((tacticianlaw01_less.f t272 t273 t274 t275 t276 t277).bind fun bt285 => ((tacticianlaw01_less.f t269 t270 t271 t275 t276 t277).bind fun bt287 => (if t282 = true then (if t284 = true then (if bt285.2 = true then (if bt287.2 = true then (if t281 = (wrap64 (-t283)) then (if ((t281 == 0) != (t269 == t272 && (t270 == t273 && (t271.toList == t274.toList)))) = true then (tacticianlaw01_ValueOrder.j0 k true t269 t270 t271 t272 t273 t274 t275 t276 t277) else (if t281 ≤ 0 then (if bt285.1 ≤ 0 then (if bt287.1 > 0 then (tacticianlaw01_ValueOrder.j0 k true t269 t270 t271 t272 t273 t274 t275 t276 t277) else (if t281 < 0 then (tacticianlaw01_ValueOrder.j0 k (decide (bt287.1 ≥ 0)) t269 t270 t271 t272 t273 t274 t275 t276 t277) else (tacticianlaw01_ValueOrder.j0 k false t269 t270 t271 t272 t273 t274 t275 t276 t277))) else (if t281 < 0 then (tacticianlaw01_ValueOrder.j0 k false t269 t270 t271 t272 t273 t274 t275 t276 t277) else (tacticianlaw01_ValueOrder.j0 k false t269 t270 t271 t272 t273 t274 t275 t276 t277))) else (if t281 < 0 then (if bt285.1 ≤ 0 then (tacticianlaw01_ValueOrder.j0 k (decide (bt287.1 ≥ 0)) t269 t270 t271 t272 t273 t274 t275 t276 t277) else (tacticianlaw01_ValueOrder.j0 k false t269 t270 t271 t272 t273 t274 t275 t276 t277)) else (tacticianlaw01_ValueOrder.j0 k false t269 t270 t271 t272 t273 t274 t275 t276 t277)))) else (tacticianlaw01_ValueOrder.j0 k true t269 t270 t271 t272 t273 t274 t275 t276 t277)) else (tacticianlaw01_ValueOrder.j0 k true t269 t270 t271 t272 t273 t274 t275 t276 t277)) else (tacticianlaw01_ValueOrder.j0 k true t269 t270 t271 t272 t273 t274 t275 t276 t277)) else (tacticianlaw01_ValueOrder.j0 k true t269 t270 t271 t272 t273 t274 t275 t276 t277)) else (tacticianlaw01_ValueOrder.j0 k true t269 t270 t271 t272 t273 t274 t275 t276 t277)))) = some r := H
 have A8 := Aside0.mk A80
 clear A80
 replace H := Option.bind_eq_some_iff.mp H
 obtain ⟨⟨t285, t286⟩, A90, H⟩ := H
 replace H : ((tacticianlaw01_less.f t269 t270 t271 t275 t276 t277).bind fun bt287 => (if t282 = true then (if t284 = true then (if t286 = true then (if bt287.2 = true then (if t281 = (wrap64 (-t283)) then (if ((t281 == 0) != (t269 == t272 && (t270 == t273 && (t271.toList == t274.toList)))) = true then (tacticianlaw01_ValueOrder.j0 k true t269 t270 t271 t272 t273 t274 t275 t276 t277) else (if t281 ≤ 0 then (if t285 ≤ 0 then (if bt287.1 > 0 then (tacticianlaw01_ValueOrder.j0 k true t269 t270 t271 t272 t273 t274 t275 t276 t277) else (if t281 < 0 then (tacticianlaw01_ValueOrder.j0 k (decide (bt287.1 ≥ 0)) t269 t270 t271 t272 t273 t274 t275 t276 t277) else (tacticianlaw01_ValueOrder.j0 k false t269 t270 t271 t272 t273 t274 t275 t276 t277))) else (if t281 < 0 then (tacticianlaw01_ValueOrder.j0 k false t269 t270 t271 t272 t273 t274 t275 t276 t277) else (tacticianlaw01_ValueOrder.j0 k false t269 t270 t271 t272 t273 t274 t275 t276 t277))) else (if t281 < 0 then (if t285 ≤ 0 then (tacticianlaw01_ValueOrder.j0 k (decide (bt287.1 ≥ 0)) t269 t270 t271 t272 t273 t274 t275 t276 t277) else (tacticianlaw01_ValueOrder.j0 k false t269 t270 t271 t272 t273 t274 t275 t276 t277)) else (tacticianlaw01_ValueOrder.j0 k false t269 t270 t271 t272 t273 t274 t275 t276 t277)))) else (tacticianlaw01_ValueOrder.j0 k true t269 t270 t271 t272 t273 t274 t275 t276 t277)) else (tacticianlaw01_ValueOrder.j0 k true t269 t270 t271 t272 t273 t274 t275 t276 t277)) else (tacticianlaw01_ValueOrder.j0 k true t269 t270 t271 t272 t273 t274 t275 t276 t277)) else (tacticianlaw01_ValueOrder.j0 k true t269 t270 t271 t272 t273 t274 t275 t276 t277)) else (tacticianlaw01_ValueOrder.j0 k true t269 t270 t271 t272 t273 t274 t275 t276 t277))) = some r := H
 have A9 := Aside0.mk A90
 clear A90
 replace H := Option.bind_eq_some_iff.mp H
 obtain ⟨⟨t287, t288⟩, A100, H⟩ := H
 replace H : (if t282 = true then (if t284 = true then (if t286 = true then (if t288 = true then (if t281 = (wrap64 (-t283)) then (if ((t281 == 0) != (t269 == t272 && (t270 == t273 && (t271.toList == t274.toList)))) = true then (tacticianlaw01_ValueOrder.j0 k true t269 t270 t271 t272 t273 t274 t275 t276 t277) else (if t281 ≤ 0 then (if t285 ≤ 0 then (if t287 > 0 then (tacticianlaw01_ValueOrder.j0 k true t269 t270 t271 t272 t273 t274 t275 t276 t277) else (if t281 < 0 then (tacticianlaw01_ValueOrder.j0 k (decide (t287 ≥ 0)) t269 t270 t271 t272 t273 t274 t275 t276 t277) else (tacticianlaw01_ValueOrder.j0 k false t269 t270 t271 t272 t273 t274 t275 t276 t277))) else (if t281 < 0 then (tacticianlaw01_ValueOrder.j0 k false t269 t270 t271 t272 t273 t274 t275 t276 t277) else (tacticianlaw01_ValueOrder.j0 k false t269 t270 t271 t272 t273 t274 t275 t276 t277))) else (if t281 < 0 then (if t285 ≤ 0 then (tacticianlaw01_ValueOrder.j0 k (decide (t287 ≥ 0)) t269 t270 t271 t272 t273 t274 t275 t276 t277) else (tacticianlaw01_ValueOrder.j0 k false t269 t270 t271 t272 t273 t274 t275 t276 t277)) else (tacticianlaw01_ValueOrder.j0 k false t269 t270 t271 t272 t273 t274 t275 t276 t277)))) else (tacticianlaw01_ValueOrder.j0 k true t269 t270 t271 t272 t273 t274 t275 t276 t277)) else (tacticianlaw01_ValueOrder.j0 k true t269 t270 t271 t272 t273 t274 t275 t276 t277)) else (tacticianlaw01_ValueOrder.j0 k true t269 t270 t271 t272 t273 t274 t275 t276 t277)) else (tacticianlaw01_ValueOrder.j0 k true t269 t270 t271 t272 t273 t274 t275 t276 t277)) else (tacticianlaw01_ValueOrder.j0 k true t269 t270 t271 t272 t273 t274 t275 t276 t277)) = some r := H
 have A10 := Aside0.mk A100
 clear A100
 have HC11 := Aside0.mk H
 clear H
 go_enter Tryz.func4, Tryz.ntmps4
 try go_wp2_with (first | ((with_reducible refine gate_dst (N := 3) rfl ?_); (try (refine gate_guard (by rfl) ?_; dsimp only)); refine box_event ?hg (N := 3) ?hd (cs := #[.int .i64 a0_0, .int .i64 a0_1, .string a0_2]) (t := 25) ?hr ?_; (case hd => rfl); (case hg => rfl); (case hr => first | (go_simp; done) | (go_simp; rfl)); intro gb266 hg w12 hbox hb; have n0_ := Aside0.mk (below_step (by repeat (first | (with_reducible first | exact HB.out | apply yA | apply yN | apply yD) | exact HB.out)) hb); have n1_ := Aside0.mk (hbox); have n2_ := Aside0.mk ((by rw [hg]; exact (below_size (by repeat (first | (with_reducible first | exact HB.out | apply yA | apply yN | apply yD) | exact HB.out))) : w.heap.size ≤ gb266)); have n3_ := Aside0.mk ((by rw [hg]; exact (below_size (by repeat (first | (with_reducible first | exact HB.out | apply yA | apply yN | apply yD) | exact HB.out))) : w.heap.size ≤ gb266)); clear HB; have HB := n0_; have BK266 := n1_; have GW266 := n2_; have GE266 := n3_; clear n0_ n1_ n2_ n3_; clear hb hbox hg) | ((with_reducible refine gate_dst (N := 4) rfl ?_); (try (refine gate_guard (by rfl) ?_; dsimp only)); refine box_event ?hg (N := 4) ?hd (cs := #[.int .i64 a1_0, .int .i64 a1_1, .string a1_2]) (t := 25) ?hr ?_; (case hd => rfl); (case hg => rfl); (case hr => first | (go_simp; done) | (go_simp; rfl)); intro gb267 hg w13 hbox hb; have n0_ := Aside0.mk (blk_below (g := gb266) (o := .cells #[.int .i64 a0_0, .int .i64 a0_1, .string a0_2] 25 (0, 0)) (by (with_reducible repeat (first | refine zN ?_ _ | refine zD ?_ | refine zA ?_ _)); exact BK266.out) hb); have n1_ := Aside0.mk (below_step (by repeat (first | (with_reducible first | exact HB.out | apply yA | apply yN | apply yD | refine below_set ?_ GE266.out) | exact HB.out)) hb); have n2_ := Aside0.mk (hbox); have n3_ := Aside0.mk ((by rw [hg]; exact (below_size (by repeat (first | (with_reducible first | exact HB.out | apply yA | apply yN | apply yD | refine below_set ?_ GE266.out) | exact HB.out))) : w.heap.size ≤ gb267)); have n4_ := Aside0.mk ((by rw [hg]; exact (below_size (by repeat (first | (with_reducible first | exact HB.out | apply yA | apply yN | apply yD | refine below_set ?_ GE266.out) | exact HB.out))) : w.heap.size ≤ gb267)); have n5_ := Aside0.mk ((by rw [hg]; exact Nat.ne_of_lt (blk_lt (g := gb266) (o := .cells #[.int .i64 a0_0, .int .i64 a0_1, .string a0_2] 25 (0, 0)) (by (with_reducible repeat (first | refine zN ?_ _ | refine zD ?_ | refine zA ?_ _)); exact BK266.out)) : gb266 ≠ gb267)); have n6_ := Aside0.mk ((by rw [hg]; exact Nat.ne_of_gt (blk_lt (g := gb266) (o := .cells #[.int .i64 a0_0, .int .i64 a0_1, .string a0_2] 25 (0, 0)) (by (with_reducible repeat (first | refine zN ?_ _ | refine zD ?_ | refine zA ?_ _)); exact BK266.out)) : gb267 ≠ gb266)); clear BK266; clear HB; have BK266 := n0_; have HB := n1_; have BK267 := n2_; have GW267 := n3_; have GE267 := n4_; have NB266_267 := n5_; have NB267_266 := n6_; clear n0_ n1_ n2_ n3_ n4_ n5_ n6_; clear hb hbox hg) | ((with_reducible refine gate_dst (N := 5) rfl ?_); (try (refine gate_guard (by rfl) ?_; dsimp only)); refine box_event ?hg (N := 5) ?hd (cs := #[.int .i64 a2_0, .int .i64 a2_1, .string a2_2]) (t := 25) ?hr ?_; (case hd => rfl); (case hg => rfl); (case hr => first | (go_simp; done) | (go_simp; rfl)); intro gb268 hg w14 hbox hb; have n0_ := Aside0.mk (blk_below (g := gb266) (o := .cells #[.int .i64 a0_0, .int .i64 a0_1, .string a0_2] 25 (0, 0)) (by (with_reducible repeat (first | refine zN ?_ _ | refine zD ?_ | refine zA ?_ _)); exact BK266.out) hb); have n1_ := Aside0.mk (blk_below (g := gb267) (o := .cells #[.int .i64 a1_0, .int .i64 a1_1, .string a1_2] 25 (0, 0)) (by (with_reducible repeat (first | refine zN ?_ _ | refine zD ?_ | refine zA ?_ _)); exact BK267.out) hb); have n2_ := Aside0.mk (below_step (by repeat (first | (with_reducible first | exact HB.out | apply yA | apply yN | apply yD | refine below_set ?_ GE266.out | refine below_set ?_ GE267.out) | exact HB.out)) hb); have n3_ := Aside0.mk (hbox); have n4_ := Aside0.mk ((by rw [hg]; exact (below_size (by repeat (first | (with_reducible first | exact HB.out | apply yA | apply yN | apply yD | refine below_set ?_ GE266.out | refine below_set ?_ GE267.out) | exact HB.out))) : w.heap.size ≤ gb268)); have n5_ := Aside0.mk ((by rw [hg]; exact (below_size (by repeat (first | (with_reducible first | exact HB.out | apply yA | apply yN | apply yD | refine below_set ?_ GE266.out | refine below_set ?_ GE267.out) | exact HB.out))) : w.heap.size ≤ gb268)); have n6_ := Aside0.mk ((by rw [hg]; exact Nat.ne_of_lt (blk_lt (g := gb266) (o := .cells #[.int .i64 a0_0, .int .i64 a0_1, .string a0_2] 25 (0, 0)) (by (with_reducible repeat (first | refine zN ?_ _ | refine zD ?_ | refine zA ?_ _)); exact BK266.out)) : gb266 ≠ gb268)); have n7_ := Aside0.mk ((by rw [hg]; exact Nat.ne_of_gt (blk_lt (g := gb266) (o := .cells #[.int .i64 a0_0, .int .i64 a0_1, .string a0_2] 25 (0, 0)) (by (with_reducible repeat (first | refine zN ?_ _ | refine zD ?_ | refine zA ?_ _)); exact BK266.out)) : gb268 ≠ gb266)); have n8_ := Aside0.mk ((by rw [hg]; exact Nat.ne_of_lt (blk_lt (g := gb267) (o := .cells #[.int .i64 a1_0, .int .i64 a1_1, .string a1_2] 25 (0, 0)) (by (with_reducible repeat (first | refine zN ?_ _ | refine zD ?_ | refine zA ?_ _)); exact BK267.out)) : gb267 ≠ gb268)); have n9_ := Aside0.mk ((by rw [hg]; exact Nat.ne_of_gt (blk_lt (g := gb267) (o := .cells #[.int .i64 a1_0, .int .i64 a1_1, .string a1_2] 25 (0, 0)) (by (with_reducible repeat (first | refine zN ?_ _ | refine zD ?_ | refine zA ?_ _)); exact BK267.out)) : gb268 ≠ gb267)); clear BK266; clear BK267; clear HB; have BK266 := n0_; have BK267 := n1_; have HB := n2_; have BK268 := n3_; have GW268 := n4_; have GE268 := n5_; have NB266_268 := n6_; have NB268_266 := n7_; have NB267_268 := n8_; have NB268_267 := n9_; clear n0_ n1_ n2_ n3_ n4_ n5_ n6_ n7_ n8_ n9_; clear hb hbox hg))
 have n0_ := Aside0.mk (blk_drew BK266.out)
 have n1_ := Aside0.mk (blk_drew BK267.out)
 have n2_ := Aside0.mk (blk_drew BK268.out)
 have n3_ := Aside0.mk (below_drew1 HB.out)
 clear BK266
 clear BK267
 clear BK268
 clear HB
 have BK266 := n0_
 have BK267 := n1_
 have BK268 := n2_
 have HB := n3_
 clear n0_ n1_ n2_ n3_
 refine start_ (n := 12) (S := fun w' => w'.cell? ⟨gb266, 0, none⟩ = some (.int .i64 a0_0) ∧ w'.cell? ⟨gb266, 1, none⟩ = some (.int .i64 a0_1) ∧ w'.cell? ⟨gb266, 2, none⟩ = some (.string a0_2) ∧ w'.cell? ⟨gb267, 0, none⟩ = some (.int .i64 a1_0) ∧ w'.cell? ⟨gb267, 1, none⟩ = some (.int .i64 a1_1) ∧ w'.cell? ⟨gb267, 2, none⟩ = some (.string a1_2) ∧ w'.cell? ⟨gb268, 0, none⟩ = some (.int .i64 a2_0) ∧ w'.cell? ⟨gb268, 1, none⟩ = some (.int .i64 a2_1) ∧ w'.cell? ⟨gb268, 2, none⟩ = some (.string a2_2)) (ds := []) #[false, false, false, false, false, false, false, false, false, false, false, false] (by kernel_rfl) rfl rfl ⟨(blk_cell BK266.out 0).trans rfl, (blk_cell BK266.out 1).trans rfl, (blk_cell BK266.out 2).trans rfl, (blk_cell BK267.out 0).trans rfl, (blk_cell BK267.out 1).trans rfl, (blk_cell BK267.out 2).trans rfl, (blk_cell BK268.out 0).trans rfl, (blk_cell BK268.out 1).trans rfl, (blk_cell BK268.out 2).trans rfl⟩ (fun hHeld => ?_); refine with_tabW tacticianlaw01_ValueOrder.tab1 tacticianlaw01_ValueOrder.bits1 (fun HT_ HW_ => ?_)
 generalize w14.drew = w15 at BK266 BK267 BK268 HB hHeld ⊢
 have HS_ : Aside0 (∀ w', Below w15.heap.size w15 w' → (fun w' => w'.cell? ⟨gb266, 0, none⟩ = some (.int .i64 a0_0) ∧ w'.cell? ⟨gb266, 1, none⟩ = some (.int .i64 a0_1) ∧ w'.cell? ⟨gb266, 2, none⟩ = some (.string a0_2) ∧ w'.cell? ⟨gb267, 0, none⟩ = some (.int .i64 a1_0) ∧ w'.cell? ⟨gb267, 1, none⟩ = some (.int .i64 a1_1) ∧ w'.cell? ⟨gb267, 2, none⟩ = some (.string a1_2) ∧ w'.cell? ⟨gb268, 0, none⟩ = some (.int .i64 a2_0) ∧ w'.cell? ⟨gb268, 1, none⟩ = some (.int .i64 a2_1) ∧ w'.cell? ⟨gb268, 2, none⟩ = some (.string a2_2)) w') := ⟨fun w' hb_ => by obtain ⟨s0, s1, s2, s3, s4, s5, s6, s7, s8⟩ := hHeld; exact ⟨pw_cell_below hb_ s0, pw_cell_below hb_ s1, pw_cell_below hb_ s2, pw_cell_below hb_ s3, pw_cell_below hb_ s4, pw_cell_below hb_ s5, pw_cell_below hb_ s6, pw_cell_below hb_ s7, pw_cell_below hb_ s8⟩⟩
 refine take_ (i := 0) (N := some 23) (v := ?_) (a' := ?_) #[true, false, false, false, false, false, false, false, false, false, false, false] rfl rfl (take_ofW HT_.out HW_.out (by kernel_rfl)) (fun _ _ _ h => h) (Or.inl ⟨by rfl, ?_⟩) hHeld ?_ ?_
 rotate_left
 ·rintro w' ⟨s0, s1, s2, s3, s4, s5, s6, s7, s8⟩
  go_simp
  with_reducible rfl
 rotate_left
 ·simp only [Act.put, List.setIfInBounds_toArray, List.set_cons_zero, List.set_cons_succ, i64_w, i32_w]
  rfl
 refine take_ (i := 2) (N := some 25) (v := ?_) (a' := ?_) #[true, false, true, false, false, false, false, false, false, false, false, false] rfl rfl (take_ofW HT_.out HW_.out (by kernel_rfl)) (fun _ _ _ h => h) (Or.inl ⟨by rfl, ?_⟩) hHeld ?_ ?_
 rotate_left
 ·rintro w' ⟨s0, s1, s2, s3, s4, s5, s6, s7, s8⟩
  go_simp
  with_reducible rfl
 rotate_left
 ·simp only [Act.put, List.setIfInBounds_toArray, List.set_cons_zero, List.set_cons_succ, i64_w, i32_w]
  rfl
 refine take_ (i := 4) (N := some 27) (v := ?_) (a' := ?_) #[true, false, true, false, true, false, false, false, false, false, false, false] rfl rfl (take_ofW HT_.out HW_.out (by kernel_rfl)) (fun _ _ _ h => h) (Or.inl ⟨by rfl, ?_⟩) hHeld ?_ ?_
 rotate_left
 ·rintro w' ⟨s0, s1, s2, s3, s4, s5, s6, s7, s8⟩
  go_simp
  with_reducible rfl
 rotate_left
 ·simp only [Act.put, List.setIfInBounds_toArray, List.set_cons_zero, List.set_cons_succ, i64_w, i32_w]
  rfl
 refine join_ (σ := Nat × Nat × Nat) 3 #[true, true, true, true, true, true, true, true, true, false, false, false] (fun s_ => [(24, .agg #[.int .i64 t269, .int .i64 t270, .string t271]), (26, .agg #[.int .i64 t272, .int .i64 t273, .string t274]), (28, .agg #[.int .i64 t275, .int .i64 t276, .string t277]), (7, .pointer (some ⟨s_.1, 0, none⟩)), (8, .pointer (some ⟨s_.2.1, 0, none⟩)), (9, .pointer (some ⟨s_.2.2, 0, none⟩))]) (fun s_ w' => (Below w15.heap.size w15 w') ∧ (Bz w15 w' s_.1) ∧ (Bz w15 w' s_.2.1) ∧ (Bz w15 w' s_.2.2) ∧ (s_.1 ≠ s_.2.1) ∧ (s_.1 ≠ s_.2.2) ∧ (s_.2.1 ≠ s_.2.2)) ?_ ?_
 rotate_left
 ·intro hJ1_3_5_6_7_8
  refine join_ (σ := Nat × Nat) 4 #[true, true, true, true, true, true, true, true, false, false, false, false] (fun s_ => [(24, .agg #[.int .i64 t269, .int .i64 t270, .string t271]), (26, .agg #[.int .i64 t272, .int .i64 t273, .string t274]), (28, .agg #[.int .i64 t275, .int .i64 t276, .string t277]), (7, .pointer (some ⟨s_.1, 0, none⟩)), (8, .pointer (some ⟨s_.2, 0, none⟩))]) (fun s_ w' => (Below w15.heap.size w15 w') ∧ (Bz w15 w' s_.1) ∧ (Bz w15 w' s_.2) ∧ (s_.1 ≠ s_.2)) ?_ ?_
  rotate_left
  ·intro hJ1_3_5_6_7
   refine join_ (σ := Nat × Nat) 4 #[true, true, true, true, true, true, true, false, true, false, false, false] (fun s_ => [(24, .agg #[.int .i64 t269, .int .i64 t270, .string t271]), (26, .agg #[.int .i64 t272, .int .i64 t273, .string t274]), (28, .agg #[.int .i64 t275, .int .i64 t276, .string t277]), (7, .pointer (some ⟨s_.1, 0, none⟩)), (9, .pointer (some ⟨s_.2, 0, none⟩))]) (fun s_ w' => (Below w15.heap.size w15 w') ∧ (Bz w15 w' s_.1) ∧ (Bz w15 w' s_.2) ∧ (s_.1 ≠ s_.2)) ?_ ?_
   rotate_left
   ·intro hJ1_3_5_6_8
    refine join_ (σ := Nat × Nat) 4 #[true, true, true, true, true, true, false, true, true, false, false, false] (fun s_ => [(24, .agg #[.int .i64 t269, .int .i64 t270, .string t271]), (26, .agg #[.int .i64 t272, .int .i64 t273, .string t274]), (28, .agg #[.int .i64 t275, .int .i64 t276, .string t277]), (8, .pointer (some ⟨s_.1, 0, none⟩)), (9, .pointer (some ⟨s_.2, 0, none⟩))]) (fun s_ w' => (Below w15.heap.size w15 w') ∧ (Bz w15 w' s_.1) ∧ (Bz w15 w' s_.2) ∧ (s_.1 ≠ s_.2)) ?_ ?_
    rotate_left
    ·intro hJ1_3_5_7_8
     refine join_ (σ := Nat × Nat × Nat) 4 #[true, true, true, true, true, false, true, true, true, false, false, false] (fun s_ => [(24, .agg #[.int .i64 t269, .int .i64 t270, .string t271]), (26, .agg #[.int .i64 t272, .int .i64 t273, .string t274]), (7, .pointer (some ⟨s_.1, 0, none⟩)), (8, .pointer (some ⟨s_.2.1, 0, none⟩)), (9, .pointer (some ⟨s_.2.2, 0, none⟩))]) (fun s_ w' => (Below w15.heap.size w15 w') ∧ (Bz w15 w' s_.1) ∧ (Bz w15 w' s_.2.1) ∧ (Bz w15 w' s_.2.2) ∧ (s_.1 ≠ s_.2.1) ∧ (s_.1 ≠ s_.2.2) ∧ (s_.2.1 ≠ s_.2.2)) ?_ ?_
     rotate_left
     ·intro hJ1_3_6_7_8
      refine join_ (σ := Nat) 5 #[true, true, true, true, true, true, true, false, false, false, false, false] (fun s_ => [(24, .agg #[.int .i64 t269, .int .i64 t270, .string t271]), (26, .agg #[.int .i64 t272, .int .i64 t273, .string t274]), (28, .agg #[.int .i64 t275, .int .i64 t276, .string t277]), (7, .pointer (some ⟨s_, 0, none⟩))]) (fun s_ w' => (Below w15.heap.size w15 w') ∧ (Bz w15 w' s_)) ?_ ?_
      rotate_left
      ·intro hJ1_3_5_6
       refine join_ (σ := Nat) 5 #[true, true, true, true, true, true, false, true, false, false, false, false] (fun s_ => [(24, .agg #[.int .i64 t269, .int .i64 t270, .string t271]), (26, .agg #[.int .i64 t272, .int .i64 t273, .string t274]), (28, .agg #[.int .i64 t275, .int .i64 t276, .string t277]), (8, .pointer (some ⟨s_, 0, none⟩))]) (fun s_ w' => (Below w15.heap.size w15 w') ∧ (Bz w15 w' s_)) ?_ ?_
       rotate_left
       ·intro hJ1_3_5_7
        refine join_ (σ := Nat) 5 #[true, true, true, true, true, true, false, false, true, false, false, false] (fun s_ => [(24, .agg #[.int .i64 t269, .int .i64 t270, .string t271]), (26, .agg #[.int .i64 t272, .int .i64 t273, .string t274]), (28, .agg #[.int .i64 t275, .int .i64 t276, .string t277]), (9, .pointer (some ⟨s_, 0, none⟩))]) (fun s_ w' => (Below w15.heap.size w15 w') ∧ (Bz w15 w' s_)) ?_ ?_
        rotate_left
        ·intro hJ1_3_5_8
         refine join_ (σ := Nat × Nat) 5 #[true, true, true, true, true, false, true, true, false, false, false, false] (fun s_ => [(24, .agg #[.int .i64 t269, .int .i64 t270, .string t271]), (26, .agg #[.int .i64 t272, .int .i64 t273, .string t274]), (7, .pointer (some ⟨s_.1, 0, none⟩)), (8, .pointer (some ⟨s_.2, 0, none⟩))]) (fun s_ w' => (Below w15.heap.size w15 w') ∧ (Bz w15 w' s_.1) ∧ (Bz w15 w' s_.2) ∧ (s_.1 ≠ s_.2)) ?_ ?_
         rotate_left
         ·intro hJ1_3_6_7
          refine join_ (σ := Nat × Nat) 5 #[true, true, true, true, true, false, true, false, true, false, false, false] (fun s_ => [(24, .agg #[.int .i64 t269, .int .i64 t270, .string t271]), (26, .agg #[.int .i64 t272, .int .i64 t273, .string t274]), (7, .pointer (some ⟨s_.1, 0, none⟩)), (9, .pointer (some ⟨s_.2, 0, none⟩))]) (fun s_ w' => (Below w15.heap.size w15 w') ∧ (Bz w15 w' s_.1) ∧ (Bz w15 w' s_.2) ∧ (s_.1 ≠ s_.2)) ?_ ?_
          rotate_left
          ·intro hJ1_3_6_8
           refine join_ (σ := Nat × Nat) 5 #[true, true, true, true, true, false, false, true, true, false, false, false] (fun s_ => [(24, .agg #[.int .i64 t269, .int .i64 t270, .string t271]), (26, .agg #[.int .i64 t272, .int .i64 t273, .string t274]), (8, .pointer (some ⟨s_.1, 0, none⟩)), (9, .pointer (some ⟨s_.2, 0, none⟩))]) (fun s_ w' => (Below w15.heap.size w15 w') ∧ (Bz w15 w' s_.1) ∧ (Bz w15 w' s_.2) ∧ (s_.1 ≠ s_.2)) ?_ ?_
           rotate_left
           ·intro hJ1_3_7_8
            refine join_ (σ := Nat × Nat × Nat) 5 #[true, true, true, false, true, false, true, true, true, false, false, false] (fun s_ => [(24, .agg #[.int .i64 t269, .int .i64 t270, .string t271]), (7, .pointer (some ⟨s_.1, 0, none⟩)), (8, .pointer (some ⟨s_.2.1, 0, none⟩)), (9, .pointer (some ⟨s_.2.2, 0, none⟩))]) (fun s_ w' => (Below w15.heap.size w15 w') ∧ (Bz w15 w' s_.1) ∧ (Bz w15 w' s_.2.1) ∧ (Bz w15 w' s_.2.2) ∧ (s_.1 ≠ s_.2.1) ∧ (s_.1 ≠ s_.2.2) ∧ (s_.2.1 ≠ s_.2.2)) ?_ ?_
            rotate_left
            ·intro hJ1_6_7_8
             refine join_ (σ := Unit) 6 #[true, true, true, true, true, true, false, false, false, false, false, false] (fun s_ => [(24, .agg #[.int .i64 t269, .int .i64 t270, .string t271]), (26, .agg #[.int .i64 t272, .int .i64 t273, .string t274]), (28, .agg #[.int .i64 t275, .int .i64 t276, .string t277])]) (fun s_ w' => (Below w15.heap.size w15 w')) ?_ ?_
             rotate_left
             ·intro hJ1_3_5
              refine join_ (σ := Nat) 6 #[true, true, true, true, true, false, true, false, false, false, false, false] (fun s_ => [(24, .agg #[.int .i64 t269, .int .i64 t270, .string t271]), (26, .agg #[.int .i64 t272, .int .i64 t273, .string t274]), (7, .pointer (some ⟨s_, 0, none⟩))]) (fun s_ w' => (Below w15.heap.size w15 w') ∧ (Bz w15 w' s_)) ?_ ?_
              rotate_left
              ·intro hJ1_3_6
               refine join_ (σ := Nat) 6 #[true, true, true, true, true, false, false, true, false, false, false, false] (fun s_ => [(24, .agg #[.int .i64 t269, .int .i64 t270, .string t271]), (26, .agg #[.int .i64 t272, .int .i64 t273, .string t274]), (8, .pointer (some ⟨s_, 0, none⟩))]) (fun s_ w' => (Below w15.heap.size w15 w') ∧ (Bz w15 w' s_)) ?_ ?_
               rotate_left
               ·intro hJ1_3_7
                refine join_ (σ := Nat) 6 #[true, true, true, true, true, false, false, false, true, false, false, false] (fun s_ => [(24, .agg #[.int .i64 t269, .int .i64 t270, .string t271]), (26, .agg #[.int .i64 t272, .int .i64 t273, .string t274]), (9, .pointer (some ⟨s_, 0, none⟩))]) (fun s_ w' => (Below w15.heap.size w15 w') ∧ (Bz w15 w' s_)) ?_ ?_
                rotate_left
                ·intro hJ1_3_8
                 refine join_ (σ := Nat × Nat) 6 #[true, true, true, false, true, false, true, true, false, false, false, false] (fun s_ => [(24, .agg #[.int .i64 t269, .int .i64 t270, .string t271]), (7, .pointer (some ⟨s_.1, 0, none⟩)), (8, .pointer (some ⟨s_.2, 0, none⟩))]) (fun s_ w' => (Below w15.heap.size w15 w') ∧ (Bz w15 w' s_.1) ∧ (Bz w15 w' s_.2) ∧ (s_.1 ≠ s_.2)) ?_ ?_
                 rotate_left
                 ·intro hJ1_6_7
                  refine join_ (σ := Nat × Nat) 6 #[true, true, true, false, true, false, true, false, true, false, false, false] (fun s_ => [(24, .agg #[.int .i64 t269, .int .i64 t270, .string t271]), (7, .pointer (some ⟨s_.1, 0, none⟩)), (9, .pointer (some ⟨s_.2, 0, none⟩))]) (fun s_ w' => (Below w15.heap.size w15 w') ∧ (Bz w15 w' s_.1) ∧ (Bz w15 w' s_.2) ∧ (s_.1 ≠ s_.2)) ?_ ?_
                  rotate_left
                  ·intro hJ1_6_8
                   refine join_ (σ := Nat × Nat) 6 #[true, true, true, false, true, false, false, true, true, false, false, false] (fun s_ => [(24, .agg #[.int .i64 t269, .int .i64 t270, .string t271]), (8, .pointer (some ⟨s_.1, 0, none⟩)), (9, .pointer (some ⟨s_.2, 0, none⟩))]) (fun s_ w' => (Below w15.heap.size w15 w') ∧ (Bz w15 w' s_.1) ∧ (Bz w15 w' s_.2) ∧ (s_.1 ≠ s_.2)) ?_ ?_
                   rotate_left
                   ·intro hJ1_7_8
                    refine join_ (σ := Nat × Nat × Nat) 6 #[true, false, true, false, true, false, true, true, true, false, false, false] (fun s_ => [(7, .pointer (some ⟨s_.1, 0, none⟩)), (8, .pointer (some ⟨s_.2.1, 0, none⟩)), (9, .pointer (some ⟨s_.2.2, 0, none⟩))]) (fun s_ w' => (Below w15.heap.size w15 w') ∧ (Bz w15 w' s_.1) ∧ (Bz w15 w' s_.2.1) ∧ (Bz w15 w' s_.2.2) ∧ (s_.1 ≠ s_.2.1) ∧ (s_.1 ≠ s_.2.2) ∧ (s_.2.1 ≠ s_.2.2)) ?_ ?_
                    rotate_left
                    ·intro hJ6_7_8
                     refine join_ (σ := Unit) 7 #[true, true, true, true, true, false, false, false, false, false, false, false] (fun s_ => [(24, .agg #[.int .i64 t269, .int .i64 t270, .string t271]), (26, .agg #[.int .i64 t272, .int .i64 t273, .string t274])]) (fun s_ w' => (Below w15.heap.size w15 w')) ?_ ?_
                     rotate_left
                     ·intro hJ1_3
                      refine join_ (σ := Nat) 7 #[true, true, true, false, true, false, true, false, false, false, false, false] (fun s_ => [(24, .agg #[.int .i64 t269, .int .i64 t270, .string t271]), (7, .pointer (some ⟨s_, 0, none⟩))]) (fun s_ w' => (Below w15.heap.size w15 w') ∧ (Bz w15 w' s_)) ?_ ?_
                      rotate_left
                      ·intro hJ1_6
                       refine join_ (σ := Nat) 7 #[true, true, true, false, true, false, false, true, false, false, false, false] (fun s_ => [(24, .agg #[.int .i64 t269, .int .i64 t270, .string t271]), (8, .pointer (some ⟨s_, 0, none⟩))]) (fun s_ w' => (Below w15.heap.size w15 w') ∧ (Bz w15 w' s_)) ?_ ?_
                       rotate_left
                       ·intro hJ1_7
                        refine join_ (σ := Nat) 7 #[true, true, true, false, true, false, false, false, true, false, false, false] (fun s_ => [(24, .agg #[.int .i64 t269, .int .i64 t270, .string t271]), (9, .pointer (some ⟨s_, 0, none⟩))]) (fun s_ w' => (Below w15.heap.size w15 w') ∧ (Bz w15 w' s_)) ?_ ?_
                        rotate_left
                        ·intro hJ1_8
                         refine join_ (σ := Nat × Nat) 7 #[true, false, true, false, true, false, true, true, false, false, false, false] (fun s_ => [(7, .pointer (some ⟨s_.1, 0, none⟩)), (8, .pointer (some ⟨s_.2, 0, none⟩))]) (fun s_ w' => (Below w15.heap.size w15 w') ∧ (Bz w15 w' s_.1) ∧ (Bz w15 w' s_.2) ∧ (s_.1 ≠ s_.2)) ?_ ?_
                         rotate_left
                         ·intro hJ6_7
                          refine join_ (σ := Nat × Nat) 7 #[true, false, true, false, true, false, true, false, true, false, false, false] (fun s_ => [(7, .pointer (some ⟨s_.1, 0, none⟩)), (9, .pointer (some ⟨s_.2, 0, none⟩))]) (fun s_ w' => (Below w15.heap.size w15 w') ∧ (Bz w15 w' s_.1) ∧ (Bz w15 w' s_.2) ∧ (s_.1 ≠ s_.2)) ?_ ?_
                          rotate_left
                          ·intro hJ6_8
                           refine join_ (σ := Nat × Nat) 7 #[true, false, true, false, true, false, false, true, true, false, false, false] (fun s_ => [(8, .pointer (some ⟨s_.1, 0, none⟩)), (9, .pointer (some ⟨s_.2, 0, none⟩))]) (fun s_ w' => (Below w15.heap.size w15 w') ∧ (Bz w15 w' s_.1) ∧ (Bz w15 w' s_.2) ∧ (s_.1 ≠ s_.2)) ?_ ?_
                           rotate_left
                           ·intro hJ7_8
                            refine join_ (σ := Unit) 8 #[true, true, true, false, true, false, false, false, false, false, false, false] (fun s_ => [(24, .agg #[.int .i64 t269, .int .i64 t270, .string t271])]) (fun s_ w' => (Below w15.heap.size w15 w')) ?_ ?_
                            rotate_left
                            ·intro hJ1
                             refine join_ (σ := Nat) 8 #[true, false, true, false, true, false, true, false, false, false, false, false] (fun s_ => [(7, .pointer (some ⟨s_, 0, none⟩))]) (fun s_ w' => (Below w15.heap.size w15 w') ∧ (Bz w15 w' s_)) ?_ ?_
                             rotate_left
                             ·intro hJ6
                              refine join_ (σ := Nat) 8 #[true, false, true, false, true, false, false, true, false, false, false, false] (fun s_ => [(8, .pointer (some ⟨s_, 0, none⟩))]) (fun s_ w' => (Below w15.heap.size w15 w') ∧ (Bz w15 w' s_)) ?_ ?_
                              rotate_left
                              ·intro hJ7
                               refine join_ (σ := Nat) 8 #[true, false, true, false, true, false, false, false, true, false, false, false] (fun s_ => [(9, .pointer (some ⟨s_, 0, none⟩))]) (fun s_ w' => (Below w15.heap.size w15 w') ∧ (Bz w15 w' s_)) ?_ ?_
                               rotate_left
                               ·intro hJ8
                                have hB : Below w15.heap.size w15 w15 := Below.refl _ _
                                refine four_ (i := 1) (j := 6) (k := 7) (m := 8) (Ni := some 24) (Nj := some 7) (Nk := some 8) (Nm := some 9) #[true, true, true, false, true, false, false, false, false, false, false, false] #[true, false, true, false, true, false, true, false, false, false, false, false] #[true, false, true, false, true, false, false, true, false, false, false, false] #[true, false, true, false, true, false, false, false, true, false, false, false] rfl rfl rfl rfl rfl rfl rfl rfl (four_of HT_.out (by kernel_rfl)) (by decide) (by decide) (by decide) (by decide) (fun K hK => ?_) (fun K hK => ?_) (fun K hK => ?_) (fun K hK => ?_)
                                ·refine goes_ Tryz.func18 (by kernel_rfl) rfl #[.agg #[.int .i64 a0_0, .int .i64 a0_1, .string a0_2]] (by rfl) rfl rfl (by simp only [List.map_toArray, List.map_cons, List.map_nil]; first | done | rfl) ?_
                                 with_reducible refine (tacticianref01_Tame.calls k a0_0 a0_1 a0_2 t269 t270 t271 _ A4.out).mono ?_
                                 rintro e w16 ⟨rfl, hb⟩
                                 refine ⟨_, rfl, ?_⟩
                                 have hB2 := below_step hB hb
                                 refine hK.out _ _ (HS_.out _ hB2) (fun _ => ?_)
                                 exact norm_ (by show Act.put _ (some 24) _ = _; simp only [putAll, Act.put, List.setIfInBounds_toArray, List.set_cons_zero, List.set_cons_succ]; first | done | rfl) (hJ1 () _ hB2)
                                ·refine box_step ?hg (N := 7) ?hd (cs := #[.int .i64 0, .int .i64 0, .string (⟨#[]⟩ : ByteArray)]) (t := 25) ?hr ?_; (case hd => rfl); (case hg => rfl); (case hr => first | (go_simp; done) | (go_simp; rfl))
                                 intro gb278 hg w16 hbox hb
                                 have hB2 := below_step hB hb
                                 refine hK.out _ _ (HS_.out _ hB2) (fun _ => ?_)
                                 exact norm_ (by show Act.put _ (some 7) _ = _; simp only [putAll, Act.put, List.setIfInBounds_toArray, List.set_cons_zero, List.set_cons_succ]; first | done | rfl) (hJ6 gb278 _ ⟨hB2, Bz.new hB.size hg hbox⟩)
                                ·refine box_step ?hg (N := 8) ?hd (cs := #[.int .i64 0, .int .i64 0, .string (⟨#[]⟩ : ByteArray)]) (t := 25) ?hr ?_; (case hd => rfl); (case hg => rfl); (case hr => first | (go_simp; done) | (go_simp; rfl))
                                 intro gb279 hg w16 hbox hb
                                 have hB2 := below_step hB hb
                                 refine hK.out _ _ (HS_.out _ hB2) (fun _ => ?_)
                                 exact norm_ (by show Act.put _ (some 8) _ = _; simp only [putAll, Act.put, List.setIfInBounds_toArray, List.set_cons_zero, List.set_cons_succ]; first | done | rfl) (hJ7 gb279 _ ⟨hB2, Bz.new hB.size hg hbox⟩)
                                ·refine box_step ?hg (N := 9) ?hd (cs := #[.int .i64 0, .int .i64 0, .string (⟨#[]⟩ : ByteArray)]) (t := 25) ?hr ?_; (case hd => rfl); (case hg => rfl); (case hr => first | (go_simp; done) | (go_simp; rfl))
                                 intro gb280 hg w16 hbox hb
                                 have hB2 := below_step hB hb
                                 refine hK.out _ _ (HS_.out _ hB2) (fun _ => ?_)
                                 exact norm_ (by show Act.put _ (some 9) _ = _; simp only [putAll, Act.put, List.setIfInBounds_toArray, List.set_cons_zero, List.set_cons_succ]; first | done | rfl) (hJ8 gb280 _ ⟨hB2, Bz.new hB.size hg hbox⟩)
                               ·skip
                                rintro gb280 w17 ⟨hB, z0⟩
                                refine norm_ (a' := ?_) ?_ ?_
                                rotate_left
                                ·simp only [putAll, Act.put, List.setIfInBounds_toArray, List.set_cons_zero, List.set_cons_succ]
                                 rfl
                                refine three_ (i := 1) (j := 6) (k := 7) (Ni := some 24) (Nj := some 7) (Nk := some 8) #[true, true, true, false, true, false, false, false, true, false, false, false] #[true, false, true, false, true, false, true, false, true, false, false, false] #[true, false, true, false, true, false, false, true, true, false, false, false] rfl rfl rfl rfl rfl rfl (three_of HT_.out (by kernel_rfl)) (by decide) (by decide) (by decide) (fun K hK => ?_) (fun K hK => ?_) (fun K hK => ?_)
                                ·refine goes_ Tryz.func18 (by kernel_rfl) rfl #[.agg #[.int .i64 a0_0, .int .i64 a0_1, .string a0_2]] (by rfl) rfl rfl (by simp only [List.map_toArray, List.map_cons, List.map_nil]; first | done | rfl) ?_
                                 with_reducible refine (tacticianref01_Tame.calls k a0_0 a0_1 a0_2 t269 t270 t271 _ A4.out).mono ?_
                                 rintro e w18 ⟨rfl, hb⟩
                                 refine ⟨_, rfl, ?_⟩
                                 have hB2 := below_step hB hb
                                 refine hK.out _ _ (HS_.out _ hB2) (fun _ => ?_)
                                 exact norm_ (by show Act.put _ (some 24) _ = _; simp only [putAll, Act.put, List.setIfInBounds_toArray, List.set_cons_zero, List.set_cons_succ]; first | done | rfl) (hJ1_8 gb280 _ ⟨hB2, z0.on hb⟩)
                                ·refine box_step ?hg (N := 7) ?hd (cs := #[.int .i64 0, .int .i64 0, .string (⟨#[]⟩ : ByteArray)]) (t := 25) ?hr ?_; (case hd => rfl); (case hg => rfl); (case hr => first | (go_simp; done) | (go_simp; rfl))
                                 intro gb278 hg w18 hbox hb
                                 have hB2 := below_step hB hb
                                 refine hK.out _ _ (HS_.out _ hB2) (fun _ => ?_)
                                 exact norm_ (by show Act.put _ (some 7) _ = _; simp only [putAll, Act.put, List.setIfInBounds_toArray, List.set_cons_zero, List.set_cons_succ]; first | done | rfl) (hJ6_8 (gb278, gb280) _ ⟨hB2, Bz.new hB.size hg hbox, z0.on hb, (z0.ne hg).symm⟩)
                                ·refine box_step ?hg (N := 8) ?hd (cs := #[.int .i64 0, .int .i64 0, .string (⟨#[]⟩ : ByteArray)]) (t := 25) ?hr ?_; (case hd => rfl); (case hg => rfl); (case hr => first | (go_simp; done) | (go_simp; rfl))
                                 intro gb279 hg w18 hbox hb
                                 have hB2 := below_step hB hb
                                 refine hK.out _ _ (HS_.out _ hB2) (fun _ => ?_)
                                 exact norm_ (by show Act.put _ (some 8) _ = _; simp only [putAll, Act.put, List.setIfInBounds_toArray, List.set_cons_zero, List.set_cons_succ]; first | done | rfl) (hJ7_8 (gb279, gb280) _ ⟨hB2, Bz.new hB.size hg hbox, z0.on hb, (z0.ne hg).symm⟩)
                              ·skip
                               rintro gb279 w17 ⟨hB, z0⟩
                               refine norm_ (a' := ?_) ?_ ?_
                               rotate_left
                               ·simp only [putAll, Act.put, List.setIfInBounds_toArray, List.set_cons_zero, List.set_cons_succ]
                                rfl
                               refine three_ (i := 1) (j := 6) (k := 8) (Ni := some 24) (Nj := some 7) (Nk := some 9) #[true, true, true, false, true, false, false, true, false, false, false, false] #[true, false, true, false, true, false, true, true, false, false, false, false] #[true, false, true, false, true, false, false, true, true, false, false, false] rfl rfl rfl rfl rfl rfl (three_of HT_.out (by kernel_rfl)) (by decide) (by decide) (by decide) (fun K hK => ?_) (fun K hK => ?_) (fun K hK => ?_)
                               ·refine goes_ Tryz.func18 (by kernel_rfl) rfl #[.agg #[.int .i64 a0_0, .int .i64 a0_1, .string a0_2]] (by rfl) rfl rfl (by simp only [List.map_toArray, List.map_cons, List.map_nil]; first | done | rfl) ?_
                                with_reducible refine (tacticianref01_Tame.calls k a0_0 a0_1 a0_2 t269 t270 t271 _ A4.out).mono ?_
                                rintro e w18 ⟨rfl, hb⟩
                                refine ⟨_, rfl, ?_⟩
                                have hB2 := below_step hB hb
                                refine hK.out _ _ (HS_.out _ hB2) (fun _ => ?_)
                                exact norm_ (by show Act.put _ (some 24) _ = _; simp only [putAll, Act.put, List.setIfInBounds_toArray, List.set_cons_zero, List.set_cons_succ]; first | done | rfl) (hJ1_7 gb279 _ ⟨hB2, z0.on hb⟩)
                               ·refine box_step ?hg (N := 7) ?hd (cs := #[.int .i64 0, .int .i64 0, .string (⟨#[]⟩ : ByteArray)]) (t := 25) ?hr ?_; (case hd => rfl); (case hg => rfl); (case hr => first | (go_simp; done) | (go_simp; rfl))
                                intro gb278 hg w18 hbox hb
                                have hB2 := below_step hB hb
                                refine hK.out _ _ (HS_.out _ hB2) (fun _ => ?_)
                                exact norm_ (by show Act.put _ (some 7) _ = _; simp only [putAll, Act.put, List.setIfInBounds_toArray, List.set_cons_zero, List.set_cons_succ]; first | done | rfl) (hJ6_7 (gb278, gb279) _ ⟨hB2, Bz.new hB.size hg hbox, z0.on hb, (z0.ne hg).symm⟩)
                               ·refine box_step ?hg (N := 9) ?hd (cs := #[.int .i64 0, .int .i64 0, .string (⟨#[]⟩ : ByteArray)]) (t := 25) ?hr ?_; (case hd => rfl); (case hg => rfl); (case hr => first | (go_simp; done) | (go_simp; rfl))
                                intro gb280 hg w18 hbox hb
                                have hB2 := below_step hB hb
                                refine hK.out _ _ (HS_.out _ hB2) (fun _ => ?_)
                                exact norm_ (by show Act.put _ (some 9) _ = _; simp only [putAll, Act.put, List.setIfInBounds_toArray, List.set_cons_zero, List.set_cons_succ]; first | done | rfl) (hJ7_8 (gb279, gb280) _ ⟨hB2, z0.on hb, Bz.new hB.size hg hbox, z0.ne hg⟩)
                             ·skip
                              rintro gb278 w17 ⟨hB, z0⟩
                              refine norm_ (a' := ?_) ?_ ?_
                              rotate_left
                              ·simp only [putAll, Act.put, List.setIfInBounds_toArray, List.set_cons_zero, List.set_cons_succ]
                               rfl
                              refine three_ (i := 1) (j := 7) (k := 8) (Ni := some 24) (Nj := some 8) (Nk := some 9) #[true, true, true, false, true, false, true, false, false, false, false, false] #[true, false, true, false, true, false, true, true, false, false, false, false] #[true, false, true, false, true, false, true, false, true, false, false, false] rfl rfl rfl rfl rfl rfl (three_of HT_.out (by kernel_rfl)) (by decide) (by decide) (by decide) (fun K hK => ?_) (fun K hK => ?_) (fun K hK => ?_)
                              ·refine goes_ Tryz.func18 (by kernel_rfl) rfl #[.agg #[.int .i64 a0_0, .int .i64 a0_1, .string a0_2]] (by rfl) rfl rfl (by simp only [List.map_toArray, List.map_cons, List.map_nil]; first | done | rfl) ?_
                               with_reducible refine (tacticianref01_Tame.calls k a0_0 a0_1 a0_2 t269 t270 t271 _ A4.out).mono ?_
                               rintro e w18 ⟨rfl, hb⟩
                               refine ⟨_, rfl, ?_⟩
                               have hB2 := below_step hB hb
                               refine hK.out _ _ (HS_.out _ hB2) (fun _ => ?_)
                               exact norm_ (by show Act.put _ (some 24) _ = _; simp only [putAll, Act.put, List.setIfInBounds_toArray, List.set_cons_zero, List.set_cons_succ]; first | done | rfl) (hJ1_6 gb278 _ ⟨hB2, z0.on hb⟩)
                              ·refine box_step ?hg (N := 8) ?hd (cs := #[.int .i64 0, .int .i64 0, .string (⟨#[]⟩ : ByteArray)]) (t := 25) ?hr ?_; (case hd => rfl); (case hg => rfl); (case hr => first | (go_simp; done) | (go_simp; rfl))
                               intro gb279 hg w18 hbox hb
                               have hB2 := below_step hB hb
                               refine hK.out _ _ (HS_.out _ hB2) (fun _ => ?_)
                               exact norm_ (by show Act.put _ (some 8) _ = _; simp only [putAll, Act.put, List.setIfInBounds_toArray, List.set_cons_zero, List.set_cons_succ]; first | done | rfl) (hJ6_7 (gb278, gb279) _ ⟨hB2, z0.on hb, Bz.new hB.size hg hbox, z0.ne hg⟩)
                              ·refine box_step ?hg (N := 9) ?hd (cs := #[.int .i64 0, .int .i64 0, .string (⟨#[]⟩ : ByteArray)]) (t := 25) ?hr ?_; (case hd => rfl); (case hg => rfl); (case hr => first | (go_simp; done) | (go_simp; rfl))
                               intro gb280 hg w18 hbox hb
                               have hB2 := below_step hB hb
                               refine hK.out _ _ (HS_.out _ hB2) (fun _ => ?_)
                               exact norm_ (by show Act.put _ (some 9) _ = _; simp only [putAll, Act.put, List.setIfInBounds_toArray, List.set_cons_zero, List.set_cons_succ]; first | done | rfl) (hJ6_8 (gb278, gb280) _ ⟨hB2, z0.on hb, Bz.new hB.size hg hbox, z0.ne hg⟩)
                            ·skip
                             rintro _ w17 hB
                             refine norm_ (a' := ?_) ?_ ?_
                             rotate_left
                             ·simp only [putAll, Act.put, List.setIfInBounds_toArray, List.set_cons_zero, List.set_cons_succ]
                              rfl
                             refine four_ (i := 3) (j := 6) (k := 7) (m := 8) (Ni := some 26) (Nj := some 7) (Nk := some 8) (Nm := some 9) #[true, true, true, true, true, false, false, false, false, false, false, false] #[true, true, true, false, true, false, true, false, false, false, false, false] #[true, true, true, false, true, false, false, true, false, false, false, false] #[true, true, true, false, true, false, false, false, true, false, false, false] rfl rfl rfl rfl rfl rfl rfl rfl (four_of HT_.out (by kernel_rfl)) (by decide) (by decide) (by decide) (by decide) (fun K hK => ?_) (fun K hK => ?_) (fun K hK => ?_) (fun K hK => ?_)
                             ·refine goes_ Tryz.func18 (by kernel_rfl) rfl #[.agg #[.int .i64 a1_0, .int .i64 a1_1, .string a1_2]] (by rfl) rfl rfl (by simp only [List.map_toArray, List.map_cons, List.map_nil]; first | done | rfl) ?_
                              with_reducible refine (tacticianref01_Tame.calls k a1_0 a1_1 a1_2 t272 t273 t274 _ A5.out).mono ?_
                              rintro e w18 ⟨rfl, hb⟩
                              refine ⟨_, rfl, ?_⟩
                              have hB2 := below_step hB hb
                              refine hK.out _ _ (HS_.out _ hB2) (fun _ => ?_)
                              exact norm_ (by show Act.put _ (some 26) _ = _; simp only [putAll, Act.put, List.setIfInBounds_toArray, List.set_cons_zero, List.set_cons_succ]; first | done | rfl) (hJ1_3 () _ hB2)
                             ·refine box_step ?hg (N := 7) ?hd (cs := #[.int .i64 0, .int .i64 0, .string (⟨#[]⟩ : ByteArray)]) (t := 25) ?hr ?_; (case hd => rfl); (case hg => rfl); (case hr => first | (go_simp; done) | (go_simp; rfl))
                              intro gb278 hg w18 hbox hb
                              have hB2 := below_step hB hb
                              refine hK.out _ _ (HS_.out _ hB2) (fun _ => ?_)
                              exact norm_ (by show Act.put _ (some 7) _ = _; simp only [putAll, Act.put, List.setIfInBounds_toArray, List.set_cons_zero, List.set_cons_succ]; first | done | rfl) (hJ1_6 gb278 _ ⟨hB2, Bz.new hB.size hg hbox⟩)
                             ·refine box_step ?hg (N := 8) ?hd (cs := #[.int .i64 0, .int .i64 0, .string (⟨#[]⟩ : ByteArray)]) (t := 25) ?hr ?_; (case hd => rfl); (case hg => rfl); (case hr => first | (go_simp; done) | (go_simp; rfl))
                              intro gb279 hg w18 hbox hb
                              have hB2 := below_step hB hb
                              refine hK.out _ _ (HS_.out _ hB2) (fun _ => ?_)
                              exact norm_ (by show Act.put _ (some 8) _ = _; simp only [putAll, Act.put, List.setIfInBounds_toArray, List.set_cons_zero, List.set_cons_succ]; first | done | rfl) (hJ1_7 gb279 _ ⟨hB2, Bz.new hB.size hg hbox⟩)
                             ·refine box_step ?hg (N := 9) ?hd (cs := #[.int .i64 0, .int .i64 0, .string (⟨#[]⟩ : ByteArray)]) (t := 25) ?hr ?_; (case hd => rfl); (case hg => rfl); (case hr => first | (go_simp; done) | (go_simp; rfl))
                              intro gb280 hg w18 hbox hb
                              have hB2 := below_step hB hb
                              refine hK.out _ _ (HS_.out _ hB2) (fun _ => ?_)
                              exact norm_ (by show Act.put _ (some 9) _ = _; simp only [putAll, Act.put, List.setIfInBounds_toArray, List.set_cons_zero, List.set_cons_succ]; first | done | rfl) (hJ1_8 gb280 _ ⟨hB2, Bz.new hB.size hg hbox⟩)
                           ·skip
                            rintro ⟨gb279, gb280⟩ w18 ⟨hB, z0, z1, d0_1⟩
                            refine norm_ (a' := ?_) ?_ ?_
                            rotate_left
                            ·simp only [putAll, Act.put, List.setIfInBounds_toArray, List.set_cons_zero, List.set_cons_succ]
                             rfl
                            refine two_ (i := 1) (j := 6) (Ni := some 24) (Nj := some 7) #[true, true, true, false, true, false, false, true, true, false, false, false] #[true, false, true, false, true, false, true, true, true, false, false, false] rfl rfl rfl rfl (two_of HT_.out (by kernel_rfl)) (by decide) (by decide) (fun K hK => ?_) (fun K hK => ?_)
                            ·refine goes_ Tryz.func18 (by kernel_rfl) rfl #[.agg #[.int .i64 a0_0, .int .i64 a0_1, .string a0_2]] (by rfl) rfl rfl (by simp only [List.map_toArray, List.map_cons, List.map_nil]; first | done | rfl) ?_
                             with_reducible refine (tacticianref01_Tame.calls k a0_0 a0_1 a0_2 t269 t270 t271 _ A4.out).mono ?_
                             rintro e w19 ⟨rfl, hb⟩
                             refine ⟨_, rfl, ?_⟩
                             have hB2 := below_step hB hb
                             refine hK.out _ _ (HS_.out _ hB2) (fun _ => ?_)
                             exact norm_ (by show Act.put _ (some 24) _ = _; simp only [putAll, Act.put, List.setIfInBounds_toArray, List.set_cons_zero, List.set_cons_succ]; first | done | rfl) (hJ1_7_8 (gb279, gb280) _ ⟨hB2, z0.on hb, z1.on hb, d0_1⟩)
                            ·refine box_step ?hg (N := 7) ?hd (cs := #[.int .i64 0, .int .i64 0, .string (⟨#[]⟩ : ByteArray)]) (t := 25) ?hr ?_; (case hd => rfl); (case hg => rfl); (case hr => first | (go_simp; done) | (go_simp; rfl))
                             intro gb278 hg w19 hbox hb
                             have hB2 := below_step hB hb
                             refine hK.out _ _ (HS_.out _ hB2) (fun _ => ?_)
                             exact norm_ (by show Act.put _ (some 7) _ = _; simp only [putAll, Act.put, List.setIfInBounds_toArray, List.set_cons_zero, List.set_cons_succ]; first | done | rfl) (hJ6_7_8 (gb278, gb279, gb280) _ ⟨hB2, Bz.new hB.size hg hbox, z0.on hb, z1.on hb, (z0.ne hg).symm, (z1.ne hg).symm, d0_1⟩)
                          ·skip
                           rintro ⟨gb278, gb280⟩ w18 ⟨hB, z0, z1, d0_1⟩
                           refine norm_ (a' := ?_) ?_ ?_
                           rotate_left
                           ·simp only [putAll, Act.put, List.setIfInBounds_toArray, List.set_cons_zero, List.set_cons_succ]
                            rfl
                           refine two_ (i := 1) (j := 7) (Ni := some 24) (Nj := some 8) #[true, true, true, false, true, false, true, false, true, false, false, false] #[true, false, true, false, true, false, true, true, true, false, false, false] rfl rfl rfl rfl (two_of HT_.out (by kernel_rfl)) (by decide) (by decide) (fun K hK => ?_) (fun K hK => ?_)
                           ·refine goes_ Tryz.func18 (by kernel_rfl) rfl #[.agg #[.int .i64 a0_0, .int .i64 a0_1, .string a0_2]] (by rfl) rfl rfl (by simp only [List.map_toArray, List.map_cons, List.map_nil]; first | done | rfl) ?_
                            with_reducible refine (tacticianref01_Tame.calls k a0_0 a0_1 a0_2 t269 t270 t271 _ A4.out).mono ?_
                            rintro e w19 ⟨rfl, hb⟩
                            refine ⟨_, rfl, ?_⟩
                            have hB2 := below_step hB hb
                            refine hK.out _ _ (HS_.out _ hB2) (fun _ => ?_)
                            exact norm_ (by show Act.put _ (some 24) _ = _; simp only [putAll, Act.put, List.setIfInBounds_toArray, List.set_cons_zero, List.set_cons_succ]; first | done | rfl) (hJ1_6_8 (gb278, gb280) _ ⟨hB2, z0.on hb, z1.on hb, d0_1⟩)
                           ·refine box_step ?hg (N := 8) ?hd (cs := #[.int .i64 0, .int .i64 0, .string (⟨#[]⟩ : ByteArray)]) (t := 25) ?hr ?_; (case hd => rfl); (case hg => rfl); (case hr => first | (go_simp; done) | (go_simp; rfl))
                            intro gb279 hg w19 hbox hb
                            have hB2 := below_step hB hb
                            refine hK.out _ _ (HS_.out _ hB2) (fun _ => ?_)
                            exact norm_ (by show Act.put _ (some 8) _ = _; simp only [putAll, Act.put, List.setIfInBounds_toArray, List.set_cons_zero, List.set_cons_succ]; first | done | rfl) (hJ6_7_8 (gb278, gb279, gb280) _ ⟨hB2, z0.on hb, Bz.new hB.size hg hbox, z1.on hb, z0.ne hg, d0_1, (z1.ne hg).symm⟩)
                         ·skip
                          rintro ⟨gb278, gb279⟩ w18 ⟨hB, z0, z1, d0_1⟩
                          refine norm_ (a' := ?_) ?_ ?_
                          rotate_left
                          ·simp only [putAll, Act.put, List.setIfInBounds_toArray, List.set_cons_zero, List.set_cons_succ]
                           rfl
                          refine two_ (i := 1) (j := 8) (Ni := some 24) (Nj := some 9) #[true, true, true, false, true, false, true, true, false, false, false, false] #[true, false, true, false, true, false, true, true, true, false, false, false] rfl rfl rfl rfl (two_of HT_.out (by kernel_rfl)) (by decide) (by decide) (fun K hK => ?_) (fun K hK => ?_)
                          ·refine goes_ Tryz.func18 (by kernel_rfl) rfl #[.agg #[.int .i64 a0_0, .int .i64 a0_1, .string a0_2]] (by rfl) rfl rfl (by simp only [List.map_toArray, List.map_cons, List.map_nil]; first | done | rfl) ?_
                           with_reducible refine (tacticianref01_Tame.calls k a0_0 a0_1 a0_2 t269 t270 t271 _ A4.out).mono ?_
                           rintro e w19 ⟨rfl, hb⟩
                           refine ⟨_, rfl, ?_⟩
                           have hB2 := below_step hB hb
                           refine hK.out _ _ (HS_.out _ hB2) (fun _ => ?_)
                           exact norm_ (by show Act.put _ (some 24) _ = _; simp only [putAll, Act.put, List.setIfInBounds_toArray, List.set_cons_zero, List.set_cons_succ]; first | done | rfl) (hJ1_6_7 (gb278, gb279) _ ⟨hB2, z0.on hb, z1.on hb, d0_1⟩)
                          ·refine box_step ?hg (N := 9) ?hd (cs := #[.int .i64 0, .int .i64 0, .string (⟨#[]⟩ : ByteArray)]) (t := 25) ?hr ?_; (case hd => rfl); (case hg => rfl); (case hr => first | (go_simp; done) | (go_simp; rfl))
                           intro gb280 hg w19 hbox hb
                           have hB2 := below_step hB hb
                           refine hK.out _ _ (HS_.out _ hB2) (fun _ => ?_)
                           exact norm_ (by show Act.put _ (some 9) _ = _; simp only [putAll, Act.put, List.setIfInBounds_toArray, List.set_cons_zero, List.set_cons_succ]; first | done | rfl) (hJ6_7_8 (gb278, gb279, gb280) _ ⟨hB2, z0.on hb, z1.on hb, Bz.new hB.size hg hbox, d0_1, z0.ne hg, z1.ne hg⟩)
                        ·skip
                         rintro gb280 w18 ⟨hB, z0⟩
                         refine norm_ (a' := ?_) ?_ ?_
                         rotate_left
                         ·simp only [putAll, Act.put, List.setIfInBounds_toArray, List.set_cons_zero, List.set_cons_succ]
                          rfl
                         refine three_ (i := 3) (j := 6) (k := 7) (Ni := some 26) (Nj := some 7) (Nk := some 8) #[true, true, true, true, true, false, false, false, true, false, false, false] #[true, true, true, false, true, false, true, false, true, false, false, false] #[true, true, true, false, true, false, false, true, true, false, false, false] rfl rfl rfl rfl rfl rfl (three_of HT_.out (by kernel_rfl)) (by decide) (by decide) (by decide) (fun K hK => ?_) (fun K hK => ?_) (fun K hK => ?_)
                         ·refine goes_ Tryz.func18 (by kernel_rfl) rfl #[.agg #[.int .i64 a1_0, .int .i64 a1_1, .string a1_2]] (by rfl) rfl rfl (by simp only [List.map_toArray, List.map_cons, List.map_nil]; first | done | rfl) ?_
                          with_reducible refine (tacticianref01_Tame.calls k a1_0 a1_1 a1_2 t272 t273 t274 _ A5.out).mono ?_
                          rintro e w19 ⟨rfl, hb⟩
                          refine ⟨_, rfl, ?_⟩
                          have hB2 := below_step hB hb
                          refine hK.out _ _ (HS_.out _ hB2) (fun _ => ?_)
                          exact norm_ (by show Act.put _ (some 26) _ = _; simp only [putAll, Act.put, List.setIfInBounds_toArray, List.set_cons_zero, List.set_cons_succ]; first | done | rfl) (hJ1_3_8 gb280 _ ⟨hB2, z0.on hb⟩)
                         ·refine box_step ?hg (N := 7) ?hd (cs := #[.int .i64 0, .int .i64 0, .string (⟨#[]⟩ : ByteArray)]) (t := 25) ?hr ?_; (case hd => rfl); (case hg => rfl); (case hr => first | (go_simp; done) | (go_simp; rfl))
                          intro gb278 hg w19 hbox hb
                          have hB2 := below_step hB hb
                          refine hK.out _ _ (HS_.out _ hB2) (fun _ => ?_)
                          exact norm_ (by show Act.put _ (some 7) _ = _; simp only [putAll, Act.put, List.setIfInBounds_toArray, List.set_cons_zero, List.set_cons_succ]; first | done | rfl) (hJ1_6_8 (gb278, gb280) _ ⟨hB2, Bz.new hB.size hg hbox, z0.on hb, (z0.ne hg).symm⟩)
                         ·refine box_step ?hg (N := 8) ?hd (cs := #[.int .i64 0, .int .i64 0, .string (⟨#[]⟩ : ByteArray)]) (t := 25) ?hr ?_; (case hd => rfl); (case hg => rfl); (case hr => first | (go_simp; done) | (go_simp; rfl))
                          intro gb279 hg w19 hbox hb
                          have hB2 := below_step hB hb
                          refine hK.out _ _ (HS_.out _ hB2) (fun _ => ?_)
                          exact norm_ (by show Act.put _ (some 8) _ = _; simp only [putAll, Act.put, List.setIfInBounds_toArray, List.set_cons_zero, List.set_cons_succ]; first | done | rfl) (hJ1_7_8 (gb279, gb280) _ ⟨hB2, Bz.new hB.size hg hbox, z0.on hb, (z0.ne hg).symm⟩)
                       ·skip
                        rintro gb279 w18 ⟨hB, z0⟩
                        refine norm_ (a' := ?_) ?_ ?_
                        rotate_left
                        ·simp only [putAll, Act.put, List.setIfInBounds_toArray, List.set_cons_zero, List.set_cons_succ]
                         rfl
                        refine three_ (i := 3) (j := 6) (k := 8) (Ni := some 26) (Nj := some 7) (Nk := some 9) #[true, true, true, true, true, false, false, true, false, false, false, false] #[true, true, true, false, true, false, true, true, false, false, false, false] #[true, true, true, false, true, false, false, true, true, false, false, false] rfl rfl rfl rfl rfl rfl (three_of HT_.out (by kernel_rfl)) (by decide) (by decide) (by decide) (fun K hK => ?_) (fun K hK => ?_) (fun K hK => ?_)
                        ·refine goes_ Tryz.func18 (by kernel_rfl) rfl #[.agg #[.int .i64 a1_0, .int .i64 a1_1, .string a1_2]] (by rfl) rfl rfl (by simp only [List.map_toArray, List.map_cons, List.map_nil]; first | done | rfl) ?_
                         with_reducible refine (tacticianref01_Tame.calls k a1_0 a1_1 a1_2 t272 t273 t274 _ A5.out).mono ?_
                         rintro e w19 ⟨rfl, hb⟩
                         refine ⟨_, rfl, ?_⟩
                         have hB2 := below_step hB hb
                         refine hK.out _ _ (HS_.out _ hB2) (fun _ => ?_)
                         exact norm_ (by show Act.put _ (some 26) _ = _; simp only [putAll, Act.put, List.setIfInBounds_toArray, List.set_cons_zero, List.set_cons_succ]; first | done | rfl) (hJ1_3_7 gb279 _ ⟨hB2, z0.on hb⟩)
                        ·refine box_step ?hg (N := 7) ?hd (cs := #[.int .i64 0, .int .i64 0, .string (⟨#[]⟩ : ByteArray)]) (t := 25) ?hr ?_; (case hd => rfl); (case hg => rfl); (case hr => first | (go_simp; done) | (go_simp; rfl))
                         intro gb278 hg w19 hbox hb
                         have hB2 := below_step hB hb
                         refine hK.out _ _ (HS_.out _ hB2) (fun _ => ?_)
                         exact norm_ (by show Act.put _ (some 7) _ = _; simp only [putAll, Act.put, List.setIfInBounds_toArray, List.set_cons_zero, List.set_cons_succ]; first | done | rfl) (hJ1_6_7 (gb278, gb279) _ ⟨hB2, Bz.new hB.size hg hbox, z0.on hb, (z0.ne hg).symm⟩)
                        ·refine box_step ?hg (N := 9) ?hd (cs := #[.int .i64 0, .int .i64 0, .string (⟨#[]⟩ : ByteArray)]) (t := 25) ?hr ?_; (case hd => rfl); (case hg => rfl); (case hr => first | (go_simp; done) | (go_simp; rfl))
                         intro gb280 hg w19 hbox hb
                         have hB2 := below_step hB hb
                         refine hK.out _ _ (HS_.out _ hB2) (fun _ => ?_)
                         exact norm_ (by show Act.put _ (some 9) _ = _; simp only [putAll, Act.put, List.setIfInBounds_toArray, List.set_cons_zero, List.set_cons_succ]; first | done | rfl) (hJ1_7_8 (gb279, gb280) _ ⟨hB2, z0.on hb, Bz.new hB.size hg hbox, z0.ne hg⟩)
                      ·skip
                       rintro gb278 w18 ⟨hB, z0⟩
                       refine norm_ (a' := ?_) ?_ ?_
                       rotate_left
                       ·simp only [putAll, Act.put, List.setIfInBounds_toArray, List.set_cons_zero, List.set_cons_succ]
                        rfl
                       refine three_ (i := 3) (j := 7) (k := 8) (Ni := some 26) (Nj := some 8) (Nk := some 9) #[true, true, true, true, true, false, true, false, false, false, false, false] #[true, true, true, false, true, false, true, true, false, false, false, false] #[true, true, true, false, true, false, true, false, true, false, false, false] rfl rfl rfl rfl rfl rfl (three_of HT_.out (by kernel_rfl)) (by decide) (by decide) (by decide) (fun K hK => ?_) (fun K hK => ?_) (fun K hK => ?_)
                       ·refine goes_ Tryz.func18 (by kernel_rfl) rfl #[.agg #[.int .i64 a1_0, .int .i64 a1_1, .string a1_2]] (by rfl) rfl rfl (by simp only [List.map_toArray, List.map_cons, List.map_nil]; first | done | rfl) ?_
                        with_reducible refine (tacticianref01_Tame.calls k a1_0 a1_1 a1_2 t272 t273 t274 _ A5.out).mono ?_
                        rintro e w19 ⟨rfl, hb⟩
                        refine ⟨_, rfl, ?_⟩
                        have hB2 := below_step hB hb
                        refine hK.out _ _ (HS_.out _ hB2) (fun _ => ?_)
                        exact norm_ (by show Act.put _ (some 26) _ = _; simp only [putAll, Act.put, List.setIfInBounds_toArray, List.set_cons_zero, List.set_cons_succ]; first | done | rfl) (hJ1_3_6 gb278 _ ⟨hB2, z0.on hb⟩)
                       ·refine box_step ?hg (N := 8) ?hd (cs := #[.int .i64 0, .int .i64 0, .string (⟨#[]⟩ : ByteArray)]) (t := 25) ?hr ?_; (case hd => rfl); (case hg => rfl); (case hr => first | (go_simp; done) | (go_simp; rfl))
                        intro gb279 hg w19 hbox hb
                        have hB2 := below_step hB hb
                        refine hK.out _ _ (HS_.out _ hB2) (fun _ => ?_)
                        exact norm_ (by show Act.put _ (some 8) _ = _; simp only [putAll, Act.put, List.setIfInBounds_toArray, List.set_cons_zero, List.set_cons_succ]; first | done | rfl) (hJ1_6_7 (gb278, gb279) _ ⟨hB2, z0.on hb, Bz.new hB.size hg hbox, z0.ne hg⟩)
                       ·refine box_step ?hg (N := 9) ?hd (cs := #[.int .i64 0, .int .i64 0, .string (⟨#[]⟩ : ByteArray)]) (t := 25) ?hr ?_; (case hd => rfl); (case hg => rfl); (case hr => first | (go_simp; done) | (go_simp; rfl))
                        intro gb280 hg w19 hbox hb
                        have hB2 := below_step hB hb
                        refine hK.out _ _ (HS_.out _ hB2) (fun _ => ?_)
                        exact norm_ (by show Act.put _ (some 9) _ = _; simp only [putAll, Act.put, List.setIfInBounds_toArray, List.set_cons_zero, List.set_cons_succ]; first | done | rfl) (hJ1_6_8 (gb278, gb280) _ ⟨hB2, z0.on hb, Bz.new hB.size hg hbox, z0.ne hg⟩)
                     ·skip
                      rintro _ w18 hB
                      refine norm_ (a' := ?_) ?_ ?_
                      rotate_left
                      ·simp only [putAll, Act.put, List.setIfInBounds_toArray, List.set_cons_zero, List.set_cons_succ]
                       rfl
                      refine four_ (i := 5) (j := 6) (k := 7) (m := 8) (Ni := some 28) (Nj := some 7) (Nk := some 8) (Nm := some 9) #[true, true, true, true, true, true, false, false, false, false, false, false] #[true, true, true, true, true, false, true, false, false, false, false, false] #[true, true, true, true, true, false, false, true, false, false, false, false] #[true, true, true, true, true, false, false, false, true, false, false, false] rfl rfl rfl rfl rfl rfl rfl rfl (four_of HT_.out (by kernel_rfl)) (by decide) (by decide) (by decide) (by decide) (fun K hK => ?_) (fun K hK => ?_) (fun K hK => ?_) (fun K hK => ?_)
                      ·refine goes_ Tryz.func18 (by kernel_rfl) rfl #[.agg #[.int .i64 a2_0, .int .i64 a2_1, .string a2_2]] (by rfl) rfl rfl (by simp only [List.map_toArray, List.map_cons, List.map_nil]; first | done | rfl) ?_
                       with_reducible refine (tacticianref01_Tame.calls k a2_0 a2_1 a2_2 t275 t276 t277 _ A6.out).mono ?_
                       rintro e w19 ⟨rfl, hb⟩
                       refine ⟨_, rfl, ?_⟩
                       have hB2 := below_step hB hb
                       refine hK.out _ _ (HS_.out _ hB2) (fun _ => ?_)
                       exact norm_ (by show Act.put _ (some 28) _ = _; simp only [putAll, Act.put, List.setIfInBounds_toArray, List.set_cons_zero, List.set_cons_succ]; first | done | rfl) (hJ1_3_5 () _ hB2)
                      ·refine box_step ?hg (N := 7) ?hd (cs := #[.int .i64 0, .int .i64 0, .string (⟨#[]⟩ : ByteArray)]) (t := 25) ?hr ?_; (case hd => rfl); (case hg => rfl); (case hr => first | (go_simp; done) | (go_simp; rfl))
                       intro gb278 hg w19 hbox hb
                       have hB2 := below_step hB hb
                       refine hK.out _ _ (HS_.out _ hB2) (fun _ => ?_)
                       exact norm_ (by show Act.put _ (some 7) _ = _; simp only [putAll, Act.put, List.setIfInBounds_toArray, List.set_cons_zero, List.set_cons_succ]; first | done | rfl) (hJ1_3_6 gb278 _ ⟨hB2, Bz.new hB.size hg hbox⟩)
                      ·refine box_step ?hg (N := 8) ?hd (cs := #[.int .i64 0, .int .i64 0, .string (⟨#[]⟩ : ByteArray)]) (t := 25) ?hr ?_; (case hd => rfl); (case hg => rfl); (case hr => first | (go_simp; done) | (go_simp; rfl))
                       intro gb279 hg w19 hbox hb
                       have hB2 := below_step hB hb
                       refine hK.out _ _ (HS_.out _ hB2) (fun _ => ?_)
                       exact norm_ (by show Act.put _ (some 8) _ = _; simp only [putAll, Act.put, List.setIfInBounds_toArray, List.set_cons_zero, List.set_cons_succ]; first | done | rfl) (hJ1_3_7 gb279 _ ⟨hB2, Bz.new hB.size hg hbox⟩)
                      ·refine box_step ?hg (N := 9) ?hd (cs := #[.int .i64 0, .int .i64 0, .string (⟨#[]⟩ : ByteArray)]) (t := 25) ?hr ?_; (case hd => rfl); (case hg => rfl); (case hr => first | (go_simp; done) | (go_simp; rfl))
                       intro gb280 hg w19 hbox hb
                       have hB2 := below_step hB hb
                       refine hK.out _ _ (HS_.out _ hB2) (fun _ => ?_)
                       exact norm_ (by show Act.put _ (some 9) _ = _; simp only [putAll, Act.put, List.setIfInBounds_toArray, List.set_cons_zero, List.set_cons_succ]; first | done | rfl) (hJ1_3_8 gb280 _ ⟨hB2, Bz.new hB.size hg hbox⟩)
                    ·skip
                     rintro ⟨gb278, gb279, gb280⟩ w19 ⟨hB, z0, z1, z2, d0_1, d0_2, d1_2⟩
                     refine norm_ (a' := ?_) ?_ ?_
                     rotate_left
                     ·simp only [putAll, Act.put, List.setIfInBounds_toArray, List.set_cons_zero, List.set_cons_succ]
                      rfl
                     refine one_ (i := 1) (N := some 24) #[true, true, true, false, true, false, true, true, true, false, false, false] rfl rfl (one_of HT_.out (by kernel_rfl)) (by decide) (fun K hK => ?_)
                     refine goes_ Tryz.func18 (by kernel_rfl) rfl #[.agg #[.int .i64 a0_0, .int .i64 a0_1, .string a0_2]] (by rfl) rfl rfl (by simp only [List.map_toArray, List.map_cons, List.map_nil]; first | done | rfl) ?_
                     with_reducible refine (tacticianref01_Tame.calls k a0_0 a0_1 a0_2 t269 t270 t271 _ A4.out).mono ?_
                     rintro e w20 ⟨rfl, hb⟩
                     refine ⟨_, rfl, ?_⟩
                     have hB2 := below_step hB hb
                     refine hK.out _ _ (HS_.out _ hB2) (fun _ => ?_)
                     exact norm_ (by show Act.put _ (some 24) _ = _; simp only [putAll, Act.put, List.setIfInBounds_toArray, List.set_cons_zero, List.set_cons_succ]; first | done | rfl) (hJ1_6_7_8 (gb278, gb279, gb280) _ ⟨hB2, z0.on hb, z1.on hb, z2.on hb, d0_1, d0_2, d1_2⟩)
                   ·skip
                    rintro ⟨gb279, gb280⟩ w19 ⟨hB, z0, z1, d0_1⟩
                    refine norm_ (a' := ?_) ?_ ?_
                    rotate_left
                    ·simp only [putAll, Act.put, List.setIfInBounds_toArray, List.set_cons_zero, List.set_cons_succ]
                     rfl
                    refine two_ (i := 3) (j := 6) (Ni := some 26) (Nj := some 7) #[true, true, true, true, true, false, false, true, true, false, false, false] #[true, true, true, false, true, false, true, true, true, false, false, false] rfl rfl rfl rfl (two_of HT_.out (by kernel_rfl)) (by decide) (by decide) (fun K hK => ?_) (fun K hK => ?_)
                    ·refine goes_ Tryz.func18 (by kernel_rfl) rfl #[.agg #[.int .i64 a1_0, .int .i64 a1_1, .string a1_2]] (by rfl) rfl rfl (by simp only [List.map_toArray, List.map_cons, List.map_nil]; first | done | rfl) ?_
                     with_reducible refine (tacticianref01_Tame.calls k a1_0 a1_1 a1_2 t272 t273 t274 _ A5.out).mono ?_
                     rintro e w20 ⟨rfl, hb⟩
                     refine ⟨_, rfl, ?_⟩
                     have hB2 := below_step hB hb
                     refine hK.out _ _ (HS_.out _ hB2) (fun _ => ?_)
                     exact norm_ (by show Act.put _ (some 26) _ = _; simp only [putAll, Act.put, List.setIfInBounds_toArray, List.set_cons_zero, List.set_cons_succ]; first | done | rfl) (hJ1_3_7_8 (gb279, gb280) _ ⟨hB2, z0.on hb, z1.on hb, d0_1⟩)
                    ·refine box_step ?hg (N := 7) ?hd (cs := #[.int .i64 0, .int .i64 0, .string (⟨#[]⟩ : ByteArray)]) (t := 25) ?hr ?_; (case hd => rfl); (case hg => rfl); (case hr => first | (go_simp; done) | (go_simp; rfl))
                     intro gb278 hg w20 hbox hb
                     have hB2 := below_step hB hb
                     refine hK.out _ _ (HS_.out _ hB2) (fun _ => ?_)
                     exact norm_ (by show Act.put _ (some 7) _ = _; simp only [putAll, Act.put, List.setIfInBounds_toArray, List.set_cons_zero, List.set_cons_succ]; first | done | rfl) (hJ1_6_7_8 (gb278, gb279, gb280) _ ⟨hB2, Bz.new hB.size hg hbox, z0.on hb, z1.on hb, (z0.ne hg).symm, (z1.ne hg).symm, d0_1⟩)
                  ·skip
                   rintro ⟨gb278, gb280⟩ w19 ⟨hB, z0, z1, d0_1⟩
                   refine norm_ (a' := ?_) ?_ ?_
                   rotate_left
                   ·simp only [putAll, Act.put, List.setIfInBounds_toArray, List.set_cons_zero, List.set_cons_succ]
                    rfl
                   refine two_ (i := 3) (j := 7) (Ni := some 26) (Nj := some 8) #[true, true, true, true, true, false, true, false, true, false, false, false] #[true, true, true, false, true, false, true, true, true, false, false, false] rfl rfl rfl rfl (two_of HT_.out (by kernel_rfl)) (by decide) (by decide) (fun K hK => ?_) (fun K hK => ?_)
                   ·refine goes_ Tryz.func18 (by kernel_rfl) rfl #[.agg #[.int .i64 a1_0, .int .i64 a1_1, .string a1_2]] (by rfl) rfl rfl (by simp only [List.map_toArray, List.map_cons, List.map_nil]; first | done | rfl) ?_
                    with_reducible refine (tacticianref01_Tame.calls k a1_0 a1_1 a1_2 t272 t273 t274 _ A5.out).mono ?_
                    rintro e w20 ⟨rfl, hb⟩
                    refine ⟨_, rfl, ?_⟩
                    have hB2 := below_step hB hb
                    refine hK.out _ _ (HS_.out _ hB2) (fun _ => ?_)
                    exact norm_ (by show Act.put _ (some 26) _ = _; simp only [putAll, Act.put, List.setIfInBounds_toArray, List.set_cons_zero, List.set_cons_succ]; first | done | rfl) (hJ1_3_6_8 (gb278, gb280) _ ⟨hB2, z0.on hb, z1.on hb, d0_1⟩)
                   ·refine box_step ?hg (N := 8) ?hd (cs := #[.int .i64 0, .int .i64 0, .string (⟨#[]⟩ : ByteArray)]) (t := 25) ?hr ?_; (case hd => rfl); (case hg => rfl); (case hr => first | (go_simp; done) | (go_simp; rfl))
                    intro gb279 hg w20 hbox hb
                    have hB2 := below_step hB hb
                    refine hK.out _ _ (HS_.out _ hB2) (fun _ => ?_)
                    exact norm_ (by show Act.put _ (some 8) _ = _; simp only [putAll, Act.put, List.setIfInBounds_toArray, List.set_cons_zero, List.set_cons_succ]; first | done | rfl) (hJ1_6_7_8 (gb278, gb279, gb280) _ ⟨hB2, z0.on hb, Bz.new hB.size hg hbox, z1.on hb, z0.ne hg, d0_1, (z1.ne hg).symm⟩)
                 ·skip
                  rintro ⟨gb278, gb279⟩ w19 ⟨hB, z0, z1, d0_1⟩
                  refine norm_ (a' := ?_) ?_ ?_
                  rotate_left
                  ·simp only [putAll, Act.put, List.setIfInBounds_toArray, List.set_cons_zero, List.set_cons_succ]
                   rfl
                  refine two_ (i := 3) (j := 8) (Ni := some 26) (Nj := some 9) #[true, true, true, true, true, false, true, true, false, false, false, false] #[true, true, true, false, true, false, true, true, true, false, false, false] rfl rfl rfl rfl (two_of HT_.out (by kernel_rfl)) (by decide) (by decide) (fun K hK => ?_) (fun K hK => ?_)
                  ·refine goes_ Tryz.func18 (by kernel_rfl) rfl #[.agg #[.int .i64 a1_0, .int .i64 a1_1, .string a1_2]] (by rfl) rfl rfl (by simp only [List.map_toArray, List.map_cons, List.map_nil]; first | done | rfl) ?_
                   with_reducible refine (tacticianref01_Tame.calls k a1_0 a1_1 a1_2 t272 t273 t274 _ A5.out).mono ?_
                   rintro e w20 ⟨rfl, hb⟩
                   refine ⟨_, rfl, ?_⟩
                   have hB2 := below_step hB hb
                   refine hK.out _ _ (HS_.out _ hB2) (fun _ => ?_)
                   exact norm_ (by show Act.put _ (some 26) _ = _; simp only [putAll, Act.put, List.setIfInBounds_toArray, List.set_cons_zero, List.set_cons_succ]; first | done | rfl) (hJ1_3_6_7 (gb278, gb279) _ ⟨hB2, z0.on hb, z1.on hb, d0_1⟩)
                  ·refine box_step ?hg (N := 9) ?hd (cs := #[.int .i64 0, .int .i64 0, .string (⟨#[]⟩ : ByteArray)]) (t := 25) ?hr ?_; (case hd => rfl); (case hg => rfl); (case hr => first | (go_simp; done) | (go_simp; rfl))
                   intro gb280 hg w20 hbox hb
                   have hB2 := below_step hB hb
                   refine hK.out _ _ (HS_.out _ hB2) (fun _ => ?_)
                   exact norm_ (by show Act.put _ (some 9) _ = _; simp only [putAll, Act.put, List.setIfInBounds_toArray, List.set_cons_zero, List.set_cons_succ]; first | done | rfl) (hJ1_6_7_8 (gb278, gb279, gb280) _ ⟨hB2, z0.on hb, z1.on hb, Bz.new hB.size hg hbox, d0_1, z0.ne hg, z1.ne hg⟩)
                ·skip
                 rintro gb280 w19 ⟨hB, z0⟩
                 refine norm_ (a' := ?_) ?_ ?_
                 rotate_left
                 ·simp only [putAll, Act.put, List.setIfInBounds_toArray, List.set_cons_zero, List.set_cons_succ]
                  rfl
                 refine three_ (i := 5) (j := 6) (k := 7) (Ni := some 28) (Nj := some 7) (Nk := some 8) #[true, true, true, true, true, true, false, false, true, false, false, false] #[true, true, true, true, true, false, true, false, true, false, false, false] #[true, true, true, true, true, false, false, true, true, false, false, false] rfl rfl rfl rfl rfl rfl (three_of HT_.out (by kernel_rfl)) (by decide) (by decide) (by decide) (fun K hK => ?_) (fun K hK => ?_) (fun K hK => ?_)
                 ·refine goes_ Tryz.func18 (by kernel_rfl) rfl #[.agg #[.int .i64 a2_0, .int .i64 a2_1, .string a2_2]] (by rfl) rfl rfl (by simp only [List.map_toArray, List.map_cons, List.map_nil]; first | done | rfl) ?_
                  with_reducible refine (tacticianref01_Tame.calls k a2_0 a2_1 a2_2 t275 t276 t277 _ A6.out).mono ?_
                  rintro e w20 ⟨rfl, hb⟩
                  refine ⟨_, rfl, ?_⟩
                  have hB2 := below_step hB hb
                  refine hK.out _ _ (HS_.out _ hB2) (fun _ => ?_)
                  exact norm_ (by show Act.put _ (some 28) _ = _; simp only [putAll, Act.put, List.setIfInBounds_toArray, List.set_cons_zero, List.set_cons_succ]; first | done | rfl) (hJ1_3_5_8 gb280 _ ⟨hB2, z0.on hb⟩)
                 ·refine box_step ?hg (N := 7) ?hd (cs := #[.int .i64 0, .int .i64 0, .string (⟨#[]⟩ : ByteArray)]) (t := 25) ?hr ?_; (case hd => rfl); (case hg => rfl); (case hr => first | (go_simp; done) | (go_simp; rfl))
                  intro gb278 hg w20 hbox hb
                  have hB2 := below_step hB hb
                  refine hK.out _ _ (HS_.out _ hB2) (fun _ => ?_)
                  exact norm_ (by show Act.put _ (some 7) _ = _; simp only [putAll, Act.put, List.setIfInBounds_toArray, List.set_cons_zero, List.set_cons_succ]; first | done | rfl) (hJ1_3_6_8 (gb278, gb280) _ ⟨hB2, Bz.new hB.size hg hbox, z0.on hb, (z0.ne hg).symm⟩)
                 ·refine box_step ?hg (N := 8) ?hd (cs := #[.int .i64 0, .int .i64 0, .string (⟨#[]⟩ : ByteArray)]) (t := 25) ?hr ?_; (case hd => rfl); (case hg => rfl); (case hr => first | (go_simp; done) | (go_simp; rfl))
                  intro gb279 hg w20 hbox hb
                  have hB2 := below_step hB hb
                  refine hK.out _ _ (HS_.out _ hB2) (fun _ => ?_)
                  exact norm_ (by show Act.put _ (some 8) _ = _; simp only [putAll, Act.put, List.setIfInBounds_toArray, List.set_cons_zero, List.set_cons_succ]; first | done | rfl) (hJ1_3_7_8 (gb279, gb280) _ ⟨hB2, Bz.new hB.size hg hbox, z0.on hb, (z0.ne hg).symm⟩)
               ·skip
                rintro gb279 w19 ⟨hB, z0⟩
                refine norm_ (a' := ?_) ?_ ?_
                rotate_left
                ·simp only [putAll, Act.put, List.setIfInBounds_toArray, List.set_cons_zero, List.set_cons_succ]
                 rfl
                refine three_ (i := 5) (j := 6) (k := 8) (Ni := some 28) (Nj := some 7) (Nk := some 9) #[true, true, true, true, true, true, false, true, false, false, false, false] #[true, true, true, true, true, false, true, true, false, false, false, false] #[true, true, true, true, true, false, false, true, true, false, false, false] rfl rfl rfl rfl rfl rfl (three_of HT_.out (by kernel_rfl)) (by decide) (by decide) (by decide) (fun K hK => ?_) (fun K hK => ?_) (fun K hK => ?_)
                ·refine goes_ Tryz.func18 (by kernel_rfl) rfl #[.agg #[.int .i64 a2_0, .int .i64 a2_1, .string a2_2]] (by rfl) rfl rfl (by simp only [List.map_toArray, List.map_cons, List.map_nil]; first | done | rfl) ?_
                 with_reducible refine (tacticianref01_Tame.calls k a2_0 a2_1 a2_2 t275 t276 t277 _ A6.out).mono ?_
                 rintro e w20 ⟨rfl, hb⟩
                 refine ⟨_, rfl, ?_⟩
                 have hB2 := below_step hB hb
                 refine hK.out _ _ (HS_.out _ hB2) (fun _ => ?_)
                 exact norm_ (by show Act.put _ (some 28) _ = _; simp only [putAll, Act.put, List.setIfInBounds_toArray, List.set_cons_zero, List.set_cons_succ]; first | done | rfl) (hJ1_3_5_7 gb279 _ ⟨hB2, z0.on hb⟩)
                ·refine box_step ?hg (N := 7) ?hd (cs := #[.int .i64 0, .int .i64 0, .string (⟨#[]⟩ : ByteArray)]) (t := 25) ?hr ?_; (case hd => rfl); (case hg => rfl); (case hr => first | (go_simp; done) | (go_simp; rfl))
                 intro gb278 hg w20 hbox hb
                 have hB2 := below_step hB hb
                 refine hK.out _ _ (HS_.out _ hB2) (fun _ => ?_)
                 exact norm_ (by show Act.put _ (some 7) _ = _; simp only [putAll, Act.put, List.setIfInBounds_toArray, List.set_cons_zero, List.set_cons_succ]; first | done | rfl) (hJ1_3_6_7 (gb278, gb279) _ ⟨hB2, Bz.new hB.size hg hbox, z0.on hb, (z0.ne hg).symm⟩)
                ·refine box_step ?hg (N := 9) ?hd (cs := #[.int .i64 0, .int .i64 0, .string (⟨#[]⟩ : ByteArray)]) (t := 25) ?hr ?_; (case hd => rfl); (case hg => rfl); (case hr => first | (go_simp; done) | (go_simp; rfl))
                 intro gb280 hg w20 hbox hb
                 have hB2 := below_step hB hb
                 refine hK.out _ _ (HS_.out _ hB2) (fun _ => ?_)
                 exact norm_ (by show Act.put _ (some 9) _ = _; simp only [putAll, Act.put, List.setIfInBounds_toArray, List.set_cons_zero, List.set_cons_succ]; first | done | rfl) (hJ1_3_7_8 (gb279, gb280) _ ⟨hB2, z0.on hb, Bz.new hB.size hg hbox, z0.ne hg⟩)
              ·skip
               rintro gb278 w19 ⟨hB, z0⟩
               refine norm_ (a' := ?_) ?_ ?_
               rotate_left
               ·simp only [putAll, Act.put, List.setIfInBounds_toArray, List.set_cons_zero, List.set_cons_succ]
                rfl
               refine three_ (i := 5) (j := 7) (k := 8) (Ni := some 28) (Nj := some 8) (Nk := some 9) #[true, true, true, true, true, true, true, false, false, false, false, false] #[true, true, true, true, true, false, true, true, false, false, false, false] #[true, true, true, true, true, false, true, false, true, false, false, false] rfl rfl rfl rfl rfl rfl (three_of HT_.out (by kernel_rfl)) (by decide) (by decide) (by decide) (fun K hK => ?_) (fun K hK => ?_) (fun K hK => ?_)
               ·refine goes_ Tryz.func18 (by kernel_rfl) rfl #[.agg #[.int .i64 a2_0, .int .i64 a2_1, .string a2_2]] (by rfl) rfl rfl (by simp only [List.map_toArray, List.map_cons, List.map_nil]; first | done | rfl) ?_
                with_reducible refine (tacticianref01_Tame.calls k a2_0 a2_1 a2_2 t275 t276 t277 _ A6.out).mono ?_
                rintro e w20 ⟨rfl, hb⟩
                refine ⟨_, rfl, ?_⟩
                have hB2 := below_step hB hb
                refine hK.out _ _ (HS_.out _ hB2) (fun _ => ?_)
                exact norm_ (by show Act.put _ (some 28) _ = _; simp only [putAll, Act.put, List.setIfInBounds_toArray, List.set_cons_zero, List.set_cons_succ]; first | done | rfl) (hJ1_3_5_6 gb278 _ ⟨hB2, z0.on hb⟩)
               ·refine box_step ?hg (N := 8) ?hd (cs := #[.int .i64 0, .int .i64 0, .string (⟨#[]⟩ : ByteArray)]) (t := 25) ?hr ?_; (case hd => rfl); (case hg => rfl); (case hr => first | (go_simp; done) | (go_simp; rfl))
                intro gb279 hg w20 hbox hb
                have hB2 := below_step hB hb
                refine hK.out _ _ (HS_.out _ hB2) (fun _ => ?_)
                exact norm_ (by show Act.put _ (some 8) _ = _; simp only [putAll, Act.put, List.setIfInBounds_toArray, List.set_cons_zero, List.set_cons_succ]; first | done | rfl) (hJ1_3_6_7 (gb278, gb279) _ ⟨hB2, z0.on hb, Bz.new hB.size hg hbox, z0.ne hg⟩)
               ·refine box_step ?hg (N := 9) ?hd (cs := #[.int .i64 0, .int .i64 0, .string (⟨#[]⟩ : ByteArray)]) (t := 25) ?hr ?_; (case hd => rfl); (case hg => rfl); (case hr => first | (go_simp; done) | (go_simp; rfl))
                intro gb280 hg w20 hbox hb
                have hB2 := below_step hB hb
                refine hK.out _ _ (HS_.out _ hB2) (fun _ => ?_)
                exact norm_ (by show Act.put _ (some 9) _ = _; simp only [putAll, Act.put, List.setIfInBounds_toArray, List.set_cons_zero, List.set_cons_succ]; first | done | rfl) (hJ1_3_6_8 (gb278, gb280) _ ⟨hB2, z0.on hb, Bz.new hB.size hg hbox, z0.ne hg⟩)
             ·skip
              rintro _ w19 hB
              refine norm_ (a' := ?_) ?_ ?_
              rotate_left
              ·simp only [putAll, Act.put, List.setIfInBounds_toArray, List.set_cons_zero, List.set_cons_succ]
               rfl
              refine three_ (i := 6) (j := 7) (k := 8) (Ni := some 7) (Nj := some 8) (Nk := some 9) #[true, true, true, true, true, true, true, false, false, false, false, false] #[true, true, true, true, true, true, false, true, false, false, false, false] #[true, true, true, true, true, true, false, false, true, false, false, false] rfl rfl rfl rfl rfl rfl (three_of HT_.out (by kernel_rfl)) (by decide) (by decide) (by decide) (fun K hK => ?_) (fun K hK => ?_) (fun K hK => ?_)
              ·refine box_step ?hg (N := 7) ?hd (cs := #[.int .i64 0, .int .i64 0, .string (⟨#[]⟩ : ByteArray)]) (t := 25) ?hr ?_; (case hd => rfl); (case hg => rfl); (case hr => first | (go_simp; done) | (go_simp; rfl))
               intro gb278 hg w20 hbox hb
               have hB2 := below_step hB hb
               refine hK.out _ _ (HS_.out _ hB2) (fun _ => ?_)
               exact norm_ (by show Act.put _ (some 7) _ = _; simp only [putAll, Act.put, List.setIfInBounds_toArray, List.set_cons_zero, List.set_cons_succ]; first | done | rfl) (hJ1_3_5_6 gb278 _ ⟨hB2, Bz.new hB.size hg hbox⟩)
              ·refine box_step ?hg (N := 8) ?hd (cs := #[.int .i64 0, .int .i64 0, .string (⟨#[]⟩ : ByteArray)]) (t := 25) ?hr ?_; (case hd => rfl); (case hg => rfl); (case hr => first | (go_simp; done) | (go_simp; rfl))
               intro gb279 hg w20 hbox hb
               have hB2 := below_step hB hb
               refine hK.out _ _ (HS_.out _ hB2) (fun _ => ?_)
               exact norm_ (by show Act.put _ (some 8) _ = _; simp only [putAll, Act.put, List.setIfInBounds_toArray, List.set_cons_zero, List.set_cons_succ]; first | done | rfl) (hJ1_3_5_7 gb279 _ ⟨hB2, Bz.new hB.size hg hbox⟩)
              ·refine box_step ?hg (N := 9) ?hd (cs := #[.int .i64 0, .int .i64 0, .string (⟨#[]⟩ : ByteArray)]) (t := 25) ?hr ?_; (case hd => rfl); (case hg => rfl); (case hr => first | (go_simp; done) | (go_simp; rfl))
               intro gb280 hg w20 hbox hb
               have hB2 := below_step hB hb
               refine hK.out _ _ (HS_.out _ hB2) (fun _ => ?_)
               exact norm_ (by show Act.put _ (some 9) _ = _; simp only [putAll, Act.put, List.setIfInBounds_toArray, List.set_cons_zero, List.set_cons_succ]; first | done | rfl) (hJ1_3_5_8 gb280 _ ⟨hB2, Bz.new hB.size hg hbox⟩)
            ·skip
             rintro ⟨gb278, gb279, gb280⟩ w20 ⟨hB, z0, z1, z2, d0_1, d0_2, d1_2⟩
             refine norm_ (a' := ?_) ?_ ?_
             rotate_left
             ·simp only [putAll, Act.put, List.setIfInBounds_toArray, List.set_cons_zero, List.set_cons_succ]
              rfl
             refine one_ (i := 3) (N := some 26) #[true, true, true, true, true, false, true, true, true, false, false, false] rfl rfl (one_of HT_.out (by kernel_rfl)) (by decide) (fun K hK => ?_)
             refine goes_ Tryz.func18 (by kernel_rfl) rfl #[.agg #[.int .i64 a1_0, .int .i64 a1_1, .string a1_2]] (by rfl) rfl rfl (by simp only [List.map_toArray, List.map_cons, List.map_nil]; first | done | rfl) ?_
             with_reducible refine (tacticianref01_Tame.calls k a1_0 a1_1 a1_2 t272 t273 t274 _ A5.out).mono ?_
             rintro e w21 ⟨rfl, hb⟩
             refine ⟨_, rfl, ?_⟩
             have hB2 := below_step hB hb
             refine hK.out _ _ (HS_.out _ hB2) (fun _ => ?_)
             exact norm_ (by show Act.put _ (some 26) _ = _; simp only [putAll, Act.put, List.setIfInBounds_toArray, List.set_cons_zero, List.set_cons_succ]; first | done | rfl) (hJ1_3_6_7_8 (gb278, gb279, gb280) _ ⟨hB2, z0.on hb, z1.on hb, z2.on hb, d0_1, d0_2, d1_2⟩)
           ·skip
            rintro ⟨gb279, gb280⟩ w20 ⟨hB, z0, z1, d0_1⟩
            refine norm_ (a' := ?_) ?_ ?_
            rotate_left
            ·simp only [putAll, Act.put, List.setIfInBounds_toArray, List.set_cons_zero, List.set_cons_succ]
             rfl
            refine two_ (i := 5) (j := 6) (Ni := some 28) (Nj := some 7) #[true, true, true, true, true, true, false, true, true, false, false, false] #[true, true, true, true, true, false, true, true, true, false, false, false] rfl rfl rfl rfl (two_of HT_.out (by kernel_rfl)) (by decide) (by decide) (fun K hK => ?_) (fun K hK => ?_)
            ·refine goes_ Tryz.func18 (by kernel_rfl) rfl #[.agg #[.int .i64 a2_0, .int .i64 a2_1, .string a2_2]] (by rfl) rfl rfl (by simp only [List.map_toArray, List.map_cons, List.map_nil]; first | done | rfl) ?_
             with_reducible refine (tacticianref01_Tame.calls k a2_0 a2_1 a2_2 t275 t276 t277 _ A6.out).mono ?_
             rintro e w21 ⟨rfl, hb⟩
             refine ⟨_, rfl, ?_⟩
             have hB2 := below_step hB hb
             refine hK.out _ _ (HS_.out _ hB2) (fun _ => ?_)
             exact norm_ (by show Act.put _ (some 28) _ = _; simp only [putAll, Act.put, List.setIfInBounds_toArray, List.set_cons_zero, List.set_cons_succ]; first | done | rfl) (hJ1_3_5_7_8 (gb279, gb280) _ ⟨hB2, z0.on hb, z1.on hb, d0_1⟩)
            ·refine box_step ?hg (N := 7) ?hd (cs := #[.int .i64 0, .int .i64 0, .string (⟨#[]⟩ : ByteArray)]) (t := 25) ?hr ?_; (case hd => rfl); (case hg => rfl); (case hr => first | (go_simp; done) | (go_simp; rfl))
             intro gb278 hg w21 hbox hb
             have hB2 := below_step hB hb
             refine hK.out _ _ (HS_.out _ hB2) (fun _ => ?_)
             exact norm_ (by show Act.put _ (some 7) _ = _; simp only [putAll, Act.put, List.setIfInBounds_toArray, List.set_cons_zero, List.set_cons_succ]; first | done | rfl) (hJ1_3_6_7_8 (gb278, gb279, gb280) _ ⟨hB2, Bz.new hB.size hg hbox, z0.on hb, z1.on hb, (z0.ne hg).symm, (z1.ne hg).symm, d0_1⟩)
          ·skip
           rintro ⟨gb278, gb280⟩ w20 ⟨hB, z0, z1, d0_1⟩
           refine norm_ (a' := ?_) ?_ ?_
           rotate_left
           ·simp only [putAll, Act.put, List.setIfInBounds_toArray, List.set_cons_zero, List.set_cons_succ]
            rfl
           refine two_ (i := 5) (j := 7) (Ni := some 28) (Nj := some 8) #[true, true, true, true, true, true, true, false, true, false, false, false] #[true, true, true, true, true, false, true, true, true, false, false, false] rfl rfl rfl rfl (two_of HT_.out (by kernel_rfl)) (by decide) (by decide) (fun K hK => ?_) (fun K hK => ?_)
           ·refine goes_ Tryz.func18 (by kernel_rfl) rfl #[.agg #[.int .i64 a2_0, .int .i64 a2_1, .string a2_2]] (by rfl) rfl rfl (by simp only [List.map_toArray, List.map_cons, List.map_nil]; first | done | rfl) ?_
            with_reducible refine (tacticianref01_Tame.calls k a2_0 a2_1 a2_2 t275 t276 t277 _ A6.out).mono ?_
            rintro e w21 ⟨rfl, hb⟩
            refine ⟨_, rfl, ?_⟩
            have hB2 := below_step hB hb
            refine hK.out _ _ (HS_.out _ hB2) (fun _ => ?_)
            exact norm_ (by show Act.put _ (some 28) _ = _; simp only [putAll, Act.put, List.setIfInBounds_toArray, List.set_cons_zero, List.set_cons_succ]; first | done | rfl) (hJ1_3_5_6_8 (gb278, gb280) _ ⟨hB2, z0.on hb, z1.on hb, d0_1⟩)
           ·refine box_step ?hg (N := 8) ?hd (cs := #[.int .i64 0, .int .i64 0, .string (⟨#[]⟩ : ByteArray)]) (t := 25) ?hr ?_; (case hd => rfl); (case hg => rfl); (case hr => first | (go_simp; done) | (go_simp; rfl))
            intro gb279 hg w21 hbox hb
            have hB2 := below_step hB hb
            refine hK.out _ _ (HS_.out _ hB2) (fun _ => ?_)
            exact norm_ (by show Act.put _ (some 8) _ = _; simp only [putAll, Act.put, List.setIfInBounds_toArray, List.set_cons_zero, List.set_cons_succ]; first | done | rfl) (hJ1_3_6_7_8 (gb278, gb279, gb280) _ ⟨hB2, z0.on hb, Bz.new hB.size hg hbox, z1.on hb, z0.ne hg, d0_1, (z1.ne hg).symm⟩)
         ·skip
          rintro ⟨gb278, gb279⟩ w20 ⟨hB, z0, z1, d0_1⟩
          refine norm_ (a' := ?_) ?_ ?_
          rotate_left
          ·simp only [putAll, Act.put, List.setIfInBounds_toArray, List.set_cons_zero, List.set_cons_succ]
           rfl
          refine two_ (i := 5) (j := 8) (Ni := some 28) (Nj := some 9) #[true, true, true, true, true, true, true, true, false, false, false, false] #[true, true, true, true, true, false, true, true, true, false, false, false] rfl rfl rfl rfl (two_of HT_.out (by kernel_rfl)) (by decide) (by decide) (fun K hK => ?_) (fun K hK => ?_)
          ·refine goes_ Tryz.func18 (by kernel_rfl) rfl #[.agg #[.int .i64 a2_0, .int .i64 a2_1, .string a2_2]] (by rfl) rfl rfl (by simp only [List.map_toArray, List.map_cons, List.map_nil]; first | done | rfl) ?_
           with_reducible refine (tacticianref01_Tame.calls k a2_0 a2_1 a2_2 t275 t276 t277 _ A6.out).mono ?_
           rintro e w21 ⟨rfl, hb⟩
           refine ⟨_, rfl, ?_⟩
           have hB2 := below_step hB hb
           refine hK.out _ _ (HS_.out _ hB2) (fun _ => ?_)
           exact norm_ (by show Act.put _ (some 28) _ = _; simp only [putAll, Act.put, List.setIfInBounds_toArray, List.set_cons_zero, List.set_cons_succ]; first | done | rfl) (hJ1_3_5_6_7 (gb278, gb279) _ ⟨hB2, z0.on hb, z1.on hb, d0_1⟩)
          ·refine box_step ?hg (N := 9) ?hd (cs := #[.int .i64 0, .int .i64 0, .string (⟨#[]⟩ : ByteArray)]) (t := 25) ?hr ?_; (case hd => rfl); (case hg => rfl); (case hr => first | (go_simp; done) | (go_simp; rfl))
           intro gb280 hg w21 hbox hb
           have hB2 := below_step hB hb
           refine hK.out _ _ (HS_.out _ hB2) (fun _ => ?_)
           exact norm_ (by show Act.put _ (some 9) _ = _; simp only [putAll, Act.put, List.setIfInBounds_toArray, List.set_cons_zero, List.set_cons_succ]; first | done | rfl) (hJ1_3_6_7_8 (gb278, gb279, gb280) _ ⟨hB2, z0.on hb, z1.on hb, Bz.new hB.size hg hbox, d0_1, z0.ne hg, z1.ne hg⟩)
        ·skip
         rintro gb280 w20 ⟨hB, z0⟩
         refine norm_ (a' := ?_) ?_ ?_
         rotate_left
         ·simp only [putAll, Act.put, List.setIfInBounds_toArray, List.set_cons_zero, List.set_cons_succ]
          rfl
         refine two_ (i := 6) (j := 7) (Ni := some 7) (Nj := some 8) #[true, true, true, true, true, true, true, false, true, false, false, false] #[true, true, true, true, true, true, false, true, true, false, false, false] rfl rfl rfl rfl (two_of HT_.out (by kernel_rfl)) (by decide) (by decide) (fun K hK => ?_) (fun K hK => ?_)
         ·refine box_step ?hg (N := 7) ?hd (cs := #[.int .i64 0, .int .i64 0, .string (⟨#[]⟩ : ByteArray)]) (t := 25) ?hr ?_; (case hd => rfl); (case hg => rfl); (case hr => first | (go_simp; done) | (go_simp; rfl))
          intro gb278 hg w21 hbox hb
          have hB2 := below_step hB hb
          refine hK.out _ _ (HS_.out _ hB2) (fun _ => ?_)
          exact norm_ (by show Act.put _ (some 7) _ = _; simp only [putAll, Act.put, List.setIfInBounds_toArray, List.set_cons_zero, List.set_cons_succ]; first | done | rfl) (hJ1_3_5_6_8 (gb278, gb280) _ ⟨hB2, Bz.new hB.size hg hbox, z0.on hb, (z0.ne hg).symm⟩)
         ·refine box_step ?hg (N := 8) ?hd (cs := #[.int .i64 0, .int .i64 0, .string (⟨#[]⟩ : ByteArray)]) (t := 25) ?hr ?_; (case hd => rfl); (case hg => rfl); (case hr => first | (go_simp; done) | (go_simp; rfl))
          intro gb279 hg w21 hbox hb
          have hB2 := below_step hB hb
          refine hK.out _ _ (HS_.out _ hB2) (fun _ => ?_)
          exact norm_ (by show Act.put _ (some 8) _ = _; simp only [putAll, Act.put, List.setIfInBounds_toArray, List.set_cons_zero, List.set_cons_succ]; first | done | rfl) (hJ1_3_5_7_8 (gb279, gb280) _ ⟨hB2, Bz.new hB.size hg hbox, z0.on hb, (z0.ne hg).symm⟩)
       ·skip
        rintro gb279 w20 ⟨hB, z0⟩
        refine norm_ (a' := ?_) ?_ ?_
        rotate_left
        ·simp only [putAll, Act.put, List.setIfInBounds_toArray, List.set_cons_zero, List.set_cons_succ]
         rfl
        refine two_ (i := 6) (j := 8) (Ni := some 7) (Nj := some 9) #[true, true, true, true, true, true, true, true, false, false, false, false] #[true, true, true, true, true, true, false, true, true, false, false, false] rfl rfl rfl rfl (two_of HT_.out (by kernel_rfl)) (by decide) (by decide) (fun K hK => ?_) (fun K hK => ?_)
        ·refine box_step ?hg (N := 7) ?hd (cs := #[.int .i64 0, .int .i64 0, .string (⟨#[]⟩ : ByteArray)]) (t := 25) ?hr ?_; (case hd => rfl); (case hg => rfl); (case hr => first | (go_simp; done) | (go_simp; rfl))
         intro gb278 hg w21 hbox hb
         have hB2 := below_step hB hb
         refine hK.out _ _ (HS_.out _ hB2) (fun _ => ?_)
         exact norm_ (by show Act.put _ (some 7) _ = _; simp only [putAll, Act.put, List.setIfInBounds_toArray, List.set_cons_zero, List.set_cons_succ]; first | done | rfl) (hJ1_3_5_6_7 (gb278, gb279) _ ⟨hB2, Bz.new hB.size hg hbox, z0.on hb, (z0.ne hg).symm⟩)
        ·refine box_step ?hg (N := 9) ?hd (cs := #[.int .i64 0, .int .i64 0, .string (⟨#[]⟩ : ByteArray)]) (t := 25) ?hr ?_; (case hd => rfl); (case hg => rfl); (case hr => first | (go_simp; done) | (go_simp; rfl))
         intro gb280 hg w21 hbox hb
         have hB2 := below_step hB hb
         refine hK.out _ _ (HS_.out _ hB2) (fun _ => ?_)
         exact norm_ (by show Act.put _ (some 9) _ = _; simp only [putAll, Act.put, List.setIfInBounds_toArray, List.set_cons_zero, List.set_cons_succ]; first | done | rfl) (hJ1_3_5_7_8 (gb279, gb280) _ ⟨hB2, z0.on hb, Bz.new hB.size hg hbox, z0.ne hg⟩)
      ·skip
       rintro gb278 w20 ⟨hB, z0⟩
       refine norm_ (a' := ?_) ?_ ?_
       rotate_left
       ·simp only [putAll, Act.put, List.setIfInBounds_toArray, List.set_cons_zero, List.set_cons_succ]
        rfl
       refine two_ (i := 7) (j := 8) (Ni := some 8) (Nj := some 9) #[true, true, true, true, true, true, true, true, false, false, false, false] #[true, true, true, true, true, true, true, false, true, false, false, false] rfl rfl rfl rfl (two_of HT_.out (by kernel_rfl)) (by decide) (by decide) (fun K hK => ?_) (fun K hK => ?_)
       ·refine box_step ?hg (N := 8) ?hd (cs := #[.int .i64 0, .int .i64 0, .string (⟨#[]⟩ : ByteArray)]) (t := 25) ?hr ?_; (case hd => rfl); (case hg => rfl); (case hr => first | (go_simp; done) | (go_simp; rfl))
        intro gb279 hg w21 hbox hb
        have hB2 := below_step hB hb
        refine hK.out _ _ (HS_.out _ hB2) (fun _ => ?_)
        exact norm_ (by show Act.put _ (some 8) _ = _; simp only [putAll, Act.put, List.setIfInBounds_toArray, List.set_cons_zero, List.set_cons_succ]; first | done | rfl) (hJ1_3_5_6_7 (gb278, gb279) _ ⟨hB2, z0.on hb, Bz.new hB.size hg hbox, z0.ne hg⟩)
       ·refine box_step ?hg (N := 9) ?hd (cs := #[.int .i64 0, .int .i64 0, .string (⟨#[]⟩ : ByteArray)]) (t := 25) ?hr ?_; (case hd => rfl); (case hg => rfl); (case hr => first | (go_simp; done) | (go_simp; rfl))
        intro gb280 hg w21 hbox hb
        have hB2 := below_step hB hb
        refine hK.out _ _ (HS_.out _ hB2) (fun _ => ?_)
        exact norm_ (by show Act.put _ (some 9) _ = _; simp only [putAll, Act.put, List.setIfInBounds_toArray, List.set_cons_zero, List.set_cons_succ]; first | done | rfl) (hJ1_3_5_6_8 (gb278, gb280) _ ⟨hB2, z0.on hb, Bz.new hB.size hg hbox, z0.ne hg⟩)
     ·skip
      rintro ⟨gb278, gb279, gb280⟩ w21 ⟨hB, z0, z1, z2, d0_1, d0_2, d1_2⟩
      refine norm_ (a' := ?_) ?_ ?_
      rotate_left
      ·simp only [putAll, Act.put, List.setIfInBounds_toArray, List.set_cons_zero, List.set_cons_succ]
       rfl
      refine one_ (i := 5) (N := some 28) #[true, true, true, true, true, true, true, true, true, false, false, false] rfl rfl (one_of HT_.out (by kernel_rfl)) (by decide) (fun K hK => ?_)
      refine goes_ Tryz.func18 (by kernel_rfl) rfl #[.agg #[.int .i64 a2_0, .int .i64 a2_1, .string a2_2]] (by rfl) rfl rfl (by simp only [List.map_toArray, List.map_cons, List.map_nil]; first | done | rfl) ?_
      with_reducible refine (tacticianref01_Tame.calls k a2_0 a2_1 a2_2 t275 t276 t277 _ A6.out).mono ?_
      rintro e w22 ⟨rfl, hb⟩
      refine ⟨_, rfl, ?_⟩
      have hB2 := below_step hB hb
      refine hK.out _ _ (HS_.out _ hB2) (fun _ => ?_)
      exact norm_ (by show Act.put _ (some 28) _ = _; simp only [putAll, Act.put, List.setIfInBounds_toArray, List.set_cons_zero, List.set_cons_succ]; first | done | rfl) (hJ1_3_5_6_7_8 (gb278, gb279, gb280) _ ⟨hB2, z0.on hb, z1.on hb, z2.on hb, d0_1, d0_2, d1_2⟩)
    ·skip
     rintro ⟨gb279, gb280⟩ w21 ⟨hB, z0, z1, d0_1⟩
     refine norm_ (a' := ?_) ?_ ?_
     rotate_left
     ·simp only [putAll, Act.put, List.setIfInBounds_toArray, List.set_cons_zero, List.set_cons_succ]
      rfl
     refine one_ (i := 6) (N := some 7) #[true, true, true, true, true, true, true, true, true, false, false, false] rfl rfl (one_of HT_.out (by kernel_rfl)) (by decide) (fun K hK => ?_)
     refine box_step ?hg (N := 7) ?hd (cs := #[.int .i64 0, .int .i64 0, .string (⟨#[]⟩ : ByteArray)]) (t := 25) ?hr ?_; (case hd => rfl); (case hg => rfl); (case hr => first | (go_simp; done) | (go_simp; rfl))
     intro gb278 hg w22 hbox hb
     have hB2 := below_step hB hb
     refine hK.out _ _ (HS_.out _ hB2) (fun _ => ?_)
     exact norm_ (by show Act.put _ (some 7) _ = _; simp only [putAll, Act.put, List.setIfInBounds_toArray, List.set_cons_zero, List.set_cons_succ]; first | done | rfl) (hJ1_3_5_6_7_8 (gb278, gb279, gb280) _ ⟨hB2, Bz.new hB.size hg hbox, z0.on hb, z1.on hb, (z0.ne hg).symm, (z1.ne hg).symm, d0_1⟩)
   ·skip
    rintro ⟨gb278, gb280⟩ w21 ⟨hB, z0, z1, d0_1⟩
    refine norm_ (a' := ?_) ?_ ?_
    rotate_left
    ·simp only [putAll, Act.put, List.setIfInBounds_toArray, List.set_cons_zero, List.set_cons_succ]
     rfl
    refine one_ (i := 7) (N := some 8) #[true, true, true, true, true, true, true, true, true, false, false, false] rfl rfl (one_of HT_.out (by kernel_rfl)) (by decide) (fun K hK => ?_)
    refine box_step ?hg (N := 8) ?hd (cs := #[.int .i64 0, .int .i64 0, .string (⟨#[]⟩ : ByteArray)]) (t := 25) ?hr ?_; (case hd => rfl); (case hg => rfl); (case hr => first | (go_simp; done) | (go_simp; rfl))
    intro gb279 hg w22 hbox hb
    have hB2 := below_step hB hb
    refine hK.out _ _ (HS_.out _ hB2) (fun _ => ?_)
    exact norm_ (by show Act.put _ (some 8) _ = _; simp only [putAll, Act.put, List.setIfInBounds_toArray, List.set_cons_zero, List.set_cons_succ]; first | done | rfl) (hJ1_3_5_6_7_8 (gb278, gb279, gb280) _ ⟨hB2, z0.on hb, Bz.new hB.size hg hbox, z1.on hb, z0.ne hg, d0_1, (z1.ne hg).symm⟩)
  ·skip
   rintro ⟨gb278, gb279⟩ w21 ⟨hB, z0, z1, d0_1⟩
   refine norm_ (a' := ?_) ?_ ?_
   rotate_left
   ·simp only [putAll, Act.put, List.setIfInBounds_toArray, List.set_cons_zero, List.set_cons_succ]
    rfl
   refine one_ (i := 8) (N := some 9) #[true, true, true, true, true, true, true, true, true, false, false, false] rfl rfl (one_of HT_.out (by kernel_rfl)) (by decide) (fun K hK => ?_)
   refine box_step ?hg (N := 9) ?hd (cs := #[.int .i64 0, .int .i64 0, .string (⟨#[]⟩ : ByteArray)]) (t := 25) ?hr ?_; (case hd => rfl); (case hg => rfl); (case hr => first | (go_simp; done) | (go_simp; rfl))
   intro gb280 hg w22 hbox hb
   have hB2 := below_step hB hb
   refine hK.out _ _ (HS_.out _ hB2) (fun _ => ?_)
   exact norm_ (by show Act.put _ (some 9) _ = _; simp only [putAll, Act.put, List.setIfInBounds_toArray, List.set_cons_zero, List.set_cons_succ]; first | done | rfl) (hJ1_3_5_6_7_8 (gb278, gb279, gb280) _ ⟨hB2, z0.on hb, z1.on hb, Bz.new hB.size hg hbox, d0_1, z0.ne hg, z1.ne hg⟩)
 rintro ⟨gb278, gb279, gb280⟩ w22 ⟨hB, z0, z1, z2, d0_1, d0_2, d1_2⟩
 have hS_ := HS_.out _ hB
 have n0_ : Aside0 (w22.heap[gb266]? = some (.cells #[.int .i64 a0_0, .int .i64 a0_1, .string a0_2] 25 (0, 0))) := ⟨blk_below BK266.out hB⟩
 have n1_ : Aside0 (w22.heap[gb267]? = some (.cells #[.int .i64 a1_0, .int .i64 a1_1, .string a1_2] 25 (0, 0))) := ⟨blk_below BK267.out hB⟩
 have n2_ : Aside0 (w22.heap[gb268]? = some (.cells #[.int .i64 a2_0, .int .i64 a2_1, .string a2_2] 25 (0, 0))) := ⟨blk_below BK268.out hB⟩
 have n3_ : Aside0 (w22.heap[gb278]? = some (.cells #[.int .i64 0, .int .i64 0, .string (⟨#[]⟩ : ByteArray)] 25 (0, 0))) := ⟨z0.2⟩
 have n4_ : Aside0 (w22.heap[gb279]? = some (.cells #[.int .i64 0, .int .i64 0, .string (⟨#[]⟩ : ByteArray)] 25 (0, 0))) := ⟨z1.2⟩
 have n5_ : Aside0 (w22.heap[gb280]? = some (.cells #[.int .i64 0, .int .i64 0, .string (⟨#[]⟩ : ByteArray)] 25 (0, 0))) := ⟨z2.2⟩
 have n6_ : Aside0 (w.heap.size ≤ gb278) := ⟨Nat.le_trans (below_size HB.out) z0.1⟩
 have n7_ : Aside0 (w.heap.size ≤ gb278) := ⟨Nat.le_trans (below_size HB.out) z0.1⟩
 have n8_ : Aside0 (gb266 ≠ gb278) := ⟨Nat.ne_of_lt (Nat.lt_of_lt_of_le (blk_lt BK266.out) z0.1)⟩
 have n9_ : Aside0 (gb278 ≠ gb266) := ⟨Nat.ne_of_gt (Nat.lt_of_lt_of_le (blk_lt BK266.out) z0.1)⟩
 have n10_ : Aside0 (gb267 ≠ gb278) := ⟨Nat.ne_of_lt (Nat.lt_of_lt_of_le (blk_lt BK267.out) z0.1)⟩
 have n11_ : Aside0 (gb278 ≠ gb267) := ⟨Nat.ne_of_gt (Nat.lt_of_lt_of_le (blk_lt BK267.out) z0.1)⟩
 have n12_ : Aside0 (gb268 ≠ gb278) := ⟨Nat.ne_of_lt (Nat.lt_of_lt_of_le (blk_lt BK268.out) z0.1)⟩
 have n13_ : Aside0 (gb278 ≠ gb268) := ⟨Nat.ne_of_gt (Nat.lt_of_lt_of_le (blk_lt BK268.out) z0.1)⟩
 have n14_ : Aside0 (gb279 ≠ gb278) := ⟨d0_1.symm⟩
 have n15_ : Aside0 (gb278 ≠ gb279) := ⟨d0_1⟩
 have n16_ : Aside0 (gb280 ≠ gb278) := ⟨d0_2.symm⟩
 have n17_ : Aside0 (gb278 ≠ gb280) := ⟨d0_2⟩
 have n18_ : Aside0 (w.heap.size ≤ gb279) := ⟨Nat.le_trans (below_size HB.out) z1.1⟩
 have n19_ : Aside0 (w.heap.size ≤ gb279) := ⟨Nat.le_trans (below_size HB.out) z1.1⟩
 have n20_ : Aside0 (gb266 ≠ gb279) := ⟨Nat.ne_of_lt (Nat.lt_of_lt_of_le (blk_lt BK266.out) z1.1)⟩
 have n21_ : Aside0 (gb279 ≠ gb266) := ⟨Nat.ne_of_gt (Nat.lt_of_lt_of_le (blk_lt BK266.out) z1.1)⟩
 have n22_ : Aside0 (gb267 ≠ gb279) := ⟨Nat.ne_of_lt (Nat.lt_of_lt_of_le (blk_lt BK267.out) z1.1)⟩
 have n23_ : Aside0 (gb279 ≠ gb267) := ⟨Nat.ne_of_gt (Nat.lt_of_lt_of_le (blk_lt BK267.out) z1.1)⟩
 have n24_ : Aside0 (gb268 ≠ gb279) := ⟨Nat.ne_of_lt (Nat.lt_of_lt_of_le (blk_lt BK268.out) z1.1)⟩
 have n25_ : Aside0 (gb279 ≠ gb268) := ⟨Nat.ne_of_gt (Nat.lt_of_lt_of_le (blk_lt BK268.out) z1.1)⟩
 have n26_ : Aside0 (gb280 ≠ gb279) := ⟨d1_2.symm⟩
 have n27_ : Aside0 (gb279 ≠ gb280) := ⟨d1_2⟩
 have n28_ : Aside0 (w.heap.size ≤ gb280) := ⟨Nat.le_trans (below_size HB.out) z2.1⟩
 have n29_ : Aside0 (w.heap.size ≤ gb280) := ⟨Nat.le_trans (below_size HB.out) z2.1⟩
 have n30_ : Aside0 (gb266 ≠ gb280) := ⟨Nat.ne_of_lt (Nat.lt_of_lt_of_le (blk_lt BK266.out) z2.1)⟩
 have n31_ : Aside0 (gb280 ≠ gb266) := ⟨Nat.ne_of_gt (Nat.lt_of_lt_of_le (blk_lt BK266.out) z2.1)⟩
 have n32_ : Aside0 (gb267 ≠ gb280) := ⟨Nat.ne_of_lt (Nat.lt_of_lt_of_le (blk_lt BK267.out) z2.1)⟩
 have n33_ : Aside0 (gb280 ≠ gb267) := ⟨Nat.ne_of_gt (Nat.lt_of_lt_of_le (blk_lt BK267.out) z2.1)⟩
 have n34_ : Aside0 (gb268 ≠ gb280) := ⟨Nat.ne_of_lt (Nat.lt_of_lt_of_le (blk_lt BK268.out) z2.1)⟩
 have n35_ : Aside0 (gb280 ≠ gb268) := ⟨Nat.ne_of_gt (Nat.lt_of_lt_of_le (blk_lt BK268.out) z2.1)⟩
 have n36_ : Aside0 (Below w.heap.size w w22) := ⟨below_step HB.out hB⟩
 clear BK266
 clear BK267
 clear BK268
 clear HB
 have BK266 := n0_
 have BK267 := n1_
 have BK268 := n2_
 have BK278 := n3_
 have BK279 := n4_
 have BK280 := n5_
 have GW278 := n6_
 have GE278 := n7_
 have NB266_278 := n8_
 have NB278_266 := n9_
 have NB267_278 := n10_
 have NB278_267 := n11_
 have NB268_278 := n12_
 have NB278_268 := n13_
 have NB279_278 := n14_
 have NB278_279 := n15_
 have NB280_278 := n16_
 have NB278_280 := n17_
 have GW279 := n18_
 have GE279 := n19_
 have NB266_279 := n20_
 have NB279_266 := n21_
 have NB267_279 := n22_
 have NB279_267 := n23_
 have NB268_279 := n24_
 have NB279_268 := n25_
 have NB280_279 := n26_
 have NB279_280 := n27_
 have GW280 := n28_
 have GE280 := n29_
 have NB266_280 := n30_
 have NB280_266 := n31_
 have NB267_280 := n32_
 have NB280_267 := n33_
 have NB268_280 := n34_
 have NB280_268 := n35_
 have HB := n36_
 clear n0_ n1_ n2_ n3_ n4_ n5_ n6_ n7_ n8_ n9_ n10_ n11_ n12_ n13_ n14_ n15_ n16_ n17_ n18_ n19_ n20_ n21_ n22_ n23_ n24_ n25_ n26_ n27_ n28_ n29_ n30_ n31_ n32_ n33_ n34_ n35_ n36_
 have hHeld : w22.cell? ⟨gb266, 0, none⟩ = some (.int .i64 a0_0) ∧ w22.cell? ⟨gb266, 1, none⟩ = some (.int .i64 a0_1) ∧ w22.cell? ⟨gb266, 2, none⟩ = some (.string a0_2) ∧ w22.cell? ⟨gb267, 0, none⟩ = some (.int .i64 a1_0) ∧ w22.cell? ⟨gb267, 1, none⟩ = some (.int .i64 a1_1) ∧ w22.cell? ⟨gb267, 2, none⟩ = some (.string a1_2) ∧ w22.cell? ⟨gb268, 0, none⟩ = some (.int .i64 a2_0) ∧ w22.cell? ⟨gb268, 1, none⟩ = some (.int .i64 a2_1) ∧ w22.cell? ⟨gb268, 2, none⟩ = some (.string a2_2) := hS_
 refine norm_ (a' := ?_) ?_ ?_
 rotate_left
 ·simp only [putAll, Act.put, List.setIfInBounds_toArray, List.set_cons_zero, List.set_cons_succ]
  rfl
 refine one_ (i := 9) (N := none) #[true, true, true, true, true, true, true, true, true, true, false, false] rfl rfl (one_of HT_.out (by kernel_rfl)) (by decide) (fun K hK => ?_)
 have hs23 : w22.cell? ⟨gb278, 0, none⟩ = some (.int .i64 0) := (blk_cell BK278.out 0).trans rfl
 have hfs23 := blk_frozen BK278.out 0
 have hns23_0 := NB266_278.out
 have hns23_1 := NB267_278.out
 have hns23_2 := NB268_278.out
 have hns23_4 := NB279_278.out
 have hns23_5 := NB280_278.out
 have hms23_0 := NB278_266.out
 have hms23_1 := NB278_267.out
 have hms23_2 := NB278_268.out
 have hms23_4 := NB278_279.out
 have hms23_5 := NB278_280.out
 have hs24 : w22.cell? ⟨gb278, 1, none⟩ = some (.int .i64 0) := (blk_cell BK278.out 1).trans rfl
 have hfs24 := blk_frozen BK278.out 1
 have hns24_0 := NB266_278.out
 have hns24_1 := NB267_278.out
 have hns24_2 := NB268_278.out
 have hns24_4 := NB279_278.out
 have hns24_5 := NB280_278.out
 have hms24_0 := NB278_266.out
 have hms24_1 := NB278_267.out
 have hms24_2 := NB278_268.out
 have hms24_4 := NB278_279.out
 have hms24_5 := NB278_280.out
 have hs25 : w22.cell? ⟨gb278, 2, none⟩ = some (.string (⟨#[]⟩ : ByteArray)) := (blk_cell BK278.out 2).trans rfl
 have hfs25 := blk_frozen BK278.out 2
 have hns25_0 := NB266_278.out
 have hns25_1 := NB267_278.out
 have hns25_2 := NB268_278.out
 have hns25_4 := NB279_278.out
 have hns25_5 := NB280_278.out
 have hms25_0 := NB278_266.out
 have hms25_1 := NB278_267.out
 have hms25_2 := NB278_268.out
 have hms25_4 := NB278_279.out
 have hms25_5 := NB278_280.out
 refine skip_ (w1 := ?_) (by rfl) rfl ?_ ?_
 rotate_left
 ·go_simp
  rfl
 refine hK.out _ _ ⟨((cell_far (p := ⟨gb278, _, none⟩) NB266_278.out _).trans (((cell_far (p := ⟨gb278, _, none⟩) NB266_278.out _).trans (((cell_far (p := ⟨gb278, _, none⟩) NB266_278.out _).trans (hHeld.1)))))), ((cell_far (p := ⟨gb278, _, none⟩) NB266_278.out _).trans (((cell_far (p := ⟨gb278, _, none⟩) NB266_278.out _).trans (((cell_far (p := ⟨gb278, _, none⟩) NB266_278.out _).trans (hHeld.2.1)))))), ((cell_far (p := ⟨gb278, _, none⟩) NB266_278.out _).trans (((cell_far (p := ⟨gb278, _, none⟩) NB266_278.out _).trans (((cell_far (p := ⟨gb278, _, none⟩) NB266_278.out _).trans (hHeld.2.2.1)))))), ((cell_far (p := ⟨gb278, _, none⟩) NB267_278.out _).trans (((cell_far (p := ⟨gb278, _, none⟩) NB267_278.out _).trans (((cell_far (p := ⟨gb278, _, none⟩) NB267_278.out _).trans (hHeld.2.2.2.1)))))), ((cell_far (p := ⟨gb278, _, none⟩) NB267_278.out _).trans (((cell_far (p := ⟨gb278, _, none⟩) NB267_278.out _).trans (((cell_far (p := ⟨gb278, _, none⟩) NB267_278.out _).trans (hHeld.2.2.2.2.1)))))), ((cell_far (p := ⟨gb278, _, none⟩) NB267_278.out _).trans (((cell_far (p := ⟨gb278, _, none⟩) NB267_278.out _).trans (((cell_far (p := ⟨gb278, _, none⟩) NB267_278.out _).trans (hHeld.2.2.2.2.2.1)))))), ((cell_far (p := ⟨gb278, _, none⟩) NB268_278.out _).trans (((cell_far (p := ⟨gb278, _, none⟩) NB268_278.out _).trans (((cell_far (p := ⟨gb278, _, none⟩) NB268_278.out _).trans (hHeld.2.2.2.2.2.2.1)))))), ((cell_far (p := ⟨gb278, _, none⟩) NB268_278.out _).trans (((cell_far (p := ⟨gb278, _, none⟩) NB268_278.out _).trans (((cell_far (p := ⟨gb278, _, none⟩) NB268_278.out _).trans (hHeld.2.2.2.2.2.2.2.1)))))), ((cell_far (p := ⟨gb278, _, none⟩) NB268_278.out _).trans (((cell_far (p := ⟨gb278, _, none⟩) NB268_278.out _).trans (((cell_far (p := ⟨gb278, _, none⟩) NB268_278.out _).trans (hHeld.2.2.2.2.2.2.2.2))))))⟩ (fun hHeld => ?_)
 clear hK K
 refine one_ (i := 10) (N := none) #[true, true, true, true, true, true, true, true, true, true, true, false] rfl rfl (one_of HT_.out (by kernel_rfl)) (by decide) (fun K hK => ?_)
 have hs26 : w22.cell? ⟨gb279, 0, none⟩ = some (.int .i64 0) := (blk_cell BK279.out 0).trans rfl
 have hfs26 := blk_frozen BK279.out 0
 have hns26_0 := NB266_279.out
 have hns26_1 := NB267_279.out
 have hns26_2 := NB268_279.out
 have hns26_3 := NB278_279.out
 have hns26_5 := NB280_279.out
 have hms26_0 := NB279_266.out
 have hms26_1 := NB279_267.out
 have hms26_2 := NB279_268.out
 have hms26_3 := NB279_278.out
 have hms26_5 := NB279_280.out
 have hs27 : w22.cell? ⟨gb279, 1, none⟩ = some (.int .i64 0) := (blk_cell BK279.out 1).trans rfl
 have hfs27 := blk_frozen BK279.out 1
 have hns27_0 := NB266_279.out
 have hns27_1 := NB267_279.out
 have hns27_2 := NB268_279.out
 have hns27_3 := NB278_279.out
 have hns27_5 := NB280_279.out
 have hms27_0 := NB279_266.out
 have hms27_1 := NB279_267.out
 have hms27_2 := NB279_268.out
 have hms27_3 := NB279_278.out
 have hms27_5 := NB279_280.out
 have hs28 : w22.cell? ⟨gb279, 2, none⟩ = some (.string (⟨#[]⟩ : ByteArray)) := (blk_cell BK279.out 2).trans rfl
 have hfs28 := blk_frozen BK279.out 2
 have hns28_0 := NB266_279.out
 have hns28_1 := NB267_279.out
 have hns28_2 := NB268_279.out
 have hns28_3 := NB278_279.out
 have hns28_5 := NB280_279.out
 have hms28_0 := NB279_266.out
 have hms28_1 := NB279_267.out
 have hms28_2 := NB279_268.out
 have hms28_3 := NB279_278.out
 have hms28_5 := NB279_280.out
 refine skip_ (w1 := ?_) (by rfl) rfl ?_ ?_
 rotate_left
 ·go_simp
  rfl
 refine hK.out _ _ ⟨((cell_far (p := ⟨gb279, _, none⟩) NB266_279.out _).trans (((cell_far (p := ⟨gb279, _, none⟩) NB266_279.out _).trans (((cell_far (p := ⟨gb279, _, none⟩) NB266_279.out _).trans (hHeld.1)))))), ((cell_far (p := ⟨gb279, _, none⟩) NB266_279.out _).trans (((cell_far (p := ⟨gb279, _, none⟩) NB266_279.out _).trans (((cell_far (p := ⟨gb279, _, none⟩) NB266_279.out _).trans (hHeld.2.1)))))), ((cell_far (p := ⟨gb279, _, none⟩) NB266_279.out _).trans (((cell_far (p := ⟨gb279, _, none⟩) NB266_279.out _).trans (((cell_far (p := ⟨gb279, _, none⟩) NB266_279.out _).trans (hHeld.2.2.1)))))), ((cell_far (p := ⟨gb279, _, none⟩) NB267_279.out _).trans (((cell_far (p := ⟨gb279, _, none⟩) NB267_279.out _).trans (((cell_far (p := ⟨gb279, _, none⟩) NB267_279.out _).trans (hHeld.2.2.2.1)))))), ((cell_far (p := ⟨gb279, _, none⟩) NB267_279.out _).trans (((cell_far (p := ⟨gb279, _, none⟩) NB267_279.out _).trans (((cell_far (p := ⟨gb279, _, none⟩) NB267_279.out _).trans (hHeld.2.2.2.2.1)))))), ((cell_far (p := ⟨gb279, _, none⟩) NB267_279.out _).trans (((cell_far (p := ⟨gb279, _, none⟩) NB267_279.out _).trans (((cell_far (p := ⟨gb279, _, none⟩) NB267_279.out _).trans (hHeld.2.2.2.2.2.1)))))), ((cell_far (p := ⟨gb279, _, none⟩) NB268_279.out _).trans (((cell_far (p := ⟨gb279, _, none⟩) NB268_279.out _).trans (((cell_far (p := ⟨gb279, _, none⟩) NB268_279.out _).trans (hHeld.2.2.2.2.2.2.1)))))), ((cell_far (p := ⟨gb279, _, none⟩) NB268_279.out _).trans (((cell_far (p := ⟨gb279, _, none⟩) NB268_279.out _).trans (((cell_far (p := ⟨gb279, _, none⟩) NB268_279.out _).trans (hHeld.2.2.2.2.2.2.2.1)))))), ((cell_far (p := ⟨gb279, _, none⟩) NB268_279.out _).trans (((cell_far (p := ⟨gb279, _, none⟩) NB268_279.out _).trans (((cell_far (p := ⟨gb279, _, none⟩) NB268_279.out _).trans (hHeld.2.2.2.2.2.2.2.2))))))⟩ (fun hHeld => ?_)
 clear hK K
 refine one_ (i := 11) (N := none) #[true, true, true, true, true, true, true, true, true, true, true, true] rfl rfl (one_of HT_.out (by kernel_rfl)) (by decide) (fun K hK => ?_)
 have hs29 : w22.cell? ⟨gb280, 0, none⟩ = some (.int .i64 0) := (blk_cell BK280.out 0).trans rfl
 have hfs29 := blk_frozen BK280.out 0
 have hns29_0 := NB266_280.out
 have hns29_1 := NB267_280.out
 have hns29_2 := NB268_280.out
 have hns29_3 := NB278_280.out
 have hns29_4 := NB279_280.out
 have hms29_0 := NB280_266.out
 have hms29_1 := NB280_267.out
 have hms29_2 := NB280_268.out
 have hms29_3 := NB280_278.out
 have hms29_4 := NB280_279.out
 have hs30 : w22.cell? ⟨gb280, 1, none⟩ = some (.int .i64 0) := (blk_cell BK280.out 1).trans rfl
 have hfs30 := blk_frozen BK280.out 1
 have hns30_0 := NB266_280.out
 have hns30_1 := NB267_280.out
 have hns30_2 := NB268_280.out
 have hns30_3 := NB278_280.out
 have hns30_4 := NB279_280.out
 have hms30_0 := NB280_266.out
 have hms30_1 := NB280_267.out
 have hms30_2 := NB280_268.out
 have hms30_3 := NB280_278.out
 have hms30_4 := NB280_279.out
 have hs31 : w22.cell? ⟨gb280, 2, none⟩ = some (.string (⟨#[]⟩ : ByteArray)) := (blk_cell BK280.out 2).trans rfl
 have hfs31 := blk_frozen BK280.out 2
 have hns31_0 := NB266_280.out
 have hns31_1 := NB267_280.out
 have hns31_2 := NB268_280.out
 have hns31_3 := NB278_280.out
 have hns31_4 := NB279_280.out
 have hms31_0 := NB280_266.out
 have hms31_1 := NB280_267.out
 have hms31_2 := NB280_268.out
 have hms31_3 := NB280_278.out
 have hms31_4 := NB280_279.out
 refine skip_ (w1 := ?_) (by rfl) rfl ?_ ?_
 rotate_left
 ·go_simp
  rfl
 refine hK.out _ _ ⟨((cell_far (p := ⟨gb280, _, none⟩) NB266_280.out _).trans (((cell_far (p := ⟨gb280, _, none⟩) NB266_280.out _).trans (((cell_far (p := ⟨gb280, _, none⟩) NB266_280.out _).trans (hHeld.1)))))), ((cell_far (p := ⟨gb280, _, none⟩) NB266_280.out _).trans (((cell_far (p := ⟨gb280, _, none⟩) NB266_280.out _).trans (((cell_far (p := ⟨gb280, _, none⟩) NB266_280.out _).trans (hHeld.2.1)))))), ((cell_far (p := ⟨gb280, _, none⟩) NB266_280.out _).trans (((cell_far (p := ⟨gb280, _, none⟩) NB266_280.out _).trans (((cell_far (p := ⟨gb280, _, none⟩) NB266_280.out _).trans (hHeld.2.2.1)))))), ((cell_far (p := ⟨gb280, _, none⟩) NB267_280.out _).trans (((cell_far (p := ⟨gb280, _, none⟩) NB267_280.out _).trans (((cell_far (p := ⟨gb280, _, none⟩) NB267_280.out _).trans (hHeld.2.2.2.1)))))), ((cell_far (p := ⟨gb280, _, none⟩) NB267_280.out _).trans (((cell_far (p := ⟨gb280, _, none⟩) NB267_280.out _).trans (((cell_far (p := ⟨gb280, _, none⟩) NB267_280.out _).trans (hHeld.2.2.2.2.1)))))), ((cell_far (p := ⟨gb280, _, none⟩) NB267_280.out _).trans (((cell_far (p := ⟨gb280, _, none⟩) NB267_280.out _).trans (((cell_far (p := ⟨gb280, _, none⟩) NB267_280.out _).trans (hHeld.2.2.2.2.2.1)))))), ((cell_far (p := ⟨gb280, _, none⟩) NB268_280.out _).trans (((cell_far (p := ⟨gb280, _, none⟩) NB268_280.out _).trans (((cell_far (p := ⟨gb280, _, none⟩) NB268_280.out _).trans (hHeld.2.2.2.2.2.2.1)))))), ((cell_far (p := ⟨gb280, _, none⟩) NB268_280.out _).trans (((cell_far (p := ⟨gb280, _, none⟩) NB268_280.out _).trans (((cell_far (p := ⟨gb280, _, none⟩) NB268_280.out _).trans (hHeld.2.2.2.2.2.2.2.1)))))), ((cell_far (p := ⟨gb280, _, none⟩) NB268_280.out _).trans (((cell_far (p := ⟨gb280, _, none⟩) NB268_280.out _).trans (((cell_far (p := ⟨gb280, _, none⟩) NB268_280.out _).trans (hHeld.2.2.2.2.2.2.2.2))))))⟩ (fun hHeld => ?_)
 clear hK K
 refine done_ (done_of HT_.out (by kernel_rfl)) ?_
 have hnb32 := NB278_266.out
 have hnc32 := NB266_278.out
 have hnb33 := NB278_267.out
 have hnc33 := NB267_278.out
 have hnb34 := NB278_268.out
 have hnc34 := NB268_278.out
 have hnb35 := NB278_279.out
 have hnc35 := NB279_278.out
 have hnb36 := NB278_280.out
 have hnc36 := NB280_278.out
 have hcz37_0 : w22.cell? ⟨gb278, 0, none⟩ = some (.int .i64 0) := (blk_cell BK278.out 0).trans rfl
 have hcz37_1 : w22.cell? ⟨gb278, 1, none⟩ = some (.int .i64 0) := (blk_cell BK278.out 1).trans rfl
 have hcz37_2 : w22.cell? ⟨gb278, 2, none⟩ = some (.string (⟨#[]⟩ : ByteArray)) := (blk_cell BK278.out 2).trans rfl
 have hfz37_0 := blk_frozen BK278.out 0
 have hfz37_1 := blk_frozen BK278.out 1
 have hfz37_2 := blk_frozen BK278.out 2
 have hnb38 := NB279_266.out
 have hnc38 := NB266_279.out
 have hnb39 := NB279_267.out
 have hnc39 := NB267_279.out
 have hnb40 := NB279_268.out
 have hnc40 := NB268_279.out
 have hnb41 := NB279_280.out
 have hnc41 := NB280_279.out
 have hcz42_0 : w22.cell? ⟨gb279, 0, none⟩ = some (.int .i64 0) := (blk_cell BK279.out 0).trans rfl
 have hcz42_1 : w22.cell? ⟨gb279, 1, none⟩ = some (.int .i64 0) := (blk_cell BK279.out 1).trans rfl
 have hcz42_2 : w22.cell? ⟨gb279, 2, none⟩ = some (.string (⟨#[]⟩ : ByteArray)) := (blk_cell BK279.out 2).trans rfl
 have hfz42_0 := blk_frozen BK279.out 0
 have hfz42_1 := blk_frozen BK279.out 1
 have hfz42_2 := blk_frozen BK279.out 2
 go_upto_region 6 with (first | ((with_reducible refine gate_callee (f := 19) rfl ?_); refine goesL_ (some 32) rfl rfl Tryz.func19 (by kernel_rfl) rfl #[.agg #[.int .i64 t269, .int .i64 t270, .string t271], .agg #[.int .i64 t272, .int .i64 t273, .string t274]] rfl (by (try simp only [List.map_toArray, List.map_cons, List.map_nil]); first | done | rfl | (simp only [List.length_drop, List.length_take]; rfl)) ?_; (with_reducible refine (tacticianlaw01_less.calls t269 t270 t271 t272 t273 t274 t281 t282 _ A7.out).mono ?_); rintro e w43 ⟨rfl, hb⟩; refine ⟨_, rfl, ?_⟩; have n0_ := Aside0.mk (blk_below (g := gb266) (o := .cells #[.int .i64 a0_0, .int .i64 a0_1, .string a0_2] 25 (0, 0)) (by (with_reducible repeat (first | refine zN ?_ _ | refine zD ?_ | refine zA ?_ _)); refine blk_far ?_ NB266_280.out _; (with_reducible repeat (first | refine zN ?_ _ | refine zD ?_ | refine zA ?_ _)); refine blk_far ?_ NB266_280.out _; (with_reducible repeat (first | refine zN ?_ _ | refine zD ?_ | refine zA ?_ _)); refine blk_far ?_ NB266_280.out _; (with_reducible repeat (first | refine zN ?_ _ | refine zD ?_ | refine zA ?_ _)); refine blk_far ?_ NB266_279.out _; (with_reducible repeat (first | refine zN ?_ _ | refine zD ?_ | refine zA ?_ _)); refine blk_far ?_ NB266_279.out _; (with_reducible repeat (first | refine zN ?_ _ | refine zD ?_ | refine zA ?_ _)); refine blk_far ?_ NB266_279.out _; (with_reducible repeat (first | refine zN ?_ _ | refine zD ?_ | refine zA ?_ _)); refine blk_far ?_ NB266_278.out _; (with_reducible repeat (first | refine zN ?_ _ | refine zD ?_ | refine zA ?_ _)); refine blk_far ?_ NB266_278.out _; (with_reducible repeat (first | refine zN ?_ _ | refine zD ?_ | refine zA ?_ _)); refine blk_far ?_ NB266_278.out _; (with_reducible repeat (first | refine zN ?_ _ | refine zD ?_ | refine zA ?_ _)); exact BK266.out) hb); have n1_ := Aside0.mk (blk_below (g := gb267) (o := .cells #[.int .i64 a1_0, .int .i64 a1_1, .string a1_2] 25 (0, 0)) (by (with_reducible repeat (first | refine zN ?_ _ | refine zD ?_ | refine zA ?_ _)); refine blk_far ?_ NB267_280.out _; (with_reducible repeat (first | refine zN ?_ _ | refine zD ?_ | refine zA ?_ _)); refine blk_far ?_ NB267_280.out _; (with_reducible repeat (first | refine zN ?_ _ | refine zD ?_ | refine zA ?_ _)); refine blk_far ?_ NB267_280.out _; (with_reducible repeat (first | refine zN ?_ _ | refine zD ?_ | refine zA ?_ _)); refine blk_far ?_ NB267_279.out _; (with_reducible repeat (first | refine zN ?_ _ | refine zD ?_ | refine zA ?_ _)); refine blk_far ?_ NB267_279.out _; (with_reducible repeat (first | refine zN ?_ _ | refine zD ?_ | refine zA ?_ _)); refine blk_far ?_ NB267_279.out _; (with_reducible repeat (first | refine zN ?_ _ | refine zD ?_ | refine zA ?_ _)); refine blk_far ?_ NB267_278.out _; (with_reducible repeat (first | refine zN ?_ _ | refine zD ?_ | refine zA ?_ _)); refine blk_far ?_ NB267_278.out _; (with_reducible repeat (first | refine zN ?_ _ | refine zD ?_ | refine zA ?_ _)); refine blk_far ?_ NB267_278.out _; (with_reducible repeat (first | refine zN ?_ _ | refine zD ?_ | refine zA ?_ _)); exact BK267.out) hb); have n2_ := Aside0.mk (blk_below (g := gb268) (o := .cells #[.int .i64 a2_0, .int .i64 a2_1, .string a2_2] 25 (0, 0)) (by (with_reducible repeat (first | refine zN ?_ _ | refine zD ?_ | refine zA ?_ _)); refine blk_far ?_ NB268_280.out _; (with_reducible repeat (first | refine zN ?_ _ | refine zD ?_ | refine zA ?_ _)); refine blk_far ?_ NB268_280.out _; (with_reducible repeat (first | refine zN ?_ _ | refine zD ?_ | refine zA ?_ _)); refine blk_far ?_ NB268_280.out _; (with_reducible repeat (first | refine zN ?_ _ | refine zD ?_ | refine zA ?_ _)); refine blk_far ?_ NB268_279.out _; (with_reducible repeat (first | refine zN ?_ _ | refine zD ?_ | refine zA ?_ _)); refine blk_far ?_ NB268_279.out _; (with_reducible repeat (first | refine zN ?_ _ | refine zD ?_ | refine zA ?_ _)); refine blk_far ?_ NB268_279.out _; (with_reducible repeat (first | refine zN ?_ _ | refine zD ?_ | refine zA ?_ _)); refine blk_far ?_ NB268_278.out _; (with_reducible repeat (first | refine zN ?_ _ | refine zD ?_ | refine zA ?_ _)); refine blk_far ?_ NB268_278.out _; (with_reducible repeat (first | refine zN ?_ _ | refine zD ?_ | refine zA ?_ _)); refine blk_far ?_ NB268_278.out _; (with_reducible repeat (first | refine zN ?_ _ | refine zD ?_ | refine zA ?_ _)); exact BK268.out) hb); have n3_ := Aside0.mk (blk_below (g := gb278) (o := .cells #[.int .i64 t269, .int .i64 t270, .string t271] 25 (0, 0)) (by (with_reducible repeat (first | refine zN ?_ _ | refine zD ?_ | refine zA ?_ _)); refine blk_far ?_ NB278_280.out _; (with_reducible repeat (first | refine zN ?_ _ | refine zD ?_ | refine zA ?_ _)); refine blk_far ?_ NB278_280.out _; (with_reducible repeat (first | refine zN ?_ _ | refine zD ?_ | refine zA ?_ _)); refine blk_far ?_ NB278_280.out _; (with_reducible repeat (first | refine zN ?_ _ | refine zD ?_ | refine zA ?_ _)); refine blk_far ?_ NB278_279.out _; (with_reducible repeat (first | refine zN ?_ _ | refine zD ?_ | refine zA ?_ _)); refine blk_far ?_ NB278_279.out _; (with_reducible repeat (first | refine zN ?_ _ | refine zD ?_ | refine zA ?_ _)); refine blk_far ?_ NB278_279.out _; (with_reducible repeat (first | refine zN ?_ _ | refine zD ?_ | refine zA ?_ _)); refine blk_put (cs := #[.int .i64 t269, .int .i64 t270, .string (⟨#[]⟩ : ByteArray)]) ?_ 2 _ rfl; (with_reducible repeat (first | refine zN ?_ _ | refine zD ?_ | refine zA ?_ _)); refine blk_put (cs := #[.int .i64 t269, .int .i64 0, .string (⟨#[]⟩ : ByteArray)]) ?_ 1 _ rfl; (with_reducible repeat (first | refine zN ?_ _ | refine zD ?_ | refine zA ?_ _)); refine blk_put (cs := #[.int .i64 0, .int .i64 0, .string (⟨#[]⟩ : ByteArray)]) ?_ 0 _ rfl; (with_reducible repeat (first | refine zN ?_ _ | refine zD ?_ | refine zA ?_ _)); exact BK278.out) hb); have n4_ := Aside0.mk (blk_below (g := gb279) (o := .cells #[.int .i64 t272, .int .i64 t273, .string t274] 25 (0, 0)) (by (with_reducible repeat (first | refine zN ?_ _ | refine zD ?_ | refine zA ?_ _)); refine blk_far ?_ NB279_280.out _; (with_reducible repeat (first | refine zN ?_ _ | refine zD ?_ | refine zA ?_ _)); refine blk_far ?_ NB279_280.out _; (with_reducible repeat (first | refine zN ?_ _ | refine zD ?_ | refine zA ?_ _)); refine blk_far ?_ NB279_280.out _; (with_reducible repeat (first | refine zN ?_ _ | refine zD ?_ | refine zA ?_ _)); refine blk_put (cs := #[.int .i64 t272, .int .i64 t273, .string (⟨#[]⟩ : ByteArray)]) ?_ 2 _ rfl; (with_reducible repeat (first | refine zN ?_ _ | refine zD ?_ | refine zA ?_ _)); refine blk_put (cs := #[.int .i64 t272, .int .i64 0, .string (⟨#[]⟩ : ByteArray)]) ?_ 1 _ rfl; (with_reducible repeat (first | refine zN ?_ _ | refine zD ?_ | refine zA ?_ _)); refine blk_put (cs := #[.int .i64 0, .int .i64 0, .string (⟨#[]⟩ : ByteArray)]) ?_ 0 _ rfl; (with_reducible repeat (first | refine zN ?_ _ | refine zD ?_ | refine zA ?_ _)); refine blk_far ?_ NB279_278.out _; (with_reducible repeat (first | refine zN ?_ _ | refine zD ?_ | refine zA ?_ _)); refine blk_far ?_ NB279_278.out _; (with_reducible repeat (first | refine zN ?_ _ | refine zD ?_ | refine zA ?_ _)); refine blk_far ?_ NB279_278.out _; (with_reducible repeat (first | refine zN ?_ _ | refine zD ?_ | refine zA ?_ _)); exact BK279.out) hb); have n5_ := Aside0.mk (blk_below (g := gb280) (o := .cells #[.int .i64 t275, .int .i64 t276, .string t277] 25 (0, 0)) (by (with_reducible repeat (first | refine zN ?_ _ | refine zD ?_ | refine zA ?_ _)); refine blk_put (cs := #[.int .i64 t275, .int .i64 t276, .string (⟨#[]⟩ : ByteArray)]) ?_ 2 _ rfl; (with_reducible repeat (first | refine zN ?_ _ | refine zD ?_ | refine zA ?_ _)); refine blk_put (cs := #[.int .i64 t275, .int .i64 0, .string (⟨#[]⟩ : ByteArray)]) ?_ 1 _ rfl; (with_reducible repeat (first | refine zN ?_ _ | refine zD ?_ | refine zA ?_ _)); refine blk_put (cs := #[.int .i64 0, .int .i64 0, .string (⟨#[]⟩ : ByteArray)]) ?_ 0 _ rfl; (with_reducible repeat (first | refine zN ?_ _ | refine zD ?_ | refine zA ?_ _)); refine blk_far ?_ NB280_279.out _; (with_reducible repeat (first | refine zN ?_ _ | refine zD ?_ | refine zA ?_ _)); refine blk_far ?_ NB280_279.out _; (with_reducible repeat (first | refine zN ?_ _ | refine zD ?_ | refine zA ?_ _)); refine blk_far ?_ NB280_279.out _; (with_reducible repeat (first | refine zN ?_ _ | refine zD ?_ | refine zA ?_ _)); refine blk_far ?_ NB280_278.out _; (with_reducible repeat (first | refine zN ?_ _ | refine zD ?_ | refine zA ?_ _)); refine blk_far ?_ NB280_278.out _; (with_reducible repeat (first | refine zN ?_ _ | refine zD ?_ | refine zA ?_ _)); refine blk_far ?_ NB280_278.out _; (with_reducible repeat (first | refine zN ?_ _ | refine zD ?_ | refine zA ?_ _)); exact BK280.out) hb); have n6_ := Aside0.mk (below_step (by repeat (first | (with_reducible first | exact HB.out | apply yA | apply yN | apply yD | refine below_set ?_ GE266.out | refine below_set ?_ GE267.out | refine below_set ?_ GE268.out | refine below_set ?_ GE278.out | refine below_set ?_ GE279.out | refine below_set ?_ GE280.out) | exact HB.out)) hb); clear BK266; clear BK267; clear BK268; clear BK278; clear BK279; clear BK280; clear HB; have BK266 := n0_; have BK267 := n1_; have BK268 := n2_; have BK278 := n3_; have BK279 := n4_; have BK280 := n5_; have HB := n6_; clear n0_ n1_ n2_ n3_ n4_ n5_ n6_; (try clear hb); (try clear hb2); (try clear hk); (try clear hi); have hcz44_0 : w43.cell? ⟨gb279, 0, none⟩ = some (.int .i64 t272) := (blk_cell BK279.out 0).trans rfl; have hcz44_1 : w43.cell? ⟨gb279, 1, none⟩ = some (.int .i64 t273) := (blk_cell BK279.out 1).trans rfl; have hcz44_2 : w43.cell? ⟨gb279, 2, none⟩ = some (.string t274) := (blk_cell BK279.out 2).trans rfl; have hfz44_0 := blk_frozen BK279.out 0; have hfz44_1 := blk_frozen BK279.out 1; have hfz44_2 := blk_frozen BK279.out 2; have hcz45_0 : w43.cell? ⟨gb278, 0, none⟩ = some (.int .i64 t269) := (blk_cell BK278.out 0).trans rfl; have hcz45_1 : w43.cell? ⟨gb278, 1, none⟩ = some (.int .i64 t270) := (blk_cell BK278.out 1).trans rfl; have hcz45_2 : w43.cell? ⟨gb278, 2, none⟩ = some (.string t271) := (blk_cell BK278.out 2).trans rfl; have hfz45_0 := blk_frozen BK278.out 0; have hfz45_1 := blk_frozen BK278.out 1; have hfz45_2 := blk_frozen BK278.out 2) | ((with_reducible refine gate_callee (f := 19) rfl ?_); refine goesL_ (some 38) rfl rfl Tryz.func19 (by kernel_rfl) rfl #[.agg #[.int .i64 t272, .int .i64 t273, .string t274], .agg #[.int .i64 t269, .int .i64 t270, .string t271]] rfl (by (try simp only [List.map_toArray, List.map_cons, List.map_nil]); first | done | rfl | (simp only [List.length_drop, List.length_take]; rfl)) ?_; (with_reducible refine (tacticianlaw01_less.calls t272 t273 t274 t269 t270 t271 t283 t284 _ A8.out).mono ?_); rintro e w46 ⟨rfl, hb⟩; refine ⟨_, rfl, ?_⟩; have n0_ := Aside0.mk (blk_below (g := gb266) (o := .cells #[.int .i64 a0_0, .int .i64 a0_1, .string a0_2] 25 (0, 0)) (by (with_reducible repeat (first | refine zN ?_ _ | refine zD ?_ | refine zA ?_ _)); exact BK266.out) hb); have n1_ := Aside0.mk (blk_below (g := gb267) (o := .cells #[.int .i64 a1_0, .int .i64 a1_1, .string a1_2] 25 (0, 0)) (by (with_reducible repeat (first | refine zN ?_ _ | refine zD ?_ | refine zA ?_ _)); exact BK267.out) hb); have n2_ := Aside0.mk (blk_below (g := gb268) (o := .cells #[.int .i64 a2_0, .int .i64 a2_1, .string a2_2] 25 (0, 0)) (by (with_reducible repeat (first | refine zN ?_ _ | refine zD ?_ | refine zA ?_ _)); exact BK268.out) hb); have n3_ := Aside0.mk (blk_below (g := gb278) (o := .cells #[.int .i64 t269, .int .i64 t270, .string t271] 25 (0, 0)) (by (with_reducible repeat (first | refine zN ?_ _ | refine zD ?_ | refine zA ?_ _)); exact BK278.out) hb); have n4_ := Aside0.mk (blk_below (g := gb279) (o := .cells #[.int .i64 t272, .int .i64 t273, .string t274] 25 (0, 0)) (by (with_reducible repeat (first | refine zN ?_ _ | refine zD ?_ | refine zA ?_ _)); exact BK279.out) hb); have n5_ := Aside0.mk (blk_below (g := gb280) (o := .cells #[.int .i64 t275, .int .i64 t276, .string t277] 25 (0, 0)) (by (with_reducible repeat (first | refine zN ?_ _ | refine zD ?_ | refine zA ?_ _)); exact BK280.out) hb); have n6_ := Aside0.mk (below_step (by repeat (first | (with_reducible first | exact HB.out | apply yA | apply yN | apply yD | refine below_set ?_ GE266.out | refine below_set ?_ GE267.out | refine below_set ?_ GE268.out | refine below_set ?_ GE278.out | refine below_set ?_ GE279.out | refine below_set ?_ GE280.out) | exact HB.out)) hb); clear BK266; clear BK267; clear BK268; clear BK278; clear BK279; clear BK280; clear HB; have BK266 := n0_; have BK267 := n1_; have BK268 := n2_; have BK278 := n3_; have BK279 := n4_; have BK280 := n5_; have HB := n6_; clear n0_ n1_ n2_ n3_ n4_ n5_ n6_; (try clear hb); (try clear hb2); (try clear hk); (try clear hi); have hcz47_0 : w46.cell? ⟨gb279, 0, none⟩ = some (.int .i64 t272) := (blk_cell BK279.out 0).trans rfl; have hcz47_1 : w46.cell? ⟨gb279, 1, none⟩ = some (.int .i64 t273) := (blk_cell BK279.out 1).trans rfl; have hcz47_2 : w46.cell? ⟨gb279, 2, none⟩ = some (.string t274) := (blk_cell BK279.out 2).trans rfl; have hfz47_0 := blk_frozen BK279.out 0; have hfz47_1 := blk_frozen BK279.out 1; have hfz47_2 := blk_frozen BK279.out 2; have hnb48 := NB280_266.out; have hnc48 := NB266_280.out; have hnb49 := NB280_267.out; have hnc49 := NB267_280.out; have hnb50 := NB280_268.out; have hnc50 := NB268_280.out; have hcz51_0 : w46.cell? ⟨gb280, 0, none⟩ = some (.int .i64 t275) := (blk_cell BK280.out 0).trans rfl; have hcz51_1 : w46.cell? ⟨gb280, 1, none⟩ = some (.int .i64 t276) := (blk_cell BK280.out 1).trans rfl; have hcz51_2 : w46.cell? ⟨gb280, 2, none⟩ = some (.string t277) := (blk_cell BK280.out 2).trans rfl; have hfz51_0 := blk_frozen BK280.out 0; have hfz51_1 := blk_frozen BK280.out 1; have hfz51_2 := blk_frozen BK280.out 2) | ((with_reducible refine gate_callee (f := 19) rfl ?_); refine goesL_ (some 44) rfl rfl Tryz.func19 (by kernel_rfl) rfl #[.agg #[.int .i64 t272, .int .i64 t273, .string t274], .agg #[.int .i64 t275, .int .i64 t276, .string t277]] rfl (by (try simp only [List.map_toArray, List.map_cons, List.map_nil]); first | done | rfl | (simp only [List.length_drop, List.length_take]; rfl)) ?_; (with_reducible refine (tacticianlaw01_less.calls t272 t273 t274 t275 t276 t277 t285 t286 _ A9.out).mono ?_); rintro e w52 ⟨rfl, hb⟩; refine ⟨_, rfl, ?_⟩; have n0_ := Aside0.mk (blk_below (g := gb266) (o := .cells #[.int .i64 a0_0, .int .i64 a0_1, .string a0_2] 25 (0, 0)) (by (with_reducible repeat (first | refine zN ?_ _ | refine zD ?_ | refine zA ?_ _)); exact BK266.out) hb); have n1_ := Aside0.mk (blk_below (g := gb267) (o := .cells #[.int .i64 a1_0, .int .i64 a1_1, .string a1_2] 25 (0, 0)) (by (with_reducible repeat (first | refine zN ?_ _ | refine zD ?_ | refine zA ?_ _)); exact BK267.out) hb); have n2_ := Aside0.mk (blk_below (g := gb268) (o := .cells #[.int .i64 a2_0, .int .i64 a2_1, .string a2_2] 25 (0, 0)) (by (with_reducible repeat (first | refine zN ?_ _ | refine zD ?_ | refine zA ?_ _)); exact BK268.out) hb); have n3_ := Aside0.mk (blk_below (g := gb278) (o := .cells #[.int .i64 t269, .int .i64 t270, .string t271] 25 (0, 0)) (by (with_reducible repeat (first | refine zN ?_ _ | refine zD ?_ | refine zA ?_ _)); exact BK278.out) hb); have n4_ := Aside0.mk (blk_below (g := gb279) (o := .cells #[.int .i64 t272, .int .i64 t273, .string t274] 25 (0, 0)) (by (with_reducible repeat (first | refine zN ?_ _ | refine zD ?_ | refine zA ?_ _)); exact BK279.out) hb); have n5_ := Aside0.mk (blk_below (g := gb280) (o := .cells #[.int .i64 t275, .int .i64 t276, .string t277] 25 (0, 0)) (by (with_reducible repeat (first | refine zN ?_ _ | refine zD ?_ | refine zA ?_ _)); exact BK280.out) hb); have n6_ := Aside0.mk (below_step (by repeat (first | (with_reducible first | exact HB.out | apply yA | apply yN | apply yD | refine below_set ?_ GE266.out | refine below_set ?_ GE267.out | refine below_set ?_ GE268.out | refine below_set ?_ GE278.out | refine below_set ?_ GE279.out | refine below_set ?_ GE280.out) | exact HB.out)) hb); clear BK266; clear BK267; clear BK268; clear BK278; clear BK279; clear BK280; clear HB; have BK266 := n0_; have BK267 := n1_; have BK268 := n2_; have BK278 := n3_; have BK279 := n4_; have BK280 := n5_; have HB := n6_; clear n0_ n1_ n2_ n3_ n4_ n5_ n6_; (try clear hb); (try clear hb2); (try clear hk); (try clear hi); have hcz53_0 : w52.cell? ⟨gb278, 0, none⟩ = some (.int .i64 t269) := (blk_cell BK278.out 0).trans rfl; have hcz53_1 : w52.cell? ⟨gb278, 1, none⟩ = some (.int .i64 t270) := (blk_cell BK278.out 1).trans rfl; have hcz53_2 : w52.cell? ⟨gb278, 2, none⟩ = some (.string t271) := (blk_cell BK278.out 2).trans rfl; have hfz53_0 := blk_frozen BK278.out 0; have hfz53_1 := blk_frozen BK278.out 1; have hfz53_2 := blk_frozen BK278.out 2; have hcz54_0 : w52.cell? ⟨gb280, 0, none⟩ = some (.int .i64 t275) := (blk_cell BK280.out 0).trans rfl; have hcz54_1 : w52.cell? ⟨gb280, 1, none⟩ = some (.int .i64 t276) := (blk_cell BK280.out 1).trans rfl; have hcz54_2 : w52.cell? ⟨gb280, 2, none⟩ = some (.string t277) := (blk_cell BK280.out 2).trans rfl; have hfz54_0 := blk_frozen BK280.out 0; have hfz54_1 := blk_frozen BK280.out 1; have hfz54_2 := blk_frozen BK280.out 2) | ((with_reducible refine gate_callee (f := 19) rfl ?_); refine goesL_ (some 50) rfl rfl Tryz.func19 (by kernel_rfl) rfl #[.agg #[.int .i64 t269, .int .i64 t270, .string t271], .agg #[.int .i64 t275, .int .i64 t276, .string t277]] rfl (by (try simp only [List.map_toArray, List.map_cons, List.map_nil]); first | done | rfl | (simp only [List.length_drop, List.length_take]; rfl)) ?_; (with_reducible refine (tacticianlaw01_less.calls t269 t270 t271 t275 t276 t277 t287 t288 _ A10.out).mono ?_); rintro e w55 ⟨rfl, hb⟩; refine ⟨_, rfl, ?_⟩; have n0_ := Aside0.mk (blk_below (g := gb266) (o := .cells #[.int .i64 a0_0, .int .i64 a0_1, .string a0_2] 25 (0, 0)) (by (with_reducible repeat (first | refine zN ?_ _ | refine zD ?_ | refine zA ?_ _)); exact BK266.out) hb); have n1_ := Aside0.mk (blk_below (g := gb267) (o := .cells #[.int .i64 a1_0, .int .i64 a1_1, .string a1_2] 25 (0, 0)) (by (with_reducible repeat (first | refine zN ?_ _ | refine zD ?_ | refine zA ?_ _)); exact BK267.out) hb); have n2_ := Aside0.mk (blk_below (g := gb268) (o := .cells #[.int .i64 a2_0, .int .i64 a2_1, .string a2_2] 25 (0, 0)) (by (with_reducible repeat (first | refine zN ?_ _ | refine zD ?_ | refine zA ?_ _)); exact BK268.out) hb); have n3_ := Aside0.mk (blk_below (g := gb278) (o := .cells #[.int .i64 t269, .int .i64 t270, .string t271] 25 (0, 0)) (by (with_reducible repeat (first | refine zN ?_ _ | refine zD ?_ | refine zA ?_ _)); exact BK278.out) hb); have n4_ := Aside0.mk (blk_below (g := gb279) (o := .cells #[.int .i64 t272, .int .i64 t273, .string t274] 25 (0, 0)) (by (with_reducible repeat (first | refine zN ?_ _ | refine zD ?_ | refine zA ?_ _)); exact BK279.out) hb); have n5_ := Aside0.mk (blk_below (g := gb280) (o := .cells #[.int .i64 t275, .int .i64 t276, .string t277] 25 (0, 0)) (by (with_reducible repeat (first | refine zN ?_ _ | refine zD ?_ | refine zA ?_ _)); exact BK280.out) hb); have n6_ := Aside0.mk (below_step (by repeat (first | (with_reducible first | exact HB.out | apply yA | apply yN | apply yD | refine below_set ?_ GE266.out | refine below_set ?_ GE267.out | refine below_set ?_ GE268.out | refine below_set ?_ GE278.out | refine below_set ?_ GE279.out | refine below_set ?_ GE280.out) | exact HB.out)) hb); clear BK266; clear BK267; clear BK268; clear BK278; clear BK279; clear BK280; clear HB; have BK266 := n0_; have BK267 := n1_; have BK268 := n2_; have BK278 := n3_; have BK279 := n4_; have BK280 := n5_; have HB := n6_; clear n0_ n1_ n2_ n3_ n4_ n5_ n6_; (try clear hb); (try clear hb2); (try clear hk); (try clear hi)))
 (try simp only [Act.put, List.setIfInBounds_toArray, List.set_cons_zero, List.set_cons_succ])
 go_cut [104] (fun v104 wc => ∃ (kq : Nat) (x104_10 : Bool), v104 = .bool x104_10 ∧ Aside0 (tacticianlaw01_ValueOrder.j0 kq x104_10 t269 t270 t271 t272 t273 t274 t275 t276 t277 = some r) ∧ Aside0 (kq ≤ k) ∧ Aside0 (wc.heap[gb266]? = some (.cells #[.int .i64 a0_0, .int .i64 a0_1, .string a0_2] 25 (0, 0))) ∧ Aside0 (wc.heap[gb267]? = some (.cells #[.int .i64 a1_0, .int .i64 a1_1, .string a1_2] 25 (0, 0))) ∧ Aside0 (wc.heap[gb268]? = some (.cells #[.int .i64 a2_0, .int .i64 a2_1, .string a2_2] 25 (0, 0))) ∧ Aside0 (wc.heap[gb278]? = some (.cells #[.int .i64 t269, .int .i64 t270, .string t271] 25 (0, 0))) ∧ Aside0 (wc.heap[gb279]? = some (.cells #[.int .i64 t272, .int .i64 t273, .string t274] 25 (0, 0))) ∧ Aside0 (wc.heap[gb280]? = some (.cells #[.int .i64 t275, .int .i64 t276, .string t277] 25 (0, 0))) ∧ Aside0 (Below w.heap.size w wc))
 case first =>
  have H := HC11.out
  clear HC11
  by_cases c56 : t282 = true
  ·subst c56
   have H1 : (if t284 = true then (if t286 = true then (if t288 = true then (if t281 = (wrap64 (-t283)) then (if ((t281 == 0) != (t269 == t272 && (t270 == t273 && (t271.toList == t274.toList)))) = true then (tacticianlaw01_ValueOrder.j0 k true t269 t270 t271 t272 t273 t274 t275 t276 t277) else (if t281 ≤ 0 then (if t285 ≤ 0 then (if t287 > 0 then (tacticianlaw01_ValueOrder.j0 k true t269 t270 t271 t272 t273 t274 t275 t276 t277) else (if t281 < 0 then (tacticianlaw01_ValueOrder.j0 k (decide (t287 ≥ 0)) t269 t270 t271 t272 t273 t274 t275 t276 t277) else (tacticianlaw01_ValueOrder.j0 k false t269 t270 t271 t272 t273 t274 t275 t276 t277))) else (if t281 < 0 then (tacticianlaw01_ValueOrder.j0 k false t269 t270 t271 t272 t273 t274 t275 t276 t277) else (tacticianlaw01_ValueOrder.j0 k false t269 t270 t271 t272 t273 t274 t275 t276 t277))) else (if t281 < 0 then (if t285 ≤ 0 then (tacticianlaw01_ValueOrder.j0 k (decide (t287 ≥ 0)) t269 t270 t271 t272 t273 t274 t275 t276 t277) else (tacticianlaw01_ValueOrder.j0 k false t269 t270 t271 t272 t273 t274 t275 t276 t277)) else (tacticianlaw01_ValueOrder.j0 k false t269 t270 t271 t272 t273 t274 t275 t276 t277)))) else (tacticianlaw01_ValueOrder.j0 k true t269 t270 t271 t272 t273 t274 t275 t276 t277)) else (tacticianlaw01_ValueOrder.j0 k true t269 t270 t271 t272 t273 t274 t275 t276 t277)) else (tacticianlaw01_ValueOrder.j0 k true t269 t270 t271 t272 t273 t274 t275 t276 t277)) else (tacticianlaw01_ValueOrder.j0 k true t269 t270 t271 t272 t273 t274 t275 t276 t277)) = some r := by rw [if_pos rfl] at H; exact H
   clear H
   have H := H1
   clear H1
   by_cases c57 : t284 = true
   ·subst c57
    have H1 : (if t286 = true then (if t288 = true then (if t281 = (wrap64 (-t283)) then (if ((t281 == 0) != (t269 == t272 && (t270 == t273 && (t271.toList == t274.toList)))) = true then (tacticianlaw01_ValueOrder.j0 k true t269 t270 t271 t272 t273 t274 t275 t276 t277) else (if t281 ≤ 0 then (if t285 ≤ 0 then (if t287 > 0 then (tacticianlaw01_ValueOrder.j0 k true t269 t270 t271 t272 t273 t274 t275 t276 t277) else (if t281 < 0 then (tacticianlaw01_ValueOrder.j0 k (decide (t287 ≥ 0)) t269 t270 t271 t272 t273 t274 t275 t276 t277) else (tacticianlaw01_ValueOrder.j0 k false t269 t270 t271 t272 t273 t274 t275 t276 t277))) else (if t281 < 0 then (tacticianlaw01_ValueOrder.j0 k false t269 t270 t271 t272 t273 t274 t275 t276 t277) else (tacticianlaw01_ValueOrder.j0 k false t269 t270 t271 t272 t273 t274 t275 t276 t277))) else (if t281 < 0 then (if t285 ≤ 0 then (tacticianlaw01_ValueOrder.j0 k (decide (t287 ≥ 0)) t269 t270 t271 t272 t273 t274 t275 t276 t277) else (tacticianlaw01_ValueOrder.j0 k false t269 t270 t271 t272 t273 t274 t275 t276 t277)) else (tacticianlaw01_ValueOrder.j0 k false t269 t270 t271 t272 t273 t274 t275 t276 t277)))) else (tacticianlaw01_ValueOrder.j0 k true t269 t270 t271 t272 t273 t274 t275 t276 t277)) else (tacticianlaw01_ValueOrder.j0 k true t269 t270 t271 t272 t273 t274 t275 t276 t277)) else (tacticianlaw01_ValueOrder.j0 k true t269 t270 t271 t272 t273 t274 t275 t276 t277)) = some r := by rw [if_pos rfl] at H; exact H
    clear H
    have H := H1
    clear H1
    by_cases c58 : t286 = true
    ·subst c58
     have H1 : (if t288 = true then (if t281 = (wrap64 (-t283)) then (if ((t281 == 0) != (t269 == t272 && (t270 == t273 && (t271.toList == t274.toList)))) = true then (tacticianlaw01_ValueOrder.j0 k true t269 t270 t271 t272 t273 t274 t275 t276 t277) else (if t281 ≤ 0 then (if t285 ≤ 0 then (if t287 > 0 then (tacticianlaw01_ValueOrder.j0 k true t269 t270 t271 t272 t273 t274 t275 t276 t277) else (if t281 < 0 then (tacticianlaw01_ValueOrder.j0 k (decide (t287 ≥ 0)) t269 t270 t271 t272 t273 t274 t275 t276 t277) else (tacticianlaw01_ValueOrder.j0 k false t269 t270 t271 t272 t273 t274 t275 t276 t277))) else (if t281 < 0 then (tacticianlaw01_ValueOrder.j0 k false t269 t270 t271 t272 t273 t274 t275 t276 t277) else (tacticianlaw01_ValueOrder.j0 k false t269 t270 t271 t272 t273 t274 t275 t276 t277))) else (if t281 < 0 then (if t285 ≤ 0 then (tacticianlaw01_ValueOrder.j0 k (decide (t287 ≥ 0)) t269 t270 t271 t272 t273 t274 t275 t276 t277) else (tacticianlaw01_ValueOrder.j0 k false t269 t270 t271 t272 t273 t274 t275 t276 t277)) else (tacticianlaw01_ValueOrder.j0 k false t269 t270 t271 t272 t273 t274 t275 t276 t277)))) else (tacticianlaw01_ValueOrder.j0 k true t269 t270 t271 t272 t273 t274 t275 t276 t277)) else (tacticianlaw01_ValueOrder.j0 k true t269 t270 t271 t272 t273 t274 t275 t276 t277)) = some r := by rw [if_pos rfl] at H; exact H
     clear H
     have H := H1
     clear H1
     by_cases c59 : t288 = true
     ·subst c59
      have H1 : (if t281 = (wrap64 (-t283)) then (if ((t281 == 0) != (t269 == t272 && (t270 == t273 && (t271.toList == t274.toList)))) = true then (tacticianlaw01_ValueOrder.j0 k true t269 t270 t271 t272 t273 t274 t275 t276 t277) else (if t281 ≤ 0 then (if t285 ≤ 0 then (if t287 > 0 then (tacticianlaw01_ValueOrder.j0 k true t269 t270 t271 t272 t273 t274 t275 t276 t277) else (if t281 < 0 then (tacticianlaw01_ValueOrder.j0 k (decide (t287 ≥ 0)) t269 t270 t271 t272 t273 t274 t275 t276 t277) else (tacticianlaw01_ValueOrder.j0 k false t269 t270 t271 t272 t273 t274 t275 t276 t277))) else (if t281 < 0 then (tacticianlaw01_ValueOrder.j0 k false t269 t270 t271 t272 t273 t274 t275 t276 t277) else (tacticianlaw01_ValueOrder.j0 k false t269 t270 t271 t272 t273 t274 t275 t276 t277))) else (if t281 < 0 then (if t285 ≤ 0 then (tacticianlaw01_ValueOrder.j0 k (decide (t287 ≥ 0)) t269 t270 t271 t272 t273 t274 t275 t276 t277) else (tacticianlaw01_ValueOrder.j0 k false t269 t270 t271 t272 t273 t274 t275 t276 t277)) else (tacticianlaw01_ValueOrder.j0 k false t269 t270 t271 t272 t273 t274 t275 t276 t277)))) else (tacticianlaw01_ValueOrder.j0 k true t269 t270 t271 t272 t273 t274 t275 t276 t277)) = some r := by rw [if_pos rfl] at H; exact H
      clear H
      have H := H1
      clear H1
      by_cases c60 : t281 = (wrap64 (-t283))
      ·rw [if_pos c60] at H
       have c60b0 : (t281 == (wrap64 (-t283))) = true := beq_iff_eq.mpr c60
       have c60b1 : (t281 != (wrap64 (-t283))) = false := bne_eq_false_iff_eq.mpr c60
       clear c60
       (first | rw [c60b0] | (simp only [i64_w, i32_w]; rw [c60b0]) | skip)
       by_cases c61 : ((t281 == 0) != (t269 == t272 && (t270 == t273 && (t271.toList == t274.toList)))) = true
       ·rw [if_pos c61] at H
        have c61b0 : ((t281 == 0) != (t269 == t272 && (t270 == t273 && (t271.toList == t274.toList)))) = true := c61
        (try (have c61b1 : decide ((t281 == 0) = (t269 == t272 && (t270 == t273 && (t271.toList == t274.toList)))) = false := by simpa using c61))
        (try (have c61b2 : ((t281 == 0) == (t269 == t272 && (t270 == t273 && (t271.toList == t274.toList)))) = false := by simpa using c61))
        (try (have c61b3 : ¬ ((t281 == 0) = (t269 == t272 && (t270 == t273 && (t271.toList == t274.toList)))) := by simpa using c61))
        clear c61
        have H' := Aside0.mk H
        clear H
        have hnb62 := NB278_266.out
        have hnc62 := NB266_278.out
        have hnb63 := NB278_267.out
        have hnc63 := NB267_278.out
        have hnb64 := NB278_268.out
        have hnc64 := NB268_278.out
        have hnb65 := NB278_279.out
        have hnc65 := NB279_278.out
        have hnb66 := NB278_280.out
        have hnc66 := NB280_278.out
        have hcz67_0 : w55.cell? ⟨gb278, 0, none⟩ = some (.int .i64 t269) := (blk_cell BK278.out 0).trans rfl
        have hcz67_1 : w55.cell? ⟨gb278, 1, none⟩ = some (.int .i64 t270) := (blk_cell BK278.out 1).trans rfl
        have hcz67_2 : w55.cell? ⟨gb278, 2, none⟩ = some (.string t271) := (blk_cell BK278.out 2).trans rfl
        have hfz67_0 := blk_frozen BK278.out 0
        have hfz67_1 := blk_frozen BK278.out 1
        have hfz67_2 := blk_frozen BK278.out 2
        have hnb68 := NB279_266.out
        have hnc68 := NB266_279.out
        have hnb69 := NB279_267.out
        have hnc69 := NB267_279.out
        have hnb70 := NB279_268.out
        have hnc70 := NB268_279.out
        have hnb71 := NB279_280.out
        have hnc71 := NB280_279.out
        have hcz72_0 : w55.cell? ⟨gb279, 0, none⟩ = some (.int .i64 t272) := (blk_cell BK279.out 0).trans rfl
        have hcz72_1 : w55.cell? ⟨gb279, 1, none⟩ = some (.int .i64 t273) := (blk_cell BK279.out 1).trans rfl
        have hcz72_2 : w55.cell? ⟨gb279, 2, none⟩ = some (.string t274) := (blk_cell BK279.out 2).trans rfl
        have hfz72_0 := blk_frozen BK279.out 0
        have hfz72_1 := blk_frozen BK279.out 1
        have hfz72_2 := blk_frozen BK279.out 2
        go_wp2
        go_meet
        case rel => exact ⟨_, (true), (by first | rfl | (simp; done) | (simp [*]; done)), H', ⟨by first | omega | exact Nat.le_refl _⟩, ⟨by (with_reducible repeat (first | refine zN ?_ _ | refine zD ?_ | refine zA ?_ _)); exact BK266.out⟩, ⟨by (with_reducible repeat (first | refine zN ?_ _ | refine zD ?_ | refine zA ?_ _)); exact BK267.out⟩, ⟨by (with_reducible repeat (first | refine zN ?_ _ | refine zD ?_ | refine zA ?_ _)); exact BK268.out⟩, ⟨by (with_reducible repeat (first | refine zN ?_ _ | refine zD ?_ | refine zA ?_ _)); exact BK278.out⟩, ⟨by (with_reducible repeat (first | refine zN ?_ _ | refine zD ?_ | refine zA ?_ _)); exact BK279.out⟩, ⟨by (with_reducible repeat (first | refine zN ?_ _ | refine zD ?_ | refine zA ?_ _)); exact BK280.out⟩, ⟨by repeat (first | (with_reducible first | exact HB.out | apply yA | apply yN | apply yD | refine below_set ?_ GE266.out | refine below_set ?_ GE267.out | refine below_set ?_ GE268.out | refine below_set ?_ GE278.out | refine below_set ?_ GE279.out | refine below_set ?_ GE280.out) | exact HB.out)⟩⟩
       ·rw [if_neg c61] at H
        have c61b0 : ((t281 == 0) != (t269 == t272 && (t270 == t273 && (t271.toList == t274.toList)))) = false := by simpa using c61
        (try (have c61b1 : decide ((t281 == 0) = (t269 == t272 && (t270 == t273 && (t271.toList == t274.toList)))) = true := by simpa using c61))
        (try (have c61b2 : ((t281 == 0) == (t269 == t272 && (t270 == t273 && (t271.toList == t274.toList)))) = true := by simpa using c61))
        clear c61
        by_cases c73 : t281 ≤ 0
        ·rw [if_pos c73] at H
         have c73b0 : decide (t281 ≤ 0) = true := decide_eq_true c73
         clear c73
         by_cases c74 : t285 ≤ 0
         ·rw [if_pos c74] at H
          have c74b0 : decide (t285 ≤ 0) = true := decide_eq_true c74
          clear c74
          by_cases c75 : t287 > 0
          ·rw [if_pos c75] at H
           have c75b0 : decide (0 < t287) = true := decide_eq_true c75
           clear c75
           have H' := Aside0.mk H
           clear H
           have hnb76 := NB278_266.out
           have hnc76 := NB266_278.out
           have hnb77 := NB278_267.out
           have hnc77 := NB267_278.out
           have hnb78 := NB278_268.out
           have hnc78 := NB268_278.out
           have hnb79 := NB278_279.out
           have hnc79 := NB279_278.out
           have hnb80 := NB278_280.out
           have hnc80 := NB280_278.out
           have hcz81_0 : w55.cell? ⟨gb278, 0, none⟩ = some (.int .i64 t269) := (blk_cell BK278.out 0).trans rfl
           have hcz81_1 : w55.cell? ⟨gb278, 1, none⟩ = some (.int .i64 t270) := (blk_cell BK278.out 1).trans rfl
           have hcz81_2 : w55.cell? ⟨gb278, 2, none⟩ = some (.string t271) := (blk_cell BK278.out 2).trans rfl
           have hfz81_0 := blk_frozen BK278.out 0
           have hfz81_1 := blk_frozen BK278.out 1
           have hfz81_2 := blk_frozen BK278.out 2
           have hnb82 := NB279_266.out
           have hnc82 := NB266_279.out
           have hnb83 := NB279_267.out
           have hnc83 := NB267_279.out
           have hnb84 := NB279_268.out
           have hnc84 := NB268_279.out
           have hnb85 := NB279_280.out
           have hnc85 := NB280_279.out
           have hcz86_0 : w55.cell? ⟨gb279, 0, none⟩ = some (.int .i64 t272) := (blk_cell BK279.out 0).trans rfl
           have hcz86_1 : w55.cell? ⟨gb279, 1, none⟩ = some (.int .i64 t273) := (blk_cell BK279.out 1).trans rfl
           have hcz86_2 : w55.cell? ⟨gb279, 2, none⟩ = some (.string t274) := (blk_cell BK279.out 2).trans rfl
           have hfz86_0 := blk_frozen BK279.out 0
           have hfz86_1 := blk_frozen BK279.out 1
           have hfz86_2 := blk_frozen BK279.out 2
           go_wp2
           go_meet
           case rel => exact ⟨_, (true), (by first | rfl | (simp; done) | (simp [*]; done)), H', ⟨by first | omega | exact Nat.le_refl _⟩, ⟨by (with_reducible repeat (first | refine zN ?_ _ | refine zD ?_ | refine zA ?_ _)); exact BK266.out⟩, ⟨by (with_reducible repeat (first | refine zN ?_ _ | refine zD ?_ | refine zA ?_ _)); exact BK267.out⟩, ⟨by (with_reducible repeat (first | refine zN ?_ _ | refine zD ?_ | refine zA ?_ _)); exact BK268.out⟩, ⟨by (with_reducible repeat (first | refine zN ?_ _ | refine zD ?_ | refine zA ?_ _)); exact BK278.out⟩, ⟨by (with_reducible repeat (first | refine zN ?_ _ | refine zD ?_ | refine zA ?_ _)); exact BK279.out⟩, ⟨by (with_reducible repeat (first | refine zN ?_ _ | refine zD ?_ | refine zA ?_ _)); exact BK280.out⟩, ⟨by repeat (first | (with_reducible first | exact HB.out | apply yA | apply yN | apply yD | refine below_set ?_ GE266.out | refine below_set ?_ GE267.out | refine below_set ?_ GE268.out | refine below_set ?_ GE278.out | refine below_set ?_ GE279.out | refine below_set ?_ GE280.out) | exact HB.out)⟩⟩
          ·rw [if_neg c75] at H
           have c75b0 : decide (0 < t287) = false := decide_eq_false c75
           clear c75
           by_cases c87 : t281 < 0
           ·rw [if_pos c87] at H
            have c87b0 : decide (t281 < 0) = true := decide_eq_true c87
            clear c87
            have H' := Aside0.mk H
            clear H
            have hnb88 := NB278_266.out
            have hnc88 := NB266_278.out
            have hnb89 := NB278_267.out
            have hnc89 := NB267_278.out
            have hnb90 := NB278_268.out
            have hnc90 := NB268_278.out
            have hnb91 := NB278_279.out
            have hnc91 := NB279_278.out
            have hnb92 := NB278_280.out
            have hnc92 := NB280_278.out
            have hcz93_0 : w55.cell? ⟨gb278, 0, none⟩ = some (.int .i64 t269) := (blk_cell BK278.out 0).trans rfl
            have hcz93_1 : w55.cell? ⟨gb278, 1, none⟩ = some (.int .i64 t270) := (blk_cell BK278.out 1).trans rfl
            have hcz93_2 : w55.cell? ⟨gb278, 2, none⟩ = some (.string t271) := (blk_cell BK278.out 2).trans rfl
            have hfz93_0 := blk_frozen BK278.out 0
            have hfz93_1 := blk_frozen BK278.out 1
            have hfz93_2 := blk_frozen BK278.out 2
            have hnb94 := NB279_266.out
            have hnc94 := NB266_279.out
            have hnb95 := NB279_267.out
            have hnc95 := NB267_279.out
            have hnb96 := NB279_268.out
            have hnc96 := NB268_279.out
            have hnb97 := NB279_280.out
            have hnc97 := NB280_279.out
            have hcz98_0 : w55.cell? ⟨gb279, 0, none⟩ = some (.int .i64 t272) := (blk_cell BK279.out 0).trans rfl
            have hcz98_1 : w55.cell? ⟨gb279, 1, none⟩ = some (.int .i64 t273) := (blk_cell BK279.out 1).trans rfl
            have hcz98_2 : w55.cell? ⟨gb279, 2, none⟩ = some (.string t274) := (blk_cell BK279.out 2).trans rfl
            have hfz98_0 := blk_frozen BK279.out 0
            have hfz98_1 := blk_frozen BK279.out 1
            have hfz98_2 := blk_frozen BK279.out 2
            go_wp2
            go_meet
            case rel => exact ⟨_, (decide (t287 ≥ 0)), (by first | rfl | (simp; done) | (simp [*]; done)), H', ⟨by first | omega | exact Nat.le_refl _⟩, ⟨by (with_reducible repeat (first | refine zN ?_ _ | refine zD ?_ | refine zA ?_ _)); exact BK266.out⟩, ⟨by (with_reducible repeat (first | refine zN ?_ _ | refine zD ?_ | refine zA ?_ _)); exact BK267.out⟩, ⟨by (with_reducible repeat (first | refine zN ?_ _ | refine zD ?_ | refine zA ?_ _)); exact BK268.out⟩, ⟨by (with_reducible repeat (first | refine zN ?_ _ | refine zD ?_ | refine zA ?_ _)); exact BK278.out⟩, ⟨by (with_reducible repeat (first | refine zN ?_ _ | refine zD ?_ | refine zA ?_ _)); exact BK279.out⟩, ⟨by (with_reducible repeat (first | refine zN ?_ _ | refine zD ?_ | refine zA ?_ _)); exact BK280.out⟩, ⟨by repeat (first | (with_reducible first | exact HB.out | apply yA | apply yN | apply yD | refine below_set ?_ GE266.out | refine below_set ?_ GE267.out | refine below_set ?_ GE268.out | refine below_set ?_ GE278.out | refine below_set ?_ GE279.out | refine below_set ?_ GE280.out) | exact HB.out)⟩⟩
           ·rw [if_neg c87] at H
            have c87b0 : decide (t281 < 0) = false := decide_eq_false c87
            clear c87
            have H' := Aside0.mk H
            clear H
            have hnb99 := NB278_266.out
            have hnc99 := NB266_278.out
            have hnb100 := NB278_267.out
            have hnc100 := NB267_278.out
            have hnb101 := NB278_268.out
            have hnc101 := NB268_278.out
            have hnb102 := NB278_279.out
            have hnc102 := NB279_278.out
            have hnb103 := NB278_280.out
            have hnc103 := NB280_278.out
            have hcz104_0 : w55.cell? ⟨gb278, 0, none⟩ = some (.int .i64 t269) := (blk_cell BK278.out 0).trans rfl
            have hcz104_1 : w55.cell? ⟨gb278, 1, none⟩ = some (.int .i64 t270) := (blk_cell BK278.out 1).trans rfl
            have hcz104_2 : w55.cell? ⟨gb278, 2, none⟩ = some (.string t271) := (blk_cell BK278.out 2).trans rfl
            have hfz104_0 := blk_frozen BK278.out 0
            have hfz104_1 := blk_frozen BK278.out 1
            have hfz104_2 := blk_frozen BK278.out 2
            have hnb105 := NB279_266.out
            have hnc105 := NB266_279.out
            have hnb106 := NB279_267.out
            have hnc106 := NB267_279.out
            have hnb107 := NB279_268.out
            have hnc107 := NB268_279.out
            have hnb108 := NB279_280.out
            have hnc108 := NB280_279.out
            have hcz109_0 : w55.cell? ⟨gb279, 0, none⟩ = some (.int .i64 t272) := (blk_cell BK279.out 0).trans rfl
            have hcz109_1 : w55.cell? ⟨gb279, 1, none⟩ = some (.int .i64 t273) := (blk_cell BK279.out 1).trans rfl
            have hcz109_2 : w55.cell? ⟨gb279, 2, none⟩ = some (.string t274) := (blk_cell BK279.out 2).trans rfl
            have hfz109_0 := blk_frozen BK279.out 0
            have hfz109_1 := blk_frozen BK279.out 1
            have hfz109_2 := blk_frozen BK279.out 2
            go_wp2
            go_meet
            case rel => exact ⟨_, (false), (by first | rfl | (simp; done) | (simp [*]; done)), H', ⟨by first | omega | exact Nat.le_refl _⟩, ⟨by (with_reducible repeat (first | refine zN ?_ _ | refine zD ?_ | refine zA ?_ _)); exact BK266.out⟩, ⟨by (with_reducible repeat (first | refine zN ?_ _ | refine zD ?_ | refine zA ?_ _)); exact BK267.out⟩, ⟨by (with_reducible repeat (first | refine zN ?_ _ | refine zD ?_ | refine zA ?_ _)); exact BK268.out⟩, ⟨by (with_reducible repeat (first | refine zN ?_ _ | refine zD ?_ | refine zA ?_ _)); exact BK278.out⟩, ⟨by (with_reducible repeat (first | refine zN ?_ _ | refine zD ?_ | refine zA ?_ _)); exact BK279.out⟩, ⟨by (with_reducible repeat (first | refine zN ?_ _ | refine zD ?_ | refine zA ?_ _)); exact BK280.out⟩, ⟨by repeat (first | (with_reducible first | exact HB.out | apply yA | apply yN | apply yD | refine below_set ?_ GE266.out | refine below_set ?_ GE267.out | refine below_set ?_ GE268.out | refine below_set ?_ GE278.out | refine below_set ?_ GE279.out | refine below_set ?_ GE280.out) | exact HB.out)⟩⟩
         ·rw [if_neg c74] at H
          have c74b0 : decide (t285 ≤ 0) = false := decide_eq_false c74
          clear c74
          by_cases c110 : t281 < 0
          ·rw [if_pos c110] at H
           have c110b0 : decide (t281 < 0) = true := decide_eq_true c110
           clear c110
           have H' := Aside0.mk H
           clear H
           have hnb111 := NB278_266.out
           have hnc111 := NB266_278.out
           have hnb112 := NB278_267.out
           have hnc112 := NB267_278.out
           have hnb113 := NB278_268.out
           have hnc113 := NB268_278.out
           have hnb114 := NB278_279.out
           have hnc114 := NB279_278.out
           have hnb115 := NB278_280.out
           have hnc115 := NB280_278.out
           have hcz116_0 : w55.cell? ⟨gb278, 0, none⟩ = some (.int .i64 t269) := (blk_cell BK278.out 0).trans rfl
           have hcz116_1 : w55.cell? ⟨gb278, 1, none⟩ = some (.int .i64 t270) := (blk_cell BK278.out 1).trans rfl
           have hcz116_2 : w55.cell? ⟨gb278, 2, none⟩ = some (.string t271) := (blk_cell BK278.out 2).trans rfl
           have hfz116_0 := blk_frozen BK278.out 0
           have hfz116_1 := blk_frozen BK278.out 1
           have hfz116_2 := blk_frozen BK278.out 2
           have hnb117 := NB279_266.out
           have hnc117 := NB266_279.out
           have hnb118 := NB279_267.out
           have hnc118 := NB267_279.out
           have hnb119 := NB279_268.out
           have hnc119 := NB268_279.out
           have hnb120 := NB279_280.out
           have hnc120 := NB280_279.out
           have hcz121_0 : w55.cell? ⟨gb279, 0, none⟩ = some (.int .i64 t272) := (blk_cell BK279.out 0).trans rfl
           have hcz121_1 : w55.cell? ⟨gb279, 1, none⟩ = some (.int .i64 t273) := (blk_cell BK279.out 1).trans rfl
           have hcz121_2 : w55.cell? ⟨gb279, 2, none⟩ = some (.string t274) := (blk_cell BK279.out 2).trans rfl
           have hfz121_0 := blk_frozen BK279.out 0
           have hfz121_1 := blk_frozen BK279.out 1
           have hfz121_2 := blk_frozen BK279.out 2
           go_wp2
           go_meet
           case rel => exact ⟨_, (false), (by first | rfl | (simp; done) | (simp [*]; done)), H', ⟨by first | omega | exact Nat.le_refl _⟩, ⟨by (with_reducible repeat (first | refine zN ?_ _ | refine zD ?_ | refine zA ?_ _)); exact BK266.out⟩, ⟨by (with_reducible repeat (first | refine zN ?_ _ | refine zD ?_ | refine zA ?_ _)); exact BK267.out⟩, ⟨by (with_reducible repeat (first | refine zN ?_ _ | refine zD ?_ | refine zA ?_ _)); exact BK268.out⟩, ⟨by (with_reducible repeat (first | refine zN ?_ _ | refine zD ?_ | refine zA ?_ _)); exact BK278.out⟩, ⟨by (with_reducible repeat (first | refine zN ?_ _ | refine zD ?_ | refine zA ?_ _)); exact BK279.out⟩, ⟨by (with_reducible repeat (first | refine zN ?_ _ | refine zD ?_ | refine zA ?_ _)); exact BK280.out⟩, ⟨by repeat (first | (with_reducible first | exact HB.out | apply yA | apply yN | apply yD | refine below_set ?_ GE266.out | refine below_set ?_ GE267.out | refine below_set ?_ GE268.out | refine below_set ?_ GE278.out | refine below_set ?_ GE279.out | refine below_set ?_ GE280.out) | exact HB.out)⟩⟩
          ·rw [if_neg c110] at H
           have c110b0 : decide (t281 < 0) = false := decide_eq_false c110
           clear c110
           have H' := Aside0.mk H
           clear H
           have hnb122 := NB278_266.out
           have hnc122 := NB266_278.out
           have hnb123 := NB278_267.out
           have hnc123 := NB267_278.out
           have hnb124 := NB278_268.out
           have hnc124 := NB268_278.out
           have hnb125 := NB278_279.out
           have hnc125 := NB279_278.out
           have hnb126 := NB278_280.out
           have hnc126 := NB280_278.out
           have hcz127_0 : w55.cell? ⟨gb278, 0, none⟩ = some (.int .i64 t269) := (blk_cell BK278.out 0).trans rfl
           have hcz127_1 : w55.cell? ⟨gb278, 1, none⟩ = some (.int .i64 t270) := (blk_cell BK278.out 1).trans rfl
           have hcz127_2 : w55.cell? ⟨gb278, 2, none⟩ = some (.string t271) := (blk_cell BK278.out 2).trans rfl
           have hfz127_0 := blk_frozen BK278.out 0
           have hfz127_1 := blk_frozen BK278.out 1
           have hfz127_2 := blk_frozen BK278.out 2
           have hnb128 := NB279_266.out
           have hnc128 := NB266_279.out
           have hnb129 := NB279_267.out
           have hnc129 := NB267_279.out
           have hnb130 := NB279_268.out
           have hnc130 := NB268_279.out
           have hnb131 := NB279_280.out
           have hnc131 := NB280_279.out
           have hcz132_0 : w55.cell? ⟨gb279, 0, none⟩ = some (.int .i64 t272) := (blk_cell BK279.out 0).trans rfl
           have hcz132_1 : w55.cell? ⟨gb279, 1, none⟩ = some (.int .i64 t273) := (blk_cell BK279.out 1).trans rfl
           have hcz132_2 : w55.cell? ⟨gb279, 2, none⟩ = some (.string t274) := (blk_cell BK279.out 2).trans rfl
           have hfz132_0 := blk_frozen BK279.out 0
           have hfz132_1 := blk_frozen BK279.out 1
           have hfz132_2 := blk_frozen BK279.out 2
           go_wp2
           go_meet
           case rel => exact ⟨_, (false), (by first | rfl | (simp; done) | (simp [*]; done)), H', ⟨by first | omega | exact Nat.le_refl _⟩, ⟨by (with_reducible repeat (first | refine zN ?_ _ | refine zD ?_ | refine zA ?_ _)); exact BK266.out⟩, ⟨by (with_reducible repeat (first | refine zN ?_ _ | refine zD ?_ | refine zA ?_ _)); exact BK267.out⟩, ⟨by (with_reducible repeat (first | refine zN ?_ _ | refine zD ?_ | refine zA ?_ _)); exact BK268.out⟩, ⟨by (with_reducible repeat (first | refine zN ?_ _ | refine zD ?_ | refine zA ?_ _)); exact BK278.out⟩, ⟨by (with_reducible repeat (first | refine zN ?_ _ | refine zD ?_ | refine zA ?_ _)); exact BK279.out⟩, ⟨by (with_reducible repeat (first | refine zN ?_ _ | refine zD ?_ | refine zA ?_ _)); exact BK280.out⟩, ⟨by repeat (first | (with_reducible first | exact HB.out | apply yA | apply yN | apply yD | refine below_set ?_ GE266.out | refine below_set ?_ GE267.out | refine below_set ?_ GE268.out | refine below_set ?_ GE278.out | refine below_set ?_ GE279.out | refine below_set ?_ GE280.out) | exact HB.out)⟩⟩
        ·rw [if_neg c73] at H
         have c73b0 : decide (t281 ≤ 0) = false := decide_eq_false c73
         clear c73
         by_cases c133 : t281 < 0
         ·rw [if_pos c133] at H
          have c133b0 : decide (t281 < 0) = true := decide_eq_true c133
          clear c133
          by_cases c134 : t285 ≤ 0
          ·rw [if_pos c134] at H
           have c134b0 : decide (t285 ≤ 0) = true := decide_eq_true c134
           clear c134
           have H' := Aside0.mk H
           clear H
           have hnb135 := NB278_266.out
           have hnc135 := NB266_278.out
           have hnb136 := NB278_267.out
           have hnc136 := NB267_278.out
           have hnb137 := NB278_268.out
           have hnc137 := NB268_278.out
           have hnb138 := NB278_279.out
           have hnc138 := NB279_278.out
           have hnb139 := NB278_280.out
           have hnc139 := NB280_278.out
           have hcz140_0 : w55.cell? ⟨gb278, 0, none⟩ = some (.int .i64 t269) := (blk_cell BK278.out 0).trans rfl
           have hcz140_1 : w55.cell? ⟨gb278, 1, none⟩ = some (.int .i64 t270) := (blk_cell BK278.out 1).trans rfl
           have hcz140_2 : w55.cell? ⟨gb278, 2, none⟩ = some (.string t271) := (blk_cell BK278.out 2).trans rfl
           have hfz140_0 := blk_frozen BK278.out 0
           have hfz140_1 := blk_frozen BK278.out 1
           have hfz140_2 := blk_frozen BK278.out 2
           have hnb141 := NB279_266.out
           have hnc141 := NB266_279.out
           have hnb142 := NB279_267.out
           have hnc142 := NB267_279.out
           have hnb143 := NB279_268.out
           have hnc143 := NB268_279.out
           have hnb144 := NB279_280.out
           have hnc144 := NB280_279.out
           have hcz145_0 : w55.cell? ⟨gb279, 0, none⟩ = some (.int .i64 t272) := (blk_cell BK279.out 0).trans rfl
           have hcz145_1 : w55.cell? ⟨gb279, 1, none⟩ = some (.int .i64 t273) := (blk_cell BK279.out 1).trans rfl
           have hcz145_2 : w55.cell? ⟨gb279, 2, none⟩ = some (.string t274) := (blk_cell BK279.out 2).trans rfl
           have hfz145_0 := blk_frozen BK279.out 0
           have hfz145_1 := blk_frozen BK279.out 1
           have hfz145_2 := blk_frozen BK279.out 2
           go_wp2
           go_meet
           case rel => exact ⟨_, (decide (t287 ≥ 0)), (by first | rfl | (simp; done) | (simp [*]; done)), H', ⟨by first | omega | exact Nat.le_refl _⟩, ⟨by (with_reducible repeat (first | refine zN ?_ _ | refine zD ?_ | refine zA ?_ _)); exact BK266.out⟩, ⟨by (with_reducible repeat (first | refine zN ?_ _ | refine zD ?_ | refine zA ?_ _)); exact BK267.out⟩, ⟨by (with_reducible repeat (first | refine zN ?_ _ | refine zD ?_ | refine zA ?_ _)); exact BK268.out⟩, ⟨by (with_reducible repeat (first | refine zN ?_ _ | refine zD ?_ | refine zA ?_ _)); exact BK278.out⟩, ⟨by (with_reducible repeat (first | refine zN ?_ _ | refine zD ?_ | refine zA ?_ _)); exact BK279.out⟩, ⟨by (with_reducible repeat (first | refine zN ?_ _ | refine zD ?_ | refine zA ?_ _)); exact BK280.out⟩, ⟨by repeat (first | (with_reducible first | exact HB.out | apply yA | apply yN | apply yD | refine below_set ?_ GE266.out | refine below_set ?_ GE267.out | refine below_set ?_ GE268.out | refine below_set ?_ GE278.out | refine below_set ?_ GE279.out | refine below_set ?_ GE280.out) | exact HB.out)⟩⟩
          ·rw [if_neg c134] at H
           have c134b0 : decide (t285 ≤ 0) = false := decide_eq_false c134
           clear c134
           have H' := Aside0.mk H
           clear H
           have hnb146 := NB278_266.out
           have hnc146 := NB266_278.out
           have hnb147 := NB278_267.out
           have hnc147 := NB267_278.out
           have hnb148 := NB278_268.out
           have hnc148 := NB268_278.out
           have hnb149 := NB278_279.out
           have hnc149 := NB279_278.out
           have hnb150 := NB278_280.out
           have hnc150 := NB280_278.out
           have hcz151_0 : w55.cell? ⟨gb278, 0, none⟩ = some (.int .i64 t269) := (blk_cell BK278.out 0).trans rfl
           have hcz151_1 : w55.cell? ⟨gb278, 1, none⟩ = some (.int .i64 t270) := (blk_cell BK278.out 1).trans rfl
           have hcz151_2 : w55.cell? ⟨gb278, 2, none⟩ = some (.string t271) := (blk_cell BK278.out 2).trans rfl
           have hfz151_0 := blk_frozen BK278.out 0
           have hfz151_1 := blk_frozen BK278.out 1
           have hfz151_2 := blk_frozen BK278.out 2
           have hnb152 := NB279_266.out
           have hnc152 := NB266_279.out
           have hnb153 := NB279_267.out
           have hnc153 := NB267_279.out
           have hnb154 := NB279_268.out
           have hnc154 := NB268_279.out
           have hnb155 := NB279_280.out
           have hnc155 := NB280_279.out
           have hcz156_0 : w55.cell? ⟨gb279, 0, none⟩ = some (.int .i64 t272) := (blk_cell BK279.out 0).trans rfl
           have hcz156_1 : w55.cell? ⟨gb279, 1, none⟩ = some (.int .i64 t273) := (blk_cell BK279.out 1).trans rfl
           have hcz156_2 : w55.cell? ⟨gb279, 2, none⟩ = some (.string t274) := (blk_cell BK279.out 2).trans rfl
           have hfz156_0 := blk_frozen BK279.out 0
           have hfz156_1 := blk_frozen BK279.out 1
           have hfz156_2 := blk_frozen BK279.out 2
           go_wp2
           go_meet
           case rel => exact ⟨_, (false), (by first | rfl | (simp; done) | (simp [*]; done)), H', ⟨by first | omega | exact Nat.le_refl _⟩, ⟨by (with_reducible repeat (first | refine zN ?_ _ | refine zD ?_ | refine zA ?_ _)); exact BK266.out⟩, ⟨by (with_reducible repeat (first | refine zN ?_ _ | refine zD ?_ | refine zA ?_ _)); exact BK267.out⟩, ⟨by (with_reducible repeat (first | refine zN ?_ _ | refine zD ?_ | refine zA ?_ _)); exact BK268.out⟩, ⟨by (with_reducible repeat (first | refine zN ?_ _ | refine zD ?_ | refine zA ?_ _)); exact BK278.out⟩, ⟨by (with_reducible repeat (first | refine zN ?_ _ | refine zD ?_ | refine zA ?_ _)); exact BK279.out⟩, ⟨by (with_reducible repeat (first | refine zN ?_ _ | refine zD ?_ | refine zA ?_ _)); exact BK280.out⟩, ⟨by repeat (first | (with_reducible first | exact HB.out | apply yA | apply yN | apply yD | refine below_set ?_ GE266.out | refine below_set ?_ GE267.out | refine below_set ?_ GE268.out | refine below_set ?_ GE278.out | refine below_set ?_ GE279.out | refine below_set ?_ GE280.out) | exact HB.out)⟩⟩
         ·rw [if_neg c133] at H
          have c133b0 : decide (t281 < 0) = false := decide_eq_false c133
          clear c133
          have H' := Aside0.mk H
          clear H
          have hnb157 := NB278_266.out
          have hnc157 := NB266_278.out
          have hnb158 := NB278_267.out
          have hnc158 := NB267_278.out
          have hnb159 := NB278_268.out
          have hnc159 := NB268_278.out
          have hnb160 := NB278_279.out
          have hnc160 := NB279_278.out
          have hnb161 := NB278_280.out
          have hnc161 := NB280_278.out
          have hcz162_0 : w55.cell? ⟨gb278, 0, none⟩ = some (.int .i64 t269) := (blk_cell BK278.out 0).trans rfl
          have hcz162_1 : w55.cell? ⟨gb278, 1, none⟩ = some (.int .i64 t270) := (blk_cell BK278.out 1).trans rfl
          have hcz162_2 : w55.cell? ⟨gb278, 2, none⟩ = some (.string t271) := (blk_cell BK278.out 2).trans rfl
          have hfz162_0 := blk_frozen BK278.out 0
          have hfz162_1 := blk_frozen BK278.out 1
          have hfz162_2 := blk_frozen BK278.out 2
          have hnb163 := NB279_266.out
          have hnc163 := NB266_279.out
          have hnb164 := NB279_267.out
          have hnc164 := NB267_279.out
          have hnb165 := NB279_268.out
          have hnc165 := NB268_279.out
          have hnb166 := NB279_280.out
          have hnc166 := NB280_279.out
          have hcz167_0 : w55.cell? ⟨gb279, 0, none⟩ = some (.int .i64 t272) := (blk_cell BK279.out 0).trans rfl
          have hcz167_1 : w55.cell? ⟨gb279, 1, none⟩ = some (.int .i64 t273) := (blk_cell BK279.out 1).trans rfl
          have hcz167_2 : w55.cell? ⟨gb279, 2, none⟩ = some (.string t274) := (blk_cell BK279.out 2).trans rfl
          have hfz167_0 := blk_frozen BK279.out 0
          have hfz167_1 := blk_frozen BK279.out 1
          have hfz167_2 := blk_frozen BK279.out 2
          go_wp2
          go_meet
          case rel => exact ⟨_, (false), (by first | rfl | (simp; done) | (simp [*]; done)), H', ⟨by first | omega | exact Nat.le_refl _⟩, ⟨by (with_reducible repeat (first | refine zN ?_ _ | refine zD ?_ | refine zA ?_ _)); exact BK266.out⟩, ⟨by (with_reducible repeat (first | refine zN ?_ _ | refine zD ?_ | refine zA ?_ _)); exact BK267.out⟩, ⟨by (with_reducible repeat (first | refine zN ?_ _ | refine zD ?_ | refine zA ?_ _)); exact BK268.out⟩, ⟨by (with_reducible repeat (first | refine zN ?_ _ | refine zD ?_ | refine zA ?_ _)); exact BK278.out⟩, ⟨by (with_reducible repeat (first | refine zN ?_ _ | refine zD ?_ | refine zA ?_ _)); exact BK279.out⟩, ⟨by (with_reducible repeat (first | refine zN ?_ _ | refine zD ?_ | refine zA ?_ _)); exact BK280.out⟩, ⟨by repeat (first | (with_reducible first | exact HB.out | apply yA | apply yN | apply yD | refine below_set ?_ GE266.out | refine below_set ?_ GE267.out | refine below_set ?_ GE268.out | refine below_set ?_ GE278.out | refine below_set ?_ GE279.out | refine below_set ?_ GE280.out) | exact HB.out)⟩⟩
      ·rw [if_neg c60] at H
       have c60b0 : (t281 == (wrap64 (-t283))) = false := beq_eq_false_iff_ne.mpr c60
       have c60b1 : (t281 != (wrap64 (-t283))) = true := bne_iff_ne.mpr c60
       (first | rw [c60b0] | (simp only [i64_w, i32_w]; rw [c60b0]) | skip)
       have H' := Aside0.mk H
       clear H
       go_wp2
       go_meet
       case rel => exact ⟨_, (true), (by first | rfl | (simp; done) | (simp [*]; done)), H', ⟨by first | omega | exact Nat.le_refl _⟩, ⟨by (with_reducible repeat (first | refine zN ?_ _ | refine zD ?_ | refine zA ?_ _)); exact BK266.out⟩, ⟨by (with_reducible repeat (first | refine zN ?_ _ | refine zD ?_ | refine zA ?_ _)); exact BK267.out⟩, ⟨by (with_reducible repeat (first | refine zN ?_ _ | refine zD ?_ | refine zA ?_ _)); exact BK268.out⟩, ⟨by (with_reducible repeat (first | refine zN ?_ _ | refine zD ?_ | refine zA ?_ _)); exact BK278.out⟩, ⟨by (with_reducible repeat (first | refine zN ?_ _ | refine zD ?_ | refine zA ?_ _)); exact BK279.out⟩, ⟨by (with_reducible repeat (first | refine zN ?_ _ | refine zD ?_ | refine zA ?_ _)); exact BK280.out⟩, ⟨by repeat (first | (with_reducible first | exact HB.out | apply yA | apply yN | apply yD | refine below_set ?_ GE266.out | refine below_set ?_ GE267.out | refine below_set ?_ GE268.out | refine below_set ?_ GE278.out | refine below_set ?_ GE279.out | refine below_set ?_ GE280.out) | exact HB.out)⟩⟩
     ·replace c59 := Bool.eq_false_iff.mpr c59
      subst c59
      have H1 : (tacticianlaw01_ValueOrder.j0 k true t269 t270 t271 t272 t273 t274 t275 t276 t277) = some r := by rw [if_neg (show ¬ (false = true) by decide)] at H; exact H
      clear H
      have H := H1
      clear H1
      have H' := Aside0.mk H
      clear H
      go_wp2
      go_meet
      case rel => exact ⟨_, (true), (by first | rfl | (simp; done) | (simp [*]; done)), H', ⟨by first | omega | exact Nat.le_refl _⟩, ⟨by (with_reducible repeat (first | refine zN ?_ _ | refine zD ?_ | refine zA ?_ _)); exact BK266.out⟩, ⟨by (with_reducible repeat (first | refine zN ?_ _ | refine zD ?_ | refine zA ?_ _)); exact BK267.out⟩, ⟨by (with_reducible repeat (first | refine zN ?_ _ | refine zD ?_ | refine zA ?_ _)); exact BK268.out⟩, ⟨by (with_reducible repeat (first | refine zN ?_ _ | refine zD ?_ | refine zA ?_ _)); exact BK278.out⟩, ⟨by (with_reducible repeat (first | refine zN ?_ _ | refine zD ?_ | refine zA ?_ _)); exact BK279.out⟩, ⟨by (with_reducible repeat (first | refine zN ?_ _ | refine zD ?_ | refine zA ?_ _)); exact BK280.out⟩, ⟨by repeat (first | (with_reducible first | exact HB.out | apply yA | apply yN | apply yD | refine below_set ?_ GE266.out | refine below_set ?_ GE267.out | refine below_set ?_ GE268.out | refine below_set ?_ GE278.out | refine below_set ?_ GE279.out | refine below_set ?_ GE280.out) | exact HB.out)⟩⟩
    ·replace c58 := Bool.eq_false_iff.mpr c58
     subst c58
     have H1 : (tacticianlaw01_ValueOrder.j0 k true t269 t270 t271 t272 t273 t274 t275 t276 t277) = some r := by rw [if_neg (show ¬ (false = true) by decide)] at H; exact H
     clear H
     have H := H1
     clear H1
     have H' := Aside0.mk H
     clear H
     go_wp2
     go_meet
     case rel => exact ⟨_, (true), (by first | rfl | (simp; done) | (simp [*]; done)), H', ⟨by first | omega | exact Nat.le_refl _⟩, ⟨by (with_reducible repeat (first | refine zN ?_ _ | refine zD ?_ | refine zA ?_ _)); exact BK266.out⟩, ⟨by (with_reducible repeat (first | refine zN ?_ _ | refine zD ?_ | refine zA ?_ _)); exact BK267.out⟩, ⟨by (with_reducible repeat (first | refine zN ?_ _ | refine zD ?_ | refine zA ?_ _)); exact BK268.out⟩, ⟨by (with_reducible repeat (first | refine zN ?_ _ | refine zD ?_ | refine zA ?_ _)); exact BK278.out⟩, ⟨by (with_reducible repeat (first | refine zN ?_ _ | refine zD ?_ | refine zA ?_ _)); exact BK279.out⟩, ⟨by (with_reducible repeat (first | refine zN ?_ _ | refine zD ?_ | refine zA ?_ _)); exact BK280.out⟩, ⟨by repeat (first | (with_reducible first | exact HB.out | apply yA | apply yN | apply yD | refine below_set ?_ GE266.out | refine below_set ?_ GE267.out | refine below_set ?_ GE268.out | refine below_set ?_ GE278.out | refine below_set ?_ GE279.out | refine below_set ?_ GE280.out) | exact HB.out)⟩⟩
   ·replace c57 := Bool.eq_false_iff.mpr c57
    subst c57
    have H1 : (tacticianlaw01_ValueOrder.j0 k true t269 t270 t271 t272 t273 t274 t275 t276 t277) = some r := by rw [if_neg (show ¬ (false = true) by decide)] at H; exact H
    clear H
    have H := H1
    clear H1
    have H' := Aside0.mk H
    clear H
    go_wp2
    go_meet
    case rel => exact ⟨_, (true), (by first | rfl | (simp; done) | (simp [*]; done)), H', ⟨by first | omega | exact Nat.le_refl _⟩, ⟨by (with_reducible repeat (first | refine zN ?_ _ | refine zD ?_ | refine zA ?_ _)); exact BK266.out⟩, ⟨by (with_reducible repeat (first | refine zN ?_ _ | refine zD ?_ | refine zA ?_ _)); exact BK267.out⟩, ⟨by (with_reducible repeat (first | refine zN ?_ _ | refine zD ?_ | refine zA ?_ _)); exact BK268.out⟩, ⟨by (with_reducible repeat (first | refine zN ?_ _ | refine zD ?_ | refine zA ?_ _)); exact BK278.out⟩, ⟨by (with_reducible repeat (first | refine zN ?_ _ | refine zD ?_ | refine zA ?_ _)); exact BK279.out⟩, ⟨by (with_reducible repeat (first | refine zN ?_ _ | refine zD ?_ | refine zA ?_ _)); exact BK280.out⟩, ⟨by repeat (first | (with_reducible first | exact HB.out | apply yA | apply yN | apply yD | refine below_set ?_ GE266.out | refine below_set ?_ GE267.out | refine below_set ?_ GE268.out | refine below_set ?_ GE278.out | refine below_set ?_ GE279.out | refine below_set ?_ GE280.out) | exact HB.out)⟩⟩
  ·replace c56 := Bool.eq_false_iff.mpr c56
   subst c56
   have H1 : (tacticianlaw01_ValueOrder.j0 k true t269 t270 t271 t272 t273 t274 t275 t276 t277) = some r := by rw [if_neg (show ¬ (false = true) by decide)] at H; exact H
   clear H
   have H := H1
   clear H1
   have H' := Aside0.mk H
   clear H
   go_wp2
   go_meet
   case rel => exact ⟨_, (true), (by first | rfl | (simp; done) | (simp [*]; done)), H', ⟨by first | omega | exact Nat.le_refl _⟩, ⟨by (with_reducible repeat (first | refine zN ?_ _ | refine zD ?_ | refine zA ?_ _)); exact BK266.out⟩, ⟨by (with_reducible repeat (first | refine zN ?_ _ | refine zD ?_ | refine zA ?_ _)); exact BK267.out⟩, ⟨by (with_reducible repeat (first | refine zN ?_ _ | refine zD ?_ | refine zA ?_ _)); exact BK268.out⟩, ⟨by (with_reducible repeat (first | refine zN ?_ _ | refine zD ?_ | refine zA ?_ _)); exact BK278.out⟩, ⟨by (with_reducible repeat (first | refine zN ?_ _ | refine zD ?_ | refine zA ?_ _)); exact BK279.out⟩, ⟨by (with_reducible repeat (first | refine zN ?_ _ | refine zD ?_ | refine zA ?_ _)); exact BK280.out⟩, ⟨by repeat (first | (with_reducible first | exact HB.out | apply yA | apply yN | apply yD | refine below_set ?_ GE266.out | refine below_set ?_ GE267.out | refine below_set ?_ GE268.out | refine below_set ?_ GE278.out | refine below_set ?_ GE279.out | refine below_set ?_ GE280.out) | exact HB.out)⟩⟩
 case rest =>
  clear HC11
  try clear c1
  try clear p2
  try clear c3
  try clear c4
  try clear c5
  try clear c6
  try clear p6
  try clear c7
  try clear c8
  try clear c9
  try clear c10
  try clear c11
  try clear c12
  try clear c13
  try clear c14
  try clear c15
  try clear c16
  try clear c19
  try clear c32
  try clear c33
  try clear c34
  try clear c35
  try clear c36
  try clear c38
  try clear c39
  try clear c40
  try clear c41
  try clear c48
  try clear c49
  try clear c50
  try clear c56
  try clear c57
  try clear c58
  try clear c59
  try clear c60
  try clear c60b0
  try clear c60b1
  try clear c61
  try clear c61b0
  try clear c61b1
  try clear c61b2
  try clear c62
  try clear c63
  try clear c64
  try clear p64
  try clear c65
  try clear c66
  try clear c68
  try clear c69
  try clear c70
  try clear c71
  try clear c73
  try clear c73b0
  try clear c74
  try clear c74b0
  try clear c75
  try clear c75b0
  try clear c76
  try clear c77
  try clear c78
  try clear c79
  try clear c80
  try clear c82
  try clear c83
  try clear c84
  try clear c85
  try clear c87
  try clear c87b0
  try clear c88
  try clear c89
  try clear c90
  try clear c91
  try clear c92
  try clear c94
  try clear c95
  try clear c96
  try clear c97
  try clear c99
  try clear c100
  try clear c101
  try clear c102
  try clear c103
  try clear c105
  try clear c106
  try clear c107
  try clear c108
  try clear c110
  try clear c110b0
  try clear c111
  try clear c112
  try clear c113
  try clear c114
  try clear c115
  try clear c117
  try clear c118
  try clear c119
  try clear c120
  try clear c122
  try clear c123
  try clear c124
  try clear c125
  try clear c126
  try clear c128
  try clear c129
  try clear c130
  try clear c131
  try clear c133
  try clear c133b0
  try clear c134
  try clear c134b0
  try clear c135
  try clear c136
  try clear c137
  try clear c138
  try clear c139
  try clear c141
  try clear c142
  try clear c143
  try clear c144
  try clear c146
  try clear c147
  try clear c148
  try clear c149
  try clear c150
  try clear c152
  try clear c153
  try clear c154
  try clear c155
  try clear c157
  try clear c158
  try clear c159
  try clear c160
  try clear c161
  try clear c163
  try clear c164
  try clear c165
  try clear c166
  try clear hcz104_0
  try clear hcz104_1
  try clear hcz104_2
  try clear hcz109_0
  try clear hcz109_1
  try clear hcz109_2
  try clear hcz116_0
  try clear hcz116_1
  try clear hcz116_2
  try clear hcz121_0
  try clear hcz121_1
  try clear hcz121_2
  try clear hcz127_0
  try clear hcz127_1
  try clear hcz127_2
  try clear hcz132_0
  try clear hcz132_1
  try clear hcz132_2
  try clear hcz140_0
  try clear hcz140_1
  try clear hcz140_2
  try clear hcz145_0
  try clear hcz145_1
  try clear hcz145_2
  try clear hcz151_0
  try clear hcz151_1
  try clear hcz151_2
  try clear hcz156_0
  try clear hcz156_1
  try clear hcz156_2
  try clear hcz162_0
  try clear hcz162_1
  try clear hcz162_2
  try clear hcz167_0
  try clear hcz167_1
  try clear hcz167_2
  try clear hcz37_0
  try clear hcz37_1
  try clear hcz37_2
  try clear hcz42_0
  try clear hcz42_1
  try clear hcz42_2
  try clear hcz44_0
  try clear hcz44_1
  try clear hcz44_2
  try clear hcz45_0
  try clear hcz45_1
  try clear hcz45_2
  try clear hcz47_0
  try clear hcz47_1
  try clear hcz47_2
  try clear hcz51_0
  try clear hcz51_1
  try clear hcz51_2
  try clear hcz53_0
  try clear hcz53_1
  try clear hcz53_2
  try clear hcz54_0
  try clear hcz54_1
  try clear hcz54_2
  try clear hcz67_0
  try clear hcz67_1
  try clear hcz67_2
  try clear hcz72_0
  try clear hcz72_1
  try clear hcz72_2
  try clear hcz81_0
  try clear hcz81_1
  try clear hcz81_2
  try clear hcz86_0
  try clear hcz86_1
  try clear hcz86_2
  try clear hcz93_0
  try clear hcz93_1
  try clear hcz93_2
  try clear hcz98_0
  try clear hcz98_1
  try clear hcz98_2
  try clear hfz104_0
  try clear hfz104_1
  try clear hfz104_2
  try clear hfz109_0
  try clear hfz109_1
  try clear hfz109_2
  try clear hfz116_0
  try clear hfz116_1
  try clear hfz116_2
  try clear hfz121_0
  try clear hfz121_1
  try clear hfz121_2
  try clear hfz127_0
  try clear hfz127_1
  try clear hfz127_2
  try clear hfz132_0
  try clear hfz132_1
  try clear hfz132_2
  try clear hfz140_0
  try clear hfz140_1
  try clear hfz140_2
  try clear hfz145_0
  try clear hfz145_1
  try clear hfz145_2
  try clear hfz151_0
  try clear hfz151_1
  try clear hfz151_2
  try clear hfz156_0
  try clear hfz156_1
  try clear hfz156_2
  try clear hfz162_0
  try clear hfz162_1
  try clear hfz162_2
  try clear hfz167_0
  try clear hfz167_1
  try clear hfz167_2
  try clear hfz37_0
  try clear hfz37_1
  try clear hfz37_2
  try clear hfz42_0
  try clear hfz42_1
  try clear hfz42_2
  try clear hfz44_0
  try clear hfz44_1
  try clear hfz44_2
  try clear hfz45_0
  try clear hfz45_1
  try clear hfz45_2
  try clear hfz47_0
  try clear hfz47_1
  try clear hfz47_2
  try clear hfz51_0
  try clear hfz51_1
  try clear hfz51_2
  try clear hfz53_0
  try clear hfz53_1
  try clear hfz53_2
  try clear hfz54_0
  try clear hfz54_1
  try clear hfz54_2
  try clear hfz67_0
  try clear hfz67_1
  try clear hfz67_2
  try clear hfz72_0
  try clear hfz72_1
  try clear hfz72_2
  try clear hfz81_0
  try clear hfz81_1
  try clear hfz81_2
  try clear hfz86_0
  try clear hfz86_1
  try clear hfz86_2
  try clear hfz93_0
  try clear hfz93_1
  try clear hfz93_2
  try clear hfz98_0
  try clear hfz98_1
  try clear hfz98_2
  obtain ⟨kq, x104_10, rfl, HA, HJ10, BK266, BK267, BK268, BK278, BK279, BK280, HB⟩ := hcut
  cases kq with
  | zero => exact absurd HA.out (by simp [tacticianlaw01_ValueOrder.j0])
  | succ kj10 =>
   have H := HA.out
   clear HA
   simp only [tacticianlaw01_ValueOrder.j0] at H
   by_cases c168 : x104_10 = true
   ·subst c168
    have H1 : (some false) = some r := by rw [if_pos rfl] at H; exact H
    clear H
    have H := H1
    clear H1
    exact absurd ((Option.some.inj H).trans hr_.out) (by decide)
   ·replace c168 := Bool.eq_false_iff.mpr c168
    subst c168
    have H1 : ((value_Sorted.f (([(⟨t269, t270, t271⟩ : S25), (⟨t272, t273, t274⟩ : S25), (⟨t275, t276, t277⟩ : S25), (⟨t269, t270, t271⟩ : S25)] : List (S25)))).bind fun bt292 => (if bt292.2 = 0 then (tacticianlaw01_ValueOrder.j1 kj10 bt292.1 ((bt292.1.length : Int) != 4)) else (tacticianlaw01_ValueOrder.j1 kj10 bt292.1 true))) = some r := by rw [if_neg (show ¬ (false = true) by decide)] at H; exact H
    clear H
    have H := H1
    clear H1
    obtain ⟨y289, hy289⟩ : ∃ y_ : List (S25), y_ = (([(⟨t269, t270, t271⟩ : S25), (⟨t272, t273, t274⟩ : S25), (⟨t275, t276, t277⟩ : S25), (⟨t269, t270, t271⟩ : S25)] : List (S25))) := ⟨_, rfl⟩
    replace H : ((value_Sorted.f y289).bind fun bt292 => (if bt292.2 = 0 then (tacticianlaw01_ValueOrder.j1 kj10 bt292.1 ((bt292.1.length : Int) != 4)) else (tacticianlaw01_ValueOrder.j1 kj10 bt292.1 true))) = some r := by first | (rw [hy289]; with_reducible exact H) | (have H2_ := (Option.bind_some _ _).symm.trans H; rw [hy289]; with_reducible exact H2_) | (have H2_ := (Option.bind_some _ _).symm.trans H; with_reducible exact H2_) | with_reducible exact H | (rw [hy289]; exact H) | exact H
    have Ny289 := Aside0.mk hy289
    clear hy289
    replace H := Option.bind_eq_some_iff.mp H
    obtain ⟨⟨t292, t293⟩, A1690, H⟩ := H
    replace H : (if t293 = 0 then (tacticianlaw01_ValueOrder.j1 kj10 t292 ((t292.length : Int) != 4)) else (tacticianlaw01_ValueOrder.j1 kj10 t292 true)) = some r := H
    have A169 := Aside0.mk A1690
    clear A1690
    have HC170 := Aside0.mk H
    clear H
    have hnb171 := NB278_266.out
    have hnc171 := NB266_278.out
    have hnb172 := NB278_267.out
    have hnc172 := NB267_278.out
    have hnb173 := NB278_268.out
    have hnc173 := NB268_278.out
    have hnb174 := NB278_279.out
    have hnc174 := NB279_278.out
    have hnb175 := NB278_280.out
    have hnc175 := NB280_278.out
    have hcz176_0 : wc.cell? ⟨gb278, 0, none⟩ = some (.int .i64 t269) := (blk_cell BK278.out 0).trans rfl
    have hcz176_1 : wc.cell? ⟨gb278, 1, none⟩ = some (.int .i64 t270) := (blk_cell BK278.out 1).trans rfl
    have hcz176_2 : wc.cell? ⟨gb278, 2, none⟩ = some (.string t271) := (blk_cell BK278.out 2).trans rfl
    have hfz176_0 := blk_frozen BK278.out 0
    have hfz176_1 := blk_frozen BK278.out 1
    have hfz176_2 := blk_frozen BK278.out 2
    have hnb177 := NB279_266.out
    have hnc177 := NB266_279.out
    have hnb178 := NB279_267.out
    have hnc178 := NB267_279.out
    have hnb179 := NB279_268.out
    have hnc179 := NB268_279.out
    have hnb180 := NB279_280.out
    have hnc180 := NB280_279.out
    have hcz181_0 : wc.cell? ⟨gb279, 0, none⟩ = some (.int .i64 t272) := (blk_cell BK279.out 0).trans rfl
    have hcz181_1 : wc.cell? ⟨gb279, 1, none⟩ = some (.int .i64 t273) := (blk_cell BK279.out 1).trans rfl
    have hcz181_2 : wc.cell? ⟨gb279, 2, none⟩ = some (.string t274) := (blk_cell BK279.out 2).trans rfl
    have hfz181_0 := blk_frozen BK279.out 0
    have hfz181_1 := blk_frozen BK279.out 1
    have hfz181_2 := blk_frozen BK279.out 2
    have hnb182 := NB280_266.out
    have hnc182 := NB266_280.out
    have hnb183 := NB280_267.out
    have hnc183 := NB267_280.out
    have hnb184 := NB280_268.out
    have hnc184 := NB268_280.out
    have hcz185_0 : wc.cell? ⟨gb280, 0, none⟩ = some (.int .i64 t275) := (blk_cell BK280.out 0).trans rfl
    have hcz185_1 : wc.cell? ⟨gb280, 1, none⟩ = some (.int .i64 t276) := (blk_cell BK280.out 1).trans rfl
    have hcz185_2 : wc.cell? ⟨gb280, 2, none⟩ = some (.string t277) := (blk_cell BK280.out 2).trans rfl
    have hfz185_0 := blk_frozen BK280.out 0
    have hfz185_1 := blk_frozen BK280.out 1
    have hfz185_2 := blk_frozen BK280.out 2
    go_upto_region 9 with (first | ((with_reducible refine gate_dst (N := 110) rfl ?_); (try (refine gate_guard (by rfl) ?_; dsimp only)); refine Kd.R_lit k25 _ 25 ?hg (N := 110) ?hd (xs := ([(⟨t269, t270, t271⟩ : S25), (⟨t272, t273, t274⟩ : S25), (⟨t275, t276, t277⟩ : S25), (⟨t269, t270, t271⟩ : S25)] : List (S25))) (inner := [.int .i64 t269, .int .i64 t270, .string t271, .int .i64 t272, .int .i64 t273, .string t274, .int .i64 t275, .int .i64 t276, .string t277, .int .i64 t269, .int .i64 t270, .string t271]) (ok := fun _ => True) (okp := fun _ => True) ?hr ?hp (fun _ hk => hk) trivial (Below.refl _ _) (Nat.le_refl _) (by simp) ?_; (case hd => rfl); (case hg => rfl); (case hr => first | (go_simp; done) | (go_simp; rfl)); (case hp => exact (Reps.c3 (show Kd.M k25 _ _ _ (⟨t269, t270, t271⟩ : S25) [.int .i64 t269, .int .i64 t270, .string t271] from (k25_mkM _ _ _ (⟨t269, t270, t271⟩ : S25) )) (Reps.c3 (show Kd.M k25 _ _ _ (⟨t272, t273, t274⟩ : S25) [.int .i64 t272, .int .i64 t273, .string t274] from (k25_mkM _ _ _ (⟨t272, t273, t274⟩ : S25) )) (Reps.c3 (show Kd.M k25 _ _ _ (⟨t275, t276, t277⟩ : S25) [.int .i64 t275, .int .i64 t276, .string t277] from (k25_mkM _ _ _ (⟨t275, t276, t277⟩ : S25) )) (Reps.c3 (show Kd.M k25 _ _ _ (⟨t269, t270, t271⟩ : S25) [.int .i64 t269, .int .i64 t270, .string t271] from (k25_mkM _ _ _ (⟨t269, t270, t271⟩ : S25) )) (Reps.none _ _)))))); intro v290 w186 ho187 hb hg_ hnew_; clear hg_ hnew_; (first | rw [← Ny289.out] at ho187 | (simp only [Int.reduceToNat] at ho187; rw [← Ny289.out] at ho187)); have n0_ := Aside0.mk (Kd.R_lower (Kd.R_newB (Kd.R_newB (Kd.R_newB (Kd.R_newB (Kd.R_newB (Kd.R_newB ho187 (g := gb266) (o := .cells #[.int .i64 a0_0, .int .i64 a0_1, .string a0_2] 25 (0, 0)) (by (with_reducible repeat (first | refine zN ?_ _ | refine zD ?_ | refine zA ?_ _)); exact BK266.out)) (g := gb267) (o := .cells #[.int .i64 a1_0, .int .i64 a1_1, .string a1_2] 25 (0, 0)) (by (with_reducible repeat (first | refine zN ?_ _ | refine zD ?_ | refine zA ?_ _)); exact BK267.out)) (g := gb268) (o := .cells #[.int .i64 a2_0, .int .i64 a2_1, .string a2_2] 25 (0, 0)) (by (with_reducible repeat (first | refine zN ?_ _ | refine zD ?_ | refine zA ?_ _)); exact BK268.out)) (g := gb278) (o := .cells #[.int .i64 t269, .int .i64 t270, .string t271] 25 (0, 0)) (by (with_reducible repeat (first | refine zN ?_ _ | refine zD ?_ | refine zA ?_ _)); exact BK278.out)) (g := gb279) (o := .cells #[.int .i64 t272, .int .i64 t273, .string t274] 25 (0, 0)) (by (with_reducible repeat (first | refine zN ?_ _ | refine zD ?_ | refine zA ?_ _)); exact BK279.out)) (g := gb280) (o := .cells #[.int .i64 t275, .int .i64 t276, .string t277] 25 (0, 0)) (by (with_reducible repeat (first | refine zN ?_ _ | refine zD ?_ | refine zA ?_ _)); exact BK280.out)) (below_size (by repeat (first | (with_reducible first | exact HB.out | apply yA | apply yN | apply yD | refine below_set ?_ GE266.out | refine below_set ?_ GE267.out | refine below_set ?_ GE268.out | refine below_set ?_ GE278.out | refine below_set ?_ GE279.out | refine below_set ?_ GE280.out) | exact HB.out)))); have n1_ := Aside0.mk (blk_below (g := gb266) (o := .cells #[.int .i64 a0_0, .int .i64 a0_1, .string a0_2] 25 (0, 0)) (by (with_reducible repeat (first | refine zN ?_ _ | refine zD ?_ | refine zA ?_ _)); exact BK266.out) hb); have n2_ := Aside0.mk (blk_below (g := gb267) (o := .cells #[.int .i64 a1_0, .int .i64 a1_1, .string a1_2] 25 (0, 0)) (by (with_reducible repeat (first | refine zN ?_ _ | refine zD ?_ | refine zA ?_ _)); exact BK267.out) hb); have n3_ := Aside0.mk (blk_below (g := gb268) (o := .cells #[.int .i64 a2_0, .int .i64 a2_1, .string a2_2] 25 (0, 0)) (by (with_reducible repeat (first | refine zN ?_ _ | refine zD ?_ | refine zA ?_ _)); exact BK268.out) hb); have n4_ := Aside0.mk (blk_below (g := gb278) (o := .cells #[.int .i64 t269, .int .i64 t270, .string t271] 25 (0, 0)) (by (with_reducible repeat (first | refine zN ?_ _ | refine zD ?_ | refine zA ?_ _)); exact BK278.out) hb); have n5_ := Aside0.mk (blk_below (g := gb279) (o := .cells #[.int .i64 t272, .int .i64 t273, .string t274] 25 (0, 0)) (by (with_reducible repeat (first | refine zN ?_ _ | refine zD ?_ | refine zA ?_ _)); exact BK279.out) hb); have n6_ := Aside0.mk (blk_below (g := gb280) (o := .cells #[.int .i64 t275, .int .i64 t276, .string t277] 25 (0, 0)) (by (with_reducible repeat (first | refine zN ?_ _ | refine zD ?_ | refine zA ?_ _)); exact BK280.out) hb); have n7_ := Aside0.mk (below_step (by repeat (first | (with_reducible first | exact HB.out | apply yA | apply yN | apply yD | refine below_set ?_ GE266.out | refine below_set ?_ GE267.out | refine below_set ?_ GE268.out | refine below_set ?_ GE278.out | refine below_set ?_ GE279.out | refine below_set ?_ GE280.out) | exact HB.out)) hb); clear BK266; clear BK267; clear BK268; clear BK278; clear BK279; clear BK280; clear HB; have HO291 := n0_; have BK266 := n1_; have BK267 := n2_; have BK268 := n3_; have BK278 := n4_; have BK279 := n5_; have BK280 := n6_; have HB := n7_; clear n0_ n1_ n2_ n3_ n4_ n5_ n6_ n7_; clear hb ho187; obtain ⟨Ao188, co188, eo188⟩ := Kd.R_slice HO291.out; subst eo188) | ((with_reducible refine gate_callee (f := 20) rfl ?_); refine goesL_ (some 111) rfl rfl Tryz.func20 (by kernel_rfl) rfl #[.slice Ao188 y289.length co188] rfl (by (try simp only [List.map_toArray, List.map_cons, List.map_nil]); first | done | rfl | (simp only [List.length_drop, List.length_take]; rfl)) ?_; (with_reducible refine (value_Sorted.calls _ _ y289 t292 t293 _ ?side1 ?side2 A169.out).mono ?_); (case side1 => repeat (first | exact (Kd.R_reads' HO291.out).2.2 | (with_reducible refine Kd.C_alloc ?_ _) | (with_reducible refine Kd.C_drewN ?_ _) | (with_reducible refine Kd.C_drew ?_))); (case side2 => exact (Kd.R_reads' HO291.out).2.1); rintro e w189 ⟨v294, rfl, ho0, hb⟩; refine ⟨_, rfl, ?_⟩; have n0_ := Aside0.mk (Kd.R_elder' (by (with_reducible repeat (first | apply Kd.R_alloc | apply Kd.R_drewN | apply Kd.R_drew)); exact HO291.out) (Kd.R_base ho0) hb); have n1_ := Aside0.mk (Kd.R_lower (Kd.R_newB (Kd.R_newB (Kd.R_newB (Kd.R_newB (Kd.R_newB (Kd.R_newB (Kd.R_new' ho0 (Kd.R_lt (by (with_reducible repeat (first | apply Kd.R_alloc | apply Kd.R_drewN | apply Kd.R_drew)); exact HO291.out))) (g := gb266) (o := .cells #[.int .i64 a0_0, .int .i64 a0_1, .string a0_2] 25 (0, 0)) (by (with_reducible repeat (first | refine zN ?_ _ | refine zD ?_ | refine zA ?_ _)); exact BK266.out)) (g := gb267) (o := .cells #[.int .i64 a1_0, .int .i64 a1_1, .string a1_2] 25 (0, 0)) (by (with_reducible repeat (first | refine zN ?_ _ | refine zD ?_ | refine zA ?_ _)); exact BK267.out)) (g := gb268) (o := .cells #[.int .i64 a2_0, .int .i64 a2_1, .string a2_2] 25 (0, 0)) (by (with_reducible repeat (first | refine zN ?_ _ | refine zD ?_ | refine zA ?_ _)); exact BK268.out)) (g := gb278) (o := .cells #[.int .i64 t269, .int .i64 t270, .string t271] 25 (0, 0)) (by (with_reducible repeat (first | refine zN ?_ _ | refine zD ?_ | refine zA ?_ _)); exact BK278.out)) (g := gb279) (o := .cells #[.int .i64 t272, .int .i64 t273, .string t274] 25 (0, 0)) (by (with_reducible repeat (first | refine zN ?_ _ | refine zD ?_ | refine zA ?_ _)); exact BK279.out)) (g := gb280) (o := .cells #[.int .i64 t275, .int .i64 t276, .string t277] 25 (0, 0)) (by (with_reducible repeat (first | refine zN ?_ _ | refine zD ?_ | refine zA ?_ _)); exact BK280.out)) (below_size (by repeat (first | (with_reducible first | exact HB.out | apply yA | apply yN | apply yD | refine below_set ?_ GE266.out | refine below_set ?_ GE267.out | refine below_set ?_ GE268.out | refine below_set ?_ GE278.out | refine below_set ?_ GE279.out | refine below_set ?_ GE280.out) | exact HB.out)))); have n2_ := Aside0.mk (blk_below (g := gb266) (o := .cells #[.int .i64 a0_0, .int .i64 a0_1, .string a0_2] 25 (0, 0)) (by (with_reducible repeat (first | refine zN ?_ _ | refine zD ?_ | refine zA ?_ _)); exact BK266.out) hb); have n3_ := Aside0.mk (blk_below (g := gb267) (o := .cells #[.int .i64 a1_0, .int .i64 a1_1, .string a1_2] 25 (0, 0)) (by (with_reducible repeat (first | refine zN ?_ _ | refine zD ?_ | refine zA ?_ _)); exact BK267.out) hb); have n4_ := Aside0.mk (blk_below (g := gb268) (o := .cells #[.int .i64 a2_0, .int .i64 a2_1, .string a2_2] 25 (0, 0)) (by (with_reducible repeat (first | refine zN ?_ _ | refine zD ?_ | refine zA ?_ _)); exact BK268.out) hb); have n5_ := Aside0.mk (blk_below (g := gb278) (o := .cells #[.int .i64 t269, .int .i64 t270, .string t271] 25 (0, 0)) (by (with_reducible repeat (first | refine zN ?_ _ | refine zD ?_ | refine zA ?_ _)); exact BK278.out) hb); have n6_ := Aside0.mk (blk_below (g := gb279) (o := .cells #[.int .i64 t272, .int .i64 t273, .string t274] 25 (0, 0)) (by (with_reducible repeat (first | refine zN ?_ _ | refine zD ?_ | refine zA ?_ _)); exact BK279.out) hb); have n7_ := Aside0.mk (blk_below (g := gb280) (o := .cells #[.int .i64 t275, .int .i64 t276, .string t277] 25 (0, 0)) (by (with_reducible repeat (first | refine zN ?_ _ | refine zD ?_ | refine zA ?_ _)); exact BK280.out) hb); have n8_ := Aside0.mk (below_step (by repeat (first | (with_reducible first | exact HB.out | apply yA | apply yN | apply yD | refine below_set ?_ GE266.out | refine below_set ?_ GE267.out | refine below_set ?_ GE268.out | refine below_set ?_ GE278.out | refine below_set ?_ GE279.out | refine below_set ?_ GE280.out) | exact HB.out)) hb); clear HO291; clear BK266; clear BK267; clear BK268; clear BK278; clear BK279; clear BK280; clear HB; have HO291 := n0_; have HO295 := n1_; have BK266 := n2_; have BK267 := n3_; have BK268 := n4_; have BK278 := n5_; have BK279 := n6_; have BK280 := n7_; have HB := n8_; clear n0_ n1_ n2_ n3_ n4_ n5_ n6_ n7_ n8_; (try clear hb); (try clear hb2); (try clear hk); (try clear hi); (try clear ho0)))
    (try simp only [Act.put, List.setIfInBounds_toArray, List.set_cons_zero, List.set_cons_succ])
    go_cut [120] (fun v120 wc => ∃ (kq : Nat) (x120_169 : Bool), v120 = .bool x120_169 ∧ Aside0 (tacticianlaw01_ValueOrder.j1 kq t292 x120_169 = some r) ∧ Aside0 (kq ≤ kj10) ∧ Aside0 (Kd.R k25 25 wc w.heap.size (fun k_ => k_ ≠ gb266 ∧ k_ ≠ gb267 ∧ k_ ≠ gb268 ∧ k_ ≠ gb278 ∧ k_ ≠ gb279 ∧ k_ ≠ gb280) v294 t292) ∧ Aside0 (wc.heap[gb266]? = some (.cells #[.int .i64 a0_0, .int .i64 a0_1, .string a0_2] 25 (0, 0))) ∧ Aside0 (wc.heap[gb267]? = some (.cells #[.int .i64 a1_0, .int .i64 a1_1, .string a1_2] 25 (0, 0))) ∧ Aside0 (wc.heap[gb268]? = some (.cells #[.int .i64 a2_0, .int .i64 a2_1, .string a2_2] 25 (0, 0))) ∧ Aside0 (wc.heap[gb278]? = some (.cells #[.int .i64 t269, .int .i64 t270, .string t271] 25 (0, 0))) ∧ Aside0 (wc.heap[gb279]? = some (.cells #[.int .i64 t272, .int .i64 t273, .string t274] 25 (0, 0))) ∧ Aside0 (wc.heap[gb280]? = some (.cells #[.int .i64 t275, .int .i64 t276, .string t277] 25 (0, 0))) ∧ Aside0 (Below w.heap.size w wc))
    case first =>
     have H := HC170.out
     clear HC170
     by_cases c190 : t293 = 0
     ·rw [if_pos c190] at H
      have c190b0 : (t293 == 0) = true := beq_iff_eq.mpr c190
      have c190b1 : (t293 != 0) = false := bne_eq_false_iff_eq.mpr c190
      clear c190
      (first | rw [c190b0] | (simp only [i64_w, i32_w]; rw [c190b0]) | skip)
      have H' := Aside0.mk H
      clear H
      obtain ⟨Ao191, co191, eo191⟩ := Kd.R_slice HO295.out
      subst eo191
      go_wp2
      go_meet
      case rel => exact ⟨_, (((t292.length : Int) != 4)), (by first | rfl | (simp; done) | (simp [*]; done)), H', ⟨by have := HJ10.out; first | omega | exact Nat.le_refl _⟩, ⟨by (with_reducible repeat (first | apply Kd.R_alloc | apply Kd.R_drewN | apply Kd.R_drew)); exact Kd.R_mono HO295.out (fun _ hk => ⟨hk.1.1.1.1.1.2, ⟨hk.1.1.1.1.2, ⟨hk.1.1.1.2, ⟨hk.1.1.2, ⟨hk.1.2, hk.2⟩⟩⟩⟩⟩)⟩, ⟨by (with_reducible repeat (first | refine zN ?_ _ | refine zD ?_ | refine zA ?_ _)); exact BK266.out⟩, ⟨by (with_reducible repeat (first | refine zN ?_ _ | refine zD ?_ | refine zA ?_ _)); exact BK267.out⟩, ⟨by (with_reducible repeat (first | refine zN ?_ _ | refine zD ?_ | refine zA ?_ _)); exact BK268.out⟩, ⟨by (with_reducible repeat (first | refine zN ?_ _ | refine zD ?_ | refine zA ?_ _)); exact BK278.out⟩, ⟨by (with_reducible repeat (first | refine zN ?_ _ | refine zD ?_ | refine zA ?_ _)); exact BK279.out⟩, ⟨by (with_reducible repeat (first | refine zN ?_ _ | refine zD ?_ | refine zA ?_ _)); exact BK280.out⟩, ⟨by repeat (first | (with_reducible first | exact HB.out | apply yA | apply yN | apply yD | refine below_set ?_ GE266.out | refine below_set ?_ GE267.out | refine below_set ?_ GE268.out | refine below_set ?_ GE278.out | refine below_set ?_ GE279.out | refine below_set ?_ GE280.out) | exact HB.out)⟩⟩
     ·rw [if_neg c190] at H
      have c190b0 : (t293 == 0) = false := beq_eq_false_iff_ne.mpr c190
      have c190b1 : (t293 != 0) = true := bne_iff_ne.mpr c190
      (first | rw [c190b0] | (simp only [i64_w, i32_w]; rw [c190b0]) | skip)
      have H' := Aside0.mk H
      clear H
      go_wp2
      go_meet
      case rel => exact ⟨_, (true), (by first | rfl | (simp; done) | (simp [*]; done)), H', ⟨by have := HJ10.out; first | omega | exact Nat.le_refl _⟩, ⟨by (with_reducible repeat (first | apply Kd.R_alloc | apply Kd.R_drewN | apply Kd.R_drew)); exact Kd.R_mono HO295.out (fun _ hk => ⟨hk.1.1.1.1.1.2, ⟨hk.1.1.1.1.2, ⟨hk.1.1.1.2, ⟨hk.1.1.2, ⟨hk.1.2, hk.2⟩⟩⟩⟩⟩)⟩, ⟨by (with_reducible repeat (first | refine zN ?_ _ | refine zD ?_ | refine zA ?_ _)); exact BK266.out⟩, ⟨by (with_reducible repeat (first | refine zN ?_ _ | refine zD ?_ | refine zA ?_ _)); exact BK267.out⟩, ⟨by (with_reducible repeat (first | refine zN ?_ _ | refine zD ?_ | refine zA ?_ _)); exact BK268.out⟩, ⟨by (with_reducible repeat (first | refine zN ?_ _ | refine zD ?_ | refine zA ?_ _)); exact BK278.out⟩, ⟨by (with_reducible repeat (first | refine zN ?_ _ | refine zD ?_ | refine zA ?_ _)); exact BK279.out⟩, ⟨by (with_reducible repeat (first | refine zN ?_ _ | refine zD ?_ | refine zA ?_ _)); exact BK280.out⟩, ⟨by repeat (first | (with_reducible first | exact HB.out | apply yA | apply yN | apply yD | refine below_set ?_ GE266.out | refine below_set ?_ GE267.out | refine below_set ?_ GE268.out | refine below_set ?_ GE278.out | refine below_set ?_ GE279.out | refine below_set ?_ GE280.out) | exact HB.out)⟩⟩
    case rest =>
     clear HC170
     try clear c1
     try clear c2
     try clear p2
     try clear c3
     try clear c4
     try clear c5
     try clear c6
     try clear p6
     try clear c7
     try clear c8
     try clear c9
     try clear c10
     try clear c11
     try clear c12
     try clear c13
     try clear c14
     try clear c15
     try clear c16
     try clear c17
     try clear c18
     try clear c19
     try clear c20
     try clear c32
     try clear c33
     try clear c34
     try clear c35
     try clear c36
     try clear c38
     try clear c39
     try clear c40
     try clear c41
     try clear c48
     try clear c49
     try clear c50
     try clear c56
     try clear c57
     try clear c58
     try clear c59
     try clear c60
     try clear c60b0
     try clear c60b1
     try clear c61
     try clear c61b0
     try clear c61b1
     try clear c61b2
     try clear c62
     try clear c63
     try clear c64
     try clear p64
     try clear c65
     try clear c66
     try clear c68
     try clear c69
     try clear c70
     try clear c71
     try clear c73
     try clear c73b0
     try clear c74
     try clear c74b0
     try clear c75
     try clear c75b0
     try clear c76
     try clear c77
     try clear c78
     try clear c79
     try clear c80
     try clear c82
     try clear c83
     try clear c84
     try clear c85
     try clear c87
     try clear c87b0
     try clear c88
     try clear c89
     try clear c90
     try clear c91
     try clear c92
     try clear c94
     try clear c95
     try clear c96
     try clear c97
     try clear c99
     try clear c100
     try clear c101
     try clear c102
     try clear c103
     try clear c105
     try clear c106
     try clear c107
     try clear c108
     try clear c110
     try clear c110b0
     try clear c111
     try clear c112
     try clear c113
     try clear c114
     try clear c115
     try clear c117
     try clear c118
     try clear c119
     try clear c120
     try clear c122
     try clear c123
     try clear c124
     try clear c125
     try clear c126
     try clear c128
     try clear c129
     try clear c130
     try clear c131
     try clear c133
     try clear c133b0
     try clear c134
     try clear c134b0
     try clear c135
     try clear c136
     try clear c137
     try clear c138
     try clear c139
     try clear c141
     try clear c142
     try clear c143
     try clear c144
     try clear c146
     try clear c147
     try clear c148
     try clear c149
     try clear c150
     try clear c152
     try clear c153
     try clear c154
     try clear c155
     try clear c157
     try clear c158
     try clear c159
     try clear c160
     try clear c161
     try clear c163
     try clear c164
     try clear c165
     try clear c166
     try clear c168
     try clear c171
     try clear c172
     try clear c173
     try clear c174
     try clear c175
     try clear c177
     try clear c178
     try clear c179
     try clear c180
     try clear c182
     try clear c183
     try clear c184
     try clear c190
     try clear c190b0
     try clear c190b1
     try clear hcz104_0
     try clear hcz104_1
     try clear hcz104_2
     try clear hcz109_0
     try clear hcz109_1
     try clear hcz109_2
     try clear hcz116_0
     try clear hcz116_1
     try clear hcz116_2
     try clear hcz121_0
     try clear hcz121_1
     try clear hcz121_2
     try clear hcz127_0
     try clear hcz127_1
     try clear hcz127_2
     try clear hcz132_0
     try clear hcz132_1
     try clear hcz132_2
     try clear hcz140_0
     try clear hcz140_1
     try clear hcz140_2
     try clear hcz145_0
     try clear hcz145_1
     try clear hcz145_2
     try clear hcz151_0
     try clear hcz151_1
     try clear hcz151_2
     try clear hcz156_0
     try clear hcz156_1
     try clear hcz156_2
     try clear hcz162_0
     try clear hcz162_1
     try clear hcz162_2
     try clear hcz167_0
     try clear hcz167_1
     try clear hcz167_2
     try clear hcz176_0
     try clear hcz176_1
     try clear hcz176_2
     try clear hcz181_0
     try clear hcz181_1
     try clear hcz181_2
     try clear hcz185_0
     try clear hcz185_1
     try clear hcz185_2
     try clear hcz37_0
     try clear hcz37_1
     try clear hcz37_2
     try clear hcz42_0
     try clear hcz42_1
     try clear hcz42_2
     try clear hcz44_0
     try clear hcz44_1
     try clear hcz44_2
     try clear hcz45_0
     try clear hcz45_1
     try clear hcz45_2
     try clear hcz47_0
     try clear hcz47_1
     try clear hcz47_2
     try clear hcz51_0
     try clear hcz51_1
     try clear hcz51_2
     try clear hcz53_0
     try clear hcz53_1
     try clear hcz53_2
     try clear hcz54_0
     try clear hcz54_1
     try clear hcz54_2
     try clear hcz67_0
     try clear hcz67_1
     try clear hcz67_2
     try clear hcz72_0
     try clear hcz72_1
     try clear hcz72_2
     try clear hcz81_0
     try clear hcz81_1
     try clear hcz81_2
     try clear hcz86_0
     try clear hcz86_1
     try clear hcz86_2
     try clear hcz93_0
     try clear hcz93_1
     try clear hcz93_2
     try clear hcz98_0
     try clear hcz98_1
     try clear hcz98_2
     try clear hfz104_0
     try clear hfz104_1
     try clear hfz104_2
     try clear hfz109_0
     try clear hfz109_1
     try clear hfz109_2
     try clear hfz116_0
     try clear hfz116_1
     try clear hfz116_2
     try clear hfz121_0
     try clear hfz121_1
     try clear hfz121_2
     try clear hfz127_0
     try clear hfz127_1
     try clear hfz127_2
     try clear hfz132_0
     try clear hfz132_1
     try clear hfz132_2
     try clear hfz140_0
     try clear hfz140_1
     try clear hfz140_2
     try clear hfz145_0
     try clear hfz145_1
     try clear hfz145_2
     try clear hfz151_0
     try clear hfz151_1
     try clear hfz151_2
     try clear hfz156_0
     try clear hfz156_1
     try clear hfz156_2
     try clear hfz162_0
     try clear hfz162_1
     try clear hfz162_2
     try clear hfz167_0
     try clear hfz167_1
     try clear hfz167_2
     try clear hfz176_0
     try clear hfz176_1
     try clear hfz176_2
     try clear hfz181_0
     try clear hfz181_1
     try clear hfz181_2
     try clear hfz185_0
     try clear hfz185_1
     try clear hfz185_2
     try clear hfz37_0
     try clear hfz37_1
     try clear hfz37_2
     try clear hfz42_0
     try clear hfz42_1
     try clear hfz42_2
     try clear hfz44_0
     try clear hfz44_1
     try clear hfz44_2
     try clear hfz45_0
     try clear hfz45_1
     try clear hfz45_2
     try clear hfz47_0
     try clear hfz47_1
     try clear hfz47_2
     try clear hfz51_0
     try clear hfz51_1
     try clear hfz51_2
     try clear hfz53_0
     try clear hfz53_1
     try clear hfz53_2
     try clear hfz54_0
     try clear hfz54_1
     try clear hfz54_2
     try clear hfz67_0
     try clear hfz67_1
     try clear hfz67_2
     try clear hfz72_0
     try clear hfz72_1
     try clear hfz72_2
     try clear hfz81_0
     try clear hfz81_1
     try clear hfz81_2
     try clear hfz86_0
     try clear hfz86_1
     try clear hfz86_2
     try clear hfz93_0
     try clear hfz93_1
     try clear hfz93_2
     try clear hfz98_0
     try clear hfz98_1
     try clear hfz98_2
     try clear p2
     try clear p6
     try clear p64
     obtain ⟨kq, x120_169, rfl, HA, HJ169, HO_18, BK266, BK267, BK268, BK278, BK279, BK280, HB⟩ := hcut
     cases kq with
     | zero => exact absurd HA.out (by simp [tacticianlaw01_ValueOrder.j1])
     | succ kj169 =>
      have H := HA.out
      clear HA
      simp only [tacticianlaw01_ValueOrder.j1] at H
      by_cases c192 : x120_169 = true
      ·subst c192
       have H1 : (some false) = some r := by rw [if_pos rfl] at H; exact H
       clear H
       have H := H1
       clear H1
       exact absurd ((Option.some.inj H).trans hr_.out) (by decide)
      ·replace c192 := Bool.eq_false_iff.mpr c192
       subst c192
       have H1 : (tacticianlaw01_ValueOrder.l0 kj169 t292 1) = some r := by rw [if_neg (show ¬ (false = true) by decide)] at H; exact H
       clear H
       have H := H1
       clear H1
       have H' := Aside0.mk H
       clear H
       go_wp2
       go_loopg [20] kj169 (fun kq v20 w' => ∃ (x20_3 : Int), v20 = .int .i64 x20_3 ∧ Aside0 (tacticianlaw01_ValueOrder.l0 kq t292 x20_3 = some r) ∧ Aside0 (kq ≤ kj169) ∧ Aside0 (Kd.R k25 25 w' w.heap.size (fun k_ => k_ ≠ gb266 ∧ k_ ≠ gb267 ∧ k_ ≠ gb268 ∧ k_ ≠ gb278 ∧ k_ ≠ gb279 ∧ k_ ≠ gb280) v294 t292) ∧ Aside0 (w'.heap[gb266]? = some (.cells #[.int .i64 a0_0, .int .i64 a0_1, .string a0_2] 25 (0, 0))) ∧ Aside0 (w'.heap[gb267]? = some (.cells #[.int .i64 a1_0, .int .i64 a1_1, .string a1_2] 25 (0, 0))) ∧ Aside0 (w'.heap[gb268]? = some (.cells #[.int .i64 a2_0, .int .i64 a2_1, .string a2_2] 25 (0, 0))) ∧ Aside0 (w'.heap[gb278]? = some (.cells #[.int .i64 t269, .int .i64 t270, .string t271] 25 (0, 0))) ∧ Aside0 (w'.heap[gb279]? = some (.cells #[.int .i64 t272, .int .i64 t273, .string t274] 25 (0, 0))) ∧ Aside0 (w'.heap[gb280]? = some (.cells #[.int .i64 t275, .int .i64 t276, .string t277] 25 (0, 0))) ∧ Aside0 (Below w.heap.size w w'))
       case atStart => exact ⟨(1), (by first | rfl | (simp; done) | (simp [*]; done)), H', ⟨Nat.le_refl _⟩, ⟨by (with_reducible repeat (first | apply Kd.R_alloc | apply Kd.R_drewN | apply Kd.R_drew)); exact HO_18.out⟩, ⟨by (with_reducible repeat (first | refine zN ?_ _ | refine zD ?_ | refine zA ?_ _)); exact BK266.out⟩, ⟨by (with_reducible repeat (first | refine zN ?_ _ | refine zD ?_ | refine zA ?_ _)); exact BK267.out⟩, ⟨by (with_reducible repeat (first | refine zN ?_ _ | refine zD ?_ | refine zA ?_ _)); exact BK268.out⟩, ⟨by (with_reducible repeat (first | refine zN ?_ _ | refine zD ?_ | refine zA ?_ _)); exact BK278.out⟩, ⟨by (with_reducible repeat (first | refine zN ?_ _ | refine zD ?_ | refine zA ?_ _)); exact BK279.out⟩, ⟨by (with_reducible repeat (first | refine zN ?_ _ | refine zD ?_ | refine zA ?_ _)); exact BK280.out⟩, ⟨by repeat (first | (with_reducible first | exact HB.out | apply yA | apply yN | apply yD | refine below_set ?_ GE266.out | refine below_set ?_ GE267.out | refine below_set ?_ GE268.out | refine below_set ?_ GE278.out | refine below_set ?_ GE279.out | refine below_set ?_ GE280.out) | exact HB.out)⟩⟩
       case round =>
        clear H'
        try clear c1
        try clear c2
        try clear p2
        try clear c3
        try clear c4
        try clear c5
        try clear c6
        try clear p6
        try clear c7
        try clear c8
        try clear c9
        try clear c10
        try clear c11
        try clear c12
        try clear c13
        try clear c14
        try clear c15
        try clear c16
        try clear c17
        try clear c18
        try clear c19
        try clear c20
        try clear c32
        try clear c33
        try clear c34
        try clear c35
        try clear c36
        try clear c38
        try clear c39
        try clear c40
        try clear c41
        try clear c48
        try clear c49
        try clear c50
        try clear c56
        try clear c57
        try clear c58
        try clear c59
        try clear c60
        try clear c60b0
        try clear c60b1
        try clear c61
        try clear c61b0
        try clear c61b1
        try clear c61b2
        try clear c62
        try clear c63
        try clear c64
        try clear p64
        try clear c65
        try clear c66
        try clear c68
        try clear c69
        try clear c70
        try clear c71
        try clear c73
        try clear c73b0
        try clear c74
        try clear c74b0
        try clear c75
        try clear c75b0
        try clear c76
        try clear c77
        try clear c78
        try clear c79
        try clear c80
        try clear c82
        try clear c83
        try clear c84
        try clear c85
        try clear c87
        try clear c87b0
        try clear c88
        try clear c89
        try clear c90
        try clear c91
        try clear c92
        try clear c94
        try clear c95
        try clear c96
        try clear c97
        try clear c99
        try clear c100
        try clear c101
        try clear c102
        try clear c103
        try clear c105
        try clear c106
        try clear c107
        try clear c108
        try clear c110
        try clear c110b0
        try clear c111
        try clear c112
        try clear c113
        try clear c114
        try clear c115
        try clear c117
        try clear c118
        try clear c119
        try clear c120
        try clear c122
        try clear c123
        try clear c124
        try clear c125
        try clear c126
        try clear c128
        try clear c129
        try clear c130
        try clear c131
        try clear c133
        try clear c133b0
        try clear c134
        try clear c134b0
        try clear c135
        try clear c136
        try clear c137
        try clear c138
        try clear c139
        try clear c141
        try clear c142
        try clear c143
        try clear c144
        try clear c146
        try clear c147
        try clear c148
        try clear c149
        try clear c150
        try clear c152
        try clear c153
        try clear c154
        try clear c155
        try clear c157
        try clear c158
        try clear c159
        try clear c160
        try clear c161
        try clear c163
        try clear c164
        try clear c165
        try clear c166
        try clear c168
        try clear c171
        try clear c172
        try clear c173
        try clear c174
        try clear c175
        try clear c177
        try clear c178
        try clear c179
        try clear c180
        try clear c182
        try clear c183
        try clear c184
        try clear c190
        try clear c190b0
        try clear c190b1
        try clear c192
        try clear hcz104_0
        try clear hcz104_1
        try clear hcz104_2
        try clear hcz109_0
        try clear hcz109_1
        try clear hcz109_2
        try clear hcz116_0
        try clear hcz116_1
        try clear hcz116_2
        try clear hcz121_0
        try clear hcz121_1
        try clear hcz121_2
        try clear hcz127_0
        try clear hcz127_1
        try clear hcz127_2
        try clear hcz132_0
        try clear hcz132_1
        try clear hcz132_2
        try clear hcz140_0
        try clear hcz140_1
        try clear hcz140_2
        try clear hcz145_0
        try clear hcz145_1
        try clear hcz145_2
        try clear hcz151_0
        try clear hcz151_1
        try clear hcz151_2
        try clear hcz156_0
        try clear hcz156_1
        try clear hcz156_2
        try clear hcz162_0
        try clear hcz162_1
        try clear hcz162_2
        try clear hcz167_0
        try clear hcz167_1
        try clear hcz167_2
        try clear hcz176_0
        try clear hcz176_1
        try clear hcz176_2
        try clear hcz181_0
        try clear hcz181_1
        try clear hcz181_2
        try clear hcz185_0
        try clear hcz185_1
        try clear hcz185_2
        try clear hcz37_0
        try clear hcz37_1
        try clear hcz37_2
        try clear hcz42_0
        try clear hcz42_1
        try clear hcz42_2
        try clear hcz44_0
        try clear hcz44_1
        try clear hcz44_2
        try clear hcz45_0
        try clear hcz45_1
        try clear hcz45_2
        try clear hcz47_0
        try clear hcz47_1
        try clear hcz47_2
        try clear hcz51_0
        try clear hcz51_1
        try clear hcz51_2
        try clear hcz53_0
        try clear hcz53_1
        try clear hcz53_2
        try clear hcz54_0
        try clear hcz54_1
        try clear hcz54_2
        try clear hcz67_0
        try clear hcz67_1
        try clear hcz67_2
        try clear hcz72_0
        try clear hcz72_1
        try clear hcz72_2
        try clear hcz81_0
        try clear hcz81_1
        try clear hcz81_2
        try clear hcz86_0
        try clear hcz86_1
        try clear hcz86_2
        try clear hcz93_0
        try clear hcz93_1
        try clear hcz93_2
        try clear hcz98_0
        try clear hcz98_1
        try clear hcz98_2
        try clear hfz104_0
        try clear hfz104_1
        try clear hfz104_2
        try clear hfz109_0
        try clear hfz109_1
        try clear hfz109_2
        try clear hfz116_0
        try clear hfz116_1
        try clear hfz116_2
        try clear hfz121_0
        try clear hfz121_1
        try clear hfz121_2
        try clear hfz127_0
        try clear hfz127_1
        try clear hfz127_2
        try clear hfz132_0
        try clear hfz132_1
        try clear hfz132_2
        try clear hfz140_0
        try clear hfz140_1
        try clear hfz140_2
        try clear hfz145_0
        try clear hfz145_1
        try clear hfz145_2
        try clear hfz151_0
        try clear hfz151_1
        try clear hfz151_2
        try clear hfz156_0
        try clear hfz156_1
        try clear hfz156_2
        try clear hfz162_0
        try clear hfz162_1
        try clear hfz162_2
        try clear hfz167_0
        try clear hfz167_1
        try clear hfz167_2
        try clear hfz176_0
        try clear hfz176_1
        try clear hfz176_2
        try clear hfz181_0
        try clear hfz181_1
        try clear hfz181_2
        try clear hfz185_0
        try clear hfz185_1
        try clear hfz185_2
        try clear hfz37_0
        try clear hfz37_1
        try clear hfz37_2
        try clear hfz42_0
        try clear hfz42_1
        try clear hfz42_2
        try clear hfz44_0
        try clear hfz44_1
        try clear hfz44_2
        try clear hfz45_0
        try clear hfz45_1
        try clear hfz45_2
        try clear hfz47_0
        try clear hfz47_1
        try clear hfz47_2
        try clear hfz51_0
        try clear hfz51_1
        try clear hfz51_2
        try clear hfz53_0
        try clear hfz53_1
        try clear hfz53_2
        try clear hfz54_0
        try clear hfz54_1
        try clear hfz54_2
        try clear hfz67_0
        try clear hfz67_1
        try clear hfz67_2
        try clear hfz72_0
        try clear hfz72_1
        try clear hfz72_2
        try clear hfz81_0
        try clear hfz81_1
        try clear hfz81_2
        try clear hfz86_0
        try clear hfz86_1
        try clear hfz86_2
        try clear hfz93_0
        try clear hfz93_1
        try clear hfz93_2
        try clear hfz98_0
        try clear hfz98_1
        try clear hfz98_2
        try clear p2
        try clear p6
        try clear p64
        obtain ⟨x20_3, rfl, HA, HK3, HO_18, BK266, BK267, BK268, BK278, BK279, BK280, HB⟩ := hrel
        cases gk with
        | zero => exact absurd HA.out (by simp [tacticianlaw01_ValueOrder.l0])
        | succ k3 =>
         have H := HA.out
         clear HA
         simp only [tacticianlaw01_ValueOrder.l0] at H
         by_cases c193 : x20_3 < 4
         ·rw [if_pos c193] at H
          have c193b0 : decide (x20_3 < 4) = true := decide_eq_true c193
          clear c193
          obtain ⟨ji194, hji194⟩ : ∃ j_ : Int, (wrap64 (x20_3 - 1)) = j_ := ⟨_, rfl⟩
          replace H : (if 0 ≤ (ji194) then (if (ji194) < (t292.length : Int) then (if 0 ≤ x20_3 then (if x20_3 < (t292.length : Int) then ((tacticianlaw01_less.f ((rd_T25 t292 (ji194)).f0) ((rd_T25 t292 (ji194)).f1) ((rd_T25 t292 (ji194)).f2) ((rd_T25 t292 x20_3).f0) ((rd_T25 t292 x20_3).f1) ((rd_T25 t292 x20_3).f2)).bind fun bt298 => (if bt298.2 = true then (if bt298.1 > 0 then (some false) else (tacticianlaw01_ValueOrder.l0 k3 t292 (wrap64 (x20_3 + 1)))) else (some false))) else (none)) else (none)) else (none)) else (none)) = some r := by first | (rw [hji194] at H; exact H) | (simp only [hji194] at H ⊢; exact H)
          have hji194w : (IntKind.i64.wrap (x20_3 - 1)) = ji194 := (i64_w _).trans hji194
          by_cases c195 : 0 ≤ (ji194)
          ·rw [if_pos c195] at H
           have c195b0 : decide (0 ≤ (ji194)) = true := decide_eq_true c195
           clear c195
           by_cases c196 : (ji194) < (t292.length : Int)
           ·rw [if_pos c196] at H
            have c196b0 : decide ((ji194) < (t292.length : Int)) = true := decide_eq_true c196
            clear c196
            by_cases c197 : 0 ≤ x20_3
            ·rw [if_pos c197] at H
             have c197b0 : decide (0 ≤ x20_3) = true := decide_eq_true c197
             clear c197
             by_cases c198 : x20_3 < (t292.length : Int)
             ·rw [if_pos c198] at H
              have c198b0 : decide (x20_3 < (t292.length : Int)) = true := decide_eq_true c198
              clear c198
              replace H := Option.bind_eq_some_iff.mp H
              obtain ⟨⟨t298, t299⟩, A1990, H⟩ := H
              replace H : (if t299 = true then (if t298 > 0 then (some false) else (tacticianlaw01_ValueOrder.l0 k3 t292 (wrap64 (x20_3 + 1)))) else (some false)) = some r := H
              have A199 := Aside0.mk A1990
              clear A1990
              by_cases c200 : t299 = true
              ·subst c200
               have H1 : (if t298 > 0 then (some false) else (tacticianlaw01_ValueOrder.l0 k3 t292 (wrap64 (x20_3 + 1)))) = some r := by rw [if_pos rfl] at H; exact H
               clear H
               have H := H1
               clear H1
               by_cases c201 : t298 > 0
               ·rw [if_pos c201] at H
                have c201b0 : decide (0 < t298) = true := decide_eq_true c201
                clear c201
                exact absurd ((Option.some.inj H).trans hr_.out) (by decide)
               ·rw [if_neg c201] at H
                have c201b0 : decide (0 < t298) = false := decide_eq_false c201
                clear c201
                have H' := Aside0.mk H
                clear H
                try go_wp2
                have n0_ := Aside0.mk (Kd.R_drew HO_18.out)
                have n1_ := Aside0.mk (blk_drew BK266.out)
                have n2_ := Aside0.mk (blk_drew BK267.out)
                have n3_ := Aside0.mk (blk_drew BK268.out)
                have n4_ := Aside0.mk (blk_drew BK278.out)
                have n5_ := Aside0.mk (blk_drew BK279.out)
                have n6_ := Aside0.mk (blk_drew BK280.out)
                have n7_ := Aside0.mk (below_drew1 HB.out)
                clear HO_18
                clear BK266
                clear BK267
                clear BK268
                clear BK278
                clear BK279
                clear BK280
                clear HB
                have HO_18 := n0_
                have BK266 := n1_
                have BK267 := n2_
                have BK268 := n3_
                have BK278 := n4_
                have BK279 := n5_
                have BK280 := n6_
                have HB := n7_
                clear n0_ n1_ n2_ n3_ n4_ n5_ n6_ n7_
                obtain ⟨Ao203, co203, eo203⟩ := Kd.R_slice HO_18.out
                (first | subst eo203 | (injection eo203 with f1_ f2_ f3_; have f4_ := f1_.symm; have f5_ := f3_.symm; clear f1_ f2_ f3_; subst f4_; subst f5_))
                have p296 : 0 ≤ ((ji194) : Int) := of_decide_eq_true (by first | (with_reducible assumption) | assumption)
                have q296 : (ji194) < (t292.length : Int) := of_decide_eq_true (by first | (with_reducible assumption) | assumption)
                obtain ⟨ad296, e296, hx296_0, hx296_1, hx296_2⟩ := at_T25 (Kd.R_reads' HO_18.out).2.2 (ji194) p296 q296
                cases e296
                replace p296 := eq_true p296
                replace q296 := eq_true q296
                have p297 : 0 ≤ (x20_3 : Int) := of_decide_eq_true (by first | (with_reducible assumption) | assumption)
                have q297 : x20_3 < (t292.length : Int) := of_decide_eq_true (by first | (with_reducible assumption) | assumption)
                obtain ⟨ad297, e297, hx297_0, hx297_1, hx297_2⟩ := at_T25 (Kd.R_reads' HO_18.out).2.2 x20_3 p297 q297
                obtain rfl : ad296 = ad297 := (by injection e297)
                replace p297 := eq_true p297
                replace q297 := eq_true q297
                refine start_ (n := 15) (S := fun w' => w'.cell? (ad296.add (((ji194)).toNat * 3)) = some (.int .i64 ((rd_T25 t292 (ji194)).f0)) ∧ w'.cell? ⟨(ad296.add (((ji194)).toNat * 3)).block, (ad296.add (((ji194)).toNat * 3)).off + 1, none⟩ = some (.int .i64 ((rd_T25 t292 (ji194)).f1)) ∧ w'.cell? ⟨(ad296.add (((ji194)).toNat * 3)).block, (ad296.add (((ji194)).toNat * 3)).off + 2, none⟩ = some (.string ((rd_T25 t292 (ji194)).f2)) ∧ w'.cell? (ad296.add ((x20_3).toNat * 3)) = some (.int .i64 ((rd_T25 t292 x20_3).f0)) ∧ w'.cell? ⟨(ad296.add ((x20_3).toNat * 3)).block, (ad296.add ((x20_3).toNat * 3)).off + 1, none⟩ = some (.int .i64 ((rd_T25 t292 x20_3).f1)) ∧ w'.cell? ⟨(ad296.add ((x20_3).toNat * 3)).block, (ad296.add ((x20_3).toNat * 3)).off + 2, none⟩ = some (.string ((rd_T25 t292 x20_3).f2))) (ds := []) #[false, false, false, false, false, false, false, false, false, false, false, false, false, false, false] (by kernel_rfl) rfl rfl ⟨hx296_0, hx296_1, hx296_2, hx297_0, hx297_1, hx297_2⟩ (fun hHeld => ?_); refine with_tabW tacticianlaw01_ValueOrder.tab14 tacticianlaw01_ValueOrder.bits14 (fun HT_ HW_ => ?_)
                generalize wr.drew = w202 at HO_18 BK266 BK267 BK268 BK278 BK279 BK280 HB hx296_0 hx296_1 hx296_2 hx297_0 hx297_1 hx297_2 hHeld ⊢
                refine pure_ (i := 0) (N := some 126) (v := ?_) (a' := ?_) #[true, false, false, false, false, false, false, false, false, false, false, false, false, false, false] rfl rfl (any_of HT_.out (by kernel_rfl)) (fun _ _ _ h => h) (Or.inl ⟨by rfl, ?_⟩) ?_ ?_
                rotate_left
                ·intro w'
                 go_simp
                 with_reducible rfl
                rotate_left
                ·simp only [Act.put, List.setIfInBounds_toArray, List.set_cons_zero, List.set_cons_succ, i64_w, i32_w]
                 rfl
                refine pure_ (i := 1) (N := some 127) (v := ?_) (a' := ?_) #[true, true, false, false, false, false, false, false, false, false, false, false, false, false, false] rfl rfl (any_of HT_.out (by kernel_rfl)) (fun _ _ _ h => h) (Or.inl ⟨by rfl, ?_⟩) ?_ ?_
                rotate_left
                ·intro w'
                 go_simp
                 with_reducible rfl
                rotate_left
                ·simp only [Act.put, List.setIfInBounds_toArray, List.set_cons_zero, List.set_cons_succ, i64_w, i32_w]
                 rfl
                refine pure_ (i := 2) (N := some 128) (v := ?_) (a' := ?_) #[true, true, true, false, false, false, false, false, false, false, false, false, false, false, false] rfl rfl (any_of HT_.out (by kernel_rfl)) (fun _ _ _ h => h) (Or.inl ⟨by rfl, ?_⟩) ?_ ?_
                rotate_left
                ·intro w'
                 go_simp
                 with_reducible rfl
                rotate_left
                ·simp only [Act.put, List.setIfInBounds_toArray, List.set_cons_zero, List.set_cons_succ, i64_w, i32_w]
                 rfl
                refine pure_ (i := 3) (N := some 129) (v := ?_) (a' := ?_) #[true, true, true, true, false, false, false, false, false, false, false, false, false, false, false] rfl rfl (any_of HT_.out (by kernel_rfl)) (fun _ _ _ h => h) (Or.inl ⟨by rfl, ?_⟩) ?_ ?_
                rotate_left
                ·intro w'
                 go_simp
                 with_reducible rfl
                rotate_left
                ·simp only [Act.put, List.setIfInBounds_toArray, List.set_cons_zero, List.set_cons_succ, i64_w, i32_w]
                 rfl
                refine pure_ (i := 5) (N := some 131) (v := ?_) (a' := ?_) #[true, true, true, true, false, true, false, false, false, false, false, false, false, false, false] rfl rfl (any_of HT_.out (by kernel_rfl)) (fun _ _ _ h => h) (Or.inl ⟨by rfl, ?_⟩) ?_ ?_
                rotate_left
                ·intro w'
                 go_simp
                 with_reducible rfl
                rotate_left
                ·simp only [Act.put, List.setIfInBounds_toArray, List.set_cons_zero, List.set_cons_succ, i64_w, i32_w]
                 rfl
                refine pure_ (i := 6) (N := some 132) (v := ?_) (a' := ?_) #[true, true, true, true, false, true, true, false, false, false, false, false, false, false, false] rfl rfl (any_of HT_.out (by kernel_rfl)) (fun _ _ _ h => h) (Or.inl ⟨by rfl, ?_⟩) ?_ ?_
                rotate_left
                ·intro w'
                 go_simp
                 with_reducible rfl
                rotate_left
                ·simp only [Act.put, List.setIfInBounds_toArray, List.set_cons_zero, List.set_cons_succ, i64_w, i32_w]
                 rfl
                refine pure_ (i := 7) (N := some 133) (v := ?_) (a' := ?_) #[true, true, true, true, false, true, true, true, false, false, false, false, false, false, false] rfl rfl (any_of HT_.out (by kernel_rfl)) (fun _ _ _ h => h) (Or.inl ⟨by rfl, ?_⟩) ?_ ?_
                rotate_left
                ·intro w'
                 go_simp
                 with_reducible rfl
                rotate_left
                ·simp only [Act.put, List.setIfInBounds_toArray, List.set_cons_zero, List.set_cons_succ, i64_w, i32_w]
                 rfl
                refine take_ (i := 4) (N := some 130) (v := ?_) (a' := ?_) #[true, true, true, true, true, true, true, true, false, false, false, false, false, false, false] rfl rfl (take_ofW HT_.out HW_.out (by kernel_rfl)) (fun _ _ _ h => h) (Or.inl ⟨by rfl, ?_⟩) hHeld ?_ ?_
                rotate_left
                ·rintro w' ⟨s0, s1, s2, s3, s4, s5⟩
                 go_simp
                 with_reducible rfl
                rotate_left
                ·simp only [Act.put, List.setIfInBounds_toArray, List.set_cons_zero, List.set_cons_succ, i64_w, i32_w]
                 rfl
                refine take_ (i := 8) (N := some 134) (v := ?_) (a' := ?_) #[true, true, true, true, true, true, true, true, true, false, false, false, false, false, false] rfl rfl (take_ofW HT_.out HW_.out (by kernel_rfl)) (fun _ _ _ h => h) (Or.inl ⟨by rfl, ?_⟩) hHeld ?_ ?_
                rotate_left
                ·rintro w' ⟨s0, s1, s2, s3, s4, s5⟩
                 go_simp
                 with_reducible rfl
                rotate_left
                ·simp only [Act.put, List.setIfInBounds_toArray, List.set_cons_zero, List.set_cons_succ, i64_w, i32_w]
                 rfl
                refine one_ (i := 9) (N := some 135) #[true, true, true, true, true, true, true, true, true, true, false, false, false, false, false] rfl rfl (one_of HT_.out (by kernel_rfl)) (by decide) (fun K hK => ?_)
                refine goes_ Tryz.func19 (by kernel_rfl) rfl #[.agg #[.int .i64 ((rd_T25 t292 (ji194)).f0), .int .i64 ((rd_T25 t292 (ji194)).f1), .string ((rd_T25 t292 (ji194)).f2)], .agg #[.int .i64 ((rd_T25 t292 x20_3).f0), .int .i64 ((rd_T25 t292 x20_3).f1), .string ((rd_T25 t292 x20_3).f2)]] (by rfl) rfl rfl (by (try simp only [List.map_toArray, List.map_cons, List.map_nil]); first | done | (simp only [hji194]; rfl) | rfl | (simp only [List.length_drop, List.length_take]; rfl)) ?_
                with_reducible refine (tacticianlaw01_less.calls ((rd_T25 t292 (ji194)).f0) ((rd_T25 t292 (ji194)).f1) ((rd_T25 t292 (ji194)).f2) ((rd_T25 t292 x20_3).f0) ((rd_T25 t292 x20_3).f1) ((rd_T25 t292 x20_3).f2) t298 true _ A199.out).mono ?_
                rintro e w204 ⟨rfl, hb⟩
                have HS0_ := (hb.cell (World.block_lt_of_cell? _ _ (hHeld.1))).trans (hHeld.1)
                have HS1_ := (hb.cell (World.block_lt_of_cell? _ _ (hHeld.2.1))).trans (hHeld.2.1)
                have HS2_ := (hb.cell (World.block_lt_of_cell? _ _ (hHeld.2.2.1))).trans (hHeld.2.2.1)
                have HS3_ := (hb.cell (World.block_lt_of_cell? _ _ (hHeld.2.2.2.1))).trans (hHeld.2.2.2.1)
                have HS4_ := (hb.cell (World.block_lt_of_cell? _ _ (hHeld.2.2.2.2.1))).trans (hHeld.2.2.2.2.1)
                have HS5_ := (hb.cell (World.block_lt_of_cell? _ _ (hHeld.2.2.2.2.2))).trans (hHeld.2.2.2.2.2)
                refine ⟨_, rfl, ?_⟩
                have n0_ := Aside0.mk (Kd.R_below (by (with_reducible repeat (first | apply Kd.R_alloc | apply Kd.R_drewN | apply Kd.R_drew)); exact HO_18.out) hb)
                have n1_ := Aside0.mk (blk_below (g := gb266) (o := .cells #[.int .i64 a0_0, .int .i64 a0_1, .string a0_2] 25 (0, 0)) (by (with_reducible repeat (first | refine zN ?_ _ | refine zD ?_ | refine zA ?_ _)); exact BK266.out) hb)
                have n2_ := Aside0.mk (blk_below (g := gb267) (o := .cells #[.int .i64 a1_0, .int .i64 a1_1, .string a1_2] 25 (0, 0)) (by (with_reducible repeat (first | refine zN ?_ _ | refine zD ?_ | refine zA ?_ _)); exact BK267.out) hb)
                have n3_ := Aside0.mk (blk_below (g := gb268) (o := .cells #[.int .i64 a2_0, .int .i64 a2_1, .string a2_2] 25 (0, 0)) (by (with_reducible repeat (first | refine zN ?_ _ | refine zD ?_ | refine zA ?_ _)); exact BK268.out) hb)
                have n4_ := Aside0.mk (blk_below (g := gb278) (o := .cells #[.int .i64 t269, .int .i64 t270, .string t271] 25 (0, 0)) (by (with_reducible repeat (first | refine zN ?_ _ | refine zD ?_ | refine zA ?_ _)); exact BK278.out) hb)
                have n5_ := Aside0.mk (blk_below (g := gb279) (o := .cells #[.int .i64 t272, .int .i64 t273, .string t274] 25 (0, 0)) (by (with_reducible repeat (first | refine zN ?_ _ | refine zD ?_ | refine zA ?_ _)); exact BK279.out) hb)
                have n6_ := Aside0.mk (blk_below (g := gb280) (o := .cells #[.int .i64 t275, .int .i64 t276, .string t277] 25 (0, 0)) (by (with_reducible repeat (first | refine zN ?_ _ | refine zD ?_ | refine zA ?_ _)); exact BK280.out) hb)
                have n7_ := Aside0.mk (below_step (by repeat (first | (with_reducible first | exact HB.out | apply yA | apply yN | apply yD | refine below_set ?_ GE266.out | refine below_set ?_ GE267.out | refine below_set ?_ GE268.out | refine below_set ?_ GE278.out | refine below_set ?_ GE279.out | refine below_set ?_ GE280.out) | exact HB.out)) hb)
                clear HO_18
                clear BK266
                clear BK267
                clear BK268
                clear BK278
                clear BK279
                clear BK280
                clear HB
                have HO_18 := n0_
                have BK266 := n1_
                have BK267 := n2_
                have BK268 := n3_
                have BK278 := n4_
                have BK279 := n5_
                have BK280 := n6_
                have HB := n7_
                clear n0_ n1_ n2_ n3_ n4_ n5_ n6_ n7_
                (try clear hb)
                (try clear hb2)
                (try clear hk)
                (try clear hi)
                refine hK.out _ _ ⟨HS0_, HS1_, HS2_, HS3_, HS4_, HS5_⟩ (fun hHeld => ?_)
                clear hK K
                refine norm_ (a' := ?_) ?_ ?_
                rotate_left
                ·show Act.put _ (some 135) _ = _
                 simp only [Act.put, List.setIfInBounds_toArray, List.set_cons_zero, List.set_cons_succ, i64_w, i32_w]
                 rfl
                refine pure_ (i := 10) (N := some 125) (v := ?_) (a' := ?_) #[true, true, true, true, true, true, true, true, true, true, true, false, false, false, false] rfl rfl (any_of HT_.out (by kernel_rfl)) (fun _ _ _ h => h) (Or.inl ⟨by rfl, ?_⟩) ?_ ?_
                rotate_left
                ·intro w'
                 go_simp
                 with_reducible rfl
                rotate_left
                ·simp only [Act.put, List.setIfInBounds_toArray, List.set_cons_zero, List.set_cons_succ, i64_w, i32_w]
                 rfl
                refine pure_ (i := 11) (N := some 136) (v := ?_) (a' := ?_) #[true, true, true, true, true, true, true, true, true, true, true, true, false, false, false] rfl rfl (any_of HT_.out (by kernel_rfl)) (fun _ _ _ h => h) (Or.inl ⟨by rfl, ?_⟩) ?_ ?_
                rotate_left
                ·intro w'
                 go_simp
                 with_reducible rfl
                rotate_left
                ·simp only [Act.put, List.setIfInBounds_toArray, List.set_cons_zero, List.set_cons_succ, i64_w, i32_w]
                 rfl
                refine pure_ (i := 12) (N := some 137) (v := ?_) (a' := ?_) #[true, true, true, true, true, true, true, true, true, true, true, true, true, false, false] rfl rfl (any_of HT_.out (by kernel_rfl)) (fun _ _ _ h => h) (Or.inl ⟨by rfl, ?_⟩) ?_ ?_
                rotate_left
                ·intro w'
                 go_simp
                 with_reducible rfl
                rotate_left
                ·simp only [Act.put, List.setIfInBounds_toArray, List.set_cons_zero, List.set_cons_succ, i64_w, i32_w]
                 rfl
                refine pure_ (i := 13) (N := some 21) (v := ?_) (a' := ?_) #[true, true, true, true, true, true, true, true, true, true, true, true, true, true, false] rfl rfl (any_of HT_.out (by kernel_rfl)) (fun _ _ _ h => h) (Or.inl ⟨by rfl, ?_⟩) ?_ ?_
                rotate_left
                ·intro w'
                 go_simp
                 with_reducible rfl
                rotate_left
                ·simp only [Act.put, List.setIfInBounds_toArray, List.set_cons_zero, List.set_cons_succ, i64_w, i32_w]
                 rfl
                refine pure_ (i := 14) (N := some 22) (v := ?_) (a' := ?_) #[true, true, true, true, true, true, true, true, true, true, true, true, true, true, true] rfl rfl (any_of HT_.out (by kernel_rfl)) (fun _ _ _ h => h) (Or.inl ⟨by rfl, ?_⟩) ?_ ?_
                rotate_left
                ·intro w'
                 go_simp
                 with_reducible rfl
                rotate_left
                ·simp only [Act.put, List.setIfInBounds_toArray, List.set_cons_zero, List.set_cons_succ, i64_w, i32_w]
                 rfl
                refine done_ (done_of HT_.out (by kernel_rfl)) ?_
                try go_wp2
                go_roundg k3
                case measure => have := HJ10.out; have := HJ169.out; have := HK3.out; omega
                case rel => exact ⟨(wrap64 (x20_3 + 1)), (by first | rfl | (simp; done) | (simp [*]; done)), H', ⟨by have := HJ10.out; have := HJ169.out; have := HK3.out; omega⟩, ⟨by (with_reducible repeat (first | apply Kd.R_alloc | apply Kd.R_drewN | apply Kd.R_drew)); exact HO_18.out⟩, ⟨by (with_reducible repeat (first | refine zN ?_ _ | refine zD ?_ | refine zA ?_ _)); exact BK266.out⟩, ⟨by (with_reducible repeat (first | refine zN ?_ _ | refine zD ?_ | refine zA ?_ _)); exact BK267.out⟩, ⟨by (with_reducible repeat (first | refine zN ?_ _ | refine zD ?_ | refine zA ?_ _)); exact BK268.out⟩, ⟨by (with_reducible repeat (first | refine zN ?_ _ | refine zD ?_ | refine zA ?_ _)); exact BK278.out⟩, ⟨by (with_reducible repeat (first | refine zN ?_ _ | refine zD ?_ | refine zA ?_ _)); exact BK279.out⟩, ⟨by (with_reducible repeat (first | refine zN ?_ _ | refine zD ?_ | refine zA ?_ _)); exact BK280.out⟩, ⟨by repeat (first | (with_reducible first | exact HB.out | apply yA | apply yN | apply yD | refine below_set ?_ GE266.out | refine below_set ?_ GE267.out | refine below_set ?_ GE268.out | refine below_set ?_ GE278.out | refine below_set ?_ GE279.out | refine below_set ?_ GE280.out) | exact HB.out)⟩⟩
              ·replace c200 := Bool.eq_false_iff.mpr c200
               subst c200
               have H1 : (some false) = some r := by rw [if_neg (show ¬ (false = true) by decide)] at H; exact H
               clear H
               have H := H1
               clear H1
               exact absurd ((Option.some.inj H).trans hr_.out) (by decide)
             ·rw [if_neg c198] at H
              exact absurd H (by simp)
            ·rw [if_neg c197] at H
             exact absurd H (by simp)
           ·rw [if_neg c196] at H
            exact absurd H (by simp)
          ·rw [if_neg c195] at H
           exact absurd H (by simp)
         ·rw [if_neg c193] at H
          have c193b0 : decide (x20_3 < 4) = false := decide_eq_false c193
          clear c193
          replace H := Option.bind_eq_some_iff.mp H
          obtain ⟨t300, A2050, H⟩ := H
          replace H : (some t300) = some r := H
          have A205 := Aside0.mk A2050
          clear A2050
          obtain rfl := Option.some.inj H
          go_wp2_with (first | ((with_reducible refine gate_callee (f := 15) rfl ?_); refine goesL_ (some 144) rfl rfl Tryz.func15 (by kernel_rfl) rfl #[] rfl (by (try simp only [List.map_toArray, List.map_cons, List.map_nil]); first | done | rfl | (simp only [List.length_drop, List.length_take]; rfl)) ?_; (with_reducible refine (tacticianlaw01_awake.calls  t300 _ ?side1 A205.out).mono ?_); (case side1 => exact Laid.below HLD.out (by repeat (first | (with_reducible first | exact HB.out | apply yA | apply yN | apply yD | refine below_set ?_ GE266.out | refine below_set ?_ GE267.out | refine below_set ?_ GE268.out | refine below_set ?_ GE278.out | refine below_set ?_ GE279.out | refine below_set ?_ GE280.out) | exact HB.out))); rintro e w206 ⟨rfl, hb⟩; refine ⟨_, rfl, ?_⟩; have n0_ := Aside0.mk (Kd.R_below (by (with_reducible repeat (first | apply Kd.R_alloc | apply Kd.R_drewN | apply Kd.R_drew)); exact HO_18.out) hb); have n1_ := Aside0.mk (blk_below (g := gb266) (o := .cells #[.int .i64 a0_0, .int .i64 a0_1, .string a0_2] 25 (0, 0)) (by (with_reducible repeat (first | refine zN ?_ _ | refine zD ?_ | refine zA ?_ _)); exact BK266.out) hb); have n2_ := Aside0.mk (blk_below (g := gb267) (o := .cells #[.int .i64 a1_0, .int .i64 a1_1, .string a1_2] 25 (0, 0)) (by (with_reducible repeat (first | refine zN ?_ _ | refine zD ?_ | refine zA ?_ _)); exact BK267.out) hb); have n3_ := Aside0.mk (blk_below (g := gb268) (o := .cells #[.int .i64 a2_0, .int .i64 a2_1, .string a2_2] 25 (0, 0)) (by (with_reducible repeat (first | refine zN ?_ _ | refine zD ?_ | refine zA ?_ _)); exact BK268.out) hb); have n4_ := Aside0.mk (blk_below (g := gb278) (o := .cells #[.int .i64 t269, .int .i64 t270, .string t271] 25 (0, 0)) (by (with_reducible repeat (first | refine zN ?_ _ | refine zD ?_ | refine zA ?_ _)); exact BK278.out) hb); have n5_ := Aside0.mk (blk_below (g := gb279) (o := .cells #[.int .i64 t272, .int .i64 t273, .string t274] 25 (0, 0)) (by (with_reducible repeat (first | refine zN ?_ _ | refine zD ?_ | refine zA ?_ _)); exact BK279.out) hb); have n6_ := Aside0.mk (blk_below (g := gb280) (o := .cells #[.int .i64 t275, .int .i64 t276, .string t277] 25 (0, 0)) (by (with_reducible repeat (first | refine zN ?_ _ | refine zD ?_ | refine zA ?_ _)); exact BK280.out) hb); have n7_ := Aside0.mk (below_step (by repeat (first | (with_reducible first | exact HB.out | apply yA | apply yN | apply yD | refine below_set ?_ GE266.out | refine below_set ?_ GE267.out | refine below_set ?_ GE268.out | refine below_set ?_ GE278.out | refine below_set ?_ GE279.out | refine below_set ?_ GE280.out) | exact HB.out)) hb); clear HO_18; clear BK266; clear BK267; clear BK268; clear BK278; clear BK279; clear BK280; clear HB; have HO_18 := n0_; have BK266 := n1_; have BK267 := n2_; have BK268 := n3_; have BK278 := n4_; have BK279 := n5_; have BK280 := n6_; have HB := n7_; clear n0_ n1_ n2_ n3_ n4_ n5_ n6_ n7_; (try clear hb); (try clear hb2); (try clear hk); (try clear hi)))
          go_ret
          exact ⟨by first | rfl | (simp [errW_none, errW_some] <;> rfl) | (simp [*, errW_none, errW_some] <;> rfl), by repeat (first | (with_reducible first | exact HB.out | apply yA | apply yN | apply yD | refine below_set ?_ GE266.out | refine below_set ?_ GE267.out | refine below_set ?_ GE268.out | refine below_set ?_ GE278.out | refine below_set ?_ GE279.out | refine below_set ?_ GE280.out) | exact HB.out)⟩

end Go.Proofs.YtinhpbmoiamepaaGreatDoor.Q
